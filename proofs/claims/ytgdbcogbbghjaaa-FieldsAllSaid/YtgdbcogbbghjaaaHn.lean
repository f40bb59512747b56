import Derived.Test.YtgdbcogbbghjaaaHm
namespace Go.Proofs.Ytgdbcogbbghjaaa.Hand
open Go.RowKit Go.Proofs.YtgdbcogbbghjaaaW.PrintWords Go.Proofs.YtgdbcogbbghjaaaW.PrintLast Go.Proofs.YtgdbcogbbghjaaaW.PrintMore Go.Proofs.Ytgdbcogbbghjaaa.Q Go.Proofs.Ytgdbcogbbghjaaa.RF
set_option linter.unusedVariables false
set_option linter.unusedSimpArgs false
set_option maxRecDepth 100000
theorem hinfo53:(Try.prog.info? 53).map (fun i=>(i.zero,i.size,i.bytes))=some (some (.agg #[.int .i64 0,.int .i64 0,.string ⟨#[]⟩]),3,32):=by kernel_rfl
theorem hinfo32:(Try.prog.info? 32).map (fun i=>(i.zero,i.size,i.bytes))=some (some (.agg #[.int .i64 0,.int .i64 0,.int .i64 0,.int .i64 0,.slice none 0 0,.string ⟨#[]⟩,.slice none 0 0]),7,96):=by kernel_rfl
theorem far_tight {α:Type}{d:Kd α}{e base g t:Nat}{w:World}{v:Value}{xs:List α}{cs:Array Value}(h:d.R e w base (fun _=>True) v xs)(hE:d.E=[])(hb:w.heap[g]?=some (.cells cs t (0,0)))(hne:e≠t)(j:Nat)(u:Value) :
    d.R e (w.setCell ⟨g,j,none⟩ u) base (fun _=>True) v xs :=
  Kd.R_mono (Kd.R_far (Kd.R_tight hE h) (fun k hk e_=>Kd.R_ne h hb hne (by rw [← hk];exact congrArg some e_.symm)) u) (fun _ _=>trivial)
def ClonePost (n:S32)(w:World)(e:Ending)(w':World):Prop :=
  ∃ v4 v6:Value,e=.returned (.agg #[.int .i64 n.f0,.int .i64 n.f1,.int .i64 n.f2,.int .i64 n.f3,v4,.string n.f5,v6])∧Kd.R k53 53 w' w.heap.size (fun _=>True) v4 n.f4∧Kd.R k32 32 w' w.heap.size (fun k=>some k≠v4.ownBlock) v6 n.f6∧Below w.heap.size w w'
def CloneI (n:S32)(g1 g2:Nat)(v4:Value)(w:World)(i:Nat)(v6:Value)(wr:World):Prop :=
  i≤n.f6.length∧Kd.R k53 53 wr w.heap.size (fun _=>True) v4 n.f4∧Kd.R k32 32 wr w.heap.size (fun k=>some k≠v4.ownBlock∧k≠g1∧k≠g2) v6 (n.f6.take i) ∧
    wr.heap[g1]?=some (.cells #[.int .i64 n.f0,.int .i64 n.f1,.int .i64 n.f2,.int .i64 n.f3,v4,.string n.f5,v6] 32 (0,0)) ∧
    wr.heap[g2]?=some (.cells #[.int .i64 0,.int .i64 0,.int .i64 0,.int .i64 0,.slice none 0 0,.string ⟨#[]⟩,.slice none 0 0] 32 (0,0))∧Below w.heap.size w wr
set_option maxHeartbeats 8000000 in
theorem clone_calls:∀ (d:Nat)(n:S32)(A4:Option Addr)(c4:Nat)(A6:Option Addr)(c6:Nat)(w:World),cloneB d n=true→k53.C w A4 n.f4.length n.f4→n.f4.length≤c4→k32.C w A6 n.f6.length n.f6→n.f6.length≤c6 →
    Calls Try.prog 35 #[.agg #[.int .i64 n.f0,.int .i64 n.f1,.int .i64 n.f2,.int .i64 n.f3,.slice A4 n.f4.length c4,.string n.f5,.slice A6 n.f6.length c6]] w (ClonePost n w):=by
  intro d
  induction d with
  | zero=>intro n A4 c4 A6 c6 w h;simp [cloneB] at h
  | succ d ih =>
    intro n A4 c4 A6 c6 w h hr4 hc4 hr6 hc6
    unfold cloneB at h
    simp only [Bool.and_eq_true,decide_eq_true_eq,List.all_eq_true] at h
    obtain⟨⟨hb4,hb6⟩,hall⟩:=h
    have hu32:=Try.underlying32
    have HR4:=Az.mk hr4
    have HC4:=Az.mk hc4
    have HR6:=Az.mk hr6
    have HC6:=Az.mk hc6
    have HALL:=Az.mk hall
    have IH:=Az.mk ih
    clear hr4 hc4 hr6 hc6 hall ih
    go_enter Try.func35,Try.ntmps35
    go_wp2_with ((with_reducible refine gate_builtin (b:=.append) (xs:=#[.const (.slice none 0 0),.tmp 7]) rfl ?_);at_builtin;refine Kd.R_append_rows k53 (w0:=w) w.heap.size rfl (.const (.slice none 0 0)) (.tmp 7) 29 53 (.agg #[(.int .i64 0),(.int .i64 0),(.string ⟨#[]⟩)]) 32 rfl Try.underlying29 hinfo53 rfl (by decide) (by omega) (.slice none 0 0) ([]:List (S53)) n.f4 _ _ _ (fun _=>True) (fun _=>False) rfl rfl ?aO ?aR (fun _ _ h=>h) (fun _ h=>h.elim) ?aF ?aB ?aS ?aL ?_;(case aR=>exact Kd.C_below HR4.out (bA_ (bA_ (Below.refl _ _) _) _));(case aB=>exact bA_ (bA_ (Below.refl _ _) _) _);(case aF=>exact(fun _ _=>trivial));(case aO=>exact Kd.R_nil _ _ _ _ _);(case aS=>exact(bA_ (bA_ (Below.refl w.heap.size w) _) _).size);(case aL=>simp only [List.length_nil];omega);intro v4 w1 ho hb hg hat;rw [List.nil_append] at ho;obtain⟨Ao,co,eo⟩:=Kd.R_slice ho;subst eo;have k1:=blk_grown (kA_ (blk_new w _) _) hg (by simp [Value.ownBlock]);have k2:=blk_grown (new_at (w.alloc (.cells #[.int .i64 n.f0,.int .i64 n.f1,.int .i64 n.f2,.int .i64 n.f3,.slice A4 n.f4.length c4,.string n.f5,.slice A6 n.f6.length c6] 32)) (.cells #[.int .i64 0,.int .i64 0,.int .i64 0,.int .i64 0,.slice none 0 0,.string ⟨#[]⟩,.slice none 0 0] 32) (j:=w.heap.size + 1) (by simp)) hg (by simp [Value.ownBlock]);have e4:w1.cell? ⟨w.heap.size,4,none⟩=some (.slice A4 n.f4.length c4):=(bC_ k1 4).trans rfl;have e6:w1.cell? ⟨w.heap.size,6,none⟩=some (.slice A6 n.f6.length c6):=(bC_ k1 6).trans rfl;have z4:=bF_ k1 4;have z6:=bF_ k1 6;have HO:=Az.mk ho;have HB:=Az.mk hb;have K1:=Az.mk k1;have K2:=Az.mk k2;clear ho hb hg hat k1 k2)
    generalize hg1:w.heap.size=g1 at *
    generalize hg2:g1 + 1=g2 at *
    have hg12:g1 < g2:=by omega
    clear e4 e6 z4 z6
    go_loopg [15] n.f6.length (fun m u15 wr=>∃ (i:Nat) (v6:Value),u15=.int .i64 i∧m + i=n.f6.length∧Az (CloneI n g1 g2 (.slice Ao n.f4.length co) w i v6 wr))
    case atStart =>
      have ho:Kd.R k53 53 w1 w.heap.size (fun _=>True) (.slice Ao n.f4.length co) n.f4:=by rw [hg1];exact HO.out
      have hB:Below w.heap.size w w1:=by rw [hg1];exact HB.out
      have k1:=kP_ (kP_ K1.out 4 (.slice Ao n.f4.length co) rfl) 6 (.slice none 0 0) rfl
      refine⟨0,.slice none 0 0,rfl,by omega,⟨by omega,?_,?_,?_,?_,?_⟩⟩
      · exact far_tight (far_tight ho rfl K1.out (by decide) _ _) rfl (blk_set K1.out 4 _) (by decide) _ _
      · rw [List.take_zero];exact Kd.R_nil _ _ _ _ _
      · exact k1
      · exact kF_ (kF_ K2.out (show g2≠g1 by omega) _) (show g2≠g1 by omega) _
      · exact bS_ (bS_ hB (by omega)) (by omega)
    case round =>
      obtain⟨i,v6,rfl,hmi,hCI⟩:=hrel
      by_cases hlt:i < n.f6.length
      · have hb:decide ((i:Int) < n.f6.length)=true:=decide_eq_true (by omega)
        obtain⟨ad,B4,e4,B6,e6,hA6,q0,q1,q2,q3,q4,q5,q6,l4,C4,l6,C6⟩:=at_T32 HR6.out (i:Int) (by omega) (by omega)
        rw [Int.toNat_natCast] at q0 q1 q2 q3 q4 q5 q6
        subst hA6
        have hmem:rd_T32 n.f6 (i:Int) ∈ n.f6:=by simp [rd_T32,hlt]
        have hsnoc:n.f6.take (i + 1)=n.f6.take i ++ [rd_T32 n.f6 (i:Int)]:=by rw [List.take_succ_eq_append_getElem hlt];simp [rd_T32,hlt]
        have hcl:=HALL.out _ hmem
        generalize rd_T32 n.f6 (i:Int)=k at *
        have hBr:=hCI.out.2.2.2.2.2
        replace q0:=(hBr.cell (World.block_lt_of_cell? _ _ q0)).trans q0
        replace q1:=(hBr.cell (World.block_lt_of_cell? _ _ q1)).trans q1
        replace q2:=(hBr.cell (World.block_lt_of_cell? _ _ q2)).trans q2
        replace q3:=(hBr.cell (World.block_lt_of_cell? _ _ q3)).trans q3
        replace q4:=(hBr.cell (World.block_lt_of_cell? _ _ q4)).trans q4
        replace q5:=(hBr.cell (World.block_lt_of_cell? _ _ q5)).trans q5
        replace q6:=(hBr.cell (World.block_lt_of_cell? _ _ q6)).trans q6
        have i0:0≤(i:Int):=by omega
        have i1:(i:Int) < n.f6.length:=by omega
        replace hBr:=Az.mk hBr
        replace hsnoc:=Az.mk hsnoc
        replace C4:=Az.mk C4
        replace C6:=Az.mk C6
        replace l4:=Az.mk l4
        replace l6:=Az.mk l6
        replace hcl:=Az.mk hcl
        clear hmem
        go_wp2_with (fail)
        obtain⟨W1,hW1⟩:∃ W1,wr.alloc (.cells #[.int .i64 k.f0,.int .i64 k.f1,.int .i64 k.f2,.int .i64 k.f3,.slice B4 k.f4.length e4,.string k.f5,.slice B6 k.f6.length e6] 32)=W1:=⟨_,rfl⟩
        have hC:=hCI.out
        have hBW:Below wr.heap.size wr W1:=hW1 ▸ bA_ (Below.refl _ _) _
        have hbk:W1.heap[wr.heap.size]?=some (.cells #[.int .i64 k.f0,.int .i64 k.f1,.int .i64 k.f2,.int .i64 k.f3,.slice B4 k.f4.length e4,.string k.f5,.slice B6 k.f6.length e6] 32 (0,0)):=hW1 ▸ blk_new _ _
        rw [hW1]
        generalize hbz:wr.heap.size=bk at hbk ⊢
        have hc0:W1.cell? ⟨bk,0,none⟩=some (.int .i64 k.f0):=(bC_ hbk 0).trans rfl
        have hc1:W1.cell? ⟨bk,1,none⟩=some (.int .i64 k.f1):=(bC_ hbk 1).trans rfl
        have hc2:W1.cell? ⟨bk,2,none⟩=some (.int .i64 k.f2):=(bC_ hbk 2).trans rfl
        have hc3:W1.cell? ⟨bk,3,none⟩=some (.int .i64 k.f3):=(bC_ hbk 3).trans rfl
        have hc4:W1.cell? ⟨bk,4,none⟩=some (.slice B4 k.f4.length e4):=(bC_ hbk 4).trans rfl
        have hc5:W1.cell? ⟨bk,5,none⟩=some (.string k.f5):=(bC_ hbk 5).trans rfl
        have hc6:W1.cell? ⟨bk,6,none⟩=some (.slice B6 k.f6.length e6):=(bC_ hbk 6).trans rfl
        have hv4:=Kd.R_below hC.2.1 hBW
        have hv6:=Kd.R_below hC.2.2.1 hBW
        have hk1:=kB_ hC.2.2.2.1 hBW
        have hk2:=kB_ hC.2.2.2.2.1 hBW
        have hB1:=bT_ hC.2.2.2.2.2 hBW
        have hg6:W1.cell? ⟨g1,6,none⟩=some v6:=(bC_ hk1 6).trans rfl
        have hC4:k53.C W1 B4 k.f4.length k.f4:=Kd.C_below C4.out hB1
        have hC6:k32.C W1 B6 k.f6.length k.f6:=Kd.C_below C6.out hB1
        clear hW1 q0 q1 q2 q3 q4 q5 q6 hb
        obtain⟨A,c,eA⟩:=Kd.R_slice hv6
        have hlen:(n.f6.take i).length=i:=by simp;omega
        rw [hlen] at eA
        subst eA
        replace hlen:=Az.mk hlen
        replace hv4:=Az.mk hv4
        replace hv6:=Az.mk hv6
        replace hk1:=Az.mk hk1
        replace hk2:=Az.mk hk2
        replace hB1:=Az.mk hB1
        replace hbk:=Az.mk hbk
        replace hBW:=Az.mk hBW
        replace hC4:=Az.mk hC4
        replace hC6:=Az.mk hC6
        replace hC:=Az.mk hC
        replace hbz:=Az.mk hbz
        have hSof:∀ w':World,Below W1.heap.size W1 w'→(w'.cell? ⟨g1,6,none⟩=some (.slice A i c)∧w'.cell? ⟨bk,0,none⟩=some (.int .i64 k.f0)∧w'.cell? ⟨bk,1,none⟩=some (.int .i64 k.f1)∧w'.cell? ⟨bk,2,none⟩=some (.int .i64 k.f2)∧w'.cell? ⟨bk,3,none⟩=some (.int .i64 k.f3)∧w'.cell? ⟨bk,4,none⟩=some (.slice B4 k.f4.length e4)∧w'.cell? ⟨bk,5,none⟩=some (.string k.f5)∧w'.cell? ⟨bk,6,none⟩=some (.slice B6 k.f6.length e6)):=fun w' hb=>⟨pw_cell_below hb hg6,pw_cell_below hb hc0,pw_cell_below hb hc1,pw_cell_below hb hc2,pw_cell_below hb hc3,pw_cell_below hb hc4,pw_cell_below hb hc5,pw_cell_below hb hc6⟩
        have hn6:some g1≠(Value.slice A i c).ownBlock:=Kd.R_away hv6.out (fun j hj=>hj.2.1)
        have hnk:some bk≠(Value.slice A i c).ownBlock:=Kd.fresh' (Kd.R_lt hC.out.2.2.1) bk (Nat.le_of_eq hbz.out)
        have hSgr:∀ w' w'':World,w'.grownBy w'' (Value.slice A i c).ownBlock→(w'.cell? ⟨g1,6,none⟩=some (.slice A i c)∧w'.cell? ⟨bk,0,none⟩=some (.int .i64 k.f0)∧w'.cell? ⟨bk,1,none⟩=some (.int .i64 k.f1)∧w'.cell? ⟨bk,2,none⟩=some (.int .i64 k.f2)∧w'.cell? ⟨bk,3,none⟩=some (.int .i64 k.f3)∧w'.cell? ⟨bk,4,none⟩=some (.slice B4 k.f4.length e4)∧w'.cell? ⟨bk,5,none⟩=some (.string k.f5)∧w'.cell? ⟨bk,6,none⟩=some (.slice B6 k.f6.length e6))→(w''.cell? ⟨g1,6,none⟩=some (.slice A i c)∧w''.cell? ⟨bk,0,none⟩=some (.int .i64 k.f0)∧w''.cell? ⟨bk,1,none⟩=some (.int .i64 k.f1)∧w''.cell? ⟨bk,2,none⟩=some (.int .i64 k.f2)∧w''.cell? ⟨bk,3,none⟩=some (.int .i64 k.f3)∧w''.cell? ⟨bk,4,none⟩=some (.slice B4 k.f4.length e4)∧w''.cell? ⟨bk,5,none⟩=some (.string k.f5)∧w''.cell? ⟨bk,6,none⟩=some (.slice B6 k.f6.length e6)):=fun w' w'' hg hs=>⟨cell_grown hg hs.1 hn6,cell_grown hg hs.2.1 hnk,cell_grown hg hs.2.2.1 hnk,cell_grown hg hs.2.2.2.1 hnk,cell_grown hg hs.2.2.2.2.1 hnk,cell_grown hg hs.2.2.2.2.2.1 hnk,cell_grown hg hs.2.2.2.2.2.2.1 hnk,cell_grown hg hs.2.2.2.2.2.2.2 hnk⟩
        have hfr:∀ j,W1.heap.size≤j→(some j≠(Value.slice Ao n.f4.length co).ownBlock∧j≠g1∧j≠g2)∧some j≠(Value.slice A i c).ownBlock:=fun j hj=>⟨⟨Kd.fresh' (Kd.R_lt hv4.out) j hj,fun e=>by have:=blk_lt hk1.out;omega,fun e=>by have:=blk_lt hk2.out;omega⟩,Kd.fresh' (Kd.R_lt hv6.out) j hj⟩
        replace hSof:=Az.mk hSof
        replace hSgr:=Az.mk hSgr
        replace hn6:=Az.mk hn6
        replace hnk:=Az.mk hnk
        replace hfr:=Az.mk hfr
        have hdr:Below W1.heap.size W1 W1.drew:=below_drew (Below.refl _ _)
        refine start_ (n:=8) (S:=fun w'=>w'.cell? ⟨g1,6,none⟩=some (.slice A i c)∧w'.cell? ⟨bk,0,none⟩=some (.int .i64 k.f0)∧w'.cell? ⟨bk,1,none⟩=some (.int .i64 k.f1)∧w'.cell? ⟨bk,2,none⟩=some (.int .i64 k.f2)∧w'.cell? ⟨bk,3,none⟩=some (.int .i64 k.f3)∧w'.cell? ⟨bk,4,none⟩=some (.slice B4 k.f4.length e4)∧w'.cell? ⟨bk,5,none⟩=some (.string k.f5)∧w'.cell? ⟨bk,6,none⟩=some (.slice B6 k.f6.length e6)) (ds:=[7]) #[false,false,false,false,false,false,false,false] (by kernel_rfl) rfl rfl ?_ ?_
        · exact hSof.out _ hdr
        intro hHeld
        generalize hw1d:W1.drew=W1d at hdr hHeld ⊢
        clear hw1d
        refine pure_ (i:=0) (N:=some 19) (v:=?_) (a':=?_) #[true,false,false,false,false,false,false,false] rfl rfl (by kernel_rfl) (fun _ _ _ h=>h) (Or.inl ⟨by rfl,?_⟩) ?_ ?_
        rotate_left
        · intro w'
          go_simp
          with_reducible rfl
        rotate_left
        · simp only [Act.put,List.setIfInBounds_toArray,List.set_cons_zero,List.set_cons_succ,i64_w,i32_w]
          rfl
        refine take_ (i:=1) (N:=some 20) (v:=?_) (a':=?_) #[true,true,false,false,false,false,false,false] rfl rfl (by kernel_rfl) (fun _ _ _ h=>h) (Or.inl ⟨by rfl,?_⟩) hHeld ?_ ?_
        rotate_left
        · rintro w' ⟨s0,s1,s2,s3,s4,s5,s6,s7⟩
          go_simp
          with_reducible rfl
        rotate_left
        · simp only [Act.put,List.setIfInBounds_toArray,List.set_cons_zero,List.set_cons_succ,i64_w,i32_w]
          rfl
        refine take_ (i:=2) (N:=some 21) (v:=?_) (a':=?_) #[true,true,true,false,false,false,false,false] rfl rfl (by kernel_rfl) (fun _ _ _ h=>h) (Or.inl ⟨by rfl,?_⟩) hHeld ?_ ?_
        rotate_left
        · rintro w' ⟨s0,s1,s2,s3,s4,s5,s6,s7⟩
          go_simp
          with_reducible rfl
        rotate_left
        · simp only [Act.put,List.setIfInBounds_toArray,List.set_cons_zero,List.set_cons_succ,i64_w,i32_w]
          rfl
        refine one_ (i:=3) (N:=some 22) #[true,true,true,true,false,false,false,false] rfl rfl (by kernel_rfl) (by decide) (fun K hK=>?_)
        refine goes_ Try.func35 (by kernel_rfl) rfl #[.agg #[.int .i64 k.f0,.int .i64 k.f1,.int .i64 k.f2,.int .i64 k.f3,.slice B4 k.f4.length e4,.string k.f5,.slice B6 k.f6.length e6]] (by rfl) rfl rfl (by(try simp only [List.map_toArray,List.map_cons,List.map_nil]);first|done|rfl) ?_
        refine(IH.out k B4 e4 B6 e6 _ hcl.out (Kd.C_below hC4.out hdr) l4.out (Kd.C_below hC6.out hdr) l6.out).mono ?_
        rintro e w5 ⟨v4k,v6k,rfl,hr4,hr6,hb5⟩
        have hb5_:=bT_ hdr hb5
        have hq4:=Kd.R_lower (base':=w.heap.size) (Kd.R_mono (ok':=fun j=>W1.heap.size≤j) (Kd.R_bound hr4) (fun j hj=>Nat.le_trans hdr.size hj.2.1)) (Nat.le_trans hB1.out.size hdr.size)
        have hq6:=Kd.R_lower (base':=w.heap.size) (Kd.R_mono (ok':=fun j=>W1.heap.size≤j) (Kd.R_bound hr6) (fun j hj=>Nat.le_trans hdr.size hj.2.1)) (Nat.le_trans hB1.out.size hdr.size)
        replace hq4:=Az.mk hq4
        replace hq6:=Az.mk hq6
        clear hr4 hr6 hb5
        refine⟨_,rfl,?_⟩
        refine hK.out _ _ (hSof.out _ hb5_) (fun hHeld=>?_)
        clear hK K
        refine norm_ (a':=?_) ?_ ?_
        rotate_left
        · show Act.put _ (some 22) _=_
          simp only [Act.put,List.setIfInBounds_toArray,List.set_cons_zero,List.set_cons_succ,i64_w,i32_w]
          rfl
        refine one_ (i:=4) (N:=some 23) #[true,true,true,true,true,false,false,false] rfl rfl (by kernel_rfl) (by decide) (fun K hK=>?_)
        refine value_ (w1:=?_) (v:=?_) (by rfl) rfl ?_ ?_
        rotate_left 2
        · go_simp
          constructor
          · rfl
          · rfl
        refine hK.out _ _ (hSof.out _ (bA_ hb5_ _)) (fun hHeld=>?_)
        clear hK K
        refine norm_ (a':=?_) ?_ ?_
        rotate_left
        · show Act.put _ (some 23) _=_
          simp only [Act.put,List.setIfInBounds_toArray,List.set_cons_zero,List.set_cons_succ,i64_w,i32_w]
          rfl
        refine one_ (i:=5) (N:=some 24) #[true,true,true,true,true,true,false,false] rfl rfl (by kernel_rfl) (by decide) (fun K hK=>?_)
        refine Kd.R_append_step k32 (w0:=w) w.heap.size (by rfl) (.tmp 20) (.tmp 23) 30 32 (.agg #[.int .i64 0,.int .i64 0,.int .i64 0,.int .i64 0,.slice none 0 0,.string ⟨#[]⟩,.slice none 0 0]) 96 rfl Try.underlying30 hinfo32 rfl (by decide) (by omega) (.slice A i c) (n.f6.take i) k [.int .i64 k.f0,.int .i64 k.f1,.int .i64 k.f2,.int .i64 k.f3,v4k,.string k.f5,v6k] (fun j=>some j≠(Value.slice Ao n.f4.length co).ownBlock∧j≠g1∧j≠g2) (fun j=>W1.heap.size≤j) rfl rfl (k32_mkM _ _ _ k hq4.out hq6.out) hfr.out (fun j hj=>(hfr.out j (Nat.le_trans hb5_.size hj)).1) (Kd.R_below hv6.out hb5_) (bT_ hB1.out hb5_) (Nat.le_trans hB1.out.size hb5_.size) (by rw [hlen.out];omega) ?_
        intro v1 w6 ho6 hb6 hg6_ hat6
        have k1_:=blk_grown (kB_ hk1.out hb5_) hg6_ hn6.out
        have s6_:w6.cell? ⟨g1,6,none⟩=some (.slice A i c):=(bC_ k1_ 6).trans rfl
        have z6_:=bF_ k1_ 6
        have K1_:=Az.mk k1_
        have HO6:=Az.mk ho6
        have HB6:=Az.mk hb6
        have HG6:=Az.mk hg6_
        have HB5:=Az.mk hb5_
        obtain⟨Av,cv,ev⟩:=Kd.R_slice ho6
        rw [show(n.f6.take i ++ [k]).length=i + 1 by rw [List.length_append,hlen.out];rfl] at ev
        subst ev
        refine hK.out _ _ (hSgr.out _ _ hg6_ (hSof.out _ hb5_)) (fun hHeld=>?_)
        clear k1_ ho6 hb6 hat6 hg6_ hb5_
        clear hK K
        refine norm_ (a':=?_) ?_ ?_
        rotate_left
        · show Act.put _ (some 24) _=_
          simp only [Act.put,List.setIfInBounds_toArray,List.set_cons_zero,List.set_cons_succ,i64_w,i32_w]
          rfl
        refine pure_ (i:=6) (N:=some 25) (v:=?_) (a':=?_) #[true,true,true,true,true,true,true,false] rfl rfl (by kernel_rfl) (fun _ _ _ h=>h) (Or.inl ⟨by rfl,?_⟩) ?_ ?_
        rotate_left
        · intro w'
          go_simp
          with_reducible rfl
        rotate_left
        · simp only [Act.put,List.setIfInBounds_toArray,List.set_cons_zero,List.set_cons_succ,i64_w,i32_w]
          rfl
        refine last_ (i:=7) (N:=none) #[true,true,true,true,true,true,true,true] rfl rfl (by kernel_rfl) (by decide) (fun K hK=>?_)
        refine skip_ (w1:=?_) (by rfl) rfl ?_ ?_
        rotate_left
        · go_simp
          rfl
        refine hK.out _ _ ?_
        clear hK K
        refine done_ (by kernel_rfl) ?_
        go_wp2
        have hi1:(i:Int) + 1=((i + 1:Nat):Int):=by omega
        rw [hi1]
        go_roundg (n.f6.length - (i + 1))
        case measure=>omega
        case rel =>
          have hn6':∀ j,(Value.slice Av (i + 1) cv).ownBlock=some j→j≠g1:=fun j hj=>(HO6.out.1 j hj).2.1
          refine⟨i + 1,.slice Av (i + 1) cv,rfl,by omega,⟨by omega,?_,?_,?_,?_,?_⟩⟩
          · have h1:=Kd.R_grown2 (Kd.R_below hv4.out HB5.out) rfl HG6.out (fun j e=>(hv6.out.1 j e).1)
            exact far_tight h1 rfl K1_.out (by decide) _ _
          · rw [hsnoc.out]
            exact Kd.R_far HO6.out (fun j hj=>hj.2.1) _
          · exact kP_ K1_.out 6 _ rfl
          · exact kF_ (blk_grown (kB_ hk2.out HB5.out) HG6.out (Kd.R_away hv6.out (fun j hj=>hj.2.2))) (show g2≠g1 by omega) _
          · exact bS_ HB6.out (by omega)
      · have hb:decide ((i:Int) < n.f6.length)=false:=decide_eq_false (by omega)
        have hC:=hCI.out
        obtain rfl:i=n.f6.length:=by have:=hC.1;omega
        have hk1:=hC.2.2.2.1
        have hk2:=hC.2.2.2.2.1
        have hC':=Az.mk hC
        have hv6:=hC.2.2.1
        rw [List.take_length] at hv6
        obtain⟨A,c,eA⟩:=Kd.R_slice hv6
        subst eA
        have a0:wr.cell? ⟨g1,0,none⟩=some (.int .i64 n.f0):=(bC_ hk1 0).trans rfl
        have a1:wr.cell? ⟨g1,1,none⟩=some (.int .i64 n.f1):=(bC_ hk1 1).trans rfl
        have a2:wr.cell? ⟨g1,2,none⟩=some (.int .i64 n.f2):=(bC_ hk1 2).trans rfl
        have a3:wr.cell? ⟨g1,3,none⟩=some (.int .i64 n.f3):=(bC_ hk1 3).trans rfl
        have a4:wr.cell? ⟨g1,4,none⟩=some (.slice Ao n.f4.length co):=(bC_ hk1 4).trans rfl
        have a5:wr.cell? ⟨g1,5,none⟩=some (.string n.f5):=(bC_ hk1 5).trans rfl
        have a6:wr.cell? ⟨g1,6,none⟩=some (.slice A n.f6.length c):=(bC_ hk1 6).trans rfl
        have b0:wr.cell? ⟨g2,0,none⟩=some (.int .i64 0):=(bC_ hk2 0).trans rfl
        have b1:wr.cell? ⟨g2,1,none⟩=some (.int .i64 0):=(bC_ hk2 1).trans rfl
        have b2:wr.cell? ⟨g2,2,none⟩=some (.int .i64 0):=(bC_ hk2 2).trans rfl
        have b3:wr.cell? ⟨g2,3,none⟩=some (.int .i64 0):=(bC_ hk2 3).trans rfl
        have b4:wr.cell? ⟨g2,4,none⟩=some (.slice none 0 0):=(bC_ hk2 4).trans rfl
        have b5:wr.cell? ⟨g2,5,none⟩=some (.string ⟨#[]⟩):=(bC_ hk2 5).trans rfl
        have b6:wr.cell? ⟨g2,6,none⟩=some (.slice none 0 0):=(bC_ hk2 6).trans rfl
        have f0:=bF_ hk2 0
        have f1:=bF_ hk2 1
        have f2:=bF_ hk2 2
        have f3:=bF_ hk2 3
        have f4:=bF_ hk2 4
        have f5:=bF_ hk2 5
        have f6:=bF_ hk2 6
        replace hk1:=Az.mk hk1
        replace hk2:=Az.mk hk2
        replace hv6:=Az.mk hv6
        clear hC hCI
        go_wp2
        have hk2':=kP_ (kP_ (kP_ (kP_ (kP_ (kP_ (kP_ hk2.out 0 (.int .i64 n.f0) rfl) 1 (.int .i64 n.f1) rfl) 2 (.int .i64 n.f2) rfl) 3 (.int .i64 n.f3) rfl) 4 (.slice Ao n.f4.length co) rfl) 5 (.string n.f5) rfl) 6 (.slice A n.f6.length c) rfl
        refine bodyPost_ret (results_single rfl (.cell g2 32 _ (0,0) _ rfl hk2' Try.underlying32 rfl (by kernel_rfl) .nil)) rfl ⟨.slice Ao n.f4.length co,.slice A n.f6.length c,rfl,?_,?_,?_⟩
        · have F:=fun {W:World} (h:Kd.R k53 53 W w.heap.size (fun _=>True) (.slice Ao n.f4.length co) n.f4) {cs:Array Value} (hb:W.heap[g2]?=some (.cells cs 32 (0,0))) (j:Nat) (u:Value)=>far_tight h rfl hb (by decide) j u
          exact F (F (F (F (F (F (F hC'.out.2.1 hk2.out _ _) (blk_set hk2.out _ _) _ _) (blk_set (blk_set hk2.out _ _) _ _) _ _) (blk_set (blk_set (blk_set hk2.out _ _) _ _) _ _) _ _) (blk_set (blk_set (blk_set (blk_set hk2.out _ _) _ _) _ _) _ _) _ _) (blk_set (blk_set (blk_set (blk_set (blk_set hk2.out _ _) _ _) _ _) _ _) _ _) _ _) (blk_set (blk_set (blk_set (blk_set (blk_set (blk_set hk2.out _ _) _ _) _ _) _ _) _ _) _ _) _ _
        · refine Kd.R_mono (ok:=fun k=>some k≠(Value.slice Ao n.f4.length co).ownBlock∧k≠g1∧k≠g2) ?_ (fun k hk=>hk.1)
          refine Kd.R_far (Kd.R_far (Kd.R_far (Kd.R_far (Kd.R_far (Kd.R_far (Kd.R_far hv6.out ?_ _) ?_ _) ?_ _) ?_ _) ?_ _) ?_ _) ?_ _ <;> exact fun j hj=>hj.2.2
        · have hg:w.heap.size≤g2:=by omega
          exact bS_ (bS_ (bS_ (bS_ (bS_ (bS_ (bS_ hC'.out.2.2.2.2.2 hg) hg) hg) hg) hg) hg) hg
end Go.Proofs.Ytgdbcogbbghjaaa.Hand
