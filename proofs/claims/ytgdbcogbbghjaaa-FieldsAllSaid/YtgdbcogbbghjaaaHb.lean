import Derived.Test.YtgdbcogbbghjaaaHa
import Derived.Sort.CutIn
namespace Go.Proofs.Ytgdbcogbbghjaaa.Hand
open Go.RowKit Go.Proofs.YtgdbcogbbghjaaaW.PrintWords Go.Proofs.YtgdbcogbbghjaaaW.PrintLast Go.Proofs.YtgdbcogbbghjaaaW.PrintMore Go.Proofs.Ytgdbcogbbghjaaa.Q Go.Proofs.Ytgdbcogbbghjaaa.RF
attribute [local go_sem] Oper.semAt_some
set_option linter.unusedVariables false
set_option linter.unusedSimpArgs false
set_option maxRecDepth 100000
def KI (W0:World)(l bn bw bg py:Nat)(g:Gr)(G0:Option Addr)(d0:Nat)(G1:Option Addr)(d1:Nat)(G2:Option Addr)(d2:Nat)(G3:Option Addr)(d3:Nat)(G4:Option Addr)(d4:Nat)(n:S32)(A4:Option Addr)(c4:Nat)(A6:Option Addr)(c6:Nat)(path:List Int)(fd:ByteArray)(Ap:Option Addr)(cp:Nat)(d:Nat)(r:List It)(J:Nat→(Nat→Prop)→World→Prop)(m:Nat)(a:Act)(w:World):Prop :=
  ∃ u5 u6 u7 u8 u9 u10 u14 u15 u16 u17 u18 u19 u20 u21 u22 u23 u24 u25 u26 u27 u28 u29 u30 u31 u32 u33 u34 u35 u36 u37 u38 u39 u40 u41 u42 u43 u44 u45 u46 u47 u48 u49 u50 u51 u52 u53 u54 u55 u56 u57 u58 u59 u60:Value,∃ (Ds:List Nat) (i cnt:Nat) (S:Nat→Prop),a={ tmps:=#[.func (.yield l) #[] #[],.pointer (some ⟨bn,0,none⟩),.pointer (some ⟨bw,0,none⟩),.pointer (some ⟨bg,0,none⟩),.pointer (some ⟨py,0,none⟩),u5,u6,u7,u8,u9,u10,.slice A6 n.f6.length c6,.int .i64 n.f6.length,.int .i64 i,u14,u15,u16,u17,u18,u19,u20,u21,u22,u23,u24,u25,u26,u27,u28,u29,u30,u31,u32,u33,u34,u35,u36,u37,u38,u39,u40,u41,u42,u43,u44,u45,u46,u47,u48,u49,u50,u51,u52,u53,u54,u55,u56,u57,u58,u59,u60],defers:=Ds.map mark } ∧
    i≤n.f6.length∧m + i=n.f6.length∧kidsL (kidsF d g) g n path fd (n.f6.drop i) i=some (r.drop cnt)∧cnt≤r.length∧J cnt S w∧Own W0 l bn bw bg py g G0 d0 G1 d1 G2 d2 G3 d3 G4 d4 n A4 c4 A6 c6 path fd Ap cp Ds S w
set_option maxHeartbeats 8000000 in
theorem kids_gives (g:Gr)(G0:Option Addr)(d0:Nat)(G1:Option Addr)(d1:Nat)(G2:Option Addr)(d2:Nat)(G3:Option Addr)(d3:Nat)(G4:Option Addr)(d4:Nat):∀ (d:Nat)(n:S32)(path:List Int)(fd:ByteArray)(r:List It),kidsF d g n path fd=some r →
    ∀ (bn bw bg:Nat) (A4:Option Addr) (c4:Nat) (A6:Option Addr) (c6:Nat) (Ap:Option Addr) (cp:Nat),
      Gives Try.prog 42 #[.pointer (some ⟨bn,0,none⟩),.pointer (some ⟨bw,0,none⟩),.pointer (some ⟨bg,0,none⟩)] r.length (ItR r) (PreK bn bw bg g G0 d0 G1 d1 G2 d2 G3 d3 G4 d4 n A4 c4 A6 c6 path fd Ap cp):=by
  intro d
  induction d with
  | zero=>intro n path fd r hr;cases hr
  | succ d ih =>
    intro n path fd r hr bn bw bg A4 c4 A6 c6 Ap cp l J S0 W hJst hJ0 hpre hY
    simp only [kidsF] at hr
    by_cases hsz:path.length < 17592186044416∧n.f6.length < 4611686018427387904
    case neg=>rw [if_neg hsz] at hr;cases hr
    rw [if_pos hsz] at hr
    have hu32:=Try.underlying32
    have hu59:=Try.underlying59
    have hu27:=Try.underlying27
    have hu61:=Try.underlying61
    have HR:Az (kidsL (kidsF d g) g n path fd n.f6 0=some r):=⟨hr⟩
    have HZ:=Az.mk hsz
    have HJ:=Az.mk hJst
    have HJ0:=Az.mk hJ0
    have HP:=Az.mk hpre
    have HY:=Az.mk hY
    have HI:=Az.mk ih
    clear hr hsz hJst hJ0 hpre hY ih
    refine callsIn_of_wp_marks Try.func42 rfl trivial ?_
    simp only [Try.ntmps42,List.size_toArray,List.length_cons,List.length_nil,Nat.reduceAdd,Nat.reduceSub,Array.replicate_succ,Array.replicate_zero,List.push_toArray,List.append_toArray,List.nil_append,List.cons_append]
    have v6:∀ o,(W.alloc o).cell? ⟨bn,6,none⟩=some (.slice A6 n.f6.length c6):=fun o=>(bC_ (kA_ HP.out.hn o) 6).trans rfl
    gi_wp2
    refine wpIn_loop_ghost_k (KI W l bn bw bg W.heap.size g G0 d0 G1 d1 G2 d2 G3 d3 G4 d4 n A4 c4 A6 c6 path fd Ap cp d r J) n.f6.length ?_ ?_
    · have hS0:=(HJ.out.bound HJ0.out).2
      have hb:=(bA_ (Below.refl W.heap.size W) (Obj.cells #[.func (.yield l) #[] #[]] 80))
      refine⟨_,_,_,_,_,_,_,_,_,_,_,_,_,_,_,_,_,_,_,_,_,_,_,_,_,_,_,_,_,_,_,_,_,_,_,_,_,_,_,_,_,_,_,_,_,_,_,_,_,_,_,_,_,[],0,0,S0,rfl,by omega,by omega,by rw [List.drop_zero,List.drop_zero];exact HR.out,by omega,HJ.out.step HJ0.out (Chg.of_below _ hb),?_⟩
      refine⟨HP.out.go (fun k a b=>hb.block k b) (fun k a b=>⟨a.1,by have:=a.2;simp;omega⟩),blk_new _ _,fun h=>by have:=hS0 _ h;omega,Nat.le_refl _,List.nodup_nil,fun D hD=>by cases hD⟩
    clear HJ0 HP v6
    generalize hpy:W.heap.size=py
    rintro m a w ⟨u5,u6,u7,u8,u9,u10,u14,u15,u16,u17,u18,u19,u20,u21,u22,u23,u24,u25,u26,u27,u28,u29,u30,u31,u32,u33,u34,u35,u36,u37,u38,u39,u40,u41,u42,u43,u44,u45,u46,u47,u48,u49,u50,u51,u52,u53,u54,u55,u56,u57,u58,u59,u60,Ds,i,cnt,S,rfl,hi,hm,hk,hcnt,hJ,hO⟩ JJ KK hJJ hKK
    replace hJJ:=Az.mk hJJ
    replace hKK:=Az.mk hKK
    replace hk:=Az.mk hk
    replace hJ:=Az.mk hJ
    replace hO:=Az.mk hO
    by_cases hlt:i < n.f6.length
    rotate_left
    · have hb:decide ((i:Int) < n.f6.length)=false:=decide_eq_false (by omega)
      gi_wp2
      obtain rfl:i=n.f6.length:=by omega
      have hk:=hk.out
      rw [List.drop_length] at hk
      have hcl:=congrArg List.length (Option.some.inj hk)
      rw [List.length_drop] at hcl
      obtain rfl:cnt=r.length:=by simp at hcl;omega
      refine leaves_marks Ds w hO.out.nd (fun D hD=>(hO.out.d D hD).1) fun w' hc=>?_
      exact⟨_,results_none rfl _ _ _,⟨_,rfl⟩,S,HJ.out.step hJ.out (hc.mono fun k _ hk=>⟨(hO.out.d k hk).2.2,(hO.out.d k hk).2.1⟩)⟩
    have hb:decide ((i:Int) < n.f6.length)=true:=decide_eq_true (by omega)
    obtain⟨ad,B4,e4,B6,e6,hA6,⟨q0,q1,q2,q3,q4,q5,q6⟩,hN⟩:=at_F32 hO.out.pre.nf.f6 i hlt
    generalize hkk:rd_T32 n.f6 (i:Int)=k at q0 q1 q2 q3 q4 q5 q6 hN
    replace hkk:=Az.mk hkk
    subst hA6
    replace hN:=Az.mk hN
    have i0:0≤(i:Int):=by omega
    have i1:(i:Int) < n.f6.length:=by omega
    have bw0:∀ o,(w.alloc o).cell? ⟨bw,0,none⟩=some (.slice Ap path.length cp):=fun o=>(bC_ (kA_ hO.out.pre.hw o) 0).trans rfl
    have bw1:∀ o,(w.alloc o).cell? ⟨bw,1,none⟩=some (.string fd):=fun o=>(bC_ (kA_ hO.out.pre.hw o) 1).trans rfl
    gi_wp2
    have hBw:w.heap.size≤w.heap.size:=Nat.le_refl _
    obtain⟨W1,hW1⟩:∃ W1,w.alloc (Obj.cells #[.int .i64 k.f0,.int .i64 k.f1,.int .i64 k.f2,.int .i64 k.f3,.slice B4 k.f4.length e4,.string k.f5,.slice B6 k.f6.length e6] 32)=W1:=⟨_,rfl⟩
    have hB1:Below w.heap.size w W1:=hW1 ▸ bA_ (Below.refl _ _) _
    have hk1:W1.heap[w.heap.size]?=some (.cells #[.int .i64 k.f0,.int .i64 k.f1,.int .i64 k.f2,.int .i64 k.f3,.slice B4 k.f4.length e4,.string k.f5,.slice B6 k.f6.length e6] 32 (0,0)):=hW1 ▸ blk_new _ _
    replace bw0:W1.cell? ⟨bw,0,none⟩=some (.slice Ap path.length cp):=hW1 ▸ bw0 _
    replace bw1:W1.cell? ⟨bw,1,none⟩=some (.string fd):=hW1 ▸ bw1 _
    rw [hW1]
    generalize hbk:w.heap.size=bk at hk1 hB1 hBw ⊢
    have hsz1:W1.heap.size=bk + 1:=by rw [← hW1,← hbk];simp
    have hk2:=Az.mk hk1
    have hB2:=Az.mk hB1
    clear hk1 hB1 hW1 q0 q1 q2 q3 q4 q5 q6
    have p0:(0:Int)≤(path.length:Int):=by omega
    have p1:(path.length:Int)≤(cp:Int):=by have:=hO.out.pre.pf.l;omega
    have p2:path.length≤cp:=hO.out.pre.pf.l
    have hP1:PathF W1 (fun k=>Fr S w k) path Ap cp:=hO.out.pre.pf.go (fun k a b=>hB2.out.block k (hbk ▸ b)) (fun k a _=>a)
    have hC:=Kd.F_now hP1.f
    have hnone:Ap=none→path.length=0∧path.length=0:=fun e=>by
      rcases Nat.eq_zero_or_pos path.length with h|h
      · exact⟨h,h⟩
      obtain⟨ad,ha,_⟩:=hC.2.2 h
      rw [e] at ha;cases ha
    have holds:∀ (w':World),Below W1.heap.size W1 w'→∀ b,Ap=some b→∀ j u,(nums .i64 path)[j]?=some u→w'.cell? (b.add j)=some u:=fun w' hb b e j u hj=>by
      obtain⟨hjl,hju⟩:=List.getElem?_eq_some_iff.1 hj
      have hjl':j < path.length:=by simpa [nums] using hjl
      obtain⟨ad',he,hc'⟩:=Kd.at_int (Kd.C_below hC hb) (j:Int) (by omega) (by omega)
      rw [e] at he
      cases he
      rw [← hju]
      simpa [nums,rd,List.getD_eq_getElem?_getD,hjl'] using hc'
    replace hnone:=Az.mk hnone
    replace holds:=Az.mk holds
    replace hC:=Az.mk hC
    replace hP1:=Az.mk hP1
    have hsm:=HZ.out.1
    obtain⟨i0',hi',hz0,hz1,hz2⟩:=info_parts info3
    obtain⟨R4,hR4⟩:∃ R4:Exit→Act→World→Prop,R4=fun e a' w'=>e=.normal∧∃ (B7 b28 g' c1:Nat),a'={ tmps:=#[.func (.yield l) #[] #[],.pointer (some ⟨bn,0,none⟩),.pointer (some ⟨bw,0,none⟩),.pointer (some ⟨bg,0,none⟩),.pointer (some ⟨py,0,none⟩),.int .i64 i,.pointer (some ⟨bk,0,none⟩),.pointer (some ⟨B7,0,none⟩),u8,u9,u10,.slice (some ad) n.f6.length c6,.int .i64 n.f6.length,.int .i64 i,.bool true,.int .i64 i,.pointer (some (ad.add (i * 7))),.agg #[.int .i64 k.f0,.int .i64 k.f1,.int .i64 k.f2,.int .i64 k.f3,.slice B4 k.f4.length e4,.string k.f5,.slice B6 k.f6.length e6],.pointer (some ⟨bw,0,none⟩),.slice Ap path.length cp,.pointer (some ⟨bw,0,none⟩),.slice Ap path.length cp,.int .i64 path.length,.pointer (some ⟨bw,0,none⟩),.slice Ap path.length cp,.int .i64 path.length,.slice Ap path.length path.length,.int .i64 i,.slice (some ⟨b28,0,none⟩) 1 1,.slice (some ⟨g',0,none⟩) (path.length + 1) c1,.pointer (some ⟨bw,1,none⟩),.string fd,.agg #[.slice (some ⟨g',0,none⟩) (path.length + 1) c1,.string fd],u33,u34,u35,u36,u37,u38,u39,u40,u41,u42,u43,u44,u45,u46,u47,u48,u49,u50,u51,u52,u53,u54,u55,u56,u57,u58,u59,u60],defers:=Ds.map mark } ∧
        w'.heap[B7]?=some (.cells #[.slice (some ⟨g',0,none⟩) (path.length + 1) c1,.string fd] 59 (0,0))∧w'.ownsRow W1.heap.size 3 1 (.slice (some ⟨g',0,none⟩) (path.length + 1) c1) (path.length + 1) (nums .i64 path ++ [.int .i64 i])∧Below W1.heap.size W1 w'∧W1.heap.size≤B7:=⟨_,rfl⟩
    replace hR4:=Az.mk hR4
    refine wpIn_mono (Q:=R4) (wpIn_wide.2 ?reg4) ?_
    case reg4 =>
     have hu42:=Try.underlying42
     have hS0:Below W1.heap.size W1 W1:=Below.refl _ _
     have hSof:∀ w',Below W1.heap.size W1 w'→(Below W1.heap.size W1 w'∧w'.cell? ⟨bw,0,none⟩=some (.slice Ap path.length cp)∧w'.cell? ⟨bw,1,none⟩=some (.string fd)):=fun w' hb=>⟨hb,(hb.cell (by have:=World.block_lt_of_cell? _ _ bw0;omega)).trans bw0,(hb.cell (by have:=World.block_lt_of_cell? _ _ bw1;omega)).trans bw1⟩
     replace hsz1:=Az.mk hsz1
     refine wp_region_noPanic ?_
     go_region_held_law (fun w'=>Below W1.heap.size W1 w'∧w'.cell? ⟨bw,0,none⟩=some (.slice Ap path.length cp)∧w'.cell? ⟨bw,1,none⟩=some (.string fd))
       ((refine hSof _ ?_;repeat (first|assumption|refine below_drew ?_|refine bA_ ?_ _|refine bS_ ?_ (by first|omega|(simp;done)|(simp;omega)))))
       ((refine step_append_full _ rfl _ _ _ rfl 3 i0' (.int .i64 0) 1 8 hu42 hi' hz0 hz1 hz2 rfl (by decide) Ap path.length path.length (nums .i64 path) rfl hnone.out (by simp [nums]) (holds.out _ (‹Below W1.heap.size W1 _∧_∧_›).1) _ 1 1 [.int .i64 i] rfl rfl (by first|exact World.news_of_block (cs:=#[.int .i64 i]) (blk_new W1 _)|exact World.news_of_block (cs:=#[.int .i64 i]) (kA_ (blk_new W1 _) _)|(have hz_:=blk_new (W1.alloc (.cells #[.slice none 0 0,.string (⟨#[]⟩:ByteArray)] 59)) (.cells #[.int .i64 i] 3);rw [World.size_alloc] at hz_;exact World.news_of_block (cs:=#[.int .i64 i]) hz_)) (by simp [Value.oneCell']) (by decide) (by omega) (by unfold maxLen;omega) (by omega) ?_;intro g' c1 w1 hown hgrow hge hltg;have hb1_:=(‹Below W1.heap.size W1 _∧_∧_›).1.grown hgrow (by have:=(‹Below W1.heap.size W1 _∧_∧_›).1.size;omega) (fun k e=>by cases e);have far_:=fun(b j:Nat) (h:b < _)=>hgrow.cell_far ⟨b,j,none⟩ h (by simp);have farf_:=fun(b j:Nat) (h:b < _)=>hgrow.frozen_far ⟨b,j,none⟩ h (by simp);have lt1_:W1.heap.size < W1.heap.size + 1 + 1:=(by omega);have lt2_:W1.heap.size + 1 < W1.heap.size + 1 + 1:=(by omega)))
     · rw [hR4.out]
       exact⟨rfl,_,_,_,_,rfl,blk_new _ _,(own_weaken hown (by simp)).alloc _,bA_ hb1_ _,hb1_.size⟩
     · rw [hR4.out]
       have hz:=blk_new (W1.alloc (.cells #[.int .i64 i] 3)) (.cells #[.slice none 0 0,.string (⟨#[]⟩:ByteArray)] 59)
       rw [World.size_alloc] at hz
       have hz1:w1.heap[W1.heap.size + 1]?=_:=(hgrow.block (W1.heap.size + 1) (by simp) (by simp)).trans hz
       have hne:¬ g'=W1.heap.size + 1:=fun e=>by simp at hge;omega
       refine⟨rfl,_,_,_,_,rfl,kP_ (kP_ hz1 0 _ rfl) 1 _ rfl,?_,bS_ (bS_ hb1_ (by simp)) (by simp),by omega⟩
       exact own_setCell (own_setCell (own_weaken hown (by simp;omega)) (by simpa [Value.ownBlock] using fun e=>hne e.symm) _) (by simpa [Value.ownBlock] using fun e=>hne e.symm) _
     rw [hR4.out]
     have hz1:w1.heap[W1.heap.size]?=_:=(hgrow.block W1.heap.size (by simp;omega) (by simp)).trans (kA_ (blk_new W1 (.cells #[.slice none 0 0,.string (⟨#[]⟩:ByteArray)] 59)) _)
     have hne:¬ g'=W1.heap.size:=fun e=>by simp at hge;omega
     refine⟨rfl,_,_,_,_,rfl,kP_ (kP_ hz1 0 _ rfl) 1 _ rfl,?_,bS_ (bS_ hb1_ (Nat.le_refl _)) (Nat.le_refl _),Nat.le_refl _⟩
     exact own_setCell (own_setCell (own_weaken hown (by simp;omega)) (by simpa [Value.ownBlock] using fun e=>hne e.symm) _) (by simpa [Value.ownBlock] using fun e=>hne e.symm) _
    rintro e a' w4 hq
    rw [hR4.out] at hq
    obtain⟨rfl,B7,b28,g',c1,rfl,hB7,hrow,hb4,hge7⟩:=hq
    have hbW:Below w.heap.size w w4:=bT_ (by rw [hbk];exact hB2.out:Below w.heap.size w W1) hb4
    have hO4:=hO.out.go hbW.size (fun k _ b=>hbW.block k b) (fun k h=>.inl h)
    have n0:w4.cell? ⟨bn,0,none⟩=some (.int .i64 n.f0):=(bC_ hO4.pre.hn 0).trans rfl
    have n1:w4.cell? ⟨bn,1,none⟩=some (.int .i64 n.f1):=(bC_ hO4.pre.hn 1).trans rfl
    have n2:w4.cell? ⟨bn,2,none⟩=some (.int .i64 n.f2):=(bC_ hO4.pre.hn 2).trans rfl
    have n3:w4.cell? ⟨bn,3,none⟩=some (.int .i64 n.f3):=(bC_ hO4.pre.hn 3).trans rfl
    have n4:w4.cell? ⟨bn,4,none⟩=some (.slice A4 n.f4.length c4):=(bC_ hO4.pre.hn 4).trans rfl
    have n5:w4.cell? ⟨bn,5,none⟩=some (.string n.f5):=(bC_ hO4.pre.hn 5).trans rfl
    have n6:w4.cell? ⟨bn,6,none⟩=some (.slice (some ad) n.f6.length c6):=(bC_ hO4.pre.hn 6).trans rfl
    have m0:w4.cell? ⟨bg,0,none⟩=some (.slice G0 g.g0.length d0):=(bC_ hO4.pre.hg 0).trans rfl
    have m1:w4.cell? ⟨bg,1,none⟩=some (.slice G1 g.g1.length d1):=(bC_ hO4.pre.hg 1).trans rfl
    have m2:w4.cell? ⟨bg,2,none⟩=some (.slice G2 g.g2.length d2):=(bC_ hO4.pre.hg 2).trans rfl
    have m3:w4.cell? ⟨bg,3,none⟩=some (.slice G3 g.g3.length d3):=(bC_ hO4.pre.hg 3).trans rfl
    have m4:w4.cell? ⟨bg,4,none⟩=some (.slice G4 g.g4.length d4):=(bC_ hO4.pre.hg 4).trans rfl
    obtain⟨f,dd,ra,rb,hf,hdd,hra,hrb,hab⟩:=kids_step hk.out hlt hkk.out
    obtain⟨fd2,hfd2⟩:∃ fd2,(if f.toList=[] then fd else f)=fd2:=⟨_,rfl⟩
    rw [hfd2] at hra
    have hbound:=(HJ.out.bound hJ.out).2
    have hnS:∀ j,w.heap.size≤j→¬ S j:=fun j hj h=>by have:=hbound j h;omega
    have hbk1:w.heap.size≤W1.heap.size:=by omega
    have hg'l:=own_cap hrow
    have hg'b:=own_base hrow g' (by simp [Value.ownBlock])
    have hpk:Kd.F (Kd.int .i64) w4 (fun j=>j=g') (some ⟨g',0,none⟩) (path ++ [(i:Int)]).length (path ++ [(i:Int)]):=own_F (by simp) (by rw [nums_append];simpa [nums] using hrow)
    have hM4:Mid W l bn bw bg py g G0 d0 G1 d1 G2 d2 G3 d3 G4 d4 n A4 c4 (some ad) c6 path fd Ap cp Ds (path ++ [(i:Int)]) fd g' c1 B7 bk k B4 e4 B6 e6 S w4:=by
      refine⟨hO4,by simpa using hB7,hnS _ (by omega),kB_ hk2.out hb4,hnS _ (by omega),⟨by simpa using hg'l.1,Kd.F_mono hpk fun j e=>?_⟩,hN.out.go (fun k _ b=>hbW.block k b) (fun k a b=>⟨a.1,Nat.lt_of_lt_of_le b hbW.size⟩)⟩
      subst e
      exact⟨hnS _ (by omega),hg'l.2⟩
    have hJ4:J cnt S w4:=HJ.out.step hJ.out (Chg.of_below _ hbW)
    have hn4:NodeF w4 (Fr S w4) n A4 c4 (some ad) c6:=hO4.pre.nf
    have hgr4:GramF w4 (Fr S w4) g G0 d0 G1 d1 G2 d2 G3 d3 G4 d4:=hO4.pre.gf
    obtain⟨a0,b0,a1,b1,a2,b2,a3,b3,a4,b4⟩:=hgr4.f
    have hc43:=fields_field.calls 3 G0 d0 g.g0 G1 d1 g.g1 G2 d2 g.g2 G3 d3 g.g3 G4 d4 g.g4 n.f0 n.f1 n.f2 n.f3 A4 c4 n.f4 n.f5 (some ad) c6 n.f6 i f w4
      (Kd.F_now b0) a0 (Kd.F_now b1) a1 (Kd.F_now b2) a2 (Kd.F_now b3) a3 (Kd.F_now b4) a4 (Kd.F_now hn4.f4) hn4.l4 (Kd.F_now hn4.f6) hn4.l6 hf
    replace hf:=Az.mk hf
    replace hdd:=Az.mk hdd
    replace hra:=Az.mk hra
    replace hrb:=Az.mk hrb
    replace hab:=Az.mk hab
    replace hfd2:=Az.mk hfd2
    replace hM4:=Az.mk hM4
    replace hJ4:=Az.mk hJ4
    replace hbound:=Az.mk hbound
    replace hnS:=Az.mk hnS
    replace hpk:=Az.mk hpk
    replace hg'l:=Az.mk hg'l
    replace hrow:=Az.mk hrow
    replace hB7:=Az.mk hB7
    replace hc43:=Az.mk hc43
    replace hbW:=Az.mk hbW
    replace hb4:=Az.mk hb4
    clear hO4 hn4 hgr4 a0 b0 a1 b1 a2 b2 a3 b3 a4 b4
    gi_upto_if 38 with(refine⟨trivial,rfl,?_⟩;gi_at_call 43;refine CallsIn.mono (callsIn_wide.2 hc43.out) ?_;rintro e w5 ⟨rfl,hb5⟩;replace hb5:=Az.mk hb5)
    have hM5:=hM4.out.go hb5.out.size (fun j _ b=>hb5.out.block j b) (fun j h=>.inl h)
    have hJ5:J cnt S w5:=HJ.out.step hJ4.out (Chg.of_below _ hb5.out)
    have hbW5:=bT_ hbW.out hb5.out
    have hgB:g'≠B7:=own_ne hrow.out hB7.out (by decide)
    have hbB:bk≠B7:=by omega
    replace hM5:=Az.mk hM5
    replace hJ5:=Az.mk hJ5
    replace hbW5:=Az.mk hbW5
    replace hgB:=Az.mk hgB
    replace hbB:=Az.mk hbB
    gi_cut [] from 38 (fun w'=>Az (Mid W l bn bw bg py g G0 d0 G1 d1 G2 d2 G3 d3 G4 d4 n A4 c4 (some ad) c6 path fd Ap cp Ds (path ++ [(i:Int)]) fd2 g' c1 B7 bk k B4 e4 B6 e6 S w'∧J cnt S w'))
    case first =>
      by_cases hfe:f.toList=[]
      · have hfe':(!f.toList.isEmpty)=false:=by simp [hfe]
        have hq:=hfd2.out
        rw [if_pos hfe] at hq
        subst hq
        rw [hfe']
        clear hfe hfe'
        gi_wp2
        gi_meet
        case rel=>exact⟨hM5.out,hJ5.out⟩
      have hfe':(!f.toList.isEmpty)=true:=by simpa using hfe
      have hq:=hfd2.out
      rw [if_neg hfe] at hq
      subst hq
      rw [hfe']
      clear hfe hfe'
      have v1:w5.cell? ⟨B7,1,none⟩=some (.string fd):=(bC_ hM5.out.h7 1).trans rfl
      have v2:w5.frozen? ⟨B7,1,none⟩=false:=bF_ hM5.out.h7 1
      gi_wp2
      gi_meet
      case rel =>
        have hbs:=bS_ (v:=Value.string f) (j:=1) hbW5.out (show w.heap.size≤B7 by omega)
        refine⟨⟨hO.out.go hbs.size (fun k _ b=>hbs.block k b) (fun k h=>.inl h),kP_ hM5.out.h7 1 _ rfl,hM5.out.s7,kF_ hM5.out.hk hbB.out _,hM5.out.sk,?_,hN.out.go (fun k _ b=>hbs.block k b) (fun k a b=>⟨a.1,Nat.lt_of_lt_of_le b hbs.size⟩)⟩,HJ.out.step hJ5.out (Chg.set _ _ _ ⟨show W.heap.size≤B7 from by have:=(HJ.out.bound hJ.out).1;omega,hM5.out.s7⟩)⟩
        have hpk5:=F_go hpk.out (W':=w5) (ok':=fun j=>j=g') (fun j _ b=>hb5.out.block j b) (fun j a _=>a)
        have hg5:g' < w5.heap.size:=Nat.lt_of_lt_of_le hg'l.out.2 hb5.out.size
        exact⟨hM5.out.pf.l,F_go hpk5 (fun j a b=>Below.heap_setCell _ _ _ _ (fun e=>hgB.out (a.symm.trans e))) (fun j a b=>⟨a ▸ hnS.out _ (by omega),by rw [a];simpa using hg5⟩)⟩
    case rest =>
      obtain⟨hM6,hJ6⟩:=hcut.out
      have hC6:=hcut
      clear hcut
      have hN6:=hM6.nf
      have hN6':=hM6.own.pre.nf
      obtain⟨a0,b0,a1,b1,a2,b2,a3,b3,a4,b4⟩:=hM6.own.pre.gf.f
      have hc44:=fields_dissolves.calls G0 d0 g.g0 G1 d1 g.g1 G2 d2 g.g2 G3 d3 g.g3 G4 d4 g.g4 k.f0 k.f1 k.f2 k.f3 B4 e4 k.f4 k.f5 B6 e6 k.f6 dd wc
        (Kd.F_now b0) a0 (Kd.F_now b1) a1 (Kd.F_now b2) a2 (Kd.F_now b3) a3 (Kd.F_now b4) a4 (Kd.F_now hN6.f4) hN6.l4 (Kd.F_now hN6.f6) hN6.l6 hdd.out
      clear a0 b0 a1 b1 a2 b2 a3 b3 a4 b4 hN6 hN6'
      have n0:wc.cell? ⟨bk,0,none⟩=some (.int .i64 k.f0):=(bC_ hM6.hk 0).trans rfl
      have n1:wc.cell? ⟨bk,1,none⟩=some (.int .i64 k.f1):=(bC_ hM6.hk 1).trans rfl
      have n2:wc.cell? ⟨bk,2,none⟩=some (.int .i64 k.f2):=(bC_ hM6.hk 2).trans rfl
      have n3:wc.cell? ⟨bk,3,none⟩=some (.int .i64 k.f3):=(bC_ hM6.hk 3).trans rfl
      have n4:wc.cell? ⟨bk,4,none⟩=some (.slice B4 k.f4.length e4):=(bC_ hM6.hk 4).trans rfl
      have n5:wc.cell? ⟨bk,5,none⟩=some (.string k.f5):=(bC_ hM6.hk 5).trans rfl
      have n6:wc.cell? ⟨bk,6,none⟩=some (.slice B6 k.f6.length e6):=(bC_ hM6.hk 6).trans rfl
      have m0:wc.cell? ⟨bg,0,none⟩=some (.slice G0 g.g0.length d0):=(bC_ hM6.own.pre.hg 0).trans rfl
      have m1:wc.cell? ⟨bg,1,none⟩=some (.slice G1 g.g1.length d1):=(bC_ hM6.own.pre.hg 1).trans rfl
      have m2:wc.cell? ⟨bg,2,none⟩=some (.slice G2 g.g2.length d2):=(bC_ hM6.own.pre.hg 2).trans rfl
      have m3:wc.cell? ⟨bg,3,none⟩=some (.slice G3 g.g3.length d3):=(bC_ hM6.own.pre.hg 3).trans rfl
      have m4:wc.cell? ⟨bg,4,none⟩=some (.slice G4 g.g4.length d4):=(bC_ hM6.own.pre.hg 4).trans rfl
      replace hc44:=Az.mk hc44
      clear hM6 hJ6 hM4 hJ4 hM5 hJ5 hc43
      cases dd with
      | false =>
        gi_upto_if 44 with(refine⟨trivial,rfl,?_⟩;gi_at_call 44;refine CallsIn.mono (callsIn_wide.2 hc44.out) ?_;rintro e w7 ⟨rfl,hb7⟩;replace hb7:=Az.mk hb7)
        have hM7:=hC6.out.1.go hb7.out.size (fun j _ b=>hb7.out.block j b) (fun j h=>.inl h)
        have hJ7:J cnt S w7:=HJ.out.step hC6.out.2 (Chg.of_below _ hb7.out)
        simp only [if_neg (show ¬ (false=true) by simp)] at hra
        obtain rfl:=(Option.some.inj hra.out).symm
        have hpl:(path ++ [(i:Int)]).length=path.length + 1:=by simp
        have hcl:cnt < r.length:=by
          have:=congrArg List.length hab.out
          simp at this
          omega
        have hrc:r[cnt]?=some ⟨path ++ [(i:Int)],fd2,k⟩:=by
          have:=congrArg (fun l:List It=>l[0]?) hab.out
          simpa [hfd2.out] using this
        obtain⟨fn,tmps,assign,body,hy,hR⟩:=HY.out cnt S w7 (.agg #[.slice (some ⟨g',0,none⟩) (path.length + 1) c1,.string fd2,.int .i64 k.f0,.int .i64 k.f1,.int .i64 k.f2,.int .i64 k.f3,.slice B4 k.f4.length e4,.string k.f5,.slice B6 k.f6.length e6]) hcl hJ7 ⟨_,hrc,some ⟨g',0,none⟩,c1,B4,e4,B6,e6,by simp,hM7.pf,hM7.nf⟩
        have y0:w7.cell? ⟨py,0,none⟩=some (.func (.yield l) #[] #[]):=(bC_ hM7.own.y 0).trans rfl
        have z0:w7.cell? ⟨B7,0,none⟩=some (.slice (some ⟨g',0,none⟩) (path.length + 1) c1):=(bC_ hM7.h7 0).trans (by simp)
        have z1:w7.cell? ⟨B7,1,none⟩=some (.string fd2):=(bC_ hM7.h7 1).trans rfl
        have n0:w7.cell? ⟨bk,0,none⟩=some (.int .i64 k.f0):=(bC_ hM7.hk 0).trans rfl
        have n1:w7.cell? ⟨bk,1,none⟩=some (.int .i64 k.f1):=(bC_ hM7.hk 1).trans rfl
        have n2:w7.cell? ⟨bk,2,none⟩=some (.int .i64 k.f2):=(bC_ hM7.hk 2).trans rfl
        have n3:w7.cell? ⟨bk,3,none⟩=some (.int .i64 k.f3):=(bC_ hM7.hk 3).trans rfl
        have n4:w7.cell? ⟨bk,4,none⟩=some (.slice B4 k.f4.length e4):=(bC_ hM7.hk 4).trans rfl
        have n5:w7.cell? ⟨bk,5,none⟩=some (.string k.f5):=(bC_ hM7.hk 5).trans rfl
        have n6:w7.cell? ⟨bk,6,none⟩=some (.slice B6 k.f6.length e6):=(bC_ hM7.hk 6).trans rfl
        replace hM7:=Az.mk hM7
        replace hJ7:=Az.mk hJ7
        replace hpl:=Az.mk hpl
        replace hrc:=Az.mk hrc
        replace hR:=Az.mk hR
        gi_wp2
        have hi63:=HZ.out.2
        refine⟨rfl,hR.out.mono ?_⟩
        rintro e w8 ⟨rfl,S',hJ8,hc8,hS8⟩
        replace hJ8:=Az.mk hJ8
        replace hc8:=Az.mk hc8
        replace hS8:=Az.mk hS8
        gi_wp2
        have hi1:(i:Int) + 1=((i + 1:Nat):Int):=by omega
        rw [hi1]
        refine hKK.out _ _ (Handed.intro (m - 1) (by omega) (hJJ.out _ _ _ ⟨_,_,_,_,_,_,_,_,_,_,_,_,_,_,_,_,_,_,_,_,_,_,_,_,_,_,_,_,_,_,_,_,_,_,_,_,_,_,_,_,_,_,_,_,_,_,_,_,_,_,_,_,_,Ds,i + 1,cnt + 1,S',rfl,by omega,by omega,?_,by omega,hJ8.out,?_⟩))
        · rw [hrb.out,← List.drop_drop,hab.out]
          rfl
        exact hM7.out.own.go hc8.out.size (fun k b a=>hc8.out.block k a b) hS8.out
      | true =>
        gi_upto_region 10 with(refine⟨trivial,rfl,?_⟩;gi_at_call 44;refine CallsIn.mono (callsIn_wide.2 hc44.out) ?_;rintro e w7 ⟨rfl,hb7⟩;replace hb7:=Az.mk hb7)
        have hM7:=hC6.out.1.go hb7.out.size (fun j _ b=>hb7.out.block j b) (fun j h=>.inl h)
        have hJ7:J cnt S w7:=HJ.out.step hC6.out.2 (Chg.of_below _ hb7.out)
        simp only [if_true] at hra
        have hpl:(path ++ [(i:Int)]).length=path.length + 1:=by simp
        have z0:w7.cell? ⟨B7,0,none⟩=some (.slice (some ⟨g',0,none⟩) (path.length + 1) c1):=(bC_ hM7.h7 0).trans (by simp)
        have z1:w7.cell? ⟨B7,1,none⟩=some (.string fd2):=(bC_ hM7.h7 1).trans rfl
        have n0:w7.cell? ⟨bk,0,none⟩=some (.int .i64 k.f0):=(bC_ hM7.hk 0).trans rfl
        have n1:w7.cell? ⟨bk,1,none⟩=some (.int .i64 k.f1):=(bC_ hM7.hk 1).trans rfl
        have n2:w7.cell? ⟨bk,2,none⟩=some (.int .i64 k.f2):=(bC_ hM7.hk 2).trans rfl
        have n3:w7.cell? ⟨bk,3,none⟩=some (.int .i64 k.f3):=(bC_ hM7.hk 3).trans rfl
        have n4:w7.cell? ⟨bk,4,none⟩=some (.slice B4 k.f4.length e4):=(bC_ hM7.hk 4).trans rfl
        have n5:w7.cell? ⟨bk,5,none⟩=some (.string k.f5):=(bC_ hM7.hk 5).trans rfl
        have n6:w7.cell? ⟨bk,6,none⟩=some (.slice B6 k.f6.length e6):=(bC_ hM7.hk 6).trans rfl
        have m0:w7.cell? ⟨bg,0,none⟩=some (.slice G0 g.g0.length d0):=(bC_ hM7.own.pre.hg 0).trans rfl
        have m1:w7.cell? ⟨bg,1,none⟩=some (.slice G1 g.g1.length d1):=(bC_ hM7.own.pre.hg 1).trans rfl
        have m2:w7.cell? ⟨bg,2,none⟩=some (.slice G2 g.g2.length d2):=(bC_ hM7.own.pre.hg 2).trans rfl
        have m3:w7.cell? ⟨bg,3,none⟩=some (.slice G3 g.g3.length d3):=(bC_ hM7.own.pre.hg 3).trans rfl
        have m4:w7.cell? ⟨bg,4,none⟩=some (.slice G4 g.g4.length d4):=(bC_ hM7.own.pre.hg 4).trans rfl
        have hc31:=kids_calls g G0 d0 G1 d1 G2 d2 G3 d3 G4 d4 k B4 e4 B6 e6 (path ++ [(i:Int)]) fd2 (some ⟨g',0,none⟩) c1 w7
        rw [hpl] at hc31
        replace hc31:=Az.mk hc31
        replace hM7:=Az.mk hM7
        replace hJ7:=Az.mk hJ7
        replace hpl:=Az.mk hpl
        gi_wp2_with (refine⟨trivial,rfl,?_⟩;gi_at_call 31;refine CallsIn.mono (callsIn_wide.2 hc31.out) ?_;rintro e w8 ⟨bn',bw',bg',rfl,hb8,hge1,hge2,hge3,hn8,hw8,hg8⟩;replace hb8:=Az.mk hb8;replace hn8:=Az.mk hn8;replace hw8:=Az.mk hw8;replace hg8:=Az.mk hg8)
        clear z0 z1 n0 n1 n2 n3 n4 n5 n6 m0 m1 m2 m3 m4
        have hM8:=hM7.out.go hb8.out.size (fun j _ b=>hb8.out.block j b) (fun j h=>.inl h)
        have hJ8:J cnt S w8:=HJ.out.step hJ7.out (Chg.of_below _ hb8.out)
        have hB8:=HJ.out.bound hJ8
        have hnS8:∀ x,w7.heap.size≤x→¬ S x:=fun x hx h=>by have:=(HJ.out.bound hJ7.out).2 x h;omega
        have hP8:PreK bn' bw' bg' g G0 d0 G1 d1 G2 d2 G3 d3 G4 d4 k B4 e4 B6 e6 (path ++ [(i:Int)]) fd2 (some ⟨g',0,none⟩) c1 w8 (Fr S w8) :=
          ⟨hn8.out,⟨hnS8 _ hge1,blk_lt hn8.out⟩,hw8.out,⟨hnS8 _ hge2,blk_lt hw8.out⟩,hg8.out,⟨hnS8 _ hge3,blk_lt hg8.out⟩,hM8.nf,hM8.pf,hM8.own.pre.gf⟩
        replace hM8:=Az.mk hM8
        refine wpIn_wide.2 (RF.range (gf:=42) (lb:=#[.pointer (some ⟨bn',0,none⟩),.pointer (some ⟨bw',0,none⟩),.pointer (some ⟨bg',0,none⟩)]) rfl (fun args w=>enters_ Try.func42 (by kernel_rfl) rfl args w)
          (HI.out k (path ++ [(i:Int)]) fd2 ra hra.out bn' bw' bg' B4 e4 B6 e6 (some ⟨g',0,none⟩) c1) (NestI J cnt S w8) (nest_stable HJ.out hB8.1) S ⟨hJ8,fun _ _ _=>rfl,fun _ h=>.inl h,Nat.le_refl _⟩
          (fun W' ok hb hok=>hP8.go (fun x _ b=>hb.block x b) (fun x a b=>hok x b a.1))
          (fun h ⟨it,a,b⟩=>⟨it,a,b.go (fun _ _ _=>rfl) (fun k a _=>h k a)⟩) ?body ?done)
        case done =>
          intro D S1 w9 hI hSD hgeD hD
          obtain⟨hJ9,hk9,hs9,hz9⟩:=hI
          have hi63:=HZ.out.2
          replace hJ9:=Az.mk hJ9
          replace hk9:=Az.mk hk9
          replace hs9:=Az.mk hs9
          replace hD:=Az.mk hD
          replace hP8:=Az.mk hP8
          replace hJ8:=Az.mk hJ8
          replace hB8:=Az.mk hB8
          replace hnS8:=Az.mk hnS8
          gi_wp2
          have hi1:(i:Int) + 1=((i + 1:Nat):Int):=by omega
          rw [hi1]
          have hOwn:Own W l bn bw bg py g G0 d0 G1 d1 G2 d2 G3 d3 G4 d4 n A4 c4 (some ad) c6 path fd Ap cp Ds S1 w9:=hM8.out.own.go hz9 (fun x a b=>hk9.out x b a) hs9.out
          refine hKK.out _ _ (Handed.intro (m - 1) (by omega) (hJJ.out _ _ _ ⟨_,_,_,_,_,_,_,_,_,_,_,_,_,_,_,_,_,_,_,_,_,_,_,_,_,_,_,_,_,_,_,_,_,_,_,_,_,_,_,_,_,_,_,_,_,_,_,_,_,_,_,_,_,D :: Ds,i + 1,cnt + ra.length,S1,rfl,by omega,by omega,?_,?_,hJ9.out,⟨hOwn.pre,hOwn.y,hOwn.sy,hOwn.hy,?_,?_⟩⟩))
          · rw [hrb.out,← List.drop_drop,hab.out,List.drop_left]
          · have:=congrArg List.length hab.out
            simp at this
            omega
          · refine List.nodup_cons.2 ⟨fun hm=>?_,hOwn.nd⟩
            have:=(Array.getElem?_eq_some_iff.1 (hM8.out.own.d D hm).1).1
            omega
          intro E hE
          rcases List.mem_cons.1 hE with rfl|hE
          · exact⟨hD.out,hSD,Nat.le_trans hB8.out.1 hgeD⟩
          exact hOwn.d E hE
        case body =>
          rintro l' j S1 w9 v hj ⟨hJ9,hk9,hs9,hz9⟩ hl' hge' ⟨rr,hrr⟩ ⟨it,hit,hv⟩
          have hlt':l' < w9.heap.size:=blk_lt hrr
          have hcl:j < ra.length:=hj
          have hrc:r[cnt + j]?=some it:=by
            rw [← List.getElem?_drop,hab.out,List.getElem?_append_left hj]
            exact hit
          obtain⟨Ap',cp',A4',c4',A6',c6',rfl,hvp,hvn⟩:=hv
          have hyS:¬ S1 py:=fun h=>(hs9 _ h).elim hM8.out.own.sy (fun h=>by have:=blk_lt hM8.out.own.y;omega)
          have hy8:=blk_lt hM8.out.own.y
          have hy9:w9.heap[py]?=some (.cells #[.func (.yield l) #[] #[]] 80 (0,0)):=(hk9 _ hy8 hM8.out.own.sy).trans hM8.out.own.y
          have hJ9b:=HJ.out.bound hJ9
          replace hJ9:=Az.mk hJ9
          replace hk9:=Az.mk hk9
          replace hs9:=Az.mk hs9
          replace hrr:=Az.mk hrr
          replace hit:=Az.mk hit
          replace hrc:=Az.mk hrc
          replace hvp:=Az.mk hvp
          replace hvn:=Az.mk hvn
          replace hy9:=Az.mk hy9
          replace hJ9b:=Az.mk hJ9b
          replace hyS:=Az.mk hyS
          replace hP8:=Az.mk hP8
          replace hJ8:=Az.mk hJ8
          replace hB8:=Az.mk hB8
          replace hnS8:=Az.mk hnS8
          simp only [List.setIfInBounds_toArray,List.set_cons_succ,List.set_cons_zero]
          gi_wp2
          refine⟨Below.heap_alloc _ _ _ hlt',Chg.alloc _ _ _,fun o=>?_⟩
          obtain⟨w10,hw10⟩:∃ w10,(w9.alloc (.cells #[.slice Ap' it.path.length cp',.string it.fld,.int .i64 it.node.f0,.int .i64 it.node.f1,.int .i64 it.node.f2,.int .i64 it.node.f3,.slice A4' it.node.f4.length c4',.string it.node.f5,.slice A6' it.node.f6.length c6'] 61)).putObj l' (.loop o)=w10:=⟨_,rfl⟩
          have hne10:w9.heap.size≠l':=by omega
          have hz10:w10.heap[w9.heap.size]?=some (.cells #[.slice Ap' it.path.length cp',.string it.fld,.int .i64 it.node.f0,.int .i64 it.node.f1,.int .i64 it.node.f2,.int .i64 it.node.f3,.slice A4' it.node.f4.length c4',.string it.node.f5,.slice A6' it.node.f6.length c6'] 61 (0,0)):=by
            rw [← hw10];exact(World.putObj_heap_other hne10).trans (blk_new _ _)
          have hsz10:w10.heap.size=w9.heap.size + 1:=by rw [← hw10];simp
          have hc10:∀ x,x < w9.heap.size→x≠l'→w10.heap[x]?=w9.heap[x]?:=fun x h1 h2=>by
            rw [← hw10];exact(World.putObj_heap_other h2).trans (Below.heap_alloc _ _ _ h1)
          have hchg10:Chg (fun x=>W.heap.size≤x∧¬ S1 x) w9 w10:=by
            rw [← hw10]
            exact(Chg.alloc _ _ _).trans (Chg.put _ _ _ ⟨by have:=hB8.out.1;omega,hl'⟩) (fun _ _ h=>h)
          rw [hw10]
          have hJ10:=HJ.out.step hJ9.out hchg10
          have hFr10:∀ x,(Fr S1 w9 x∧x≠l')→x < w9.heap.size→Fr S1 w10 x:=fun x a b=>⟨a.1.1,by omega⟩
          obtain⟨fn,tmps,assign,body,hy,hR⟩:=HY.out (cnt + j) S1 w10 (.agg #[.slice Ap' it.path.length cp',.string it.fld,.int .i64 it.node.f0,.int .i64 it.node.f1,.int .i64 it.node.f2,.int .i64 it.node.f3,.slice A4' it.node.f4.length c4',.string it.node.f5,.slice A6' it.node.f6.length c6']) (by have:=(List.getElem?_eq_some_iff.1 hrc.out).1;omega) hJ10
            ⟨it,hrc.out,Ap',cp',A4',c4',A6',c6',rfl,hvp.out.go (fun x a b=>hc10 x b a.2) hFr10,hvn.out.go (fun x a b=>hc10 x b a.2) hFr10⟩
          have hpyl:py≠l':=by have:=blk_lt hM8.out.own.y;omega
          have y10:w10.cell? ⟨py,0,none⟩=some (.func (.yield l) #[] #[]):=(bC_ ((hc10 _ (blk_lt hy9.out) hpyl).trans hy9.out) 0).trans rfl
          have z0:w10.cell? ⟨w9.heap.size,0,none⟩=some (.slice Ap' it.path.length cp'):=(bC_ hz10 0).trans rfl
          have z1:w10.cell? ⟨w9.heap.size,1,none⟩=some (.string it.fld):=(bC_ hz10 1).trans rfl
          have z2:w10.cell? ⟨w9.heap.size,2,none⟩=some (.int .i64 it.node.f0):=(bC_ hz10 2).trans rfl
          have z3:w10.cell? ⟨w9.heap.size,3,none⟩=some (.int .i64 it.node.f1):=(bC_ hz10 3).trans rfl
          have z4:w10.cell? ⟨w9.heap.size,4,none⟩=some (.int .i64 it.node.f2):=(bC_ hz10 4).trans rfl
          have z5:w10.cell? ⟨w9.heap.size,5,none⟩=some (.int .i64 it.node.f3):=(bC_ hz10 5).trans rfl
          have z6:w10.cell? ⟨w9.heap.size,6,none⟩=some (.slice A4' it.node.f4.length c4'):=(bC_ hz10 6).trans rfl
          have z7:w10.cell? ⟨w9.heap.size,7,none⟩=some (.string it.node.f5):=(bC_ hz10 7).trans rfl
          have z8:w10.cell? ⟨w9.heap.size,8,none⟩=some (.slice A6' it.node.f6.length c6'):=(bC_ hz10 8).trans rfl
          replace hR:=Az.mk hR
          replace hw10:=Az.mk hw10
          replace hz10:=Az.mk hz10
          replace hc10:=Az.mk hc10
          replace hchg10:=Az.mk hchg10
          replace hJ10:=Az.mk hJ10
          replace hFr10:=Az.mk hFr10
          replace hsz10:=Az.mk hsz10
          gi_wp2
          refine⟨rfl,RoundIn.mono (F:=Fence.wide.inRound l') hR.out ?_⟩
          rintro e w11 ⟨rfl,S',hJ11,hc11,hS11⟩
          replace hJ11:=Az.mk hJ11
          replace hc11:=Az.mk hc11
          replace hS11:=Az.mk hS11
          gi_wp2
          refine⟨rfl,S',⟨hJ11.out,fun x h1 h2=>?_,fun x h=>?_,?_⟩,hc11.out,fun x h=>?_⟩
          · have h3:¬ S1 x:=fun h=>(hs9.out _ h).elim h2 (fun h=>by omega)
            exact(hc11.out.block x (by have:=hsz10.out;omega) h3).trans ((hc10.out x (by omega) (by omega)).trans (hk9.out x h1 h2))
          · rcases hS11.out x h with h|h
            · exact hs9.out x h
            have:=hsz10.out;exact .inr (by omega)
          · have:=hsz10.out;have:=hc11.out.size;omega
          rcases hS11.out x h with h|h
          · exact .inl h
          have:=hsz10.out;exact .inr (by omega)
end Go.Proofs.Ytgdbcogbbghjaaa.Hand
