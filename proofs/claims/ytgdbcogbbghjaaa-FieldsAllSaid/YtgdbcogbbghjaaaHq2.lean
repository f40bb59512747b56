import Derived.Test.YtgdbcogbbghjaaaHq0
namespace Go.Proofs.Ytgdbcogbbghjaaa.Hand
open Go.RowKit Go.Proofs.YtgdbcogbbghjaaaW.PrintWords Go.Proofs.YtgdbcogbbghjaaaW.PrintLast Go.Proofs.YtgdbcogbbghjaaaW.PrintMore Go.Proofs.Ytgdbcogbbghjaaa.Q Go.Proofs.Ytgdbcogbbghjaaa.RF
attribute [local go_sem] Oper.semAt_some
set_option linter.unusedVariables false
set_option linter.unusedSimpArgs false
set_option maxRecDepth 100000
section
variable {α:Type} {d:Kd α} {e T bl:Nat} {w0 w8:World} {acc:Nat→List α}
def CollS (d:Kd α)(e T:Nat)(w0 w8:World)(bl:Nat)(acc:Nat→List α)(j:Nat)(S:Nat→Prop)(W:World):Prop :=
  S bl∧(∀ k,S k→k < W.heap.size∧w0.heap.size≤k)∧(w8.heap.size≤W.heap.size∧(∀ k,S k→k=bl∨w8.heap.size≤k)∧∀ k,k < w8.heap.size→k≠bl→W.heap[k]?=w8.heap[k]?) ∧
    ∃ v,W.heap[bl]?=some (.cells #[v] T (0,0))∧Kd.S d e W w0.heap.size (fun k=>S k∧k≠bl) v (acc j)∧Below w0.heap.size w0 W
theorem collS_stable (hB:w0.heap.size≤w8.heap.size):Stable w8.heap.size (CollS d e T w0 w8 bl acc):=by
  refine⟨fun h=>⟨h.2.2.1.1,fun k hk=>(h.2.1 k hk).1⟩,fun {i S W W'} h hc=>?_⟩
  obtain⟨h1,h2,⟨h3,h7,h8⟩,v,h4,h5,h6⟩:=h
  refine⟨h1,fun k hk=>⟨Nat.lt_of_lt_of_le (h2 k hk).1 hc.size,(h2 k hk).2⟩,⟨Nat.le_trans h3 hc.size,h7,fun k hk hn=>(hc.block k (by omega) (fun h=>by omega)).trans (h8 k hk hn)⟩,v,hc.same h4 (fun h=>h.2 h1),Kd.S_step h5 (fun k hk hlt=>hc.block k hlt (fun h=>h.2 hk.1)),?_⟩
  exact hc.below_then h6 h6.size (fun k hk h=>by omega)
theorem collS_next {j:Nat}{S:Nat→Prop}{W W1 W2:World}{a:Act}{v:Value}(h:CollS d e T w0 w8 bl acc j S W)(g:CollS d e T w0 w8 bl acc j S W1)(hW:W.heap.size≤W1.heap.size)(hb:W2.heap[bl]?=some (.cells #[v] T (0,0)))
    (hR:Kd.S d e W2 w0.heap.size (fun k=>(S k∨W.heap.size≤k)∧k≠bl) v (acc (j + 1))) (hc:Chg S W1 W2) (hB:Below w0.heap.size w0 W2):RPost (CollS d e T w0 w8 bl acc) j S W W1 .normal a W2:=by
  obtain⟨h1,h2,⟨h3,h7,h8⟩,_,_,_,h6⟩:=h
  obtain⟨_,_,⟨g3,_,g8⟩,_⟩:=g
  refine⟨rfl,fun k=>(S k∨W.heap.size≤k)∧k < W2.heap.size,⟨⟨.inl h1,blk_lt hb⟩,fun k hk=>⟨hk.2,hk.1.elim (fun h=>(h2 k h).2) (fun h=>Nat.le_trans h6.size h)⟩,⟨Nat.le_trans h3 (Nat.le_trans hW hc.size),fun k hk=>hk.1.elim (h7 k) (fun h=>.inr (Nat.le_trans h3 h)),fun k hk hn=>?_⟩,v,hb,?_,hB⟩,hc,fun k hk=>hk.1⟩
  · exact(hc.block k (by omega) (fun h=>(h7 k h).elim hn (fun h=>by omega))).trans (g8 k hk hn)
  · exact Kd.S_mono (Kd.S_bound hR) (fun k hk=>⟨⟨hk.1.1,hk.2.2.1⟩,hk.1.2⟩)
end
set_option maxHeartbeats 8000000 in
theorem pathsOf_callsS (fu:Nat)(g:Gr)(G0:Option Addr)(d0:Nat)(G1:Option Addr)(d1:Nat)(G2:Option Addr)(d2:Nat)(G3:Option Addr)(d3:Nat)(G4:Option Addr)(d4:Nat)(n:S32)(A4:Option Addr)(c4:Nat)(A6:Option Addr)(c6:Nat)(r:List (List Int))(w:World)
    (hr0:Kd.C Kd.string w G0 g.g0.length g.g0) (hc0:g.g0.length≤d0) (hr1:Kd.C Kd.string w G1 g.g1.length g.g1) (hc1:g.g1.length≤d1) (hr2:Kd.C (Kd.int .i64) w G2 g.g2.length g.g2) (hc2:g.g2.length≤d2)
    (hr3:Kd.C k67 w G3 g.g3.length g.g3) (hc3:g.g3.length≤d3) (hr4:Kd.C k78 w G4 g.g4.length g.g4) (hc4:g.g4.length≤d4) (hrl:Kd.C k53 w A4 n.f4.length n.f4) (hcl:n.f4.length≤c4) (hrk:Kd.C k32 w A6 n.f6.length n.f6) (hck:n.f6.length≤c6)
    (h:pathsOf fu g n=some r) :
    Calls Try.prog 11 #[.agg #[.slice G0 g.g0.length d0,.slice G1 g.g1.length d1,.slice G2 g.g2.length d2,.slice G3 g.g3.length d3,.slice G4 g.g4.length d4],.agg #[.int .i64 n.f0,.int .i64 n.f1,.int .i64 n.f2,.int .i64 n.f3,.slice A4 n.f4.length c4,.string n.f5,.slice A6 n.f6.length c6]] w fun e w'=>∃ v0_:Value,e=.returned (v0_)∧Kd.S (Kd.slice 3 (Kd.int .i64)) 42 w' w.heap.size (fun _=>True) v0_ r∧Below w.heap.size w w':=by
  unfold pathsOf at h
  obtain⟨its,hits,h⟩:=Option.bind_eq_some_iff.1 h
  by_cases hlen:its.length < 5864062014805∧its.all (fun it=>decide (it.path.length < 17592186044416))=true
  case neg=>rw [if_neg hlen] at h;cases h
  rw [if_pos hlen] at h
  obtain rfl:=Option.some.inj h
  clear h
  have hu32:=Try.underlying32
  have hu59:=Try.underlying59
  have hu27:=Try.underlying27
  have hu61:=Try.underlying61
  have hN:NodeF w (fun k=>k < w.heap.size) n A4 c4 A6 c6:=⟨hcl,Kd.C_F k53_heap hrl,hck,Kd.C_F k32_heap hrk⟩
  have hG:GramF w (fun k=>k < w.heap.size) g G0 d0 G1 d1 G2 d2 G3 d3 G4 d4:=⟨hc0,Kd.C_F Kd.heap_string hr0,hc1,Kd.C_F Kd.heap_string hr1,hc2,Kd.C_F (Kd.heap_int .i64) hr2,hc3,Kd.C_F k67_heap hr3,hc4,Kd.C_F k78_heap hr4⟩
  have hkids:=kids_gives g G0 d0 G1 d1 G2 d2 G3 d3 G4 d4 fu n [] ⟨#[]⟩ its hits
  replace hN:=Az.mk hN
  replace hG:=Az.mk hG
  replace hkids:=Az.mk hkids
  replace hits:=Az.mk hits
  replace hlen:=Az.mk hlen
  clear hr0 hc0 hr1 hc1 hr2 hc2 hr3 hc3 hr4 hc4 hrl hcl hrk hck
  refine(callsIn_wide (n:=0)).1 (callsIn_of_wp_marks Try.func11 rfl trivial ?_)
  simp only [Try.ntmps11,List.size_toArray,List.length_cons,List.length_nil,Nat.reduceAdd,Nat.reduceSub,Array.replicate_succ,Array.replicate_zero,List.push_toArray,List.append_toArray,List.nil_append,List.cons_append]
  gi_wp2_with (refine⟨trivial,rfl,?_⟩;gi_at_call 31;refine CallsIn.mono (callsIn_wide.2 (kids_calls g G0 d0 G1 d1 G2 d2 G3 d3 G4 d4 n A4 c4 A6 c6 [] ⟨#[]⟩ none 0 _)) ?_;rintro e w8 ⟨bn',bw',bg',rfl,hb8,hge1,hge2,hge3,hn8,hw8,hg8⟩;replace hb8:=Az.mk hb8;replace hn8:=Az.mk hn8;replace hw8:=Az.mk hw8;replace hg8:=Az.mk hg8)
  generalize hbl:w.heap.size + 1 + 1=bl at *
  have hbox:w8.heap[bl]?=some (.cells #[.slice none 0 0] 36 (0,0)):=kB_ (new_at _ _ (by simp;omega)) hb8.out
  have hB8:Below w.heap.size w w8:=bT_ (bA_ (bA_ (bA_ (Below.refl _ _) _) _) _) hb8.out
  have hble:w.heap.size≤bl:=by omega
  have hge:w.heap.size≤bn'∧w.heap.size≤bw'∧w.heap.size≤bg'∧bn'≠bl∧bw'≠bl∧bg'≠bl:=by simp at hge1 hge2 hge3;omega
  have hP8:PreK bn' bw' bg' g G0 d0 G1 d1 G2 d2 G3 d3 G4 d4 n A4 c4 A6 c6 [] ⟨#[]⟩ none 0 w8 (Fr (fun k=>k=bl) w8):=by
    have hm:∀ k,k < w.heap.size→k < w.heap.size→w8.heap[k]?=w.heap[k]?:=fun k _ b=>hB8.block k b
    have hk:∀ k,k < w.heap.size→k < w.heap.size→Fr (fun k=>k=bl) w8 k:=fun k a _=>⟨fun e=>by omega,Nat.lt_of_lt_of_le a hB8.size⟩
    exact⟨hn8.out,⟨hge.2.2.2.1,blk_lt hn8.out⟩,hw8.out,⟨hge.2.2.2.2.1,blk_lt hw8.out⟩,hg8.out,⟨hge.2.2.2.2.2,blk_lt hg8.out⟩,hN.out.go hm hk,⟨Nat.le_refl _,Kd.F_nil _ _ _⟩,hG.out.go hm hk⟩
  have hbl8:bl < w8.heap.size:=blk_lt hbox
  clear hb8 hge1 hge2 hge3 hn8 hw8 hg8 hge
  refine wpIn_wide.2 (RF.range (gf:=42) (lb:=#[.pointer (some ⟨bn',0,none⟩),.pointer (some ⟨bw',0,none⟩),.pointer (some ⟨bg',0,none⟩)]) rfl (fun args w=>enters_ Try.func42 (by kernel_rfl) rfl args w)
    (hkids.out bn' bw' bg' A4 c4 A6 c6 none 0) (CollS (Kd.slice 3 (Kd.int .i64)) 42 36 w w8 bl (fun j=>(its.map (·.path)).take j)) (collS_stable hB8.size) (fun k=>k=bl)
    ⟨rfl,fun k e=>by rw [e];exact⟨hbl8,hble⟩,⟨Nat.le_refl _,fun k e=>.inl e,fun _ _ _=>rfl⟩,.slice none 0 0,hbox,by simpa using Kd.S_nil _ _ _ _ _,hB8⟩
    (fun W' ok hb hok=>hP8.go (fun x _ b=>hb.block x b) (fun x a b=>hok x b a.1))
    (fun h ⟨it,a,b⟩=>⟨it,a,b.go (fun _ _ _=>rfl) (fun k a _=>h k a)⟩) ?body ?done)
  case done =>
    intro D S1 w9 hI hSD hgeD hD
    obtain⟨h1,h2,h3,v,h4,h5,h6⟩:=hI
    replace hP8:=Az.mk hP8
    replace hB8:=Az.mk hB8
    replace hbox:=Az.mk hbox
    obtain⟨A,c,eA⟩:=Kd.S_slice h5
    subst eA
    have y0:w9.cell? ⟨bl,0,none⟩=some (.slice A ((fun j=>(its.map (·.path)).take j) its.length).length c):=(bC_ h4 0).trans rfl
    replace h2:=Az.mk h2
    replace h4:=Az.mk h4
    replace h5:=Az.mk h5
    replace h6:=Az.mk h6
    replace hD:=Az.mk hD
    generalize hL:((fun j=>(its.map (·.path)).take j) its.length).length=L at *
    replace hL:=Az.mk hL
    gi_wp2
    refine leaves_marks [D] w9 (by simp) (fun E hE=>by rw [List.mem_singleton.1 hE];exact hD.out) fun w' hc=>?_
    refine⟨_,results_single rfl (.tmp .nil),_,rfl,?_,?_⟩
    · have hfin:(fun j=>(its.map (·.path)).take j) its.length=its.map (·.path):=by exact List.take_of_length_le (by simp)
      have:=Kd.S_step h5.out (w1:=w') (fun k hk hlt=>hc.block k hlt (fun hm=>hSD (by rw [← List.mem_singleton.1 hm];exact hk.1)))
      exact Eq.mp (congrArg (fun xs=>Kd.S (Kd.slice 3 (Kd.int .i64)) 42 w' w.heap.size (fun _=>True) (.slice A L c) xs) hfin) (Kd.S_mono this (fun _ _=>trivial))
    · exact hc.below_then h6.out h6.out.size (fun k hk hm=>by rw [List.mem_singleton.1 hm] at hk;have:=hB8.out.size;omega)
  case body =>
    rintro l' j S1 w9 v hj hI hl' hge' ⟨rr,hrr⟩ ⟨it,hit,hv⟩
    have hlt':l' < w9.heap.size:=blk_lt hrr
    obtain⟨Ap',cp',A4',c4',A6',c6',rfl,hvp,hvn⟩:=hv
    replace hI:=Az.mk hI
    replace hP8:=Az.mk hP8
    replace hB8:=Az.mk hB8
    replace hbox:=Az.mk hbox
    replace hrr:=Az.mk hrr
    replace hit:=Az.mk hit
    replace hvp:=Az.mk hvp
    replace hvn:=Az.mk hvn
    simp only [List.setIfInBounds_toArray,List.set_cons_succ,List.set_cons_zero]
    gi_wp2
    refine⟨Below.heap_alloc _ _ _ hlt',Chg.alloc _ _ _,fun o=>?_⟩
    obtain⟨w10,hw10⟩:∃ w10,(w9.alloc (.cells #[.slice Ap' it.path.length cp',.string it.fld,.int .i64 it.node.f0,.int .i64 it.node.f1,.int .i64 it.node.f2,.int .i64 it.node.f3,.slice A4' it.node.f4.length c4',.string it.node.f5,.slice A6' it.node.f6.length c6'] 61)).putObj l' (.loop o)=w10:=⟨_,rfl⟩
    have hne10:w9.heap.size≠l':=by omega
    have hz10:w10.heap[w9.heap.size]?=some (.cells #[.slice Ap' it.path.length cp',.string it.fld,.int .i64 it.node.f0,.int .i64 it.node.f1,.int .i64 it.node.f2,.int .i64 it.node.f3,.slice A4' it.node.f4.length c4',.string it.node.f5,.slice A6' it.node.f6.length c6'] 61 (0,0)):=by
      rw [← hw10];exact(World.putObj_heap_other hne10).trans (blk_new _ _)
    have hsz10:w10.heap.size=w9.heap.size + 1:=by rw [← hw10];simp
    have hc10:∀ x,x < w9.heap.size→x≠l'→w10.heap[x]?=w9.heap[x]?:=fun x h1 h2=>by
      rw [← hw10];exact(World.putObj_heap_other h2).trans (Below.heap_alloc _ _ _ h1)
    have hchg10:Chg (fun x=>w8.heap.size≤x∧¬ S1 x) w9 w10:=by
      rw [← hw10]
      exact(Chg.alloc _ _ _).trans (Chg.put _ _ _ ⟨hge',hl'⟩) (fun _ _ h=>h)
    rw [hw10]
    have hI10:=(collS_stable hB8.out.size).step hI.out hchg10
    have hFr10:∀ x,(Fr S1 w9 x∧x≠l')→x < w9.heap.size→Fr S1 w10 x:=fun x a b=>⟨a.1.1,by omega⟩
    have hvp10:=hvp.out.go (fun x a b=>hc10 x b a.2) hFr10
    have hvn10:=hvn.out.go (fun x a b=>hc10 x b a.2) hFr10
    have hnext:=fun {W2:World} {a:Act} {v:Value} hb hR hc hB=>collS_next (d:=(Kd.slice 3 (Kd.int .i64))) (e:=42) (T:=36) (w0:=w) (w8:=w8) (bl:=bl) (acc:=(fun j=>(its.map (·.path)).take j)) (W1:=w10) (W2:=W2) (a:=a) (v:=v) hI.out hI10 (by omega) hb hR hc hB
    obtain⟨i1,i2,⟨i3,_,i8⟩,v,i4,i5,i6⟩:=hI10
    obtain⟨A,c,eA⟩:=Kd.S_slice i5
    generalize hL:((fun j=>(its.map (·.path)).take j) j).length=L at eA
    subst eA
    have hLb:L≤its.length:=by rw [← hL];simp;omega
    have hblw:bl < w9.heap.size:=by have:=hI.out.2.2.1.1;omega
    have hS9:∀ k,S1 k→k < w9.heap.size:=fun k hk=>(hI.out.2.1 k hk).1
    have y0:w10.cell? ⟨bl,0,none⟩=some (.slice A L c):=(bC_ i4 0).trans rfl
    replace hw10:=Az.mk hw10
    replace hc10:=Az.mk hc10
    replace hchg10:=Az.mk hchg10
    replace hFr10:=Az.mk hFr10
    replace hvp10:=Az.mk hvp10
    replace hvn10:=Az.mk hvn10
    replace hnext:=Az.mk @hnext
    replace hS9:=Az.mk hS9
    replace hL:=Az.mk hL
    replace i2:=Az.mk i2
    replace i4:=Az.mk i4
    replace i8:=Az.mk i8
    replace i5:=Az.mk i5
    replace i6:=Az.mk i6
    have z0:w10.cell? ⟨w9.heap.size,0,none⟩=some (.slice Ap' it.path.length cp'):=(bC_ hz10 0).trans rfl
    have hfre:∀ k,w10.heap.size≤k→(S1 k∨w9.heap.size≤k)∧k≠bl:=fun k hk=>⟨.inr (by omega),by omega⟩
    have hown1:some bl≠(Value.slice A L c).ownBlock:=Kd.S_away i5.out (fun k hk=>hk.2)
    have hS10:∀ k,(Value.slice A L c).ownBlock=some k→S1 k:=fun k hk=>((Kd.S_R i5.out).1 k hk).1
    have hlt10:∀ k,(Value.slice A L c).ownBlock=some k→k < w10.heap.size:=Kd.S_lt i5.out
    have hbl10:bl < w10.heap.size:=by omega
    replace hS10:=Az.mk hS10
    replace hlt10:=Az.mk hlt10
    replace hfre:=Az.mk hfre
    replace hown1:=Az.mk hown1
    replace hsz10:=Az.mk hsz10
    replace hz10:=Az.mk hz10
    have hdr:Below w10.heap.size w10 w10.drew:=below_drew (Below.refl _ _)
    have hpl:=List.all_eq_true.1 hlen.out.2 it (List.mem_of_getElem? hit.out)
    have hpl2:it.path.length < 17592186044416:=of_decide_eq_true hpl
    replace hpl:=Az.mk hpl
    have hSof:∀ w':World,Below w10.heap.size w10 w'→(w'.cell? ⟨bl,0,none⟩=some (.slice A L c)∧w'.cell? ⟨w9.heap.size,0,none⟩=some (.slice Ap' it.path.length cp')):=fun w' hb=>⟨pw_cell_below hb y0,pw_cell_below hb z0⟩
    replace hSof:=Az.mk hSof
    apply wpIn_block
    refine startR_ (n:=9) (S:=fun w'=>w'.cell? ⟨bl,0,none⟩=some (.slice A L c)∧w'.cell? ⟨w9.heap.size,0,none⟩=some (.slice Ap' it.path.length cp')) (ds:=[7,8]) #[false,false,false,false,false,false,false,false,false] (by kernel_rfl) (by kernel_rfl) ?_ rfl rfl ?_ ?_
    · rintro⟨a,w,h⟩;simp [Exit.inBlock,RPost] at h
    · exact hSof.out _ hdr
    intro hHeld
    generalize hw1d:w10.drew=W1d at hdr hHeld ⊢
    clear hw1d
    refine take_ (i:=0) (N:=some 12) (v:=?_) (a':=?_) #[true,false,false,false,false,false,false,false,false] rfl rfl (by kernel_rfl) (fun _ _ _ h=>h) (Or.inl ⟨by rfl,?_⟩) hHeld ?_ ?_
    rotate_left
    · rintro w' ⟨s0,s1⟩
      go_simp
      with_reducible rfl
    rotate_left
    · simp only [Act.put,List.setIfInBounds_toArray,List.set_cons_zero,List.set_cons_succ,i64_w,i32_w]
      rfl
    refine pure_ (i:=2) (N:=some 14) (v:=?_) (a':=?_) #[true,false,true,false,false,false,false,false,false] rfl rfl (by kernel_rfl) (fun _ _ _ h=>h) (Or.inl ⟨by rfl,?_⟩) ?_ ?_
    rotate_left
    · intro w'
      go_simp
      with_reducible rfl
    rotate_left
    · simp only [Act.put,List.setIfInBounds_toArray,List.set_cons_zero,List.set_cons_succ,i64_w,i32_w]
      rfl
    refine pure_ (i:=3) (N:=some 15) (v:=?_) (a':=?_) #[true,false,true,true,false,false,false,false,false] rfl rfl (by kernel_rfl) (fun _ _ _ h=>h) (Or.inl ⟨by rfl,?_⟩) ?_ ?_
    rotate_left
    · intro w'
      go_simp
      with_reducible rfl
    rotate_left
    · simp only [Act.put,List.setIfInBounds_toArray,List.set_cons_zero,List.set_cons_succ,i64_w,i32_w]
      rfl
    refine take_ (i:=4) (N:=some 16) (v:=?_) (a':=?_) #[true,false,true,true,true,false,false,false,false] rfl rfl (by kernel_rfl) (fun _ _ _ h=>h) (Or.inl ⟨by rfl,?_⟩) hHeld ?_ ?_
    rotate_left
    · rintro w' ⟨s0,s1⟩
      go_simp
      with_reducible rfl
    rotate_left
    · simp only [Act.put,List.setIfInBounds_toArray,List.set_cons_zero,List.set_cons_succ,i64_w,i32_w]
      rfl
    refine one_ (i:=1) (N:=some 13) #[true,true,true,true,true,false,false,false,false] rfl rfl (by kernel_rfl) (by decide) (fun K hK=>?_)
    refine value_ (w1:=?_) (v:=?_) (by rfl) rfl ?_ ?_
    rotate_left 2
    · go_simp
      constructor
      · rfl
      · rfl
    have hb12:=bA_ hdr (.cells #[] 3)
    refine hK.out _ _ (hSof.out _ hb12) (fun hHeld=>?_)
    clear hK K
    refine norm_ (a':=?_) ?_ ?_
    rotate_left
    · show Act.put _ (some 13) _=_
      simp only [Act.put,List.setIfInBounds_toArray,List.set_cons_zero,List.set_cons_succ,i64_w,i32_w]
      rfl
    refine one_ (i:=5) (N:=some 17) #[true,true,true,true,true,true,false,false,false] rfl rfl (by kernel_rfl) (by decide) (fun K hK=>?_)
    refine Kd.R_append_rows_step (Kd.int .i64) (w0:=w) w.heap.size (by rfl) (.tmp 13) (.tmp 16) 42 3 (.int .i64 0) 8 rfl Try.underlying42 info3 rfl (by decide) (by omega) (.slice (some ⟨W1d.heap.size,0,none⟩) 0 0) ([]:List Int) it.path Ap' it.path.length cp' (fun k=>w10.heap.size≤k) (fun _=>False) rfl rfl
      (Kd.R_of_own (xs:=([]:List Int)) (own_lit W1d w.heap.size 3 .i64 [] (by have:=i6.out.size;have:=hdr.size;omega) (by simp)) (fun k hk=>by simp [Value.ownBlock] at hk;have:=hdr.size;omega)) (Kd.C_below (Kd.F_now hvp10.out.f) hb12) (fun _ _ h=>h) (fun _ h=>h.elim) (fun k hk=>by have:=hb12.size;omega) (bT_ i6.out hb12) (Nat.le_trans i6.out.size hb12.size) (by simp only [List.length_nil];omega) ?_
    intro v1 w11 ho hb hg hat
    rw [List.nil_append] at ho
    obtain⟨A1,c1,e1⟩:=Kd.R_slice ho
    subst e1
    have hb13:Below w10.heap.size w10 w11:=pw_below_grown hb12 _ hb12.size hg (fun k hk=>by simp [Value.ownBlock] at hk;have:=hdr.size;omega)
    refine hK.out _ _ (hSof.out _ hb13) (fun hHeld=>?_)
    replace ho:=Az.mk ho
    clear hb hg hat
    clear hK K
    refine norm_ (a':=?_) ?_ ?_
    rotate_left
    · show Act.put _ (some 17) _=_
      simp only [Act.put,List.setIfInBounds_toArray,List.set_cons_zero,List.set_cons_succ,i64_w,i32_w]
      rfl
    refine one_ (i:=6) (N:=some 18) #[true,true,true,true,true,true,true,false,false] rfl rfl (by kernel_rfl) (by decide) (fun K hK=>?_)
    refine value_ (w1:=?_) (v:=?_) (by rfl) rfl ?_ ?_
    rotate_left 2
    · go_simp
      constructor
      · rfl
      · rfl
    refine hK.out _ _ (hSof.out _ (bA_ hb13 _)) (fun hHeld=>?_)
    clear hK K
    refine norm_ (a':=?_) ?_ ?_
    rotate_left
    · show Act.put _ (some 18) _=_
      simp only [Act.put,List.setIfInBounds_toArray,List.set_cons_zero,List.set_cons_succ,i64_w,i32_w]
      rfl
    refine last_ (i:=7) (N:=some 19) #[true,true,true,true,true,true,true,true,false] rfl rfl (by kernel_rfl) (by decide) (fun K hK=>?_)
    refine Kd.S_append_step (Kd.slice 3 (Kd.int .i64)) (w0:=w) w.heap.size (by rfl) (.tmp 12) (.tmp 18) 36 42 (.slice none 0 0) 24 rfl Try.underlying36 info42 rfl (by decide) (by omega) (.slice A L c) ((its.map (·.path)).take j) it.path [.slice A1 it.path.length c1] (fun k=>(S1 k∨w9.heap.size≤k)∧k≠bl) (fun k=>w10.heap.size≤k) rfl rfl (Kd.M_row ho.out) (fun k hk=>⟨hfre.out k hk,fun e=>by have:=hlt10.out k e.symm;omega⟩) (fun k hk=>hfre.out k (Nat.le_trans hb13.size hk)) (Kd.S_mono (Kd.S_old i5.out hb13) (fun k hk=>⟨⟨.inl hk.1.1,hk.1.2⟩,by have:=hk.2;omega⟩)) (bT_ i6.out hb13) (Nat.le_trans i6.out.size hb13.size) (by have:((its.map (·.path)).take j).length=L:=hL.out;have:=hlen.out.1;omega) ?_
    intro v2 w12 ho2 hb2 hg2 hat2
    obtain⟨A2,c2,e2⟩:=Kd.S_slice ho2
    rw [show((its.map (·.path)).take j ++ [it.path]).length=L + 1 from(List.length_append.trans (congrArg (· + 1) hL.out))] at e2
    subst e2
    have b12:=blk_grown (kB_ i4.out hb13) hg2 hown1.out
    have s12:w12.cell? ⟨bl,0,none⟩=some (.slice A L c):=(bC_ b12 0).trans rfl
    have f12:=bF_ b12 0
    replace b12:=Az.mk b12
    replace ho2:=Az.mk ho2
    replace hb2:=Az.mk hb2
    replace hg2:=Az.mk hg2
    clear hat2
    refine hK.out _ _ ?_
    clear hK K
    refine norm_ (a':=?_) ?_ ?_
    rotate_left
    · show Act.put _ (some 19) _=_
      simp only [Act.put,List.setIfInBounds_toArray,List.set_cons_zero,List.set_cons_succ,i64_w,i32_w]
      rfl
    refine last_ (i:=8) (N:=none) #[true,true,true,true,true,true,true,true,true] rfl rfl (by kernel_rfl) (by decide) (fun K hK=>?_)
    refine skip_ (w1:=?_) (by rfl) rfl ?_ ?_
    rotate_left
    · go_simp
      rfl
    refine hK.out _ _ ?_
    clear hK K
    refine done_ (by kernel_rfl) ?_
    refine hnext.out (a:={ tmps:=#[],defers:=[] }) (kP_ b12.out 0 _ rfl) ?_ ?_ ?_
    · exact Eq.mp (congrArg (fun xs=>Kd.S (Kd.slice 3 (Kd.int .i64)) 42 _ w.heap.size (fun k=>(S1 k∨w9.heap.size≤k)∧k≠bl) _ xs) (acc_succ (fun x:It=>x.path) hit.out).symm) (Kd.S_far ho2.out (fun k hk=>hk.2) _)
    · refine Chg.trans (T:=S1) (Chg.trans (T:=S1) (Chg.of_below S1 hb13) (w':=w11) (w2:=w12) ⟨hg2.out.os,hg2.out.tape,hg2.out.output,hg2.out.size,fun k hk hn=>hg2.out.block k hk (fun e=>hn (hS10.out k e.symm))⟩ (fun _ _ h=>h)) (Chg.set w12 _ _ i1) (fun _ _ h=>h)
    · exact bS_ hb2.out hble
theorem pathsOf_calls (fu:Nat)(g:Gr)(G0:Option Addr)(d0:Nat)(G1:Option Addr)(d1:Nat)(G2:Option Addr)(d2:Nat)(G3:Option Addr)(d3:Nat)(G4:Option Addr)(d4:Nat)(n:S32)(A4:Option Addr)(c4:Nat)(A6:Option Addr)(c6:Nat)(r:List (List Int))(w:World)
    (hr0:Kd.C Kd.string w G0 g.g0.length g.g0) (hc0:g.g0.length≤d0) (hr1:Kd.C Kd.string w G1 g.g1.length g.g1) (hc1:g.g1.length≤d1) (hr2:Kd.C (Kd.int .i64) w G2 g.g2.length g.g2) (hc2:g.g2.length≤d2)
    (hr3:Kd.C k67 w G3 g.g3.length g.g3) (hc3:g.g3.length≤d3) (hr4:Kd.C k78 w G4 g.g4.length g.g4) (hc4:g.g4.length≤d4) (hrl:Kd.C k53 w A4 n.f4.length n.f4) (hcl:n.f4.length≤c4) (hrk:Kd.C k32 w A6 n.f6.length n.f6) (hck:n.f6.length≤c6)
    (h:pathsOf fu g n=some r) :
    Calls Try.prog 11 #[.agg #[.slice G0 g.g0.length d0,.slice G1 g.g1.length d1,.slice G2 g.g2.length d2,.slice G3 g.g3.length d3,.slice G4 g.g4.length d4],.agg #[.int .i64 n.f0,.int .i64 n.f1,.int .i64 n.f2,.int .i64 n.f3,.slice A4 n.f4.length c4,.string n.f5,.slice A6 n.f6.length c6]] w fun e w'=>∃ v0_:Value,e=.returned (v0_)∧Kd.R (Kd.slice 3 (Kd.int .i64)) 42 w' w.heap.size (fun _=>True) v0_ r∧Below w.heap.size w w':=by
  refine(pathsOf_callsS fu g _ _ _ _ _ _ _ _ _ _ n _ _ _ _ r w hr0 hc0 hr1 hc1 hr2 hc2 hr3 hc3 hr4 hc4 hrl hcl hrk hck h).mono ?_
  rintro e w' ⟨v,rfl,a,b⟩
  exact⟨v,rfl,Kd.S_R a,b⟩
end Go.Proofs.Ytgdbcogbbghjaaa.Hand
