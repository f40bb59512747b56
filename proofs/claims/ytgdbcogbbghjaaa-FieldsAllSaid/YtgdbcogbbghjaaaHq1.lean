import Derived.Test.YtgdbcogbbghjaaaHq0
namespace Go.Proofs.Ytgdbcogbbghjaaa.Hand
open Go.RowKit Go.Proofs.YtgdbcogbbghjaaaW.PrintWords Go.Proofs.YtgdbcogbbghjaaaW.PrintLast Go.Proofs.YtgdbcogbbghjaaaW.PrintMore Go.Proofs.Ytgdbcogbbghjaaa.Q Go.Proofs.Ytgdbcogbbghjaaa.RF
attribute [local go_sem] Oper.semAt_some
set_option linter.unusedVariables false
set_option linter.unusedSimpArgs false
set_option maxRecDepth 100000
set_option maxHeartbeats 8000000 in
theorem fieldsOf_calls (fu:Nat)(g:Gr)(G0:Option Addr)(d0:Nat)(G1:Option Addr)(d1:Nat)(G2:Option Addr)(d2:Nat)(G3:Option Addr)(d3:Nat)(G4:Option Addr)(d4:Nat)(n:S32)(A4:Option Addr)(c4:Nat)(A6:Option Addr)(c6:Nat)(r:List (ByteArray))(w:World)
    (hr0:Kd.C Kd.string w G0 g.g0.length g.g0) (hc0:g.g0.length≤d0) (hr1:Kd.C Kd.string w G1 g.g1.length g.g1) (hc1:g.g1.length≤d1) (hr2:Kd.C (Kd.int .i64) w G2 g.g2.length g.g2) (hc2:g.g2.length≤d2)
    (hr3:Kd.C k67 w G3 g.g3.length g.g3) (hc3:g.g3.length≤d3) (hr4:Kd.C k78 w G4 g.g4.length g.g4) (hc4:g.g4.length≤d4) (hrl:Kd.C k53 w A4 n.f4.length n.f4) (hcl:n.f4.length≤c4) (hrk:Kd.C k32 w A6 n.f6.length n.f6) (hck:n.f6.length≤c6)
    (h:fieldsOf fu g n=some r) :
    Calls Try.prog 19 #[.agg #[.slice G0 g.g0.length d0,.slice G1 g.g1.length d1,.slice G2 g.g2.length d2,.slice G3 g.g3.length d3,.slice G4 g.g4.length d4],.agg #[.int .i64 n.f0,.int .i64 n.f1,.int .i64 n.f2,.int .i64 n.f3,.slice A4 n.f4.length c4,.string n.f5,.slice A6 n.f6.length c6]] w fun e w'=>∃ v0_:Value,e=.returned (v0_)∧Kd.R Kd.string 9 w' w.heap.size (fun _=>True) v0_ r∧Below w.heap.size w w':=by
  unfold fieldsOf at h
  obtain⟨its,hits,h⟩:=Option.bind_eq_some_iff.1 h
  by_cases hlen:its.length < 8796093022208
  case neg=>rw [if_neg hlen] at h;cases h
  rw [if_pos hlen] at h
  obtain rfl:=Option.some.inj h
  clear h
  have hu32:=Try.underlying32
  have hu59:=Try.underlying59
  have hu27:=Try.underlying27
  have hu61:=Try.underlying61
  have hN:NodeF w (fun k=>k < w.heap.size) n A4 c4 A6 c6:=⟨hcl,Kd.C_F k53_heap hrl,hck,Kd.C_F k32_heap hrk⟩
  have hG:GramF w (fun k=>k < w.heap.size) g G0 d0 G1 d1 G2 d2 G3 d3 G4 d4:=⟨hc0,Kd.C_F Kd.heap_string hr0,hc1,Kd.C_F Kd.heap_string hr1,hc2,Kd.C_F (Kd.heap_int .i64) hr2,hc3,Kd.C_F k67_heap hr3,hc4,Kd.C_F k78_heap hr4⟩
  have hkids:=kids_gives g G0 d0 G1 d1 G2 d2 G3 d3 G4 d4 fu n [] ⟨#[]⟩ its hits
  replace hN:=Az.mk hN
  replace hG:=Az.mk hG
  replace hkids:=Az.mk hkids
  replace hits:=Az.mk hits
  replace hlen:=Az.mk hlen
  clear hr0 hc0 hr1 hc1 hr2 hc2 hr3 hc3 hr4 hc4 hrl hcl hrk hck
  refine(callsIn_wide (n:=0)).1 (callsIn_of_wp_marks Try.func19 rfl trivial ?_)
  simp only [Try.ntmps19,List.size_toArray,List.length_cons,List.length_nil,Nat.reduceAdd,Nat.reduceSub,Array.replicate_succ,Array.replicate_zero,List.push_toArray,List.append_toArray,List.nil_append,List.cons_append]
  gi_wp2_with (refine⟨trivial,rfl,?_⟩;gi_at_call 31;refine CallsIn.mono (callsIn_wide.2 (kids_calls g G0 d0 G1 d1 G2 d2 G3 d3 G4 d4 n A4 c4 A6 c6 [] ⟨#[]⟩ none 0 _)) ?_;rintro e w8 ⟨bn',bw',bg',rfl,hb8,hge1,hge2,hge3,hn8,hw8,hg8⟩;replace hb8:=Az.mk hb8;replace hn8:=Az.mk hn8;replace hw8:=Az.mk hw8;replace hg8:=Az.mk hg8)
  generalize hbl:w.heap.size + 1 + 1=bl at *
  have hbox:w8.heap[bl]?=some (.cells #[.slice none 0 0] 22 (0,0)):=kB_ (new_at _ _ (by simp;omega)) hb8.out
  have hB8:Below w.heap.size w w8:=bT_ (bA_ (bA_ (bA_ (Below.refl _ _) _) _) _) hb8.out
  have hble:w.heap.size≤bl:=by omega
  have hge:w.heap.size≤bn'∧w.heap.size≤bw'∧w.heap.size≤bg'∧bn'≠bl∧bw'≠bl∧bg'≠bl:=by simp at hge1 hge2 hge3;omega
  have hP8:PreK bn' bw' bg' g G0 d0 G1 d1 G2 d2 G3 d3 G4 d4 n A4 c4 A6 c6 [] ⟨#[]⟩ none 0 w8 (Fr (fun k=>k=bl) w8):=by
    have hm:∀ k,k < w.heap.size→k < w.heap.size→w8.heap[k]?=w.heap[k]?:=fun k _ b=>hB8.block k b
    have hk:∀ k,k < w.heap.size→k < w.heap.size→Fr (fun k=>k=bl) w8 k:=fun k a _=>⟨fun e=>by omega,Nat.lt_of_lt_of_le a hB8.size⟩
    exact⟨hn8.out,⟨hge.2.2.2.1,blk_lt hn8.out⟩,hw8.out,⟨hge.2.2.2.2.1,blk_lt hw8.out⟩,hg8.out,⟨hge.2.2.2.2.2,blk_lt hg8.out⟩,hN.out.go hm hk,⟨Nat.le_refl _,Kd.F_nil _ _ _⟩,hG.out.go hm hk⟩
  have hbl8:bl < w8.heap.size:=blk_lt hbox
  clear hb8 hge1 hge2 hge3 hn8 hw8 hg8 hge
  refine wpIn_wide.2 (RF.range (gf:=42) (lb:=#[.pointer (some ⟨bn',0,none⟩),.pointer (some ⟨bw',0,none⟩),.pointer (some ⟨bg',0,none⟩)]) rfl (fun args w=>enters_ Try.func42 (by kernel_rfl) rfl args w)
    (hkids.out bn' bw' bg' A4 c4 A6 c6 none 0) (Coll Kd.string 9 22 w w8 bl (fun j=>(its.map (·.fld)).take j)) (coll_stable hB8.size) (fun k=>k=bl)
    ⟨rfl,fun k e=>by rw [e];exact⟨hbl8,hble⟩,⟨Nat.le_refl _,fun k e=>.inl e,fun _ _ _=>rfl⟩,.slice none 0 0,hbox,by simpa using Kd.R_nil _ _ _ _ _,hB8⟩
    (fun W' ok hb hok=>hP8.go (fun x _ b=>hb.block x b) (fun x a b=>hok x b a.1))
    (fun h ⟨it,a,b⟩=>⟨it,a,b.go (fun _ _ _=>rfl) (fun k a _=>h k a)⟩) ?body ?done)
  case done =>
    intro D S1 w9 hI hSD hgeD hD
    obtain⟨h1,h2,h3,v,h4,h5,h6⟩:=hI
    replace hP8:=Az.mk hP8
    replace hB8:=Az.mk hB8
    replace hbox:=Az.mk hbox
    obtain⟨A,c,eA⟩:=Kd.R_slice h5
    subst eA
    have y0:w9.cell? ⟨bl,0,none⟩=some (.slice A ((fun j=>(its.map (·.fld)).take j) its.length).length c):=(bC_ h4 0).trans rfl
    replace h2:=Az.mk h2
    replace h4:=Az.mk h4
    replace h5:=Az.mk h5
    replace h6:=Az.mk h6
    replace hD:=Az.mk hD
    generalize hL:((fun j=>(its.map (·.fld)).take j) its.length).length=L at *
    replace hL:=Az.mk hL
    gi_wp2
    refine leaves_marks [D] w9 (by simp) (fun E hE=>by rw [List.mem_singleton.1 hE];exact hD.out) fun w' hc=>?_
    refine⟨_,results_single rfl (.tmp .nil),_,rfl,?_,?_⟩
    · have hfin:(fun j=>(its.map (·.fld)).take j) its.length=its.map (·.fld):=by exact List.take_of_length_le (by simp)
      have:=Kd.R_step h5.out (w1:=w') (fun k hk hlt=>hc.block k hlt (fun hm=>hSD (by rw [← List.mem_singleton.1 hm];exact hk.1)))
      exact Eq.mp (congrArg (fun xs=>Kd.R Kd.string 9 w' w.heap.size (fun _=>True) (.slice A L c) xs) hfin) (Kd.R_mono this (fun _ _=>trivial))
    · exact hc.below_then h6.out h6.out.size (fun k hk hm=>by rw [List.mem_singleton.1 hm] at hk;have:=hB8.out.size;omega)
  case body =>
    rintro l' j S1 w9 v hj hI hl' hge' ⟨rr,hrr⟩ ⟨it,hit,hv⟩
    have hlt':l' < w9.heap.size:=blk_lt hrr
    obtain⟨Ap',cp',A4',c4',A6',c6',rfl,hvp,hvn⟩:=hv
    replace hI:=Az.mk hI
    replace hP8:=Az.mk hP8
    replace hB8:=Az.mk hB8
    replace hbox:=Az.mk hbox
    replace hrr:=Az.mk hrr
    replace hit:=Az.mk hit
    replace hvp:=Az.mk hvp
    replace hvn:=Az.mk hvn
    simp only [List.setIfInBounds_toArray,List.set_cons_succ,List.set_cons_zero]
    gi_wp2
    refine⟨Below.heap_alloc _ _ _ hlt',Chg.alloc _ _ _,fun o=>?_⟩
    obtain⟨w10,hw10⟩:∃ w10,(w9.alloc (.cells #[.slice Ap' it.path.length cp',.string it.fld,.int .i64 it.node.f0,.int .i64 it.node.f1,.int .i64 it.node.f2,.int .i64 it.node.f3,.slice A4' it.node.f4.length c4',.string it.node.f5,.slice A6' it.node.f6.length c6'] 61)).putObj l' (.loop o)=w10:=⟨_,rfl⟩
    have hne10:w9.heap.size≠l':=by omega
    have hz10:w10.heap[w9.heap.size]?=some (.cells #[.slice Ap' it.path.length cp',.string it.fld,.int .i64 it.node.f0,.int .i64 it.node.f1,.int .i64 it.node.f2,.int .i64 it.node.f3,.slice A4' it.node.f4.length c4',.string it.node.f5,.slice A6' it.node.f6.length c6'] 61 (0,0)):=by
      rw [← hw10];exact(World.putObj_heap_other hne10).trans (blk_new _ _)
    have hsz10:w10.heap.size=w9.heap.size + 1:=by rw [← hw10];simp
    have hc10:∀ x,x < w9.heap.size→x≠l'→w10.heap[x]?=w9.heap[x]?:=fun x h1 h2=>by
      rw [← hw10];exact(World.putObj_heap_other h2).trans (Below.heap_alloc _ _ _ h1)
    have hchg10:Chg (fun x=>w8.heap.size≤x∧¬ S1 x) w9 w10:=by
      rw [← hw10]
      exact(Chg.alloc _ _ _).trans (Chg.put _ _ _ ⟨hge',hl'⟩) (fun _ _ h=>h)
    rw [hw10]
    have hI10:=(coll_stable hB8.out.size).step hI.out hchg10
    have hFr10:∀ x,(Fr S1 w9 x∧x≠l')→x < w9.heap.size→Fr S1 w10 x:=fun x a b=>⟨a.1.1,by omega⟩
    have hvp10:=hvp.out.go (fun x a b=>hc10 x b a.2) hFr10
    have hvn10:=hvn.out.go (fun x a b=>hc10 x b a.2) hFr10
    have hnext:=fun {W2:World} {a:Act} {v:Value} hb hR hc hB=>coll_next (d:=Kd.string) (e:=9) (T:=22) (w0:=w) (w8:=w8) (bl:=bl) (acc:=(fun j=>(its.map (·.fld)).take j)) (W1:=w10) (W2:=W2) (a:=a) (v:=v) hI.out hI10 (by omega) hb hR hc hB
    obtain⟨i1,i2,⟨i3,_,i8⟩,v,i4,i5,i6⟩:=hI10
    obtain⟨A,c,eA⟩:=Kd.R_slice i5
    generalize hL:((fun j=>(its.map (·.fld)).take j) j).length=L at eA
    subst eA
    have hLb:L≤its.length:=by rw [← hL];simp;omega
    have hblw:bl < w9.heap.size:=by have:=hI.out.2.2.1.1;omega
    have hS9:∀ k,S1 k→k < w9.heap.size:=fun k hk=>(hI.out.2.1 k hk).1
    have y0:w10.cell? ⟨bl,0,none⟩=some (.slice A L c):=(bC_ i4 0).trans rfl
    replace hw10:=Az.mk hw10
    replace hc10:=Az.mk hc10
    replace hchg10:=Az.mk hchg10
    replace hFr10:=Az.mk hFr10
    replace hvp10:=Az.mk hvp10
    replace hvn10:=Az.mk hvn10
    replace hnext:=Az.mk @hnext
    replace hS9:=Az.mk hS9
    replace hL:=Az.mk hL
    replace i2:=Az.mk i2
    replace i4:=Az.mk i4
    replace i8:=Az.mk i8
    replace i5:=Az.mk i5
    replace i6:=Az.mk i6
    have z1:w10.cell? ⟨w9.heap.size,1,none⟩=some (.string it.fld):=(bC_ hz10 1).trans rfl
    replace hz10:=Az.mk hz10
    have hfre:∀ k,w10.heap.size≤k→(S1 k∨w9.heap.size≤k)∧k≠bl:=fun k hk=>⟨.inr (by omega),by omega⟩
    have hown1:some bl≠(Value.slice A L c).ownBlock:=Kd.R_away i5.out (fun k hk=>hk.2)
    have hS10:∀ k,(Value.slice A L c).ownBlock=some k→S1 k:=fun k hk=>(i5.out.1 k hk).1
    replace hS10:=Az.mk hS10
    replace hfre:=Az.mk hfre
    replace hsz10:=Az.mk hsz10
    replace hown1:=Az.mk hown1
    apply wpIn_block
    refine round_lit (by kernel_rfl) (by rintro⟨a,w,h⟩;simp [Exit.inBlock,RPost] at h) ?_
    go_wp2_with ((with_reducible refine gate_builtin (b:=.append) (xs:=#[.tmp 12,.tmp 16]) rfl ?_);at_builtin;refine Kd.R_append Kd.string (w0:=w) w.heap.size rfl (.tmp 12) (.tmp 16) 22 9 (.string ⟨#[]⟩) 16 rfl Try.underlying22 info9 rfl (by decide) (by omega) (.slice A L c) ((fun j=>(its.map (·.fld)).take j) j) it.fld [.string it.fld] (fun k=>(S1 k∨w9.heap.size≤k)∧k≠bl) (fun _=>False) rfl rfl rfl (fun _ h=>h.elim) hfre.out (Kd.R_mono i5.out (fun k hk=>⟨.inl hk.1,hk.2⟩)) i6.out i6.out.size (by have:=hL.out;have:=hlen.out;omega) ?_;intro v1 w11 ho hb hg hat;obtain⟨A1,c1,e1⟩:=Kd.R_slice ho;rw [show((fun j=>(its.map (·.fld)).take j) j ++ [it.fld]).length=L + 1 by rw [List.length_append,hL.out];rfl] at e1;subst e1;have b11:=blk_grown i4.out hg hown1.out;have s11:w11.cell? ⟨bl,0,none⟩=some (.slice A L c):=(bC_ b11 0).trans rfl;have f11:=bF_ b11 0;have B11:=Az.mk b11;have HO:=Az.mk ho;have HB:=Az.mk hb;have HG:=Az.mk hg;clear ho hb hg hat b11)
    refine hnext.out (kP_ B11.out 0 _ rfl) ?_ ?_ ?_
    · exact Eq.mp (congrArg (fun xs=>Kd.R Kd.string 9 _ w.heap.size (fun k=>(S1 k∨w9.heap.size≤k)∧k≠bl) _ xs) (acc_succ (fun x:It=>x.fld) hit.out).symm) (Kd.R_far HO.out (fun k hk=>hk.2) _)
    · refine(Chg.trans (T:=S1) ?_ (Chg.set w11 _ _ i1) (fun _ _ h=>h))
      exact⟨HG.out.os,HG.out.tape,HG.out.output,HG.out.size,fun k hk hn=>HG.out.block k hk (fun e=>hn (hS10.out k e.symm))⟩
    · exact bS_ HB.out hble
end Go.Proofs.Ytgdbcogbbghjaaa.Hand
