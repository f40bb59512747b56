import Derived.Test.YtgdbcogbbghjaaaHq0
namespace Go.Proofs.Ytgdbcogbbghjaaa.Hand
open Go.RowKit Go.Proofs.YtgdbcogbbghjaaaW.PrintWords Go.Proofs.YtgdbcogbbghjaaaW.PrintLast Go.Proofs.YtgdbcogbbghjaaaW.PrintMore Go.Proofs.Ytgdbcogbbghjaaa.Q Go.Proofs.Ytgdbcogbbghjaaa.RF
attribute [local go_sem] Oper.semAt_some
set_option linter.unusedVariables false
set_option linter.unusedSimpArgs false
set_option maxRecDepth 100000
set_option maxHeartbeats 8000000 in
theorem getOf_calls (fu:Nat)(g:Gr)(G0:Option Addr)(d0:Nat)(G1:Option Addr)(d1:Nat)(G2:Option Addr)(d2:Nat)(G3:Option Addr)(d3:Nat)(G4:Option Addr)(d4:Nat)(n:S32)(A4:Option Addr)(c4:Nat)(A6:Option Addr)(c6:Nat)(a2:ByteArray)(r:List (S32))(w:World)
    (hr0:Kd.C Kd.string w G0 g.g0.length g.g0) (hc0:g.g0.length≤d0) (hr1:Kd.C Kd.string w G1 g.g1.length g.g1) (hc1:g.g1.length≤d1) (hr2:Kd.C (Kd.int .i64) w G2 g.g2.length g.g2) (hc2:g.g2.length≤d2)
    (hr3:Kd.C k67 w G3 g.g3.length g.g3) (hc3:g.g3.length≤d3) (hr4:Kd.C k78 w G4 g.g4.length g.g4) (hc4:g.g4.length≤d4) (hrl:Kd.C k53 w A4 n.f4.length n.f4) (hcl:n.f4.length≤c4) (hrk:Kd.C k32 w A6 n.f6.length n.f6) (hck:n.f6.length≤c6)
    (h:getOf fu g n a2=some r) :
    Calls Try.prog 21 #[.agg #[.slice G0 g.g0.length d0,.slice G1 g.g1.length d1,.slice G2 g.g2.length d2,.slice G3 g.g3.length d3,.slice G4 g.g4.length d4],.agg #[.int .i64 n.f0,.int .i64 n.f1,.int .i64 n.f2,.int .i64 n.f3,.slice A4 n.f4.length c4,.string n.f5,.slice A6 n.f6.length c6],.string a2] w fun e w'=>∃ v0_:Value,e=.returned (v0_)∧Kd.R k32 32 w' w.heap.size (fun _=>True) v0_ r∧Below w.heap.size w w':=by
  unfold getOf at h
  by_cases hs:a2.toList=[]
  · rw [if_pos hs] at h
    obtain rfl:=Option.some.inj h
    clear h
    have hse:a2.toList.isEmpty=true:=by simp [hs]
    clear hs
    refine(callsIn_wide (n:=0)).1 (callsIn_of_wp_marks Try.func21 rfl trivial ?_)
    simp only [Try.ntmps21,List.size_toArray,List.length_cons,List.length_nil,Nat.reduceAdd,Nat.reduceSub,Array.replicate_succ,Array.replicate_zero,List.push_toArray,List.append_toArray,List.nil_append,List.cons_append]
    gi_wp2
    refine⟨_,results_single rfl (.tmp .nil),_,rfl,Kd.R_nil _ _ _ _ _,?_⟩
    exact bA_ (bA_ (bA_ (bA_ (Below.refl _ _) _) _) _) _
  rw [if_neg hs] at h
  obtain⟨its,hits,h⟩:=Option.bind_eq_some_iff.1 h
  unfold nodesOf at h
  by_cases hlen:(its.filter fun it=>it.fld.toList == a2.toList).length < 1466015503701∧(its.filter fun it=>it.fld.toList == a2.toList).all (fun it=>cloneB fu it.node)=true
  case neg=>rw [if_neg hlen] at h;cases h
  rw [if_pos hlen] at h
  obtain rfl:=Option.some.inj h
  clear h
  have hse:a2.toList.isEmpty=false:=by simpa using hs
  clear hs
  have hu32:=Try.underlying32
  have hu59:=Try.underlying59
  have hu27:=Try.underlying27
  have hu61:=Try.underlying61
  have hN:NodeF w (fun k=>k < w.heap.size) n A4 c4 A6 c6:=⟨hcl,Kd.C_F k53_heap hrl,hck,Kd.C_F k32_heap hrk⟩
  have hG:GramF w (fun k=>k < w.heap.size) g G0 d0 G1 d1 G2 d2 G3 d3 G4 d4:=⟨hc0,Kd.C_F Kd.heap_string hr0,hc1,Kd.C_F Kd.heap_string hr1,hc2,Kd.C_F (Kd.heap_int .i64) hr2,hc3,Kd.C_F k67_heap hr3,hc4,Kd.C_F k78_heap hr4⟩
  have hkids:=kids_gives g G0 d0 G1 d1 G2 d2 G3 d3 G4 d4 fu n [] ⟨#[]⟩ its hits
  replace hN:=Az.mk hN
  replace hG:=Az.mk hG
  replace hkids:=Az.mk hkids
  replace hits:=Az.mk hits
  replace hlen:=Az.mk hlen
  clear hr0 hc0 hr1 hc1 hr2 hc2 hr3 hc3 hr4 hc4 hrl hcl hrk hck
  refine(callsIn_wide (n:=0)).1 (callsIn_of_wp_marks Try.func21 rfl trivial ?_)
  simp only [Try.ntmps21,List.size_toArray,List.length_cons,List.length_nil,Nat.reduceAdd,Nat.reduceSub,Array.replicate_succ,Array.replicate_zero,List.push_toArray,List.append_toArray,List.nil_append,List.cons_append]
  gi_wp2_with (refine⟨trivial,rfl,?_⟩;gi_at_call 31;refine CallsIn.mono (callsIn_wide.2 (kids_calls g G0 d0 G1 d1 G2 d2 G3 d3 G4 d4 n A4 c4 A6 c6 [] ⟨#[]⟩ none 0 _)) ?_;rintro e w8 ⟨bn',bw',bg',rfl,hb8,hge1,hge2,hge3,hn8,hw8,hg8⟩;replace hb8:=Az.mk hb8;replace hn8:=Az.mk hn8;replace hw8:=Az.mk hw8;replace hg8:=Az.mk hg8)
  generalize hbl:w.heap.size + 1 + 1 + 1=bl at *
  have hbox:w8.heap[bl]?=some (.cells #[.slice none 0 0] 30 (0,0)):=kB_ (new_at _ _ (by simp;omega)) hb8.out
  have hboxs:w8.heap[w.heap.size + 1 + 1]?=some (.cells #[.string a2] 9 (0,0)):=kB_ (kA_ (new_at _ _ (by simp)) _) hb8.out
  replace hboxs:=Az.mk hboxs
  have hB8:Below w.heap.size w w8:=bT_ (bA_ (bA_ (bA_ (bA_ (Below.refl _ _) _) _) _) _) hb8.out
  have hble:w.heap.size≤bl:=by omega
  have hge:w.heap.size≤bn'∧w.heap.size≤bw'∧w.heap.size≤bg'∧bn'≠bl∧bw'≠bl∧bg'≠bl:=by simp at hge1 hge2 hge3;omega
  have hP8:PreK bn' bw' bg' g G0 d0 G1 d1 G2 d2 G3 d3 G4 d4 n A4 c4 A6 c6 [] ⟨#[]⟩ none 0 w8 (Fr (fun k=>k=bl) w8):=by
    have hm:∀ k,k < w.heap.size→k < w.heap.size→w8.heap[k]?=w.heap[k]?:=fun k _ b=>hB8.block k b
    have hk:∀ k,k < w.heap.size→k < w.heap.size→Fr (fun k=>k=bl) w8 k:=fun k a _=>⟨fun e=>by omega,Nat.lt_of_lt_of_le a hB8.size⟩
    exact⟨hn8.out,⟨hge.2.2.2.1,blk_lt hn8.out⟩,hw8.out,⟨hge.2.2.2.2.1,blk_lt hw8.out⟩,hg8.out,⟨hge.2.2.2.2.2,blk_lt hg8.out⟩,hN.out.go hm hk,⟨Nat.le_refl _,Kd.F_nil _ _ _⟩,hG.out.go hm hk⟩
  have hbl8:bl < w8.heap.size:=blk_lt hbox
  clear hb8 hge1 hge2 hge3 hn8 hw8 hg8 hge
  refine wpIn_wide.2 (RF.range (gf:=42) (lb:=#[.pointer (some ⟨bn',0,none⟩),.pointer (some ⟨bw',0,none⟩),.pointer (some ⟨bg',0,none⟩)]) rfl (fun args w=>enters_ Try.func42 (by kernel_rfl) rfl args w)
    (hkids.out bn' bw' bg' A4 c4 A6 c6 none 0) (Coll k32 32 30 w w8 bl (getAcc its a2)) (coll_stable hB8.size) (fun k=>k=bl)
    ⟨rfl,fun k e=>by rw [e];exact⟨hbl8,hble⟩,⟨Nat.le_refl _,fun k e=>.inl e,fun _ _ _=>rfl⟩,.slice none 0 0,hbox,by rw [getAcc_zero];exact Kd.R_nil _ _ _ _ _,hB8⟩
    (fun W' ok hb hok=>hP8.go (fun x _ b=>hb.block x b) (fun x a b=>hok x b a.1))
    (fun h ⟨it,a,b⟩=>⟨it,a,b.go (fun _ _ _=>rfl) (fun k a _=>h k a)⟩) ?body ?done)
  case done =>
    intro D S1 w9 hI hSD hgeD hD
    obtain⟨h1,h2,h3,v,h4,h5,h6⟩:=hI
    replace hP8:=Az.mk hP8
    replace hB8:=Az.mk hB8
    replace hbox:=Az.mk hbox
    obtain⟨A,c,eA⟩:=Kd.R_slice h5
    subst eA
    have y0:w9.cell? ⟨bl,0,none⟩=some (.slice A ((getAcc its a2) its.length).length c):=(bC_ h4 0).trans rfl
    replace h2:=Az.mk h2
    replace h4:=Az.mk h4
    replace h5:=Az.mk h5
    replace h6:=Az.mk h6
    replace hD:=Az.mk hD
    generalize hL:((getAcc its a2) its.length).length=L at *
    replace hL:=Az.mk hL
    gi_wp2
    refine leaves_marks [D] w9 (by simp) (fun E hE=>by rw [List.mem_singleton.1 hE];exact hD.out) fun w' hc=>?_
    refine⟨_,results_single rfl (.tmp .nil),_,rfl,?_,?_⟩
    · have hfin:(getAcc its a2) its.length=(its.filter fun it=>it.fld.toList == a2.toList).map (·.node):=by exact getAcc_all its a2
      have:=Kd.R_step h5.out (w1:=w') (fun k hk hlt=>hc.block k hlt (fun hm=>hSD (by rw [← List.mem_singleton.1 hm];exact hk.1)))
      exact Eq.mp (congrArg (fun xs=>Kd.R k32 32 w' w.heap.size (fun _=>True) (.slice A L c) xs) hfin) (Kd.R_mono this (fun _ _=>trivial))
    · exact hc.below_then h6.out h6.out.size (fun k hk hm=>by rw [List.mem_singleton.1 hm] at hk;have:=hB8.out.size;omega)
  case body =>
    rintro l' j S1 w9 v hj hI hl' hge' ⟨rr,hrr⟩ ⟨it,hit,hv⟩
    have hlt':l' < w9.heap.size:=blk_lt hrr
    obtain⟨Ap',cp',A4',c4',A6',c6',rfl,hvp,hvn⟩:=hv
    replace hI:=Az.mk hI
    replace hP8:=Az.mk hP8
    replace hB8:=Az.mk hB8
    replace hbox:=Az.mk hbox
    replace hrr:=Az.mk hrr
    replace hit:=Az.mk hit
    replace hvp:=Az.mk hvp
    replace hvn:=Az.mk hvn
    simp only [List.setIfInBounds_toArray,List.set_cons_succ,List.set_cons_zero]
    gi_wp2
    refine⟨Below.heap_alloc _ _ _ hlt',Chg.alloc _ _ _,fun o=>?_⟩
    obtain⟨w10,hw10⟩:∃ w10,(w9.alloc (.cells #[.slice Ap' it.path.length cp',.string it.fld,.int .i64 it.node.f0,.int .i64 it.node.f1,.int .i64 it.node.f2,.int .i64 it.node.f3,.slice A4' it.node.f4.length c4',.string it.node.f5,.slice A6' it.node.f6.length c6'] 61)).putObj l' (.loop o)=w10:=⟨_,rfl⟩
    have hne10:w9.heap.size≠l':=by omega
    have hz10:w10.heap[w9.heap.size]?=some (.cells #[.slice Ap' it.path.length cp',.string it.fld,.int .i64 it.node.f0,.int .i64 it.node.f1,.int .i64 it.node.f2,.int .i64 it.node.f3,.slice A4' it.node.f4.length c4',.string it.node.f5,.slice A6' it.node.f6.length c6'] 61 (0,0)):=by
      rw [← hw10];exact(World.putObj_heap_other hne10).trans (blk_new _ _)
    have hsz10:w10.heap.size=w9.heap.size + 1:=by rw [← hw10];simp
    have hc10:∀ x,x < w9.heap.size→x≠l'→w10.heap[x]?=w9.heap[x]?:=fun x h1 h2=>by
      rw [← hw10];exact(World.putObj_heap_other h2).trans (Below.heap_alloc _ _ _ h1)
    have hchg10:Chg (fun x=>w8.heap.size≤x∧¬ S1 x) w9 w10:=by
      rw [← hw10]
      exact(Chg.alloc _ _ _).trans (Chg.put _ _ _ ⟨hge',hl'⟩) (fun _ _ h=>h)
    rw [hw10]
    have hI10:=(coll_stable hB8.out.size).step hI.out hchg10
    have hFr10:∀ x,(Fr S1 w9 x∧x≠l')→x < w9.heap.size→Fr S1 w10 x:=fun x a b=>⟨a.1.1,by omega⟩
    have hvp10:=hvp.out.go (fun x a b=>hc10 x b a.2) hFr10
    have hvn10:=hvn.out.go (fun x a b=>hc10 x b a.2) hFr10
    have hnext:=fun {W2:World} {a:Act} {v:Value} hb hR hc hB=>coll_next (d:=k32) (e:=32) (T:=30) (w0:=w) (w8:=w8) (bl:=bl) (acc:=(getAcc its a2)) (W1:=w10) (W2:=W2) (a:=a) (v:=v) hI.out hI10 (by omega) hb hR hc hB
    obtain⟨i1,i2,⟨i3,_,i8⟩,v,i4,i5,i6⟩:=hI10
    obtain⟨A,c,eA⟩:=Kd.R_slice i5
    generalize hL:((getAcc its a2) j).length=L at eA
    subst eA
    have hLb:L≤its.length:=by rw [← hL];simp only [getAcc,List.length_map];exact Nat.le_trans (List.length_filter_le _ _) (by simp;omega)
    have hblw:bl < w9.heap.size:=by have:=hI.out.2.2.1.1;omega
    have hS9:∀ k,S1 k→k < w9.heap.size:=fun k hk=>(hI.out.2.1 k hk).1
    have y0:w10.cell? ⟨bl,0,none⟩=some (.slice A L c):=(bC_ i4 0).trans rfl
    replace hw10:=Az.mk hw10
    replace hc10:=Az.mk hc10
    replace hchg10:=Az.mk hchg10
    replace hFr10:=Az.mk hFr10
    replace hvp10:=Az.mk hvp10
    replace hvn10:=Az.mk hvn10
    replace hnext:=Az.mk @hnext
    replace hS9:=Az.mk hS9
    replace hL:=Az.mk hL
    replace i2:=Az.mk i2
    replace i4:=Az.mk i4
    replace i8:=Az.mk i8
    replace i5:=Az.mk i5
    replace i6:=Az.mk i6
    have z1:w10.cell? ⟨w9.heap.size,1,none⟩=some (.string it.fld):=(bC_ hz10 1).trans rfl
    have z2:w10.cell? ⟨w9.heap.size,2,none⟩=some (.int .i64 it.node.f0):=(bC_ hz10 2).trans rfl
    have z3:w10.cell? ⟨w9.heap.size,3,none⟩=some (.int .i64 it.node.f1):=(bC_ hz10 3).trans rfl
    have z4:w10.cell? ⟨w9.heap.size,4,none⟩=some (.int .i64 it.node.f2):=(bC_ hz10 4).trans rfl
    have z5:w10.cell? ⟨w9.heap.size,5,none⟩=some (.int .i64 it.node.f3):=(bC_ hz10 5).trans rfl
    have z6:w10.cell? ⟨w9.heap.size,6,none⟩=some (.slice A4' it.node.f4.length c4'):=(bC_ hz10 6).trans rfl
    have z7:w10.cell? ⟨w9.heap.size,7,none⟩=some (.string it.node.f5):=(bC_ hz10 7).trans rfl
    have z8:w10.cell? ⟨w9.heap.size,8,none⟩=some (.slice A6' it.node.f6.length c6'):=(bC_ hz10 8).trans rfl
    have hbs:w10.heap[w.heap.size + 1 + 1]?=some (.cells #[.string a2] 9 (0,0)):=(i8.out _ (blk_lt hboxs.out) (by omega)).trans hboxs.out
    have ys:w10.cell? ⟨w.heap.size + 1 + 1,0,none⟩=some (.string a2):=(bC_ hbs 0).trans rfl
    clear hbs
    apply wpIn_block
    by_cases hfy:(it.fld.toList == a2.toList)=true
    case neg =>
      have hfn:(it.fld.toList == a2.toList)=false:=by simpa using hfy
      have Hfn:=Az.mk hfn
      clear hfy
      gi_wp2
      refine hnext.out i4.out ?_ (Chg.refl _ _) i6.out
      rw [getAcc_no hit.out Hfn.out]
      exact Kd.R_mono i5.out (fun k hk=>⟨.inl hk.1,hk.2⟩)
    gi_wp2
    have hfi:(its.filter fun it=>it.fld.toList == a2.toList)[(getAcc its a2 j).length]?=some it:=getAcc_at hit.out hfy
    have hLb:=getAcc_len hit.out hfy
    rw [hL.out] at hLb
    replace hfy:=Az.mk hfy
    clear ys
    have hfre:∀ k,w10.heap.size≤k→(S1 k∨w9.heap.size≤k)∧k≠bl:=fun k hk=>⟨.inr (by omega),by omega⟩
    have hown1:some bl≠(Value.slice A L c).ownBlock:=Kd.R_away i5.out (fun k hk=>hk.2)
    have hS10:∀ k,(Value.slice A L c).ownBlock=some k→S1 k:=fun k hk=>(i5.out.1 k hk).1
    have hlt10:∀ k,(Value.slice A L c).ownBlock=some k→k < w10.heap.size:=Kd.R_lt i5.out
    have hbl10:bl < w10.heap.size:=by omega
    replace hS10:=Az.mk hS10
    replace hlt10:=Az.mk hlt10
    replace hfre:=Az.mk hfre
    replace hown1:=Az.mk hown1
    replace hsz10:=Az.mk hsz10
    replace hz10:=Az.mk hz10
    have hdr:Below w10.heap.size w10 w10.drew:=below_drew (Below.refl _ _)
    have hcl:=clone_of hlen.out.2 hfi
    have hSof:∀ w':World,Below w10.heap.size w10 w'→(w'.cell? ⟨bl,0,none⟩=some (.slice A L c)∧w'.cell? ⟨w9.heap.size,2,none⟩=some (.int .i64 it.node.f0)∧w'.cell? ⟨w9.heap.size,3,none⟩=some (.int .i64 it.node.f1)∧w'.cell? ⟨w9.heap.size,4,none⟩=some (.int .i64 it.node.f2)∧w'.cell? ⟨w9.heap.size,5,none⟩=some (.int .i64 it.node.f3)∧w'.cell? ⟨w9.heap.size,6,none⟩=some (.slice A4' it.node.f4.length c4')∧w'.cell? ⟨w9.heap.size,7,none⟩=some (.string it.node.f5)∧w'.cell? ⟨w9.heap.size,8,none⟩=some (.slice A6' it.node.f6.length c6')):=fun w' hb=>⟨pw_cell_below hb y0,pw_cell_below hb z2,pw_cell_below hb z3,pw_cell_below hb z4,pw_cell_below hb z5,pw_cell_below hb z6,pw_cell_below hb z7,pw_cell_below hb z8⟩
    replace hSof:=Az.mk hSof
    replace hcl:=Az.mk hcl
    have hC4:k53.C w10 A4' it.node.f4.length it.node.f4:=Kd.F_now hvn10.out.f4
    have hC6:k32.C w10 A6' it.node.f6.length it.node.f6:=Kd.F_now hvn10.out.f6
    replace hC4:=Az.mk hC4
    replace hC6:=Az.mk hC6
    refine startR_ (n:=10) (S:=fun w'=>w'.cell? ⟨bl,0,none⟩=some (.slice A L c)∧w'.cell? ⟨w9.heap.size,2,none⟩=some (.int .i64 it.node.f0)∧w'.cell? ⟨w9.heap.size,3,none⟩=some (.int .i64 it.node.f1)∧w'.cell? ⟨w9.heap.size,4,none⟩=some (.int .i64 it.node.f2)∧w'.cell? ⟨w9.heap.size,5,none⟩=some (.int .i64 it.node.f3)∧w'.cell? ⟨w9.heap.size,6,none⟩=some (.slice A4' it.node.f4.length c4')∧w'.cell? ⟨w9.heap.size,7,none⟩=some (.string it.node.f5)∧w'.cell? ⟨w9.heap.size,8,none⟩=some (.slice A6' it.node.f6.length c6')) (ds:=[6,8,9]) #[false,false,false,false,false,false,false,false,false,false] (by kernel_rfl) (by kernel_rfl) ?_ rfl rfl ?_ ?_
    · rintro⟨a,w,h⟩;simp [Exit.inBlock,RPost] at h
    · exact hSof.out _ hdr
    intro hHeld
    generalize hw1d:w10.drew=W1d at hdr hHeld ⊢
    clear hw1d
    refine take_ (i:=0) (N:=some 22) (v:=?_) (a':=?_) #[true,false,false,false,false,false,false,false,false,false] rfl rfl (by kernel_rfl) (fun _ _ _ h=>h) (Or.inl ⟨by rfl,?_⟩) hHeld ?_ ?_
    rotate_left
    · rintro w' ⟨s0,s1,s2,s3,s4,s5,s6,s7⟩
      go_simp
      with_reducible rfl
    rotate_left
    · simp only [Act.put,List.setIfInBounds_toArray,List.set_cons_zero,List.set_cons_succ,i64_w,i32_w]
      rfl
    refine pure_ (i:=1) (N:=some 23) (v:=?_) (a':=?_) #[true,true,false,false,false,false,false,false,false,false] rfl rfl (by kernel_rfl) (fun _ _ _ h=>h) (Or.inl ⟨by rfl,?_⟩) ?_ ?_
    rotate_left
    · intro w'
      go_simp
      with_reducible rfl
    rotate_left
    · simp only [Act.put,List.setIfInBounds_toArray,List.set_cons_zero,List.set_cons_succ,i64_w,i32_w]
      rfl
    refine take_ (i:=2) (N:=some 24) (v:=?_) (a':=?_) #[true,true,true,false,false,false,false,false,false,false] rfl rfl (by kernel_rfl) (fun _ _ _ h=>h) (Or.inl ⟨by rfl,?_⟩) hHeld ?_ ?_
    rotate_left
    · rintro w' ⟨s0,s1,s2,s3,s4,s5,s6,s7⟩
      go_simp
      with_reducible rfl
    rotate_left
    · simp only [Act.put,List.setIfInBounds_toArray,List.set_cons_zero,List.set_cons_succ,i64_w,i32_w]
      rfl
    refine pure_ (i:=4) (N:=some 26) (v:=?_) (a':=?_) #[true,true,true,false,true,false,false,false,false,false] rfl rfl (by kernel_rfl) (fun _ _ _ h=>h) (Or.inl ⟨by rfl,?_⟩) ?_ ?_
    rotate_left
    · intro w'
      go_simp
      with_reducible rfl
    rotate_left
    · simp only [Act.put,List.setIfInBounds_toArray,List.set_cons_zero,List.set_cons_succ,i64_w,i32_w]
      rfl
    refine join_ (σ:=Value × Value × Nat) 4 #[true,true,true,true,true,true,false,false,false,false] (fun s=>[(25,.agg #[.int .i64 it.node.f0,.int .i64 it.node.f1,.int .i64 it.node.f2,.int .i64 it.node.f3,s.1,.string it.node.f5,s.2.1]),(27,.slice (some ⟨s.2.2,0,none⟩) 1 1)]) (fun s w'=>Made it.node w w10 s.1 s.2.1 s.2.2 w') ?cont ?orders
    case orders =>
      intro hcont
      refine two_ (i:=3) (j:=5) (Ni:=some 25) (Nj:=some 27) #[true,true,true,true,true,false,false,false,false,false] #[true,true,true,false,true,true,false,false,false,false] rfl rfl rfl rfl (by kernel_rfl) (by decide) (by decide) (fun K hK=>?_) (fun K hK=>?_)
      · refine goes_ Try.func35 (by kernel_rfl) rfl #[.agg #[.int .i64 it.node.f0,.int .i64 it.node.f1,.int .i64 it.node.f2,.int .i64 it.node.f3,.slice A4' it.node.f4.length c4',.string it.node.f5,.slice A6' it.node.f6.length c6']] (by rfl) rfl rfl (by(try simp only [List.map_toArray,List.map_cons,List.map_nil]);first|done|rfl) ?_
        refine(clone_calls fu it.node A4' c4' A6' c6' _ hcl.out (Kd.C_below hC4.out hdr) hvn10.out.l4 (Kd.C_below hC6.out hdr) hvn10.out.l6).mono ?_
        rintro e w5 ⟨v4k,v6k,rfl,hr4,hr6,hb5⟩
        have hb5_:=bT_ hdr hb5
        have hq4:=Kd.R_lower (base':=w.heap.size) (Kd.R_mono (ok':=fun j=>w10.heap.size≤j) (Kd.R_bound hr4) (fun j hj=>Nat.le_trans hdr.size hj.2.1)) (Nat.le_trans i6.out.size hdr.size)
        have hq6:=Kd.R_lower (base':=w.heap.size) (Kd.R_mono (ok':=fun j=>w10.heap.size≤j) (Kd.R_bound hr6) (fun j hj=>Nat.le_trans hdr.size hj.2.1)) (Nat.le_trans i6.out.size hdr.size)
        replace hq4:=Az.mk hq4
        replace hq6:=Az.mk hq6
        clear hr4 hr6 hb5
        refine⟨_,rfl,?_⟩
        refine hK.out _ _ (hSof.out _ hb5_) (fun hHeld=>?_)
        clear hK K
        refine one_ (i:=5) (N:=some 27) #[true,true,true,true,true,true,false,false,false,false] rfl rfl (by kernel_rfl) (by decide) (fun K hK=>?_)
        refine value_ (w1:=?_) (v:=?_) (by rfl) rfl ?_ ?_
        rotate_left 2
        · go_simp
          constructor
          · rfl
          · rfl
        refine hK.out _ _ (hSof.out _ (bA_ hb5_ _)) (fun hHeld=>?_)
        exact norm_ rfl (hcont (v4k,v6k,w5.heap.size) _ ⟨Kd.R_alloc hq4.out _,Kd.R_alloc hq6.out _,blk_new _ _,hb5_.size,bA_ hb5_ _⟩)
      · refine value_ (w1:=?_) (v:=?_) (by rfl) rfl ?_ ?_
        rotate_left 2
        · go_simp
          constructor
          · rfl
          · rfl
        have hb4:=bA_ hdr (.cells #[.int .i64 0,.int .i64 0,.int .i64 0,.int .i64 0,.slice none 0 0,.string ⟨#[]⟩,.slice none 0 0] 32)
        refine hK.out _ _ (hSof.out _ hb4) (fun hHeld=>?_)
        clear hK K
        refine one_ (i:=3) (N:=some 25) #[true,true,true,true,true,true,false,false,false,false] rfl rfl (by kernel_rfl) (by decide) (fun K hK=>?_)
        refine goes_ Try.func35 (by kernel_rfl) rfl #[.agg #[.int .i64 it.node.f0,.int .i64 it.node.f1,.int .i64 it.node.f2,.int .i64 it.node.f3,.slice A4' it.node.f4.length c4',.string it.node.f5,.slice A6' it.node.f6.length c6']] (by rfl) rfl rfl (by(try simp only [List.map_toArray,List.map_cons,List.map_nil]);first|done|rfl) ?_
        refine(clone_calls fu it.node A4' c4' A6' c6' _ hcl.out (Kd.C_below hC4.out hb4) hvn10.out.l4 (Kd.C_below hC6.out hb4) hvn10.out.l6).mono ?_
        rintro e w5 ⟨v4k,v6k,rfl,hr4,hr6,hb5⟩
        have hb5_:=bT_ hb4 hb5
        have hq4:=Kd.R_lower (base':=w.heap.size) (Kd.R_mono (ok':=fun j=>w10.heap.size≤j) (Kd.R_bound hr4) (fun j hj=>Nat.le_trans hb4.size hj.2.1)) (Nat.le_trans i6.out.size hb4.size)
        have hq6:=Kd.R_lower (base':=w.heap.size) (Kd.R_mono (ok':=fun j=>w10.heap.size≤j) (Kd.R_bound hr6) (fun j hj=>Nat.le_trans hb4.size hj.2.1)) (Nat.le_trans i6.out.size hb4.size)
        refine⟨_,rfl,?_⟩
        refine hK.out _ _ (hSof.out _ hb5_) (fun hHeld=>?_)
        exact norm_ rfl (hcont (v4k,v6k,W1d.heap.size) _ ⟨hq4,hq6,kB_ (blk_new _ _) hb5,hdr.size,hb5_⟩)
    case cont =>
      rintro⟨v4k,v6k,bz⟩ w11 hM
      refine norm_ (a':=?_) ?_ ?_
      rotate_left
      · simp only [putAll,Act.put,List.setIfInBounds_toArray,List.set_cons_zero,List.set_cons_succ,i64_w,i32_w]
        rfl
      refine last_ (i:=6) (N:=some 28) #[true,true,true,true,true,true,true,false,false,false] rfl rfl (by kernel_rfl) (by decide) (fun K hK=>?_)
      refine Kd.R_append_rows_step k32 (w0:=w) w.heap.size (by rfl) (.tmp 22) (.tmp 27) 30 32 (.agg #[.int .i64 0,.int .i64 0,.int .i64 0,.int .i64 0,.slice none 0 0,.string ⟨#[]⟩,.slice none 0 0]) 96 rfl Try.underlying30 hinfo32 rfl (by decide) (by omega) (.slice A L c) (getAcc its a2 j) [z32] (some ⟨bz,0,none⟩) 1 1 (fun k=>(S1 k∨w9.heap.size≤k)∧k≠bl) (fun k=>w10.heap.size≤k) rfl rfl
        (Kd.R_mono (Kd.R_below i5.out hM.hb) (fun k hk=>⟨.inl hk.1,hk.2⟩)) (reads_one (cs:=[.int .i64 0,.int .i64 0,.int .i64 0,.int .i64 0,.slice none 0 0,.string ⟨#[]⟩,.slice none 0 0]) hM.hz rfl (k32_mkM _ _ _ z32 (Kd.R_nil _ _ _ _ _) (Kd.R_nil _ _ _ _ _))) (fun _ _ h=>h) (fun k hk=>⟨hfre.out k hk,fun e=>by have:=hlt10.out k e.symm;omega⟩) (fun k hk=>hfre.out k (Nat.le_trans hM.hb.size hk)) (bT_ i6.out hM.hb) (Nat.le_trans i6.out.size hM.hb.size) (by have:(getAcc its a2 j).length=L:=hL.out;have:=hlen.out.1;omega) ?_
      intro v1 w12 ho hb hg hat
      obtain⟨gv,cv,ev,hgb,hgl,hcells⟩:=Kd.R_form ho (by simp)
      have hLz:(getAcc its a2 j ++ [z32]).length=L + 1:=List.length_append.trans (congrArg (· + 1) hL.out)
      rw [hLz] at ev
      subst ev
      have hgv:∀ k,w10.heap.size≤k→k < w11.heap.size→k≠gv:=fun k h1 h2 e=>by
        rcases hat with hat|⟨b,hb',hle⟩
        · have:=hlt10.out gv (by rw [← hat];rfl);omega
        · have:gv=b:=by simpa [Value.ownBlock] using hb'
          omega
      have r4:Kd.R k53 53 w12 w.heap.size (fun k=>w10.heap.size≤k∧k≠gv) v4k it.node.f4:=Kd.R_mono (Kd.R_grown (Kd.R_bound hM.r4) hg (fun k hk e=>by have:=hlt10.out k e.symm;have:=hk.1;omega)) (fun k hk=>⟨hk.1,hgv k hk.1 hk.2.2.1⟩)
      have r6:Kd.R k32 32 w12 w.heap.size (fun k=>w10.heap.size≤k∧k≠gv) v6k it.node.f6:=Kd.R_mono (Kd.R_grown (Kd.R_bound hM.r6) hg (fun k hk e=>by have:=hlt10.out k e.symm;have:=hk.1;omega)) (fun k hk=>⟨hk.1,hgv k hk.1 hk.2.2.1⟩)
      have b12:=blk_grown (kB_ i4.out hM.hb) hg hown1.out
      have hgvb:gv≠bl:=(ho.1 gv rfl).2
      have hgS:∀ k,k < w10.heap.size→k=gv→S1 k:=fun k hk e=>by
        rcases hat with hat|⟨b,hb',hle⟩
        · exact hS10.out k (by rw [← hat,e];rfl)
        · have:gv=b:=by simpa [Value.ownBlock] using hb'
          have:=hM.hb.size
          omega
      obtain⟨v4c,e4⟩:=Kd.R_slice r4
      obtain⟨v4d,e4⟩:=e4
      subst e4
      obtain⟨v6c,v6d,e6⟩:=Kd.R_slice r6
      subst e6
      replace r4:=Az.mk r4
      replace r6:=Az.mk r6
      replace hgv:=Az.mk hgv
      replace b12:=Az.mk b12
      replace ho:=Az.mk ho
      replace hb:=Az.mk hb
      replace hg:=Az.mk hg
      replace hM:=Az.mk hM
      replace hLz:=Az.mk hLz
      replace hgS:=Az.mk hgS
      clear hat hcells
      refine hK.out _ _ ?_
      clear hK K
      refine norm_ (a':=?_) ?_ ?_
      rotate_left
      · show Act.put _ (some 28) _=_
        simp only [Act.put,List.setIfInBounds_toArray,List.set_cons_zero,List.set_cons_succ,i64_w,i32_w]
        rfl
      have l0:0≤(L:Int):=by omega
      have l1:(L:Int) < (L:Int) + 1:=by omega
      refine pure_ (i:=7) (N:=some 29) (v:=?_) (a':=?_) #[true,true,true,true,true,true,true,true,false,false] rfl rfl (by kernel_rfl) (fun _ _ _ h=>h) (Or.inl ⟨by rfl,?_⟩) ?_ ?_
      rotate_left
      · intro w'
        go_simp
        with_reducible rfl
      rotate_left
      · simp only [Act.put,List.setIfInBounds_toArray,List.set_cons_zero,List.set_cons_succ,i64_w,i32_w]
        rfl
      have hc11:Chg S1 w10 w12:=Chg.trans (T:=S1) (Chg.of_below S1 hM.out.hb) (w2:=w12) ⟨hg.out.os,hg.out.tape,hg.out.output,hg.out.size,fun k hk hn=>hg.out.block k hk (fun e=>hn (hS10.out k e.symm))⟩ (fun _ _ h=>h)
      have s12:w12.cell? ⟨bl,0,none⟩=some (.slice A L c):=(bC_ b12.out 0).trans rfl
      have f12:=bF_ b12.out 0
      replace hc11:=Az.mk hc11
      refine two_last_ (i:=8) (j:=9) (Ni:=none) (Nj:=none) #[true,true,true,true,true,true,true,true,true,false] #[true,true,true,true,true,true,true,true,false,true] rfl rfl rfl rfl (by kernel_rfl) (by decide) (by decide) (fun K hK=>?_) (fun K hK=>?_)
      · obtain⟨cz,hczl,_,hczc,_⟩:=Kd.R_elem (ho.out) z32 (L:Int) l0 (by omega)
        have hczl7:cz.length=7:=hczl
        refine R_store_step k32 w.heap.size (by rfl) rfl 32 (.tmp 29) (.tmp 25) rfl 32 (g:=gv) (n:=L + 1) (cap:=cv) (L:Int) 0 (getAcc its a2 j ++ [z32]) it.node (.agg #[.int .i64 it.node.f0,.int .i64 it.node.f1,.int .i64 it.node.f2,.int .i64 it.node.f3,.slice v4c it.node.f4.length v4d,.string it.node.f5,.slice v6c it.node.f6.length v6d]) [.int .i64 it.node.f0,.int .i64 it.node.f1,.int .i64 it.node.f2,.int .i64 it.node.f3,.slice v4c it.node.f4.length v4d,.string it.node.f5,.slice v6c it.node.f6.length v6d] cz (fun k=>(S1 k∨w9.heap.size≤k)∧k≠bl) (fun k=>w10.heap.size≤k∧k≠gv) rfl (by rw [Int.toNat_natCast];rfl) rfl rfl (by kernel_rfl) (by simp [Value.oneCell']) (ho.out) l0 (by omega) hczl hczc (Nat.le_refl 7)
          (by rw [show cz.drop (0 + ([.int .i64 it.node.f0,.int .i64 it.node.f1,.int .i64 it.node.f2,.int .i64 it.node.f3,.slice v4c it.node.f4.length v4d,.string it.node.f5,.slice v6c it.node.f6.length v6d]:List Value).length)=[] from List.drop_of_length_le (Nat.le_of_eq hczl7),List.append_nil];exact k32_mkM _ _ _ it.node (r4.out) (r6.out)) (fun k hk=>⟨hfre.out k hk.1,hk.2⟩) ?_
        intro w13 ho13 hg13
        rw [show(getAcc its a2 j ++ [z32]).set (L:Int).toNat it.node=getAcc its a2 j ++ [it.node] from set_last hL.out] at ho13
        have b13:=blk_grown b12.out hg13 (fun e=>hgvb (Option.some.inj e).symm)
        have s13:w13.cell? ⟨bl,0,none⟩=some (.slice A L c):=(bC_ b13 0).trans rfl
        have f13:=bF_ b13 0
        replace b13:=Az.mk b13
        replace ho13:=Az.mk ho13
        replace hg13:=Az.mk hg13
        clear hczc hczl s12 f12
        refine hK.out _ _ ?_
        clear hK K
        refine last_ (i:=9) (N:=none) #[true,true,true,true,true,true,true,true,true,true] rfl rfl (by kernel_rfl) (by decide) (fun K hK=>?_)
        refine skip_ (w1:=?_) (by rfl) rfl ?_ ?_
        rotate_left
        · go_simp
          rfl
        refine hK.out _ _ ?_
        clear hK K
        refine done_ (by kernel_rfl) ?_
        have hc13:Chg S1 w10 w13:=by
          refine⟨hg13.out.os.trans hc11.out.os,hg13.out.tape.trans hc11.out.tape,hg13.out.output.trans hc11.out.output,Nat.le_trans hc11.out.size hg13.out.size,fun k hk hn=>?_⟩
          exact(hg13.out.block k (Nat.lt_of_lt_of_le hk hc11.out.size) (fun e=>hn (hgS.out k hk (Option.some.inj e)))).trans (hc11.out.block k hk hn)
        have hB13:Below w.heap.size w w13:=pw_below_grown hb.out _ hb.out.size hg13.out (fun k e=>by rw [← Option.some.inj e];exact hgb)
        refine hnext.out (a:={ tmps:=#[],defers:=[] }) (kP_ b13.out 0 _ rfl) ?_ ?_ ?_
        · exact Eq.mp (congrArg (fun xs=>Kd.R k32 32 _ w.heap.size (fun k=>(S1 k∨w9.heap.size≤k)∧k≠bl) _ xs) (getAcc_yes hit.out hfy.out).symm) (Kd.R_far ho13.out (fun k hk=>hk.2) _)
        · exact Chg.trans (T:=S1) hc13 (Chg.set w13 _ _ i1) (fun _ _ h=>h)
        · exact bS_ hB13 hble
      · refine skip_ (w1:=?_) (by rfl) rfl ?_ ?_
        rotate_left
        · go_simp
          rfl
        refine hK.out _ _ ?_
        clear hK K
        have b14:=kP_ b12.out 0 (.slice (some ⟨gv,0,none⟩) (L + 1) cv) rfl
        refine last_ (i:=8) (N:=none) #[true,true,true,true,true,true,true,true,true,true] rfl rfl (by kernel_rfl) (by decide) (fun K hK=>?_)
        obtain⟨cz,hczl,_,hczc,_⟩:=Kd.R_elem (Kd.R_far (p:=⟨bl,0,none⟩) ho.out (fun k hk=>hk.2) (.slice (some ⟨gv,0,none⟩) (L + 1) cv)) z32 (L:Int) l0 (by omega)
        have hczl7:cz.length=7:=hczl
        refine R_store_step k32 w.heap.size (by rfl) rfl 32 (.tmp 29) (.tmp 25) rfl 32 (g:=gv) (n:=L + 1) (cap:=cv) (L:Int) 0 (getAcc its a2 j ++ [z32]) it.node (.agg #[.int .i64 it.node.f0,.int .i64 it.node.f1,.int .i64 it.node.f2,.int .i64 it.node.f3,.slice v4c it.node.f4.length v4d,.string it.node.f5,.slice v6c it.node.f6.length v6d]) [.int .i64 it.node.f0,.int .i64 it.node.f1,.int .i64 it.node.f2,.int .i64 it.node.f3,.slice v4c it.node.f4.length v4d,.string it.node.f5,.slice v6c it.node.f6.length v6d] cz (fun k=>(S1 k∨w9.heap.size≤k)∧k≠bl) (fun k=>w10.heap.size≤k∧k≠gv) rfl (by rw [Int.toNat_natCast];rfl) rfl rfl (by kernel_rfl) (by simp [Value.oneCell']) (Kd.R_far (p:=⟨bl,0,none⟩) ho.out (fun k hk=>hk.2) (.slice (some ⟨gv,0,none⟩) (L + 1) cv)) l0 (by omega) hczl hczc (Nat.le_refl 7)
          (by rw [show cz.drop (0 + ([.int .i64 it.node.f0,.int .i64 it.node.f1,.int .i64 it.node.f2,.int .i64 it.node.f3,.slice v4c it.node.f4.length v4d,.string it.node.f5,.slice v6c it.node.f6.length v6d]:List Value).length)=[] from List.drop_of_length_le (Nat.le_of_eq hczl7),List.append_nil];exact k32_mkM _ _ _ it.node (Kd.R_far (p:=⟨bl,0,none⟩) r4.out (fun k hk e=>by have e:k=bl:=e;have:=hk.1;omega) _) (Kd.R_far (p:=⟨bl,0,none⟩) r6.out (fun k hk e=>by have e:k=bl:=e;have:=hk.1;omega) _)) (fun k hk=>⟨hfre.out k hk.1,hk.2⟩) ?_
        intro w13 ho13 hg13
        rw [show(getAcc its a2 j ++ [z32]).set (L:Int).toNat it.node=getAcc its a2 j ++ [it.node] from set_last hL.out] at ho13
        have b13:=blk_grown b14 hg13 (fun e=>hgvb (Option.some.inj e).symm)
        refine hK.out _ _ ?_
        clear hK K
        refine done_ (by kernel_rfl) ?_
        have hcS:Chg S1 w10 (w12.setCell ⟨bl,0,none⟩ (.slice (some ⟨gv,0,none⟩) (L + 1) cv)):=Chg.trans (T:=S1) hc11.out (Chg.set w12 _ _ i1) (fun _ _ h=>h)
        have hc13:Chg S1 w10 w13:=by
          refine⟨hg13.os.trans hcS.os,hg13.tape.trans hcS.tape,hg13.output.trans hcS.output,Nat.le_trans hcS.size hg13.size,fun k hk hn=>?_⟩
          exact(hg13.block k (Nat.lt_of_lt_of_le hk hcS.size) (fun e=>hn (hgS.out k hk (Option.some.inj e)))).trans (hcS.block k hk hn)
        have hB13:Below w.heap.size w w13:=pw_below_grown (bS_ hb.out hble) _ (bS_ hb.out hble).size hg13 (fun k e=>by rw [← Option.some.inj e];exact hgb)
        refine hnext.out (a:={ tmps:=#[],defers:=[] }) b13 ?_ hc13 hB13
        exact Eq.mp (congrArg (fun xs=>Kd.R k32 32 _ w.heap.size (fun k=>(S1 k∨w9.heap.size≤k)∧k≠bl) _ xs) (getAcc_yes hit.out hfy.out).symm) ho13
end Go.Proofs.Ytgdbcogbbghjaaa.Hand
