import Derived.Test.YtgdbcogbbghjaaaHb
import Derived.Test.YtgdbcogbbghjaaaHn
namespace Go.Proofs.Ytgdbcogbbghjaaa.Hand
open Go.RowKit Go.Proofs.YtgdbcogbbghjaaaW.PrintWords Go.Proofs.YtgdbcogbbghjaaaW.PrintLast Go.Proofs.YtgdbcogbbghjaaaW.PrintMore Go.Proofs.Ytgdbcogbbghjaaa.Q Go.Proofs.Ytgdbcogbbghjaaa.RF
set_option linter.unusedVariables false
set_option linter.unusedSimpArgs false
set_option maxRecDepth 100000
section
variable {α:Type} {d:Kd α} {e T bl:Nat} {w0 w8:World} {acc:Nat→List α}
def Coll (d:Kd α)(e T:Nat)(w0 w8:World)(bl:Nat)(acc:Nat→List α)(j:Nat)(S:Nat→Prop)(W:World):Prop :=
  S bl∧(∀ k,S k→k < W.heap.size∧w0.heap.size≤k)∧(w8.heap.size≤W.heap.size∧(∀ k,S k→k=bl∨w8.heap.size≤k)∧∀ k,k < w8.heap.size→k≠bl→W.heap[k]?=w8.heap[k]?) ∧
    ∃ v,W.heap[bl]?=some (.cells #[v] T (0,0))∧d.R e W w0.heap.size (fun k=>S k∧k≠bl) v (acc j)∧Below w0.heap.size w0 W
theorem coll_stable (hB:w0.heap.size≤w8.heap.size):Stable w8.heap.size (Coll d e T w0 w8 bl acc):=by
  refine⟨fun h=>⟨h.2.2.1.1,fun k hk=>(h.2.1 k hk).1⟩,fun {i S W W'} h hc=>?_⟩
  obtain⟨h1,h2,⟨h3,h7,h8⟩,v,h4,h5,h6⟩:=h
  refine⟨h1,fun k hk=>⟨Nat.lt_of_lt_of_le (h2 k hk).1 hc.size,(h2 k hk).2⟩,⟨Nat.le_trans h3 hc.size,h7,fun k hk hn=>(hc.block k (by omega) (fun h=>by omega)).trans (h8 k hk hn)⟩,v,hc.same h4 (fun h=>h.2 h1),Kd.R_step h5 (fun k hk hlt=>hc.block k hlt (fun h=>h.2 hk.1)),?_⟩
  exact hc.below_then h6 h6.size (fun k hk h=>by omega)
theorem coll_next {j:Nat}{S:Nat→Prop}{W W1 W2:World}{a:Act}{v:Value}(h:Coll d e T w0 w8 bl acc j S W)(g:Coll d e T w0 w8 bl acc j S W1)(hW:W.heap.size≤W1.heap.size)(hb:W2.heap[bl]?=some (.cells #[v] T (0,0)))
    (hR:d.R e W2 w0.heap.size (fun k=>(S k∨W.heap.size≤k)∧k≠bl) v (acc (j + 1))) (hc:Chg S W1 W2) (hB:Below w0.heap.size w0 W2):RPost (Coll d e T w0 w8 bl acc) j S W W1 .normal a W2:=by
  obtain⟨h1,h2,⟨h3,h7,h8⟩,_,_,_,h6⟩:=h
  obtain⟨_,_,⟨g3,_,g8⟩,_⟩:=g
  refine⟨rfl,fun k=>(S k∨W.heap.size≤k)∧k < W2.heap.size,⟨⟨.inl h1,blk_lt hb⟩,fun k hk=>⟨hk.2,hk.1.elim (fun h=>(h2 k h).2) (fun h=>Nat.le_trans h6.size h)⟩,⟨Nat.le_trans h3 (Nat.le_trans hW hc.size),fun k hk=>hk.1.elim (h7 k) (fun h=>.inr (Nat.le_trans h3 h)),fun k hk hn=>?_⟩,v,hb,?_,hB⟩,hc,fun k hk=>hk.1⟩
  · exact(hc.block k (by omega) (fun h=>(h7 k h).elim hn (fun h=>by omega))).trans (g8 k hk hn)
  · exact Kd.R_mono (Kd.R_bound hR) (fun k hk=>⟨⟨hk.1.1,hk.2.2.1⟩,hk.1.2⟩)
end
theorem acc_succ {β γ:Type}{l:List β}(f:β→γ){j:Nat}{x:β}(h:l[j]?=some x):(l.map f).take (j + 1)=(l.map f).take j ++ [f x]:=by
  rw [List.take_add_one,List.getElem?_map,h]
  rfl
theorem clone_of {fu:Nat}{its:List It}{j:Nat}{it:It}(h:its.all (fun it=>cloneB fu it.node)=true)(hj:its[j]?=some it):cloneB fu it.node=true:=List.all_eq_true.1 h it (List.mem_of_getElem? hj)
theorem set_last {β:Type}{l:List β}{z x:β}{L:Nat}(h:l.length=L):(l ++ [z]).set (L:Int).toNat x=l ++ [x]:=by
  subst h
  rw [Int.toNat_natCast,List.set_append_right _ _ (Nat.le_refl _),Nat.sub_self]
  rfl
def getAcc (its:List It)(s:ByteArray)(j:Nat):List S32:=((its.take j).filter fun it=>it.fld.toList == s.toList).map (·.node)
theorem getAcc_zero (its:List It)(s:ByteArray):getAcc its s 0=[]:=by simp [getAcc]
theorem getAcc_all (its:List It)(s:ByteArray):getAcc its s its.length=(its.filter fun it=>it.fld.toList == s.toList).map (·.node):=by simp [getAcc]
theorem getAcc_yes {its:List It}{s:ByteArray}{j:Nat}{it:It}(h:its[j]?=some it)(hf:(it.fld.toList == s.toList)=true):getAcc its s (j + 1)=getAcc its s j ++ [it.node]:=by
  unfold getAcc
  rw [List.take_add_one,h]
  simp [List.filter_append,List.filter_cons,hf]
theorem getAcc_no {its:List It}{s:ByteArray}{j:Nat}{it:It}(h:its[j]?=some it)(hf:(it.fld.toList == s.toList)=false):getAcc its s (j + 1)=getAcc its s j:=by
  unfold getAcc
  rw [List.take_add_one,h]
  simp [List.filter_append,List.filter_cons,hf]
theorem getAcc_len {its:List It}{s:ByteArray}{j:Nat}{it:It}(h:its[j]?=some it)(hf:(it.fld.toList == s.toList)=true):(getAcc its s j).length + 1≤(its.filter fun it=>it.fld.toList == s.toList).length:=by
  have h1:∀ (l:List It) (k:Nat),(l.take k).filter (fun it=>it.fld.toList == s.toList) <+: l.filter (fun it=>it.fld.toList == s.toList):=fun l k=>(List.take_prefix k l).filter _
  have h2:=(h1 its (j + 1)).length_le
  have h3:=congrArg List.length (getAcc_yes h hf)
  simp only [getAcc,List.length_map,List.length_append,List.length_cons,List.length_nil] at h3 ⊢
  omega
theorem getAcc_at {its:List It}{s:ByteArray}{j:Nat}{it:It}(h:its[j]?=some it)(hf:(it.fld.toList == s.toList)=true):(its.filter fun it=>it.fld.toList == s.toList)[(getAcc its s j).length]?=some it:=by
  have hlt:=(List.getElem?_eq_some_iff.1 h).1
  have e:its=its.take j ++ it :: its.drop (j + 1):=by
    rw [← (List.getElem?_eq_some_iff.1 h).2,← List.drop_eq_getElem_cons hlt,List.take_append_drop]
  have:(getAcc its s j).length=((its.take j).filter fun it=>it.fld.toList == s.toList).length:=by simp [getAcc]
  rw [this]
  have h2:(its.filter fun it=>it.fld.toList == s.toList)=((its.take j).filter fun it=>it.fld.toList == s.toList) ++ it :: ((its.drop (j + 1)).filter fun it=>it.fld.toList == s.toList):=by
    conv=>lhs;rw [e]
    rw [List.filter_append,List.filter_cons,if_pos hf]
  rw [h2,List.getElem?_append_right (Nat.le_refl _),Nat.sub_self]
  rfl
theorem reads_one {β:Type}{R:β→List Value→Prop}{size bz t:Nat}{W:World}{x:β}{cs:List Value}(h:W.heap[bz]?=some (.cells cs.toArray t (0,0)))(hl:cs.length=size)(hR:R x cs):ReadsRow R size W (some ⟨bz,0,none⟩) 1 [x]:=by
  refine⟨rfl,by decide,fun _=>⟨_,rfl,fun j p hj=>?_⟩⟩
  cases j with
  | succ j=>simp at hj
  | zero =>
    have hj':x=p:=by simpa using hj
    subst hj'
    refine⟨cs,hl,hR,fun i u hu=>?_⟩
    rw [Nat.zero_mul,Nat.zero_add,add_plain,bC_ h]
    simpa using hu
structure Made (k:S32) (w w10:World) (v4k v6k:Value) (bz:Nat) (W:World):Prop where
  r4:Kd.R k53 53 W w.heap.size (fun j=>w10.heap.size≤j) v4k k.f4
  r6:Kd.R k32 32 W w.heap.size (fun j=>w10.heap.size≤j) v6k k.f6
  hz:W.heap[bz]?=some (.cells #[.int .i64 0,.int .i64 0,.int .i64 0,.int .i64 0,.slice none 0 0,.string ⟨#[]⟩,.slice none 0 0] 32 (0,0))
  lz:w10.heap.size≤bz
  hb:Below w10.heap.size w10 W
section
variable {P:Program} {ops:Array Oper} {o:Oper} {a:Act} {Q:Exit→Act→World→Prop} {Kc:Act→World→Prop} {α:Type}
theorem two_last_ {md:Region.Mode}{S:World→Prop}{ds:List Nat}{i j:Nat}{Ni Nj:Option Tmp}{oi oj:Oper}{fuel:Nat}{l:Array Bool}{a:Act}{w:World}(li lj:Array Bool)(hi:ops[i]?=some oi)(hj:ops[j]?=some oj)(hNi:oi.dst=Ni)(hNj:oj.dst=Nj)
    (hc:(Region.ready md ops l == [i,j] && l.setIfInBounds i true == li && l.setIfInBounds j true == lj)=true) (hdi:i ∈ ds) (hdj:j ∈ ds)
    (h1:∀ K:Act→World→Prop,Shut (∀ a' w',wpAnyLast P md ops Q S ds fuel li a' w'→K a' w')→if Region.wanted oi (yielded ops a.tmps)=true then Oper.wp P oi a w K Q else K (a.put Ni undef) w)
    (h2:∀ K:Act→World→Prop,Shut (∀ a' w',wpAnyLast P md ops Q S ds fuel lj a' w'→K a' w')→if Region.wanted oj (yielded ops a.tmps)=true then Oper.wp P oj a w K Q else K (a.put Nj undef) w) :
    wpAnyLast P md ops Q S ds (fuel + 1) l a w:=by
  subst hNi
  subst hNj
  simp only [Bool.and_eq_true,beq_iff_eq] at hc
  obtain⟨⟨h3,h4⟩,h5⟩:=hc
  subst h4
  subst h5
  exact wpAnyLast_ready h3 (by simp) (AllReadyL.cons_last hi hdi (fun K hK=>h1 K hK) (AllReadyL.cons_last hj hdj (fun K hK=>h2 K hK) AllReadyL.nil))
theorem R_store_step (d:Kd α){W:World}(base:Nat)(hw:Region.wanted o (yielded ops a.tmps)=true)(hN:o.dst=none)(t:TypeId)(p x:Operand)(ho:o.op=.store t p x)(e:TypeId){g n cap o':Nat}(i:Int)(j:Nat)(xs:List α)(x':α)(u:Value)(seg c:List Value)(ok okp:Nat→Prop)
    (haddr:a.eval p=.pointer (some ⟨g,o',none⟩)) (hoff:o'=i.toNat * d.sz + j) (hx:a.eval x=u) (hu:u.cells.toList=seg) (ht:(P.info? t).map (·.size)=some seg.length) (h1:∀ q ∈ seg,q.oneCell'=true)
    (HO:d.R e W base ok (.slice (some ⟨g,0,none⟩) n cap) xs) (h0:0≤i) (hi:i < n) (hcl:c.length=d.sz) (hcc:∀ j u,c[j]?=some u→W.cell? ⟨g,i.toNat * d.sz + j,none⟩=some u)
    (hj:j + seg.length≤d.sz) (hM:d.M W base okp x' (c.take j ++ seg ++ c.drop (j + seg.length))) (hokp:∀ k,okp k→ok k∧k≠g)
    (h:∀ w1,d.R e w1 base ok (.slice (some ⟨g,0,none⟩) n cap) (xs.set i.toNat x')→W.grownBy w1 (some g)→Kc a w1):if Region.wanted o (yielded ops a.tmps)=true then Oper.wp P o a W Kc Q else Kc (a.put none undef) W:=by
  subst hoff
  obtain⟨hrow,hg⟩:=Kd.R_seg HO i h0 hi hcl hcc hj hM hokp
  have hnx:n=xs.length:=(Kd.R_reads' HO).1
  obtain⟨_,inner,hown,hr⟩:=HO
  have hil:i.toNat < n:=by omega
  have hrun:(Instr.storeAt t (.pointer (some ⟨g,i.toNat * d.sz + j,none⟩)) u).run P W=.ok () (W.setCells g (i.toNat * d.sz + j) seg):=by
    rcases hown.2 with⟨hv,_⟩|⟨g',cap',cur,hv,hb,hh,hnc,hcm,hcs,_⟩
    · cases hv
    injection hv with ha _ hc
    injection ha with ha
    injection ha with hg'
    subst hg';subst hc
    refine run_store_run t u seg hh hu ht ?_ h1
    have h2:i.toNat * d.sz + d.sz≤n * d.sz:=by rw [← Nat.succ_mul];exact Nat.mul_le_mul_right _ hil
    have h3:n * d.sz≤cap * d.sz:=Nat.mul_le_mul_right _ (by omega)
    omega
  refine skip_ hw hN ?_ (h _ hrow hg)
  unfold execOp
  simp only [ho,haddr,hx,Sem.run_bind,Sem.run_pure,Result.andThen_ok,hrun]
end
end Go.Proofs.Ytgdbcogbbghjaaa.Hand
