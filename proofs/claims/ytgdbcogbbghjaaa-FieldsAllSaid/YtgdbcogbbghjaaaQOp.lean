import Derived.Test.YtgdbcogbbghjaaaWX
import Derived.ChangeArms
import Derived.DataReads
import Derived.ChangeOld
import Derived.OpenShut
import Derived.Test.YtgdbcogbbghjaaaQ0
namespace Go.Proofs.Ytgdbcogbbghjaaa.Op
open Go.RowKit Go.Proofs.YtgdbcogbbghjaaaW.PrintWords Go.Proofs.YtgdbcogbbghjaaaW.PrintLast
variable {H:Type} {α:Type}
def OpF (enc:TypeId × Value→H)(P:Program)(w:World)(d:Kd α)(t:TypeId)(G:α→Prop)(fuel:Nat):Prop :=
  ∀ cs x,DataW.trod enc P w 0 (fun _=>true) true fuel t cs=some x→∃ a,d.K w a cs∧G a
variable {enc:TypeId × Value→H} {P:Program} {w:World} {d:Kd α} {t e:TypeId} {G:α→Prop}
theorem op_int {k:IntKind}(ht:P.underlying t=some (.int k))(fuel:Nat):OpF enc P w (Kd.int k) t (fun n=>(Lit.int k n).wf=true) fuel:=by
  intro cs x h
  obtain⟨n,rfl,_,hw⟩:=DataW.trod_int ht h
  exact⟨n,rfl,hw⟩
theorem op_string (ht:P.underlying t=some .string)(fuel:Nat):OpF enc P w Kd.string t (fun s=>s.size≤9223372036854775807) fuel:=by
  intro cs x h
  obtain⟨s,rfl,_,hs⟩:=DataW.trod_string ht h
  exact⟨s,rfl,hs⟩
theorem add_add (ad:Addr)(i j:Nat):(ad.add i).add j=ad.add (i + j):=by
  unfold Addr.add
  by_cases h1:i=0 <;> by_cases h2:j=0 <;> simp [h1,h2,Nat.add_assoc]
theorem op_slice {fuel:Nat}(ht:P.underlying t=some (.slice e))(hc:P.cellsOf e=d.sz)(h:∀ n,n < fuel→OpF enc P w d e G n) :
    OpF enc P w (Kd.slice e d) t (fun xs=>∀ a ∈ xs,G a) fuel:=by
  intro cs x hx
  rcases DataW.trod_slice ht hx with⟨rfl,_⟩|⟨a,len,cap,elems,rest,n,rfl,rfl,_,_,hl,hm,hlen,hel,_⟩
  · exact⟨[],⟨none,0,rfl,Nat.le_refl _,Kd.C_nil _ _⟩,by simp⟩
  · have key:∀ m,m≤len→∃ xs:List α,xs.length=m∧∀ i p,xs[i]?=some p→G p∧∃ c,c.length=d.sz∧d.K w p c∧∀ j u,c[j]?=some u→w.cell? (a.add (i * d.sz + j))=some u:=by
      intro m
      induction m with
      | zero=>exact fun _=>⟨[],rfl,fun i p hp=>by simp at hp⟩
      | succ m ih =>
        intro hm
        obtain⟨xs,hl,hx⟩:=ih (by omega)
        have h1:=hel m (by omega)
        rw [List.getElem?_eq_getElem (by omega)] at h1
        obtain⟨c,hcs,htr⟩:=Option.bind_eq_some_iff.1 h1
        obtain⟨p,hK,hG⟩:=h n (by omega) c _ htr
        refine⟨xs ++ [p],by simp [hl],fun i q hq=>?_⟩
        rcases Nat.lt_or_ge i xs.length with hi|hi
        · rw [List.getElem?_append_left hi] at hq
          exact hx i q hq
        · have hi':i=xs.length:=by
            have:=(List.getElem?_eq_some_iff.1 hq).1
            simp at this
            omega
          subst hi'
          have hq':p=q:=by simpa using hq
          subst hq'
          refine⟨hG,c,d.K_len hK,hK,fun j u hu=>?_⟩
          obtain⟨_,hlen2,hcell⟩:=World.cells?_some hcs
          have hj:j < P.cellsOf e:=by
            have:=(List.getElem?_eq_some_iff.1 hu).1
            omega
          have:=hcell j hj
          rw [add_add,hc] at this
          rw [hl,this,hu]
    obtain⟨xs,hxl,hxs⟩:=key len (Nat.le_refl _)
    subst hxl
    refine⟨xs,⟨some a,cap,rfl,hl,rfl,?_,fun _=>⟨a,rfl,fun j p hp=>(hxs j p hp).2⟩⟩,fun p hp=>?_⟩
    · have:xs.length≤maxLen:=Nat.le_trans hl hm
      unfold maxLen at this
      omega
    · obtain⟨i,hi⟩:=List.mem_iff_getElem?.1 hp
      exact(hxs i p hi).1
theorem cat (cs:List Value)(a b:Nat):cs.drop a=(cs.drop a).take b ++ cs.drop (a + b):=by
  rw [← List.drop_drop,List.take_append_drop]
theorem last_ (cs:List Value)(a b:Nat)(h:cs.length=a + b):cs.drop a=(cs.drop a).take b:=by
  rw [List.take_of_length_le (by rw [List.length_drop];omega)]
theorem field_of {fs:Array Field}{n:Nat}{cs:List Value}{xs:List (DataW H × List MemPlace)}(hlen:xs.length=fs.size)
    (hf:∀ (i:Nat) (f:Field),fs[i]?=some f→DataW.trod enc P w 0 (fun _=>true) true n f.type ((cs.drop f.offset).take (P.cellsOf f.type))=xs[i]?)
    (i:Nat) (f:Field) (hi:fs[i]?=some f) {sz:Nat} (hsz:P.cellsOf f.type=sz):∃ y,DataW.trod enc P w 0 (fun _=>true) true n f.type ((cs.drop f.offset).take sz)=some y:=by
  have h:=hf i f hi
  have hlt:i < fs.size:=(Array.getElem?_eq_some_iff.1 hi).1
  rw [List.getElem?_eq_getElem (by omega),hsz] at h
  exact⟨_,h⟩
theorem okWide_agg {r:Reach}{base:Nat}{v:Value}{fs:Array Field}(ht:P.underlying t=some (.struct fs))(h:Value.okWide P w r base t v):∃ cs,v=.agg cs:=by
  simp only [Value.okWide,ht] at h
  obtain⟨cs,rfl,_⟩:=h
  exact⟨cs,rfl⟩
end Go.Proofs.Ytgdbcogbbghjaaa.Op

namespace Go.Proofs.Ytgdbcogbbghjaaa.Op
open Go.RowKit Go.Proofs.Ytgdbcogbbghjaaa.Q Go.Proofs.YtgdbcogbbghjaaaW.PrintWords Go.Proofs.YtgdbcogbbghjaaaW.PrintLast
set_option linter.unusedVariables false
theorem cellsOf3:Try.prog.cellsOf 3=1:=by kernel_rfl
theorem cellsOf9:Try.prog.cellsOf 9=1:=by kernel_rfl
theorem cellsOf22:Try.prog.cellsOf 22=1:=by kernel_rfl
theorem cellsOf23:Try.prog.cellsOf 23=1:=by kernel_rfl
theorem cellsOf24:Try.prog.cellsOf 24=1:=by kernel_rfl
theorem cellsOf25:Try.prog.cellsOf 25=1:=by kernel_rfl
theorem cellsOf27:Try.prog.cellsOf 27=5:=by kernel_rfl
theorem cellsOf28:Try.prog.cellsOf 28=1:=by kernel_rfl
theorem cellsOf29:Try.prog.cellsOf 29=1:=by kernel_rfl
theorem cellsOf30:Try.prog.cellsOf 30=1:=by kernel_rfl
theorem cellsOf32:Try.prog.cellsOf 32=7:=by kernel_rfl
theorem cellsOf42:Try.prog.cellsOf 42=1:=by kernel_rfl
theorem cellsOf51:Try.prog.cellsOf 51=1:=by kernel_rfl
theorem cellsOf53:Try.prog.cellsOf 53=3:=by kernel_rfl
theorem cellsOf67:Try.prog.cellsOf 67=5:=by kernel_rfl
theorem cellsOf70:Try.prog.cellsOf 70=1:=by kernel_rfl
theorem cellsOf76:Try.prog.cellsOf 76=1:=by kernel_rfl
theorem cellsOf78:Try.prog.cellsOf 78=2:=by kernel_rfl
def W67 (x:S67):Prop:=(Lit.int .i64 x.f0).wf=true∧(∀ a_ ∈ x.f1,(Lit.int .i64 a_).wf=true)∧(∀ a_ ∈ x.f2,a_.size≤9223372036854775807)∧x.f3.size≤9223372036854775807∧(Lit.int .i64 x.f4).wf=true
theorem op_S67 {H:Type}{enc:TypeId × Value→H}{w:World}(fuel:Nat):OpF enc Try.prog w k67 67 W67 fuel:=by
  intro cs x h
  obtain⟨xs,n,rfl,rfl,hl,hlen,hf⟩:=DataW.trod_struct Try.underlying67 h
  rw [cellsOf67] at hl
  obtain⟨y0,e0⟩:=field_of hlen hf 0 _ rfl (sz:=1) (by exact cellsOf3)
  obtain⟨a0,k0_,g0⟩:=(fun n_=>op_int Try.underlying3 n_) n _ _ e0
  have q0:=k0_
  obtain⟨y1,e1⟩:=field_of hlen hf 1 _ rfl (sz:=1) (by exact cellsOf42)
  obtain⟨a1,k1_,g1⟩:=(fun n_=>op_slice Try.underlying42 (by exact cellsOf3) (fun m_ _=>(fun n_=>op_int Try.underlying3 n_) m_)) n _ _ e1
  obtain⟨A1,c1,q1,l1,r1⟩:=k1_
  obtain⟨y2,e2⟩:=field_of hlen hf 2 _ rfl (sz:=1) (by exact cellsOf22)
  obtain⟨a2,k2_,g2⟩:=(fun n_=>op_slice Try.underlying22 (by exact cellsOf9) (fun m_ _=>(fun n_=>op_string Try.underlying9 n_) m_)) n _ _ e2
  obtain⟨A2,c2,q2,l2,r2⟩:=k2_
  obtain⟨y3,e3⟩:=field_of hlen hf 3 _ rfl (sz:=1) (by exact cellsOf9)
  obtain⟨a3,k3_,g3⟩:=(fun n_=>op_string Try.underlying9 n_) n _ _ e3
  have q3:=k3_
  obtain⟨y4,e4⟩:=field_of hlen hf 4 _ rfl (sz:=1) (by exact cellsOf3)
  obtain⟨a4,k4_,g4⟩:=(fun n_=>op_int Try.underlying3 n_) n _ _ e4
  have q4:=k4_
  have hcs:=(cat cs 0 1).trans (congr (congrArg (fun x y=>x ++ y) q0) ((cat cs 1 1).trans (congr (congrArg (fun x y=>x ++ y) q1) ((cat cs 2 1).trans (congr (congrArg (fun x y=>x ++ y) q2) ((cat cs 3 1).trans (congr (congrArg (fun x y=>x ++ y) q3) ((last_ cs 4 1 hl).trans q4))))))))
  refine⟨(⟨a0,a1,a2,a3,a4⟩:S67),?_,g0,g1,g2,g3,g4⟩
  rw [show cs=_ from hcs]
  exact k67_mk w (⟨a0,a1,a2,a3,a4⟩:S67) l1 r1 l2 r2
def W78 (x:S78):Prop:=(Lit.int .i64 x.f0).wf=true∧(∀ a_ ∈ x.f1,(Lit.int .i64 a_).wf=true)
theorem op_S78 {H:Type}{enc:TypeId × Value→H}{w:World}(fuel:Nat):OpF enc Try.prog w k78 78 W78 fuel:=by
  intro cs x h
  obtain⟨xs,n,rfl,rfl,hl,hlen,hf⟩:=DataW.trod_struct Try.underlying78 h
  rw [cellsOf78] at hl
  obtain⟨y0,e0⟩:=field_of hlen hf 0 _ rfl (sz:=1) (by exact cellsOf76)
  obtain⟨a0,k0_,g0⟩:=(fun n_=>op_int Try.underlying76 n_) n _ _ e0
  have q0:=k0_
  obtain⟨y1,e1⟩:=field_of hlen hf 1 _ rfl (sz:=1) (by exact cellsOf42)
  obtain⟨a1,k1_,g1⟩:=(fun n_=>op_slice Try.underlying42 (by exact cellsOf3) (fun m_ _=>(fun n_=>op_int Try.underlying3 n_) m_)) n _ _ e1
  obtain⟨A1,c1,q1,l1,r1⟩:=k1_
  have hcs:=(cat cs 0 1).trans (congr (congrArg (fun x y=>x ++ y) q0) ((last_ cs 1 1 hl).trans q1))
  refine⟨(⟨a0,a1⟩:S78),?_,g0,g1⟩
  rw [show cs=_ from hcs]
  exact k78_mk w (⟨a0,a1⟩:S78) l1 r1
def W27 (x:S27):Prop:=(∀ a_ ∈ x.f0,a_.size≤9223372036854775807)∧(∀ a_ ∈ x.f1,a_.size≤9223372036854775807)∧(∀ a_ ∈ x.f2,(Lit.int .i64 a_).wf=true)∧(∀ a_ ∈ x.f3,W67 a_)∧(∀ a_ ∈ x.f4,W78 a_)
theorem op_S27 {H:Type}{enc:TypeId × Value→H}{w:World}(fuel:Nat):OpF enc Try.prog w k27 27 W27 fuel:=by
  intro cs x h
  obtain⟨xs,n,rfl,rfl,hl,hlen,hf⟩:=DataW.trod_struct Try.underlying27 h
  rw [cellsOf27] at hl
  obtain⟨y0,e0⟩:=field_of hlen hf 0 _ rfl (sz:=1) (by exact cellsOf22)
  obtain⟨a0,k0_,g0⟩:=(fun n_=>op_slice Try.underlying22 (by exact cellsOf9) (fun m_ _=>(fun n_=>op_string Try.underlying9 n_) m_)) n _ _ e0
  obtain⟨A0,c0,q0,l0,r0⟩:=k0_
  obtain⟨y1,e1⟩:=field_of hlen hf 1 _ rfl (sz:=1) (by exact cellsOf22)
  obtain⟨a1,k1_,g1⟩:=(fun n_=>op_slice Try.underlying22 (by exact cellsOf9) (fun m_ _=>(fun n_=>op_string Try.underlying9 n_) m_)) n _ _ e1
  obtain⟨A1,c1,q1,l1,r1⟩:=k1_
  obtain⟨y2,e2⟩:=field_of hlen hf 2 _ rfl (sz:=1) (by exact cellsOf23)
  obtain⟨a2,k2_,g2⟩:=(fun n_=>op_slice Try.underlying23 (by exact cellsOf70) (fun m_ _=>(fun n_=>op_int Try.underlying70 n_) m_)) n _ _ e2
  obtain⟨A2,c2,q2,l2,r2⟩:=k2_
  obtain⟨y3,e3⟩:=field_of hlen hf 3 _ rfl (sz:=1) (by exact cellsOf24)
  obtain⟨a3,k3_,g3⟩:=(fun n_=>op_slice Try.underlying24 (by exact cellsOf67) (fun m_ _=>(fun n_=>op_S67 n_) m_)) n _ _ e3
  obtain⟨A3,c3,q3,l3,r3⟩:=k3_
  obtain⟨y4,e4⟩:=field_of hlen hf 4 _ rfl (sz:=1) (by exact cellsOf25)
  obtain⟨a4,k4_,g4⟩:=(fun n_=>op_slice Try.underlying25 (by exact cellsOf78) (fun m_ _=>(fun n_=>op_S78 n_) m_)) n _ _ e4
  obtain⟨A4,c4,q4,l4,r4⟩:=k4_
  have hcs:=(cat cs 0 1).trans (congr (congrArg (fun x y=>x ++ y) q0) ((cat cs 1 1).trans (congr (congrArg (fun x y=>x ++ y) q1) ((cat cs 2 1).trans (congr (congrArg (fun x y=>x ++ y) q2) ((cat cs 3 1).trans (congr (congrArg (fun x y=>x ++ y) q3) ((last_ cs 4 1 hl).trans q4))))))))
  refine⟨(⟨a0,a1,a2,a3,a4⟩:S27),?_,g0,g1,g2,g3,g4⟩
  rw [show cs=_ from hcs]
  exact k27_mk w (⟨a0,a1,a2,a3,a4⟩:S27) l0 r0 l1 r1 l2 r2 l3 r3 l4 r4
end Go.Proofs.Ytgdbcogbbghjaaa.Op
