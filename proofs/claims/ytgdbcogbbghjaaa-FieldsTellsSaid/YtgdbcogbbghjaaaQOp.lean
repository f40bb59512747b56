import Derived.Test.YtgdbcogbbghjaaaQ0
import Derived.Test.YtgdbcogbbghjaaaQOp0
namespace Go.Proofs.Ytgdbcogbbghjaaa.Op
open Go.RowKit Go.Proofs.Ytgdbcogbbghjaaa.Q Go.Proofs.YtgdbcogbbghjaaaW.PrintWords Go.Proofs.YtgdbcogbbghjaaaW.PrintLast
set_option linter.unusedVariables false
theorem cellsOf3:Try.prog.cellsOf 3=1:=by kernel_rfl
theorem cellsOf9:Try.prog.cellsOf 9=1:=by kernel_rfl
theorem cellsOf22:Try.prog.cellsOf 22=1:=by kernel_rfl
theorem cellsOf23:Try.prog.cellsOf 23=1:=by kernel_rfl
theorem cellsOf24:Try.prog.cellsOf 24=1:=by kernel_rfl
theorem cellsOf25:Try.prog.cellsOf 25=1:=by kernel_rfl
theorem cellsOf27:Try.prog.cellsOf 27=5:=by kernel_rfl
theorem cellsOf28:Try.prog.cellsOf 28=1:=by kernel_rfl
theorem cellsOf29:Try.prog.cellsOf 29=1:=by kernel_rfl
theorem cellsOf30:Try.prog.cellsOf 30=1:=by kernel_rfl
theorem cellsOf32:Try.prog.cellsOf 32=7:=by kernel_rfl
theorem cellsOf42:Try.prog.cellsOf 42=1:=by kernel_rfl
theorem cellsOf51:Try.prog.cellsOf 51=1:=by kernel_rfl
theorem cellsOf53:Try.prog.cellsOf 53=3:=by kernel_rfl
theorem cellsOf67:Try.prog.cellsOf 67=5:=by kernel_rfl
theorem cellsOf70:Try.prog.cellsOf 70=1:=by kernel_rfl
theorem cellsOf76:Try.prog.cellsOf 76=1:=by kernel_rfl
theorem cellsOf78:Try.prog.cellsOf 78=2:=by kernel_rfl
def W67 (x:S67):Prop:=(Lit.int .i64 x.f0).wf=true∧(∀ a_ ∈ x.f1,(Lit.int .i64 a_).wf=true)∧(∀ a_ ∈ x.f2,a_.size≤9223372036854775807)∧x.f3.size≤9223372036854775807∧(Lit.int .i64 x.f4).wf=true
theorem op_S67 {H:Type}{enc:TypeId × Value→H}{w:World}(fuel:Nat):OpF enc Try.prog w k67 67 W67 fuel:=by
  intro cs x h
  obtain⟨xs,n,rfl,rfl,hl,hlen,hf⟩:=DataW.trod_struct Try.underlying67 h
  rw [cellsOf67] at hl
  obtain⟨y0,e0⟩:=field_of hlen hf 0 _ rfl (sz:=1) (by exact cellsOf3)
  obtain⟨a0,k0_,g0⟩:=(fun n_=>op_int Try.underlying3 n_) n _ _ e0
  have q0:=k0_
  obtain⟨y1,e1⟩:=field_of hlen hf 1 _ rfl (sz:=1) (by exact cellsOf42)
  obtain⟨a1,k1_,g1⟩:=(fun n_=>op_slice Try.underlying42 (by exact cellsOf3) (fun m_ _=>(fun n_=>op_int Try.underlying3 n_) m_)) n _ _ e1
  obtain⟨A1,c1,q1,l1,r1⟩:=k1_
  obtain⟨y2,e2⟩:=field_of hlen hf 2 _ rfl (sz:=1) (by exact cellsOf22)
  obtain⟨a2,k2_,g2⟩:=(fun n_=>op_slice Try.underlying22 (by exact cellsOf9) (fun m_ _=>(fun n_=>op_string Try.underlying9 n_) m_)) n _ _ e2
  obtain⟨A2,c2,q2,l2,r2⟩:=k2_
  obtain⟨y3,e3⟩:=field_of hlen hf 3 _ rfl (sz:=1) (by exact cellsOf9)
  obtain⟨a3,k3_,g3⟩:=(fun n_=>op_string Try.underlying9 n_) n _ _ e3
  have q3:=k3_
  obtain⟨y4,e4⟩:=field_of hlen hf 4 _ rfl (sz:=1) (by exact cellsOf3)
  obtain⟨a4,k4_,g4⟩:=(fun n_=>op_int Try.underlying3 n_) n _ _ e4
  have q4:=k4_
  have hcs:=(cat cs 0 1).trans (congr (congrArg (fun x y=>x ++ y) q0) ((cat cs 1 1).trans (congr (congrArg (fun x y=>x ++ y) q1) ((cat cs 2 1).trans (congr (congrArg (fun x y=>x ++ y) q2) ((cat cs 3 1).trans (congr (congrArg (fun x y=>x ++ y) q3) ((last_ cs 4 1 hl).trans q4))))))))
  refine⟨(⟨a0,a1,a2,a3,a4⟩:S67),?_,g0,g1,g2,g3,g4⟩
  rw [show cs=_ from hcs]
  exact k67_mk w (⟨a0,a1,a2,a3,a4⟩:S67) l1 r1 l2 r2
def W78 (x:S78):Prop:=(Lit.int .i64 x.f0).wf=true∧(∀ a_ ∈ x.f1,(Lit.int .i64 a_).wf=true)
theorem op_S78 {H:Type}{enc:TypeId × Value→H}{w:World}(fuel:Nat):OpF enc Try.prog w k78 78 W78 fuel:=by
  intro cs x h
  obtain⟨xs,n,rfl,rfl,hl,hlen,hf⟩:=DataW.trod_struct Try.underlying78 h
  rw [cellsOf78] at hl
  obtain⟨y0,e0⟩:=field_of hlen hf 0 _ rfl (sz:=1) (by exact cellsOf76)
  obtain⟨a0,k0_,g0⟩:=(fun n_=>op_int Try.underlying76 n_) n _ _ e0
  have q0:=k0_
  obtain⟨y1,e1⟩:=field_of hlen hf 1 _ rfl (sz:=1) (by exact cellsOf42)
  obtain⟨a1,k1_,g1⟩:=(fun n_=>op_slice Try.underlying42 (by exact cellsOf3) (fun m_ _=>(fun n_=>op_int Try.underlying3 n_) m_)) n _ _ e1
  obtain⟨A1,c1,q1,l1,r1⟩:=k1_
  have hcs:=(cat cs 0 1).trans (congr (congrArg (fun x y=>x ++ y) q0) ((last_ cs 1 1 hl).trans q1))
  refine⟨(⟨a0,a1⟩:S78),?_,g0,g1⟩
  rw [show cs=_ from hcs]
  exact k78_mk w (⟨a0,a1⟩:S78) l1 r1
def W27 (x:S27):Prop:=(∀ a_ ∈ x.f0,a_.size≤9223372036854775807)∧(∀ a_ ∈ x.f1,a_.size≤9223372036854775807)∧(∀ a_ ∈ x.f2,(Lit.int .i64 a_).wf=true)∧(∀ a_ ∈ x.f3,W67 a_)∧(∀ a_ ∈ x.f4,W78 a_)
theorem op_S27 {H:Type}{enc:TypeId × Value→H}{w:World}(fuel:Nat):OpF enc Try.prog w k27 27 W27 fuel:=by
  intro cs x h
  obtain⟨xs,n,rfl,rfl,hl,hlen,hf⟩:=DataW.trod_struct Try.underlying27 h
  rw [cellsOf27] at hl
  obtain⟨y0,e0⟩:=field_of hlen hf 0 _ rfl (sz:=1) (by exact cellsOf22)
  obtain⟨a0,k0_,g0⟩:=(fun n_=>op_slice Try.underlying22 (by exact cellsOf9) (fun m_ _=>(fun n_=>op_string Try.underlying9 n_) m_)) n _ _ e0
  obtain⟨A0,c0,q0,l0,r0⟩:=k0_
  obtain⟨y1,e1⟩:=field_of hlen hf 1 _ rfl (sz:=1) (by exact cellsOf22)
  obtain⟨a1,k1_,g1⟩:=(fun n_=>op_slice Try.underlying22 (by exact cellsOf9) (fun m_ _=>(fun n_=>op_string Try.underlying9 n_) m_)) n _ _ e1
  obtain⟨A1,c1,q1,l1,r1⟩:=k1_
  obtain⟨y2,e2⟩:=field_of hlen hf 2 _ rfl (sz:=1) (by exact cellsOf23)
  obtain⟨a2,k2_,g2⟩:=(fun n_=>op_slice Try.underlying23 (by exact cellsOf70) (fun m_ _=>(fun n_=>op_int Try.underlying70 n_) m_)) n _ _ e2
  obtain⟨A2,c2,q2,l2,r2⟩:=k2_
  obtain⟨y3,e3⟩:=field_of hlen hf 3 _ rfl (sz:=1) (by exact cellsOf24)
  obtain⟨a3,k3_,g3⟩:=(fun n_=>op_slice Try.underlying24 (by exact cellsOf67) (fun m_ _=>(fun n_=>op_S67 n_) m_)) n _ _ e3
  obtain⟨A3,c3,q3,l3,r3⟩:=k3_
  obtain⟨y4,e4⟩:=field_of hlen hf 4 _ rfl (sz:=1) (by exact cellsOf25)
  obtain⟨a4,k4_,g4⟩:=(fun n_=>op_slice Try.underlying25 (by exact cellsOf78) (fun m_ _=>(fun n_=>op_S78 n_) m_)) n _ _ e4
  obtain⟨A4,c4,q4,l4,r4⟩:=k4_
  have hcs:=(cat cs 0 1).trans (congr (congrArg (fun x y=>x ++ y) q0) ((cat cs 1 1).trans (congr (congrArg (fun x y=>x ++ y) q1) ((cat cs 2 1).trans (congr (congrArg (fun x y=>x ++ y) q2) ((cat cs 3 1).trans (congr (congrArg (fun x y=>x ++ y) q3) ((last_ cs 4 1 hl).trans q4))))))))
  refine⟨(⟨a0,a1,a2,a3,a4⟩:S27),?_,g0,g1,g2,g3,g4⟩
  rw [show cs=_ from hcs]
  exact k27_mk w (⟨a0,a1,a2,a3,a4⟩:S27) l0 r0 l1 r1 l2 r2 l3 r3 l4 r4
def W53 (x:S53):Prop:=(Lit.int .i64 x.f0).wf=true∧(Lit.int .i64 x.f1).wf=true∧x.f2.size≤9223372036854775807
theorem op_S53 {H:Type}{enc:TypeId × Value→H}{w:World}(fuel:Nat):OpF enc Try.prog w k53 53 W53 fuel:=by
  intro cs x h
  obtain⟨xs,n,rfl,rfl,hl,hlen,hf⟩:=DataW.trod_struct Try.underlying53 h
  rw [cellsOf53] at hl
  obtain⟨y0,e0⟩:=field_of hlen hf 0 _ rfl (sz:=1) (by exact cellsOf51)
  obtain⟨a0,k0_,g0⟩:=(fun n_=>op_int Try.underlying51 n_) n _ _ e0
  have q0:=k0_
  obtain⟨y1,e1⟩:=field_of hlen hf 1 _ rfl (sz:=1) (by exact cellsOf3)
  obtain⟨a1,k1_,g1⟩:=(fun n_=>op_int Try.underlying3 n_) n _ _ e1
  have q1:=k1_
  obtain⟨y2,e2⟩:=field_of hlen hf 2 _ rfl (sz:=1) (by exact cellsOf9)
  obtain⟨a2,k2_,g2⟩:=(fun n_=>op_string Try.underlying9 n_) n _ _ e2
  have q2:=k2_
  have hcs:=(cat cs 0 1).trans (congr (congrArg (fun x y=>x ++ y) q0) ((cat cs 1 1).trans (congr (congrArg (fun x y=>x ++ y) q1) ((last_ cs 2 1 hl).trans q2))))
  refine⟨(⟨a0,a1,a2⟩:S53),?_,g0,g1,g2⟩
  rw [show cs=_ from hcs]
  exact k53_mk w (⟨a0,a1,a2⟩:S53) 
inductive W32:S32→Prop
  | mk (x:S32) (h0:(Lit.int .i64 x.f0).wf=true) (h1:(Lit.int .i64 x.f1).wf=true) (h2:(Lit.int .i64 x.f2).wf=true) (h3:(Lit.int .i64 x.f3).wf=true) (h4:(∀ a_ ∈ x.f4,W53 a_)) (h5:x.f5.size≤9223372036854775807) (h6:(∀ a_ ∈ x.f6,W32 a_)):W32 x
theorem op_S32 {H:Type}{enc:TypeId × Value→H}{w:World}(fuel:Nat):OpF enc Try.prog w k32 32 W32 fuel:=by
  induction fuel using Nat.strongRecOn with
  | _ fuel ih =>
  intro cs x h
  obtain⟨xs,n,rfl,rfl,hl,hlen,hf⟩:=DataW.trod_struct Try.underlying32 h
  rw [cellsOf32] at hl
  obtain⟨y0,e0⟩:=field_of hlen hf 0 _ rfl (sz:=1) (by exact cellsOf3)
  obtain⟨a0,k0_,g0⟩:=(fun n_=>op_int Try.underlying3 n_) n _ _ e0
  have q0:=k0_
  obtain⟨y1,e1⟩:=field_of hlen hf 1 _ rfl (sz:=1) (by exact cellsOf3)
  obtain⟨a1,k1_,g1⟩:=(fun n_=>op_int Try.underlying3 n_) n _ _ e1
  have q1:=k1_
  obtain⟨y2,e2⟩:=field_of hlen hf 2 _ rfl (sz:=1) (by exact cellsOf3)
  obtain⟨a2,k2_,g2⟩:=(fun n_=>op_int Try.underlying3 n_) n _ _ e2
  have q2:=k2_
  obtain⟨y3,e3⟩:=field_of hlen hf 3 _ rfl (sz:=1) (by exact cellsOf28)
  obtain⟨a3,k3_,g3⟩:=(fun n_=>op_int Try.underlying28 n_) n _ _ e3
  have q3:=k3_
  obtain⟨y4,e4⟩:=field_of hlen hf 4 _ rfl (sz:=1) (by exact cellsOf29)
  obtain⟨a4,k4_,g4⟩:=(fun n_=>op_slice Try.underlying29 (by exact cellsOf53) (fun m_ _=>(fun n_=>op_S53 n_) m_)) n _ _ e4
  obtain⟨A4,c4,q4,l4,r4⟩:=k4_
  obtain⟨y5,e5⟩:=field_of hlen hf 5 _ rfl (sz:=1) (by exact cellsOf9)
  obtain⟨a5,k5_,g5⟩:=(fun n_=>op_string Try.underlying9 n_) n _ _ e5
  have q5:=k5_
  obtain⟨y6,e6⟩:=field_of hlen hf 6 _ rfl (sz:=1) (by exact cellsOf30)
  obtain⟨a6,k6_,g6⟩:=(fun n_ hn_=>op_slice Try.underlying30 (by exact cellsOf32) (fun m_ hm_=>ih m_ (by omega))) n (Nat.le_refl _) _ _ e6
  obtain⟨A6,c6,q6,l6,r6⟩:=k6_
  have hcs:=(cat cs 0 1).trans (congr (congrArg (fun x y=>x ++ y) q0) ((cat cs 1 1).trans (congr (congrArg (fun x y=>x ++ y) q1) ((cat cs 2 1).trans (congr (congrArg (fun x y=>x ++ y) q2) ((cat cs 3 1).trans (congr (congrArg (fun x y=>x ++ y) q3) ((cat cs 4 1).trans (congr (congrArg (fun x y=>x ++ y) q4) ((cat cs 5 1).trans (congr (congrArg (fun x y=>x ++ y) q5) ((last_ cs 6 1 hl).trans q6))))))))))))
  refine⟨(⟨a0,a1,a2,a3,a4,a5,a6⟩:S32),?_,W32.mk _ g0 g1 g2 g3 g4 g5 g6⟩
  rw [show cs=_ from hcs]
  exact k32_mk w (⟨a0,a1,a2,a3,a4,a5,a6⟩:S32) l4 r4 l6 r6
end Go.Proofs.Ytgdbcogbbghjaaa.Op
