import Derived.Test.YtgdbcogbbghjaaaHa
namespace Go.Proofs.Ytgdbcogbbghjaaa.Hand
open Go.RowKit Go.Proofs.YtgdbcogbbghjaaaW.PrintWords Go.Proofs.YtgdbcogbbghjaaaW.PrintLast Go.Proofs.YtgdbcogbbghjaaaW.PrintMore Go.Proofs.Ytgdbcogbbghjaaa.Q
set_option linter.unusedVariables false
set_option linter.unusedSimpArgs false
def cloneB:Nat→S32→Bool
  | 0,_=>false
  | d + 1,n=>decide (n.f4.length < 4398046511104) && decide (n.f6.length < 1466015503701) && n.f6.all (cloneB d)
theorem cloneB_mono:∀ (d:Nat)(n:S32),cloneB d n=true→cloneB (d + 1) n=true
  | 0,_,h=>by simp [cloneB] at h
  | d + 1,n,h=>by
    unfold cloneB at h ⊢
    simp only [Bool.and_eq_true,decide_eq_true_eq,List.all_eq_true] at h ⊢
    exact⟨h.1,fun x hx=>cloneB_mono d x (h.2 x hx)⟩
theorem kidsL_mono {rec rec':S32→List Int→ByteArray→Option (List It)}(h:∀ n p f,LeO (rec n p f) (rec' n p f))(g:Gr)(n:S32)(path:List Int)(fd:ByteArray):∀ (l:List S32)(i:Nat),LeO (kidsL rec g n path fd l i) (kidsL rec' g n path fd l i)
  | [],i=>LeO.refl _
  | k :: ks,i=>by
    unfold kidsL
    refine LeO.bind (LeO.refl _) (fun f=>LeO.bind (LeO.refl _) (fun d=>LeO.bind (LeO.ite (h _ _ _) (LeO.refl _)) (fun a=>LeO.bind (kidsL_mono h g n path fd ks (i + 1)) (fun b=>LeO.refl _))))
theorem kidsF_mono:∀ (d:Nat)(g:Gr)(n:S32)(path:List Int)(fd:ByteArray),LeO (kidsF d g n path fd) (kidsF (d + 1) g n path fd)
  | 0,g,n,path,fd=>LeO.none _
  | d + 1,g,n,path,fd=>by
    unfold kidsF
    exact LeO.ite (kidsL_mono (fun n p f=>kidsF_mono d g n p f) g n path fd n.f6 0) (LeO.refl _)
def nodesOf (k:Nat)(r:List It):Option (List S32):=if r.length < 1466015503701∧r.all (fun it=>cloneB k it.node)=true then some (r.map (·.node))else none
theorem nodesOf_mono (k:Nat)(r:List It):LeO (nodesOf k r) (nodesOf (k + 1) r):=by
  unfold nodesOf
  intro x hx
  split at hx
  · rename_i h
    rw [if_pos ⟨h.1,by rw [List.all_eq_true];exact fun it hit=>cloneB_mono k _ (List.all_eq_true.1 h.2 it hit)⟩]
    exact hx
  · cases hx
def kidsOf (k:Nat)(g:Gr)(n:S32):Option (List S32):=(kidsF k g n [] ⟨#[]⟩).bind fun r=>nodesOf k r
theorem kidsOf_mono (k:Nat)(g:Gr)(n:S32):LeO (kidsOf k g n) (kidsOf (k + 1) g n):=LeO.bind (kidsF_mono k g n _ _) (fun r=>nodesOf_mono k r)
def getOf (k:Nat)(g:Gr)(n:S32)(s:ByteArray):Option (List S32):=if s.toList=[] then some [] else(kidsF k g n [] ⟨#[]⟩).bind fun r=>nodesOf k (r.filter fun it=>it.fld.toList == s.toList)
def pathsOf (k:Nat)(g:Gr)(n:S32):Option (List (List Int)):=(kidsF k g n [] ⟨#[]⟩).bind fun r=>if r.length < 5864062014805∧r.all (fun it=>decide (it.path.length < 17592186044416))=true then some (r.map (·.path))else none
def fieldsOf (k:Nat)(g:Gr)(n:S32):Option (List ByteArray):=(kidsF k g n [] ⟨#[]⟩).bind fun r=>if r.length < 8796093022208 then some (r.map (·.fld))else none
end Go.Proofs.Ytgdbcogbbghjaaa.Hand
