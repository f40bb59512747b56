import Derived.Test.YtgdbcogbbghjaaaHm
import Derived.Test.YtgdbcogbbghjaaaQf8
import Derived.Test.YtgdbcogbbghjaaaQf9
namespace Go.Proofs.Ytgdbcogbbghjaaa.Pure
open Go.RowKit Go.Proofs.Ytgdbcogbbghjaaa.Q Go.Proofs.YtgdbcogbbghjaaaW.PrintWords Go.Proofs.YtgdbcogbbghjaaaW.PrintLast
open Hand (It Gr kidsF kidsL cloneB nodesOf kidsOf pathsOf fieldsOf getOf)
theorem w64 {n:Int}(h0:-9223372036854775808≤n)(h1:n≤9223372036854775807):wrap64 n=n:=by unfold wrap64;omega
theorem mn_or (a b:Int):mn a b≤a∧mn a b≤b∧(mn a b=a∨mn a b=b):=by
  unfold mn
  split <;> omega
def small:Nat→S32→Bool
  | 0,_=>false
  | d + 1,n=>decide (n.f4.length < 300) && decide (n.f6.length < 300) && n.f6.all (small d)
def cnt:Nat→S32→Nat
  | 0,_=>0
  | d + 1,n=>1 + (n.f6.map (cnt d)).sum
theorem small_succ {d:Nat}{n:S32}:small (d + 1) n=true ↔ n.f4.length < 300∧n.f6.length < 300∧∀ y ∈ n.f6,small d y=true:=by
  simp only [small,Bool.and_eq_true,decide_eq_true_eq,List.all_eq_true,and_assoc]
theorem small_mono:∀ (d:Nat)(n:S32),small d n=true→small (d + 1) n=true∧cnt (d + 1) n=cnt d n
  | 0,_,h=>by simp [small] at h
  | d + 1,n,h=>by
    obtain⟨h1,h2,h3⟩:=small_succ.1 h
    refine⟨small_succ.2 ⟨h1,h2,fun y hy=>(small_mono d y (h3 y hy)).1⟩,?_⟩
    show 1 + (n.f6.map (cnt (d + 1))).sum=1 + (n.f6.map (cnt d)).sum
    rw [List.map_congr_left (fun y hy=>(small_mono d y (h3 y hy)).2)]
theorem cnt_pos {d:Nat}{n:S32}(h:small d n=true):1≤cnt d n:=by
  cases d with
  | zero=>simp [small] at h
  | succ d=>show 1≤1 + _;omega
theorem small_clone:∀ (d:Nat)(n:S32),small d n=true→cloneB d n=true
  | 0,_,h=>by simp [small] at h
  | d + 1,n,h=>by
    obtain⟨h1,h2,h3⟩:=small_succ.1 h
    simp only [cloneB,Bool.and_eq_true,decide_eq_true_eq,List.all_eq_true]
    exact⟨⟨by omega,by omega⟩,fun y hy=>small_clone d y (h3 y hy)⟩
theorem sum_len {l:List S32}{d:Nat}(h:∀ y ∈ l,small d y=true):l.length≤(l.map (cnt d)).sum:=by
  induction l with
  | nil=>simp
  | cons y l ih =>
    have h1:=cnt_pos (h y List.mem_cons_self)
    have h2:=ih fun z hz=>h z (List.mem_cons_of_mem _ hz)
    simp only [List.length_cons,List.map_cons,List.sum_cons]
    omega
theorem sum_mono {l:List S32}{d:Nat}(h:∀ y ∈ l,small d y=true):(l.map (cnt (d + 1))).sum=(l.map (cnt d)).sum:=by
  rw [List.map_congr_left (fun y hy=>(small_mono d y (h y hy)).2)]
abbrev NF (k:Nat)(n:S32)(m:Int):Option Int:=arboristlaw46_Nodes.f k n.f0 n.f1 n.f2 n.f3 n.f4 n.f5 n.f6 m
def Spec (k:Nat):Prop:=∀ (n:S32)(m t:Int),NF k n m=some t→0≤m→m≤300→(1≤t∧t≤1051 + 350 * m)∧(t < m→small k n=true∧(cnt k n:Int)≤t)
theorem l1_spec (x1:Int)(n:S32)(hx0:0≤x1)(hx:x1≤300):∀ (k:Nat),(∀ j,j < k→Spec j)→∀ (x5 t:Int)(i:Nat),arboristlaw46_Nodes.l1 k x1 x5 (i:Int) n.f0 n.f1 n.f2 n.f3 n.f4 n.f5 n.f6=some t→1≤x5→x5≤1051 + 350 * x1→(i:Int)≤x5 →
    x5≤t∧t≤1051 + 350 * x1∧(t < x1→(∀ y ∈ n.f6.drop i,small k y=true)∧(((n.f6.drop i).map (cnt k)).sum:Int) + x5≤t):=by
  intro k
  induction k with
  | zero=>intro _ x5 t i h;simp [arboristlaw46_Nodes.l1] at h
  | succ k ih =>
    intro H x5 t i h h1 h2 h3
    simp only [arboristlaw46_Nodes.l1] at h
    by_cases hi:(i:Int) < (n.f6.length:Int)
    · rw [if_pos hi] at h
      by_cases hlt:x5 < x1
      · rw [if_pos hlt,if_pos (by omega)] at h
        obtain⟨u,hu,h⟩:=Option.bind_eq_some_iff.1 h
        rw [w64 (by omega) (by omega)] at hu
        obtain⟨hu1,hu2⟩:=H k (by omega) (rd_T32 n.f6 (i:Int)) _ _ hu (by omega) (by omega)
        rw [w64 (by omega) (by omega),w64 (by omega) (by omega),show(i:Int) + 1=((i + 1:Nat):Int)from by omega] at h
        obtain⟨g1,g2,g3⟩:=ih (fun j hj=>H j (by omega)) (x5 + u) t (i + 1) h (by omega) (by omega) (by omega)
        refine⟨by omega,g2,fun ht=>?_⟩
        obtain⟨g4,g5⟩:=g3 ht
        obtain⟨hs,hc⟩:=hu2 (by omega)
        have hin:i < n.f6.length:=by omega
        have hrd:rd_T32 n.f6 (i:Int)=n.f6[i]:=by simp [rd_T32,hin]
        rw [hrd] at hs hc
        rw [List.drop_eq_getElem_cons hin]
        refine⟨fun y hy=>?_,?_⟩
        · rcases List.mem_cons.1 hy with rfl|hy
          · exact(small_mono k _ hs).1
          · exact(small_mono k _ (g4 y hy)).1
        · rw [List.map_cons,List.sum_cons,(small_mono k _ hs).2,sum_mono g4]
          omega
      · rw [if_neg hlt] at h
        obtain rfl:=Option.some.inj h
        exact⟨by omega,h2,fun h=>by omega⟩
    · rw [if_neg hi] at h
      obtain rfl:=Option.some.inj h
      refine⟨by omega,h2,fun _=>?_⟩
      rw [List.drop_of_length_le (by omega)]
      exact⟨fun y hy=>(by cases hy),by rw [List.map_nil,List.sum_nil];simp⟩
theorem l0_spec (x1:Int)(n:S32)(hx0:0≤x1)(hx:x1≤300):∀ (k:Nat),(∀ j,j < k→Spec j)→∀ (x5 t:Int)(i:Nat),arboristlaw46_Nodes.l0 k x1 x5 (i:Int) n.f0 n.f1 n.f2 n.f3 n.f4 n.f5 n.f6=some t→1 + mn (n.f4.length:Int) 1000≤x5→x5≤1051 + 350 * x1 →
    x5≤t∧t≤1051 + 350 * x1∧(t < x1→(∀ y ∈ n.f6,small k y=true)∧((n.f6.map (cnt k)).sum:Int) + x5≤t):=by
  intro k
  have hm:=mn_or (n.f4.length:Int) 1000
  have hj:∀ k,(∀ j,j < k + 1→Spec j)→∀ (x5 t:Int),arboristlaw46_Nodes.j1 k x1 x5 n.f0 n.f1 n.f2 n.f3 n.f4 n.f5 n.f6=some t→1 + mn (n.f4.length:Int) 1000≤x5→x5≤1051 + 350 * x1 →
      x5≤t∧t≤1051 + 350 * x1∧(t < x1→(∀ y ∈ n.f6,small (k + 1) y=true)∧((n.f6.map (cnt (k + 1))).sum:Int) + x5≤t):=by
    intro k H x5 t h h1 h2
    cases k with
    | zero=>simp [arboristlaw46_Nodes.j1] at h
    | succ k =>
      simp only [arboristlaw46_Nodes.j1] at h
      obtain⟨g1,g2,g3⟩:=l1_spec x1 n hx0 hx k (fun j hj=>H j (by omega)) x5 t 0 h (by omega) h2 (by omega)
      refine⟨g1,g2,fun ht=>?_⟩
      obtain⟨g4,g5⟩:=g3 ht
      rw [List.drop_zero] at g4 g5
      refine⟨fun y hy=>(small_mono _ _ (small_mono _ _ (g4 y hy)).1).1,?_⟩
      rw [sum_mono (fun y hy=>(small_mono _ _ (g4 y hy)).1),sum_mono g4]
      exact g5
  induction k with
  | zero=>intro _ x5 t i h;simp [arboristlaw46_Nodes.l0] at h
  | succ k ih =>
    intro H x5 t i h h1 h2
    simp only [arboristlaw46_Nodes.l0] at h
    by_cases hi:(i:Int) < (n.f4.length:Int)
    · rw [if_pos hi] at h
      by_cases hlt:x5 < x1
      · rw [if_pos hlt,if_pos (by omega)] at h
        have hs:=mn_or ((rd_T53 n.f4 (i:Int)).f2.size:Int) 1000
        have hq:0≤mn ((rd_T53 n.f4 (i:Int)).f2.size:Int) 1000 / 20∧mn ((rd_T53 n.f4 (i:Int)).f2.size:Int) 1000 / 20≤50:=by omega
        rw [w64 (by omega) (by omega),w64 (by omega) (by omega),show(i:Int) + 1=((i + 1:Nat):Int)from by omega] at h
        obtain⟨g1,g2,g3⟩:=ih (fun j hj=>H j (by omega)) _ t (i + 1) h (by omega) (by omega)
        refine⟨by omega,g2,fun ht=>?_⟩
        obtain⟨g4,g5⟩:=g3 ht
        exact⟨fun y hy=>(small_mono _ _ (g4 y hy)).1,by rw [sum_mono g4];omega⟩
      · rw [if_neg hlt] at h
        exact hj k H x5 t h h1 h2
    · rw [if_neg hi] at h
      exact hj k H x5 t h h1 h2
theorem spec:∀ k,Spec k:=by
  intro k
  induction k using Nat.strongRecOn with
  | _ k ih =>
    intro n m t h h0 h1
    cases k with
    | zero=>simp [NF,arboristlaw46_Nodes.f] at h
    | succ k =>
      simp only [NF,arboristlaw46_Nodes.f] at h
      have hm:=mn_or (n.f4.length:Int) 1000
      have hs:=mn_or (n.f5.size:Int) 1000
      have hq:0≤mn (n.f5.size:Int) 1000 / 20∧mn (n.f5.size:Int) 1000 / 20≤50:=by omega
      obtain⟨g1,g2,g3⟩:=l0_spec m n h0 h1 k (fun j hj=>ih j (by omega)) _ t 0 h (by omega) (by omega)
      refine⟨⟨by omega,g2⟩,fun ht=>?_⟩
      obtain⟨g4,g5⟩:=g3 ht
      have hl:=sum_len g4
      exact⟨small_succ.2 ⟨by omega,by omega,g4⟩,by show((1 + (n.f6.map (cnt k)).sum:Nat):Int)≤t;omega⟩
theorem l1_ev (x1:Int)(n:S32)(hx0:0≤x1)(hx:x1≤300)(H:∀ (y:S32)(m:Int),0≤m→m < x1→∃ t,Ev (fun k=>NF k y m) t):∀ (d:Nat)(x5:Int)(i:Nat),x1 - x5≤d→1≤x5→x5≤1051 + 350 * x1→(i:Int)≤x5 →
    ∃ t,Ev (fun k=>arboristlaw46_Nodes.l1 k x1 x5 (i:Int) n.f0 n.f1 n.f2 n.f3 n.f4 n.f5 n.f6) t:=by
  intro d
  induction d with
  | zero =>
    intro x5 i h1 h2 h3 h4
    refine⟨x5,Ev.step (f:=fun _=>some x5) (fun k=>?_) (Ev.now _)⟩
    simp only [arboristlaw46_Nodes.l1]
    by_cases hi:(i:Int) < (n.f6.length:Int)
    · rw [if_pos hi,if_neg (by omega)]
    · rw [if_neg hi]
  | succ d ih =>
    intro x5 i h1 h2 h3 h4
    by_cases hi:(i:Int) < (n.f6.length:Int)∧x5 < x1
    · obtain⟨u,hu⟩:=H (rd_T32 n.f6 (i:Int)) (x1 - x5) (by omega) (by omega)
      obtain⟨k,hk⟩:=hu.rounds
      obtain⟨⟨hu1,hu2⟩,_⟩:=spec k _ _ _ hk (by omega) (by omega)
      obtain⟨t,ht⟩:=ih (x5 + u) (i + 1) (by omega) (by omega) (by omega) (by omega)
      refine⟨t,Ev.step (fun k=>?_) (Ev.bind (f:=fun k u=>arboristlaw46_Nodes.l1 k x1 (wrap64 (x5 + u)) ((i + 1:Nat):Int) n.f0 n.f1 n.f2 n.f3 n.f4 n.f5 n.f6) hu (Ev.congr (fun k=>?_) ht))⟩
      · simp only [arboristlaw46_Nodes.l1]
        rw [if_pos hi.1,if_pos hi.2,if_pos (by omega),w64 (n:=x1 - x5) (by omega) (by omega),w64 (n:=(i:Int) + 1) (by omega) (by omega)]
        rfl
      · show arboristlaw46_Nodes.l1 k x1 (wrap64 (x5 + u)) _ _ _ _ _ _ _ _=_
        rw [w64 (by omega) (by omega)]
    · refine⟨x5,Ev.step (f:=fun _=>some x5) (fun k=>?_) (Ev.now _)⟩
      simp only [arboristlaw46_Nodes.l1]
      by_cases hi':(i:Int) < (n.f6.length:Int)
      · rw [if_pos hi',if_neg (by omega)]
      · rw [if_neg hi']
theorem l0_ev (x1:Int)(n:S32)(hx0:0≤x1)(hx:x1≤300)(H:∀ (y:S32)(m:Int),0≤m→m < x1→∃ t,Ev (fun k=>NF k y m) t):∀ (d:Nat)(x5:Int)(i:Nat),n.f4.length≤i + d→1 + mn (n.f4.length:Int) 1000≤x5→x5≤1051 + 350 * x1 →
    ∃ t,Ev (fun k=>arboristlaw46_Nodes.l0 k x1 x5 (i:Int) n.f0 n.f1 n.f2 n.f3 n.f4 n.f5 n.f6) t:=by
  have hm:=mn_or (n.f4.length:Int) 1000
  have hj:∀ x5:Int,1 + mn (n.f4.length:Int) 1000≤x5→x5≤1051 + 350 * x1→∃ t,Ev (fun k=>arboristlaw46_Nodes.j1 k x1 x5 n.f0 n.f1 n.f2 n.f3 n.f4 n.f5 n.f6) t:=fun x5 h1 h2=>by
    obtain⟨t,ht⟩:=l1_ev x1 n hx0 hx H (x1 - x5).toNat x5 0 (by omega) (by omega) h2 (by omega)
    exact⟨t,Ev.step (fun k=>by simp only [arboristlaw46_Nodes.j1];rfl) ht⟩
  intro d
  induction d with
  | zero =>
    intro x5 i h1 h2 h3
    obtain⟨t,ht⟩:=hj x5 h2 h3
    refine⟨t,Ev.step (fun k=>?_) ht⟩
    simp only [arboristlaw46_Nodes.l0]
    rw [if_neg (by omega)]
  | succ d ih =>
    intro x5 i h1 h2 h3
    by_cases hi:(i:Int) < (n.f4.length:Int)∧x5 < x1
    · have hs:=mn_or ((rd_T53 n.f4 (i:Int)).f2.size:Int) 1000
      have hq:0≤mn ((rd_T53 n.f4 (i:Int)).f2.size:Int) 1000 / 20∧mn ((rd_T53 n.f4 (i:Int)).f2.size:Int) 1000 / 20≤50:=by omega
      obtain⟨t,ht⟩:=ih (x5 + mn ((rd_T53 n.f4 (i:Int)).f2.size:Int) 1000 / 20) (i + 1) (by omega) (by omega) (by omega)
      refine⟨t,Ev.step (fun k=>?_) ht⟩
      simp only [arboristlaw46_Nodes.l0]
      rw [if_pos hi.1,if_pos hi.2,if_pos (by omega),w64 (n:=x5 + _) (by omega) (by omega),w64 (n:=(i:Int) + 1) (by omega) (by omega)]
      rfl
    · obtain⟨t,ht⟩:=hj x5 h2 h3
      refine⟨t,Ev.step (fun k=>?_) ht⟩
      simp only [arboristlaw46_Nodes.l0]
      by_cases hi':(i:Int) < (n.f4.length:Int)
      · rw [if_pos hi',if_neg (by omega)]
      · rw [if_neg hi']
theorem nodes_ev:∀ (M:Nat),M≤300→∀ (n:S32)(m:Int),0≤m→m≤M→∃ t,Ev (fun k=>NF k n m) t:=by
  intro M
  induction M using Nat.strongRecOn with
  | _ M ih =>
    intro hM n m h0 h1
    have hs:=mn_or (n.f5.size:Int) 1000
    have hm:=mn_or (n.f4.length:Int) 1000
    have hq:0≤mn (n.f5.size:Int) 1000 / 20∧mn (n.f5.size:Int) 1000 / 20≤50:=by omega
    obtain⟨t,ht⟩:=l0_ev m n h0 (by omega) (fun y m' h0' h1'=>ih m'.toNat (by omega) (by omega) y m' h0' (by omega)) n.f4.length ((1 + mn (n.f4.length:Int) 1000) + (mn (n.f5.size:Int) 1000) / 20) 0 (by omega) (by omega) (by omega)
    exact⟨t,Ev.step (fun k=>by simp only [NF,arboristlaw46_Nodes.f];rfl) ht⟩
end Go.Proofs.Ytgdbcogbbghjaaa.Pure
