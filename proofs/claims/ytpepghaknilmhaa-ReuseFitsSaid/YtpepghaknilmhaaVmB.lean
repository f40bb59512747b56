/- The machine of plain values: how its values and objects lie in Go's memory. Written once for all seats. -/
import Derived.Test.YtpepghaknilmhaaVmA
import Derived.ArgAppend
import Derived.Laws.CopyRow
import Derived.Laws.MakeOwn
import Derived.Laws.IdiomCopy
namespace Go.Proofs.Ytpepghaknilmhaa.Vm
open Go
set_option linter.unusedVariables false
set_option linter.unusedSimpArgs false

inductive DRel (I : Nat → Prop) (W : World) : DV → Value → Prop
  | bool (b) : DRel I W (.bool b) (.bool b)
  | int (k n) : DRel I W (.int k n) (.int k n)
  | str (s) : DRel I W (.str s) (.string s)
  | nil (t) (c : Nat) (h : t = true → c = 0) : DRel I W (.list true t 0 []) (.slice none 0 c)
  | list {ad : Addr} {n cap : Nat} {tight : Bool} {cells : List DV} (vals : Nat → Value) (ht : tight = true → cap = n) (hn : n ≤ cap) (hI : cells ≠ [] → I ad.block ∧ ad.spot = none)
      (hc : ∀ j u, cells[j]? = some u → W.cell? ⟨ad.block, ad.off + j, none⟩ = some (vals j)) (hv : ∀ j u, cells[j]? = some u → DRel I W u (vals j)) : DRel I W (.list false tight n cells) (.slice (some ad) n cap)

structure Cfg where
  ρ : Nat → Option (Nat × Nat)
  I : Nat → Prop
  W : World

def Shape (W : World) (b bs : Nat) : Prop := ∃ cs t, W.heap[b]? = some (.cells cs t (0, 0)) ∧ cs.size = bs

inductive VRel (c : Cfg) : PV → Value → Prop
  | undef (v) : VRel c .undef v
  | d {x v} (h : DRel c.I c.W x v) : VRel c (.d x) v
  | ref {id off n sz b base cap bs} (h : c.ρ id = some (b, base)) (hn : n ≤ cap) (hs : Shape c.W b bs) (hb : base + off + cap * sz ≤ bs) : VRel c (.ref id off n sz) (.slice (some ⟨b, base + off, none⟩) n cap)
  | ptr {id off b base} (h : c.ρ id = some (b, base)) : VRel c (.ptr id off) (.pointer (some ⟨b, base + off, none⟩))
  | rd {b o : Nat} {cells : List DV} (vals : Nat → Value) (hI : cells ≠ [] → c.I b) (hc : ∀ j u, cells[j]? = some u → c.W.cell? ⟨b, o + j, none⟩ = some (vals j)) (hv : ∀ j u, cells[j]? = some u → DRel c.I c.W u (vals j)) : VRel c (.rd cells) (.pointer (some ⟨b, o, none⟩))
  | nilptr : VRel c .nilptr (.pointer none)
  | func {f caps} {vs : Array Value} (hs : vs.size = caps.length) (hv : ∀ j u, caps[j]? = some u → VRel c u (vs.getD j undef)) : VRel c (.func f caps) (.func (.func f) #[] vs)
  | nilfunc : VRel c .nilfunc .nilFunc
  | yield {l b} (h : c.ρ l = some (b, 0)) : VRel c (.yield l) (.func (.yield b) #[] #[])
  | nilmap : VRel c .nilmap (.map none)
  | agg {cs} {vs : Array Value} (hs : vs.size = cs.length) (hv : ∀ j u, cs[j]? = some u → VRel c u (vs.getD j undef)) : VRel c (.agg cs) (.agg vs)
  | tuple {cs} {vs : Array Value} (hs : vs.size = cs.length) (hv : ∀ j u, cs[j]? = some u → VRel c u (vs.getD j undef)) : VRel c (.tuple cs) (.tuple vs)

theorem gone_rel (c : Cfg) : VRel c .gone undef := .tuple rfl (fun j u hj => by simp at hj)
/-- A list of values, one by one. -/
def VL (c : Cfg) (cs : List PV) (vs : Array Value) : Prop := vs.size = cs.length ∧ ∀ j u, cs[j]? = some u → VRel c u (vs.getD j undef)

structure Ext (c c' : Cfg) : Prop where
  rho : ∀ id p, c.ρ id = some p → c'.ρ id = some p
  imm : ∀ k, c.I k → c'.I k
  same : ∀ k, c.I k → c'.W.heap[k]? = c.W.heap[k]?
  shape : ∀ b bs, Shape c.W b bs → Shape c'.W b bs
  loops : ∀ (b : Nat) (L : Loop), c.W.heap[b]? = some (Go.Obj.loop L) → ∃ L', c'.W.heap[b]? = some (Go.Obj.loop L')

theorem Ext.refl (c : Cfg) : Ext c c := ⟨fun _ _ h => h, fun _ h => h, fun _ _ => rfl, fun _ _ h => h, fun _ L h => ⟨L, h⟩⟩
theorem Ext.trans {c c' c'' : Cfg} (h : Ext c c') (g : Ext c' c'') : Ext c c'' :=
  ⟨fun id p e => g.rho id p (h.rho id p e), fun k e => g.imm k (h.imm k e), fun k e => (g.same k (h.imm k e)).trans (h.same k e), fun b bs e => g.shape b bs (h.shape b bs e), fun b L e => let ⟨L', e'⟩ := h.loops b L e; g.loops b L' e'⟩

theorem cell_same {W W' : World} {b o : Nat} (h : W'.heap[b]? = W.heap[b]?) : W'.cell? ⟨b, o, none⟩ = W.cell? ⟨b, o, none⟩ := by simp [World.cell?, h]

theorem DRel.mono {I I' : Nat → Prop} {W W' : World} (hI : ∀ k, I k → I' k) (hs : ∀ k, I k → W'.heap[k]? = W.heap[k]?) {x : DV} {v : Value} (h : DRel I W x v) : DRel I' W' x v := by
  induction h with
  | bool b => exact .bool b
  | int k n => exact .int k n
  | str s => exact .str s
  | nil t c h => exact .nil t c h
  | list vals ht hn hi hc hv ih =>
    refine .list vals ht hn (fun hne => ⟨hI _ (hi hne).1, (hi hne).2⟩) (fun j u hj => ?_) ih
    have hne : ∀ {l : List DV} {j : Nat} {u : DV}, l[j]? = some u → l ≠ [] := fun h e => by rw [e] at h; simp at h
    rw [cell_same (hs _ (hi (hne hj)).1)]
    exact hc j u hj
theorem VRel.mono {c c' : Cfg} (e : Ext c c') {x : PV} {v : Value} (h : VRel c x v) : VRel c' x v := by
  induction h with
  | undef v => exact .undef v
  | d h => exact .d (h.mono e.imm e.same)
  | ref h hn hs hb => exact .ref (e.rho _ _ h) hn (e.shape _ _ hs) hb
  | ptr h => exact .ptr (e.rho _ _ h)
  | rd vals hI hc hv =>
    have hne : ∀ {l : List DV} {j : Nat} {u : DV}, l[j]? = some u → l ≠ [] := fun h e => by rw [e] at h; simp at h
    exact .rd vals (fun h => e.imm _ (hI h)) (fun j u hj => (cell_same (e.same _ (hI (hne hj)))).trans (hc j u hj)) (fun j u hj => (hv j u hj).mono e.imm e.same)
  | nilptr => exact .nilptr
  | func hs _ ih => exact .func hs ih
  | nilfunc => exact .nilfunc
  | yield h => exact .yield (e.rho _ _ h)
  | nilmap => exact .nilmap
  | agg hs _ ih => exact .agg hs ih
  | tuple hs _ ih => exact .tuple hs ih
theorem VL.mono {c c' : Cfg} (e : Ext c c') {cs : List PV} {vs : Array Value} (h : VL c cs vs) : VL c' cs vs := ⟨h.1, fun j u hj => (h.2 j u hj).mono e⟩

def ORel (c : Cfg) (o : Obj) (b base : Nat) : Prop :=
  match o with
  | .cells _ cs => ∃ arr t, c.W.heap[b]? = some (.cells arr t (0, 0)) ∧ base + cs.length ≤ arr.size ∧ ∀ j u, cs[j]? = some u → VRel c u (arr.getD (base + j) undef)
  | .loop _ st pe tmps ps as bo => base = 0 ∧ ∃ L : Loop, c.W.heap[b]? = some (.loop L) ∧ L.state = st ∧ L.pending = pe ∧ L.params = ps.toArray ∧ L.assign = as ∧ L.body = bo ∧ VL c tmps L.tmps

/-- The machine's objects lie in blocks of their own. N: names that are not given yet. -/
structure Rel (H : Nat → Option Obj) (N : Nat → Prop) (c : Cfg) : Prop where
  live : ∀ id o, H id = some o → ∃ b base, c.ρ id = some (b, base) ∧ ORel c o b base
  apart : ∀ id id' o o' b base base', H id = some o → H id' = some o' → c.ρ id = some (b, base) → c.ρ id' = some (b, base') → id = id'
  notI : ∀ id o b base, H id = some o → c.ρ id = some (b, base) → ¬ c.I b
  immlt : ∀ k, c.I k → k < c.W.heap.size
  fresh : ∀ id, N id → c.ρ id = none

/-- The blocks of the machine's objects. -/
def Lb (H : Nat → Option Obj) (c : Cfg) (k : Nat) : Prop := ∃ id o base, H id = some o ∧ c.ρ id = some (k, base)

/-- Nothing but blocks of T has changed. -/
structure Step (T : Nat → Prop) (c c' : Cfg) : Prop extends Ext c c' where
  os : c'.W.os = c.W.os
  tape : c'.W.tape = c.W.tape
  output : c'.W.output = c.W.output
  size : c.W.heap.size ≤ c'.W.heap.size
  block : ∀ k, k < c.W.heap.size → ¬ T k → c'.W.heap[k]? = c.W.heap[k]?
  inew : ∀ k, c'.I k → c.I k ∨ T k ∨ c.W.heap.size ≤ k

theorem Step.refl (T : Nat → Prop) (c : Cfg) : Step T c c := ⟨Ext.refl c, rfl, rfl, rfl, Nat.le_refl _, fun _ _ _ => rfl, fun _ h => .inl h⟩
theorem Step.trans {T T' : Nat → Prop} {c c' c'' : Cfg} (h : Step T c c') (hT : ∀ k, T' k → T k ∨ c.W.heap.size ≤ k) (g : Step T' c' c'') : Step T c c'' :=
  ⟨h.toExt.trans g.toExt, g.os.trans h.os, g.tape.trans h.tape, g.output.trans h.output, Nat.le_trans h.size g.size,
   fun k hk hn => (g.block k (Nat.lt_of_lt_of_le hk h.size) (fun ht => (hT k ht).elim hn (fun h => by omega))).trans (h.block k hk hn),
   fun k hk => (g.inew k hk).elim (h.inew k) fun h' => h'.elim (fun t => (hT k t).elim (fun t => .inr (.inl t)) (fun t => .inr (.inr t))) fun t => .inr (.inr (Nat.le_trans h.size t))⟩
theorem Step.weaken {T T' : Nat → Prop} {c c' : Cfg} (h : Step T c c') (hT : ∀ k, T k → T' k) : Step T' c c' :=
  ⟨h.toExt, h.os, h.tape, h.output, h.size, fun k hk hn => h.block k hk (fun t => hn (hT k t)), fun k hk => (h.inew k hk).imp id (Or.imp (hT k) id)⟩

theorem Heap.get_nil (id : Nat) : Heap.get [] id = none := rfl
theorem Heap.get_cons (a : Nat) (o : Obj) (h : Heap) (id : Nat) : Heap.get ((a, o) :: h) id = if a = id then some o else Heap.get h id := by
  unfold Heap.get
  rw [List.find?_cons]
  by_cases e : a = id
  · subst e; simp
  · have : (a == id) = false := by simp [e]
    simp [this, e]
theorem Heap.get_del (h : Heap) (a id : Nat) : Heap.get (h.del a) id = if id = a then none else Heap.get h id := by
  induction h with
  | nil => simp [Heap.del, Heap.get]
  | cons p h ih =>
    obtain ⟨b, o⟩ := p
    unfold Heap.del at ih ⊢
    rw [List.filter_cons]
    by_cases hb : b = a
    · subst hb
      simp only [bne_self_eq_false, Bool.false_eq_true, if_false, ih, Heap.get_cons]
      by_cases e : id = b
      · rw [if_pos e, if_pos e]
      · rw [if_neg e, if_neg e, if_neg (Ne.symm e)]
    · have : (b != a) = true := by simp [hb]
      simp only [this, if_true, Heap.get_cons, ih]
      by_cases e : id = a
      · subst e; simp [hb]
      · simp [e]
theorem Heap.get_keep {f : Nat → Obj → Bool} : ∀ {h : Heap} {i : Nat} {o : Obj}, Heap.get (h.keep f) i = some o → h.get i = some o ∧ f i o = true
  | [], i, o, e => by cases e
  | (b, x) :: h, i, o, e => by
    unfold Heap.keep at e
    rw [Heap.get_cons]
    split at e
    · rename_i hf
      rw [Heap.get_cons] at e
      by_cases hb : b = i
      · subst hb
        rw [if_pos rfl] at e ⊢
        cases e
        exact ⟨rfl, hf⟩
      · rw [if_neg hb] at e ⊢
        exact Heap.get_keep e
    · rw [Heap.get_del] at e
      split at e
      · cases e
      · rename_i hb
        rw [if_neg (Ne.symm hb)]
        exact Heap.get_keep e
theorem Heap.keep_get {f : Nat → Obj → Bool} : ∀ {h : Heap} {i : Nat} {o : Obj}, h.get i = some o → f i o = true → Heap.get (h.keep f) i = some o
  | [], i, o, e, _ => by cases e
  | (b, x) :: h, i, o, e, hf => by
    unfold Heap.keep
    rw [Heap.get_cons] at e
    by_cases hb : b = i
    · subst hb
      rw [if_pos rfl] at e
      cases e
      rw [if_pos hf, Heap.get_cons, if_pos rfl]
    · rw [if_neg hb] at e
      have := Heap.keep_get e hf
      split
      · rw [Heap.get_cons, if_neg hb]; exact this
      · rw [Heap.get_del, if_neg (Ne.symm hb)]; exact this
theorem Heap.get_append (h g : Heap) (i : Nat) : Heap.get (h ++ g) i = (Heap.get h i).or (Heap.get g i) := by
  induction h with
  | nil => rfl
  | cons p h ih =>
    obtain ⟨b, x⟩ := p
    rw [List.cons_append, Heap.get_cons, Heap.get_cons]
    by_cases hb : b = i
    · rw [if_pos hb, if_pos hb]; rfl
    · rw [if_neg hb, if_neg hb, ih]
theorem Heap.get_put (h : Heap) (a : Nat) (x : Obj) (i : Nat) : Heap.get (h.put a x) i = if i = a then (Heap.get h a).map (fun _ => x) else Heap.get h i := by
  induction h with
  | nil => simp [Heap.put, Heap.get_nil]
  | cons p h ih =>
    obtain ⟨b, y⟩ := p
    unfold Heap.put at ih ⊢
    rw [List.map_cons]
    by_cases hb : b = a
    · subst hb
      simp only [BEq.rfl, if_true, Heap.get_cons]
      by_cases e : b = i
      · subst e; simp
      · rw [if_neg e, if_neg (Ne.symm e), if_neg e, ih, if_neg (Ne.symm e)]
    · have : (b == a) = false := by simp [hb]
      simp only [this, Bool.false_eq_true, if_false, Heap.get_cons, if_neg hb]
      by_cases e : b = i
      · subst e; simp [hb]
      · rw [if_neg e, if_neg e, ih]
theorem Heap.get_run (e : Eff) (h : Heap) (id : Nat) : Heap.get (e.run h) id = e.at id (Heap.get h id) := by
  cases e with
  | none => rfl
  | new a x =>
    simp only [Eff.run, Eff.at, Heap.get_cons]
    by_cases h : a = id
    · rw [if_pos h, if_pos h.symm]
    · rw [if_neg h, if_neg (Ne.symm h)]
  | wr a off vs =>
    simp only [Eff.run, Eff.at]
    induction h with
    | nil => simp only [List.map_nil, Heap.get_nil]; split <;> rfl
    | cons p h ih =>
      obtain ⟨b, x⟩ := p
      rw [List.map_cons]
      by_cases hb : b = a
      · subst hb
        simp only [BEq.rfl, if_true]
        cases x with
        | cells bx cs =>
          simp only [Heap.get_cons]
          by_cases e : b = id
          · subst e; simp
          · simp only [if_neg e, ih]
        | loop =>
          simp only [Heap.get_cons]
          by_cases e : b = id
          · subst e; simp
          · simp only [if_neg e, ih]
      · have : (b == a) = false := by simp [hb]
        simp only [this, Bool.false_eq_true, if_false, Heap.get_cons]
        by_cases e : b = id
        · subst e; simp [hb]
        · simp only [if_neg e, ih]
  | mv a a' x =>
    simp only [Eff.run, Eff.at, Heap.get_cons, Heap.get_del]
    by_cases h : a' = id
    · rw [if_pos h, if_pos h.symm]
    · rw [if_neg h, if_neg (Ne.symm h)]

theorem splice_get {cs xs : List PV} {off : Nat} (h : off + xs.length ≤ cs.length) (j : Nat) : (splice cs off xs)[j]? = if j < off then cs[j]? else if j < off + xs.length then xs[j - off]? else cs[j]? := by
  have h1 : min off cs.length = off := by omega
  unfold splice
  rw [List.append_assoc, List.getElem?_append, List.length_take, h1]
  by_cases e : j < off
  · rw [if_pos e, if_pos e, List.getElem?_take, if_pos e]
  · rw [if_neg e, if_neg e, List.getElem?_append]
    by_cases e2 : j < off + xs.length
    · rw [if_pos e2, if_pos (by omega)]
    · rw [if_neg e2, if_neg (by omega), List.getElem?_drop]
      congr 1
      omega
theorem splice_length {cs xs : List PV} {off : Nat} (h : off + xs.length ≤ cs.length) : (splice cs off xs).length = cs.length := by
  simp only [splice, List.length_append, List.length_take, List.length_drop]
  omega

theorem VL.get {c : Cfg} {cs : List PV} {vs : Array Value} (h : VL c cs vs) {j : Nat} {u : PV} (hj : cs[j]? = some u) : ∃ v, vs[j]? = some v ∧ VRel c u v := by
  have hl : j < vs.size := h.1 ▸ (List.getElem?_eq_some_iff.1 hj).1
  refine ⟨vs[j], Array.getElem?_eq_getElem hl, ?_⟩
  have := h.2 j u hj
  rwa [Array.getD_eq_getD_getElem?, Array.getElem?_eq_getElem hl] at this
theorem VL.mk' {c : Cfg} {cs : List PV} {vs : Array Value} (hs : vs.size = cs.length) (h : ∀ (j : Nat) (u : PV), cs[j]? = some u → ∃ v, vs[j]? = some v ∧ VRel c u v) : VL c cs vs := by
  refine ⟨hs, fun j u hj => ?_⟩
  obtain ⟨v, hv, hr⟩ := h j u hj
  rw [Array.getD_eq_getD_getElem?, hv]
  exact hr

/-! ### Objects come, are written, pass on -/
def Cfg.named (c : Cfg) (id : Nat) (p : Nat × Nat) (W : World) : Cfg := { c with ρ := fun i => if i = id then some p else c.ρ i, W := W }

theorem grown_alloc (W : World) (o : Go.Obj) : W.grownBy (W.alloc o) none := ⟨rfl, rfl, rfl, by simp, fun k hk _ => heap_alloc_old _ _ hk⟩
theorem grown_same {W W' : World} (h : W.grownBy W' none) {k : Nat} (hk : k < W.heap.size) : W'.heap[k]? = W.heap[k]? := h.block k hk (by simp)
theorem shape_grown {W W' : World} (hg : W.grownBy W' none) {b bs : Nat} (h : Shape W b bs) : Shape W' b bs := by
  obtain ⟨cs, t, h, e⟩ := h
  have hlt := (Array.getElem?_eq_some_iff.1 h).1
  exact ⟨cs, t, (grown_same hg hlt).trans h, e⟩

theorem ext_new {c : Cfg} {id g : Nat} {W' : World} (hg : c.W.grownBy W' none) (hf : c.ρ id = none) (hI : ∀ k, c.I k → k < c.W.heap.size) : Ext c (c.named id (g, 0) W') := by
  refine ⟨fun i p h => ?_, fun _ h => h, fun k hk => grown_same hg (hI k hk), fun _ _ h => shape_grown hg h, fun b L h => ⟨L, (grown_same hg (Array.getElem?_eq_some_iff.1 h).1).trans h⟩⟩
  show (if i = id then _ else _) = _
  rw [if_neg (fun e => by rw [e, hf] at h; cases h)]
  exact h
theorem step_new {c : Cfg} {id g : Nat} {W' : World} (T : Nat → Prop) (hg : c.W.grownBy W' none) (hf : c.ρ id = none) (hI : ∀ k, c.I k → k < c.W.heap.size) : Step T c (c.named id (g, 0) W') :=
  ⟨ext_new hg hf hI, hg.os, hg.tape, hg.output, hg.size, fun k hk _ => grown_same hg hk, fun _ h => .inl h⟩

theorem ORel.mono {c c' : Cfg} (e : Ext c c') {o : Obj} {b base : Nat} (hb : c'.W.heap[b]? = c.W.heap[b]?) (h : ORel c o b base) : ORel c' o b base := by
  cases o with
  | cells bx cs =>
    obtain ⟨arr, t, h1, h2, h3⟩ := h
    exact ⟨arr, t, hb.trans h1, h2, fun j u hj => (h3 j u hj).mono e⟩
  | loop fid st pe tmps ps as bo =>
    obtain ⟨h0, L, h1, h2, h3, h4, h5, h6, h7⟩ := h
    exact ⟨h0, L, hb.trans h1, h2, h3, h4, h5, h6, h7.mono e⟩
theorem ORel.lt {c : Cfg} {o : Obj} {b base : Nat} (h : ORel c o b base) : b < c.W.heap.size := by
  cases o with
  | cells bx cs => obtain ⟨arr, t, h1, _⟩ := h; exact (Array.getElem?_eq_some_iff.1 h1).1
  | loop => obtain ⟨_, L, h1, _⟩ := h; exact (Array.getElem?_eq_some_iff.1 h1).1

/-- A block that nobody knows yet becomes an object. -/
theorem rel_new {H : Nat → Option Obj} {N : Nat → Prop} {c : Cfg} (hr : Rel H N c) {id g : Nat} (hN : N id) {W' : World} (hg : c.W.grownBy W' none) (hge : c.W.heap.size ≤ g) {x : Obj}
    (hx : ORel (c.named id (g, 0) W') x g 0) :
    Rel (fun i => if i = id then some x else H i) (fun i => N i ∧ i ≠ id) (c.named id (g, 0) W') := by
  have hf := hr.fresh id hN
  have e := ext_new (g := g) hg hf hr.immlt
  have hH : ∀ i x, H i = some x → i ≠ id := fun i x h e => by obtain ⟨b, base, h1, _⟩ := hr.live i x h; rw [e, hf] at h1; cases h1
  have hρ : ∀ i, i ≠ id → (c.named id (g, 0) W').ρ i = c.ρ i := fun i h => if_neg h
  have hρ' : (c.named id (g, 0) W').ρ id = some (g, 0) := if_pos rfl
  have hlt : ∀ i x b base, H i = some x → c.ρ i = some (b, base) → b < c.W.heap.size := fun i x b base h1 h2 => by
    obtain ⟨b', base', h3, h4⟩ := hr.live i x h1
    rw [h2] at h3
    cases h3
    exact h4.lt
  refine ⟨fun i y hy => ?_, fun i i' y y' b base base' hy hy' h1 h2 => ?_, fun i y b base hy h1 => ?_, fun k hk => ?_, fun i hi => ?_⟩
  · by_cases hi : i = id
    · subst hi
      simp only [if_pos] at hy
      cases hy
      exact ⟨_, _, hρ', hx⟩
    · simp only [if_neg hi] at hy
      obtain ⟨b, base, h1, h2⟩ := hr.live i y hy
      exact ⟨b, base, by rw [hρ i hi]; exact h1, h2.mono e (grown_same hg h2.lt)⟩
  · by_cases hi : i = id <;> by_cases hi' : i' = id
    · rw [hi, hi']
    · simp only [if_neg hi'] at hy'
      rw [hρ i' hi'] at h2
      rw [hi, hρ'] at h1
      have h1 := congrArg Prod.fst (Option.some.inj h1)
      have := hlt i' y' b base' hy' h2
      simp only at h1; omega
    · simp only [if_neg hi] at hy
      rw [hρ i hi] at h1
      rw [hi', hρ'] at h2
      have h2 := congrArg Prod.fst (Option.some.inj h2)
      have := hlt i y b base hy h1
      simp only at h2; omega
    · simp only [if_neg hi] at hy
      simp only [if_neg hi'] at hy'
      rw [hρ i hi] at h1
      rw [hρ i' hi'] at h2
      exact hr.apart i i' y y' b base base' hy hy' h1 h2
  · by_cases hi : i = id
    · rw [hi, hρ'] at h1
      have h1 := congrArg Prod.fst (Option.some.inj h1)
      intro hk
      have := hr.immlt b hk
      simp only at h1; omega
    · simp only [if_neg hi] at hy
      rw [hρ i hi] at h1
      exact hr.notI i y b base hy h1
  · exact Nat.lt_of_lt_of_le (hr.immlt k hk) hg.size
  · rw [hρ i hi.2]
    exact hr.fresh i hi.1
theorem lb_new {H : Nat → Option Obj} {c : Cfg} {id : Nat} {x : Obj} {W : World} {b : Nat} (hb : c.W.heap.size ≤ b) (k : Nat) (h : Lb (fun i => if i = id then some x else H i) (c.named id (b, 0) W) k) : Lb H c k ∨ c.W.heap.size ≤ k := by
  obtain ⟨i, o, base, h1, h2⟩ := h
  by_cases hi : i = id
  · have h2' : (if i = id then some (b, 0) else c.ρ i) = some (k, base) := h2
    rw [if_pos hi] at h2'
    have := congrArg Prod.fst (Option.some.inj h2')
    simp only at this
    exact .inr (by omega)
  · have h2' : (if i = id then some (b, 0) else c.ρ i) = some (k, base) := h2
    rw [if_neg hi] at h2'
    simp only [if_neg hi] at h1
    exact .inl ⟨i, o, base, h1, h2'⟩

theorem shape_setRow {W : World} {g : Nat} {old new : Array Value} {t : TypeId} (hg : W.heap[g]? = some (.cells old t (0, 0))) (hs : new.size = old.size) {b bs : Nat} (h : Shape W b bs) : Shape (W.setRow g new) b bs := by
  obtain ⟨cs, u, h1, h2⟩ := h
  by_cases e : b = g
  · subst e
    rw [hg] at h1
    injection h1 with h1
    injection h1 with e1 e2 e3
    subst e1
    exact ⟨new, t, setRow_heap _ _ _ _ _ _ hg, hs.trans h2⟩
  · exact ⟨cs, u, (setRow_other _ _ _ _ e).trans h1, h2⟩

/-- One object's block is written. -/
theorem ext_row {H : Nat → Option Obj} {N : Nat → Prop} {c : Cfg} (hr : Rel H N c) {id : Nat} {x : Obj} {b base : Nat} (hx : H id = some x) (hb : c.ρ id = some (b, base)) {old new : Array Value} {t : TypeId} (hg : c.W.heap[b]? = some (.cells old t (0, 0))) (hs : new.size = old.size) :
    Ext c { c with W := c.W.setRow b new } :=
  ⟨fun _ _ h => h, fun _ h => h, fun k hk => setRow_other _ _ _ _ (fun e => hr.notI id x b base hx hb (e ▸ hk)), fun _ _ h => shape_setRow hg hs h, fun k L h => ⟨L, (setRow_other _ _ _ _ (fun e => by rw [e, hg] at h; cases h)).trans h⟩⟩
theorem step_row {H : Nat → Option Obj} {N : Nat → Prop} {c : Cfg} (hr : Rel H N c) {id : Nat} {x : Obj} {b base : Nat} (hx : H id = some x) (hb : c.ρ id = some (b, base)) {old new : Array Value} {t : TypeId} (hg : c.W.heap[b]? = some (.cells old t (0, 0))) (hs : new.size = old.size) :
    Step (Lb H c) c { c with W := c.W.setRow b new } :=
  ⟨ext_row hr hx hb hg hs, rfl, rfl, rfl, by simp [World.setRow], fun k _ hn => setRow_other _ _ _ _ (fun e => hn ⟨id, x, base, hx, e ▸ hb⟩), fun _ h => .inl h⟩

/-- The object id gives way to id', which lies in its block. (id' may be id.) -/
theorem rel_row {H : Nat → Option Obj} {N : Nat → Prop} {c : Cfg} (hr : Rel H N c) {id id' : Nat} {x y : Obj} {b base base' : Nat} (hx : H id = some x) (hb : c.ρ id = some (b, base)) {old new : Array Value} {t : TypeId}
    (hg : c.W.heap[b]? = some (.cells old t (0, 0))) (hs : new.size = old.size) {c' : Cfg} (hW : c'.W = c.W.setRow b new) (hI : c'.I = c.I) (he : Ext c c') (hρ : ∀ i, i ≠ id' → c'.ρ i = c.ρ i) (hρ' : c'.ρ id' = some (b, base')) (hid : id' = id ∨ N id')
    (hy : ORel c' y b base') : Rel (fun i => if i = id' then some y else if i = id then none else H i) (fun i => N i ∧ i ≠ id') c' := by
  have hother : ∀ i z, i ≠ id → H i = some z → ∀ b' base', c.ρ i = some (b', base') → b' ≠ b := fun i z hi hz b' base2 h1 e => hi (hr.apart i id z x b base2 base hz hx (e ▸ h1) hb)
  have hne : ∀ i z, H i = some z → i ≠ id → i ≠ id' := fun i z hz hi e => by
    rcases hid with h | h
    · exact hi (e.trans h)
    · obtain ⟨b', bb, h1, _⟩ := hr.live i z hz
      rw [e, hr.fresh id' h] at h1
      cases h1
  refine ⟨fun i z hz => ?_, fun i j z z' b1 ba1 ba2 hz hz' h1 h2 => ?_, fun i z b1 ba1 hz h1 => ?_, fun k hk => ?_, fun i hi => ?_⟩
  · by_cases hi : i = id'
    · subst hi
      simp only [if_pos] at hz
      cases hz
      exact ⟨b, base', hρ', hy⟩
    · simp only [if_neg hi] at hz
      by_cases hi2 : i = id
      · rw [if_pos hi2] at hz; cases hz
      · rw [if_neg hi2] at hz
        obtain ⟨b1, ba1, h1, h2⟩ := hr.live i z hz
        refine ⟨b1, ba1, by rw [hρ i hi]; exact h1, h2.mono he ?_⟩
        rw [hW]
        exact setRow_other _ _ _ _ (hother i z hi2 hz b1 ba1 h1)
  · have key : ∀ i z b1 ba, (if i = id' then some y else if i = id then none else H i) = some z → c'.ρ i = some (b1, ba) → i ≠ id' → b1 ≠ b ∧ H i = some z ∧ c.ρ i = some (b1, ba) ∧ i ≠ id := fun i z b1 ba hz h1 hi => by
      rw [if_neg hi] at hz
      by_cases hi2 : i = id
      · rw [if_pos hi2] at hz; cases hz
      · rw [if_neg hi2] at hz
        rw [hρ i hi] at h1
        exact ⟨hother i z hi2 hz b1 ba h1, hz, h1, hi2⟩
    by_cases hi : i = id' <;> by_cases hj : j = id'
    · rw [hi, hj]
    · have := key j z' b1 ba2 hz' h2 hj
      rw [hi, hρ'] at h1
      cases h1
      exact absurd rfl this.1
    · have := key i z b1 ba1 hz h1 hi
      rw [hj, hρ'] at h2
      cases h2
      exact absurd rfl this.1
    · obtain ⟨_, a1, a2, _⟩ := key i z b1 ba1 hz h1 hi
      obtain ⟨_, a3, a4, _⟩ := key j z' b1 ba2 hz' h2 hj
      exact hr.apart i j z z' b1 ba1 ba2 a1 a3 a2 a4
  · rw [hI]
    by_cases hi : i = id'
    · rw [hi, hρ'] at h1
      cases h1
      exact hr.notI id x _ base hx hb
    · simp only [if_neg hi] at hz
      by_cases hi2 : i = id
      · rw [if_pos hi2] at hz; cases hz
      · rw [if_neg hi2] at hz
        rw [hρ i hi] at h1
        exact hr.notI i z b1 ba1 hz h1
  · rw [hI] at hk
    rw [hW]
    have := hr.immlt k hk
    simpa [World.setRow] using this
  · rw [hρ i hi.2]
    exact hr.fresh i hi.1

/-- Fewer objects, fewer new names. -/
theorem Rel.sub {H H' : Nat → Option Obj} {N N' : Nat → Prop} {c : Cfg} (hr : Rel H N c) (hH : ∀ i x, H' i = some x → H i = some x) (hN : ∀ i, N' i → N i) : Rel H' N' c :=
  ⟨fun i x h => hr.live i x (hH i x h), fun i j x y b ba bb h1 h2 h3 h4 => hr.apart i j x y b ba bb (hH i x h1) (hH j y h2) h3 h4, fun i x b ba h1 h2 => hr.notI i x b ba (hH i x h1) h2, hr.immlt, fun i h => hr.fresh i (hN i h)⟩
/-- The world has only grown elsewhere. -/
theorem Rel.carry {H : Nat → Option Obj} {N : Nat → Prop} {T : Nat → Prop} {c c' : Cfg} (hr : Rel H N c) (hs : Step T c c') (hT : ∀ k, Lb H c k → ¬ T k) (hI : ∀ k, c'.I k → k < c'.W.heap.size) (hρ : ∀ i, N i → c'.ρ i = none) (hId : ∀ k, Lb H c k → ¬ c'.I k) : Rel H N c' := by
  have hl : ∀ i x, H i = some x → ∀ b ba, c'.ρ i = some (b, ba) → c.ρ i = some (b, ba) := fun i x h b ba h1 => by
    obtain ⟨b', ba', h2, _⟩ := hr.live i x h
    have := hs.rho _ _ h2
    rw [h1] at this
    exact this ▸ h2
  refine ⟨fun i x h => ?_, fun i j x y b ba bb h1 h2 h3 h4 => hr.apart i j x y b ba bb h1 h2 (hl i x h1 b ba h3) (hl j y h2 b bb h4), fun i x b ba h1 h2 => hId b ⟨i, x, ba, h1, hl i x h1 b ba h2⟩, hI, hρ⟩
  obtain ⟨b, ba, h1, h2⟩ := hr.live i x h
  exact ⟨b, ba, hs.rho _ _ h1, h2.mono hs.toExt (hs.block b h2.lt (hT b ⟨i, x, ba, h, h1⟩))⟩
end Go.Proofs.Ytpepghaknilmhaa.Vm
