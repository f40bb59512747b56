/- The machine of plain values: operations that may come in any order: plain facts. Written once for all seats. -/
import Derived.Test.YtpepghaknilmhaaVmM
namespace Go.Proofs.Ytpepghaknilmhaa.Vm
open Go
set_option linter.unusedVariables false
set_option linter.unusedSimpArgs false

/-! ### Folds over those that have come -/
def foldD {β : Type} (f : Nat → β → β) (D : Nat → Bool) : Nat → β → β
  | 0, x => x
  | n + 1, x => if D n then f n (foldD f D n x) else foldD f D n x
theorem foldD_agree {β : Type} {f : Nat → β → β} {D D' : Nat → Bool} : ∀ (n : Nat) (x : β), (∀ i, i < n → D i ≠ D' i → ∀ b, f i b = b) → foldD f D n x = foldD f D' n x
  | 0, x, _ => rfl
  | n + 1, x, h => by
    have ih := foldD_agree n x (fun i hi => h i (by omega))
    unfold foldD
    rw [ih]
    by_cases e : D n = D' n
    · rw [e]
    · have := h n (by omega) e
      cases D n <;> cases D' n <;> simp_all
theorem foldD_insert {β : Type} {f : Nat → β → β} {D D' : Nat → Bool} {j : Nat} (hj : D j = false) (hj' : D' j = true) (ho : ∀ i, i ≠ j → D' i = D i) : ∀ (n : Nat) (x : β), j < n → (∀ i, j < i → i < n → D i = true → ∀ b, f i (f j b) = f j (f i b)) → foldD f D' n x = f j (foldD f D n x)
  | 0, x, h, _ => by omega
  | n + 1, x, h, hc => by
    unfold foldD
    by_cases e : n = j
    · subst e
      rw [hj', hj]
      simp only [if_true, Bool.false_eq_true, if_false]
      congr 1
      exact foldD_agree' n x (fun i hi => ho i (by omega))
    · have ih := foldD_insert hj hj' ho n x (by omega) (fun i h1 h2 => hc i h1 (by omega))
      rw [ho n e, ih]
      cases hD : D n with
      | false => rfl
      | true => exact hc n (by omega) (by omega) hD _
where
  foldD_agree' {β : Type} {f : Nat → β → β} {D D' : Nat → Bool} : ∀ (n : Nat) (x : β), (∀ i, i < n → D' i = D i) → foldD f D' n x = foldD f D n x
    | 0, x, _ => rfl
    | n + 1, x, h => by
      unfold foldD
      rw [foldD_agree' n x (fun i hi => h i (by omega)), h n (by omega)]
theorem foldD_proj {β γ : Type} {f : Nat → β → β} {g : Nat → γ → γ} {D : Nat → Bool} (π : β → γ) : ∀ (n : Nat) (x : β), (∀ i, i < n → ∀ b, π (f i b) = g i (π b)) → π (foldD f D n x) = foldD g D n (π x)
  | 0, x, _ => rfl
  | n + 1, x, h => by
    have ih := foldD_proj (D := D) π n x (fun i hi => h i (by omega))
    unfold foldD
    cases D n with
    | false => exact ih
    | true => simp only [if_true]; rw [h n (by omega), ih]
/-- All below k have come. -/
theorem foldD_below {β : Type} {f : Nat → β → β} (s : Nat → β) (m : Nat) (h : ∀ i, i < m → s (i + 1) = f i (s i)) (k : Nat) (hk : k ≤ m) : foldD f (fun i => decide (i < k)) m (s 0) = s k := by
  have h1 : ∀ n, n ≤ k → foldD f (fun i => decide (i < k)) n (s 0) = s n := by
    intro n
    induction n with
    | zero => intro _; rfl
    | succ n ih =>
      intro hn
      unfold foldD
      rw [decide_eq_true (by omega), ih (by omega), h n (by omega)]
      rfl
  have h2 : ∀ n, k ≤ n → n ≤ m → foldD f (fun i => decide (i < k)) n (s 0) = s k := by
    intro n
    induction n with
    | zero => intro h3 _; obtain rfl : k = 0 := by omega
              rfl
    | succ n ih =>
      intro h3 h4
      by_cases e : k = n + 1
      · subst e; exact h1 _ (Nat.le_refl _)
      · unfold foldD
        rw [decide_eq_false (by omega)]
        exact ih (by omega) (by omega)
  exact h2 m hk (Nat.le_refl _)

/-! ### Who comes before whom -/
def maskOf (acc : Array Nat) (o : Oper) : Nat := o.after.foldl (fun s e => if Region.binds .any e then s ||| 2 ^ e.on ||| acc.getD e.on 0 else s) 0
theorem before_list : ∀ (l : List Oper) (acc : Array Nat), (l.foldl (fun acc o => acc.push (maskOf acc o)) acc).size = acc.size + l.length ∧ (∀ j, j < acc.size → (l.foldl (fun acc o => acc.push (maskOf acc o)) acc)[j]? = acc[j]?) ∧
    ∀ k o, l[k]? = some o → ∃ pre : Array Nat, (∀ j, j < acc.size + k → pre[j]? = (l.foldl (fun acc o => acc.push (maskOf acc o)) acc)[j]?) ∧ pre.size = acc.size + k ∧ (l.foldl (fun acc o => acc.push (maskOf acc o)) acc)[acc.size + k]? = some (maskOf pre o)
  | [], acc => ⟨by simp, fun _ _ => rfl, fun k o h => by simp at h⟩
  | x :: l, acc => by
    obtain ⟨h1, h2, h3⟩ := before_list l (acc.push (maskOf acc x))
    simp only [List.foldl_cons]
    refine ⟨by rw [h1]; simp; omega, fun j hj => ?_, fun k o hk => ?_⟩
    · rw [h2 j (by simp; omega), Array.getElem?_push, if_neg (by omega)]
    · cases k with
      | zero =>
        simp only [List.getElem?_cons_zero, Option.some.injEq] at hk
        subst hk
        refine ⟨acc, fun j hj => ?_, rfl, ?_⟩
        · rw [h2 j (by simp; omega), Array.getElem?_push, if_neg (by omega)]
        · rw [Nat.add_zero, h2 _ (by simp)]
          simp
      | succ k =>
        obtain ⟨pre, h4, h5, h6⟩ := h3 k o (by simpa using hk)
        simp only [Array.size_push] at h4 h5 h6
        exact ⟨pre, fun j hj => h4 j (by omega), by omega, by rw [← h6]; congr 1; omega⟩
theorem mask_bits (acc : Array Nat) (i : Nat) : ∀ (l : List Edge) (s : Nat), (l.foldl (fun s e => if Region.binds .any e then s ||| 2 ^ e.on ||| acc.getD e.on 0 else s) s).testBit i = true → s.testBit i = true ∨ ∃ e ∈ l, Region.binds .any e = true ∧ (e.on = i ∨ (acc.getD e.on 0).testBit i = true)
  | [], s, h => .inl h
  | e :: l, s, h => by
    simp only [List.foldl_cons] at h
    rcases mask_bits acc i l _ h with h | ⟨e', h1, h2, h3⟩
    · by_cases hb : Region.binds .any e = true
      · rw [if_pos hb, Nat.testBit_or, Nat.testBit_or, Bool.or_eq_true, Bool.or_eq_true] at h
        rcases h with (h | h) | h
        · exact .inl h
        · refine .inr ⟨e, List.mem_cons_self, hb, .inl ?_⟩
          rw [Nat.testBit_two_pow] at h
          simpa using h
        · exact .inr ⟨e, List.mem_cons_self, hb, .inr h⟩
      · rw [if_neg hb] at h
        exact .inl h
    · exact .inr ⟨e', List.mem_cons_of_mem _ h1, h2, h3⟩
/-- i comes before j. -/
def bef (ops : Array Oper) (j i : Nat) : Bool := ((Region.before ops).getD j 0).testBit i
theorem bef_step {ops : Array Oper} {i j : Nat} {o : Oper} (hj : ops[j]? = some o) (h : bef ops j i = true) : ∃ e ∈ o.after, Region.binds .any e = true ∧ (e.on = i ∨ (e.on < j ∧ bef ops e.on i = true)) := by
  have hb : Region.before ops = ops.toList.foldl (fun acc o => acc.push (maskOf acc o)) #[] := by
    unfold Region.before
    rw [← Array.foldl_toList]
    rfl
  obtain ⟨h1, h2, h3⟩ := before_list ops.toList #[]
  obtain ⟨pre, h4, h5, h6⟩ := h3 j o (by rw [Array.getElem?_toList]; exact hj)
  rw [← hb] at h4 h6
  simp only [List.size_toArray, List.length_nil, Nat.zero_add] at h4 h5 h6
  unfold bef at h
  rw [Array.getD_eq_getD_getElem?, h6] at h
  simp only [Option.getD_some, maskOf] at h
  rw [← Array.foldl_toList] at h
  rcases mask_bits pre i _ 0 h with h | ⟨e, g1, g2, g3⟩
  · simp at h
  · refine ⟨e, Array.mem_toList_iff.1 g1, g2, g3.imp id fun g => ?_⟩
    by_cases hlt : e.on < j
    · refine ⟨hlt, ?_⟩
      unfold bef
      rw [Array.getD_eq_getD_getElem?] at g ⊢
      rw [← h4 e.on hlt]
      exact g
    · rw [Array.getD_eq_getD_getElem?, Array.getElem?_eq_none (by omega)] at g
      simp at g
/-- A set that holds all that its members wait for. -/
def Closed (ops : Array Oper) (D : Nat → Bool) : Prop := ∀ j o, ops[j]? = some o → D j = true → ∀ e ∈ o.after, Region.binds .any e = true → D e.on = true
theorem closed_bef {ops : Array Oper} {D : Nat → Bool} (hc : Closed ops D) {i : Nat} : ∀ (n j : Nat), j < n → D j = true → j < ops.size → bef ops j i = true → D i = true
  | 0, j, h, _, _, _ => by omega
  | n + 1, j, hn, hj, hlt, hb => by
    obtain ⟨e, h1, h2, h3⟩ := bef_step (Array.getElem?_eq_getElem hlt) hb
    have hd := hc j _ (Array.getElem?_eq_getElem hlt) hj e h1 h2
    rcases h3 with rfl | ⟨h3, h4⟩
    · exact hd
    · exact closed_bef hc n e.on (by omega) hd (by omega) h4
/-- One that is ready waits for nothing more. -/
theorem ready_bef {ops : Array Oper} {D : Nat → Bool} (hc : Closed ops D) {j i : Nat} {o : Oper} (hj : ops[j]? = some o) (hr : ∀ e ∈ o.after, Region.binds .any e = true → D e.on = true) (hb : bef ops j i = true) : D i = true := by
  obtain ⟨e, h1, h2, h3⟩ := bef_step hj hb
  have hd := hr e h1 h2
  have hlt := (Array.getElem?_eq_some_iff.1 hj).1
  rcases h3 with rfl | ⟨h3, h4⟩
  · exact hd
  · exact closed_bef hc (e.on + 1) e.on (by omega) hd (by omega) h4

/-! ### An operation hangs on what it looks at -/
theorem content_congr {get get' : Nat → Option Obj} {p : PV} (h : ∀ id ∈ idOf p, get id = get' id) : content get p = content get' p := by
  cases p with
  | ref id off n sz => simp only [content, h id (by simp [idOf])]
  | d v => cases v <;> rfl
  | _ => rfl
theorem op1_congr {P : Program} {own : Bool} {nid : Nat} {get get' : Nat → Option Obj} {o : Oper} {ρ ρ' : Operand → PV} (hρ : ∀ x ∈ o.op.operands, ρ x = ρ' x) (hg : ∀ id ∈ looked ρ o.op, get id = get' id) : op1 P own nid get o ρ = op1 P own nid get' o ρ' := by
  have hs : (∀ cs b, o.op ≠ .select cs b) → op1.scalar P o ρ = op1.scalar P o ρ' := fun hsel => by
    have h1 : o.op.operands.toList.mapM (fun x => (ρ x).toV) = o.op.operands.toList.mapM (fun x => (ρ' x).toV) := by
      have : ∀ l : List Operand, (∀ x ∈ l, ρ x = ρ' x) → l.mapM (fun x => (ρ x).toV) = l.mapM (fun x => (ρ' x).toV) := by
        intro l
        induction l with
        | nil => intro _; rfl
        | cons x l ih => intro h; rw [List.mapM_cons, List.mapM_cons, h x List.mem_cons_self, ih (fun y hy => h y (List.mem_cons_of_mem _ hy))]
      exact this _ (fun x hx => hρ x (Array.mem_toList_iff.1 hx))
    unfold op1.scalar
    rw [h1]
    have h2 : execOp (fun x => ((ρ x).toV).getD undef) o = execOp (fun x => ((ρ' x).toV).getD undef) o := execOp_congr o hsel (fun x hx => by rw [hρ x hx])
    rw [h2]
  have hparts : ∀ (ps : Array (Nat × Operand)), (∀ x ∈ (ps.toList.map (·.2)).toArray, ρ x = ρ' x) → ps.toList.map (fun p => (p.1, ρ p.2)) = ps.toList.map (fun p => (p.1, ρ' p.2)) := fun ps h => by
    refine List.map_congr_left fun p hp => ?_
    rw [h p.2 (by simpa using ⟨p.1, Array.mem_toList_iff.1 hp⟩)]
  have hopt : ∀ (x : Option Operand), (∀ y ∈ x.toArray, ρ y = ρ' y) → x.map ρ = x.map ρ' := fun x h => by
    cases x with
    | none => rfl
    | some y => simp [h y (by simp)]
  have harg : ∀ (args : Array Operand) (k : Nat), (∀ x ∈ args, ρ x = ρ' x) → (args[k]?).map ρ = (args[k]?).map ρ' := fun args k h => by
    cases hk : args[k]? with
    | none => rfl
    | some y => simp [h y (Array.mem_of_getElem? hk)]
  cases hop : o.op with
  | move x => rw [hop] at hρ; simp only [op1, hop, hρ x (by simp [Op.operands])]
  | assign x => rw [hop] at hρ; simp only [op1, hop, hρ x (by simp [Op.operands])]
  | pick x y z => rw [hop] at hρ; simp only [op1, hop, hρ x (by simp [Op.operands]), hρ y (by simp [Op.operands]), hρ z (by simp [Op.operands])]
  | alloc t => simp only [op1, hop]
  | box t x => rw [hop] at hρ; simp only [op1, hop, hρ x (by simp [Op.operands])]
  | build t ps => rw [hop] at hρ; simp only [op1, hop, hparts ps hρ]
  | buildSlice t n ps => rw [hop] at hρ; simp only [op1, hop, hparts ps hρ]
  | load t x =>
    rw [hop] at hρ hg
    have hx := hρ x (by simp [Op.operands])
    simp only [op1, hop, ← hx]
    cases hp : ρ x with
    | ptr id off => simp only [hg id (by simp [looked, hp, idOf])]
    | _ => rfl
  | store t x y =>
    rw [hop] at hρ hg
    have hx := hρ x (by simp [Op.operands])
    simp only [op1, hop, ← hx, ← hρ y (by simp [Op.operands])]
    cases hp : ρ x with
    | ptr id off =>
      have := hg id (by simp [looked, hp, idOf])
      cases (ρ y).cells? with
      | none => rfl
      | some xs => cases sz? P t with
        | none => rfl
        | some n => simp only [this]
    | _ => rfl
  | nilCheck x => rw [hop] at hρ; simp only [op1, hop, hρ x (by simp [Op.operands])]
  | fieldAddr s x f => rw [hop] at hρ; simp only [op1, hop, hρ x (by simp [Op.operands])]
  | indexAddr t x i => rw [hop] at hρ; simp only [op1, hop, hρ x (by simp [Op.operands]), hρ i (by simp [Op.operands])]
  | field t x f => rw [hop] at hρ; simp only [op1, hop, hρ x (by simp [Op.operands])]
  | extract x i => rw [hop] at hρ; simp only [op1, hop, hρ x (by simp [Op.operands])]
  | makeFunc f first caps =>
    rw [hop] at hρ
    have hc : caps.toList.map ρ = caps.toList.map ρ' := List.map_congr_left fun x hx => hρ x (by simp [Op.operands, Array.mem_toList_iff.1 hx])
    cases f with
    | func f => simp only [op1, hop, hc]
    | _ => simp only [op1, hop]; exact hs (fun cs b e => by rw [hop] at e; cases e)
  | binOp op t x y t' =>
    have hs' := hs (fun cs b e => by rw [hop] at e; cases e)
    rw [hop] at hρ
    simp only [op1, hop, hρ x (by simp [Op.operands]), hρ y (by simp [Op.operands]), hs']
  | makeSlice t x y => rw [hop] at hρ; simp only [op1, hop, hρ x (by simp [Op.operands]), hρ y (by simp [Op.operands])]
  | slice t x lo hi mx =>
    have hs' := hs (fun cs b e => by rw [hop] at e; cases e)
    rw [hop] at hρ
    simp only [op1, hop, hρ x (by simp [Op.operands]), hopt lo (fun y hy => hρ y (by simp [Op.operands] at hy ⊢; simp [hy])), hopt hi (fun y hy => hρ y (by simp [Op.operands] at hy ⊢; simp [hy])), hopt mx (fun y hy => hρ y (by simp [Op.operands] at hy ⊢; simp [hy])), hs']
  | convert s d x =>
    have hs' := hs (fun cs b e => by rw [hop] at e; cases e)
    rw [hop] at hρ hg
    have hx := hρ x (by simp [Op.operands])
    simp only [op1, hop, ← hx, hs']
    cases hp : ρ x with
    | ref id off n sz => simp only [content_congr (get := get) (get' := get') (p := .ref id off n sz) (fun i hi => hg i (by simp only [looked, hp]; exact hi))]
    | _ => rfl
  | select cs b => simp only [op1, hop]
  | defer cl => simp only [op1, hop]
  | call cl =>
    have hs' := hs (fun cs b e => by rw [hop] at e; cases e)
    obtain ⟨callee, args, argTypes⟩ := cl
    rw [hop] at hρ hg
    have ha : ∀ x ∈ args, ρ x = ρ' x := fun x hx => hρ x (by simp [Op.operands, Call.operands, hx])
    cases callee with
    | value f => simp only [op1, hop]; exact hs'
    | invoke r m => simp only [op1, hop]; exact hs'
    | builtin bi =>
      have hmem : ∀ (k : Nat) (y : Operand), args[k]? = some y → y ∈ args := fun k y h => Array.mem_of_getElem? h
      have hlk : bi = .append ∨ bi = .copy → ∀ (k : Nat) (p : PV), (args[k]?).map ρ = some p → ∀ id ∈ idOf p, get id = get' id := fun hb k p hp id hid => by
        obtain ⟨y, h1, rfl⟩ := Option.map_eq_some_iff.1 hp
        refine hg id ?_
        rcases hb with rfl | rfl <;> simp only [looked, List.mem_flatMap] <;> exact ⟨y, Array.mem_toList_iff.2 (hmem k y h1), hid⟩
      cases bi with
      | len => simp only [op1, hop, ← harg args 0 ha, hs']
      | append =>
        simp only [op1, hop, ← harg args 0 ha, ← harg args 1 ha]
        cases (argTypes[0]?).bind P.underlying with
        | none => rfl
        | some d0 =>
          cases d0 with
          | slice elem =>
            cases (argTypes[1]?).bind P.underlying with
            | none => rfl
            | some d1 =>
              cases d1 with
              | slice elem1 =>
                cases h0 : (args[0]?).map ρ with
                | none => rfl
                | some p =>
                  cases h1 : (args[1]?).map ρ with
                  | none => rfl
                  | some q => simp only [content_congr (hlk (.inl rfl) 0 p h0), content_congr (hlk (.inl rfl) 1 q h1)]
              | _ => rfl
          | _ => rfl
      | copy =>
        simp only [op1, hop, ← harg args 0 ha, ← harg args 1 ha]
        cases (argTypes[0]?).bind P.underlying with
        | none => rfl
        | some d0 =>
          cases d0 with
          | slice elem =>
            cases h0 : (args[0]?).map ρ with
            | none => rfl
            | some p =>
              cases h1 : (args[1]?).map ρ with
              | none => rfl
              | some q =>
                have hq : source get q = source get' q := by
                  have := content_congr (hlk (.inr rfl) 1 q h1)
                  cases q with
                  | d v => cases v <;> first | rfl | exact this
                  | _ => exact this
                simp only [hq]
                cases p with
                | ref id off n sz => simp only [hlk (.inr rfl) 0 _ h0 id (by simp [idOf])]
                | d v =>
                  cases v with
                  | list a b n c => cases n <;> rfl
                  | _ => rfl
                | _ => rfl
          | _ => rfl
      | _ => simp only [op1, hop]; exact hs'
  | _ => simp only [op1, hop]; exact hs (fun cs b e => by rw [hop] at e; cases e)

/-- What is quiet has nothing to do with memory. -/
theorem op1_quiet {P : Program} {own : Bool} {nid : Nat} {get : Nat → Option Obj} {o : Oper} {ρ : Operand → PV} {v : PV} {e : Eff} (h : op1 P own nid get o ρ = some (v, e)) (hl : loud o.op = false) : e = .none ∧ looked ρ o.op = [] := by
  have hsc : op1.scalar P o ρ = some (v, e) → e = .none := fun h => by
    unfold op1.scalar at h
    split at h
    · split at h
      · split at h
        · cases h
        · cases h; rfl
      · cases h
    · cases h
  have hlk : looked ρ o.op = [] := by
    cases hop : o.op with
    | call cl =>
      obtain ⟨callee, args, argTypes⟩ := cl
      rw [hop] at hl
      cases callee with
      | builtin bi => cases bi <;> first | rfl | (simp [loud] at hl)
      | _ => rfl
    | load => rw [hop] at hl; simp [loud] at hl
    | store => rw [hop] at hl; simp [loud] at hl
    | convert => rw [hop] at hl; simp [loud] at hl
    | _ => rfl
  refine ⟨?_, hlk⟩
  unfold op1 at h
  split at h <;> first
    | exact hsc h
    | (rename_i hop; rw [hop] at hl; simp [loud] at hl; done)
    | ((repeat' split at h) <;> first | (cases h; done) | (cases h; rfl) | exact hsc h | (obtain ⟨y, h1, h2⟩ := Option.map_eq_some_iff.1 h; cases h2; rfl))
end Go.Proofs.Ytpepghaknilmhaa.Vm
