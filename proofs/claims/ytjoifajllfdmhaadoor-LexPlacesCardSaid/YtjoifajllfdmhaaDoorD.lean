/-
  Layer 3 in plain Lean: what tokens are, and how a source is split into them. No program is in sight here.
-/
import Derived.Test.YtjoifajllfdmhaaDoorE4
import Derived.Lib.ItoaNum
import Derived.Lib.AtoiAllCases
import Derived.Lib.Join
set_option linter.unusedSimpArgs false
set_option linter.unusedVariables false
set_option linter.constructorNameAsVariable false
section
namespace Go.Lex
open Go.AE

structure Keep (p : Prop) : Prop where
  out : p

def letter (b : UInt8) : Bool := (decide (97 ≤ b.toNat) && decide (b.toNat ≤ 122)) || (decide (65 ≤ b.toNat) && decide (b.toNat ≤ 90))
def digit (b : UInt8) : Bool := decide (48 ≤ b.toNat) && decide (b.toNat ≤ 57)
def white (b : UInt8) : Bool := decide (b.toNat = 32) || decide (b.toNat = 9) || decide (b.toNat = 10) || decide (b.toNat = 13)
def signs : List UInt8 := [123, 125, 40, 41, 59, 44, 61, 58, 46, 60, 62, 33, 43, 45, 42, 47]
def isSign (b : UInt8) : Bool := signs.contains b
def cls (b : UInt8) : Int := if letter b then 2 else if digit b then 3 else if b.toNat = 95 then 5 else if white b then 1 else if isSign b then 4 else 0
def partB (b : UInt8) : Bool := letter b || digit b || decide (b.toNat = 95)
/-- Is it a name? -/
def nameB (l : List UInt8) : Bool := decide (1 ≤ l.length) && decide (l.length ≤ 32) && letter (l.getD 0 0) && l.all partB
/-- A token. -/
structure Tk where
  kind : Int
  text : List UInt8
  n : Int
  at_ : Int
  deriving DecidableEq
def Tk.row (t : Tk) : List AV := [.v (.int .i64 t.kind), .v (.string (bs t.text)), .v (.int .i64 t.n), .v (.int .i64 t.at_)]
def validB (t : Tk) : Bool :=
  if t.kind = 1 then nameB t.text && decide (t.n = 0)
  else if t.kind = 2 then decide (t.text = []) && decide (0 ≤ t.n) && decide (t.n ≤ 1099511627776)
  else if t.kind = 3 then decide (t.text.length = 1) && isSign (t.text.getD 0 0) && decide (t.n = 0)
  else false
def toks (l : List Tk) : List (List AV) := l.map Tk.row
def wsum : List Tk → Int → Int
  | [], n => n
  | t :: r, n => wsum r (IntKind.i64.wrap (n + t.text.length))
def fewB (l : List Tk) : Bool := decide (l.length ≤ 200) && decide (wsum l 0 ≤ 2000)
def sameT (x y : Tk) : Bool := decide (x.kind = y.kind) && decide (x.text = y.text) && decide (x.n = y.n)
def sameB : List Tk → List Tk → Bool
  | [], [] => true
  | x :: a, y :: b => sameT x y && sameB a b
  | _, _ => false
/-- A token's own text. -/
def textOf (t : Tk) : List UInt8 := if t.kind = 2 then Lib.decDigits t.n.toNat else t.text
def joinS (l : List Tk) : List UInt8 := Lib.join (l.map textOf) [32]

/-! ### Splitting a source -/
/-- The number that digits spell. -/
def num : List UInt8 → Nat → Nat
  | [], n => n
  | b :: r, n => num r (10 * n + (b.toNat - 48))
def numOk (t : List UInt8) : Bool := decide (num t 0 ≤ 1099511627776) && decide (Lib.decDigits (num t 0) = t)

/-- What stands at a place: its length, and its token, if it has one; none: an error. -/
def stepB (c : UInt8) (r : List UInt8) : Option (Nat × Option (Int × List UInt8 × Int)) :=
  if white c then some (1, none)
  else if c = 47 ∧ r.head? = some 47 then some (((c :: r).takeWhile (fun b => b != 10)).length, none)
  else if letter c then
    if nameB ((c :: r).takeWhile partB) then some (((c :: r).takeWhile partB).length, some (1, (c :: r).takeWhile partB, 0)) else none
  else if digit c then
    if numOk ((c :: r).takeWhile digit) then some (((c :: r).takeWhile digit).length, some (2, [], num ((c :: r).takeWhile digit) 0)) else none
  else if isSign c then some (1, some (3, [c], 0))
  else none

def addTk (o : Option (Int × List UInt8 × Int)) (k : Nat) (l : List Tk) : List Tk :=
  match o with
  | none => l
  | some (a, t, n) => ⟨a, t, n, k⟩ :: l

inductive Out where
  | ok (l : List Tk)
  | wrong (k : Nat)
  deriving DecidableEq

def Out.add (o : Option (Int × List UInt8 × Int)) (k : Nat) : Out → Out
  | .ok l => .ok (addTk o k l)
  | .wrong i => .wrong i

def lexR : List UInt8 → Nat → Out
  | [], _ => .ok []
  | c :: r, k =>
    match stepB c r with
    | none => .wrong k
    | some (n, o) => (lexR (r.drop (n - 1)) (k + n)).add o k
termination_by s => s.length
decreasing_by simp; omega

theorem lexR_nil (k : Nat) : lexR [] k = .ok [] := by rw [lexR]
theorem lexR_none {c : UInt8} {r : List UInt8} {k : Nat} (h : stepB c r = none) : lexR (c :: r) k = .wrong k := by rw [lexR, h]
theorem lexR_some {c : UInt8} {r : List UInt8} {k n : Nat} {o : Option (Int × List UInt8 × Int)} (h : stepB c r = some (n, o)) : lexR (c :: r) k = (lexR (r.drop (n - 1)) (k + n)).add o k := by rw [lexR, h]
end Go.Lex
end

section
namespace Go.Lex
open Go.AE

theorem sign_not (b : UInt8) (h : isSign b = true) : letter b = false ∧ digit b = false ∧ b.toNat ≠ 95 ∧ white b = false := by
  have hm : b ∈ signs := by simpa [isSign] using h
  have : ∀ c ∈ signs, letter c = false ∧ digit c = false ∧ c.toNat ≠ 95 ∧ white c = false := by decide
  exact this b hm
theorem letter_not (b : UInt8) (h : letter b = true) : digit b = false ∧ white b = false ∧ b ≠ 47 ∧ partB b = true := by
  refine ⟨?_, ?_, ?_, by simp [partB, h]⟩
  · simp only [letter, digit, Bool.or_eq_true, Bool.and_eq_true, decide_eq_true_eq, Bool.and_eq_false_iff, decide_eq_false_iff_not] at *; omega
  · simp only [letter, white, Bool.or_eq_true, Bool.and_eq_true, decide_eq_true_eq, Bool.or_eq_false_iff, decide_eq_false_iff_not] at *; omega
  · rintro rfl; revert h; decide
theorem digit_not (b : UInt8) (h : digit b = true) : letter b = false ∧ white b = false ∧ b ≠ 47 := by
  refine ⟨?_, ?_, ?_⟩
  · simp only [letter, digit, Bool.or_eq_false_iff, Bool.and_eq_true, decide_eq_true_eq, Bool.and_eq_false_iff, decide_eq_false_iff_not] at *; omega
  · simp only [digit, white, Bool.and_eq_true, decide_eq_true_eq, Bool.or_eq_false_iff, decide_eq_false_iff_not] at *; omega
  · rintro rfl; revert h; decide
theorem white_not (b : UInt8) (h : white b = true) : partB b = false ∧ digit b = false ∧ b ≠ 47 := by
  refine ⟨?_, ?_, ?_⟩
  · simp only [partB, letter, digit, white, Bool.or_eq_false_iff, Bool.or_eq_true, Bool.and_eq_true, decide_eq_true_eq, Bool.and_eq_false_iff, decide_eq_false_iff_not] at *; omega
  · simp only [digit, white, Bool.or_eq_true, Bool.and_eq_false_iff, decide_eq_true_eq, decide_eq_false_iff_not] at *; omega
  · rintro rfl; revert h; decide

/-! ### takeWhile -/
section
variable {p : UInt8 → Bool}
theorem tw_app_stop {s x : List UInt8} {b : UInt8} (hb : p b = false) : (s ++ b :: x).takeWhile p = s.takeWhile p := by
  induction s with
  | nil => simp [hb]
  | cons c s ih => simp only [List.cons_append, List.takeWhile_cons, ih]
theorem tw_app_no {s x : List UInt8} (h : ∃ b ∈ s, p b = false) : (s ++ x).takeWhile p = s.takeWhile p := by
  induction s with
  | nil => obtain ⟨b, hb, -⟩ := h; cases hb
  | cons c s ih =>
    simp only [List.cons_append, List.takeWhile_cons]
    cases hc : p c with
    | false => rfl
    | true =>
      simp only [if_true]
      rw [ih]
      obtain ⟨b, hb, hp⟩ := h
      rcases List.mem_cons.1 hb with rfl | hb
      · rw [hc] at hp; cases hp
      · exact ⟨b, hb, hp⟩
theorem tw_all {s : List UInt8} (h : s.all p = true) : s.takeWhile p = s := by
  induction s with
  | nil => rfl
  | cons c s ih =>
    simp only [List.all_cons, Bool.and_eq_true] at h
    simp [List.takeWhile_cons, h.1, ih h.2]
theorem tw_len_le (s : List UInt8) : (s.takeWhile p).length ≤ s.length := by
  induction s with
  | nil => simp
  | cons c s ih => rw [List.takeWhile_cons]; split <;> simp; exact ih
theorem tw_eq_of_len {s : List UInt8} (h : s.length ≤ (s.takeWhile p).length) : s.all p = true := by
  induction s with
  | nil => rfl
  | cons c s ih =>
    rw [List.takeWhile_cons] at h
    split at h
    · rename_i hc
      simp only [List.length_cons, Nat.add_le_add_iff_right] at h
      simp [hc, ih h]
    · simp at h
theorem tw_take {s : List UInt8} : ∀ {k : Nat}, (s.takeWhile p).length ≤ k → (s.take k).takeWhile p = s.takeWhile p := by
  induction s with
  | nil => intro k _; simp
  | cons c s ih =>
    intro k hk
    rw [List.takeWhile_cons] at hk ⊢
    cases hc : p c with
    | false =>
      simp only [Bool.false_eq_true, if_false]
      cases k <;> simp [List.takeWhile_cons, hc]
    | true =>
      simp only [hc, if_true] at hk ⊢
      cases k with
      | zero => simp at hk
      | succ k =>
        simp only [List.length_cons, Nat.add_le_add_iff_right] at hk
        simp [List.takeWhile_cons, hc, ih hk]
theorem tw_allp (s : List UInt8) : (s.takeWhile p).all p = true := by
  induction s with
  | nil => rfl
  | cons c s ih =>
    rw [List.takeWhile_cons]
    split
    · rename_i hc; simp [hc, ih]
    · rfl
theorem tw_cons_len {c : UInt8} {s : List UInt8} (h : p c = true) : 1 ≤ ((c :: s).takeWhile p).length := by simp [List.takeWhile_cons, h]
end

/-! ### One step -/
theorem stepB_len {c : UInt8} {r : List UInt8} {n : Nat} {o : Option (Int × List UInt8 × Int)} (h : stepB c r = some (n, o)) : 1 ≤ n ∧ n ≤ r.length + 1 := by
  have hl : ∀ p : UInt8 → Bool, ((c :: r).takeWhile p).length ≤ r.length + 1 := fun p => tw_len_le (c :: r)
  unfold stepB at h
  split at h
  · simp only [Option.some.injEq, Prod.mk.injEq] at h; omega
  split at h
  · rename_i hc
    simp only [Option.some.injEq, Prod.mk.injEq] at h
    rw [← h.1]
    exact ⟨tw_cons_len (by rw [hc.1]; decide), hl _⟩
  split at h
  · rename_i hc
    split at h
    · simp only [Option.some.injEq, Prod.mk.injEq] at h
      rw [← h.1]
      exact ⟨tw_cons_len (letter_not _ hc).2.2.2, hl _⟩
    · cases h
  split at h
  · rename_i hc
    split at h
    · simp only [Option.some.injEq, Prod.mk.injEq] at h
      rw [← h.1]
      exact ⟨tw_cons_len hc, hl _⟩
    · cases h
  split at h
  · simp only [Option.some.injEq, Prod.mk.injEq] at h; omega
  · cases h

/-- What follows white space does not matter. -/
theorem stepB_app {c b : UInt8} {r y : List UInt8} (hb : white b = true) (h : b = 10 ∨ 10 ∈ r ∨ ¬ (c = 47 ∧ r.head? = some 47)) : stepB c (r ++ b :: y) = stepB c r := by
  have h1 := (white_not b hb).1
  have h2 := (white_not b hb).2.1
  have h3 := (white_not b hb).2.2
  have e1 : (c :: (r ++ b :: y)).takeWhile partB = (c :: r).takeWhile partB := tw_app_stop (s := c :: r) h1
  have e2 : (c :: (r ++ b :: y)).takeWhile digit = (c :: r).takeWhile digit := tw_app_stop (s := c :: r) h2
  have e3 : (r ++ b :: y).head? = some 47 ↔ r.head? = some 47 := by
    cases r with
    | nil => simp [h3]
    | cons d r => simp
  unfold stepB
  rw [e1, e2]
  simp only [e3]
  by_cases hw : white c
  · simp only [hw, if_true]
  · simp only [hw, if_false]
    by_cases hc : c = 47 ∧ r.head? = some 47
    · rw [if_pos hc, if_pos hc]
      have e4 : (c :: (r ++ b :: y)).takeWhile (fun b => b != 10) = (c :: r).takeWhile (fun b => b != 10) := by
        rcases h with h | h | h
        · subst h; exact tw_app_stop (s := c :: r) (by decide)
        · exact tw_app_no (s := c :: r) ⟨10, List.mem_cons_of_mem _ h, by decide⟩
        · exact absurd hc h
      rw [e4]
    · rw [if_neg hc, if_neg hc]

/-- What stands behind a step does not matter. -/
theorem stepB_take {c : UInt8} {r : List UInt8} {n m : Nat} {o : Option (Int × List UInt8 × Int)} (h : stepB c r = some (n, o)) (hm : n ≤ m + 1) : stepB c (r.take m) = some (n, o) := by
  have ht : ∀ p : UInt8 → Bool, ((c :: r).takeWhile p).length ≤ m + 1 → (c :: r.take m).takeWhile p = (c :: r).takeWhile p := fun p hp => tw_take (s := c :: r) (k := m + 1) hp
  unfold stepB at h ⊢
  split at h
  · rename_i hw; rw [if_pos hw]; exact h
  rename_i hw
  rw [if_neg hw]
  split at h
  · rename_i hc
    simp only [Option.some.injEq, Prod.mk.injEq] at h
    have h1 : 2 ≤ ((c :: r).takeWhile (fun b => b != 10)).length := by
      obtain ⟨rfl, hr⟩ := hc
      cases r with
      | nil => cases hr
      | cons d r => simp only [List.head?_cons, Option.some.injEq] at hr; subst hr; simp [List.takeWhile_cons]
    have hh : (r.take m).head? = some 47 := by
      cases m with
      | zero => omega
      | succ m => rw [List.head?_take]; simp [hc.2]
    rw [if_pos ⟨hc.1, hh⟩, ht _ (by omega), h.1, h.2]
  rename_i hc
  have hh : ¬ (c = 47 ∧ (r.take m).head? = some 47) := by
    rintro ⟨q1, q2⟩
    refine hc ⟨q1, ?_⟩
    rw [List.head?_take] at q2
    split at q2
    · cases q2
    · exact q2
  rw [if_neg hh]
  split at h
  · rename_i hl
    rw [if_pos hl]
    split at h
    · rename_i hn
      simp only [Option.some.injEq, Prod.mk.injEq] at h
      rw [ht _ (by omega), if_pos hn, h.1, h.2]
    · cases h
  rename_i hl
  rw [if_neg hl]
  split at h
  · rename_i hd
    rw [if_pos hd]
    split at h
    · rename_i hn
      simp only [Option.some.injEq, Prod.mk.injEq] at h
      rw [ht _ (by omega), if_pos hn, h.1, h.2]
    · cases h
  rename_i hd
  rw [if_neg hd]
  exact h

theorem head_getD {t : List UInt8} : (t.getD 0 0) = t.headD 0 := by cases t <;> rfl

/-- What a step finds is valid. -/
theorem stepB_valid {c : UInt8} {r : List UInt8} {n : Nat} {a : Int} {t : List UInt8} {v : Int} (h : stepB c r = some (n, some (a, t, v))) (k : Nat) : validB ⟨a, t, v, k⟩ = true := by
  unfold stepB at h
  split at h
  · simp at h
  split at h
  · simp at h
  split at h
  · split at h
    · rename_i hn
      simp only [Option.some.injEq, Prod.mk.injEq] at h
      obtain ⟨-, rfl, rfl, rfl⟩ := h
      simp [validB, hn]
    · cases h
  split at h
  · split at h
    · rename_i hn
      simp only [Option.some.injEq, Prod.mk.injEq] at h
      obtain ⟨-, rfl, rfl, rfl⟩ := h
      simp [numOk] at hn
      simp [validB]
      omega
    · cases h
  split at h
  · rename_i hn
    simp only [Option.some.injEq, Prod.mk.injEq] at h
    obtain ⟨-, rfl, rfl, rfl⟩ := h
    simp [validB, hn]
  · cases h

theorem lex_valid : ∀ (m : Nat) (s : List UInt8) (k : Nat) (l : List Tk), s.length ≤ m → lexR s k = .ok l → ∀ t ∈ l, validB t = true := by
  intro m
  induction m with
  | zero =>
    intro s k l hs h
    obtain rfl := List.length_eq_zero_iff.1 (Nat.le_zero.1 hs)
    rw [lexR_nil] at h
    injection h with h; subst h
    intro t ht; cases ht
  | succ m ih =>
    intro s k l hs h
    cases s with
    | nil => rw [lexR_nil] at h; injection h with h; subst h; intro t ht; cases ht
    | cons c r =>
      cases hst : stepB c r with
      | none => rw [lexR_none hst] at h; cases h
      | some q =>
        obtain ⟨n, o⟩ := q
        rw [lexR_some hst] at h
        cases hr : lexR (r.drop (n - 1)) (k + n) with
        | wrong i => rw [hr] at h; cases h
        | ok l' =>
          rw [hr] at h
          injection h with h
          have hv := ih (r.drop (n - 1)) (k + n) l' (by simp at hs ⊢; omega) hr
          subst h
          cases o with
          | none => exact hv
          | some q =>
            obtain ⟨a, t, v⟩ := q
            intro u hu
            rcases List.mem_cons.1 hu with rfl | hu
            · exact stepB_valid hst k
            · exact hv u hu

/-! ### Places -/
def Out.shift (d : Nat) : Out → Out
  | .ok l => .ok (l.map fun t => { t with at_ := t.at_ + d })
  | .wrong k => .wrong (k + d)
theorem shift_add (x : Out) (o : Option (Int × List UInt8 × Int)) (k d : Nat) : (x.add o k).shift d = (x.shift d).add o (k + d) := by
  cases x with
  | wrong i => rfl
  | ok l =>
    cases o with
    | none => rfl
    | some q => obtain ⟨a, t, v⟩ := q; simp [Out.add, Out.shift, addTk]
theorem lex_shift : ∀ (m : Nat) (s : List UInt8) (k d : Nat), s.length ≤ m → lexR s (k + d) = (lexR s k).shift d := by
  intro m
  induction m with
  | zero =>
    intro s k d hs
    obtain rfl := List.length_eq_zero_iff.1 (Nat.le_zero.1 hs)
    simp [lexR_nil, Out.shift]
  | succ m ih =>
    intro s k d hs
    cases s with
    | nil => simp [lexR_nil, Out.shift]
    | cons c r =>
      cases hst : stepB c r with
      | none => rw [lexR_none hst, lexR_none hst]; rfl
      | some q =>
        obtain ⟨n, o⟩ := q
        rw [lexR_some hst, lexR_some hst, shift_add, ← ih _ _ _ (by simp at hs ⊢; omega), Nat.add_right_comm]

/-! ### Two sources -/
def Out.then (x : Out) (f : Unit → Out) : Out :=
  match x with
  | .wrong i => .wrong i
  | .ok l => match f () with
    | .wrong i => .wrong i
    | .ok l' => .ok (l ++ l')
theorem add_then (x y : Out) (o : Option (Int × List UInt8 × Int)) (k : Nat) : (x.then fun _ => y).add o k = (x.add o k).then fun _ => y := by
  cases x with
  | wrong i => rfl
  | ok l =>
    cases y with
    | wrong i => rfl
    | ok l' =>
      cases o with
      | none => rfl
      | some q => obtain ⟨a, t, v⟩ := q; rfl
theorem lex_white {b : UInt8} {r : List UInt8} {k : Nat} (hb : white b = true) : lexR (b :: r) k = lexR r (k + 1) := by
  have : stepB b r = some (1, none) := by unfold stepB; rw [if_pos hb]
  rw [lexR_some this]
  show (lexR r (k + 1)).add none k = lexR r (k + 1)
  cases lexR r (k + 1) <;> rfl
theorem lex_joined : ∀ (m : Nat) (s y : List UInt8) (k : Nat), s.length ≤ m → lexR (s ++ 10 :: y) k = (lexR s k).then fun _ => lexR y (k + s.length + 1) := by
  intro m
  induction m with
  | zero =>
    intro s y k hs
    obtain rfl := List.length_eq_zero_iff.1 (Nat.le_zero.1 hs)
    rw [List.nil_append, lex_white (by decide), lexR_nil]
    simp only [Out.then, List.length_nil, Nat.add_zero]
    cases lexR y (k + 1) <;> rfl
  | succ m ih =>
    intro s y k hs
    cases s with
    | nil =>
      rw [List.nil_append, lex_white (by decide), lexR_nil]
      simp only [Out.then, List.length_nil, Nat.add_zero]
      cases lexR y (k + 1) <;> rfl
    | cons c r =>
      rw [List.cons_append]
      have he : stepB c (r ++ 10 :: y) = stepB c r := stepB_app (by decide) (.inl rfl)
      cases hst : stepB c r with
      | none => rw [lexR_none hst, lexR_none (he.trans hst)]; rfl
      | some q =>
        obtain ⟨n, o⟩ := q
        have hn := stepB_len hst
        rw [lexR_some hst, lexR_some (he.trans hst), List.drop_append_of_le_length (by omega), ih _ _ _ (by simp at hs ⊢; omega), add_then]
        congr 1
        funext _
        congr 1
        simp
        omega

/-! ### Errors -/
theorem lex_wrong : ∀ (m : Nat) (s : List UInt8) (k i : Nat), s.length ≤ m → lexR s k = .wrong i →
    k ≤ i ∧ i < k + s.length ∧ (∃ l, lexR (s.take (i - k)) k = .ok l) ∧ (∀ b y, white b = true → lexR (s ++ b :: y) k = .wrong i) ∧ ∀ j, lexR (s.drop (i - k)) j = .wrong j := by
  intro m
  induction m with
  | zero =>
    intro s k i hs h
    obtain rfl := List.length_eq_zero_iff.1 (Nat.le_zero.1 hs)
    rw [lexR_nil] at h; cases h
  | succ m ih =>
    intro s k i hs h
    cases s with
    | nil => rw [lexR_nil] at h; cases h
    | cons c r =>
      cases hst : stepB c r with
      | none =>
        rw [lexR_none hst] at h
        injection h with h; subst h
        refine ⟨Nat.le_refl _, by simp, ⟨[], by rw [Nat.sub_self, List.take_zero, lexR_nil]⟩, fun b y hb => ?_, fun j => ?_⟩
        · rw [List.cons_append]
          have hn : ¬ (c = 47 ∧ r.head? = some 47) := by
            intro hc
            unfold stepB at hst
            rw [if_pos hc] at hst
            split at hst <;> cases hst
          exact lexR_none ((stepB_app hb (.inr (.inr hn))).trans hst)
        · rw [Nat.sub_self, List.drop_zero]; exact lexR_none hst
      | some q =>
        obtain ⟨n, o⟩ := q
        have hn := stepB_len hst
        rw [lexR_some hst] at h
        cases hr : lexR (r.drop (n - 1)) (k + n) with
        | ok l => rw [hr] at h; cases h
        | wrong i' =>
          rw [hr] at h
          injection h with h; subst h
          obtain ⟨h1, h2, ⟨l, h3⟩, h4, h5⟩ := ih (r.drop (n - 1)) (k + n) i' (by simp at hs ⊢; omega) hr
          have hd : (c :: r).drop n = r.drop (n - 1) := by
            obtain ⟨n, rfl⟩ : ∃ q, n = q + 1 := ⟨n - 1, by omega⟩
            rfl
          simp only [List.length_drop] at h2
          refine ⟨by omega, by simp; omega, ?_, fun b y hb => ?_, fun j => ?_⟩
          · obtain ⟨d, hd2⟩ : ∃ d, i' - k = d + 1 := ⟨i' - k - 1, by omega⟩
            rw [hd2, List.take_succ_cons]
            have hst2 := stepB_take (m := d) hst (by omega)
            rw [lexR_some hst2]
            have : (r.take d).drop (n - 1) = (r.drop (n - 1)).take (i' - (k + n)) := by
              rw [List.drop_take]
              congr 1
              omega
            rw [this, h3]
            exact ⟨_, rfl⟩
          · rw [List.cons_append]
            have hst2 : stepB c (r ++ b :: y) = some (n, o) := by
              refine (stepB_app hb ?_).trans hst
              by_cases hc : c = 47 ∧ r.head? = some 47
              · refine .inr (.inl ?_)
                have hw : white c = false := by rw [hc.1]; decide
                unfold stepB at hst
                rw [if_neg (by rw [hw]; decide), if_pos hc] at hst
                simp only [Option.some.injEq, Prod.mk.injEq] at hst
                apply Classical.byContradiction
                intro hno
                have : (c :: r).all (fun b => b != 10) = true := by
                  rw [List.all_eq_true]
                  intro x hx
                  rcases List.mem_cons.1 hx with rfl | hx
                  · rw [hc.1]; decide
                  · have : x ≠ 10 := by rintro rfl; exact hno hx
                    simpa using this
                rw [tw_all this] at hst
                have hq := hst.1
                simp at hq
                omega
              · exact .inr (.inr hc)
            rw [lexR_some hst2, List.drop_append_of_le_length (by omega), h4 b y hb]
            rfl
          · have : i' - k = n + (i' - (k + n)) := by omega
            rw [this, ← List.drop_drop, hd]
            exact h5 j

/-! ### Numbers -/
theorem num_app (a b : List UInt8) (n : Nat) : num (a ++ b) n = num b (num a n) := by
  induction a generalizing n with
  | nil => rfl
  | cons c a ih => exact ih _
theorem num_dec (n : Nat) : num (Lib.decDigits n) 0 = n := by
  induction n using Nat.strongRecOn with
  | _ n ih =>
    rw [Lib.decDigits]
    by_cases h : n < 10
    · rw [dif_pos h]
      have : (UInt8.ofNat (48 + n)).toNat = 48 + n := by simp; omega
      simp only [num, this]
      omega
    · rw [dif_neg h, num_app, ih _ (by omega)]
      have : (UInt8.ofNat (48 + n % 10)).toNat = 48 + n % 10 := by simp; omega
      simp only [num, this]
      omega
theorem dec_digits (n : Nat) : (Lib.decDigits n).all digit = true := by
  induction n using Nat.strongRecOn with
  | _ n ih =>
    have hd : ∀ m, m < 10 → digit (UInt8.ofNat (48 + m)) = true := by
      intro m hm
      have : (UInt8.ofNat (48 + m)).toNat = 48 + m := by simp; omega
      simp [digit, this]; omega
    rw [Lib.decDigits]
    by_cases h : n < 10
    · rw [dif_pos h]
      simp only [List.all_cons, List.all_nil, hd n h, Bool.and_true]
    · rw [dif_neg h, List.all_append, ih _ (by omega)]
      simp only [List.all_cons, List.all_nil, hd (n % 10) (by omega), Bool.and_true]
theorem dec_ne (n : Nat) : Lib.decDigits n ≠ [] := by
  rw [Lib.decDigits]
  split
  · simp
  · simp

/-! ### A token, and what follows -/
theorem lex_token {t : Tk} (hv : validB t = true) {x : List UInt8} (hx : x = [] ∨ ∃ b y, x = b :: y ∧ white b = true) (k : Nat) :
    lexR (textOf t ++ x) k = (lexR x (k + (textOf t).length)).add (some (t.kind, t.text, t.n)) k := by
  have stop : ∀ (p : UInt8 → Bool) (w : List UInt8), (∀ b, white b = true → p b = false) → w.all p = true → (w ++ x).takeWhile p = w := by
    intro p w hp hw
    rcases hx with rfl | ⟨b, y, rfl, hb⟩
    · rw [List.append_nil]; exact tw_all hw
    · rw [tw_app_stop (hp b hb)]; exact tw_all hw
  unfold validB at hv
  split at hv
  · rename_i h1
    simp only [nameB, Bool.and_eq_true, decide_eq_true_eq] at hv
    obtain ⟨⟨⟨⟨q1, q2⟩, q3⟩, q4⟩, q5⟩ := hv
    have htx : textOf t = t.text := by rw [textOf, if_neg (by omega)]
    rw [htx]
    obtain ⟨c, r, hcr⟩ : ∃ c r, t.text = c :: r := by
      cases ht : t.text with
      | nil => rw [ht] at q1; simp at q1
      | cons c r => exact ⟨c, r, rfl⟩
    have hl : letter c = true := by rw [hcr] at q3; exact q3
    have hln := letter_not c hl
    have htw := stop partB t.text (fun b hb => (white_not b hb).1) q4
    have hst : stepB c (r ++ x) = some (t.text.length, some (t.kind, t.text, t.n)) := by
      unfold stepB
      rw [if_neg (by rw [hln.2.1]; decide), if_neg (fun hq => hln.2.2.1 hq.1), if_pos hl]
      rw [hcr, List.cons_append] at htw
      rw [htw, ← hcr, if_pos (by simp only [nameB, q1, q2, q3, q4, decide_true, Bool.and_self]), h1, q5]
    have hlen : t.text.length = r.length + 1 := by rw [hcr]; rfl
    rw [show t.text ++ x = c :: (r ++ x) by rw [hcr]; rfl, lexR_some hst, hlen, Nat.add_sub_cancel, List.drop_left]
  · split at hv
    · rename_i h0 h2
      simp only [Bool.and_eq_true, decide_eq_true_eq] at hv
      obtain ⟨⟨q1, q2⟩, q3⟩ := hv
      have htx : textOf t = Lib.decDigits t.n.toNat := by rw [textOf, if_pos h2]
      rw [htx]
      obtain ⟨c, r, hcr⟩ : ∃ c r, Lib.decDigits t.n.toNat = c :: r := by
        cases ht : Lib.decDigits t.n.toNat with
        | nil => exact absurd ht (dec_ne _)
        | cons c r => exact ⟨c, r, rfl⟩
      have hall := dec_digits t.n.toNat
      have hd : digit c = true := by rw [hcr] at hall; simp at hall; exact hall.1
      have hdn := digit_not c hd
      have htw := stop digit _ (fun b hb => (white_not b hb).2.1) hall
      have hst : stepB c (r ++ x) = some ((Lib.decDigits t.n.toNat).length, some (t.kind, t.text, t.n)) := by
        unfold stepB
        rw [if_neg (by rw [hdn.2.1]; decide), if_neg (fun hq => hdn.2.2 hq.1), if_neg (by rw [hdn.1]; decide), if_pos hd]
        rw [hcr, List.cons_append] at htw
        rw [htw, ← hcr, num_dec, if_pos (by simp [numOk, num_dec]; omega), h2, q1]
        have : (t.n.toNat : Int) = t.n := by omega
        rw [this]
      have hlen : (Lib.decDigits t.n.toNat).length = r.length + 1 := by rw [hcr]; rfl
      rw [show Lib.decDigits t.n.toNat ++ x = c :: (r ++ x) by rw [hcr]; rfl, lexR_some hst, hlen, Nat.add_sub_cancel, List.drop_left]
    · split at hv
      · rename_i h0 h2 h3
        simp only [Bool.and_eq_true, decide_eq_true_eq] at hv
        obtain ⟨⟨q1, q2⟩, q3⟩ := hv
        have htx : textOf t = t.text := by rw [textOf, if_neg h2]
        rw [htx]
        obtain ⟨c, hcr⟩ := List.length_eq_one_iff.1 q1
        have hs : isSign c = true := by rw [hcr] at q2; exact q2
        have hsn := sign_not c hs
        have hst : stepB c x = some (1, some (t.kind, t.text, t.n)) := by
          unfold stepB
          have hno : ¬ (c = 47 ∧ x.head? = some 47) := by
            rintro ⟨-, hq⟩
            rcases hx with rfl | ⟨b, y, rfl, hb⟩
            · cases hq
            · simp only [List.head?_cons, Option.some.injEq] at hq
              exact (white_not b hb).2.2 hq
          rw [if_neg (by rw [hsn.2.2.2]; decide), if_neg hno, if_neg (by rw [hsn.1]; decide), if_neg (by rw [hsn.2.1]; decide), if_pos hs, h3, q3, hcr]
        rw [show t.text ++ x = c :: x by rw [hcr]; rfl, lexR_some hst, q1]
        rfl
      · cases hv

theorem textOf_ne {t : Tk} (hv : validB t = true) : textOf t ≠ [] := by
  unfold validB at hv
  split at hv
  · rename_i h1
    rw [textOf, if_neg (by omega)]
    intro hq
    rw [hq] at hv; simp [nameB] at hv
  · split at hv
    · rename_i h2
      rw [textOf, if_pos h2]
      exact dec_ne _
    · rename_i h2
      rw [textOf, if_neg h2]
      split at hv
      · intro hq; rw [hq] at hv; simp at hv
      · cases hv

theorem lex_ok_of {x : Out} {m : List Tk} (h : x = .ok m) (o : Int × List UInt8 × Int) (k : Nat) : x.add (some o) k = .ok (⟨o.1, o.2.1, o.2.2, k⟩ :: m) := by subst h; rfl
theorem sameB_cons (x y : Tk) (a b : List Tk) : sameB (x :: a) (y :: b) = (sameT x y && sameB a b) := rfl
theorem sameT_core (t : Tk) (k : Int) : sameT t ⟨t.kind, t.text, t.n, k⟩ = true := by simp [sameT]

/-- A text's tokens. -/
theorem lex_tail : ∀ (r : List Tk), (∀ t ∈ r, validB t = true) → ∀ k, ∃ m, lexR (Lib.joinTail [32] (r.map textOf)) k = .ok m ∧ sameB r m = true := by
  intro r
  induction r with
  | nil => intro _ k; exact ⟨[], by simp [Lib.joinTail, lexR_nil], rfl⟩
  | cons t r ih =>
    intro hv k
    have htail : Lib.joinTail [32] ((t :: r).map textOf) = 32 :: (textOf t ++ Lib.joinTail [32] (r.map textOf)) := by simp [Lib.joinTail]
    have hx : Lib.joinTail [32] (r.map textOf) = [] ∨ ∃ b y, Lib.joinTail [32] (r.map textOf) = b :: y ∧ white b = true := by
      cases r with
      | nil => left; simp [Lib.joinTail]
      | cons u r => right; exact ⟨32, textOf u ++ Lib.joinTail [32] (r.map textOf), by simp [Lib.joinTail], by decide⟩
    obtain ⟨m, h1, h2⟩ := ih (fun u hu => hv u (List.mem_cons_of_mem _ hu)) (k + 1 + (textOf t).length)
    refine ⟨⟨t.kind, t.text, t.n, ((k + 1 : Nat) : Int)⟩ :: m, ?_, ?_⟩
    · rw [htail, lex_white (by decide), lex_token (hv t List.mem_cons_self) hx]
      exact lex_ok_of h1 _ _
    · rw [sameB_cons, sameT_core, h2]; rfl
theorem lex_back {l : List Tk} (hv : ∀ t ∈ l, validB t = true) : ∃ m, lexR (joinS l) 0 = .ok m ∧ sameB l m = true := by
  cases l with
  | nil => exact ⟨[], by simp [joinS, Lib.join, lexR_nil], rfl⟩
  | cons t r =>
    have hj : joinS (t :: r) = textOf t ++ Lib.joinTail [32] (r.map textOf) := by simp only [joinS, List.map_cons, Lib.join_cons]
    have hx : Lib.joinTail [32] (r.map textOf) = [] ∨ ∃ b y, Lib.joinTail [32] (r.map textOf) = b :: y ∧ white b = true := by
      cases r with
      | nil => left; simp [Lib.joinTail]
      | cons u r => right; exact ⟨32, textOf u ++ Lib.joinTail [32] (r.map textOf), by simp [Lib.joinTail], by decide⟩
    obtain ⟨m, h1, h2⟩ := lex_tail r (fun u hu => hv u (List.mem_cons_of_mem _ hu)) (0 + (textOf t).length)
    refine ⟨⟨t.kind, t.text, t.n, ((0 : Nat) : Int)⟩ :: m, ?_, ?_⟩
    · rw [hj, lex_token (hv t List.mem_cons_self) hx]
      exact lex_ok_of h1 _ _
    · rw [sameB_cons, sameT_core, h2]; rfl

/-! ### Names -/
theorem lex_name {s : List UInt8} (hn : nameB s = true) : lexR s 0 = .ok [⟨1, s, 0, 0⟩] := by
  have hv : validB ⟨1, s, 0, 0⟩ = true := by simp [validB, hn]
  have := lex_token hv (x := []) (.inl rfl) 0
  rw [show textOf ⟨1, s, 0, 0⟩ = s from rfl, List.append_nil, lexR_nil] at this
  exact this
theorem name_of_lex {s : List UInt8} {n : Int} (h : lexR s 0 = .ok [⟨1, s, n, 0⟩]) : nameB s = true := by
  have := lex_valid s.length s 0 _ (Nat.le_refl _) h _ List.mem_cons_self
  simp [validB] at this
  exact this.1

/-! ### White space and comments -/
def gapOk (g : List UInt8) : Prop := ∀ (x : List UInt8) (k : Nat), lexR (g ++ x) k = lexR x (k + g.length)
theorem gap_nil : gapOk [] := fun x k => rfl
theorem gap_white {b : UInt8} {g : List UInt8} (hb : white b = true) (hg : gapOk g) : gapOk (b :: g) := fun x k => by
  rw [List.cons_append, lex_white hb, hg, List.length_cons]
  congr 1
  omega
theorem gap_note {w g : List UInt8} (hw : w.all (fun b => b != 10) = true) (hg : gapOk g) : gapOk (47 :: 47 :: (w ++ 10 :: g)) := fun x k => by
  have hst : stepB 47 (47 :: (w ++ 10 :: g) ++ x) = some (w.length + 2, none) := by
    unfold stepB
    rw [if_neg (by decide), if_pos ⟨rfl, rfl⟩]
    have : (47 :: (47 :: (w ++ 10 :: g) ++ x)) = (47 :: 47 :: w) ++ 10 :: (g ++ x) := by simp
    rw [this, tw_app_stop (by decide), tw_all (by simpa using hw)]
    simp
  rw [List.cons_append, lexR_some hst]
  have hd : (47 :: (w ++ 10 :: g) ++ x).drop (w.length + 2 - 1) = 10 :: (g ++ x) := by
    have : (47 :: (w ++ 10 :: g) ++ x) = (47 :: w) ++ 10 :: (g ++ x) := by simp
    rw [this]
    have h2 : w.length + 2 - 1 = (47 :: w).length := by simp
    rw [h2, List.drop_left]
  rw [hd, lex_white (by decide), hg]
  have : k + (w.length + 2) + 1 + g.length = k + (47 :: 47 :: (w ++ 10 :: g)).length := by simp; omega
  rw [this]
  cases lexR x (k + (47 :: 47 :: (w ++ 10 :: g)).length) <;> rfl
end Go.Lex
end
