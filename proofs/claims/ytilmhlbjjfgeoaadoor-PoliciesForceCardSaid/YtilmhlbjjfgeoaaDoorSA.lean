/-
  Layer 3 in plain Lean: what tokens are, and how a source is split into them. No program is in sight here.
-/
import Derived.Test.YtilmhlbjjfgeoaaDoorE4
import Derived.Test.YtilmhlbjjfgeoaaDoorProg
import Derived.Test.YtilmhlbjjfgeoaaDoorShelf
import Derived.Test.YtilmhlbjjfgeoaaDoorRows
import Derived.KernelRfl
import Derived.Lib.ItoaNum
import Derived.Lib.AtoiAllCases
import Derived.Lib.Join
set_option linter.unusedSimpArgs false
set_option linter.unusedVariables false
set_option linter.constructorNameAsVariable false
section
namespace Go.Proofs.YtilmhlbjjfgeoaaDoor
open Go.AE
def strsOf : List (List AV) → Option (List (List UInt8))
  | [] => some []
  | [.v (.string s)] :: r => (strsOf r).map (s.data.toList :: ·)
  | _ => none
theorem strsOf_rel {K : Know} : ∀ {rows : List (List AV)} {l : List (List UInt8)}, strsOf rows = some l → ∀ {vals : List Value}, VsRel K rows.flatten vals → vals = l.map fun s => Value.string (bs s) := by
  intro rows
  induction rows with
  | nil => intro l h vals hv; simp [strsOf] at h; subst h; cases hv; rfl
  | cons r rows ih =>
    intro l h vals hv
    unfold strsOf at h
    split at h
    · simp at *
    · rename_i s r' heq
      simp only [List.cons.injEq] at heq
      obtain ⟨rfl, rfl⟩ := heq
      simp only [Option.map_eq_some_iff] at h
      obtain ⟨l', hl', rfl⟩ := h
      simp only [List.flatten_cons, List.cons_append, List.nil_append] at hv
      cases hv with
      | cons _ c _ cs hx hs =>
        rw [ih hl' hs, hx.scalar_of.1]
        simp only [List.map_cons]
        rw [← bs_of]
    · cases h

def pIndexByte (args : List AV) (h : Heap) : Option (AV × Heap) :=
  match args with
  | [.v (.string s), .v (.int .u8 c)] => some (.v (.int .i64 (Lib.indexByte s.data.toList c.toNat.toUInt8)), h)
  | _ => none
def pIndexStr (args : List AV) (h : Heap) : Option (AV × Heap) :=
  match args with
  | [x, .v (.string s)] =>
    match rowsOf h 1 x with
    | some rows =>
      match strsOf rows with
      | some l => if rows.length ≤ 9223372036854775807 then some (.v (.int .i64 (Lib.idxOfS (l.map bs) s)), h) else none
      | none => none
    | none => none
  | _ => none
def pContainsStr (args : List AV) (h : Heap) : Option (AV × Heap) :=
  match args with
  | [x, .v (.string s)] =>
    match rowsOf h 1 x with
    | some rows =>
      match strsOf rows with
      | some l => if rows.length ≤ 9223372036854775807 then some (.v (.bool (Lib.containsS (l.map bs) s)), h) else none
      | none => none
    | none => none
  | _ => none
def prims (g : FuncId) : Option (List AV → Heap → Option (AV × Heap)) :=
  match g with
  | 75 => some pIndexByte
  | 60 => some pIndexStr
  | 59 => some pContainsStr
  | _ => none
theorem body_of {g : FuncId} {fn : Func} (h : Tryd.prog.funcs[g]? = some fn) (hb : fn.body.isSome = true) : ∃ fn, Tryd.prog.funcs[g]? = some fn ∧ fn.body.isSome = true := ⟨fn, h, hb⟩

theorem ok75 (W : World) {G} : PrimOk Tryd.prog G W 75 pIndexByte := by
  refine .of_below (body_of Tryd.func75 (by kernel_rfl)) fun args h x h' he => ?_
  unfold pIndexByte at he
  split at he
  · rename_i s c
    simp only [Option.some.injEq, Prod.mk.injEq] at he
    obtain ⟨rfl, rfl⟩ := he
    refine ⟨rfl, fun K w vargs hv hs _ => ?_⟩
    obtain ⟨vargs⟩ := vargs
    cases hv with | cons _ c1 _ _ h1 hv => cases hv with | cons _ c2 _ _ h2 hv => cases hv with | nil =>
      rw [h1.scalar_of.1, h2.scalar_of.1]
      exact (Tryd.strings_IndexByte s c w).mono fun e w' ⟨h3, h4⟩ => ⟨_, h3, .v _ rfl, h4 ▸ .refl _ _⟩
  · cases he

theorem ok60 (W : World) {G} : PrimOk Tryd.prog G W 60 pIndexStr := by
  refine .of_below (body_of Tryd.func60 (by kernel_rfl)) fun args h x h' he => ?_
  unfold pIndexStr at he
  split at he
  · rename_i y s
    split at he
    · rename_i rows hrows
      split at he
      · rename_i l hl
        split at he
        · rename_i hlen
          simp only [Option.some.injEq, Prod.mk.injEq] at he
          obtain ⟨rfl, rfl⟩ := he
          refine ⟨rfl, fun K w vargs hv hs _ => ?_⟩
          obtain ⟨vargs⟩ := vargs
          cases hv with | cons _ c1 _ _ h1 hv => cases hv with | cons _ c2 _ _ h2 hv => cases hv with | nil =>
            obtain ⟨a, cap, vals, rfl, r1, r2, r3⟩ := rows_cells (P := Tryd.prog) hs hrows h1
            rw [h2.scalar_of.1]
            have hvals := strsOf_rel hl r1
            have hll : l.length = rows.length := by rw [← r2, hvals, List.length_map]
            rcases r3 with rfl | ⟨bk, o, rfl, r4, r5, r6⟩
            · have : l = [] := List.eq_nil_of_length_eq_zero hll
              subst this
              exact (Tryd.slices_Index_string_empty a cap s w).mono fun e w' ⟨h3, h4⟩ => ⟨_, h3, .v _ rfl, h4 ▸ .refl _ _⟩
            · have := Tryd.slices_Index_string bk o rows.length cap (l.map bs) s w (by rw [List.length_map, hll]; exact Nat.le_refl _) hlen (fun j hj => by
                rw [List.length_map] at hj
                refine r6 j _ ?_
                rw [hvals, List.getElem?_map, List.getElem?_eq_getElem hj]
                simp [hj])
              rw [← hll, show (l.map bs).take l.length = l.map bs by rw [← List.length_map (f := bs), List.take_length]] at this
              rw [hll] at this
              exact this.mono fun e w' ⟨h3, h4⟩ => ⟨_, h3, .v _ rfl, h4 ▸ .refl _ _⟩
        · cases he
      · cases he
    · cases he
  · cases he
theorem ok59 (W : World) {G} : PrimOk Tryd.prog G W 59 pContainsStr := by
  refine .of_below (body_of Tryd.func59 (by kernel_rfl)) fun args h x h' he => ?_
  unfold pContainsStr at he
  split at he
  · rename_i y s
    split at he
    · rename_i rows hrows
      split at he
      · rename_i l hl
        split at he
        · rename_i hlen
          simp only [Option.some.injEq, Prod.mk.injEq] at he
          obtain ⟨rfl, rfl⟩ := he
          refine ⟨rfl, fun K w vargs hv hs _ => ?_⟩
          obtain ⟨vargs⟩ := vargs
          cases hv with | cons _ c1 _ _ h1 hv => cases hv with | cons _ c2 _ _ h2 hv => cases hv with | nil =>
            obtain ⟨a, cap, vals, rfl, r1, r2, r3⟩ := rows_cells (P := Tryd.prog) hs hrows h1
            rw [h2.scalar_of.1]
            have hvals := strsOf_rel hl r1
            have hll : l.length = rows.length := by rw [← r2, hvals, List.length_map]
            rcases r3 with rfl | ⟨bk, o, rfl, r4, r5, r6⟩
            · have : l = [] := List.eq_nil_of_length_eq_zero hll
              subst this
              exact (Tryd.slices_Contains_string_empty a cap s w).mono fun e w' ⟨h3, h4⟩ => ⟨_, h3, .v _ rfl, h4 ▸ .refl _ _⟩
            · have := Tryd.slices_Contains_string bk o rows.length cap (l.map bs) s w (by rw [List.length_map, hll]; exact Nat.le_refl _) hlen (fun j hj => by
                rw [List.length_map] at hj
                refine r6 j _ ?_
                rw [hvals, List.getElem?_map, List.getElem?_eq_getElem hj]
                simp [hj])
              rw [← hll, show (l.map bs).take l.length = l.map bs by rw [← List.length_map (f := bs), List.take_length]] at this
              rw [hll] at this
              exact this.mono fun e w' ⟨h3, h4⟩ => ⟨_, h3, .v _ rfl, h4 ▸ .refl _ _⟩
        · cases he
      · cases he
    · cases he
  · cases he
theorem prims_ok {W : World} {G} : ∀ g p, prims g = some p → PrimOk Tryd.prog G W g p := by
  intro g p h
  unfold prims at h
  split at h
  · injection h with h; subst h; exact ok75 W
  · injection h with h; subst h; exact ok60 W
  · injection h with h; subst h; exact ok59 W
  · cases h
end Go.Proofs.YtilmhlbjjfgeoaaDoor
end

section
namespace Go.Lex
open Go.AE

structure Keep (p : Prop) : Prop where
  out : p

def letter (b : UInt8) : Bool := (decide (97 ≤ b.toNat) && decide (b.toNat ≤ 122)) || (decide (65 ≤ b.toNat) && decide (b.toNat ≤ 90))
def digit (b : UInt8) : Bool := decide (48 ≤ b.toNat) && decide (b.toNat ≤ 57)
def white (b : UInt8) : Bool := decide (b.toNat = 32) || decide (b.toNat = 9) || decide (b.toNat = 10) || decide (b.toNat = 13)
def signs : List UInt8 := [123, 125, 40, 41, 59, 44, 61, 58, 46, 60, 62, 33, 43, 45, 42, 47]
def isSign (b : UInt8) : Bool := signs.contains b
def cls (b : UInt8) : Int := if letter b then 2 else if digit b then 3 else if b.toNat = 95 then 5 else if white b then 1 else if isSign b then 4 else 0
def partB (b : UInt8) : Bool := letter b || digit b || decide (b.toNat = 95)
/-- Is it a name? -/
def nameB (l : List UInt8) : Bool := decide (1 ≤ l.length) && decide (l.length ≤ 32) && letter (l.getD 0 0) && l.all partB
/-- A token. -/
structure Tk where
  kind : Int
  text : List UInt8
  n : Int
  at_ : Int
  deriving DecidableEq
def Tk.row (t : Tk) : List AV := [.v (.int .i64 t.kind), .v (.string (bs t.text)), .v (.int .i64 t.n), .v (.int .i64 t.at_)]
/-! ### Splitting a source -/
def addTk (o : Option (Int × List UInt8 × Int)) (k : Nat) (l : List Tk) : List Tk :=
  match o with
  | none => l
  | some (a, t, n) => ⟨a, t, n, k⟩ :: l

inductive Out where
  | ok (l : List Tk)
  | wrong (k : Nat)
  deriving DecidableEq

def Out.add (o : Option (Int × List UInt8 × Int)) (k : Nat) : Out → Out
  | .ok l => .ok (addTk o k l)
  | .wrong i => .wrong i

end Go.Lex
end

section
namespace Go.Proofs.YtilmhlbjjfgeoaaDoor
open Go.AE Go.Lex
/-- The table of functions. -/
def Gk (g : Nat) : Option (List AV) := if g = 0 then some [.func (.func 95) [] [], .func (.func 96) [] [], .func (.func 97) [] [], .func (.func 98) [] [], .func (.func 99) [] []] else none
noncomputable abbrev W := whole Tryd.prog Gk prims

theorem ev47 (l : List UInt8) (c : Int) (h : Heap) : W.call 75 [.v (.string (bs l)), .v (.int .u8 c)] h = some (.ret (.v (.int .i64 (Lib.indexByte l c.toNat.toUInt8))), h) := by
  rw [whole_call]; rfl
theorem indexByte_mem : ∀ (l : List UInt8) (c : UInt8), 0 ≤ Lib.indexByte l c ↔ c ∈ l := by
  intro l c
  induction l with
  | nil => simp [Lib.indexByte]
  | cons b l ih =>
    unfold Lib.indexByte
    have hge := Lib.indexByte_ge l c
    by_cases hb : b = c
    · simp [hb]
    · have hb' : (b == c) = false := by simpa using hb
      simp only [hb', Bool.false_eq_true, if_false, List.mem_cons, Ne.symm hb, false_or]
      rw [← ih]
      by_cases h1 : Lib.indexByte l c = -1
      · simp [h1]
      · simp [h1]; omega


theorem res30 : Tryd.f72.results.toList = [.tmp 2] := by kernel_rfl
/-- Where a byte stands among the signs. -/
def ixs (b : UInt8) : Int := Lib.indexByte signs b
theorem ixs_ge (b : UInt8) : (0 ≤ ixs b) = (isSign b = true) := by
  unfold ixs
  rw [indexByte_mem]
  simp [isSign]
theorem ev47s (b : UInt8) (h : Heap) : W.call 75 [.v (.string (bs [123, 125, 40, 41, 59, 44, 61, 58, 46, 60, 62, 33, 43, 45, 42, 47])), .v (.int .u8 b.toNat)] h = some (.ret (.v (.int .i64 (ixs b))), h) := by
  rw [ev47]
  have hb : ((b.toNat : Int)).toNat.toUInt8 = b := by simp
  rw [hb]
  rfl
theorem cls_of (b : UInt8) {P : Int → Prop} (h1 : letter b = true → P 2) (h2 : letter b = false → digit b = true → P 3) (h3 : letter b = false → digit b = false → b.toNat = 95 → P 5)
    (h4 : letter b = false → digit b = false → b.toNat ≠ 95 → white b = true → P 1) (h5 : letter b = false → digit b = false → b.toNat ≠ 95 → white b = false → isSign b = true → P 4)
    (h6 : letter b = false → digit b = false → b.toNat ≠ 95 → white b = false → isSign b = false → P 0) : P (cls b) := by
  unfold cls
  cases e1 : letter b <;> cases e2 : digit b <;> cases e4 : white b <;> cases e5 : isSign b <;> by_cases e3 : b.toNat = 95 <;> simp_all
set_option maxHeartbeats 4000000 in
theorem class_ev (b : UInt8) (h : Heap) : W.call 72 [.v (.int .u8 b.toNat)] h = some (.ret (.v (.int .i64 (cls b))), h) := by
  refine call_of_run rfl Tryd.func72 rfl ?_
  repeat' (first | (simp (config := { maxSteps := 4000000 }) (disch := first | assumption | omega | (simp only [List.length_cons, List.length_nil, List.length_append] <;> omega)) only [goS, plainEv, resultsEv, resultListEv, reduceIte, Nat.reduceEqDiff, Option.map_some, Option.map_none, Option.bind_some, List.map_cons, List.map_nil, List.getD_cons_zero, List.getD_cons_succ, List.getElem?_toArray, List.getElem?_cons_zero, List.getElem?_cons_succ, eq_self, beq_self_eq_true, ev47s, res30, ixs_ge, *]; done) | simp (config := { maxSteps := 4000000 }) (disch := first | assumption | omega | (simp only [List.length_cons, List.length_nil, List.length_append]; omega)) only [goS, plainEv, resultsEv, resultListEv, reduceIte, Nat.reduceEqDiff, Option.map_some, Option.map_none, Option.bind_some, List.map_cons, List.map_nil, List.getD_cons_zero, List.getD_cons_succ, List.getElem?_toArray, List.getElem?_cons_zero, List.getElem?_cons_succ, eq_self, beq_self_eq_true, ev47s, res30, ixs_ge, *] | (refine guard_dec (fun _ => ?_) (fun _ => ?_) <;> try (exfalso; omega)) | (refine guard_ndec (fun _ => ?_) (fun _ => ?_) <;> try (exfalso; omega)) | (refine branch_dec (fun _ => ?_) (fun _ => ?_) <;> try (exfalso; omega)) | (refine branch_ndec (fun _ => ?_) (fun _ => ?_) <;> try (exfalso; omega)) | refine run_draw (by kernel_rfl) ?_ | refine guard_nbool (fun _ => ?_) (fun _ => ?_) | refine branch_nbool (fun _ => ?_) (fun _ => ?_) | refine guard_bool (fun _ => ?_) (fun _ => ?_) | refine branch_bool (fun _ => ?_) (fun _ => ?_))
  all_goals rw [Option.some.injEq, Prod.mk.injEq, Res.ret.injEq, AV.v.injEq, Value.int.injEq]
  all_goals refine ⟨⟨rfl, ?_⟩, rfl⟩
  all_goals (apply cls_of b <;> intros <;> simp_all [letter, digit, white] <;> omega)
end Go.Proofs.YtilmhlbjjfgeoaaDoor
end

section
namespace Go.Proofs.YtilmhlbjjfgeoaaDoor
open Go.AE Go.Lex
theorem res31 : Tryd.f73.results.toList = [.tmp 2] := by kernel_rfl
theorem res33 : Tryd.f76.results.toList = [.tmp 2] := by kernel_rfl
theorem res32 : Tryd.f74.results.toList = [.tmp 2] := by kernel_rfl
set_option maxHeartbeats 4000000 in
theorem letter_ev (b : UInt8) (h : Heap) : W.call 73 [.v (.int .u8 b.toNat)] h = some (.ret (.v (.bool (letter b))), h) := by
  refine call_of_run rfl Tryd.func73 rfl ?_
  repeat' (first | (simp (config := { maxSteps := 4000000 }) (disch := first | assumption | omega | (simp only [List.length_cons, List.length_nil, List.length_append] <;> omega)) only [goS, plainEv, resultsEv, resultListEv, reduceIte, Nat.reduceEqDiff, Option.map_some, Option.map_none, Option.bind_some, List.map_cons, List.map_nil, List.getD_cons_zero, List.getD_cons_succ, List.getElem?_toArray, List.getElem?_cons_zero, List.getElem?_cons_succ, eq_self, beq_self_eq_true, res31, *]; done) | simp (config := { maxSteps := 4000000 }) (disch := first | assumption | omega | (simp only [List.length_cons, List.length_nil, List.length_append]; omega)) only [goS, plainEv, resultsEv, resultListEv, reduceIte, Nat.reduceEqDiff, Option.map_some, Option.map_none, Option.bind_some, List.map_cons, List.map_nil, List.getD_cons_zero, List.getD_cons_succ, List.getElem?_toArray, List.getElem?_cons_zero, List.getElem?_cons_succ, eq_self, beq_self_eq_true, res31, *] | (refine guard_dec (fun _ => ?_) (fun _ => ?_) <;> try (exfalso; omega)) | (refine guard_ndec (fun _ => ?_) (fun _ => ?_) <;> try (exfalso; omega)) | (refine branch_dec (fun _ => ?_) (fun _ => ?_) <;> try (exfalso; omega)) | (refine branch_ndec (fun _ => ?_) (fun _ => ?_) <;> try (exfalso; omega)) | refine run_draw (by kernel_rfl) ?_ | refine guard_nbool (fun _ => ?_) (fun _ => ?_) | refine branch_nbool (fun _ => ?_) (fun _ => ?_) | refine guard_bool (fun _ => ?_) (fun _ => ?_) | refine branch_bool (fun _ => ?_) (fun _ => ?_))
  all_goals (rw [Option.some.injEq, Prod.mk.injEq, Res.ret.injEq, AV.v.injEq, Value.bool.injEq]; refine ⟨?_, rfl⟩; try rw [Bool.eq_iff_iff])
  all_goals (simp [letter]; omega)
set_option maxHeartbeats 4000000 in
theorem figure_ev (b : UInt8) (h : Heap) : W.call 76 [.v (.int .u8 b.toNat)] h = some (.ret (.v (.bool (digit b))), h) := by
  refine call_of_run rfl Tryd.func76 rfl ?_
  repeat' (first | (simp (config := { maxSteps := 4000000 }) (disch := first | assumption | omega | (simp only [List.length_cons, List.length_nil, List.length_append] <;> omega)) only [goS, plainEv, resultsEv, resultListEv, reduceIte, Nat.reduceEqDiff, Option.map_some, Option.map_none, Option.bind_some, List.map_cons, List.map_nil, List.getD_cons_zero, List.getD_cons_succ, List.getElem?_toArray, List.getElem?_cons_zero, List.getElem?_cons_succ, eq_self, beq_self_eq_true, res33, *]; done) | simp (config := { maxSteps := 4000000 }) (disch := first | assumption | omega | (simp only [List.length_cons, List.length_nil, List.length_append]; omega)) only [goS, plainEv, resultsEv, resultListEv, reduceIte, Nat.reduceEqDiff, Option.map_some, Option.map_none, Option.bind_some, List.map_cons, List.map_nil, List.getD_cons_zero, List.getD_cons_succ, List.getElem?_toArray, List.getElem?_cons_zero, List.getElem?_cons_succ, eq_self, beq_self_eq_true, res33, *] | (refine guard_dec (fun _ => ?_) (fun _ => ?_) <;> try (exfalso; omega)) | (refine guard_ndec (fun _ => ?_) (fun _ => ?_) <;> try (exfalso; omega)) | (refine branch_dec (fun _ => ?_) (fun _ => ?_) <;> try (exfalso; omega)) | (refine branch_ndec (fun _ => ?_) (fun _ => ?_) <;> try (exfalso; omega)) | refine run_draw (by kernel_rfl) ?_ | refine guard_nbool (fun _ => ?_) (fun _ => ?_) | refine branch_nbool (fun _ => ?_) (fun _ => ?_) | refine guard_bool (fun _ => ?_) (fun _ => ?_) | refine branch_bool (fun _ => ?_) (fun _ => ?_))
  all_goals (rw [Option.some.injEq, Prod.mk.injEq, Res.ret.injEq, AV.v.injEq, Value.bool.injEq]; refine ⟨?_, rfl⟩; try rw [Bool.eq_iff_iff])
  all_goals (simp [digit]; omega)
set_option maxHeartbeats 4000000 in
theorem part_ev (b : UInt8) (h : Heap) : W.call 74 [.v (.int .u8 b.toNat)] h = some (.ret (.v (.bool (partB b))), h) := by
  refine call_of_run rfl Tryd.func74 rfl ?_
  repeat' (first | (simp (config := { maxSteps := 4000000 }) (disch := first | assumption | omega | (simp only [List.length_cons, List.length_nil, List.length_append] <;> omega)) only [goS, plainEv, resultsEv, resultListEv, reduceIte, Nat.reduceEqDiff, Option.map_some, Option.map_none, Option.bind_some, List.map_cons, List.map_nil, List.getD_cons_zero, List.getD_cons_succ, List.getElem?_toArray, List.getElem?_cons_zero, List.getElem?_cons_succ, eq_self, beq_self_eq_true, res32, letter_ev, figure_ev, *]; done) | simp (config := { maxSteps := 4000000 }) (disch := first | assumption | omega | (simp only [List.length_cons, List.length_nil, List.length_append]; omega)) only [goS, plainEv, resultsEv, resultListEv, reduceIte, Nat.reduceEqDiff, Option.map_some, Option.map_none, Option.bind_some, List.map_cons, List.map_nil, List.getD_cons_zero, List.getD_cons_succ, List.getElem?_toArray, List.getElem?_cons_zero, List.getElem?_cons_succ, eq_self, beq_self_eq_true, res32, letter_ev, figure_ev, *] | (refine guard_dec (fun _ => ?_) (fun _ => ?_) <;> try (exfalso; omega)) | (refine guard_ndec (fun _ => ?_) (fun _ => ?_) <;> try (exfalso; omega)) | (refine branch_dec (fun _ => ?_) (fun _ => ?_) <;> try (exfalso; omega)) | (refine branch_ndec (fun _ => ?_) (fun _ => ?_) <;> try (exfalso; omega)) | refine run_draw (by kernel_rfl) ?_ | refine guard_nbool (fun _ => ?_) (fun _ => ?_) | refine branch_nbool (fun _ => ?_) (fun _ => ?_) | refine guard_bool (fun _ => ?_) (fun _ => ?_) | refine branch_bool (fun _ => ?_) (fun _ => ?_))
  all_goals (rw [Option.some.injEq, Prod.mk.injEq, Res.ret.injEq, AV.v.injEq, Value.bool.injEq]; refine ⟨?_, rfl⟩; try rw [Bool.eq_iff_iff])
  all_goals (simp_all [partB]; try omega)
end Go.Proofs.YtilmhlbjjfgeoaaDoor
end

section
namespace Go.Proofs.YtilmhlbjjfgeoaaDoor
open Go.AE Go.Lex
theorem res20 : Tryd.f68.results.toList = [.tmp 2] := by kernel_rfl
theorem res21 : Tryd.f70.results.toList = [.tmp 2] := by kernel_rfl


theorem getD_mem {l : List UInt8} {b : UInt8} : b ∈ l ↔ ∃ j, j < l.length ∧ l.getD j 0 = b := by
  rw [List.mem_iff_getElem]
  constructor
  · rintro ⟨j, hj, rfl⟩; exact ⟨j, hj, by simp [hj]⟩
  · rintro ⟨j, hj, rfl⟩; exact ⟨j, hj, by simp [hj]⟩
theorem all_getD {l : List UInt8} {p : UInt8 → Bool} : l.all p = true ↔ ∀ j, j < l.length → p (l.getD j 0) = true := by
  rw [List.all_eq_true]
  constructor
  · intro h j hj
    exact h _ (getD_mem.2 ⟨j, hj, rfl⟩)
  · intro h x hx
    obtain ⟨j, hj, rfl⟩ := getD_mem.1 hx
    exact h j hj

theorem cls_letter (b : UInt8) : (cls b = 2) = (letter b = true) := by
  apply cls_of b (P := fun c => (c = 2) = (letter b = true)) <;> intros <;> simp_all
theorem part_of (b : UInt8) : partB b = (decide (cls b = 2) || decide (cls b = 3) || decide (cls b = 5)) := by
  apply cls_of b (P := fun c => partB b = (decide (c = 2) || decide (c = 3) || decide (c = 5))) <;> intros <;> simp_all [partB]

theorem answer {b c : Bool} {h : Heap} (hb : b = c) : (some (Res.ret (AV.v (.bool b)), h) : Option (Res × Heap)) = some (.ret (.v (.bool c)), h) := by rw [hb]

set_option maxHeartbeats 4000000 in
set_option maxRecDepth 100000 in
theorem refName_ev (l : List UInt8) (h : Heap) : W.call 70 [.v (.string (bs l))] h = some (.ret (.v (.bool (nameB l))), h) := by
  have u9 := Tryd.underlying9
  refine call_of_run rfl Tryd.func70 rfl ?_
  repeat' (first | (simp (config := { maxSteps := 4000000 }) (disch := first | assumption | omega | (simp only [List.length_cons, List.length_nil, List.length_append] <;> omega)) only [goS, plainEv, resultsEv, resultListEv, reduceIte, Nat.reduceEqDiff, Option.map_some, Option.map_none, Option.bind_some, List.map_cons, List.map_nil, List.getD_cons_zero, List.getD_cons_succ, List.getElem?_toArray, List.getElem?_cons_zero, List.getElem?_cons_succ, eq_self, beq_self_eq_true, res21, letter_ev, Int.toNat_zero, *]; done) | simp (config := { maxSteps := 4000000 }) (disch := first | assumption | omega | (simp only [List.length_cons, List.length_nil, List.length_append]; omega)) only [goS, plainEv, resultsEv, resultListEv, reduceIte, Nat.reduceEqDiff, Option.map_some, Option.map_none, Option.bind_some, List.map_cons, List.map_nil, List.getD_cons_zero, List.getD_cons_succ, List.getElem?_toArray, List.getElem?_cons_zero, List.getElem?_cons_succ, eq_self, beq_self_eq_true, res21, letter_ev, Int.toNat_zero, *] | (refine guard_dec (fun _ => ?_) (fun _ => ?_) <;> try (exfalso; omega)) | (refine guard_ndec (fun _ => ?_) (fun _ => ?_) <;> try (exfalso; omega)) | (refine branch_dec (fun _ => ?_) (fun _ => ?_) <;> try (exfalso; omega)) | (refine branch_ndec (fun _ => ?_) (fun _ => ?_) <;> try (exfalso; omega)) | refine run_draw (by kernel_rfl) ?_ | refine guard_nbool (fun _ => ?_) (fun _ => ?_) | refine branch_nbool (fun _ => ?_) (fun _ => ?_) | refine guard_bool (fun _ => ?_) (fun _ => ?_) | refine branch_bool (fun _ => ?_) (fun _ => ?_))
  · exact answer (by simp [nameB]; omega)
  · exact answer (by simp [nameB]; omega)
  · refine run_loop (fun n e h' => ∃ i : Nat, i ≤ l.length ∧ n = l.length - i ∧ e.get 0 = .v (.string (bs l)) ∧ e.get 3 = .v (.int .i64 i) ∧ e.defers = [] ∧ h' = h ∧ ∀ j, j < i → partB (l.getD j 0) = true) ?_ l.length _ _ ?_
    · rintro n e h' ⟨i, hi, rfl, g0, g3, hd, rfl, hno⟩
      repeat' (first | (simp (config := { maxSteps := 4000000 }) (disch := first | assumption | omega | (simp only [List.length_cons, List.length_nil, List.length_append] <;> omega)) only [goS, plainEv, resultsEv, resultListEv, reduceIte, Nat.reduceEqDiff, Option.map_some, Option.map_none, Option.bind_some, List.map_cons, List.map_nil, List.getD_cons_zero, List.getD_cons_succ, List.getElem?_toArray, List.getElem?_cons_zero, List.getElem?_cons_succ, eq_self, beq_self_eq_true, res21, part_ev, *]; done) | simp (config := { maxSteps := 4000000 }) (disch := first | assumption | omega | (simp only [List.length_cons, List.length_nil, List.length_append]; omega)) only [goS, plainEv, resultsEv, resultListEv, reduceIte, Nat.reduceEqDiff, Option.map_some, Option.map_none, Option.bind_some, List.map_cons, List.map_nil, List.getD_cons_zero, List.getD_cons_succ, List.getElem?_toArray, List.getElem?_cons_zero, List.getElem?_cons_succ, eq_self, beq_self_eq_true, res21, part_ev, *] | (refine guard_dec (fun _ => ?_) (fun _ => ?_) <;> try (exfalso; omega)) | (refine guard_ndec (fun _ => ?_) (fun _ => ?_) <;> try (exfalso; omega)) | (refine branch_dec (fun _ => ?_) (fun _ => ?_) <;> try (exfalso; omega)) | (refine branch_ndec (fun _ => ?_) (fun _ => ?_) <;> try (exfalso; omega)) | refine run_draw (by kernel_rfl) ?_ | refine guard_nbool (fun _ => ?_) (fun _ => ?_) | refine branch_nbool (fun _ => ?_) (fun _ => ?_) | refine guard_bool (fun _ => ?_) (fun _ => ?_) | refine branch_bool (fun _ => ?_) (fun _ => ?_))
      · refine ⟨l.length - (i + 1), by omega, i + 1, by omega, rfl, trivial, by simp, trivial, trivial, fun j hj => ?_⟩
        rcases Nat.lt_or_ge j i with h1 | h1
        · exact hno j h1
        · rw [Nat.le_antisymm (Nat.lt_succ_iff.1 hj) h1]; assumption
      · refine answer ?_
        have : l.all partB = false := by
          rw [Bool.eq_false_iff]
          intro ha
          have h1 := all_getD.1 ha i (by omega)
          simp_all
        simp [nameB, this]
      · refine answer ?_
        have : l.all partB = true := all_getD.2 fun j hj => hno j (by omega)
        simp_all [nameB]
        omega
    · refine ⟨0, by omega, rfl, ?_, ?_, ?_, rfl, fun j hj => absurd hj (Nat.not_lt_zero j)⟩ <;> simp only [goS, plainEv, resultsEv, resultListEv, reduceIte, Nat.reduceEqDiff, Option.map_some, Option.map_none, Option.bind_some, List.map_cons, List.map_nil, List.getD_cons_zero, List.getD_cons_succ, List.getElem?_toArray, List.getElem?_cons_zero, List.getElem?_cons_succ, eq_self, beq_self_eq_true] <;> rfl
  · exact answer (by simp_all [nameB])

set_option maxHeartbeats 4000000 in
set_option maxRecDepth 100000 in
theorem name_ev (l : List UInt8) (h : Heap) : W.call 68 [.v (.string (bs l))] h = some (.ret (.v (.bool (nameB l))), h) := by
  have u9 := Tryd.underlying9
  rcases Nat.eq_zero_or_pos l.length with h0 | h0
  · have : l = [] := List.eq_nil_of_length_eq_zero h0
    subst this
    clear h0
    refine call_of_run rfl Tryd.func68 rfl ?_
    repeat' (first | (simp (config := { maxSteps := 4000000 }) (disch := first | assumption | omega | (simp only [List.length_cons, List.length_nil, List.length_append] <;> omega)) only [goS, plainEv, resultsEv, resultListEv, reduceIte, Nat.reduceEqDiff, Option.map_some, Option.map_none, Option.bind_some, List.map_cons, List.map_nil, List.getD_cons_zero, List.getD_cons_succ, List.getElem?_toArray, List.getElem?_cons_zero, List.getElem?_cons_succ, eq_self, beq_self_eq_true, res20, *]; done) | simp (config := { maxSteps := 4000000 }) (disch := first | assumption | omega | (simp only [List.length_cons, List.length_nil, List.length_append]; omega)) only [goS, plainEv, resultsEv, resultListEv, reduceIte, Nat.reduceEqDiff, Option.map_some, Option.map_none, Option.bind_some, List.map_cons, List.map_nil, List.getD_cons_zero, List.getD_cons_succ, List.getElem?_toArray, List.getElem?_cons_zero, List.getElem?_cons_succ, eq_self, beq_self_eq_true, res20, *] | (refine guard_dec (fun _ => ?_) (fun _ => ?_) <;> try (exfalso; omega)) | (refine guard_ndec (fun _ => ?_) (fun _ => ?_) <;> try (exfalso; omega)) | (refine branch_dec (fun _ => ?_) (fun _ => ?_) <;> try (exfalso; omega)) | (refine branch_ndec (fun _ => ?_) (fun _ => ?_) <;> try (exfalso; omega)) | refine run_draw (by kernel_rfl) ?_ | refine guard_nbool (fun _ => ?_) (fun _ => ?_) | refine branch_nbool (fun _ => ?_) (fun _ => ?_) | refine guard_bool (fun _ => ?_) (fun _ => ?_) | refine branch_bool (fun _ => ?_) (fun _ => ?_))
    exact answer rfl
  have hne : ¬ l = [] := by rintro rfl; simp at h0
  refine call_of_run rfl Tryd.func68 rfl ?_
  repeat' (first | (simp (config := { maxSteps := 4000000 }) (disch := first | assumption | omega | (simp only [List.length_cons, List.length_nil, List.length_append] <;> omega)) only [goS, plainEv, resultsEv, resultListEv, reduceIte, Nat.reduceEqDiff, Option.map_some, Option.map_none, Option.bind_some, List.map_cons, List.map_nil, List.getD_cons_zero, List.getD_cons_succ, List.getElem?_toArray, List.getElem?_cons_zero, List.getElem?_cons_succ, eq_self, beq_self_eq_true, res20, class_ev, Int.toNat_zero, cls_letter, *]; done) | simp (config := { maxSteps := 4000000 }) (disch := first | assumption | omega | (simp only [List.length_cons, List.length_nil, List.length_append]; omega)) only [goS, plainEv, resultsEv, resultListEv, reduceIte, Nat.reduceEqDiff, Option.map_some, Option.map_none, Option.bind_some, List.map_cons, List.map_nil, List.getD_cons_zero, List.getD_cons_succ, List.getElem?_toArray, List.getElem?_cons_zero, List.getElem?_cons_succ, eq_self, beq_self_eq_true, res20, class_ev, Int.toNat_zero, cls_letter, *] | (refine guard_dec (fun _ => ?_) (fun _ => ?_) <;> try (exfalso; omega)) | (refine guard_ndec (fun _ => ?_) (fun _ => ?_) <;> try (exfalso; omega)) | (refine branch_dec (fun _ => ?_) (fun _ => ?_) <;> try (exfalso; omega)) | (refine branch_ndec (fun _ => ?_) (fun _ => ?_) <;> try (exfalso; omega)) | refine run_draw (by kernel_rfl) ?_ | refine guard_nbool (fun _ => ?_) (fun _ => ?_) | refine branch_nbool (fun _ => ?_) (fun _ => ?_) | refine guard_bool (fun _ => ?_) (fun _ => ?_) | refine branch_bool (fun _ => ?_) (fun _ => ?_))
  · exact answer (by simp [nameB]; omega)
  · refine run_loop (fun n e h' => ∃ i : Nat, i ≤ l.length ∧ n = l.length - i ∧ e.get 0 = .v (.string (bs l)) ∧ e.get 19 = .v (.int .i64 l.length) ∧ e.get 20 = .v (.int .i64 i) ∧ e.defers = [] ∧ h' = h ∧ ∀ j, j < i → partB (l.getD j 0) = true) ?_ l.length _ _ ?_
    · rintro n e h' ⟨i, hi, rfl, g0, g19, g20, hd, rfl, hno⟩
      repeat' (first | (simp (config := { maxSteps := 4000000 }) (disch := first | assumption | omega | (simp only [List.length_cons, List.length_nil, List.length_append] <;> omega)) only [goS, plainEv, resultsEv, resultListEv, reduceIte, Nat.reduceEqDiff, Option.map_some, Option.map_none, Option.bind_some, List.map_cons, List.map_nil, List.getD_cons_zero, List.getD_cons_succ, List.getElem?_toArray, List.getElem?_cons_zero, List.getElem?_cons_succ, eq_self, beq_self_eq_true, res20, class_ev, *]; done) | simp (config := { maxSteps := 4000000 }) (disch := first | assumption | omega | (simp only [List.length_cons, List.length_nil, List.length_append]; omega)) only [goS, plainEv, resultsEv, resultListEv, reduceIte, Nat.reduceEqDiff, Option.map_some, Option.map_none, Option.bind_some, List.map_cons, List.map_nil, List.getD_cons_zero, List.getD_cons_succ, List.getElem?_toArray, List.getElem?_cons_zero, List.getElem?_cons_succ, eq_self, beq_self_eq_true, res20, class_ev, *] | (refine guard_dec (fun _ => ?_) (fun _ => ?_) <;> try (exfalso; omega)) | (refine guard_ndec (fun _ => ?_) (fun _ => ?_) <;> try (exfalso; omega)) | (refine branch_dec (fun _ => ?_) (fun _ => ?_) <;> try (exfalso; omega)) | (refine branch_ndec (fun _ => ?_) (fun _ => ?_) <;> try (exfalso; omega)) | refine run_draw (by kernel_rfl) ?_ | refine guard_nbool (fun _ => ?_) (fun _ => ?_) | refine branch_nbool (fun _ => ?_) (fun _ => ?_) | refine guard_bool (fun _ => ?_) (fun _ => ?_) | refine branch_bool (fun _ => ?_) (fun _ => ?_))
      iterate 3
        · refine ⟨l.length - (i + 1), by omega, i + 1, by omega, rfl, trivial, trivial, by simp, trivial, trivial, fun j hj => ?_⟩
          rcases Nat.lt_or_ge j i with h1 | h1
          · exact hno j h1
          · rw [Nat.le_antisymm (Nat.lt_succ_iff.1 hj) h1, part_of]; simp_all
      · refine answer ?_
        have : l.all partB = false := by
          rw [Bool.eq_false_iff]
          intro ha
          have h1 := all_getD.1 ha i (by omega)
          rw [part_of] at h1
          simp_all
        simp [nameB, this]
      · refine answer ?_
        have : l.all partB = true := all_getD.2 fun j hj => hno j (by omega)
        simp_all [nameB]
        omega
    · refine ⟨0, by omega, rfl, ?_, ?_, ?_, ?_, rfl, fun j hj => absurd hj (Nat.not_lt_zero j)⟩ <;> simp only [goS, plainEv, resultsEv, resultListEv, reduceIte, Nat.reduceEqDiff, Option.map_some, Option.map_none, Option.bind_some, List.map_cons, List.map_nil, List.getD_cons_zero, List.getD_cons_succ, List.getElem?_toArray, List.getElem?_cons_zero, List.getElem?_cons_succ, eq_self, beq_self_eq_true] <;> rfl
  · exact answer (by simp_all [nameB])
end Go.Proofs.YtilmhlbjjfgeoaaDoor
end
