/-
  Layer 20 in plain Lean: expressions, rules and policies, and how they lie in memory. No program is in sight here.
-/
import Derived.Test.YtilmhlbjjfgeoaaDoorE4
import Derived.Test.YtilmhlbjjfgeoaaDoorSA
import Derived.Lib.SlicesS
set_option linter.unusedSimpArgs false
set_option linter.unusedVariables false
set_option linter.constructorNameAsVariable false
section
namespace Go.Pol
open Go.AE

inductive Ex where
  | mk (kind n no : Int) (name : List UInt8) (l : List Ex)

def Ex.kind : Ex → Int | .mk k _ _ _ _ => k
def Ex.n : Ex → Int | .mk _ n _ _ _ => n
def Ex.no : Ex → Int | .mk _ _ i _ _ => i
def Ex.name : Ex → List UInt8 | .mk _ _ _ s _ => s
def Ex.l : Ex → List Ex | .mk _ _ _ _ l => l

theorem Ex.ind {p : Ex → Prop} (h : ∀ k n no name l, (∀ x ∈ l, p x) → p (.mk k n no name l)) : ∀ x, p x
  | .mk k n no name l => h k n no name l fun x hx => Ex.ind h x
termination_by x => SizeOf.sizeOf x
decreasing_by
  have := List.sizeOf_lt_of_mem hx
  simp
  omega

/-- This row is an expression. -/
inductive Row : Ex → List AV → Prop
  | mk (k n no : Int) (name : List UInt8) (l : List Ex) (tok : Tok) (sz : Nat) (rows : List (List AV)) (hl : rows.length = l.length) (hsz : ∀ i : Nat, i < l.length → sz = 5) (hb : l.length ≤ 9223372036854775807)
      (h : ∀ (i : Nat) (x : Ex) (r : List AV), l[i]? = some x → rows[i]? = some r → Row x r) :
      Row (.mk k n no name l) [.v (.int .i64 k), .v (.int .i64 n), .v (.int .i64 no), .v (.string (bs name)), .list tok sz rows]

theorem Row.len {x : Ex} {r : List AV} (h : Row x r) : r.length = 5 := by cases h; rfl
/-- These rows are expressions. -/
def Rows (l : List Ex) (rows : List (List AV)) : Prop := rows.length = l.length ∧ ∀ (i : Nat) (x : Ex) (r : List AV), l[i]? = some x → rows[i]? = some r → Row x r
theorem Row.inv {x : Ex} {r : List AV} (h : Row x r) : ∃ tok sz rows, r = [.v (.int .i64 x.kind), .v (.int .i64 x.n), .v (.int .i64 x.no), .v (.string (bs x.name)), .list tok sz rows] ∧ Rows x.l rows ∧ (∀ i : Nat, i < x.l.length → sz = 5) ∧ x.l.length ≤ 9223372036854775807 := by
  cases h with
  | mk k n no name l tok sz rows hl hsz hb h => exact ⟨tok, sz, rows, rfl, ⟨hl, h⟩, hsz, hb⟩
theorem Rows.get {l : List Ex} {rows : List (List AV)} (h : Rows l rows) {i : Nat} (hi : i < l.length) : ∃ x r, l[i]? = some x ∧ rows[i]? = some r ∧ Row x r :=
  ⟨l[i], rows[i]'(by rw [h.1]; exact hi), List.getElem?_eq_getElem hi, List.getElem?_eq_getElem _, h.2 i _ _ (List.getElem?_eq_getElem hi) (List.getElem?_eq_getElem _)⟩
theorem Rows.nil : Rows [] [] := ⟨rfl, fun i x r h => by simp at h⟩
theorem Rows.snoc {l : List Ex} {rows : List (List AV)} (h : Rows l rows) {x : Ex} {r : List AV} (hx : Row x r) : Rows (l ++ [x]) (rows ++ [r]) := by
  refine ⟨by simp [h.1], fun i y s h1 h2 => ?_⟩
  rcases Nat.lt_or_ge i l.length with hi | hi
  · rw [List.getElem?_append_left hi] at h1
    rw [List.getElem?_append_left (by rw [h.1]; exact hi)] at h2
    exact h.2 i y s h1 h2
  · rw [List.getElem?_append_right hi] at h1
    rw [List.getElem?_append_right (by rw [h.1]; exact hi), h.1] at h2
    have hz : i - l.length = 0 := by
      have := (List.getElem?_eq_some_iff.1 h1).1
      simp at this
      omega
    rw [hz] at h1 h2
    simp at h1 h2
    subst h1; subst h2
    exact hx

/-! ### How many parts, how deep -/
mutual
def parts : Ex → Int → Int
  | .mk _ _ _ _ l, lim => partsL l 1 lim
def partsL : List Ex → Int → Int → Int
  | [], n, _ => n
  | x :: r, n, lim => if n ≤ lim then partsL r (n + parts x (lim - n)) lim else n
end
theorem partsL_stop : ∀ (l : List Ex) (n lim : Int), lim < n → partsL l n lim = n := by
  intro l
  cases l with
  | nil => intro n lim _; rw [partsL]
  | cons x r => intro n lim h; rw [partsL, if_neg (by omega)]
theorem parts_bound : ∀ (x : Ex) (lim : Int), 0 ≤ lim → 1 ≤ parts x lim ∧ parts x lim ≤ lim + 1 := by
  intro x
  induction x using Ex.ind with
  | h k n no name l ih =>
    intro lim hlim
    have key : ∀ (r : List Ex) (m : Int), (∀ x ∈ r, x ∈ l) → 1 ≤ m → m ≤ lim + 1 → 1 ≤ partsL r m lim ∧ partsL r m lim ≤ lim + 1 := by
      intro r
      induction r with
      | nil => intro m _ h1 h2; rw [partsL]; exact ⟨h1, h2⟩
      | cons x r ihr =>
        intro m hin h1 h2
        rw [partsL]
        split
        · have := ih x (hin x List.mem_cons_self) (lim - m) (by omega)
          exact ihr _ (fun y hy => hin y (List.mem_cons_of_mem _ hy)) (by omega) (by omega)
        · exact ⟨h1, h2⟩
    rw [parts]
    exact key l 1 (fun _ h => h) (Int.le_refl _) (by omega)
/-! ### Equal -/
noncomputable def sameE (x y : Ex) : Bool := @decide (x = y) (Classical.propDecidable _)
theorem sameE_iff {x y : Ex} : sameE x y = true ↔ x = y := by unfold sameE; exact @decide_eq_true_iff _ (Classical.propDecidable _)
theorem sameE_no {x y : Ex} (h : x ≠ y) : sameE x y = false := by
  rw [Bool.eq_false_iff]
  exact fun q => h (sameE_iff.1 q)
theorem sameE_yes {x y : Ex} (h : x = y) : sameE x y = true := sameE_iff.2 h
end Go.Pol
end

section
namespace Go.Pol
open Go.AE
structure Rl where
  kind : List UInt8
  kindNo : Int
  think : Int
  expr : Ex
structure Po where
  name : List UInt8
  kinds : List (List UInt8)
  offices : List (List UInt8)
  rules : List Rl
  change : Ex
  mode : Int
def texts (l : List (List UInt8)) : List (List AV) := l.map fun s => [.v (.string (bs s))]
/-- This row is a rule. -/
def RRow (x : Rl) (r : List AV) : Prop := ∃ e, Row x.expr e ∧ r = [.v (.string (bs x.kind)), .v (.int .i64 x.kindNo), .v (.int .i64 x.think)] ++ e
def RRows (l : List Rl) (rows : List (List AV)) : Prop := rows.length = l.length ∧ ∀ (i : Nat) (x : Rl) (r : List AV), l[i]? = some x → rows[i]? = some r → RRow x r
/-- This row is a policy. -/
structure PRow (p : Po) (r : List AV) (tk to tr : Tok) (sk so sr : Nat) (rr : List (List AV)) (e : List AV) : Prop where
  row : r = [.v (.string (bs p.name)), .list tk sk (texts p.kinds), .list to so (texts p.offices), .list tr sr rr] ++ (e ++ [.v (.int .i64 p.mode)])
  expr : Row p.change e
  rules : RRows p.rules rr
  zk : ∀ i : Nat, i < p.kinds.length → sk = 1
  zo : ∀ i : Nat, i < p.offices.length → so = 1
  zr : ∀ i : Nat, i < p.rules.length → sr = 8
  bk : p.kinds.length ≤ 9223372036854775807
  bo : p.offices.length ≤ 9223372036854775807
  br : p.rules.length ≤ 9223372036854775807

section
variable {H : Type} {P : Program}
/-- The cells of an expression, by the numbers of its types. -/
structure ExTys (P : Program) (tE tL : TypeId) : Prop where
  fields : structIs P tE [(3, 0), (3, 1), (3, 2), (9, 3), (tL, 4)] = true
  slice : P.underlying tL = some (.slice tE)
  int : P.underlying 3 = some (.int .i64)
  str : P.underlying 9 = some .string
  c3 : P.cellsOf 3 = 1
  c9 : P.cellsOf 9 = 1
  cE : P.cellsOf tE = 5
  cL : P.cellsOf tL = 1
theorem len5 {α : Type} {l : List α} (h : l.length = 5) : ∃ a b c d e, l = [a, b, c, d, e] := by
  match l, h with
  | [a, b, c, d, e], _ => exact ⟨a, b, c, d, e, rfl⟩
theorem rows_ex : ∀ {es : List (List AV)}, (∀ r ∈ es, ∃ x, Row x r) → ∃ l : List Ex, Rows l es := by
  intro es
  induction es with
  | nil => intro _; exact ⟨[], Rows.nil⟩
  | cons r es ih =>
    intro h
    obtain ⟨x, hx⟩ := h r List.mem_cons_self
    obtain ⟨l, h1, h2⟩ := ih fun r hr => h r (List.mem_cons_of_mem _ hr)
    refine ⟨x :: l, by simp [h1], fun i y s q1 q2 => ?_⟩
    cases i with
    | zero => simp at q1 q2; subst q1; subst q2; exact hx
    | succ i => exact h2 i y s (by simpa using q1) (by simpa using q2)
theorem has_ex {tE tL : TypeId} (T : ExTys P tE tL) : ∀ {t : TypeId} {cs : List AV} {d : DataW H}, Has P t cs d →
    (t = tE → ∃ x, Row x cs) ∧ (t = tL → ∃ (tok : Tok) (sz : Nat) (rows : List (List AV)) (l : List Ex), cs = [.list tok sz rows] ∧ Rows l rows ∧ (∀ i : Nat, i < l.length → sz = 5) ∧ l.length ≤ 9223372036854775807) := by
  intro t cs d h
  obtain ⟨fs, hE, hfs⟩ := structIs_of T.fields
  have hL := T.slice
  induction h with
  | bool hu b => exact ⟨fun q => (by subst q; rw [hE] at hu; cases hu), fun q => (by subst q; rw [hL] at hu; cases hu)⟩
  | int hu n hn => exact ⟨fun q => (by subst q; rw [hE] at hu; cases hu), fun q => (by subst q; rw [hL] at hu; cases hu)⟩
  | str hu s hs => exact ⟨fun q => (by subst q; rw [hE] at hu; cases hu), fun q => (by subst q; rw [hL] at hu; cases hu)⟩
  | none hu =>
    refine ⟨fun q => (by subst q; rw [hE] at hu; cases hu), fun q => ?_⟩
    exact ⟨.nil, _, [], [], rfl, Rows.nil, fun i hi => absurd hi (Nat.not_lt_zero i), Nat.zero_le _⟩
  | list hu k es ds sp hk hl hd he hs ih =>
    refine ⟨fun q => (by subst q; rw [hE] at hu; cases hu), fun q => ?_⟩
    subst q
    rw [hL] at hu
    injection hu with hu; injection hu with hu; subst hu
    obtain ⟨l, hr⟩ := rows_ex (es := es) fun r hr => by
      obtain ⟨i, hi, rfl⟩ := List.mem_iff_getElem.1 hr
      exact (ih i _ ds[i] (List.getElem?_eq_getElem hi) (List.getElem?_eq_getElem (by omega))).1 rfl
    refine ⟨k, _, es, l, rfl, hr, fun i _ => T.cE, ?_⟩
    have := hr.1
    simp [maxLen] at hl
    omega
  | array hu xs ds hl hd he ih => exact ⟨fun q => (by subst q; rw [hE] at hu; cases hu), fun q => (by subst q; rw [hL] at hu; cases hu)⟩
  | struct hu xs ds hl hd hf ih =>
    refine ⟨fun q => ?_, fun q => (by subst q; rw [hL] at hu; cases hu)⟩
    subst q
    rw [hE] at hu
    injection hu with hu; injection hu with hu; subst hu
    rw [T.cE] at hl
    obtain ⟨a, b, c, e, g, rfl⟩ := len5 hl
    have hn : fs.size = 5 := by
      have := congrArg List.length hfs
      simpa using this
    have get : ∀ (i : Nat) (u o : Nat), [(3, 0), (3, 1), (3, 2), (9, 3), (tL, 4)][i]? = some (u, o) → ∃ f dd, fs[i]? = some f ∧ ds[i]? = some dd ∧ f.type = u ∧ f.offset = o := by
      intro i u o ho
      rw [← hfs, List.getElem?_map] at ho
      cases hq : fs.toList[i]? with
      | none => rw [hq] at ho; cases ho
      | some f =>
        rw [hq] at ho
        simp only [Option.map_some, Option.some.injEq, Prod.mk.injEq] at ho
        have hi : i < ds.length := by
          have := (List.getElem?_eq_some_iff.1 hq).1
          simp at this
          omega
        exact ⟨f, ds[i], by rw [← Array.getElem?_toList]; exact hq, List.getElem?_eq_getElem hi, ho.1, ho.2⟩
    obtain ⟨f0, d0, e0, g0, t0, o0⟩ := get 0 3 0 rfl
    obtain ⟨f1, d1, e1, g1, t1, o1⟩ := get 1 3 1 rfl
    obtain ⟨f2, d2, e2, g2, t2, o2⟩ := get 2 3 2 rfl
    obtain ⟨f3, d3, e3, g3, t3, o3⟩ := get 3 9 3 rfl
    obtain ⟨f4, d4, e4, g4, t4, o4⟩ := get 4 tL 4 rfl
    have q0 := hf 0 f0 d0 e0 g0
    have q1 := hf 1 f1 d1 e1 g1
    have q2 := hf 2 f2 d2 e2 g2
    have q3 := hf 3 f3 d3 e3 g3
    have q4 := (ih 4 f4 d4 e4 g4).2 t4
    rw [t0, o0, T.c3] at q0
    rw [t1, o1, T.c3] at q1
    rw [t2, o2, T.c3] at q2
    rw [t3, o3, T.c9] at q3
    rw [t4, o4, T.cL] at q4
    obtain ⟨n0, r0, -⟩ := q0.i64_inv T.int
    obtain ⟨n1, r1, -⟩ := q1.i64_inv T.int
    obtain ⟨n2, r2, -⟩ := q2.i64_inv T.int
    obtain ⟨s3, r3, -⟩ := q3.str_inv T.str
    obtain ⟨tok, sz, rows, l, r4, w1, w2, w3⟩ := q4
    simp at r0 r1 r2 r3 r4
    subst r0; subst r1; subst r2; subst r3; subst r4
    exact ⟨.mk n0 n1 n2 s3 l, .mk n0 n1 n2 s3 l tok sz rows w1.1 w2 w3 w1.2⟩
end
end Go.Pol
end

section
namespace Go.Proofs.YtilmhlbjjfgeoaaDoor
open Go.AE Go.Lex Go.Pol
theorem ag3 : isAggB Tryd.prog 3 = some false := by kernel_rfl
theorem ag9 : isAggB Tryd.prog 9 = some false := by kernel_rfl
theorem ag24 : isAggB Tryd.prog 24 = some false := by kernel_rfl
theorem ag26 : isAggB Tryd.prog 26 = some true := by kernel_rfl
theorem sz26 : sizeB Tryd.prog 26 = some 5 := by kernel_rfl
theorem sz3 : sizeB Tryd.prog 3 = some 1 := by kernel_rfl
theorem sz9 : sizeB Tryd.prog 9 = some 1 := by kernel_rfl
theorem fa26_0 (r : Ref) (off : Nat) : fieldAddrEv Tryd.prog 26 (.ptr r off) 0 = some (.ptr r (off + 0)) := by kernel_rfl
theorem fa26_1 (r : Ref) (off : Nat) : fieldAddrEv Tryd.prog 26 (.ptr r off) 1 = some (.ptr r (off + 1)) := by kernel_rfl
theorem fa26_2 (r : Ref) (off : Nat) : fieldAddrEv Tryd.prog 26 (.ptr r off) 2 = some (.ptr r (off + 2)) := by kernel_rfl
theorem fa26_3 (r : Ref) (off : Nat) : fieldAddrEv Tryd.prog 26 (.ptr r off) 3 = some (.ptr r (off + 3)) := by kernel_rfl
theorem fa26_4 (r : Ref) (off : Nat) : fieldAddrEv Tryd.prog 26 (.ptr r off) 4 = some (.ptr r (off + 4)) := by kernel_rfl
/-- A row of five cells. -/
def row5 (k n no : Int) (s : List UInt8) (tok : Tok) (sz : Nat) (rows : List (List AV)) : List AV := [.v (.int .i64 k), .v (.int .i64 n), .v (.int .i64 no), .v (.string (bs s)), .list tok sz rows]
section
variable {k n no : Int} {s : List UInt8} {tok : Tok} {sz : Nat} {rows : List (List AV)}
theorem row5_cells : (AV.agg (row5 k n no s tok sz rows)).cellsO = some (row5 k n no s tok sz rows) := rfl
theorem row5_0 : ((row5 k n no s tok sz rows).drop 0).head? = some (.v (.int .i64 k)) := rfl
theorem row5_1 : ((row5 k n no s tok sz rows).drop 1).head? = some (.v (.int .i64 n)) := rfl
theorem row5_2 : ((row5 k n no s tok sz rows).drop 2).head? = some (.v (.int .i64 no)) := rfl
theorem row5_3 : ((row5 k n no s tok sz rows).drop 3).head? = some (.v (.string (bs s))) := rfl
theorem row5_4 : ((row5 k n no s tok sz rows).drop 4).head? = some (.list tok sz rows) := rfl
theorem row5_all : ((row5 k n no s tok sz rows).drop 0).take 5 = row5 k n no s tok sz rows := rfl
end
theorem len_push {h : Heap} {cs : List AV} : (h.push cs).boxes.length = h.boxes.length + 1 := push_len h cs
theorem take5 {r : List AV} (h : r.length = 5) : (r.drop 0).take 5 = r := by rw [List.drop_zero, ← h, List.take_length]
theorem Row.five {x : Ex} {r : List AV} (h : Row x r) : ∃ tok sz rows, r = row5 x.kind x.n x.no x.name tok sz rows ∧ Pol.Rows x.l rows ∧ (∀ i : Nat, i < x.l.length → sz = 5) ∧ x.l.length ≤ 9223372036854775807 := h.inv
theorem res51 : Tryd.f51.results.toList = [.tmp 4] := by kernel_rfl
theorem answerI {a b : Int} {h : Heap} {Post : Heap → Prop} (hb : a = b) (hp : Post h) : ∃ h', (some (Res.ret (AV.v (.int .i64 a)), h) : Option (Res × Heap)) = some (.ret (.v (.int .i64 b)), h') ∧ Post h' := ⟨h, by rw [hb], hp⟩
theorem drop_get {l : List Ex} {i : Nat} {x : Ex} (h : l[i]? = some x) : l.drop i = x :: l.drop (i + 1) := by
  obtain ⟨hi, rfl⟩ := List.getElem?_eq_some_iff.1 h
  exact List.drop_eq_getElem_cons hi
set_option maxHeartbeats 4000000 in
set_option maxRecDepth 100000 in
theorem parts_ev : ∀ (x : Ex) (row : List AV), Row x row → ∀ (lim : Int), 0 ≤ lim → lim ≤ 1000 → ∀ h, Says W 51 [.agg row, .v (.int .i64 lim)] h (.ret (.v (.int .i64 (parts x lim)))) := by
  intro x
  induction x using Ex.ind with
  | h kk nn no name l ih =>
    intro row hrow lim hl0 hl1 h
    obtain ⟨tok, sz, rows, rfl, hrows, hsz, -⟩ := Row.five hrow
    clear hrow
    have ux := Tryd.underlying24
    have a3 := ag3; have a24 := ag24; have a26 := ag26; have s26 := sz26
    have hlen := hrows.1
    simp only [Ex.kind, Ex.n, Ex.no, Ex.name, Ex.l] at hrows hsz hlen ⊢
    have kr := Keep.mk hrows
    have kz := Keep.mk hsz
    have kih := Keep.mk ih
    clear hrows hsz ih
    refine call_ex rfl Tryd.func51 rfl ?_
    repeat' (first | simp (config := { maxSteps := 4000000 }) (disch := first | assumption | (exact Nat.le_refl _) | omega | (simp only [List.length_cons, List.length_nil, List.length_append, push_len, put_len, len_app] <;> omega) | (simp (disch := (first | assumption | omega | (exact (push_len _ _).symm) | (simp only [push_len, put_len, len_app]; omega) | (refine Nat.le_antisymm ?_ ?_ <;> simp only [push_len, put_len, len_app] <;> omega) | fail)) only [get_push_last, get_push_eq, get_push_ne, get_put_eq, get_put_ne, get_app] <;> first | assumption | rfl) | (simp only [canApp_push, canApp_put]; assumption) | (exact start_round _ _) | (simp only [st_round, dfr_round, pn_round]; first | assumption | exact start_round _ _) | fail) only [goS, plainEv, resultsEv, resultListEv, reduceIte, Nat.reduceEqDiff, Option.map_some, Option.map_none, Option.bind_some, List.map_cons, List.map_nil, List.getD_cons_zero, List.getD_cons_succ, List.getElem?_toArray, List.getElem?_cons_zero, List.getElem?_cons_succ, eq_self, beq_self_eq_true, goH, List.append_nil, List.nil_append, res51, row5_cells, *] | (refine guard_dec (fun _ => ?_) (fun _ => ?_) <;> try (exfalso; omega)) | (refine guard_ndec (fun _ => ?_) (fun _ => ?_) <;> try (exfalso; omega)) | (refine branch_dec (fun _ => ?_) (fun _ => ?_) <;> try (exfalso; omega)) | (refine branch_ndec (fun _ => ?_) (fun _ => ?_) <;> try (exfalso; omega)) | refine run_draw (by kernel_rfl) ?_ | refine guard_nbool (fun _ => ?_) (fun _ => ?_) | refine branch_nbool (fun _ => ?_) (fun _ => ?_) | refine guard_bool (fun _ => ?_) (fun _ => ?_) | refine branch_bool (fun _ => ?_) (fun _ => ?_))
    refine run_loop (fun m e h' => ∃ (i : Nat) (n : Int), i ≤ l.length ∧ m = l.length - i ∧ e.get 1 = .v (.int .i64 lim) ∧ e.get 2 = .ptr (.box h.boxes.length) 0 ∧ e.get 5 = .v (.int .i64 n) ∧ e.get 6 = .v (.int .i64 i) ∧ e.defers = [] ∧ Ext h h' ∧
      h'.boxes[h.boxes.length]? = some (row5 kk nn no name tok sz rows) ∧ (i : Int) + 1 ≤ n ∧ n ≤ lim + 1 ∧ partsL (l.drop i) n lim = parts (.mk kk nn no name l) lim) ?_ l.length _ _ ?_
    · rintro m e h' ⟨i, n, hi, rfl, g1, g2, g5, g6, hd, hx, hb, hn0, hn1, hp⟩
      have kx := Keep.mk hx
      have kp := Keep.mk hp
      clear hx hp
      by_cases hlt : i < l.length
      · obtain ⟨y, r, hy, hr, hyr⟩ := kr.out.get hlt
        have h5 := kz.out i hlt
        subst h5
        have hlt3 : (i : Int) < (rows.length : Int) := by rw [hlen]; omega
        have hrl := hyr.len
        have ht5 := take5 hrl
        by_cases hnl : n ≤ lim
        · obtain ⟨h2, hc, hx2⟩ := kih.out y (List.mem_of_getElem? hy) r hyr (lim - n) (by omega) (by omega) h'
          have hpb := parts_bound y (lim - n) (by omega)
          obtain ⟨p1, p2⟩ := hpb
          have kx2 := Keep.mk hx2
          have kb := Keep.mk hb
          clear hx2
          have hle5 : 5 ≤ (r.drop 0).length := by rw [List.drop_zero]; omega
          repeat' (first | simp (config := { maxSteps := 4000000 }) (disch := first | assumption | (exact Nat.le_refl _) | omega | (simp only [List.length_cons, List.length_nil, List.length_append, push_len, put_len, len_app] <;> omega) | (simp (disch := (first | assumption | omega | (exact (push_len _ _).symm) | (simp only [push_len, put_len, len_app]; omega) | (refine Nat.le_antisymm ?_ ?_ <;> simp only [push_len, put_len, len_app] <;> omega) | fail)) only [get_push_last, get_push_eq, get_push_ne, get_put_eq, get_put_ne, get_app] <;> first | assumption | rfl) | (simp only [canApp_push, canApp_put]; assumption) | (exact start_round _ _) | (simp only [st_round, dfr_round, pn_round]; first | assumption | exact start_round _ _) | fail) only [goS, plainEv, resultsEv, resultListEv, reduceIte, Nat.reduceEqDiff, Option.map_some, Option.map_none, Option.bind_some, List.map_cons, List.map_nil, List.getD_cons_zero, List.getD_cons_succ, List.getElem?_toArray, List.getElem?_cons_zero, List.getElem?_cons_succ, eq_self, beq_self_eq_true, goH, List.append_nil, List.nil_append, res51, row5_4, fa26_4, index_list, load_row_agg, *] | (refine guard_dec (fun _ => ?_) (fun _ => ?_) <;> try (exfalso; omega)) | (refine guard_ndec (fun _ => ?_) (fun _ => ?_) <;> try (exfalso; omega)) | (refine branch_dec (fun _ => ?_) (fun _ => ?_) <;> try (exfalso; omega)) | (refine branch_ndec (fun _ => ?_) (fun _ => ?_) <;> try (exfalso; omega)) | refine run_draw (by kernel_rfl) ?_ | refine guard_nbool (fun _ => ?_) (fun _ => ?_) | refine branch_nbool (fun _ => ?_) (fun _ => ?_) | refine guard_bool (fun _ => ?_) (fun _ => ?_) | refine branch_bool (fun _ => ?_) (fun _ => ?_))
          refine ⟨l.length - (i + 1), by omega, i + 1, n + parts y (lim - n), by omega, rfl, (by first | trivial | (simp; done) | (simp; omega)), (by first | trivial | (simp; done) | (simp; omega)), (by first | trivial | (simp; done) | (simp; omega)), (by first | trivial | (simp; done) | (simp; omega)), (by first | trivial | (simp; done) | (simp; omega)), kx.out.trans kx2.out, kx2.out.box _ _ kb.out, by omega, by omega, ?_⟩
          rw [← kp.out, drop_get hy, partsL, if_pos hnl]
        · repeat' (first | simp (config := { maxSteps := 4000000 }) (disch := first | assumption | (exact Nat.le_refl _) | omega | (simp only [List.length_cons, List.length_nil, List.length_append, push_len, put_len, len_app] <;> omega) | (simp (disch := (first | assumption | omega | (exact (push_len _ _).symm) | (simp only [push_len, put_len, len_app]; omega) | (refine Nat.le_antisymm ?_ ?_ <;> simp only [push_len, put_len, len_app] <;> omega) | fail)) only [get_push_last, get_push_eq, get_push_ne, get_put_eq, get_put_ne, get_app] <;> first | assumption | rfl) | (simp only [canApp_push, canApp_put]; assumption) | (exact start_round _ _) | (simp only [st_round, dfr_round, pn_round]; first | assumption | exact start_round _ _) | fail) only [goS, plainEv, resultsEv, resultListEv, reduceIte, Nat.reduceEqDiff, Option.map_some, Option.map_none, Option.bind_some, List.map_cons, List.map_nil, List.getD_cons_zero, List.getD_cons_succ, List.getElem?_toArray, List.getElem?_cons_zero, List.getElem?_cons_succ, eq_self, beq_self_eq_true, goH, List.append_nil, List.nil_append, res51, row5_4, fa26_4, index_list, load_row_agg, *] | (refine guard_dec (fun _ => ?_) (fun _ => ?_) <;> try (exfalso; omega)) | (refine guard_ndec (fun _ => ?_) (fun _ => ?_) <;> try (exfalso; omega)) | (refine branch_dec (fun _ => ?_) (fun _ => ?_) <;> try (exfalso; omega)) | (refine branch_ndec (fun _ => ?_) (fun _ => ?_) <;> try (exfalso; omega)) | refine run_draw (by kernel_rfl) ?_ | refine guard_nbool (fun _ => ?_) (fun _ => ?_) | refine branch_nbool (fun _ => ?_) (fun _ => ?_) | refine guard_bool (fun _ => ?_) (fun _ => ?_) | refine branch_bool (fun _ => ?_) (fun _ => ?_))
          refine answerI ?_ kx.out
          rw [← kp.out, partsL_stop _ _ _ (by omega)]
      · have hie : i = l.length := by omega
        subst hie
        have hlt3 : ¬ ((l.length : Int) < (rows.length : Int)) := by rw [hlen]; omega
        repeat' (first | simp (config := { maxSteps := 4000000 }) (disch := first | assumption | (exact Nat.le_refl _) | omega | (simp only [List.length_cons, List.length_nil, List.length_append, push_len, put_len, len_app] <;> omega) | (simp (disch := (first | assumption | omega | (exact (push_len _ _).symm) | (simp only [push_len, put_len, len_app]; omega) | (refine Nat.le_antisymm ?_ ?_ <;> simp only [push_len, put_len, len_app] <;> omega) | fail)) only [get_push_last, get_push_eq, get_push_ne, get_put_eq, get_put_ne, get_app] <;> first | assumption | rfl) | (simp only [canApp_push, canApp_put]; assumption) | (exact start_round _ _) | (simp only [st_round, dfr_round, pn_round]; first | assumption | exact start_round _ _) | fail) only [goS, plainEv, resultsEv, resultListEv, reduceIte, Nat.reduceEqDiff, Option.map_some, Option.map_none, Option.bind_some, List.map_cons, List.map_nil, List.getD_cons_zero, List.getD_cons_succ, List.getElem?_toArray, List.getElem?_cons_zero, List.getElem?_cons_succ, eq_self, beq_self_eq_true, goH, List.append_nil, List.nil_append, res51, row5_4, fa26_4, *] | (refine guard_dec (fun _ => ?_) (fun _ => ?_) <;> try (exfalso; omega)) | (refine guard_ndec (fun _ => ?_) (fun _ => ?_) <;> try (exfalso; omega)) | (refine branch_dec (fun _ => ?_) (fun _ => ?_) <;> try (exfalso; omega)) | (refine branch_ndec (fun _ => ?_) (fun _ => ?_) <;> try (exfalso; omega)) | refine run_draw (by kernel_rfl) ?_ | refine guard_nbool (fun _ => ?_) (fun _ => ?_) | refine branch_nbool (fun _ => ?_) (fun _ => ?_) | refine guard_bool (fun _ => ?_) (fun _ => ?_) | refine branch_bool (fun _ => ?_) (fun _ => ?_))
        all_goals
          refine answerI ?_ kx.out
          rw [← kp.out, List.drop_length, partsL]
    · refine ⟨0, 1, Nat.zero_le _, rfl, ?_, ?_, ?_, ?_, ?_, .push _ _, push_last _ _, by omega, by omega, by rw [List.drop_zero, parts]⟩ <;> simp only [goS, plainEv, resultsEv, resultListEv, reduceIte, Nat.reduceEqDiff, Option.map_some, Option.map_none, Option.bind_some, List.map_cons, List.map_nil, List.getD_cons_zero, List.getD_cons_succ, List.getElem?_toArray, List.getElem?_cons_zero, List.getElem?_cons_succ, eq_self, beq_self_eq_true, goH] <;> rfl
end Go.Proofs.YtilmhlbjjfgeoaaDoor
end

section
namespace Go.Proofs.YtilmhlbjjfgeoaaDoor
open Go.AE Go.Lex Go.Pol
theorem answerX {b c : Bool} {h : Heap} {Post : Heap → Prop} (hb : b = c) (hp : Post h) : ∃ h', (some (Res.ret (AV.v (.bool b)), h) : Option (Res × Heap)) = some (.ret (.v (.bool c)), h') ∧ Post h' := ⟨h, by rw [hb], hp⟩
theorem res46 : Tryd.f46.results.toList = [.tmp 4] := by kernel_rfl
set_option maxHeartbeats 8000000 in
set_option maxRecDepth 100000 in
theorem sameE_ev : ∀ (x : Ex) (rx : List AV), Row x rx → ∀ (y : Ex) (ry : List AV), Row y ry → ∀ h, Says W 46 [.agg rx, .agg ry] h (.ret (.v (.bool (sameE x y)))) := by
  intro x
  induction x using Ex.ind with
  | h k n no s l ih =>
    intro rx hrx y ry hry h
    obtain ⟨k', n', no', s', l'⟩ := y
    obtain ⟨tok, sz, rows, rfl, hr1, hs1, hb1⟩ := Row.five hrx
    obtain ⟨tok', sz', rows', rfl, hr2, hs2, hb2⟩ := Row.five hry
    clear hrx hry
    have ux := Tryd.underlying24; have u9 := Tryd.underlying9
    have a3 := ag3; have a9 := ag9; have a24 := ag24; have a26 := ag26; have s26 := sz26
    have hlen1 := hr1.1
    have hlen2 := hr2.1
    simp only [Ex.kind, Ex.n, Ex.no, Ex.name, Ex.l] at hr1 hs1 hb1 hr2 hs2 hb2 hlen1 hlen2 ⊢
    have kr1 := Keep.mk hr1
    have kz1 := Keep.mk hs1
    have kr2 := Keep.mk hr2
    have kz2 := Keep.mk hs2
    have kih := Keep.mk ih
    clear hr1 hs1 hr2 hs2 ih
    have hq : ((rows.length : Int) = (rows'.length : Int)) = (l.length = l'.length) := by rw [hlen1, hlen2]; exact propext ⟨fun q => by omega, fun q => by omega⟩
    have kx0 := Keep.mk ((Ext.push h (row5 k n no s tok sz rows)).trans (.push _ (row5 k' n' no' s' tok' sz' rows')))
    refine call_ex rfl Tryd.func46 rfl ?_
    by_cases hall : k = k' ∧ n = n' ∧ no = no' ∧ s = s' ∧ l.length = l'.length
    · obtain ⟨rfl, rfl, rfl, rfl, hll⟩ := hall
      have hle : rows.length = rows'.length := by omega
      have khq := Keep.mk hq
      clear hq
      repeat' (first | simp (config := { maxSteps := 4000000 }) (disch := first | assumption | (exact Nat.le_refl _) | omega | (simp only [List.length_cons, List.length_nil, List.length_append, push_len, put_len, len_app] <;> omega) | (simp (disch := (first | assumption | omega | (exact (push_len _ _).symm) | (simp only [push_len, put_len, len_app]; omega) | (refine Nat.le_antisymm ?_ ?_ <;> simp only [push_len, put_len, len_app] <;> omega) | fail)) only [get_push_last, get_push_eq, get_push_ne, get_put_eq, get_put_ne, get_app] <;> first | assumption | rfl) | (simp only [canApp_push, canApp_put]; assumption) | (exact start_round _ _) | (simp only [st_round, dfr_round, pn_round]; first | assumption | exact start_round _ _) | fail) only [goS, plainEv, resultsEv, resultListEv, reduceIte, Nat.reduceEqDiff, Option.map_some, Option.map_none, Option.bind_some, List.map_cons, List.map_nil, List.getD_cons_zero, List.getD_cons_succ, List.getElem?_toArray, List.getElem?_cons_zero, List.getElem?_cons_succ, eq_self, beq_self_eq_true, goH, List.append_nil, List.nil_append, res46, row5_cells, row5_0, row5_1, row5_2, row5_3, row5_4, fa26_0, fa26_1, fa26_2, fa26_3, fa26_4, len_push, *] | (refine guard_dec (fun _ => ?_) (fun _ => ?_) <;> try (exfalso; omega)) | (refine guard_ndec (fun _ => ?_) (fun _ => ?_) <;> try (exfalso; omega)) | (refine branch_dec (fun _ => ?_) (fun _ => ?_) <;> try (exfalso; omega)) | (refine branch_ndec (fun _ => ?_) (fun _ => ?_) <;> try (exfalso; omega)) | refine run_draw (by kernel_rfl) ?_ | refine guard_nbool (fun _ => ?_) (fun _ => ?_) | refine branch_nbool (fun _ => ?_) (fun _ => ?_) | refine guard_bool (fun _ => ?_) (fun _ => ?_) | refine branch_bool (fun _ => ?_) (fun _ => ?_))
      refine run_loop (fun m e h' => ∃ (i : Nat), i ≤ l.length ∧ m = l.length - i ∧ e.get 2 = .ptr (.box h.boxes.length) 0 ∧ e.get 3 = .ptr (.box (h.boxes.length + 1)) 0 ∧ e.get 5 = .v (.int .i64 i) ∧ e.defers = [] ∧ Ext h h' ∧
        h'.boxes[h.boxes.length]? = some (row5 k n no s tok sz rows) ∧ h'.boxes[h.boxes.length + 1]? = some (row5 k n no s tok' sz' rows') ∧ ∀ j, j < i → l[j]? = l'[j]?) ?_ l.length _ _ ?_
      · rintro m e h' ⟨i, hi, rfl, g2, g3, g5, hd, hx, hb, hb', hno⟩
        have kx := Keep.mk hx
        have kno := Keep.mk hno
        clear hx hno
        by_cases hlt : i < l.length
        · obtain ⟨y, r, hy, hr, hyr⟩ := kr1.out.get hlt
          obtain ⟨y', r', hy', hr', hyr'⟩ := kr2.out.get (show i < l'.length by omega)
          have h5 := kz1.out i hlt
          have h5' := kz2.out i (by omega)
          subst h5
          subst h5'
          have hlt3 : (i : Int) < (rows.length : Int) := by rw [hlen1]; omega
          have hlt4 : (i : Int) < (rows'.length : Int) := by rw [hlen2]; omega
          have ht5 := take5 hyr.len
          have ht5' := take5 hyr'.len
          have hle5 : 5 ≤ (r.drop 0).length := by rw [List.drop_zero, hyr.len]; exact Nat.le_refl _
          have hle5' : 5 ≤ (r'.drop 0).length := by rw [List.drop_zero, hyr'.len]; exact Nat.le_refl _
          obtain ⟨h2, hc, hx2⟩ := kih.out y (List.mem_of_getElem? hy) r hyr y' r' hyr' h'
          have kx2 := Keep.mk hx2
          have kb := Keep.mk hb
          have kb' := Keep.mk hb'
          clear hx2
          by_cases hs : sameE y y' = true
          · have khs := Keep.mk hs
            rw [hs] at hc
            clear hs hle
            repeat' (first | simp (config := { maxSteps := 4000000 }) (disch := first | assumption | (exact Nat.le_refl _) | omega | (simp only [List.length_cons, List.length_nil, List.length_append, push_len, put_len, len_app] <;> omega) | (simp (disch := (first | assumption | omega | (exact (push_len _ _).symm) | (simp only [push_len, put_len, len_app]; omega) | (refine Nat.le_antisymm ?_ ?_ <;> simp only [push_len, put_len, len_app] <;> omega) | fail)) only [get_push_last, get_push_eq, get_push_ne, get_put_eq, get_put_ne, get_app] <;> first | assumption | rfl) | (simp only [canApp_push, canApp_put]; assumption) | (exact start_round _ _) | (simp only [st_round, dfr_round, pn_round]; first | assumption | exact start_round _ _) | fail) only [goS, plainEv, resultsEv, resultListEv, reduceIte, Nat.reduceEqDiff, Option.map_some, Option.map_none, Option.bind_some, List.map_cons, List.map_nil, List.getD_cons_zero, List.getD_cons_succ, List.getElem?_toArray, List.getElem?_cons_zero, List.getElem?_cons_succ, eq_self, beq_self_eq_true, goH, List.append_nil, List.nil_append, res46, row5_4, fa26_4, index_list, load_row_agg, *] | (refine guard_dec (fun _ => ?_) (fun _ => ?_) <;> try (exfalso; omega)) | (refine guard_ndec (fun _ => ?_) (fun _ => ?_) <;> try (exfalso; omega)) | (refine branch_dec (fun _ => ?_) (fun _ => ?_) <;> try (exfalso; omega)) | (refine branch_ndec (fun _ => ?_) (fun _ => ?_) <;> try (exfalso; omega)) | refine run_draw (by kernel_rfl) ?_ | refine guard_nbool (fun _ => ?_) (fun _ => ?_) | refine branch_nbool (fun _ => ?_) (fun _ => ?_) | refine guard_bool (fun _ => ?_) (fun _ => ?_) | refine branch_bool (fun _ => ?_) (fun _ => ?_))
            refine ⟨l.length - (i + 1), by omega, i + 1, by omega, by omega, (by first | trivial | (simp; done) | (simp; omega)), (by first | trivial | (simp; done) | (simp; omega)), (by first | trivial | (simp; done) | (simp; omega)), (by first | trivial | (simp; done) | (simp; omega)), kx.out.trans kx2.out, kx2.out.box _ _ kb.out, kx2.out.box _ _ kb'.out, fun j hj => ?_⟩
            rcases Nat.lt_or_ge j i with q | q
            · exact kno.out j q
            · have : j = i := by omega
              subst this
              rw [hy, hy', sameE_iff.1 khs.out]
          · have hs : sameE y y' = false := by simpa using hs
            have khs := Keep.mk hs
            rw [hs] at hc
            clear hs hle
            repeat' (first | simp (config := { maxSteps := 4000000 }) (disch := first | assumption | (exact Nat.le_refl _) | omega | (simp only [List.length_cons, List.length_nil, List.length_append, push_len, put_len, len_app] <;> omega) | (simp (disch := (first | assumption | omega | (exact (push_len _ _).symm) | (simp only [push_len, put_len, len_app]; omega) | (refine Nat.le_antisymm ?_ ?_ <;> simp only [push_len, put_len, len_app] <;> omega) | fail)) only [get_push_last, get_push_eq, get_push_ne, get_put_eq, get_put_ne, get_app] <;> first | assumption | rfl) | (simp only [canApp_push, canApp_put]; assumption) | (exact start_round _ _) | (simp only [st_round, dfr_round, pn_round]; first | assumption | exact start_round _ _) | fail) only [goS, plainEv, resultsEv, resultListEv, reduceIte, Nat.reduceEqDiff, Option.map_some, Option.map_none, Option.bind_some, List.map_cons, List.map_nil, List.getD_cons_zero, List.getD_cons_succ, List.getElem?_toArray, List.getElem?_cons_zero, List.getElem?_cons_succ, eq_self, beq_self_eq_true, goH, List.append_nil, List.nil_append, res46, row5_4, fa26_4, index_list, load_row_agg, *] | (refine guard_dec (fun _ => ?_) (fun _ => ?_) <;> try (exfalso; omega)) | (refine guard_ndec (fun _ => ?_) (fun _ => ?_) <;> try (exfalso; omega)) | (refine branch_dec (fun _ => ?_) (fun _ => ?_) <;> try (exfalso; omega)) | (refine branch_ndec (fun _ => ?_) (fun _ => ?_) <;> try (exfalso; omega)) | refine run_draw (by kernel_rfl) ?_ | refine guard_nbool (fun _ => ?_) (fun _ => ?_) | refine branch_nbool (fun _ => ?_) (fun _ => ?_) | refine guard_bool (fun _ => ?_) (fun _ => ?_) | refine branch_bool (fun _ => ?_) (fun _ => ?_))
            refine answerX ?_ (kx.out.trans kx2.out)
            symm
            refine sameE_no ?_
            intro q
            injection q with _ _ _ _ q
            subst q
            rw [hy] at hy'
            injection hy' with hy'
            have := khs.out
            rw [hy', sameE_yes rfl] at this
            cases this
        · have hie : i = l.length := by omega
          subst hie
          have hlt3 : ¬ ((l.length : Int) < (rows.length : Int)) := by rw [hlen1]; omega
          clear hle
          repeat' (first | simp (config := { maxSteps := 4000000 }) (disch := first | assumption | (exact Nat.le_refl _) | omega | (simp only [List.length_cons, List.length_nil, List.length_append, push_len, put_len, len_app] <;> omega) | (simp (disch := (first | assumption | omega | (exact (push_len _ _).symm) | (simp only [push_len, put_len, len_app]; omega) | (refine Nat.le_antisymm ?_ ?_ <;> simp only [push_len, put_len, len_app] <;> omega) | fail)) only [get_push_last, get_push_eq, get_push_ne, get_put_eq, get_put_ne, get_app] <;> first | assumption | rfl) | (simp only [canApp_push, canApp_put]; assumption) | (exact start_round _ _) | (simp only [st_round, dfr_round, pn_round]; first | assumption | exact start_round _ _) | fail) only [goS, plainEv, resultsEv, resultListEv, reduceIte, Nat.reduceEqDiff, Option.map_some, Option.map_none, Option.bind_some, List.map_cons, List.map_nil, List.getD_cons_zero, List.getD_cons_succ, List.getElem?_toArray, List.getElem?_cons_zero, List.getElem?_cons_succ, eq_self, beq_self_eq_true, goH, List.append_nil, List.nil_append, res46, row5_4, fa26_4, *] | (refine guard_dec (fun _ => ?_) (fun _ => ?_) <;> try (exfalso; omega)) | (refine guard_ndec (fun _ => ?_) (fun _ => ?_) <;> try (exfalso; omega)) | (refine branch_dec (fun _ => ?_) (fun _ => ?_) <;> try (exfalso; omega)) | (refine branch_ndec (fun _ => ?_) (fun _ => ?_) <;> try (exfalso; omega)) | refine run_draw (by kernel_rfl) ?_ | refine guard_nbool (fun _ => ?_) (fun _ => ?_) | refine branch_nbool (fun _ => ?_) (fun _ => ?_) | refine guard_bool (fun _ => ?_) (fun _ => ?_) | refine branch_bool (fun _ => ?_) (fun _ => ?_))
          refine answerX ?_ kx.out
          symm
          refine sameE_yes ?_
          have : l = l' := List.ext_getElem? fun j => by
            rcases Nat.lt_or_ge j l.length with q | q
            · exact kno.out j q
            · rw [List.getElem?_eq_none q, List.getElem?_eq_none (by omega)]
          rw [this]
      · refine ⟨0, Nat.zero_le _, rfl, ?_, ?_, ?_, ?_, kx0.out, ?_, ?_, fun j hj => absurd hj (Nat.not_lt_zero j)⟩
        iterate 4
          · simp only [goS, plainEv, resultsEv, resultListEv, reduceIte, Nat.reduceEqDiff, Option.map_some, Option.map_none, Option.bind_some, List.map_cons, List.map_nil, List.getD_cons_zero, List.getD_cons_succ, List.getElem?_toArray, List.getElem?_cons_zero, List.getElem?_cons_succ, eq_self, beq_self_eq_true, goH, len_push] <;> rfl
        · simp (disch := (first | assumption | omega | (exact (push_len _ _).symm) | (simp only [push_len, put_len, len_app]; omega) | (refine Nat.le_antisymm ?_ ?_ <;> simp only [push_len, put_len, len_app] <;> omega) | fail)) only [get_push_last, get_push_eq, get_push_ne, get_put_eq, get_put_ne, get_app]
        · simp (disch := (first | assumption | omega | (exact (push_len _ _).symm) | (simp only [push_len, put_len, len_app]; omega) | (refine Nat.le_antisymm ?_ ?_ <;> simp only [push_len, put_len, len_app] <;> omega) | fail)) only [get_push_last, get_push_eq, get_push_ne, get_put_eq, get_put_ne, get_app]
    · have kall := Keep.mk hall
      have hno : ¬ (k = k' ∧ n = n' ∧ no = no' ∧ s = s' ∧ (rows.length : Int) = (rows'.length : Int)) := by rw [hq]; exact hall
      clear hall hq
      repeat' (first | simp (config := { maxSteps := 4000000 }) (disch := first | assumption | (exact Nat.le_refl _) | omega | (simp only [List.length_cons, List.length_nil, List.length_append, push_len, put_len, len_app] <;> omega) | (simp (disch := (first | assumption | omega | (exact (push_len _ _).symm) | (simp only [push_len, put_len, len_app]; omega) | (refine Nat.le_antisymm ?_ ?_ <;> simp only [push_len, put_len, len_app] <;> omega) | fail)) only [get_push_last, get_push_eq, get_push_ne, get_put_eq, get_put_ne, get_app] <;> first | assumption | rfl) | (simp only [canApp_push, canApp_put]; assumption) | (exact start_round _ _) | (simp only [st_round, dfr_round, pn_round]; first | assumption | exact start_round _ _) | fail) only [goS, plainEv, resultsEv, resultListEv, reduceIte, Nat.reduceEqDiff, Option.map_some, Option.map_none, Option.bind_some, List.map_cons, List.map_nil, List.getD_cons_zero, List.getD_cons_succ, List.getElem?_toArray, List.getElem?_cons_zero, List.getElem?_cons_succ, eq_self, beq_self_eq_true, goH, List.append_nil, List.nil_append, res46, row5_cells, row5_0, row5_1, row5_2, row5_3, row5_4, fa26_0, fa26_1, fa26_2, fa26_3, fa26_4, len_push, *] | (refine guard_dec (fun _ => ?_) (fun _ => ?_) <;> try (exfalso; omega)) | (refine guard_ndec (fun _ => ?_) (fun _ => ?_) <;> try (exfalso; omega)) | (refine branch_dec (fun _ => ?_) (fun _ => ?_) <;> try (exfalso; omega)) | (refine branch_ndec (fun _ => ?_) (fun _ => ?_) <;> try (exfalso; omega)) | refine run_draw (by kernel_rfl) ?_ | refine guard_nbool (fun _ => ?_) (fun _ => ?_) | refine branch_nbool (fun _ => ?_) (fun _ => ?_) | refine guard_bool (fun _ => ?_) (fun _ => ?_) | refine branch_bool (fun _ => ?_) (fun _ => ?_))
      all_goals first
        | (refine answerX ?_ ((Ext.push h _).trans (.push _ _)); symm; refine sameE_no ?_; intro q; rw [Ex.mk.injEq] at q; obtain ⟨q1, q2, q3, q4, q5⟩ := q; exact kall.out ⟨by first | exact q1 | assumption, by first | exact q2 | assumption, by first | exact q3 | assumption, by first | exact q4 | assumption, by rw [q5]⟩)
        | (exfalso; exact hno ⟨by assumption, by assumption, by assumption, by assumption, by first | assumption | omega⟩)
end Go.Proofs.YtilmhlbjjfgeoaaDoor
end

section
namespace Go.Proofs.YtilmhlbjjfgeoaaDoor
open Go.AE Go.Lex Go.Pol
/-! ### Lists of texts -/
def strs (l : List (List UInt8)) : List (List AV) := l.map fun s => [.v (.string (bs s))]
theorem strs_len (l : List (List UInt8)) : (strs l).length = l.length := by simp [strs]
theorem strs_get (l : List (List UInt8)) (i : Nat) : (strs l)[i]? = (l[i]?).map fun s => [.v (.string (bs s))] := by simp [strs]
theorem cell_one (x : AV) : (([x] : List AV).drop 0).head? = some x := rfl
theorem answer2 {b c : Bool} {h : Heap} (hb : b = c) : (some (Res.ret (AV.v (.bool b)), h) : Option (Res × Heap)) = some (.ret (.v (.bool c)), h) := by rw [hb]
theorem res45 : Tryd.f45.results.toList = [.tmp 4] := by kernel_rfl
theorem res66 : Tryd.f66.results.toList = [.tmp 4] := by kernel_rfl
set_option maxHeartbeats 4000000 in
set_option maxRecDepth 100000 in
theorem sameTexts_ev (k k' : Tok) (sz sz' : Nat) (a b : List (List UInt8)) (hz : ∀ i : Nat, i < a.length → sz = 1) (hz' : ∀ i : Nat, i < b.length → sz' = 1) (ha : a.length ≤ 9223372036854775807) (h : Heap) :
    W.call 45 [.list k sz (strs a), .list k' sz' (strs b)] h = some (.ret (.v (.bool (decide (a = b)))), h) := by
  have u9 := Tryd.underlying9; have u22 := Tryd.underlying22; have a9 := ag9; have s9 := sz9
  refine call_of_run rfl Tryd.func45 rfl ?_
  by_cases hab : a.length = b.length
  · repeat' (first | (simp (config := { maxSteps := 4000000 }) (disch := first | assumption | omega | (simp only [List.length_cons, List.length_nil, List.length_append] <;> omega)) only [goS, plainEv, resultsEv, resultListEv, reduceIte, Nat.reduceEqDiff, Option.map_some, Option.map_none, Option.bind_some, List.map_cons, List.map_nil, List.getD_cons_zero, List.getD_cons_succ, List.getElem?_toArray, List.getElem?_cons_zero, List.getElem?_cons_succ, eq_self, beq_self_eq_true, res45, strs_len, *]; done) | simp (config := { maxSteps := 4000000 }) (disch := first | assumption | omega | (simp only [List.length_cons, List.length_nil, List.length_append]; omega)) only [goS, plainEv, resultsEv, resultListEv, reduceIte, Nat.reduceEqDiff, Option.map_some, Option.map_none, Option.bind_some, List.map_cons, List.map_nil, List.getD_cons_zero, List.getD_cons_succ, List.getElem?_toArray, List.getElem?_cons_zero, List.getElem?_cons_succ, eq_self, beq_self_eq_true, res45, strs_len, *] | (refine guard_dec (fun _ => ?_) (fun _ => ?_) <;> try (exfalso; omega)) | (refine guard_ndec (fun _ => ?_) (fun _ => ?_) <;> try (exfalso; omega)) | (refine branch_dec (fun _ => ?_) (fun _ => ?_) <;> try (exfalso; omega)) | (refine branch_ndec (fun _ => ?_) (fun _ => ?_) <;> try (exfalso; omega)) | refine run_draw (by kernel_rfl) ?_ | refine guard_nbool (fun _ => ?_) (fun _ => ?_) | refine branch_nbool (fun _ => ?_) (fun _ => ?_) | refine guard_bool (fun _ => ?_) (fun _ => ?_) | refine branch_bool (fun _ => ?_) (fun _ => ?_))
    refine run_loop (fun m e h' => ∃ i : Nat, i ≤ a.length ∧ m = a.length - i ∧ e.get 0 = .list k sz (strs a) ∧ e.get 1 = .list k' sz' (strs b) ∧ e.get 5 = .v (.int .i64 i) ∧ e.defers = [] ∧ h' = h ∧ ∀ j, j < i → a[j]? = b[j]?) ?_ a.length _ _ ?_
    · rintro m e h' ⟨i, hi, rfl, g0, g1, g5, hd, rfl, hno⟩
      have kno := Keep.mk hno
      clear hno
      by_cases hlt : i < a.length
      · obtain ⟨x, hx⟩ : ∃ t, a[i]? = some t := ⟨_, List.getElem?_eq_getElem hlt⟩
        obtain ⟨y, hy⟩ : ∃ t, b[i]? = some t := ⟨_, List.getElem?_eq_getElem (by omega)⟩
        obtain rfl := hz i hlt
        obtain rfl := hz' i (by omega)
        have hlt3 : (i : Int) < ((strs a).length : Int) := by rw [strs_len]; omega
        have hlt4 : (i : Int) < ((strs b).length : Int) := by rw [strs_len]; omega
        have kab := Keep.mk hab
        clear hab
        repeat' (first | (simp (config := { maxSteps := 4000000 }) (disch := first | assumption | omega | (simp only [List.length_cons, List.length_nil, List.length_append] <;> omega)) only [goS, plainEv, resultsEv, resultListEv, reduceIte, Nat.reduceEqDiff, Option.map_some, Option.map_none, Option.bind_some, List.map_cons, List.map_nil, List.getD_cons_zero, List.getD_cons_succ, List.getElem?_toArray, List.getElem?_cons_zero, List.getElem?_cons_succ, eq_self, beq_self_eq_true, res45, strs_len, strs_get, index_list, load_row, cell_one, *]; done) | simp (config := { maxSteps := 4000000 }) (disch := first | assumption | omega | (simp only [List.length_cons, List.length_nil, List.length_append]; omega)) only [goS, plainEv, resultsEv, resultListEv, reduceIte, Nat.reduceEqDiff, Option.map_some, Option.map_none, Option.bind_some, List.map_cons, List.map_nil, List.getD_cons_zero, List.getD_cons_succ, List.getElem?_toArray, List.getElem?_cons_zero, List.getElem?_cons_succ, eq_self, beq_self_eq_true, res45, strs_len, strs_get, index_list, load_row, cell_one, *] | (refine guard_dec (fun _ => ?_) (fun _ => ?_) <;> try (exfalso; omega)) | (refine guard_ndec (fun _ => ?_) (fun _ => ?_) <;> try (exfalso; omega)) | (refine branch_dec (fun _ => ?_) (fun _ => ?_) <;> try (exfalso; omega)) | (refine branch_ndec (fun _ => ?_) (fun _ => ?_) <;> try (exfalso; omega)) | refine run_draw (by kernel_rfl) ?_ | refine guard_nbool (fun _ => ?_) (fun _ => ?_) | refine branch_nbool (fun _ => ?_) (fun _ => ?_) | refine guard_bool (fun _ => ?_) (fun _ => ?_) | refine branch_bool (fun _ => ?_) (fun _ => ?_))
        · rename_i hxy
          refine ⟨a.length - (i + 1), by omega, i + 1, by omega, rfl, (by first | trivial | (simp; done) | (simp; omega)), (by first | trivial | (simp; done) | (simp; omega)), (by first | trivial | (simp; done) | (simp; omega)), (by first | trivial | (simp; done) | (simp; omega)), (by first | trivial | (simp; done) | (simp; omega)), fun j hj => ?_⟩
          rcases Nat.lt_or_ge j i with q | q
          · exact kno.out j q
          · have : j = i := by omega
            subst this
            rw [hx, hy, hxy]
        · rename_i hxy
          refine answer2 ?_
          symm
          rw [decide_eq_false_iff_not]
          rintro rfl
          rw [hx] at hy
          injection hy with hy
          exact hxy hy
      · have hie : i = a.length := by omega
        have kab := Keep.mk hab
        have hge : ¬ ((i : Int) < (a.length : Int)) := by omega
        clear hab
        repeat' (first | (simp (config := { maxSteps := 4000000 }) (disch := first | assumption | omega | (simp only [List.length_cons, List.length_nil, List.length_append] <;> omega)) only [goS, plainEv, resultsEv, resultListEv, reduceIte, Nat.reduceEqDiff, Option.map_some, Option.map_none, Option.bind_some, List.map_cons, List.map_nil, List.getD_cons_zero, List.getD_cons_succ, List.getElem?_toArray, List.getElem?_cons_zero, List.getElem?_cons_succ, eq_self, beq_self_eq_true, res45, strs_len, *]; done) | simp (config := { maxSteps := 4000000 }) (disch := first | assumption | omega | (simp only [List.length_cons, List.length_nil, List.length_append]; omega)) only [goS, plainEv, resultsEv, resultListEv, reduceIte, Nat.reduceEqDiff, Option.map_some, Option.map_none, Option.bind_some, List.map_cons, List.map_nil, List.getD_cons_zero, List.getD_cons_succ, List.getElem?_toArray, List.getElem?_cons_zero, List.getElem?_cons_succ, eq_self, beq_self_eq_true, res45, strs_len, *] | (refine guard_dec (fun _ => ?_) (fun _ => ?_) <;> try (exfalso; omega)) | (refine guard_ndec (fun _ => ?_) (fun _ => ?_) <;> try (exfalso; omega)) | (refine branch_dec (fun _ => ?_) (fun _ => ?_) <;> try (exfalso; omega)) | (refine branch_ndec (fun _ => ?_) (fun _ => ?_) <;> try (exfalso; omega)) | refine run_draw (by kernel_rfl) ?_ | refine guard_nbool (fun _ => ?_) (fun _ => ?_) | refine branch_nbool (fun _ => ?_) (fun _ => ?_) | refine guard_bool (fun _ => ?_) (fun _ => ?_) | refine branch_bool (fun _ => ?_) (fun _ => ?_))
        refine answer2 ?_
        symm
        rw [decide_eq_true_eq]
        refine List.ext_getElem? fun j => ?_
        have := kab.out
        rcases Nat.lt_or_ge j a.length with q | q
        · exact kno.out j (by omega)
        · rw [List.getElem?_eq_none q, List.getElem?_eq_none (by omega)]
    · refine ⟨0, Nat.zero_le _, rfl, ?_, ?_, ?_, ?_, rfl, fun j hj => absurd hj (Nat.not_lt_zero j)⟩ <;> simp only [goS, plainEv, resultsEv, resultListEv, reduceIte, Nat.reduceEqDiff, Option.map_some, Option.map_none, Option.bind_some, List.map_cons, List.map_nil, List.getD_cons_zero, List.getD_cons_succ, List.getElem?_toArray, List.getElem?_cons_zero, List.getElem?_cons_succ, eq_self, beq_self_eq_true] <;> rfl
  · repeat' (first | (simp (config := { maxSteps := 4000000 }) (disch := first | assumption | omega | (simp only [List.length_cons, List.length_nil, List.length_append] <;> omega)) only [goS, plainEv, resultsEv, resultListEv, reduceIte, Nat.reduceEqDiff, Option.map_some, Option.map_none, Option.bind_some, List.map_cons, List.map_nil, List.getD_cons_zero, List.getD_cons_succ, List.getElem?_toArray, List.getElem?_cons_zero, List.getElem?_cons_succ, eq_self, beq_self_eq_true, res45, strs_len, *]; done) | simp (config := { maxSteps := 4000000 }) (disch := first | assumption | omega | (simp only [List.length_cons, List.length_nil, List.length_append]; omega)) only [goS, plainEv, resultsEv, resultListEv, reduceIte, Nat.reduceEqDiff, Option.map_some, Option.map_none, Option.bind_some, List.map_cons, List.map_nil, List.getD_cons_zero, List.getD_cons_succ, List.getElem?_toArray, List.getElem?_cons_zero, List.getElem?_cons_succ, eq_self, beq_self_eq_true, res45, strs_len, *] | (refine guard_dec (fun _ => ?_) (fun _ => ?_) <;> try (exfalso; omega)) | (refine guard_ndec (fun _ => ?_) (fun _ => ?_) <;> try (exfalso; omega)) | (refine branch_dec (fun _ => ?_) (fun _ => ?_) <;> try (exfalso; omega)) | (refine branch_ndec (fun _ => ?_) (fun _ => ?_) <;> try (exfalso; omega)) | refine run_draw (by kernel_rfl) ?_ | refine guard_nbool (fun _ => ?_) (fun _ => ?_) | refine branch_nbool (fun _ => ?_) (fun _ => ?_) | refine guard_bool (fun _ => ?_) (fun _ => ?_) | refine branch_bool (fun _ => ?_) (fun _ => ?_))
    refine answer2 ?_
    symm
    rw [decide_eq_false_iff_not]
    rintro rfl
    exact hab rfl
end Go.Proofs.YtilmhlbjjfgeoaaDoor
end

section
namespace Go.Proofs.YtilmhlbjjfgeoaaDoor
open Go.AE Go.Lex Go.Pol
/-! ### Few -/
def fewE (x : Ex) : Bool := decide (parts x 400 ≤ 60) || (decide (256 < parts x 400) && decide (parts x 400 ≤ 300))
def fewN (l : List (List UInt8)) (most : Int) : Bool := !((decide (10 < l.length) && decide ((l.length : Int) ≤ most)) || decide (60 < l.length)) && l.all fun s => decide (s.length ≤ 60)
theorem res34 : Tryd.f34.results.toList = [.tmp 2] := by kernel_rfl
theorem answerY {b c : Bool} {h : Heap} {Post : Heap → Prop} (hb : b = c) (hp : Post h) : ∃ h', (some (Res.ret (AV.v (.bool b)), h) : Option (Res × Heap)) = some (.ret (.v (.bool c)), h') ∧ Post h' := ⟨h, by rw [hb], hp⟩
set_option maxHeartbeats 4000000 in
set_option maxRecDepth 100000 in
theorem fewE_ev (x : Ex) (row : List AV) (hr : Row x row) (h : Heap) : Says W 34 [.agg row] h (.ret (.v (.bool (fewE x)))) := by
  obtain ⟨h2, hc, hx2⟩ := parts_ev x row hr 400 (by omega) (by omega) (h.push row)
  obtain ⟨tok, sz, rows, rfl, -, -, -⟩ := Row.five hr
  have a26 := ag26; have s26 := sz26
  have kx := Keep.mk ((Ext.push h _).trans hx2)
  have rl : (row5 x.kind x.n x.no x.name tok sz rows).length = 5 := rfl
  clear hx2 hr
  refine call_ex rfl Tryd.func34 rfl ?_
  repeat' (first | simp (config := { maxSteps := 4000000 }) (disch := first | assumption | (exact Nat.le_refl _) | omega | (simp only [List.length_cons, List.length_nil, List.length_append, push_len, put_len, len_app] <;> omega) | (simp (disch := (first | assumption | omega | (exact (push_len _ _).symm) | (simp only [push_len, put_len, len_app]; omega) | (refine Nat.le_antisymm ?_ ?_ <;> simp only [push_len, put_len, len_app] <;> omega) | fail)) only [get_push_last, get_push_eq, get_push_ne, get_put_eq, get_put_ne, get_app] <;> first | assumption | rfl) | (simp only [canApp_push, canApp_put]; assumption) | (exact start_round _ _) | (simp only [st_round, dfr_round, pn_round]; first | assumption | exact start_round _ _) | fail) only [goS, plainEv, resultsEv, resultListEv, reduceIte, Nat.reduceEqDiff, Option.map_some, Option.map_none, Option.bind_some, List.map_cons, List.map_nil, List.getD_cons_zero, List.getD_cons_succ, List.getElem?_toArray, List.getElem?_cons_zero, List.getElem?_cons_succ, eq_self, beq_self_eq_true, goH, List.append_nil, List.nil_append, res34, row5_cells, row5_all, *] | (refine guard_dec (fun _ => ?_) (fun _ => ?_) <;> try (exfalso; omega)) | (refine guard_ndec (fun _ => ?_) (fun _ => ?_) <;> try (exfalso; omega)) | (refine branch_dec (fun _ => ?_) (fun _ => ?_) <;> try (exfalso; omega)) | (refine branch_ndec (fun _ => ?_) (fun _ => ?_) <;> try (exfalso; omega)) | refine run_draw (by kernel_rfl) ?_ | refine guard_nbool (fun _ => ?_) (fun _ => ?_) | refine branch_nbool (fun _ => ?_) (fun _ => ?_) | refine guard_bool (fun _ => ?_) (fun _ => ?_) | refine branch_bool (fun _ => ?_) (fun _ => ?_))
  all_goals
    refine answerY ?_ kx.out
    simp_all [fewE]
    try (intros; omega)
theorem res33' : Tryd.f33.results.toList = [.tmp 4] := by kernel_rfl
set_option maxHeartbeats 4000000 in
set_option maxRecDepth 100000 in
theorem fewN_ev (k : Tok) (sz : Nat) (l : List (List UInt8)) (most : Int) (hz : ∀ i : Nat, i < l.length → sz = 1) (hl : l.length ≤ 9223372036854775807) (h : Heap) : W.call 33 [.list k sz (strs l), .v (.int .i64 most)] h = some (.ret (.v (.bool (fewN l most))), h) := by
  have u9 := Tryd.underlying9; have u22 := Tryd.underlying22; have a9 := ag9; have s9 := sz9
  refine call_of_run rfl Tryd.func33 rfl ?_
  by_cases hbad : (10 < l.length ∧ (l.length : Int) ≤ most) ∨ 60 < l.length
  · repeat' (first | (simp (config := { maxSteps := 4000000 }) (disch := first | assumption | omega | (simp only [List.length_cons, List.length_nil, List.length_append] <;> omega)) only [goS, plainEv, resultsEv, resultListEv, reduceIte, Nat.reduceEqDiff, Option.map_some, Option.map_none, Option.bind_some, List.map_cons, List.map_nil, List.getD_cons_zero, List.getD_cons_succ, List.getElem?_toArray, List.getElem?_cons_zero, List.getElem?_cons_succ, eq_self, beq_self_eq_true, res33', strs_len, *]; done) | simp (config := { maxSteps := 4000000 }) (disch := first | assumption | omega | (simp only [List.length_cons, List.length_nil, List.length_append]; omega)) only [goS, plainEv, resultsEv, resultListEv, reduceIte, Nat.reduceEqDiff, Option.map_some, Option.map_none, Option.bind_some, List.map_cons, List.map_nil, List.getD_cons_zero, List.getD_cons_succ, List.getElem?_toArray, List.getElem?_cons_zero, List.getElem?_cons_succ, eq_self, beq_self_eq_true, res33', strs_len, *] | (refine guard_dec (fun _ => ?_) (fun _ => ?_) <;> try (exfalso; omega)) | (refine guard_ndec (fun _ => ?_) (fun _ => ?_) <;> try (exfalso; omega)) | (refine branch_dec (fun _ => ?_) (fun _ => ?_) <;> try (exfalso; omega)) | (refine branch_ndec (fun _ => ?_) (fun _ => ?_) <;> try (exfalso; omega)) | refine run_draw (by kernel_rfl) ?_ | refine guard_nbool (fun _ => ?_) (fun _ => ?_) | refine branch_nbool (fun _ => ?_) (fun _ => ?_) | refine guard_bool (fun _ => ?_) (fun _ => ?_) | refine branch_bool (fun _ => ?_) (fun _ => ?_))
    all_goals
      refine answer2 ?_
      simp [fewN]
      omega
  · repeat' (first | (simp (config := { maxSteps := 4000000 }) (disch := first | assumption | omega | (simp only [List.length_cons, List.length_nil, List.length_append] <;> omega)) only [goS, plainEv, resultsEv, resultListEv, reduceIte, Nat.reduceEqDiff, Option.map_some, Option.map_none, Option.bind_some, List.map_cons, List.map_nil, List.getD_cons_zero, List.getD_cons_succ, List.getElem?_toArray, List.getElem?_cons_zero, List.getElem?_cons_succ, eq_self, beq_self_eq_true, res33', strs_len, *]; done) | simp (config := { maxSteps := 4000000 }) (disch := first | assumption | omega | (simp only [List.length_cons, List.length_nil, List.length_append]; omega)) only [goS, plainEv, resultsEv, resultListEv, reduceIte, Nat.reduceEqDiff, Option.map_some, Option.map_none, Option.bind_some, List.map_cons, List.map_nil, List.getD_cons_zero, List.getD_cons_succ, List.getElem?_toArray, List.getElem?_cons_zero, List.getElem?_cons_succ, eq_self, beq_self_eq_true, res33', strs_len, *] | (refine guard_dec (fun _ => ?_) (fun _ => ?_) <;> try (exfalso; omega)) | (refine guard_ndec (fun _ => ?_) (fun _ => ?_) <;> try (exfalso; omega)) | (refine branch_dec (fun _ => ?_) (fun _ => ?_) <;> try (exfalso; omega)) | (refine branch_ndec (fun _ => ?_) (fun _ => ?_) <;> try (exfalso; omega)) | refine run_draw (by kernel_rfl) ?_ | refine guard_nbool (fun _ => ?_) (fun _ => ?_) | refine branch_nbool (fun _ => ?_) (fun _ => ?_) | refine guard_bool (fun _ => ?_) (fun _ => ?_) | refine branch_bool (fun _ => ?_) (fun _ => ?_))
    all_goals
      refine run_loop (fun m e h' => ∃ i : Nat, i ≤ l.length ∧ m = l.length - i ∧ e.get 0 = .list k sz (strs l) ∧ e.get 5 = .v (.int .i64 i) ∧ e.defers = [] ∧ h' = h ∧ ∀ s ∈ l.take i, s.length ≤ 60) ?_ l.length _ _ ?_
      · rintro m e h' ⟨i, hi, rfl, g0, g5, hd, rfl, hno⟩
        have kno := Keep.mk hno
        clear hno
        by_cases hlt : i < l.length
        · obtain ⟨x, hx⟩ : ∃ t, l[i]? = some t := ⟨_, List.getElem?_eq_getElem hlt⟩
          obtain rfl := hz i hlt
          have hlt3 : (i : Int) < ((strs l).length : Int) := by rw [strs_len]; omega
          repeat' (first | (simp (config := { maxSteps := 4000000 }) (disch := first | assumption | omega | (simp only [List.length_cons, List.length_nil, List.length_append] <;> omega)) only [goS, plainEv, resultsEv, resultListEv, reduceIte, Nat.reduceEqDiff, Option.map_some, Option.map_none, Option.bind_some, List.map_cons, List.map_nil, List.getD_cons_zero, List.getD_cons_succ, List.getElem?_toArray, List.getElem?_cons_zero, List.getElem?_cons_succ, eq_self, beq_self_eq_true, res33', strs_len, strs_get, index_list, load_row, cell_one, bs_size, *]; done) | simp (config := { maxSteps := 4000000 }) (disch := first | assumption | omega | (simp only [List.length_cons, List.length_nil, List.length_append]; omega)) only [goS, plainEv, resultsEv, resultListEv, reduceIte, Nat.reduceEqDiff, Option.map_some, Option.map_none, Option.bind_some, List.map_cons, List.map_nil, List.getD_cons_zero, List.getD_cons_succ, List.getElem?_toArray, List.getElem?_cons_zero, List.getElem?_cons_succ, eq_self, beq_self_eq_true, res33', strs_len, strs_get, index_list, load_row, cell_one, bs_size, *] | (refine guard_dec (fun _ => ?_) (fun _ => ?_) <;> try (exfalso; omega)) | (refine guard_ndec (fun _ => ?_) (fun _ => ?_) <;> try (exfalso; omega)) | (refine branch_dec (fun _ => ?_) (fun _ => ?_) <;> try (exfalso; omega)) | (refine branch_ndec (fun _ => ?_) (fun _ => ?_) <;> try (exfalso; omega)) | refine run_draw (by kernel_rfl) ?_ | refine guard_nbool (fun _ => ?_) (fun _ => ?_) | refine branch_nbool (fun _ => ?_) (fun _ => ?_) | refine guard_bool (fun _ => ?_) (fun _ => ?_) | refine branch_bool (fun _ => ?_) (fun _ => ?_))
          · refine answer2 ?_
            symm
            have : l.all (fun s => decide (s.length ≤ 60)) = false := by
              rw [Bool.eq_false_iff]
              intro ha
              have := List.all_eq_true.1 ha x (List.mem_of_getElem? hx)
              simp at this
              omega
            simp [fewN, this]
          · refine ⟨l.length - (i + 1), by omega, i + 1, by omega, rfl, (by first | trivial | (simp; done) | (simp; omega)), (by first | trivial | (simp; done) | (simp; omega)), (by first | trivial | (simp; done) | (simp; omega)), (by first | trivial | (simp; done) | (simp; omega)), fun s hs => ?_⟩
            obtain ⟨hj, rfl⟩ := List.getElem?_eq_some_iff.1 hx
            rw [List.take_succ_eq_append_getElem hj] at hs
            rcases List.mem_append.1 hs with q | q
            · exact kno.out s q
            · simp at q; subst q; omega
        · have hie : i = l.length := by omega
          subst hie
          repeat' (first | (simp (config := { maxSteps := 4000000 }) (disch := first | assumption | omega | (simp only [List.length_cons, List.length_nil, List.length_append] <;> omega)) only [goS, plainEv, resultsEv, resultListEv, reduceIte, Nat.reduceEqDiff, Option.map_some, Option.map_none, Option.bind_some, List.map_cons, List.map_nil, List.getD_cons_zero, List.getD_cons_succ, List.getElem?_toArray, List.getElem?_cons_zero, List.getElem?_cons_succ, eq_self, beq_self_eq_true, res33', strs_len, *]; done) | simp (config := { maxSteps := 4000000 }) (disch := first | assumption | omega | (simp only [List.length_cons, List.length_nil, List.length_append]; omega)) only [goS, plainEv, resultsEv, resultListEv, reduceIte, Nat.reduceEqDiff, Option.map_some, Option.map_none, Option.bind_some, List.map_cons, List.map_nil, List.getD_cons_zero, List.getD_cons_succ, List.getElem?_toArray, List.getElem?_cons_zero, List.getElem?_cons_succ, eq_self, beq_self_eq_true, res33', strs_len, *] | (refine guard_dec (fun _ => ?_) (fun _ => ?_) <;> try (exfalso; omega)) | (refine guard_ndec (fun _ => ?_) (fun _ => ?_) <;> try (exfalso; omega)) | (refine branch_dec (fun _ => ?_) (fun _ => ?_) <;> try (exfalso; omega)) | (refine branch_ndec (fun _ => ?_) (fun _ => ?_) <;> try (exfalso; omega)) | refine run_draw (by kernel_rfl) ?_ | refine guard_nbool (fun _ => ?_) (fun _ => ?_) | refine branch_nbool (fun _ => ?_) (fun _ => ?_) | refine guard_bool (fun _ => ?_) (fun _ => ?_) | refine branch_bool (fun _ => ?_) (fun _ => ?_))
          refine answer2 ?_
          symm
          have hall : l.all (fun s => decide (s.length ≤ 60)) = true := List.all_eq_true.2 fun s hs => decide_eq_true (kno.out s (by rw [List.take_length]; exact hs))
          simp only [fewN, hall, Bool.and_true]
          simp
          omega
      · refine ⟨0, Nat.zero_le _, rfl, ?_, ?_, ?_, rfl, fun s hs => by simp at hs⟩ <;> simp only [goS, plainEv, resultsEv, resultListEv, reduceIte, Nat.reduceEqDiff, Option.map_some, Option.map_none, Option.bind_some, List.map_cons, List.map_nil, List.getD_cons_zero, List.getD_cons_succ, List.getElem?_toArray, List.getElem?_cons_zero, List.getElem?_cons_succ, eq_self, beq_self_eq_true] <;> rfl
end Go.Proofs.YtilmhlbjjfgeoaaDoor
end

section
namespace Go.Proofs.YtilmhlbjjfgeoaaDoor
open Go.AE Go.Lex Go.Pol
/-! ### Words, free names, indices -/
def words : List (List UInt8) := [[112, 111, 108, 105, 99, 121], [109, 111, 100, 101], [111, 108, 100], [110, 101, 119], [98, 111, 116, 104], [101, 105, 116, 104, 101, 114], [111, 102, 102, 105, 99, 101], [107, 105, 110, 100], [114, 117, 108, 101], [116, 104, 105, 110, 107], [99, 104, 97, 110, 103, 101], [115, 111, 109, 101], [119, 101, 105, 103, 104, 116], [111, 102], [117, 112, 116, 111], [101, 108, 115, 101]]
def wordB (s : List UInt8) : Bool := words.contains s
def freeB (s : List UInt8) : Bool := nameB s && !wordB s
theorem wordB_eq (s : List UInt8) : wordB s = decide (s = [112, 111, 108, 105, 99, 121] ∨ s = [109, 111, 100, 101] ∨ s = [111, 108, 100] ∨ s = [110, 101, 119] ∨ s = [98, 111, 116, 104] ∨ s = [101, 105, 116, 104, 101, 114] ∨ s = [111, 102, 102, 105, 99, 101] ∨ s = [107, 105, 110, 100] ∨ s = [114, 117, 108, 101] ∨ s = [116, 104, 105, 110, 107] ∨ s = [99, 104, 97, 110, 103, 101] ∨ s = [115, 111, 109, 101] ∨ s = [119, 101, 105, 103, 104, 116] ∨ s = [111, 102] ∨ s = [117, 112, 116, 111] ∨ s = [101, 108, 115, 101]) := by
  rw [Bool.eq_iff_iff, decide_eq_true_eq]
  simp [wordB, words]
theorem res71 : Tryd.f71.results.toList = [.tmp 2] := by kernel_rfl
theorem res62 : Tryd.f62.results.toList = [.tmp 2] := by kernel_rfl
set_option maxHeartbeats 4000000 in
set_option maxRecDepth 100000 in
theorem word_ev (s : List UInt8) (h : Heap) : W.call 71 [.v (.string (bs s))] h = some (.ret (.v (.bool (wordB s))), h) := by
  rw [wordB_eq]
  refine call_of_run rfl Tryd.func71 rfl ?_
  repeat' (first | (simp (config := { maxSteps := 4000000 }) (disch := first | assumption | omega | (simp only [List.length_cons, List.length_nil, List.length_append] <;> omega)) only [goS, plainEv, resultsEv, resultListEv, reduceIte, Nat.reduceEqDiff, Option.map_some, Option.map_none, Option.bind_some, List.map_cons, List.map_nil, List.getD_cons_zero, List.getD_cons_succ, List.getElem?_toArray, List.getElem?_cons_zero, List.getElem?_cons_succ, eq_self, beq_self_eq_true, res71, *]; done) | simp (config := { maxSteps := 4000000 }) (disch := first | assumption | omega | (simp only [List.length_cons, List.length_nil, List.length_append]; omega)) only [goS, plainEv, resultsEv, resultListEv, reduceIte, Nat.reduceEqDiff, Option.map_some, Option.map_none, Option.bind_some, List.map_cons, List.map_nil, List.getD_cons_zero, List.getD_cons_succ, List.getElem?_toArray, List.getElem?_cons_zero, List.getElem?_cons_succ, eq_self, beq_self_eq_true, res71, *] | (refine guard_dec (fun _ => ?_) (fun _ => ?_) <;> try (exfalso; omega)) | (refine guard_ndec (fun _ => ?_) (fun _ => ?_) <;> try (exfalso; omega)) | (refine branch_dec (fun _ => ?_) (fun _ => ?_) <;> try (exfalso; omega)) | (refine branch_ndec (fun _ => ?_) (fun _ => ?_) <;> try (exfalso; omega)) | refine run_draw (by kernel_rfl) ?_ | refine guard_nbool (fun _ => ?_) (fun _ => ?_) | refine branch_nbool (fun _ => ?_) (fun _ => ?_) | refine guard_bool (fun _ => ?_) (fun _ => ?_) | refine branch_bool (fun _ => ?_) (fun _ => ?_))
  all_goals
    refine answer2 ?_
    simp_all
set_option maxHeartbeats 4000000 in
set_option maxRecDepth 100000 in
theorem free_ev (s : List UInt8) (h : Heap) : W.call 62 [.v (.string (bs s))] h = some (.ret (.v (.bool (freeB s))), h) := by
  refine call_of_run rfl Tryd.func62 rfl ?_
  repeat' (first | (simp (config := { maxSteps := 4000000 }) (disch := first | assumption | omega | (simp only [List.length_cons, List.length_nil, List.length_append] <;> omega)) only [goS, plainEv, resultsEv, resultListEv, reduceIte, Nat.reduceEqDiff, Option.map_some, Option.map_none, Option.bind_some, List.map_cons, List.map_nil, List.getD_cons_zero, List.getD_cons_succ, List.getElem?_toArray, List.getElem?_cons_zero, List.getElem?_cons_succ, eq_self, beq_self_eq_true, res62, refName_ev, word_ev, *]; done) | simp (config := { maxSteps := 4000000 }) (disch := first | assumption | omega | (simp only [List.length_cons, List.length_nil, List.length_append]; omega)) only [goS, plainEv, resultsEv, resultListEv, reduceIte, Nat.reduceEqDiff, Option.map_some, Option.map_none, Option.bind_some, List.map_cons, List.map_nil, List.getD_cons_zero, List.getD_cons_succ, List.getElem?_toArray, List.getElem?_cons_zero, List.getElem?_cons_succ, eq_self, beq_self_eq_true, res62, refName_ev, word_ev, *] | (refine guard_dec (fun _ => ?_) (fun _ => ?_) <;> try (exfalso; omega)) | (refine guard_ndec (fun _ => ?_) (fun _ => ?_) <;> try (exfalso; omega)) | (refine branch_dec (fun _ => ?_) (fun _ => ?_) <;> try (exfalso; omega)) | (refine branch_ndec (fun _ => ?_) (fun _ => ?_) <;> try (exfalso; omega)) | refine run_draw (by kernel_rfl) ?_ | refine guard_nbool (fun _ => ?_) (fun _ => ?_) | refine branch_nbool (fun _ => ?_) (fun _ => ?_) | refine guard_bool (fun _ => ?_) (fun _ => ?_) | refine branch_bool (fun _ => ?_) (fun _ => ?_))
  all_goals
    refine answer2 ?_
    simp_all [freeB]
end Go.Proofs.YtilmhlbjjfgeoaaDoor
end

section
namespace Go.Proofs.YtilmhlbjjfgeoaaDoor
open Go.AE Go.Lex Go.Pol
/-- Where a text stands in a list; -1: nowhere. -/
def idx (l : List (List UInt8)) (s : List UInt8) : Int := Lib.idxOfS (l.map bs) (bs s)
theorem bs_inj {a b : List UInt8} (h : bs a = bs b) : a = b := by
  have := congrArg (fun x : ByteArray => x.data.toList) h
  simpa [bs] using this
theorem getD_bs {l : List (List UInt8)} {j : Nat} {t : List UInt8} (h : l[j]? = some t) : (l.map bs).getD j ByteArray.empty = bs t := by
  simp [List.getD, List.getElem?_map, h]
theorem idx_hit {l : List (List UInt8)} {s : List UInt8} {k : Nat} (hk : l[k]? = some s) (hno : ∀ j, j < k → l[j]? ≠ some s) : idx l s = k := by
  have hkl := (List.getElem?_eq_some_iff.1 hk).1
  have := Lib.idxFromS_hit (bs s) (l.map bs) k 0 (by simpa using hkl) (getD_bs hk) (fun j hj q => by
    have hjl : j < l.length := by omega
    rw [getD_bs (List.getElem?_eq_getElem hjl)] at q
    exact hno j hj (by rw [List.getElem?_eq_getElem hjl, bs_inj q]))
  rw [idx, Lib.idxOfS, this, Nat.zero_add]
theorem idx_miss {l : List (List UInt8)} {s : List UInt8} (hno : ∀ j, j < l.length → l[j]? ≠ some s) : idx l s = -1 :=
  Lib.idxFromS_miss (bs s) (l.map bs) 0 fun j hj q => by
    have hjl : j < l.length := by simpa using hj
    rw [getD_bs (List.getElem?_eq_getElem hjl)] at q
    exact hno j hjl (by rw [List.getElem?_eq_getElem hjl, bs_inj q])
theorem answerN {a b : Int} {h : Heap} (hb : a = b) : (some (Res.ret (AV.v (.int .i64 a)), h) : Option (Res × Heap)) = some (.ret (.v (.int .i64 b)), h) := by rw [hb]
set_option maxHeartbeats 4000000 in
set_option maxRecDepth 100000 in
theorem refIndex_ev (k : Tok) (sz : Nat) (l : List (List UInt8)) (s : List UInt8) (hz : ∀ i : Nat, i < l.length → sz = 1) (hl : l.length ≤ 9223372036854775807) (h : Heap) : W.call 66 [.list k sz (strs l), .v (.string (bs s))] h = some (.ret (.v (.int .i64 (idx l s))), h) := by
  have u9 := Tryd.underlying9; have u22 := Tryd.underlying22; have a9 := ag9; have s9 := sz9
  refine call_of_run rfl Tryd.func66 rfl ?_
  repeat' (first | (simp (config := { maxSteps := 4000000 }) (disch := first | assumption | omega | (simp only [List.length_cons, List.length_nil, List.length_append] <;> omega)) only [goS, plainEv, resultsEv, resultListEv, reduceIte, Nat.reduceEqDiff, Option.map_some, Option.map_none, Option.bind_some, List.map_cons, List.map_nil, List.getD_cons_zero, List.getD_cons_succ, List.getElem?_toArray, List.getElem?_cons_zero, List.getElem?_cons_succ, eq_self, beq_self_eq_true, res66, strs_len, *]; done) | simp (config := { maxSteps := 4000000 }) (disch := first | assumption | omega | (simp only [List.length_cons, List.length_nil, List.length_append]; omega)) only [goS, plainEv, resultsEv, resultListEv, reduceIte, Nat.reduceEqDiff, Option.map_some, Option.map_none, Option.bind_some, List.map_cons, List.map_nil, List.getD_cons_zero, List.getD_cons_succ, List.getElem?_toArray, List.getElem?_cons_zero, List.getElem?_cons_succ, eq_self, beq_self_eq_true, res66, strs_len, *] | (refine guard_dec (fun _ => ?_) (fun _ => ?_) <;> try (exfalso; omega)) | (refine guard_ndec (fun _ => ?_) (fun _ => ?_) <;> try (exfalso; omega)) | (refine branch_dec (fun _ => ?_) (fun _ => ?_) <;> try (exfalso; omega)) | (refine branch_ndec (fun _ => ?_) (fun _ => ?_) <;> try (exfalso; omega)) | refine run_draw (by kernel_rfl) ?_ | refine guard_nbool (fun _ => ?_) (fun _ => ?_) | refine branch_nbool (fun _ => ?_) (fun _ => ?_) | refine guard_bool (fun _ => ?_) (fun _ => ?_) | refine branch_bool (fun _ => ?_) (fun _ => ?_))
  refine run_loop (fun m e h' => ∃ i : Nat, i ≤ l.length ∧ m = l.length - i ∧ e.get 0 = .list k sz (strs l) ∧ e.get 1 = .v (.string (bs s)) ∧ e.get 5 = .v (.int .i64 i) ∧ e.defers = [] ∧ h' = h ∧ ∀ j, j < i → l[j]? ≠ some s) ?_ l.length _ _ ?_
  · rintro m e h' ⟨i, hi, rfl, g0, g1, g5, hd, rfl, hno⟩
    have kno := Keep.mk hno
    clear hno
    by_cases hlt : i < l.length
    · obtain ⟨x, hx⟩ : ∃ t, l[i]? = some t := ⟨_, List.getElem?_eq_getElem hlt⟩
      obtain rfl := hz i hlt
      have hlt3 : (i : Int) < ((strs l).length : Int) := by rw [strs_len]; omega
      repeat' (first | (simp (config := { maxSteps := 4000000 }) (disch := first | assumption | omega | (simp only [List.length_cons, List.length_nil, List.length_append] <;> omega)) only [goS, plainEv, resultsEv, resultListEv, reduceIte, Nat.reduceEqDiff, Option.map_some, Option.map_none, Option.bind_some, List.map_cons, List.map_nil, List.getD_cons_zero, List.getD_cons_succ, List.getElem?_toArray, List.getElem?_cons_zero, List.getElem?_cons_succ, eq_self, beq_self_eq_true, res66, strs_len, strs_get, index_list, load_row, cell_one, *]; done) | simp (config := { maxSteps := 4000000 }) (disch := first | assumption | omega | (simp only [List.length_cons, List.length_nil, List.length_append]; omega)) only [goS, plainEv, resultsEv, resultListEv, reduceIte, Nat.reduceEqDiff, Option.map_some, Option.map_none, Option.bind_some, List.map_cons, List.map_nil, List.getD_cons_zero, List.getD_cons_succ, List.getElem?_toArray, List.getElem?_cons_zero, List.getElem?_cons_succ, eq_self, beq_self_eq_true, res66, strs_len, strs_get, index_list, load_row, cell_one, *] | (refine guard_dec (fun _ => ?_) (fun _ => ?_) <;> try (exfalso; omega)) | (refine guard_ndec (fun _ => ?_) (fun _ => ?_) <;> try (exfalso; omega)) | (refine branch_dec (fun _ => ?_) (fun _ => ?_) <;> try (exfalso; omega)) | (refine branch_ndec (fun _ => ?_) (fun _ => ?_) <;> try (exfalso; omega)) | refine run_draw (by kernel_rfl) ?_ | refine guard_nbool (fun _ => ?_) (fun _ => ?_) | refine branch_nbool (fun _ => ?_) (fun _ => ?_) | refine guard_bool (fun _ => ?_) (fun _ => ?_) | refine branch_bool (fun _ => ?_) (fun _ => ?_))
      · rename_i hxy
        exact answerN (idx_hit (hxy ▸ hx) kno.out).symm
      · rename_i hxy
        refine ⟨l.length - (i + 1), by omega, i + 1, by omega, rfl, (by first | trivial | (simp; done) | (simp; omega)), (by first | trivial | (simp; done) | (simp; omega)), (by first | trivial | (simp; done) | (simp; omega)), (by first | trivial | (simp; done) | (simp; omega)), (by first | trivial | (simp; done) | (simp; omega)), fun j hj => ?_⟩
        rcases Nat.lt_or_ge j i with q | q
        · exact kno.out j q
        · have : j = i := by omega
          subst this
          rw [hx]
          intro q
          injection q with q
          exact hxy q
    · have hie : i = l.length := by omega
      subst hie
      repeat' (first | (simp (config := { maxSteps := 4000000 }) (disch := first | assumption | omega | (simp only [List.length_cons, List.length_nil, List.length_append] <;> omega)) only [goS, plainEv, resultsEv, resultListEv, reduceIte, Nat.reduceEqDiff, Option.map_some, Option.map_none, Option.bind_some, List.map_cons, List.map_nil, List.getD_cons_zero, List.getD_cons_succ, List.getElem?_toArray, List.getElem?_cons_zero, List.getElem?_cons_succ, eq_self, beq_self_eq_true, res66, strs_len, *]; done) | simp (config := { maxSteps := 4000000 }) (disch := first | assumption | omega | (simp only [List.length_cons, List.length_nil, List.length_append]; omega)) only [goS, plainEv, resultsEv, resultListEv, reduceIte, Nat.reduceEqDiff, Option.map_some, Option.map_none, Option.bind_some, List.map_cons, List.map_nil, List.getD_cons_zero, List.getD_cons_succ, List.getElem?_toArray, List.getElem?_cons_zero, List.getElem?_cons_succ, eq_self, beq_self_eq_true, res66, strs_len, *] | (refine guard_dec (fun _ => ?_) (fun _ => ?_) <;> try (exfalso; omega)) | (refine guard_ndec (fun _ => ?_) (fun _ => ?_) <;> try (exfalso; omega)) | (refine branch_dec (fun _ => ?_) (fun _ => ?_) <;> try (exfalso; omega)) | (refine branch_ndec (fun _ => ?_) (fun _ => ?_) <;> try (exfalso; omega)) | refine run_draw (by kernel_rfl) ?_ | refine guard_nbool (fun _ => ?_) (fun _ => ?_) | refine branch_nbool (fun _ => ?_) (fun _ => ?_) | refine guard_bool (fun _ => ?_) (fun _ => ?_) | refine branch_bool (fun _ => ?_) (fun _ => ?_))
      exact answerN (idx_miss kno.out).symm
  · refine ⟨0, Nat.zero_le _, rfl, ?_, ?_, ?_, ?_, rfl, fun j hj => absurd hj (Nat.not_lt_zero j)⟩ <;> simp only [goS, plainEv, resultsEv, resultListEv, reduceIte, Nat.reduceEqDiff, Option.map_some, Option.map_none, Option.bind_some, List.map_cons, List.map_nil, List.getD_cons_zero, List.getD_cons_succ, List.getElem?_toArray, List.getElem?_cons_zero, List.getElem?_cons_succ, eq_self, beq_self_eq_true] <;> rfl
end Go.Proofs.YtilmhlbjjfgeoaaDoor
end
