/-
 Layer 20 in plain Lean: expressions, rules and policies, and how they lie in memory. No program is in sight here.
-/
import Derived.Test.YtmdakolcndpjeaaGreatDoorE4
import Derived.Test.YtmdakolcndpjeaaGreatDoorSA
set_option linter.unusedSimpArgs false
set_option linter.unusedVariables false
set_option linter.constructorNameAsVariable false
section
namespace Go.Pol
open Go.AE

inductive Ex where
 | mk (kind n no : Int) (name : List UInt8) (l : List Ex)

def Ex.kind : Ex → Int | .mk k _ _ _ _ => k
def Ex.n : Ex → Int | .mk _ n _ _ _ => n
def Ex.no : Ex → Int | .mk _ _ i _ _ => i
def Ex.name : Ex → List UInt8 | .mk _ _ _ s _ => s
def Ex.l : Ex → List Ex | .mk _ _ _ _ l => l

theorem Ex.ind {p : Ex → Prop} (h : ∀ k n no name l, (∀ x ∈ l, p x) → p (.mk k n no name l)) : ∀ x, p x
 | .mk k n no name l => h k n no name l fun x hx => Ex.ind h x
termination_by x => SizeOf.sizeOf x
decreasing_by
 have := List.sizeOf_lt_of_mem hx
 simp
 omega

inductive Row : Ex → List AV → Prop
 | mk (k n no : Int) (name : List UInt8) (l : List Ex) (tok : Tok) (sz : Nat) (rows : List (List AV)) (hl : rows.length = l.length) (hsz : ∀ i : Nat, i < l.length → sz = 5) (hb : l.length ≤ 9223372036854775807)
  (h : ∀ (i : Nat) (x : Ex) (r : List AV), l[i]? = some x → rows[i]? = some r → Row x r) :
  Row (.mk k n no name l) [.v (.int .i64 k), .v (.int .i64 n), .v (.int .i64 no), .v (.string (bs name)), .list tok sz rows]

theorem Row.len {x : Ex} {r : List AV} (h : Row x r) : r.length = 5 := by cases h; rfl
def Rows (l : List Ex) (rows : List (List AV)) : Prop := rows.length = l.length ∧ ∀ (i : Nat) (x : Ex) (r : List AV), l[i]? = some x → rows[i]? = some r → Row x r
theorem Row.inv {x : Ex} {r : List AV} (h : Row x r) : ∃ tok sz rows, r = [.v (.int .i64 x.kind), .v (.int .i64 x.n), .v (.int .i64 x.no), .v (.string (bs x.name)), .list tok sz rows] ∧ Rows x.l rows ∧ (∀ i : Nat, i < x.l.length → sz = 5) ∧ x.l.length ≤ 9223372036854775807 := by
 cases h with
 | mk k n no name l tok sz rows hl hsz hb h => exact ⟨tok, sz, rows, rfl, ⟨hl, h⟩, hsz, hb⟩
theorem Rows.get {l : List Ex} {rows : List (List AV)} (h : Rows l rows) {i : Nat} (hi : i < l.length) : ∃ x r, l[i]? = some x ∧ rows[i]? = some r ∧ Row x r :=
 ⟨l[i], rows[i]'(by rw [h.1]; exact hi), List.getElem?_eq_getElem hi, List.getElem?_eq_getElem _, h.2 i _ _ (List.getElem?_eq_getElem hi) (List.getElem?_eq_getElem _)⟩
theorem Rows.nil : Rows [] [] := ⟨rfl, fun i x r h => by simp at h⟩
theorem Rows.snoc {l : List Ex} {rows : List (List AV)} (h : Rows l rows) {x : Ex} {r : List AV} (hx : Row x r) : Rows (l ++ [x]) (rows ++ [r]) := by
 refine ⟨by simp [h.1], fun i y s h1 h2 => ?_⟩
 rcases Nat.lt_or_ge i l.length with hi | hi
 ·rw [List.getElem?_append_left hi] at h1
  rw [List.getElem?_append_left (by rw [h.1]; exact hi)] at h2
  exact h.2 i y s h1 h2
 ·rw [List.getElem?_append_right hi] at h1
  rw [List.getElem?_append_right (by rw [h.1]; exact hi), h.1] at h2
  have hz : i - l.length = 0 := by
   have := (List.getElem?_eq_some_iff.1 h1).1
   simp at this
   omega
  rw [hz] at h1 h2
  simp at h1 h2
  subst h1; subst h2
  exact hx

mutual
def parts : Ex → Int → Int
 | .mk _ _ _ _ l, lim => partsL l 1 lim
def partsL : List Ex → Int → Int → Int
 | [], n, _ => n
 | x :: r, n, lim => if n ≤ lim then partsL r (n + parts x (lim - n)) lim else n
end
noncomputable def sameE (x y : Ex) : Bool := @decide (x = y) (Classical.propDecidable _)
theorem sameE_iff {x y : Ex} : sameE x y = true ↔ x = y := by unfold sameE; exact @decide_eq_true_iff _ (Classical.propDecidable _)
theorem sameE_no {x y : Ex} (h : x ≠ y) : sameE x y = false := by
 rw [Bool.eq_false_iff]
 exact fun q => h (sameE_iff.1 q)
theorem sameE_yes {x y : Ex} (h : x = y) : sameE x y = true := sameE_iff.2 h
end Go.Pol
end

section
namespace Go.Pol
open Go.AE
structure Rl where
 kind : List UInt8
 kindNo : Int
 think : Int
 expr : Ex
structure Po where
 name : List UInt8
 kinds : List (List UInt8)
 offices : List (List UInt8)
 rules : List Rl
 change : Ex
 mode : Int
def texts (l : List (List UInt8)) : List (List AV) := l.map fun s => [.v (.string (bs s))]
def RRow (x : Rl) (r : List AV) : Prop := ∃ e, Row x.expr e ∧ r = [.v (.string (bs x.kind)), .v (.int .i64 x.kindNo), .v (.int .i64 x.think)] ++ e
def RRows (l : List Rl) (rows : List (List AV)) : Prop := rows.length = l.length ∧ ∀ (i : Nat) (x : Rl) (r : List AV), l[i]? = some x → rows[i]? = some r → RRow x r
structure PRow (p : Po) (r : List AV) (tk to tr : Tok) (sk so sr : Nat) (rr : List (List AV)) (e : List AV) : Prop where
 row : r = [.v (.string (bs p.name)), .list tk sk (texts p.kinds), .list to so (texts p.offices), .list tr sr rr] ++ (e ++ [.v (.int .i64 p.mode)])
 expr : Row p.change e
 rules : RRows p.rules rr
 zk : ∀ i : Nat, i < p.kinds.length → sk = 1
 zo : ∀ i : Nat, i < p.offices.length → so = 1
 zr : ∀ i : Nat, i < p.rules.length → sr = 8
 bk : p.kinds.length ≤ 9223372036854775807
 bo : p.offices.length ≤ 9223372036854775807
 br : p.rules.length ≤ 9223372036854775807

section
variable {H : Type} {P : Program}
structure ExTys (P : Program) (tE tL : TypeId) : Prop where
 fields : structIs P tE [(3, 0), (3, 1), (3, 2), (9, 3), (tL, 4)] = true
 slice : P.underlying tL = some (.slice tE)
 int : P.underlying 3 = some (.int .i64)
 str : P.underlying 9 = some .string
 c3 : P.cellsOf 3 = 1
 c9 : P.cellsOf 9 = 1
 cE : P.cellsOf tE = 5
 cL : P.cellsOf tL = 1
end
end Go.Pol
end

section
namespace Go.Proofs.YtmdakolcndpjeaaGreatDoor
open Go.AE Go.Lex Go.Pol
set_option maxRecDepth 100000
theorem ag24 : isAggB Tryz.prog 24 = some false := by kernel_rfl
theorem ag26 : isAggB Tryz.prog 26 = some true := by kernel_rfl
theorem sz26 : sizeB Tryz.prog 26 = some 5 := by kernel_rfl
theorem fa26_0 (r : Ref) (off : Nat) : fieldAddrEv Tryz.prog 26 (.ptr r off) 0 = some (.ptr r (off + 0)) := by kernel_rfl
theorem fa26_1 (r : Ref) (off : Nat) : fieldAddrEv Tryz.prog 26 (.ptr r off) 1 = some (.ptr r (off + 1)) := by kernel_rfl
theorem fa26_2 (r : Ref) (off : Nat) : fieldAddrEv Tryz.prog 26 (.ptr r off) 2 = some (.ptr r (off + 2)) := by kernel_rfl
theorem fa26_3 (r : Ref) (off : Nat) : fieldAddrEv Tryz.prog 26 (.ptr r off) 3 = some (.ptr r (off + 3)) := by kernel_rfl
theorem fa26_4 (r : Ref) (off : Nat) : fieldAddrEv Tryz.prog 26 (.ptr r off) 4 = some (.ptr r (off + 4)) := by kernel_rfl
def row5 (k n no : Int) (s : List UInt8) (tok : Tok) (sz : Nat) (rows : List (List AV)) : List AV := [.v (.int .i64 k), .v (.int .i64 n), .v (.int .i64 no), .v (.string (bs s)), .list tok sz rows]
section
variable {k n no : Int} {s : List UInt8} {tok : Tok} {sz : Nat} {rows : List (List AV)}
theorem row5_cells : (AV.agg (row5 k n no s tok sz rows)).cellsO = some (row5 k n no s tok sz rows) := rfl
theorem row5_0 : ((row5 k n no s tok sz rows).drop 0).head? = some (.v (.int .i64 k)) := rfl
end
theorem Row.five {x : Ex} {r : List AV} (h : Row x r) : ∃ tok sz rows, r = row5 x.kind x.n x.no x.name tok sz rows ∧ Pol.Rows x.l rows ∧ (∀ i : Nat, i < x.l.length → sz = 5) ∧ x.l.length ≤ 9223372036854775807 := h.inv
def strs (l : List (List UInt8)) : List (List AV) := l.map fun s => [.v (.string (bs s))]
theorem strs_len (l : List (List UInt8)) : (strs l).length = l.length := by simp [strs]
theorem strs_get (l : List (List UInt8)) (i : Nat) : (strs l)[i]? = (l[i]?).map fun s => [.v (.string (bs s))] := by simp [strs]
theorem cell_one (x : AV) : (([x] : List AV).drop 0).head? = some x := rfl
mutual
def depthE : Ex → Nat
 | .mk _ _ _ _ l => depthL l + 1
def depthL : List Ex → Nat
 | [] => 0
 | x :: r => max (depthE x) (depthL r)
end
structure PT where
 tk : Tok
 sk : Nat
 to : Tok
 so : Nat
 tr : Tok
 sr : Nat
 rr : List (List AV)
 tok : Tok
 sz : Nat
 rows : List (List AV)
def p5 (p : Po) (t : PT) : List AV := row5 p.change.kind p.change.n p.change.no p.change.name t.tok t.sz t.rows
def prow (p : Po) (t : PT) : List AV := [.v (.string (bs p.name)), .list t.tk t.sk (strs p.kinds), .list t.to t.so (strs p.offices), .list t.tr t.sr t.rr, .v (.int .i64 p.change.kind), .v (.int .i64 p.change.n), .v (.int .i64 p.change.no), .v (.string (bs p.change.name)), .list t.tok t.sz t.rows, .v (.int .i64 p.mode)]
structure POk (p : Po) (t : PT) : Prop where
 rules : RRows p.rules t.rr
 expr : Row p.change (p5 p t)
 zk : ∀ i : Nat, i < p.kinds.length → t.sk = 1
 zo : ∀ i : Nat, i < p.offices.length → t.so = 1
 zr : ∀ i : Nat, i < p.rules.length → t.sr = 8
 bk : p.kinds.length ≤ 9223372036854775807
 bo : p.offices.length ≤ 9223372036854775807
 br : p.rules.length ≤ 9223372036854775807
def rrow (x : Rl) (tok : Tok) (sz : Nat) (rows : List (List AV)) : List AV := [.v (.string (bs x.kind)), .v (.int .i64 x.kindNo), .v (.int .i64 x.think), .v (.int .i64 x.expr.kind), .v (.int .i64 x.expr.n), .v (.int .i64 x.expr.no), .v (.string (bs x.expr.name)), .list tok sz rows]
def r5 (x : Rl) (tok : Tok) (sz : Nat) (rows : List (List AV)) : List AV := row5 x.expr.kind x.expr.n x.expr.no x.expr.name tok sz rows
theorem RRow.inv {x : Rl} {r : List AV} (h : RRow x r) : ∃ tok sz rows, r = rrow x tok sz rows ∧ Row x.expr (r5 x tok sz rows) := by
 obtain ⟨e, he, rfl⟩ := h
 obtain ⟨tok, sz, rows, rfl, -⟩ := Row.five he
 exact ⟨tok, sz, rows, rfl, he⟩
theorem RRow.mk {x : Rl} {tok : Tok} {sz : Nat} {rows : List (List AV)} (h : Row x.expr (r5 x tok sz rows)) : RRow x (rrow x tok sz rows) := ⟨_, h, rfl⟩
theorem RRows.nil : RRows [] [] := ⟨rfl, fun i x r h => by simp at h⟩
theorem RRows.snoc {l : List Rl} {rows : List (List AV)} (h : RRows l rows) {x : Rl} {r : List AV} (hx : RRow x r) : RRows (l ++ [x]) (rows ++ [r]) := by
 refine ⟨by simp [h.1], fun i y s h1 h2 => ?_⟩
 rcases Nat.lt_or_ge i l.length with hi | hi
 ·rw [List.getElem?_append_left hi] at h1
  rw [List.getElem?_append_left (by rw [h.1]; exact hi)] at h2
  exact h.2 i y s h1 h2
 ·rw [List.getElem?_append_right hi] at h1
  rw [List.getElem?_append_right (by rw [h.1]; exact hi), h.1] at h2
  have hz : i - l.length = 0 := by
   have := (List.getElem?_eq_some_iff.1 h1).1
   simp at this
   omega
  rw [hz] at h1 h2
  simp at h1 h2
  subst h1; subst h2
  exact hx
section
variable {p : Po} {t : PT} {x : Rl} {tok : Tok} {sz : Nat} {rows : List (List AV)}
theorem rrow_len : (rrow x tok sz rows).length = 8 := rfl
theorem rrow_fit8 : 8 ≤ ((rrow x tok sz rows).drop 0).length := by simp [rrow_len]
end
section
variable (r : Ref) (off : Nat) (es : List (List AV)) (i sz : Nat)
theorem fa28_0 : fieldAddrEv Tryz.prog 28 (.ptr r off) 0 = some (.ptr r (off + 0)) := by kernel_rfl
theorem fa28_1 : fieldAddrEv Tryz.prog 28 (.ptr r off) 1 = some (.ptr r (off + 1)) := by kernel_rfl
theorem fa28_2 : fieldAddrEv Tryz.prog 28 (.ptr r off) 2 = some (.ptr r (off + 2)) := by kernel_rfl
theorem fa28_3 : fieldAddrEv Tryz.prog 28 (.ptr r off) 3 = some (.ptr r (off + 3)) := by kernel_rfl
theorem fa28_4 : fieldAddrEv Tryz.prog 28 (.ptr r off) 4 = some (.ptr r (off + 4)) := by kernel_rfl
theorem fa28_5 : fieldAddrEv Tryz.prog 28 (.ptr r off) 5 = some (.ptr r (off + 9)) := by kernel_rfl
theorem fa62_0 : fieldAddrEv Tryz.prog 62 (.ptr r off) 0 = some (.ptr r (off + 0)) := by kernel_rfl
theorem fa62_1 : fieldAddrEv Tryz.prog 62 (.ptr r off) 1 = some (.ptr r (off + 1)) := by kernel_rfl
theorem fa62_2 : fieldAddrEv Tryz.prog 62 (.ptr r off) 2 = some (.ptr r (off + 2)) := by kernel_rfl
theorem fa62_3 : fieldAddrEv Tryz.prog 62 (.ptr r off) 3 = some (.ptr r (off + 3)) := by kernel_rfl
theorem fe62_3 : fieldAddrEv Tryz.prog 62 (.elem sz es i off) 3 = some (.elem sz es i (off + 3)) := by kernel_rfl
end
theorem fp28 : (∀ (r : Ref) (off : Nat), fieldAddrEv Tryz.prog 28 (.ptr r off) 0 = some (.ptr r (off + 0))) ∧ (∀ (r : Ref) (off : Nat), fieldAddrEv Tryz.prog 28 (.ptr r off) 1 = some (.ptr r (off + 1))) ∧ (∀ (r : Ref) (off : Nat), fieldAddrEv Tryz.prog 28 (.ptr r off) 2 = some (.ptr r (off + 2))) ∧ (∀ (r : Ref) (off : Nat), fieldAddrEv Tryz.prog 28 (.ptr r off) 3 = some (.ptr r (off + 3))) ∧
 (∀ (r : Ref) (off : Nat), fieldAddrEv Tryz.prog 28 (.ptr r off) 4 = some (.ptr r (off + 4))) ∧ (∀ (r : Ref) (off : Nat), fieldAddrEv Tryz.prog 28 (.ptr r off) 5 = some (.ptr r (off + 9))) := ⟨fa28_0, fa28_1, fa28_2, fa28_3, fa28_4, fa28_5⟩
theorem fp62 : (∀ (r : Ref) (off : Nat), fieldAddrEv Tryz.prog 62 (.ptr r off) 0 = some (.ptr r (off + 0))) ∧ (∀ (r : Ref) (off : Nat), fieldAddrEv Tryz.prog 62 (.ptr r off) 1 = some (.ptr r (off + 1))) ∧ (∀ (r : Ref) (off : Nat), fieldAddrEv Tryz.prog 62 (.ptr r off) 2 = some (.ptr r (off + 2))) ∧ (∀ (r : Ref) (off : Nat), fieldAddrEv Tryz.prog 62 (.ptr r off) 3 = some (.ptr r (off + 3))) ∧
 (∀ (sz : Nat) (es : List (List AV)) (i off : Nat), fieldAddrEv Tryz.prog 62 (.elem sz es i off) 3 = some (.elem sz es i (off + 3))) := ⟨fa62_0, fa62_1, fa62_2, fa62_3, fun sz es i off => fe62_3 off es i sz⟩
section
theorem prs : (∀ (p : Po) (t : PT), (AV.agg (prow p t)).cellsO = some (prow p t)) ∧ (∀ (p : Po) (t : PT), ((prow p t).drop 0).head? = some (.v (.string (bs p.name)))) ∧ (∀ (p : Po) (t : PT), ((prow p t).drop 1).head? = some (.list t.tk t.sk (strs p.kinds))) ∧ (∀ (p : Po) (t : PT), ((prow p t).drop 2).head? = some (.list t.to t.so (strs p.offices))) ∧
 (∀ (p : Po) (t : PT), ((prow p t).drop 3).head? = some (.list t.tr t.sr t.rr)) ∧ (∀ (p : Po) (t : PT), ((prow p t).drop 4).take 5 = p5 p t) ∧ (∀ (p : Po) (t : PT), ((prow p t).drop 9).head? = some (.v (.int .i64 p.mode))) ∧ (∀ (p : Po) (t : PT), ((prow p t).drop 0).take 10 = prow p t) :=
 ⟨fun _ _ => rfl, fun _ _ => rfl, fun _ _ => rfl, fun _ _ => rfl, fun _ _ => rfl, fun _ _ => rfl, fun _ _ => rfl, fun _ _ => rfl⟩
theorem rrs : (∀ (x : Rl) (tok : Tok) (sz : Nat) (rows : List (List AV)), (AV.agg (rrow x tok sz rows)).cellsO = some (rrow x tok sz rows)) ∧ (∀ (x : Rl) (tok : Tok) (sz : Nat) (rows : List (List AV)), ((rrow x tok sz rows).drop 0).head? = some (.v (.string (bs x.kind)))) ∧ (∀ (x : Rl) (tok : Tok) (sz : Nat) (rows : List (List AV)), ((rrow x tok sz rows).drop 1).head? = some (.v (.int .i64 x.kindNo))) ∧
 (∀ (x : Rl) (tok : Tok) (sz : Nat) (rows : List (List AV)), ((rrow x tok sz rows).drop 2).head? = some (.v (.int .i64 x.think))) ∧ (∀ (x : Rl) (tok : Tok) (sz : Nat) (rows : List (List AV)), ((rrow x tok sz rows).drop 3).take 5 = r5 x tok sz rows) ∧ (∀ (x : Rl) (tok : Tok) (sz : Nat) (rows : List (List AV)), ((rrow x tok sz rows).drop 0).take 8 = rrow x tok sz rows) :=
 ⟨fun _ _ _ _ => rfl, fun _ _ _ _ => rfl, fun _ _ _ _ => rfl, fun _ _ _ _ => rfl, fun _ _ _ _ => rfl, fun _ _ _ _ => rfl⟩
end
theorem sz28 : sizeB Tryz.prog 28 = some 10 := by kernel_rfl
theorem sz62 : sizeB Tryz.prog 62 = some 8 := by kernel_rfl
theorem sz22 : sizeB Tryz.prog 22 = some 1 := by kernel_rfl
theorem sz23 : sizeB Tryz.prog 23 = some 1 := by kernel_rfl
theorem sz24 : sizeB Tryz.prog 24 = some 1 := by kernel_rfl
theorem ag28 : isAggB Tryz.prog 28 = some true := by kernel_rfl
theorem ag62 : isAggB Tryz.prog 62 = some true := by kernel_rfl
theorem ag22 : isAggB Tryz.prog 22 = some false := by kernel_rfl
theorem ag23 : isAggB Tryz.prog 23 = some false := by kernel_rfl
mutual
def cnt : Ex → Nat
 | .mk _ _ _ _ l => cntL l + 1
def cntL : List Ex → Nat
 | [] => 0
 | x :: r => cnt x + cntL r
end
variable {α : Type}
theorem Row.got {x : Ex} {k n no : Int} {s : List UInt8} {tok : Tok} {sz : Nat} {rows : List (List AV)} (h : Row x (row5 k n no s tok sz rows)) : Pol.Rows x.l rows ∧ (∀ i : Nat, i < x.l.length → sz = 5) ∧ x.l.length ≤ 9223372036854775807 := by
 obtain ⟨tok', sz', rows', he, h1, h2, h3⟩ := Row.five h
 simp only [row5, List.cons.injEq, AV.list.injEq, and_true] at he
 obtain ⟨-, -, -, -, rfl, rfl, rfl⟩ := he
 exact ⟨h1, h2, h3⟩
theorem zc26 : (zeroA Tryz.prog 26).bind AV.cellsO = some (row5 0 0 0 [] .nil 0 []) := by kernel_rfl
section
variable {k n no d : Int} {s : List UInt8} {tok : Tok} {sz : Nat} {rows : List (List AV)}
end
theorem zc62 : (zeroA Tryz.prog 62).bind AV.cellsO = some (rrow ⟨[], 0, 0, .mk 0 0 0 [] []⟩ .nil 0 []) := by kernel_rfl
theorem sameRows_of : ∀ {rows : List (List AV)}, (∀ r ∈ rows, sameL r r = true) → sameRows rows rows = true := by
 intro rows
 induction rows with
 | nil => intro _; rfl
 | cons r rows ih =>
  intro h
  rw [sameRows, h r List.mem_cons_self, ih fun q hq => h q (List.mem_cons_of_mem _ hq)]
  rfl
theorem sameTok_refl (k : Tok) : sameTok k k = true := by cases k <;> simp [sameTok]
theorem Row.same : ∀ (x : Ex) (r : List AV), Row x r → sameL r r = true := by
 intro x
 induction x using Ex.ind with
 | h k n no name l ih =>
  intro r hr
  obtain ⟨tok, sz, rows, rfl, hrows, -, -⟩ := Row.five hr
  have : sameRows rows rows = true := sameRows_of fun q hq => by
   obtain ⟨i, hi, rfl⟩ := List.mem_iff_getElem.1 hq
   have hi' : i < l.length := by have := hrows.1; simp only [Ex.l] at this; omega
   exact ih l[i] (List.getElem_mem hi') _ (hrows.2 i _ _ (by simp only [Ex.l]; exact List.getElem?_eq_getElem hi') (List.getElem?_eq_getElem hi))
  simp [row5, sameL, sameAV, sameV, this, sameTok_refl]
theorem Rows.same {l : List Ex} {rows : List (List AV)} (h : Pol.Rows l rows) : sameRows rows rows = true := sameRows_of fun q hq => by
 obtain ⟨i, hi, rfl⟩ := List.mem_iff_getElem.1 hq
 have hi' : i < l.length := by have := h.1; omega
 exact Row.same l[i] _ (h.2 i _ _ (List.getElem?_eq_getElem hi') (List.getElem?_eq_getElem hi))
section
variable {h : Heap} {b : Nat} {k n no k' n' no' : Int} {s s' : List UInt8} {tok tok' : Tok} {sz sz' : Nat} {rows rows' : List (List AV)}
end
theorem put_push_eq {h : Heap} {z cs : List AV} {b : Nat} (hb : b = h.boxes.length) : (h.push z).put b cs = h.push cs := by subst hb; exact put_push h z cs
theorem put_push_ne {h : Heap} {z cs : List AV} {b : Nat} (hb : b ≠ h.boxes.length) : (h.push z).put b cs = (h.put b cs).push z := by
 unfold Heap.push Heap.put
 simp only
 congr 1
 rcases Nat.lt_or_ge b h.boxes.length with hlt | hge
 ·rw [List.set_append_left _ _ hlt]
 ·rw [List.set_append_right _ _ hge, List.set_eq_of_length_le (by simp; omega), List.set_eq_of_length_le hge]
theorem put_put {h : Heap} {x y : List AV} {b : Nat} : (h.put b x).put b y = h.put b y := by
 unfold Heap.put
 simp
theorem strsOf_strs (l : List (List UInt8)) : strsOf (strs l) = some l := by
 induction l with
 | nil => rfl
 | cons s l ih => show strsOf ([.v (.string (bs s))] :: strs l) = _; rw [strsOf, ih]; rfl
theorem rowsOf_strs (h : Heap) (k : Tok) (sz : Nat) (l : List (List UInt8)) (hz : ∀ i : Nat, i < l.length → sz = 1) : rowsOf h 1 (.list k sz (strs l)) = some (strs l) := by
 unfold rowsOf
 simp only
 rw [if_pos]
 cases l with
 | nil => right; rfl
 | cons s l => left; exact hz 0 (by simp)
def zP : Po := ⟨[], [], [], [], .mk 0 0 0 [] [], 0⟩
def zT : PT := ⟨.nil, 0, .nil, 0, .nil, 0, [], .nil, 0, []⟩
theorem zc28 : (zeroA Tryz.prog 28).bind AV.cellsO = some (prow zP zT) := by kernel_rfl
theorem zRow : Row (.mk 0 0 0 [] []) (row5 0 0 0 [] .nil 0 []) := .mk _ _ _ _ _ _ _ _ rfl (fun i hi => absurd hi (Nat.not_lt_zero i)) (Nat.zero_le _) (fun i x r h => by simp at h)
theorem zOk : POk zP zT := ⟨RRows.nil, zRow, fun i hi => absurd hi (Nat.not_lt_zero i), fun i hi => absurd hi (Nat.not_lt_zero i), fun i hi => absurd hi (Nat.not_lt_zero i), Nat.zero_le _, Nat.zero_le _, Nat.zero_le _⟩
section
variable {h : Heap} {b : Nat} {k n no : Int} {s : List UInt8} {x x' : Rl} {p p' : Po} {t t' : PT} {e : Ex} {tok tok' : Tok} {sz sz' : Nat} {rows rows' : List (List AV)} {i : Int}
theorem load62 (hb : h.boxes[b]? = some (rrow x tok sz rows)) : loadEv Tryz.prog Gt h 62 (.ptr (.box b) 0) = some (.agg (rrow x tok sz rows)) := load_agg ag62 sz62 hb (Nat.le_refl _)
theorem load62_3 (hb : h.boxes[b]? = some (rrow x tok sz rows)) : loadEv Tryz.prog Gt h 26 (.ptr (.box b) 3) = some (.agg (r5 x tok sz rows)) := load_agg ag26 sz26 hb (show 3 + 5 ≤ 8 by omega)
theorem load28 (hb : h.boxes[b]? = some (prow p t)) : loadEv Tryz.prog Gt h 28 (.ptr (.box b) 0) = some (.agg (prow p t)) := load_agg ag28 sz28 hb (Nat.le_refl _)
theorem load28_4 (hb : h.boxes[b]? = some (prow p t)) : loadEv Tryz.prog Gt h 26 (.ptr (.box b) 4) = some (.agg (p5 p t)) := load_agg ag26 sz26 hb (show 4 + 5 ≤ 10 by omega)
theorem store62 (hb : h.boxes[b]? = some (rrow x tok sz rows)) : storeEv Tryz.prog h 62 (.ptr (.box b) 0) (.agg (rrow x' tok' sz' rows')) = some (h.put b (rrow x' tok' sz' rows')) := store_box (off := 0) (cs := rrow x tok sz rows) (xs := rrow x' tok' sz' rows') rfl sz62 hb rfl (Nat.le_refl 8)
theorem build23 : buildSliceEv Tryz.prog 23 1 [(0, .agg (rrow x tok sz rows))] = some (.list .tight 8 [rrow x tok sz rows]) := by kernel_rfl
end
section
variable {h : Heap} {b : Nat} {k n no d k' n' no' d' : Int} {s s' : List UInt8} {tok tok' : Tok} {sz sz' : Nat} {rows rows' : List (List AV)}
end
section
variable (n no : Int) (s : List UInt8) (tok : Tok) (sz : Nat) (rows : List (List AV)) (h : Heap)
end
section
variable {h : Heap} {b : Nat} {n n' : Int} {x : AV}
end
mutual
def bareE (n : Int) : Ex → Ex
 | .mk k m _ s l => .mk k m n s (bareL n l)
def bareL (n : Int) : List Ex → List Ex
 | [] => []
 | x :: r => bareE n x :: bareL n r
end
theorem Ex.ind2 {p : Ex → Prop} {q : List Ex → Prop} (hm : ∀ k n no s l, q l → p (.mk k n no s l)) (h0 : q []) (h1 : ∀ x r, p x → q r → q (x :: r)) : (∀ x, p x) ∧ ∀ l, q l := by
 have hp : ∀ x, p x := by
  intro x
  induction x using Ex.ind with
  | h k n no s l ih =>
   refine hm k n no s l ?_
   induction l with
   | nil => exact h0
   | cons y r ihr => exact h1 y r (ih y List.mem_cons_self) (ihr fun z hz => ih z (List.mem_cons_of_mem _ hz))
 refine ⟨hp, fun l => ?_⟩
 induction l with
 | nil => exact h0
 | cons y r ihr => exact h1 y r (hp y) ihr
theorem cnt_bare (n : Int) : (∀ x, cnt (bareE n x) = cnt x) ∧ ∀ l, cntL (bareL n l) = cntL l :=
 Ex.ind2 (fun k a no s l h => by rw [bareE, cnt, cnt, h]) (by rw [bareL]) (fun x r h1 h2 => by rw [bareL, cntL, h1, h2, cntL])
def AlikeE (x y : Ex) : Prop := bareE 0 x = bareE 0 y
theorem AlikeE.cnt {x y : Ex} (h : AlikeE x y) : Proofs.YtmdakolcndpjeaaGreatDoor.cnt x = Proofs.YtmdakolcndpjeaaGreatDoor.cnt y := by rw [← (cnt_bare 0).1 x, ← (cnt_bare 0).1 y, h]
section
variable {h : Heap} {b : Nat} {p : Po} {t : PT} {tok' : Tok} {sz' : Nat} {n : Int}
end
section
variable {H : Type}
theorem c3 : Tryz.prog.cellsOf 3 = 1 := by kernel_rfl
theorem c9 : Tryz.prog.cellsOf 9 = 1 := by kernel_rfl
end
section
variable {P : Program} {G : Nat → Option (List AV)} {R : Rec}
theorem stable_behind_g {ops : Array Oper} {e : Env} {h : Heap} {i j : Nat} {o : Oper} {t : TypeId} {a : Operand} (hap : apartOk ops i j = true) (ho : ops[j]? = some o) (hop : o.op = .load t a)
 (hj : (ops[i]?).map (fun o => classOf o.op) = some .acts) {x v : AV} (hv : sameAV v v = true)
 (h1 : RunL P G R ops (ops.toList.take j) e h (fun q er hr => q = .normal ∧ wantedA ops er o = some true ∧ er.eval a = x ∧ loadEv P G hr t x = some v))
 (h2 : RunL P G R ops (ops.toList.take i) e h (fun q _ hm => q = .normal ∧ loadEv P G hm t x = some v)) : stableOk P G R ops e h i j = true := by
 have hi : i < ops.size := by
  rcases Nat.lt_or_ge i ops.size with hh | hh
  ·exact hh
  ·rw [Array.getElem?_eq_none hh] at hj; cases hj
 have hjs : j < ops.size := by
  rcases Nat.lt_or_ge j ops.size with hh | hh
  ·exact hh
  ·rw [Array.getElem?_eq_none hh] at ho; cases ho
 have hc : (ops[j]?).map (fun o => classOf o.op) = some .reads := by rw [ho]; simp only [Option.map_some, hop]; rfl
 unfold stableOk
 rw [hap, hc, hj]
 simp only [Bool.true_and]
 unfold stable
 rw [ho, opsEv_take (by omega), opsEv_take (by omega)]
 obtain ⟨q1, er, hr, e1, rfl, e0, e2, e3⟩ := h1
 obtain ⟨q2, em, hm, f1, rfl, f2⟩ := h2
 rw [e1, f1]
 simp only [e0, hop, e2, e3, f2, hv]
theorem stable_off {ops : Array Oper} {e : Env} {h : Heap} {i j : Nat} {o : Oper} {t : TypeId} {a : Operand} (hap : apartOk ops i j = true) (ho : ops[j]? = some o) (hop : o.op = .load t a)
 (hj : (ops[i]?).map (fun o => classOf o.op) = some .acts)
 (h1 : RunL P G R ops (ops.toList.take j) e h (fun q er hr => q = .normal ∧ wantedA ops er o = some false))
 (h2 : RunL P G R ops (ops.toList.take i) e h (fun q _ hm => q = .normal)) : stableOk P G R ops e h i j = true := by
 have hi : i < ops.size := by
  rcases Nat.lt_or_ge i ops.size with hh | hh
  ·exact hh
  ·rw [Array.getElem?_eq_none hh] at hj; cases hj
 have hjs : j < ops.size := by
  rcases Nat.lt_or_ge j ops.size with hh | hh
  ·exact hh
  ·rw [Array.getElem?_eq_none hh] at ho; cases ho
 have hc : (ops[j]?).map (fun o => classOf o.op) = some .reads := by rw [ho]; simp only [Option.map_some, hop]; rfl
 unfold stableOk
 rw [hap, hc, hj]
 simp only [Bool.true_and]
 unfold stable
 rw [ho, opsEv_take (by omega), opsEv_take (by omega)]
 obtain ⟨q1, er, hr, e1, rfl, e0⟩ := h1
 obtain ⟨q2, em, hm, f1, rfl⟩ := h2
 rw [e1, f1]
 simp only [e0]
end
theorem strs_same (l : List (List UInt8)) : sameRows (strs l) (strs l) = true := sameRows_of fun r hr => by
 obtain ⟨s, -, rfl⟩ := List.mem_map.1 hr
 simp [sameL, sameAV, sameV]
theorem rrows_same {l : List Rl} {rr : List (List AV)} (h : RRows l rr) : sameRows rr rr = true := sameRows_of fun q hq => by
 obtain ⟨i, hi, rfl⟩ := List.mem_iff_getElem.1 hq
 have hi' : i < l.length := by have := h.1; omega
 obtain ⟨tok, sz, rows, he, hrow⟩ := RRow.inv (h.2 i _ _ (List.getElem?_eq_getElem hi') (List.getElem?_eq_getElem hi))
 rw [he]
 have := Row.same _ _ hrow
 simp only [r5, row5] at this
 simp only [sameL, Bool.and_eq_true] at this
 simp [rrow, sameL, sameAV, sameV]
 simp [sameAV, sameV] at this
 exact this
theorem pol_same {p : Po} {t : PT} (ok : POk p t) : sameAV (.agg (prow p t)) (.agg (prow p t)) = true := by
 have h1 := Row.same _ _ ok.expr
 have h2 := rrows_same ok.rules
 simp only [p5, row5] at h1
 simp only [sameL, Bool.and_eq_true] at h1
 simp [sameAV, sameV, sameTok_refl] at h1
 simp [prow, sameAV, sameL, sameV, sameTok_refl, strs_same, h2, h1]
theorem slice_list_from {P : Program} {t e : TypeId} {k : Tok} {kk : IntKind} {sz : Nat} {es : List (List AV)} {lo : Int} (hu : P.underlying t = some (.slice e)) (hs : sizeB P e = some sz) (h0 : 0 ≤ lo) (h1 : lo ≤ es.length) :
 sliceEv P t (.list k sz es) (some (.v (.int kk lo))) none none = some (.list (cutTok k true false (es.length - lo.toNat)) sz (es.drop lo.toNat)) := by
 have hb : boundOf es.length (some (.v (.int kk lo))) 0 = some lo.toNat := by
  unfold boundOf
  simp [h0]
  omega
 have hn : boundOf es.length none es.length = some es.length := rfl
 unfold sliceEv
 simp [hu, hs, hb, hn]
end Go.Proofs.YtmdakolcndpjeaaGreatDoor
end
