/-
  Part of the proof: SD.
-/
import Derived.Test.YtilmhlbjjfgeoaaDoorSC
import Derived.Test.YtilmhlbjjfgeoaaDoorSB
import Derived.Test.YtilmhlbjjfgeoaaDoorE4
set_option linter.unusedSimpArgs false
set_option linter.unusedVariables false
set_option linter.constructorNameAsVariable false
section
namespace Go.Proofs.YtilmhlbjjfgeoaaDoor
open Go.AE Go.Lex Go.Pol
/-! ### Policies in memory -/
/-- The tokens and sizes of a policy's slices, and the rows of its rules and of its last expression. -/
structure PT where
  tk : Tok
  sk : Nat
  to : Tok
  so : Nat
  tr : Tok
  sr : Nat
  rr : List (List AV)
  tok : Tok
  sz : Nat
  rows : List (List AV)
def p5 (p : Po) (t : PT) : List AV := row5 p.change.kind p.change.n p.change.no p.change.name t.tok t.sz t.rows
def prow (p : Po) (t : PT) : List AV := [.v (.string (bs p.name)), .list t.tk t.sk (strs p.kinds), .list t.to t.so (strs p.offices), .list t.tr t.sr t.rr, .v (.int .i64 p.change.kind), .v (.int .i64 p.change.n), .v (.int .i64 p.change.no), .v (.string (bs p.change.name)), .list t.tok t.sz t.rows, .v (.int .i64 p.mode)]
structure POk (p : Po) (t : PT) : Prop where
  rules : RRows p.rules t.rr
  expr : Row p.change (p5 p t)
  zk : ∀ i : Nat, i < p.kinds.length → t.sk = 1
  zo : ∀ i : Nat, i < p.offices.length → t.so = 1
  zr : ∀ i : Nat, i < p.rules.length → t.sr = 8
  bk : p.kinds.length ≤ 9223372036854775807
  bo : p.offices.length ≤ 9223372036854775807
  br : p.rules.length ≤ 9223372036854775807
def rrow (x : Rl) (tok : Tok) (sz : Nat) (rows : List (List AV)) : List AV := [.v (.string (bs x.kind)), .v (.int .i64 x.kindNo), .v (.int .i64 x.think), .v (.int .i64 x.expr.kind), .v (.int .i64 x.expr.n), .v (.int .i64 x.expr.no), .v (.string (bs x.expr.name)), .list tok sz rows]
def r5 (x : Rl) (tok : Tok) (sz : Nat) (rows : List (List AV)) : List AV := row5 x.expr.kind x.expr.n x.expr.no x.expr.name tok sz rows
theorem RRow.inv {x : Rl} {r : List AV} (h : RRow x r) : ∃ tok sz rows, r = rrow x tok sz rows ∧ Row x.expr (r5 x tok sz rows) := by
  obtain ⟨e, he, rfl⟩ := h
  obtain ⟨tok, sz, rows, rfl, -⟩ := Row.five he
  exact ⟨tok, sz, rows, rfl, he⟩
theorem RRow.mk {x : Rl} {tok : Tok} {sz : Nat} {rows : List (List AV)} (h : Row x.expr (r5 x tok sz rows)) : RRow x (rrow x tok sz rows) := ⟨_, h, rfl⟩
theorem RRows.get {l : List Rl} {rr : List (List AV)} (h : RRows l rr) {i : Nat} (hi : i < l.length) : ∃ x tok sz rows, l[i]? = some x ∧ rr[i]? = some (rrow x tok sz rows) ∧ Row x.expr (r5 x tok sz rows) := by
  have hr : i < rr.length := by rw [h.1]; exact hi
  have h1 := h.2 i _ _ (List.getElem?_eq_getElem hi) (List.getElem?_eq_getElem hr)
  obtain ⟨tok, sz, rows, he, hrow⟩ := RRow.inv h1
  exact ⟨l[i], tok, sz, rows, List.getElem?_eq_getElem hi, by rw [List.getElem?_eq_getElem hr, he], hrow⟩
theorem RRows.nil : RRows [] [] := ⟨rfl, fun i x r h => by simp at h⟩
theorem RRows.snoc {l : List Rl} {rows : List (List AV)} (h : RRows l rows) {x : Rl} {r : List AV} (hx : RRow x r) : RRows (l ++ [x]) (rows ++ [r]) := by
  refine ⟨by simp [h.1], fun i y s h1 h2 => ?_⟩
  rcases Nat.lt_or_ge i l.length with hi | hi
  · rw [List.getElem?_append_left hi] at h1
    rw [List.getElem?_append_left (by rw [h.1]; exact hi)] at h2
    exact h.2 i y s h1 h2
  · rw [List.getElem?_append_right hi] at h1
    rw [List.getElem?_append_right (by rw [h.1]; exact hi), h.1] at h2
    have hz : i - l.length = 0 := by
      have := (List.getElem?_eq_some_iff.1 h1).1
      simp at this
      omega
    rw [hz] at h1 h2
    simp at h1 h2
    subst h1; subst h2
    exact hx
section
variable {p : Po} {t : PT} {x : Rl} {tok : Tok} {sz : Nat} {rows : List (List AV)}
theorem prow_len : (prow p t).length = 10 := rfl
theorem prow_fit : 4 + 5 ≤ (prow p t).length := by rw [prow_len]; omega
theorem prow_fit0 : 0 + 10 ≤ (prow p t).length := by rw [prow_len]; omega
theorem rrow_cells : (AV.agg (rrow x tok sz rows)).cellsO = some (rrow x tok sz rows) := rfl
theorem rrow_len : (rrow x tok sz rows).length = 8 := rfl
theorem rrow_fit : 3 + 5 ≤ (rrow x tok sz rows).length := by rw [rrow_len]; omega
theorem rrow_fit5 : 5 ≤ ((rrow x tok sz rows).drop 3).length := by simp [rrow_len]
theorem rrow_fit8 : 8 ≤ ((rrow x tok sz rows).drop 0).length := by simp [rrow_len]
end
section
variable (r : Ref) (off : Nat) (es : List (List AV)) (i sz : Nat)
theorem fa28_0 : fieldAddrEv Tryd.prog 28 (.ptr r off) 0 = some (.ptr r (off + 0)) := by kernel_rfl
theorem fa28_1 : fieldAddrEv Tryd.prog 28 (.ptr r off) 1 = some (.ptr r (off + 1)) := by kernel_rfl
theorem fa28_2 : fieldAddrEv Tryd.prog 28 (.ptr r off) 2 = some (.ptr r (off + 2)) := by kernel_rfl
theorem fa28_3 : fieldAddrEv Tryd.prog 28 (.ptr r off) 3 = some (.ptr r (off + 3)) := by kernel_rfl
theorem fa28_4 : fieldAddrEv Tryd.prog 28 (.ptr r off) 4 = some (.ptr r (off + 4)) := by kernel_rfl
theorem fa28_5 : fieldAddrEv Tryd.prog 28 (.ptr r off) 5 = some (.ptr r (off + 9)) := by kernel_rfl
theorem fa43_0 : fieldAddrEv Tryd.prog 43 (.ptr r off) 0 = some (.ptr r (off + 0)) := by kernel_rfl
theorem fa43_1 : fieldAddrEv Tryd.prog 43 (.ptr r off) 1 = some (.ptr r (off + 1)) := by kernel_rfl
theorem fa43_2 : fieldAddrEv Tryd.prog 43 (.ptr r off) 2 = some (.ptr r (off + 2)) := by kernel_rfl
theorem fa43_3 : fieldAddrEv Tryd.prog 43 (.ptr r off) 3 = some (.ptr r (off + 3)) := by kernel_rfl
theorem fe43_3 : fieldAddrEv Tryd.prog 43 (.elem sz es i off) 3 = some (.elem sz es i (off + 3)) := by kernel_rfl
theorem fa77_0 : fieldAddrEv Tryd.prog 77 (.ptr r off) 0 = some (.ptr r (off + 0)) := by kernel_rfl
theorem fa77_1 : fieldAddrEv Tryd.prog 77 (.ptr r off) 1 = some (.ptr r (off + 5)) := by kernel_rfl
end
theorem fp28 : (∀ (r : Ref) (off : Nat), fieldAddrEv Tryd.prog 28 (.ptr r off) 0 = some (.ptr r (off + 0))) ∧ (∀ (r : Ref) (off : Nat), fieldAddrEv Tryd.prog 28 (.ptr r off) 1 = some (.ptr r (off + 1))) ∧ (∀ (r : Ref) (off : Nat), fieldAddrEv Tryd.prog 28 (.ptr r off) 2 = some (.ptr r (off + 2))) ∧ (∀ (r : Ref) (off : Nat), fieldAddrEv Tryd.prog 28 (.ptr r off) 3 = some (.ptr r (off + 3))) ∧
    (∀ (r : Ref) (off : Nat), fieldAddrEv Tryd.prog 28 (.ptr r off) 4 = some (.ptr r (off + 4))) ∧ (∀ (r : Ref) (off : Nat), fieldAddrEv Tryd.prog 28 (.ptr r off) 5 = some (.ptr r (off + 9))) := ⟨fa28_0, fa28_1, fa28_2, fa28_3, fa28_4, fa28_5⟩
theorem fp43 : (∀ (r : Ref) (off : Nat), fieldAddrEv Tryd.prog 43 (.ptr r off) 0 = some (.ptr r (off + 0))) ∧ (∀ (r : Ref) (off : Nat), fieldAddrEv Tryd.prog 43 (.ptr r off) 1 = some (.ptr r (off + 1))) ∧ (∀ (r : Ref) (off : Nat), fieldAddrEv Tryd.prog 43 (.ptr r off) 2 = some (.ptr r (off + 2))) ∧ (∀ (r : Ref) (off : Nat), fieldAddrEv Tryd.prog 43 (.ptr r off) 3 = some (.ptr r (off + 3))) ∧
    (∀ (sz : Nat) (es : List (List AV)) (i off : Nat), fieldAddrEv Tryd.prog 43 (.elem sz es i off) 3 = some (.elem sz es i (off + 3))) := ⟨fa43_0, fa43_1, fa43_2, fa43_3, fun sz es i off => fe43_3 off es i sz⟩
section
theorem prs : (∀ (p : Po) (t : PT), (AV.agg (prow p t)).cellsO = some (prow p t)) ∧ (∀ (p : Po) (t : PT), ((prow p t).drop 0).head? = some (.v (.string (bs p.name)))) ∧ (∀ (p : Po) (t : PT), ((prow p t).drop 1).head? = some (.list t.tk t.sk (strs p.kinds))) ∧ (∀ (p : Po) (t : PT), ((prow p t).drop 2).head? = some (.list t.to t.so (strs p.offices))) ∧
    (∀ (p : Po) (t : PT), ((prow p t).drop 3).head? = some (.list t.tr t.sr t.rr)) ∧ (∀ (p : Po) (t : PT), ((prow p t).drop 4).take 5 = p5 p t) ∧ (∀ (p : Po) (t : PT), ((prow p t).drop 9).head? = some (.v (.int .i64 p.mode))) ∧ (∀ (p : Po) (t : PT), ((prow p t).drop 0).take 10 = prow p t) :=
  ⟨fun _ _ => rfl, fun _ _ => rfl, fun _ _ => rfl, fun _ _ => rfl, fun _ _ => rfl, fun _ _ => rfl, fun _ _ => rfl, fun _ _ => rfl⟩
theorem rrs : (∀ (x : Rl) (tok : Tok) (sz : Nat) (rows : List (List AV)), (AV.agg (rrow x tok sz rows)).cellsO = some (rrow x tok sz rows)) ∧ (∀ (x : Rl) (tok : Tok) (sz : Nat) (rows : List (List AV)), ((rrow x tok sz rows).drop 0).head? = some (.v (.string (bs x.kind)))) ∧ (∀ (x : Rl) (tok : Tok) (sz : Nat) (rows : List (List AV)), ((rrow x tok sz rows).drop 1).head? = some (.v (.int .i64 x.kindNo))) ∧
    (∀ (x : Rl) (tok : Tok) (sz : Nat) (rows : List (List AV)), ((rrow x tok sz rows).drop 2).head? = some (.v (.int .i64 x.think))) ∧ (∀ (x : Rl) (tok : Tok) (sz : Nat) (rows : List (List AV)), ((rrow x tok sz rows).drop 3).take 5 = r5 x tok sz rows) ∧ (∀ (x : Rl) (tok : Tok) (sz : Nat) (rows : List (List AV)), ((rrow x tok sz rows).drop 0).take 8 = rrow x tok sz rows) :=
  ⟨fun _ _ _ _ => rfl, fun _ _ _ _ => rfl, fun _ _ _ _ => rfl, fun _ _ _ _ => rfl, fun _ _ _ _ => rfl, fun _ _ _ _ => rfl⟩
end
theorem sz28 : sizeB Tryd.prog 28 = some 10 := by kernel_rfl
theorem sz43 : sizeB Tryd.prog 43 = some 8 := by kernel_rfl
theorem sz22 : sizeB Tryd.prog 22 = some 1 := by kernel_rfl
theorem sz23 : sizeB Tryd.prog 23 = some 1 := by kernel_rfl
theorem sz24 : sizeB Tryd.prog 24 = some 1 := by kernel_rfl
theorem ag28 : isAggB Tryd.prog 28 = some true := by kernel_rfl
theorem ag43 : isAggB Tryd.prog 43 = some true := by kernel_rfl
theorem ag22 : isAggB Tryd.prog 22 = some false := by kernel_rfl
theorem ag23 : isAggB Tryd.prog 23 = some false := by kernel_rfl
/-! ### Counting -/
mutual
def cnt : Ex → Nat
  | .mk _ _ _ _ l => cntL l + 1
def cntL : List Ex → Nat
  | [] => 0
  | x :: r => cnt x + cntL r
end
theorem parts_cnt : ∀ (x : Ex) (lim : Int), 0 ≤ lim → parts x lim = if (cnt x : Int) ≤ lim then (cnt x : Int) else lim + 1 := by
  intro x
  induction x using Ex.ind with
  | h k n no name l ih =>
    intro lim h0
    have key : ∀ (r : List Ex), (∀ y ∈ r, y ∈ l) → ∀ m : Int, 1 ≤ m → m ≤ lim + 1 → partsL r m lim = if m + (cntL r : Int) ≤ lim then m + (cntL r : Int) else lim + 1 := by
      intro r
      induction r with
      | nil => intro _ m h1 h2; rw [partsL, cntL]; split <;> omega
      | cons y r ihr =>
        intro hin m h1 h2
        rw [partsL, cntL]
        by_cases hm : m ≤ lim
        · rw [if_pos hm, ih y (hin y List.mem_cons_self) (lim - m) (by omega)]
          by_cases hc : (cnt y : Int) ≤ lim - m
          · rw [if_pos hc, ihr (fun z hz => hin z (List.mem_cons_of_mem _ hz)) _ (by omega) (by omega)]
            split <;> split <;> omega
          · rw [if_neg hc, ihr (fun z hz => hin z (List.mem_cons_of_mem _ hz)) _ (by omega) (by omega)]
            split <;> split <;> omega
        · rw [if_neg hm]; split <;> omega
    rw [parts, cnt, key l (fun _ h => h) 1 (by omega) (by omega)]
    split <;> split <;> omega
theorem cntL_mem : ∀ {l : List Ex} {x : Ex}, x ∈ l → cnt x ≤ cntL l := by
  intro l
  induction l with
  | nil => intro x h; cases h
  | cons y l ih =>
    intro x h
    rw [cntL]
    rcases List.mem_cons.1 h with rfl | h
    · omega
    · have := ih h; omega
theorem depth_cnt : ∀ x : Ex, depthE x ≤ cnt x := by
  intro x
  induction x using Ex.ind with
  | h k n no name l ih =>
    rw [depthE, cnt]
    have : ∀ r : List Ex, (∀ y ∈ r, y ∈ l) → depthL r ≤ cntL r := by
      intro r
      induction r with
      | nil => intro _; rw [depthL, cntL]; exact Nat.le_refl _
      | cons y r ihr =>
        intro hin
        rw [depthL, cntL]
        have h1 := ih y (hin y List.mem_cons_self)
        have h2 := ihr fun z hz => hin z (List.mem_cons_of_mem _ hz)
        omega
    have := this l fun _ h => h
    omega
end Go.Proofs.YtilmhlbjjfgeoaaDoor
end

section
namespace Go.Proofs.YtilmhlbjjfgeoaaDoor
open Go.AE Go.Lex Go.Pol
/-! ### The parts of an expression, as they are yielded -/
variable {α : Type}
/-- One part: five cells, and its depth. -/
def row6 (k n no : Int) (s : List UInt8) (tok : Tok) (sz : Nat) (rows : List (List AV)) (d : Int) : List AV := [.v (.int .i64 k), .v (.int .i64 n), .v (.int .i64 no), .v (.string (bs s)), .list tok sz rows, .v (.int .i64 d)]
mutual
def feed (next : α → Ex → Int → Nx α) : Ex → Int → α → Nx α
  | .mk k n no s l, d, a => match next a (.mk k n no s l) d with | .cont a' => feedL next l (d + 1) a' | q => q
def feedL (next : α → Ex → Int → Nx α) : List Ex → Int → α → Nx α
  | [], _, a => .cont a
  | x :: r, d, a => match feed next x d a with | .cont a' => feedL next r d a' | q => q
end
/-- Whoever is fed with parts: his state, kept in memory, and what he answers. -/
structure Cons (l bn l0 n0 : Nat) (Inv InvS : α → Heap → Prop) (next : α → Ex → Int → Nx α) : Prop where
  le : l0 ≤ l
  st : ∀ a h h', Inv a h → St l h h' → Inv a h'
  stS : ∀ a h h', InvS a h → St l h h' → InvS a h'
  at_ : ∀ a h, Inv a h → l < h.loops.length ∧ bn < h.boxes.length
  round : ∀ a h x tok sz rows d, Inv a h → Row x (row5 x.kind x.n x.no x.name tok sz rows) → 0 ≤ d → d ≤ 4611686018427387904 → n0 ≤ h.tn → ∃ r h', W.round l [.agg (row6 x.kind x.n x.no x.name tok sz rows d)] h = some (r, h') ∧ Fr bn l0 n0 h h' ∧ Answers l Inv InvS h r h' (next a x d)
/-- How the whole call answers. -/
def Fed (l : Nat) (Inv InvS : α → Heap → Prop) (h : Heap) (r : Res) (h' : Heap) : Nx α → Prop
  | .cont a => r = .ret (.tuple []) ∧ Inv a h' ∧ ∀ (m : Nat) (q : LoopRec), h.loops[m]? = some q → h'.loops[m]? = some q
  | .stop a => r = .ret (.tuple []) ∧ InvS a h'
  | .panic v => r = .panic v
theorem Row.got {x : Ex} {k n no : Int} {s : List UInt8} {tok : Tok} {sz : Nat} {rows : List (List AV)} (h : Row x (row5 k n no s tok sz rows)) : Pol.Rows x.l rows ∧ (∀ i : Nat, i < x.l.length → sz = 5) ∧ x.l.length ≤ 9223372036854775807 := by
  obtain ⟨tok', sz', rows', he, h1, h2, h3⟩ := Row.five h
  simp only [row5, List.cons.injEq, AV.list.injEq, and_true] at he
  obtain ⟨-, -, -, -, rfl, rfl, rfl⟩ := he
  exact ⟨h1, h2, h3⟩
theorem res67 : Tryd.f67.results.toList = [] := by kernel_rfl
theorem zc26 : (zeroA Tryd.prog 26).bind AV.cellsO = some (row5 0 0 0 [] .nil 0 []) := by kernel_rfl
theorem zc77 : (zeroA Tryd.prog 77).bind AV.cellsO = some (row6 0 0 0 [] .nil 0 [] 0) := by kernel_rfl
theorem sz77 : sizeB Tryd.prog 77 = some 6 := by kernel_rfl
theorem sz85 : sizeB Tryd.prog 85 = some 1 := by kernel_rfl
theorem ag77 : isAggB Tryd.prog 77 = some true := by kernel_rfl
theorem ag85 : isAggB Tryd.prog 85 = some false := by kernel_rfl
theorem build77 (k n no : Int) (s : List UInt8) (tok : Tok) (sz : Nat) (rows : List (List AV)) (d : Int) : buildEv Tryd.prog 77 [(0, .agg (row5 k n no s tok sz rows)), (1, .v (.int .i64 d))] = some (.agg (row6 k n no s tok sz rows d)) := by kernel_rfl
section
variable {k n no d : Int} {s : List UInt8} {tok : Tok} {sz : Nat} {rows : List (List AV)}
theorem row6_all : ((row6 k n no s tok sz rows d).drop 0).take 6 = row6 k n no s tok sz rows d := rfl
theorem yield_cells {l : Nat} : (AV.yield l).cellsO = some [.yield l] := rfl
end
set_option maxHeartbeats 8000000 in
set_option maxRecDepth 100000 in
theorem parts1_ev : ∀ (x : Ex) (tok : Tok) (sz : Nat) (rows : List (List AV)), Row x (row5 x.kind x.n x.no x.name tok sz rows) → ∀ {α : Type} (l bn l0 n0 : Nat) (Inv InvS : α → Heap → Prop) (next : α → Ex → Int → Nx α), Cons l bn l0 n0 Inv InvS next →
    ∀ (a : α) (h : Heap) (bx bd : Nat) (d : Int), Inv a h → n0 ≤ h.tn → h.boxes[bx]? = some (row5 x.kind x.n x.no x.name tok sz rows) → h.boxes[bd]? = some [.v (.int .i64 d)] → bx ≠ bn → bd ≠ bn → 0 ≤ d → d + depthE x ≤ 4611686018427387904 →
    ∃ r h', W.call 67 [.yield l, .ptr (.box bx) 0, .ptr (.box bd) 0] h = some (r, h') ∧ Fr bn l0 n0 h h' ∧ Fed l Inv InvS h r h' (feed next x d a) := by
  intro x
  induction x using Ex.ind with
  | h kk nn no name lx ih =>
    intro tok sz rows hrow α l bn l0 n0 Inv InvS next C a h bx bd d hI hn0 hbx hbd hxn hdn hd0 hd1
    obtain ⟨hrows, hsz, hbdl⟩ := Row.got hrow
    have a3 := ag3; have a9 := ag9; have a24 := ag24; have a26 := ag26; have s26 := sz26; have a85 := ag85; have s85 := sz85; have s77 := sz77; have a77 := ag77; have z26 := zc26; have z77 := zc77
    have ux := Tryd.underlying24
    have hat := C.at_ a h hI
    have nx : bx ≠ h.boxes.length := by have := (List.getElem?_eq_some_iff.1 hbx).1; omega
    have nd : bd ≠ h.boxes.length := by have := (List.getElem?_eq_some_iff.1 hbd).1; omega
    have rl : (row5 kk nn no name tok sz rows).length = 5 := rfl
    have hlen := hrows.1
    simp only [Ex.l] at hrows hsz hlen hbdl
    have kr := Keep.mk hrows
    have kz := Keep.mk hsz
    have kih := Keep.mk ih
    clear hrows hsz ih
    have kC := Keep.mk C
    have kI := Keep.mk hI
    obtain ⟨r1, h1, hr1, fr1, an1⟩ := C.round a (h.push [.yield l]) (.mk kk nn no name lx) tok sz rows d (C.st _ _ _ hI (.push _ _ _)) hrow hd0 (by omega) hn0
    simp only [Ex.kind, Ex.n, Ex.no, Ex.name] at hrow hbx hr1 an1 ⊢
    rw [feed]
    cases hnx : next a (.mk kk nn no name lx) d with
    | panic v =>
      rw [hnx] at an1
      have an1 : r1 = .panic v := an1
      subst an1
      refine call_post rfl Tryd.func67 rfl ?_
      repeat' (first | simp (config := { maxSteps := 4000000 }) (disch := first | assumption | (exact Nat.le_refl _) | omega | (simp only [List.length_cons, List.length_nil, List.length_append, push_len, put_len, len_app] <;> omega) | (simp (disch := (first | assumption | omega | (exact (push_len _ _).symm) | (simp only [push_len, put_len, len_app]; omega) | (refine Nat.le_antisymm ?_ ?_ <;> simp only [push_len, put_len, len_app] <;> omega) | fail)) only [get_push_last, get_push_eq, get_push_ne, get_put_eq, get_put_ne, get_app] <;> first | assumption | rfl) | (simp only [canApp_push, canApp_put]; assumption) | (exact start_round _ _) | (simp only [st_round, dfr_round, pn_round]; first | assumption | exact start_round _ _) | fail) only [goS, plainEv, resultsEv, resultListEv, reduceIte, Nat.reduceEqDiff, Option.map_some, Option.map_none, Option.bind_some, List.map_cons, List.map_nil, List.getD_cons_zero, List.getD_cons_succ, List.getElem?_toArray, List.getElem?_cons_zero, List.getElem?_cons_succ, eq_self, beq_self_eq_true, goH, List.append_nil, List.nil_append, res67, yield_cells, build77, row5_all, cell_one, *] | (refine guard_dec (fun _ => ?_) (fun _ => ?_) <;> try (exfalso; omega)) | (refine guard_ndec (fun _ => ?_) (fun _ => ?_) <;> try (exfalso; omega)) | (refine branch_dec (fun _ => ?_) (fun _ => ?_) <;> try (exfalso; omega)) | (refine branch_ndec (fun _ => ?_) (fun _ => ?_) <;> try (exfalso; omega)) | refine run_draw (by kernel_rfl) ?_ | refine guard_nbool (fun _ => ?_) (fun _ => ?_) | refine branch_nbool (fun _ => ?_) (fun _ => ?_) | refine guard_bool (fun _ => ?_) (fun _ => ?_) | refine branch_bool (fun _ => ?_) (fun _ => ?_))
      exact ⟨_, _, rfl, (Fr.push ..).trans fr1, rfl⟩
    | stop a' =>
      rw [hnx] at an1
      obtain ⟨e1, e2, -⟩ : r1 = .ret (.v (.bool false)) ∧ InvS a' h1 ∧ _ := an1
      subst e1
      have ke2 := Keep.mk e2
      clear e2
      refine call_post rfl Tryd.func67 rfl ?_
      repeat' (first | simp (config := { maxSteps := 4000000 }) (disch := first | assumption | (exact Nat.le_refl _) | omega | (simp only [List.length_cons, List.length_nil, List.length_append, push_len, put_len, len_app] <;> omega) | (simp (disch := (first | assumption | omega | (exact (push_len _ _).symm) | (simp only [push_len, put_len, len_app]; omega) | (refine Nat.le_antisymm ?_ ?_ <;> simp only [push_len, put_len, len_app] <;> omega) | fail)) only [get_push_last, get_push_eq, get_push_ne, get_put_eq, get_put_ne, get_app] <;> first | assumption | rfl) | (simp only [canApp_push, canApp_put]; assumption) | (exact start_round _ _) | (simp only [st_round, dfr_round, pn_round]; first | assumption | exact start_round _ _) | fail) only [goS, plainEv, resultsEv, resultListEv, reduceIte, Nat.reduceEqDiff, Option.map_some, Option.map_none, Option.bind_some, List.map_cons, List.map_nil, List.getD_cons_zero, List.getD_cons_succ, List.getElem?_toArray, List.getElem?_cons_zero, List.getElem?_cons_succ, eq_self, beq_self_eq_true, goH, List.append_nil, List.nil_append, res67, yield_cells, build77, row5_all, cell_one, *] | (refine guard_dec (fun _ => ?_) (fun _ => ?_) <;> try (exfalso; omega)) | (refine guard_ndec (fun _ => ?_) (fun _ => ?_) <;> try (exfalso; omega)) | (refine branch_dec (fun _ => ?_) (fun _ => ?_) <;> try (exfalso; omega)) | (refine branch_ndec (fun _ => ?_) (fun _ => ?_) <;> try (exfalso; omega)) | refine run_draw (by kernel_rfl) ?_ | refine guard_nbool (fun _ => ?_) (fun _ => ?_) | refine branch_nbool (fun _ => ?_) (fun _ => ?_) | refine guard_bool (fun _ => ?_) (fun _ => ?_) | refine branch_bool (fun _ => ?_) (fun _ => ?_))
      exact ⟨_, _, rfl, (Fr.push ..).trans fr1, rfl, ke2.out⟩
    | cont a' =>
      rw [hnx] at an1
      obtain ⟨e1, e2, e3⟩ : r1 = .ret (.v (.bool true)) ∧ Inv a' h1 ∧ ∀ (m : Nat) (q : LoopRec), (h.push [.yield l]).loops[m]? = some q → h1.loops[m]? = some q := an1
      subst e1
      have hb1 := fr1.box bx _ hxn (push_old hbx)
      have hb2 := fr1.box bd _ hdn (push_old hbd)
      have hb3 := fr1.box h.boxes.length _ (by omega) (push_last h [.yield l])
      have ke2 := Keep.mk e2
      have ke3 := Keep.mk e3
      have kf1 := Keep.mk fr1
      clear e2 e3 fr1
      refine call_post rfl Tryd.func67 rfl ?_
      repeat' (first | simp (config := { maxSteps := 4000000 }) (disch := first | assumption | (exact Nat.le_refl _) | omega | (simp only [List.length_cons, List.length_nil, List.length_append, push_len, put_len, len_app] <;> omega) | (simp (disch := (first | assumption | omega | (exact (push_len _ _).symm) | (simp only [push_len, put_len, len_app]; omega) | (refine Nat.le_antisymm ?_ ?_ <;> simp only [push_len, put_len, len_app] <;> omega) | fail)) only [get_push_last, get_push_eq, get_push_ne, get_put_eq, get_put_ne, get_app] <;> first | assumption | rfl) | (simp only [canApp_push, canApp_put]; assumption) | (exact start_round _ _) | (simp only [st_round, dfr_round, pn_round]; first | assumption | exact start_round _ _) | fail) only [goS, plainEv, resultsEv, resultListEv, reduceIte, Nat.reduceEqDiff, Option.map_some, Option.map_none, Option.bind_some, List.map_cons, List.map_nil, List.getD_cons_zero, List.getD_cons_succ, List.getElem?_toArray, List.getElem?_cons_zero, List.getElem?_cons_succ, eq_self, beq_self_eq_true, goH, List.append_nil, List.nil_append, res67, yield_cells, build77, row5_all, cell_one, row5_4, fa26_4, *] | (refine guard_dec (fun _ => ?_) (fun _ => ?_) <;> try (exfalso; omega)) | (refine guard_ndec (fun _ => ?_) (fun _ => ?_) <;> try (exfalso; omega)) | (refine branch_dec (fun _ => ?_) (fun _ => ?_) <;> try (exfalso; omega)) | (refine branch_ndec (fun _ => ?_) (fun _ => ?_) <;> try (exfalso; omega)) | refine run_draw (by kernel_rfl) ?_ | refine guard_nbool (fun _ => ?_) (fun _ => ?_) | refine branch_nbool (fun _ => ?_) (fun _ => ?_) | refine guard_bool (fun _ => ?_) (fun _ => ?_) | refine branch_bool (fun _ => ?_) (fun _ => ?_))
      refine run_loop (fun m e h' => ∃ (i : Nat) (b : α), i ≤ lx.length ∧ m = lx.length - i ∧ e.get 1 = .ptr (.box bx) 0 ∧ e.get 2 = .ptr (.box bd) 0 ∧ e.get 3 = .ptr (.box h.boxes.length) 0 ∧ e.get 14 = .list tok sz rows ∧ e.get 15 = .v (.int .i64 (lx.length : Nat)) ∧ e.get 16 = .v (.int .i64 i) ∧ e.defers = [] ∧
        Fr bn l0 n0 h h' ∧ Inv b h' ∧ (∀ (m : Nat) (q : LoopRec), h.loops[m]? = some q → h'.loops[m]? = some q) ∧ h'.boxes[bx]? = some (row5 kk nn no name tok sz rows) ∧ h'.boxes[bd]? = some [.v (.int .i64 d)] ∧ h'.boxes[h.boxes.length]? = some [.yield l] ∧
        feedL next (lx.drop i) (d + 1) b = feedL next lx (d + 1) a') ?_ lx.length _ _ ?_
      · rintro m e h' ⟨i, b, hi, rfl, g1, g2, g3, g14, g15, g16, hd, hf, hI', hlp, hb1, hb2, hb3, hfd⟩
        have kf := Keep.mk hf
        have kI' := Keep.mk hI'
        have klp := Keep.mk hlp
        have kfd := Keep.mk hfd
        clear hf hI' hlp hfd ke2 ke3 kf1
        by_cases hlt : i < lx.length
        · obtain ⟨y, r, hy, hr, hyr⟩ := kr.out.get hlt
          have h5 := kz.out i hlt
          subst h5
          obtain ⟨tk2, sz2, rows2, rfl, -⟩ := Row.five hyr
          have hlt3 : (i : Int) < (rows.length : Int) := by rw [hlen]; omega
          have hlt4 : (i : Int) < (lx.length : Int) := by omega
          have hle5 : 5 ≤ ((row5 y.kind y.n y.no y.name tk2 sz2 rows2).drop 0).length := by rw [List.drop_zero]; exact Nat.le_refl _
          have hdy := depthL_mem (List.mem_of_getElem? hy)
          have hpf := partsF_ev y _ hyr (d + 1)
          have nx' : bx ≠ h'.boxes.length := by have := (List.getElem?_eq_some_iff.1 hb1).1; omega
          have nd' : bd ≠ h'.boxes.length := by have := (List.getElem?_eq_some_iff.1 hb2).1; omega
          have ny' : h.boxes.length ≠ h'.boxes.length := by have := (List.getElem?_eq_some_iff.1 hb3).1; omega
          have rc : (AV.agg (row5 y.kind y.n y.no y.name tk2 sz2 rows2)).cellsO = some (row5 y.kind y.n y.no y.name tk2 sz2 rows2) := rfl
          have rl2 : (row5 y.kind y.n y.no y.name tk2 sz2 rows2).length = 5 := rfl
          have rlz : (row5 0 0 0 [] .nil 0 []).length = 5 := rfl
          repeat' (first | simp (config := { maxSteps := 4000000 }) (disch := first | assumption | (exact Nat.le_refl _) | omega | (simp only [List.length_cons, List.length_nil, List.length_append, push_len, put_len, len_app] <;> omega) | (simp (disch := (first | assumption | omega | (exact (push_len _ _).symm) | (simp only [push_len, put_len, len_app]; omega) | (refine Nat.le_antisymm ?_ ?_ <;> simp only [push_len, put_len, len_app] <;> omega) | fail)) only [get_push_last, get_push_eq, get_push_ne, get_put_eq, get_put_ne, get_app] <;> first | assumption | rfl) | (simp only [canApp_push, canApp_put]; assumption) | (exact start_round _ _) | (simp only [st_round, dfr_round, pn_round]; first | assumption | exact start_round _ _) | fail) only [goS, plainEv, resultsEv, resultListEv, reduceIte, Nat.reduceEqDiff, Option.map_some, Option.map_none, Option.bind_some, List.map_cons, List.map_nil, List.getD_cons_zero, List.getD_cons_succ, List.getElem?_toArray, List.getElem?_cons_zero, List.getElem?_cons_succ, eq_self, beq_self_eq_true, goH, List.append_nil, List.nil_append, res67, row5_4, fa26_4, index_list, load_row_agg, row5_all, row5_cells, cell_one, store_push, *] | (refine guard_dec (fun _ => ?_) (fun _ => ?_) <;> try (exfalso; omega)) | (refine guard_ndec (fun _ => ?_) (fun _ => ?_) <;> try (exfalso; omega)) | (refine branch_dec (fun _ => ?_) (fun _ => ?_) <;> try (exfalso; omega)) | (refine branch_ndec (fun _ => ?_) (fun _ => ?_) <;> try (exfalso; omega)) | refine run_draw (by kernel_rfl) ?_ | refine guard_nbool (fun _ => ?_) (fun _ => ?_) | refine branch_nbool (fun _ => ?_) (fun _ => ?_) | refine guard_bool (fun _ => ?_) (fun _ => ?_) | refine branch_bool (fun _ => ?_) (fun _ => ?_))
          clear hpf hlt3 hle5 rc rl2 rlz
          have hlat := kC.out.at_ b h' kI'.out
          refine Run.gen fun e2 q2 qd2 _ _ => ?_
          have p1 : e2.get 1 = .ptr (.box bx) 0 := by rw [q2]; simp only [goS, plainEv, resultsEv, resultListEv, reduceIte, Nat.reduceEqDiff, Option.map_some, Option.map_none, Option.bind_some, List.map_cons, List.map_nil, List.getD_cons_zero, List.getD_cons_succ, List.getElem?_toArray, List.getElem?_cons_zero, List.getElem?_cons_succ, eq_self, beq_self_eq_true, goH, g1]
          have p2 : e2.get 2 = .ptr (.box bd) 0 := by rw [q2]; simp only [goS, plainEv, resultsEv, resultListEv, reduceIte, Nat.reduceEqDiff, Option.map_some, Option.map_none, Option.bind_some, List.map_cons, List.map_nil, List.getD_cons_zero, List.getD_cons_succ, List.getElem?_toArray, List.getElem?_cons_zero, List.getElem?_cons_succ, eq_self, beq_self_eq_true, goH, g2]
          have p3 : e2.get 3 = .ptr (.box h.boxes.length) 0 := by rw [q2]; simp only [goS, plainEv, resultsEv, resultListEv, reduceIte, Nat.reduceEqDiff, Option.map_some, Option.map_none, Option.bind_some, List.map_cons, List.map_nil, List.getD_cons_zero, List.getD_cons_succ, List.getElem?_toArray, List.getElem?_cons_zero, List.getElem?_cons_succ, eq_self, beq_self_eq_true, goH, g3]
          have p14 : e2.get 14 = .list tok 5 rows := by rw [q2]; simp only [goS, plainEv, resultsEv, resultListEv, reduceIte, Nat.reduceEqDiff, Option.map_some, Option.map_none, Option.bind_some, List.map_cons, List.map_nil, List.getD_cons_zero, List.getD_cons_succ, List.getElem?_toArray, List.getElem?_cons_zero, List.getElem?_cons_succ, eq_self, beq_self_eq_true, goH, g14]
          have p15 : e2.get 15 = .v (.int .i64 (lx.length : Nat)) := by rw [q2]; simp only [goS, plainEv, resultsEv, resultListEv, reduceIte, Nat.reduceEqDiff, Option.map_some, Option.map_none, Option.bind_some, List.map_cons, List.map_nil, List.getD_cons_zero, List.getD_cons_succ, List.getElem?_toArray, List.getElem?_cons_zero, List.getElem?_cons_succ, eq_self, beq_self_eq_true, goH, g15]
          have p16 : e2.get 16 = .v (.int .i64 i) := by rw [q2]; simp only [goS, plainEv, resultsEv, resultListEv, reduceIte, Nat.reduceEqDiff, Option.map_some, Option.map_none, Option.bind_some, List.map_cons, List.map_nil, List.getD_cons_zero, List.getD_cons_succ, List.getElem?_toArray, List.getElem?_cons_zero, List.getElem?_cons_succ, eq_self, beq_self_eq_true, goH, g16]
          have p23 : e2.get 23 = .func (.func 67) [] [.ptr (.box (h'.boxes.length + 1)) 0, .ptr (.box (h'.boxes.length + 1 + 1)) 0] := by rw [q2]; simp only [goS, plainEv, resultsEv, resultListEv, reduceIte, Nat.reduceEqDiff, Option.map_some, Option.map_none, Option.bind_some, List.map_cons, List.map_nil, List.getD_cons_zero, List.getD_cons_succ, List.getElem?_toArray, List.getElem?_cons_zero, List.getElem?_cons_succ, eq_self, beq_self_eq_true, goH, push_len]
          have pd : e2.defers = [] := by rw [qd2]; simp only [goS, plainEv, resultsEv, resultListEv, reduceIte, Nat.reduceEqDiff, Option.map_some, Option.map_none, Option.bind_some, List.map_cons, List.map_nil, List.getD_cons_zero, List.getD_cons_succ, List.getElem?_toArray, List.getElem?_cons_zero, List.getElem?_cons_succ, eq_self, beq_self_eq_true, goH, hd]
          clear q2 qd2
          refine run_range (by rw [eval_tmp]; exact p23) fun rec w1 w2 w3 w4 w5 w6 => ?_
          have C' : Cons (α := α) h'.loops.length bn l0 n0 (fun c hh => Inv c hh ∧ hh.loops[h'.loops.length]? = some rec ∧ hh.boxes[h.boxes.length]? = some [.yield l]) (fun c hh => InvS c hh ∧ hh.loops[h'.loops.length]? = some { rec with state := .done, pending := some .ret }) next := by
            refine ⟨by have := kC.out.le; omega, fun c hh hk ⟨i1, i2, i3⟩ x => ⟨kC.out.st _ _ _ i1 (x.mono (by omega)), x.2 _ _ (Nat.le_refl _) i2, x.1 _ _ i3⟩, fun c hh hk ⟨i1, i2⟩ x => ⟨kC.out.stS _ _ _ i1 (x.mono (by omega)), x.2 _ _ (Nat.le_refl _) i2⟩, fun c hh ⟨i1, i2, i3⟩ => ⟨(List.getElem?_eq_some_iff.1 i2).1, (kC.out.at_ _ _ i1).2⟩, ?_⟩
            intro c hh z tk3 sz3 rows3 dd ⟨i1, i2, i3⟩ hz k0 k1 k2
            have hl' : h'.loops.length < hh.loops.length := (List.getElem?_eq_some_iff.1 i2).1
            obtain ⟨rb, hrb⟩ : ∃ rb : LoopRec, rb = { rec with state := .busy } := ⟨_, rfl⟩
            obtain ⟨hB, hhB⟩ : ∃ hB : Heap, hB = (hh.push (row6 z.kind z.n z.no z.name tk3 sz3 rows3 dd)).setLoop h'.loops.length rb := ⟨_, rfl⟩
            have ki : Inv c hB := by rw [hhB]; exact kC.out.st _ _ _ i1 ((St.push l hh _).trans (St.setLoop (by omega) _))
            obtain ⟨r1, h1, hr1, fr1, an1⟩ := kC.out.round c hB z tk3 sz3 rows3 dd ki hz k0 k1 (by rw [hhB]; exact k2)
            have fr0 : Fr bn l0 n0 hh h1 := Fr.trans (by rw [hhB]; exact (Fr.push ..).trans (Fr.setLoop (by have := kC.out.le; omega) _)) fr1
            have hlb : hB.loops[h'.loops.length]? = some rb := by rw [hhB]; exact setLoop_this hl'
            have f1 : hB.boxes[h.boxes.length]? = some [.yield l] := by rw [hhB]; exact push_old i3
            have f2 : hB.boxes[hh.boxes.length]? = some (row6 z.kind z.n z.no z.name tk3 sz3 rows3 dd) := by rw [hhB]; exact push_last _ _
            have hbl : ∀ (h4 : Heap) (r4 : Res), Run W rec.body (roundEnv h'.loops.length rec [.agg (row6 z.kind z.n z.no z.name tk3 sz3 rows3 dd)] |>.st 6 (.ptr (.box hh.boxes.length) 0)) hB (roundQ h'.loops.length r4 h4) →
                W.round h'.loops.length [.agg (row6 z.kind z.n z.no z.name tk3 sz3 rows3 dd)] hh = some (r4, h4) := by
              intro h4 r4 hb
              rw [hhB, hrb] at hb
              refine round_of_run i2 (by rw [w2]; rfl) ?_
              rw [w3]
              have t24 : (roundEnv h'.loops.length rec [.agg (row6 z.kind z.n z.no z.name tk3 sz3 rows3 dd)]).get 24 = .agg (row6 z.kind z.n z.no z.name tk3 sz3 rows3 dd) := by rw [roundEnv_get w2 w1]; rfl
              have rc : (AV.agg (row6 z.kind z.n z.no z.name tk3 sz3 rows3 dd)).cellsO = some (row6 z.kind z.n z.no z.name tk3 sz3 rows3 dd) := rfl
              have rl2 : (row6 z.kind z.n z.no z.name tk3 sz3 rows3 dd).length = 6 := rfl
              have rlz : (row6 0 0 0 [] .nil 0 [] 0).length = 6 := rfl
              have khb := Keep.mk hb
              clear hb w4
              repeat' (first | simp (config := { maxSteps := 4000000 }) (disch := first | assumption | (exact Nat.le_refl _) | omega | (simp only [List.length_cons, List.length_nil, List.length_append, push_len, put_len, len_app] <;> omega) | (simp (disch := (first | assumption | omega | (exact (push_len _ _).symm) | (simp only [push_len, put_len, len_app]; omega) | (refine Nat.le_antisymm ?_ ?_ <;> simp only [push_len, put_len, len_app] <;> omega) | fail)) only [get_push_last, get_push_eq, get_push_ne, get_put_eq, get_put_ne, get_app] <;> first | assumption | rfl) | (simp only [canApp_push, canApp_put]; assumption) | (exact start_round _ _) | (simp only [st_round, dfr_round, pn_round]; first | assumption | exact start_round _ _) | fail) only [goS, plainEv, resultsEv, resultListEv, reduceIte, Nat.reduceEqDiff, Option.map_some, Option.map_none, Option.bind_some, List.map_cons, List.map_nil, List.getD_cons_zero, List.getD_cons_succ, List.getElem?_toArray, List.getElem?_cons_zero, List.getElem?_cons_succ, eq_self, beq_self_eq_true, goH, List.append_nil, List.nil_append, store_push, *] | (refine guard_dec (fun _ => ?_) (fun _ => ?_) <;> try (exfalso; omega)) | (refine guard_ndec (fun _ => ?_) (fun _ => ?_) <;> try (exfalso; omega)) | (refine branch_dec (fun _ => ?_) (fun _ => ?_) <;> try (exfalso; omega)) | (refine branch_ndec (fun _ => ?_) (fun _ => ?_) <;> try (exfalso; omega)) | refine run_draw (by kernel_rfl) ?_ | refine guard_nbool (fun _ => ?_) (fun _ => ?_) | refine branch_nbool (fun _ => ?_) (fun _ => ?_) | refine guard_bool (fun _ => ?_) (fun _ => ?_) | refine branch_bool (fun _ => ?_) (fun _ => ?_))
              exact ⟨by first | trivial | rfl, rec, i2, w5, khb.out⟩
            have t3 : (roundEnv h'.loops.length rec [.agg (row6 z.kind z.n z.no z.name tk3 sz3 rows3 dd)]).get 3 = .ptr (.box h.boxes.length) 0 := by rw [roundEnv_get w2 w1]; exact p3
            have nb : h.boxes.length ≠ hh.boxes.length := by have := (List.getElem?_eq_some_iff.1 i3).1; omega
            have rl2 : 0 + 6 ≤ (row6 z.kind z.n z.no z.name tk3 sz3 rows3 dd).length := Nat.le_refl _
            have nbn : h.boxes.length ≠ bn := by have := hat.2; omega
            have kfr := Keep.mk fr0
            have khbl := Keep.mk hbl
            have khhB := Keep.mk hhB
            have khrb := Keep.mk hrb
            have kw5 := Keep.mk w5
            have kw6 := Keep.mk w6
            have rr : ∀ (q : LoopRec), q = rb → ({ q with state := .ready, pending := none } : LoopRec) = rec := by
              intro q hq
              rw [hq, hrb, ← w5, ← w6]
            have krr := Keep.mk rr
            have rs : ∀ (q : LoopRec), q = rb → ({ q with state := .done, pending := some .ret } : LoopRec) = { rec with state := .done, pending := some .ret } := by
              intro q hq
              rw [hq, hrb]
            have krs := Keep.mk rs
            clear fr0 hbl hhB hrb fr1 w5 w6 rr rs ki k2 k1 k0 hl'
            cases hnx2 : next c z dd with
            | panic v =>
              rw [hnx2] at an1
              have e1 : r1 = .panic v := an1
              subst e1
              refine ⟨.panic v, h1, khbl.out _ _ ?_, kfr.out, rfl⟩
              rw [w4]
              clear w4 w3 w2 w1 an1
              repeat' (first | simp (config := { maxSteps := 4000000 }) (disch := first | assumption | (exact Nat.le_refl _) | omega | (simp only [List.length_cons, List.length_nil, List.length_append, push_len, put_len, len_app] <;> omega) | (simp (disch := (first | assumption | omega | (exact (push_len _ _).symm) | (simp only [push_len, put_len, len_app]; omega) | (refine Nat.le_antisymm ?_ ?_ <;> simp only [push_len, put_len, len_app] <;> omega) | fail)) only [get_push_last, get_push_eq, get_push_ne, get_put_eq, get_put_ne, get_app] <;> first | assumption | rfl) | (simp only [canApp_push, canApp_put]; assumption) | (exact start_round _ _) | (simp only [st_round, dfr_round, pn_round]; first | assumption | exact start_round _ _) | fail) only [goS, plainEv, resultsEv, resultListEv, reduceIte, Nat.reduceEqDiff, Option.map_some, Option.map_none, Option.bind_some, List.map_cons, List.map_nil, List.getD_cons_zero, List.getD_cons_succ, List.getElem?_toArray, List.getElem?_cons_zero, List.getElem?_cons_succ, eq_self, beq_self_eq_true, goH, List.append_nil, List.nil_append, row6_all, cell_one, roundQ, *] | (refine guard_dec (fun _ => ?_) (fun _ => ?_) <;> try (exfalso; omega)) | (refine guard_ndec (fun _ => ?_) (fun _ => ?_) <;> try (exfalso; omega)) | (refine branch_dec (fun _ => ?_) (fun _ => ?_) <;> try (exfalso; omega)) | (refine branch_ndec (fun _ => ?_) (fun _ => ?_) <;> try (exfalso; omega)) | refine run_draw (by kernel_rfl) ?_ | refine guard_nbool (fun _ => ?_) (fun _ => ?_) | refine branch_nbool (fun _ => ?_) (fun _ => ?_) | refine guard_bool (fun _ => ?_) (fun _ => ?_) | refine branch_bool (fun _ => ?_) (fun _ => ?_))
              exact ⟨by first | trivial | rfl, by first | trivial | rfl⟩
            | stop c' =>
              rw [hnx2] at an1
              obtain ⟨e1, e2', e3⟩ : r1 = .ret (.v (.bool false)) ∧ InvS c' h1 ∧ ∀ (m : Nat) (q : LoopRec), l < m → _ → h1.loops[m]? = some q := an1
              subst e1
              have hl1 := e3 _ _ (by omega) hlb
              have ke3 := Keep.mk e3
              clear e3
              obtain ⟨hF, hhF⟩ : ∃ hF : Heap, hF = h1.setLoop h'.loops.length { rec with state := .done, pending := some .ret } := ⟨_, rfl⟩
              have khF := Keep.mk hhF
              suffices hs : W.round h'.loops.length [.agg (row6 z.kind z.n z.no z.name tk3 sz3 rows3 dd)] hh = some (.ret (.v (.bool false)), hF) by
                refine ⟨_, _, hs, ?_⟩
                rw [hhF]
                exact ⟨kfr.out.trans (Fr.setLoop (by have := kC.out.le; omega) _), rfl, ⟨kC.out.stS _ _ _ e2' (St.setLoop (by omega) _), setLoop_this (List.getElem?_eq_some_iff.1 hl1).1⟩, fun m q h7 hm => by
                  rw [setLoop_other (by omega)]
                  refine ke3.out m q (by omega) ?_
                  rw [khhB.out, setLoop_other (by omega)]
                  exact hm⟩
              refine khbl.out _ _ ?_
              rw [w4]
              have kl1 := Keep.mk hl1
              clear w4 w3 w2 w1 hl1 hhF
              repeat' (first | simp (config := { maxSteps := 4000000 }) (disch := first | assumption | (exact Nat.le_refl _) | omega | (simp only [List.length_cons, List.length_nil, List.length_append, push_len, put_len, len_app] <;> omega) | (simp (disch := (first | assumption | omega | (exact (push_len _ _).symm) | (simp only [push_len, put_len, len_app]; omega) | (refine Nat.le_antisymm ?_ ?_ <;> simp only [push_len, put_len, len_app] <;> omega) | fail)) only [get_push_last, get_push_eq, get_push_ne, get_put_eq, get_put_ne, get_app] <;> first | assumption | rfl) | (simp only [canApp_push, canApp_put]; assumption) | (exact start_round _ _) | (simp only [st_round, dfr_round, pn_round]; first | assumption | exact start_round _ _) | fail) only [goS, plainEv, resultsEv, resultListEv, reduceIte, Nat.reduceEqDiff, Option.map_some, Option.map_none, Option.bind_some, List.map_cons, List.map_nil, List.getD_cons_zero, List.getD_cons_succ, List.getElem?_toArray, List.getElem?_cons_zero, List.getElem?_cons_succ, eq_self, beq_self_eq_true, goH, List.append_nil, List.nil_append, row6_all, cell_one, roundQ, *] | (refine guard_dec (fun _ => ?_) (fun _ => ?_) <;> try (exfalso; omega)) | (refine guard_ndec (fun _ => ?_) (fun _ => ?_) <;> try (exfalso; omega)) | (refine branch_dec (fun _ => ?_) (fun _ => ?_) <;> try (exfalso; omega)) | (refine branch_ndec (fun _ => ?_) (fun _ => ?_) <;> try (exfalso; omega)) | refine run_draw (by kernel_rfl) ?_ | refine guard_nbool (fun _ => ?_) (fun _ => ?_) | refine branch_nbool (fun _ => ?_) (fun _ => ?_) | refine guard_bool (fun _ => ?_) (fun _ => ?_) | refine branch_bool (fun _ => ?_) (fun _ => ?_))
              exact ⟨rb, kl1.out, by first | trivial | rfl, by rw [khF.out, krs.out rb rfl]; rfl⟩
            | cont c' =>
              rw [hnx2] at an1
              obtain ⟨e1, e2', e3⟩ : r1 = .ret (.v (.bool true)) ∧ Inv c' h1 ∧ ∀ (m : Nat) (q : LoopRec), _ → h1.loops[m]? = some q := an1
              subst e1
              have hl1 := e3 _ _ hlb
              have ke3 := Keep.mk e3
              clear e3
              obtain ⟨hF, hhF⟩ : ∃ hF : Heap, hF = h1.setLoop h'.loops.length rec := ⟨_, rfl⟩
              have khF := Keep.mk hhF
              suffices hs : W.round h'.loops.length [.agg (row6 z.kind z.n z.no z.name tk3 sz3 rows3 dd)] hh = some (.ret (.v (.bool true)), hF) by
                refine ⟨_, _, hs, ?_⟩
                rw [hhF]
                refine ⟨kfr.out.trans (Fr.setLoop (by have := kC.out.le; omega) _), rfl, ⟨kC.out.st _ _ _ e2' (St.setLoop (by omega) _), setLoop_this (List.getElem?_eq_some_iff.1 hl1).1, kfr.out.box _ _ nbn i3⟩, fun m q hm => ?_⟩
                by_cases q1 : m = h'.loops.length
                · subst q1
                  rw [i2] at hm
                  injection hm with hm
                  subst hm
                  exact setLoop_this (List.getElem?_eq_some_iff.1 hl1).1
                · rw [setLoop_other q1]
                  refine ke3.out m q ?_
                  rw [khhB.out, setLoop_other q1]
                  exact hm
              refine khbl.out _ _ ?_
              rw [w4]
              have kl1 := Keep.mk hl1
              clear w4 w3 w2 w1 hl1 hhF
              repeat' (first | simp (config := { maxSteps := 4000000 }) (disch := first | assumption | (exact Nat.le_refl _) | omega | (simp only [List.length_cons, List.length_nil, List.length_append, push_len, put_len, len_app] <;> omega) | (simp (disch := (first | assumption | omega | (exact (push_len _ _).symm) | (simp only [push_len, put_len, len_app]; omega) | (refine Nat.le_antisymm ?_ ?_ <;> simp only [push_len, put_len, len_app] <;> omega) | fail)) only [get_push_last, get_push_eq, get_push_ne, get_put_eq, get_put_ne, get_app] <;> first | assumption | rfl) | (simp only [canApp_push, canApp_put]; assumption) | (exact start_round _ _) | (simp only [st_round, dfr_round, pn_round]; first | assumption | exact start_round _ _) | fail) only [goS, plainEv, resultsEv, resultListEv, reduceIte, Nat.reduceEqDiff, Option.map_some, Option.map_none, Option.bind_some, List.map_cons, List.map_nil, List.getD_cons_zero, List.getD_cons_succ, List.getElem?_toArray, List.getElem?_cons_zero, List.getElem?_cons_succ, eq_self, beq_self_eq_true, goH, List.append_nil, List.nil_append, row6_all, cell_one, roundQ, *] | (refine guard_dec (fun _ => ?_) (fun _ => ?_) <;> try (exfalso; omega)) | (refine guard_ndec (fun _ => ?_) (fun _ => ?_) <;> try (exfalso; omega)) | (refine branch_dec (fun _ => ?_) (fun _ => ?_) <;> try (exfalso; omega)) | (refine branch_ndec (fun _ => ?_) (fun _ => ?_) <;> try (exfalso; omega)) | refine run_draw (by kernel_rfl) ?_ | refine guard_nbool (fun _ => ?_) (fun _ => ?_) | refine branch_nbool (fun _ => ?_) (fun _ => ?_) | refine guard_bool (fun _ => ?_) (fun _ => ?_) | refine branch_bool (fun _ => ?_) (fun _ => ?_))
              exact ⟨rb, kl1.out, by first | trivial | rfl, by rw [khF.out, krr.out rb rfl]; rfl⟩
          have hy5 : ∃ r3 h3, W.call 67 [.yield h'.loops.length, .ptr (.box (h'.boxes.length + 1)) 0, .ptr (.box (h'.boxes.length + 1 + 1)) 0] ((((h'.push (row5 y.kind y.n y.no y.name tk2 sz2 rows2)).push (row5 y.kind y.n y.no y.name tk2 sz2 rows2)).push [.v (.int .i64 (d + 1))]).loop rec) = some (r3, h3) ∧
              Fr bn l0 n0 ((((h'.push (row5 y.kind y.n y.no y.name tk2 sz2 rows2)).push (row5 y.kind y.n y.no y.name tk2 sz2 rows2)).push [.v (.int .i64 (d + 1))]).loop rec) h3 ∧ Fed h'.loops.length _ _ ((((h'.push (row5 y.kind y.n y.no y.name tk2 sz2 rows2)).push (row5 y.kind y.n y.no y.name tk2 sz2 rows2)).push [.v (.int .i64 (d + 1))]).loop rec) r3 h3 (feed next y (d + 1) b) :=
            kih.out y (List.mem_of_getElem? hy) tk2 sz2 rows2 hyr h'.loops.length bn l0 n0 _ _ next C' b _ (h'.boxes.length + 1) (h'.boxes.length + 1 + 1) (d + 1)
            ⟨kC.out.st _ _ _ kI'.out ((((St.push _ _ _).trans (St.push _ _ _)).trans (St.push _ _ _)).trans (St.loop_new _ _ _)), loop_this, push_old (push_old (push_old hb3))⟩
            (Nat.le_trans hn0 kf.out.tn)
            (by have := push_last (h'.push (row5 y.kind y.n y.no y.name tk2 sz2 rows2)) (row5 y.kind y.n y.no y.name tk2 sz2 rows2); rw [push_len] at this; exact push_old this)
            (by have := push_last ((h'.push (row5 y.kind y.n y.no y.name tk2 sz2 rows2)).push (row5 y.kind y.n y.no y.name tk2 sz2 rows2)) [.v (.int .i64 (d + 1))]; rw [push_len, push_len] at this; exact this)
            (by omega) (by omega) (by omega) (by rw [depthE] at hd1; omega)
          obtain ⟨r3, h3, hc3, hf3, hfd3⟩ := hy5
          refine ⟨r3, h3, hc3, ?_⟩
          have fr3 : Fr bn l0 n0 h h3 := kf.out.trans ((((Fr.push ..).trans (Fr.push ..)).trans (Fr.push ..)).trans ((Fr.loop_new ..).trans hf3))
          have hfin : feedL next lx (d + 1) a' = match feed next y (d + 1) b with | .cont b2 => feedL next (lx.drop (i + 1)) (d + 1) b2 | q => q := by
            rw [← kfd.out, drop_get hy, feedL]
          have kf3 := Keep.mk fr3
          have hl0 : l0 ≤ h'.loops.length := by have := kC.out.le; omega
          cases hfy : feed next y (d + 1) b with
          | panic v =>
            rw [hfy] at hfd3 hfin
            have e1 : r3 = .panic v := hfd3
            subst e1
            rw [hfin]
            clear w1 w2 w3 w4 w5 w6 hc3 fr3 C' hf3 hfd3
            repeat' (first | simp (config := { maxSteps := 4000000 }) (disch := first | assumption | (exact Nat.le_refl _) | omega | (simp only [List.length_cons, List.length_nil, List.length_append, push_len, put_len, len_app] <;> omega) | (simp (disch := (first | assumption | omega | (exact (push_len _ _).symm) | (simp only [push_len, put_len, len_app]; omega) | (refine Nat.le_antisymm ?_ ?_ <;> simp only [push_len, put_len, len_app] <;> omega) | fail)) only [get_push_last, get_push_eq, get_push_ne, get_put_eq, get_put_ne, get_app] <;> first | assumption | rfl) | (simp only [canApp_push, canApp_put]; assumption) | (exact start_round _ _) | (simp only [st_round, dfr_round, pn_round]; first | assumption | exact start_round _ _) | fail) only [goS, plainEv, resultsEv, resultListEv, reduceIte, Nat.reduceEqDiff, Option.map_some, Option.map_none, Option.bind_some, List.map_cons, List.map_nil, List.getD_cons_zero, List.getD_cons_succ, List.getElem?_toArray, List.getElem?_cons_zero, List.getElem?_cons_succ, eq_self, beq_self_eq_true, goH, List.append_nil, List.nil_append, res67, *] | (refine guard_dec (fun _ => ?_) (fun _ => ?_) <;> try (exfalso; omega)) | (refine guard_ndec (fun _ => ?_) (fun _ => ?_) <;> try (exfalso; omega)) | (refine branch_dec (fun _ => ?_) (fun _ => ?_) <;> try (exfalso; omega)) | (refine branch_ndec (fun _ => ?_) (fun _ => ?_) <;> try (exfalso; omega)) | refine run_draw (by kernel_rfl) ?_ | refine guard_nbool (fun _ => ?_) (fun _ => ?_) | refine branch_nbool (fun _ => ?_) (fun _ => ?_) | refine guard_bool (fun _ => ?_) (fun _ => ?_) | refine branch_bool (fun _ => ?_) (fun _ => ?_))
            exact ⟨_, _, rfl, kf3.out, rfl⟩
          | stop b2 =>
            rw [hfy] at hfd3 hfin
            obtain ⟨e1, e2', e3⟩ : r3 = .ret (.tuple []) ∧ InvS b2 h3 ∧ h3.loops[h'.loops.length]? = some { rec with state := .done, pending := some .ret } := hfd3
            subst e1
            rw [hfin]
            refine ⟨_, e3, by simp, .inr ⟨rfl, ?_⟩⟩
            generalize hF : h3.setLoop _ _ = hF1
            have kF := Keep.mk hF
            clear w1 w2 w3 w4 w5 w6 hc3 fr3 C' hf3 hF e3
            repeat' (first | simp (config := { maxSteps := 4000000 }) (disch := first | assumption | (exact Nat.le_refl _) | omega | (simp only [List.length_cons, List.length_nil, List.length_append, push_len, put_len, len_app] <;> omega) | (simp (disch := (first | assumption | omega | (exact (push_len _ _).symm) | (simp only [push_len, put_len, len_app]; omega) | (refine Nat.le_antisymm ?_ ?_ <;> simp only [push_len, put_len, len_app] <;> omega) | fail)) only [get_push_last, get_push_eq, get_push_ne, get_put_eq, get_put_ne, get_app] <;> first | assumption | rfl) | (simp only [canApp_push, canApp_put]; assumption) | (exact start_round _ _) | (simp only [st_round, dfr_round, pn_round]; first | assumption | exact start_round _ _) | fail) only [goS, plainEv, resultsEv, resultListEv, reduceIte, Nat.reduceEqDiff, Option.map_some, Option.map_none, Option.bind_some, List.map_cons, List.map_nil, List.getD_cons_zero, List.getD_cons_succ, List.getElem?_toArray, List.getElem?_cons_zero, List.getElem?_cons_succ, eq_self, beq_self_eq_true, goH, List.append_nil, List.nil_append, res67, *] | (refine guard_dec (fun _ => ?_) (fun _ => ?_) <;> try (exfalso; omega)) | (refine guard_ndec (fun _ => ?_) (fun _ => ?_) <;> try (exfalso; omega)) | (refine branch_dec (fun _ => ?_) (fun _ => ?_) <;> try (exfalso; omega)) | (refine branch_ndec (fun _ => ?_) (fun _ => ?_) <;> try (exfalso; omega)) | refine run_draw (by kernel_rfl) ?_ | refine guard_nbool (fun _ => ?_) (fun _ => ?_) | refine branch_nbool (fun _ => ?_) (fun _ => ?_) | refine guard_bool (fun _ => ?_) (fun _ => ?_) | refine branch_bool (fun _ => ?_) (fun _ => ?_))
            exact ⟨_, _, rfl, by rw [← kF.out]; exact kf3.out.trans (Fr.setLoop hl0 _), rfl, by rw [← kF.out]; exact kC.out.stS _ _ _ e2' (St.setLoop (show l < h'.loops.length by omega) _)⟩
          | cont b2 =>
            rw [hfy] at hfd3 hfin
            obtain ⟨e1, ⟨e2', e3, e4⟩, e5⟩ : r3 = .ret (.tuple []) ∧ (Inv b2 h3 ∧ h3.loops[h'.loops.length]? = some rec ∧ h3.boxes[h.boxes.length]? = some [.yield l]) ∧ ∀ (m : Nat) (q : LoopRec), _ → h3.loops[m]? = some q := hfd3
            subst e1
            refine ⟨_, e3, by rw [w5]; simp, .inl ⟨w6, ?_⟩⟩
            generalize hF : h3.setLoop _ _ = hF1
            have kF := Keep.mk hF
            have ke3 := Keep.mk e3
            have ke5 := Keep.mk e5
            have kfin := Keep.mk hfin
            clear w1 w2 w3 w4 w5 w6 hc3 fr3 C' hf3 hF e3 e5 hfin
            repeat' (first | simp (config := { maxSteps := 4000000 }) (disch := first | assumption | (exact Nat.le_refl _) | omega | (simp only [List.length_cons, List.length_nil, List.length_append, push_len, put_len, len_app] <;> omega) | (simp (disch := (first | assumption | omega | (exact (push_len _ _).symm) | (simp only [push_len, put_len, len_app]; omega) | (refine Nat.le_antisymm ?_ ?_ <;> simp only [push_len, put_len, len_app] <;> omega) | fail)) only [get_push_last, get_push_eq, get_push_ne, get_put_eq, get_put_ne, get_app] <;> first | assumption | rfl) | (simp only [canApp_push, canApp_put]; assumption) | (exact start_round _ _) | (simp only [st_round, dfr_round, pn_round]; first | assumption | exact start_round _ _) | fail) only [goS, plainEv, resultsEv, resultListEv, reduceIte, Nat.reduceEqDiff, Option.map_some, Option.map_none, Option.bind_some, List.map_cons, List.map_nil, List.getD_cons_zero, List.getD_cons_succ, List.getElem?_toArray, List.getElem?_cons_zero, List.getElem?_cons_succ, eq_self, beq_self_eq_true, goH, List.append_nil, List.nil_append, res67, *] | (refine guard_dec (fun _ => ?_) (fun _ => ?_) <;> try (exfalso; omega)) | (refine guard_ndec (fun _ => ?_) (fun _ => ?_) <;> try (exfalso; omega)) | (refine branch_dec (fun _ => ?_) (fun _ => ?_) <;> try (exfalso; omega)) | (refine branch_ndec (fun _ => ?_) (fun _ => ?_) <;> try (exfalso; omega)) | refine run_draw (by kernel_rfl) ?_ | refine guard_nbool (fun _ => ?_) (fun _ => ?_) | refine branch_nbool (fun _ => ?_) (fun _ => ?_) | refine guard_bool (fun _ => ?_) (fun _ => ?_) | refine branch_bool (fun _ => ?_) (fun _ => ?_))
            refine ⟨lx.length - (i + 1), by omega, i + 1, b2, by omega, rfl, (by first | trivial | (simp; done) | (simp; omega)), (by first | trivial | (simp; done) | (simp; omega)), (by first | trivial | (simp; done) | (simp; omega)), (by first | trivial | (simp; done) | (simp; omega)), (by first | trivial | (simp; done) | (simp; omega)), (by first | trivial | (simp; done) | (simp; omega)), (by first | trivial | (simp; done) | (simp; omega)), ?_, ?_, fun m q hm => ?_, ?_, ?_, ?_, ?_⟩
            · rw [← kF.out]; exact kf3.out.trans (Fr.setLoop hl0 _)
            · rw [← kF.out]; exact kC.out.st _ _ _ e2' (St.setLoop (show l < h'.loops.length by omega) _)
            · rw [← kF.out]
              have h1 := klp.out m q hm
              have h2 : m ≠ h'.loops.length := by have := (List.getElem?_eq_some_iff.1 h1).1; omega
              refine (setLoop_other h2).trans ?_
              exact ke5.out m q (loop_old h1)
            · rw [← kF.out]; exact kf3.out.box _ _ hxn (by assumption)
            · rw [← kF.out]; exact kf3.out.box _ _ hdn (by assumption)
            · rw [← kF.out]; exact e4
            · exact kfin.out.symm
        · have hie : i = lx.length := by omega
          subst hie
          have hfin : feedL next lx (d + 1) a' = .cont b := by
            rw [← kfd.out, List.drop_length, feedL]
          rw [hfin]
          repeat' (first | simp (config := { maxSteps := 4000000 }) (disch := first | assumption | (exact Nat.le_refl _) | omega | (simp only [List.length_cons, List.length_nil, List.length_append, push_len, put_len, len_app] <;> omega) | (simp (disch := (first | assumption | omega | (exact (push_len _ _).symm) | (simp only [push_len, put_len, len_app]; omega) | (refine Nat.le_antisymm ?_ ?_ <;> simp only [push_len, put_len, len_app] <;> omega) | fail)) only [get_push_last, get_push_eq, get_push_ne, get_put_eq, get_put_ne, get_app] <;> first | assumption | rfl) | (simp only [canApp_push, canApp_put]; assumption) | (exact start_round _ _) | (simp only [st_round, dfr_round, pn_round]; first | assumption | exact start_round _ _) | fail) only [goS, plainEv, resultsEv, resultListEv, reduceIte, Nat.reduceEqDiff, Option.map_some, Option.map_none, Option.bind_some, List.map_cons, List.map_nil, List.getD_cons_zero, List.getD_cons_succ, List.getElem?_toArray, List.getElem?_cons_zero, List.getElem?_cons_succ, eq_self, beq_self_eq_true, goH, List.append_nil, List.nil_append, res67, *] | (refine guard_dec (fun _ => ?_) (fun _ => ?_) <;> try (exfalso; omega)) | (refine guard_ndec (fun _ => ?_) (fun _ => ?_) <;> try (exfalso; omega)) | (refine branch_dec (fun _ => ?_) (fun _ => ?_) <;> try (exfalso; omega)) | (refine branch_ndec (fun _ => ?_) (fun _ => ?_) <;> try (exfalso; omega)) | refine run_draw (by kernel_rfl) ?_ | refine guard_nbool (fun _ => ?_) (fun _ => ?_) | refine branch_nbool (fun _ => ?_) (fun _ => ?_) | refine guard_bool (fun _ => ?_) (fun _ => ?_) | refine branch_bool (fun _ => ?_) (fun _ => ?_))
          exact ⟨_, _, rfl, kf.out, rfl, kI'.out, klp.out⟩
      · refine ⟨0, a', Nat.zero_le _, by omega, ?_, ?_, ?_, ?_, ?_, ?_, ?_, (Fr.push ..).trans kf1.out, ke2.out, fun m q hq => ke3.out m q hq, hb1, hb2, hb3, by rw [List.drop_zero]⟩ <;> simp only [goS, plainEv, resultsEv, resultListEv, reduceIte, Nat.reduceEqDiff, Option.map_some, Option.map_none, Option.bind_some, List.map_cons, List.map_nil, List.getD_cons_zero, List.getD_cons_succ, List.getElem?_toArray, List.getElem?_cons_zero, List.getElem?_cons_succ, eq_self, beq_self_eq_true, goH, hlen] <;> rfl
end Go.Proofs.YtilmhlbjjfgeoaaDoor
end

section
namespace Go.Proofs.YtilmhlbjjfgeoaaDoor
open Go.AE Go.Lex Go.Pol

theorem res61 : Tryd.f61.results.toList = [.tmp 2] := by kernel_rfl
theorem res41 : Tryd.f41.results.toList = [.tmp 2] := by kernel_rfl
theorem res42 : Tryd.f42.results.toList = [.tmp 2] := by kernel_rfl
theorem res43 : Tryd.f43.results.toList = [.tmp 2] := by kernel_rfl
theorem res10 : Tryd.f10.results.toList = [.tmp 2] := by kernel_rfl
def largeE (x : Ex) : Bool := decide (256 < parts x 256) || decide (16 < depthE x)
set_option maxHeartbeats 4000000 in
set_option maxRecDepth 100000 in
theorem large_ev (x : Ex) (row : List AV) (hr : Row x row) (hcn : cnt x ≤ 1000) (h : Heap) : Says W 61 [.agg row] h (.ret (.v (.bool (largeE x)))) := by
  obtain ⟨tok, sz, rows, rfl, -⟩ := Row.five hr
  obtain ⟨h2, hc2, hx2⟩ := parts_ev x _ hr 256 (by omega) (by omega) (h.push (row5 x.kind x.n x.no x.name tok sz rows))
  obtain ⟨h3, hc3, hx3⟩ := depth_ev x _ hr (by have := depth_cnt x; omega) h2
  have hb := hx2.box _ _ (push_last h (row5 x.kind x.n x.no x.name tok sz rows))
  have k2 := Keep.mk ((Ext.push h _).trans hx2)
  have k3 := Keep.mk (((Ext.push h _).trans hx2).trans hx3)
  have a26 := ag26; have s26 := sz26
  have rl : (row5 x.kind x.n x.no x.name tok sz rows).length = 5 := rfl
  clear hx2 hx3 hr
  refine call_ex rfl Tryd.func61 rfl ?_
  by_cases hp : 256 < parts x 256
  · repeat' (first | simp (config := { maxSteps := 4000000 }) (disch := first | assumption | (exact Nat.le_refl _) | omega | (simp only [List.length_cons, List.length_nil, List.length_append, push_len, put_len, len_app] <;> omega) | (simp (disch := (first | assumption | omega | (exact (push_len _ _).symm) | (simp only [push_len, put_len, len_app]; omega) | (refine Nat.le_antisymm ?_ ?_ <;> simp only [push_len, put_len, len_app] <;> omega) | fail)) only [get_push_last, get_push_eq, get_push_ne, get_put_eq, get_put_ne, get_app] <;> first | assumption | rfl) | (simp only [canApp_push, canApp_put]; assumption) | (exact start_round _ _) | (simp only [st_round, dfr_round, pn_round]; first | assumption | exact start_round _ _) | fail) only [goS, plainEv, resultsEv, resultListEv, reduceIte, Nat.reduceEqDiff, Option.map_some, Option.map_none, Option.bind_some, List.map_cons, List.map_nil, List.getD_cons_zero, List.getD_cons_succ, List.getElem?_toArray, List.getElem?_cons_zero, List.getElem?_cons_succ, eq_self, beq_self_eq_true, goH, List.append_nil, List.nil_append, res61, row5_cells, row5_all, *] | (refine guard_dec (fun _ => ?_) (fun _ => ?_) <;> try (exfalso; omega)) | (refine guard_ndec (fun _ => ?_) (fun _ => ?_) <;> try (exfalso; omega)) | (refine branch_dec (fun _ => ?_) (fun _ => ?_) <;> try (exfalso; omega)) | (refine branch_ndec (fun _ => ?_) (fun _ => ?_) <;> try (exfalso; omega)) | refine run_draw (by kernel_rfl) ?_ | refine guard_nbool (fun _ => ?_) (fun _ => ?_) | refine branch_nbool (fun _ => ?_) (fun _ => ?_) | refine guard_bool (fun _ => ?_) (fun _ => ?_) | refine branch_bool (fun _ => ?_) (fun _ => ?_))
    all_goals exact answerY (by simp [largeE, hp]) k2.out
  · repeat' (first | simp (config := { maxSteps := 4000000 }) (disch := first | assumption | (exact Nat.le_refl _) | omega | (simp only [List.length_cons, List.length_nil, List.length_append, push_len, put_len, len_app] <;> omega) | (simp (disch := (first | assumption | omega | (exact (push_len _ _).symm) | (simp only [push_len, put_len, len_app]; omega) | (refine Nat.le_antisymm ?_ ?_ <;> simp only [push_len, put_len, len_app] <;> omega) | fail)) only [get_push_last, get_push_eq, get_push_ne, get_put_eq, get_put_ne, get_app] <;> first | assumption | rfl) | (simp only [canApp_push, canApp_put]; assumption) | (exact start_round _ _) | (simp only [st_round, dfr_round, pn_round]; first | assumption | exact start_round _ _) | fail) only [goS, plainEv, resultsEv, resultListEv, reduceIte, Nat.reduceEqDiff, Option.map_some, Option.map_none, Option.bind_some, List.map_cons, List.map_nil, List.getD_cons_zero, List.getD_cons_succ, List.getElem?_toArray, List.getElem?_cons_zero, List.getElem?_cons_succ, eq_self, beq_self_eq_true, goH, List.append_nil, List.nil_append, res61, row5_cells, row5_all, *] | (refine guard_dec (fun _ => ?_) (fun _ => ?_) <;> try (exfalso; omega)) | (refine guard_ndec (fun _ => ?_) (fun _ => ?_) <;> try (exfalso; omega)) | (refine branch_dec (fun _ => ?_) (fun _ => ?_) <;> try (exfalso; omega)) | (refine branch_ndec (fun _ => ?_) (fun _ => ?_) <;> try (exfalso; omega)) | refine run_draw (by kernel_rfl) ?_ | refine guard_nbool (fun _ => ?_) (fun _ => ?_) | refine branch_nbool (fun _ => ?_) (fun _ => ?_) | refine guard_bool (fun _ => ?_) (fun _ => ?_) | refine branch_bool (fun _ => ?_) (fun _ => ?_))
    all_goals refine answerY (by simp [largeE, hp]; try omega) k3.out
def fewP (p : Po) : Bool := fewN p.offices 32 && fewN p.kinds 16 && decide (p.rules.length ≤ 20) && fewE p.change && p.rules.all fun x => fewE x.expr

set_option maxHeartbeats 8000000 in
set_option maxRecDepth 100000 in
theorem fewP_ev (p : Po) (t : PT) (ok : POk p t) (h : Heap) : Says W 10 [.agg (prow p t)] h (.ret (.v (.bool (fewP p)))) := by
  have u9 := Tryd.underlying9; have u22 := Tryd.underlying22; have u23 := Tryd.underlying23; have u24 := Tryd.underlying24
  have a3 := ag3; have a9 := ag9; have a22 := ag22; have a23 := ag23; have a24 := ag24; have a26 := ag26; have a28 := ag28; have a43 := ag43; have s26 := sz26; have s28 := sz28; have s43 := sz43
  have hlen := ok.rules.1
  have pf := @prow_fit p t
  have pf0 := @prow_fit0 p t
  have kok := Keep.mk ok
  have kx0 := Keep.mk (Ext.push h (prow p t))
  have c1 := fewN_ev t.to t.so p.offices 32 ok.zo ok.bo (h.push (prow p t))
  have c2 := fewN_ev t.tk t.sk p.kinds 16 ok.zk ok.bk (h.push (prow p t))
  obtain ⟨h2, c3, hx2⟩ := fewE_ev p.change _ ok.expr (h.push (prow p t))
  have k2 := Keep.mk ((Ext.push h _).trans hx2)
  have hb2 := hx2.box _ _ (push_last h (prow p t))
  have hq : ((t.rr.length : Int) ≤ 20) = (p.rules.length ≤ 20) := by rw [hlen]; exact propext ⟨fun q => by omega, fun q => by omega⟩
  clear hx2
  refine call_ex rfl Tryd.func10 rfl ?_
  by_cases hgood : fewN p.offices 32 = true ∧ fewN p.kinds 16 = true ∧ p.rules.length ≤ 20 ∧ fewE p.change = true
  · obtain ⟨g1, g2, g3, g4⟩ := hgood
    repeat' (first | simp (config := { maxSteps := 4000000 }) (disch := first | assumption | (exact Nat.le_refl _) | omega | (simp only [List.length_cons, List.length_nil, List.length_append, push_len, put_len, len_app] <;> omega) | (simp (disch := (first | assumption | omega | (exact (push_len _ _).symm) | (simp only [push_len, put_len, len_app]; omega) | (refine Nat.le_antisymm ?_ ?_ <;> simp only [push_len, put_len, len_app] <;> omega) | fail)) only [get_push_last, get_push_eq, get_push_ne, get_put_eq, get_put_ne, get_app] <;> first | assumption | rfl) | (simp only [canApp_push, canApp_put]; assumption) | (exact start_round _ _) | (simp only [st_round, dfr_round, pn_round]; first | assumption | exact start_round _ _) | fail) only [goS, plainEv, resultsEv, resultListEv, reduceIte, Nat.reduceEqDiff, Option.map_some, Option.map_none, Option.bind_some, List.map_cons, List.map_nil, List.getD_cons_zero, List.getD_cons_succ, List.getElem?_toArray, List.getElem?_cons_zero, List.getElem?_cons_succ, eq_self, beq_self_eq_true, goH, List.append_nil, List.nil_append, res10, fp28, fp43, prs, strs_len, *] | (refine guard_dec (fun _ => ?_) (fun _ => ?_) <;> try (exfalso; omega)) | (refine guard_ndec (fun _ => ?_) (fun _ => ?_) <;> try (exfalso; omega)) | (refine branch_dec (fun _ => ?_) (fun _ => ?_) <;> try (exfalso; omega)) | (refine branch_ndec (fun _ => ?_) (fun _ => ?_) <;> try (exfalso; omega)) | refine run_draw (by kernel_rfl) ?_ | refine guard_nbool (fun _ => ?_) (fun _ => ?_) | refine branch_nbool (fun _ => ?_) (fun _ => ?_) | refine guard_bool (fun _ => ?_) (fun _ => ?_) | refine branch_bool (fun _ => ?_) (fun _ => ?_))
    all_goals
      refine run_loop (fun m e h' => ∃ (i : Nat), i ≤ p.rules.length ∧ m = p.rules.length - i ∧ e.get 1 = .ptr (.box h.boxes.length) 0 ∧ e.get 3 = .v (.int .i64 i) ∧ e.defers = [] ∧ Ext h h' ∧ h'.boxes[h.boxes.length]? = some (prow p t) ∧ ∀ x ∈ p.rules.take i, (fun x => fewE x.expr) x = true) ?_ p.rules.length _ _ ?_
      · rintro m e h' ⟨i, hi, rfl, g1', g2', hd, hx, hb, hno⟩
        have kx := Keep.mk hx
        have kno := Keep.mk hno
        clear hx hno
        by_cases hlt : i < p.rules.length
        · obtain ⟨y, tok, sz, rows, hy, hr, hyr⟩ := RRows.get kok.out.rules hlt
          have h8 := kok.out.zr i hlt
          have hlt3 : (i : Int) < (t.rr.length : Int) := by rw [hlen]; omega
          have rf5 := @rrow_fit5 y tok sz rows
          have rf8 := @rrow_fit8 y tok sz rows
          have hbr := kok.out.br
          obtain ⟨h4, c4, hx4⟩ := fewE_ev y.expr _ hyr h'
          have kx4 := Keep.mk hx4
          have kb := Keep.mk hb
          clear hx4
          by_cases hs : fewE y.expr = true
          · rw [hs] at c4
            have khs := Keep.mk hs
            clear hs
            repeat' (first | simp (config := { maxSteps := 4000000 }) (disch := first | assumption | (exact Nat.le_refl _) | omega | (simp only [List.length_cons, List.length_nil, List.length_append, push_len, put_len, len_app] <;> omega) | (simp (disch := (first | assumption | omega | (exact (push_len _ _).symm) | (simp only [push_len, put_len, len_app]; omega) | (refine Nat.le_antisymm ?_ ?_ <;> simp only [push_len, put_len, len_app] <;> omega) | fail)) only [get_push_last, get_push_eq, get_push_ne, get_put_eq, get_put_ne, get_app] <;> first | assumption | rfl) | (simp only [canApp_push, canApp_put]; assumption) | (exact start_round _ _) | (simp only [st_round, dfr_round, pn_round]; first | assumption | exact start_round _ _) | fail) only [goS, plainEv, resultsEv, resultListEv, reduceIte, Nat.reduceEqDiff, Option.map_some, Option.map_none, Option.bind_some, List.map_cons, List.map_nil, List.getD_cons_zero, List.getD_cons_succ, List.getElem?_toArray, List.getElem?_cons_zero, List.getElem?_cons_succ, eq_self, beq_self_eq_true, goH, List.append_nil, List.nil_append, res10, fp28, fp43, prs, rrs, index_list, load_row_agg, *] | (refine guard_dec (fun _ => ?_) (fun _ => ?_) <;> try (exfalso; omega)) | (refine guard_ndec (fun _ => ?_) (fun _ => ?_) <;> try (exfalso; omega)) | (refine branch_dec (fun _ => ?_) (fun _ => ?_) <;> try (exfalso; omega)) | (refine branch_ndec (fun _ => ?_) (fun _ => ?_) <;> try (exfalso; omega)) | refine run_draw (by kernel_rfl) ?_ | refine guard_nbool (fun _ => ?_) (fun _ => ?_) | refine branch_nbool (fun _ => ?_) (fun _ => ?_) | refine guard_bool (fun _ => ?_) (fun _ => ?_) | refine branch_bool (fun _ => ?_) (fun _ => ?_))
            refine ⟨p.rules.length - (i + 1), by omega, i + 1, by omega, rfl, (by first | trivial | (simp; done) | (simp; omega)), (by first | trivial | (simp; done) | (simp; omega)), (by first | trivial | (simp; done) | (simp; omega)), kx.out.trans kx4.out, kx4.out.box _ _ kb.out, fun x hx => ?_⟩
            obtain ⟨hj, rfl⟩ := List.getElem?_eq_some_iff.1 hy
            rw [List.take_succ_eq_append_getElem hj] at hx
            rcases List.mem_append.1 hx with q | q
            · exact kno.out x q
            · simp at q; subst q; exact khs.out
          · have hs : fewE y.expr = false := by simpa using hs
            rw [hs] at c4
            have khs := Keep.mk hs
            clear hs
            repeat' (first | simp (config := { maxSteps := 4000000 }) (disch := first | assumption | (exact Nat.le_refl _) | omega | (simp only [List.length_cons, List.length_nil, List.length_append, push_len, put_len, len_app] <;> omega) | (simp (disch := (first | assumption | omega | (exact (push_len _ _).symm) | (simp only [push_len, put_len, len_app]; omega) | (refine Nat.le_antisymm ?_ ?_ <;> simp only [push_len, put_len, len_app] <;> omega) | fail)) only [get_push_last, get_push_eq, get_push_ne, get_put_eq, get_put_ne, get_app] <;> first | assumption | rfl) | (simp only [canApp_push, canApp_put]; assumption) | (exact start_round _ _) | (simp only [st_round, dfr_round, pn_round]; first | assumption | exact start_round _ _) | fail) only [goS, plainEv, resultsEv, resultListEv, reduceIte, Nat.reduceEqDiff, Option.map_some, Option.map_none, Option.bind_some, List.map_cons, List.map_nil, List.getD_cons_zero, List.getD_cons_succ, List.getElem?_toArray, List.getElem?_cons_zero, List.getElem?_cons_succ, eq_self, beq_self_eq_true, goH, List.append_nil, List.nil_append, res10, fp28, fp43, prs, rrs, index_list, load_row_agg, *] | (refine guard_dec (fun _ => ?_) (fun _ => ?_) <;> try (exfalso; omega)) | (refine guard_ndec (fun _ => ?_) (fun _ => ?_) <;> try (exfalso; omega)) | (refine branch_dec (fun _ => ?_) (fun _ => ?_) <;> try (exfalso; omega)) | (refine branch_ndec (fun _ => ?_) (fun _ => ?_) <;> try (exfalso; omega)) | refine run_draw (by kernel_rfl) ?_ | refine guard_nbool (fun _ => ?_) (fun _ => ?_) | refine branch_nbool (fun _ => ?_) (fun _ => ?_) | refine guard_bool (fun _ => ?_) (fun _ => ?_) | refine branch_bool (fun _ => ?_) (fun _ => ?_))
            refine answerY ?_ (kx.out.trans kx4.out)
            have : p.rules.all (fun x => fewE x.expr) = false := by
              rw [Bool.eq_false_iff]
              intro q
              have := List.all_eq_true.1 q y (List.mem_of_getElem? hy)
              rw [khs.out] at this; cases this
            simp [fewP, this]
        · have hie : i = p.rules.length := by omega
          subst hie
          have hlt3 : ¬ ((p.rules.length : Int) < (t.rr.length : Int)) := by rw [hlen]; omega
          have hall : p.rules.all (fun x => (fun x => fewE x.expr) x) = true := List.all_eq_true.2 fun x hx => kno.out x (by rw [List.take_length]; exact hx)
          repeat' (first | simp (config := { maxSteps := 4000000 }) (disch := first | assumption | (exact Nat.le_refl _) | omega | (simp only [List.length_cons, List.length_nil, List.length_append, push_len, put_len, len_app] <;> omega) | (simp (disch := (first | assumption | omega | (exact (push_len _ _).symm) | (simp only [push_len, put_len, len_app]; omega) | (refine Nat.le_antisymm ?_ ?_ <;> simp only [push_len, put_len, len_app] <;> omega) | fail)) only [get_push_last, get_push_eq, get_push_ne, get_put_eq, get_put_ne, get_app] <;> first | assumption | rfl) | (simp only [canApp_push, canApp_put]; assumption) | (exact start_round _ _) | (simp only [st_round, dfr_round, pn_round]; first | assumption | exact start_round _ _) | fail) only [goS, plainEv, resultsEv, resultListEv, reduceIte, Nat.reduceEqDiff, Option.map_some, Option.map_none, Option.bind_some, List.map_cons, List.map_nil, List.getD_cons_zero, List.getD_cons_succ, List.getElem?_toArray, List.getElem?_cons_zero, List.getElem?_cons_succ, eq_self, beq_self_eq_true, goH, List.append_nil, List.nil_append, res10, fp28, fp43, prs, *] | (refine guard_dec (fun _ => ?_) (fun _ => ?_) <;> try (exfalso; omega)) | (refine guard_ndec (fun _ => ?_) (fun _ => ?_) <;> try (exfalso; omega)) | (refine branch_dec (fun _ => ?_) (fun _ => ?_) <;> try (exfalso; omega)) | (refine branch_ndec (fun _ => ?_) (fun _ => ?_) <;> try (exfalso; omega)) | refine run_draw (by kernel_rfl) ?_ | refine guard_nbool (fun _ => ?_) (fun _ => ?_) | refine branch_nbool (fun _ => ?_) (fun _ => ?_) | refine guard_bool (fun _ => ?_) (fun _ => ?_) | refine branch_bool (fun _ => ?_) (fun _ => ?_))
          refine answerY ?_ kx.out
          simp_all [fewP]
      · refine ⟨0, Nat.zero_le _, rfl, ?_, ?_, ?_, k2.out, hb2, fun x hx => by simp at hx⟩ <;> simp only [goS, plainEv, resultsEv, resultListEv, reduceIte, Nat.reduceEqDiff, Option.map_some, Option.map_none, Option.bind_some, List.map_cons, List.map_nil, List.getD_cons_zero, List.getD_cons_succ, List.getElem?_toArray, List.getElem?_cons_zero, List.getElem?_cons_succ, eq_self, beq_self_eq_true, goH] <;> rfl
  · have kbad := Keep.mk hgood
    clear hgood
    repeat' (first | simp (config := { maxSteps := 4000000 }) (disch := first | assumption | (exact Nat.le_refl _) | omega | (simp only [List.length_cons, List.length_nil, List.length_append, push_len, put_len, len_app] <;> omega) | (simp (disch := (first | assumption | omega | (exact (push_len _ _).symm) | (simp only [push_len, put_len, len_app]; omega) | (refine Nat.le_antisymm ?_ ?_ <;> simp only [push_len, put_len, len_app] <;> omega) | fail)) only [get_push_last, get_push_eq, get_push_ne, get_put_eq, get_put_ne, get_app] <;> first | assumption | rfl) | (simp only [canApp_push, canApp_put]; assumption) | (exact start_round _ _) | (simp only [st_round, dfr_round, pn_round]; first | assumption | exact start_round _ _) | fail) only [goS, plainEv, resultsEv, resultListEv, reduceIte, Nat.reduceEqDiff, Option.map_some, Option.map_none, Option.bind_some, List.map_cons, List.map_nil, List.getD_cons_zero, List.getD_cons_succ, List.getElem?_toArray, List.getElem?_cons_zero, List.getElem?_cons_succ, eq_self, beq_self_eq_true, goH, List.append_nil, List.nil_append, res10, fp28, fp43, prs, strs_len, *] | (refine guard_dec (fun _ => ?_) (fun _ => ?_) <;> try (exfalso; omega)) | (refine guard_ndec (fun _ => ?_) (fun _ => ?_) <;> try (exfalso; omega)) | (refine branch_dec (fun _ => ?_) (fun _ => ?_) <;> try (exfalso; omega)) | (refine branch_ndec (fun _ => ?_) (fun _ => ?_) <;> try (exfalso; omega)) | refine run_draw (by kernel_rfl) ?_ | refine guard_nbool (fun _ => ?_) (fun _ => ?_) | refine branch_nbool (fun _ => ?_) (fun _ => ?_) | refine guard_bool (fun _ => ?_) (fun _ => ?_) | refine branch_bool (fun _ => ?_) (fun _ => ?_))
    all_goals first
      | (refine answerY ?_ (by first | exact k2.out | exact kx0.out); symm; rw [Bool.eq_false_iff]; intro q; simp only [fewP, Bool.and_eq_true, decide_eq_true_eq] at q; exact kbad.out ⟨q.1.1.1.1, q.1.1.1.2, q.1.1.2, q.1.2⟩)
      | (exfalso; refine kbad.out ⟨?_, ?_, ?_, ?_⟩ <;> first | assumption | omega | simp_all)

end Go.Proofs.YtilmhlbjjfgeoaaDoor
end

section
namespace Go.Proofs.YtilmhlbjjfgeoaaDoor
open Go.AE Go.Lex Go.Pol

noncomputable def namesP (p : Po) : Bool := freeB p.name && distinctB p.offices && distinctB p.kinds && (p.rules.all fun x => namedE p.offices x.expr) && namedE p.offices p.change

set_option maxHeartbeats 8000000 in
set_option maxRecDepth 100000 in
theorem refNames_ev (p : Po) (t : PT) (ok : POk p t) (h : Heap) : Says W 42 [.agg (prow p t)] h (.ret (.v (.bool (namesP p)))) := by
  have u9 := Tryd.underlying9; have u22 := Tryd.underlying22; have u23 := Tryd.underlying23; have u24 := Tryd.underlying24
  have a3 := ag3; have a9 := ag9; have a22 := ag22; have a23 := ag23; have a24 := ag24; have a26 := ag26; have a28 := ag28; have a43 := ag43; have s26 := sz26; have s28 := sz28; have s43 := sz43
  have hlen := ok.rules.1
  have pf := @prow_fit p t
  have pf0 := @prow_fit0 p t
  have kok := Keep.mk ok
  have kx0 := Keep.mk (Ext.push h (prow p t))
  have c0 := free_ev p.name (h.push (prow p t))
  have c1 := refDistinct_ev t.to t.so p.offices ok.zo ok.bo (h.push (prow p t))
  have c2 := refDistinct_ev t.tk t.sk p.kinds ok.zk ok.bk (h.push (prow p t))
  refine call_ex rfl Tryd.func42 rfl ?_
  by_cases hgood : freeB p.name = true ∧ distinctB p.offices = true ∧ distinctB p.kinds = true
  · obtain ⟨g1, g2, g3⟩ := hgood
    repeat' (first | simp (config := { maxSteps := 4000000 }) (disch := first | assumption | (exact Nat.le_refl _) | omega | (simp only [List.length_cons, List.length_nil, List.length_append, push_len, put_len, len_app] <;> omega) | (simp (disch := (first | assumption | omega | (exact (push_len _ _).symm) | (simp only [push_len, put_len, len_app]; omega) | (refine Nat.le_antisymm ?_ ?_ <;> simp only [push_len, put_len, len_app] <;> omega) | fail)) only [get_push_last, get_push_eq, get_push_ne, get_put_eq, get_put_ne, get_app] <;> first | assumption | rfl) | (simp only [canApp_push, canApp_put]; assumption) | (exact start_round _ _) | (simp only [st_round, dfr_round, pn_round]; first | assumption | exact start_round _ _) | fail) only [goS, plainEv, resultsEv, resultListEv, reduceIte, Nat.reduceEqDiff, Option.map_some, Option.map_none, Option.bind_some, List.map_cons, List.map_nil, List.getD_cons_zero, List.getD_cons_succ, List.getElem?_toArray, List.getElem?_cons_zero, List.getElem?_cons_succ, eq_self, beq_self_eq_true, goH, List.append_nil, List.nil_append, res42, fp28, fp43, prs, strs_len, *] | (refine guard_dec (fun _ => ?_) (fun _ => ?_) <;> try (exfalso; omega)) | (refine guard_ndec (fun _ => ?_) (fun _ => ?_) <;> try (exfalso; omega)) | (refine branch_dec (fun _ => ?_) (fun _ => ?_) <;> try (exfalso; omega)) | (refine branch_ndec (fun _ => ?_) (fun _ => ?_) <;> try (exfalso; omega)) | refine run_draw (by kernel_rfl) ?_ | refine guard_nbool (fun _ => ?_) (fun _ => ?_) | refine branch_nbool (fun _ => ?_) (fun _ => ?_) | refine guard_bool (fun _ => ?_) (fun _ => ?_) | refine branch_bool (fun _ => ?_) (fun _ => ?_))
    all_goals
      refine run_loop (fun m e h' => ∃ (i : Nat), i ≤ p.rules.length ∧ m = p.rules.length - i ∧ e.get 1 = .ptr (.box h.boxes.length) 0 ∧ e.get 3 = .v (.int .i64 i) ∧ e.defers = [] ∧ Ext h h' ∧ h'.boxes[h.boxes.length]? = some (prow p t) ∧ ∀ x ∈ p.rules.take i, (fun x => namedE p.offices x.expr) x = true) ?_ p.rules.length _ _ ?_
      · rintro m e h' ⟨i, hi, rfl, g1', g2', hd, hx, hb, hno⟩
        have kx := Keep.mk hx
        have kno := Keep.mk hno
        clear hx hno
        by_cases hlt : i < p.rules.length
        · obtain ⟨y, tok, sz, rows, hy, hr, hyr⟩ := RRows.get kok.out.rules hlt
          have h8 := kok.out.zr i hlt
          have hlt3 : (i : Int) < (t.rr.length : Int) := by rw [hlen]; omega
          have rf5 := @rrow_fit5 y tok sz rows
          have rf8 := @rrow_fit8 y tok sz rows
          have hbr := kok.out.br
          obtain ⟨h4, c4, hx4⟩ := named_ev t.to t.so p.offices kok.out.zo kok.out.bo y.expr _ hyr h'
          have kx4 := Keep.mk hx4
          have kb := Keep.mk hb
          clear hx4
          by_cases hs : namedE p.offices y.expr = true
          · rw [hs] at c4
            have khs := Keep.mk hs
            clear hs
            repeat' (first | simp (config := { maxSteps := 4000000 }) (disch := first | assumption | (exact Nat.le_refl _) | omega | (simp only [List.length_cons, List.length_nil, List.length_append, push_len, put_len, len_app] <;> omega) | (simp (disch := (first | assumption | omega | (exact (push_len _ _).symm) | (simp only [push_len, put_len, len_app]; omega) | (refine Nat.le_antisymm ?_ ?_ <;> simp only [push_len, put_len, len_app] <;> omega) | fail)) only [get_push_last, get_push_eq, get_push_ne, get_put_eq, get_put_ne, get_app] <;> first | assumption | rfl) | (simp only [canApp_push, canApp_put]; assumption) | (exact start_round _ _) | (simp only [st_round, dfr_round, pn_round]; first | assumption | exact start_round _ _) | fail) only [goS, plainEv, resultsEv, resultListEv, reduceIte, Nat.reduceEqDiff, Option.map_some, Option.map_none, Option.bind_some, List.map_cons, List.map_nil, List.getD_cons_zero, List.getD_cons_succ, List.getElem?_toArray, List.getElem?_cons_zero, List.getElem?_cons_succ, eq_self, beq_self_eq_true, goH, List.append_nil, List.nil_append, res42, fp28, fp43, prs, rrs, index_list, load_row_agg, *] | (refine guard_dec (fun _ => ?_) (fun _ => ?_) <;> try (exfalso; omega)) | (refine guard_ndec (fun _ => ?_) (fun _ => ?_) <;> try (exfalso; omega)) | (refine branch_dec (fun _ => ?_) (fun _ => ?_) <;> try (exfalso; omega)) | (refine branch_ndec (fun _ => ?_) (fun _ => ?_) <;> try (exfalso; omega)) | refine run_draw (by kernel_rfl) ?_ | refine guard_nbool (fun _ => ?_) (fun _ => ?_) | refine branch_nbool (fun _ => ?_) (fun _ => ?_) | refine guard_bool (fun _ => ?_) (fun _ => ?_) | refine branch_bool (fun _ => ?_) (fun _ => ?_))
            refine ⟨p.rules.length - (i + 1), by omega, i + 1, by omega, rfl, (by first | trivial | (simp; done) | (simp; omega)), (by first | trivial | (simp; done) | (simp; omega)), (by first | trivial | (simp; done) | (simp; omega)), kx.out.trans kx4.out, kx4.out.box _ _ kb.out, fun x hx => ?_⟩
            obtain ⟨hj, rfl⟩ := List.getElem?_eq_some_iff.1 hy
            rw [List.take_succ_eq_append_getElem hj] at hx
            rcases List.mem_append.1 hx with q | q
            · exact kno.out x q
            · simp at q; subst q; exact khs.out
          · have hs : namedE p.offices y.expr = false := by simpa using hs
            rw [hs] at c4
            have khs := Keep.mk hs
            clear hs
            repeat' (first | simp (config := { maxSteps := 4000000 }) (disch := first | assumption | (exact Nat.le_refl _) | omega | (simp only [List.length_cons, List.length_nil, List.length_append, push_len, put_len, len_app] <;> omega) | (simp (disch := (first | assumption | omega | (exact (push_len _ _).symm) | (simp only [push_len, put_len, len_app]; omega) | (refine Nat.le_antisymm ?_ ?_ <;> simp only [push_len, put_len, len_app] <;> omega) | fail)) only [get_push_last, get_push_eq, get_push_ne, get_put_eq, get_put_ne, get_app] <;> first | assumption | rfl) | (simp only [canApp_push, canApp_put]; assumption) | (exact start_round _ _) | (simp only [st_round, dfr_round, pn_round]; first | assumption | exact start_round _ _) | fail) only [goS, plainEv, resultsEv, resultListEv, reduceIte, Nat.reduceEqDiff, Option.map_some, Option.map_none, Option.bind_some, List.map_cons, List.map_nil, List.getD_cons_zero, List.getD_cons_succ, List.getElem?_toArray, List.getElem?_cons_zero, List.getElem?_cons_succ, eq_self, beq_self_eq_true, goH, List.append_nil, List.nil_append, res42, fp28, fp43, prs, rrs, index_list, load_row_agg, *] | (refine guard_dec (fun _ => ?_) (fun _ => ?_) <;> try (exfalso; omega)) | (refine guard_ndec (fun _ => ?_) (fun _ => ?_) <;> try (exfalso; omega)) | (refine branch_dec (fun _ => ?_) (fun _ => ?_) <;> try (exfalso; omega)) | (refine branch_ndec (fun _ => ?_) (fun _ => ?_) <;> try (exfalso; omega)) | refine run_draw (by kernel_rfl) ?_ | refine guard_nbool (fun _ => ?_) (fun _ => ?_) | refine branch_nbool (fun _ => ?_) (fun _ => ?_) | refine guard_bool (fun _ => ?_) (fun _ => ?_) | refine branch_bool (fun _ => ?_) (fun _ => ?_))
            refine answerY ?_ (kx.out.trans kx4.out)
            have : p.rules.all (fun x => namedE p.offices x.expr) = false := by
              rw [Bool.eq_false_iff]
              intro q
              have := List.all_eq_true.1 q y (List.mem_of_getElem? hy)
              rw [khs.out] at this; cases this
            simp [namesP, this]
        · have hie : i = p.rules.length := by omega
          subst hie
          have hlt3 : ¬ ((p.rules.length : Int) < (t.rr.length : Int)) := by rw [hlen]; omega
          have hall : p.rules.all (fun x => (fun x => namedE p.offices x.expr) x) = true := List.all_eq_true.2 fun x hx => kno.out x (by rw [List.take_length]; exact hx)
          obtain ⟨h4, c4, hx4⟩ := named_ev t.to t.so p.offices kok.out.zo kok.out.bo p.change _ kok.out.expr h'
          have kx4 := Keep.mk hx4
          clear hx4
          repeat' (first | simp (config := { maxSteps := 4000000 }) (disch := first | assumption | (exact Nat.le_refl _) | omega | (simp only [List.length_cons, List.length_nil, List.length_append, push_len, put_len, len_app] <;> omega) | (simp (disch := (first | assumption | omega | (exact (push_len _ _).symm) | (simp only [push_len, put_len, len_app]; omega) | (refine Nat.le_antisymm ?_ ?_ <;> simp only [push_len, put_len, len_app] <;> omega) | fail)) only [get_push_last, get_push_eq, get_push_ne, get_put_eq, get_put_ne, get_app] <;> first | assumption | rfl) | (simp only [canApp_push, canApp_put]; assumption) | (exact start_round _ _) | (simp only [st_round, dfr_round, pn_round]; first | assumption | exact start_round _ _) | fail) only [goS, plainEv, resultsEv, resultListEv, reduceIte, Nat.reduceEqDiff, Option.map_some, Option.map_none, Option.bind_some, List.map_cons, List.map_nil, List.getD_cons_zero, List.getD_cons_succ, List.getElem?_toArray, List.getElem?_cons_zero, List.getElem?_cons_succ, eq_self, beq_self_eq_true, goH, List.append_nil, List.nil_append, res42, fp28, fp43, prs, *] | (refine guard_dec (fun _ => ?_) (fun _ => ?_) <;> try (exfalso; omega)) | (refine guard_ndec (fun _ => ?_) (fun _ => ?_) <;> try (exfalso; omega)) | (refine branch_dec (fun _ => ?_) (fun _ => ?_) <;> try (exfalso; omega)) | (refine branch_ndec (fun _ => ?_) (fun _ => ?_) <;> try (exfalso; omega)) | refine run_draw (by kernel_rfl) ?_ | refine guard_nbool (fun _ => ?_) (fun _ => ?_) | refine branch_nbool (fun _ => ?_) (fun _ => ?_) | refine guard_bool (fun _ => ?_) (fun _ => ?_) | refine branch_bool (fun _ => ?_) (fun _ => ?_))
          refine answerY ?_ (kx.out.trans kx4.out)
          simp_all [namesP]
      · refine ⟨0, Nat.zero_le _, rfl, ?_, ?_, ?_, .push _ _, push_last _ _, fun x hx => by simp at hx⟩ <;> simp only [goS, plainEv, resultsEv, resultListEv, reduceIte, Nat.reduceEqDiff, Option.map_some, Option.map_none, Option.bind_some, List.map_cons, List.map_nil, List.getD_cons_zero, List.getD_cons_succ, List.getElem?_toArray, List.getElem?_cons_zero, List.getElem?_cons_succ, eq_self, beq_self_eq_true, goH] <;> rfl
  · have kbad := Keep.mk hgood
    clear hgood
    repeat' (first | simp (config := { maxSteps := 4000000 }) (disch := first | assumption | (exact Nat.le_refl _) | omega | (simp only [List.length_cons, List.length_nil, List.length_append, push_len, put_len, len_app] <;> omega) | (simp (disch := (first | assumption | omega | (exact (push_len _ _).symm) | (simp only [push_len, put_len, len_app]; omega) | (refine Nat.le_antisymm ?_ ?_ <;> simp only [push_len, put_len, len_app] <;> omega) | fail)) only [get_push_last, get_push_eq, get_push_ne, get_put_eq, get_put_ne, get_app] <;> first | assumption | rfl) | (simp only [canApp_push, canApp_put]; assumption) | (exact start_round _ _) | (simp only [st_round, dfr_round, pn_round]; first | assumption | exact start_round _ _) | fail) only [goS, plainEv, resultsEv, resultListEv, reduceIte, Nat.reduceEqDiff, Option.map_some, Option.map_none, Option.bind_some, List.map_cons, List.map_nil, List.getD_cons_zero, List.getD_cons_succ, List.getElem?_toArray, List.getElem?_cons_zero, List.getElem?_cons_succ, eq_self, beq_self_eq_true, goH, List.append_nil, List.nil_append, res42, fp28, fp43, prs, strs_len, *] | (refine guard_dec (fun _ => ?_) (fun _ => ?_) <;> try (exfalso; omega)) | (refine guard_ndec (fun _ => ?_) (fun _ => ?_) <;> try (exfalso; omega)) | (refine branch_dec (fun _ => ?_) (fun _ => ?_) <;> try (exfalso; omega)) | (refine branch_ndec (fun _ => ?_) (fun _ => ?_) <;> try (exfalso; omega)) | refine run_draw (by kernel_rfl) ?_ | refine guard_nbool (fun _ => ?_) (fun _ => ?_) | refine branch_nbool (fun _ => ?_) (fun _ => ?_) | refine guard_bool (fun _ => ?_) (fun _ => ?_) | refine branch_bool (fun _ => ?_) (fun _ => ?_))
    all_goals first
      | (refine answerY ?_ kx0.out; symm; rw [Bool.eq_false_iff]; intro q; simp only [namesP, Bool.and_eq_true, decide_eq_true_eq] at q; exact kbad.out ⟨q.1.1.1.1, q.1.1.1.2, q.1.1.2⟩)
      | (exfalso; refine kbad.out ⟨?_, ?_, ?_⟩ <;> first | assumption | omega | simp_all)

/-! ### tooLarge -/
def smallP (p : Po) : Bool := decide (p.offices.length ≤ 32) && decide (p.kinds.length ≤ 16) && decide (p.rules.length ≤ 16) && !largeE p.change && p.rules.all fun x => !largeE x.expr

set_option maxHeartbeats 8000000 in
set_option maxRecDepth 100000 in
theorem tooLarge_ev (p : Po) (t : PT) (ok : POk p t) (hc1 : cnt p.change ≤ 1000) (hc2 : ∀ x ∈ p.rules, cnt x.expr ≤ 1000) (h : Heap) : Says W 41 [.agg (prow p t)] h (.ret (.v (.bool (!smallP p)))) := by
  have u9 := Tryd.underlying9; have u22 := Tryd.underlying22; have u23 := Tryd.underlying23; have u24 := Tryd.underlying24
  have a3 := ag3; have a9 := ag9; have a22 := ag22; have a23 := ag23; have a24 := ag24; have a26 := ag26; have a28 := ag28; have a43 := ag43; have s26 := sz26; have s28 := sz28; have s43 := sz43
  have hlen := ok.rules.1
  have pf := @prow_fit p t
  have pf0 := @prow_fit0 p t
  have kok := Keep.mk ok
  have kx0 := Keep.mk (Ext.push h (prow p t))
  obtain ⟨h2, c3, hx2⟩ := large_ev p.change _ ok.expr hc1 (h.push (prow p t))
  have k2 := Keep.mk ((Ext.push h _).trans hx2)
  have hb2 := hx2.box _ _ (push_last h (prow p t))
  have hq : ((16 : Int) < (t.rr.length : Int)) = (¬ p.rules.length ≤ 16) := by rw [hlen]; exact propext ⟨fun q => by omega, fun q => by omega⟩
  have khc := Keep.mk hc2
  clear hx2 hc2
  refine call_ex rfl Tryd.func41 rfl ?_
  by_cases hgood : p.offices.length ≤ 32 ∧ p.kinds.length ≤ 16 ∧ p.rules.length ≤ 16 ∧ largeE p.change = false
  · obtain ⟨g1, g2, g3, g4⟩ := hgood
    repeat' (first | simp (config := { maxSteps := 4000000 }) (disch := first | assumption | (exact Nat.le_refl _) | omega | (simp only [List.length_cons, List.length_nil, List.length_append, push_len, put_len, len_app] <;> omega) | (simp (disch := (first | assumption | omega | (exact (push_len _ _).symm) | (simp only [push_len, put_len, len_app]; omega) | (refine Nat.le_antisymm ?_ ?_ <;> simp only [push_len, put_len, len_app] <;> omega) | fail)) only [get_push_last, get_push_eq, get_push_ne, get_put_eq, get_put_ne, get_app] <;> first | assumption | rfl) | (simp only [canApp_push, canApp_put]; assumption) | (exact start_round _ _) | (simp only [st_round, dfr_round, pn_round]; first | assumption | exact start_round _ _) | fail) only [goS, plainEv, resultsEv, resultListEv, reduceIte, Nat.reduceEqDiff, Option.map_some, Option.map_none, Option.bind_some, List.map_cons, List.map_nil, List.getD_cons_zero, List.getD_cons_succ, List.getElem?_toArray, List.getElem?_cons_zero, List.getElem?_cons_succ, eq_self, beq_self_eq_true, goH, List.append_nil, List.nil_append, res41, fp28, fp43, prs, strs_len, *] | (refine guard_dec (fun _ => ?_) (fun _ => ?_) <;> try (exfalso; omega)) | (refine guard_ndec (fun _ => ?_) (fun _ => ?_) <;> try (exfalso; omega)) | (refine branch_dec (fun _ => ?_) (fun _ => ?_) <;> try (exfalso; omega)) | (refine branch_ndec (fun _ => ?_) (fun _ => ?_) <;> try (exfalso; omega)) | refine run_draw (by kernel_rfl) ?_ | refine guard_nbool (fun _ => ?_) (fun _ => ?_) | refine branch_nbool (fun _ => ?_) (fun _ => ?_) | refine guard_bool (fun _ => ?_) (fun _ => ?_) | refine branch_bool (fun _ => ?_) (fun _ => ?_))
    all_goals
      refine run_loop (fun m e h' => ∃ (i : Nat), i ≤ p.rules.length ∧ m = p.rules.length - i ∧ e.get 1 = .ptr (.box h.boxes.length) 0 ∧ e.get 3 = .v (.int .i64 i) ∧ e.defers = [] ∧ Ext h h' ∧ h'.boxes[h.boxes.length]? = some (prow p t) ∧ ∀ x ∈ p.rules.take i, (fun x => !largeE x.expr) x = true) ?_ p.rules.length _ _ ?_
      · rintro m e h' ⟨i, hi, rfl, g1', g2', hd, hx, hb, hno⟩
        have kx := Keep.mk hx
        have kno := Keep.mk hno
        clear hx hno
        by_cases hlt : i < p.rules.length
        · obtain ⟨y, tok, sz, rows, hy, hr, hyr⟩ := RRows.get kok.out.rules hlt
          have h8 := kok.out.zr i hlt
          have hlt3 : (i : Int) < (t.rr.length : Int) := by rw [hlen]; omega
          have rf5 := @rrow_fit5 y tok sz rows
          have rf8 := @rrow_fit8 y tok sz rows
          have hbr := kok.out.br
          obtain ⟨h4, c4, hx4⟩ := large_ev y.expr _ hyr (khc.out y (List.mem_of_getElem? hy)) h'
          have kx4 := Keep.mk hx4
          have kb := Keep.mk hb
          clear hx4
          by_cases hs : largeE y.expr = true
          · rw [hs] at c4
            have khs := Keep.mk hs
            clear hs
            repeat' (first | simp (config := { maxSteps := 4000000 }) (disch := first | assumption | (exact Nat.le_refl _) | omega | (simp only [List.length_cons, List.length_nil, List.length_append, push_len, put_len, len_app] <;> omega) | (simp (disch := (first | assumption | omega | (exact (push_len _ _).symm) | (simp only [push_len, put_len, len_app]; omega) | (refine Nat.le_antisymm ?_ ?_ <;> simp only [push_len, put_len, len_app] <;> omega) | fail)) only [get_push_last, get_push_eq, get_push_ne, get_put_eq, get_put_ne, get_app] <;> first | assumption | rfl) | (simp only [canApp_push, canApp_put]; assumption) | (exact start_round _ _) | (simp only [st_round, dfr_round, pn_round]; first | assumption | exact start_round _ _) | fail) only [goS, plainEv, resultsEv, resultListEv, reduceIte, Nat.reduceEqDiff, Option.map_some, Option.map_none, Option.bind_some, List.map_cons, List.map_nil, List.getD_cons_zero, List.getD_cons_succ, List.getElem?_toArray, List.getElem?_cons_zero, List.getElem?_cons_succ, eq_self, beq_self_eq_true, goH, List.append_nil, List.nil_append, res41, fp28, fp43, prs, rrs, index_list, load_row_agg, *] | (refine guard_dec (fun _ => ?_) (fun _ => ?_) <;> try (exfalso; omega)) | (refine guard_ndec (fun _ => ?_) (fun _ => ?_) <;> try (exfalso; omega)) | (refine branch_dec (fun _ => ?_) (fun _ => ?_) <;> try (exfalso; omega)) | (refine branch_ndec (fun _ => ?_) (fun _ => ?_) <;> try (exfalso; omega)) | refine run_draw (by kernel_rfl) ?_ | refine guard_nbool (fun _ => ?_) (fun _ => ?_) | refine branch_nbool (fun _ => ?_) (fun _ => ?_) | refine guard_bool (fun _ => ?_) (fun _ => ?_) | refine branch_bool (fun _ => ?_) (fun _ => ?_))
            refine answerY ?_ (kx.out.trans kx4.out)
            have : p.rules.all (fun x => !largeE x.expr) = false := by
              rw [Bool.eq_false_iff]
              intro q
              have := List.all_eq_true.1 q y (List.mem_of_getElem? hy)
              rw [khs.out] at this; cases this
            simp only [smallP, this, Bool.and_false, Bool.not_false]
          · have hs : largeE y.expr = false := by simpa using hs
            rw [hs] at c4
            have khs := Keep.mk hs
            clear hs
            repeat' (first | simp (config := { maxSteps := 4000000 }) (disch := first | assumption | (exact Nat.le_refl _) | omega | (simp only [List.length_cons, List.length_nil, List.length_append, push_len, put_len, len_app] <;> omega) | (simp (disch := (first | assumption | omega | (exact (push_len _ _).symm) | (simp only [push_len, put_len, len_app]; omega) | (refine Nat.le_antisymm ?_ ?_ <;> simp only [push_len, put_len, len_app] <;> omega) | fail)) only [get_push_last, get_push_eq, get_push_ne, get_put_eq, get_put_ne, get_app] <;> first | assumption | rfl) | (simp only [canApp_push, canApp_put]; assumption) | (exact start_round _ _) | (simp only [st_round, dfr_round, pn_round]; first | assumption | exact start_round _ _) | fail) only [goS, plainEv, resultsEv, resultListEv, reduceIte, Nat.reduceEqDiff, Option.map_some, Option.map_none, Option.bind_some, List.map_cons, List.map_nil, List.getD_cons_zero, List.getD_cons_succ, List.getElem?_toArray, List.getElem?_cons_zero, List.getElem?_cons_succ, eq_self, beq_self_eq_true, goH, List.append_nil, List.nil_append, res41, fp28, fp43, prs, rrs, index_list, load_row_agg, *] | (refine guard_dec (fun _ => ?_) (fun _ => ?_) <;> try (exfalso; omega)) | (refine guard_ndec (fun _ => ?_) (fun _ => ?_) <;> try (exfalso; omega)) | (refine branch_dec (fun _ => ?_) (fun _ => ?_) <;> try (exfalso; omega)) | (refine branch_ndec (fun _ => ?_) (fun _ => ?_) <;> try (exfalso; omega)) | refine run_draw (by kernel_rfl) ?_ | refine guard_nbool (fun _ => ?_) (fun _ => ?_) | refine branch_nbool (fun _ => ?_) (fun _ => ?_) | refine guard_bool (fun _ => ?_) (fun _ => ?_) | refine branch_bool (fun _ => ?_) (fun _ => ?_))
            refine ⟨p.rules.length - (i + 1), by omega, i + 1, by omega, rfl, (by first | trivial | (simp; done) | (simp; omega)), (by first | trivial | (simp; done) | (simp; omega)), (by first | trivial | (simp; done) | (simp; omega)), kx.out.trans kx4.out, kx4.out.box _ _ kb.out, fun x hx => ?_⟩
            obtain ⟨hj, rfl⟩ := List.getElem?_eq_some_iff.1 hy
            rw [List.take_succ_eq_append_getElem hj] at hx
            rcases List.mem_append.1 hx with q | q
            · exact kno.out x q
            · simp at q; subst q; simp [khs.out]
        · have hie : i = p.rules.length := by omega
          subst hie
          have hlt3 : ¬ ((p.rules.length : Int) < (t.rr.length : Int)) := by rw [hlen]; omega
          have hall : p.rules.all (fun x => (fun x => !largeE x.expr) x) = true := List.all_eq_true.2 fun x hx => kno.out x (by rw [List.take_length]; exact hx)
          repeat' (first | simp (config := { maxSteps := 4000000 }) (disch := first | assumption | (exact Nat.le_refl _) | omega | (simp only [List.length_cons, List.length_nil, List.length_append, push_len, put_len, len_app] <;> omega) | (simp (disch := (first | assumption | omega | (exact (push_len _ _).symm) | (simp only [push_len, put_len, len_app]; omega) | (refine Nat.le_antisymm ?_ ?_ <;> simp only [push_len, put_len, len_app] <;> omega) | fail)) only [get_push_last, get_push_eq, get_push_ne, get_put_eq, get_put_ne, get_app] <;> first | assumption | rfl) | (simp only [canApp_push, canApp_put]; assumption) | (exact start_round _ _) | (simp only [st_round, dfr_round, pn_round]; first | assumption | exact start_round _ _) | fail) only [goS, plainEv, resultsEv, resultListEv, reduceIte, Nat.reduceEqDiff, Option.map_some, Option.map_none, Option.bind_some, List.map_cons, List.map_nil, List.getD_cons_zero, List.getD_cons_succ, List.getElem?_toArray, List.getElem?_cons_zero, List.getElem?_cons_succ, eq_self, beq_self_eq_true, goH, List.append_nil, List.nil_append, res41, fp28, fp43, prs, *] | (refine guard_dec (fun _ => ?_) (fun _ => ?_) <;> try (exfalso; omega)) | (refine guard_ndec (fun _ => ?_) (fun _ => ?_) <;> try (exfalso; omega)) | (refine branch_dec (fun _ => ?_) (fun _ => ?_) <;> try (exfalso; omega)) | (refine branch_ndec (fun _ => ?_) (fun _ => ?_) <;> try (exfalso; omega)) | refine run_draw (by kernel_rfl) ?_ | refine guard_nbool (fun _ => ?_) (fun _ => ?_) | refine branch_nbool (fun _ => ?_) (fun _ => ?_) | refine guard_bool (fun _ => ?_) (fun _ => ?_) | refine branch_bool (fun _ => ?_) (fun _ => ?_))
          refine answerY ?_ kx.out
          simp_all [smallP]
      · refine ⟨0, Nat.zero_le _, rfl, ?_, ?_, ?_, k2.out, hb2, fun x hx => by simp at hx⟩ <;> simp only [goS, plainEv, resultsEv, resultListEv, reduceIte, Nat.reduceEqDiff, Option.map_some, Option.map_none, Option.bind_some, List.map_cons, List.map_nil, List.getD_cons_zero, List.getD_cons_succ, List.getElem?_toArray, List.getElem?_cons_zero, List.getElem?_cons_succ, eq_self, beq_self_eq_true, goH] <;> rfl
  · have kbad := Keep.mk hgood
    clear hgood
    repeat' (first | simp (config := { maxSteps := 4000000 }) (disch := first | assumption | (exact Nat.le_refl _) | omega | (simp only [List.length_cons, List.length_nil, List.length_append, push_len, put_len, len_app] <;> omega) | (simp (disch := (first | assumption | omega | (exact (push_len _ _).symm) | (simp only [push_len, put_len, len_app]; omega) | (refine Nat.le_antisymm ?_ ?_ <;> simp only [push_len, put_len, len_app] <;> omega) | fail)) only [get_push_last, get_push_eq, get_push_ne, get_put_eq, get_put_ne, get_app] <;> first | assumption | rfl) | (simp only [canApp_push, canApp_put]; assumption) | (exact start_round _ _) | (simp only [st_round, dfr_round, pn_round]; first | assumption | exact start_round _ _) | fail) only [goS, plainEv, resultsEv, resultListEv, reduceIte, Nat.reduceEqDiff, Option.map_some, Option.map_none, Option.bind_some, List.map_cons, List.map_nil, List.getD_cons_zero, List.getD_cons_succ, List.getElem?_toArray, List.getElem?_cons_zero, List.getElem?_cons_succ, eq_self, beq_self_eq_true, goH, List.append_nil, List.nil_append, res41, fp28, fp43, prs, strs_len, *] | (refine guard_dec (fun _ => ?_) (fun _ => ?_) <;> try (exfalso; omega)) | (refine guard_ndec (fun _ => ?_) (fun _ => ?_) <;> try (exfalso; omega)) | (refine branch_dec (fun _ => ?_) (fun _ => ?_) <;> try (exfalso; omega)) | (refine branch_ndec (fun _ => ?_) (fun _ => ?_) <;> try (exfalso; omega)) | refine run_draw (by kernel_rfl) ?_ | refine guard_nbool (fun _ => ?_) (fun _ => ?_) | refine branch_nbool (fun _ => ?_) (fun _ => ?_) | refine guard_bool (fun _ => ?_) (fun _ => ?_) | refine branch_bool (fun _ => ?_) (fun _ => ?_))
    all_goals first
      | (refine answerY ?_ (by first | exact k2.out | exact kx0.out); symm; rw [Bool.not_eq_true', Bool.eq_false_iff]; intro q; simp only [smallP, Bool.not_eq_true', Bool.and_eq_true, decide_eq_true_eq] at q; exact kbad.out ⟨q.1.1.1.1, q.1.1.1.2, q.1.1.2, q.1.2⟩)
      | (exfalso; refine kbad.out ⟨?_, ?_, ?_, ?_⟩ <;> first | assumption | omega | simp_all)

end Go.Proofs.YtilmhlbjjfgeoaaDoor
end
