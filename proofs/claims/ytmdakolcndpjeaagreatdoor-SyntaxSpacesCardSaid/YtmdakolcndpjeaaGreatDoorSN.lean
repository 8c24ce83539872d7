/-
  Part of the proof: SN.
-/
import Derived.Test.YtmdakolcndpjeaaGreatDoorSL
set_option linter.unusedSimpArgs false
set_option linter.unusedVariables false
set_option linter.constructorNameAsVariable false
section
namespace Go.Proofs.YtmdakolcndpjeaaGreatDoor
open Go.AE Go.Lex Go.Pol Go.Syn
/-! ### SyntaxSpaces -/
theorem rs5 : Tryz.f5.results.toList = [.tmp 4] := by kernel_rfl
def seamS : List (Tk × List UInt8) → List UInt8
  | [] => []
  | (t, g) :: r => g ++ (textOf t ++ seamS r)
theorem seam_weave : ∀ p, weave p = seamS p ++ [10] := by
  intro p
  induction p with
  | nil => rfl
  | cons x p ih =>
    obtain ⟨t, g⟩ := x
    rw [weave, seamS, ih]
    simp
theorem seam_snoc (t : Tk) (g : List UInt8) : ∀ p, seamS (p ++ [(t, g)]) = seamS p ++ (g ++ textOf t) := by
  intro p
  induction p with
  | nil => simp [seamS]
  | cons x p ih =>
    obtain ⟨u, w⟩ := x
    show seamS ((u, w) :: (p ++ [(t, g)])) = _
    rw [seamS, seamS, ih]
    simp
theorem seam_len {p : List (Tk × List UInt8)} (h : ∀ x ∈ p, validB x.1 = true ∧ x.2 ∈ gapsS) (hp : p.length ≤ 1000) : (weave p).length ≤ 65536 ∧ (seamS p).length ≤ 65536 := by
  have := weave_len (n := 40) p fun x hx => by
    have a := textOf_len (h x hx).1
    have b := (gapsS_ok x.2 (h x hx).2).2
    omega
  have e := congrArg List.length (seam_weave p)
  rw [List.length_append] at e
  have h2 : p.length * 40 ≤ 1000 * 40 := Nat.mul_le_mul_right _ hp
  omega
def gapRow : List AV := gapsS.map fun s => .v (.string (bs s))
theorem b45 : buildEv Tryz.prog 45 [(0, .v (.string (bs [32]))), (1, .v (.string (bs [10, 9]))), (2, .v (.string (bs [32, 47, 47, 32, 40, 32, 55, 10]))), (3, .v (.string (bs [13, 32, 32]))), (4, .v (.string (bs [32, 47, 47, 10])))] = some (.agg gapRow) := by kernel_rfl
theorem ix45_0 : indexEv Tryz.prog 45 (.agg gapRow) (.v (.int .i64 0)) = some (.v (.string (bs [32]))) := by kernel_rfl
theorem ix45_1 : indexEv Tryz.prog 45 (.agg gapRow) (.v (.int .i64 1)) = some (.v (.string (bs [10, 9]))) := by kernel_rfl
theorem ix45_2 : indexEv Tryz.prog 45 (.agg gapRow) (.v (.int .i64 2)) = some (.v (.string (bs [32, 47, 47, 32, 40, 32, 55, 10]))) := by kernel_rfl
theorem ix45_3 : indexEv Tryz.prog 45 (.agg gapRow) (.v (.int .i64 3)) = some (.v (.string (bs [13, 32, 32]))) := by kernel_rfl
theorem ix45_4 : indexEv Tryz.prog 45 (.agg gapRow) (.v (.int .i64 4)) = some (.v (.string (bs [32, 47, 47, 10]))) := by kernel_rfl
theorem ix45 {n : Int} {s : List UInt8} (h0 : 0 ≤ n) (h : gapsS[n.toNat]? = some s) : indexEv Tryz.prog 45 (.agg gapRow) (.v (.int .i64 n)) = some (.v (.string (bs s))) := by
  have hl := (List.getElem?_eq_some_iff.1 h).1
  have hl : n.toNat < 5 := hl
  have : n = 0 ∨ n = 1 ∨ n = 2 ∨ n = 3 ∨ n = 4 := by omega
  rcases this with rfl | rfl | rfl | rfl | rfl
  · have e : [32] = s := Option.some.inj h
    rw [← e]; exact ix45_0
  · have e : [10, 9] = s := Option.some.inj h
    rw [← e]; exact ix45_1
  · have e : [32, 47, 47, 32, 40, 32, 55, 10] = s := Option.some.inj h
    rw [← e]; exact ix45_2
  · have e : [13, 32, 32] = s := Option.some.inj h
    rw [← e]; exact ix45_3
  · have e : [32, 47, 47, 10] = s := Option.some.inj h
    rw [← e]; exact ix45_4
theorem bytes_len' (l : List UInt8) : (l.map byteRow).length = l.length := by simp
theorem bytes_get' (l : List UInt8) (i : Nat) : (l.map byteRow)[i]? = (l[i]?).map byteRow := by simp
theorem byteRow_head' (b : UInt8) : ((byteRow b).drop 0).head? = some (.v (.int .u8 b.toNat)) := rfl
theorem sz5' : sizeB Tryz.prog 5 = some 1 := by kernel_rfl
theorem ag5' : isAggB Tryz.prog 5 = some false := by kernel_rfl
theorem conv_u8 (b : UInt8) (h : Heap) : convEv Tryz.prog h 5 3 (.v (.int .u8 b.toNat)) = some (.v (.int .i64 (b.toNat : Int)), h) := by
  have e : convEv Tryz.prog h 5 3 (.v (.int .u8 b.toNat)) = some (.v (.int .i64 (IntKind.i64.wrap (b.toNat : Int))), h) := by kernel_rfl
  have hb : b.toNat < 256 := b.toNat_lt
  have e2 : IntKind.i64.wrap (b.toNat : Int) = (b.toNat : Int) := by
    unfold IntKind.wrap
    simp [IntKind.signed, IntKind.bits]
    omega
  rw [e, e2]
theorem tmod5 (n : Nat) : Int.tmod (n : Int) 5 = ((n % 5 : Nat) : Int) := rfl
theorem gapsS_get (n : Nat) : ∃ s, gapsS[n % 5]? = some s := ⟨_, List.getElem?_eq_getElem (show n % 5 < 5 from Nat.mod_lt _ (by decide))⟩
set_option maxHeartbeats 16000000 in
set_option maxRecDepth 100000 in
theorem syntaxSpaces_law (src : List UInt8) (hs : src.length ≤ 9223372036854775807) (k' : Tok) (ts : List UInt8) (ht : ts.length ≤ 9223372036854775807) : ∃ h', W.call 5 [.v (.string (bs src)), .list k' 1 (ts.map byteRow)] Heap.init = some (.ret (.v (.bool true)), h') ∧ True := by
  have u9 := Tryz.underlying9; have u39 := Tryz.underlying39; have u38 := Tryz.underlying38
  have a28 := ag28; have s28 := sz28; have z28 := zc28; have a3 := ag3; have a9 := ag9; have a31 := ag31'; have s43 := sz43; have a43 := ag43; have s5 := sz5'; have a5 := ag5'
  obtain ⟨h1, c1, x1⟩ := sane_ev Heap.init rfl
  have o1 := x1.ok rfl
  have c2 := lex_eq (src := src) (h := h1) hs o1
  have o2 := lex_ok (src := src) (h := h1) hs o1
  have z2 := lex_z (src := src) (h := h1) hs o1
  have ln := lexF_len src
  have hv := lexF_valid src
  have sp : ∀ p : List (Tk × List UInt8), (lexF src).2.2 = 0 → _ → _ → _ → _ := fun p he a b c => spaces_plain (p := p) he a b c
  have sp := fun he p => sp p he
  have pv : ∀ h : Heap, okHeap h = true → GivesT W 14 [.v (.string (bs src))] h (parseF src).1 (parseF src).2.1 (parseF src).2.2 := fun h ho => parse_ev src hs h ho
  have llen : (lexF src).2.2 = 0 → src.length ≤ 1000 → (lexF src).1.length ≤ src.length := fun _ _ => lexF_le src
  generalize lexTok src h1 = tk at *
  generalize lexSz src h1 = sz at *
  generalize lexH src h1 = h2 at *
  refine call_ex rfl Tryz.func5 rfl ?_
  by_cases q1 : 1000 < src.length
  · clear sp pv llen hv x1 z2
    repeat' (first | simp (config := { maxSteps := 4000000 }) (disch := first | assumption | (exact Nat.le_refl _) | omega | (simp only [lenS] <;> omega) | (simp (disch := (first | assumption | omega | (exact (push_len _ _).symm) | (simp only [lenH]; omega) | (refine Nat.le_antisymm ?_ ?_ <;> simp only [lenH] <;> omega) | fail)) only [getS] <;> first | assumption | rfl) | (simp only [canS]; assumption) | (exact start_round _ _) | (simp only [rndS]; first | assumption | exact start_round _ _) | fail) only [goS, plainEv, resultsEv, resultListEv, reduceIte, Nat.reduceEqDiff, goT, eq_self, beq_self_eq_true, goH, goU, rs5, bs_size, *] | ((first | refine G_d ?_ ?_ | refine G_n ?_ ?_ | refine B_d ?_ ?_ | refine B_n ?_ ?_) <;> (intro _; try (exfalso; omega))) | ((first | refine G_m ?_ ?_ | refine B_m ?_ ?_ | refine G_b ?_ ?_ | refine B_b ?_ ?_) <;> intro _))
    all_goals exact answerT rfl
  by_cases q2 : (lexF src).2.2 = 0
  rotate_left 1
  · clear sp pv llen hv x1 z2
    repeat' (first | simp (config := { maxSteps := 4000000 }) (disch := first | assumption | (exact Nat.le_refl _) | omega | (simp only [lenS] <;> omega) | (simp (disch := (first | assumption | omega | (exact (push_len _ _).symm) | (simp only [lenH]; omega) | (refine Nat.le_antisymm ?_ ?_ <;> simp only [lenH] <;> omega) | fail)) only [getS] <;> first | assumption | rfl) | (simp only [canS]; assumption) | (exact start_round _ _) | (simp only [rndS]; first | assumption | exact start_round _ _) | fail) only [goS, plainEv, resultsEv, resultListEv, reduceIte, Nat.reduceEqDiff, goT, eq_self, beq_self_eq_true, goH, goU, rs5, bs_size, *] | ((first | refine G_d ?_ ?_ | refine G_n ?_ ?_ | refine B_d ?_ ?_ | refine B_n ?_ ?_) <;> (intro _; try (exfalso; omega))) | ((first | refine G_m ?_ ?_ | refine B_m ?_ ?_ | refine G_b ?_ ?_ | refine B_b ?_ ?_) <;> intro _))
    all_goals exact answerT rfl
  have sp := sp q2
  have ll := llen q2 (by omega)
  rw [q2] at c2
  have kv := Keep.mk hv
  have ksp := Keep.mk sp
  have kpv := Keep.mk pv
  have kz := Keep.mk z2
  clear sp pv llen hv q2 z2
  generalize (lexF src).1 = l at *
  generalize (parseF src).1 = pp at *
  generalize (parseF src).2.1 = pa at *
  generalize (parseF src).2.2 = pe at *
  repeat' (first | simp (config := { maxSteps := 4000000 }) (disch := first | assumption | (exact Nat.le_refl _) | omega | (simp only [lenS] <;> omega) | (simp (disch := (first | assumption | omega | (exact (push_len _ _).symm) | (simp only [lenH]; omega) | (refine Nat.le_antisymm ?_ ?_ <;> simp only [lenH] <;> omega) | fail)) only [getS] <;> first | assumption | rfl) | (simp only [canS]; assumption) | (exact start_round _ _) | (simp only [rndS]; first | assumption | exact start_round _ _) | fail) only [goS, plainEv, resultsEv, resultListEv, reduceIte, Nat.reduceEqDiff, goT, eq_self, beq_self_eq_true, goH, goU, rs5, bs_size, toks_len, *] | ((first | refine G_d ?_ ?_ | refine G_n ?_ ?_ | refine B_d ?_ ?_ | refine B_n ?_ ?_) <;> (intro _; try (exfalso; omega))) | ((first | refine G_m ?_ ?_ | refine B_m ?_ ?_ | refine G_b ?_ ?_ | refine B_b ?_ ?_) <;> intro _))
  refine run_loop (fun m e1 h3 => ∃ (j : Nat) (p : List (Tk × List UInt8)), j ≤ l.length ∧ m = l.length - j ∧ e1.get 0 = .v (.string (bs src)) ∧ e1.get 1 = .list k' 1 (ts.map byteRow) ∧ e1.get 8 = .v (.string (bs (seamS p))) ∧
    e1.get 35 = .list tk sz (toks l) ∧ e1.get 36 = .v (.int .i64 l.length) ∧ e1.get 37 = .v (.int .i64 j) ∧ e1.defers = [] ∧ okHeap h3 = true ∧ p.map (·.1) = l.take j ∧ ∀ x ∈ p, validB x.1 = true ∧ x.2 ∈ gapsS) ?_ l.length _ _ ?_
  · rintro m e1 h3 ⟨j, p, hj, rfl, g0, g1, g8, g35, g36, g37, hd, o3, hp1, hp2⟩
    have hpl : p.length = j := by
      have := congrArg List.length hp1
      simp at this
      omega
    obtain ⟨wl, sl⟩ := seam_len hp2 (by omega)
    have kp1 := Keep.mk hp1
    have kp2 := Keep.mk hp2
    clear hp1 hp2
    by_cases hlt : j < l.length
    · obtain ⟨t, htt⟩ : ∃ t, l[j]? = some t := ⟨_, List.getElem?_eq_getElem hlt⟩
      have hlt3 : (j : Int) < ((toks l).length : Int) := by rw [toks_len]; omega
      obtain rfl := kz.out j hlt
      have hvt : validB t = true := kv.out t (List.mem_of_getElem? htt)
      have r1 := row_cells t
      have r3 := row_len t
      have r5 := row_len Tk.zero
      have okx : okHeap (h3.push t.row) = true := o3
      have ct := text_eq .tight 4 [t] (fun _ _ => rfl) (by simp) (h3.push t.row)
      have ox := (text_ev .tight 4 [t] (fun _ _ => rfl) (by simp) (h3.push t.row)).ext.ok okx
      rw [show toks [t] = [t.row] from rfl] at ct ox
      have e1t : textS [t] = textOf t := by simp [textS, hvt, joinS_one]
      have e2t : textE [t] = 0 := by simp [textE, hvt]
      rw [e1t, e2t] at ct
      have htl := textOf_len hvt
      have kfin : Keep (∀ g ∈ gapsS, ∃ m', m' < l.length - j ∧ ∃ (j1 : Nat) (p1 : List (Tk × List UInt8)), j1 ≤ l.length ∧ m' = l.length - j1 ∧ j1 = j + 1 ∧ bs (seamS p ++ (g ++ textOf t)) = bs (seamS p1) ∧ p1.map (·.1) = l.take j1 ∧ ∀ x ∈ p1, validB x.1 = true ∧ x.2 ∈ gapsS) := ⟨by
        intro g hg
        refine ⟨l.length - (j + 1), by omega, j + 1, p ++ [(t, g)], hlt, rfl, rfl, ?_, ?_, ?_⟩
        · rw [seam_snoc]
        · rw [List.map_append, kp1.out]
          obtain ⟨hj2, rfl⟩ := List.getElem?_eq_some_iff.1 htt
          rw [List.take_succ_eq_append_getElem hj2]
          rfl
        · intro x hx
          rcases List.mem_append.1 hx with hx | hx
          · exact kp2.out x hx
          · simp at hx; subst hx; exact ⟨hvt, hg⟩⟩
      have bt := bt39 t
      clear e1t e2t
      by_cases hjt : j < ts.length
      · obtain ⟨c, hc⟩ : ∃ c, ts[j]? = some c := ⟨_, List.getElem?_eq_getElem hjt⟩
        have hb1 : (j : Int) < ((ts.map byteRow).length : Int) := by rw [bytes_len']; omega
        obtain ⟨g, hg⟩ := gapsS_get c.toNat
        have hgm := Keep.mk (List.mem_of_getElem? hg)
        have hgl := (gapsS_ok g hgm.out).2
        have ix := ix45 (n := ((c.toNat % 5 : Nat) : Int)) (by omega) (by rw [Int.toNat_natCast]; exact hg)
        have v2 : g.length + (textOf t).length ≤ 9223372036854775807 := by omega
        have v3 : (seamS p).length + (g ++ textOf t).length ≤ 9223372036854775807 := by simp; omega
        clear wl sl
        repeat' (first | simp (config := { maxSteps := 4000000 }) (disch := first | assumption | (exact Nat.le_refl _) | omega | (simp only [lenS] <;> omega) | (simp (disch := (first | assumption | omega | (exact (push_len _ _).symm) | (simp only [lenH]; omega) | (refine Nat.le_antisymm ?_ ?_ <;> simp only [lenH] <;> omega) | fail)) only [getS] <;> first | assumption | rfl) | (simp only [canS]; assumption) | (exact start_round _ _) | (simp only [rndS]; first | assumption | exact start_round _ _) | fail) only [goS, plainEv, resultsEv, resultListEv, reduceIte, Nat.reduceEqDiff, goT, eq_self, beq_self_eq_true, goH, goU, rs5, bs_size, toks_len, toks_get, index_list, load_row_agg, load_row, zero43, store_push, row_drop, row_take, row_len, Nat.le_refl, bt39, bytes_len', bytes_get', byteRow_head', conv_u8, tmod5, b45, push_len, put_push_eq, *] | ((first | refine G_d ?_ ?_ | refine G_n ?_ ?_ | refine B_d ?_ ?_ | refine B_n ?_ ?_) <;> (intro _; try (exfalso; omega))) | ((first | refine G_m ?_ ?_ | refine B_m ?_ ?_ | refine G_b ?_ ?_ | refine B_b ?_ ?_) <;> intro _))
        obtain ⟨m', hm', j1, p1, z1, z2, z3, z4, z5, z6⟩ := kfin.out g hgm.out
        refine ⟨m', hm', j1, p1, z1, z2, trivial, trivial, by rw [z4], trivial, trivial, ?_, trivial, trivial, z5, z6⟩
        rw [z3]
        rfl
      · have ix := ix45 (n := 0) (s := [32]) (by omega) rfl
        have v2 : [(32 : UInt8)].length + (textOf t).length ≤ 9223372036854775807 := by simp; omega
        have v3 : (seamS p).length + ([32] ++ textOf t).length ≤ 9223372036854775807 := by simp; omega
        clear wl sl
        repeat' (first | simp (config := { maxSteps := 4000000 }) (disch := first | assumption | (exact Nat.le_refl _) | omega | (simp only [lenS] <;> omega) | (simp (disch := (first | assumption | omega | (exact (push_len _ _).symm) | (simp only [lenH]; omega) | (refine Nat.le_antisymm ?_ ?_ <;> simp only [lenH] <;> omega) | fail)) only [getS] <;> first | assumption | rfl) | (simp only [canS]; assumption) | (exact start_round _ _) | (simp only [rndS]; first | assumption | exact start_round _ _) | fail) only [goS, plainEv, resultsEv, resultListEv, reduceIte, Nat.reduceEqDiff, goT, eq_self, beq_self_eq_true, goH, goU, rs5, bs_size, toks_len, toks_get, index_list, load_row_agg, load_row, zero43, store_push, row_drop, row_take, row_len, Nat.le_refl, bt39, bytes_len', b45, push_len, put_push_eq, *] | ((first | refine G_d ?_ ?_ | refine G_n ?_ ?_ | refine B_d ?_ ?_ | refine B_n ?_ ?_) <;> (intro _; try (exfalso; omega))) | ((first | refine G_m ?_ ?_ | refine B_m ?_ ?_ | refine G_b ?_ ?_ | refine B_b ?_ ?_) <;> intro _))
        obtain ⟨m', hm', j1, p1, z1, z2, z3, z4, z5, z6⟩ := kfin.out [32] (by simp [gapsS])
        refine ⟨m', hm', j1, p1, z1, z2, trivial, trivial, by rw [z4], trivial, trivial, ?_, trivial, trivial, z5, z6⟩
        rw [z3]
        rfl
    · have hje : j = l.length := by omega
      have hpe : p.map (·.1) = l := by rw [kp1.out, hje, List.take_length]
      obtain ⟨e1', e2'⟩ := ksp.out p hpe (fun x hx => (gapsS_ok x.2 (kp2.out x hx).2).1) wl
      rw [seam_weave] at e1' e2' wl
      obtain ⟨t4, h4, c4, x4, ok4⟩ := kpv.out h3 o3
      have o4 : okHeap (h4.push (prow pp t4)) = true := x4.ok o3
      obtain ⟨t5, h5, c5, x5, ok5⟩ := parse_ev (seamS p ++ [10]) (by omega) (h4.push (prow pp t4)) o4
      rw [e1', e2'] at c5
      rw [e1'] at ok5
      obtain ⟨h6, c6, x6⟩ := same_ev pp pp t4 t5 ok4 ok5 (h5.push (prow pp t5))
      rw [sameP_iff.2 rfl] at c6
      have b5 := x5.box _ _ (push_last h4 (prow pp t4))
      have n5 := (List.getElem?_eq_some_iff.1 b5).1
      have v3 : (seamS p).length + [(10 : UInt8)].length ≤ 9223372036854775807 := by simp; omega
      generalize (parseF (seamS p ++ [10])).2.1 = qa at c5
      clear e1' e2' hpe x4 x5 x6 ok4 ok5 wl sl
      repeat' (first | simp (config := { maxSteps := 4000000 }) (disch := first | assumption | (exact Nat.le_refl _) | omega | (simp only [lenS] <;> omega) | (simp (disch := (first | assumption | omega | (exact (push_len _ _).symm) | (simp only [lenH]; omega) | (refine Nat.le_antisymm ?_ ?_ <;> simp only [lenH] <;> omega) | fail)) only [getS] <;> first | assumption | rfl) | (simp only [canS]; assumption) | (exact start_round _ _) | (simp only [rndS]; first | assumption | exact start_round _ _) | fail) only [goS, plainEv, resultsEv, resultListEv, reduceIte, Nat.reduceEqDiff, goT, eq_self, beq_self_eq_true, goH, goU, rs5, bs_size, toks_len, st28, load28, put_push_eq, push_len, *] | ((first | refine G_d ?_ ?_ | refine G_n ?_ ?_ | refine B_d ?_ ?_ | refine B_n ?_ ?_) <;> (intro _; try (exfalso; omega))) | ((first | refine G_m ?_ ?_ | refine B_m ?_ ?_ | refine G_b ?_ ?_ | refine B_b ?_ ?_) <;> intro _))
      all_goals exact answerT rfl
  · refine ⟨0, [], Nat.zero_le _, rfl, ?_, ?_, ?_, ?_, ?_, ?_, ?_, o2, by simp, fun x hx => by simp at hx⟩ <;> simp only [goS, plainEv, resultsEv, resultListEv, reduceIte, Nat.reduceEqDiff, goT, eq_self, beq_self_eq_true, goH, toks_len] <;> rfl
end Go.Proofs.YtmdakolcndpjeaaGreatDoor
end
