/-
  Part of the proof: SM.
-/
import Derived.Test.YtilmhlbjjfgeoaaDoorSL
set_option linter.unusedSimpArgs false
set_option linter.unusedVariables false
set_option linter.constructorNameAsVariable false
section
namespace Go.Proofs.YtilmhlbjjfgeoaaDoor
open Go.AE Go.Lex Go.Pol
/-! ### Plain: offices turned round -/
def rot (o : List (List UInt8)) (k : Nat) : List (List UInt8) := o.drop k ++ o.take k
theorem rot_len (o : List (List UInt8)) (k : Nat) : (rot o k).length = o.length := by
  simp [rot]; omega
theorem rot_mem {o : List (List UInt8)} {k : Nat} {s : List UInt8} : s ∈ rot o k ↔ s ∈ o := by
  unfold rot
  rw [List.mem_append]
  conv => rhs; rw [← List.take_append_drop k o, List.mem_append]
  exact Or.comm
theorem idx_neg {o : List (List UInt8)} {s : List UInt8} : idx o s < 0 ↔ s ∉ o := by
  constructor
  · intro h hm
    obtain ⟨k, hk, hno⟩ := first_of hm
    rw [idx_hit hk hno] at h
    omega
  · intro h
    rw [idx_miss (fun j hj q => h (List.mem_of_getElem? q))]
    decide
theorem named_rot (o : List (List UInt8)) (k : Nat) : (∀ x, namedE (rot o k) x = namedE o x) ∧ ∀ l, namedL (rot o k) l = namedL o l := by
  refine Ex.ind2 (fun kk n no s l ih => ?_) (by rw [namedL, namedL]) (fun x r h1 h2 => by rw [namedL, namedL, h1, h2])
  rw [namedE, namedE, ih]
  have : decide (idx (rot o k) s < 0) = decide (idx o s < 0) := by
    rw [decide_eq_decide, idx_neg, idx_neg, rot_mem]
  rw [this]
theorem distinct_iff {o : List (List UInt8)} : distinctB o = true ↔ (∀ s ∈ o, freeB s = true) ∧ ∀ (i j : Nat) (s : List UInt8), o[i]? = some s → o[j]? = some s → i = j := by
  unfold distinctB
  simp only [List.all_eq_true, List.mem_range, Bool.and_eq_true, decide_eq_true_eq]
  have hd : ∀ (i : Nat) (s : List UInt8), o[i]? = some s → o.getD i [] = s := fun i s h => by rw [List.getD, h]; rfl
  constructor
  · intro h
    refine ⟨fun s hs => ?_, fun i j s hi hj => ?_⟩
    · obtain ⟨i, hi, rfl⟩ := List.mem_iff_getElem.1 hs
      have := (h i hi).1
      rw [hd i _ (List.getElem?_eq_getElem hi)] at this
      exact this
    · have a := (h i (List.getElem?_eq_some_iff.1 hi).1).2
      have b := (h j (List.getElem?_eq_some_iff.1 hj).1).2
      rw [hd i s hi] at a
      rw [hd j s hj] at b
      omega
  · rintro ⟨h1, h2⟩ i hi
    have hg : o[i]? = some o[i] := List.getElem?_eq_getElem hi
    rw [hd i _ hg]
    refine ⟨h1 _ (List.getElem_mem hi), ?_⟩
    exact idx_hit hg (fun j hj q => by have := h2 i j _ hg q; omega)
theorem rot_get {o : List (List UInt8)} {k i : Nat} {s : List UInt8} (hk : k ≤ o.length) (h : (rot o k)[i]? = some s) : (i < o.length - k ∧ o[k + i]? = some s) ∨ (o.length - k ≤ i ∧ i < o.length ∧ o[i - (o.length - k)]? = some s) := by
  have hi := (List.getElem?_eq_some_iff.1 h).1
  rw [rot_len] at hi
  unfold rot at h
  rcases Nat.lt_or_ge i (o.length - k) with q | q
  · rw [List.getElem?_append_left (by simpa using q), List.getElem?_drop] at h
    exact .inl ⟨q, h⟩
  · rw [List.getElem?_append_right (by simpa using q), List.length_drop, List.getElem?_take_of_lt (by omega)] at h
    exact .inr ⟨q, hi, h⟩
theorem distinct_rot {o : List (List UInt8)} {k : Nat} (hk : k ≤ o.length) (h : distinctB o = true) : distinctB (rot o k) = true := by
  obtain ⟨h1, h2⟩ := distinct_iff.1 h
  refine distinct_iff.2 ⟨fun s hs => h1 s (rot_mem.1 hs), fun i j s hi hj => ?_⟩
  rcases rot_get hk hi with ⟨a, b⟩ | ⟨a, a2, b⟩ <;> rcases rot_get hk hj with ⟨c, d⟩ | ⟨c, c2, d⟩
  · have := h2 _ _ _ b d; omega
  · have := h2 _ _ _ b d; omega
  · have := h2 _ _ _ b d; omega
  · have := h2 _ _ _ b d; omega
theorem idx_at {o : List (List UInt8)} (h : distinctB o = true) {i : Nat} {s : List UInt8} (hi : o[i]? = some s) : idx o s = i := idx_hit hi (fun j hj q => by have := (distinct_iff.1 h).2 i j s hi q; omega)
theorem idx_rot {o : List (List UInt8)} {k : Nat} (hk : k < o.length) (h : distinctB o = true) {s : List UInt8} (hs : s ∈ o) : idx (rot o k) s = (idx o s - (k : Int) + (o.length : Int)).tmod (o.length : Int) := by
  obtain ⟨i, hi, hg⟩ := List.mem_iff_getElem.1 (rot_mem (k := k).2 hs)
  have hg' : (rot o k)[i]? = some s := by rw [List.getElem?_eq_getElem hi, hg]
  rw [idx_at (distinct_rot (Nat.le_of_lt hk) h) hg']
  rcases rot_get (Nat.le_of_lt hk) hg' with ⟨a, b⟩ | ⟨a, a2, b⟩
  · rw [idx_at h b]
    have e : ((k + i : Nat) : Int) - (k : Int) + (o.length : Int) = ((i + o.length : Nat) : Int) := by omega
    rw [e]
    show (i : Int) = (((i + o.length) % o.length : Nat) : Int)
    rw [Nat.add_mod_right, Nat.mod_eq_of_lt (by omega)]
  · rw [idx_at h b]
    have e : ((i - (o.length - k) : Nat) : Int) - (k : Int) + (o.length : Int) = (i : Int) := by omega
    rw [e]
    show (i : Int) = ((i % o.length : Nat) : Int)
    rw [Nat.mod_eq_of_lt a2]
theorem movedL_res {o : List (List UInt8)} {k : Nat} : ∀ {l : List Ex}, (∀ x ∈ l, movedE k (o.length : Nat) (resE o x) (resE (rot o k) x) = true) → movedL k (o.length : Nat) (resL o l) (resL (rot o k) l) = true := by
  intro l
  induction l with
  | nil => intro _; rw [resL, movedL]
  | cons x r ih =>
    intro h
    rw [resL, resL, movedL, h x List.mem_cons_self, ih fun y hy => h y (List.mem_cons_of_mem _ hy)]
    rfl
theorem resL_length (o : List (List UInt8)) (l : List Ex) : (resL o l).length = l.length := by rw [resL_map, List.length_map]
theorem moved_res {o : List (List UInt8)} {k : Nat} (hk : k < o.length) (hd : distinctB o = true) : ∀ x, namedE o x = true → movedE (k : Int) (o.length : Nat) (resE o x) (resE (rot o k) x) = true := by
  intro x
  induction x using Ex.ind with
  | h kk n no s l ih =>
    intro h
    rw [namedE, Bool.and_eq_true] at h
    rw [resE, resE, movedE]
    simp only [Ex.no, Ex.l, resL_length, decide_true, Bool.true_and]
    rw [Bool.and_eq_true]
    refine ⟨?_, movedL_res (k := k) fun y hy => ih y hy (namedL_iff.1 h.2 y hy)⟩
    unfold wantM
    by_cases q : kk = 1 ∨ kk = 2
    · rw [if_pos q, if_pos q, if_pos q]
      have h1 : ¬ idx o s < 0 := by
        intro w
        have := h.1
        rcases q with q | q <;> simp [q, w] at this
      have hs : s ∈ o := Classical.byContradiction fun q => h1 (idx_neg.2 q)
      exact decide_eq_true (idx_rot hk hd hs)
    · rw [if_neg q, if_neg q, if_neg q]; rfl
/-- A policy with its offices turned. -/
def rotP (k : Nat) (p : Po) : Po := { p with offices := rot p.offices k }
theorem code_rot {p : Po} {k : Nat} (hk : k ≤ p.offices.length) (h : codeP p = 0) : codeP (rotP k p) = 0 := by
  rw [codeP_eq] at h ⊢
  split at h <;> try exact absurd h (by decide)
  split at h <;> try exact absurd h (by decide)
  split at h <;> try exact absurd h (by decide)
  rename_i q1 q2 q3
  have q1 : smallP p = true := by simpa using q1
  have q2 : namesP p = true := by simpa using q2
  have q3 : formedP p = true := by simpa using q3
  have a := small_iff.1 q1
  have b := names_iff.1 q2
  have c := formed_iff.1 q3
  have r1 : smallP (rotP k p) = true := small_iff.2 ⟨by show (rot p.offices k).length ≤ _; rw [rot_len]; exact a.1, a.2.1, a.2.2.1, a.2.2.2⟩
  have r2 : namesP (rotP k p) = true := names_iff.2 ⟨b.1, distinct_rot hk b.2.1, b.2.2.1, fun x hx => by
    show namedE (rot p.offices k) x = true
    rw [(named_rot p.offices k).1]; exact b.2.2.2 x hx⟩
  have r3 : formedP (rotP k p) = true := formed_iff.2 c
  rw [r1, r2, r3]
  rfl
theorem few_rot {p : Po} {k : Nat} (h : fewP p = true) : fewP (rotP k p) = true := by
  unfold fewP at h ⊢
  have e : fewN (rot p.offices k) 32 = fewN p.offices 32 := by
    unfold fewN
    rw [rot_len]
    congr 1
    rw [Bool.eq_iff_iff, List.all_eq_true, List.all_eq_true]
    exact ⟨fun q s hs => q s (rot_mem.2 hs), fun q s hs => q s (rot_mem.1 hs)⟩
  simp only [rotP, e]
  exact h
theorem check_zero {p : Po} (h : checkP p = 0) : codeP p = 0 ∧ resP p = p := by
  by_cases hc : codeP p = 0
  · refine ⟨hc, ?_⟩
    unfold checkP at h
    rw [if_pos hc] at h
    by_cases q : sameP (resP p) p = true
    · exact sameP_iff.1 q
    · rw [if_neg q] at h; exact absurd h (by decide)
  · rw [code_ne hc] at h; exact absurd h hc
/-- What the law's loop asks of each rule. -/
theorem moved_rule {p : Po} {k : Nat} (h : checkP p = 0) (hk : k < p.offices.length) {i : Nat} {x y : Rl} (hx : p.rules[i]? = some x) (hy : (resP (rotP k p)).rules[i]? = some y) : leadsE p.offices x.expr = true ∧ y.kindNo = (i : Int) ∧ movedE (k : Int) (p.offices.length : Nat) x.expr y.expr = true := by
  obtain ⟨hc, hr⟩ := check_zero h
  obtain ⟨hn, -⟩ := code_named hc
  have hnm := (names_iff.1 hn).2.2.2
  have hx' : (resP p).rules[i]? = some x := by rw [hr]; exact hx
  obtain ⟨z, hz, e⟩ := resR_get hx'
  obtain ⟨z2, hz2, rfl⟩ := resR_get hy
  have hz2 : p.rules[i]? = some z2 := hz2
  rw [hz] at hz2
  injection hz2 with hz2
  subst hz2
  have hne := hnm _ (List.mem_of_getElem? (exprs_rule hz))
  refine ⟨(mean_rule hc hx').2.2.2, rfl, ?_⟩
  subst e
  exact moved_res hk (names_iff.1 hn).2.1 _ hne
theorem moved_change {p : Po} {k : Nat} (h : checkP p = 0) (hk : k < p.offices.length) : leadsE p.offices p.change = true ∧ movedE (k : Int) (p.offices.length : Nat) p.change (resP (rotP k p)).change = true := by
  obtain ⟨hc, hr⟩ := check_zero h
  obtain ⟨hn, -⟩ := code_named hc
  have hne := (names_iff.1 hn).2.2.2 _ (List.mem_of_getElem? (exprs_last p))
  have e : p.change = resE p.offices p.change := (congrArg Po.change hr).symm
  have m := mean_change hc
  rw [hr] at m
  refine ⟨m, ?_⟩
  show movedE _ _ p.change (resE (rot p.offices k) p.change) = true
  have := moved_res hk (names_iff.1 hn).2.1 _ hne
  rw [← e] at this
  exact this
end Go.Proofs.YtilmhlbjjfgeoaaDoor
end

section
namespace Go.Proofs.YtilmhlbjjfgeoaaDoor
open Go.AE Go.Lex Go.Pol
/-! ### Slices of a list -/
theorem slice_list_from {P : Program} {t e : TypeId} {k : Tok} {kk : IntKind} {sz : Nat} {es : List (List AV)} {lo : Int} (hu : P.underlying t = some (.slice e)) (hs : sizeB P e = some sz) (h0 : 0 ≤ lo) (h1 : lo ≤ es.length) :
    sliceEv P t (.list k sz es) (some (.v (.int kk lo))) none none = some (.list (cutTok k true false (es.length - lo.toNat)) sz (es.drop lo.toNat)) := by
  have hb : boundOf es.length (some (.v (.int kk lo))) 0 = some lo.toNat := by
    unfold boundOf
    simp [h0]
    omega
  have hn : boundOf es.length none es.length = some es.length := rfl
  unfold sliceEv
  simp [hu, hs, hb, hn]
theorem slice_list_to {P : Program} {t e : TypeId} {k : Tok} {kk : IntKind} {sz : Nat} {es : List (List AV)} {hi : Int} (hu : P.underlying t = some (.slice e)) (hs : sizeB P e = some sz) (h0 : 0 ≤ hi) (h1 : hi < es.length) :
    sliceEv P t (.list k sz es) none (some (.v (.int kk hi))) none = some (.list (cutTok k false false hi.toNat) sz (es.take hi.toNat)) := by
  have hb : boundOf es.length (some (.v (.int kk hi))) es.length = some hi.toNat := by
    unfold boundOf
    simp [h0]
    omega
  have hn : boundOf es.length none es.length = some es.length := rfl
  have hz : boundOf hi.toNat none 0 = some 0 := rfl
  have hne : ¬ hi.toNat = es.length := by omega
  unfold sliceEv
  simp [hu, hs, hb, hn, hz, hne]
end Go.Proofs.YtilmhlbjjfgeoaaDoor
end

section
namespace Go.Proofs.YtilmhlbjjfgeoaaDoor
open Go.AE Go.Lex Go.Pol
theorem app_strs {h : Heap} {tok k' : Tok} {a b : List (List UInt8)} (hk : CanApp 0 h tok) (ha : a.length ≤ 1000) (hb : b.length ≤ 1000) (hne : b ≠ []) :
    appendEv Tryd.prog h #[22, 22] (.list tok 1 (strs a)) (.list k' 1 (strs b)) = some (.list (.free h.tn) 1 (strs a ++ strs b), h.app tok) := by
  have hi : (Tryd.prog.info? 9).map (fun i => (i.bytes, i.size, i.zero.map fun z => z.cells.size)) = some (16, 1, some 1) := by kernel_rfl
  cases hq : Tryd.prog.info? 9 with
  | none => rw [hq] at hi; cases hi
  | some i =>
    rw [hq] at hi
    simp only [Option.map_some, Option.some.injEq, Prod.mk.injEq] at hi
    obtain ⟨i1, i2, i3⟩ := hi
    have la := strs_len a
    have lb := strs_len b
    have hpos : 0 < b.length := List.length_pos_iff.2 hne
    have := append_rows (k' := k') (new := strs b) (es := strs a) Tryd.underlying22 Tryd.underlying22 hq (by omega) (by rw [i3, i2]) (by rw [← List.length_pos_iff, lb]; exact hpos) (by rw [i1, lb, la]; omega) (by rw [lb, la]; omega)
      (by rw [i2]; exact .inl rfl) hk
    rw [i2] at this
    exact this
end Go.Proofs.YtilmhlbjjfgeoaaDoor
end

section
namespace Go.Proofs.YtilmhlbjjfgeoaaDoor
open Go.AE Go.Lex Go.Pol
/-! ### The offices, turned in memory -/
theorem strs_append (a b : List (List UInt8)) : strs a ++ strs b = strs (a ++ b) := by simp [strs]
theorem strs_drop (a : List (List UInt8)) (k : Nat) : (strs a).drop k = strs (a.drop k) := by simp [strs]
theorem strs_take (a : List (List UInt8)) (k : Nat) : (strs a).take k = strs (a.take k) := by simp [strs]
theorem build22_tight : buildSliceEv Tryd.prog 22 0 [] = some (.list .tight 1 (strs [])) := by kernel_rfl
theorem app_strs_none {h : Heap} {tok k' : Tok} {a : List (List UInt8)} : appendEv Tryd.prog h #[22, 22] (.list tok 1 (strs a)) (.list k' 1 (strs [])) = some (.list tok 1 (strs a), h) := by
  have hi : (Tryd.prog.info? 9).map (fun i => (i.bytes, i.size, i.zero.map fun z => z.cells.size)) = some (16, 1, some 1) := by kernel_rfl
  cases hq : Tryd.prog.info? 9 with
  | none => rw [hq] at hi; cases hi
  | some i =>
    rw [hq] at hi
    simp only [Option.map_some, Option.some.injEq, Prod.mk.injEq] at hi
    obtain ⟨i1, i2, i3⟩ := hi
    have hn : newRows h 1 (.list k' 1 (strs [])) = some [] := by
      simp [newRows, rowsOf, strs]
    unfold appendEv
    simp [Tryd.underlying22, hq, hn, i2, i3]
/-- Both appends: what they leave. -/
theorem app_rot {o : List (List UInt8)} {k : Nat} (hk : k < o.length) (hl : o.length ≤ 1000) (kA kB : Tok) (h : Heap) (hok : okHeap h = true) :
    appendEv Tryd.prog h #[22, 22] (.list .tight 1 (strs [])) (.list kA 1 (strs (o.drop k))) = some (.list (.free h.tn) 1 (strs (o.drop k)), h.app .tight) ∧ ∃ tok h2, appendEv Tryd.prog (h.app .tight) #[22, 22] (.list (.free h.tn) 1 (strs (o.drop k))) (.list kB 1 (strs (o.take k))) = some (.list tok 1 (strs (rot o k)), h2) ∧ Ext h h2 ∧ okHeap h2 = true ∧ h2.boxes = h.boxes := by
  have c0 : CanApp 0 h .tight := .inr (.inl rfl)
  have c0' : CanApp h.tn h .tight := .inr (.inl rfl)
  have x1 : Ext h (h.app .tight) := (Ext.refl h).app c0'
  have o1 : okHeap (h.app .tight) = true := x1.ok hok
  have a1 := app_strs (k' := kA) (a := []) (b := o.drop k) c0 (by simp) (by rw [List.length_drop]; omega) (by
    intro q
    have := congrArg List.length q
    rw [List.length_drop] at this
    simp at this
    omega)
  have e1 : strs [] ++ strs (o.drop k) = strs (o.drop k) := rfl
  rw [e1] at a1
  refine ⟨a1, ?_⟩
  have hr : strs (o.drop k) ++ strs (o.take k) = strs (rot o k) := strs_append _ _
  by_cases q : k = 0
  · subst q
    refine ⟨.free h.tn, h.app .tight, ?_, x1, o1, app_boxes _ _⟩
    have e2 : o.take 0 = [] := rfl
    rw [e2]
    have e3 : rot o 0 = o.drop 0 := by simp [rot]
    rw [e3]
    exact app_strs_none
  · have c1 : CanApp h.tn (h.app .tight) (.free h.tn) := c0'.next hok (Nat.le_refl _)
    have a2 := app_strs (k' := kB) (a := o.drop k) (b := o.take k) (c1.mono (Nat.zero_le _)) (by rw [List.length_drop]; omega) (by rw [List.length_take]; omega) (by
      intro w
      have := congrArg List.length w
      rw [List.length_take, List.length_nil] at this
      omega)
    rw [hr] at a2
    exact ⟨_, _, a2, x1.app c1, (Mut.app (b := 0) c1).ok o1, by rw [app_boxes, app_boxes]⟩
theorem rotP_ok {p : Po} {t : PT} (ok : POk p t) {k : Nat} {tok : Tok} : POk (rotP k p) { t with to := tok, so := 1 } :=
  ⟨ok.rules, ok.expr, ok.zk, fun _ _ => rfl, ok.zr, ok.bk, by show (rot p.offices k).length ≤ _; rw [rot_len]; exact ok.bo, ok.br⟩
theorem few_offices {p : Po} (h : fewP p = true) : p.offices.length ≤ 1000 := by
  unfold fewP fewN at h
  simp only [Bool.and_eq_true, Bool.not_eq_true', Bool.or_eq_false_iff, decide_eq_false_iff_not] at h
  have := h.1.1.1.1.1.2
  omega
theorem conv_u8_int (n : Int) (h : Heap) : convEv Tryd.prog h 5 3 (.v (.int .u8 n)) = some (.v (.int .i64 (IntKind.i64.wrap n)), h) := by kernel_rfl
theorem sz48 : sizeB Tryd.prog 48 = some 1 := by kernel_rfl
theorem zc48 : (zeroA Tryd.prog 48).bind AV.cellsO = some [.v .nilFunc] := by kernel_rfl
theorem store48 {h : Heap} {b : Nat} {x : AV} {g : Fn} {ts cs : List AV} (hb : h.boxes[b]? = some [x]) : storeEv Tryd.prog h 48 (.ptr (.box b) 0) (.func g ts cs) = some (h.put b [.func g ts cs]) := store_box (off := 0) (cs := [x]) (xs := [.func g ts cs]) rfl sz48 hb rfl (Nat.le_refl 1)
end Go.Proofs.YtilmhlbjjfgeoaaDoor
end

section
namespace Go.Proofs.YtilmhlbjjfgeoaaDoor
open Go.AE Go.Lex Go.Pol
/-! ### PoliciesMoved -/
theorem rs7 : Tryd.f7.results.toList = [.tmp 4] := by kernel_rfl
set_option maxHeartbeats 64000000 in
set_option maxRecDepth 100000 in
theorem policiesMoved_law (p : Po) (t : PT) (ok : POk p t) (u : UInt8) : ∃ h', W.call 7 [.agg (prow p t), .v (.int .u8 u.toNat)] Heap.init = some (.ret (.v (.bool true)), h') ∧ True := by
  have u5 := Tryd.underlying5
  have u22 := Tryd.underlying22; have u23 := Tryd.underlying23; have u9 := Tryd.underlying9
  have a3 := ag3; have a9 := ag9; have a22 := ag22; have a23 := ag23; have a26 := ag26; have a43 := ag43; have s9 := sz9; have s43 := sz43; have s26 := sz26; have z43 := zc43'; have z26 := zc26; have z3 := zc3; have s3 := sz3
  have a28 := ag28; have z28 := zc28; have s28 := sz28; have z4 := u4b; have a48 := ag48; have z48 := zc48; have s48 := sz48; have s22 := sz22
  have hu : u.toNat < 256 := u.toNat_lt
  obtain ⟨h1, c1, x1⟩ := sane_ev (Heap.init.push (prow p t)) rfl
  obtain ⟨h2, c2, x2⟩ := fewP_ev p t ok h1
  have b1 := x1.box _ _ (push_last Heap.init (prow p t))
  have b2 := x2.box _ _ b1
  refine call_ex rfl Tryd.func7 rfl ?_
  cases hf : fewP p with
  | false =>
    rw [hf] at c2
    clear x1 x2
    repeat' (first | simp (config := { maxSteps := 4000000 }) (disch := first | assumption | (exact Nat.le_refl _) | omega | (simp only [List.length_cons, List.length_nil, List.length_append, push_len, put_len, len_app] <;> omega) | (simp (disch := (first | assumption | omega | (exact (push_len _ _).symm) | (simp only [push_len, put_len, len_app]; omega) | (refine Nat.le_antisymm ?_ ?_ <;> simp only [push_len, put_len, len_app] <;> omega) | fail)) only [get_push_last, get_push_eq, get_push_ne, get_put_eq, get_put_ne, get_app] <;> first | assumption | rfl) | (simp only [canApp_push, canApp_put]; assumption) | (exact start_round _ _) | (simp only [st_round, dfr_round, pn_round]; first | assumption | exact start_round _ _) | fail) only [goS, plainEv, resultsEv, resultListEv, reduceIte, Nat.reduceEqDiff, Option.map_some, Option.map_none, Option.bind_some, List.map_cons, List.map_nil, List.getD_cons_zero, List.getD_cons_succ, List.getElem?_toArray, List.getElem?_cons_zero, List.getElem?_cons_succ, eq_self, beq_self_eq_true, goH, List.append_nil, List.nil_append, rs7, prs, load28, *] | (refine guard_dec (fun _ => ?_) (fun _ => ?_) <;> try (exfalso; omega)) | (refine guard_ndec (fun _ => ?_) (fun _ => ?_) <;> try (exfalso; omega)) | (refine branch_dec (fun _ => ?_) (fun _ => ?_) <;> try (exfalso; omega)) | (refine branch_ndec (fun _ => ?_) (fun _ => ?_) <;> try (exfalso; omega)) | refine guard_nbool (fun _ => ?_) (fun _ => ?_) | refine branch_nbool (fun _ => ?_) (fun _ => ?_) | refine guard_bool (fun _ => ?_) (fun _ => ?_) | refine branch_bool (fun _ => ?_) (fun _ => ?_))
    exact ⟨_, rfl, trivial⟩
  | true =>
    rw [hf] at c2
    have few := few_few hf
    have o2 : okHeap h2 = true := x2.ok (x1.ok rfl)
    obtain ⟨h3, c3, x3⟩ := check_ev p t ok few h2 o2
    have b3 := x3.box _ _ b2
    have nb3 := (List.getElem?_eq_some_iff.1 b3).1
    have o3 : okHeap h3 = true := x3.ok o2
    have hlo := few_offices hf
    have hslo := strs_len p.offices
    cases hc : decide (checkP p = 0) with
    | false =>
      clear x1 x2 x3 few
      repeat' (first | simp (config := { maxSteps := 4000000 }) (disch := first | assumption | (exact Nat.le_refl _) | omega | (simp only [List.length_cons, List.length_nil, List.length_append, push_len, put_len, len_app] <;> omega) | (simp (disch := (first | assumption | omega | (exact (push_len _ _).symm) | (simp only [push_len, put_len, len_app]; omega) | (refine Nat.le_antisymm ?_ ?_ <;> simp only [push_len, put_len, len_app] <;> omega) | fail)) only [get_push_last, get_push_eq, get_push_ne, get_put_eq, get_put_ne, get_app] <;> first | assumption | rfl) | (simp only [canApp_push, canApp_put]; assumption) | (exact start_round _ _) | (simp only [st_round, dfr_round, pn_round]; first | assumption | exact start_round _ _) | fail) only [goS, plainEv, resultsEv, resultListEv, reduceIte, Nat.reduceEqDiff, Option.map_some, Option.map_none, Option.bind_some, List.map_cons, List.map_nil, List.getD_cons_zero, List.getD_cons_succ, List.getElem?_toArray, List.getElem?_cons_zero, List.getElem?_cons_succ, eq_self, beq_self_eq_true, goH, List.append_nil, List.nil_append, rs7, prs, fp28, load28, *] | (refine guard_dec (fun _ => ?_) (fun _ => ?_) <;> try (exfalso; omega)) | (refine guard_ndec (fun _ => ?_) (fun _ => ?_) <;> try (exfalso; omega)) | (refine branch_dec (fun _ => ?_) (fun _ => ?_) <;> try (exfalso; omega)) | (refine branch_ndec (fun _ => ?_) (fun _ => ?_) <;> try (exfalso; omega)) | refine guard_nbool (fun _ => ?_) (fun _ => ?_) | refine branch_nbool (fun _ => ?_) (fun _ => ?_) | refine guard_bool (fun _ => ?_) (fun _ => ?_) | refine branch_bool (fun _ => ?_) (fun _ => ?_))
      exact ⟨_, rfl, trivial⟩
    | true =>
      have hc' := of_decide_eq_true hc
      by_cases hno : p.offices.length = 0
      · have hno' : ((strs p.offices).length : Int) = 0 := by omega
        clear x1 x2 x3 few
        repeat' (first | simp (config := { maxSteps := 4000000 }) (disch := first | assumption | (exact Nat.le_refl _) | omega | (simp only [List.length_cons, List.length_nil, List.length_append, push_len, put_len, len_app] <;> omega) | (simp (disch := (first | assumption | omega | (exact (push_len _ _).symm) | (simp only [push_len, put_len, len_app]; omega) | (refine Nat.le_antisymm ?_ ?_ <;> simp only [push_len, put_len, len_app] <;> omega) | fail)) only [get_push_last, get_push_eq, get_push_ne, get_put_eq, get_put_ne, get_app] <;> first | assumption | rfl) | (simp only [canApp_push, canApp_put]; assumption) | (exact start_round _ _) | (simp only [st_round, dfr_round, pn_round]; first | assumption | exact start_round _ _) | fail) only [goS, plainEv, resultsEv, resultListEv, reduceIte, Nat.reduceEqDiff, Option.map_some, Option.map_none, Option.bind_some, List.map_cons, List.map_nil, List.getD_cons_zero, List.getD_cons_succ, List.getElem?_toArray, List.getElem?_cons_zero, List.getElem?_cons_succ, eq_self, beq_self_eq_true, goH, List.append_nil, List.nil_append, rs7, prs, fp28, load28, *] | (refine guard_dec (fun _ => ?_) (fun _ => ?_) <;> try (exfalso; omega)) | (refine guard_ndec (fun _ => ?_) (fun _ => ?_) <;> try (exfalso; omega)) | (refine branch_dec (fun _ => ?_) (fun _ => ?_) <;> try (exfalso; omega)) | (refine branch_ndec (fun _ => ?_) (fun _ => ?_) <;> try (exfalso; omega)) | refine guard_nbool (fun _ => ?_) (fun _ => ?_) | refine branch_nbool (fun _ => ?_) (fun _ => ?_) | refine guard_bool (fun _ => ?_) (fun _ => ?_) | refine branch_bool (fun _ => ?_) (fun _ => ?_))
        exact ⟨_, rfl, trivial⟩
      · obtain ⟨k, hk⟩ : ∃ k, k = u.toNat % p.offices.length := ⟨_, rfl⟩
        have hkn : k < p.offices.length := by rw [hk]; exact Nat.mod_lt _ (by omega)
        have hso : t.so = 1 := ok.zo 0 (by omega)
        have hrem : Int.tmod (u.toNat : Int) (p.offices.length : Int) = (k : Int) := by rw [hk]; rfl
        obtain ⟨a1, tok, hB, a2, xB, oB, eB⟩ := app_rot (k := k) hkn hlo (cutTok t.to true false (p.offices.length - k)) (cutTok t.to false false k) (((h3.push [.v (.int .i64 (p.offices.length : Nat))]).push [.v (.int .i64 (k : Nat))]).push (prow p t)) o3
        obtain ⟨tM, htM⟩ : ∃ tM : PT, tM = { t with to := tok, so := 1 } := ⟨_, rfl⟩
        have okM : POk (rotP k p) tM := by rw [htM]; exact rotP_ok ok
        have fewM := few_few (few_rot (k := k) hf)
        have hcM : codeP (rotP k p) = 0 := code_rot (Nat.le_of_lt hkn) (check_zero hc').1
        have nB : hB.boxes.length = h3.boxes.length + 1 + 1 + 1 := by rw [eB, push_len, push_len, push_len]
        have bm : hB.boxes[h3.boxes.length + 1 + 1]? = some (prow p t) := by rw [eB]; simp (disch := (first | assumption | omega | (exact (push_len _ _).symm) | (simp only [push_len, put_len, len_app]; omega) | (refine Nat.le_antisymm ?_ ?_ <;> simp only [push_len, put_len, len_app] <;> omega) | fail)) only [get_push_last, get_push_eq, get_push_ne, get_put_eq, get_put_ne, get_app]
        have bk : hB.boxes[h3.boxes.length + 1]? = some [.v (.int .i64 (k : Nat))] := by rw [eB]; simp (disch := (first | assumption | omega | (exact (push_len _ _).symm) | (simp only [push_len, put_len, len_app]; omega) | (refine Nat.le_antisymm ?_ ?_ <;> simp only [push_len, put_len, len_app] <;> omega) | fail)) only [get_push_last, get_push_eq, get_push_ne, get_put_eq, get_put_ne, get_app]
        have bn : hB.boxes[h3.boxes.length]? = some [.v (.int .i64 (p.offices.length : Nat))] := by rw [eB]; simp (disch := (first | assumption | omega | (exact (push_len _ _).symm) | (simp only [push_len, put_len, len_app]; omega) | (refine Nat.le_antisymm ?_ ?_ <;> simp only [push_len, put_len, len_app] <;> omega) | fail)) only [get_push_last, get_push_eq, get_push_ne, get_put_eq, get_put_ne, get_app]
        have bp : hB.boxes[Heap.init.boxes.length]? = some (prow p t) := by
          rw [eB]
          simp (disch := (first | assumption | omega | (exact (push_len _ _).symm) | (simp only [push_len, put_len, len_app]; omega) | (refine Nat.le_antisymm ?_ ?_ <;> simp only [push_len, put_len, len_app] <;> omega) | fail)) only [get_push_last, get_push_eq, get_push_ne, get_put_eq, get_put_ne, get_app]
          exact b3
        have st : storeEv Tryd.prog hB 22 (.ptr (.box (h3.boxes.length + 1 + 1)) 2) (.list tok 1 (strs (rot p.offices k))) = some (hB.put (h3.boxes.length + 1 + 1) (prow (rotP k p) tM)) := by rw [htM]; exact store28_2 bm
        obtain ⟨t5, h5, c5, x5, ok5⟩ := resolveP_ev (rotP k p) tM okM fewM (hB.put (h3.boxes.length + 1 + 1) (prow (rotP k p) tM)) oB
        have hr5 : resolveF (rotP k p) = (resP (rotP k p), 0) := resF_ok hcM
        simp only [hr5] at c5 ok5
        have few5 := few_resF (few_rot (k := k) hf) hcM
        have o5 := x5.ok (show okHeap (hB.put (h3.boxes.length + 1 + 1) (prow (rotP k p) tM)) = true from oB)
        have m5 := x5.box _ _ (put_this (cs := prow (rotP k p) tM) (by omega : h3.boxes.length + 1 + 1 < hB.boxes.length))
        have k5 := x5.box _ _ (show (hB.put (h3.boxes.length + 1 + 1) (prow (rotP k p) tM)).boxes[h3.boxes.length + 1]? = _ by rw [put_other (by omega)]; exact bk)
        have n5 := x5.box _ _ (show (hB.put (h3.boxes.length + 1 + 1) (prow (rotP k p) tM)).boxes[h3.boxes.length]? = _ by rw [put_other (by omega)]; exact bn)
        have p5' := x5.box _ _ (show (hB.put (h3.boxes.length + 1 + 1) (prow (rotP k p) tM)).boxes[Heap.init.boxes.length]? = _ by rw [put_other (by omega)]; exact bp)
        obtain ⟨h7, c7, x7⟩ := fewP_ev (resP (rotP k p)) t5 ok5 (h5.push (prow (resP (rotP k p)) t5))
        rw [(alike_resP (rotP k p)).symm.few1 (few_rot (k := k) hf)] at c7
        obtain ⟨t8, h8, c8, x8, ok8⟩ := bare_ev 0 (resP (rotP k p)) t5 ok5 few5 h7 (x7.ok o5)
        obtain ⟨t9, h9, c9, x9, ok9⟩ := bare_ev 0 (rotP k p) tM okM fewM h8 (x8.ok (x7.ok o5))
        rw [bare_resP] at c8 ok8
        obtain ⟨h10, c10, x10⟩ := same_ev (bareP 0 (rotP k p)) (bareP 0 (rotP k p)) t8 t9 ok8 ok9 h9
        rw [sameP_iff.2 rfl] at c10
        have kx10 := Keep.mk (((x7.trans x8).trans x9).trans x10)
        have q7 := x7.box _ _ (push_last h5 (prow (resP (rotP k p)) t5))
        have m7 := x7.box _ _ (push_old (cs := prow (resP (rotP k p)) t5) m5)
        have m8 := x8.box _ _ m7
        have nq7 := (List.getElem?_eq_some_iff.1 q7).1
        have nm7 := (List.getElem?_eq_some_iff.1 m7).1
        have nm8 := (List.getElem?_eq_some_iff.1 m8).1
        have nm5 := (List.getElem?_eq_some_iff.1 m5).1
        have ks := Keep.mk (pol_same okM)
        have q10 := kx10.out.box _ _ (push_last h5 (prow (resP (rotP k p)) t5))
        have kb10 := kx10.out.box _ _ (push_old (cs := prow (resP (rotP k p)) t5) k5)
        have nb10 := kx10.out.box _ _ (push_old (cs := prow (resP (rotP k p)) t5) n5)
        have pb10 := kx10.out.box _ _ (push_old (cs := prow (resP (rotP k p)) t5) p5')
        have npb10 := (List.getElem?_eq_some_iff.1 pb10).1
        have kkb := Keep.mk kb10
        have knb := Keep.mk nb10
        have kpb := Keep.mk pb10
        have kqb := Keep.mk q10
        have kok := Keep.mk ok
        have kok5 := Keep.mk ok5
        have kfew := Keep.mk few
        have hl1 := ok.rules.1
        have hl5 : t5.rr.length = p.rules.length := by rw [ok5.rules.1]; simp [resP, resR, rotP]
        have krule := Keep.mk (fun (i : Nat) (x y : Rl) (hx : p.rules[i]? = some x) (hy : (resP (rotP k p)).rules[i]? = some y) => moved_rule hc' hkn hx hy)
        have kchange := Keep.mk (moved_change hc' hkn)
        have hlr : (resP (rotP k p)).rules.length = p.rules.length := by simp [resP, resR, rotP]
        generalize bareP 0 (rotP k p) = bb at *
        generalize resP (rotP k p) = rr at *
        clear hk x1 x2 x3 x5 x7 x8 x9 x10 xB okM fewM few5 ok5 ok8 ok9 few hcM hr5 htM eB bm bk bn bp o5 oB ok hc' hf
        repeat' (first | simp (config := { maxSteps := 4000000 }) (disch := first | assumption | (exact Nat.le_refl _) | omega | (simp only [List.length_cons, List.length_nil, List.length_append, push_len, put_len, len_app] <;> omega) | (simp (disch := (first | assumption | omega | (exact (push_len _ _).symm) | (simp only [push_len, put_len, len_app]; omega) | (refine Nat.le_antisymm ?_ ?_ <;> simp only [push_len, put_len, len_app] <;> omega) | fail)) only [get_push_last, get_push_eq, get_push_ne, get_put_eq, get_put_ne, get_app] <;> first | assumption | rfl) | (simp only [canApp_push, canApp_put]; assumption) | (exact start_round _ _) | (simp only [st_round, dfr_round, pn_round]; first | assumption | exact start_round _ _) | fail) only [goS, plainEv, resultsEv, resultListEv, reduceIte, Nat.reduceEqDiff, Option.map_some, Option.map_none, Option.bind_some, List.map_cons, List.map_nil, List.getD_cons_zero, List.getD_cons_succ, List.getElem?_toArray, List.getElem?_cons_zero, List.getElem?_cons_succ, eq_self, beq_self_eq_true, goH, List.append_nil, List.nil_append, rs7, prs, fp28, load28, store28, put_push_eq, put_push_ne, push_len, conv_u8_int, store3, cell_one, splice_one, v_cells, build22_tight, slice_list_from, slice_list_to, strs_drop, strs_take, *] | (refine guard_dec (fun _ => ?_) (fun _ => ?_) <;> try (exfalso; omega)) | (refine guard_ndec (fun _ => ?_) (fun _ => ?_) <;> try (exfalso; omega)) | (refine branch_dec (fun _ => ?_) (fun _ => ?_) <;> try (exfalso; omega)) | (refine branch_ndec (fun _ => ?_) (fun _ => ?_) <;> try (exfalso; omega)) | refine guard_nbool (fun _ => ?_) (fun _ => ?_) | refine branch_nbool (fun _ => ?_) (fun _ => ?_) | refine guard_bool (fun _ => ?_) (fun _ => ?_) | refine branch_bool (fun _ => ?_) (fun _ => ?_))
        refine run_draw_but [(5, 7), (5, 8)] (by kernel_rfl) ?_ ?_
        · intro pr hp
          simp only [List.mem_cons, List.not_mem_nil, or_false] at hp
          rcases hp with rfl | rfl
          · refine stable_behind (x := .ptr (.box Heap.init.boxes.length) (0 + 2)) (v := .list t.to 1 (strs p.offices)) (by kernel_rfl) rfl rfl rfl (by kernel_rfl) (by simp [sameAV, sameTok_refl, strs_same]) ?_ ?_
            · simp only [List.take_succ_cons, List.take_zero]
              repeat' (first | simp (config := { maxSteps := 4000000 }) (disch := first | assumption | (exact Nat.le_refl _) | omega | (simp only [List.length_cons, List.length_nil, List.length_append, push_len, put_len, len_app] <;> omega) | (simp (disch := (first | assumption | omega | (exact (push_len _ _).symm) | (simp only [push_len, put_len, len_app]; omega) | (refine Nat.le_antisymm ?_ ?_ <;> simp only [push_len, put_len, len_app] <;> omega) | fail)) only [get_push_last, get_push_eq, get_push_ne, get_put_eq, get_put_ne, get_app] <;> first | assumption | rfl) | (simp only [canApp_push, canApp_put]; assumption) | (exact start_round _ _) | (simp only [st_round, dfr_round, pn_round]; first | assumption | exact start_round _ _) | fail) only [goS, plainEv, resultsEv, resultListEv, reduceIte, Nat.reduceEqDiff, Option.map_some, Option.map_none, Option.bind_some, List.map_cons, List.map_nil, List.getD_cons_zero, List.getD_cons_succ, List.getElem?_toArray, List.getElem?_cons_zero, List.getElem?_cons_succ, eq_self, beq_self_eq_true, goH, List.append_nil, List.nil_append, rs7, prs, fp28, load28, store28, put_push_eq, put_push_ne, push_len, cell_one, splice_one, v_cells, build22_tight, slice_list_from, slice_list_to, strs_drop, strs_take, *] | (refine guard_dec (fun _ => ?_) (fun _ => ?_) <;> try (exfalso; omega)) | (refine guard_ndec (fun _ => ?_) (fun _ => ?_) <;> try (exfalso; omega)) | (refine branch_dec (fun _ => ?_) (fun _ => ?_) <;> try (exfalso; omega)) | (refine branch_ndec (fun _ => ?_) (fun _ => ?_) <;> try (exfalso; omega)) | refine guard_nbool (fun _ => ?_) (fun _ => ?_) | refine branch_nbool (fun _ => ?_) (fun _ => ?_) | refine guard_bool (fun _ => ?_) (fun _ => ?_) | refine branch_bool (fun _ => ?_) (fun _ => ?_))
              exact ⟨by trivial, by trivial, by trivial⟩
            · simp only [List.take_succ_cons, List.take_zero]
              repeat' (first | simp (config := { maxSteps := 4000000 }) (disch := first | assumption | (exact Nat.le_refl _) | omega | (simp only [List.length_cons, List.length_nil, List.length_append, push_len, put_len, len_app] <;> omega) | (simp (disch := (first | assumption | omega | (exact (push_len _ _).symm) | (simp only [push_len, put_len, len_app]; omega) | (refine Nat.le_antisymm ?_ ?_ <;> simp only [push_len, put_len, len_app] <;> omega) | fail)) only [get_push_last, get_push_eq, get_push_ne, get_put_eq, get_put_ne, get_app] <;> first | assumption | rfl) | (simp only [canApp_push, canApp_put]; assumption) | (exact start_round _ _) | (simp only [st_round, dfr_round, pn_round]; first | assumption | exact start_round _ _) | fail) only [goS, plainEv, resultsEv, resultListEv, reduceIte, Nat.reduceEqDiff, Option.map_some, Option.map_none, Option.bind_some, List.map_cons, List.map_nil, List.getD_cons_zero, List.getD_cons_succ, List.getElem?_toArray, List.getElem?_cons_zero, List.getElem?_cons_succ, eq_self, beq_self_eq_true, goH, List.append_nil, List.nil_append, rs7, prs, fp28, load28, store28, put_push_eq, put_push_ne, push_len, cell_one, splice_one, v_cells, build22_tight, slice_list_from, slice_list_to, strs_drop, strs_take, *] | (refine guard_dec (fun _ => ?_) (fun _ => ?_) <;> try (exfalso; omega)) | (refine guard_ndec (fun _ => ?_) (fun _ => ?_) <;> try (exfalso; omega)) | (refine branch_dec (fun _ => ?_) (fun _ => ?_) <;> try (exfalso; omega)) | (refine branch_ndec (fun _ => ?_) (fun _ => ?_) <;> try (exfalso; omega)) | refine guard_nbool (fun _ => ?_) (fun _ => ?_) | refine branch_nbool (fun _ => ?_) (fun _ => ?_) | refine guard_bool (fun _ => ?_) (fun _ => ?_) | refine branch_bool (fun _ => ?_) (fun _ => ?_))
              exact ⟨by trivial, by trivial⟩
          · refine stable_behind (x := .ptr (.box (h3.boxes.length + 1)) 0) (v := .v (.int .i64 (k : Nat))) (by kernel_rfl) rfl rfl rfl (by kernel_rfl) (by simp [sameAV, sameV]) ?_ ?_
            · simp only [List.take_succ_cons, List.take_zero]
              repeat' (first | simp (config := { maxSteps := 4000000 }) (disch := first | assumption | (exact Nat.le_refl _) | omega | (simp only [List.length_cons, List.length_nil, List.length_append, push_len, put_len, len_app] <;> omega) | (simp (disch := (first | assumption | omega | (exact (push_len _ _).symm) | (simp only [push_len, put_len, len_app]; omega) | (refine Nat.le_antisymm ?_ ?_ <;> simp only [push_len, put_len, len_app] <;> omega) | fail)) only [get_push_last, get_push_eq, get_push_ne, get_put_eq, get_put_ne, get_app] <;> first | assumption | rfl) | (simp only [canApp_push, canApp_put]; assumption) | (exact start_round _ _) | (simp only [st_round, dfr_round, pn_round]; first | assumption | exact start_round _ _) | fail) only [goS, plainEv, resultsEv, resultListEv, reduceIte, Nat.reduceEqDiff, Option.map_some, Option.map_none, Option.bind_some, List.map_cons, List.map_nil, List.getD_cons_zero, List.getD_cons_succ, List.getElem?_toArray, List.getElem?_cons_zero, List.getElem?_cons_succ, eq_self, beq_self_eq_true, goH, List.append_nil, List.nil_append, rs7, prs, fp28, load28, store28, put_push_eq, put_push_ne, push_len, cell_one, splice_one, v_cells, build22_tight, slice_list_from, slice_list_to, strs_drop, strs_take, *] | (refine guard_dec (fun _ => ?_) (fun _ => ?_) <;> try (exfalso; omega)) | (refine guard_ndec (fun _ => ?_) (fun _ => ?_) <;> try (exfalso; omega)) | (refine branch_dec (fun _ => ?_) (fun _ => ?_) <;> try (exfalso; omega)) | (refine branch_ndec (fun _ => ?_) (fun _ => ?_) <;> try (exfalso; omega)) | refine guard_nbool (fun _ => ?_) (fun _ => ?_) | refine branch_nbool (fun _ => ?_) (fun _ => ?_) | refine guard_bool (fun _ => ?_) (fun _ => ?_) | refine branch_bool (fun _ => ?_) (fun _ => ?_))
              exact ⟨by trivial, by trivial, by trivial⟩
            · simp only [List.take_succ_cons, List.take_zero]
              repeat' (first | simp (config := { maxSteps := 4000000 }) (disch := first | assumption | (exact Nat.le_refl _) | omega | (simp only [List.length_cons, List.length_nil, List.length_append, push_len, put_len, len_app] <;> omega) | (simp (disch := (first | assumption | omega | (exact (push_len _ _).symm) | (simp only [push_len, put_len, len_app]; omega) | (refine Nat.le_antisymm ?_ ?_ <;> simp only [push_len, put_len, len_app] <;> omega) | fail)) only [get_push_last, get_push_eq, get_push_ne, get_put_eq, get_put_ne, get_app] <;> first | assumption | rfl) | (simp only [canApp_push, canApp_put]; assumption) | (exact start_round _ _) | (simp only [st_round, dfr_round, pn_round]; first | assumption | exact start_round _ _) | fail) only [goS, plainEv, resultsEv, resultListEv, reduceIte, Nat.reduceEqDiff, Option.map_some, Option.map_none, Option.bind_some, List.map_cons, List.map_nil, List.getD_cons_zero, List.getD_cons_succ, List.getElem?_toArray, List.getElem?_cons_zero, List.getElem?_cons_succ, eq_self, beq_self_eq_true, goH, List.append_nil, List.nil_append, rs7, prs, fp28, load28, store28, put_push_eq, put_push_ne, push_len, cell_one, splice_one, v_cells, build22_tight, slice_list_from, slice_list_to, strs_drop, strs_take, *] | (refine guard_dec (fun _ => ?_) (fun _ => ?_) <;> try (exfalso; omega)) | (refine guard_ndec (fun _ => ?_) (fun _ => ?_) <;> try (exfalso; omega)) | (refine branch_dec (fun _ => ?_) (fun _ => ?_) <;> try (exfalso; omega)) | (refine branch_ndec (fun _ => ?_) (fun _ => ?_) <;> try (exfalso; omega)) | refine guard_nbool (fun _ => ?_) (fun _ => ?_) | refine branch_nbool (fun _ => ?_) (fun _ => ?_) | refine guard_bool (fun _ => ?_) (fun _ => ?_) | refine branch_bool (fun _ => ?_) (fun _ => ?_))
              exact ⟨by trivial, by trivial⟩
        repeat' (first | simp (config := { maxSteps := 4000000 }) (disch := first | assumption | (exact Nat.le_refl _) | omega | (simp only [List.length_cons, List.length_nil, List.length_append, push_len, put_len, len_app] <;> omega) | (simp (disch := (first | assumption | omega | (exact (push_len _ _).symm) | (simp only [push_len, put_len, len_app]; omega) | (refine Nat.le_antisymm ?_ ?_ <;> simp only [push_len, put_len, len_app] <;> omega) | fail)) only [get_push_last, get_push_eq, get_push_ne, get_put_eq, get_put_ne, get_app] <;> first | assumption | rfl) | (simp only [canApp_push, canApp_put]; assumption) | (exact start_round _ _) | (simp only [st_round, dfr_round, pn_round]; first | assumption | exact start_round _ _) | fail) only [goS, plainEv, resultsEv, resultListEv, reduceIte, Nat.reduceEqDiff, Option.map_some, Option.map_none, Option.bind_some, List.map_cons, List.map_nil, List.getD_cons_zero, List.getD_cons_succ, List.getElem?_toArray, List.getElem?_cons_zero, List.getElem?_cons_succ, eq_self, beq_self_eq_true, goH, List.append_nil, List.nil_append, rs7, prs, fp28, load28, store28, put_push_eq, put_push_ne, push_len, cell_one, splice_one, v_cells, build22_tight, slice_list_from, slice_list_to, strs_drop, strs_take, *] | (refine guard_dec (fun _ => ?_) (fun _ => ?_) <;> try (exfalso; omega)) | (refine guard_ndec (fun _ => ?_) (fun _ => ?_) <;> try (exfalso; omega)) | (refine branch_dec (fun _ => ?_) (fun _ => ?_) <;> try (exfalso; omega)) | (refine branch_ndec (fun _ => ?_) (fun _ => ?_) <;> try (exfalso; omega)) | refine guard_nbool (fun _ => ?_) (fun _ => ?_) | refine branch_nbool (fun _ => ?_) (fun _ => ?_) | refine guard_bool (fun _ => ?_) (fun _ => ?_) | refine branch_bool (fun _ => ?_) (fun _ => ?_))
        refine run_draw_but [(9, 10)] (by kernel_rfl) ?_ ?_
        · intro pr hp
          simp only [List.mem_singleton] at hp
          subst hp
          refine stable_behind_g (x := .ptr (.box (h3.boxes.length + 1 + 1)) 0) (v := .agg (prow (rotP k p) tM)) (by kernel_rfl) rfl rfl (by kernel_rfl) ks.out ?_ ?_
          · simp only [List.take_succ_cons, List.take_zero]
            repeat' (first | simp (config := { maxSteps := 4000000 }) (disch := first | assumption | (exact Nat.le_refl _) | omega | (simp only [List.length_cons, List.length_nil, List.length_append, push_len, put_len, len_app] <;> omega) | (simp (disch := (first | assumption | omega | (exact (push_len _ _).symm) | (simp only [push_len, put_len, len_app]; omega) | (refine Nat.le_antisymm ?_ ?_ <;> simp only [push_len, put_len, len_app] <;> omega) | fail)) only [get_push_last, get_push_eq, get_push_ne, get_put_eq, get_put_ne, get_app] <;> first | assumption | rfl) | (simp only [canApp_push, canApp_put]; assumption) | (exact start_round _ _) | (simp only [st_round, dfr_round, pn_round]; first | assumption | exact start_round _ _) | fail) only [goS, plainEv, resultsEv, resultListEv, reduceIte, Nat.reduceEqDiff, Option.map_some, Option.map_none, Option.bind_some, List.map_cons, List.map_nil, List.getD_cons_zero, List.getD_cons_succ, List.getElem?_toArray, List.getElem?_cons_zero, List.getElem?_cons_succ, eq_self, beq_self_eq_true, goH, List.append_nil, List.nil_append, load28, *] | (refine guard_dec (fun _ => ?_) (fun _ => ?_) <;> try (exfalso; omega)) | (refine guard_ndec (fun _ => ?_) (fun _ => ?_) <;> try (exfalso; omega)) | (refine branch_dec (fun _ => ?_) (fun _ => ?_) <;> try (exfalso; omega)) | (refine branch_ndec (fun _ => ?_) (fun _ => ?_) <;> try (exfalso; omega)) | refine guard_nbool (fun _ => ?_) (fun _ => ?_) | refine branch_nbool (fun _ => ?_) (fun _ => ?_) | refine guard_bool (fun _ => ?_) (fun _ => ?_) | refine branch_bool (fun _ => ?_) (fun _ => ?_))
            refine ⟨by trivial, ?_, by trivial, by trivial⟩
            simp [wantedA, st_get]
          · simp only [List.take_succ_cons, List.take_zero]
            repeat' (first | simp (config := { maxSteps := 4000000 }) (disch := first | assumption | (exact Nat.le_refl _) | omega | (simp only [List.length_cons, List.length_nil, List.length_append, push_len, put_len, len_app] <;> omega) | (simp (disch := (first | assumption | omega | (exact (push_len _ _).symm) | (simp only [push_len, put_len, len_app]; omega) | (refine Nat.le_antisymm ?_ ?_ <;> simp only [push_len, put_len, len_app] <;> omega) | fail)) only [get_push_last, get_push_eq, get_push_ne, get_put_eq, get_put_ne, get_app] <;> first | assumption | rfl) | (simp only [canApp_push, canApp_put]; assumption) | (exact start_round _ _) | (simp only [st_round, dfr_round, pn_round]; first | assumption | exact start_round _ _) | fail) only [goS, plainEv, resultsEv, resultListEv, reduceIte, Nat.reduceEqDiff, Option.map_some, Option.map_none, Option.bind_some, List.map_cons, List.map_nil, List.getD_cons_zero, List.getD_cons_succ, List.getElem?_toArray, List.getElem?_cons_zero, List.getElem?_cons_succ, eq_self, beq_self_eq_true, goH, List.append_nil, List.nil_append, load28, *] | (refine guard_dec (fun _ => ?_) (fun _ => ?_) <;> try (exfalso; omega)) | (refine guard_ndec (fun _ => ?_) (fun _ => ?_) <;> try (exfalso; omega)) | (refine branch_dec (fun _ => ?_) (fun _ => ?_) <;> try (exfalso; omega)) | (refine branch_ndec (fun _ => ?_) (fun _ => ?_) <;> try (exfalso; omega)) | refine guard_nbool (fun _ => ?_) (fun _ => ?_) | refine branch_nbool (fun _ => ?_) (fun _ => ?_) | refine guard_bool (fun _ => ?_) (fun _ => ?_) | refine branch_bool (fun _ => ?_) (fun _ => ?_))
            exact ⟨by trivial, by trivial⟩
        · repeat' (first | simp (config := { maxSteps := 4000000 }) (disch := first | assumption | (exact Nat.le_refl _) | omega | (simp only [List.length_cons, List.length_nil, List.length_append, push_len, put_len, len_app] <;> omega) | (simp (disch := (first | assumption | omega | (exact (push_len _ _).symm) | (simp only [push_len, put_len, len_app]; omega) | (refine Nat.le_antisymm ?_ ?_ <;> simp only [push_len, put_len, len_app] <;> omega) | fail)) only [get_push_last, get_push_eq, get_push_ne, get_put_eq, get_put_ne, get_app] <;> first | assumption | rfl) | (simp only [canApp_push, canApp_put]; assumption) | (exact start_round _ _) | (simp only [st_round, dfr_round, pn_round]; first | assumption | exact start_round _ _) | fail) only [goS, plainEv, resultsEv, resultListEv, reduceIte, Nat.reduceEqDiff, Option.map_some, Option.map_none, Option.bind_some, List.map_cons, List.map_nil, List.getD_cons_zero, List.getD_cons_succ, List.getElem?_toArray, List.getElem?_cons_zero, List.getElem?_cons_succ, eq_self, beq_self_eq_true, goH, List.append_nil, List.nil_append, rs7, prs, fp28, load28, store28, put_push_eq, put_push_ne, push_len, cell_one, v_cells, store48, *] | (refine guard_dec (fun _ => ?_) (fun _ => ?_) <;> try (exfalso; omega)) | (refine guard_ndec (fun _ => ?_) (fun _ => ?_) <;> try (exfalso; omega)) | (refine branch_dec (fun _ => ?_) (fun _ => ?_) <;> try (exfalso; omega)) | (refine branch_ndec (fun _ => ?_) (fun _ => ?_) <;> try (exfalso; omega)) | refine guard_nbool (fun _ => ?_) (fun _ => ?_) | refine branch_nbool (fun _ => ?_) (fun _ => ?_) | refine guard_bool (fun _ => ?_) (fun _ => ?_) | refine branch_bool (fun _ => ?_) (fun _ => ?_))
          refine run_loop (fun m e h' => ∃ (i : Nat), i ≤ p.rules.length ∧ m = p.rules.length - i ∧ e.get 2 = .ptr (.box Heap.init.boxes.length) 0 ∧ e.get 8 = .ptr (.box h5.boxes.length) 0 ∧ e.get 10 = .ptr (.box h10.boxes.length) 0 ∧ e.get 71 = .list t.tr t.sr t.rr ∧ e.get 72 = .v (.int .i64 (p.rules.length : Nat)) ∧ e.get 73 = .v (.int .i64 i) ∧ e.defers = [] ∧ Ext (h10.push [.func (.func 23) [] [.ptr (.box (h3.boxes.length + 1)) 0, .ptr (.box h3.boxes.length) 0, .ptr (.box h10.boxes.length) 0]]) h') ?_ p.rules.length _ _ ?_
          · rintro m e h' ⟨i, hi, rfl, g2, g8, g10, g71, g72, g73, hd, hx⟩
            have kx := Keep.mk hx
            have pp := kx.out.box _ _ (push_old kpb.out)
            have qq := kx.out.box _ _ (push_old kqb.out)
            have ff := kx.out.box _ _ (push_last h10 [.func (.func 23) [] [.ptr (.box (h3.boxes.length + 1)) 0, .ptr (.box h3.boxes.length) 0, .ptr (.box h10.boxes.length) 0]])
            have npp := (List.getElem?_eq_some_iff.1 pp).1
            have nqq := (List.getElem?_eq_some_iff.1 qq).1
            have nff := (List.getElem?_eq_some_iff.1 ff).1
            clear hx c1 c2 c3 c5 c7 c8 c9 c10
            by_cases hlt : i < p.rules.length
            · obtain ⟨x, tk2, sz2, rows2, hy, hry, hyr⟩ := RRows.get kok.out.rules (i := i) hlt
              obtain ⟨z, tk3, sz3, rows3, hz, hrz, hzr⟩ := RRows.get kok5.out.rules (i := i) (by omega)
              obtain ⟨m1, m2, m3⟩ := krule.out i x z hy hz
              have h8a := kok.out.zr i hlt
              have h8b := kok5.out.zr i (by omega)
              have hcx := kfew.out.r x (List.mem_of_getElem? hy)
              have hll := kfew.out.l
              obtain ⟨h12, c12, x12⟩ := moved1_ev p.offices (k : Int) (by omega) (by omega) (by omega) (h3.boxes.length + 1) h3.boxes.length h10.boxes.length x.expr tk2 sz2 rows2 hyr hcx m1 z.expr tk3 sz3 rows3 hzr (h'.push (rrow x tk2 sz2 rows2)) (push_old (kx.out.box _ _ (push_old kkb.out))) (push_old (kx.out.box _ _ (push_old knb.out))) (push_old ff)
              rw [m3] at c12
              have kx12 := Keep.mk ((Ext.push h' (rrow x tk2 sz2 rows2)).trans x12)
              have hlt3 : (i : Int) < (t.rr.length : Int) := by omega
              have hlt4 : (i : Int) < (p.rules.length : Int) := by omega
              have hlt5 : (i : Int) < (t5.rr.length : Int) := by rw [hl5]; omega
              have rf8 := @rrow_fit8 x tk2 sz2 rows2
              have rf5 := @rrow_fit5 z tk3 sz3 rows3
              obtain ⟨zk, zn, zt, ze⟩ := z
              obtain rfl : zn = (i : Int) := m2
              clear x12 hy hz m1 m3 hcx hyr hzr
              repeat' (first | simp (config := { maxSteps := 4000000 }) (disch := first | assumption | (exact Nat.le_refl _) | omega | (simp only [List.length_cons, List.length_nil, List.length_append, push_len, put_len, len_app] <;> omega) | (simp (disch := (first | assumption | omega | (exact (push_len _ _).symm) | (simp only [push_len, put_len, len_app]; omega) | (refine Nat.le_antisymm ?_ ?_ <;> simp only [push_len, put_len, len_app] <;> omega) | fail)) only [get_push_last, get_push_eq, get_push_ne, get_put_eq, get_put_ne, get_app] <;> first | assumption | rfl) | (simp only [canApp_push, canApp_put]; assumption) | (exact start_round _ _) | (simp only [st_round, dfr_round, pn_round]; first | assumption | exact start_round _ _) | fail) only [goS, plainEv, resultsEv, resultListEv, reduceIte, Nat.reduceEqDiff, Option.map_some, Option.map_none, Option.bind_some, List.map_cons, List.map_nil, List.getD_cons_zero, List.getD_cons_succ, List.getElem?_toArray, List.getElem?_cons_zero, List.getElem?_cons_succ, eq_self, beq_self_eq_true, goH, List.append_nil, List.nil_append, rs7, fp28, fp43, fe43_1, prs, rrs, load28, load43, load43_3, store43, store26, index_list, load_row, load_row_agg, cell_one, put_push_eq, put_push_ne, push_len, r5, List.cons_append, List.nil_append, *] | (refine guard_dec (fun _ => ?_) (fun _ => ?_) <;> try (exfalso; omega)) | (refine guard_ndec (fun _ => ?_) (fun _ => ?_) <;> try (exfalso; omega)) | (refine branch_dec (fun _ => ?_) (fun _ => ?_) <;> try (exfalso; omega)) | (refine branch_ndec (fun _ => ?_) (fun _ => ?_) <;> try (exfalso; omega)) | refine guard_nbool (fun _ => ?_) (fun _ => ?_) | refine branch_nbool (fun _ => ?_) (fun _ => ?_) | refine guard_bool (fun _ => ?_) (fun _ => ?_) | refine branch_bool (fun _ => ?_) (fun _ => ?_))
              refine run_draw (by kernel_rfl) ?_
              repeat' (first | simp (config := { maxSteps := 4000000 }) (disch := first | assumption | (exact Nat.le_refl _) | omega | (simp only [List.length_cons, List.length_nil, List.length_append, push_len, put_len, len_app] <;> omega) | (simp (disch := (first | assumption | omega | (exact (push_len _ _).symm) | (simp only [push_len, put_len, len_app]; omega) | (refine Nat.le_antisymm ?_ ?_ <;> simp only [push_len, put_len, len_app] <;> omega) | fail)) only [get_push_last, get_push_eq, get_push_ne, get_put_eq, get_put_ne, get_app] <;> first | assumption | rfl) | (simp only [canApp_push, canApp_put]; assumption) | (exact start_round _ _) | (simp only [st_round, dfr_round, pn_round]; first | assumption | exact start_round _ _) | fail) only [goS, plainEv, resultsEv, resultListEv, reduceIte, Nat.reduceEqDiff, Option.map_some, Option.map_none, Option.bind_some, List.map_cons, List.map_nil, List.getD_cons_zero, List.getD_cons_succ, List.getElem?_toArray, List.getElem?_cons_zero, List.getElem?_cons_succ, eq_self, beq_self_eq_true, goH, List.append_nil, List.nil_append, rs7, fp28, fp43, fe43_1, prs, rrs, load28, load43, load43_3, store43, store26, index_list, load_row, load_row_agg, cell_one, put_push_eq, put_push_ne, push_len, r5, List.cons_append, List.nil_append, *] | (refine guard_dec (fun _ => ?_) (fun _ => ?_) <;> try (exfalso; omega)) | (refine guard_ndec (fun _ => ?_) (fun _ => ?_) <;> try (exfalso; omega)) | (refine branch_dec (fun _ => ?_) (fun _ => ?_) <;> try (exfalso; omega)) | (refine branch_ndec (fun _ => ?_) (fun _ => ?_) <;> try (exfalso; omega)) | refine guard_nbool (fun _ => ?_) (fun _ => ?_) | refine branch_nbool (fun _ => ?_) (fun _ => ?_) | refine guard_bool (fun _ => ?_) (fun _ => ?_) | refine branch_bool (fun _ => ?_) (fun _ => ?_))
              exact ⟨p.rules.length - (i + 1), by omega, i + 1, by omega, rfl, (by first | trivial | (simp; done) | (simp; omega)), (by first | trivial | (simp; done) | (simp; omega)), (by first | trivial | (simp; done) | (simp; omega)), (by first | trivial | (simp; done) | (simp; omega)), (by first | trivial | (simp; done) | (simp; omega)), (by first | trivial | (simp; done) | (simp; omega)), (by first | trivial | (simp; done) | (simp; omega)), kx.out.trans kx12.out⟩
            · have hie : i = p.rules.length := by omega
              subst hie
              have hlt4 : ¬ ((p.rules.length : Int) < (p.rules.length : Int)) := by omega
              obtain ⟨h12, c12, x12⟩ := moved1_ev p.offices (k : Int) (by omega) (by omega) (by omega) (h3.boxes.length + 1) h3.boxes.length h10.boxes.length p.change t.tok t.sz t.rows kok.out.expr kfew.out.c kchange.out.1 rr.change t5.tok t5.sz t5.rows kok5.out.expr h' (kx.out.box _ _ (push_old kkb.out)) (kx.out.box _ _ (push_old knb.out)) ff
              rw [kchange.out.2] at c12
              clear x12
              repeat' (first | simp (config := { maxSteps := 4000000 }) (disch := first | assumption | (exact Nat.le_refl _) | omega | (simp only [List.length_cons, List.length_nil, List.length_append, push_len, put_len, len_app] <;> omega) | (simp (disch := (first | assumption | omega | (exact (push_len _ _).symm) | (simp only [push_len, put_len, len_app]; omega) | (refine Nat.le_antisymm ?_ ?_ <;> simp only [push_len, put_len, len_app] <;> omega) | fail)) only [get_push_last, get_push_eq, get_push_ne, get_put_eq, get_put_ne, get_app] <;> first | assumption | rfl) | (simp only [canApp_push, canApp_put]; assumption) | (exact start_round _ _) | (simp only [st_round, dfr_round, pn_round]; first | assumption | exact start_round _ _) | fail) only [goS, plainEv, resultsEv, resultListEv, reduceIte, Nat.reduceEqDiff, Option.map_some, Option.map_none, Option.bind_some, List.map_cons, List.map_nil, List.getD_cons_zero, List.getD_cons_succ, List.getElem?_toArray, List.getElem?_cons_zero, List.getElem?_cons_succ, eq_self, beq_self_eq_true, goH, List.append_nil, List.nil_append, rs7, fp28, prs, load28, load28_4, cell_one, p5, List.cons_append, List.nil_append, *] | (refine guard_dec (fun _ => ?_) (fun _ => ?_) <;> try (exfalso; omega)) | (refine guard_ndec (fun _ => ?_) (fun _ => ?_) <;> try (exfalso; omega)) | (refine branch_dec (fun _ => ?_) (fun _ => ?_) <;> try (exfalso; omega)) | (refine branch_ndec (fun _ => ?_) (fun _ => ?_) <;> try (exfalso; omega)) | refine guard_nbool (fun _ => ?_) (fun _ => ?_) | refine branch_nbool (fun _ => ?_) (fun _ => ?_) | refine guard_bool (fun _ => ?_) (fun _ => ?_) | refine branch_bool (fun _ => ?_) (fun _ => ?_))
              exact ⟨_, rfl, trivial⟩
          · refine ⟨0, Nat.zero_le _, rfl, ?_, ?_, ?_, ?_, ?_, ?_, ?_, Ext.refl _⟩ <;> simp only [goS, plainEv, resultsEv, resultListEv, reduceIte, Nat.reduceEqDiff, Option.map_some, Option.map_none, Option.bind_some, List.map_cons, List.map_nil, List.getD_cons_zero, List.getD_cons_succ, List.getElem?_toArray, List.getElem?_cons_zero, List.getElem?_cons_succ, eq_self, beq_self_eq_true, goH, hl1] <;> rfl
end Go.Proofs.YtilmhlbjjfgeoaaDoor
end
