/-
  Part of the proof: SK.
-/
import Derived.Test.YtilmhlbjjfgeoaaDoorSI
set_option linter.unusedSimpArgs false
set_option linter.unusedVariables false
set_option linter.constructorNameAsVariable false
section
namespace Go.Proofs.YtilmhlbjjfgeoaaDoor
open Go.AE Go.Lex Go.Pol
/-! ### bare: the same policy, with other numbers -/
theorem rs50 : Tryd.f50.results.toList = [.cell 4 26] := by kernel_rfl
theorem rs22 : Tryd.f22.results.toList = [.cell 4 28] := by kernel_rfl
theorem ag66 : isAggB Tryd.prog 66 = some false := by kernel_rfl
theorem sz66 : sizeB Tryd.prog 66 = some 1 := by kernel_rfl
theorem zc66 : (zeroA Tryd.prog 66).bind AV.cellsO = some [.v .nilFunc] := by kernel_rfl
theorem store66 {h : Heap} {b : Nat} {x : AV} {g : Fn} {ts cs : List AV} (hb : h.boxes[b]? = some [x]) : storeEv Tryd.prog h 66 (.ptr (.box b) 0) (.func g ts cs) = some (h.put b [.func g ts cs]) := store_box (off := 0) (cs := [x]) (xs := [.func g ts cs]) rfl sz66 hb rfl (Nat.le_refl 1)
set_option maxHeartbeats 8000000 in
set_option maxRecDepth 100000 in
theorem bare1_ev (N : Int) (bm bf : Nat) : ∀ (x : Ex) (tok : Tok) (sz : Nat) (rows : List (List AV)), Row x (row5 x.kind x.n x.no x.name tok sz rows) → cnt x ≤ 1000 → ∀ h, okHeap h = true → h.boxes[bm]? = some [.v (.int .i64 N)] → h.boxes[bf]? = some [.func (.func 50) [] [.ptr (.box bm) 0, .ptr (.box bf) 0]] →
    GivesEx W 50 [.agg (row5 x.kind x.n x.no x.name tok sz rows), .ptr (.box bm) 0, .ptr (.box bf) 0] h (bareE N x) := by
  intro x
  induction x using Ex.ind with
  | h kk nn no name l ih =>
    intro tok sz rows hrow hcn h hok hbm hbf
    obtain ⟨hrows, hsz, hbd⟩ := Row.got hrow
    have ux := Tryd.underlying24
    have a3 := ag3; have a9 := ag9; have a24 := ag24; have a26 := ag26; have s26 := sz26; have s3 := sz3; have s24 := sz24; have z26 := zc26; have a66 := ag66
    have hlen := hrows.1
    simp only [Ex.kind, Ex.n, Ex.no, Ex.name, Ex.l] at hrows hsz hlen hbd ⊢
    have kr := Keep.mk hrows
    have kz := Keep.mk hsz
    have kih := Keep.mk ih
    have kcn := Keep.mk hcn
    have kok := Keep.mk hok
    have kbm := Keep.mk hbm
    have kbf := Keep.mk hbf
    have m1 := (List.getElem?_eq_some_iff.1 hbm).1
    have m2 := (List.getElem?_eq_some_iff.1 hbf).1
    clear hrows hsz ih
    rw [bareE]
    suffices hs : ∃ r h', W.call 50 [.agg (row5 kk nn no name tok sz rows), .ptr (.box bm) 0, .ptr (.box bf) 0] h = some (r, h') ∧ (∃ tok' sz' rows', r = .ret (.agg (row5 kk nn N name tok' sz' rows')) ∧ Ext h h' ∧ Row (.mk kk nn N name (bareL N l)) (row5 kk nn N name tok' sz' rows')) by
      obtain ⟨r, h', q1, tok', sz', rows', rfl, q2, q3⟩ := hs
      exact ⟨tok', sz', rows', h', q1, q2, q3⟩
    refine call_post rfl Tryd.func50 rfl ?_
    repeat' (first | simp (config := { maxSteps := 4000000 }) (disch := first | assumption | (exact Nat.le_refl _) | omega | (simp only [List.length_cons, List.length_nil, List.length_append, push_len, put_len, len_app] <;> omega) | (simp (disch := (first | assumption | omega | (exact (push_len _ _).symm) | (simp only [push_len, put_len, len_app]; omega) | (refine Nat.le_antisymm ?_ ?_ <;> simp only [push_len, put_len, len_app] <;> omega) | fail)) only [get_push_last, get_push_eq, get_push_ne, get_put_eq, get_put_ne, get_app] <;> first | assumption | rfl) | (simp only [canApp_push, canApp_put]; assumption) | (exact start_round _ _) | (simp only [st_round, dfr_round, pn_round]; first | assumption | exact start_round _ _) | fail) only [goS, plainEv, resultsEv, resultListEv, reduceIte, Nat.reduceEqDiff, Option.map_some, Option.map_none, Option.bind_some, List.map_cons, List.map_nil, List.getD_cons_zero, List.getD_cons_succ, List.getElem?_toArray, List.getElem?_cons_zero, List.getElem?_cons_succ, eq_self, beq_self_eq_true, goH, List.append_nil, List.nil_append, rs50, row5_cells, row5_0, row5_3, row5_4, row5_all, fa26_0, fa26_2, fa26_3, fa26_4, load26, store26, store26_2, store26_4, put_push_eq, put_push_ne, push_len, cell_one, List.cons_append, List.nil_append, *] | (refine guard_dec (fun _ => ?_) (fun _ => ?_) <;> try (exfalso; omega)) | (refine guard_ndec (fun _ => ?_) (fun _ => ?_) <;> try (exfalso; omega)) | (refine branch_dec (fun _ => ?_) (fun _ => ?_) <;> try (exfalso; omega)) | (refine branch_ndec (fun _ => ?_) (fun _ => ?_) <;> try (exfalso; omega)) | refine guard_nbool (fun _ => ?_) (fun _ => ?_) | refine branch_nbool (fun _ => ?_) (fun _ => ?_) | refine guard_bool (fun _ => ?_) (fun _ => ?_) | refine branch_bool (fun _ => ?_) (fun _ => ?_))
    refine run_loop (fun m e h' => ∃ (i : Nat) (tokR : Tok) (szR : Nat) (rowsR : List (List AV)), i ≤ l.length ∧ m = l.length - i ∧ e.get 2 = .ptr (.box bf) 0 ∧ e.get 4 = .ptr (.box (h.boxes.length + 1)) 0 ∧ e.get 5 = .ptr (.box (h.boxes.length + 1 + 1)) 0 ∧ e.get 13 = .list tok sz rows ∧ e.get 14 = .v (.int .i64 (l.length : Nat)) ∧ e.get 15 = .v (.int .i64 i) ∧ e.defers = [] ∧
      h'.boxes[h.boxes.length + 1]? = some (row5 0 0 0 [] .nil 0 []) ∧ h'.boxes[h.boxes.length + 1 + 1]? = some (row5 kk nn N name tokR szR rowsR) ∧ Pol.Rows (bareL N (l.take i)) rowsR ∧ CanApp h.tn h' tokR ∧ (szR = 5 ∨ (rowsR = [] ∧ tokR = .nil)) ∧ Ext h h' ∧ okHeap h' = true) ?_ l.length _ _ ?_
    · rintro m e h' ⟨i, tokR, szR, rowsR, hi, rfl, g2, g4, g5, g13, g14, g15, hd, hb2, hb3, hrr, hca, hsr, hx, hok'⟩
      have hrl := hrr.1
      have khrr := Keep.mk hrr
      have kx := Keep.mk hx
      have kca := Keep.mk hca
      have ksr := Keep.mk hsr
      have kok' := Keep.mk hok'
      clear hrr hx hca hsr hok' hbm hbf
      by_cases hlt : i < l.length
      · obtain ⟨y, r, hy, hr, hyr⟩ := kr.out.get hlt
        have h5 := kz.out i hlt
        subst h5
        obtain ⟨tk2, sz2, rows2, rfl, -⟩ := Row.five hyr
        have hlt3 : (i : Int) < (rows.length : Int) := by rw [hlen]; omega
        have hlt4 : (i : Int) < (l.length : Int) := by omega
        have hle5 : 5 ≤ ((row5 y.kind y.n y.no y.name tk2 sz2 rows2).drop 0).length := by rw [List.drop_zero]; exact Nat.le_refl _
        have hcy : cnt y ≤ 1000 := by have := cntL_mem (List.mem_of_getElem? hy); have := kcn.out; rw [cnt] at this; omega
        have hll : l.length ≤ 1000 := by have := cntL_len l; have := kcn.out; rw [cnt] at this; omega
        have hbf := push_old (cs := row5 y.kind y.n y.no y.name tk2 sz2 rows2) (kx.out.box _ _ kbf.out)
        obtain ⟨tok4, sz4, rows4, h4, c4, hx4, hr4⟩ := kih.out y (List.mem_of_getElem? hy) tk2 sz2 rows2 hyr hcy (h'.push (row5 y.kind y.n y.no y.name tk2 sz2 rows2)) kok'.out (push_old (kx.out.box _ _ kbm.out)) hbf
        have hrl2 : rowsR.length ≤ 70000 := by rw [hrl, bareL_map, List.length_map, List.length_take]; omega
        have kca4 := Keep.mk (kca.out.ext ((Ext.push h' (row5 y.kind y.n y.no y.name tk2 sz2 rows2)).trans hx4))
        have happ := app_ex (h := h4) (r := row5 (bareE N y).kind (bareE N y).n (bareE N y).no (bareE N y).name tok4 sz4 rows4) (kca4.out.mono (Nat.zero_le _)) ksr.out hrl2
        have e2 := hx4.box _ _ (push_old hb2)
        have e3 := hx4.box _ _ (push_old hb3)
        have kx4 := Keep.mk ((Ext.push h' (row5 y.kind y.n y.no y.name tk2 sz2 rows2)).trans hx4)
        have khr4 := Keep.mk hr4
        have n1 : h.boxes.length + 1 + 1 ≠ h'.boxes.length := by have := (List.getElem?_eq_some_iff.1 hb3).1; omega
        have n2 : h.boxes.length + 1 ≠ h'.boxes.length := by have := (List.getElem?_eq_some_iff.1 hb2).1; omega
        clear hx4 hr4
        repeat' (first | simp (config := { maxSteps := 4000000 }) (disch := first | assumption | (exact Nat.le_refl _) | omega | (simp only [List.length_cons, List.length_nil, List.length_append, push_len, put_len, len_app] <;> omega) | (simp (disch := (first | assumption | omega | (exact (push_len _ _).symm) | (simp only [push_len, put_len, len_app]; omega) | (refine Nat.le_antisymm ?_ ?_ <;> simp only [push_len, put_len, len_app] <;> omega) | fail)) only [get_push_last, get_push_eq, get_push_ne, get_put_eq, get_put_ne, get_app] <;> first | assumption | rfl) | (simp only [canApp_push, canApp_put]; assumption) | (exact start_round _ _) | (simp only [st_round, dfr_round, pn_round]; first | assumption | exact start_round _ _) | fail) only [goS, plainEv, resultsEv, resultListEv, reduceIte, Nat.reduceEqDiff, Option.map_some, Option.map_none, Option.bind_some, List.map_cons, List.map_nil, List.getD_cons_zero, List.getD_cons_succ, List.getElem?_toArray, List.getElem?_cons_zero, List.getElem?_cons_succ, eq_self, beq_self_eq_true, goH, List.append_nil, List.nil_append, rs50, row5_4, fa26_4, load26, store26, store26_4, index_list, load_row_agg, row5_all, put_push_eq, put_push_ne, push_len, cell_one, List.cons_append, List.nil_append, *] | (refine guard_dec (fun _ => ?_) (fun _ => ?_) <;> try (exfalso; omega)) | (refine guard_ndec (fun _ => ?_) (fun _ => ?_) <;> try (exfalso; omega)) | (refine branch_dec (fun _ => ?_) (fun _ => ?_) <;> try (exfalso; omega)) | (refine branch_ndec (fun _ => ?_) (fun _ => ?_) <;> try (exfalso; omega)) | refine guard_nbool (fun _ => ?_) (fun _ => ?_) | refine branch_nbool (fun _ => ?_) (fun _ => ?_) | refine guard_bool (fun _ => ?_) (fun _ => ?_) | refine branch_bool (fun _ => ?_) (fun _ => ?_))
        refine run_draw_but [(1, 4)] (by kernel_rfl) ?_ ?_
        · intro p hp
          simp only [List.mem_singleton] at hp
          subst hp
          refine stable_before (x := .ptr (.box (h.boxes.length + 1 + 1)) 4) (v := .list tokR szR rowsR) (by kernel_rfl) rfl rfl rfl (by kernel_rfl) (by rw [sameAV, sameTok_refl, Rows.same khrr.out]; simp) ?_ ?_
          · simp only [List.take_succ_cons, List.take_zero]
            repeat' (first | simp (config := { maxSteps := 4000000 }) (disch := first | assumption | (exact Nat.le_refl _) | omega | (simp only [List.length_cons, List.length_nil, List.length_append, push_len, put_len, len_app] <;> omega) | (simp (disch := (first | assumption | omega | (exact (push_len _ _).symm) | (simp only [push_len, put_len, len_app]; omega) | (refine Nat.le_antisymm ?_ ?_ <;> simp only [push_len, put_len, len_app] <;> omega) | fail)) only [get_push_last, get_push_eq, get_push_ne, get_put_eq, get_put_ne, get_app] <;> first | assumption | rfl) | (simp only [canApp_push, canApp_put]; assumption) | (exact start_round _ _) | (simp only [st_round, dfr_round, pn_round]; first | assumption | exact start_round _ _) | fail) only [goS, plainEv, resultsEv, resultListEv, reduceIte, Nat.reduceEqDiff, Option.map_some, Option.map_none, Option.bind_some, List.map_cons, List.map_nil, List.getD_cons_zero, List.getD_cons_succ, List.getElem?_toArray, List.getElem?_cons_zero, List.getElem?_cons_succ, eq_self, beq_self_eq_true, goH, List.append_nil, List.nil_append, fa26_4, row5_4, load26, cell_one, *] | (refine guard_dec (fun _ => ?_) (fun _ => ?_) <;> try (exfalso; omega)) | (refine guard_ndec (fun _ => ?_) (fun _ => ?_) <;> try (exfalso; omega)) | (refine branch_dec (fun _ => ?_) (fun _ => ?_) <;> try (exfalso; omega)) | (refine branch_ndec (fun _ => ?_) (fun _ => ?_) <;> try (exfalso; omega)) | refine guard_nbool (fun _ => ?_) (fun _ => ?_) | refine branch_nbool (fun _ => ?_) (fun _ => ?_) | refine guard_bool (fun _ => ?_) (fun _ => ?_) | refine branch_bool (fun _ => ?_) (fun _ => ?_))
            simp only [and_self]
          · simp only [List.take_succ_cons, List.take_zero]
            repeat' (first | simp (config := { maxSteps := 4000000 }) (disch := first | assumption | (exact Nat.le_refl _) | omega | (simp only [List.length_cons, List.length_nil, List.length_append, push_len, put_len, len_app] <;> omega) | (simp (disch := (first | assumption | omega | (exact (push_len _ _).symm) | (simp only [push_len, put_len, len_app]; omega) | (refine Nat.le_antisymm ?_ ?_ <;> simp only [push_len, put_len, len_app] <;> omega) | fail)) only [get_push_last, get_push_eq, get_push_ne, get_put_eq, get_put_ne, get_app] <;> first | assumption | rfl) | (simp only [canApp_push, canApp_put]; assumption) | (exact start_round _ _) | (simp only [st_round, dfr_round, pn_round]; first | assumption | exact start_round _ _) | fail) only [goS, plainEv, resultsEv, resultListEv, reduceIte, Nat.reduceEqDiff, Option.map_some, Option.map_none, Option.bind_some, List.map_cons, List.map_nil, List.getD_cons_zero, List.getD_cons_succ, List.getElem?_toArray, List.getElem?_cons_zero, List.getElem?_cons_succ, eq_self, beq_self_eq_true, goH, List.append_nil, List.nil_append, fa26_4, row5_4, load26, index_list, load_row_agg, row5_all, cell_one, List.cons_append, List.nil_append, *] | (refine guard_dec (fun _ => ?_) (fun _ => ?_) <;> try (exfalso; omega)) | (refine guard_ndec (fun _ => ?_) (fun _ => ?_) <;> try (exfalso; omega)) | (refine branch_dec (fun _ => ?_) (fun _ => ?_) <;> try (exfalso; omega)) | (refine branch_ndec (fun _ => ?_) (fun _ => ?_) <;> try (exfalso; omega)) | refine guard_nbool (fun _ => ?_) (fun _ => ?_) | refine branch_nbool (fun _ => ?_) (fun _ => ?_) | refine guard_bool (fun _ => ?_) (fun _ => ?_) | refine branch_bool (fun _ => ?_) (fun _ => ?_))
            simp only [and_self]
        · repeat' (first | simp (config := { maxSteps := 4000000 }) (disch := first | assumption | (exact Nat.le_refl _) | omega | (simp only [List.length_cons, List.length_nil, List.length_append, push_len, put_len, len_app] <;> omega) | (simp (disch := (first | assumption | omega | (exact (push_len _ _).symm) | (simp only [push_len, put_len, len_app]; omega) | (refine Nat.le_antisymm ?_ ?_ <;> simp only [push_len, put_len, len_app] <;> omega) | fail)) only [get_push_last, get_push_eq, get_push_ne, get_put_eq, get_put_ne, get_app] <;> first | assumption | rfl) | (simp only [canApp_push, canApp_put]; assumption) | (exact start_round _ _) | (simp only [st_round, dfr_round, pn_round]; first | assumption | exact start_round _ _) | fail) only [goS, plainEv, resultsEv, resultListEv, reduceIte, Nat.reduceEqDiff, Option.map_some, Option.map_none, Option.bind_some, List.map_cons, List.map_nil, List.getD_cons_zero, List.getD_cons_succ, List.getElem?_toArray, List.getElem?_cons_zero, List.getElem?_cons_succ, eq_self, beq_self_eq_true, goH, List.append_nil, List.nil_append, rs50, fa26_4, row5_4, load26, index_list, load_row_agg, row5_all, build24, store26_4, cell_one, List.cons_append, List.nil_append, *] | (refine guard_dec (fun _ => ?_) (fun _ => ?_) <;> try (exfalso; omega)) | (refine guard_ndec (fun _ => ?_) (fun _ => ?_) <;> try (exfalso; omega)) | (refine branch_dec (fun _ => ?_) (fun _ => ?_) <;> try (exfalso; omega)) | (refine branch_ndec (fun _ => ?_) (fun _ => ?_) <;> try (exfalso; omega)) | refine guard_nbool (fun _ => ?_) (fun _ => ?_) | refine branch_nbool (fun _ => ?_) (fun _ => ?_) | refine guard_bool (fun _ => ?_) (fun _ => ?_) | refine branch_bool (fun _ => ?_) (fun _ => ?_))
          have e3l := (List.getElem?_eq_some_iff.1 e3).1
          refine ⟨l.length - (i + 1), by omega, i + 1, .free h4.tn, 5, rowsR ++ [row5 (bareE N y).kind (bareE N y).n (bareE N y).no (bareE N y).name tok4 sz4 rows4], by omega, rfl, (by first | trivial | (simp; done) | (simp; omega)), (by first | trivial | (simp; done) | (simp; omega)), (by first | trivial | (simp; done) | (simp; omega)), (by first | trivial | (simp; done) | (simp; omega)), (by first | trivial | (simp; done) | (simp; omega)), (by first | trivial | (simp; done) | (simp; omega)), (by first | trivial | (simp; done) | (simp; omega)), ?_, ?_, ?_, ?_, .inl rfl, ?_, ?_⟩
          · rw [put_other (by omega), app_boxes]; exact e2
          · exact put_this (by rw [app_boxes]; exact e3l)
          · obtain ⟨hj, rfl⟩ := List.getElem?_eq_some_iff.1 hy
            rw [bareL_map, List.take_succ_eq_append_getElem hj, List.map_append, ← bareL_map]
            exact Pol.Rows.snoc khrr.out khr4.out
          · exact kca4.out.next (kx4.out.ok kok'.out) (kx.out.trans kx4.out).tn
          · exact ((kx.out.trans kx4.out).app kca4.out).put_new (by omega) _
          · exact (Mut.app (b := 0) kca4.out).ok (kx4.out.ok kok'.out)
      · have hie : i = l.length := by omega
        subst hie
        have hlt3 : ¬ ((l.length : Int) < (l.length : Int)) := by omega
        rw [List.take_length] at khrr
        have e2l := (List.getElem?_eq_some_iff.1 hb2).1
        repeat' (first | simp (config := { maxSteps := 4000000 }) (disch := first | assumption | (exact Nat.le_refl _) | omega | (simp only [List.length_cons, List.length_nil, List.length_append, push_len, put_len, len_app] <;> omega) | (simp (disch := (first | assumption | omega | (exact (push_len _ _).symm) | (simp only [push_len, put_len, len_app]; omega) | (refine Nat.le_antisymm ?_ ?_ <;> simp only [push_len, put_len, len_app] <;> omega) | fail)) only [get_push_last, get_push_eq, get_push_ne, get_put_eq, get_put_ne, get_app] <;> first | assumption | rfl) | (simp only [canApp_push, canApp_put]; assumption) | (exact start_round _ _) | (simp only [st_round, dfr_round, pn_round]; first | assumption | exact start_round _ _) | fail) only [goS, plainEv, resultsEv, resultListEv, reduceIte, Nat.reduceEqDiff, Option.map_some, Option.map_none, Option.bind_some, List.map_cons, List.map_nil, List.getD_cons_zero, List.getD_cons_succ, List.getElem?_toArray, List.getElem?_cons_zero, List.getElem?_cons_succ, eq_self, beq_self_eq_true, goH, List.append_nil, List.nil_append, rs50, row5_4, fa26_4, load26, store26, *] | (refine guard_dec (fun _ => ?_) (fun _ => ?_) <;> try (exfalso; omega)) | (refine guard_ndec (fun _ => ?_) (fun _ => ?_) <;> try (exfalso; omega)) | (refine branch_dec (fun _ => ?_) (fun _ => ?_) <;> try (exfalso; omega)) | (refine branch_ndec (fun _ => ?_) (fun _ => ?_) <;> try (exfalso; omega)) | refine guard_nbool (fun _ => ?_) (fun _ => ?_) | refine branch_nbool (fun _ => ?_) (fun _ => ?_) | refine guard_bool (fun _ => ?_) (fun _ => ?_) | refine branch_bool (fun _ => ?_) (fun _ => ?_))
        refine ⟨_, _, rfl, tokR, szR, rowsR, rfl, kx.out.put_new (by omega) _, ?_⟩
        refine .mk _ _ _ _ _ _ _ _ khrr.out.1 (fun i hi => ?_) (by rw [bareL_map, List.length_map]; exact hbd) khrr.out.2
        rcases ksr.out with q | ⟨q, -⟩
        · exact q
        · exfalso; have := khrr.out.1; rw [q] at this; simp at this; omega
    · refine ⟨0, .nil, 0, [], Nat.zero_le _, rfl, ?_, ?_, ?_, ?_, ?_, ?_, ?_, ?_, ?_, ?_, .inl rfl, .inr ⟨rfl, rfl⟩, ((Ext.push _ _).trans (.push _ _)).trans (.push _ _), kok.out⟩
      iterate 7
        · simp only [goS, plainEv, resultsEv, resultListEv, reduceIte, Nat.reduceEqDiff, Option.map_some, Option.map_none, Option.bind_some, List.map_cons, List.map_nil, List.getD_cons_zero, List.getD_cons_succ, List.getElem?_toArray, List.getElem?_cons_zero, List.getElem?_cons_succ, eq_self, beq_self_eq_true, goH] <;> rfl
      · simp (disch := (first | assumption | omega | (exact (push_len _ _).symm) | (simp only [push_len, put_len, len_app]; omega) | (refine Nat.le_antisymm ?_ ?_ <;> simp only [push_len, put_len, len_app] <;> omega) | fail)) only [get_push_last, get_push_eq, get_push_ne, get_put_eq, get_put_ne, get_app]
      · simp (disch := (first | assumption | omega | (exact (push_len _ _).symm) | (simp only [push_len, put_len, len_app]; omega) | (refine Nat.le_antisymm ?_ ?_ <;> simp only [push_len, put_len, len_app] <;> omega) | fail)) only [get_push_last, get_push_eq, get_push_ne, get_put_eq, get_put_ne, get_app]
      · rw [List.take_zero, bareL_map]; exact Pol.Rows.nil
end Go.Proofs.YtilmhlbjjfgeoaaDoor
end

section
namespace Go.Proofs.YtilmhlbjjfgeoaaDoor
open Go.AE Go.Lex Go.Pol
def bareR (N : Int) (l : List Rl) : List Rl := l.map fun x => { x with kindNo := N, expr := bareE N x.expr }
def bareP (N : Int) (p : Po) : Po := { p with rules := bareR N p.rules, change := bareE N p.change }
theorem bareR_snoc (N : Int) (l : List Rl) (x : Rl) : bareR N (l ++ [x]) = bareR N l ++ [{ x with kindNo := N, expr := bareE N x.expr }] := by
  unfold bareR
  rw [List.map_append]
  rfl
theorem bareP_ok {N : Int} {p : Po} {t : PT} (ok : POk p t) {tokR tok4 : Tok} {szR sz4 : Nat} {rowsR rows4 : List (List AV)} (h1 : RRows (bareR N p.rules) rowsR) (h2 : Row (bareE N p.change) (row5 (bareE N p.change).kind (bareE N p.change).n (bareE N p.change).no (bareE N p.change).name tok4 sz4 rows4)) (h3 : szR = 8 ∨ (rowsR = [] ∧ tokR = .nil)) :
    POk (bareP N p) { t with tr := tokR, sr := szR, rr := rowsR, tok := tok4, sz := sz4, rows := rows4 } := by
  have hl : (bareR N p.rules).length = p.rules.length := by simp [bareR]
  refine ⟨h1, h2, ok.zk, ok.zo, fun i hi => ?_, ok.bk, ok.bo, ?_⟩
  · rcases h3 with q | ⟨q, -⟩
    · exact q
    · exfalso
      have := h1.1
      rw [q] at this
      have hi : i < (bareR N p.rules).length := hi
      simp at this
      omega
  · show (bareR N p.rules).length ≤ _
    rw [hl]; exact ok.br
theorem v_cells {x : Value} : (AV.v x).cellsO = some [.v x] := rfl
def GivesB (R : Rec) (g : FuncId) (args : List AV) (h : Heap) (q : Po) : Prop := ∃ t h', R.call g args h = some (.ret (.agg (prow q t)), h') ∧ Ext h h' ∧ POk q t
set_option maxHeartbeats 16000000 in
set_option maxRecDepth 100000 in
theorem bare_ev (N : Int) (p : Po) (t : PT) (ok : POk p t) (few : PFew p) (h : Heap) (hok : okHeap h = true) : GivesB W 22 [.agg (prow p t), .v (.int .i64 N)] h (bareP N p) := by
  have u23 := Tryd.underlying23
  have a3 := ag3; have a9 := ag9; have a22 := ag22; have a23 := ag23; have a24 := ag24; have a26 := ag26; have a28 := ag28; have a43 := ag43; have s26 := sz26; have s28 := sz28; have s43 := sz43; have s3 := sz3; have z28 := zc28; have z43 := zc43'; have a66 := ag66; have z66 := zc66; have s66 := sz66
  have hlen := ok.rules.1
  have kok := Keep.mk ok
  have kfew := Keep.mk few
  have kokh := Keep.mk hok
  suffices hs : ∃ r h', W.call 22 [.agg (prow p t), .v (.int .i64 N)] h = some (r, h') ∧ (∃ t', r = .ret (.agg (prow (bareP N p) t')) ∧ Ext h h' ∧ POk (bareP N p) t') by
    obtain ⟨r, h', q1, t', rfl, q3, q4⟩ := hs
    exact ⟨t', h', q1, q3, q4⟩
  clear few hok
  refine call_post rfl Tryd.func22 rfl ?_
  repeat' (first | simp (config := { maxSteps := 4000000 }) (disch := first | assumption | (exact Nat.le_refl _) | omega | (simp only [List.length_cons, List.length_nil, List.length_append, push_len, put_len, len_app] <;> omega) | (simp (disch := (first | assumption | omega | (exact (push_len _ _).symm) | (simp only [push_len, put_len, len_app]; omega) | (refine Nat.le_antisymm ?_ ?_ <;> simp only [push_len, put_len, len_app] <;> omega) | fail)) only [get_push_last, get_push_eq, get_push_ne, get_put_eq, get_put_ne, get_app] <;> first | assumption | rfl) | (simp only [canApp_push, canApp_put]; assumption) | (exact start_round _ _) | (simp only [st_round, dfr_round, pn_round]; first | assumption | exact start_round _ _) | fail) only [goS, plainEv, resultsEv, resultListEv, reduceIte, Nat.reduceEqDiff, Option.map_some, Option.map_none, Option.bind_some, List.map_cons, List.map_nil, List.getD_cons_zero, List.getD_cons_succ, List.getElem?_toArray, List.getElem?_cons_zero, List.getElem?_cons_succ, eq_self, beq_self_eq_true, goH, List.append_nil, List.nil_append, rs22, v_cells, fp28, fp43, prs, rrs, load28, store28, store28_3, push_len, build28, put_push_eq, put_push_ne, cell_one, store66, *] | (refine guard_dec (fun _ => ?_) (fun _ => ?_) <;> try (exfalso; omega)) | (refine guard_ndec (fun _ => ?_) (fun _ => ?_) <;> try (exfalso; omega)) | (refine branch_dec (fun _ => ?_) (fun _ => ?_) <;> try (exfalso; omega)) | (refine branch_ndec (fun _ => ?_) (fun _ => ?_) <;> try (exfalso; omega)) | refine guard_nbool (fun _ => ?_) (fun _ => ?_) | refine branch_nbool (fun _ => ?_) (fun _ => ?_) | refine guard_bool (fun _ => ?_) (fun _ => ?_) | refine branch_bool (fun _ => ?_) (fun _ => ?_))
  refine run_loop (fun m e h' => ∃ (i : Nat) (tokR : Tok) (szR : Nat) (rowsR : List (List AV)), i ≤ p.rules.length ∧ m = p.rules.length - i ∧ e.get 2 = .ptr (.box h.boxes.length) 0 ∧ e.get 3 = .ptr (.box (h.boxes.length + 1)) 0 ∧ e.get 4 = .ptr (.box (h.boxes.length + 1 + 1)) 0 ∧ e.get 5 = .ptr (.box (h.boxes.length + 1 + 1 + 1)) 0 ∧ e.get 6 = .ptr (.box (h.boxes.length + 1 + 1 + 1 + 1)) 0 ∧ e.get 13 = .list t.tr t.sr t.rr ∧ e.get 14 = .v (.int .i64 (p.rules.length : Nat)) ∧ e.get 15 = .v (.int .i64 i) ∧ e.defers = [] ∧
    h'.boxes[h.boxes.length]? = some (prow p t) ∧ h'.boxes[h.boxes.length + 1]? = some [.v (.int .i64 N)] ∧ h'.boxes[h.boxes.length + 1 + 1]? = some (prow zP zT) ∧ h'.boxes[h.boxes.length + 1 + 1 + 1]? = some [.func (.func 50) [] [.ptr (.box (h.boxes.length + 1)) 0, .ptr (.box (h.boxes.length + 1 + 1 + 1)) 0]] ∧ h'.boxes[h.boxes.length + 1 + 1 + 1 + 1]? = some (prow p { t with tr := tokR, sr := szR, rr := rowsR }) ∧ RRows (bareR N (p.rules.take i)) rowsR ∧ CanApp h.tn h' tokR ∧ (szR = 8 ∨ (rowsR = [] ∧ tokR = .nil)) ∧ Ext h h' ∧ okHeap h' = true) ?_ p.rules.length _ _ ?_
  · rintro m e h' ⟨i, tokR, szR, rowsR, hi, rfl, g2, g3, g4, g5, g6, g13, g14, g15, hd, hb1, hbn, hb2, hbf, hb3, hrr, hca, hsr, hx, hok'⟩
    have hrl := hrr.1
    have khrr := Keep.mk hrr
    have kx := Keep.mk hx
    have kca := Keep.mk hca
    have ksr := Keep.mk hsr
    have kok' := Keep.mk hok'
    clear hrr hx hca hsr hok'
    have n3 := (List.getElem?_eq_some_iff.1 hb3).1
    by_cases hlt : i < p.rules.length
    · obtain ⟨y, tk2, sz2, rows2, hy, hr, hyr⟩ := RRows.get kok.out.rules hlt
      have h8 := kok.out.zr i hlt
      have hlt3 : (i : Int) < (t.rr.length : Int) := by rw [hlen]; omega
      have hlt4 : (i : Int) < (p.rules.length : Int) := by omega
      have rf8 := @rrow_fit8 y tk2 sz2 rows2
      have hbr := kok.out.br
      have hll := kfew.out.l
      obtain ⟨tok4, sz4, rows4, h5, c5, hx5, hr5⟩ := bare1_ev N (h.boxes.length + 1) (h.boxes.length + 1 + 1 + 1) y.expr tk2 sz2 rows2 hyr (kfew.out.r y (List.mem_of_getElem? hy)) (h'.push (rrow y tk2 sz2 rows2)) kok'.out (push_old hbn) (push_old hbf)
      have e1 := hx5.box _ _ (push_old hb1)
      have en := hx5.box _ _ (push_old hbn)
      have e2 := hx5.box _ _ (push_old hb2)
      have ef := hx5.box _ _ (push_old hbf)
      have e3 := hx5.box _ _ (push_old hb3)
      have e4 := hx5.box _ _ (push_last h' (rrow y tk2 sz2 rows2))
      have kx5 := Keep.mk ((Ext.push h' (rrow y tk2 sz2 rows2)).trans hx5)
      have khr5 := Keep.mk hr5
      have kca5 := Keep.mk (kca.out.ext kx5.out)
      have hrl2 : rowsR.length ≤ 70000 := by rw [hrl]; simp [bareR]; omega
      have happ : ∀ (q : List AV) (cs : List AV), appendEv Tryd.prog (h5.put h'.boxes.length cs) #[23, 23] (.list tokR szR rowsR) (.list .tight 8 [q]) = some (.list (.free h5.tn) 8 (rowsR ++ [q]), (h5.put h'.boxes.length cs).app tokR) := fun q cs => app_rule (h := h5.put h'.boxes.length cs) (kca5.out.mono (Nat.zero_le _)) ksr.out hrl2
      have le4 := (List.getElem?_eq_some_iff.1 e4).1
      have le3 := (List.getElem?_eq_some_iff.1 e3).1
      clear hx5 hr5
      repeat' (first | simp (config := { maxSteps := 4000000 }) (disch := first | assumption | (exact Nat.le_refl _) | omega | (simp only [List.length_cons, List.length_nil, List.length_append, push_len, put_len, len_app] <;> omega) | (simp (disch := (first | assumption | omega | (exact (push_len _ _).symm) | (simp only [push_len, put_len, len_app]; omega) | (refine Nat.le_antisymm ?_ ?_ <;> simp only [push_len, put_len, len_app] <;> omega) | fail)) only [get_push_last, get_push_eq, get_push_ne, get_put_eq, get_put_ne, get_app] <;> first | assumption | rfl) | (simp only [canApp_push, canApp_put]; assumption) | (exact start_round _ _) | (simp only [st_round, dfr_round, pn_round]; first | assumption | exact start_round _ _) | fail) only [goS, plainEv, resultsEv, resultListEv, reduceIte, Nat.reduceEqDiff, Option.map_some, Option.map_none, Option.bind_some, List.map_cons, List.map_nil, List.getD_cons_zero, List.getD_cons_succ, List.getElem?_toArray, List.getElem?_cons_zero, List.getElem?_cons_succ, eq_self, beq_self_eq_true, goH, List.append_nil, List.nil_append, rs22, fp28, fp43, prs, rrs, load28, store28, store28_3, load43, load43_3, store43, store43_1, store43_3, index_list, load_row_agg, build23, push_len, put_push_eq, put_push_ne, put_put, r5, cell_one, List.cons_append, List.nil_append, *] | (refine guard_dec (fun _ => ?_) (fun _ => ?_) <;> try (exfalso; omega)) | (refine guard_ndec (fun _ => ?_) (fun _ => ?_) <;> try (exfalso; omega)) | (refine branch_dec (fun _ => ?_) (fun _ => ?_) <;> try (exfalso; omega)) | (refine branch_ndec (fun _ => ?_) (fun _ => ?_) <;> try (exfalso; omega)) | refine guard_nbool (fun _ => ?_) (fun _ => ?_) | refine branch_nbool (fun _ => ?_) (fun _ => ?_) | refine guard_bool (fun _ => ?_) (fun _ => ?_) | refine branch_bool (fun _ => ?_) (fun _ => ?_))
      refine run_draw_but [(0, 4)] (by kernel_rfl) ?_ ?_
      · intro q hq
        simp only [List.mem_singleton] at hq
        subst hq
        refine stable_before (x := .ptr (.box (h.boxes.length + 1)) 0) (v := .v (.int .i64 N)) (by kernel_rfl) rfl rfl rfl (by kernel_rfl) (by simp [sameAV, sameV]) ?_ ?_
        · simp only [List.take_succ_cons, List.take_zero]
          repeat' (first | simp (config := { maxSteps := 4000000 }) (disch := first | assumption | (exact Nat.le_refl _) | omega | (simp only [List.length_cons, List.length_nil, List.length_append, push_len, put_len, len_app] <;> omega) | (simp (disch := (first | assumption | omega | (exact (push_len _ _).symm) | (simp only [push_len, put_len, len_app]; omega) | (refine Nat.le_antisymm ?_ ?_ <;> simp only [push_len, put_len, len_app] <;> omega) | fail)) only [get_push_last, get_push_eq, get_push_ne, get_put_eq, get_put_ne, get_app] <;> first | assumption | rfl) | (simp only [canApp_push, canApp_put]; assumption) | (exact start_round _ _) | (simp only [st_round, dfr_round, pn_round]; first | assumption | exact start_round _ _) | fail) only [goS, plainEv, resultsEv, resultListEv, reduceIte, Nat.reduceEqDiff, Option.map_some, Option.map_none, Option.bind_some, List.map_cons, List.map_nil, List.getD_cons_zero, List.getD_cons_succ, List.getElem?_toArray, List.getElem?_cons_zero, List.getElem?_cons_succ, eq_self, beq_self_eq_true, goH, List.append_nil, List.nil_append, cell_one, *] | (refine guard_dec (fun _ => ?_) (fun _ => ?_) <;> try (exfalso; omega)) | (refine guard_ndec (fun _ => ?_) (fun _ => ?_) <;> try (exfalso; omega)) | (refine branch_dec (fun _ => ?_) (fun _ => ?_) <;> try (exfalso; omega)) | (refine branch_ndec (fun _ => ?_) (fun _ => ?_) <;> try (exfalso; omega)) | refine guard_nbool (fun _ => ?_) (fun _ => ?_) | refine branch_nbool (fun _ => ?_) (fun _ => ?_) | refine guard_bool (fun _ => ?_) (fun _ => ?_) | refine branch_bool (fun _ => ?_) (fun _ => ?_))
          simp only [and_self]
        · simp only [List.take_succ_cons, List.take_zero]
          repeat' (first | simp (config := { maxSteps := 4000000 }) (disch := first | assumption | (exact Nat.le_refl _) | omega | (simp only [List.length_cons, List.length_nil, List.length_append, push_len, put_len, len_app] <;> omega) | (simp (disch := (first | assumption | omega | (exact (push_len _ _).symm) | (simp only [push_len, put_len, len_app]; omega) | (refine Nat.le_antisymm ?_ ?_ <;> simp only [push_len, put_len, len_app] <;> omega) | fail)) only [get_push_last, get_push_eq, get_push_ne, get_put_eq, get_put_ne, get_app] <;> first | assumption | rfl) | (simp only [canApp_push, canApp_put]; assumption) | (exact start_round _ _) | (simp only [st_round, dfr_round, pn_round]; first | assumption | exact start_round _ _) | fail) only [goS, plainEv, resultsEv, resultListEv, reduceIte, Nat.reduceEqDiff, Option.map_some, Option.map_none, Option.bind_some, List.map_cons, List.map_nil, List.getD_cons_zero, List.getD_cons_succ, List.getElem?_toArray, List.getElem?_cons_zero, List.getElem?_cons_succ, eq_self, beq_self_eq_true, goH, List.append_nil, List.nil_append, fp28, fp43, prs, rrs, load28, load43, load43_3, r5, List.cons_append, List.nil_append, cell_one, *] | (refine guard_dec (fun _ => ?_) (fun _ => ?_) <;> try (exfalso; omega)) | (refine guard_ndec (fun _ => ?_) (fun _ => ?_) <;> try (exfalso; omega)) | (refine branch_dec (fun _ => ?_) (fun _ => ?_) <;> try (exfalso; omega)) | (refine branch_ndec (fun _ => ?_) (fun _ => ?_) <;> try (exfalso; omega)) | refine guard_nbool (fun _ => ?_) (fun _ => ?_) | refine branch_nbool (fun _ => ?_) (fun _ => ?_) | refine guard_bool (fun _ => ?_) (fun _ => ?_) | refine branch_bool (fun _ => ?_) (fun _ => ?_))
          simp only [and_self]
      · repeat' (first | simp (config := { maxSteps := 4000000 }) (disch := first | assumption | (exact Nat.le_refl _) | omega | (simp only [List.length_cons, List.length_nil, List.length_append, push_len, put_len, len_app] <;> omega) | (simp (disch := (first | assumption | omega | (exact (push_len _ _).symm) | (simp only [push_len, put_len, len_app]; omega) | (refine Nat.le_antisymm ?_ ?_ <;> simp only [push_len, put_len, len_app] <;> omega) | fail)) only [get_push_last, get_push_eq, get_push_ne, get_put_eq, get_put_ne, get_app] <;> first | assumption | rfl) | (simp only [canApp_push, canApp_put]; assumption) | (exact start_round _ _) | (simp only [st_round, dfr_round, pn_round]; first | assumption | exact start_round _ _) | fail) only [goS, plainEv, resultsEv, resultListEv, reduceIte, Nat.reduceEqDiff, Option.map_some, Option.map_none, Option.bind_some, List.map_cons, List.map_nil, List.getD_cons_zero, List.getD_cons_succ, List.getElem?_toArray, List.getElem?_cons_zero, List.getElem?_cons_succ, eq_self, beq_self_eq_true, goH, List.append_nil, List.nil_append, rs22, fp28, fp43, prs, rrs, load28, store28, store28_3, load43, load43_3, store43, store43_1, store43_3, index_list, load_row_agg, build23, push_len, put_push_eq, put_push_ne, put_put, r5, cell_one, List.cons_append, List.nil_append, *] | (refine guard_dec (fun _ => ?_) (fun _ => ?_) <;> try (exfalso; omega)) | (refine guard_ndec (fun _ => ?_) (fun _ => ?_) <;> try (exfalso; omega)) | (refine branch_dec (fun _ => ?_) (fun _ => ?_) <;> try (exfalso; omega)) | (refine branch_ndec (fun _ => ?_) (fun _ => ?_) <;> try (exfalso; omega)) | refine guard_nbool (fun _ => ?_) (fun _ => ?_) | refine branch_nbool (fun _ => ?_) (fun _ => ?_) | refine guard_bool (fun _ => ?_) (fun _ => ?_) | refine branch_bool (fun _ => ?_) (fun _ => ?_))
        refine ⟨p.rules.length - (i + 1), by omega, i + 1, .free h5.tn, 8, rowsR ++ [rrow { y with kindNo := N, expr := bareE N y.expr } tok4 sz4 rows4], by omega, rfl, (by first | trivial | (simp; done) | (simp; omega)), (by first | trivial | (simp; done) | (simp; omega)), (by first | trivial | (simp; done) | (simp; omega)), (by first | trivial | (simp; done) | (simp; omega)), (by first | trivial | (simp; done) | (simp; omega)), (by first | trivial | (simp; done) | (simp; omega)), (by first | trivial | (simp; done) | (simp; omega)), (by first | trivial | (simp; done) | (simp; omega)), (by first | trivial | (simp; done) | (simp; omega)), ?_, ?_, ?_, ?_, ?_, ?_, ?_, .inl rfl, ?_, ?_⟩
        · rw [put_other (by omega), app_boxes, put_other (by omega)]; exact e1
        · rw [put_other (by omega), app_boxes, put_other (by omega)]; exact en
        · rw [put_other (by omega), app_boxes, put_other (by omega)]; exact e2
        · rw [put_other (by omega), app_boxes, put_other (by omega)]; exact ef
        · exact put_this (by rw [app_boxes, put_len]; exact le3)
        · obtain ⟨hj, rfl⟩ := List.getElem?_eq_some_iff.1 hy
          rw [List.take_succ_eq_append_getElem hj, bareR_snoc]
          exact RRows.snoc khrr.out (RRow.mk khr5.out)
        · exact kca5.out.next (h := h5.put h'.boxes.length _) (kx5.out.ok kok'.out) (kx.out.trans kx5.out).tn
        · exact (((kx.out.trans kx5.out).put_new (by omega) _).app (h := h5.put h'.boxes.length _) kca5.out).put_new (by omega) _
        · exact (Mut.app (b := 0) (h := h5.put h'.boxes.length _) kca5.out).ok (kx5.out.ok kok'.out)
    · have hie : i = p.rules.length := by omega
      subst hie
      have hlt3 : ¬ ((p.rules.length : Int) < (p.rules.length : Int)) := by omega
      rw [List.take_length] at khrr
      obtain ⟨tok4, sz4, rows4, h5, c5, hx5, hr5⟩ := bare1_ev N (h.boxes.length + 1) (h.boxes.length + 1 + 1 + 1) p.change t.tok t.sz t.rows kok.out.expr kfew.out.c h' kok'.out hbn hbf
      have e2 := hx5.box _ _ hb2
      have e3 := hx5.box _ _ hb3
      have kx5 := Keep.mk hx5
      have khr5 := Keep.mk hr5
      have le2 := (List.getElem?_eq_some_iff.1 e2).1
      have le3 := (List.getElem?_eq_some_iff.1 e3).1
      clear hx5 hr5
      repeat' (first | simp (config := { maxSteps := 4000000 }) (disch := first | assumption | (exact Nat.le_refl _) | omega | (simp only [List.length_cons, List.length_nil, List.length_append, push_len, put_len, len_app] <;> omega) | (simp (disch := (first | assumption | omega | (exact (push_len _ _).symm) | (simp only [push_len, put_len, len_app]; omega) | (refine Nat.le_antisymm ?_ ?_ <;> simp only [push_len, put_len, len_app] <;> omega) | fail)) only [get_push_last, get_push_eq, get_push_ne, get_put_eq, get_put_ne, get_app] <;> first | assumption | rfl) | (simp only [canApp_push, canApp_put]; assumption) | (exact start_round _ _) | (simp only [st_round, dfr_round, pn_round]; first | assumption | exact start_round _ _) | fail) only [goS, plainEv, resultsEv, resultListEv, reduceIte, Nat.reduceEqDiff, Option.map_some, Option.map_none, Option.bind_some, List.map_cons, List.map_nil, List.getD_cons_zero, List.getD_cons_succ, List.getElem?_toArray, List.getElem?_cons_zero, List.getElem?_cons_succ, eq_self, beq_self_eq_true, goH, List.append_nil, List.nil_append, rs22, fp28, fp43, prs, rrs, load28, load28_4, store28, store28_3, store28_4, push_len, put_put, p5, cell_one, List.cons_append, List.nil_append, *] | (refine guard_dec (fun _ => ?_) (fun _ => ?_) <;> try (exfalso; omega)) | (refine guard_ndec (fun _ => ?_) (fun _ => ?_) <;> try (exfalso; omega)) | (refine branch_dec (fun _ => ?_) (fun _ => ?_) <;> try (exfalso; omega)) | (refine branch_ndec (fun _ => ?_) (fun _ => ?_) <;> try (exfalso; omega)) | refine guard_nbool (fun _ => ?_) (fun _ => ?_) | refine branch_nbool (fun _ => ?_) (fun _ => ?_) | refine guard_bool (fun _ => ?_) (fun _ => ?_) | refine branch_bool (fun _ => ?_) (fun _ => ?_))
      refine ⟨_, _, rfl, { t with tr := tokR, sr := szR, rr := rowsR, tok := tok4, sz := sz4, rows := rows4 }, rfl, ((kx.out.trans kx5.out).put_new (b := h.boxes.length + 1 + 1 + 1 + 1) (by omega) _).put_new (b := h.boxes.length + 1 + 1) (by omega) _, ?_⟩
      exact bareP_ok kok.out khrr.out khr5.out ksr.out
  · refine ⟨0, .nil, 0, [], Nat.zero_le _, rfl, ?_, ?_, ?_, ?_, ?_, ?_, ?_, ?_, ?_, ?_, ?_, ?_, ?_, ?_, ?_, ?_, .inr ⟨rfl, rfl⟩, ?_, ?_⟩
    iterate 9
      · simp only [goS, plainEv, resultsEv, resultListEv, reduceIte, Nat.reduceEqDiff, Option.map_some, Option.map_none, Option.bind_some, List.map_cons, List.map_nil, List.getD_cons_zero, List.getD_cons_succ, List.getElem?_toArray, List.getElem?_cons_zero, List.getElem?_cons_succ, eq_self, beq_self_eq_true, goH, hlen] <;> rfl
    iterate 5
      · simp (disch := (first | assumption | omega | (exact (push_len _ _).symm) | (simp only [push_len, put_len, len_app]; omega) | (refine Nat.le_antisymm ?_ ?_ <;> simp only [push_len, put_len, len_app] <;> omega) | fail)) only [get_push_last, get_push_eq, get_push_ne, get_put_eq, get_put_ne, get_app]
    · exact RRows.nil
    · exact .inl rfl
    · exact ((((Ext.push _ _).trans (.push _ _)).trans (.push _ _)).trans (.push _ _)).trans (.push _ _)
    · exact kokh.out
end Go.Proofs.YtilmhlbjjfgeoaaDoor
end

section
namespace Go.Proofs.YtilmhlbjjfgeoaaDoor
open Go.AE Go.Lex Go.Pol
/-! ### PoliciesTwice -/
theorem alike_bareP (n : Int) (p : Po) : AlikeP (bareP n p) p := by
  refine ⟨rfl, rfl, rfl, rfl, alike_bare _ _, by simp [bareP, bareR], fun i x y hx hy => ?_⟩
  have hx : (bareR n p.rules)[i]? = some x := hx
  unfold bareR at hx
  rw [List.getElem?_map, hy] at hx
  simp only [Option.map_some, Option.some.injEq] at hx
  subst hx
  exact ⟨rfl, rfl, alike_bare _ _⟩
theorem AlikeP.resF {p q : Po} (h : AlikeP p q) : resolveF p = resolveF q := by
  unfold resolveF
  rw [h.small, h.names, h.formed, h.res]
theorem resF_ok {p : Po} (h : (resolveF p).2 = 0) : resolveF p = (resP p, 0) := by
  unfold resolveF at h ⊢
  split at h <;> try exact absurd h (by decide)
  split at h <;> try exact absurd h (by decide)
  split at h <;> try exact absurd h (by decide)
  rename_i q1 q2 q3
  rw [if_neg q1, if_neg q2, if_neg q3]
theorem sameP_symm (p q : Po) : sameP p q = sameP q p := by
  rw [Bool.eq_iff_iff, sameP_iff, sameP_iff]
  exact ⟨Eq.symm, Eq.symm⟩
theorem check_bare {n : Int} {p : Po} (h : codeP p = 0) : checkP (bareP n p) = if sameP (bareP n p) (resP p) = true then 0 else 200 := by
  unfold checkP
  rw [(alike_bareP n p).code, if_pos h, (alike_bareP n p).res, sameP_symm]
theorem few_resF {p : Po} (h : fewP p = true) (h0 : codeP p = 0) : PFew (resP p) := few_few ((alike_resP p).symm.few1 h)
theorem few_bare {p : Po} (n : Int) (h : fewP p = true) : PFew (bareP n p) := few_few ((alike_bareP n p).symm.few1 h)
theorem u4b : Tryd.prog.underlying 4 = some .bool := by kernel_rfl
theorem rs6 : Tryd.f6.results.toList = [.tmp 4] := by kernel_rfl
set_option maxHeartbeats 32000000 in
set_option maxRecDepth 100000 in
theorem policiesTwice_law (p : Po) (t : PT) (ok : POk p t) (n : Int) : ∃ h', W.call 6 [.agg (prow p t), .v (.int .i64 n)] Heap.init = some (.ret (.v (.bool true)), h') ∧ True := by
  have a28 := ag28; have z28 := zc28; have s28 := sz28; have z4 := u4b
  obtain ⟨h1, c1, x1⟩ := sane_ev (Heap.init.push (prow p t)) rfl
  obtain ⟨h2, c2, x2⟩ := fewP_ev p t ok h1
  have b1 := x1.box _ _ (push_last Heap.init (prow p t))
  have b2 := x2.box _ _ b1
  refine call_ex rfl Tryd.func6 rfl ?_
  cases hf : fewP p with
  | false =>
    rw [hf] at c2
    clear x1 x2
    repeat' (first | simp (config := { maxSteps := 4000000 }) (disch := first | assumption | (exact Nat.le_refl _) | omega | (simp only [List.length_cons, List.length_nil, List.length_append, push_len, put_len, len_app] <;> omega) | (simp (disch := (first | assumption | omega | (exact (push_len _ _).symm) | (simp only [push_len, put_len, len_app]; omega) | (refine Nat.le_antisymm ?_ ?_ <;> simp only [push_len, put_len, len_app] <;> omega) | fail)) only [get_push_last, get_push_eq, get_push_ne, get_put_eq, get_put_ne, get_app] <;> first | assumption | rfl) | (simp only [canApp_push, canApp_put]; assumption) | (exact start_round _ _) | (simp only [st_round, dfr_round, pn_round]; first | assumption | exact start_round _ _) | fail) only [goS, plainEv, resultsEv, resultListEv, reduceIte, Nat.reduceEqDiff, Option.map_some, Option.map_none, Option.bind_some, List.map_cons, List.map_nil, List.getD_cons_zero, List.getD_cons_succ, List.getElem?_toArray, List.getElem?_cons_zero, List.getElem?_cons_succ, eq_self, beq_self_eq_true, goH, List.append_nil, List.nil_append, rs6, prs, load28, *] | (refine guard_dec (fun _ => ?_) (fun _ => ?_) <;> try (exfalso; omega)) | (refine guard_ndec (fun _ => ?_) (fun _ => ?_) <;> try (exfalso; omega)) | (refine branch_dec (fun _ => ?_) (fun _ => ?_) <;> try (exfalso; omega)) | (refine branch_ndec (fun _ => ?_) (fun _ => ?_) <;> try (exfalso; omega)) | refine guard_nbool (fun _ => ?_) (fun _ => ?_) | refine branch_nbool (fun _ => ?_) (fun _ => ?_) | refine guard_bool (fun _ => ?_) (fun _ => ?_) | refine branch_bool (fun _ => ?_) (fun _ => ?_))
    exact ⟨_, rfl, trivial⟩
  | true =>
    rw [hf] at c2
    have few := few_few hf
    have fewb := few_bare n hf
    have o2 : okHeap h2 = true := x2.ok (x1.ok rfl)
    obtain ⟨t3, h3, c3, x3, ok3⟩ := bare_ev n p t ok few h2 o2
    obtain ⟨t4, h4, c4, x4, ok4⟩ := resolveP_ev p t ok few (h3.push (prow (bareP n p) t3)) (x3.ok o2)
    obtain ⟨t5, h5, c5, x5, ok5⟩ := resolveP_ev (bareP n p) t3 ok3 fewb (h4.push (prow (resolveF p).1 t4)) (x4.ok (x3.ok o2))
    rw [(alike_bareP n p).resF] at c5 ok5
    have o5 := x5.ok (x4.ok (x3.ok o2))
    obtain ⟨h6, c6, x6⟩ := same_ev (resolveF p).1 (resolveF p).1 t4 t5 ok4 ok5 (h5.push (prow (resolveF p).1 t5)) 
    rw [sameP_iff.2 rfl] at c6
    have o6 := x6.ok o5
    -- what lies where
    have p3 := x3.box _ _ b2
    have p4 := x4.box _ _ (push_old (cs := prow (bareP n p) t3) p3)
    have p5 := x5.box _ _ (push_old (cs := prow (resolveF p).1 t4) p4)
    have p6 := x6.box _ _ (push_old (cs := prow (resolveF p).1 t5) p5)
    have q4 := x4.box _ _ (push_last h3 (prow (bareP n p) t3))
    have q5 := x5.box _ _ (push_old (cs := prow (resolveF p).1 t4) q4)
    have q6 := x6.box _ _ (push_old (cs := prow (resolveF p).1 t5) q5)
    have r5 := x5.box _ _ (push_last h4 (prow (resolveF p).1 t4))
    have r6 := x6.box _ _ (push_old (cs := prow (resolveF p).1 t5) r5)
    have np3 := (List.getElem?_eq_some_iff.1 p3).1
    have np4 := (List.getElem?_eq_some_iff.1 p4).1
    have np5 := (List.getElem?_eq_some_iff.1 p5).1
    have np6 := (List.getElem?_eq_some_iff.1 p6).1
    have nq4 := (List.getElem?_eq_some_iff.1 q4).1
    have nq5 := (List.getElem?_eq_some_iff.1 q5).1
    have nq6 := (List.getElem?_eq_some_iff.1 q6).1
    have nr5 := (List.getElem?_eq_some_iff.1 r5).1
    have nr6 := (List.getElem?_eq_some_iff.1 r6).1
    cases hc : decide (codeP p = 0) with
    | false =>
      have hc' := of_decide_eq_false hc
      obtain ⟨h7, c7, x7⟩ := check_ev p t ok few h6 o6
      rw [code_ne hc'] at c7
      generalize hq : (resolveF p).1 = q at c4 c5 c6 r5 r6
      have hcc : (resolveF p).2 = codeP p := rfl
      rw [hcc] at c4 c5
      generalize codeP p = k at c4 c5 c7 hc
      clear x1 x2 x3 x4 x5 x6 x7 ok3 ok4 ok5 few fewb o2 o5 o6 hf hc' hcc hq ok
      repeat' (first | simp (config := { maxSteps := 4000000 }) (disch := first | assumption | (exact Nat.le_refl _) | omega | (simp only [List.length_cons, List.length_nil, List.length_append, push_len, put_len, len_app] <;> omega) | (simp (disch := (first | assumption | omega | (exact (push_len _ _).symm) | (simp only [push_len, put_len, len_app]; omega) | (refine Nat.le_antisymm ?_ ?_ <;> simp only [push_len, put_len, len_app] <;> omega) | fail)) only [get_push_last, get_push_eq, get_push_ne, get_put_eq, get_put_ne, get_app] <;> first | assumption | rfl) | (simp only [canApp_push, canApp_put]; assumption) | (exact start_round _ _) | (simp only [st_round, dfr_round, pn_round]; first | assumption | exact start_round _ _) | fail) only [goS, plainEv, resultsEv, resultListEv, reduceIte, Nat.reduceEqDiff, Option.map_some, Option.map_none, Option.bind_some, List.map_cons, List.map_nil, List.getD_cons_zero, List.getD_cons_succ, List.getElem?_toArray, List.getElem?_cons_zero, List.getElem?_cons_succ, eq_self, beq_self_eq_true, goH, List.append_nil, List.nil_append, rs6, prs, load28, store28, put_push_eq, *] | (refine guard_dec (fun _ => ?_) (fun _ => ?_) <;> try (exfalso; omega)) | (refine guard_ndec (fun _ => ?_) (fun _ => ?_) <;> try (exfalso; omega)) | (refine branch_dec (fun _ => ?_) (fun _ => ?_) <;> try (exfalso; omega)) | (refine branch_ndec (fun _ => ?_) (fun _ => ?_) <;> try (exfalso; omega)) | refine guard_nbool (fun _ => ?_) (fun _ => ?_) | refine branch_nbool (fun _ => ?_) (fun _ => ?_) | refine guard_bool (fun _ => ?_) (fun _ => ?_) | refine branch_bool (fun _ => ?_) (fun _ => ?_))
      exact ⟨_, rfl, trivial⟩
    | true =>
      have hc' := of_decide_eq_true hc
      have hr : resolveF p = (resP p, 0) := resF_ok hc'
      simp only [hr] at c4 c5 c6 x5 x6 ok4 ok5 r5 r6
      have hrr : resolveF (resP p) = (resP p, 0) := by rw [(alike_resP p).resF, hr]
      have fewr := few_resF hf hc'
      obtain ⟨t7, h7, c7, x7, ok7⟩ := resolveP_ev (resP p) t4 ok4 fewr h6 o6
      simp only [hrr] at c7 ok7
      obtain ⟨h8, c8, x8⟩ := same_ev (resP p) (resP p) t4 t7 ok4 ok7 (h7.push (prow (resP p) t7))
      rw [sameP_iff.2 rfl] at c8
      have o8 := x8.ok (x7.ok o6)
      obtain ⟨h9, c9, x9⟩ := check_ev (resP p) t4 ok4 fewr h8 o8
      rw [check_res hc'] at c9
      have o9 := x9.ok o8
      obtain ⟨h10, c10, x10⟩ := check_ev (bareP n p) t3 ok3 fewb h9 o9
      obtain ⟨h11, c11, x11⟩ := same_ev (bareP n p) (resP p) t3 t4 ok3 ok4 h10
      rw [check_bare hc'] at c10
      have q7 := x7.box _ _ q6
      have q8 := x8.box _ _ (push_old (cs := prow (resP p) t7) q7)
      have q9 := x9.box _ _ q8
      have q10 := x10.box _ _ q9
      have r7 := x7.box _ _ r6
      have r8 := x8.box _ _ (push_old (cs := prow (resP p) t7) r7)
      have r9 := x9.box _ _ r8
      have r10 := x10.box _ _ r9
      have nq7 := (List.getElem?_eq_some_iff.1 q7).1
      have nq8 := (List.getElem?_eq_some_iff.1 q8).1
      have nq9 := (List.getElem?_eq_some_iff.1 q9).1
      have nq10 := (List.getElem?_eq_some_iff.1 q10).1
      have nr7 := (List.getElem?_eq_some_iff.1 r7).1
      have nr8 := (List.getElem?_eq_some_iff.1 r8).1
      have nr9 := (List.getElem?_eq_some_iff.1 r9).1
      have nr10 := (List.getElem?_eq_some_iff.1 r10).1
      have ks3 := Keep.mk (pol_same ok3)
      have ks4 := Keep.mk (pol_same ok4)
      generalize resP p = q at *
      generalize bareP n p = b at *
      clear x1 x2 x3 x4 x5 x6 x7 x8 x9 x10 x11 ok3 ok4 ok5 ok7 few fewb fewr o2 o5 o6 o8 o9 hf hc hc' hr hrr ok
      cases hd : sameP b q with
      | true =>
        rw [hd] at c10 c11
        simp only [if_true] at c10
        clear hd
        repeat' (first | simp (config := { maxSteps := 4000000 }) (disch := first | assumption | (exact Nat.le_refl _) | omega | (simp only [List.length_cons, List.length_nil, List.length_append, push_len, put_len, len_app] <;> omega) | (simp (disch := (first | assumption | omega | (exact (push_len _ _).symm) | (simp only [push_len, put_len, len_app]; omega) | (refine Nat.le_antisymm ?_ ?_ <;> simp only [push_len, put_len, len_app] <;> omega) | fail)) only [get_push_last, get_push_eq, get_push_ne, get_put_eq, get_put_ne, get_app] <;> first | assumption | rfl) | (simp only [canApp_push, canApp_put]; assumption) | (exact start_round _ _) | (simp only [st_round, dfr_round, pn_round]; first | assumption | exact start_round _ _) | fail) only [goS, plainEv, resultsEv, resultListEv, reduceIte, Nat.reduceEqDiff, Option.map_some, Option.map_none, Option.bind_some, List.map_cons, List.map_nil, List.getD_cons_zero, List.getD_cons_succ, List.getElem?_toArray, List.getElem?_cons_zero, List.getElem?_cons_succ, eq_self, beq_self_eq_true, goH, List.append_nil, List.nil_append, rs6, prs, load28, store28, put_push_eq, bin_beql, *] | (refine guard_dec (fun _ => ?_) (fun _ => ?_) <;> try (exfalso; omega)) | (refine guard_ndec (fun _ => ?_) (fun _ => ?_) <;> try (exfalso; omega)) | (refine branch_dec (fun _ => ?_) (fun _ => ?_) <;> try (exfalso; omega)) | (refine branch_ndec (fun _ => ?_) (fun _ => ?_) <;> try (exfalso; omega)) | refine guard_nbool (fun _ => ?_) (fun _ => ?_) | refine branch_nbool (fun _ => ?_) (fun _ => ?_) | refine guard_bool (fun _ => ?_) (fun _ => ?_) | refine branch_bool (fun _ => ?_) (fun _ => ?_))
        refine run_draw_but [(14, 16), (14, 17)] (by kernel_rfl) ?_ ?_
        · intro pr hp
          simp only [List.mem_cons, List.not_mem_nil, or_false] at hp
          rcases hp with rfl | rfl
          · refine stable_behind_g (x := .ptr (.box h3.boxes.length) 0) (v := .agg (prow b t3)) (by kernel_rfl) rfl rfl (by kernel_rfl) ks3.out ?_ ?_
            · simp only [List.take_succ_cons, List.take_zero]
              repeat' (first | simp (config := { maxSteps := 4000000 }) (disch := first | assumption | (exact Nat.le_refl _) | omega | (simp only [List.length_cons, List.length_nil, List.length_append, push_len, put_len, len_app] <;> omega) | (simp (disch := (first | assumption | omega | (exact (push_len _ _).symm) | (simp only [push_len, put_len, len_app]; omega) | (refine Nat.le_antisymm ?_ ?_ <;> simp only [push_len, put_len, len_app] <;> omega) | fail)) only [get_push_last, get_push_eq, get_push_ne, get_put_eq, get_put_ne, get_app] <;> first | assumption | rfl) | (simp only [canApp_push, canApp_put]; assumption) | (exact start_round _ _) | (simp only [st_round, dfr_round, pn_round]; first | assumption | exact start_round _ _) | fail) only [goS, plainEv, resultsEv, resultListEv, reduceIte, Nat.reduceEqDiff, Option.map_some, Option.map_none, Option.bind_some, List.map_cons, List.map_nil, List.getD_cons_zero, List.getD_cons_succ, List.getElem?_toArray, List.getElem?_cons_zero, List.getElem?_cons_succ, eq_self, beq_self_eq_true, goH, List.append_nil, List.nil_append, load28, *] | (refine guard_dec (fun _ => ?_) (fun _ => ?_) <;> try (exfalso; omega)) | (refine guard_ndec (fun _ => ?_) (fun _ => ?_) <;> try (exfalso; omega)) | (refine branch_dec (fun _ => ?_) (fun _ => ?_) <;> try (exfalso; omega)) | (refine branch_ndec (fun _ => ?_) (fun _ => ?_) <;> try (exfalso; omega)) | refine guard_nbool (fun _ => ?_) (fun _ => ?_) | refine branch_nbool (fun _ => ?_) (fun _ => ?_) | refine guard_bool (fun _ => ?_) (fun _ => ?_) | refine branch_bool (fun _ => ?_) (fun _ => ?_))
              refine ⟨by trivial, ?_, by trivial, by trivial⟩
              simp [wantedA, st_get]
            · simp only [List.take_succ_cons, List.take_zero]
              repeat' (first | simp (config := { maxSteps := 4000000 }) (disch := first | assumption | (exact Nat.le_refl _) | omega | (simp only [List.length_cons, List.length_nil, List.length_append, push_len, put_len, len_app] <;> omega) | (simp (disch := (first | assumption | omega | (exact (push_len _ _).symm) | (simp only [push_len, put_len, len_app]; omega) | (refine Nat.le_antisymm ?_ ?_ <;> simp only [push_len, put_len, len_app] <;> omega) | fail)) only [get_push_last, get_push_eq, get_push_ne, get_put_eq, get_put_ne, get_app] <;> first | assumption | rfl) | (simp only [canApp_push, canApp_put]; assumption) | (exact start_round _ _) | (simp only [st_round, dfr_round, pn_round]; first | assumption | exact start_round _ _) | fail) only [goS, plainEv, resultsEv, resultListEv, reduceIte, Nat.reduceEqDiff, Option.map_some, Option.map_none, Option.bind_some, List.map_cons, List.map_nil, List.getD_cons_zero, List.getD_cons_succ, List.getElem?_toArray, List.getElem?_cons_zero, List.getElem?_cons_succ, eq_self, beq_self_eq_true, goH, List.append_nil, List.nil_append, load28, *] | (refine guard_dec (fun _ => ?_) (fun _ => ?_) <;> try (exfalso; omega)) | (refine guard_ndec (fun _ => ?_) (fun _ => ?_) <;> try (exfalso; omega)) | (refine branch_dec (fun _ => ?_) (fun _ => ?_) <;> try (exfalso; omega)) | (refine branch_ndec (fun _ => ?_) (fun _ => ?_) <;> try (exfalso; omega)) | refine guard_nbool (fun _ => ?_) (fun _ => ?_) | refine branch_nbool (fun _ => ?_) (fun _ => ?_) | refine guard_bool (fun _ => ?_) (fun _ => ?_) | refine branch_bool (fun _ => ?_) (fun _ => ?_))
              exact ⟨by trivial, by trivial⟩
          · refine stable_behind_g (x := .ptr (.box h4.boxes.length) 0) (v := .agg (prow q t4)) (by kernel_rfl) rfl rfl (by kernel_rfl) ks4.out ?_ ?_
            · simp only [List.take_succ_cons, List.take_zero]
              repeat' (first | simp (config := { maxSteps := 4000000 }) (disch := first | assumption | (exact Nat.le_refl _) | omega | (simp only [List.length_cons, List.length_nil, List.length_append, push_len, put_len, len_app] <;> omega) | (simp (disch := (first | assumption | omega | (exact (push_len _ _).symm) | (simp only [push_len, put_len, len_app]; omega) | (refine Nat.le_antisymm ?_ ?_ <;> simp only [push_len, put_len, len_app] <;> omega) | fail)) only [get_push_last, get_push_eq, get_push_ne, get_put_eq, get_put_ne, get_app] <;> first | assumption | rfl) | (simp only [canApp_push, canApp_put]; assumption) | (exact start_round _ _) | (simp only [st_round, dfr_round, pn_round]; first | assumption | exact start_round _ _) | fail) only [goS, plainEv, resultsEv, resultListEv, reduceIte, Nat.reduceEqDiff, Option.map_some, Option.map_none, Option.bind_some, List.map_cons, List.map_nil, List.getD_cons_zero, List.getD_cons_succ, List.getElem?_toArray, List.getElem?_cons_zero, List.getElem?_cons_succ, eq_self, beq_self_eq_true, goH, List.append_nil, List.nil_append, load28, *] | (refine guard_dec (fun _ => ?_) (fun _ => ?_) <;> try (exfalso; omega)) | (refine guard_ndec (fun _ => ?_) (fun _ => ?_) <;> try (exfalso; omega)) | (refine branch_dec (fun _ => ?_) (fun _ => ?_) <;> try (exfalso; omega)) | (refine branch_ndec (fun _ => ?_) (fun _ => ?_) <;> try (exfalso; omega)) | refine guard_nbool (fun _ => ?_) (fun _ => ?_) | refine branch_nbool (fun _ => ?_) (fun _ => ?_) | refine guard_bool (fun _ => ?_) (fun _ => ?_) | refine branch_bool (fun _ => ?_) (fun _ => ?_))
              refine ⟨by trivial, ?_, by trivial, by trivial⟩
              simp [wantedA, st_get]
            · simp only [List.take_succ_cons, List.take_zero]
              repeat' (first | simp (config := { maxSteps := 4000000 }) (disch := first | assumption | (exact Nat.le_refl _) | omega | (simp only [List.length_cons, List.length_nil, List.length_append, push_len, put_len, len_app] <;> omega) | (simp (disch := (first | assumption | omega | (exact (push_len _ _).symm) | (simp only [push_len, put_len, len_app]; omega) | (refine Nat.le_antisymm ?_ ?_ <;> simp only [push_len, put_len, len_app] <;> omega) | fail)) only [get_push_last, get_push_eq, get_push_ne, get_put_eq, get_put_ne, get_app] <;> first | assumption | rfl) | (simp only [canApp_push, canApp_put]; assumption) | (exact start_round _ _) | (simp only [st_round, dfr_round, pn_round]; first | assumption | exact start_round _ _) | fail) only [goS, plainEv, resultsEv, resultListEv, reduceIte, Nat.reduceEqDiff, Option.map_some, Option.map_none, Option.bind_some, List.map_cons, List.map_nil, List.getD_cons_zero, List.getD_cons_succ, List.getElem?_toArray, List.getElem?_cons_zero, List.getElem?_cons_succ, eq_self, beq_self_eq_true, goH, List.append_nil, List.nil_append, load28, *] | (refine guard_dec (fun _ => ?_) (fun _ => ?_) <;> try (exfalso; omega)) | (refine guard_ndec (fun _ => ?_) (fun _ => ?_) <;> try (exfalso; omega)) | (refine branch_dec (fun _ => ?_) (fun _ => ?_) <;> try (exfalso; omega)) | (refine branch_ndec (fun _ => ?_) (fun _ => ?_) <;> try (exfalso; omega)) | refine guard_nbool (fun _ => ?_) (fun _ => ?_) | refine branch_nbool (fun _ => ?_) (fun _ => ?_) | refine guard_bool (fun _ => ?_) (fun _ => ?_) | refine branch_bool (fun _ => ?_) (fun _ => ?_))
              exact ⟨by trivial, by trivial⟩
        · repeat' (first | simp (config := { maxSteps := 4000000 }) (disch := first | assumption | (exact Nat.le_refl _) | omega | (simp only [List.length_cons, List.length_nil, List.length_append, push_len, put_len, len_app] <;> omega) | (simp (disch := (first | assumption | omega | (exact (push_len _ _).symm) | (simp only [push_len, put_len, len_app]; omega) | (refine Nat.le_antisymm ?_ ?_ <;> simp only [push_len, put_len, len_app] <;> omega) | fail)) only [get_push_last, get_push_eq, get_push_ne, get_put_eq, get_put_ne, get_app] <;> first | assumption | rfl) | (simp only [canApp_push, canApp_put]; assumption) | (exact start_round _ _) | (simp only [st_round, dfr_round, pn_round]; first | assumption | exact start_round _ _) | fail) only [goS, plainEv, resultsEv, resultListEv, reduceIte, Nat.reduceEqDiff, Option.map_some, Option.map_none, Option.bind_some, List.map_cons, List.map_nil, List.getD_cons_zero, List.getD_cons_succ, List.getElem?_toArray, List.getElem?_cons_zero, List.getElem?_cons_succ, eq_self, beq_self_eq_true, goH, List.append_nil, List.nil_append, rs6, prs, load28, bin_beql, *] | (refine guard_dec (fun _ => ?_) (fun _ => ?_) <;> try (exfalso; omega)) | (refine guard_ndec (fun _ => ?_) (fun _ => ?_) <;> try (exfalso; omega)) | (refine branch_dec (fun _ => ?_) (fun _ => ?_) <;> try (exfalso; omega)) | (refine branch_ndec (fun _ => ?_) (fun _ => ?_) <;> try (exfalso; omega)) | refine guard_nbool (fun _ => ?_) (fun _ => ?_) | refine branch_nbool (fun _ => ?_) (fun _ => ?_) | refine guard_bool (fun _ => ?_) (fun _ => ?_) | refine branch_bool (fun _ => ?_) (fun _ => ?_))
          exact ⟨_, rfl, trivial⟩
      | false =>
        rw [hd] at c10 c11
        simp only [Bool.false_eq_true, if_false] at c10
        clear hd
        repeat' (first | simp (config := { maxSteps := 4000000 }) (disch := first | assumption | (exact Nat.le_refl _) | omega | (simp only [List.length_cons, List.length_nil, List.length_append, push_len, put_len, len_app] <;> omega) | (simp (disch := (first | assumption | omega | (exact (push_len _ _).symm) | (simp only [push_len, put_len, len_app]; omega) | (refine Nat.le_antisymm ?_ ?_ <;> simp only [push_len, put_len, len_app] <;> omega) | fail)) only [get_push_last, get_push_eq, get_push_ne, get_put_eq, get_put_ne, get_app] <;> first | assumption | rfl) | (simp only [canApp_push, canApp_put]; assumption) | (exact start_round _ _) | (simp only [st_round, dfr_round, pn_round]; first | assumption | exact start_round _ _) | fail) only [goS, plainEv, resultsEv, resultListEv, reduceIte, Nat.reduceEqDiff, Option.map_some, Option.map_none, Option.bind_some, List.map_cons, List.map_nil, List.getD_cons_zero, List.getD_cons_succ, List.getElem?_toArray, List.getElem?_cons_zero, List.getElem?_cons_succ, eq_self, beq_self_eq_true, goH, List.append_nil, List.nil_append, rs6, prs, load28, store28, put_push_eq, bin_beql, *] | (refine guard_dec (fun _ => ?_) (fun _ => ?_) <;> try (exfalso; omega)) | (refine guard_ndec (fun _ => ?_) (fun _ => ?_) <;> try (exfalso; omega)) | (refine branch_dec (fun _ => ?_) (fun _ => ?_) <;> try (exfalso; omega)) | (refine branch_ndec (fun _ => ?_) (fun _ => ?_) <;> try (exfalso; omega)) | refine guard_nbool (fun _ => ?_) (fun _ => ?_) | refine branch_nbool (fun _ => ?_) (fun _ => ?_) | refine guard_bool (fun _ => ?_) (fun _ => ?_) | refine branch_bool (fun _ => ?_) (fun _ => ?_))
        refine run_draw_but [(14, 16), (14, 17)] (by kernel_rfl) ?_ ?_
        · intro pr hp
          simp only [List.mem_cons, List.not_mem_nil, or_false] at hp
          rcases hp with rfl | rfl
          · refine stable_behind_g (x := .ptr (.box h3.boxes.length) 0) (v := .agg (prow b t3)) (by kernel_rfl) rfl rfl (by kernel_rfl) ks3.out ?_ ?_
            · simp only [List.take_succ_cons, List.take_zero]
              repeat' (first | simp (config := { maxSteps := 4000000 }) (disch := first | assumption | (exact Nat.le_refl _) | omega | (simp only [List.length_cons, List.length_nil, List.length_append, push_len, put_len, len_app] <;> omega) | (simp (disch := (first | assumption | omega | (exact (push_len _ _).symm) | (simp only [push_len, put_len, len_app]; omega) | (refine Nat.le_antisymm ?_ ?_ <;> simp only [push_len, put_len, len_app] <;> omega) | fail)) only [get_push_last, get_push_eq, get_push_ne, get_put_eq, get_put_ne, get_app] <;> first | assumption | rfl) | (simp only [canApp_push, canApp_put]; assumption) | (exact start_round _ _) | (simp only [st_round, dfr_round, pn_round]; first | assumption | exact start_round _ _) | fail) only [goS, plainEv, resultsEv, resultListEv, reduceIte, Nat.reduceEqDiff, Option.map_some, Option.map_none, Option.bind_some, List.map_cons, List.map_nil, List.getD_cons_zero, List.getD_cons_succ, List.getElem?_toArray, List.getElem?_cons_zero, List.getElem?_cons_succ, eq_self, beq_self_eq_true, goH, List.append_nil, List.nil_append, load28, *] | (refine guard_dec (fun _ => ?_) (fun _ => ?_) <;> try (exfalso; omega)) | (refine guard_ndec (fun _ => ?_) (fun _ => ?_) <;> try (exfalso; omega)) | (refine branch_dec (fun _ => ?_) (fun _ => ?_) <;> try (exfalso; omega)) | (refine branch_ndec (fun _ => ?_) (fun _ => ?_) <;> try (exfalso; omega)) | refine guard_nbool (fun _ => ?_) (fun _ => ?_) | refine branch_nbool (fun _ => ?_) (fun _ => ?_) | refine guard_bool (fun _ => ?_) (fun _ => ?_) | refine branch_bool (fun _ => ?_) (fun _ => ?_))
              refine ⟨by trivial, ?_, by trivial, by trivial⟩
              simp [wantedA, st_get]
            · simp only [List.take_succ_cons, List.take_zero]
              repeat' (first | simp (config := { maxSteps := 4000000 }) (disch := first | assumption | (exact Nat.le_refl _) | omega | (simp only [List.length_cons, List.length_nil, List.length_append, push_len, put_len, len_app] <;> omega) | (simp (disch := (first | assumption | omega | (exact (push_len _ _).symm) | (simp only [push_len, put_len, len_app]; omega) | (refine Nat.le_antisymm ?_ ?_ <;> simp only [push_len, put_len, len_app] <;> omega) | fail)) only [get_push_last, get_push_eq, get_push_ne, get_put_eq, get_put_ne, get_app] <;> first | assumption | rfl) | (simp only [canApp_push, canApp_put]; assumption) | (exact start_round _ _) | (simp only [st_round, dfr_round, pn_round]; first | assumption | exact start_round _ _) | fail) only [goS, plainEv, resultsEv, resultListEv, reduceIte, Nat.reduceEqDiff, Option.map_some, Option.map_none, Option.bind_some, List.map_cons, List.map_nil, List.getD_cons_zero, List.getD_cons_succ, List.getElem?_toArray, List.getElem?_cons_zero, List.getElem?_cons_succ, eq_self, beq_self_eq_true, goH, List.append_nil, List.nil_append, load28, *] | (refine guard_dec (fun _ => ?_) (fun _ => ?_) <;> try (exfalso; omega)) | (refine guard_ndec (fun _ => ?_) (fun _ => ?_) <;> try (exfalso; omega)) | (refine branch_dec (fun _ => ?_) (fun _ => ?_) <;> try (exfalso; omega)) | (refine branch_ndec (fun _ => ?_) (fun _ => ?_) <;> try (exfalso; omega)) | refine guard_nbool (fun _ => ?_) (fun _ => ?_) | refine branch_nbool (fun _ => ?_) (fun _ => ?_) | refine guard_bool (fun _ => ?_) (fun _ => ?_) | refine branch_bool (fun _ => ?_) (fun _ => ?_))
              exact ⟨by trivial, by trivial⟩
          · refine stable_behind_g (x := .ptr (.box h4.boxes.length) 0) (v := .agg (prow q t4)) (by kernel_rfl) rfl rfl (by kernel_rfl) ks4.out ?_ ?_
            · simp only [List.take_succ_cons, List.take_zero]
              repeat' (first | simp (config := { maxSteps := 4000000 }) (disch := first | assumption | (exact Nat.le_refl _) | omega | (simp only [List.length_cons, List.length_nil, List.length_append, push_len, put_len, len_app] <;> omega) | (simp (disch := (first | assumption | omega | (exact (push_len _ _).symm) | (simp only [push_len, put_len, len_app]; omega) | (refine Nat.le_antisymm ?_ ?_ <;> simp only [push_len, put_len, len_app] <;> omega) | fail)) only [get_push_last, get_push_eq, get_push_ne, get_put_eq, get_put_ne, get_app] <;> first | assumption | rfl) | (simp only [canApp_push, canApp_put]; assumption) | (exact start_round _ _) | (simp only [st_round, dfr_round, pn_round]; first | assumption | exact start_round _ _) | fail) only [goS, plainEv, resultsEv, resultListEv, reduceIte, Nat.reduceEqDiff, Option.map_some, Option.map_none, Option.bind_some, List.map_cons, List.map_nil, List.getD_cons_zero, List.getD_cons_succ, List.getElem?_toArray, List.getElem?_cons_zero, List.getElem?_cons_succ, eq_self, beq_self_eq_true, goH, List.append_nil, List.nil_append, load28, *] | (refine guard_dec (fun _ => ?_) (fun _ => ?_) <;> try (exfalso; omega)) | (refine guard_ndec (fun _ => ?_) (fun _ => ?_) <;> try (exfalso; omega)) | (refine branch_dec (fun _ => ?_) (fun _ => ?_) <;> try (exfalso; omega)) | (refine branch_ndec (fun _ => ?_) (fun _ => ?_) <;> try (exfalso; omega)) | refine guard_nbool (fun _ => ?_) (fun _ => ?_) | refine branch_nbool (fun _ => ?_) (fun _ => ?_) | refine guard_bool (fun _ => ?_) (fun _ => ?_) | refine branch_bool (fun _ => ?_) (fun _ => ?_))
              refine ⟨by trivial, ?_, by trivial, by trivial⟩
              simp [wantedA, st_get]
            · simp only [List.take_succ_cons, List.take_zero]
              repeat' (first | simp (config := { maxSteps := 4000000 }) (disch := first | assumption | (exact Nat.le_refl _) | omega | (simp only [List.length_cons, List.length_nil, List.length_append, push_len, put_len, len_app] <;> omega) | (simp (disch := (first | assumption | omega | (exact (push_len _ _).symm) | (simp only [push_len, put_len, len_app]; omega) | (refine Nat.le_antisymm ?_ ?_ <;> simp only [push_len, put_len, len_app] <;> omega) | fail)) only [get_push_last, get_push_eq, get_push_ne, get_put_eq, get_put_ne, get_app] <;> first | assumption | rfl) | (simp only [canApp_push, canApp_put]; assumption) | (exact start_round _ _) | (simp only [st_round, dfr_round, pn_round]; first | assumption | exact start_round _ _) | fail) only [goS, plainEv, resultsEv, resultListEv, reduceIte, Nat.reduceEqDiff, Option.map_some, Option.map_none, Option.bind_some, List.map_cons, List.map_nil, List.getD_cons_zero, List.getD_cons_succ, List.getElem?_toArray, List.getElem?_cons_zero, List.getElem?_cons_succ, eq_self, beq_self_eq_true, goH, List.append_nil, List.nil_append, load28, *] | (refine guard_dec (fun _ => ?_) (fun _ => ?_) <;> try (exfalso; omega)) | (refine guard_ndec (fun _ => ?_) (fun _ => ?_) <;> try (exfalso; omega)) | (refine branch_dec (fun _ => ?_) (fun _ => ?_) <;> try (exfalso; omega)) | (refine branch_ndec (fun _ => ?_) (fun _ => ?_) <;> try (exfalso; omega)) | refine guard_nbool (fun _ => ?_) (fun _ => ?_) | refine branch_nbool (fun _ => ?_) (fun _ => ?_) | refine guard_bool (fun _ => ?_) (fun _ => ?_) | refine branch_bool (fun _ => ?_) (fun _ => ?_))
              exact ⟨by trivial, by trivial⟩
        · repeat' (first | simp (config := { maxSteps := 4000000 }) (disch := first | assumption | (exact Nat.le_refl _) | omega | (simp only [List.length_cons, List.length_nil, List.length_append, push_len, put_len, len_app] <;> omega) | (simp (disch := (first | assumption | omega | (exact (push_len _ _).symm) | (simp only [push_len, put_len, len_app]; omega) | (refine Nat.le_antisymm ?_ ?_ <;> simp only [push_len, put_len, len_app] <;> omega) | fail)) only [get_push_last, get_push_eq, get_push_ne, get_put_eq, get_put_ne, get_app] <;> first | assumption | rfl) | (simp only [canApp_push, canApp_put]; assumption) | (exact start_round _ _) | (simp only [st_round, dfr_round, pn_round]; first | assumption | exact start_round _ _) | fail) only [goS, plainEv, resultsEv, resultListEv, reduceIte, Nat.reduceEqDiff, Option.map_some, Option.map_none, Option.bind_some, List.map_cons, List.map_nil, List.getD_cons_zero, List.getD_cons_succ, List.getElem?_toArray, List.getElem?_cons_zero, List.getElem?_cons_succ, eq_self, beq_self_eq_true, goH, List.append_nil, List.nil_append, rs6, prs, load28, bin_beql, *] | (refine guard_dec (fun _ => ?_) (fun _ => ?_) <;> try (exfalso; omega)) | (refine guard_ndec (fun _ => ?_) (fun _ => ?_) <;> try (exfalso; omega)) | (refine branch_dec (fun _ => ?_) (fun _ => ?_) <;> try (exfalso; omega)) | (refine branch_ndec (fun _ => ?_) (fun _ => ?_) <;> try (exfalso; omega)) | refine guard_nbool (fun _ => ?_) (fun _ => ?_) | refine branch_nbool (fun _ => ?_) (fun _ => ?_) | refine guard_bool (fun _ => ?_) (fun _ => ?_) | refine branch_bool (fun _ => ?_) (fun _ => ?_))
          exact ⟨_, rfl, trivial⟩
end Go.Proofs.YtilmhlbjjfgeoaaDoor
end
