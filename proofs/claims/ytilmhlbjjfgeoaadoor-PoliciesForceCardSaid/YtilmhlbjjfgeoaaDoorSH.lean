/-
  Part of the proof: SH.
-/
import Derived.Test.YtilmhlbjjfgeoaaDoorSG
set_option linter.unusedSimpArgs false
set_option linter.unusedVariables false
set_option linter.constructorNameAsVariable false
section
namespace Go.Proofs.YtilmhlbjjfgeoaaDoor
open Go.AE Go.Lex Go.Pol
/-! ### Resolve, of the program -/
set_option maxHeartbeats 16000000 in
set_option maxRecDepth 100000 in
theorem resolveP_ev (p : Po) (t : PT) (ok : POk p t) (few : PFew p) (h : Heap) (hok : okHeap h = true) : GivesPo W 11 [.agg (prow p t)] h (resolveF p).1 (resolveF p).2 := by
  have u23 := Tryd.underlying23
  have a3 := ag3; have a9 := ag9; have a22 := ag22; have a23 := ag23; have a24 := ag24; have a26 := ag26; have a28 := ag28; have a43 := ag43; have s26 := sz26; have s28 := sz28; have s43 := sz43; have s3 := sz3; have z28 := zc28; have z43 := zc43'
  have hlen := ok.rules.1
  have kok := Keep.mk ok
  have kfew := Keep.mk few
  have kx0 := Keep.mk ((Ext.push h (prow p t)).trans (.push _ (prow zP zT)))
  have kokh := Keep.mk hok
  suffices hs : ∃ r h', W.call 11 [.agg (prow p t)] h = some (r, h') ∧ (∃ q e t', (q, e) = resolveF p ∧ r = .ret (.tuple [.agg (prow q t'), .v (.int .i64 e)]) ∧ Ext h h' ∧ POk q t') by
    obtain ⟨r, h', q1, q, e, t', q2, rfl, q3, q4⟩ := hs
    rw [← q2]
    exact ⟨t', h', q1, q3, q4⟩
  obtain ⟨h4, c4, hx4⟩ := attempt_ev p t ok few ((h.push (prow p t)).push (prow zP zT)) hok h.boxes.length (push_old (push_last h _))
  have b5 := hx4.box h.boxes.length (prow p t) (push_old (push_last h _))
  have b6 := hx4.box (h.boxes.length + 1) (prow zP zT) (by have := push_last (h.push (prow p t)) (prow zP zT); rw [push_len] at this; exact this)
  have k4 := Keep.mk (kx0.out.trans hx4)
  have ln5 := (List.getElem?_eq_some_iff.1 b5).1
  have ln6 := (List.getElem?_eq_some_iff.1 b6).1
  have hcode : codeP p = (resolveF p).2 := rfl
  have kcode := Keep.mk hcode
  clear hx4 few hok hcode
  refine call_post rfl Tryd.func11 rfl ?_
  cases h0 : decide (codeP p = 0) with
  | false =>
    have hz : (resolveF p).1 = zP := by
      have h0 := of_decide_eq_false h0
      rw [kcode.out] at h0
      unfold resolveF at h0 ⊢
      split
      · rfl
      · split
        · rfl
        · split
          · rfl
          · rename_i q1 q2 q3
            rw [if_neg q1, if_neg q2, if_neg q3] at h0
            exact absurd rfl h0
    have kz := Keep.mk hz
    clear hz
    repeat' (first | simp (config := { maxSteps := 4000000 }) (disch := first | assumption | (exact Nat.le_refl _) | omega | (simp only [List.length_cons, List.length_nil, List.length_append, push_len, put_len, len_app] <;> omega) | (simp (disch := (first | assumption | omega | (exact (push_len _ _).symm) | (simp only [push_len, put_len, len_app]; omega) | (refine Nat.le_antisymm ?_ ?_ <;> simp only [push_len, put_len, len_app] <;> omega) | fail)) only [get_push_last, get_push_eq, get_push_ne, get_put_eq, get_put_ne, get_app] <;> first | assumption | rfl) | (simp only [canApp_push, canApp_put]; assumption) | (exact start_round _ _) | (simp only [st_round, dfr_round, pn_round]; first | assumption | exact start_round _ _) | fail) only [goS, plainEv, resultsEv, resultListEv, reduceIte, Nat.reduceEqDiff, Option.map_some, Option.map_none, Option.bind_some, List.map_cons, List.map_nil, List.getD_cons_zero, List.getD_cons_succ, List.getElem?_toArray, List.getElem?_cons_zero, List.getElem?_cons_succ, eq_self, beq_self_eq_true, goH, List.append_nil, List.nil_append, res11, fp28, fp43, prs, rrs, load28, store28, store28_3, push_len, *] | (refine guard_dec (fun _ => ?_) (fun _ => ?_) <;> try (exfalso; omega)) | (refine guard_ndec (fun _ => ?_) (fun _ => ?_) <;> try (exfalso; omega)) | (refine branch_dec (fun _ => ?_) (fun _ => ?_) <;> try (exfalso; omega)) | (refine branch_ndec (fun _ => ?_) (fun _ => ?_) <;> try (exfalso; omega)) | refine guard_nbool (fun _ => ?_) (fun _ => ?_) | refine branch_nbool (fun _ => ?_) (fun _ => ?_) | refine guard_bool (fun _ => ?_) (fun _ => ?_) | refine branch_bool (fun _ => ?_) (fun _ => ?_))
    exact ⟨_, _, rfl, zP, codeP p, zT, (by rw [← kz.out]; rfl), rfl, k4.out.put_new (b := h.boxes.length + 1) (by omega) _, zOk⟩
  | true =>
    have hres : resolveF p = (resP p, 0) := by
      have h0 := of_decide_eq_true h0
      rw [kcode.out] at h0
      unfold resolveF at h0 ⊢
      split
      · rename_i q1; rw [if_pos q1] at h0; cases h0
      · rename_i q1
        split
        · rename_i q2; rw [if_neg q1, if_pos q2] at h0; cases h0
        · rename_i q2
          split
          · rename_i q3; rw [if_neg q1, if_neg q2, if_pos q3] at h0; cases h0
          · rfl
    have kres := Keep.mk hres
    have hc0 : codeP p = 0 := of_decide_eq_true h0
    rw [hc0] at c4
    clear hres hc0 h0
    repeat' (first | simp (config := { maxSteps := 4000000 }) (disch := first | assumption | (exact Nat.le_refl _) | omega | (simp only [List.length_cons, List.length_nil, List.length_append, push_len, put_len, len_app] <;> omega) | (simp (disch := (first | assumption | omega | (exact (push_len _ _).symm) | (simp only [push_len, put_len, len_app]; omega) | (refine Nat.le_antisymm ?_ ?_ <;> simp only [push_len, put_len, len_app] <;> omega) | fail)) only [get_push_last, get_push_eq, get_push_ne, get_put_eq, get_put_ne, get_app] <;> first | assumption | rfl) | (simp only [canApp_push, canApp_put]; assumption) | (exact start_round _ _) | (simp only [st_round, dfr_round, pn_round]; first | assumption | exact start_round _ _) | fail) only [goS, plainEv, resultsEv, resultListEv, reduceIte, Nat.reduceEqDiff, Option.map_some, Option.map_none, Option.bind_some, List.map_cons, List.map_nil, List.getD_cons_zero, List.getD_cons_succ, List.getElem?_toArray, List.getElem?_cons_zero, List.getElem?_cons_succ, eq_self, beq_self_eq_true, goH, List.append_nil, List.nil_append, res11, fp28, fp43, prs, rrs, load28, store28, store28_3, push_len, put_put, *] | (refine guard_dec (fun _ => ?_) (fun _ => ?_) <;> try (exfalso; omega)) | (refine guard_ndec (fun _ => ?_) (fun _ => ?_) <;> try (exfalso; omega)) | (refine branch_dec (fun _ => ?_) (fun _ => ?_) <;> try (exfalso; omega)) | (refine branch_ndec (fun _ => ?_) (fun _ => ?_) <;> try (exfalso; omega)) | refine guard_nbool (fun _ => ?_) (fun _ => ?_) | refine branch_nbool (fun _ => ?_) (fun _ => ?_) | refine guard_bool (fun _ => ?_) (fun _ => ?_) | refine branch_bool (fun _ => ?_) (fun _ => ?_))
    refine run_loop (fun m e h' => ∃ (i : Nat) (tokR : Tok) (szR : Nat) (rowsR : List (List AV)), i ≤ p.rules.length ∧ m = p.rules.length - i ∧ e.get 1 = .ptr (.box h.boxes.length) 0 ∧ e.get 2 = .ptr (.box (h.boxes.length + 1)) 0 ∧ e.get 15 = .list t.tr t.sr t.rr ∧ e.get 16 = .v (.int .i64 (p.rules.length : Nat)) ∧ e.get 17 = .v (.int .i64 i) ∧ e.defers = [] ∧
      h'.boxes[h.boxes.length]? = some (prow p t) ∧ h'.boxes[h.boxes.length + 1]? = some (prow p { t with tr := tokR, sr := szR, rr := rowsR }) ∧ RRows (resR p.offices (p.rules.take i)) rowsR ∧ CanApp h.tn h' tokR ∧ (szR = 8 ∨ (rowsR = [] ∧ tokR = .nil)) ∧ Ext h h' ∧ okHeap h' = true) ?_ p.rules.length _ _ ?_
    · rintro m e h' ⟨i, tokR, szR, rowsR, hi, rfl, g1, g2, g15, g16, g17, hd, hb1, hb3, hrr, hca, hsr, hx, hok'⟩
      have hrl := hrr.1
      have khrr := Keep.mk hrr
      have kx := Keep.mk hx
      have kca := Keep.mk hca
      have ksr := Keep.mk hsr
      have kok' := Keep.mk hok'
      clear hrr hx hca hsr hok' c4 b5 b6
      have n3 := (List.getElem?_eq_some_iff.1 hb3).1
      have n1 := (List.getElem?_eq_some_iff.1 hb1).1
      by_cases hlt : i < p.rules.length
      · obtain ⟨y, tk2, sz2, rows2, hy, hr, hyr⟩ := RRows.get kok.out.rules hlt
        have h8 := kok.out.zr i hlt
        have hlt3 : (i : Int) < (t.rr.length : Int) := by rw [hlen]; omega
        have hlt4 : (i : Int) < (p.rules.length : Int) := by omega
        have rf8 := @rrow_fit8 y tk2 sz2 rows2
        have hbr := kok.out.br
        have hll := kfew.out.l
        obtain ⟨tok4, sz4, rows4, h5, c5, hx5, hr5⟩ := resolve_ev t.to t.so p.offices kok.out.zo kok.out.bo y.expr tk2 sz2 rows2 hyr (kfew.out.r y (List.mem_of_getElem? hy)) (h'.push (rrow y tk2 sz2 rows2)) kok'.out
        have e1 := hx5.box _ _ (push_old hb1)
        have e3 := hx5.box _ _ (push_old hb3)
        have e4 := hx5.box _ _ (push_last h' (rrow y tk2 sz2 rows2))
        have kx5 := Keep.mk ((Ext.push h' (rrow y tk2 sz2 rows2)).trans hx5)
        have khr5 := Keep.mk hr5
        have kca5 := Keep.mk (kca.out.ext kx5.out)
        have hrl2 : rowsR.length ≤ 70000 := by rw [hrl]; simp [resR]; omega
        have happ : ∀ (q : List AV) (cs : List AV), appendEv Tryd.prog (h5.put h'.boxes.length cs) #[23, 23] (.list tokR szR rowsR) (.list .tight 8 [q]) = some (.list (.free h5.tn) 8 (rowsR ++ [q]), (h5.put h'.boxes.length cs).app tokR) := fun q cs => app_rule (h := h5.put h'.boxes.length cs) (kca5.out.mono (Nat.zero_le _)) ksr.out hrl2
        have le4 := (List.getElem?_eq_some_iff.1 e4).1
        have le3 := (List.getElem?_eq_some_iff.1 e3).1
        clear hx5 hr5
        repeat' (first | simp (config := { maxSteps := 4000000 }) (disch := first | assumption | (exact Nat.le_refl _) | omega | (simp only [List.length_cons, List.length_nil, List.length_append, push_len, put_len, len_app] <;> omega) | (simp (disch := (first | assumption | omega | (exact (push_len _ _).symm) | (simp only [push_len, put_len, len_app]; omega) | (refine Nat.le_antisymm ?_ ?_ <;> simp only [push_len, put_len, len_app] <;> omega) | fail)) only [get_push_last, get_push_eq, get_push_ne, get_put_eq, get_put_ne, get_app] <;> first | assumption | rfl) | (simp only [canApp_push, canApp_put]; assumption) | (exact start_round _ _) | (simp only [st_round, dfr_round, pn_round]; first | assumption | exact start_round _ _) | fail) only [goS, plainEv, resultsEv, resultListEv, reduceIte, Nat.reduceEqDiff, Option.map_some, Option.map_none, Option.bind_some, List.map_cons, List.map_nil, List.getD_cons_zero, List.getD_cons_succ, List.getElem?_toArray, List.getElem?_cons_zero, List.getElem?_cons_succ, eq_self, beq_self_eq_true, goH, List.append_nil, List.nil_append, res11, fp28, fp43, prs, rrs, load28, store28, store28_3, load43, load43_3, store43, store43_1, store43_3, index_list, load_row_agg, build23, push_len, put_push_eq, put_push_ne, put_put, r5, *] | (refine guard_dec (fun _ => ?_) (fun _ => ?_) <;> try (exfalso; omega)) | (refine guard_ndec (fun _ => ?_) (fun _ => ?_) <;> try (exfalso; omega)) | (refine branch_dec (fun _ => ?_) (fun _ => ?_) <;> try (exfalso; omega)) | (refine branch_ndec (fun _ => ?_) (fun _ => ?_) <;> try (exfalso; omega)) | refine guard_nbool (fun _ => ?_) (fun _ => ?_) | refine branch_nbool (fun _ => ?_) (fun _ => ?_) | refine guard_bool (fun _ => ?_) (fun _ => ?_) | refine branch_bool (fun _ => ?_) (fun _ => ?_))
        refine ⟨p.rules.length - (i + 1), by omega, i + 1, .free h5.tn, 8, rowsR ++ [rrow { y with kindNo := (i : Int), expr := resE p.offices y.expr } tok4 sz4 rows4], by omega, rfl, (by first | trivial | (simp; done) | (simp; omega)), (by first | trivial | (simp; done) | (simp; omega)), (by first | trivial | (simp; done) | (simp; omega)), (by first | trivial | (simp; done) | (simp; omega)), (by first | trivial | (simp; done) | (simp; omega)), (by first | trivial | (simp; done) | (simp; omega)), ?_, ?_, ?_, ?_, .inl rfl, ?_, ?_⟩
        · rw [put_other (by omega), app_boxes, put_other (by omega)]; exact e1
        · exact put_this (by rw [app_boxes, put_len]; exact le3)
        · obtain ⟨hj, rfl⟩ := List.getElem?_eq_some_iff.1 hy
          rw [List.take_succ_eq_append_getElem hj, resR_snoc, List.length_take, Nat.min_eq_left (by omega)]
          exact RRows.snoc khrr.out (RRow.mk khr5.out)
        · exact kca5.out.next (h := h5.put h'.boxes.length _) (kx5.out.ok kok'.out) (kx.out.trans kx5.out).tn
        · exact (((kx.out.trans kx5.out).put_new (by omega) _).app (h := h5.put h'.boxes.length _) kca5.out).put_new (by omega) _
        · exact (Mut.app (b := 0) (h := h5.put h'.boxes.length _) kca5.out).ok (kx5.out.ok kok'.out)
      · have hie : i = p.rules.length := by omega
        subst hie
        have hlt4 : ¬ ((p.rules.length : Int) < (p.rules.length : Int)) := by omega
        rw [List.take_length] at khrr
        obtain ⟨tok4, sz4, rows4, h5, c5, hx5, hr5⟩ := resolve_ev t.to t.so p.offices kok.out.zo kok.out.bo p.change t.tok t.sz t.rows kok.out.expr kfew.out.c h' kok'.out
        have e3 := hx5.box _ _ hb3
        have kx5 := Keep.mk hx5
        have khr5 := Keep.mk hr5
        have le3 := (List.getElem?_eq_some_iff.1 e3).1
        clear hx5 hr5
        repeat' (first | simp (config := { maxSteps := 4000000 }) (disch := first | assumption | (exact Nat.le_refl _) | omega | (simp only [List.length_cons, List.length_nil, List.length_append, push_len, put_len, len_app] <;> omega) | (simp (disch := (first | assumption | omega | (exact (push_len _ _).symm) | (simp only [push_len, put_len, len_app]; omega) | (refine Nat.le_antisymm ?_ ?_ <;> simp only [push_len, put_len, len_app] <;> omega) | fail)) only [get_push_last, get_push_eq, get_push_ne, get_put_eq, get_put_ne, get_app] <;> first | assumption | rfl) | (simp only [canApp_push, canApp_put]; assumption) | (exact start_round _ _) | (simp only [st_round, dfr_round, pn_round]; first | assumption | exact start_round _ _) | fail) only [goS, plainEv, resultsEv, resultListEv, reduceIte, Nat.reduceEqDiff, Option.map_some, Option.map_none, Option.bind_some, List.map_cons, List.map_nil, List.getD_cons_zero, List.getD_cons_succ, List.getElem?_toArray, List.getElem?_cons_zero, List.getElem?_cons_succ, eq_self, beq_self_eq_true, goH, List.append_nil, List.nil_append, res11, fp28, fp43, prs, rrs, load28, load28_4, store28, store28_3, store28_4, push_len, put_put, p5, *] | (refine guard_dec (fun _ => ?_) (fun _ => ?_) <;> try (exfalso; omega)) | (refine guard_ndec (fun _ => ?_) (fun _ => ?_) <;> try (exfalso; omega)) | (refine branch_dec (fun _ => ?_) (fun _ => ?_) <;> try (exfalso; omega)) | (refine branch_ndec (fun _ => ?_) (fun _ => ?_) <;> try (exfalso; omega)) | refine guard_nbool (fun _ => ?_) (fun _ => ?_) | refine branch_nbool (fun _ => ?_) (fun _ => ?_) | refine guard_bool (fun _ => ?_) (fun _ => ?_) | refine branch_bool (fun _ => ?_) (fun _ => ?_))
        refine ⟨_, _, rfl, resP p, 0, { t with tr := tokR, sr := szR, rr := rowsR, tok := tok4, sz := sz4, rows := rows4 }, kres.out.symm, rfl, (kx.out.trans kx5.out).put_new (b := h.boxes.length + 1) (by omega) _, ?_⟩
        exact resP_ok kok.out khrr.out khr5.out ksr.out
    · refine ⟨0, .nil, 0, [], Nat.zero_le _, rfl, ?_, ?_, ?_, ?_, ?_, ?_, ?_, ?_, ?_, ?_, .inr ⟨rfl, rfl⟩, k4.out.put_new (by omega) _, ?_⟩
      iterate 6
        · simp only [goS, plainEv, resultsEv, resultListEv, reduceIte, Nat.reduceEqDiff, Option.map_some, Option.map_none, Option.bind_some, List.map_cons, List.map_nil, List.getD_cons_zero, List.getD_cons_succ, List.getElem?_toArray, List.getElem?_cons_zero, List.getElem?_cons_succ, eq_self, beq_self_eq_true, goH, hlen] <;> rfl
      · simp (disch := (first | assumption | omega | (exact (push_len _ _).symm) | (simp only [push_len, put_len, len_app]; omega) | (refine Nat.le_antisymm ?_ ?_ <;> simp only [push_len, put_len, len_app] <;> omega) | fail)) only [get_push_last, get_push_eq, get_push_ne, get_put_eq, get_put_ne, get_app]; exact b5
      · exact put_this ln6
      · exact RRows.nil
      · exact .inl rfl
      · exact k4.out.ok kokh.out
end Go.Proofs.YtilmhlbjjfgeoaaDoor
end

section
namespace Go.Proofs.YtilmhlbjjfgeoaaDoor
open Go.AE Go.Lex Go.Pol
/-! ### Check -/
noncomputable def checkP (p : Po) : Int := if codeP p = 0 then (if sameP (resP p) p = true then 0 else 200) else codeP p
theorem resP_iff {p : Po} : sameP (resP p) p = true ↔ (∀ (j : Nat) (x : Rl), p.rules[j]? = some x → x.kindNo = (j : Int) ∧ isRes p.offices x.expr = true) ∧ isRes p.offices p.change = true := by
  rw [sameP_iff]
  constructor
  · intro q
    have q1 : (resP p).rules = p.rules := by rw [q]
    have q2 : (resP p).change = p.change := by rw [q]
    refine ⟨fun j x hx => ?_, (isRes_iff _ _).2 q2⟩
    have q3 : (resR p.offices p.rules)[j]? = some x := by
      have : resR p.offices p.rules = p.rules := q1
      rw [this]; exact hx
    unfold resR at q3
    rw [List.getElem?_mapIdx, hx] at q3
    simp only [Option.map_some, Option.some.injEq] at q3
    have e1 : (j : Int) = x.kindNo := by rw [← q3]
    have e2 : resE p.offices x.expr = x.expr := by
      have := congrArg Rl.expr q3
      exact this
    exact ⟨e1.symm, (isRes_iff _ _).2 e2⟩
  · rintro ⟨q1, q2⟩
    have e1 : resR p.offices p.rules = p.rules := by
      unfold resR
      refine List.ext_getElem? fun j => ?_
      rw [List.getElem?_mapIdx]
      cases hx : p.rules[j]? with
      | none => rfl
      | some x =>
        obtain ⟨w1, w2⟩ := q1 j x hx
        simp only [Option.map_some, Option.some.injEq]
        rw [(isRes_iff _ _).1 w2, ← w1]
    have e2 := (isRes_iff _ _).1 q2
    show ({ p with rules := resR p.offices p.rules, change := resE p.offices p.change } : Po) = p
    rw [e1, e2]
theorem res14 : Tryd.f14.results.toList = [.tmp 2] := by kernel_rfl
theorem res15 : Tryd.f15.results.toList = [.tmp 2] := by kernel_rfl
theorem code_ne {p : Po} (h : codeP p ≠ 0) : checkP p = codeP p := by unfold checkP; rw [if_neg h]
set_option maxHeartbeats 16000000 in
set_option maxRecDepth 100000 in
theorem refCheck_ev (p : Po) (t : PT) (ok : POk p t) (few : PFew p) (h : Heap) (hok : okHeap h = true) : Says W 15 [.agg (prow p t)] h (.ret (.v (.int .i64 (checkP p)))) := by
  have a28 := ag28; have z28 := zc28; have s28 := sz28
  obtain ⟨t2, h2, c2, x2, ok2⟩ := refResolve_ev p t ok few (h.push (prow p t)) hok
  obtain ⟨h3, c3, x3⟩ := same_ev (resolveF p).1 p t2 t ok2 ok (h2.push (prow (resolveF p).1 t2))
  have b1 := x2.box _ _ (push_last h (prow p t))
  have n1 := (List.getElem?_eq_some_iff.1 b1).1
  have k2 := Keep.mk (((Ext.push h (prow p t)).trans x2).trans (.push _ (prow (resolveF p).1 t2)))
  have k3 := Keep.mk ((((Ext.push h (prow p t)).trans x2).trans (.push _ (prow (resolveF p).1 t2))).trans x3)
  have hcode : codeP p = (resolveF p).2 := rfl
  rw [← hcode] at c2
  have kcode := Keep.mk hcode
  clear x2 x3 ok2 few hok hcode
  refine call_ex rfl Tryd.func15 rfl ?_
  cases h0 : decide (codeP p = 0) with
  | false =>
    rw [code_ne (of_decide_eq_false h0)]
    repeat' (first | simp (config := { maxSteps := 4000000 }) (disch := first | assumption | (exact Nat.le_refl _) | omega | (simp only [List.length_cons, List.length_nil, List.length_append, push_len, put_len, len_app] <;> omega) | (simp (disch := (first | assumption | omega | (exact (push_len _ _).symm) | (simp only [push_len, put_len, len_app]; omega) | (refine Nat.le_antisymm ?_ ?_ <;> simp only [push_len, put_len, len_app] <;> omega) | fail)) only [get_push_last, get_push_eq, get_push_ne, get_put_eq, get_put_ne, get_app] <;> first | assumption | rfl) | (simp only [canApp_push, canApp_put]; assumption) | (exact start_round _ _) | (simp only [st_round, dfr_round, pn_round]; first | assumption | exact start_round _ _) | fail) only [goS, plainEv, resultsEv, resultListEv, reduceIte, Nat.reduceEqDiff, Option.map_some, Option.map_none, Option.bind_some, List.map_cons, List.map_nil, List.getD_cons_zero, List.getD_cons_succ, List.getElem?_toArray, List.getElem?_cons_zero, List.getElem?_cons_succ, eq_self, beq_self_eq_true, goH, List.append_nil, List.nil_append, res15, prs, load28, store28, put_push_eq, push_len, *] | (refine guard_dec (fun _ => ?_) (fun _ => ?_) <;> try (exfalso; omega)) | (refine guard_ndec (fun _ => ?_) (fun _ => ?_) <;> try (exfalso; omega)) | (refine branch_dec (fun _ => ?_) (fun _ => ?_) <;> try (exfalso; omega)) | (refine branch_ndec (fun _ => ?_) (fun _ => ?_) <;> try (exfalso; omega)) | refine guard_nbool (fun _ => ?_) (fun _ => ?_) | refine branch_nbool (fun _ => ?_) (fun _ => ?_) | refine guard_bool (fun _ => ?_) (fun _ => ?_) | refine branch_bool (fun _ => ?_) (fun _ => ?_))
    exact ⟨_, rfl, k2.out⟩
  | true =>
    have h1 := of_decide_eq_true h0
    have hr : (resolveF p).1 = resP p := by
      rw [kcode.out] at h1
      unfold resolveF at h1 ⊢
      split
      · rename_i q1; rw [if_pos q1] at h1; cases h1
      · rename_i q1
        split
        · rename_i q2; rw [if_neg q1, if_pos q2] at h1; cases h1
        · rename_i q2
          split
          · rename_i q3; rw [if_neg q1, if_neg q2, if_pos q3] at h1; cases h1
          · rfl
    unfold checkP
    rw [if_pos h1]
    rw [hr] at c2 c3
    cases hs : sameP (resP p) p with
    | false =>
      rw [hs] at c3
      clear h1 hs
      repeat' (first | simp (config := { maxSteps := 4000000 }) (disch := first | assumption | (exact Nat.le_refl _) | omega | (simp only [List.length_cons, List.length_nil, List.length_append, push_len, put_len, len_app] <;> omega) | (simp (disch := (first | assumption | omega | (exact (push_len _ _).symm) | (simp only [push_len, put_len, len_app]; omega) | (refine Nat.le_antisymm ?_ ?_ <;> simp only [push_len, put_len, len_app] <;> omega) | fail)) only [get_push_last, get_push_eq, get_push_ne, get_put_eq, get_put_ne, get_app] <;> first | assumption | rfl) | (simp only [canApp_push, canApp_put]; assumption) | (exact start_round _ _) | (simp only [st_round, dfr_round, pn_round]; first | assumption | exact start_round _ _) | fail) only [goS, plainEv, resultsEv, resultListEv, reduceIte, Nat.reduceEqDiff, Option.map_some, Option.map_none, Option.bind_some, List.map_cons, List.map_nil, List.getD_cons_zero, List.getD_cons_succ, List.getElem?_toArray, List.getElem?_cons_zero, List.getElem?_cons_succ, eq_self, beq_self_eq_true, goH, List.append_nil, List.nil_append, res15, prs, load28, store28, put_push_eq, push_len, *] | (refine guard_dec (fun _ => ?_) (fun _ => ?_) <;> try (exfalso; omega)) | (refine guard_ndec (fun _ => ?_) (fun _ => ?_) <;> try (exfalso; omega)) | (refine branch_dec (fun _ => ?_) (fun _ => ?_) <;> try (exfalso; omega)) | (refine branch_ndec (fun _ => ?_) (fun _ => ?_) <;> try (exfalso; omega)) | refine guard_nbool (fun _ => ?_) (fun _ => ?_) | refine branch_nbool (fun _ => ?_) (fun _ => ?_) | refine guard_bool (fun _ => ?_) (fun _ => ?_) | refine branch_bool (fun _ => ?_) (fun _ => ?_))
      exact ⟨_, rfl, k3.out⟩
    | true =>
      rw [hs] at c3
      clear h1 hs
      repeat' (first | simp (config := { maxSteps := 4000000 }) (disch := first | assumption | (exact Nat.le_refl _) | omega | (simp only [List.length_cons, List.length_nil, List.length_append, push_len, put_len, len_app] <;> omega) | (simp (disch := (first | assumption | omega | (exact (push_len _ _).symm) | (simp only [push_len, put_len, len_app]; omega) | (refine Nat.le_antisymm ?_ ?_ <;> simp only [push_len, put_len, len_app] <;> omega) | fail)) only [get_push_last, get_push_eq, get_push_ne, get_put_eq, get_put_ne, get_app] <;> first | assumption | rfl) | (simp only [canApp_push, canApp_put]; assumption) | (exact start_round _ _) | (simp only [st_round, dfr_round, pn_round]; first | assumption | exact start_round _ _) | fail) only [goS, plainEv, resultsEv, resultListEv, reduceIte, Nat.reduceEqDiff, Option.map_some, Option.map_none, Option.bind_some, List.map_cons, List.map_nil, List.getD_cons_zero, List.getD_cons_succ, List.getElem?_toArray, List.getElem?_cons_zero, List.getElem?_cons_succ, eq_self, beq_self_eq_true, goH, List.append_nil, List.nil_append, res15, prs, load28, store28, put_push_eq, push_len, *] | (refine guard_dec (fun _ => ?_) (fun _ => ?_) <;> try (exfalso; omega)) | (refine guard_ndec (fun _ => ?_) (fun _ => ?_) <;> try (exfalso; omega)) | (refine branch_dec (fun _ => ?_) (fun _ => ?_) <;> try (exfalso; omega)) | (refine branch_ndec (fun _ => ?_) (fun _ => ?_) <;> try (exfalso; omega)) | refine guard_nbool (fun _ => ?_) (fun _ => ?_) | refine branch_nbool (fun _ => ?_) (fun _ => ?_) | refine guard_bool (fun _ => ?_) (fun _ => ?_) | refine branch_bool (fun _ => ?_) (fun _ => ?_))
      exact ⟨_, rfl, k3.out⟩
set_option maxHeartbeats 16000000 in
set_option maxRecDepth 100000 in
theorem check_ev (p : Po) (t : PT) (ok : POk p t) (few : PFew p) (h : Heap) (hok : okHeap h = true) : Says W 14 [.agg (prow p t)] h (.ret (.v (.int .i64 (checkP p)))) := by
  have u23 := Tryd.underlying23
  have a3 := ag3; have a22 := ag22; have a23 := ag23; have a28 := ag28; have a43 := ag43; have a26 := ag26; have s28 := sz28; have s43 := sz43; have z43 := zc43'
  obtain ⟨t2, h2, c2, x2, ok2⟩ := resolveP_ev p t ok few (h.push (prow p t)) hok
  have b1 := x2.box _ _ (push_last h (prow p t))
  have n1 := (List.getElem?_eq_some_iff.1 b1).1
  have k2 := Keep.mk ((Ext.push h (prow p t)).trans x2)
  have hcode : codeP p = (resolveF p).2 := rfl
  rw [← hcode] at c2
  have kok := Keep.mk ok
  have kfew := Keep.mk few
  have hlen := ok.rules.1
  clear x2 ok2 few hok hcode
  refine call_ex rfl Tryd.func14 rfl ?_
  cases h0 : decide (codeP p = 0) with
  | false =>
    rw [code_ne (of_decide_eq_false h0)]
    repeat' (first | simp (config := { maxSteps := 4000000 }) (disch := first | assumption | (exact Nat.le_refl _) | omega | (simp only [List.length_cons, List.length_nil, List.length_append, push_len, put_len, len_app] <;> omega) | (simp (disch := (first | assumption | omega | (exact (push_len _ _).symm) | (simp only [push_len, put_len, len_app]; omega) | (refine Nat.le_antisymm ?_ ?_ <;> simp only [push_len, put_len, len_app] <;> omega) | fail)) only [get_push_last, get_push_eq, get_push_ne, get_put_eq, get_put_ne, get_app] <;> first | assumption | rfl) | (simp only [canApp_push, canApp_put]; assumption) | (exact start_round _ _) | (simp only [st_round, dfr_round, pn_round]; first | assumption | exact start_round _ _) | fail) only [goS, plainEv, resultsEv, resultListEv, reduceIte, Nat.reduceEqDiff, Option.map_some, Option.map_none, Option.bind_some, List.map_cons, List.map_nil, List.getD_cons_zero, List.getD_cons_succ, List.getElem?_toArray, List.getElem?_cons_zero, List.getElem?_cons_succ, eq_self, beq_self_eq_true, goH, List.append_nil, List.nil_append, res14, prs, load28, *] | (refine guard_dec (fun _ => ?_) (fun _ => ?_) <;> try (exfalso; omega)) | (refine guard_ndec (fun _ => ?_) (fun _ => ?_) <;> try (exfalso; omega)) | (refine branch_dec (fun _ => ?_) (fun _ => ?_) <;> try (exfalso; omega)) | (refine branch_ndec (fun _ => ?_) (fun _ => ?_) <;> try (exfalso; omega)) | refine guard_nbool (fun _ => ?_) (fun _ => ?_) | refine branch_nbool (fun _ => ?_) (fun _ => ?_) | refine guard_bool (fun _ => ?_) (fun _ => ?_) | refine branch_bool (fun _ => ?_) (fun _ => ?_))
    exact ⟨_, rfl, k2.out⟩
  | true =>
    have h1 := of_decide_eq_true h0
    have hck : checkP p = if sameP (resP p) p = true then 0 else 200 := by unfold checkP; rw [if_pos h1]
    rw [hck]
    clear hck h1
    have bad : ∀ (hh : Heap), Ext h hh → sameP (resP p) p = false → ∃ h', (some (Res.ret (AV.v (.int .i64 200)), hh) : Option (Res × Heap)) = some (.ret (.v (.int .i64 (if sameP (resP p) p = true then 0 else 200))), h') ∧ Ext h h' := fun hh hx q => ⟨hh, by rw [q]; rfl, hx⟩
    have kbad := Keep.mk bad
    clear bad
    repeat' (first | simp (config := { maxSteps := 4000000 }) (disch := first | assumption | (exact Nat.le_refl _) | omega | (simp only [List.length_cons, List.length_nil, List.length_append, push_len, put_len, len_app] <;> omega) | (simp (disch := (first | assumption | omega | (exact (push_len _ _).symm) | (simp only [push_len, put_len, len_app]; omega) | (refine Nat.le_antisymm ?_ ?_ <;> simp only [push_len, put_len, len_app] <;> omega) | fail)) only [get_push_last, get_push_eq, get_push_ne, get_put_eq, get_put_ne, get_app] <;> first | assumption | rfl) | (simp only [canApp_push, canApp_put]; assumption) | (exact start_round _ _) | (simp only [st_round, dfr_round, pn_round]; first | assumption | exact start_round _ _) | fail) only [goS, plainEv, resultsEv, resultListEv, reduceIte, Nat.reduceEqDiff, Option.map_some, Option.map_none, Option.bind_some, List.map_cons, List.map_nil, List.getD_cons_zero, List.getD_cons_succ, List.getElem?_toArray, List.getElem?_cons_zero, List.getElem?_cons_succ, eq_self, beq_self_eq_true, goH, List.append_nil, List.nil_append, res14, prs, load28, fp28, *] | (refine guard_dec (fun _ => ?_) (fun _ => ?_) <;> try (exfalso; omega)) | (refine guard_ndec (fun _ => ?_) (fun _ => ?_) <;> try (exfalso; omega)) | (refine branch_dec (fun _ => ?_) (fun _ => ?_) <;> try (exfalso; omega)) | (refine branch_ndec (fun _ => ?_) (fun _ => ?_) <;> try (exfalso; omega)) | refine guard_nbool (fun _ => ?_) (fun _ => ?_) | refine branch_nbool (fun _ => ?_) (fun _ => ?_) | refine guard_bool (fun _ => ?_) (fun _ => ?_) | refine branch_bool (fun _ => ?_) (fun _ => ?_))
    refine run_loop (fun m e h' => ∃ (i : Nat), i ≤ p.rules.length ∧ m = p.rules.length - i ∧ e.get 1 = .ptr (.box h.boxes.length) 0 ∧ e.get 14 = .list t.tr t.sr t.rr ∧ e.get 15 = .v (.int .i64 (p.rules.length : Nat)) ∧ e.get 16 = .v (.int .i64 i) ∧ e.defers = [] ∧ Ext h h' ∧ h'.boxes[h.boxes.length]? = some (prow p t) ∧ ∀ (j : Nat) (x : Rl), j < i → p.rules[j]? = some x → x.kindNo = (j : Int) ∧ isRes p.offices x.expr = true) ?_ p.rules.length _ _ ?_
    · rintro m e h' ⟨i, hi, rfl, g1, g14, g15, g16, hd, hx, hb, hno⟩
      have kx := Keep.mk hx
      have kno := Keep.mk hno
      clear hx hno c2 b1
      have n1' := (List.getElem?_eq_some_iff.1 hb).1
      have hbr := kok.out.br
      by_cases hlt : i < p.rules.length
      · obtain ⟨y, tok, sz, rows, hy, hr, hyr⟩ := RRows.get kok.out.rules hlt
        have h8 := kok.out.zr i hlt
        have hlt3 : (i : Int) < (t.rr.length : Int) := by rw [hlen]; omega
        have hlt5 : (i : Int) < (p.rules.length : Int) := by omega
        have rf8 := @rrow_fit8 y tok sz rows
        have nb : h.boxes.length ≠ h'.boxes.length := by omega
        obtain ⟨h4, c4, hx4⟩ := resolved_ev t.to t.so p.offices kok.out.zo kok.out.bo y.expr _ hyr (kfew.out.r y (List.mem_of_getElem? hy)) (h'.push (rrow y tok sz rows))
        have kx4 := Keep.mk ((kx.out.trans (.push _ (rrow y tok sz rows))).trans hx4)
        have kx3 := Keep.mk (kx.out.trans (.push _ (rrow y tok sz rows)))
        have kb4 := Keep.mk (hx4.box _ _ (push_old hb))
        clear hx4
        cases e1 : decide (y.kindNo = (i : Int)) with
        | false =>
          have hs : sameP (resP p) p = false := by
            rw [Bool.eq_false_iff]
            intro q
            have := ((resP_iff.1 q).1 i y hy).1
            exact of_decide_eq_false e1 this
          have kfin := Keep.mk (fun hh hx => kbad.out hh hx hs)
          clear hs
          repeat' (first | simp (config := { maxSteps := 4000000 }) (disch := first | assumption | (exact Nat.le_refl _) | omega | (simp only [List.length_cons, List.length_nil, List.length_append, push_len, put_len, len_app] <;> omega) | (simp (disch := (first | assumption | omega | (exact (push_len _ _).symm) | (simp only [push_len, put_len, len_app]; omega) | (refine Nat.le_antisymm ?_ ?_ <;> simp only [push_len, put_len, len_app] <;> omega) | fail)) only [get_push_last, get_push_eq, get_push_ne, get_put_eq, get_put_ne, get_app] <;> first | assumption | rfl) | (simp only [canApp_push, canApp_put]; assumption) | (exact start_round _ _) | (simp only [st_round, dfr_round, pn_round]; first | assumption | exact start_round _ _) | fail) only [goS, plainEv, resultsEv, resultListEv, reduceIte, Nat.reduceEqDiff, Option.map_some, Option.map_none, Option.bind_some, List.map_cons, List.map_nil, List.getD_cons_zero, List.getD_cons_succ, List.getElem?_toArray, List.getElem?_cons_zero, List.getElem?_cons_succ, eq_self, beq_self_eq_true, goH, List.append_nil, List.nil_append, res14, fp28, fp43, prs, rrs, load43, load43_3, store43, index_list, load_row_agg, put_push_eq, put_push_ne, push_len, *] | (refine guard_dec (fun _ => ?_) (fun _ => ?_) <;> try (exfalso; omega)) | (refine guard_ndec (fun _ => ?_) (fun _ => ?_) <;> try (exfalso; omega)) | (refine branch_dec (fun _ => ?_) (fun _ => ?_) <;> try (exfalso; omega)) | (refine branch_ndec (fun _ => ?_) (fun _ => ?_) <;> try (exfalso; omega)) | refine guard_nbool (fun _ => ?_) (fun _ => ?_) | refine branch_nbool (fun _ => ?_) (fun _ => ?_) | refine guard_bool (fun _ => ?_) (fun _ => ?_) | refine branch_bool (fun _ => ?_) (fun _ => ?_))
          exact kfin.out _ kx3.out
        | true =>
          cases e2 : isRes p.offices y.expr with
          | false =>
            rw [e2] at c4
            have hs : sameP (resP p) p = false := by
              rw [Bool.eq_false_iff]
              intro q
              have := ((resP_iff.1 q).1 i y hy).2
              rw [e2] at this; cases this
            have kfin := Keep.mk (fun hh hx => kbad.out hh hx hs)
            clear hs
            repeat' (first | simp (config := { maxSteps := 4000000 }) (disch := first | assumption | (exact Nat.le_refl _) | omega | (simp only [List.length_cons, List.length_nil, List.length_append, push_len, put_len, len_app] <;> omega) | (simp (disch := (first | assumption | omega | (exact (push_len _ _).symm) | (simp only [push_len, put_len, len_app]; omega) | (refine Nat.le_antisymm ?_ ?_ <;> simp only [push_len, put_len, len_app] <;> omega) | fail)) only [get_push_last, get_push_eq, get_push_ne, get_put_eq, get_put_ne, get_app] <;> first | assumption | rfl) | (simp only [canApp_push, canApp_put]; assumption) | (exact start_round _ _) | (simp only [st_round, dfr_round, pn_round]; first | assumption | exact start_round _ _) | fail) only [goS, plainEv, resultsEv, resultListEv, reduceIte, Nat.reduceEqDiff, Option.map_some, Option.map_none, Option.bind_some, List.map_cons, List.map_nil, List.getD_cons_zero, List.getD_cons_succ, List.getElem?_toArray, List.getElem?_cons_zero, List.getElem?_cons_succ, eq_self, beq_self_eq_true, goH, List.append_nil, List.nil_append, res14, fp28, fp43, prs, rrs, load43, load43_3, store43, index_list, load_row_agg, put_push_eq, put_push_ne, push_len, *] | (refine guard_dec (fun _ => ?_) (fun _ => ?_) <;> try (exfalso; omega)) | (refine guard_ndec (fun _ => ?_) (fun _ => ?_) <;> try (exfalso; omega)) | (refine branch_dec (fun _ => ?_) (fun _ => ?_) <;> try (exfalso; omega)) | (refine branch_ndec (fun _ => ?_) (fun _ => ?_) <;> try (exfalso; omega)) | refine guard_nbool (fun _ => ?_) (fun _ => ?_) | refine branch_nbool (fun _ => ?_) (fun _ => ?_) | refine guard_bool (fun _ => ?_) (fun _ => ?_) | refine branch_bool (fun _ => ?_) (fun _ => ?_))
            exact kfin.out _ kx4.out
          | true =>
            rw [e2] at c4
            have ke1 := Keep.mk (of_decide_eq_true e1)
            have ke2 := Keep.mk e2
            repeat' (first | simp (config := { maxSteps := 4000000 }) (disch := first | assumption | (exact Nat.le_refl _) | omega | (simp only [List.length_cons, List.length_nil, List.length_append, push_len, put_len, len_app] <;> omega) | (simp (disch := (first | assumption | omega | (exact (push_len _ _).symm) | (simp only [push_len, put_len, len_app]; omega) | (refine Nat.le_antisymm ?_ ?_ <;> simp only [push_len, put_len, len_app] <;> omega) | fail)) only [get_push_last, get_push_eq, get_push_ne, get_put_eq, get_put_ne, get_app] <;> first | assumption | rfl) | (simp only [canApp_push, canApp_put]; assumption) | (exact start_round _ _) | (simp only [st_round, dfr_round, pn_round]; first | assumption | exact start_round _ _) | fail) only [goS, plainEv, resultsEv, resultListEv, reduceIte, Nat.reduceEqDiff, Option.map_some, Option.map_none, Option.bind_some, List.map_cons, List.map_nil, List.getD_cons_zero, List.getD_cons_succ, List.getElem?_toArray, List.getElem?_cons_zero, List.getElem?_cons_succ, eq_self, beq_self_eq_true, goH, List.append_nil, List.nil_append, res14, fp28, fp43, prs, rrs, load43, load43_3, store43, index_list, load_row_agg, put_push_eq, put_push_ne, push_len, *] | (refine guard_dec (fun _ => ?_) (fun _ => ?_) <;> try (exfalso; omega)) | (refine guard_ndec (fun _ => ?_) (fun _ => ?_) <;> try (exfalso; omega)) | (refine branch_dec (fun _ => ?_) (fun _ => ?_) <;> try (exfalso; omega)) | (refine branch_ndec (fun _ => ?_) (fun _ => ?_) <;> try (exfalso; omega)) | refine guard_nbool (fun _ => ?_) (fun _ => ?_) | refine branch_nbool (fun _ => ?_) (fun _ => ?_) | refine guard_bool (fun _ => ?_) (fun _ => ?_) | refine branch_bool (fun _ => ?_) (fun _ => ?_))
            refine ⟨p.rules.length - (i + 1), by omega, i + 1, by omega, rfl, (by first | trivial | (simp; done) | (simp; omega)), (by first | trivial | (simp; done) | (simp; omega)), (by first | trivial | (simp; done) | (simp; omega)), (by first | trivial | (simp; done) | (simp; omega)), (by first | trivial | (simp; done) | (simp; omega)), kx4.out, kb4.out, fun j x hj hx => ?_⟩
            rcases Nat.lt_or_ge j i with w | w
            · exact kno.out j x w hx
            · have : j = i := by omega
              subst this
              rw [hy] at hx; injection hx with hx; subst hx; exact ⟨ke1.out, ke2.out⟩
      · have hie : i = p.rules.length := by omega
        subst hie
        have hlt5 : ¬ ((p.rules.length : Int) < (p.rules.length : Int)) := by omega
        obtain ⟨h4, c4, hx4⟩ := resolved_ev t.to t.so p.offices kok.out.zo kok.out.bo p.change _ kok.out.expr kfew.out.c h'
        have kx4 := Keep.mk (kx.out.trans hx4)
        clear hx4
        cases e2 : isRes p.offices p.change with
        | false =>
          rw [e2] at c4
          have hs : sameP (resP p) p = false := by
            rw [Bool.eq_false_iff]
            intro q
            have := (resP_iff.1 q).2
            rw [e2] at this; cases this
          have kfin := Keep.mk (fun hh hx => kbad.out hh hx hs)
          clear hs
          repeat' (first | simp (config := { maxSteps := 4000000 }) (disch := first | assumption | (exact Nat.le_refl _) | omega | (simp only [List.length_cons, List.length_nil, List.length_append, push_len, put_len, len_app] <;> omega) | (simp (disch := (first | assumption | omega | (exact (push_len _ _).symm) | (simp only [push_len, put_len, len_app]; omega) | (refine Nat.le_antisymm ?_ ?_ <;> simp only [push_len, put_len, len_app] <;> omega) | fail)) only [get_push_last, get_push_eq, get_push_ne, get_put_eq, get_put_ne, get_app] <;> first | assumption | rfl) | (simp only [canApp_push, canApp_put]; assumption) | (exact start_round _ _) | (simp only [st_round, dfr_round, pn_round]; first | assumption | exact start_round _ _) | fail) only [goS, plainEv, resultsEv, resultListEv, reduceIte, Nat.reduceEqDiff, Option.map_some, Option.map_none, Option.bind_some, List.map_cons, List.map_nil, List.getD_cons_zero, List.getD_cons_succ, List.getElem?_toArray, List.getElem?_cons_zero, List.getElem?_cons_succ, eq_self, beq_self_eq_true, goH, List.append_nil, List.nil_append, res14, fp28, prs, load28_4, *] | (refine guard_dec (fun _ => ?_) (fun _ => ?_) <;> try (exfalso; omega)) | (refine guard_ndec (fun _ => ?_) (fun _ => ?_) <;> try (exfalso; omega)) | (refine branch_dec (fun _ => ?_) (fun _ => ?_) <;> try (exfalso; omega)) | (refine branch_ndec (fun _ => ?_) (fun _ => ?_) <;> try (exfalso; omega)) | refine guard_nbool (fun _ => ?_) (fun _ => ?_) | refine branch_nbool (fun _ => ?_) (fun _ => ?_) | refine guard_bool (fun _ => ?_) (fun _ => ?_) | refine branch_bool (fun _ => ?_) (fun _ => ?_))
          exact kfin.out _ kx4.out
        | true =>
          rw [e2] at c4
          have hs : sameP (resP p) p = true := resP_iff.2 ⟨fun j x hx => kno.out j x (List.getElem?_eq_some_iff.1 hx).1 hx, e2⟩
          rw [hs]
          repeat' (first | simp (config := { maxSteps := 4000000 }) (disch := first | assumption | (exact Nat.le_refl _) | omega | (simp only [List.length_cons, List.length_nil, List.length_append, push_len, put_len, len_app] <;> omega) | (simp (disch := (first | assumption | omega | (exact (push_len _ _).symm) | (simp only [push_len, put_len, len_app]; omega) | (refine Nat.le_antisymm ?_ ?_ <;> simp only [push_len, put_len, len_app] <;> omega) | fail)) only [get_push_last, get_push_eq, get_push_ne, get_put_eq, get_put_ne, get_app] <;> first | assumption | rfl) | (simp only [canApp_push, canApp_put]; assumption) | (exact start_round _ _) | (simp only [st_round, dfr_round, pn_round]; first | assumption | exact start_round _ _) | fail) only [goS, plainEv, resultsEv, resultListEv, reduceIte, Nat.reduceEqDiff, Option.map_some, Option.map_none, Option.bind_some, List.map_cons, List.map_nil, List.getD_cons_zero, List.getD_cons_succ, List.getElem?_toArray, List.getElem?_cons_zero, List.getElem?_cons_succ, eq_self, beq_self_eq_true, goH, List.append_nil, List.nil_append, res14, fp28, prs, load28_4, *] | (refine guard_dec (fun _ => ?_) (fun _ => ?_) <;> try (exfalso; omega)) | (refine guard_ndec (fun _ => ?_) (fun _ => ?_) <;> try (exfalso; omega)) | (refine branch_dec (fun _ => ?_) (fun _ => ?_) <;> try (exfalso; omega)) | (refine branch_ndec (fun _ => ?_) (fun _ => ?_) <;> try (exfalso; omega)) | refine guard_nbool (fun _ => ?_) (fun _ => ?_) | refine branch_nbool (fun _ => ?_) (fun _ => ?_) | refine guard_bool (fun _ => ?_) (fun _ => ?_) | refine branch_bool (fun _ => ?_) (fun _ => ?_))
          exact ⟨_, rfl, kx4.out⟩
    · refine ⟨0, Nat.zero_le _, rfl, ?_, ?_, ?_, ?_, ?_, k2.out, b1, fun j x hj => absurd hj (Nat.not_lt_zero j)⟩ <;> simp only [goS, plainEv, resultsEv, resultListEv, reduceIte, Nat.reduceEqDiff, Option.map_some, Option.map_none, Option.bind_some, List.map_cons, List.map_nil, List.getD_cons_zero, List.getD_cons_succ, List.getElem?_toArray, List.getElem?_cons_zero, List.getElem?_cons_succ, eq_self, beq_self_eq_true, goH, hlen] <;> rfl
end Go.Proofs.YtilmhlbjjfgeoaaDoor
end

section
namespace Go.Proofs.YtilmhlbjjfgeoaaDoor
open Go.AE Go.Lex Go.Pol
/-! ### Versions in memory -/
structure Vs where
  no : Int
  at_ : Int
  known : Int
  pol : Po
def vrow (x : Vs) (t : PT) : List AV := .v (.int .i64 x.no) :: .v (.int .i64 x.at_) :: .v (.int .i64 x.known) :: prow x.pol t
def VRows (l : List Vs) (rows : List (List AV)) : Prop := rows.length = l.length ∧ ∀ (i : Nat) (x : Vs) (r : List AV), l[i]? = some x → rows[i]? = some r → ∃ t, r = vrow x t ∧ POk x.pol t
theorem VRows.get {l : List Vs} {rr : List (List AV)} (h : VRows l rr) {i : Nat} (hi : i < l.length) : ∃ x t, l[i]? = some x ∧ rr[i]? = some (vrow x t) ∧ POk x.pol t := by
  have hr : i < rr.length := by rw [h.1]; exact hi
  obtain ⟨t, h1, h2⟩ := h.2 i _ _ (List.getElem?_eq_getElem hi) (List.getElem?_eq_getElem hr)
  exact ⟨l[i], t, List.getElem?_eq_getElem hi, by rw [List.getElem?_eq_getElem hr, h1], h2⟩
section
variable {x x' : Vs} {t t' : PT}
theorem vrow_len : (vrow x t).length = 13 := rfl
theorem vrow_fit13 : 13 ≤ ((vrow x t).drop 0).length := by simp [vrow_len]
theorem vrow_fit10 : 10 ≤ ((vrow x t).drop 3).length := by simp [vrow_len]
end
theorem vrs : (∀ (x : Vs) (t : PT), (AV.agg (vrow x t)).cellsO = some (vrow x t)) ∧ (∀ (x : Vs) (t : PT), ((vrow x t).drop 0).head? = some (.v (.int .i64 x.no))) ∧ (∀ (x : Vs) (t : PT), ((vrow x t).drop 1).head? = some (.v (.int .i64 x.at_))) ∧ (∀ (x : Vs) (t : PT), ((vrow x t).drop 2).head? = some (.v (.int .i64 x.known))) ∧
    (∀ (x : Vs) (t : PT), ((vrow x t).drop 3).take 10 = prow x.pol t) ∧ (∀ (x : Vs) (t : PT), ((vrow x t).drop 0).take 13 = vrow x t) := ⟨fun _ _ => rfl, fun _ _ => rfl, fun _ _ => rfl, fun _ _ => rfl, fun _ _ => rfl, fun _ _ => rfl⟩
theorem fp52 : (∀ (r : Ref) (off : Nat), fieldAddrEv Tryd.prog 52 (.ptr r off) 0 = some (.ptr r (off + 0))) ∧ (∀ (r : Ref) (off : Nat), fieldAddrEv Tryd.prog 52 (.ptr r off) 1 = some (.ptr r (off + 1))) ∧ (∀ (r : Ref) (off : Nat), fieldAddrEv Tryd.prog 52 (.ptr r off) 2 = some (.ptr r (off + 2))) ∧ (∀ (r : Ref) (off : Nat), fieldAddrEv Tryd.prog 52 (.ptr r off) 3 = some (.ptr r (off + 3))) ∧
    (∀ (sz : Nat) (es : List (List AV)) (i off : Nat), fieldAddrEv Tryd.prog 52 (.elem sz es i off) 0 = some (.elem sz es i (off + 0))) ∧ (∀ (sz : Nat) (es : List (List AV)) (i off : Nat), fieldAddrEv Tryd.prog 52 (.elem sz es i off) 1 = some (.elem sz es i (off + 1))) ∧ (∀ (sz : Nat) (es : List (List AV)) (i off : Nat), fieldAddrEv Tryd.prog 52 (.elem sz es i off) 2 = some (.elem sz es i (off + 2))) ∧ (∀ (sz : Nat) (es : List (List AV)) (i off : Nat), fieldAddrEv Tryd.prog 52 (.elem sz es i off) 3 = some (.elem sz es i (off + 3))) :=
  ⟨fun _ _ => by kernel_rfl, fun _ _ => by kernel_rfl, fun _ _ => by kernel_rfl, fun _ _ => by kernel_rfl, fun _ _ _ _ => by kernel_rfl, fun _ _ _ _ => by kernel_rfl, fun _ _ _ _ => by kernel_rfl, fun _ _ _ _ => by kernel_rfl⟩
theorem sz52 : sizeB Tryd.prog 52 = some 13 := by kernel_rfl
theorem ag52 : isAggB Tryd.prog 52 = some true := by kernel_rfl
def zV : Vs := ⟨0, 0, 0, zP⟩
theorem zc52 : (zeroA Tryd.prog 52).bind AV.cellsO = some (vrow zV zT) := by kernel_rfl
section
variable {h : Heap} {b : Nat} {x x' : Vs} {t t' : PT}
theorem load52 (hb : h.boxes[b]? = some (vrow x t)) : loadEv Tryd.prog Gk h 52 (.ptr (.box b) 0) = some (.agg (vrow x t)) := load_agg ag52 sz52 hb (Nat.le_refl _)
theorem load52_3 (hb : h.boxes[b]? = some (vrow x t)) : loadEv Tryd.prog Gk h 28 (.ptr (.box b) 3) = some (.agg (prow x.pol t)) := load_agg ag28 sz28 hb (show 3 + 10 ≤ 13 by omega)
theorem store52 (hb : h.boxes[b]? = some (vrow x t)) : storeEv Tryd.prog h 52 (.ptr (.box b) 0) (.agg (vrow x' t')) = some (h.put b (vrow x' t')) := store_box (off := 0) (cs := vrow x t) (xs := vrow x' t') rfl sz52 hb rfl (Nat.le_refl 13)
end
/-! ### Time, CheckAll -/
def timeB (n : Int) : Bool := decide (0 ≤ n) && decide (n < 1099511627776)
noncomputable def verOk (last : Int) (x : Vs) : Bool := (decide (last + 1 ≤ x.no) && decide (x.no ≤ 1048576)) && (timeB x.at_ && (timeB x.known && decide (checkP x.pol = 0)))
noncomputable def versOk : Int → List Vs → Bool
  | _, [] => true
  | last, x :: r => verOk last x && versOk x.no r
noncomputable def checkAllF (l : List Vs) : Int := if 256 < l.length then 2 else if versOk (-1) l = true then 0 else 200
theorem res24 : Tryd.f24.results.toList = [.tmp 2] := by kernel_rfl
theorem res19 : Tryd.f19.results.toList = [.tmp 2] := by kernel_rfl
theorem rs20 : Tryd.f20.results.toList = [.tmp 2] := by kernel_rfl
set_option maxHeartbeats 4000000 in
set_option maxRecDepth 100000 in
theorem time_ev (n : Int) (h : Heap) : W.call 24 [.v (.int .i64 n)] h = some (.ret (.v (.bool (timeB n))), h) := by
  refine call_of_run rfl Tryd.func24 rfl ?_
  repeat' (first | (simp (config := { maxSteps := 4000000 }) (disch := first | assumption | omega | (simp only [List.length_cons, List.length_nil, List.length_append] <;> omega)) only [goS, plainEv, resultsEv, resultListEv, reduceIte, Nat.reduceEqDiff, Option.map_some, Option.map_none, Option.bind_some, List.map_cons, List.map_nil, List.getD_cons_zero, List.getD_cons_succ, List.getElem?_toArray, List.getElem?_cons_zero, List.getElem?_cons_succ, eq_self, beq_self_eq_true, res24, *]; done) | simp (config := { maxSteps := 4000000 }) (disch := first | assumption | omega | (simp only [List.length_cons, List.length_nil, List.length_append]; omega)) only [goS, plainEv, resultsEv, resultListEv, reduceIte, Nat.reduceEqDiff, Option.map_some, Option.map_none, Option.bind_some, List.map_cons, List.map_nil, List.getD_cons_zero, List.getD_cons_succ, List.getElem?_toArray, List.getElem?_cons_zero, List.getElem?_cons_succ, eq_self, beq_self_eq_true, res24, *] | (refine guard_dec (fun _ => ?_) (fun _ => ?_) <;> try (exfalso; omega)) | (refine guard_ndec (fun _ => ?_) (fun _ => ?_) <;> try (exfalso; omega)) | (refine branch_dec (fun _ => ?_) (fun _ => ?_) <;> try (exfalso; omega)) | (refine branch_ndec (fun _ => ?_) (fun _ => ?_) <;> try (exfalso; omega)) | refine run_draw (by kernel_rfl) ?_ | refine guard_nbool (fun _ => ?_) (fun _ => ?_) | refine branch_nbool (fun _ => ?_) (fun _ => ?_) | refine guard_bool (fun _ => ?_) (fun _ => ?_) | refine branch_bool (fun _ => ?_) (fun _ => ?_))
  all_goals
    refine answer2 ?_
    first | (simp_all [timeB]; done) | (unfold timeB; rw [Bool.eq_iff_iff]; simp only [Bool.and_eq_true, decide_eq_true_eq, Bool.false_eq_true, false_iff, true_iff]; first | omega | (intro q; omega))
theorem timeB_eq (n : Int) : (decide (0 ≤ n) && decide (n ≤ 1099511627775)) = timeB n := by
  unfold timeB
  congr 1
  rw [decide_eq_decide]; omega
/-- What versions must be, so that they may be looked at here. -/
def VFew (l : List Vs) : Prop := ∀ x ∈ l, PFew x.pol
set_option maxHeartbeats 16000000 in
set_option maxRecDepth 100000 in
theorem checkAll_ev (tk : Tok) (sv : Nat) (l : List Vs) (rows : List (List AV)) (hr : VRows l rows) (hz : ∀ i : Nat, i < l.length → sv = 13) (few : l.length ≤ 256 → VFew l) (hb : l.length ≤ 9223372036854775807) (h : Heap) (hok : okHeap h = true) : Says W 19 [.list tk sv rows] h (.ret (.v (.int .i64 (checkAllF l)))) := by
  have u36 := Tryd.underlying36
  have a3 := ag3; have a28 := ag28; have a52 := ag52; have s52 := sz52; have s28 := sz28; have z52 := zc52
  have hlen := hr.1
  have kr := Keep.mk hr
  have kz := Keep.mk hz
  have kokh := Keep.mk hok
  have kx0 := Keep.mk (Ext.refl h)
  refine call_ex rfl Tryd.func19 rfl ?_
  by_cases hbig : 256 < l.length
  · have hbig' : (256 : Int) < (rows.length : Int) := by rw [hlen]; omega
    have hF : checkAllF l = 2 := by unfold checkAllF; rw [if_pos hbig]
    rw [hF]
    clear few hz hr hok
    repeat' (first | simp (config := { maxSteps := 4000000 }) (disch := first | assumption | (exact Nat.le_refl _) | omega | (simp only [List.length_cons, List.length_nil, List.length_append, push_len, put_len, len_app] <;> omega) | (simp (disch := (first | assumption | omega | (exact (push_len _ _).symm) | (simp only [push_len, put_len, len_app]; omega) | (refine Nat.le_antisymm ?_ ?_ <;> simp only [push_len, put_len, len_app] <;> omega) | fail)) only [get_push_last, get_push_eq, get_push_ne, get_put_eq, get_put_ne, get_app] <;> first | assumption | rfl) | (simp only [canApp_push, canApp_put]; assumption) | (exact start_round _ _) | (simp only [st_round, dfr_round, pn_round]; first | assumption | exact start_round _ _) | fail) only [goS, plainEv, resultsEv, resultListEv, reduceIte, Nat.reduceEqDiff, Option.map_some, Option.map_none, Option.bind_some, List.map_cons, List.map_nil, List.getD_cons_zero, List.getD_cons_succ, List.getElem?_toArray, List.getElem?_cons_zero, List.getElem?_cons_succ, eq_self, beq_self_eq_true, goH, List.append_nil, List.nil_append, res19, *] | (refine guard_dec (fun _ => ?_) (fun _ => ?_) <;> try (exfalso; omega)) | (refine guard_ndec (fun _ => ?_) (fun _ => ?_) <;> try (exfalso; omega)) | (refine branch_dec (fun _ => ?_) (fun _ => ?_) <;> try (exfalso; omega)) | (refine branch_ndec (fun _ => ?_) (fun _ => ?_) <;> try (exfalso; omega)) | refine guard_nbool (fun _ => ?_) (fun _ => ?_) | refine branch_nbool (fun _ => ?_) (fun _ => ?_) | refine guard_bool (fun _ => ?_) (fun _ => ?_) | refine branch_bool (fun _ => ?_) (fun _ => ?_))
    exact ⟨_, rfl, kx0.out⟩
  · have kfew := Keep.mk (few (by omega))
    have hbig' : ¬ (256 : Int) < (rows.length : Int) := by rw [hlen]; omega
    have hF : checkAllF l = if versOk (-1) l = true then 0 else 200 := by unfold checkAllF; rw [if_neg hbig]
    rw [hF]
    have bad : ∀ (hh : Heap), Ext h hh → versOk (-1) l = false → ∃ h', (some (Res.ret (AV.v (.int .i64 200)), hh) : Option (Res × Heap)) = some (.ret (.v (.int .i64 (if versOk (-1) l = true then 0 else 200))), h') ∧ Ext h h' := fun hh hx q => ⟨hh, by rw [q]; rfl, hx⟩
    have kbad := Keep.mk bad
    clear bad hF few hz hr hok
    repeat' (first | simp (config := { maxSteps := 4000000 }) (disch := first | assumption | (exact Nat.le_refl _) | omega | (simp only [List.length_cons, List.length_nil, List.length_append, push_len, put_len, len_app] <;> omega) | (simp (disch := (first | assumption | omega | (exact (push_len _ _).symm) | (simp only [push_len, put_len, len_app]; omega) | (refine Nat.le_antisymm ?_ ?_ <;> simp only [push_len, put_len, len_app] <;> omega) | fail)) only [get_push_last, get_push_eq, get_push_ne, get_put_eq, get_put_ne, get_app] <;> first | assumption | rfl) | (simp only [canApp_push, canApp_put]; assumption) | (exact start_round _ _) | (simp only [st_round, dfr_round, pn_round]; first | assumption | exact start_round _ _) | fail) only [goS, plainEv, resultsEv, resultListEv, reduceIte, Nat.reduceEqDiff, Option.map_some, Option.map_none, Option.bind_some, List.map_cons, List.map_nil, List.getD_cons_zero, List.getD_cons_succ, List.getElem?_toArray, List.getElem?_cons_zero, List.getElem?_cons_succ, eq_self, beq_self_eq_true, goH, List.append_nil, List.nil_append, res19, *] | (refine guard_dec (fun _ => ?_) (fun _ => ?_) <;> try (exfalso; omega)) | (refine guard_ndec (fun _ => ?_) (fun _ => ?_) <;> try (exfalso; omega)) | (refine branch_dec (fun _ => ?_) (fun _ => ?_) <;> try (exfalso; omega)) | (refine branch_ndec (fun _ => ?_) (fun _ => ?_) <;> try (exfalso; omega)) | refine guard_nbool (fun _ => ?_) (fun _ => ?_) | refine branch_nbool (fun _ => ?_) (fun _ => ?_) | refine guard_bool (fun _ => ?_) (fun _ => ?_) | refine branch_bool (fun _ => ?_) (fun _ => ?_))
    refine run_loop (fun m e h' => ∃ (i : Nat) (last : Int), i ≤ l.length ∧ m = l.length - i ∧ e.get 3 = .v (.int .i64 last) ∧ e.get 9 = .list tk sv rows ∧ e.get 10 = .v (.int .i64 (l.length : Nat)) ∧ e.get 11 = .v (.int .i64 i) ∧ e.defers = [] ∧ Ext h h' ∧ okHeap h' = true ∧ -1 ≤ last ∧ last ≤ 1048576 ∧ versOk (-1) l = versOk last (l.drop i)) ?_ l.length _ _ ?_
    · rintro m e h' ⟨i, last, hi, rfl, g3, g9, g10, g11, hd, hx, hok', l0, l1, hno⟩
      have kx := Keep.mk hx
      have kno := Keep.mk hno
      have kok' := Keep.mk hok'
      clear hx hno hok'
      by_cases hlt : i < l.length
      · obtain ⟨y, t, hy, hry, oky⟩ := kr.out.get hlt
        have h13 := kz.out i hlt
        subst h13
        have hlt3 : (i : Int) < (rows.length : Int) := by rw [hlen]; omega
        have hlt5 : (i : Int) < (l.length : Int) := by omega
        have vf := @vrow_fit13 y t
        have hdr : l.drop i = y :: l.drop (i + 1) := by
          obtain ⟨hj, rfl⟩ := List.getElem?_eq_some_iff.1 hy
          exact List.drop_eq_getElem_cons hj
        have hv : versOk last (l.drop i) = (verOk last y && versOk y.no (l.drop (i + 1))) := by rw [hdr, versOk]
        have hvno : verOk last y = false → versOk (-1) l = false := by intro q; rw [kno.out, hv, q]; rfl
        have kvno := Keep.mk hvno
        have khv := Keep.mk hv
        obtain ⟨h4, c4, hx4⟩ := check_ev y.pol t oky (kfew.out y (List.mem_of_getElem? hy)) (h'.push (vrow y t)) kok'.out
        have kx4 := Keep.mk ((kx.out.trans (.push _ (vrow y t))).trans hx4)
        have kx3 := Keep.mk (kx.out.trans (.push _ (vrow y t)))
        have kok4 := Keep.mk (hx4.ok kok'.out)
        have kb4 := Keep.mk (hx4.box _ _ (push_last h' (vrow y t)))
        have b4 := kb4.out
        have w1 : ∀ h : Heap, W.call 48 [.v (.int .i64 y.no), .v (.int .i64 (last + 1)), .v (.int .i64 1048576)] h = some (.ret (.v (.bool (decide (last + 1 ≤ y.no) && decide (y.no ≤ 1048576)))), h) := within_ev _ _ _
        have w2 : ∀ h : Heap, W.call 48 [.v (.int .i64 y.at_), .v (.int .i64 0), .v (.int .i64 1099511627775)] h = some (.ret (.v (.bool (timeB y.at_))), h) := fun h => by rw [← timeB_eq]; exact within_ev _ _ _ h
        have w3 : ∀ h : Heap, W.call 48 [.v (.int .i64 y.known), .v (.int .i64 0), .v (.int .i64 1099511627775)] h = some (.ret (.v (.bool (timeB y.known))), h) := fun h => by rw [← timeB_eq]; exact within_ev _ _ _ h
        clear hx4 hdr hv hvno oky
        cases e1 : (decide (last + 1 ≤ y.no) && decide (y.no ≤ 1048576)) with
        | false =>
          have kfin := Keep.mk (fun hh hx => kbad.out hh hx (kvno.out (by unfold verOk; rw [e1]; rfl)))
          rw [e1] at w1
          repeat' (first | simp (config := { maxSteps := 4000000 }) (disch := first | assumption | (exact Nat.le_refl _) | omega | (simp only [List.length_cons, List.length_nil, List.length_append, push_len, put_len, len_app] <;> omega) | (simp (disch := (first | assumption | omega | (exact (push_len _ _).symm) | (simp only [push_len, put_len, len_app]; omega) | (refine Nat.le_antisymm ?_ ?_ <;> simp only [push_len, put_len, len_app] <;> omega) | fail)) only [get_push_last, get_push_eq, get_push_ne, get_put_eq, get_put_ne, get_app] <;> first | assumption | rfl) | (simp only [canApp_push, canApp_put]; assumption) | (exact start_round _ _) | (simp only [st_round, dfr_round, pn_round]; first | assumption | exact start_round _ _) | fail) only [goS, plainEv, resultsEv, resultListEv, reduceIte, Nat.reduceEqDiff, Option.map_some, Option.map_none, Option.bind_some, List.map_cons, List.map_nil, List.getD_cons_zero, List.getD_cons_succ, List.getElem?_toArray, List.getElem?_cons_zero, List.getElem?_cons_succ, eq_self, beq_self_eq_true, goH, List.append_nil, List.nil_append, res19, fp52, vrs, load52, load52_3, store52, index_list, load_row_agg, put_push_eq, put_push_ne, push_len, *] | (refine guard_dec (fun _ => ?_) (fun _ => ?_) <;> try (exfalso; omega)) | (refine guard_ndec (fun _ => ?_) (fun _ => ?_) <;> try (exfalso; omega)) | (refine branch_dec (fun _ => ?_) (fun _ => ?_) <;> try (exfalso; omega)) | (refine branch_ndec (fun _ => ?_) (fun _ => ?_) <;> try (exfalso; omega)) | refine guard_nbool (fun _ => ?_) (fun _ => ?_) | refine branch_nbool (fun _ => ?_) (fun _ => ?_) | refine guard_bool (fun _ => ?_) (fun _ => ?_) | refine branch_bool (fun _ => ?_) (fun _ => ?_))
          exact kfin.out _ kx3.out
        | true =>
          rw [e1] at w1
          cases e2 : timeB y.at_ with
          | false =>
            have kfin := Keep.mk (fun hh hx => kbad.out hh hx (kvno.out (by unfold verOk; rw [e1, e2]; rfl)))
            rw [e2] at w2
            repeat' (first | simp (config := { maxSteps := 4000000 }) (disch := first | assumption | (exact Nat.le_refl _) | omega | (simp only [List.length_cons, List.length_nil, List.length_append, push_len, put_len, len_app] <;> omega) | (simp (disch := (first | assumption | omega | (exact (push_len _ _).symm) | (simp only [push_len, put_len, len_app]; omega) | (refine Nat.le_antisymm ?_ ?_ <;> simp only [push_len, put_len, len_app] <;> omega) | fail)) only [get_push_last, get_push_eq, get_push_ne, get_put_eq, get_put_ne, get_app] <;> first | assumption | rfl) | (simp only [canApp_push, canApp_put]; assumption) | (exact start_round _ _) | (simp only [st_round, dfr_round, pn_round]; first | assumption | exact start_round _ _) | fail) only [goS, plainEv, resultsEv, resultListEv, reduceIte, Nat.reduceEqDiff, Option.map_some, Option.map_none, Option.bind_some, List.map_cons, List.map_nil, List.getD_cons_zero, List.getD_cons_succ, List.getElem?_toArray, List.getElem?_cons_zero, List.getElem?_cons_succ, eq_self, beq_self_eq_true, goH, List.append_nil, List.nil_append, res19, fp52, vrs, load52, load52_3, store52, index_list, load_row_agg, put_push_eq, put_push_ne, push_len, *] | (refine guard_dec (fun _ => ?_) (fun _ => ?_) <;> try (exfalso; omega)) | (refine guard_ndec (fun _ => ?_) (fun _ => ?_) <;> try (exfalso; omega)) | (refine branch_dec (fun _ => ?_) (fun _ => ?_) <;> try (exfalso; omega)) | (refine branch_ndec (fun _ => ?_) (fun _ => ?_) <;> try (exfalso; omega)) | refine guard_nbool (fun _ => ?_) (fun _ => ?_) | refine branch_nbool (fun _ => ?_) (fun _ => ?_) | refine guard_bool (fun _ => ?_) (fun _ => ?_) | refine branch_bool (fun _ => ?_) (fun _ => ?_))
            exact kfin.out _ kx3.out
          | true =>
            rw [e2] at w2
            cases e3 : timeB y.known with
            | false =>
              have kfin := Keep.mk (fun hh hx => kbad.out hh hx (kvno.out (by unfold verOk; rw [e1, e2, e3]; rfl)))
              rw [e3] at w3
              repeat' (first | simp (config := { maxSteps := 4000000 }) (disch := first | assumption | (exact Nat.le_refl _) | omega | (simp only [List.length_cons, List.length_nil, List.length_append, push_len, put_len, len_app] <;> omega) | (simp (disch := (first | assumption | omega | (exact (push_len _ _).symm) | (simp only [push_len, put_len, len_app]; omega) | (refine Nat.le_antisymm ?_ ?_ <;> simp only [push_len, put_len, len_app] <;> omega) | fail)) only [get_push_last, get_push_eq, get_push_ne, get_put_eq, get_put_ne, get_app] <;> first | assumption | rfl) | (simp only [canApp_push, canApp_put]; assumption) | (exact start_round _ _) | (simp only [st_round, dfr_round, pn_round]; first | assumption | exact start_round _ _) | fail) only [goS, plainEv, resultsEv, resultListEv, reduceIte, Nat.reduceEqDiff, Option.map_some, Option.map_none, Option.bind_some, List.map_cons, List.map_nil, List.getD_cons_zero, List.getD_cons_succ, List.getElem?_toArray, List.getElem?_cons_zero, List.getElem?_cons_succ, eq_self, beq_self_eq_true, goH, List.append_nil, List.nil_append, res19, fp52, vrs, load52, load52_3, store52, index_list, load_row_agg, put_push_eq, put_push_ne, push_len, *] | (refine guard_dec (fun _ => ?_) (fun _ => ?_) <;> try (exfalso; omega)) | (refine guard_ndec (fun _ => ?_) (fun _ => ?_) <;> try (exfalso; omega)) | (refine branch_dec (fun _ => ?_) (fun _ => ?_) <;> try (exfalso; omega)) | (refine branch_ndec (fun _ => ?_) (fun _ => ?_) <;> try (exfalso; omega)) | refine guard_nbool (fun _ => ?_) (fun _ => ?_) | refine branch_nbool (fun _ => ?_) (fun _ => ?_) | refine guard_bool (fun _ => ?_) (fun _ => ?_) | refine branch_bool (fun _ => ?_) (fun _ => ?_))
              exact kfin.out _ kx3.out
            | true =>
              rw [e3] at w3
              cases e4 : decide (checkP y.pol = 0) with
              | false =>
                have kfin := Keep.mk (fun hh hx => kbad.out hh hx (kvno.out (by unfold verOk; rw [e1, e2, e3, e4]; rfl)))
                repeat' (first | simp (config := { maxSteps := 4000000 }) (disch := first | assumption | (exact Nat.le_refl _) | omega | (simp only [List.length_cons, List.length_nil, List.length_append, push_len, put_len, len_app] <;> omega) | (simp (disch := (first | assumption | omega | (exact (push_len _ _).symm) | (simp only [push_len, put_len, len_app]; omega) | (refine Nat.le_antisymm ?_ ?_ <;> simp only [push_len, put_len, len_app] <;> omega) | fail)) only [get_push_last, get_push_eq, get_push_ne, get_put_eq, get_put_ne, get_app] <;> first | assumption | rfl) | (simp only [canApp_push, canApp_put]; assumption) | (exact start_round _ _) | (simp only [st_round, dfr_round, pn_round]; first | assumption | exact start_round _ _) | fail) only [goS, plainEv, resultsEv, resultListEv, reduceIte, Nat.reduceEqDiff, Option.map_some, Option.map_none, Option.bind_some, List.map_cons, List.map_nil, List.getD_cons_zero, List.getD_cons_succ, List.getElem?_toArray, List.getElem?_cons_zero, List.getElem?_cons_succ, eq_self, beq_self_eq_true, goH, List.append_nil, List.nil_append, res19, fp52, vrs, load52, load52_3, store52, index_list, load_row_agg, put_push_eq, put_push_ne, push_len, *] | (refine guard_dec (fun _ => ?_) (fun _ => ?_) <;> try (exfalso; omega)) | (refine guard_ndec (fun _ => ?_) (fun _ => ?_) <;> try (exfalso; omega)) | (refine branch_dec (fun _ => ?_) (fun _ => ?_) <;> try (exfalso; omega)) | (refine branch_ndec (fun _ => ?_) (fun _ => ?_) <;> try (exfalso; omega)) | refine guard_nbool (fun _ => ?_) (fun _ => ?_) | refine branch_nbool (fun _ => ?_) (fun _ => ?_) | refine guard_bool (fun _ => ?_) (fun _ => ?_) | refine branch_bool (fun _ => ?_) (fun _ => ?_))
                exact kfin.out _ kx4.out
              | true =>
                have hgo : verOk last y = true := by unfold verOk; rw [e1, e2, e3, e4]; rfl
                have kgo := Keep.mk hgo
                have hyno : -1 ≤ y.no ∧ y.no ≤ 1048576 := by
                  simp only [Bool.and_eq_true, decide_eq_true_eq] at e1
                  omega
                have kyno := Keep.mk hyno
                clear hgo hyno
                repeat' (first | simp (config := { maxSteps := 4000000 }) (disch := first | assumption | (exact Nat.le_refl _) | omega | (simp only [List.length_cons, List.length_nil, List.length_append, push_len, put_len, len_app] <;> omega) | (simp (disch := (first | assumption | omega | (exact (push_len _ _).symm) | (simp only [push_len, put_len, len_app]; omega) | (refine Nat.le_antisymm ?_ ?_ <;> simp only [push_len, put_len, len_app] <;> omega) | fail)) only [get_push_last, get_push_eq, get_push_ne, get_put_eq, get_put_ne, get_app] <;> first | assumption | rfl) | (simp only [canApp_push, canApp_put]; assumption) | (exact start_round _ _) | (simp only [st_round, dfr_round, pn_round]; first | assumption | exact start_round _ _) | fail) only [goS, plainEv, resultsEv, resultListEv, reduceIte, Nat.reduceEqDiff, Option.map_some, Option.map_none, Option.bind_some, List.map_cons, List.map_nil, List.getD_cons_zero, List.getD_cons_succ, List.getElem?_toArray, List.getElem?_cons_zero, List.getElem?_cons_succ, eq_self, beq_self_eq_true, goH, List.append_nil, List.nil_append, res19, fp52, vrs, load52, load52_3, store52, index_list, load_row_agg, put_push_eq, put_push_ne, push_len, *] | (refine guard_dec (fun _ => ?_) (fun _ => ?_) <;> try (exfalso; omega)) | (refine guard_ndec (fun _ => ?_) (fun _ => ?_) <;> try (exfalso; omega)) | (refine branch_dec (fun _ => ?_) (fun _ => ?_) <;> try (exfalso; omega)) | (refine branch_ndec (fun _ => ?_) (fun _ => ?_) <;> try (exfalso; omega)) | refine guard_nbool (fun _ => ?_) (fun _ => ?_) | refine branch_nbool (fun _ => ?_) (fun _ => ?_) | refine guard_bool (fun _ => ?_) (fun _ => ?_) | refine branch_bool (fun _ => ?_) (fun _ => ?_))
                refine ⟨l.length - (i + 1), by omega, i + 1, y.no, by omega, rfl, (by first | trivial | (simp; done) | (simp; omega)), (by first | trivial | (simp; done) | (simp; omega)), (by first | trivial | (simp; done) | (simp; omega)), (by first | trivial | (simp; done) | (simp; omega)), (by first | trivial | (simp; done) | (simp; omega)), kx4.out, kok4.out, kyno.out.1, kyno.out.2, ?_⟩
                rw [kno.out, khv.out, kgo.out]; rfl
      · have hie : i = l.length := by omega
        subst hie
        have hlt5 : ¬ ((l.length : Int) < (l.length : Int)) := by omega
        have hv : versOk (-1) l = true := by rw [kno.out, List.drop_length, versOk]
        rw [hv]
        repeat' (first | simp (config := { maxSteps := 4000000 }) (disch := first | assumption | (exact Nat.le_refl _) | omega | (simp only [List.length_cons, List.length_nil, List.length_append, push_len, put_len, len_app] <;> omega) | (simp (disch := (first | assumption | omega | (exact (push_len _ _).symm) | (simp only [push_len, put_len, len_app]; omega) | (refine Nat.le_antisymm ?_ ?_ <;> simp only [push_len, put_len, len_app] <;> omega) | fail)) only [get_push_last, get_push_eq, get_push_ne, get_put_eq, get_put_ne, get_app] <;> first | assumption | rfl) | (simp only [canApp_push, canApp_put]; assumption) | (exact start_round _ _) | (simp only [st_round, dfr_round, pn_round]; first | assumption | exact start_round _ _) | fail) only [goS, plainEv, resultsEv, resultListEv, reduceIte, Nat.reduceEqDiff, Option.map_some, Option.map_none, Option.bind_some, List.map_cons, List.map_nil, List.getD_cons_zero, List.getD_cons_succ, List.getElem?_toArray, List.getElem?_cons_zero, List.getElem?_cons_succ, eq_self, beq_self_eq_true, goH, List.append_nil, List.nil_append, res19, *] | (refine guard_dec (fun _ => ?_) (fun _ => ?_) <;> try (exfalso; omega)) | (refine guard_ndec (fun _ => ?_) (fun _ => ?_) <;> try (exfalso; omega)) | (refine branch_dec (fun _ => ?_) (fun _ => ?_) <;> try (exfalso; omega)) | (refine branch_ndec (fun _ => ?_) (fun _ => ?_) <;> try (exfalso; omega)) | refine guard_nbool (fun _ => ?_) (fun _ => ?_) | refine branch_nbool (fun _ => ?_) (fun _ => ?_) | refine guard_bool (fun _ => ?_) (fun _ => ?_) | refine branch_bool (fun _ => ?_) (fun _ => ?_))
        exact ⟨_, rfl, kx.out⟩
    · refine ⟨0, -1, Nat.zero_le _, rfl, ?_, ?_, ?_, ?_, ?_, kx0.out, kokh.out, by omega, by omega, by rw [List.drop_zero]⟩ <;> simp only [goS, plainEv, resultsEv, resultListEv, reduceIte, Nat.reduceEqDiff, Option.map_some, Option.map_none, Option.bind_some, List.map_cons, List.map_nil, List.getD_cons_zero, List.getD_cons_succ, List.getElem?_toArray, List.getElem?_cons_zero, List.getElem?_cons_succ, eq_self, beq_self_eq_true, goH, hlen] <;> rfl
end Go.Proofs.YtilmhlbjjfgeoaaDoor
end

section
namespace Go.Proofs.YtilmhlbjjfgeoaaDoor
open Go.AE Go.Lex Go.Pol
/-! ### Standing -/
def betterB (at_ known : Int) (last : Int) (ok : Bool) (x : Vs) : Bool := decide (x.at_ ≤ at_) && decide (x.known ≤ known) && (!ok || decide (last ≤ x.at_))
def better (at_ known : Int) (s : Int × Int × Bool) (x : Vs) : Int × Int × Bool := if betterB at_ known s.2.1 s.2.2 x = true then (x.no, x.at_, true) else s
def standL (at_ known : Int) (l : List Vs) : Int × Int × Bool := l.foldl (better at_ known) (0, 0, false)
noncomputable def standF (l : List Vs) (at_ known : Int) : Int × Bool × Int := if checkAllF l = 0 then (if (timeB at_ && timeB known) = true then ((standL at_ known l).1, (standL at_ known l).2.2, 0) else (0, false, 1)) else (0, false, checkAllF l)
theorem res17 : Tryd.f17.results.toList = [.tmp 6, .tmp 7, .tmp 8] := by kernel_rfl
def triple (n : Int) (b : Bool) (e : Int) : AV := .tuple [.v (.int .i64 n), .v (.bool b), .v (.int .i64 e)]
set_option maxHeartbeats 16000000 in
set_option maxRecDepth 100000 in
theorem standing_ev (tk : Tok) (sv : Nat) (l : List Vs) (rows : List (List AV)) (hr : VRows l rows) (hz : ∀ i : Nat, i < l.length → sv = 13) (few : l.length ≤ 256 → VFew l) (hb : l.length ≤ 9223372036854775807) (at_ known : Int) (h : Heap) (hok : okHeap h = true) :
    Says W 17 [.list tk sv rows, .v (.int .i64 at_), .v (.int .i64 known)] h (.ret (triple (standF l at_ known).1 (standF l at_ known).2.1 (standF l at_ known).2.2)) := by
  have u36 := Tryd.underlying36
  have a3 := ag3; have a28 := ag28; have a52 := ag52; have s52 := sz52; have s28 := sz28; have z52 := zc52
  have hlen := hr.1
  obtain ⟨h2, c2, x2⟩ := checkAll_ev tk sv l rows hr hz few hb h hok
  have kr := Keep.mk hr
  have kz := Keep.mk hz
  have k2 := Keep.mk x2
  have w1 : ∀ h : Heap, W.call 48 [.v (.int .i64 at_), .v (.int .i64 0), .v (.int .i64 1099511627775)] h = some (.ret (.v (.bool (timeB at_))), h) := fun h => by rw [← timeB_eq]; exact within_ev _ _ _ h
  have w2 : ∀ h : Heap, W.call 48 [.v (.int .i64 known), .v (.int .i64 0), .v (.int .i64 1099511627775)] h = some (.ret (.v (.bool (timeB known))), h) := fun h => by rw [← timeB_eq]; exact within_ev _ _ _ h
  clear hr hz few hok x2
  refine call_ex rfl Tryd.func17 rfl ?_
  cases e1 : decide (checkAllF l = 0) with
  | false =>
    have hF : standF l at_ known = (0, false, checkAllF l) := by unfold standF; rw [if_neg (of_decide_eq_false e1)]
    rw [hF]
    repeat' (first | simp (config := { maxSteps := 4000000 }) (disch := first | assumption | (exact Nat.le_refl _) | omega | (simp only [List.length_cons, List.length_nil, List.length_append, push_len, put_len, len_app] <;> omega) | (simp (disch := (first | assumption | omega | (exact (push_len _ _).symm) | (simp only [push_len, put_len, len_app]; omega) | (refine Nat.le_antisymm ?_ ?_ <;> simp only [push_len, put_len, len_app] <;> omega) | fail)) only [get_push_last, get_push_eq, get_push_ne, get_put_eq, get_put_ne, get_app] <;> first | assumption | rfl) | (simp only [canApp_push, canApp_put]; assumption) | (exact start_round _ _) | (simp only [st_round, dfr_round, pn_round]; first | assumption | exact start_round _ _) | fail) only [goS, plainEv, resultsEv, resultListEv, reduceIte, Nat.reduceEqDiff, Option.map_some, Option.map_none, Option.bind_some, List.map_cons, List.map_nil, List.getD_cons_zero, List.getD_cons_succ, List.getElem?_toArray, List.getElem?_cons_zero, List.getElem?_cons_succ, eq_self, beq_self_eq_true, goH, List.append_nil, List.nil_append, res17, *] | (refine guard_dec (fun _ => ?_) (fun _ => ?_) <;> try (exfalso; omega)) | (refine guard_ndec (fun _ => ?_) (fun _ => ?_) <;> try (exfalso; omega)) | (refine branch_dec (fun _ => ?_) (fun _ => ?_) <;> try (exfalso; omega)) | (refine branch_ndec (fun _ => ?_) (fun _ => ?_) <;> try (exfalso; omega)) | refine guard_nbool (fun _ => ?_) (fun _ => ?_) | refine branch_nbool (fun _ => ?_) (fun _ => ?_) | refine guard_bool (fun _ => ?_) (fun _ => ?_) | refine branch_bool (fun _ => ?_) (fun _ => ?_))
    exact ⟨_, rfl, k2.out⟩
  | true =>
    have e1' := of_decide_eq_true e1
    cases e2 : (timeB at_ && timeB known) with
    | false =>
      have hF : standF l at_ known = (0, false, 1) := by unfold standF; rw [if_pos e1', e2]; rfl
      rw [hF]
      rw [e1'] at c2
      clear e1 e1'
      cases e3 : timeB at_ with
      | false =>
        rw [e3] at w1
        repeat' (first | simp (config := { maxSteps := 4000000 }) (disch := first | assumption | (exact Nat.le_refl _) | omega | (simp only [List.length_cons, List.length_nil, List.length_append, push_len, put_len, len_app] <;> omega) | (simp (disch := (first | assumption | omega | (exact (push_len _ _).symm) | (simp only [push_len, put_len, len_app]; omega) | (refine Nat.le_antisymm ?_ ?_ <;> simp only [push_len, put_len, len_app] <;> omega) | fail)) only [get_push_last, get_push_eq, get_push_ne, get_put_eq, get_put_ne, get_app] <;> first | assumption | rfl) | (simp only [canApp_push, canApp_put]; assumption) | (exact start_round _ _) | (simp only [st_round, dfr_round, pn_round]; first | assumption | exact start_round _ _) | fail) only [goS, plainEv, resultsEv, resultListEv, reduceIte, Nat.reduceEqDiff, Option.map_some, Option.map_none, Option.bind_some, List.map_cons, List.map_nil, List.getD_cons_zero, List.getD_cons_succ, List.getElem?_toArray, List.getElem?_cons_zero, List.getElem?_cons_succ, eq_self, beq_self_eq_true, goH, List.append_nil, List.nil_append, res17, *] | (refine guard_dec (fun _ => ?_) (fun _ => ?_) <;> try (exfalso; omega)) | (refine guard_ndec (fun _ => ?_) (fun _ => ?_) <;> try (exfalso; omega)) | (refine branch_dec (fun _ => ?_) (fun _ => ?_) <;> try (exfalso; omega)) | (refine branch_ndec (fun _ => ?_) (fun _ => ?_) <;> try (exfalso; omega)) | refine guard_nbool (fun _ => ?_) (fun _ => ?_) | refine branch_nbool (fun _ => ?_) (fun _ => ?_) | refine guard_bool (fun _ => ?_) (fun _ => ?_) | refine branch_bool (fun _ => ?_) (fun _ => ?_))
        exact ⟨_, rfl, k2.out⟩
      | true =>
        rw [e3] at w1 e2
        have e4 : timeB known = false := by simpa using e2
        rw [e4] at w2
        repeat' (first | simp (config := { maxSteps := 4000000 }) (disch := first | assumption | (exact Nat.le_refl _) | omega | (simp only [List.length_cons, List.length_nil, List.length_append, push_len, put_len, len_app] <;> omega) | (simp (disch := (first | assumption | omega | (exact (push_len _ _).symm) | (simp only [push_len, put_len, len_app]; omega) | (refine Nat.le_antisymm ?_ ?_ <;> simp only [push_len, put_len, len_app] <;> omega) | fail)) only [get_push_last, get_push_eq, get_push_ne, get_put_eq, get_put_ne, get_app] <;> first | assumption | rfl) | (simp only [canApp_push, canApp_put]; assumption) | (exact start_round _ _) | (simp only [st_round, dfr_round, pn_round]; first | assumption | exact start_round _ _) | fail) only [goS, plainEv, resultsEv, resultListEv, reduceIte, Nat.reduceEqDiff, Option.map_some, Option.map_none, Option.bind_some, List.map_cons, List.map_nil, List.getD_cons_zero, List.getD_cons_succ, List.getElem?_toArray, List.getElem?_cons_zero, List.getElem?_cons_succ, eq_self, beq_self_eq_true, goH, List.append_nil, List.nil_append, res17, *] | (refine guard_dec (fun _ => ?_) (fun _ => ?_) <;> try (exfalso; omega)) | (refine guard_ndec (fun _ => ?_) (fun _ => ?_) <;> try (exfalso; omega)) | (refine branch_dec (fun _ => ?_) (fun _ => ?_) <;> try (exfalso; omega)) | (refine branch_ndec (fun _ => ?_) (fun _ => ?_) <;> try (exfalso; omega)) | refine guard_nbool (fun _ => ?_) (fun _ => ?_) | refine branch_nbool (fun _ => ?_) (fun _ => ?_) | refine guard_bool (fun _ => ?_) (fun _ => ?_) | refine branch_bool (fun _ => ?_) (fun _ => ?_))
        exact ⟨_, rfl, k2.out⟩
    | true =>
      have hF : standF l at_ known = ((standL at_ known l).1, (standL at_ known l).2.2, 0) := by unfold standF; rw [if_pos e1', e2]; rfl
      rw [hF]
      rw [e1'] at c2
      clear e1 e1'
      simp only [Bool.and_eq_true] at e2
      rw [e2.1] at w1
      rw [e2.2] at w2
      clear e2
      repeat' (first | simp (config := { maxSteps := 4000000 }) (disch := first | assumption | (exact Nat.le_refl _) | omega | (simp only [List.length_cons, List.length_nil, List.length_append, push_len, put_len, len_app] <;> omega) | (simp (disch := (first | assumption | omega | (exact (push_len _ _).symm) | (simp only [push_len, put_len, len_app]; omega) | (refine Nat.le_antisymm ?_ ?_ <;> simp only [push_len, put_len, len_app] <;> omega) | fail)) only [get_push_last, get_push_eq, get_push_ne, get_put_eq, get_put_ne, get_app] <;> first | assumption | rfl) | (simp only [canApp_push, canApp_put]; assumption) | (exact start_round _ _) | (simp only [st_round, dfr_round, pn_round]; first | assumption | exact start_round _ _) | fail) only [goS, plainEv, resultsEv, resultListEv, reduceIte, Nat.reduceEqDiff, Option.map_some, Option.map_none, Option.bind_some, List.map_cons, List.map_nil, List.getD_cons_zero, List.getD_cons_succ, List.getElem?_toArray, List.getElem?_cons_zero, List.getElem?_cons_succ, eq_self, beq_self_eq_true, goH, List.append_nil, List.nil_append, res17, *] | (refine guard_dec (fun _ => ?_) (fun _ => ?_) <;> try (exfalso; omega)) | (refine guard_ndec (fun _ => ?_) (fun _ => ?_) <;> try (exfalso; omega)) | (refine branch_dec (fun _ => ?_) (fun _ => ?_) <;> try (exfalso; omega)) | (refine branch_ndec (fun _ => ?_) (fun _ => ?_) <;> try (exfalso; omega)) | refine guard_nbool (fun _ => ?_) (fun _ => ?_) | refine branch_nbool (fun _ => ?_) (fun _ => ?_) | refine guard_bool (fun _ => ?_) (fun _ => ?_) | refine branch_bool (fun _ => ?_) (fun _ => ?_))
      refine run_loop (fun m e h' => ∃ (i : Nat) (no last : Int) (ok : Bool), i ≤ l.length ∧ m = l.length - i ∧ e.get 1 = .v (.int .i64 at_) ∧ e.get 2 = .v (.int .i64 known) ∧ e.get 6 = .v (.int .i64 no) ∧ e.get 7 = .v (.bool ok) ∧ e.get 9 = .v (.int .i64 last) ∧ e.get 25 = .list tk sv rows ∧ e.get 26 = .v (.int .i64 (l.length : Nat)) ∧ e.get 27 = .v (.int .i64 i) ∧ e.defers = [] ∧ Ext h h' ∧ standL at_ known (l.take i) = (no, last, ok)) ?_ l.length _ _ ?_
      · rintro m e h' ⟨i, no, last, ok, hi, rfl, g1, g2, g6, g7, g9, g25, g26, g27, hd, hx, hno⟩
        have kx := Keep.mk hx
        have kno := Keep.mk hno
        clear hx hno w1 w2 c2
        by_cases hlt : i < l.length
        · obtain ⟨y, t, hy, hry, oky⟩ := kr.out.get hlt
          have h13 := kz.out i hlt
          subst h13
          have hlt3 : (i : Int) < (rows.length : Int) := by rw [hlen]; omega
          have hlt5 : (i : Int) < (l.length : Int) := by omega
          have vf := @vrow_fit13 y t
          have kx3 := Keep.mk (kx.out.trans (.push _ (vrow y t)))
          have hst : standL at_ known (l.take (i + 1)) = if betterB at_ known last ok y = true then (y.no, y.at_, true) else (no, last, ok) := by
            obtain ⟨hj, rfl⟩ := List.getElem?_eq_some_iff.1 hy
            have e0 : standL at_ known (l.take (i + 1)) = better at_ known (standL at_ known (l.take i)) l[i] := by
              unfold standL
              rw [List.take_succ_eq_append_getElem hj, List.foldl_append]
              rfl
            rw [e0, kno.out]
            rfl
          have kst := Keep.mk hst
          clear oky hst
          cases d1 : decide (y.at_ ≤ at_) <;> cases d2 : decide (y.known ≤ known) <;> cases ok <;> cases d3 : decide (last ≤ y.at_)
          all_goals
            have hb2 := kst.out
            unfold betterB at hb2
            simp only [d1, d2, d3, Bool.and_true, Bool.and_false, Bool.false_and, Bool.true_and, Bool.not_true, Bool.not_false, Bool.true_or, Bool.false_or, Bool.or_true, Bool.or_false, Bool.false_eq_true, if_true, if_false] at hb2
            have kb2 := Keep.mk hb2
            clear hb2
            repeat' (first | simp (config := { maxSteps := 4000000 }) (disch := first | assumption | (exact Nat.le_refl _) | omega | (simp only [List.length_cons, List.length_nil, List.length_append, push_len, put_len, len_app] <;> omega) | (simp (disch := (first | assumption | omega | (exact (push_len _ _).symm) | (simp only [push_len, put_len, len_app]; omega) | (refine Nat.le_antisymm ?_ ?_ <;> simp only [push_len, put_len, len_app] <;> omega) | fail)) only [get_push_last, get_push_eq, get_push_ne, get_put_eq, get_put_ne, get_app] <;> first | assumption | rfl) | (simp only [canApp_push, canApp_put]; assumption) | (exact start_round _ _) | (simp only [st_round, dfr_round, pn_round]; first | assumption | exact start_round _ _) | fail) only [goS, plainEv, resultsEv, resultListEv, reduceIte, Nat.reduceEqDiff, Option.map_some, Option.map_none, Option.bind_some, List.map_cons, List.map_nil, List.getD_cons_zero, List.getD_cons_succ, List.getElem?_toArray, List.getElem?_cons_zero, List.getElem?_cons_succ, eq_self, beq_self_eq_true, goH, List.append_nil, List.nil_append, res17, fp52, vrs, load52, store52, index_list, load_row_agg, put_push_eq, put_push_ne, push_len, *] | (refine guard_dec (fun _ => ?_) (fun _ => ?_) <;> try (exfalso; omega)) | (refine guard_ndec (fun _ => ?_) (fun _ => ?_) <;> try (exfalso; omega)) | (refine branch_dec (fun _ => ?_) (fun _ => ?_) <;> try (exfalso; omega)) | (refine branch_ndec (fun _ => ?_) (fun _ => ?_) <;> try (exfalso; omega)) | refine run_draw (by kernel_rfl) ?_ | refine guard_nbool (fun _ => ?_) (fun _ => ?_) | refine branch_nbool (fun _ => ?_) (fun _ => ?_) | refine guard_bool (fun _ => ?_) (fun _ => ?_) | refine branch_bool (fun _ => ?_) (fun _ => ?_))
            exact ⟨l.length - (i + 1), by omega, i + 1, _, _, _, by omega, rfl, by first | trivial | rfl, by first | trivial | rfl, by first | trivial | rfl, by first | trivial | rfl, by first | trivial | rfl, by first | trivial | rfl, by first | trivial | rfl, by first | trivial | rfl, by first | trivial | rfl, kx3.out, kb2.out⟩
        · have hie : i = l.length := by omega
          subst hie
          have hlt5 : ¬ ((l.length : Int) < (l.length : Int)) := by omega
          rw [List.take_length] at kno
          have hk := kno.out
          rw [hk]
          repeat' (first | simp (config := { maxSteps := 4000000 }) (disch := first | assumption | (exact Nat.le_refl _) | omega | (simp only [List.length_cons, List.length_nil, List.length_append, push_len, put_len, len_app] <;> omega) | (simp (disch := (first | assumption | omega | (exact (push_len _ _).symm) | (simp only [push_len, put_len, len_app]; omega) | (refine Nat.le_antisymm ?_ ?_ <;> simp only [push_len, put_len, len_app] <;> omega) | fail)) only [get_push_last, get_push_eq, get_push_ne, get_put_eq, get_put_ne, get_app] <;> first | assumption | rfl) | (simp only [canApp_push, canApp_put]; assumption) | (exact start_round _ _) | (simp only [st_round, dfr_round, pn_round]; first | assumption | exact start_round _ _) | fail) only [goS, plainEv, resultsEv, resultListEv, reduceIte, Nat.reduceEqDiff, Option.map_some, Option.map_none, Option.bind_some, List.map_cons, List.map_nil, List.getD_cons_zero, List.getD_cons_succ, List.getElem?_toArray, List.getElem?_cons_zero, List.getElem?_cons_succ, eq_self, beq_self_eq_true, goH, List.append_nil, List.nil_append, res17, *] | (refine guard_dec (fun _ => ?_) (fun _ => ?_) <;> try (exfalso; omega)) | (refine guard_ndec (fun _ => ?_) (fun _ => ?_) <;> try (exfalso; omega)) | (refine branch_dec (fun _ => ?_) (fun _ => ?_) <;> try (exfalso; omega)) | (refine branch_ndec (fun _ => ?_) (fun _ => ?_) <;> try (exfalso; omega)) | refine guard_nbool (fun _ => ?_) (fun _ => ?_) | refine branch_nbool (fun _ => ?_) (fun _ => ?_) | refine guard_bool (fun _ => ?_) (fun _ => ?_) | refine branch_bool (fun _ => ?_) (fun _ => ?_))
          exact ⟨_, rfl, kx.out⟩
      · refine ⟨0, 0, 0, false, Nat.zero_le _, rfl, ?_, ?_, ?_, ?_, ?_, ?_, ?_, ?_, ?_, k2.out, rfl⟩ <;> simp only [goS, plainEv, resultsEv, resultListEv, reduceIte, Nat.reduceEqDiff, Option.map_some, Option.map_none, Option.bind_some, List.map_cons, List.map_nil, List.getD_cons_zero, List.getD_cons_succ, List.getElem?_toArray, List.getElem?_cons_zero, List.getElem?_cons_succ, eq_self, beq_self_eq_true, goH, hlen] <;> rfl
end Go.Proofs.YtilmhlbjjfgeoaaDoor
end
