/-
 Part of the proof: SG.
-/
import Derived.Test.YtmdakolcndpjeaaGreatDoorSF
set_option maxHeartbeats 64000000
set_option maxRecDepth 100000
set_option linter.unusedSimpArgs false
set_option linter.unusedVariables false
set_option linter.constructorNameAsVariable false
section
namespace Go.Proofs.YtmdakolcndpjeaaGreatDoor
open Go.AE Go.Lex Go.Pol Go.Syn
theorem rs129 : Tryz.f129.results.toList = [.tmp 4] := by kernel_rfl
theorem rs148 : Tryz.f148.results.toList = [.tmp 2] := by kernel_rfl
theorem rs128 : Tryz.f128.results.toList = [.tmp 6] := by kernel_rfl
theorem v_cells (x : Value) : (AV.v x).cellsO = some [.v x] := rfl
theorem declared_ev (b : Nat) (s : List UInt8) (h : Heap) : W.call 129 [.ptr (.box b) 0, .v (.string (bs s))] h = some (.ret (.func (.func 148) [] [.ptr (.box h.boxes.length) 0, .ptr (.box (h.boxes.length + 1)) 0]), (h.push [.ptr (.box b) 0]).push [.v (.string (bs s))]) := by
 have a109 := ag109; have s109 := sz109; have a9 := ag9; have s9 := sz9
 refine call_of_run rfl Tryz.func129 rfl ?_
 repeat' (first | simp (config := { maxSteps := 4000000 }) (disch := first | exact dZ | fail) only [goS, append_gt, append_gt_yes, plainEv, resultsEv, resultListEv, reduceIte, Nat.reduceEqDiff, goT, beq_self_eq_true, goH, goU, rs129, st109, v_cells, push_len, *] | (refine dX ?_ ?_ <;> (intro _; try (exfalso; omega))) | (refine dY ?_ ?_ <;> intro _) | fail)
section
variable {b : Nat} {tok : Tok} {sz : Nat} {l : List Tk} {n : Int} {p : Po} {t : PT} {h : Heap}
theorem decl_ev {c c2 : Nat} {s : List UInt8} (n0 : Nat) (P : Pa b tok sz l n p t h) (hc : h.boxes[c]? = some [.ptr (.box b) 0]) (hc2 : h.boxes[c2]? = some [.v (.string (bs s))]) (hcb : c ≠ b) (hcb2 : c2 ≠ b) : Reads 148 [.ptr (.box c) 0, .ptr (.box c2) 0] b n0 n p t h encS (declP s l) := by
 have a109 := ag109; have s109 := sz109; have a9 := ag9; have s9 := sz9
 have bws := bw1 s
 have bwc := bw1 cSemi
 simp only [cSemi] at bwc
 have nc := (List.getElem?_eq_some_iff.1 hc).1
 have nc2 := (List.getElem?_eq_some_iff.1 hc2).1
 have e1 : declP s l = (wantT s l).bind fun _ r => (nameP r).bind fun x r => (wantT cSemi r).bind fun _ r => .ok x r := rfl
 obtain ⟨r1, h1, c1, q1⟩ := want1_ev n0 .tight s P
 unfold Reads
 rw [e1]
 cases w1 : wantT s l with
 | bad l1 =>
  rw [w1] at q1
  obtain ⟨rfl, m1⟩ := q1
  refine call_post rfl Tryz.func148 rfl ?_
  repeat' (first | simp (config := { maxSteps := 4000000 }) (disch := first | exact dZ | fail) only [goS, append_gt, append_gt_yes, plainEv, resultsEv, resultListEv, reduceIte, Nat.reduceEqDiff, goT, beq_self_eq_true, goH, goU, rs148, cell_one, *] | (refine dX ?_ ?_ <;> (intro _; try (exfalso; omega))) | (refine dY ?_ ?_ <;> intro _) | fail)
  exact ⟨_, _, rfl, rfl, m1⟩
 | ok u l1 =>
  rw [w1] at q1
  obtain ⟨v1, tok1, sz1, rfl, rfl, m1, P1⟩ := q1
  obtain ⟨r2, h2, c2', q2⟩ := name_ev2 n0 P1
  have d1 := m1.box _ _ hcb hc
  have nd1 := (List.getElem?_eq_some_iff.1 d1).1
  rw [bind_ok]
  cases w2 : nameP l1 with
  | bad l2 =>
   rw [w2] at q2
   obtain ⟨rfl, m2⟩ := q2
   have kfin := Keep.mk (m1.trans m2)
   clear m1 m2 P1 P
   refine call_post rfl Tryz.func148 rfl ?_
   repeat' (first | simp (config := { maxSteps := 4000000 }) (disch := first | exact dZ | fail) only [goS, append_gt, append_gt_yes, plainEv, resultsEv, resultListEv, reduceIte, Nat.reduceEqDiff, goT, beq_self_eq_true, goH, goU, rs148, cell_one, *] | (refine dX ?_ ?_ <;> (intro _; try (exfalso; omega))) | (refine dY ?_ ?_ <;> intro _) | fail)
   exact ⟨_, _, rfl, rfl, kfin.out⟩
  | ok x l2 =>
   rw [w2] at q2
   obtain ⟨v2, tok2, sz2, rfl, rfl, m2, P2⟩ := q2
   obtain ⟨r3, h3, c3, q3⟩ := want1_ev n0 .tight cSemi P2
   simp only [cSemi] at c3
   have d2 := m2.box _ _ hcb d1
   have nd2 := (List.getElem?_eq_some_iff.1 d2).1
   rw [bind_ok]
   cases w3 : wantT cSemi l2 with
   | bad l3 =>
    rw [w3] at q3
    obtain ⟨rfl, m3⟩ := q3
    have kfin := Keep.mk ((m1.trans m2).trans m3)
    clear m1 m2 m3 P1 P2 P
    refine call_post rfl Tryz.func148 rfl ?_
    repeat' (first | simp (config := { maxSteps := 4000000 }) (disch := first | exact dZ | fail) only [goS, append_gt, append_gt_yes, plainEv, resultsEv, resultListEv, reduceIte, Nat.reduceEqDiff, goT, beq_self_eq_true, goH, goU, rs148, cell_one, *] | (refine dX ?_ ?_ <;> (intro _; try (exfalso; omega))) | (refine dY ?_ ?_ <;> intro _) | fail)
    exact ⟨_, _, rfl, rfl, kfin.out⟩
   | ok u3 l3 =>
    rw [w3] at q3
    obtain ⟨v3, tok3, sz3, rfl, rfl, m3, P3⟩ := q3
    have kfin := Keep.mk ((m1.trans m2).trans m3)
    have kP := Keep.mk P3
    clear m1 m2 m3 P1 P2 P3 P
    refine call_post rfl Tryz.func148 rfl ?_
    repeat' (first | simp (config := { maxSteps := 4000000 }) (disch := first | exact dZ | fail) only [goS, append_gt, append_gt_yes, plainEv, resultsEv, resultListEv, reduceIte, Nat.reduceEqDiff, goT, beq_self_eq_true, goH, goU, rs148, cell_one, *] | (refine dX ?_ ?_ <;> (intro _; try (exfalso; omega))) | (refine dY ?_ ?_ <;> intro _) | fail)
    exact ⟨_, _, rfl, _, _, _, rfl, rfl, kfin.out, kP.out⟩
theorem app_strs2 {h : Heap} {tok k' : Tok} {sz : Nat} {a : List (List UInt8)} {x : List UInt8} (hk : CanApp 0 h tok) (hs : sz = 1 ∨ (a = [] ∧ tok = .nil)) (ha : a.length ≤ 1000000000) :
 appendEv Tryz.prog h #[22, 22] (.list tok sz (strs a)) (.list k' 1 [[.v (.string (bs x))]]) = some (.list (.free h.tn) 1 (strs (a ++ [x])), h.app tok) := by
 have hi : (Tryz.prog.info? 9).map (fun i => (i.bytes, i.size, i.zero.map fun z => z.cells.size)) = some (16, 1, some 1) := by kernel_rfl
 cases hq : Tryz.prog.info? 9 with
 | none => rw [hq] at hi; cases hi
 | some i =>
  rw [hq] at hi
  simp only [Option.map_some, Option.some.injEq, Prod.mk.injEq] at hi
  obtain ⟨i1, i2, i3⟩ := hi
  have la := strs_len a
  have := append_rows (k' := k') (new := [[.v (.string (bs x))]]) (es := strs a) Tryz.underlying22 Tryz.underlying22 hq (by omega) (by rw [i3, i2]) (by simp) (by rw [i1, la]; simp; omega) (by rw [la]; simp; omega)
   (by rw [i2]; rcases hs with q | ⟨q, q2⟩; exact .inl q; exact .inr ⟨by rw [q]; rfl, q2⟩) hk
  rw [i2] at this
  have e : strs a ++ [[.v (.string (bs x))]] = strs (a ++ [x]) := by simp [strs]
  rw [e] at this
  exact this
def encSs (l : List (List UInt8)) (v : AV) : Prop := ∃ tok sz, v = .list tok sz (strs l) ∧ ∀ i : Nat, i < l.length → sz = 1
theorem decl_less {s : List UInt8} {l r : List Tk} {x : List UInt8} (h : declP s l = .ok x r) : r.length < l.length := by
 have := decl_len h
 omega
theorem some_str_ev {c c2 : Nat} {s : List UInt8} (n0 : Nat) (P : Pa b tok sz l n p t h) (hc : h.boxes[c]? = some [.ptr (.box b) 0]) (hc2 : h.boxes[c2]? = some [.v (.string (bs s))]) (hcb : c ≠ b) (hcb2 : c2 ≠ b) (ho : okHeap h = true) (hn : n0 ≤ h.tn) (f : Nat) (hf : l.length < f) :
 Reads 128 [.ptr (.box b) 0, .v (.string (bs s)), .func (.func 148) [] [.ptr (.box c) 0, .ptr (.box c2) 0]] b n0 n p t h encSs (someP s (declP s) f l) := by
 unfold Reads
 have kP := Keep.mk P
 have kc := Keep.mk hc
 have kc2 := Keep.mk hc2
 have ko := Keep.mk ho
 have hfew := P.few
 clear P hc hc2 ho
 refine call_post rfl Tryz.func128 rfl ?_
 repeat' (first | simp (config := { maxSteps := 4000000 }) (disch := first | exact dZ | fail) only [goS, append_gt, append_gt_yes, plainEv, resultsEv, resultListEv, reduceIte, Nat.reduceEqDiff, goT, beq_self_eq_true, goH, goU, rs128, *] | (refine dX ?_ ?_ <;> (intro _; try (exfalso; omega))) | (refine dY ?_ ?_ <;> intro _) | fail)
 refine run_loop (fun k e h' => ∃ (a : List (List UInt8)) (tokL : Tok) (szL : Nat) (tok' : Tok) (sz' : Nat) (l' : List Tk) (f' : Nat), k = l'.length ∧ e.get 0 = .ptr (.box b) 0 ∧ e.get 1 = .v (.string (bs s)) ∧ e.get 2 = .func (.func 148) [] [.ptr (.box c) 0, .ptr (.box c2) 0] ∧ e.get 6 = .list tokL szL (strs a) ∧ e.defers = [] ∧
  l'.length < f' ∧ a.length + l'.length ≤ l.length ∧ someP s (declP s) f l = PR.pre a (someP s (declP s) f' l') ∧ (szL = 1 ∨ (a = [] ∧ tokL = .nil)) ∧ CanApp n0 h' tokL ∧ Mut b n0 h h' ∧ okHeap h' = true ∧ Pa b tok' sz' l' n p t h') ?_ l.length _ _ ?_
 ·rintro k e h' ⟨a, tokL, szL, tok', sz', l', f', rfl, g0, g1, g2, g6, hd, hff, hal, hpre, hsz, hca, hm, hok, hP⟩
  have kpre := Keep.mk hpre
  have ksz := Keep.mk hsz
  have kca := Keep.mk hca
  have km := Keep.mk hm
  have kok := Keep.mk hok
  have kP' := Keep.mk hP
  clear hpre hsz hca hm hok hP
  have c1 := is_ev s kP'.out
  obtain ⟨f'', rfl⟩ : ∃ f'', f' = f'' + 1 := ⟨f' - 1, by omega⟩
  cases hi : isT s l' with
  | false =>
   rw [hi] at c1
   have hend : someP s (declP s) f l = .ok a l' := by
    rw [kpre.out]
    unfold someP
    rw [hi, if_neg (by decide)]
    show PR.ok (a ++ []) l' = _
    rw [List.append_nil]
   rw [hend]
   clear hend
   repeat' (first | simp (config := { maxSteps := 4000000 }) (disch := first | exact dZ | fail) only [goS, append_gt, append_gt_yes, plainEv, resultsEv, resultListEv, reduceIte, Nat.reduceEqDiff, goT, beq_self_eq_true, goH, goU, rs128, *] | (refine dX ?_ ?_ <;> (intro _; try (exfalso; omega))) | (refine dY ?_ ?_ <;> intro _) | fail)
   refine ⟨_, _, rfl, _, _, _, rfl, ⟨_, _, rfl, fun i hi => ?_⟩, km.out, kP'.out⟩
   rcases ksz.out with q | ⟨q, -⟩
   ·exact q
   ·rw [q] at hi; simp at hi
  | true =>
   rw [hi] at c1
   obtain ⟨r2, h2, c2', q2⟩ := decl_ev (c := c) (c2 := c2) h'.tn kP'.out (km.out.box _ _ hcb kc.out) (km.out.box _ _ hcb2 kc2.out) hcb hcb2
   cases w2 : declP s l' with
   | bad l2 =>
    rw [w2] at q2
    obtain ⟨rfl, m2⟩ := q2
    have hend : someP s (declP s) f l = .bad l2 := by
     rw [kpre.out]
     unfold someP
     rw [if_pos hi, w2]
     rfl
    rw [hend]
    have kfin := Keep.mk (km.out.trans (m2.weak (Nat.le_trans hn km.out.tn)))
    clear hend m2
    repeat' (first | simp (config := { maxSteps := 4000000 }) (disch := first | exact dZ | fail) only [goS, append_gt, append_gt_yes, plainEv, resultsEv, resultListEv, reduceIte, Nat.reduceEqDiff, goT, beq_self_eq_true, goH, goU, rs128, List.cons_append, List.nil_append, *] | (refine dX ?_ ?_ <;> (intro _; try (exfalso; omega))) | (refine dY ?_ ?_ <;> intro _) | fail)
    exact ⟨_, _, rfl, rfl, kfin.out⟩
   | ok x l2 =>
    rw [w2] at q2
    obtain ⟨v2, tok2, sz2, rfl, rfl, m2, P2⟩ := q2
    have hl2 := decl_less w2
    have hgo : someP s (declP s) f l = PR.pre (a ++ [x]) (someP s (declP s) f'' l2) := by
     rw [kpre.out, ← pre_snoc]
     have e2 : someP s (declP s) (f'' + 1) l' = (declP s l').bind fun x r => (someP s (declP s) f'' r).bind fun t r => .ok (x :: t) r := by
      conv => lhs; unfold someP
      rw [if_pos hi]
     rw [e2, w2, bind_ok]
    have kgo := Keep.mk hgo
    have km2 := Keep.mk (km.out.trans (m2.weak (Nat.le_trans hn km.out.tn)))
    have kok2 := Keep.mk (m2.ok kok.out)
    have kca2 : CanApp n0 h2 tokL := kca.out.mut m2 (Nat.le_refl _)
    have kca3 := Keep.mk kca2
    have happ := app_strs2 (h := h2) (k' := .tight) (x := x) (kca2.mono (Nat.zero_le _)) ksz.out (by omega)
    have bwx := bw1 x
    have kP2 := Keep.mk P2
    clear hgo m2 kca2 P2
    repeat' (first | simp (config := { maxSteps := 4000000 }) (disch := first | exact dZ | fail) only [goS, append_gt, append_gt_yes, plainEv, resultsEv, resultListEv, reduceIte, Nat.reduceEqDiff, goT, beq_self_eq_true, goH, goU, rs128, List.cons_append, List.nil_append, *] | (refine dX ?_ ?_ <;> (intro _; try (exfalso; omega))) | (refine dY ?_ ?_ <;> intro _) | fail)
    refine ⟨l2.length, hl2, a ++ [x], _, _, tok2, sz2, l2, f'', rfl, (by first | trivial | (simp; done) | (simp; omega)), (by first | trivial | (simp; done) | (simp; omega)), (by first | trivial | (simp; done) | (simp; omega)), rfl, (by first | trivial | (simp; done) | (simp; omega)), by omega, by rw [List.length_append, List.length_singleton]; omega, kgo.out, .inl rfl, ?_, ?_, ?_, ?_⟩
    ·exact kca3.out.next kok2.out (Nat.le_trans hn km2.out.tn)
    ·exact km2.out.app2 kca3.out
    ·exact (Mut.app (b := 0) kca3.out).ok kok2.out
    ·exact kP2.out.app _
 ·refine ⟨[], .nil, 0, tok, sz, l, f, rfl, ?_, ?_, ?_, ?_, ?_, hf, by simp, (pre_nil _).symm, .inr ⟨rfl, rfl⟩, .inl rfl, Mut.refl _ _ _, ko.out, kP.out⟩ <;> simp only [goS, append_gt, append_gt_yes, plainEv, resultsEv, resultListEv, reduceIte, Nat.reduceEqDiff, goT, beq_self_eq_true, goH] <;> rfl
end
end Go.Proofs.YtmdakolcndpjeaaGreatDoor
end

section
namespace Go.Proofs.YtmdakolcndpjeaaGreatDoor
open Go.AE Go.Lex Go.Pol Go.Syn
theorem rs131 : Tryz.f131.results.toList = [.cell 2 62] := by kernel_rfl
theorem rs130 : Tryz.f130.results.toList = [.tmp 6] := by kernel_rfl
def encR (x : Rl) (v : AV) : Prop := ∃ tok sz rows, v = .agg (rrow x tok sz rows) ∧ Row x.expr (r5 x tok sz rows)
def encRs (l : List Rl) (v : AV) : Prop := ∃ tok sz rows, v = .list tok sz rows ∧ RRows l rows ∧ ∀ i : Nat, i < l.length → sz = 8
section
variable {h : Heap} {c : Nat} {k k' : List UInt8} {i th th' : Int} {e x : Ex} {y y' : Rl} {tok tok' : Tok} {sz sz' : Nat} {rows rows' : List (List AV)}
theorem st62_0 (hb : h.boxes[c]? = some (rrow ⟨k, i, th, e⟩ tok sz rows)) : storeEv Tryz.prog h 9 (.ptr (.box c) 0) (.v (.string (bs k'))) = some (h.put c (rrow ⟨k', i, th, e⟩ tok sz rows)) := store_box (off := 0) (cs := rrow ⟨k, i, th, e⟩ tok sz rows) (xs := [.v (.string (bs k'))]) rfl sz9 hb rfl (show 0 + 1 ≤ 8 by omega)
theorem st62_2 (hb : h.boxes[c]? = some (rrow ⟨k, i, th, e⟩ tok sz rows)) : storeEv Tryz.prog h 3 (.ptr (.box c) 2) (.v (.int .i64 th')) = some (h.put c (rrow ⟨k, i, th', e⟩ tok sz rows)) := store_box (off := 2) (cs := rrow ⟨k, i, th, e⟩ tok sz rows) (xs := [.v (.int .i64 th')]) rfl sz3 hb rfl (show 2 + 1 ≤ 8 by omega)
theorem st62_3 (hb : h.boxes[c]? = some (rrow ⟨k, i, th, e⟩ tok sz rows)) : storeEv Tryz.prog h 26 (.ptr (.box c) 3) (.agg (row5 x.kind x.n x.no x.name tok' sz' rows')) = some (h.put c (rrow ⟨k, i, th, x⟩ tok' sz' rows')) := store_box (off := 3) (cs := rrow ⟨k, i, th, e⟩ tok sz rows) (xs := row5 x.kind x.n x.no x.name tok' sz' rows') rfl sz26 hb rfl (show 3 + 5 ≤ 8 by omega)
theorem ld62 (hb : h.boxes[c]? = some (rrow y tok sz rows)) : loadEv Tryz.prog Gt h 62 (.ptr (.box c) 0) = some (.agg (rrow y tok sz rows)) := load_agg ag62 sz62 hb (Nat.le_refl 8)
theorem st62 (hb : h.boxes[c]? = some (rrow y tok sz rows)) : storeEv Tryz.prog h 62 (.ptr (.box c) 0) (.agg (rrow y' tok' sz' rows')) = some (h.put c (rrow y' tok' sz' rows')) := store_box (off := 0) (cs := rrow y tok sz rows) (xs := rrow y' tok' sz' rows') rfl sz62 hb rfl (Nat.le_refl 8)
theorem app_rule2 (hk : CanApp 0 h tok) (hs : sz = 8 ∨ (rows = [] ∧ tok = .nil)) (hl : rows.length ≤ 1000000000) {r : List AV} :
 appendEv Tryz.prog h #[23, 23] (.list tok sz rows) (.list .tight 8 [r]) = some (.list (.free h.tn) 8 (rows ++ [r]), h.app tok) := by
 have hi : (Tryz.prog.info? 62).map (fun i => (decide (i.bytes ≤ 1000), i.size, i.zero.map fun z => z.cells.size)) = some (true, 8, some 8) := by kernel_rfl
 cases hq : Tryz.prog.info? 62 with
 | none => rw [hq] at hi; cases hi
 | some i =>
  rw [hq] at hi
  simp only [Option.map_some, Option.some.injEq, Prod.mk.injEq, decide_eq_true_eq] at hi
  obtain ⟨i1, i2, i3⟩ := hi
  have hm : (rows.length + 1) * i.bytes ≤ 1000000001 * 1000 := Nat.mul_le_mul (by omega) i1
  have := append_rows (k' := .tight) (new := [r]) (es := rows) Tryz.underlying23 Tryz.underlying23 hq (by omega) (by rw [i3, i2]) (by simp) (by simp only [List.length_singleton]; omega) (by simp only [List.length_singleton]; omega)
   (by rw [i2]; exact hs) hk
  rw [i2] at this
  exact this
end
theorem rule_less {m : Nat} {l r : List Tk} {x : Rl} (h : ruleP m l = .ok x r) : r.length < l.length := by
 have h1 := rule_len h
 have h2 : 1 ≤ (tokR x).length := by simp [tokR]
 omega
section
variable {b : Nat} {tok : Tok} {sz : Nat} {l : List Tk} {n : Int} {p : Po} {t : PT} {h : Heap}
theorem rule_ev {m : Nat} (n0 : Nat) (P : Pa b tok sz l n p t h) (ho : okHeap h = true) (hn : n0 ≤ h.tn) (hl : l.length ≤ m) : Reads 131 [.ptr (.box b) 0] b n0 n p t h encR (ruleP m l) := by
 have a62 := ag62; have s62 := sz62; have z62 := zc62; have a9 := ag9; have a26 := ag26; have s26 := sz26
 have nb := P.lt
 have P0 := P.push (rrow ⟨[], 0, 0, .mk 0 0 0 [] []⟩ .nil 0 [])
 have M0 := (Mut.refl b n0 h).push (rrow ⟨[], 0, 0, .mk 0 0 0 [] []⟩ .nil 0 [])
 have e0 := push_last h (rrow ⟨[], 0, 0, .mk 0 0 0 [] []⟩ .nil 0 [])
 have bw_rule := bw1 kRule
 have bw_think := bw1 kThink
 have bw_eq := bw1 cEq
 have bw_semi := bw1 cSemi
 simp only [kRule] at bw_rule
 simp only [kThink] at bw_think
 simp only [cEq] at bw_eq
 simp only [cSemi] at bw_semi
 have e9 : ruleP m l = (wantT kRule l).bind fun _ r => (nameP r).bind fun s r => (wantT kThink r).bind fun _ r => (numP r).bind fun n r => (wantT cEq r).bind fun _ r => (exprP m r).bind fun x r => (wantT cSemi r).bind fun _ r => .ok ⟨s, 0, n, x⟩ r := rfl
 unfold Reads
 rw [e9]
 obtain ⟨r1, h1, c1, q1⟩ := want1_ev n0 .tight kRule P0
 simp only [kRule] at c1
 cases w1 : wantT kRule l with
 | bad l1 =>
  rw [w1] at q1
  obtain ⟨rfl, m1⟩ := q1
  have kfin := Keep.mk (M0.trans m1)
  clear m1 M0 P0 P
  refine call_post rfl Tryz.func131 rfl ?_
  repeat' (first | simp (config := { maxSteps := 4000000 }) (disch := first | exact dZ | fail) only [goS, append_gt, append_gt_yes, plainEv, resultsEv, resultListEv, reduceIte, Nat.reduceEqDiff, goT, beq_self_eq_true, goH, goU, rs131, push_len, cell_one, fp62, st62_0, st62_2, st62_3, ld62, st62, put_put, put_push_eq, *] | (refine dX ?_ ?_ <;> (intro _; try (exfalso; omega))) | (refine dY ?_ ?_ <;> intro _) | fail)
  exact ⟨_, _, rfl, rfl, kfin.out⟩
 | ok u1 l1 =>
  rw [w1] at q1
  obtain ⟨v1, tok1, sz1, rfl, rfl, m1, Q1⟩ := q1
  have d1 := m1.box _ _ (by omega) e0
  have nd1 := (List.getElem?_eq_some_iff.1 d1).1
  have M1 := M0.trans m1
  have P1 := Q1
  have e1 := d1
  rw [bind_ok]
  obtain ⟨r2, h2, c2, q2⟩ := name_ev2 n0 P1
  cases w2 : nameP l1 with
  | bad l2 =>
   rw [w2] at q2
   obtain ⟨rfl, m2⟩ := q2
   have kfin := Keep.mk (M1.trans m2)
   clear m2 M0 M1 P0 P1 P
   refine call_post rfl Tryz.func131 rfl ?_
   repeat' (first | simp (config := { maxSteps := 4000000 }) (disch := first | exact dZ | fail) only [goS, append_gt, append_gt_yes, plainEv, resultsEv, resultListEv, reduceIte, Nat.reduceEqDiff, goT, beq_self_eq_true, goH, goU, rs131, push_len, cell_one, fp62, st62_0, st62_2, st62_3, ld62, st62, put_put, put_push_eq, *] | (refine dX ?_ ?_ <;> (intro _; try (exfalso; omega))) | (refine dY ?_ ?_ <;> intro _) | fail)
   exact ⟨_, _, rfl, rfl, kfin.out⟩
  | ok s l2 =>
   rw [w2] at q2
   obtain ⟨v2, tok2, sz2, rfl, rfl, m2, Q2⟩ := q2
   have d2 := m2.box _ _ (by omega) e1
   have nd2 := (List.getElem?_eq_some_iff.1 d2).1
   have M2 := (M1.trans m2).put_new (c := h.boxes.length) (Nat.le_refl _) (rrow ⟨s, 0, 0, .mk 0 0 0 [] []⟩ .nil 0 [])
   have P2 := Q2.put (c := h.boxes.length) (by omega) (rrow ⟨s, 0, 0, .mk 0 0 0 [] []⟩ .nil 0 [])
   have e2 : (h2.put h.boxes.length (rrow ⟨s, 0, 0, .mk 0 0 0 [] []⟩ .nil 0 [])).boxes[h.boxes.length]? = some (rrow ⟨s, 0, 0, .mk 0 0 0 [] []⟩ .nil 0 []) := put_this nd2
   rw [bind_ok]
   obtain ⟨r3, h3, c3, q3⟩ := want1_ev n0 .tight kThink P2
   simp only [kThink] at c3
   cases w3 : wantT kThink l2 with
   | bad l3 =>
    rw [w3] at q3
    obtain ⟨rfl, m3⟩ := q3
    have kfin := Keep.mk (M2.trans m3)
    clear m3 M0 M1 M2 P0 P1 P2 P
    refine call_post rfl Tryz.func131 rfl ?_
    repeat' (first | simp (config := { maxSteps := 4000000 }) (disch := first | exact dZ | fail) only [goS, append_gt, append_gt_yes, plainEv, resultsEv, resultListEv, reduceIte, Nat.reduceEqDiff, goT, beq_self_eq_true, goH, goU, rs131, push_len, cell_one, fp62, st62_0, st62_2, st62_3, ld62, st62, put_put, put_push_eq, *] | (refine dX ?_ ?_ <;> (intro _; try (exfalso; omega))) | (refine dY ?_ ?_ <;> intro _) | fail)
    exact ⟨_, _, rfl, rfl, kfin.out⟩
   | ok u3 l3 =>
    rw [w3] at q3
    obtain ⟨v3, tok3, sz3, rfl, rfl, m3, Q3⟩ := q3
    have d3 := m3.box _ _ (by omega) e2
    have nd3 := (List.getElem?_eq_some_iff.1 d3).1
    have M3 := M2.trans m3
    have P3 := Q3
    have e3 := d3
    rw [bind_ok]
    obtain ⟨r4, h4, c4, q4⟩ := number_ev n0 P3
    cases w4 : numP l3 with
    | bad l4 =>
     rw [w4] at q4
     obtain ⟨rfl, m4⟩ := q4
     have kfin := Keep.mk (M3.trans m4)
     clear m4 M0 M1 M2 M3 P0 P1 P2 P3 P
     refine call_post rfl Tryz.func131 rfl ?_
     repeat' (first | simp (config := { maxSteps := 4000000 }) (disch := first | exact dZ | fail) only [goS, append_gt, append_gt_yes, plainEv, resultsEv, resultListEv, reduceIte, Nat.reduceEqDiff, goT, beq_self_eq_true, goH, goU, rs131, push_len, cell_one, fp62, st62_0, st62_2, st62_3, ld62, st62, put_put, put_push_eq, *] | (refine dX ?_ ?_ <;> (intro _; try (exfalso; omega))) | (refine dY ?_ ?_ <;> intro _) | fail)
     exact ⟨_, _, rfl, rfl, kfin.out⟩
    | ok d l4 =>
     rw [w4] at q4
     obtain ⟨v4, tok4, sz4, rfl, rfl, m4, Q4⟩ := q4
     have d4 := m4.box _ _ (by omega) e3
     have nd4 := (List.getElem?_eq_some_iff.1 d4).1
     have M4 := (M3.trans m4).put_new (c := h.boxes.length) (Nat.le_refl _) (rrow ⟨s, 0, d, .mk 0 0 0 [] []⟩ .nil 0 [])
     have P4 := Q4.put (c := h.boxes.length) (by omega) (rrow ⟨s, 0, d, .mk 0 0 0 [] []⟩ .nil 0 [])
     have e4 : (h4.put h.boxes.length (rrow ⟨s, 0, d, .mk 0 0 0 [] []⟩ .nil 0 [])).boxes[h.boxes.length]? = some (rrow ⟨s, 0, d, .mk 0 0 0 [] []⟩ .nil 0 []) := put_this nd4
     rw [bind_ok]
     obtain ⟨r5, h5, c5, q5⟩ := want1_ev n0 .tight cEq P4
     simp only [cEq] at c5
     cases w5 : wantT cEq l4 with
     | bad l5 =>
      rw [w5] at q5
      obtain ⟨rfl, m5⟩ := q5
      have kfin := Keep.mk (M4.trans m5)
      clear m5 M0 M1 M2 M3 M4 P0 P1 P2 P3 P4 P
      refine call_post rfl Tryz.func131 rfl ?_
      repeat' (first | simp (config := { maxSteps := 4000000 }) (disch := first | exact dZ | fail) only [goS, append_gt, append_gt_yes, plainEv, resultsEv, resultListEv, reduceIte, Nat.reduceEqDiff, goT, beq_self_eq_true, goH, goU, rs131, push_len, cell_one, fp62, st62_0, st62_2, st62_3, ld62, st62, put_put, put_push_eq, *] | (refine dX ?_ ?_ <;> (intro _; try (exfalso; omega))) | (refine dY ?_ ?_ <;> intro _) | fail)
      exact ⟨_, _, rfl, rfl, kfin.out⟩
     | ok u5 l5 =>
      rw [w5] at q5
      obtain ⟨v5, tok5, sz5, rfl, rfl, m5, Q5⟩ := q5
      have d5 := m5.box _ _ (by omega) e4
      have nd5 := (List.getElem?_eq_some_iff.1 d5).1
      have M5 := M4.trans m5
      have P5 := Q5
      have e5 := d5
      rw [bind_ok]
      have hl5 : l5.length < m := by have := want_len w1; have := name_len w2; have := want_len w3; have := num_len w4; have := want_len w5; omega
      obtain ⟨r6, h6, c6, q6⟩ := reads_expr m b n0 tok5 sz5 l5 n p t h5 P5 (M5.ok ho) (Nat.le_trans hn M5.tn) hl5
      cases w6 : exprP m l5 with
      | bad l6 =>
       rw [w6] at q6
       obtain ⟨rfl, m6⟩ := q6
       have kfin := Keep.mk (M5.trans m6)
       clear m6 M0 M1 M2 M3 M4 M5 P0 P1 P2 P3 P4 P5 P
       refine call_post rfl Tryz.func131 rfl ?_
       repeat' (first | simp (config := { maxSteps := 4000000 }) (disch := first | exact dZ | fail) only [goS, append_gt, append_gt_yes, plainEv, resultsEv, resultListEv, reduceIte, Nat.reduceEqDiff, goT, beq_self_eq_true, goH, goU, rs131, push_len, cell_one, fp62, st62_0, st62_2, st62_3, ld62, st62, put_put, put_push_eq, *] | (refine dX ?_ ?_ <;> (intro _; try (exfalso; omega))) | (refine dY ?_ ?_ <;> intro _) | fail)
       exact ⟨_, _, rfl, rfl, kfin.out⟩
      | ok x l6 =>
       rw [w6] at q6
       obtain ⟨v6, tok6, sz6, rfl, ⟨tkx, szx, rowsx, rfl, hrx⟩, m6, Q6⟩ := q6
       have d6 := m6.box _ _ (by omega) e5
       have nd6 := (List.getElem?_eq_some_iff.1 d6).1
       have M6 := (M5.trans m6).put_new (c := h.boxes.length) (Nat.le_refl _) (rrow ⟨s, 0, d, x⟩ tkx szx rowsx)
       have P6 := Q6.put (c := h.boxes.length) (by omega) (rrow ⟨s, 0, d, x⟩ tkx szx rowsx)
       have e6 : (h6.put h.boxes.length (rrow ⟨s, 0, d, x⟩ tkx szx rowsx)).boxes[h.boxes.length]? = some (rrow ⟨s, 0, d, x⟩ tkx szx rowsx) := put_this nd6
       rw [bind_ok]
       obtain ⟨r7, h7, c7, q7⟩ := want1_ev n0 .tight cSemi P6
       simp only [cSemi] at c7
       cases w7 : wantT cSemi l6 with
       | bad l7 =>
        rw [w7] at q7
        obtain ⟨rfl, m7⟩ := q7
        have kfin := Keep.mk (M6.trans m7)
        clear m7 M0 M1 M2 M3 M4 M5 M6 P0 P1 P2 P3 P4 P5 P6 P
        refine call_post rfl Tryz.func131 rfl ?_
        repeat' (first | simp (config := { maxSteps := 4000000 }) (disch := first | exact dZ | fail) only [goS, append_gt, append_gt_yes, plainEv, resultsEv, resultListEv, reduceIte, Nat.reduceEqDiff, goT, beq_self_eq_true, goH, goU, rs131, push_len, cell_one, fp62, st62_0, st62_2, st62_3, ld62, st62, put_put, put_push_eq, *] | (refine dX ?_ ?_ <;> (intro _; try (exfalso; omega))) | (refine dY ?_ ?_ <;> intro _) | fail)
        exact ⟨_, _, rfl, rfl, kfin.out⟩
       | ok u7 l7 =>
        rw [w7] at q7
        obtain ⟨v7, tok7, sz7, rfl, rfl, m7, Q7⟩ := q7
        have d7 := m7.box _ _ (by omega) e6
        have nd7 := (List.getElem?_eq_some_iff.1 d7).1
        have M7 := M6.trans m7
        have P7 := Q7
        have e7 := d7
        have kfin := Keep.mk (M7.put_new (c := h.boxes.length) (Nat.le_refl _) (rrow ⟨s, 0, d, x⟩ tkx szx rowsx))
        have kP := Keep.mk (P7.put (c := h.boxes.length) (by omega) (rrow ⟨s, 0, d, x⟩ tkx szx rowsx))
        have khr := Keep.mk hrx
        clear m1 M1 P1 m2 M2 P2 m3 M3 P3 m4 M4 P4 m5 M5 P5 m6 M6 P6 m7 M7 P7 Q6 Q4 Q2 M0 P0 P hrx
        refine call_post rfl Tryz.func131 rfl ?_
        repeat' (first | simp (config := { maxSteps := 4000000 }) (disch := first | exact dZ | fail) only [goS, append_gt, append_gt_yes, plainEv, resultsEv, resultListEv, reduceIte, Nat.reduceEqDiff, goT, beq_self_eq_true, goH, goU, rs131, push_len, cell_one, fp62, st62_0, st62_2, st62_3, ld62, st62, put_put, put_push_eq, *] | (refine dX ?_ ?_ <;> (intro _; try (exfalso; omega))) | (refine dY ?_ ?_ <;> intro _) | fail)
        exact ⟨_, _, rfl, _, _, _, rfl, ⟨_, _, _, rfl, khr.out⟩, kfin.out, kP.out⟩
theorem some_rule_ev {m : Nat} (n0 : Nat) (P : Pa b tok sz l n p t h) (hlm : l.length ≤ m) (ho : okHeap h = true) (hn : n0 ≤ h.tn) (f : Nat) (hf : l.length < f) :
 Reads 130 [.ptr (.box b) 0, .v (.string (bs kRule)), .func (.func 131) [.ptr (.box b) 0] []] b n0 n p t h encRs (someP kRule (ruleP m) f l) := by
 unfold Reads
 have kP := Keep.mk P
 have ko := Keep.mk ho
 have hfew := P.few
 clear P ho
 refine call_post rfl Tryz.func130 rfl ?_
 repeat' (first | simp (config := { maxSteps := 4000000 }) (disch := first | exact dZ | fail) only [goS, append_gt, append_gt_yes, plainEv, resultsEv, resultListEv, reduceIte, Nat.reduceEqDiff, goT, beq_self_eq_true, goH, goU, rs130, *] | (refine dX ?_ ?_ <;> (intro _; try (exfalso; omega))) | (refine dY ?_ ?_ <;> intro _) | fail)
 refine run_loop (fun k e h' => ∃ (a : List Rl) (tokL : Tok) (szL : Nat) (rowsL : List (List AV)) (tok' : Tok) (sz' : Nat) (l' : List Tk) (f' : Nat), k = l'.length ∧ e.get 0 = .ptr (.box b) 0 ∧ e.get 1 = .v (.string (bs kRule)) ∧ e.get 2 = .func (.func 131) [.ptr (.box b) 0] [] ∧ e.get 6 = .list tokL szL rowsL ∧ e.defers = [] ∧
  l'.length < f' ∧ a.length + l'.length ≤ l.length ∧ someP kRule (ruleP m) f l = PR.pre a (someP kRule (ruleP m) f' l') ∧ (RRows a rowsL ∧ (szL = 8 ∨ (rowsL = [] ∧ tokL = .nil))) ∧ CanApp n0 h' tokL ∧ Mut b n0 h h' ∧ okHeap h' = true ∧ Pa b tok' sz' l' n p t h') ?_ l.length _ _ ?_
 ·rintro k e h' ⟨a, tokL, szL, rowsL, tok', sz', l', f', rfl, g0, g1, g2, g6, hd, hff, hal, hpre, ⟨hrow, hsz⟩, hca, hm, hok, hP⟩
  have kpre := Keep.mk hpre
  have ksz := Keep.mk hsz
  have krow := Keep.mk hrow
  have hrl := hrow.1
  have kca := Keep.mk hca
  have km := Keep.mk hm
  have kok := Keep.mk hok
  have kP' := Keep.mk hP
  clear hpre hrow hsz hca hm hok hP
  have c1 := is_ev kRule kP'.out
  obtain ⟨f'', rfl⟩ : ∃ f'', f' = f'' + 1 := ⟨f' - 1, by omega⟩
  cases hi : isT kRule l' with
  | false =>
   rw [hi] at c1
   have hend : someP kRule (ruleP m) f l = .ok a l' := by
    rw [kpre.out]
    unfold someP
    rw [hi, if_neg (by decide)]
    show PR.ok (a ++ []) l' = _
    rw [List.append_nil]
   rw [hend]
   clear hend
   repeat' (first | simp (config := { maxSteps := 4000000 }) (disch := first | exact dZ | fail) only [goS, append_gt, append_gt_yes, plainEv, resultsEv, resultListEv, reduceIte, Nat.reduceEqDiff, goT, beq_self_eq_true, goH, goU, rs130, *] | (refine dX ?_ ?_ <;> (intro _; try (exfalso; omega))) | (refine dY ?_ ?_ <;> intro _) | fail)
   refine ⟨_, _, rfl, _, _, _, rfl, ⟨_, _, _, rfl, krow.out, fun i hi => ?_⟩, km.out, kP'.out⟩
   rcases ksz.out with q | ⟨q, -⟩
   ·exact q
   ·exfalso
    have := krow.out.1
    rw [q] at this
    simp at this
    omega
  | true =>
   rw [hi] at c1
   obtain ⟨r2, h2, c2', q2⟩ := rule_ev (m := m) h'.tn kP'.out kok.out (Nat.le_refl _) (by omega)
   cases w2 : ruleP m l' with
   | bad l2 =>
    rw [w2] at q2
    obtain ⟨rfl, m2⟩ := q2
    have hend : someP kRule (ruleP m) f l = .bad l2 := by
     rw [kpre.out]
     unfold someP
     rw [if_pos hi, w2]
     rfl
    rw [hend]
    have kfin := Keep.mk (km.out.trans (m2.weak (Nat.le_trans hn km.out.tn)))
    clear hend m2
    repeat' (first | simp (config := { maxSteps := 4000000 }) (disch := first | exact dZ | fail) only [goS, append_gt, append_gt_yes, plainEv, resultsEv, resultListEv, reduceIte, Nat.reduceEqDiff, goT, beq_self_eq_true, goH, goU, rs130, List.cons_append, List.nil_append, List.append_nil, build23, *] | (refine dX ?_ ?_ <;> (intro _; try (exfalso; omega))) | (refine dY ?_ ?_ <;> intro _) | fail)
    exact ⟨_, _, rfl, rfl, kfin.out⟩
   | ok x l2 =>
    rw [w2] at q2
    obtain ⟨v2, tok2, sz2, rfl, ⟨tkx, szx, rowsx, rfl, hrx⟩, m2, P2⟩ := q2
    have hl2 := rule_less w2
    have hgo : someP kRule (ruleP m) f l = PR.pre (a ++ [x]) (someP kRule (ruleP m) f'' l2) := by
     rw [kpre.out, ← pre_snoc]
     have e2 : someP kRule (ruleP m) (f'' + 1) l' = (ruleP m l').bind fun x r => (someP kRule (ruleP m) f'' r).bind fun t r => .ok (x :: t) r := by
      conv => lhs; unfold someP
      rw [if_pos hi]
     rw [e2, w2, bind_ok]
    have kgo := Keep.mk hgo
    have km2 := Keep.mk (km.out.trans (m2.weak (Nat.le_trans hn km.out.tn)))
    have kok2 := Keep.mk (m2.ok kok.out)
    have kca2 : CanApp n0 h2 tokL := kca.out.mut m2 (Nat.le_refl _)
    have kca3 := Keep.mk kca2
    have happ := app_rule2 (h := h2) (r := rrow x tkx szx rowsx) (kca2.mono (Nat.zero_le _)) ksz.out (by omega)
    have khr := Keep.mk hrx
    have kP2 := Keep.mk P2
    clear hgo m2 kca2 P2 hrx
    repeat' (first | simp (config := { maxSteps := 4000000 }) (disch := first | exact dZ | fail) only [goS, append_gt, append_gt_yes, plainEv, resultsEv, resultListEv, reduceIte, Nat.reduceEqDiff, goT, beq_self_eq_true, goH, goU, rs130, List.cons_append, List.nil_append, List.append_nil, build23, *] | (refine dX ?_ ?_ <;> (intro _; try (exfalso; omega))) | (refine dY ?_ ?_ <;> intro _) | fail)
    refine ⟨l2.length, hl2, a ++ [x], _, _, _, tok2, sz2, l2, f'', rfl, (by first | trivial | (simp; done) | (simp; omega)), (by first | trivial | (simp; done) | (simp; omega)), (by first | trivial | (simp; done) | (simp; omega)), rfl, (by first | trivial | (simp; done) | (simp; omega)), by omega, by rw [List.length_append, List.length_singleton]; omega, kgo.out, ⟨RRows.snoc krow.out (RRow.mk khr.out), .inl rfl⟩, ?_, ?_, ?_, ?_⟩
    ·exact kca3.out.next kok2.out (Nat.le_trans hn km2.out.tn)
    ·exact km2.out.app2 kca3.out
    ·exact (Mut.app (b := 0) kca3.out).ok kok2.out
    ·exact kP2.out.app _
 ·refine ⟨[], .nil, 0, [], tok, sz, l, f, rfl, ?_, ?_, ?_, ?_, ?_, hf, by simp, (pre_nil _).symm, ⟨RRows.nil, .inr ⟨rfl, rfl⟩⟩, .inl rfl, Mut.refl _ _ _, ko.out, kP.out⟩ <;> simp only [goS, append_gt, append_gt_yes, plainEv, resultsEv, resultListEv, reduceIte, Nat.reduceEqDiff, goT, beq_self_eq_true, goH] <;> rfl
end
end Go.Proofs.YtmdakolcndpjeaaGreatDoor
end

section
namespace Go.Proofs.YtmdakolcndpjeaaGreatDoor
open Go.AE Go.Lex Go.Pol Go.Syn
theorem rs74 : Tryz.f74.results.toList = [.tmp 0] := by kernel_rfl
theorem rs76 : Tryz.f76.results.toList = [] := by kernel_rfl
def modeL : List (List UInt8) := [[], kOld, kNew, kBoth, kEither]
theorem modes_ev (h : Heap) : W.call 74 [] h = some (.ret (.list .tight 1 (strs modeL)), h) := by
 have hb : buildSliceEv Tryz.prog 22 5 [(1, .v (.string (bs kOld))), (2, .v (.string (bs kNew))), (3, .v (.string (bs kBoth))), (4, .v (.string (bs kEither)))] = some (.list .tight 1 (strs modeL)) := by kernel_rfl
 simp only [kOld, kNew, kBoth, kEither] at hb
 refine call_of_run rfl Tryz.func74 rfl ?_
 repeat' (first | simp (config := { maxSteps := 4000000 }) (disch := first | exact dZ | fail) only [goS, append_gt, append_gt_yes, plainEv, resultsEv, resultListEv, reduceIte, Nat.reduceEqDiff, goT, beq_self_eq_true, goH, goU, rs74, hb, *] | (refine dX ?_ ?_ <;> (intro _; try (exfalso; omega))) | (refine dY ?_ ?_ <;> intro _) | fail)
section
variable {h : Heap} {b : Nat} {tok : Tok} {sz : Nat} {l : List Tk} {n : Int} {p : Po} {t : PT} {s : List UInt8} {m : Int} {tok' : Tok} {sz' : Nat} {rows' : List (List AV)} {x : Ex}
theorem stp_name (hb : h.boxes[b]? = some (par tok sz l n p t)) : storeEv Tryz.prog h 9 (.ptr (.box b) 2) (.v (.string (bs s))) = some (h.put b (par tok sz l n { p with name := s } t)) := store_box (off := 2) (cs := par tok sz l n p t) (xs := [.v (.string (bs s))]) rfl sz9 hb rfl (show 2 + 1 ≤ 12 by omega)
theorem stp_mode (hb : h.boxes[b]? = some (par tok sz l n p t)) : storeEv Tryz.prog h 3 (.ptr (.box b) 11) (.v (.int .i64 m)) = some (h.put b (par tok sz l n { p with mode := m } t)) := store_box (off := 11) (cs := par tok sz l n p t) (xs := [.v (.int .i64 m)]) rfl sz3 hb rfl (show 11 + 1 ≤ 12 by omega)
theorem stp_offices {o : List (List UInt8)} (hb : h.boxes[b]? = some (par tok sz l n p t)) : storeEv Tryz.prog h 22 (.ptr (.box b) 4) (.list tok' sz' (strs o)) = some (h.put b (par tok sz l n { p with offices := o } { t with to := tok', so := sz' })) := store_box (off := 4) (cs := par tok sz l n p t) (xs := [.list tok' sz' (strs o)]) rfl sz22 hb rfl (show 4 + 1 ≤ 12 by omega)
theorem stp_kinds {o : List (List UInt8)} (hb : h.boxes[b]? = some (par tok sz l n p t)) : storeEv Tryz.prog h 22 (.ptr (.box b) 3) (.list tok' sz' (strs o)) = some (h.put b (par tok sz l n { p with kinds := o } { t with tk := tok', sk := sz' })) := store_box (off := 3) (cs := par tok sz l n p t) (xs := [.list tok' sz' (strs o)]) rfl sz22 hb rfl (show 3 + 1 ≤ 12 by omega)
theorem stp_rules {w : List Rl} (hb : h.boxes[b]? = some (par tok sz l n p t)) : storeEv Tryz.prog h 23 (.ptr (.box b) 5) (.list tok' sz' rows') = some (h.put b (par tok sz l n { p with rules := w } { t with tr := tok', sr := sz', rr := rows' })) := store_box (off := 5) (cs := par tok sz l n p t) (xs := [.list tok' sz' rows']) rfl sz23 hb rfl (show 5 + 1 ≤ 12 by omega)
theorem stp_change (hb : h.boxes[b]? = some (par tok sz l n p t)) : storeEv Tryz.prog h 26 (.ptr (.box b) 6) (.agg (row5 x.kind x.n x.no x.name tok' sz' rows')) = some (h.put b (par tok sz l n { p with change := x } { t with tok := tok', sz := sz', rows := rows' })) := store_box (off := 6) (cs := par tok sz l n p t) (xs := row5 x.kind x.n x.no x.name tok' sz' rows') rfl sz26 hb rfl (show 6 + 5 ≤ 12 by omega)
theorem par_11 : ((par tok sz l n p t).drop 11).head? = some (.v (.int .i64 p.mode)) := rfl
theorem ld28 (hb : h.boxes[b]? = some (par tok sz l n p t)) : loadEv Tryz.prog Gt h 28 (.ptr (.box b) 2) = some (.agg (prow p t)) := load_agg ag28 sz28 hb (show 2 + 10 ≤ 12 by omega)
theorem Pa.with (P : Pa b tok sz l n p t h) {p' : Po} {t' : PT} : Pa b tok sz l n p' t' (h.put b (par tok sz l n p' t')) := ⟨put_this P.lt, P.size, P.few⟩
end
def HPost (b n0 : Nat) (n : Int) (p : Po) (t : PT) (h : Heap) (pr : PR (List UInt8 × Int)) (r : Res) (h' : Heap) : Prop :=
 match pr with
 | .ok x l => ∃ tok sz, r = .ret (.tuple []) ∧ Mut b n0 h h' ∧ Pa b tok sz l n { p with name := x.1, mode := x.2 } t h'
 | .bad l => r = .panic (wrongV (failAt n l)) ∧ Mut b n0 h h'
theorem mode_step (i : Nat) (hi : i < 5) (mo : Int) (l : List Tk) (s : List UInt8) (hs : modeL[i]? = some s) : if i = 0 then modeGo (modeW.drop (i - 1)) mo l = modeGo (modeW.drop i) mo l else modeGo (modeW.drop (i - 1)) mo l = if isT s l = true then modeGo (modeW.drop i) (i : Int) l.tail else modeGo (modeW.drop i) mo l := by
 have : i = 0 ∨ i = 1 ∨ i = 2 ∨ i = 3 ∨ i = 4 := by omega
 rcases this with rfl | rfl | rfl | rfl | rfl
 ·rfl
 all_goals
  injection hs with hs
  subst hs
  rfl
section
variable {b : Nat} {tok : Tok} {sz : Nat} {l : List Tk} {n : Int} {p : Po} {t : PT} {h : Heap}
theorem head_ev (n0 : Nat) (P : Pa b tok sz l n p t h) (hm0 : p.mode = 0) : ∃ r h', W.call 76 [.ptr (.box b) 0] h = some (r, h') ∧ HPost b n0 n p t h (headP l) r h' := by
 have a9 := ag9; have s9 := sz9; have u22 := Tryz.underlying22; have u9 := Tryz.underlying9; have a3 := ag3
 have km0 := Keep.mk hm0
 clear hm0
 have nb := P.lt
 have bw_pol := bw1 kPolicy
 have bw_semi := bw1 cSemi
 have bw_2 := bw2 cSemi kMode
 simp only [kPolicy] at bw_pol
 simp only [cSemi] at bw_semi
 simp only [cSemi, kMode] at bw_2
 have mev := modes_ev
 have e9 : headP l = (wantT kPolicy l).bind fun _ r => (nameP r).bind fun s r => (wantP [cSemi, kMode] r).bind fun _ r => (modeGo modeW 0 r).bind fun n r => (wantT cSemi r).bind fun _ r => .ok (s, n) r := rfl
 obtain ⟨r1, h1, c1, q1⟩ := want1_ev n0 .tight kPolicy P
 simp only [kPolicy] at c1
 rw [e9]
 cases w1 : wantT kPolicy l with
 | bad l1 =>
  rw [w1] at q1
  obtain ⟨rfl, m1⟩ := q1
  refine call_post rfl Tryz.func76 rfl ?_
  repeat' (first | simp (config := { maxSteps := 4000000 }) (disch := first | exact dZ | fail) only [goS, append_gt, append_gt_yes, plainEv, resultsEv, resultListEv, reduceIte, Nat.reduceEqDiff, goT, beq_self_eq_true, goH, goU, rs76, *] | (refine dX ?_ ?_ <;> (intro _; try (exfalso; omega))) | (refine dY ?_ ?_ <;> intro _) | fail)
  exact ⟨_, _, rfl, rfl, m1⟩
 | ok u1 l1 =>
  rw [w1] at q1
  obtain ⟨v1, tok1, sz1, rfl, rfl, m1, P1⟩ := q1
  obtain ⟨r2, h2, c2, q2⟩ := name_ev2 n0 P1
  rw [bind_ok]
  cases w2 : nameP l1 with
  | bad l2 =>
   rw [w2] at q2
   obtain ⟨rfl, m2⟩ := q2
   have kfin := Keep.mk (m1.trans m2)
   clear m1 m2 P1 P
   refine call_post rfl Tryz.func76 rfl ?_
   repeat' (first | simp (config := { maxSteps := 4000000 }) (disch := first | exact dZ | fail) only [goS, append_gt, append_gt_yes, plainEv, resultsEv, resultListEv, reduceIte, Nat.reduceEqDiff, goT, beq_self_eq_true, goH, goU, rs76, *] | (refine dX ?_ ?_ <;> (intro _; try (exfalso; omega))) | (refine dY ?_ ?_ <;> intro _) | fail)
   exact ⟨_, _, rfl, rfl, kfin.out⟩
  | ok s l2 =>
   rw [w2] at q2
   obtain ⟨v2, tok2, sz2, rfl, rfl, m2, Q2⟩ := q2
   have b2 := Q2.box
   have nb2 := Q2.lt
   have P2 := Q2.with (p' := { p with name := s }) (t' := t)
   have M2 := (m1.trans m2).trans (.put b n0 h2 (par tok2 sz2 l2 n { p with name := s } t))
   obtain ⟨r3, h3, c3, q3⟩ := want_ev n0 .tight [cSemi, kMode] (by simp) P2
   simp only [cSemi, kMode] at c3
   rw [bind_ok]
   cases w3 : wantP [cSemi, kMode] l2 with
   | bad l3 =>
    rw [w3] at q3
    obtain ⟨rfl, m3⟩ := q3
    have kfin := Keep.mk (M2.trans m3)
    clear m1 m2 m3 M2 P1 P2 Q2 P
    refine call_post rfl Tryz.func76 rfl ?_
    repeat' (first | simp (config := { maxSteps := 4000000 }) (disch := first | exact dZ | fail) only [goS, append_gt, append_gt_yes, plainEv, resultsEv, resultListEv, reduceIte, Nat.reduceEqDiff, goT, beq_self_eq_true, goH, goU, rs76, fp111, fp28, stp_name, Nat.zero_add, Nat.add_zero, *] | (refine dX ?_ ?_ <;> (intro _; try (exfalso; omega))) | (refine dY ?_ ?_ <;> intro _) | fail)
    exact ⟨_, _, rfl, rfl, kfin.out⟩
   | ok u3 l3 =>
    rw [w3] at q3
    obtain ⟨v3, tok3, sz3, rfl, rfl, m3, P3⟩ := q3
    have M3 := M2.trans m3
    have kM3 := Keep.mk M3
    have kP3 := Keep.mk P3
    rw [bind_ok]
    clear m1 m2 m3 M2 M3 P1 P2 P3 Q2 P
    refine call_post rfl Tryz.func76 rfl ?_
    repeat' (first | simp (config := { maxSteps := 4000000 }) (disch := first | exact dZ | fail) only [goS, append_gt, append_gt_yes, plainEv, resultsEv, resultListEv, reduceIte, Nat.reduceEqDiff, goT, beq_self_eq_true, goH, goU, rs76, fp111, fp28, stp_name, Nat.zero_add, Nat.add_zero, *] | (refine dX ?_ ?_ <;> (intro _; try (exfalso; omega))) | (refine dY ?_ ?_ <;> intro _) | fail)
    refine run_loop (fun k e h' => ∃ (i : Nat) (mo : Int) (tok' : Tok) (sz' : Nat) (l' : List Tk), i ≤ 5 ∧ k = 5 - i ∧ e.get 0 = .ptr (.box b) 0 ∧ e.get 16 = .list .tight 1 (strs modeL) ∧ e.get 17 = .v (.int .i64 5) ∧ e.get 18 = .v (.int .i64 (i : Nat)) ∧ e.defers = [] ∧ modeGo modeW 0 l3 = modeGo (modeW.drop (i - 1)) mo l' ∧ Mut b n0 h h' ∧ Pa b tok' sz' l' n { p with name := s, mode := mo } t h') ?_ 5 _ _ ?_
    ·rintro k e h' ⟨i, mo, tok', sz', l', hi, rfl, g0, g16, g17, g18, hd, hgo, hm, hP⟩
     have km := Keep.mk hm
     have kgo := Keep.mk hgo
     have kP := Keep.mk hP
     clear hm hgo hP c1 c2 c3
     by_cases hlt : i < 5
     ·obtain ⟨w, hw⟩ : ∃ w, modeL[i]? = some w := ⟨_, List.getElem?_eq_getElem hlt⟩
      have hsg : (strs modeL)[i]? = some [.v (.string (bs w))] := by rw [strs_get, hw]; rfl
      have hlt3 : (i : Int) < ((strs modeL).length : Int) := by rw [strs_len]; show (i : Int) < (5 : Nat); omega
      have hlt4 : (i : Int) < 5 := by omega
      have hst := mode_step i hlt mo l' w hw
      by_cases h0 : i = 0
      ·rw [if_pos h0] at hst
       have kst := Keep.mk hst
       have h0' : ¬ (0 : Int) < (i : Int) := by omega
       have h0'' : decide ((0 : Int) < (i : Int)) = false := decide_eq_false h0'
       clear hst hw h0
       repeat' (first | simp (config := { maxSteps := 4000000 }) (disch := first | exact dZ | fail) only [goS, append_gt, append_gt_yes, plainEv, resultsEv, resultListEv, reduceIte, Nat.reduceEqDiff, goT, beq_self_eq_true, goH, goU, rs76, index_list, load_row, cell_one, *] | (refine dX ?_ ?_ <;> (intro _; try (exfalso; omega))) | (refine dY ?_ ?_ <;> intro _) | fail)
       refine ⟨5 - (i + 1), by omega, i + 1, mo, tok', sz', l', by omega, rfl, (by first | trivial | (simp; done) | (simp; omega)), (by first | trivial | (simp; done) | (simp; omega)), (by first | trivial | (simp; done) | (simp; omega)), (by first | trivial | (simp; done) | (simp; omega)), (by first | trivial | (simp; done) | (simp; omega)), ?_, km.out, kP.out⟩
       rw [kgo.out, kst.out]; rfl
      ·rw [if_neg h0] at hst
       have h0' : (0 : Int) < (i : Int) := by omega
       have h0'' : decide ((0 : Int) < (i : Int)) = true := decide_eq_true h0'
       cases hi2 : isT w l' with
       | false =>
        rw [hi2, if_neg (by decide)] at hst
        have kst := Keep.mk hst
        have ct := take_no kP.out hi2
        clear hst hw hi2
        repeat' (first | simp (config := { maxSteps := 4000000 }) (disch := first | exact dZ | fail) only [goS, append_gt, append_gt_yes, plainEv, resultsEv, resultListEv, reduceIte, Nat.reduceEqDiff, goT, beq_self_eq_true, goH, goU, rs76, index_list, load_row, cell_one, *] | (refine dX ?_ ?_ <;> (intro _; try (exfalso; omega))) | (refine dY ?_ ?_ <;> intro _) | fail)
        refine ⟨5 - (i + 1), by omega, i + 1, mo, tok', sz', l', by omega, rfl, (by first | trivial | (simp; done) | (simp; omega)), (by first | trivial | (simp; done) | (simp; omega)), (by first | trivial | (simp; done) | (simp; omega)), (by first | trivial | (simp; done) | (simp; omega)), (by first | trivial | (simp; done) | (simp; omega)), ?_, km.out, kP.out⟩
        rw [kgo.out, kst.out]; rfl
       | true =>
        rw [hi2, if_pos rfl] at hst
        cases l' with
        | nil => cases hi2
        | cons x r =>
         have kst := Keep.mk hst
         have ct := take_yes kP.out hi2
         have P4 := kP.out.next (tok' := cutTok tok' true false r.length)
         have b4 := P4.box
         have nb4 := P4.lt
         have kP5 := Keep.mk (P4.with (p' := { p with name := s, mode := (i : Int) }) (t' := t))
         have kM5 := Keep.mk ((km.out.trans (.put b n0 h' (par (cutTok tok' true false r.length) 4 r n { p with name := s, mode := mo } t))).trans (.put b n0 _ (par (cutTok tok' true false r.length) 4 r n { p with name := s, mode := (i : Int) } t)))
         clear hst hw hi2 P4
         repeat' (first | simp (config := { maxSteps := 4000000 }) (disch := first | exact dZ | fail) only [goS, append_gt, append_gt_yes, plainEv, resultsEv, resultListEv, reduceIte, Nat.reduceEqDiff, goT, beq_self_eq_true, goH, goU, rs76, index_list, load_row, cell_one, fp111, fp28, stp_mode, Nat.zero_add, Nat.add_zero, Nat.reduceAdd, *] | (refine dX ?_ ?_ <;> (intro _; try (exfalso; omega))) | (refine dY ?_ ?_ <;> intro _) | fail)
         refine ⟨5 - (i + 1), by omega, i + 1, (i : Int), _, 4, r, by omega, rfl, (by first | trivial | (simp; done) | (simp; omega)), (by first | trivial | (simp; done) | (simp; omega)), (by first | trivial | (simp; done) | (simp; omega)), (by first | trivial | (simp; done) | (simp; omega)), (by first | trivial | (simp; done) | (simp; omega)), ?_, kM5.out, kP5.out⟩
         rw [kgo.out, kst.out]; rfl
     ·have hie : i = 5 := by omega
      subst hie
      have b5 := kP.out.box
      have nb5 := kP.out.lt
      have hend : modeGo modeW 0 l3 = if mo = 0 then .bad l' else .ok mo l' := by rw [kgo.out]; rfl
      by_cases hz : mo = 0
      ·rw [if_pos hz] at hend
       rw [hend]
       have cf := fail_ev kP.out
       have hz' : decide (mo = 0) = true := decide_eq_true hz
       clear hend
       repeat' (first | simp (config := { maxSteps := 4000000 }) (disch := first | exact dZ | fail) only [goS, append_gt, append_gt_yes, plainEv, resultsEv, resultListEv, reduceIte, Nat.reduceEqDiff, goT, beq_self_eq_true, goH, goU, rs76, fp111, fp28, par_11, Nat.zero_add, Nat.add_zero, Nat.reduceAdd, *] | (refine dX ?_ ?_ <;> (intro _; try (exfalso; omega))) | (refine dY ?_ ?_ <;> intro _) | fail)
       exact ⟨_, _, rfl, rfl, km.out⟩
      ·rw [if_neg hz] at hend
       rw [hend, bind_ok]
       have hz' : decide (mo = 0) = false := decide_eq_false hz
       obtain ⟨r6, h6, c6, q6⟩ := want1_ev n0 .tight cSemi kP.out
       simp only [cSemi] at c6
       clear hend
       cases w6 : wantT cSemi l' with
       | bad l6 =>
        rw [w6] at q6
        obtain ⟨rfl, m6⟩ := q6
        have kfin := Keep.mk (km.out.trans m6)
        clear m6
        repeat' (first | simp (config := { maxSteps := 4000000 }) (disch := first | exact dZ | fail) only [goS, append_gt, append_gt_yes, plainEv, resultsEv, resultListEv, reduceIte, Nat.reduceEqDiff, goT, beq_self_eq_true, goH, goU, rs76, fp111, fp28, par_11, Nat.zero_add, Nat.add_zero, Nat.reduceAdd, *] | (refine dX ?_ ?_ <;> (intro _; try (exfalso; omega))) | (refine dY ?_ ?_ <;> intro _) | fail)
        exact ⟨_, _, rfl, rfl, kfin.out⟩
       | ok u6 l6 =>
        rw [w6] at q6
        obtain ⟨v6, tok6, sz6, rfl, rfl, m6, P6⟩ := q6
        have kfin := Keep.mk (km.out.trans m6)
        have kP6 := Keep.mk P6
        clear m6 P6
        repeat' (first | simp (config := { maxSteps := 4000000 }) (disch := first | exact dZ | fail) only [goS, append_gt, append_gt_yes, plainEv, resultsEv, resultListEv, reduceIte, Nat.reduceEqDiff, goT, beq_self_eq_true, goH, goU, rs76, fp111, fp28, par_11, Nat.zero_add, Nat.add_zero, Nat.reduceAdd, *] | (refine dX ?_ ?_ <;> (intro _; try (exfalso; omega))) | (refine dY ?_ ?_ <;> intro _) | fail)
        exact ⟨_, _, rfl, _, _, rfl, kfin.out, kP6.out⟩
    ·refine ⟨0, 0, tok3, sz3, l3, by omega, rfl, ?_, ?_, ?_, ?_, ?_, rfl, kM3.out, ?_⟩
     iterate 5
      ·simp only [goS, append_gt, append_gt_yes, plainEv, resultsEv, resultListEv, reduceIte, Nat.reduceEqDiff, goT, beq_self_eq_true, goH, strs_len] <;> rfl
     ·have := kP3.out
      rw [show ({ p with name := s } : Po) = { p with name := s, mode := 0 } from by rw [← km0.out]] at this
      exact this
end
end Go.Proofs.YtmdakolcndpjeaaGreatDoor
end
