/-
  Part of the proof: SI.
-/
import Derived.Test.YtilmhlbjjfgeoaaDoorSH
import Derived.Test.YtilmhlbjjfgeoaaDoorSB
import Derived.Test.YtilmhlbjjfgeoaaDoorE4
import Derived.LaidMore
import Derived.Test.YtilmhlbjjfgeoaaDoorRows
set_option linter.unusedSimpArgs false
set_option linter.unusedVariables false
set_option linter.constructorNameAsVariable false
section
namespace Go.Proofs.YtilmhlbjjfgeoaaDoor
open Go.AE Go.Lex Go.Pol
/-! ### Numbers that stood there before do not matter -/
mutual
def bareE (n : Int) : Ex → Ex
  | .mk k m _ s l => .mk k m n s (bareL n l)
def bareL (n : Int) : List Ex → List Ex
  | [] => []
  | x :: r => bareE n x :: bareL n r
end
theorem bareL_map (n : Int) (l : List Ex) : bareL n l = l.map (bareE n) := by
  induction l with
  | nil => rw [bareL]; rfl
  | cons x l ih => rw [bareL, ih]; rfl
theorem bareL_length (n : Int) (l : List Ex) : (bareL n l).length = l.length := by rw [bareL_map, List.length_map]
theorem Ex.ind2 {p : Ex → Prop} {q : List Ex → Prop} (hm : ∀ k n no s l, q l → p (.mk k n no s l)) (h0 : q []) (h1 : ∀ x r, p x → q r → q (x :: r)) : (∀ x, p x) ∧ ∀ l, q l := by
  have hp : ∀ x, p x := by
    intro x
    induction x using Ex.ind with
    | h k n no s l ih =>
      refine hm k n no s l ?_
      induction l with
      | nil => exact h0
      | cons y r ihr => exact h1 y r (ih y List.mem_cons_self) (ihr fun z hz => ih z (List.mem_cons_of_mem _ hz))
  refine ⟨hp, fun l => ?_⟩
  induction l with
  | nil => exact h0
  | cons y r ihr => exact h1 y r (hp y) ihr
theorem bare_res (n : Int) (o : List (List UInt8)) : (∀ x, bareE n (resE o x) = bareE n x) ∧ ∀ l, bareL n (resL o l) = bareL n l :=
  Ex.ind2 (fun k a no s l h => by rw [resE, bareE, bareE, h]) (by rw [resL]) (fun x r h1 h2 => by rw [resL, bareL, h1, h2, bareL])
theorem res_bare (n : Int) (o : List (List UInt8)) : (∀ x, resE o (bareE n x) = resE o x) ∧ ∀ l, resL o (bareL n l) = resL o l :=
  Ex.ind2 (fun k a no s l h => by rw [bareE, resE, resE, h]) (by rw [bareL]) (fun x r h1 h2 => by rw [bareL, resL, h1, h2, resL])
theorem cnt_bare (n : Int) : (∀ x, cnt (bareE n x) = cnt x) ∧ ∀ l, cntL (bareL n l) = cntL l :=
  Ex.ind2 (fun k a no s l h => by rw [bareE, cnt, cnt, h]) (by rw [bareL]) (fun x r h1 h2 => by rw [bareL, cntL, h1, h2, cntL])
theorem depth_bare (n : Int) : (∀ x, depthE (bareE n x) = depthE x) ∧ ∀ l, depthL (bareL n l) = depthL l :=
  Ex.ind2 (fun k a no s l h => by rw [bareE, depthE, depthE, h]) (by rw [bareL]) (fun x r h1 h2 => by rw [bareL, depthL, h1, h2, depthL])
theorem named_bare (n : Int) (o : List (List UInt8)) : (∀ x, namedE o (bareE n x) = namedE o x) ∧ ∀ l, namedL o (bareL n l) = namedL o l :=
  Ex.ind2 (fun k a no s l h => by rw [bareE, namedE, namedE, h]) (by rw [bareL]) (fun x r h1 h2 => by rw [bareL, namedL, h1, h2, namedL])
theorem formed_bare (n : Int) (up : Bool) : (∀ x, formedE up (bareE n x) = formedE up x) ∧ ∀ l, formedL up (bareL n l) = formedL up l :=
  Ex.ind2 (fun k a no s l h => by rw [bareE, formedE, formedE, h, bareL_length]) (by rw [bareL]) (fun x r h1 h2 => by rw [bareL, formedL, h1, h2, formedL])
/-- Expressions alike, but for their numbers. -/
def AlikeE (x y : Ex) : Prop := bareE 0 x = bareE 0 y
theorem AlikeE.cnt {x y : Ex} (h : AlikeE x y) : Proofs.YtilmhlbjjfgeoaaDoor.cnt x = Proofs.YtilmhlbjjfgeoaaDoor.cnt y := by rw [← (cnt_bare 0).1 x, ← (cnt_bare 0).1 y, h]
theorem AlikeE.depth {x y : Ex} (h : AlikeE x y) : depthE x = depthE y := by rw [← (depth_bare 0).1 x, ← (depth_bare 0).1 y, h]
theorem AlikeE.named {x y : Ex} (h : AlikeE x y) (o : List (List UInt8)) : namedE o x = namedE o y := by rw [← (named_bare 0 o).1 x, ← (named_bare 0 o).1 y, h]
theorem AlikeE.formed {x y : Ex} (h : AlikeE x y) (up : Bool) : formedE up x = formedE up y := by rw [← (formed_bare 0 up).1 x, ← (formed_bare 0 up).1 y, h]
theorem AlikeE.res {x y : Ex} (h : AlikeE x y) (o : List (List UInt8)) : resE o x = resE o y := by rw [← (res_bare 0 o).1 x, ← (res_bare 0 o).1 y, h]
theorem AlikeE.parts {x y : Ex} (h : AlikeE x y) {lim : Int} (hl : 0 ≤ lim) : Pol.parts x lim = Pol.parts y lim := by rw [parts_cnt x lim hl, parts_cnt y lim hl, h.cnt]
theorem AlikeE.large {x y : Ex} (h : AlikeE x y) : largeE x = largeE y := by unfold largeE; rw [h.parts (by omega), h.depth]
theorem AlikeE.few {x y : Ex} (h : AlikeE x y) : fewE x = fewE y := by unfold fewE; rw [h.parts (by omega)]
theorem alike_res (o : List (List UInt8)) (x : Ex) : AlikeE (resE o x) x := (bare_res 0 o).1 x
/-- Policies alike, but for their numbers. -/
structure AlikeP (p q : Po) : Prop where
  name : p.name = q.name
  kinds : p.kinds = q.kinds
  offices : p.offices = q.offices
  mode : p.mode = q.mode
  change : AlikeE p.change q.change
  len : p.rules.length = q.rules.length
  rules : ∀ (i : Nat) (x y : Rl), p.rules[i]? = some x → q.rules[i]? = some y → x.kind = y.kind ∧ x.think = y.think ∧ AlikeE x.expr y.expr
theorem AlikeP.get {p q : Po} (h : AlikeP p q) {i : Nat} {x : Rl} (hx : p.rules[i]? = some x) : ∃ y, q.rules[i]? = some y ∧ x.kind = y.kind ∧ x.think = y.think ∧ AlikeE x.expr y.expr := by
  have hi := (List.getElem?_eq_some_iff.1 hx).1
  have hq : q.rules[i]? = some (q.rules[i]'(by rw [← h.len]; exact hi)) := List.getElem?_eq_getElem _
  exact ⟨_, hq, h.rules i _ _ hx hq⟩
theorem AlikeP.symm {p q : Po} (h : AlikeP p q) : AlikeP q p := ⟨h.name.symm, h.kinds.symm, h.offices.symm, h.mode.symm, Eq.symm h.change, h.len.symm, fun i x y hx hy => by
  have := h.rules i y x hy hx
  exact ⟨this.1.symm, this.2.1.symm, Eq.symm this.2.2⟩⟩
theorem AlikeP.trans {p q r : Po} (h : AlikeP p q) (k : AlikeP q r) : AlikeP p r := ⟨h.name.trans k.name, h.kinds.trans k.kinds, h.offices.trans k.offices, h.mode.trans k.mode, Eq.trans h.change k.change, h.len.trans k.len, fun i x z hx hz => by
  obtain ⟨y, hy, q1, q2, q3⟩ := h.get hx
  have := k.rules i y z hy hz
  exact ⟨q1.trans this.1, q2.trans this.2.1, Eq.trans q3 this.2.2⟩⟩
theorem AlikeP.exprs {p q : Po} (h : AlikeP p q) {j : Nat} {x : Ex} (hx : (exprs p)[j]? = some x) : ∃ y, (Proofs.YtilmhlbjjfgeoaaDoor.exprs q)[j]? = some y ∧ AlikeE x y := by
  have hj := (List.getElem?_eq_some_iff.1 hx).1
  rw [exprs_len] at hj
  rcases Nat.lt_or_ge j p.rules.length with w | w
  · have hr : p.rules[j]? = some p.rules[j] := List.getElem?_eq_getElem w
    rw [exprs_rule hr] at hx
    injection hx with hx
    obtain ⟨y, hy, -, -, q3⟩ := h.get hr
    exact ⟨y.expr, exprs_rule hy, hx ▸ q3⟩
  · have : j = p.rules.length := by omega
    subst this
    rw [exprs_last] at hx
    injection hx with hx
    rw [h.len]
    exact ⟨_, exprs_last q, hx ▸ h.change⟩
theorem AlikeP.exprs_mem {p q : Po} (h : AlikeP p q) {x : Ex} (hx : x ∈ Proofs.YtilmhlbjjfgeoaaDoor.exprs p) : ∃ y, y ∈ Proofs.YtilmhlbjjfgeoaaDoor.exprs q ∧ AlikeE x y := by
  obtain ⟨j, hj, rfl⟩ := List.mem_iff_getElem.1 hx
  obtain ⟨y, hy, ha⟩ := h.exprs (List.getElem?_eq_getElem hj)
  exact ⟨y, List.mem_of_getElem? hy, ha⟩
theorem AlikeP.small1 {p q : Po} (h : AlikeP p q) (hs : smallP p = true) : smallP q = true := by
  have := small_iff.1 hs
  refine small_iff.2 ⟨by rw [← h.offices]; exact this.1, by rw [← h.kinds]; exact this.2.1, by rw [← h.len]; exact this.2.2.1, fun y hy => ?_⟩
  obtain ⟨x, hx, ha⟩ := h.symm.exprs_mem hy
  rw [ha.large]; exact this.2.2.2 x hx
theorem AlikeP.names1 {p q : Po} (h : AlikeP p q) (hs : namesP p = true) : namesP q = true := by
  have := names_iff.1 hs
  refine names_iff.2 ⟨by rw [← h.name]; exact this.1, by rw [← h.offices]; exact this.2.1, by rw [← h.kinds]; exact this.2.2.1, fun y hy => ?_⟩
  obtain ⟨x, hx, ha⟩ := h.symm.exprs_mem hy
  rw [ha.named, ← h.offices]; exact this.2.2.2 x hx
theorem AlikeP.formed1 {p q : Po} (h : AlikeP p q) (hs : formedP p = true) : formedP q = true := by
  have := formed_iff.1 hs
  refine formed_iff.2 ⟨by rw [← h.kinds]; exact this.1, by rw [← h.kinds, ← h.len]; exact this.2.1, by rw [← h.mode]; exact this.2.2.1, fun j y hy => ?_, fun j y hy => ?_⟩
  · obtain ⟨x, hx, q1, q2, -⟩ := h.symm.get hy
    have := this.2.2.2.1 j x hx
    unfold headOk at this ⊢
    rw [← h.kinds, q1, q2]; exact this
  · obtain ⟨x, hx, ha⟩ := h.symm.exprs hy
    rw [ha.formed, ← h.len]; exact this.2.2.2.2 j x hx
theorem bool_iff {a b : Bool} (h1 : a = true → b = true) (h2 : b = true → a = true) : a = b := by rw [Bool.eq_iff_iff]; exact ⟨h1, h2⟩
theorem AlikeP.small {p q : Po} (h : AlikeP p q) : smallP p = smallP q := bool_iff h.small1 h.symm.small1
theorem AlikeP.names {p q : Po} (h : AlikeP p q) : namesP p = namesP q := bool_iff h.names1 h.symm.names1
theorem AlikeP.formed {p q : Po} (h : AlikeP p q) : formedP p = formedP q := bool_iff h.formed1 h.symm.formed1
theorem AlikeP.code {p q : Po} (h : AlikeP p q) : codeP p = codeP q := by rw [codeP_eq, codeP_eq, h.small, h.names, h.formed]
theorem AlikeP.res {p q : Po} (h : AlikeP p q) : resP p = resP q := by
  have hr : resR p.offices p.rules = resR q.offices q.rules := by
    unfold resR
    refine List.ext_getElem? fun i => ?_
    rw [List.getElem?_mapIdx, List.getElem?_mapIdx]
    cases hx : p.rules[i]? with
    | none =>
      rw [List.getElem?_eq_none (by rw [← h.len]; exact List.getElem?_eq_none_iff.1 hx)]
      rfl
    | some x =>
      obtain ⟨y, hy, q1, q2, q3⟩ := h.get hx
      rw [hy]
      simp only [Option.map_some, Option.some.injEq, Rl.mk.injEq]
      exact ⟨q1, trivial, q2, by rw [q3.res, h.offices]⟩
  unfold resP
  rw [hr, h.change.res, h.offices]
  cases p; cases q
  have e1 := h.name; have e2 := h.kinds; have e3 := h.mode; have e4 := h.offices
  simp_all
theorem alike_resP (p : Po) : AlikeP (resP p) p := by
  refine ⟨rfl, rfl, rfl, rfl, alike_res _ _, by simp [resP, resR], fun i x y hx hy => ?_⟩
  have hx : (resR p.offices p.rules)[i]? = some x := hx
  unfold resR at hx
  rw [List.getElem?_mapIdx, hy] at hx
  simp only [Option.map_some, Option.some.injEq] at hx
  subst hx
  exact ⟨rfl, rfl, alike_res _ _⟩
theorem res_res (p : Po) : resP (resP p) = resP p := (alike_resP p).res
theorem code_res (p : Po) : codeP (resP p) = codeP p := (alike_resP p).code
theorem AlikeP.few1 {p q : Po} (h : AlikeP p q) (hs : fewP p = true) : fewP q = true := by
  unfold fewP at hs ⊢
  simp only [Bool.and_eq_true, decide_eq_true_eq, List.all_eq_true] at hs ⊢
  refine ⟨⟨⟨⟨by rw [← h.offices]; exact hs.1.1.1.1, by rw [← h.kinds]; exact hs.1.1.1.2⟩, by rw [← h.len]; exact hs.1.1.2⟩, by rw [← h.change.few]; exact hs.1.2⟩, fun y hy => ?_⟩
  obtain ⟨j, hj, rfl⟩ := List.mem_iff_getElem.1 hy
  obtain ⟨x, hx, -, -, q3⟩ := h.symm.get (List.getElem?_eq_getElem hj)
  rw [q3.few]
  exact hs.2 x (List.mem_of_getElem? hx)
theorem AlikeP.few {p q : Po} (h : AlikeP p q) : fewP p = fewP q := bool_iff h.few1 h.symm.few1
theorem few_few {p : Po} (h : fewP p = true) : PFew p := by
  unfold fewP at h
  simp only [Bool.and_eq_true, decide_eq_true_eq, List.all_eq_true] at h
  have key : ∀ x, fewE x = true → cnt x ≤ 1000 := by
    intro x hx
    unfold fewE at hx
    rw [parts_cnt x 400 (by omega)] at hx
    simp only [Bool.or_eq_true, Bool.and_eq_true, decide_eq_true_eq] at hx
    by_cases q : (cnt x : Int) ≤ 400
    · omega
    · rw [if_neg q] at hx; omega
  exact ⟨key _ h.1.2, fun x hx => key _ (h.2 x hx), by have := h.1.1.2; omega⟩
theorem check_res {p : Po} (h : codeP p = 0) : checkP (resP p) = 0 := by
  unfold checkP
  rw [code_res, if_pos h, res_res, if_pos (sameP_iff.2 rfl)]
end Go.Proofs.YtilmhlbjjfgeoaaDoor
end

section
namespace Go.Proofs.YtilmhlbjjfgeoaaDoor
open Go.AE Go.Lex Go.Pol
/-! ### The chapter's example -/
def sHead : List UInt8 := [104, 101, 97, 100]
def sBoard : List UInt8 := [98, 111, 97, 114, 100]
def sLetter : List UInt8 := [108, 101, 116, 116, 101, 114]
def sHouse : List UInt8 := [104, 111, 117, 115, 101]
def xWeight : Ex := .mk 2 5 0 sBoard []
def xSome : Ex := .mk 1 0 0 sHead []
def xUpto : Ex := .mk 4 100 0 [] [xSome, xWeight]
def xOf : Ex := .mk 3 2 0 [] [xSome, xWeight]
def sP : Po := ⟨sHouse, [sLetter], [sHead, sBoard], [⟨sLetter, 0, 7, xUpto⟩], xOf, 3⟩
def rWeight : List AV := row5 2 5 0 sBoard .nil 0 []
def rSome : List AV := row5 1 0 0 sHead .nil 0 []
def sT : PT := ⟨.tight, 1, .tight, 1, .tight, 8, [rrow ⟨sLetter, 0, 7, xUpto⟩ .tight 5 [rSome, rWeight]], .tight, 5, [rSome, rWeight]⟩
theorem row_weight : Row xWeight rWeight := .mk _ _ _ _ _ _ _ _ rfl (fun i hi => absurd hi (Nat.not_lt_zero i)) (Nat.zero_le _) (fun i x r h => by simp at h)
theorem row_some : Row xSome rSome := .mk _ _ _ _ _ _ _ _ rfl (fun i hi => absurd hi (Nat.not_lt_zero i)) (Nat.zero_le _) (fun i x r h => by simp at h)
theorem row_two : Pol.Rows [xSome, xWeight] [rSome, rWeight] := Pol.Rows.snoc (Pol.Rows.snoc Pol.Rows.nil row_some) row_weight
theorem row_of (k n : Int) : Row (.mk k n 0 [] [xSome, xWeight]) (row5 k n 0 [] .tight 5 [rSome, rWeight]) := .mk _ _ _ _ _ _ _ _ row_two.1 (fun _ _ => rfl) (by simp) row_two.2
theorem one_rule {x : Rl} {tok : Tok} {sz : Nat} {rows : List (List AV)} (h : Row x.expr (r5 x tok sz rows)) : RRows [x] [rrow x tok sz rows] := RRows.snoc RRows.nil (RRow.mk h)
theorem sOk : POk sP sT := ⟨one_rule (x := ⟨sLetter, 0, 7, xUpto⟩) (row_of 4 100), row_of 3 2, fun _ _ => rfl, fun _ _ => rfl, fun _ _ => rfl, by decide, by decide, by decide⟩
theorem cnt_two (k n : Int) : cnt (.mk k n 0 [] [xSome, xWeight]) = 3 := by simp [cnt, cntL, xSome, xWeight]
theorem sFew : PFew sP := ⟨by show cnt xOf ≤ 1000; rw [xOf, cnt_two]; omega, fun x hx => by simp [sP] at hx; subst hx; show cnt xUpto ≤ 1000; rw [xUpto, cnt_two]; omega, by decide⟩
theorem large_two (k n : Int) : largeE (.mk k n 0 [] [xSome, xWeight]) = false := by
  unfold largeE
  rw [parts_cnt _ _ (by omega), cnt_two]
  simp [depthE, depthL, xSome, xWeight]
theorem sSmall : smallP sP = true := by
  refine small_iff.2 ⟨by decide, by decide, by decide, fun x hx => ?_⟩
  simp [exprs, sP] at hx
  rcases hx with rfl | rfl
  · exact large_two 4 100
  · exact large_two 3 2
theorem named_two (k n : Int) (hk : (decide (k = 1) || decide (k = 2)) = false) : namedE [sHead, sBoard] (.mk k n 0 [] [xSome, xWeight]) = true := by
  rw [namedE, hk]
  simp only [xSome, xWeight, namedL, namedE]
  have h1 : idx [sHead, sBoard] sHead = 0 := by decide
  have h2 : idx [sHead, sBoard] sBoard = 1 := by decide
  rw [h1, h2]; rfl
theorem sNames : namesP sP = true := by
  refine names_iff.2 ⟨by decide, by decide, by decide, fun x hx => ?_⟩
  simp [exprs, sP] at hx
  rcases hx with rfl | rfl
  · exact named_two 4 100 rfl
  · exact named_two 3 2 rfl
theorem formed_upto : formedE true xUpto = true := by simp [xUpto, xSome, xWeight, formedE, formedL, formB]
theorem formed_of : formedE false xOf = true := by simp [xOf, xSome, xWeight, formedE, formedL, formB]
theorem sFormed : formedP sP = true := by
  refine formed_iff.2 ⟨by decide, by decide, by decide, fun j x hx => ?_, fun j y hy => ?_⟩
  · cases j with
    | zero => simp [sP] at hx; subst hx; decide
    | succ j => simp [sP] at hx
  · cases j with
    | zero => simp [exprs, sP] at hy; subst hy; exact formed_upto
    | succ j =>
      cases j with
      | zero => simp [exprs, sP] at hy; subst hy; exact formed_of
      | succ j => simp [exprs, sP] at hy
theorem sCode : codeP sP = 0 := by rw [codeP_eq, sSmall, sNames, sFormed]; rfl
end Go.Proofs.YtilmhlbjjfgeoaaDoor
end

section
namespace Go.Proofs.YtilmhlbjjfgeoaaDoor
open Go.AE Go.Lex Go.Pol
/-! ### small, changed -/
theorem rs25 : Tryd.f25.results.toList = [.cell 0 28] := by kernel_rfl
theorem rs26 : Tryd.f26.results.toList = [.tmp 2] := by kernel_rfl
theorem rs27 : Tryd.f27.results.toList = [] := by kernel_rfl
theorem rs28 : Tryd.f28.results.toList = [] := by kernel_rfl
theorem rs29 : Tryd.f29.results.toList = [] := by kernel_rfl
theorem rs30 : Tryd.f30.results.toList = [] := by kernel_rfl
theorem rs31 : Tryd.f31.results.toList = [] := by kernel_rfl
theorem rs32 : Tryd.f32.results.toList = [] := by kernel_rfl
theorem bd1 : buildEv Tryd.prog 26 [(0, .v (.int .i64 2)), (1, .v (.int .i64 5)), (3, .v (.string (bs [98, 111, 97, 114, 100])))] = some (.agg rWeight) := by kernel_rfl
theorem bd2 : buildEv Tryd.prog 26 [(0, .v (.int .i64 1)), (3, .v (.string (bs [104, 101, 97, 100])))] = some (.agg rSome) := by kernel_rfl
theorem bd3 : buildSliceEv Tryd.prog 24 2 [(0, .agg rSome), (1, .agg rWeight)] = some (.list .tight 5 [rSome, rWeight]) := by kernel_rfl
theorem bd4 : buildEv Tryd.prog 26 [(0, .v (.int .i64 4)), (1, .v (.int .i64 100)), (4, .list .tight 5 [rSome, rWeight])] = some (.agg (row5 4 100 0 [] .tight 5 [rSome, rWeight])) := by kernel_rfl
theorem bd5 : buildSliceEv Tryd.prog 22 2 [(0, .v (.string (bs [104, 101, 97, 100]))), (1, .v (.string (bs [98, 111, 97, 114, 100])))] = some (.list .tight 1 (strs [sHead, sBoard])) := by kernel_rfl
theorem bd6 : buildSliceEv Tryd.prog 22 1 [(0, .v (.string (bs [108, 101, 116, 116, 101, 114])))] = some (.list .tight 1 (strs [sLetter])) := by kernel_rfl
theorem bd7 : buildEv Tryd.prog 43 [(0, .v (.string (bs [108, 101, 116, 116, 101, 114]))), (2, .v (.int .i64 7)), (3, .agg (row5 4 100 0 [] .tight 5 [rSome, rWeight]))] = some (.agg (rrow ⟨sLetter, 0, 7, xUpto⟩ .tight 5 [rSome, rWeight])) := by kernel_rfl
theorem bd9 : buildEv Tryd.prog 26 [(0, .v (.int .i64 3)), (1, .v (.int .i64 2)), (4, .list .tight 5 [rSome, rWeight])] = some (.agg (row5 3 2 0 [] .tight 5 [rSome, rWeight])) := by kernel_rfl
theorem bd10 : buildEv Tryd.prog 28 [(0, .v (.string (bs [104, 111, 117, 115, 101]))), (2, .list .tight 1 (strs [sHead, sBoard])), (1, .list .tight 1 (strs [sLetter])), (3, .list .tight 8 [rrow ⟨sLetter, 0, 7, xUpto⟩ .tight 5 [rSome, rWeight]]), (4, .agg (row5 3 2 0 [] .tight 5 [rSome, rWeight])), (5, .v (.int .i64 3))] = some (.agg (prow sP sT)) := by kernel_rfl
set_option maxHeartbeats 4000000 in
set_option maxRecDepth 100000 in
theorem small_ev (h : Heap) : Says W 25 [] h (.ret (.agg (prow sP sT))) := by
  have a26 := ag26; have a28 := ag28; have z28 := zc28; have z26 := zc26; have s28 := sz28
  have e1 : ∀ (hh : Heap), Ext h hh → ∃ h', (some (Res.ret (AV.agg (prow sP sT)), hh) : Option (Res × Heap)) = some (.ret (.agg (prow sP sT)), h') ∧ Ext h h' := fun hh hx => ⟨hh, rfl, hx⟩
  have l1 : ∀ (h : Heap) (b : Nat), h.boxes[b]? = some rWeight → loadEv Tryd.prog Gk h 26 (.ptr (.box b) 0) = some (.agg rWeight) := fun h b hb => load26 hb
  have l2 : ∀ (h : Heap) (b : Nat), h.boxes[b]? = some rSome → loadEv Tryd.prog Gk h 26 (.ptr (.box b) 0) = some (.agg rSome) := fun h b hb => load26 hb
  have st1 : ∀ (h : Heap) (b : Nat), h.boxes[b]? = some (row5 0 0 0 [] .nil 0 []) → storeEv Tryd.prog h 26 (.ptr (.box b) 0) (.agg rWeight) = some (h.put b rWeight) := fun h b hb => store26 hb
  have st2 : ∀ (h : Heap) (b : Nat), h.boxes[b]? = some (row5 0 0 0 [] .nil 0 []) → storeEv Tryd.prog h 26 (.ptr (.box b) 0) (.agg rSome) = some (h.put b rSome) := fun h b hb => store26 hb
  refine call_ex rfl Tryd.func25 rfl ?_
  repeat' (first | simp (config := { maxSteps := 4000000 }) (disch := first | assumption | (exact Nat.le_refl _) | omega | (simp only [List.length_cons, List.length_nil, List.length_append, push_len, put_len, len_app] <;> omega) | (simp (disch := (first | assumption | omega | (exact (push_len _ _).symm) | (simp only [push_len, put_len, len_app]; omega) | (refine Nat.le_antisymm ?_ ?_ <;> simp only [push_len, put_len, len_app] <;> omega) | fail)) only [get_push_last, get_push_eq, get_push_ne, get_put_eq, get_put_ne, get_app] <;> first | assumption | rfl) | (simp only [canApp_push, canApp_put]; assumption) | (exact start_round _ _) | (simp only [st_round, dfr_round, pn_round]; first | assumption | exact start_round _ _) | fail) only [goS, plainEv, resultsEv, resultListEv, reduceIte, Nat.reduceEqDiff, Option.map_some, Option.map_none, Option.bind_some, List.map_cons, List.map_nil, List.getD_cons_zero, List.getD_cons_succ, List.getElem?_toArray, List.getElem?_cons_zero, List.getElem?_cons_succ, eq_self, beq_self_eq_true, goH, List.append_nil, List.nil_append, rs25, bd1, bd2, bd3, bd4, bd5, bd6, bd7, bd9, bd10, build23, l1, l2, load26, load28, store26, store28, st1, st2, put_push_eq, put_push_ne, push_len, *] | (refine guard_dec (fun _ => ?_) (fun _ => ?_) <;> try (exfalso; omega)) | (refine guard_ndec (fun _ => ?_) (fun _ => ?_) <;> try (exfalso; omega)) | (refine branch_dec (fun _ => ?_) (fun _ => ?_) <;> try (exfalso; omega)) | (refine branch_ndec (fun _ => ?_) (fun _ => ?_) <;> try (exfalso; omega)) | refine guard_nbool (fun _ => ?_) (fun _ => ?_) | refine branch_nbool (fun _ => ?_) (fun _ => ?_) | refine guard_bool (fun _ => ?_) (fun _ => ?_) | refine branch_bool (fun _ => ?_) (fun _ => ?_))
  exact ⟨_, rfl, ((((Ext.push _ _).trans (.push _ _)).trans (.push _ _)).trans (.push _ _))⟩
section
variable {h : Heap} {b : Nat} {p : Po} {t : PT} {tok' : Tok} {sz' : Nat} {n : Int}
theorem store28_2 {l : List (List UInt8)} (hb : h.boxes[b]? = some (prow p t)) : storeEv Tryd.prog h 22 (.ptr (.box b) 2) (.list tok' sz' (strs l)) = some (h.put b (prow { p with offices := l } { t with to := tok', so := sz' })) := store_box (off := 2) (cs := prow p t) (xs := [.list tok' sz' (strs l)]) rfl sz22 hb rfl (show 2 + 1 ≤ 10 by omega)
theorem store28_1 (hb : h.boxes[b]? = some (prow p t)) : storeEv Tryd.prog h 22 (.ptr (.box b) 1) (.list tok' sz' []) = some (h.put b (prow { p with kinds := [] } { t with tk := tok', sk := sz' })) := store_box (off := 1) (cs := prow p t) (xs := [.list tok' sz' []]) rfl sz22 hb rfl (show 1 + 1 ≤ 10 by omega)
theorem store28_5 (hb : h.boxes[b]? = some (prow p t)) : storeEv Tryd.prog h 3 (.ptr (.box b) 5) (.v (.int .i64 n)) = some (h.put b (prow { p with change := .mk p.change.kind n p.change.no p.change.name p.change.l } t)) := store_box (off := 5) (cs := prow p t) (xs := [.v (.int .i64 n)]) rfl sz3 hb rfl (show 5 + 1 ≤ 10 by omega)
theorem store28_o {b' : Nat} (hb : h.boxes[b]? = some (prow p t)) : storeEv Tryd.prog h 22 (.ptr (.box b) 2) (.arr b' 0 33 33) = some (h.put b (splice (prow p t) 2 [.arr b' 0 33 33])) := store_box (off := 2) (cs := prow p t) (xs := [.arr b' 0 33 33]) rfl sz22 hb rfl (show 2 + 1 ≤ 10 by omega)
end
theorem fe26_4 (sz : Nat) (es : List (List AV)) (i off : Nat) : fieldAddrEv Tryd.prog 26 (.elem sz es i off) 4 = some (.elem sz es i (off + 4)) := by kernel_rfl
theorem fe26_2 (sz : Nat) (es : List (List AV)) (i off : Nat) : fieldAddrEv Tryd.prog 26 (.elem sz es i off) 2 = some (.elem sz es i (off + 2)) := by kernel_rfl
theorem fe43_1 (sz : Nat) (es : List (List AV)) (i off : Nat) : fieldAddrEv Tryd.prog 43 (.elem sz es i off) 1 = some (.elem sz es i (off + 1)) := by kernel_rfl
/-- What a change leaves. -/
def Changes (g : FuncId) (q : Po) (u : PT) : Prop := ∀ (h : Heap) (b : Nat), h.boxes[b]? = some (prow sP sT) → W.call g [.ptr (.box b) 0] h = some (.ret (.tuple []), h.put b (prow q u))
def q28 : Po := { sP with offices := [sHead, sHead, sBoard] }
def q29 : Po := { sP with kinds := [], rules := [] }
def q30 : Po := { sP with change := xUpto }
def q31 : Po := { sP with change := .mk 3 3 0 [] [xSome, xWeight] }
def u29 : PT := { sT with tk := .nil, sk := 0, tr := .nil, sr := 0, rr := [] }
theorem bd28 : buildSliceEv Tryd.prog 22 3 [(0, .v (.string (bs [104, 101, 97, 100]))), (1, .v (.string (bs [104, 101, 97, 100]))), (2, .v (.string (bs [98, 111, 97, 114, 100])))] = some (.list .tight 1 (strs [sHead, sHead, sBoard])) := by kernel_rfl
set_option maxHeartbeats 4000000 in
set_option maxRecDepth 100000 in
theorem ch27 : Changes 27 zP zT := by
  intro h b hb
  refine call_of_run rfl Tryd.func27 rfl ?_
  repeat' (first | simp (config := { maxSteps := 4000000 }) (disch := first | assumption | (exact Nat.le_refl _) | omega | (simp only [List.length_cons, List.length_nil, List.length_append, push_len, put_len, len_app] <;> omega) | (simp (disch := (first | assumption | omega | (exact (push_len _ _).symm) | (simp only [push_len, put_len, len_app]; omega) | (refine Nat.le_antisymm ?_ ?_ <;> simp only [push_len, put_len, len_app] <;> omega) | fail)) only [get_push_last, get_push_eq, get_push_ne, get_put_eq, get_put_ne, get_app] <;> first | assumption | rfl) | (simp only [canApp_push, canApp_put]; assumption) | (exact start_round _ _) | (simp only [st_round, dfr_round, pn_round]; first | assumption | exact start_round _ _) | fail) only [goS, plainEv, resultsEv, resultListEv, reduceIte, Nat.reduceEqDiff, Option.map_some, Option.map_none, Option.bind_some, List.map_cons, List.map_nil, List.getD_cons_zero, List.getD_cons_succ, List.getElem?_toArray, List.getElem?_cons_zero, List.getElem?_cons_succ, eq_self, beq_self_eq_true, goH, List.append_nil, List.nil_append, rs27, build28, store28, *] | (refine guard_dec (fun _ => ?_) (fun _ => ?_) <;> try (exfalso; omega)) | (refine guard_ndec (fun _ => ?_) (fun _ => ?_) <;> try (exfalso; omega)) | (refine branch_dec (fun _ => ?_) (fun _ => ?_) <;> try (exfalso; omega)) | (refine branch_ndec (fun _ => ?_) (fun _ => ?_) <;> try (exfalso; omega)) | refine guard_nbool (fun _ => ?_) (fun _ => ?_) | refine branch_nbool (fun _ => ?_) (fun _ => ?_) | refine guard_bool (fun _ => ?_) (fun _ => ?_) | refine branch_bool (fun _ => ?_) (fun _ => ?_))
set_option maxHeartbeats 4000000 in
set_option maxRecDepth 100000 in
theorem ch28 : Changes 28 q28 sT := by
  intro h b hb
  refine call_of_run rfl Tryd.func28 rfl ?_
  repeat' (first | simp (config := { maxSteps := 4000000 }) (disch := first | assumption | (exact Nat.le_refl _) | omega | (simp only [List.length_cons, List.length_nil, List.length_append, push_len, put_len, len_app] <;> omega) | (simp (disch := (first | assumption | omega | (exact (push_len _ _).symm) | (simp only [push_len, put_len, len_app]; omega) | (refine Nat.le_antisymm ?_ ?_ <;> simp only [push_len, put_len, len_app] <;> omega) | fail)) only [get_push_last, get_push_eq, get_push_ne, get_put_eq, get_put_ne, get_app] <;> first | assumption | rfl) | (simp only [canApp_push, canApp_put]; assumption) | (exact start_round _ _) | (simp only [st_round, dfr_round, pn_round]; first | assumption | exact start_round _ _) | fail) only [goS, plainEv, resultsEv, resultListEv, reduceIte, Nat.reduceEqDiff, Option.map_some, Option.map_none, Option.bind_some, List.map_cons, List.map_nil, List.getD_cons_zero, List.getD_cons_succ, List.getElem?_toArray, List.getElem?_cons_zero, List.getElem?_cons_succ, eq_self, beq_self_eq_true, goH, List.append_nil, List.nil_append, rs28, bd28, store28_2, fp28, *] | (refine guard_dec (fun _ => ?_) (fun _ => ?_) <;> try (exfalso; omega)) | (refine guard_ndec (fun _ => ?_) (fun _ => ?_) <;> try (exfalso; omega)) | (refine branch_dec (fun _ => ?_) (fun _ => ?_) <;> try (exfalso; omega)) | (refine branch_ndec (fun _ => ?_) (fun _ => ?_) <;> try (exfalso; omega)) | refine guard_nbool (fun _ => ?_) (fun _ => ?_) | refine branch_nbool (fun _ => ?_) (fun _ => ?_) | refine guard_bool (fun _ => ?_) (fun _ => ?_) | refine branch_bool (fun _ => ?_) (fun _ => ?_))
  rfl
set_option maxHeartbeats 4000000 in
set_option maxRecDepth 100000 in
theorem ch29 : Changes 29 q29 u29 := by
  intro h b hb
  have nb := (List.getElem?_eq_some_iff.1 hb).1
  refine call_of_run rfl Tryd.func29 rfl ?_
  repeat' (first | simp (config := { maxSteps := 4000000 }) (disch := first | assumption | (exact Nat.le_refl _) | omega | (simp only [List.length_cons, List.length_nil, List.length_append, push_len, put_len, len_app] <;> omega) | (simp (disch := (first | assumption | omega | (exact (push_len _ _).symm) | (simp only [push_len, put_len, len_app]; omega) | (refine Nat.le_antisymm ?_ ?_ <;> simp only [push_len, put_len, len_app] <;> omega) | fail)) only [get_push_last, get_push_eq, get_push_ne, get_put_eq, get_put_ne, get_app] <;> first | assumption | rfl) | (simp only [canApp_push, canApp_put]; assumption) | (exact start_round _ _) | (simp only [st_round, dfr_round, pn_round]; first | assumption | exact start_round _ _) | fail) only [goS, plainEv, resultsEv, resultListEv, reduceIte, Nat.reduceEqDiff, Option.map_some, Option.map_none, Option.bind_some, List.map_cons, List.map_nil, List.getD_cons_zero, List.getD_cons_succ, List.getElem?_toArray, List.getElem?_cons_zero, List.getElem?_cons_succ, eq_self, beq_self_eq_true, goH, List.append_nil, List.nil_append, rs29, store28_1, store28_3, fp28, put_put, *] | (refine guard_dec (fun _ => ?_) (fun _ => ?_) <;> try (exfalso; omega)) | (refine guard_ndec (fun _ => ?_) (fun _ => ?_) <;> try (exfalso; omega)) | (refine branch_dec (fun _ => ?_) (fun _ => ?_) <;> try (exfalso; omega)) | (refine branch_ndec (fun _ => ?_) (fun _ => ?_) <;> try (exfalso; omega)) | refine guard_nbool (fun _ => ?_) (fun _ => ?_) | refine branch_nbool (fun _ => ?_) (fun _ => ?_) | refine guard_bool (fun _ => ?_) (fun _ => ?_) | refine branch_bool (fun _ => ?_) (fun _ => ?_))
  rfl
set_option maxHeartbeats 4000000 in
set_option maxRecDepth 100000 in
theorem ch31 : Changes 31 q31 sT := by
  intro h b hb
  refine call_of_run rfl Tryd.func31 rfl ?_
  repeat' (first | simp (config := { maxSteps := 4000000 }) (disch := first | assumption | (exact Nat.le_refl _) | omega | (simp only [List.length_cons, List.length_nil, List.length_append, push_len, put_len, len_app] <;> omega) | (simp (disch := (first | assumption | omega | (exact (push_len _ _).symm) | (simp only [push_len, put_len, len_app]; omega) | (refine Nat.le_antisymm ?_ ?_ <;> simp only [push_len, put_len, len_app] <;> omega) | fail)) only [get_push_last, get_push_eq, get_push_ne, get_put_eq, get_put_ne, get_app] <;> first | assumption | rfl) | (simp only [canApp_push, canApp_put]; assumption) | (exact start_round _ _) | (simp only [st_round, dfr_round, pn_round]; first | assumption | exact start_round _ _) | fail) only [goS, plainEv, resultsEv, resultListEv, reduceIte, Nat.reduceEqDiff, Option.map_some, Option.map_none, Option.bind_some, List.map_cons, List.map_nil, List.getD_cons_zero, List.getD_cons_succ, List.getElem?_toArray, List.getElem?_cons_zero, List.getElem?_cons_succ, eq_self, beq_self_eq_true, goH, List.append_nil, List.nil_append, rs31, store28_5, fp28, fa26_1, Nat.reduceAdd, *] | (refine guard_dec (fun _ => ?_) (fun _ => ?_) <;> try (exfalso; omega)) | (refine guard_ndec (fun _ => ?_) (fun _ => ?_) <;> try (exfalso; omega)) | (refine branch_dec (fun _ => ?_) (fun _ => ?_) <;> try (exfalso; omega)) | (refine branch_ndec (fun _ => ?_) (fun _ => ?_) <;> try (exfalso; omega)) | refine guard_nbool (fun _ => ?_) (fun _ => ?_) | refine branch_nbool (fun _ => ?_) (fun _ => ?_) | refine guard_bool (fun _ => ?_) (fun _ => ?_) | refine branch_bool (fun _ => ?_) (fun _ => ?_))
  rfl
set_option maxHeartbeats 4000000 in
set_option maxRecDepth 100000 in
theorem ch30 : Changes 30 q30 sT := by
  intro h b hb
  have u23 := Tryd.underlying23; have a23 := ag23; have a26 := ag26; have s26 := sz26; have s43 := sz43
  have e0 : (sT.rr.length : Int) = 1 := rfl
  have e1 : sT.rr[0]? = some (rrow ⟨sLetter, 0, 7, xUpto⟩ .tight 5 [rSome, rWeight]) := rfl
  have e2 : sT.sr = 8 := rfl
  have rf := @rrow_fit5 ⟨sLetter, 0, 7, xUpto⟩ .tight 5 [rSome, rWeight]
  have e3 : ∀ (h : Heap) (b : Nat), h.boxes[b]? = some (prow sP sT) → storeEv Tryd.prog h 26 (.ptr (.box b) 4) (.agg (r5 ⟨sLetter, 0, 7, xUpto⟩ .tight 5 [rSome, rWeight])) = some (h.put b (prow q30 sT)) := fun h b hb => store28_4 (e := xUpto) hb
  refine call_of_run rfl Tryd.func30 rfl ?_
  repeat' (first | simp (config := { maxSteps := 4000000 }) (disch := first | assumption | (exact Nat.le_refl _) | omega | (simp only [List.length_cons, List.length_nil, List.length_append, push_len, put_len, len_app] <;> omega) | (simp (disch := (first | assumption | omega | (exact (push_len _ _).symm) | (simp only [push_len, put_len, len_app]; omega) | (refine Nat.le_antisymm ?_ ?_ <;> simp only [push_len, put_len, len_app] <;> omega) | fail)) only [get_push_last, get_push_eq, get_push_ne, get_put_eq, get_put_ne, get_app] <;> first | assumption | rfl) | (simp only [canApp_push, canApp_put]; assumption) | (exact start_round _ _) | (simp only [st_round, dfr_round, pn_round]; first | assumption | exact start_round _ _) | fail) only [goS, plainEv, resultsEv, resultListEv, reduceIte, Nat.reduceEqDiff, Option.map_some, Option.map_none, Option.bind_some, List.map_cons, List.map_nil, List.getD_cons_zero, List.getD_cons_succ, List.getElem?_toArray, List.getElem?_cons_zero, List.getElem?_cons_succ, eq_self, beq_self_eq_true, goH, List.append_nil, List.nil_append, rs30, load28, fp28, fp43, prs, rrs, index_list, load_row_agg, e0, e1, e2, e3, *] | (refine guard_dec (fun _ => ?_) (fun _ => ?_) <;> try (exfalso; omega)) | (refine guard_ndec (fun _ => ?_) (fun _ => ?_) <;> try (exfalso; omega)) | (refine branch_dec (fun _ => ?_) (fun _ => ?_) <;> try (exfalso; omega)) | (refine branch_ndec (fun _ => ?_) (fun _ => ?_) <;> try (exfalso; omega)) | refine guard_nbool (fun _ => ?_) (fun _ => ?_) | refine branch_nbool (fun _ => ?_) (fun _ => ?_) | refine guard_bool (fun _ => ?_) (fun _ => ?_) | refine branch_bool (fun _ => ?_) (fun _ => ?_))
/-! ### What the changed policies are answered -/
theorem err_zero {q : Po} (h : codeP q ≠ 0) : (resolveF q).1 = zP := by
  unfold codeP at h
  unfold resolveF at h ⊢
  split
  · rfl
  · split
    · rfl
    · split
      · rfl
      · rename_i q1 q2 q3
        rw [if_neg q1, if_neg q2, if_neg q3] at h
        exact absurd rfl h
set_option maxHeartbeats 8000000 in
set_option maxRecDepth 100000 in
theorem changed_ev {g : FuncId} {q : Po} {u : PT} (C : Changes g q u) (ok : POk q u) (few : PFew q) {c : Int} (hc : codeP q = c) (hne : decide (c = 0) = false) (h : Heap) (hok : okHeap h = true) : Says W 26 [.func (.func g) [] []] h (.ret (.v (.int .i64 c))) := by
  have a28 := ag28; have z28 := zc28; have s28 := sz28
  obtain ⟨h1, c1, x1⟩ := small_ev h
  have n0 : h1.boxes.length < (h1.push (prow sP sT)).boxes.length := by rw [push_len]; omega
  have cg := C (h1.push (prow sP sT)) h1.boxes.length (push_last _ _)
  rw [put_push] at cg
  obtain ⟨u2, h2, c2, x2, ok2⟩ := resolveP_ev q u ok few (h1.push (prow q u)) (x1.ok hok)
  have hz := err_zero (by rw [hc]; exact of_decide_eq_false hne)
  have hcode : (resolveF q).2 = c := hc
  rw [hz, hcode] at c2
  rw [hz] at ok2
  obtain ⟨h3, c3, x3⟩ := same_ev zP zP u2 zT ok2 zOk (h2.push (prow zP u2))
  rw [sameP_iff.2 rfl] at c3
  have b1 := x2.box _ _ (push_last h1 (prow q u))
  have n1 := (List.getElem?_eq_some_iff.1 b1).1
  have k3 := Keep.mk ((((x1.trans (.push _ (prow q u))).trans x2).trans (.push _ (prow zP u2))).trans x3)
  clear x1 x2 x3 ok2 few hok ok hz hcode
  refine call_ex rfl Tryd.func26 rfl ?_
  repeat' (first | simp (config := { maxSteps := 4000000 }) (disch := first | assumption | (exact Nat.le_refl _) | omega | (simp only [List.length_cons, List.length_nil, List.length_append, push_len, put_len, len_app] <;> omega) | (simp (disch := (first | assumption | omega | (exact (push_len _ _).symm) | (simp only [push_len, put_len, len_app]; omega) | (refine Nat.le_antisymm ?_ ?_ <;> simp only [push_len, put_len, len_app] <;> omega) | fail)) only [get_push_last, get_push_eq, get_push_ne, get_put_eq, get_put_ne, get_app] <;> first | assumption | rfl) | (simp only [canApp_push, canApp_put]; assumption) | (exact start_round _ _) | (simp only [st_round, dfr_round, pn_round]; first | assumption | exact start_round _ _) | fail) only [goS, plainEv, resultsEv, resultListEv, reduceIte, Nat.reduceEqDiff, Option.map_some, Option.map_none, Option.bind_some, List.map_cons, List.map_nil, List.getD_cons_zero, List.getD_cons_succ, List.getElem?_toArray, List.getElem?_cons_zero, List.getElem?_cons_succ, eq_self, beq_self_eq_true, goH, List.append_nil, List.nil_append, rs26, load28, store28, build28, put_push_eq, put_push_ne, push_len, List.append_nil, List.nil_append, *] | (refine guard_dec (fun _ => ?_) (fun _ => ?_) <;> try (exfalso; omega)) | (refine guard_ndec (fun _ => ?_) (fun _ => ?_) <;> try (exfalso; omega)) | (refine branch_dec (fun _ => ?_) (fun _ => ?_) <;> try (exfalso; omega)) | (refine branch_ndec (fun _ => ?_) (fun _ => ?_) <;> try (exfalso; omega)) | refine guard_nbool (fun _ => ?_) (fun _ => ?_) | refine branch_nbool (fun _ => ?_) (fun _ => ?_) | refine guard_bool (fun _ => ?_) (fun _ => ?_) | refine branch_bool (fun _ => ?_) (fun _ => ?_))
  exact ⟨_, rfl, k3.out⟩
theorem zFew : PFew zP := ⟨by simp [zP, cnt, cntL], fun x hx => by simp [zP] at hx, by simp [zP]⟩
theorem code27 : codeP zP = 201 := by
  have h1 : smallP zP = true := small_iff.2 ⟨by decide, by decide, by decide, fun x hx => by
    simp [exprs, zP] at hx; subst hx
    unfold largeE; rw [parts_cnt _ _ (by omega)]; simp [cnt, cntL, depthE, depthL]⟩
  have h2 : namesP zP = false := by
    rw [Bool.eq_false_iff]; intro q
    have := (names_iff.1 q).1
    revert this; decide
  rw [codeP_eq, h1, h2]; rfl
theorem small_two {q : Po} (h1 : q.offices.length ≤ 32) (h2 : q.kinds.length ≤ 16) (h3 : q.rules.length ≤ 16) (h4 : ∀ x ∈ exprs q, ∃ k n, x = .mk k n 0 [] [xSome, xWeight]) : smallP q = true ∧ PFew q := by
  refine ⟨small_iff.2 ⟨h1, h2, h3, fun x hx => ?_⟩, ?_, fun x hx => ?_, by omega⟩
  · obtain ⟨k, n, rfl⟩ := h4 x hx; exact large_two k n
  · obtain ⟨k, n, e⟩ := h4 q.change (by simp [exprs]); rw [e, cnt_two]; omega
  · obtain ⟨k, n, e⟩ := h4 x.expr (List.mem_append_left _ (List.mem_map_of_mem hx)); rw [e, cnt_two]; omega
theorem ex28 : ∀ x ∈ exprs q28, ∃ k n, x = .mk k n 0 [] [xSome, xWeight] := fun x hx => by
  simp [exprs, q28, sP] at hx
  rcases hx with rfl | rfl
  · exact ⟨4, 100, rfl⟩
  · exact ⟨3, 2, rfl⟩
theorem ex29 : ∀ x ∈ exprs q29, ∃ k n, x = .mk k n 0 [] [xSome, xWeight] := fun x hx => by
  simp [exprs, q29, sP] at hx
  subst hx
  exact ⟨3, 2, rfl⟩
theorem ex30 : ∀ x ∈ exprs q30, ∃ k n, x = .mk k n 0 [] [xSome, xWeight] := fun x hx => by
  simp [exprs, q30, sP] at hx
  subst hx
  exact ⟨4, 100, rfl⟩
theorem ex31 : ∀ x ∈ exprs q31, ∃ k n, x = .mk k n 0 [] [xSome, xWeight] := fun x hx => by
  simp [exprs, q31, sP] at hx
  rcases hx with rfl | rfl
  · exact ⟨4, 100, rfl⟩
  · exact ⟨3, 3, rfl⟩
theorem code28 : codeP q28 = 201 := by
  have h2 : namesP q28 = false := by
    rw [Bool.eq_false_iff]; intro q
    have := (names_iff.1 q).2.1
    revert this; decide
  rw [codeP_eq, (small_two (by decide) (by decide) (by decide) ex28).1, h2]; rfl
theorem named_all {q : Po} (h0 : freeB q.name = true) (h1 : distinctB q.offices = true) (h2 : distinctB q.kinds = true) (h3 : q.offices = [sHead, sBoard]) (h4 : ∀ x ∈ exprs q, ∃ k n, x = .mk k n 0 [] [xSome, xWeight] ∧ (decide (k = 1) || decide (k = 2)) = false) : namesP q = true :=
  names_iff.2 ⟨h0, h1, h2, fun x hx => by
    obtain ⟨k, n, rfl, hk⟩ := h4 x hx
    rw [h3]; exact named_two k n hk⟩
theorem code29 : codeP q29 = 200 := by
  have h2 : namesP q29 = true := named_all (by decide) (by decide) (by decide) rfl fun x hx => by
    simp [exprs, q29, sP] at hx; subst hx; exact ⟨3, 2, rfl, rfl⟩
  have h3 : formedP q29 = false := by
    rw [Bool.eq_false_iff]; intro q
    have := (formed_iff.1 q).1
    revert this; decide
  rw [codeP_eq, (small_two (by decide) (by decide) (by decide) ex29).1, h2, h3]; rfl
theorem code30 : codeP q30 = 200 := by
  have h2 : namesP q30 = true := named_all (by decide) (by decide) (by decide) rfl fun x hx => by
    simp [exprs, q30, sP] at hx; subst hx; exact ⟨4, 100, rfl, rfl⟩
  have h3 : formedP q30 = false := by
    rw [Bool.eq_false_iff]; intro q
    have := (formed_iff.1 q).2.2.2.2 1 xUpto rfl
    revert this; simp [q30, sP, xUpto, xSome, xWeight, formedE, formedL, formB]
  rw [codeP_eq, (small_two (by decide) (by decide) (by decide) ex30).1, h2, h3]; rfl
theorem code31 : codeP q31 = 200 := by
  have h2 : namesP q31 = true := named_all (by decide) (by decide) (by decide) rfl fun x hx => by
    simp [exprs, q31, sP] at hx
    rcases hx with rfl | rfl
    · exact ⟨4, 100, rfl, rfl⟩
    · exact ⟨3, 3, rfl, rfl⟩
  have h3 : formedP q31 = false := by
    rw [Bool.eq_false_iff]; intro q
    have := (formed_iff.1 q).2.2.2.2 1 _ rfl
    revert this; simp [q31, sP, xSome, xWeight, formedE, formedL, formB]
  rw [codeP_eq, (small_two (by decide) (by decide) (by decide) ex31).1, h2, h3]; rfl
theorem ok28 : POk q28 sT := ⟨sOk.rules, sOk.expr, fun _ _ => rfl, fun _ _ => rfl, fun _ _ => rfl, by decide, by decide, by decide⟩
theorem ok29 : POk q29 u29 := ⟨RRows.nil, sOk.expr, fun i hi => absurd hi (Nat.not_lt_zero i), fun _ _ => rfl, fun i hi => absurd hi (Nat.not_lt_zero i), by decide, by decide, by decide⟩
theorem ok30 : POk q30 sT := ⟨sOk.rules, row_of 4 100, fun _ _ => rfl, fun _ _ => rfl, fun _ _ => rfl, by decide, by decide, by decide⟩
theorem ok31 : POk q31 sT := ⟨sOk.rules, row_of 3 3, fun _ _ => rfl, fun _ _ => rfl, fun _ _ => rfl, by decide, by decide, by decide⟩
end Go.Proofs.YtilmhlbjjfgeoaaDoor
end

section
namespace Go.Proofs.YtilmhlbjjfgeoaaDoor
open Go.AE Go.Lex Go.Pol
/-! ### Too many offices, made with make -/
def arow (b : Nat) : List AV := splice (prow sP sT) 2 [.arr b 0 33 33]
theorem ars : (∀ b : Nat, (AV.agg (arow b)).cellsO = some (arow b)) ∧ (∀ b : Nat, ((arow b).drop 2).head? = some (.arr b 0 33 33)) ∧ (∀ b : Nat, ((arow b).drop 1).head? = some (.list .tight 1 (strs [sLetter]))) ∧ (∀ b : Nat, ((arow b).drop 3).head? = some (.list .tight 8 [rrow ⟨sLetter, 0, 7, xUpto⟩ .tight 5 [rSome, rWeight]])) := ⟨fun _ => rfl, fun _ => rfl, fun _ => rfl, fun _ => rfl⟩
theorem load28a {h : Heap} {b c : Nat} (hb : h.boxes[b]? = some (arow c)) : loadEv Tryd.prog Gk h 28 (.ptr (.box b) 0) = some (.agg (arow c)) := load_agg ag28 sz28 hb (Nat.le_refl _)
set_option maxHeartbeats 4000000 in
set_option maxRecDepth 100000 in
theorem asizes_ev (c : Nat) (h : Heap) : W.call 37 [.agg (arow c)] h = some (.panic (stopV 2), h.push (arow c)) := by
  have a22 := ag22; have a23 := ag23; have u22 := Tryd.underlying22; have u23 := Tryd.underlying23
  refine call_of_run rfl Tryd.func37 rfl ?_
  repeat' (first | simp (config := { maxSteps := 4000000 }) (disch := first | assumption | (exact Nat.le_refl _) | omega | (simp only [List.length_cons, List.length_nil, List.length_append, push_len, put_len, len_app] <;> omega) | (simp (disch := (first | assumption | omega | (exact (push_len _ _).symm) | (simp only [push_len, put_len, len_app]; omega) | (refine Nat.le_antisymm ?_ ?_ <;> simp only [push_len, put_len, len_app] <;> omega) | fail)) only [get_push_last, get_push_eq, get_push_ne, get_put_eq, get_put_ne, get_app] <;> first | assumption | rfl) | (simp only [canApp_push, canApp_put]; assumption) | (exact start_round _ _) | (simp only [st_round, dfr_round, pn_round]; first | assumption | exact start_round _ _) | fail) only [goS, plainEv, resultsEv, resultListEv, reduceIte, Nat.reduceEqDiff, Option.map_some, Option.map_none, Option.bind_some, List.map_cons, List.map_nil, List.getD_cons_zero, List.getD_cons_succ, List.getElem?_toArray, List.getElem?_cons_zero, List.getElem?_cons_succ, eq_self, beq_self_eq_true, goH, List.append_nil, List.nil_append, res37, fp28, ars, len_arr, must_bad, *] | (refine guard_dec (fun _ => ?_) (fun _ => ?_) <;> try (exfalso; omega)) | (refine guard_ndec (fun _ => ?_) (fun _ => ?_) <;> try (exfalso; omega)) | (refine branch_dec (fun _ => ?_) (fun _ => ?_) <;> try (exfalso; omega)) | (refine branch_ndec (fun _ => ?_) (fun _ => ?_) <;> try (exfalso; omega)) | refine guard_nbool (fun _ => ?_) (fun _ => ?_) | refine branch_nbool (fun _ => ?_) (fun _ => ?_) | refine guard_bool (fun _ => ?_) (fun _ => ?_) | refine branch_bool (fun _ => ?_) (fun _ => ?_))
set_option maxHeartbeats 4000000 in
set_option maxRecDepth 100000 in
theorem aresolve1_ev (b c : Nat) (h : Heap) (hb : h.boxes[b]? = some (arow c)) : W.call 36 [.ptr (.box b) 0] h = some (.panic (stopV 2), h.push (arow c)) := by
  have c1 := asizes_ev c h
  refine call_of_run rfl Tryd.func36 rfl ?_
  repeat' (first | simp (config := { maxSteps := 4000000 }) (disch := first | assumption | (exact Nat.le_refl _) | omega | (simp only [List.length_cons, List.length_nil, List.length_append, push_len, put_len, len_app] <;> omega) | (simp (disch := (first | assumption | omega | (exact (push_len _ _).symm) | (simp only [push_len, put_len, len_app]; omega) | (refine Nat.le_antisymm ?_ ?_ <;> simp only [push_len, put_len, len_app] <;> omega) | fail)) only [get_push_last, get_push_eq, get_push_ne, get_put_eq, get_put_ne, get_app] <;> first | assumption | rfl) | (simp only [canApp_push, canApp_put]; assumption) | (exact start_round _ _) | (simp only [st_round, dfr_round, pn_round]; first | assumption | exact start_round _ _) | fail) only [goS, plainEv, resultsEv, resultListEv, reduceIte, Nat.reduceEqDiff, Option.map_some, Option.map_none, Option.bind_some, List.map_cons, List.map_nil, List.getD_cons_zero, List.getD_cons_succ, List.getElem?_toArray, List.getElem?_cons_zero, List.getElem?_cons_succ, eq_self, beq_self_eq_true, goH, List.append_nil, List.nil_append, res36, load28a, *] | (refine guard_dec (fun _ => ?_) (fun _ => ?_) <;> try (exfalso; omega)) | (refine guard_ndec (fun _ => ?_) (fun _ => ?_) <;> try (exfalso; omega)) | (refine branch_dec (fun _ => ?_) (fun _ => ?_) <;> try (exfalso; omega)) | (refine branch_ndec (fun _ => ?_) (fun _ => ?_) <;> try (exfalso; omega)) | refine guard_nbool (fun _ => ?_) (fun _ => ?_) | refine branch_nbool (fun _ => ?_) (fun _ => ?_) | refine guard_bool (fun _ => ?_) (fun _ => ?_) | refine branch_bool (fun _ => ?_) (fun _ => ?_))
set_option maxHeartbeats 4000000 in
set_option maxRecDepth 100000 in
theorem aattempt_ev (b c : Nat) (h : Heap) (hb : h.boxes[b]? = some (arow c)) : Says W 35 [.func (.func 36) [] [.ptr (.box b) 0]] h (.ret (.v (.int .i64 2))) := by
  have c2 := aresolve1_ev b c (h.push [.v (.int .i64 0)]) (push_old hb)
  have f1 : ((h.push [.v (.int .i64 0)]).push (arow c)).boxes[h.boxes.length]? = some [.v (.int .i64 0)] := push_old (push_last _ _)
  have a31 := ag31; have z31 := zc31
  have hc2 := caught_saved h.boxes.length ((h.push [.v (.int .i64 0)]).push (arow c)) 2 f1
  have kx := Keep.mk (((Ext.push h [.v (.int .i64 0)]).trans (.push _ (arow c))).trans (.push _ [.v (.int .i64 2)]))
  have f2 : ((((h.push [.v (.int .i64 0)]).push (arow c)).push [.v (.int .i64 2)]).put h.boxes.length [.v (.int .i64 2)]).boxes[h.boxes.length]? = some [.v (.int .i64 2)] := put_this (by simp only [push_len]; omega)
  generalize hH : (((h.push [.v (.int .i64 0)]).push (arow c)).push [.v (.int .i64 2)]).put h.boxes.length [.v (.int .i64 2)] = hE at hc2 f2
  have kE := Keep.mk hH
  clear hH
  refine call_ex rfl Tryd.func35 rfl ?_
  repeat' (first | simp (config := { maxSteps := 4000000 }) (disch := first | assumption | (exact Nat.le_refl _) | omega | (simp only [List.length_cons, List.length_nil, List.length_append, push_len, put_len, len_app] <;> omega) | (simp (disch := (first | assumption | omega | (exact (push_len _ _).symm) | (simp only [push_len, put_len, len_app]; omega) | (refine Nat.le_antisymm ?_ ?_ <;> simp only [push_len, put_len, len_app] <;> omega) | fail)) only [get_push_last, get_push_eq, get_push_ne, get_put_eq, get_put_ne, get_app] <;> first | assumption | rfl) | (simp only [canApp_push, canApp_put]; assumption) | (exact start_round _ _) | (simp only [st_round, dfr_round, pn_round]; first | assumption | exact start_round _ _) | fail) only [goS, plainEv, resultsEv, resultListEv, reduceIte, Nat.reduceEqDiff, Option.map_some, Option.map_none, Option.bind_some, List.map_cons, List.map_nil, List.getD_cons_zero, List.getD_cons_succ, List.getElem?_toArray, List.getElem?_cons_zero, List.getElem?_cons_succ, eq_self, beq_self_eq_true, goH, List.append_nil, List.nil_append, res35, store31, cell_one, *] | (refine guard_dec (fun _ => ?_) (fun _ => ?_) <;> try (exfalso; omega)) | (refine guard_ndec (fun _ => ?_) (fun _ => ?_) <;> try (exfalso; omega)) | (refine branch_dec (fun _ => ?_) (fun _ => ?_) <;> try (exfalso; omega)) | (refine branch_ndec (fun _ => ?_) (fun _ => ?_) <;> try (exfalso; omega)) | refine guard_nbool (fun _ => ?_) (fun _ => ?_) | refine branch_nbool (fun _ => ?_) (fun _ => ?_) | refine guard_bool (fun _ => ?_) (fun _ => ?_) | refine branch_bool (fun _ => ?_) (fun _ => ?_))
  exact ⟨_, rfl, by rw [← kE.out]; exact kx.out.put_new (Nat.le_refl _) _⟩
set_option maxHeartbeats 8000000 in
set_option maxRecDepth 100000 in
theorem aResolve_ev (c : Nat) (h : Heap) : Says W 11 [.agg (arow c)] h (.ret (.tuple [.agg (prow zP zT), .v (.int .i64 2)])) := by
  have a28 := ag28; have s28 := sz28; have z28 := zc28
  obtain ⟨h4, c4, hx4⟩ := aattempt_ev h.boxes.length c ((h.push (arow c)).push (prow zP zT)) (push_old (push_last h _))
  have b6 := hx4.box (h.boxes.length + 1) (prow zP zT) (by have := push_last (h.push (arow c)) (prow zP zT); rw [push_len] at this; exact this)
  have k4 := Keep.mk (((Ext.push h (arow c)).trans (.push _ (prow zP zT))).trans hx4)
  have ln6 := (List.getElem?_eq_some_iff.1 b6).1
  clear hx4
  refine call_ex rfl Tryd.func11 rfl ?_
  repeat' (first | simp (config := { maxSteps := 4000000 }) (disch := first | assumption | (exact Nat.le_refl _) | omega | (simp only [List.length_cons, List.length_nil, List.length_append, push_len, put_len, len_app] <;> omega) | (simp (disch := (first | assumption | omega | (exact (push_len _ _).symm) | (simp only [push_len, put_len, len_app]; omega) | (refine Nat.le_antisymm ?_ ?_ <;> simp only [push_len, put_len, len_app] <;> omega) | fail)) only [get_push_last, get_push_eq, get_push_ne, get_put_eq, get_put_ne, get_app] <;> first | assumption | rfl) | (simp only [canApp_push, canApp_put]; assumption) | (exact start_round _ _) | (simp only [st_round, dfr_round, pn_round]; first | assumption | exact start_round _ _) | fail) only [goS, plainEv, resultsEv, resultListEv, reduceIte, Nat.reduceEqDiff, Option.map_some, Option.map_none, Option.bind_some, List.map_cons, List.map_nil, List.getD_cons_zero, List.getD_cons_succ, List.getElem?_toArray, List.getElem?_cons_zero, List.getElem?_cons_succ, eq_self, beq_self_eq_true, goH, List.append_nil, List.nil_append, res11, ars, load28, store28, push_len, *] | (refine guard_dec (fun _ => ?_) (fun _ => ?_) <;> try (exfalso; omega)) | (refine guard_ndec (fun _ => ?_) (fun _ => ?_) <;> try (exfalso; omega)) | (refine branch_dec (fun _ => ?_) (fun _ => ?_) <;> try (exfalso; omega)) | (refine branch_ndec (fun _ => ?_) (fun _ => ?_) <;> try (exfalso; omega)) | refine guard_nbool (fun _ => ?_) (fun _ => ?_) | refine branch_nbool (fun _ => ?_) (fun _ => ?_) | refine guard_bool (fun _ => ?_) (fun _ => ?_) | refine branch_bool (fun _ => ?_) (fun _ => ?_))
  exact ⟨_, rfl, k4.out.put_new (b := h.boxes.length + 1) (by omega) _⟩
theorem make33 (h : Heap) : makeSliceEv Tryd.prog h 22 (.v (.int .i64 33)) (.v (.int .i64 33)) = some (.arr h.boxes.length 0 33 33, h.push (List.replicate 33 (AV.v (.string (bs []))))) := by kernel_rfl
set_option maxHeartbeats 4000000 in
set_option maxRecDepth 100000 in
theorem ch32 (h : Heap) (b : Nat) (hb : h.boxes[b]? = some (prow sP sT)) : W.call 32 [.ptr (.box b) 0] h = some (.ret (.tuple []), (h.push (List.replicate 33 (AV.v (.string (bs []))))).put b (arow h.boxes.length)) := by
  have nb := (List.getElem?_eq_some_iff.1 hb).1
  refine call_of_run rfl Tryd.func32 rfl ?_
  repeat' (first | simp (config := { maxSteps := 4000000 }) (disch := first | assumption | (exact Nat.le_refl _) | omega | (simp only [List.length_cons, List.length_nil, List.length_append, push_len, put_len, len_app] <;> omega) | (simp (disch := (first | assumption | omega | (exact (push_len _ _).symm) | (simp only [push_len, put_len, len_app]; omega) | (refine Nat.le_antisymm ?_ ?_ <;> simp only [push_len, put_len, len_app] <;> omega) | fail)) only [get_push_last, get_push_eq, get_push_ne, get_put_eq, get_put_ne, get_app] <;> first | assumption | rfl) | (simp only [canApp_push, canApp_put]; assumption) | (exact start_round _ _) | (simp only [st_round, dfr_round, pn_round]; first | assumption | exact start_round _ _) | fail) only [goS, plainEv, resultsEv, resultListEv, reduceIte, Nat.reduceEqDiff, Option.map_some, Option.map_none, Option.bind_some, List.map_cons, List.map_nil, List.getD_cons_zero, List.getD_cons_succ, List.getElem?_toArray, List.getElem?_cons_zero, List.getElem?_cons_succ, eq_self, beq_self_eq_true, goH, List.append_nil, List.nil_append, rs32, make33, fp28, store28_o, *] | (refine guard_dec (fun _ => ?_) (fun _ => ?_) <;> try (exfalso; omega)) | (refine guard_ndec (fun _ => ?_) (fun _ => ?_) <;> try (exfalso; omega)) | (refine branch_dec (fun _ => ?_) (fun _ => ?_) <;> try (exfalso; omega)) | (refine branch_ndec (fun _ => ?_) (fun _ => ?_) <;> try (exfalso; omega)) | refine guard_nbool (fun _ => ?_) (fun _ => ?_) | refine branch_nbool (fun _ => ?_) (fun _ => ?_) | refine guard_bool (fun _ => ?_) (fun _ => ?_) | refine branch_bool (fun _ => ?_) (fun _ => ?_))
  rfl
set_option maxHeartbeats 8000000 in
set_option maxRecDepth 100000 in
theorem changed32_ev (h : Heap) (hok : okHeap h = true) : Says W 26 [.func (.func 32) [] []] h (.ret (.v (.int .i64 2))) := by
  have a28 := ag28; have z28 := zc28; have s28 := sz28
  obtain ⟨h1, c1, x1⟩ := small_ev h
  have cg := ch32 (h1.push (prow sP sT)) h1.boxes.length (push_last _ _)
  rw [put_push_ne (by rw [push_len]; omega), put_push] at cg
  obtain ⟨h2, c2, x2⟩ := aResolve_ev (h1.push (prow sP sT)).boxes.length ((h1.push (arow (h1.push (prow sP sT)).boxes.length)).push (List.replicate 33 (AV.v (.string (bs [])))))
  obtain ⟨h3, c3, x3⟩ := same_ev zP zP zT zT zOk zOk (h2.push (prow zP zT))
  rw [sameP_iff.2 rfl] at c3
  have b1 := x2.box _ _ (push_old (push_last h1 (arow (h1.push (prow sP sT)).boxes.length)))
  have n1 := (List.getElem?_eq_some_iff.1 b1).1
  have k3 := Keep.mk (((((x1.trans (.push _ (arow (h1.push (prow sP sT)).boxes.length))).trans (.push _ (List.replicate 33 (AV.v (.string (bs [])))))).trans x2).trans (.push _ (prow zP zT))).trans x3)
  have b0 : ((h1.push (arow (h1.push (prow sP sT)).boxes.length)).push (List.replicate 33 (AV.v (.string (bs []))))).boxes[h1.boxes.length]? = some (arow (h1.push (prow sP sT)).boxes.length) := push_old (push_last h1 _)
  generalize hR : (List.replicate 33 (AV.v (.string (bs [])))) = rr at cg c2 b0 k3
  generalize hN : (h1.push (prow sP sT)).boxes.length = nn at cg c2 b0 k3 b1
  clear x1 x2 x3 hok
  refine call_ex rfl Tryd.func26 rfl ?_
  repeat' (first | simp (config := { maxSteps := 4000000 }) (disch := first | assumption | (exact Nat.le_refl _) | omega | (simp only [List.length_cons, List.length_nil, List.length_append, push_len, put_len, len_app] <;> omega) | (simp (disch := (first | assumption | omega | (exact (push_len _ _).symm) | (simp only [push_len, put_len, len_app]; omega) | (refine Nat.le_antisymm ?_ ?_ <;> simp only [push_len, put_len, len_app] <;> omega) | fail)) only [get_push_last, get_push_eq, get_push_ne, get_put_eq, get_put_ne, get_app] <;> first | assumption | rfl) | (simp only [canApp_push, canApp_put]; assumption) | (exact start_round _ _) | (simp only [st_round, dfr_round, pn_round]; first | assumption | exact start_round _ _) | fail) only [goS, plainEv, resultsEv, resultListEv, reduceIte, Nat.reduceEqDiff, Option.map_some, Option.map_none, Option.bind_some, List.map_cons, List.map_nil, List.getD_cons_zero, List.getD_cons_succ, List.getElem?_toArray, List.getElem?_cons_zero, List.getElem?_cons_succ, eq_self, beq_self_eq_true, goH, List.append_nil, List.nil_append, rs26, load28, load28a, store28, build28, put_push_eq, put_push_ne, List.append_nil, List.nil_append, *] | (refine guard_dec (fun _ => ?_) (fun _ => ?_) <;> try (exfalso; omega)) | (refine guard_ndec (fun _ => ?_) (fun _ => ?_) <;> try (exfalso; omega)) | (refine branch_dec (fun _ => ?_) (fun _ => ?_) <;> try (exfalso; omega)) | (refine branch_ndec (fun _ => ?_) (fun _ => ?_) <;> try (exfalso; omega)) | refine guard_nbool (fun _ => ?_) (fun _ => ?_) | refine branch_nbool (fun _ => ?_) (fun _ => ?_) | refine guard_bool (fun _ => ?_) (fun _ => ?_) | refine branch_bool (fun _ => ?_) (fun _ => ?_))
  exact ⟨_, rfl, k3.out⟩
end Go.Proofs.YtilmhlbjjfgeoaaDoor
end

section
namespace Go.Proofs.YtilmhlbjjfgeoaaDoor
open Go.AE Go.Lex Go.Pol
/-! ### sane -/
def xW1 : Ex := .mk 2 5 1 sBoard []
def sR : Po := ⟨sHouse, [sLetter], [sHead, sBoard], [⟨sLetter, 0, 7, .mk 4 100 0 [] [xSome, xW1]⟩], .mk 3 2 0 [] [xSome, xW1], 3⟩
theorem sRes : resP sP = sR := by
  have h1 : idx [sHead, sBoard] sHead = 0 := by decide
  have h2 : idx [sHead, sBoard] sBoard = 1 := by decide
  simp [resP, resR, sP, xUpto, xOf, xSome, xWeight, resE, resL, h1, h2, sR, xW1]
/-- The rows of two parts, the second of which has the number 1. -/
theorem two_rows {k n : Int} {tok : Tok} {sz : Nat} {rows : List (List AV)} (h : Row (.mk k n 0 [] [xSome, xW1]) (row5 k n 0 [] tok sz rows)) : sz = 5 ∧ ∃ ta sa ra tb sb rb, rows = [row5 1 0 0 sHead ta sa ra, row5 2 5 1 sBoard tb sb rb] := by
  obtain ⟨h1, h2, -⟩ := Row.got h
  simp only [Ex.l] at h1 h2
  refine ⟨h2 0 (by simp), ?_⟩
  have hl := h1.1
  match rows, hl with
  | [a, b], _ =>
    obtain ⟨ta, sa, ra, rfl, -⟩ := Row.five (h1.2 0 xSome a rfl rfl)
    obtain ⟨tb, sb, rb, rfl, -⟩ := Row.five (h1.2 1 xW1 b rfl rfl)
    exact ⟨ta, sa, ra, tb, sb, rb, rfl⟩
theorem sR_rows {t : PT} (ok : POk sR t) : t.sr = 8 ∧ ∃ tok ta sa ra tb sb rb, t.rr = [rrow ⟨sLetter, 0, 7, .mk 4 100 0 [] [xSome, xW1]⟩ tok 5 [row5 1 0 0 sHead ta sa ra, row5 2 5 1 sBoard tb sb rb]] := by
  refine ⟨ok.zr 0 (by decide), ?_⟩
  have hl := ok.rules.1
  obtain ⟨x, tok, sz, rows, hx, hr, hrow⟩ := RRows.get ok.rules (i := 0) (by decide)
  simp [sR] at hx
  subst hx
  obtain ⟨rfl, ta, sa, ra, tb, sb, rb, rfl⟩ := two_rows hrow
  refine ⟨tok, ta, sa, ra, tb, sb, rb, ?_⟩
  match h1 : t.rr, hl with
  | [a], _ => rw [h1] at hr; simp at hr; rw [hr]
theorem sR_last {t : PT} (ok : POk sR t) : t.sz = 5 ∧ ∃ ta sa ra tb sb rb, t.rows = [row5 1 0 0 sHead ta sa ra, row5 2 5 1 sBoard tb sb rb] := two_rows ok.expr
theorem bd52 (t : PT) : buildEv Tryd.prog 52 [(0, .v (.int .i64 3)), (1, .v (.int .i64 10)), (3, .agg (prow sR t))] = some (.agg (vrow ⟨3, 10, 0, sR⟩ t)) := by kernel_rfl
theorem bd52z : buildEv Tryd.prog 52 [] = some (.agg (vrow zV zT)) := by kernel_rfl
theorem bds36 (x : Vs) (t : PT) : buildSliceEv Tryd.prog 36 1 [(0, .agg (vrow x t))] = some (.list .tight 13 [vrow x t]) := by kernel_rfl
theorem vone {x : Vs} {t : PT} (h : POk x.pol t) : VRows [x] [vrow x t] := ⟨rfl, fun i y r h1 h2 => by
  cases i with
  | zero => simp at h1 h2; subst h1; subst h2; exact ⟨t, rfl, h⟩
  | succ i => simp at h1⟩
theorem sRCheck : checkP sR = 0 := by rw [← sRes]; exact check_res sCode
theorem sCheck : checkP sP = 200 := by
  unfold checkP
  rw [if_pos sCode, sRes, if_neg]
  intro q
  have := sameP_iff.1 q
  have h1 : sR.change = sP.change := by rw [this]
  simp [sR, sP, xOf, xW1, xWeight] at h1
theorem sRFew : PFew sR := by
  have key : ∀ k n : Int, cnt (.mk k n 0 [] [xSome, xW1]) = 3 := fun k n => by simp [cnt, cntL, xSome, xW1]
  refine ⟨by show cnt (.mk 3 2 0 [] [xSome, xW1]) ≤ 1000; rw [key]; omega, fun x hx => ?_, by decide⟩
  simp [sR] at hx; subst hx
  show cnt (.mk 4 100 0 [] [xSome, xW1]) ≤ 1000
  rw [key]; omega
def sV : Vs := ⟨3, 10, 0, sR⟩
theorem sAll : checkAllF [sV] = 0 := by
  have h : versOk (-1) [sV] = true := by
    simp only [versOk, verOk, sV, sRCheck, Bool.and_true]
    decide
  unfold checkAllF
  rw [if_neg (by simp), if_pos h]
theorem zAll : checkAllF [zV] = 200 := by
  have h : versOk (-1) [zV] = false := by
    have : checkP zP = 201 := by rw [code_ne (by rw [code27]; decide)]; exact code27
    simp only [versOk, verOk, zV, this]
    decide
  unfold checkAllF
  rw [if_neg (by simp), if_neg (by rw [h]; decide)]
theorem st1 : standF [sV] 9 0 = (0, false, 0) := by
  unfold standF
  rw [if_pos sAll, if_pos (by decide)]
  decide
theorem st2 : standF [sV] 10 0 = (3, true, 0) := by
  unfold standF
  rw [if_pos sAll, if_pos (by decide)]
  decide
theorem st3 : standF [sV] (-1) 0 = (0, false, 1) := by
  unfold standF
  rw [if_pos sAll, if_neg (by decide)]
theorem after.gen {P : Program} {G : Nat → Option (List AV)} {R : Rec} {ops : Array Oper} {rest : List Oper} {d : Option Tmp} {e : Env} {Q : Xt → Env → Heap → Prop} {x : Option (AV × Heap)} (h : ∀ e2 : Env, (∀ t, e2.get t = e.get t) → e2.defers = e.defers → e2.round = e.round → after P G R ops rest d e2 Q x) : after P G R ops rest d e Q x := h e (fun _ => rfl) rfl rfl
theorem afterC.gen {P : Program} {G : Nat → Option (List AV)} {R : Rec} {ops : Array Oper} {rest : List Oper} {d : Option Tmp} {e : Env} {Q : Xt → Env → Heap → Prop} {x : Option (Res × Heap)} (h : ∀ e2 : Env, (∀ t, e2.get t = e.get t) → e2.defers = e.defers → e2.round = e.round → afterC P G R ops rest d e2 Q x) : afterC P G R ops rest d e Q x := h e (fun _ => rfl) rfl rfl
theorem rs9 : Tryd.f9.results.toList = [.tmp 0] := by kernel_rfl
theorem rrow_7 (x : Rl) (tok : Tok) (sz : Nat) (rows : List (List AV)) : ((rrow x tok sz rows).drop 7).head? = some (.list tok sz rows) := rfl
theorem prow_8 (p : Po) (t : PT) : ((prow p t).drop 8).head? = some (.list t.tok t.sz t.rows) := rfl
set_option maxHeartbeats 32000000 in
set_option maxRecDepth 100000 in
theorem sane_ev (h : Heap) (hok : okHeap h = true) : Says W 9 [] h (.ret (.v (.bool true))) := by
  have u23 := Tryd.underlying23; have u24 := Tryd.underlying24
  have a3 := ag3; have a23 := ag23; have a24 := ag24; have a28 := ag28; have s28 := sz28; have s26 := sz26; have s43 := sz43; have z28 := zc28
  obtain ⟨h1, c1, x1⟩ := small_ev h
  obtain ⟨t2, h2, c2, x2, ok2⟩ := resolveP_ev sP sT sOk sFew h1 (x1.ok hok)
  have hrf : resolveF sP = (sR, 0) := by
    unfold resolveF
    rw [sSmall, sNames, sFormed, sRes]; rfl
  rw [hrf] at c2 ok2
  simp only at c2 ok2
  have o3 : okHeap (h2.push (prow sR t2)) = true := x2.ok (x1.ok hok)
  obtain ⟨h4, c3, x4⟩ := check_ev sR t2 ok2 sRFew (h2.push (prow sR t2)) o3
  rw [sRCheck] at c3
  obtain ⟨h5, c4, x5⟩ := small_ev h4
  obtain ⟨h6, c5, x6⟩ := check_ev sP sT sOk sFew h5 (x5.ok (x4.ok o3))
  rw [sCheck] at c5
  have o6 := x6.ok (x5.ok (x4.ok o3))
  have fv : ∀ x : Vs, PFew x.pol → ([x].length ≤ 256 → VFew [x]) := fun x hx _ y hy => by simp at hy; subst hy; exact hx
  obtain ⟨h7, c6, x7⟩ := standing_ev .tight 13 [sV] [vrow sV t2] (vone ok2) (fun _ _ => rfl) (fv _ sRFew) (by simp) 9 0 h6 o6
  rw [st1] at c6
  obtain ⟨h8, c7, x8⟩ := standing_ev .tight 13 [sV] [vrow sV t2] (vone ok2) (fun _ _ => rfl) (fv _ sRFew) (by simp) 10 0 h7 (x7.ok o6)
  rw [st2] at c7
  have o8 := x8.ok (x7.ok o6)
  obtain ⟨h9, c8, x9⟩ := standing_ev .tight 13 [sV] [vrow sV t2] (vone ok2) (fun _ _ => rfl) (fv _ sRFew) (by simp) (-1) 0 h8 o8
  rw [st3] at c8
  obtain ⟨h10, c9, x10⟩ := checkAll_ev .tight 13 [sV] [vrow sV t2] (vone ok2) (fun _ _ => rfl) (fv _ sRFew) (by simp) h9 (x9.ok o8)
  rw [sAll] at c9
  have o10 := x10.ok (x9.ok o8)
  obtain ⟨h11, c10, x11⟩ := checkAll_ev .tight 13 [zV] [vrow zV zT] (vone zOk) (fun _ _ => rfl) (fv _ zFew) (by simp) h10 o10
  rw [zAll] at c10
  have o11 := x11.ok o10
  obtain ⟨h12, d1, y1⟩ := changed_ev ch27 zOk zFew code27 (by decide) h11 o11
  obtain ⟨h13, d2, y2⟩ := changed_ev ch28 ok28 (small_two (by decide) (by decide) (by decide) ex28).2 code28 (by decide) h12 (y1.ok o11)
  have o13 := y2.ok (y1.ok o11)
  obtain ⟨h14, d3, y3⟩ := changed_ev ch29 ok29 (small_two (by decide) (by decide) (by decide) ex29).2 code29 (by decide) h13 o13
  obtain ⟨h15, d4, y4⟩ := changed_ev ch30 ok30 (small_two (by decide) (by decide) (by decide) ex30).2 code30 (by decide) h14 (y3.ok o13)
  have o15 := y4.ok (y3.ok o13)
  obtain ⟨h16, d5, y5⟩ := changed_ev ch31 ok31 (small_two (by decide) (by decide) (by decide) ex31).2 code31 (by decide) h15 o15
  obtain ⟨h17, d6, y6⟩ := changed32_ev h16 (y5.ok o15)
  have b3 := push_last h2 (prow sR t2)
  have b6 := x6.box _ _ (x5.box _ _ (x4.box _ _ b3))
  obtain ⟨e8, tok, ta, sa, ra, tb, sb, rb, err⟩ := sR_rows ok2
  obtain ⟨e5, ta', sa', ra', tb', sb', rb', erows⟩ := sR_last ok2
  have kx := Keep.mk (((((((((((((((((x1.trans x2).trans (.push _ (prow sR t2))).trans x4).trans x5).trans x6).trans x7).trans x8).trans x9).trans x10).trans x11).trans y1).trans y2).trans y3).trans y4).trans y5).trans y6))
  clear x1 x2 x4 x5 x6 x7 x8 x9 x10 x11 y1 y2 y3 y4 y5 y6 o3 o6 o8 o10 o11 o13 o15 hok fv ok2 hrf
  refine call_ex rfl Tryd.func9 rfl ?_
  unfold triple at c6 c7 c8
  unfold sV at c6 c7 c8 c9
  have er3 := fun (r : Ref) (off : Nat) => fa26_4 r off
  have kc := Keep.mk (And.intro c3 (And.intro c4 (And.intro c5 (And.intro c6 (And.intro c7 (And.intro c8 (And.intro c9 (And.intro c10 (And.intro d1 (And.intro d2 (And.intro d3 (And.intro d4 (And.intro d5 d6)))))))))))))
  clear c3 c4 c5 c6 c7 c8 c9 c10 d1 d2 d3 d4 d5 d6
  repeat' (first | simp (config := { maxSteps := 4000000 }) (disch := first | assumption | (exact Nat.le_refl _) | omega | (simp only [List.length_cons, List.length_nil, List.length_append, push_len, put_len, len_app] <;> omega) | (simp (disch := (first | assumption | omega | (exact (push_len _ _).symm) | (simp only [push_len, put_len, len_app]; omega) | (refine Nat.le_antisymm ?_ ?_ <;> simp only [push_len, put_len, len_app] <;> omega) | fail)) only [get_push_last, get_push_eq, get_push_ne, get_put_eq, get_put_ne, get_app] <;> first | assumption | rfl) | (simp only [canApp_push, canApp_put]; assumption) | (exact start_round _ _) | (simp only [st_round, dfr_round, pn_round]; first | assumption | exact start_round _ _) | fail) only [goS, plainEv, resultsEv, resultListEv, reduceIte, Nat.reduceEqDiff, Option.map_some, Option.map_none, Option.bind_some, List.map_cons, List.map_nil, List.getD_cons_zero, List.getD_cons_succ, List.getElem?_toArray, List.getElem?_cons_zero, List.getElem?_cons_succ, eq_self, beq_self_eq_true, goH, List.append_nil, List.nil_append, rs9, fp28, fp43, prs, rrs, load28, store28, put_push_eq, push_len, fe26_4, fe26_2, fe43_1, index_list, load_row, rrow_7, prow_8, row5_2, bd52, bd52z, bds36, List.length_cons, List.length_nil, Nat.reduceAdd, List.append_eq, List.cons_append, List.nil_append, Int.reduceToNat, *] | (refine guard_dec (fun _ => ?_) (fun _ => ?_) <;> try (exfalso; omega)) | (refine guard_ndec (fun _ => ?_) (fun _ => ?_) <;> try (exfalso; omega)) | (refine branch_dec (fun _ => ?_) (fun _ => ?_) <;> try (exfalso; omega)) | (refine branch_ndec (fun _ => ?_) (fun _ => ?_) <;> try (exfalso; omega)) | refine guard_nbool (fun _ => ?_) (fun _ => ?_) | refine branch_nbool (fun _ => ?_) (fun _ => ?_) | refine guard_bool (fun _ => ?_) (fun _ => ?_) | refine branch_bool (fun _ => ?_) (fun _ => ?_))
  obtain ⟨c3, c4, c5, kc2⟩ := kc.out
  have kc := Keep.mk kc2
  clear kc2
  repeat' (first | simp (config := { maxSteps := 4000000 }) (disch := first | assumption | (exact Nat.le_refl _) | omega | (simp only [List.length_cons, List.length_nil, List.length_append, push_len, put_len, len_app] <;> omega) | (simp (disch := (first | assumption | omega | (exact (push_len _ _).symm) | (simp only [push_len, put_len, len_app]; omega) | (refine Nat.le_antisymm ?_ ?_ <;> simp only [push_len, put_len, len_app] <;> omega) | fail)) only [get_push_last, get_push_eq, get_push_ne, get_put_eq, get_put_ne, get_app] <;> first | assumption | rfl) | (simp only [canApp_push, canApp_put]; assumption) | (exact start_round _ _) | (simp only [st_round, dfr_round, pn_round]; first | assumption | exact start_round _ _) | fail) only [goS, plainEv, resultsEv, resultListEv, reduceIte, Nat.reduceEqDiff, Option.map_some, Option.map_none, Option.bind_some, List.map_cons, List.map_nil, List.getD_cons_zero, List.getD_cons_succ, List.getElem?_toArray, List.getElem?_cons_zero, List.getElem?_cons_succ, eq_self, beq_self_eq_true, goH, List.append_nil, List.nil_append, rs9, prs, load28, push_len, bd52, *] | (refine guard_dec (fun _ => ?_) (fun _ => ?_) <;> try (exfalso; omega)) | (refine guard_ndec (fun _ => ?_) (fun _ => ?_) <;> try (exfalso; omega)) | (refine branch_dec (fun _ => ?_) (fun _ => ?_) <;> try (exfalso; omega)) | (refine branch_ndec (fun _ => ?_) (fun _ => ?_) <;> try (exfalso; omega)) | refine guard_nbool (fun _ => ?_) (fun _ => ?_) | refine branch_nbool (fun _ => ?_) (fun _ => ?_) | refine guard_bool (fun _ => ?_) (fun _ => ?_) | refine branch_bool (fun _ => ?_) (fun _ => ?_))
  refine after.gen fun e2 q2 qd _ => ?_
  have pd : e2.defers = [] := by rw [qd]; simp only [goS, plainEv, resultsEv, resultListEv, reduceIte, Nat.reduceEqDiff, Option.map_some, Option.map_none, Option.bind_some, List.map_cons, List.map_nil, List.getD_cons_zero, List.getD_cons_succ, List.getElem?_toArray, List.getElem?_cons_zero, List.getElem?_cons_succ, eq_self, beq_self_eq_true, goH]
  clear q2 qd
  have hbs := bds36 ⟨3, 10, 0, sR⟩ t2
  simp only [hbs, Option.map_some, after_some, put_some]
  obtain ⟨c6, c7, c8, kc2⟩ := kc.out
  have kc := Keep.mk kc2
  clear kc2 hbs
  repeat' (first | simp (config := { maxSteps := 4000000 }) (disch := first | assumption | (exact Nat.le_refl _) | omega | (simp only [List.length_cons, List.length_nil, List.length_append, push_len, put_len, len_app] <;> omega) | (simp (disch := (first | assumption | omega | (exact (push_len _ _).symm) | (simp only [push_len, put_len, len_app]; omega) | (refine Nat.le_antisymm ?_ ?_ <;> simp only [push_len, put_len, len_app] <;> omega) | fail)) only [get_push_last, get_push_eq, get_push_ne, get_put_eq, get_put_ne, get_app] <;> first | assumption | rfl) | (simp only [canApp_push, canApp_put]; assumption) | (exact start_round _ _) | (simp only [st_round, dfr_round, pn_round]; first | assumption | exact start_round _ _) | fail) only [goS, plainEv, resultsEv, resultListEv, reduceIte, Nat.reduceEqDiff, Option.map_some, Option.map_none, Option.bind_some, List.map_cons, List.map_nil, List.getD_cons_zero, List.getD_cons_succ, List.getElem?_toArray, List.getElem?_cons_zero, List.getElem?_cons_succ, eq_self, beq_self_eq_true, goH, List.append_nil, List.nil_append, rs9, *] | (refine guard_dec (fun _ => ?_) (fun _ => ?_) <;> try (exfalso; omega)) | (refine guard_ndec (fun _ => ?_) (fun _ => ?_) <;> try (exfalso; omega)) | (refine branch_dec (fun _ => ?_) (fun _ => ?_) <;> try (exfalso; omega)) | (refine branch_ndec (fun _ => ?_) (fun _ => ?_) <;> try (exfalso; omega)) | refine guard_nbool (fun _ => ?_) (fun _ => ?_) | refine branch_nbool (fun _ => ?_) (fun _ => ?_) | refine guard_bool (fun _ => ?_) (fun _ => ?_) | refine branch_bool (fun _ => ?_) (fun _ => ?_))
  refine afterC.gen fun e3 q3 qd3 _ => ?_
  have p134 : e3.get 134 = .v (.bool false) := by rw [q3]; simp only [goS, plainEv, resultsEv, resultListEv, reduceIte, Nat.reduceEqDiff, Option.map_some, Option.map_none, Option.bind_some, List.map_cons, List.map_nil, List.getD_cons_zero, List.getD_cons_succ, List.getElem?_toArray, List.getElem?_cons_zero, List.getElem?_cons_succ, eq_self, beq_self_eq_true, goH]
  have pd3 : e3.defers = [] := by rw [qd3]; simp only [goS, plainEv, resultsEv, resultListEv, reduceIte, Nat.reduceEqDiff, Option.map_some, Option.map_none, Option.bind_some, List.map_cons, List.map_nil, List.getD_cons_zero, List.getD_cons_succ, List.getElem?_toArray, List.getElem?_cons_zero, List.getElem?_cons_succ, eq_self, beq_self_eq_true, goH, pd]
  clear q3 qd3 pd c6 c7 c8
  obtain ⟨c9, c10, kc2⟩ := kc.out
  have kc := Keep.mk kc2
  clear kc2
  have hbs := bds36 zV zT
  repeat' (first | simp (config := { maxSteps := 4000000 }) (disch := first | assumption | (exact Nat.le_refl _) | omega | (simp only [List.length_cons, List.length_nil, List.length_append, push_len, put_len, len_app] <;> omega) | (simp (disch := (first | assumption | omega | (exact (push_len _ _).symm) | (simp only [push_len, put_len, len_app]; omega) | (refine Nat.le_antisymm ?_ ?_ <;> simp only [push_len, put_len, len_app] <;> omega) | fail)) only [get_push_last, get_push_eq, get_push_ne, get_put_eq, get_put_ne, get_app] <;> first | assumption | rfl) | (simp only [canApp_push, canApp_put]; assumption) | (exact start_round _ _) | (simp only [st_round, dfr_round, pn_round]; first | assumption | exact start_round _ _) | fail) only [goS, plainEv, resultsEv, resultListEv, reduceIte, Nat.reduceEqDiff, Option.map_some, Option.map_none, Option.bind_some, List.map_cons, List.map_nil, List.getD_cons_zero, List.getD_cons_succ, List.getElem?_toArray, List.getElem?_cons_zero, List.getElem?_cons_succ, eq_self, beq_self_eq_true, goH, List.append_nil, List.nil_append, rs9, bd52z, hbs, *] | (refine guard_dec (fun _ => ?_) (fun _ => ?_) <;> try (exfalso; omega)) | (refine guard_ndec (fun _ => ?_) (fun _ => ?_) <;> try (exfalso; omega)) | (refine branch_dec (fun _ => ?_) (fun _ => ?_) <;> try (exfalso; omega)) | (refine branch_ndec (fun _ => ?_) (fun _ => ?_) <;> try (exfalso; omega)) | refine guard_nbool (fun _ => ?_) (fun _ => ?_) | refine branch_nbool (fun _ => ?_) (fun _ => ?_) | refine guard_bool (fun _ => ?_) (fun _ => ?_) | refine branch_bool (fun _ => ?_) (fun _ => ?_))
  refine afterC.gen fun e4 q4 qd4 _ => ?_
  have pd4 : e4.defers = [] := by rw [qd4]; simp only [goS, plainEv, resultsEv, resultListEv, reduceIte, Nat.reduceEqDiff, Option.map_some, Option.map_none, Option.bind_some, List.map_cons, List.map_nil, List.getD_cons_zero, List.getD_cons_succ, List.getElem?_toArray, List.getElem?_cons_zero, List.getElem?_cons_succ, eq_self, beq_self_eq_true, goH, pd3]
  clear q4 qd4 pd3 c9 c10
  obtain ⟨d1, d2, d3, d4, d5, d6⟩ := kc.out
  repeat' (first | simp (config := { maxSteps := 4000000 }) (disch := first | assumption | (exact Nat.le_refl _) | omega | (simp only [List.length_cons, List.length_nil, List.length_append, push_len, put_len, len_app] <;> omega) | (simp (disch := (first | assumption | omega | (exact (push_len _ _).symm) | (simp only [push_len, put_len, len_app]; omega) | (refine Nat.le_antisymm ?_ ?_ <;> simp only [push_len, put_len, len_app] <;> omega) | fail)) only [get_push_last, get_push_eq, get_push_ne, get_put_eq, get_put_ne, get_app] <;> first | assumption | rfl) | (simp only [canApp_push, canApp_put]; assumption) | (exact start_round _ _) | (simp only [st_round, dfr_round, pn_round]; first | assumption | exact start_round _ _) | fail) only [goS, plainEv, resultsEv, resultListEv, reduceIte, Nat.reduceEqDiff, Option.map_some, Option.map_none, Option.bind_some, List.map_cons, List.map_nil, List.getD_cons_zero, List.getD_cons_succ, List.getElem?_toArray, List.getElem?_cons_zero, List.getElem?_cons_succ, eq_self, beq_self_eq_true, goH, List.append_nil, List.nil_append, rs9, *] | (refine guard_dec (fun _ => ?_) (fun _ => ?_) <;> try (exfalso; omega)) | (refine guard_ndec (fun _ => ?_) (fun _ => ?_) <;> try (exfalso; omega)) | (refine branch_dec (fun _ => ?_) (fun _ => ?_) <;> try (exfalso; omega)) | (refine branch_ndec (fun _ => ?_) (fun _ => ?_) <;> try (exfalso; omega)) | refine guard_nbool (fun _ => ?_) (fun _ => ?_) | refine branch_nbool (fun _ => ?_) (fun _ => ?_) | refine guard_bool (fun _ => ?_) (fun _ => ?_) | refine branch_bool (fun _ => ?_) (fun _ => ?_))
  exact ⟨_, rfl, kx.out⟩
end Go.Proofs.YtilmhlbjjfgeoaaDoor
end

section
namespace Go.Proofs.YtilmhlbjjfgeoaaDoor
open Go.AE Go.Lex Go.Pol
/-! ### The table of functions, as it is laid -/
def kname (c : UInt8) : List UInt8 := [115, 105, 103, 110, 97, 116, 111, 114, 121, 47, 112, 111, 108, 105, 99, 105, 101, 115, 46, 107, 105, 110, 100, 115, 36, c]
theorem u58 : Tryd.prog.underlying 58 = some (.func #[26] #[4] false) := by kernel_rfl
theorem one95 : ((List.range Tryd.prog.funcs.size).filter fun f => (Tryd.prog.funcs[f]?).any (·.name.toUTF8.data.toList == kname 49)) = [95] := by kernel_rfl
theorem one96 : ((List.range Tryd.prog.funcs.size).filter fun f => (Tryd.prog.funcs[f]?).any (·.name.toUTF8.data.toList == kname 50)) = [96] := by kernel_rfl
theorem one97 : ((List.range Tryd.prog.funcs.size).filter fun f => (Tryd.prog.funcs[f]?).any (·.name.toUTF8.data.toList == kname 51)) = [97] := by kernel_rfl
theorem one98 : ((List.range Tryd.prog.funcs.size).filter fun f => (Tryd.prog.funcs[f]?).any (·.name.toUTF8.data.toList == kname 52)) = [98] := by kernel_rfl
theorem one99 : ((List.range Tryd.prog.funcs.size).filter fun f => (Tryd.prog.funcs[f]?).any (·.name.toUTF8.data.toList == kname 53)) = [99] := by kernel_rfl
theorem u81 : ∃ e, Tryd.prog.underlying 81 = some (.array 5 e) ∧ e = 58 := ⟨58, by kernel_rfl, rfl⟩
theorem laid_kinds {W0 : World} (h : laidMetH Tryd.prog [("signatory/policies.kinds", Rows.laid_signatory_policies_kinds)] W0) : ∀ g cs, Gk g = some cs → ∃ cells, VsRel (Know.init W0) cs cells ∧ ∀ (j : Nat) (c : Value), cells[j]? = some c → W0.cell? ⟨g, j, none⟩ = some c := by
  intro g0 cs0 hG
  unfold Gk at hG
  split at hG
  · rename_i hg0
    subst hg0
    injection hG with hG
    subst hG
    obtain ⟨g, t, cs, fuel, p, hg, ht, hv, hd⟩ := h.funcs (List.mem_singleton.2 rfl)
    have e1 : Tryd.prog.globalNamed "signatory/policies.kinds" = some 0 := by kernel_rfl
    rw [e1] at hg
    injection hg with hg
    subst hg
    have e2 : (Tryd.prog.globals[0]?).map (·.type) = some 81 := by kernel_rfl
    rw [e2] at ht
    injection ht with ht
    subst ht
    obtain ⟨e, he, rfl⟩ := u81
    obtain ⟨ys, fu, hfu, hys, hcl, hyl, hat⟩ := DataW.trod_array he hd
    have hc1 : Tryd.prog.cellsOf 58 = 1 := by kernel_rfl
    have hc5 : Tryd.prog.cellsOf 81 = 5 := by kernel_rfl
    rw [hc5] at hcl
    obtain ⟨cs⟩ := cs
    simp only at hcl hat hd
    obtain ⟨v0, v1, v2, v3, v4, rfl⟩ := len5 hcl
    have hm : ys.map (·.1) = [.held (kname 49), .held (kname 50), .held (kname 51), .held (kname 52), .held (kname 53)] := by
      have q := congrArg Prod.fst hys
      have q2 : DataW.agg (ys.map (·.1)) = DataW.agg [.held (kname 49), .held (kname 50), .held (kname 51), .held (kname 52), .held (kname 53)] := by rw [← show _ = DataW.agg (ys.map (·.1)) from q]; rfl
      injection q2
    have get : ∀ (i : Nat) (d : DataW (List UInt8)), (ys.map (·.1))[i]? = some d → ∃ q, ys[i]? = some (d, q) := by
      intro i d hd
      rw [List.getElem?_map] at hd
      cases hy : ys[i]? with
      | none => rw [hy] at hd; cases hd
      | some y =>
        rw [hy] at hd
        simp only [Option.map_some, Option.some.injEq] at hd
        exact ⟨y.2, by rw [← hd]⟩
    rw [hm] at get
    have hu := u58
    obtain ⟨q0, y0⟩ := get 0 _ rfl
    obtain ⟨q1, y1⟩ := get 1 _ rfl
    obtain ⟨q2, y2⟩ := get 2 _ rfl
    obtain ⟨q3, y3⟩ := get 3 _ rfl
    obtain ⟨q4, y4⟩ := get 4 _ rfl
    have t0 := hat 0 (by omega)
    have t1 := hat 1 (by omega)
    have t2 := hat 2 (by omega)
    have t3 := hat 3 (by omega)
    have t4 := hat 4 (by omega)
    rw [hc1, y0] at t0
    rw [hc1, y1] at t1
    rw [hc1, y2] at t2
    rw [hc1, y3] at t3
    rw [hc1, y4] at t4
    have r0 := func_of_trod hu one95 t0
    have r1 := func_of_trod hu one96 t1
    have r2 := func_of_trod hu one97 t2
    have r3 := func_of_trod hu one98 t3
    have r4 := func_of_trod hu one99 t4
    subst r0; subst r1; subst r2; subst r3; subst r4
    refine ⟨[Value.func (.func 95) #[] #[], Value.func (.func 96) #[] #[], Value.func (.func 97) #[] #[], Value.func (.func 98) #[] #[], Value.func (.func 99) #[] #[]], ?_, fun j c hj => ?_⟩
    · exact .cons _ _ _ _ (.func _ _ _ _ _ .nil .nil) (.cons _ _ _ _ (.func _ _ _ _ _ .nil .nil) (.cons _ _ _ _ (.func _ _ _ _ _ .nil .nil) (.cons _ _ _ _ (.func _ _ _ _ _ .nil .nil) (.cons _ _ _ _ (.func _ _ _ _ _ .nil .nil) .nil))))
    · unfold World.var? at hv
      rw [e1] at hv
      simp only [Option.bind_some] at hv
      split at hv
      · rename_i cs2 e fz hh
        injection hv with hv
        subst hv
        rw [cell_of hh]
        simpa using hj
      · cases hv
  · cases hG
end Go.Proofs.YtilmhlbjjfgeoaaDoor
end

section
namespace Go.Proofs.YtilmhlbjjfgeoaaDoor
open Go.AE Go.Lex Go.Pol
/-! ### Arguments -/
section
variable {H : Type}
theorem c3 : Tryd.prog.cellsOf 3 = 1 := by kernel_rfl
theorem c9 : Tryd.prog.cellsOf 9 = 1 := by kernel_rfl
theorem c22 : Tryd.prog.cellsOf 22 = 1 := by kernel_rfl
theorem c23 : Tryd.prog.cellsOf 23 = 1 := by kernel_rfl
theorem c24 : Tryd.prog.cellsOf 24 = 1 := by kernel_rfl
theorem c26 : Tryd.prog.cellsOf 26 = 5 := by kernel_rfl
theorem c28 : Tryd.prog.cellsOf 28 = 10 := by kernel_rfl
theorem c43 : Tryd.prog.cellsOf 43 = 8 := by kernel_rfl
theorem c52 : Tryd.prog.cellsOf 52 = 13 := by kernel_rfl
theorem exT : ExTys Tryd.prog 26 24 := ⟨by kernel_rfl, Tryd.underlying24, Tryd.underlying3, Tryd.underlying9, c3, c9, c26, c24⟩
theorem str28 : structIs Tryd.prog 28 [(9, 0), (22, 1), (22, 2), (23, 3), (26, 4), (3, 9)] = true := by kernel_rfl
theorem str43 : structIs Tryd.prog 43 [(9, 0), (3, 1), (3, 2), (26, 3)] = true := by kernel_rfl
theorem str52 : structIs Tryd.prog 52 [(3, 0), (3, 1), (3, 2), (28, 3)] = true := by kernel_rfl
theorem len8 {α : Type} {l : List α} (h : l.length = 8) : ∃ a b c d e f g i, l = [a, b, c, d, e, f, g, i] := by
  match l, h with
  | [a, b, c, d, e, f, g, i], _ => exact ⟨a, b, c, d, e, f, g, i, rfl⟩
theorem len10 {α : Type} {l : List α} (h : l.length = 10) : ∃ a b c d e f g i j k, l = [a, b, c, d, e, f, g, i, j, k] := by
  match l, h with
  | [a, b, c, d, e, f, g, i, j, k], _ => exact ⟨a, b, c, d, e, f, g, i, j, k, rfl⟩
theorem has_texts {cs : List AV} {d : DataW H} (h : Has Tryd.prog 22 cs d) : ∃ k l, cs = [.list k 1 (strs l)] ∧ l.length ≤ 9223372036854775807 := by
  obtain ⟨k, es, rfl, hl, -, -, he⟩ := h.slice_inv Tryd.underlying22
  obtain ⟨l, rfl⟩ : ∃ l : List (List UInt8), es = l.map fun s => [.v (.string (bs s))] := rows_of fun r hr => by
    obtain ⟨-, d, hd⟩ := he r hr
    obtain ⟨s, hs, -⟩ := hd.str_inv Tryd.underlying9
    exact ⟨s, hs⟩
  refine ⟨k, l, by rw [c9]; rfl, ?_⟩
  simp [maxLen] at hl
  omega
theorem has_rule {cs : List AV} {d : DataW H} (h : Has Tryd.prog 43 cs d) : ∃ x : Rl, RRow x cs := by
  obtain ⟨hl, hg⟩ := h.fields str43
  rw [c43] at hl
  obtain ⟨a0, a1, a2, a3, a4, a5, a6, a7, rfl⟩ := len8 hl
  obtain ⟨_, q0⟩ := hg 0 9 0 rfl
  obtain ⟨_, q1⟩ := hg 1 3 1 rfl
  obtain ⟨_, q2⟩ := hg 2 3 2 rfl
  obtain ⟨_, q3⟩ := hg 3 26 3 rfl
  rw [c9] at q0
  rw [c3] at q1 q2
  rw [c26] at q3
  obtain ⟨s, r0, -⟩ := q0.str_inv Tryd.underlying9
  obtain ⟨n1, r1, -⟩ := q1.i64_inv Tryd.underlying3
  obtain ⟨n2, r2, -⟩ := q2.i64_inv Tryd.underlying3
  obtain ⟨x, hx⟩ := (has_ex exT q3).1 rfl
  simp at r0 r1 r2
  subst r0; subst r1; subst r2
  exact ⟨⟨s, n1, n2, x⟩, _, hx, rfl⟩
theorem rules_of : ∀ {es : List (List AV)}, (∀ r ∈ es, ∃ x, RRow x r) → ∃ l : List Rl, RRows l es := by
  intro es
  induction es with
  | nil => intro _; exact ⟨[], RRows.nil⟩
  | cons r es ih =>
    intro h
    obtain ⟨x, hx⟩ := h r List.mem_cons_self
    obtain ⟨l, h1, h2⟩ := ih fun r hr => h r (List.mem_cons_of_mem _ hr)
    refine ⟨x :: l, by simp [h1], fun i y s q1 q2 => ?_⟩
    cases i with
    | zero => simp at q1 q2; subst q1; subst q2; exact hx
    | succ i => exact h2 i y s (by simpa using q1) (by simpa using q2)
theorem has_pol {cs : List AV} {d : DataW H} (h : Has Tryd.prog 28 cs d) : ∃ p t, cs = prow p t ∧ POk p t := by
  obtain ⟨hl, hg⟩ := h.fields str28
  rw [c28] at hl
  obtain ⟨a0, a1, a2, a3, a4, a5, a6, a7, a8, a9, rfl⟩ := len10 hl
  obtain ⟨_, q0⟩ := hg 0 9 0 rfl
  obtain ⟨_, q1⟩ := hg 1 22 1 rfl
  obtain ⟨_, q2⟩ := hg 2 22 2 rfl
  obtain ⟨_, q3⟩ := hg 3 23 3 rfl
  obtain ⟨_, q4⟩ := hg 4 26 4 rfl
  obtain ⟨_, q5⟩ := hg 5 3 9 rfl
  rw [c9] at q0
  rw [c22] at q1 q2
  rw [c23] at q3
  rw [c26] at q4
  rw [c3] at q5
  obtain ⟨s, r0, -⟩ := q0.str_inv Tryd.underlying9
  obtain ⟨k1, l1, r1, b1⟩ := has_texts q1
  obtain ⟨k2, l2, r2, b2⟩ := has_texts q2
  obtain ⟨k3, es, r3, b3, -, -, he⟩ := q3.slice_inv Tryd.underlying23
  obtain ⟨x, hx⟩ := (has_ex exT q4).1 rfl
  obtain ⟨n5, r5', -⟩ := q5.i64_inv Tryd.underlying3
  obtain ⟨lr, hlr⟩ := rules_of (es := es) fun r hr => by
    obtain ⟨-, d, hd⟩ := he r hr
    exact has_rule hd
  obtain ⟨tok, sz, rows, hrow, -⟩ := Row.five hx
  simp only [row5] at hrow
  simp at r0 r1 r2 r3 hrow r5'
  subst r0; subst r1; subst r2; subst r3; subst r5'
  obtain ⟨rfl, rfl, rfl, rfl, rfl⟩ := hrow
  rw [c43]
  refine ⟨⟨s, l1, l2, lr, x, n5⟩, ⟨k1, 1, k2, 1, k3, 8, es, tok, sz, rows⟩, rfl, ⟨hlr, hx, fun _ _ => rfl, fun _ _ => rfl, fun _ _ => rfl, b1, b2, ?_⟩⟩
  have := hlr.1
  show lr.length ≤ _
  simp [maxLen] at b3
  omega
theorem has_policy {x : AV} {d : DataW H} (h : HasV Tryd.prog 28 x d) : ∃ p t, x = .agg (prow p t) ∧ POk p t := by
  obtain ⟨xs, rfl, -⟩ := h.fields str28
  obtain ⟨fs, hu, -⟩ := structIs_of str28
  obtain ⟨ys, hy, h2⟩ := h.struct_inv hu
  injection hy with hy
  subst hy
  obtain ⟨p, t, rfl, ok⟩ := has_pol h2
  exact ⟨p, t, rfl, ok⟩
theorem versions_of : ∀ {es : List (List AV)}, (∀ r ∈ es, ∃ (x : Vs) (t : PT), r = vrow x t ∧ POk x.pol t) → ∃ l : List Vs, VRows l es := by
  intro es
  induction es with
  | nil => intro _; exact ⟨[], rfl, fun i x r h => by simp at h⟩
  | cons r es ih =>
    intro h
    obtain ⟨x, t, hx, ok⟩ := h r List.mem_cons_self
    obtain ⟨l, h1, h2⟩ := ih fun r hr => h r (List.mem_cons_of_mem _ hr)
    refine ⟨x :: l, by simp [h1], fun i y s q1 q2 => ?_⟩
    cases i with
    | zero => simp at q1 q2; subst q1; subst q2; exact ⟨t, hx, ok⟩
    | succ i => exact h2 i y s (by simpa using q1) (by simpa using q2)
theorem has_versions {x : AV} {d : DataW H} (h : HasV Tryd.prog 36 x d) : ∃ k l es, x = .list k 13 es ∧ VRows l es ∧ l.length ≤ 9223372036854775807 := by
  obtain ⟨k, es, rfl, hl, -, -, he⟩ := h.slice_inv Tryd.underlying36
  obtain ⟨l, hv⟩ := versions_of (es := es) fun r hr => by
    obtain ⟨-, d, hd⟩ := he r hr
    obtain ⟨hl, hg⟩ := hd.fields str52
    rw [c52] at hl
    obtain ⟨_, q0⟩ := hg 0 3 0 rfl
    obtain ⟨_, q1⟩ := hg 1 3 1 rfl
    obtain ⟨_, q2⟩ := hg 2 3 2 rfl
    obtain ⟨_, q3⟩ := hg 3 28 3 rfl
    rw [c3] at q0 q1 q2
    rw [c28] at q3
    obtain ⟨n0, r0, -⟩ := q0.i64_inv Tryd.underlying3
    obtain ⟨n1, r1, -⟩ := q1.i64_inv Tryd.underlying3
    obtain ⟨n2, r2, -⟩ := q2.i64_inv Tryd.underlying3
    obtain ⟨p, t, r3, ok⟩ := has_pol q3
    match r, hl with
    | a0 :: a1 :: a2 :: rest, hl =>
      simp at r0 r1 r2 r3 hl
      subst r0; subst r1; subst r2
      have : rest = prow p t := by rw [← r3]; exact (List.take_of_length_le (by omega)).symm
      subst this
      exact ⟨⟨n0, n1, n2, p⟩, t, rfl, ok⟩
  refine ⟨k, l, es, by rw [c52], hv, ?_⟩
  have := hv.1
  simp [maxLen] at hl
  omega
end
/-! ### PoliciesSpec -/
end Go.Proofs.YtilmhlbjjfgeoaaDoor
end

section
namespace Go.Proofs.YtilmhlbjjfgeoaaDoor
open Go.AE Go.Lex Go.Pol
/-! ### A guarded load beside a call -/
section
variable {P : Program} {G : Nat → Option (List AV)} {R : Rec}
theorem stable_behind_g {ops : Array Oper} {e : Env} {h : Heap} {i j : Nat} {o : Oper} {t : TypeId} {a : Operand} (hap : apartOk ops i j = true) (ho : ops[j]? = some o) (hop : o.op = .load t a)
    (hj : (ops[i]?).map (fun o => classOf o.op) = some .acts) {x v : AV} (hv : sameAV v v = true)
    (h1 : RunL P G R ops (ops.toList.take j) e h (fun q er hr => q = .normal ∧ wantedA ops er o = some true ∧ er.eval a = x ∧ loadEv P G hr t x = some v))
    (h2 : RunL P G R ops (ops.toList.take i) e h (fun q _ hm => q = .normal ∧ loadEv P G hm t x = some v)) : stableOk P G R ops e h i j = true := by
  have hi : i < ops.size := by
    rcases Nat.lt_or_ge i ops.size with hh | hh
    · exact hh
    · rw [Array.getElem?_eq_none hh] at hj; cases hj
  have hjs : j < ops.size := by
    rcases Nat.lt_or_ge j ops.size with hh | hh
    · exact hh
    · rw [Array.getElem?_eq_none hh] at ho; cases ho
  have hc : (ops[j]?).map (fun o => classOf o.op) = some .reads := by rw [ho]; simp only [Option.map_some, hop]; rfl
  unfold stableOk
  rw [hap, hc, hj]
  simp only [Bool.true_and]
  unfold stable
  rw [ho, opsEv_take (by omega), opsEv_take (by omega)]
  obtain ⟨q1, er, hr, e1, rfl, e0, e2, e3⟩ := h1
  obtain ⟨q2, em, hm, f1, rfl, f2⟩ := h2
  rw [e1, f1]
  simp only [e0, hop, e2, e3, f2, hv]
end
theorem strs_same (l : List (List UInt8)) : sameRows (strs l) (strs l) = true := sameRows_of fun r hr => by
  obtain ⟨s, -, rfl⟩ := List.mem_map.1 hr
  simp [sameL, sameAV, sameV]
theorem rrows_same {l : List Rl} {rr : List (List AV)} (h : RRows l rr) : sameRows rr rr = true := sameRows_of fun q hq => by
  obtain ⟨i, hi, rfl⟩ := List.mem_iff_getElem.1 hq
  have hi' : i < l.length := by have := h.1; omega
  obtain ⟨tok, sz, rows, he, hrow⟩ := RRow.inv (h.2 i _ _ (List.getElem?_eq_getElem hi') (List.getElem?_eq_getElem hi))
  rw [he]
  have := Row.same _ _ hrow
  simp only [r5, row5] at this
  simp only [sameL, Bool.and_eq_true] at this
  simp [rrow, sameL, sameAV, sameV]
  simp [sameAV, sameV] at this
  exact this
theorem pol_same {p : Po} {t : PT} (ok : POk p t) : sameAV (.agg (prow p t)) (.agg (prow p t)) = true := by
  have h1 := Row.same _ _ ok.expr
  have h2 := rrows_same ok.rules
  simp only [p5, row5] at h1
  simp only [sameL, Bool.and_eq_true] at h1
  simp [sameAV, sameV, sameTok_refl] at h1
  simp [prow, sameAV, sameL, sameV, sameTok_refl, strs_same, h2, h1]
/-! ### PoliciesSpec -/
end Go.Proofs.YtilmhlbjjfgeoaaDoor
end

section
namespace Go.Proofs.YtilmhlbjjfgeoaaDoor
open Go.AE
/-! ### The seat's closed facts -/
theorem seat_own : ownKnob Tryd.prog.godebug = none := by kernel_rfl
theorem seat_codes : (Tryd.prog.funcs.all fun fn => match fn.body with | some c => codeOk fn.ntmps c | none => true) = true := by kernel_rfl
theorem seat_names : (Tryd.prog.funcs.all fun fn => !(fn.name == "runtime.NumGoroutine")) = true := by kernel_rfl
theorem seat_prog : Prog Tryd.prog := ⟨fun g fn h => by
  have := Array.all_eq_true'.1 seat_names fn (Array.mem_of_getElem? h)
  simpa using this, by kernel_rfl, fun g fn c h hb => by
  have := Array.all_eq_true'.1 seat_codes fn (Array.mem_of_getElem? h)
  simpa [hb] using this⟩
/-- The types of the laws' arguments. -/
def lawTys : List TypeId := [3, 4, 5, 9, 22, 23, 24, 26, 28, 36, 43, 52]
end Go.Proofs.YtilmhlbjjfgeoaaDoor
end
