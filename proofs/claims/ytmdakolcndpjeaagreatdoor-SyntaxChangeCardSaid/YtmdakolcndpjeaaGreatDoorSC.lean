/-
 Layer 19 in plain Lean: how policies are read from tokens and written as tokens. No program is in sight here.
-/
import Derived.Test.YtmdakolcndpjeaaGreatDoorSA
import Derived.Test.YtmdakolcndpjeaaGreatDoorSB
set_option linter.unusedSimpArgs false
set_option linter.unusedVariables false
set_option linter.constructorNameAsVariable false
section
namespace Go.Syn
open Go.AE Go.Lex Go.Pol
def kPolicy : List UInt8 := [112, 111, 108, 105, 99, 121]
def kMode : List UInt8 := [109, 111, 100, 101]
def kOld : List UInt8 := [111, 108, 100]
def kNew : List UInt8 := [110, 101, 119]
def kBoth : List UInt8 := [98, 111, 116, 104]
def kEither : List UInt8 := [101, 105, 116, 104, 101, 114]
def kOffice : List UInt8 := [111, 102, 102, 105, 99, 101]
def kKind : List UInt8 := [107, 105, 110, 100]
def kRule : List UInt8 := [114, 117, 108, 101]
def kThink : List UInt8 := [116, 104, 105, 110, 107]
def kChange : List UInt8 := [99, 104, 97, 110, 103, 101]
def kSome : List UInt8 := [115, 111, 109, 101]
def kWeight : List UInt8 := [119, 101, 105, 103, 104, 116]
def kOf : List UInt8 := [111, 102]
def kUpto : List UInt8 := [117, 112, 116, 111]
def kElse : List UInt8 := [101, 108, 115, 101]
def cSemi : List UInt8 := [59]
def cEq : List UInt8 := [61]
def cOpen : List UInt8 := [40]
def cClose : List UInt8 := [41]
def cComma : List UInt8 := [44]
def words : List (List UInt8) := [kPolicy, kMode, kOld, kNew, kBoth, kEither, kOffice, kKind, kRule, kThink, kChange, kSome, kWeight, kOf, kUpto, kElse]
inductive PR (α : Type) where
 | ok (x : α) (r : List Tk)
 | bad (r : List Tk)
def PR.bind {α β : Type} : PR α → (α → List Tk → PR β) → PR β
 | .ok x r, f => f x r
 | .bad r, _ => .bad r
def PR.left {α : Type} : PR α → List Tk
 | .ok _ r => r
 | .bad r => r
def isT (s : List UInt8) : List Tk → Bool
 | [] => false
 | t :: _ => !decide (t.kind = 2) && decide (t.text = s)
def wantT (s : List UInt8) (l : List Tk) : PR Unit := if isT s l = true then .ok () l.tail else .bad l
def wantP : List (List UInt8) → List Tk → PR Unit
 | [], l => .ok () l
 | s :: w, l => (wantT s l).bind fun _ r => wantP w r
def nameOk (t : Tk) : Bool := decide (t.kind = 1) && !words.contains t.text
def nameP : List Tk → PR (List UInt8)
 | [] => .bad []
 | t :: r => if nameOk t = true then .ok t.text r else .bad (t :: r)
def numP : List Tk → PR Int
 | [] => .bad []
 | t :: r => if t.kind = 2 then .ok t.n r else .bad (t :: r)
def someP {α : Type} (s : List UInt8) (item : List Tk → PR α) : Nat → List Tk → PR (List α)
 | 0, l => .bad l
 | m + 1, l => if isT s l = true then (item l).bind fun x r => (someP s item m r).bind fun t r => .ok (x :: t) r else .ok [] l
def inP (e : List Tk → PR Ex) (l : List Tk) : PR Ex := (wantT cOpen l).bind fun _ r => (e r).bind fun x r => (wantT cClose r).bind fun _ r => .ok x r
def nextP (e : List Tk → PR Ex) (l : List Tk) : PR Ex := (wantT cComma l).bind fun _ r => e r
def exprP : Nat → List Tk → PR Ex
 | 0, l => .bad l
 | m + 1, l =>
  if isT kSome l = true then (nameP l.tail).bind fun s r => .ok (.mk 1 0 0 s []) r
  else if isT kWeight l = true then (numP l.tail).bind fun n r => (wantT kOf r).bind fun _ r => (nameP r).bind fun s r => .ok (.mk 2 n 0 s []) r
  else if isT kUpto l = true then (numP l.tail).bind fun n r => (inP (exprP m) r).bind fun a r => (wantT kElse r).bind fun _ r => (inP (exprP m) r).bind fun b r => .ok (.mk 4 n 0 [] [a, b]) r
  else (numP l).bind fun n r => (wantP [kOf, cOpen] r).bind fun _ r => (exprP m r).bind fun a r => (someP cComma (nextP (exprP m)) (m + 1) r).bind fun t r => (wantT cClose r).bind fun _ r => .ok (.mk 3 n 0 [] (a :: t)) r
def modeGo : List (Int × List UInt8) → Int → List Tk → PR Int
 | [], n, l => if n = 0 then .bad l else .ok n l
 | (i, s) :: w, n, l => if isT s l = true then modeGo w i l.tail else modeGo w n l
def modeW : List (Int × List UInt8) := [(1, kOld), (2, kNew), (3, kBoth), (4, kEither)]
def headP (l : List Tk) : PR (List UInt8 × Int) := (wantT kPolicy l).bind fun _ r => (nameP r).bind fun s r => (wantP [cSemi, kMode] r).bind fun _ r => (modeGo modeW 0 r).bind fun n r => (wantT cSemi r).bind fun _ r => .ok (s, n) r
def declP (s : List UInt8) (l : List Tk) : PR (List UInt8) := (wantT s l).bind fun _ r => (nameP r).bind fun x r => (wantT cSemi r).bind fun _ r => .ok x r
def ruleP (m : Nat) (l : List Tk) : PR Rl := (wantT kRule l).bind fun _ r => (nameP r).bind fun s r => (wantT kThink r).bind fun _ r => (numP r).bind fun n r => (wantT cEq r).bind fun _ r => (exprP m r).bind fun x r => (wantT cSemi r).bind fun _ r => .ok ⟨s, 0, n, x⟩ r
def bodyP (m : Nat) (l : List Tk) : PR Po :=
 (headP l).bind fun h r => (someP kOffice (declP kOffice) m r).bind fun o r => (someP kKind (declP kKind) m r).bind fun k r => (someP kRule (ruleP m) m r).bind fun w r => (wantP [kChange, cEq] r).bind fun _ r => (exprP m r).bind fun x r => .ok ⟨h.1, k, o, w, x, h.2⟩ r
def polP (m : Nat) (l : List Tk) : PR Po := (bodyP m l).bind fun p r => (wantT cSemi r).bind fun _ r => .ok p r
def wholeP (m : Nat) (l : List Tk) : PR Po := (polP m l).bind fun p r => if r = [] then .ok p r else .bad r

def wT (s : List UInt8) : Tk := if words.contains s = true then ⟨1, s, 0, 0⟩ else ⟨3, s, 0, 0⟩
def nT (s : List UInt8) : Tk := ⟨1, s, 0, 0⟩
def dT (n : Int) : Tk := ⟨2, [], n, 0⟩
mutual
def tokE : Ex → List Tk
 | .mk k n _ s l => if k = 1 then [wT kSome, nT s] else if k = 2 then [wT kWeight, dT n, wT kOf, nT s] else if k = 4 then wT kUpto :: dT n :: tokU true l else dT n :: wT kOf :: wT cOpen :: (tokC true l ++ [wT cClose])
def tokU : Bool → List Ex → List Tk
 | _, [] => []
 | first, x :: r => (if first = true then [] else [wT kElse]) ++ (wT cOpen :: (tokE x ++ wT cClose :: tokU false r))
def tokC : Bool → List Ex → List Tk
 | _, [] => []
 | first, x :: r => (if first = true then [] else [wT cComma]) ++ (tokE x ++ tokC false r)
end
def modeS (n : Int) : List UInt8 := if n = 1 then kOld else if n = 2 then kNew else if n = 3 then kBoth else if n = 4 then kEither else []
def tokD (s : List UInt8) (l : List (List UInt8)) : List Tk := l.flatMap fun x => [wT s, nT x, wT cSemi]
def tokR (x : Rl) : List Tk := [wT kRule, nT x.kind, wT kThink, dT x.think, wT cEq] ++ (tokE x.expr ++ [wT cSemi])
def tokP (p : Po) : List Tk := [wT kPolicy, nT p.name, wT cSemi, wT kMode, nT (modeS p.mode), wT cSemi] ++ (tokD kOffice p.offices ++ (tokD kKind p.kinds ++ (p.rules.flatMap tokR ++ ([wT kChange, wT cEq] ++ (tokE p.change ++ [wT cSemi])))))
end Go.Syn
end

section
namespace Go.Syn
open Go.AE Go.Lex Go.Pol
def PR.like {α : Type} : PR α → PR α → Prop
 | .ok x r, .ok y s => x = y ∧ sameB r s = true
 | .bad r, .bad s => sameB r s = true
 | _, _ => False
def PR.put {α : Type} : PR α → List Tk → PR α
 | .ok x _, s => .ok x s
 | .bad _, s => .bad s
structure Nice {α : Type} (P : List Tk → PR α) : Prop where
 le : ∀ l, ∃ c, l = c ++ (P l).left
 det : ∀ p u v s, s ≠ [] → (P (p ++ u)).left = s ++ u → P (p ++ v) = (P (p ++ u)).put (s ++ v)
 same : ∀ l l', sameB l l' = true → (P l).like (P l')
theorem suffix_len {c l r : List Tk} (h : l = c ++ r) : r.length ≤ l.length := by rw [h, List.length_append]; omega
theorem Nice.len {α : Type} {P : List Tk → PR α} (h : Nice P) (l : List Tk) : (P l).left.length ≤ l.length := by
 obtain ⟨c, hc⟩ := h.le l
 exact suffix_len hc
theorem sameB_nil {l : List Tk} (h : sameB [] l = true) : l = [] := by cases l with | nil => rfl | cons _ _ => cases h
theorem sameB_step {t : Tk} {r l : List Tk} (h : sameB (t :: r) l = true) : ∃ u s, l = u :: s ∧ sameT t u = true ∧ sameB r s = true := by
 cases l with
 | nil => cases h
 | cons u s => rw [sameB_cons, Bool.and_eq_true] at h; exact ⟨u, s, rfl, h.1, h.2⟩
theorem sameB_tail {l m : List Tk} (h : sameB l m = true) : sameB l.tail m.tail = true := by
 cases l with
 | nil => rw [sameB_nil h]; rfl
 | cons t r => obtain ⟨u, s, rfl, -, h2⟩ := sameB_step h; exact h2
theorem sameT_iff {t u : Tk} : sameT t u = true ↔ t.kind = u.kind ∧ t.text = u.text ∧ t.n = u.n := by simp [sameT, and_assoc]
theorem isT_same (s : List UInt8) {l m : List Tk} (h : sameB l m = true) : isT s l = isT s m := by
 cases l with
 | nil => rw [sameB_nil h]
 | cons t r => obtain ⟨u, w, rfl, h1, h2⟩ := sameB_step h; obtain ⟨a, b, -⟩ := sameT_iff.1 h1; simp only [isT, a, b]
theorem isT_app (s : List UInt8) {p : List Tk} (hp : p ≠ []) (u v : List Tk) : isT s (p ++ u) = isT s (p ++ v) := by
 cases p with
 | nil => exact absurd rfl hp
 | cons t r => rfl
theorem tail_app {p : List Tk} (hp : p ≠ []) (u : List Tk) : (p ++ u).tail = p.tail ++ u := by
 cases p with
 | nil => exact absurd rfl hp
 | cons t r => rfl
theorem tail_suffix (l : List Tk) : ∃ c, l = c ++ l.tail := by
 cases l with
 | nil => exact ⟨[], rfl⟩
 | cons t r => exact ⟨[t], rfl⟩
section
variable {α β : Type}
theorem nice_ok (x : α) : Nice (fun l => PR.ok x l) :=
 ⟨fun l => ⟨[], rfl⟩, fun p u v s _ h => by
  have h : p ++ u = s ++ u := h
  rw [List.append_cancel_right h]; rfl, fun l l' h => ⟨rfl, h⟩⟩
theorem nice_bad : Nice (fun l => (PR.bad l : PR α)) :=
 ⟨fun l => ⟨[], rfl⟩, fun p u v s _ h => by
  have h : p ++ u = s ++ u := h
  rw [List.append_cancel_right h]; rfl, fun l l' h => h⟩
theorem ne_of_left {P : List Tk → PR α} {p u s : List Tk} (hl : ∀ l, ∃ c, l = c ++ (P l).left) (hs : s ≠ []) (h : (P (p ++ u)).left = s ++ u) : p ≠ [] := by
 intro hp
 subst hp
 obtain ⟨c, hc⟩ := hl ([] ++ u)
 rw [h] at hc
 have := congrArg List.length hc
 simp only [List.nil_append, List.length_append] at this
 have := List.length_pos_iff.2 hs
 omega
theorem nice_peek (s : List UInt8) {P Q : List Tk → PR α} (hP : Nice P) (hQ : Nice Q) : Nice (fun l => if isT s l = true then P l.tail else Q l) := by
 have hl : ∀ l, ∃ c, l = c ++ (if isT s l = true then P l.tail else Q l).left := fun l => by
  by_cases h : isT s l = true
  ·simp only [h, if_true]
   obtain ⟨c, hc⟩ := hP.le l.tail
   obtain ⟨d, hd⟩ := tail_suffix l
   exact ⟨d ++ c, by rw [List.append_assoc, ← hc]; exact hd⟩
  ·simp only [h, if_false]; exact hQ.le l
 refine ⟨hl, fun p u v w hw h => ?_, fun l l' h => ?_⟩
 ·have hp : p ≠ [] := ne_of_left (P := fun l => if isT s l = true then P l.tail else Q l) hl hw h
  have e := isT_app s hp u v
  simp only [← e] at h ⊢
  by_cases q : isT s (p ++ u) = true
  ·simp only [q, if_true, tail_app hp] at h ⊢
   exact hP.det _ _ _ _ hw h
  ·simp only [q, if_false] at h ⊢
   exact hQ.det _ _ _ _ hw h
 ·have e := isT_same s h
  simp only [← e]
  by_cases q : isT s l = true
  ·simp only [q, if_true]; exact hP.same _ _ (sameB_tail h)
  ·simp only [q, if_false]; exact hQ.same _ _ h
theorem nice_bind {P : List Tk → PR α} {f : α → List Tk → PR β} (hP : Nice P) (hf : ∀ x, Nice (f x)) : Nice (fun l => (P l).bind f) := by
 refine ⟨fun l => ?_, fun p u v s hs h => ?_, fun l l' h => ?_⟩
 ·obtain ⟨c, hc⟩ := hP.le l
  cases e : P l with
  | ok x r =>
   rw [e] at hc
   obtain ⟨d, hd⟩ := (hf x).le r
   exact ⟨c ++ d, by rw [List.append_assoc, show (PR.ok x r).bind f = f x r from rfl, ← hd]; exact hc⟩
  | bad r => rw [e] at hc; exact ⟨c, hc⟩
 ·cases e : P (p ++ u) with
  | ok x r =>
   simp only [e] at h
   have h : (f x r).left = s ++ u := h
   obtain ⟨c, hc⟩ := hP.le (p ++ u)
   rw [e] at hc
   have hc : p ++ u = c ++ r := hc
   obtain ⟨d, hd⟩ := (hf x).le r
   rw [h] at hd
   rw [← List.append_assoc] at hd
   have hne : d ++ s ≠ [] := by intro q; exact hs (List.append_eq_nil_iff.1 q).2
   have e2 := hP.det p u v (d ++ s) hne (by rw [e]; exact hd)
   rw [e] at e2
   rw [e2]
   subst hd
   exact (hf x).det (d ++ s) u v s hs h
  | bad r =>
   simp only [e] at h
   have h : r = s ++ u := h
   have e2 := hP.det p u v s hs (by rw [e]; exact h)
   rw [e2, e]
   rfl
 ·have h1 := hP.same l l' h
  cases e : P l with
  | ok x r =>
   cases e2 : P l' with
   | ok y t =>
    rw [e, e2] at h1
    obtain ⟨rfl, h3⟩ := h1
    exact (hf x).same _ _ h3
   | bad t => rw [e, e2] at h1; exact h1.elim
  | bad r =>
   cases e2 : P l' with
   | ok y t => rw [e, e2] at h1; exact h1.elim
   | bad t => rw [e, e2] at h1; exact h1
theorem nice_want (s : List UInt8) : Nice (wantT s) := nice_peek s (nice_ok ()) nice_bad
theorem nice_wants : ∀ w, Nice (wantP w)
 | [] => nice_ok ()
 | s :: w => nice_bind (nice_want s) fun _ => nice_wants w
theorem nice_head {b : Tk → Bool} {g : Tk → α} (hb : ∀ t u, sameT t u = true → b t = b u ∧ (b t = true → g t = g u)) : Nice (fun l => match l with | [] => PR.bad [] | t :: r => if b t = true then .ok (g t) r else .bad (t :: r)) := by
 have hl : ∀ l : List Tk, ∃ c, l = c ++ (match l with | [] => PR.bad [] | t :: r => if b t = true then .ok (g t) r else .bad (t :: r) : PR α).left := fun l => by
  cases l with
  | nil => exact ⟨[], rfl⟩
  | cons t r =>
   by_cases q : b t = true
   ·simp only [q, if_true]; exact ⟨[t], rfl⟩
   ·simp only [q, if_false]; exact ⟨[], rfl⟩
 refine ⟨hl, fun p u v s hs h => ?_, fun l l' h => ?_⟩
 ·have hp := ne_of_left (P := fun l => match l with | [] => PR.bad [] | t :: r => if b t = true then .ok (g t) r else .bad (t :: r)) hl hs h
  cases p with
  | nil => exact absurd rfl hp
  | cons t r =>
   simp only [List.cons_append] at h ⊢
   by_cases q : b t = true
   ·simp only [q, if_true] at h ⊢
    have h : r ++ u = s ++ u := h
    rw [List.append_cancel_right h]; rfl
   ·simp only [q, if_false] at h ⊢
    have h : (t :: r) ++ u = s ++ u := h
    rw [← List.append_cancel_right h]; rfl
 ·cases l with
  | nil => rw [sameB_nil h]; rfl
  | cons t r =>
   obtain ⟨u, w, rfl, h1, h2⟩ := sameB_step h
   obtain ⟨e1, e2⟩ := hb t u h1
   simp only [← e1]
   by_cases q : b t = true
   ·simp only [q, if_true]; exact ⟨e2 q, h2⟩
   ·simp only [q, if_false]; exact h
theorem nice_name : Nice nameP := by
 have := nice_head (b := nameOk) (g := Tk.text) (fun t u h => by obtain ⟨a, b, -⟩ := sameT_iff.1 h; exact ⟨by simp only [nameOk, a, b], fun _ => b⟩)
 refine (congrArg Nice (funext fun l => ?_)).mp this
 cases l <;> rfl
theorem nice_num : Nice numP := by
 have := nice_head (b := fun t => decide (t.kind = 2)) (g := Tk.n) (fun t u h => by obtain ⟨a, b, c⟩ := sameT_iff.1 h; exact ⟨by simp only [a], fun _ => c⟩)
 refine (congrArg Nice (funext fun l => ?_)).mp this
 cases l with
 | nil => rfl
 | cons t r => simp only [numP, decide_eq_true_eq]
theorem nice_if (s : List UInt8) {P Q : List Tk → PR α} (hP : Nice P) (hQ : Nice Q) : Nice (fun l => if isT s l = true then P l else Q l) := by
 have hl : ∀ l, ∃ c, l = c ++ (if isT s l = true then P l else Q l).left := fun l => by
  by_cases h : isT s l = true
  ·simp only [h, if_true]; exact hP.le l
  ·simp only [h, if_false]; exact hQ.le l
 refine ⟨hl, fun p u v w hw h => ?_, fun l l' h => ?_⟩
 ·have hp : p ≠ [] := ne_of_left (P := fun l => if isT s l = true then P l else Q l) hl hw h
  have e := isT_app s hp u v
  simp only [← e] at h ⊢
  by_cases q : isT s (p ++ u) = true
  ·simp only [q, if_true] at h ⊢; exact hP.det _ _ _ _ hw h
  ·simp only [q, if_false] at h ⊢; exact hQ.det _ _ _ _ hw h
 ·have e := isT_same s h
  simp only [← e]
  by_cases q : isT s l = true
  ·simp only [q, if_true]; exact hP.same _ _ h
  ·simp only [q, if_false]; exact hQ.same _ _ h
theorem nice_some (s : List UInt8) {item : List Tk → PR α} (h : Nice item) : ∀ m, Nice (someP s item m)
 | 0 => nice_bad
 | m + 1 => nice_if s (nice_bind h fun x => nice_bind (nice_some s h m) fun t => nice_ok (x :: t)) (nice_ok [])
theorem nice_in {e : List Tk → PR Ex} (h : Nice e) : Nice (inP e) := nice_bind (nice_want _) fun _ => nice_bind h fun x => nice_bind (nice_want _) fun _ => nice_ok x
theorem nice_next {e : List Tk → PR Ex} (h : Nice e) : Nice (nextP e) := nice_bind (nice_want _) fun _ => h
theorem nice_expr : ∀ m, Nice (exprP m)
 | 0 => nice_bad
 | m + 1 => by
  have ih := nice_expr m
  refine nice_peek kSome (P := fun l => (nameP l).bind fun s r => .ok (Ex.mk 1 0 0 s []) r) (nice_bind nice_name fun s => nice_ok _) ?_
  refine nice_peek kWeight (P := fun l => (numP l).bind fun n r => (wantT kOf r).bind fun _ r => (nameP r).bind fun s r => .ok (Ex.mk 2 n 0 s []) r) (nice_bind nice_num fun n => nice_bind (nice_want _) fun _ => nice_bind nice_name fun s => nice_ok _) ?_
  refine nice_peek kUpto (P := fun l => (numP l).bind fun n r => (inP (exprP m) r).bind fun a r => (wantT kElse r).bind fun _ r => (inP (exprP m) r).bind fun b r => .ok (Ex.mk 4 n 0 [] [a, b]) r) (nice_bind nice_num fun n => nice_bind (nice_in ih) fun a => nice_bind (nice_want _) fun _ => nice_bind (nice_in ih) fun b => nice_ok _) ?_
  exact nice_bind nice_num fun n => nice_bind (nice_wants _) fun _ => nice_bind ih fun a => nice_bind (nice_some _ (nice_next ih) _) fun t => nice_bind (nice_want _) fun _ => nice_ok _
theorem nice_mode : ∀ w n, Nice (modeGo w n)
 | [], n => by
  by_cases h : n = 0
  ·have : modeGo [] n = fun l => (PR.bad l : PR Int) := by funext l; simp only [modeGo, h, if_true]
   rw [this]; exact nice_bad
  ·have : modeGo [] n = fun l => PR.ok n l := by funext l; simp only [modeGo, h, if_false]
   rw [this]; exact nice_ok n
 | (i, s) :: w, n => nice_peek s (nice_mode w i) (nice_mode w n)
theorem nice_headP : Nice headP := nice_bind (nice_want _) fun _ => nice_bind nice_name fun s => nice_bind (nice_wants _) fun _ => nice_bind (nice_mode _ _) fun n => nice_bind (nice_want _) fun _ => nice_ok _
theorem nice_decl (s : List UInt8) : Nice (declP s) := nice_bind (nice_want _) fun _ => nice_bind nice_name fun x => nice_bind (nice_want _) fun _ => nice_ok _
theorem nice_rule (m : Nat) : Nice (ruleP m) := nice_bind (nice_want _) fun _ => nice_bind nice_name fun s => nice_bind (nice_want _) fun _ => nice_bind nice_num fun n => nice_bind (nice_want _) fun _ => nice_bind (nice_expr m) fun x => nice_bind (nice_want _) fun _ => nice_ok _
theorem nice_body (m : Nat) : Nice (bodyP m) := nice_bind nice_headP fun h => nice_bind (nice_some _ (nice_decl _) m) fun o => nice_bind (nice_some _ (nice_decl _) m) fun k => nice_bind (nice_some _ (nice_rule m) m) fun w => nice_bind (nice_wants _) fun _ => nice_bind (nice_expr m) fun x => nice_ok _
theorem nice_pol (m : Nat) : Nice (polP m) := nice_bind (nice_body m) fun p => nice_bind (nice_want _) fun _ => nice_ok p
end
end Go.Syn
end

section
namespace Go.Syn
open Go.AE Go.Lex Go.Pol
def numW (n : Int) : Bool := decide (0 ≤ n) && decide (n ≤ 1099511627776)
def nameW (s : List UInt8) : Bool := nameB s && !words.contains s
mutual
def wrE : Ex → Bool
 | .mk k n no s l =>
  if k = 1 then decide (n = 0) && (decide (no = 0) && (nameW s && l.isEmpty))
  else if k = 2 then numW n && (decide (no = 0) && (nameW s && l.isEmpty))
  else if k = 4 then numW n && (decide (no = 0) && (s.isEmpty && (decide (l.length = 2) && wrL l)))
  else decide (k = 3) && (numW n && (decide (no = 0) && (s.isEmpty && (!l.isEmpty && wrL l))))
def wrL : List Ex → Bool
 | [] => true
 | x :: r => wrE x && wrL r
end
def wrR (x : Rl) : Bool := nameW x.kind && (decide (x.kindNo = 0) && (numW x.think && wrE x.expr))
def wrP (p : Po) : Bool := (decide (1 ≤ p.mode) && decide (p.mode ≤ 4)) && (nameW p.name && (p.offices.all nameW && (p.kinds.all nameW && (p.rules.all wrR && wrE p.change))))
theorem wrL_mem : ∀ {l : List Ex}, wrL l = true → ∀ x ∈ l, wrE x = true := by
 intro l
 induction l with
 | nil => intro _ x h; cases h
 | cons y r ih =>
  intro h x hx
  rw [wrL, Bool.and_eq_true] at h
  rcases List.mem_cons.1 hx with e | e
  ·rw [e]; exact h.1
  ·exact ih h.2 x e
theorem wT_text (s : List UInt8) : (wT s).text = s := by unfold wT; split <;> rfl
theorem wT_kind (s : List UInt8) : decide ((wT s).kind = 2) = false := by unfold wT; split <;> rfl
theorem isT_cons (s : List UInt8) (t : Tk) (r : List Tk) : isT s (t :: r) = (!decide (t.kind = 2) && decide (t.text = s)) := rfl
theorem isT_self (s : List UInt8) (r : List Tk) : isT s (wT s :: r) = true := by rw [isT_cons, wT_kind, wT_text]; simp
theorem isT_other {s t : List UInt8} (h : decide (t = s) = false) (r : List Tk) : isT s (wT t :: r) = false := by rw [isT_cons, wT_text, h, Bool.and_false]
theorem want_wT (s : List UInt8) (r : List Tk) : wantT s (wT s :: r) = .ok () r := by
 unfold wantT
 rw [if_pos (isT_self s r)]; rfl
theorem nameP_cons (t : Tk) (r : List Tk) : nameP (t :: r) = if nameOk t = true then .ok t.text r else .bad (t :: r) := rfl
theorem name_nT {s : List UInt8} (h : nameW s = true) (r : List Tk) : nameP (nT s :: r) = .ok s r := by
 unfold nameW at h
 rw [Bool.and_eq_true] at h
 have : nameOk (nT s) = true := by simp only [nameOk, nT, decide_true, Bool.true_and]; exact h.2
 rw [nameP_cons, if_pos this]; rfl
theorem num_dT (n : Int) (r : List Tk) : numP (dT n :: r) = .ok n r := rfl
theorem bind_ok {α β : Type} (x : α) (r : List Tk) (f : α → List Tk → PR β) : (PR.ok x r).bind f = f x r := rfl
theorem isT_dT (s : List UInt8) (n : Int) (r : List Tk) : isT s (dT n :: r) = false := rfl
theorem tokE_pos (x : Ex) : 1 ≤ (tokE x).length := by
 cases x with | mk k n no s l =>
 rw [tokE]
 split
 ·simp
 ·split
  ·simp
  ·split <;> simp
theorem tokC_len : ∀ (l : List Ex) (b : Bool), l.length ≤ (tokC b l).length ∧ ∀ x ∈ l, (tokE x).length ≤ (tokC b l).length := by
 intro l
 induction l with
 | nil => intro b; exact ⟨Nat.zero_le _, fun x hx => (nomatch hx)⟩
 | cons y r ih =>
  intro b
  obtain ⟨h1, h2⟩ := ih false
  have h3 := tokE_pos y
  rw [tokC]
  refine ⟨by simp only [List.length_append, List.length_cons]; omega, fun x hx => ?_⟩
  rcases List.mem_cons.1 hx with e | e
  ·subst e; simp only [List.length_append]; omega
  ·have := h2 x e; simp only [List.length_append]; omega
theorem some_parts {m : Nat} : ∀ (l : List Ex), (∀ x ∈ l, ∀ r, exprP m (tokE x ++ r) = .ok x r) → ∀ (f : Nat) (r : List Tk), l.length < f → someP cComma (nextP (exprP m)) f (tokC false l ++ wT cClose :: r) = .ok l (wT cClose :: r) := by
 intro l
 induction l with
 | nil =>
  intro _ f r hf
  cases f with
  | zero => omega
  | succ f => rw [tokC]; rfl
 | cons x t ih =>
  intro h f r hf
  cases f with
  | zero => omega
  | succ f =>
   have e : tokC false (x :: t) ++ wT cClose :: r = wT cComma :: (tokE x ++ (tokC false t ++ wT cClose :: r)) := by rw [tokC]; simp
   rw [e]
   unfold someP
   rw [if_pos (isT_self _ _)]
   have en : ∀ z, nextP (exprP m) (wT cComma :: z) = exprP m z := fun z => by unfold nextP; rw [want_wT, bind_ok]
   rw [en, h x List.mem_cons_self, bind_ok, ih (fun y hy => h y (List.mem_cons_of_mem _ hy)) f r (by simpa using hf), bind_ok]
theorem read_expr : ∀ x, wrE x = true → ∀ m r, (tokE x).length ≤ m → exprP m (tokE x ++ r) = .ok x r := by
 intro x
 induction x using Ex.ind with
 | h k n no s l ih =>
  intro h m r hm
  cases m with
  | zero => have := tokE_pos (.mk k n no s l); omega
  | succ m =>
   rw [wrE] at h
   by_cases h1 : k = 1
   ·simp only [h1, if_true, Bool.and_eq_true, decide_eq_true_eq, List.isEmpty_iff] at h
    obtain ⟨rfl, rfl, hn, rfl⟩ := h
    subst h1
    have e : tokE (.mk 1 0 0 s []) ++ r = wT kSome :: nT s :: r := by rw [tokE]; rfl
    rw [e]
    unfold exprP
    rw [if_pos (isT_self _ _), List.tail_cons, name_nT hn]
    rfl
   by_cases h2 : k = 2
   ·simp only [h1, h2, if_true, if_false, Bool.and_eq_true, decide_eq_true_eq, List.isEmpty_iff] at h
    rw [if_neg (by decide)] at h
    simp only [Bool.and_eq_true, decide_eq_true_eq, List.isEmpty_iff] at h
    obtain ⟨-, rfl, hn, rfl⟩ := h
    subst h2
    have e : tokE (.mk 2 n 0 s []) ++ r = wT kWeight :: dT n :: wT kOf :: nT s :: r := by rw [tokE, if_neg (by decide), if_pos rfl]; rfl
    rw [e]
    unfold exprP
    rw [if_neg (by rw [isT_other (by decide)]; decide), if_pos (isT_self _ _), List.tail_cons, num_dT, bind_ok, want_wT, bind_ok, name_nT hn]
    rfl
   rw [if_neg h1, if_neg h2] at h
   by_cases h4 : k = 4
   ·rw [if_pos h4] at h
    simp only [Bool.and_eq_true, decide_eq_true_eq, List.isEmpty_iff] at h
    obtain ⟨-, rfl, rfl, hl, hw⟩ := h
    subst h4
    obtain ⟨a, b, rfl⟩ : ∃ a b, l = [a, b] := by
     match l, hl with
     | [a, b], _ => exact ⟨a, b, rfl⟩
    have e : ∀ r, tokE (.mk 4 n 0 [] [a, b]) ++ r = wT kUpto :: dT n :: wT cOpen :: (tokE a ++ wT cClose :: wT kElse :: wT cOpen :: (tokE b ++ wT cClose :: r)) := by intro r; rw [tokE, if_neg (by decide), if_neg (by decide), if_pos rfl]; simp [tokU]
    have el := congrArg List.length (e [])
    simp only [List.append_nil, List.length_cons, List.length_append] at el
    rw [el] at hm
    have ha := ih a (by simp) (wrL_mem hw a (by simp)) m
    have hb := ih b (by simp) (wrL_mem hw b (by simp)) m
    rw [e]
    unfold exprP
    rw [if_neg (by rw [isT_other (by decide)]; decide), if_neg (by rw [isT_other (by decide)]; decide), if_pos (isT_self _ _), List.tail_cons, num_dT, bind_ok]
    unfold inP
    rw [want_wT, bind_ok, ha _ (by omega), bind_ok, want_wT, bind_ok, bind_ok, want_wT, bind_ok, want_wT, bind_ok, hb _ (by omega), bind_ok, want_wT, bind_ok]
    rfl
   ·rw [if_neg h4] at h
    simp only [Bool.and_eq_true, decide_eq_true_eq, List.isEmpty_iff, Bool.not_eq_true'] at h
    obtain ⟨rfl, -, rfl, rfl, hl, hw⟩ := h
    cases l with
    | nil => cases hl
    | cons a t =>
     have e : ∀ r, tokE (.mk 3 n 0 [] (a :: t)) ++ r = dT n :: wT kOf :: wT cOpen :: (tokE a ++ (tokC false t ++ wT cClose :: r)) := by intro r; rw [tokE, if_neg (by decide), if_neg (by decide), if_neg (by decide)]; simp [tokC]
     have el := congrArg List.length (e [])
     simp only [List.append_nil, List.length_cons, List.length_append] at el
     rw [el] at hm
     have ha := ih a List.mem_cons_self (wrL_mem hw a List.mem_cons_self) m
     obtain ⟨t1, t2⟩ := tokC_len t false
     rw [e]
     unfold exprP
     rw [if_neg (by rw [isT_dT]; decide), if_neg (by rw [isT_dT]; decide), if_neg (by rw [isT_dT]; decide), num_dT, bind_ok]
     unfold wantP wantP wantP
     rw [want_wT, bind_ok, want_wT, bind_ok, bind_ok, ha _ (by omega), bind_ok, some_parts t (fun x hx r => ih x (List.mem_cons_of_mem _ hx) (wrL_mem hw x (List.mem_cons_of_mem _ hx)) m r (by have := t2 x hx; omega)) _ _ (by omega), bind_ok, want_wT, bind_ok]
theorem decl_w {s x : List UInt8} (h : nameW x = true) (r : List Tk) : declP s (wT s :: nT x :: wT cSemi :: r) = .ok x r := by
 unfold declP
 rw [want_wT, bind_ok, name_nT h, bind_ok, want_wT, bind_ok]
theorem some_decl {s : List UInt8} : ∀ (l : List (List UInt8)), l.all nameW = true → ∀ (f : Nat) (r : List Tk), l.length < f → isT s r = false → someP s (declP s) f (tokD s l ++ r) = .ok l r := by
 intro l
 induction l with
 | nil =>
  intro _ f r hf hr
  cases f with
  | zero => omega
  | succ f =>
   show someP s (declP s) (f + 1) r = _
   unfold someP
   rw [hr, if_neg (by decide)]
 | cons x t ih =>
  intro h f r hf hr
  rw [List.all_cons, Bool.and_eq_true] at h
  cases f with
  | zero => omega
  | succ f =>
   have e : tokD s (x :: t) ++ r = wT s :: nT x :: wT cSemi :: (tokD s t ++ r) := by simp [tokD]
   rw [e]
   unfold someP
   rw [if_pos (isT_self _ _), decl_w h.1, bind_ok, ih h.2 f r (by simpa using hf) hr, bind_ok]
theorem rule_w {x : Rl} (h : wrR x = true) {m : Nat} (hm : (tokR x).length ≤ m) (r : List Tk) : ruleP m (tokR x ++ r) = .ok x r := by
 unfold wrR at h
 simp only [Bool.and_eq_true, decide_eq_true_eq] at h
 obtain ⟨h1, h2, -, h4⟩ := h
 have e : tokR x ++ r = wT kRule :: nT x.kind :: wT kThink :: dT x.think :: wT cEq :: (tokE x.expr ++ wT cSemi :: r) := by simp [tokR]
 have hl : (tokE x.expr).length ≤ m := by
  have : (tokE x.expr).length ≤ (tokR x).length := by simp [tokR]; omega
  omega
 rw [e]
 unfold ruleP
 rw [want_wT, bind_ok, name_nT h1, bind_ok, want_wT, bind_ok, num_dT, bind_ok, want_wT, bind_ok, read_expr _ h4 m _ hl, bind_ok, want_wT, bind_ok]
 obtain ⟨a, b, c, d⟩ := x
 obtain rfl : b = 0 := h2
 rfl
theorem some_rule {m : Nat} : ∀ (l : List Rl), l.all wrR = true → (∀ x ∈ l, (tokR x).length ≤ m) → ∀ (f : Nat) (r : List Tk), l.length < f → isT kRule r = false → someP kRule (ruleP m) f (l.flatMap tokR ++ r) = .ok l r := by
 intro l
 induction l with
 | nil =>
  intro _ _ f r hf hr
  cases f with
  | zero => omega
  | succ f =>
   show someP kRule (ruleP m) (f + 1) r = _
   unfold someP
   rw [hr, if_neg (by decide)]
 | cons x t ih =>
  intro h hm f r hf hr
  rw [List.all_cons, Bool.and_eq_true] at h
  cases f with
  | zero => omega
  | succ f =>
   have e : (x :: t).flatMap tokR ++ r = tokR x ++ (t.flatMap tokR ++ r) := by simp
   have i : isT kRule (tokR x ++ (t.flatMap tokR ++ r)) = true := by
    have : tokR x ++ (t.flatMap tokR ++ r) = wT kRule :: ((nT x.kind :: wT kThink :: dT x.think :: wT cEq :: (tokE x.expr ++ [wT cSemi])) ++ (t.flatMap tokR ++ r)) := by simp [tokR]
    rw [this]; exact isT_self _ _
   rw [e]
   unfold someP
   rw [if_pos i, rule_w h.1 (hm x List.mem_cons_self), bind_ok, ih h.2 (fun y hy => hm y (List.mem_cons_of_mem _ hy)) f r (by simpa using hf) hr, bind_ok]
theorem mode_w {n : Int} (h1 : 1 ≤ n) (h2 : n ≤ 4) (r : List Tk) (hr : ∀ w ∈ modeW, isT w.2 r = false) : modeGo modeW 0 (nT (modeS n) :: r) = .ok n r := by
 have a1 := hr (1, kOld) (by simp [modeW])
 have a2 := hr (2, kNew) (by simp [modeW])
 have a3 := hr (3, kBoth) (by simp [modeW])
 have a4 := hr (4, kEither) (by simp [modeW])
 have i : ∀ s t : List UInt8, isT s (nT t :: r) = decide (t = s) := fun s t => rfl
 have : n = 1 ∨ n = 2 ∨ n = 3 ∨ n = 4 := by omega
 rcases this with rfl | rfl | rfl | rfl
 ·have e : modeS 1 = kOld := rfl
  simp only [e, modeW, modeGo, i, List.tail_cons] at *
  simp [a2, a3, a4]
 ·have e : modeS 2 = kNew := rfl
  have d1 : decide (kNew = kOld) = false := rfl
  simp only [e, modeW, modeGo, i, List.tail_cons, d1] at *
  simp [a3, a4]
 ·have e : modeS 3 = kBoth := rfl
  have d1 : decide (kBoth = kOld) = false := rfl
  have d2 : decide (kBoth = kNew) = false := rfl
  simp only [e, modeW, modeGo, i, List.tail_cons, d1, d2] at *
  simp [a4]
 ·have e : modeS 4 = kEither := rfl
  have d1 : decide (kEither = kOld) = false := rfl
  have d2 : decide (kEither = kNew) = false := rfl
  have d3 : decide (kEither = kBoth) = false := rfl
  simp only [e, modeW, modeGo, i, List.tail_cons, d1, d2, d3] at *
  simp
theorem head_w {p : Po} (h1 : 1 ≤ p.mode) (h2 : p.mode ≤ 4) (h3 : nameW p.name = true) (r : List Tk) : headP ([wT kPolicy, nT p.name, wT cSemi, wT kMode, nT (modeS p.mode), wT cSemi] ++ r) = .ok (p.name, p.mode) r := by
 show headP (wT kPolicy :: nT p.name :: wT cSemi :: wT kMode :: nT (modeS p.mode) :: wT cSemi :: r) = _
 unfold headP
 rw [want_wT, bind_ok, name_nT h3, bind_ok]
 unfold wantP wantP wantP
 rw [want_wT, bind_ok, want_wT, bind_ok, bind_ok, mode_w h1 h2 _ (fun w hw => by
  simp only [modeW, List.mem_cons, List.not_mem_nil, or_false] at hw
  rcases hw with rfl | rfl | rfl | rfl <;> exact isT_other (by decide) _), bind_ok, want_wT, bind_ok]
theorem flat_len {α : Type} {f : α → List Tk} : ∀ {l : List α}, (∀ x ∈ l, 1 ≤ (f x).length) → l.length ≤ (l.flatMap f).length ∧ ∀ x ∈ l, (f x).length ≤ (l.flatMap f).length := by
 intro l
 induction l with
 | nil => intro _; exact ⟨Nat.le_refl _, fun x hx => (nomatch hx)⟩
 | cons y r ih =>
  intro h
  obtain ⟨h1, h2⟩ := ih fun x hx => h x (List.mem_cons_of_mem _ hx)
  have h3 := h y List.mem_cons_self
  rw [List.flatMap_cons]
  refine ⟨by simp only [List.length_append, List.length_cons]; omega, fun x hx => ?_⟩
  rcases List.mem_cons.1 hx with e | e
  ·subst e; simp only [List.length_append]; omega
  ·have := h2 x e; simp only [List.length_append]; omega
theorem read_pol {p : Po} (h : wrP p = true) {m : Nat} (hm : (tokP p).length ≤ m) (r : List Tk) : polP m (tokP p ++ r) = .ok p r := by
 unfold wrP at h
 simp only [Bool.and_eq_true, decide_eq_true_eq] at h
 obtain ⟨⟨h1, h2⟩, h3, h4, h5, h6, h7⟩ := h
 have e : ∀ r, tokP p ++ r = [wT kPolicy, nT p.name, wT cSemi, wT kMode, nT (modeS p.mode), wT cSemi] ++ (tokD kOffice p.offices ++ (tokD kKind p.kinds ++ (p.rules.flatMap tokR ++ (wT kChange :: wT cEq :: (tokE p.change ++ wT cSemi :: r))))) := by
  intro r; simp [tokP]
 have el := congrArg List.length (e [])
 simp only [List.append_nil, List.length_append, List.length_cons] at el
 have lo := (flat_len (l := p.offices) (f := fun x => [wT kOffice, nT x, wT cSemi]) (fun x _ => by simp)).1
 have lk := (flat_len (l := p.kinds) (f := fun x => [wT kKind, nT x, wT cSemi]) (fun x _ => by simp)).1
 have lr := flat_len (l := p.rules) (f := tokR) (fun x _ => by simp [tokR])
 have lo' : p.offices.length ≤ (tokD kOffice p.offices).length := lo
 have lk' : p.kinds.length ≤ (tokD kKind p.kinds).length := lk
 rw [el] at hm
 have i1 : ∀ (l : List (List UInt8)) (r : List Tk), (isT kOffice r = false → isT kOffice (tokD kKind l ++ r) = false) := fun l r hr => by
  cases l with
  | nil => exact hr
  | cons x t => exact isT_other (by decide) _
 have i2 : ∀ (s : List UInt8) (l : List Rl) (r : List Tk), decide (kRule = s) = false → isT s r = false → isT s (l.flatMap tokR ++ r) = false := fun s l r hs hr => by
  cases l with
  | nil => exact hr
  | cons x t => exact isT_other hs _
 unfold polP bodyP
 rw [e, head_w h1 h2 h3, bind_ok, some_decl p.offices h4 m _ (by omega) (i1 _ _ (i2 _ _ _ (by decide) (isT_other (by decide) _))), bind_ok, some_decl p.kinds h5 m _ (by omega) (i2 _ _ _ (by decide) (isT_other (by decide) _)), bind_ok,
  some_rule p.rules h6 (fun x hx => by have := lr.2 x hx; omega) m _ (by omega) (isT_other (by decide) _), bind_ok]
 unfold wantP wantP wantP
 rw [want_wT, bind_ok, want_wT, bind_ok, bind_ok, read_expr _ h7 m _ (by omega), bind_ok, bind_ok, want_wT, bind_ok]
theorem read_whole {p : Po} (h : wrP p = true) {m : Nat} (hm : (tokP p).length ≤ m) : wholeP m (tokP p) = .ok p [] := by
 have := read_pol h hm []
 rw [List.append_nil] at this
 unfold wholeP
 rw [this, bind_ok, if_pos rfl]
end Go.Syn
end

section
namespace Go.Syn
open Go.AE Go.Lex Go.Pol
theorem bind_inv {α β : Type} {x : PR α} {f : α → List Tk → PR β} {y : β} {r : List Tk} (h : x.bind f = .ok y r) : ∃ a s, x = .ok a s ∧ f a s = .ok y r := by
 cases x with
 | ok a s => exact ⟨a, s, rfl, h⟩
 | bad s => cases h
def Valid (l : List Tk) : Prop := ∀ t ∈ l, validB t = true
theorem Nice.valid {α : Type} {P : List Tk → PR α} (h : Nice P) {l r : List Tk} {x : α} (hv : Valid l) (e : P l = .ok x r) : Valid r := by
 obtain ⟨c, hc⟩ := h.le l
 rw [e] at hc
 intro t ht
 have hc : l = c ++ r := hc
 exact hv t (by rw [hc]; exact List.mem_append_right _ ht)
theorem name_read {l r : List Tk} {s : List UInt8} (hv : Valid l) (h : nameP l = .ok s r) : nameW s = true := by
 cases l with
 | nil => cases h
 | cons t w =>
  rw [nameP_cons] at h
  by_cases q : nameOk t = true
  ·rw [if_pos q] at h
   injection h with h1 h2
   subst h1
   have v := hv t List.mem_cons_self
   unfold nameOk at q
   rw [Bool.and_eq_true] at q
   have hk : t.kind = 1 := of_decide_eq_true q.1
   unfold validB at v
   rw [if_pos hk, Bool.and_eq_true] at v
   unfold nameW
   rw [v.1, q.2]; rfl
  ·rw [if_neg q] at h; cases h
theorem num_read {l r : List Tk} {n : Int} (hv : Valid l) (h : numP l = .ok n r) : numW n = true := by
 cases l with
 | nil => cases h
 | cons t w =>
  unfold numP at h
  by_cases q : t.kind = 2
  ·simp only [q, if_true] at h
   injection h with h1 h2
   subst h1
   have v := hv t List.mem_cons_self
   unfold validB at v
   rw [if_neg (by rw [q]; decide), if_pos q] at v
   simp only [Bool.and_eq_true, decide_eq_true_eq] at v
   unfold numW
   simp only [Bool.and_eq_true, decide_eq_true_eq]
   exact ⟨v.1.2, v.2⟩
  ·simp only [q, if_false] at h; cases h
theorem some_read {α : Type} {s : List UInt8} {item : List Tk → PR α} (ni : Nice item) {Q : α → Prop} (hq : ∀ l x r, Valid l → item l = .ok x r → Q x) : ∀ (m : Nat) (l : List Tk) (t : List α) (r : List Tk), Valid l → someP s item m l = .ok t r → ∀ x ∈ t, Q x := by
 intro m
 induction m with
 | zero => intro l t r _ h; cases h
 | succ m ih =>
  intro l t r hv h
  unfold someP at h
  by_cases q : isT s l = true
  ·rw [if_pos q] at h
   obtain ⟨x, l1, e1, h⟩ := bind_inv h
   obtain ⟨w, l2, e2, h⟩ := bind_inv h
   injection h with h1 h2
   subst h1
   intro y hy
   rcases List.mem_cons.1 hy with e | e
   ·subst e; exact hq _ _ _ hv e1
   ·exact ih l1 w l2 (ni.valid hv e1) e2 y e
  ·rw [if_neg q] at h
   injection h with h1 h2
   subst h1
   intro y hy; cases hy
theorem wrL_of : ∀ {l : List Ex}, (∀ x ∈ l, wrE x = true) → wrL l = true := by
 intro l
 induction l with
 | nil => intro _; rw [wrL]
 | cons x r ih => intro h; rw [wrL, h x List.mem_cons_self, ih fun y hy => h y (List.mem_cons_of_mem _ hy)]; rfl
theorem valid_tail {l : List Tk} (h : Valid l) : Valid l.tail := fun t ht => h t (List.mem_of_mem_tail ht)
theorem expr_read : ∀ (m : Nat) (l : List Tk) (x : Ex) (r : List Tk), Valid l → exprP m l = .ok x r → wrE x = true := by
 intro m
 induction m with
 | zero => intro l x r _ h; cases h
 | succ m ih =>
  intro l x r hv h
  have hin : ∀ l x r, Valid l → inP (exprP m) l = .ok x r → wrE x = true := by
   intro l x r hv h
   unfold inP at h
   obtain ⟨_, l1, e1, h⟩ := bind_inv h
   obtain ⟨y, l2, e2, h⟩ := bind_inv h
   obtain ⟨_, l3, e3, h⟩ := bind_inv h
   injection h with h1 h2
   subst h1
   exact ih _ _ _ ((nice_want _).valid hv e1) e2
  unfold exprP at h
  split at h
  ·obtain ⟨s, l1, e1, h⟩ := bind_inv h
   injection h with h1 h2
   subst h1
   rw [wrE, if_pos rfl, name_read (valid_tail hv) e1]; rfl
  split at h
  ·obtain ⟨n, l1, e1, h⟩ := bind_inv h
   obtain ⟨_, l2, e2, h⟩ := bind_inv h
   obtain ⟨s, l3, e3, h⟩ := bind_inv h
   injection h with h1 h2
   subst h1
   have v1 := nice_num.valid (valid_tail hv) e1
   have v2 := (nice_want _).valid v1 e2
   rw [wrE, if_neg (by decide), if_pos rfl, name_read v2 e3, num_read (valid_tail hv) e1]; rfl
  split at h
  ·obtain ⟨n, l1, e1, h⟩ := bind_inv h
   obtain ⟨a, l2, e2, h⟩ := bind_inv h
   obtain ⟨_, l3, e3, h⟩ := bind_inv h
   obtain ⟨b, l4, e4, h⟩ := bind_inv h
   injection h with h1 h2
   subst h1
   have v1 := nice_num.valid (valid_tail hv) e1
   have v2 := (nice_in (nice_expr m)).valid v1 e2
   have v3 := (nice_want _).valid v2 e3
   have wa := hin _ _ _ v1 e2
   have wb := hin _ _ _ v3 e4
   rw [wrE, if_neg (by decide), if_neg (by decide), if_pos rfl, num_read (valid_tail hv) e1, wrL_of (l := [a, b]) (fun x hx => by
    simp only [List.mem_cons, List.not_mem_nil, or_false] at hx
    rcases hx with rfl | rfl
    ·exact wa
    ·exact wb)]
   rfl
  ·obtain ⟨n, l1, e1, h⟩ := bind_inv h
   obtain ⟨_, l2, e2, h⟩ := bind_inv h
   obtain ⟨a, l3, e3, h⟩ := bind_inv h
   obtain ⟨t, l4, e4, h⟩ := bind_inv h
   obtain ⟨_, l5, e5, h⟩ := bind_inv h
   injection h with h1 h2
   subst h1
   have v1 := nice_num.valid hv e1
   have v2 := (nice_wants _).valid v1 e2
   have v3 := (nice_expr m).valid v2 e3
   have wa := ih _ _ _ v2 e3
   have wt := some_read (nice_next (nice_expr m)) (Q := fun x => wrE x = true) (fun l x r hv h => by
    unfold nextP at h
    obtain ⟨_, l1, e1, h⟩ := bind_inv h
    exact ih _ _ _ ((nice_want _).valid hv e1) h) _ _ _ _ v3 e4
   rw [wrE, if_neg (by decide), if_neg (by decide), if_neg (by decide), num_read hv e1, wrL_of (l := a :: t) (fun x hx => by
    rcases List.mem_cons.1 hx with e | e
    ·rw [e]; exact wa
    ·exact wt x e)]
   rfl
theorem mode_read : ∀ (w : List (Int × List UInt8)) (n : Int) (l : List Tk) (k : Int) (r : List Tk), (∀ x ∈ w, 1 ≤ x.1 ∧ x.1 ≤ 4) → (n = 0 ∨ (1 ≤ n ∧ n ≤ 4)) → modeGo w n l = .ok k r → 1 ≤ k ∧ k ≤ 4 := by
 intro w
 induction w with
 | nil =>
  intro n l k r _ hn h
  unfold modeGo at h
  by_cases q : n = 0
  ·rw [if_pos q] at h; cases h
  ·rw [if_neg q] at h
   injection h with h1 h2
   omega
 | cons y w ih =>
  intro n l k r hw hn h
  unfold modeGo at h
  split at h
  ·exact ih _ _ _ _ (fun x hx => hw x (List.mem_cons_of_mem _ hx)) (.inr (hw y List.mem_cons_self)) h
  ·exact ih _ _ _ _ (fun x hx => hw x (List.mem_cons_of_mem _ hx)) hn h
theorem decl_read {s : List UInt8} {l : List Tk} {x : List UInt8} {r : List Tk} (hv : Valid l) (h : declP s l = .ok x r) : nameW x = true := by
 unfold declP at h
 obtain ⟨_, l1, e1, h⟩ := bind_inv h
 obtain ⟨y, l2, e2, h⟩ := bind_inv h
 obtain ⟨_, l3, e3, h⟩ := bind_inv h
 injection h with h1 h2
 subst h1
 exact name_read ((nice_want _).valid hv e1) e2
theorem rule_read {m : Nat} {l : List Tk} {x : Rl} {r : List Tk} (hv : Valid l) (h : ruleP m l = .ok x r) : wrR x = true := by
 unfold ruleP at h
 obtain ⟨_, l1, e1, h⟩ := bind_inv h
 obtain ⟨s, l2, e2, h⟩ := bind_inv h
 obtain ⟨_, l3, e3, h⟩ := bind_inv h
 obtain ⟨n, l4, e4, h⟩ := bind_inv h
 obtain ⟨_, l5, e5, h⟩ := bind_inv h
 obtain ⟨y, l6, e6, h⟩ := bind_inv h
 obtain ⟨_, l7, e7, h⟩ := bind_inv h
 injection h with h1 h2
 subst h1
 have v1 := (nice_want _).valid hv e1
 have v2 := nice_name.valid v1 e2
 have v3 := (nice_want _).valid v2 e3
 have v4 := nice_num.valid v3 e4
 have v5 := (nice_want _).valid v4 e5
 unfold wrR
 simp only [name_read v1 e2, num_read v3 e4, expr_read _ _ _ _ v5 e6]
 rfl
theorem pol_read {m : Nat} {l : List Tk} {p : Po} {r : List Tk} (hv : Valid l) (h : polP m l = .ok p r) : wrP p = true := by
 unfold polP bodyP at h
 obtain ⟨p', k0, hb, h0⟩ := bind_inv h
 clear h
 obtain ⟨_, k1, -, h0⟩ := bind_inv h0
 injection h0 with h1 h2
 subst h1
 obtain ⟨hd, l1, e1, h⟩ := bind_inv hb
 clear hb
 obtain ⟨o, l2, e2, h⟩ := bind_inv h
 obtain ⟨k, l3, e3, h⟩ := bind_inv h
 obtain ⟨w, l4, e4, h⟩ := bind_inv h
 obtain ⟨_, l5, e5, h⟩ := bind_inv h
 obtain ⟨x, l6, e6, h⟩ := bind_inv h
 injection h with h1 h2
 subst h1
 have v1 := nice_headP.valid hv e1
 have v2 := (nice_some _ (nice_decl _) m).valid v1 e2
 have v3 := (nice_some _ (nice_decl _) m).valid v2 e3
 have v4 := (nice_some _ (nice_rule m) m).valid v3 e4
 have v5 := (nice_wants _).valid v4 e5
 unfold headP at e1
 obtain ⟨_, a1, d1, e1⟩ := bind_inv e1
 obtain ⟨s, a2, d2, e1⟩ := bind_inv e1
 obtain ⟨_, a3, d3, e1⟩ := bind_inv e1
 obtain ⟨n, a4, d4, e1⟩ := bind_inv e1
 obtain ⟨_, a5, d5, e1⟩ := bind_inv e1
 injection e1 with h1 h2
 subst h1
 have u1 := (nice_want _).valid hv d1
 obtain ⟨m1, m2⟩ := mode_read _ _ _ _ _ (fun x hx => by
  simp only [modeW, List.mem_cons, List.not_mem_nil, or_false] at hx
  rcases hx with rfl | rfl | rfl | rfl <;> exact ⟨by decide, by decide⟩) (.inl rfl) d4
 unfold wrP
 simp only [name_read u1 d2, expr_read _ _ _ _ v5 e6, Bool.and_true, Bool.true_and, Bool.and_eq_true, decide_eq_true_eq, List.all_eq_true]
 exact ⟨⟨m1, m2⟩, some_read (nice_decl _) (Q := fun x => nameW x = true) (fun l x r hv h => decl_read hv h) _ _ _ _ v1 e2, some_read (nice_decl _) (Q := fun x => nameW x = true) (fun l x r hv h => decl_read hv h) _ _ _ _ v2 e3, some_read (nice_rule m) (Q := fun x => wrR x = true) (fun l x r hv h => rule_read hv h) _ _ _ _ v3 e4⟩
theorem whole_inv {m : Nat} {l : List Tk} {p : Po} {r : List Tk} (h : wholeP m l = .ok p r) : r = [] ∧ polP m l = .ok p [] := by
 unfold wholeP at h
 obtain ⟨q, s, e, h⟩ := bind_inv h
 by_cases w : s = []
 ·rw [if_pos w] at h
  injection h with h1 h2
  subst h1; subst h2; subst w
  exact ⟨rfl, e⟩
 ·rw [if_neg w] at h; cases h
theorem whole_read {m : Nat} {l : List Tk} {p : Po} {r : List Tk} (hv : Valid l) (h : wholeP m l = .ok p r) : wrP p = true := pol_read hv (whole_inv h).2
theorem sameB_len : ∀ {l m : List Tk}, sameB l m = true → l.length = m.length := by
 intro l
 induction l with
 | nil => intro m h; rw [sameB_nil h]
 | cons t r ih => intro m h; obtain ⟨u, s, rfl, -, h2⟩ := sameB_step h; rw [List.length_cons, List.length_cons, ih h2]
theorem whole_same (f : Nat) {l m : List Tk} (h : sameB l m = true) : (wholeP f l).like (wholeP f m) := by
 have h1 := (nice_pol f).same l m h
 unfold wholeP
 cases e : polP f l with
 | ok p r =>
  cases e2 : polP f m with
  | ok q s =>
   rw [e, e2] at h1
   obtain ⟨rfl, h3⟩ := h1
   rw [bind_ok, bind_ok]
   have : r = [] ↔ s = [] := by
    have := sameB_len h3
    rw [← List.length_eq_zero_iff, ← List.length_eq_zero_iff, this]
   by_cases q : r = []
   ·rw [if_pos q, if_pos (this.1 q)]; exact ⟨rfl, h3⟩
   ·rw [if_neg q, if_neg (fun w => q (this.2 w))]; exact h3
  | bad s => rw [e, e2] at h1; exact h1.elim
 | bad r =>
  cases e2 : polP f m with
  | ok q s => rw [e, e2] at h1; exact h1.elim
  | bad s => rw [e, e2] at h1; exact h1
theorem nice_whole_bad {f : Nat} {p u v s : List Tk} (hs : s ≠ []) (h : wholeP f (p ++ u) = .bad (s ++ u)) : ∃ r, wholeP f (p ++ v) = .bad r := by
 unfold wholeP at h ⊢
 cases e : polP f (p ++ u) with
 | bad r =>
  rw [e] at h
  injection h with h
  have := (nice_pol f).det p u v s hs (by rw [e]; exact h)
  rw [e] at this
  rw [this]
  exact ⟨_, rfl⟩
 | ok x r =>
  rw [e, bind_ok] at h
  by_cases q : r = []
  ·rw [if_pos q] at h; cases h
  ·rw [if_neg q] at h
   injection h with h
   have := (nice_pol f).det p u v s hs (by rw [e]; exact h)
   rw [e] at this
   rw [this]
   refine ⟨s ++ v, ?_⟩
   show (PR.ok x (s ++ v)).bind _ = _
   rw [bind_ok, if_neg (by simp [hs])]
theorem whole_change {f : Nat} {p u v : List Tk} {x : Po} {r : List Tk} (h : wholeP f (p ++ u) = .ok x []) (h2 : wholeP f (p ++ v) = .bad r) : ∃ c, v = c ++ r := by
 obtain ⟨c, hc⟩ : ∃ c, p ++ v = c ++ r := by
  unfold wholeP at h2
  obtain ⟨c, hc⟩ := (nice_pol f).le (p ++ v)
  cases e : polP f (p ++ v) with
  | bad s => rw [e] at h2 hc; injection h2 with h2; subst h2; exact ⟨c, hc⟩
  | ok y s =>
   rw [e, bind_ok] at h2
   rw [e] at hc
   by_cases q : s = []
   ·rw [if_pos q] at h2; cases h2
   ·rw [if_neg q] at h2; injection h2 with h2; subst h2; exact ⟨c, hc⟩
 rcases List.append_eq_append_iff.1 hc with ⟨a, h3, h4⟩ | ⟨a, h3, h4⟩
 ·exact ⟨a, h4⟩
 ·by_cases q : a = []
  ·subst q; exact ⟨[], h4.symm⟩
  ·exfalso
   rw [h4] at h2
   obtain ⟨s, hs⟩ := nice_whole_bad (f := f) (p := p) (u := v) (v := u) q h2
   rw [h] at hs; cases hs
end Go.Syn
end

section
namespace Go.Syn
open Go.AE Go.Lex Go.Pol
theorem valid_cons {t : Tk} {l : List Tk} (h1 : validB t = true) (h2 : Valid l) : Valid (t :: l) := fun u hu => by
 rcases List.mem_cons.1 hu with e | e
 ·rw [e]; exact h1
 ·exact h2 u e
theorem valid_app {a b : List Tk} (h1 : Valid a) (h2 : Valid b) : Valid (a ++ b) := fun u hu => by
 rcases List.mem_append.1 hu with e | e
 ·exact h1 u e
 ·exact h2 u e
theorem valid_nil : Valid [] := fun u hu => (nomatch hu)
theorem valid_nT {s : List UInt8} (h : nameW s = true) : validB (nT s) = true := by
 unfold nameW at h
 rw [Bool.and_eq_true] at h
 unfold validB nT
 rw [if_pos rfl, h.1]; rfl
theorem valid_dT {n : Int} (h : numW n = true) : validB (dT n) = true := by
 unfold numW at h
 unfold validB dT
 rw [if_neg (show ¬ (2 : Int) = 1 by decide), if_pos rfl]
 simpa [Bool.and_assoc] using h
theorem fixed_valid : validB (wT kPolicy) = true ∧ validB (wT kMode) = true ∧ validB (wT kOffice) = true ∧ validB (wT kKind) = true ∧ validB (wT kRule) = true ∧ validB (wT kThink) = true ∧ validB (wT kChange) = true ∧ validB (wT kSome) = true ∧ validB (wT kWeight) = true ∧ validB (wT kOf) = true ∧ validB (wT kUpto) = true ∧ validB (wT kElse) = true ∧
 validB (wT cSemi) = true ∧ validB (wT cEq) = true ∧ validB (wT cOpen) = true ∧ validB (wT cClose) = true ∧ validB (wT cComma) = true := by decide
theorem mode_valid {n : Int} (h1 : 1 ≤ n) (h2 : n ≤ 4) : validB (nT (modeS n)) = true := by
 have : n = 1 ∨ n = 2 ∨ n = 3 ∨ n = 4 := by omega
 rcases this with rfl | rfl | rfl | rfl <;> decide
theorem expr_valid : ∀ x, wrE x = true → Valid (tokE x) := by
 obtain ⟨f1, f2, f3, f4, f5, f6, f7, f8, f9, f10, f11, f12, g1, g2, g3, g4, g5⟩ := fixed_valid
 intro x
 induction x using Ex.ind with
 | h k n no s l ih =>
  intro h
  have hC : ∀ (l' : List Ex) (b : Bool), (∀ y ∈ l', y ∈ l) → wrL l' = true → Valid (tokC b l') := by
   intro l'
   induction l' with
   | nil => intro b _ _; rw [tokC]; exact valid_nil
   | cons y r ihr =>
    intro b hm hw
    rw [wrL, Bool.and_eq_true] at hw
    rw [tokC]
    refine valid_app ?_ (valid_app (ih y (hm y List.mem_cons_self) hw.1) (ihr false (fun z hz => hm z (List.mem_cons_of_mem _ hz)) hw.2))
    cases b
    ·exact valid_cons g5 valid_nil
    ·exact valid_nil
  have hU : ∀ (l' : List Ex) (b : Bool), (∀ y ∈ l', y ∈ l) → wrL l' = true → Valid (tokU b l') := by
   intro l'
   induction l' with
   | nil => intro b _ _; rw [tokU]; exact valid_nil
   | cons y r ihr =>
    intro b hm hw
    rw [wrL, Bool.and_eq_true] at hw
    rw [tokU]
    refine valid_app ?_ (valid_cons g3 (valid_app (ih y (hm y List.mem_cons_self) hw.1) (valid_cons g4 (ihr false (fun z hz => hm z (List.mem_cons_of_mem _ hz)) hw.2))))
    cases b
    ·exact valid_cons f12 valid_nil
    ·exact valid_nil
  rw [wrE] at h
  rw [tokE]
  by_cases h1 : k = 1
  ·rw [if_pos h1] at h ⊢
   simp only [Bool.and_eq_true] at h
   exact valid_cons f8 (valid_cons (valid_nT h.2.2.1) valid_nil)
  rw [if_neg h1] at h ⊢
  by_cases h2 : k = 2
  ·rw [if_pos h2] at h ⊢
   simp only [Bool.and_eq_true] at h
   exact valid_cons f9 (valid_cons (valid_dT h.1) (valid_cons f10 (valid_cons (valid_nT h.2.2.1) valid_nil)))
  rw [if_neg h2] at h ⊢
  by_cases h4 : k = 4
  ·rw [if_pos h4] at h ⊢
   simp only [Bool.and_eq_true] at h
   exact valid_cons f11 (valid_cons (valid_dT h.1) (hU l true (fun _ h => h) h.2.2.2.2))
  ·rw [if_neg h4] at h ⊢
   simp only [Bool.and_eq_true] at h
   exact valid_cons (valid_dT h.2.1) (valid_cons f10 (valid_cons g3 (valid_app (hC l true (fun _ h => h) h.2.2.2.2.2) (valid_cons g4 valid_nil))))
theorem pol_valid {p : Po} (h : wrP p = true) : Valid (tokP p) := by
 obtain ⟨f1, f2, f3, f4, f5, f6, f7, f8, f9, f10, f11, f12, g1, g2, g3, g4, g5⟩ := fixed_valid
 unfold wrP at h
 simp only [Bool.and_eq_true, decide_eq_true_eq, List.all_eq_true] at h
 obtain ⟨⟨h1, h2⟩, h3, h4, h5, h6, h7⟩ := h
 have hD : ∀ s, validB (wT s) = true → ∀ l : List (List UInt8), (∀ x ∈ l, nameW x = true) → Valid (tokD s l) := fun s hs l hl u hu => by
  obtain ⟨x, hx, hu⟩ := List.mem_flatMap.1 hu
  exact valid_cons hs (valid_cons (valid_nT (hl x hx)) (valid_cons g1 valid_nil)) u hu
 refine valid_app ?_ (valid_app (hD _ f3 _ h4) (valid_app (hD _ f4 _ h5) (valid_app (fun u hu => ?_) (valid_app (valid_cons f7 (valid_cons g2 valid_nil)) (valid_app (expr_valid _ h7) (valid_cons g1 valid_nil))))))
 ·exact valid_cons f1 (valid_cons (valid_nT h3) (valid_cons g1 (valid_cons f2 (valid_cons (mode_valid h1 h2) (valid_cons g1 valid_nil)))))
 ·obtain ⟨x, hx, hu⟩ := List.mem_flatMap.1 hu
  have w := h6 x hx
  unfold wrR at w
  simp only [Bool.and_eq_true, decide_eq_true_eq] at w
  exact valid_app (valid_cons f5 (valid_cons (valid_nT w.1) (valid_cons f6 (valid_cons (valid_dT w.2.2.1) (valid_cons g2 valid_nil))))) (valid_app (expr_valid _ w.2.2.2) (valid_cons g1 valid_nil)) u hu
end Go.Syn
end

section
namespace Go.Syn
open Go.AE Go.Lex Go.Pol
theorem tail_app2 (a b : List (List UInt8)) : Lib.joinTail [32] (a ++ b) = Lib.joinTail [32] a ++ Lib.joinTail [32] b := by simp [Lib.joinTail]
theorem joinS_cons (t : Tk) (r : List Tk) : joinS (t :: r) = textOf t ++ Lib.joinTail [32] (r.map textOf) := by simp only [joinS, List.map_cons, Lib.join_cons]
theorem joinTail_eq {l : List Tk} (h : l ≠ []) : Lib.joinTail [32] (l.map textOf) = 32 :: joinS l := by
 cases l with
 | nil => exact absurd rfl h
 | cons t r => rw [joinS_cons]; simp [Lib.joinTail]
theorem joinS_app {a b : List Tk} (ha : a ≠ []) (hb : b ≠ []) : joinS (a ++ b) = joinS a ++ 32 :: joinS b := by
 cases a with
 | nil => exact absurd rfl ha
 | cons t r => rw [List.cons_append, joinS_cons, List.map_append, tail_app2, joinTail_eq hb, joinS_cons, List.append_assoc]
theorem name_len {l r : List Tk} {s : List UInt8} (h : nameP l = .ok s r) : r.length + 1 = l.length := by
 cases l with
 | nil => cases h
 | cons t w =>
  rw [nameP_cons] at h
  split at h
  ·injection h with h1 h2; subst h2; rfl
  ·cases h
theorem num_len {l r : List Tk} {n : Int} (h : numP l = .ok n r) : r.length + 1 = l.length := by
 cases l with
 | nil => cases h
 | cons t w =>
  unfold numP at h
  by_cases q : t.kind = 2
  ·simp only [q, if_true] at h; injection h with h1 h2; subst h2; rfl
  ·simp only [q, if_false] at h; cases h
theorem tail_len {s : List UInt8} {l : List Tk} (h : isT s l = true) : l.tail.length + 1 = l.length := by
 cases l with
 | nil => cases h
 | cons t w => rfl
theorem want_len {s : List UInt8} {l r : List Tk} {x : Unit} (h : wantT s l = .ok x r) : r.length + 1 = l.length := by
 unfold wantT at h
 by_cases q : isT s l = true
 ·rw [if_pos q] at h; injection h with h1 h2; subst h2; exact tail_len q
 ·rw [if_neg q] at h; cases h
end Go.Syn
end

section
namespace Go.Syn
open Go.AE Go.Lex Go.Pol
theorem some_len {α : Type} {s : List UInt8} {item : List Tk → PR α} {w : α → Nat} (hq : ∀ l x r, item l = .ok x r → w x + r.length ≤ l.length) : ∀ (m : Nat) (l : List Tk) (t : List α) (r : List Tk), someP s item m l = .ok t r → (t.map w).sum + r.length ≤ l.length := by
 intro m
 induction m with
 | zero => intro l t r h; cases h
 | succ m ih =>
  intro l t r h
  unfold someP at h
  by_cases q : isT s l = true
  ·rw [if_pos q] at h
   obtain ⟨x, l1, e1, h⟩ := bind_inv h
   obtain ⟨v, l2, e2, h⟩ := bind_inv h
   injection h with h1 h2
   subst h1; subst h2
   have := hq _ _ _ e1
   have := ih _ _ _ e2
   rw [List.map_cons, List.sum_cons]
   omega
  ·rw [if_neg q] at h
   injection h with h1 h2
   subst h1; subst h2
   simp
theorem tokC_sum : ∀ l : List Ex, (tokC false l).length = (l.map fun x => (tokE x).length + 1).sum := by
 intro l
 induction l with
 | nil => rw [tokC]; rfl
 | cons x r ih => rw [tokC, List.map_cons, List.sum_cons, ← ih]; simp; omega
theorem expr_len : ∀ (m : Nat) (l : List Tk) (x : Ex) (r : List Tk), exprP m l = .ok x r → (tokE x).length + r.length ≤ l.length := by
 intro m
 induction m with
 | zero => intro l x r h; cases h
 | succ m ih =>
  intro l x r h
  have hin : ∀ l x r, inP (exprP m) l = .ok x r → (tokE x).length + 2 + r.length ≤ l.length := by
   intro l x r h
   unfold inP at h
   obtain ⟨_, l1, e1, h⟩ := bind_inv h
   obtain ⟨y, l2, e2, h⟩ := bind_inv h
   obtain ⟨_, l3, e3, h⟩ := bind_inv h
   injection h with h1 h2
   subst h1; subst h2
   have := ih _ _ _ e2
   have := want_len e1
   have := want_len e3
   omega
  unfold exprP at h
  split at h
  ·rename_i q
   obtain ⟨s, l1, e1, h⟩ := bind_inv h
   injection h with h1 h2
   subst h1; subst h2
   have := name_len e1
   have := tail_len q
   rw [tokE, if_pos rfl]
   simp; omega
  split at h
  ·rename_i q
   obtain ⟨n, l1, e1, h⟩ := bind_inv h
   obtain ⟨_, l2, e2, h⟩ := bind_inv h
   obtain ⟨s, l3, e3, h⟩ := bind_inv h
   injection h with h1 h2
   subst h1; subst h2
   have := num_len e1
   have := want_len e2
   have := name_len e3
   have := tail_len q
   rw [tokE, if_neg (by decide), if_pos rfl]
   simp; omega
  split at h
  ·rename_i q
   obtain ⟨n, l1, e1, h⟩ := bind_inv h
   obtain ⟨a, l2, e2, h⟩ := bind_inv h
   obtain ⟨_, l3, e3, h⟩ := bind_inv h
   obtain ⟨b, l4, e4, h⟩ := bind_inv h
   injection h with h1 h2
   subst h1; subst h2
   have := num_len e1
   have := hin _ _ _ e2
   have := want_len e3
   have := hin _ _ _ e4
   have := tail_len q
   rw [tokE, if_neg (by decide), if_neg (by decide), if_pos rfl]
   simp [tokU]; omega
  ·obtain ⟨n, l1, e1, h⟩ := bind_inv h
   obtain ⟨_, l2, e2, h⟩ := bind_inv h
   obtain ⟨a, l3, e3, h⟩ := bind_inv h
   obtain ⟨t, l4, e4, h⟩ := bind_inv h
   obtain ⟨_, l5, e5, h⟩ := bind_inv h
   injection h with h1 h2
   subst h1; subst h2
   have := num_len e1
   unfold wantP wantP wantP at e2
   obtain ⟨_, k1, d1, e2⟩ := bind_inv e2
   obtain ⟨_, k2, d2, e2⟩ := bind_inv e2
   injection e2 with _ e2
   subst e2
   have := want_len d1
   have := want_len d2
   have := ih _ _ _ e3
   have ts := some_len (w := fun x => (tokE x).length + 1) (fun l x r h => by
    unfold nextP at h
    obtain ⟨_, l1, e1, h⟩ := bind_inv h
    have := want_len e1
    have := ih _ _ _ h
    omega) _ _ _ _ e4
   have := want_len e5
   rw [← tokC_sum] at ts
   rw [tokE, if_neg (by decide), if_neg (by decide), if_neg (by decide), tokC]
   simp; omega
theorem mode_len : ∀ (w : List (Int × List UInt8)) (n : Int) (l : List Tk) (k : Int) (r : List Tk), modeGo w n l = .ok k r → r.length + (if n = 0 then 1 else 0) ≤ l.length := by
 intro w
 induction w with
 | nil =>
  intro n l k r h
  unfold modeGo at h
  by_cases q : n = 0
  ·rw [if_pos q] at h; cases h
  ·rw [if_neg q] at h; injection h with h1 h2; subst h2; rw [if_neg q]; omega
 | cons y w ih =>
  intro n l k r h
  unfold modeGo at h
  by_cases q : isT y.2 l = true
  ·rw [if_pos q] at h
   have := ih _ _ _ _ h
   have := tail_len q
   split <;> split at * <;> omega
  ·rw [if_neg q] at h; exact ih _ _ _ _ h
theorem decl_len {s : List UInt8} {l : List Tk} {x : List UInt8} {r : List Tk} (h : declP s l = .ok x r) : 3 + r.length ≤ l.length := by
 unfold declP at h
 obtain ⟨_, l1, e1, h⟩ := bind_inv h
 obtain ⟨y, l2, e2, h⟩ := bind_inv h
 obtain ⟨_, l3, e3, h⟩ := bind_inv h
 injection h with h1 h2
 subst h2
 have := want_len e1
 have := name_len e2
 have := want_len e3
 omega
theorem rule_len {m : Nat} {l : List Tk} {x : Rl} {r : List Tk} (h : ruleP m l = .ok x r) : (tokR x).length + r.length ≤ l.length := by
 unfold ruleP at h
 obtain ⟨_, l1, e1, h⟩ := bind_inv h
 obtain ⟨s, l2, e2, h⟩ := bind_inv h
 obtain ⟨_, l3, e3, h⟩ := bind_inv h
 obtain ⟨n, l4, e4, h⟩ := bind_inv h
 obtain ⟨_, l5, e5, h⟩ := bind_inv h
 obtain ⟨y, l6, e6, h⟩ := bind_inv h
 obtain ⟨_, l7, e7, h⟩ := bind_inv h
 injection h with h1 h2
 subst h1; subst h2
 have := want_len e1
 have := name_len e2
 have := want_len e3
 have := num_len e4
 have := want_len e5
 have := expr_len _ _ _ _ e6
 have := want_len e7
 simp [tokR]; omega
theorem flat_sum {α : Type} (f : α → List Tk) (l : List α) : (l.flatMap f).length = (l.map fun x => (f x).length).sum := by
 induction l with
 | nil => rfl
 | cons x r ih => rw [List.flatMap_cons, List.length_append, ih, List.map_cons, List.sum_cons]
theorem pol_len {m : Nat} {l : List Tk} {p : Po} {r : List Tk} (h : polP m l = .ok p r) : (tokP p).length + r.length ≤ l.length := by
 unfold polP bodyP at h
 obtain ⟨p', k0, hb, h0⟩ := bind_inv h
 clear h
 obtain ⟨_, k1, e0, h0⟩ := bind_inv h0
 injection h0 with h1 h2
 subst h1; subst h2
 obtain ⟨hd, l1, e1, h⟩ := bind_inv hb
 clear hb
 obtain ⟨o, l2, e2, h⟩ := bind_inv h
 obtain ⟨k, l3, e3, h⟩ := bind_inv h
 obtain ⟨w, l4, e4, h⟩ := bind_inv h
 obtain ⟨_, l5, e5, h⟩ := bind_inv h
 obtain ⟨x, l6, e6, h⟩ := bind_inv h
 injection h with h1 h2
 subst h1; subst h2
 unfold headP at e1
 obtain ⟨_, a1, d1, e1⟩ := bind_inv e1
 obtain ⟨s, a2, d2, e1⟩ := bind_inv e1
 obtain ⟨_, a3, d3, e1⟩ := bind_inv e1
 obtain ⟨n, a4, d4, e1⟩ := bind_inv e1
 obtain ⟨_, a5, d5, e1⟩ := bind_inv e1
 injection e1 with h1 h2
 subst h1; subst h2
 unfold wantP wantP wantP at d3 e5
 obtain ⟨_, b1, c1, d3⟩ := bind_inv d3
 obtain ⟨_, b2, c2, d3⟩ := bind_inv d3
 injection d3 with _ d3
 subst d3
 obtain ⟨_, b3, c3, e5⟩ := bind_inv e5
 obtain ⟨_, b4, c4, e5⟩ := bind_inv e5
 injection e5 with _ e5
 subst e5
 have t1 := want_len d1
 have t2 := name_len d2
 have t3 := want_len c1
 have t4 := want_len c2
 have t5 := mode_len _ _ _ _ _ d4
 rw [if_pos rfl] at t5
 have t6 := want_len d5
 have t7 := some_len (w := fun _ => 3) (fun l x r h => decl_len h) _ _ _ _ e2
 have t8 := some_len (w := fun _ => 3) (fun l x r h => decl_len h) _ _ _ _ e3
 have t9 := some_len (w := fun x => (tokR x).length) (fun l x r h => rule_len h) _ _ _ _ e4
 have t10 := want_len c3
 have t11 := want_len c4
 have t12 := expr_len _ _ _ _ e6
 have t13 := want_len e0
 have u1 : (tokD kOffice o).length = (o.map fun _ => 3).sum := flat_sum _ _
 have u2 : (tokD kKind k).length = (k.map fun _ => 3).sum := flat_sum _ _
 have u3 := flat_sum tokR w
 simp only [tokP, List.length_append, List.length_cons, List.length_nil]
 omega
end Go.Syn
end

section
namespace Go.Syn
open Go.AE Go.Lex Go.Pol
theorem tail_cons (t : Tk) (r : List Tk) : Lib.joinTail [32] ((t :: r).map textOf) = 32 :: (textOf t ++ Lib.joinTail [32] (r.map textOf)) := by simp [Lib.joinTail]
theorem tail_white (r : List Tk) : Lib.joinTail [32] (r.map textOf) = [] ∨ ∃ b y, Lib.joinTail [32] (r.map textOf) = b :: y ∧ white b = true := by
 cases r with
 | nil => left; simp [Lib.joinTail]
 | cons u r => right; exact ⟨32, textOf u ++ Lib.joinTail [32] (r.map textOf), by simp [Lib.joinTail], by decide⟩
theorem pos_tail : ∀ (r : List Tk), Valid r → ∀ k : Nat, ∃ m, lexR (Lib.joinTail [32] (r.map textOf)) k = .ok m ∧ sameB r m = true ∧ ∀ (i : Nat) (t : Tk), m[i]? = some t → ((k + (Lib.joinTail [32] ((r.take i).map textOf)).length : Nat) : Int) < t.at_ ∧ t.at_ ≤ ((k + (Lib.joinTail [32] (r.map textOf)).length : Nat) : Int) := by
 intro r
 induction r with
 | nil => intro _ k; exact ⟨[], by simp [Lib.joinTail, lexR_nil], rfl, fun i t h => by simp at h⟩
 | cons t r ih =>
  intro hv k
  obtain ⟨m, h1, h2, h3⟩ := ih (fun u hu => hv u (List.mem_cons_of_mem _ hu)) (k + 1 + (textOf t).length)
  refine ⟨⟨t.kind, t.text, t.n, ((k + 1 : Nat) : Int)⟩ :: m, ?_, ?_, ?_⟩
  ·rw [tail_cons, lex_white (by decide), lex_token (hv t List.mem_cons_self) (tail_white r)]
   exact lex_ok_of h1 _ _
  ·rw [sameB_cons, sameT_core, h2]; rfl
  ·intro i u hu
   rw [tail_cons]
   cases i with
   | zero =>
    simp only [List.getElem?_cons_zero, Option.some.injEq] at hu
    subst hu
    simp only [List.take_zero, List.map_nil, List.length_cons]
    have : (Lib.joinTail [32] []).length = 0 := by simp [Lib.joinTail]
    rw [this]
    omega
   | succ i =>
    rw [List.getElem?_cons_succ] at hu
    have := h3 i u hu
    rw [List.take_succ_cons, tail_cons]
    simp only [List.length_cons, List.length_append]
    omega
theorem lex_pos {l : List Tk} (hv : Valid l) : ∃ m, lexR (joinS l) 0 = .ok m ∧ sameB l m = true ∧ ∀ (i : Nat) (t : Tk), m[i]? = some t → ((joinS (l.take i)).length : Int) ≤ t.at_ ∧ t.at_ ≤ ((joinS l).length : Int) := by
 cases l with
 | nil => exact ⟨[], by simp [joinS, Lib.join, lexR_nil], rfl, fun i t h => by simp at h⟩
 | cons t r =>
  obtain ⟨m, h1, h2, h3⟩ := pos_tail r (fun u hu => hv u (List.mem_cons_of_mem _ hu)) (0 + (textOf t).length)
  refine ⟨⟨t.kind, t.text, t.n, ((0 : Nat) : Int)⟩ :: m, ?_, ?_, ?_⟩
  ·rw [joinS_cons, lex_token (hv t List.mem_cons_self) (tail_white r)]
   exact lex_ok_of h1 _ _
  ·rw [sameB_cons, sameT_core, h2]; rfl
  ·intro i u hu
   rw [joinS_cons]
   cases i with
   | zero =>
    simp only [List.getElem?_cons_zero, Option.some.injEq] at hu
    subst hu
    have : (joinS (List.take 0 (t :: r))).length = 0 := rfl
    rw [this]
    simp only [List.length_append]
    omega
   | succ i =>
    rw [List.getElem?_cons_succ] at hu
    have := h3 i u hu
    rw [List.take_succ_cons, joinS_cons]
    simp only [List.length_append]
    omega
theorem joinS_pre (a b : List Tk) : ∃ y, joinS (a ++ b) = joinS a ++ y := by
 by_cases ha : a = []
 ·subst ha; exact ⟨joinS b, rfl⟩
 ·by_cases hb : b = []
  ·subst hb; exact ⟨[], by simp⟩
  ·exact ⟨_, joinS_app ha hb⟩
theorem joinS_mono (l : List Tk) {i j : Nat} (h : i ≤ j) : (joinS (l.take i)).length ≤ (joinS (l.take j)).length := by
 have e : l.take j = l.take i ++ (l.drop i).take (j - i) := by
  rw [← List.take_add, Nat.add_sub_cancel' h]
 rw [e]
 obtain ⟨y, hy⟩ := joinS_pre (l.take i) ((l.drop i).take (j - i))
 rw [hy, List.length_append]
 omega
theorem joinS_le (l : List Tk) (i : Nat) : (joinS (l.take i)).length ≤ (joinS l).length := by
 obtain ⟨y, hy⟩ := joinS_pre (l.take i) (l.drop i)
 rw [List.take_append_drop] at hy
 rw [hy, List.length_append]
 omega
def failAt (end_ : Int) : List Tk → Int
 | [] => end_
 | t :: _ => t.at_
theorem whole_le (f : Nat) (l : List Tk) : ∃ c, l = c ++ (wholeP f l).left := by
 obtain ⟨c, hc⟩ := (nice_pol f).le l
 unfold wholeP
 cases e : polP f l with
 | bad r => rw [e] at hc; exact ⟨c, hc⟩
 | ok p r =>
  rw [e] at hc
  rw [bind_ok]
  split <;> exact ⟨c, hc⟩
theorem change_law {f : Nat} {l : List Tk} {x : Po} {o : Tk} {i : Nat} (h : wholeP f l = .ok x []) (hi : i < l.length) (hv : Valid (l.set i o)) : ∃ k, lexR (joinS (l.set i o)) 0 = .ok k ∧ k.length = l.length ∧
 ∀ r, wholeP f k = .bad r → ((joinS ((l.set i o).take i)).length : Int) ≤ failAt ((joinS (l.set i o)).length : Int) r ∧ failAt ((joinS (l.set i o)).length : Int) r ≤ ((joinS (l.set i o)).length : Int) := by
 obtain ⟨k, h1, h2, h3⟩ := lex_pos hv
 have hlen : k.length = l.length := by rw [← sameB_len h2, List.length_set]
 refine ⟨k, h1, hlen, fun r hr => ?_⟩
 have hs := whole_same f h2
 rw [hr] at hs
 cases e : wholeP f (l.set i o) with
 | ok y s => rw [e] at hs; exact hs.elim
 | bad s =>
  rw [e] at hs
  have hrs : s.length = r.length := sameB_len hs
  have e1 : l = l.take i ++ l[i] :: l.drop (i + 1) := by rw [← List.drop_eq_getElem_cons hi, List.take_append_drop]
  have e2 : l.set i o = l.take i ++ o :: l.drop (i + 1) := by rw [List.set_eq_take_append_cons_drop, if_pos hi]
  rw [e1] at h
  rw [e2] at e
  obtain ⟨c, hc⟩ := whole_change h e
  obtain ⟨d, hd⟩ := whole_le f k
  rw [hr] at hd
  have hd : k = d ++ r := hd
  have hcl := congrArg List.length hc
  simp only [List.length_cons, List.length_append, List.length_drop] at hcl
  have hdl := congrArg List.length hd
  rw [List.length_append] at hdl
  cases r with
  | nil => exact ⟨by have := joinS_le (l.set i o) i; show ((joinS ((l.set i o).take i)).length : Int) ≤ ((joinS (l.set i o)).length : Int); omega, Int.le_refl _⟩
  | cons t w =>
   have ht : k[d.length]? = some t := by rw [hd, List.getElem?_append_right (Nat.le_refl _), Nat.sub_self]; rfl
   obtain ⟨a, b⟩ := h3 _ _ ht
   rw [List.length_cons] at hrs hdl
   have := joinS_mono (l.set i o) (i := i) (j := d.length) (by omega)
   exact ⟨by show ((joinS ((l.set i o).take i)).length : Int) ≤ t.at_; omega, b⟩
end Go.Syn
end
