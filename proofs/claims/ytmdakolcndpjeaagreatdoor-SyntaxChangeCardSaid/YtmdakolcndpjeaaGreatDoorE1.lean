/-
 The engine, part 1: an evaluator of the model's Code over values in which a slice is a list. No claim is made here; part 2 and on show that what it gives the machine does.
-/
import Derived.AtR
import Derived.Recover
import Derived.Below
import Derived.Orders
import Derived.Laws.AppendOwn
import Derived.Laws.Cells
import Derived.Laws.Entries
import Derived.Laws.MakeOwn
import Derived.Laws.Strings
import Derived.Laws.Append
set_option linter.unusedSimpArgs false
set_option linter.unusedVariables false
set_option linter.constructorNameAsVariable false
section
namespace Go.AE

inductive Tok where
 | nil | tight | free (n : Nat) | held
 deriving DecidableEq, Inhabited

inductive Ref where
 | box (b : Nat) | glob (g : Nat)
 deriving DecidableEq, Inhabited

inductive AV where
 | bad
 | v (x : Value)
 | list (k : Tok) (sz : Nat) (es : List (List AV))
 | arr (b off len cap : Nat)
 | agg (cs : List AV)
 | tuple (vs : List AV)
 | ptr (r : Ref) (off : Nat)
 | elem (sz : Nat) (es : List (List AV)) (i off : Nat)
 | func (fn : Fn) (first cap : List AV)
 | yield (l : Nat)
 | iface (t : TypeId) (x : AV)
 deriving Inhabited

def pureRun {α : Type} (P : Program) : Sem α → Option α
 | .pure a => some a
 | .program k => pureRun P (k P)
 | .mark _ k => pureRun P k
 | _ => none

def scalar : Value → Bool
 | .bool _ | .int .. | .float .. | .complex .. | .string _ | .nilFunc | .nilIface | .pointer none | .map none | .chan none => true
 | _ => false

def scalarV (z : Value) : Option AV := if scalar z then some (.v z) else none

def AV.isCell : AV → Bool
 | .agg _ | .tuple _ | .bad => false
 | _ => true

def AV.cellsO : AV → Option (List AV)
 | .agg cs => if cs.all AV.isCell then some cs else none
 | .tuple _ | .bad => none
 | x => some [x]

def ofCell (x : Value) : AV :=
 match x with
 | .slice none 0 0 => .list .nil 0 []
 | x => if scalar x then .v x else .bad

def ofVal : Value → AV
 | .agg cs => .agg (cs.toList.map ofCell)
 | .tuple vs => if vs.size = 0 then .tuple [] else .bad
 | .iface t x => .iface t (ofCell x)
 | x => ofCell x

def flatCells : List AV → Option (List Value)
 | [] => some []
 | .v x :: r => (flatCells r).map (x :: ·)
 | _ => none

def AV.flat : AV → Option Value
 | .v x => some x
 | .agg cs => (flatCells cs).map fun l => .agg l.toArray
 | .iface t (.v x) => some (.iface t x)
 | .iface t (.agg cs) => (flatCells cs).map fun l => .iface t (.agg l.toArray)
 | .list .nil _ [] => some (.slice none 0 0)
 | _ => none

def flatAll : List AV → Option (List Value)
 | [] => some []
 | x :: r => match x.flat, flatAll r with | some v, some l => some (v :: l) | _, _ => none

def sameV : Value → Value → Bool
 | .int k n, .int k' n' => decide (k = k') && decide (n = n')
 | .bool a, .bool b => a == b
 | .string p, .string q => p.data.toList == q.data.toList
 | .nilFunc, .nilFunc | .nilIface, .nilIface | .pointer none, .pointer none => true
 | _, _ => false

def sameRef : Ref → Ref → Bool
 | .box a, .box b | .glob a, .glob b => Nat.beq a b
 | _, _ => false

def sameTok : Tok → Tok → Bool
 | .nil, .nil | .tight, .tight | .held, .held => true
 | .free a, .free b => Nat.beq a b
 | _, _ => false

mutual
def sameAV : AV → AV → Bool
 | .v x, .v y => sameV x y
 | .list k sz es, .list k' sz' es' => sameTok k k' && Nat.beq sz sz' && sameRows es es'
 | .arr b o l c, .arr b' o' l' c' => Nat.beq b b' && Nat.beq o o' && Nat.beq l l' && Nat.beq c c'
 | .agg cs, .agg ds => sameL cs ds
 | .tuple cs, .tuple ds => sameL cs ds
 | .ptr r o, .ptr r' o' => sameRef r r' && Nat.beq o o'
 | .elem sz es i o, .elem sz' es' i' o' => Nat.beq sz sz' && Nat.beq i i' && Nat.beq o o' && sameRows es es'
 | .yield l, .yield l' => Nat.beq l l'
 | .iface t x, .iface t' y => Nat.beq t t' && sameAV x y
 | .func (.func f) a b, .func (.func g) a' b' => Nat.beq f g && sameL a a' && sameL b b'
 | _, _ => false
def sameL : List AV → List AV → Bool
 | [], [] => true
 | x :: xs, y :: ys => sameAV x y && sameL xs ys
 | _, _ => false
def sameRows : List (List AV) → List (List AV) → Bool
 | [], [] => true
 | x :: xs, y :: ys => sameL x y && sameRows xs ys
 | _, _ => false
end

structure Slots where
 ch : List (Nat × AV)
 base : List AV
 deriving Inhabited

def look (base : List AV) : List (Nat × AV) → Nat → AV
 | [], t => base.getD t (.tuple [])
 | p :: r, t => bif Nat.beq p.1 t then p.2 else look base r t

def Slots.get (s : Slots) (t : Nat) : AV := look s.base s.ch t

def Slots.set (s : Slots) (t : Nat) (x : AV) : Slots := { s with ch := (t, x) :: s.ch }

structure LoopRec where
 tmps : Slots
 params : Array Tmp
 assign : Code
 body : Code
 state : LoopState
 pending : Option Code
 deriving Inhabited

structure Heap where
 boxes : List (List AV)
 loops : List LoopRec
 tn : Nat
 dead : List Nat
 deriving Inhabited

structure Env where
 tmps : Slots
 defers : List (FuncId × List AV)
 pan : Option (AV × Bool)
 round : Option Nat
 deriving Inhabited

inductive Xt where
 | normal
 | exit (id : Nat)
 | ret
 | panic (x : AV)
 deriving Inhabited

inductive Res where
 | ret (x : AV)
 | panic (x : AV)
 deriving Inhabited

def Env.get (e : Env) (t : Nat) : AV := e.tmps.get t

def Env.put (e : Env) (dst : Option Tmp) (x : AV) : Env :=
 match dst with
 | some d => { e with tmps := e.tmps.set d x }
 | none => e

def evalIn (tmps : Slots) : Operand → AV
 | .tmp t => tmps.get t
 | .const v => ofVal v
 | .global g => .ptr (.glob g) 0
 | .func f => .func (.func f) [] []

def Env.eval (e : Env) (x : Operand) : AV := evalIn e.tmps x

section
variable (P : Program)

def sizeB (t : TypeId) : Option Nat := (P.info? t).map (·.size)

def isAggB (t : TypeId) : Option Bool :=
 match P.underlying t with
 | some (.struct _) | some (.array _ _) => some true
 | some _ => some false
 | none => none

def zeroA (t : TypeId) : Option AV :=
 match P.info? t with
 | some i => i.zero.map ofVal
 | none => none

def partEv (t : TypeId) (cs : List AV) (off : Nat) : Option AV :=
 match isAggB P t with
 | some true => (sizeB P t).map fun n => .agg ((cs.drop off).take n)
 | some false => cs[off]?
 | none => none
end

def Heap.box (h : Heap) (cs : List AV) : AV × Heap := (.ptr (.box h.boxes.length) 0, { h with boxes := h.boxes ++ [cs] })

def Heap.fresh (h : Heap) (sz : Nat) (es : List (List AV)) : AV × Heap := (.list (.free h.tn) sz es, { h with tn := h.tn + 1 })

def refCells (G : Nat → Option (List AV)) (h : Heap) : Ref → Option (List AV)
 | .box b => h.boxes[b]?
 | .glob g => G g

def cellsAt (G : Nat → Option (List AV)) (h : Heap) : AV → Option (List AV)
 | .ptr r off => (refCells G h r).map (·.drop off)
 | .elem _ es i off => (es[i]?).map (·.drop off)
 | _ => none

def loadEv (P : Program) (G : Nat → Option (List AV)) (h : Heap) (t : TypeId) (a : AV) : Option AV :=
 match isAggB P t, cellsAt G h a with
 | some true, some cs =>
  match sizeB P t with
  | some n => if n ≤ cs.length then some (.agg (cs.take n)) else none
  | none => none
 | some false, some cs => cs.head?
 | _, _ => none

def splice (old : List AV) (off : Nat) (cs : List AV) : List AV := old.take off ++ cs ++ old.drop (off + cs.length)

def storeEv (P : Program) (h : Heap) (t : TypeId) (a x : AV) : Option Heap :=
 match a, x.cellsO, sizeB P t with
 | .ptr (.box b) off, some cs, some n =>
  match h.boxes[b]? with
  | some old => if cs.length = n ∧ off + n ≤ old.length then some { h with boxes := h.boxes.set b (splice old off cs) } else none
  | none => none
 | _, _, _ => none

def fillA (place : Nat → Option (Nat × Nat)) (cells : List AV) : List (Nat × AV) → Option (List AV)
 | [] => some cells
 | (i, x) :: rest =>
  match place i, x.cellsO with
  | some (off, size), some cs => if cs.length = size ∧ off + size ≤ cells.length then fillA place (splice cells off cs) rest else none
  | _, _ => none

def fillRows (sz : Nat) (rows : List (List AV)) : List (Nat × AV) → Option (List (List AV))
 | [] => some rows
 | (i, x) :: rest =>
  match x.cellsO with
  | some cs => if cs.length = sz ∧ i < rows.length then fillRows sz (rows.set i cs) rest else none
  | none => none

def placesOf (P : Program) (fields : Array Field) (i : Nat) : Option (Nat × Nat) :=
 match fields[i]? with
 | some f => (sizeB P f.type).map fun n => (f.offset, n)
 | none => none

def buildEv (P : Program) (t : TypeId) (parts : List (Nat × AV)) : Option AV :=
 match P.underlying t, (zeroA P t).bind AV.cellsO with
 | some (.struct fields), some zero =>
  if fields.all fun f => (P.info? f.type).isSome then (fillA (placesOf P fields) zero parts).map .agg else none
 | some (.array _ elem), some zero =>
  match sizeB P elem with
  | some size => (fillA (fun i => some (i * size, size)) zero parts).map .agg
  | none => none
 | _, _ => none

def buildSliceEv (P : Program) (t : TypeId) (len : Nat) (parts : List (Nat × AV)) : Option AV :=
 match P.underlying t with
 | some (.slice elem) =>
  match sizeB P elem, (zeroA P elem).bind AV.cellsO with
  | some size, some zero =>
   if 0 < size ∧ zero.length = size ∧ len * size ≤ 16777216 then (fillRows size (List.replicate len zero) parts).map (.list .tight size) else none
  | _, _ => none
 | _ => none

def makeSliceEv (P : Program) (h : Heap) (t : TypeId) (l c : AV) : Option (AV × Heap) :=
 match P.underlying t, l, c with
 | some (.slice elem), .v (.int _ l), .v (.int _ c) =>
  match P.info? elem, (zeroA P elem).bind AV.cellsO with
  | some i, some zero =>
   if 0 ≤ l ∧ l ≤ c ∧ c < 9223372036854775808 ∧ i.bytes * c ≤ 281474976710656 ∧ 0 < i.size ∧ zero.length = i.size then
    some (.arr h.boxes.length 0 l.toNat c.toNat, { h with boxes := h.boxes ++ [(List.replicate c.toNat zero).flatten] })
   else none
  | _, _ => none
 | _, _, _ => none

def rowsOf (h : Heap) (size : Nat) : AV → Option (List (List AV))
 | .list _ sz es => if sz = size ∨ es = [] then some es else none
 | .arr b off len _ =>
  match h.boxes[b]? with
  | some cs => if off + len * size ≤ cs.length then some ((List.range len).map fun i => (cs.drop (off + i * size)).take size) else none
  | none => none
 | _ => none

def byteRow (b : UInt8) : List AV := [.v (.int .u8 b.toNat)]

def byteOf : List AV → Option UInt8
 | [.v (.int .u8 n)] => some (UInt8.ofNat n.toNat)
 | _ => none

def bytesOf : List (List AV) → Option (List UInt8)
 | [] => some []
 | r :: rest => match byteOf r, bytesOf rest with | some b, some l => some (b :: l) | _, _ => none

def newRows (h : Heap) (size : Nat) : AV → Option (List (List AV))
 | .v (.string s) => if size = 1 then some (s.data.toList.map byteRow) else none
 | x => rowsOf h size x

def alive (h : Heap) (n : Nat) : Bool := decide (n < h.tn) && !h.dead.contains n

def appendEv (P : Program) (h : Heap) (ts : Array TypeId) (s x : AV) : Option (AV × Heap) :=
 match (ts[0]?).bind P.underlying, (ts[1]?).bind P.underlying with
 | some (.slice _), some (.int _) => none
 | some (.slice elem), some _ =>
  match P.info? elem with
  | none => none
  | some i =>
   match newRows h i.size x with
   | none => none
   | some new =>
    if 0 < i.size ∧ (i.zero.map fun z => z.cells.size) = some i.size then
     match s with
     | .list k sz es =>
      if sz = i.size ∨ es = [] then
       if new = [] then some (s, h)
       else if (es.length + new.length) * i.bytes ≤ 140737488355328 ∧ es.length + new.length ≤ 9223372036854775807 then
        match k with
        | .nil | .tight => some (h.fresh i.size (es ++ new))
        | .free n => if alive h n && decide (sz = i.size) then some ({ h with dead := n :: h.dead }.fresh i.size (es ++ new)) else none
        | .held => none
       else none
      else none
     | .arr b off len cap =>
      match h.boxes[b]? with
      | some cs =>
       if len + new.length ≤ cap ∧ off + cap * i.size ≤ cs.length then
        some (.arr b off (len + new.length) cap, { h with boxes := h.boxes.set b (splice cs (off + len * i.size) new.flatten) })
       else none
      | none => none
     | _ => none
    else none
 | _, _ => none

def thawed (G : Nat → Option (List AV)) (d : Option Tmp) (t : TypeId) : Bool := (G (1000000 + 1000 * t + d.getD 0)).isSome

def thawEv (P : Program) (h : Heap) (ts : Array TypeId) (s x : AV) : Option (AV × Heap) :=
 match (ts[0]?).bind P.underlying, (ts[1]?).bind P.underlying with
 | some (.slice _), some (.int _) => none
 | some (.slice elem), some _ =>
  match P.info? elem with
  | none => none
  | some i =>
   match newRows h i.size x with
   | none => none
   | some new =>
    if 0 < i.size ∧ (i.zero.map fun z => z.cells.size) = some i.size then
     match s with
     | .list k sz es =>
      if sz = i.size ∨ es = [] then
       if new = [] then some (s, h)
       else if (es.length + new.length) * i.bytes ≤ 140737488355328 ∧ es.length + new.length ≤ 9223372036854775807 then
        match k with
        | .nil | .tight => some (.arr h.boxes.length 0 (es.length + new.length) (es.length + new.length), { h with boxes := h.boxes ++ [(es ++ new).flatten] })
        | _ => none
       else none
      else none
     | .arr b off len cap =>
      match h.boxes[b]? with
      | some cs =>
       if len + new.length ≤ cap then appendEv P h ts s x
       else if off = 0 ∧ 0 < len ∧ len = cap ∧ len * i.size = cs.length ∧ (len + new.length) * i.bytes ≤ 140737488355328 ∧ len + new.length ≤ 9223372036854775807 then
        some (.arr h.boxes.length 0 (len + new.length) (len + new.length), { h with boxes := h.boxes.set b [] ++ [cs ++ new.flatten] })
       else none
      | none => none
     | _ => none
    else none
 | _, _ => none

def copyEv (P : Program) (h : Heap) (ts : Array TypeId) (d s : AV) : Option (AV × Heap) :=
 match (ts[0]?).bind P.underlying with
 | some (.slice elem) =>
  match P.info? elem, d with
  | some i, .arr b off len cap =>
   match newRows h i.size s, h.boxes[b]? with
   | some rows, some cs =>
    if off + len * i.size ≤ cs.length ∧ len ≤ cap then
     some (.v (.int .i64 (Nat.min rows.length len : Nat)), { h with boxes := h.boxes.set b (splice cs off (rows.take (Nat.min rows.length len)).flatten) })
    else none
   | _, _ => none
  | _, _ => none
 | _ => none

def lenEv (P : Program) (t : TypeId) (x : AV) : Option AV :=
 match P.underlying t, x with
 | some .string, .v (.string s) => some (.v (.int .i64 s.size))
 | some (.array n _), _ => some (.v (.int .i64 n))
 | some (.pointer a), _ => match P.underlying a with | some (.array n _) => some (.v (.int .i64 n)) | _ => none
 | some (.slice _), .list _ _ es => some (.v (.int .i64 es.length))
 | some (.slice _), .arr _ _ len _ => some (.v (.int .i64 len))
 | _, _ => none

def capEv (P : Program) (t : TypeId) (x : AV) : Option AV :=
 match P.underlying t, x with
 | some (.slice _), .list .tight _ es => some (.v (.int .i64 es.length))
 | some (.slice _), .list .nil _ es => some (.v (.int .i64 es.length))
 | some (.array n _), _ => some (.v (.int .i64 n))
 | _, _ => none

def boundOf (hi : Nat) : Option AV → Nat → Option Nat
 | none, d => some d
 | some (.v (.int _ n)), _ => if 0 ≤ n ∧ n ≤ hi then some n.toNat else none
 | _, _ => none

def cutTok (k : Tok) (toEnd limited : Bool) (n : Nat) : Tok :=
 match k with
 | .nil => .nil
 | .tight => if toEnd || limited then .tight else .held
 | .free t => if limited then .tight else if toEnd && n != 0 then .free t else .held
 | .held => if limited then .tight else .held

def sliceEv (P : Program) (t : TypeId) (x : AV) (lo hi mx : Option AV) : Option AV :=
 if mx.isSome && hi.isNone then none else
 match P.underlying t, x with
 | some .string, .v (.string s) =>
  if mx.isSome then none else
  match boundOf s.size hi s.size with
  | some h => match boundOf h lo 0 with
   | some l => some (.v (.string (s.extract l h)))
   | none => none
  | none => none
 | some (.slice elem), .list k sz es =>
  match sizeB P elem, boundOf es.length mx es.length with
  | some size, some m => match boundOf m hi es.length with
   | some h => match boundOf h lo 0 with
    | some l =>
     if size = sz ∨ es = [] then some (.list (cutTok k (decide (h = es.length) && mx.isNone) (mx.isSome && decide (h = m)) (h - l)) sz ((es.take h).drop l)) else none
    | none => none
   | none => none
  | _, _ => none
 | some (.slice elem), .arr b off len cap =>
  match sizeB P elem, boundOf cap mx cap with
  | some size, some m => match boundOf m hi len with
   | some h => match boundOf h lo 0 with
    | some l => if size = 0 then none else if mx.isSome ∧ m = l then some (.list .tight size []) else some (.arr b (if m = l then off else off + l * size) (h - l) (m - l))
    | none => none
   | none => none
  | _, _ => none
 | some (.array n elem), .ptr (.box b) off =>
  match sizeB P elem, boundOf n mx n with
  | some size, some m => match boundOf m hi n with
   | some h => match boundOf h lo 0 with
    | some l => some (.arr b (if m = l then off else off + l * size) (h - l) (m - l))
    | none => none
   | none => none
  | _, _ => none
 | _, _ => none

def fieldAddrEv (P : Program) (s : TypeId) (x : AV) (f : Nat) : Option AV :=
 match P.underlying s with
 | some (.struct fields) =>
  match fields[f]? with
  | some fd =>
   match sizeB P fd.type with
   | some 0 => none
   | some _ => match x with
    | .ptr r off => some (.ptr r (off + fd.offset))
    | .elem sz es i off => some (.elem sz es i (off + fd.offset))
    | _ => none
   | none => none
  | none => none
 | _ => none

def indexAddrEv (P : Program) (t : TypeId) (x ix : AV) : Option AV :=
 match P.underlying t, x, ix with
 | some (.slice elem), .list _ sz es, .v (.int _ i) => if 0 ≤ i ∧ i < es.length ∧ sizeB P elem = some sz then some (.elem sz es i.toNat 0) else none
 | some (.slice elem), .arr b off len _, .v (.int _ i) =>
  match sizeB P elem with
  | some size => if 0 ≤ i ∧ i < len then some (.ptr (.box b) (off + i.toNat * size)) else none
  | none => none
 | some (.array len elem), .ptr r off, .v (.int _ i) =>
  match sizeB P elem with
  | some size => if 0 ≤ i ∧ i < len then some (.ptr r (off + i.toNat * size)) else none
  | none => none
 | some (.array len elem), .elem sz es k off, .v (.int _ i) =>
  match sizeB P elem with
  | some size => if 0 ≤ i ∧ i < len then some (.elem sz es k (off + i.toNat * size)) else none
  | none => none
 | _, _, _ => none

def indexEv (P : Program) (t : TypeId) (x ix : AV) : Option AV :=
 match P.underlying t, x, ix with
 | some .string, .v (.string s), .v (.int _ i) =>
  match (if 0 ≤ i then s.data[i.toNat]? else none) with
  | some b => some (.v (.int .u8 b.toNat))
  | none => none
 | some (.array len elem), .agg cs, .v (.int _ i) =>
  match sizeB P elem with
  | some size => if 0 ≤ i ∧ i < len then partEv P elem cs (i.toNat * size) else none
  | none => none
 | _, _, _ => none

def isIface (P : Program) (t : TypeId) : Option Bool :=
 match P.underlying t with
 | some (.interface _) => some true
 | some _ => some false
 | none => none

def assertEv (P : Program) (x : AV) (asserted : TypeId) (commaOk : Bool) : Option AV :=
 match isIface P asserted, x with
 | some false, .iface t y => if t = asserted then some (if commaOk then .tuple [y, .v (.bool true)] else y)
  else if commaOk then (zeroA P asserted).map fun z => .tuple [z, .v (.bool false)] else none
 | some false, .v .nilIface => if commaOk then (zeroA P asserted).map fun z => .tuple [z, .v (.bool false)] else none
 | _, _ => none

def boolEq (op : BinOp) (b : Bool) : Option AV :=
 match op with
 | .eql => some (.v (.bool b))
 | .neq => some (.v (.bool !b))
 | _ => none

def binFlat (P : Program) (op : BinOp) (t : TypeId) (x y : Operand) (a b : AV) : Option AV :=
 match a.flat, b.flat with
 | some p, some q => (pureRun P (do eqGuard op t x y p q; binOp op t p q)).bind scalarV
 | _, _ => none

def binEv (P : Program) (op : BinOp) (t : TypeId) (x y : Operand) (a b : AV) : Option AV :=
 match a, b with
 | .v (.string p), .v (.string q) =>
  match op with
  | .eql => some (.v (.bool (p.data.toList == q.data.toList)))
  | .neq => some (.v (.bool !(p.data.toList == q.data.toList)))
  | .add => if p.size + q.size ≤ 9223372036854775807 then some (.v (.string (p ++ q))) else none
  | _ => binFlat P op t x y a b
 | .iface _ _, .v .nilIface => if isIface P t = some true then boolEq op false else none
 | .v .nilIface, .iface _ _ => if isIface P t = some true then boolEq op false else none
 | .ptr _ _, .v (.pointer none) => (match P.underlying t with | some (.pointer _) => boolEq op false | _ => none)
 | .v (.pointer none), .ptr _ _ => (match P.underlying t with | some (.pointer _) => boolEq op false | _ => none)
 | .func _ _ _, .v .nilFunc => (match P.underlying t with | some (.func ..) => boolEq op false | _ => none)
 | .v .nilFunc, .func _ _ _ => (match P.underlying t with | some (.func ..) => boolEq op false | _ => none)
 | .list k _ _, .list .nil _ [] => (match P.underlying t with | some (.slice _) => boolEq op (decide (k = .nil)) | _ => none)
 | a, b => binFlat P op t x y a b

def unEv (P : Program) (op : UnOp) (x : AV) : Option AV :=
 match x.flat with
 | some p => (pureRun P (Op.unary op p)).bind scalarV
 | none => none

def convEv (P : Program) (h : Heap) (src dst : TypeId) (x : AV) : Option (AV × Heap) :=
 match P.underlying src, P.underlying dst, x with
 | some .string, some (.slice e), .v (.string s) =>
  match P.underlying e, P.info? e with
  | some (.int .u8), some i => if i.size = 1 then some (h.fresh 1 (s.data.toList.map byteRow)) else none
  | _, _ => none
 | some (.slice e), some .string, x =>
  match P.underlying e, rowsOf h 1 x with
  | some (.int .u8), some rows => (bytesOf rows).map fun l => (.v (.string ⟨l.toArray⟩), h)
  | _, _ => none
 | some (.slice _), some (.slice _), _ => none
 | some _, some _, .v x => ((pureRun P (convert src dst x)).bind scalarV).map fun z => (z, h)
 | _, _, _ => none

def pickEv (c a b : AV) : Option AV :=
 match c with
 | .v (.bool t) => some (if t then a else b)
 | _ => none

def nilCheckEv (x : AV) : Option AV :=
 match x with
 | .ptr .. | .elem .. | .func (.func _) _ _ | .yield _ | .iface .. => some x
 | _ => none

def plainEv (P : Program) (G : Nat → Option (List AV)) (ρ : Operand → AV) (h : Heap) (o : Op) : Option (AV × Heap) :=
 match o with
 | .move x | .assign x => some (ρ x, h)
 | .pick c a b => (pickEv (ρ c) (ρ a) (ρ b)).map (·, h)
 | .alloc t => ((zeroA P t).bind AV.cellsO).map h.box
 | .box _ x => ((ρ x).cellsO).map h.box
 | .build t parts => (buildEv P t (parts.toList.map fun p => (p.1, ρ p.2))).map (·, h)
 | .buildSlice t len parts => (buildSliceEv P t len (parts.toList.map fun p => (p.1, ρ p.2))).map (·, h)
 | .load t a => (loadEv P G h t (ρ a)).map (·, h)
 | .store t a x => (storeEv P h t (ρ a) (ρ x)).map (.tuple [], ·)
 | .nilCheck x => (nilCheckEv (ρ x)).map (·, h)
 | .binOp op t x y _ => (binEv P op t x y (ρ x) (ρ y)).map (·, h)
 | .unOp op _ x => (unEv P op (ρ x)).map (·, h)
 | .convert s d x => convEv P h s d (ρ x)
 | .makeInterface t x => if isIface P t = some false then some (.iface t (ρ x), h) else none
 | .makeFunc fn first cap => some (.func fn (first.toList.map ρ) (cap.toList.map ρ), h)
 | .makeSlice t l c => makeSliceEv P h t (ρ l) (ρ c)
 | .slice t x lo hi mx => (sliceEv P t (ρ x) (lo.map ρ) (hi.map ρ) (mx.map ρ)).map (·, h)
 | .fieldAddr s x f => (fieldAddrEv P s (ρ x) f).map (·, h)
 | .field t x f =>
  match P.underlying t, ρ x with
  | some (.struct fields), .agg cs => (match fields[f]? with | some fd => (partEv P fd.type cs fd.offset).map (·, h) | none => none)
  | _, _ => none
 | .indexAddr t x i => (indexAddrEv P t (ρ x) (ρ i)).map (·, h)
 | .index t x i => (indexEv P t (ρ x) (ρ i)).map (·, h)
 | .typeAssert x _ asserted ok => (assertEv P (ρ x) asserted ok).map (·, h)
 | .extract x i => (match ρ x with | .tuple vs => (vs[i]?).map (·, h) | _ => none)
 | _ => none

def builtinEv (P : Program) (h : Heap) (b : Builtin) (ts : Array TypeId) (ty : TypeId) (args : List AV) : Option (AV × Heap) :=
 match b, args with
 | .len, [x] => (match ts[0]? with | some t => (lenEv P t x).map (·, h) | none => none)
 | .cap, [x] => (match ts[0]? with | some t => (capEv P t x).map (·, h) | none => none)
 | .append, [s, x] => appendEv P h ts s x
 | .copy, [d, s] => copyEv P h ts d s
 | .min, xs => (match flatAll xs with | some l => ((pureRun P (Builtin.min_ ts ty l.toArray)).bind scalarV).map (·, h) | none => none)
 | .max, xs => (match flatAll xs with | some l => ((pureRun P (Builtin.max_ ts ty l.toArray)).bind scalarV).map (·, h) | none => none)
 | _, _ => none

def builtinT (P : Program) (G : Nat → Option (List AV)) (d : Option Tmp) (h : Heap) (b : Builtin) (ts : Array TypeId) (ty : TypeId) (args : List AV) : Option (AV × Heap) :=
 match b, args with
 | .append, [s, x] => if thawed G d ty then thawEv P h ts s x else appendEv P h ts s x
 | b, args => builtinEv P h b ts ty args

structure Rec where
 code : Code → Env → Heap → Option (Xt × Env × Heap)
 call : FuncId → List AV → Heap → Option (Res × Heap)
 dcall : FuncId → List AV → Option (AV × Bool) → Heap → Option (Res × Option (AV × Bool) × Heap)
 round : Nat → List AV → Heap → Option (Res × Heap)

def methodEv (P : Program) (t : TypeId) (name : String) : Option FuncId :=
 match P.info? t with
 | some i =>
  match i.methods.find? (·.name == name) with
  | some m =>
   match m.path.toList, m.func, P.underlying t with
   | [], some (f, true), some (.pointer _) => some f
   | [], some (_, _), some (.pointer _) => none
   | [], some (f, false), some _ => some f
   | _, _, _ => none
  | none => none
 | none => none

def callEv (P : Program) (R : Rec) (e : Env) (h : Heap) (c : Call) : Option (Res × Heap) :=
 let args := c.args.toList.map e.eval
 match c.callee with
 | .builtin _ => none
 | .value f =>
  match e.eval f with
  | .func (.func g) first cap => R.call g (first ++ args ++ cap) h
  | .yield l => R.round l args h
  | _ => none
 | .invoke r name =>
  match e.eval r with
  | .iface t x => (match methodEv P t name with | some f => R.call f (x :: args) h | none => none)
  | _ => none

def opEv (P : Program) (G : Nat → Option (List AV)) (R : Rec) (e : Env) (h : Heap) (o : Oper) : Option (Res × Env × Heap) :=
 match o.op with
 | .call { callee := .builtin .recover, .. } =>
  if e.round.isSome then none else
  match e.pan with
  | some (x, false) => some (.ret x, { e with pan := some (x, true) }, h)
  | _ => some (.ret (.v .nilIface), e, h)
 | .call { callee := .builtin .panic, args, .. } =>
  match args.toList.map e.eval with
  | [.iface t x] => some (.panic (.iface t x), e, h)
  | _ => none
 | .call { callee := .builtin b, args, argTypes } => (builtinT P G o.dst h b argTypes o.type (args.toList.map e.eval)).map fun (x, h) => (.ret x, e, h)
 | .call c => (callEv P R e h c).map fun (r, h) => (r, e, h)
 | .defer { callee := .value f, args, .. } =>
  if e.round.isSome then none else
  match e.eval f with
  | .func (.func g) first cap => some (.ret (.tuple []), { e with defers := (g, first ++ args.toList.map e.eval ++ cap) :: e.defers }, h)
  | _ => none
 | .panic x =>
  match e.eval x with
  | .iface t x => some (.panic (.iface t x), e, h)
  | _ => none
 | op => (plainEv P G e.eval h op).map fun (x, h) => (.ret x, e, h)

def wantedA (ops : Array Oper) (e : Env) (o : Oper) : Option Bool :=
 match o.guard with
 | none => some true
 | some (j, want) =>
  match (ops[j]?).bind (·.dst) with
  | none => some false
  | some d =>
   match e.get d with
   | .v (.bool b) => some (b == want)
   | .tuple [] => some false
   | _ => none

def opsEv (P : Program) (G : Nat → Option (List AV)) (R : Rec) (ops : Array Oper) : List Nat → Env → Heap → Option (Xt × Env × Heap)
 | [], e, h => some (.normal, e, h)
 | i :: rest, e, h =>
  match ops[i]? with
  | none => none
  | some o =>
   match wantedA ops e o with
   | none => none
   | some false => opsEv P G R ops rest (e.put o.dst (.tuple [])) h
   | some true =>
    match opEv P G R e h o with
    | some (.ret x, e, h) => opsEv P G R ops rest (e.put o.dst x) h
    | some (.panic x, e, h) => some (.panic x, e, h)
    | none => none

inductive Class where
 | pure | reads | acts
 deriving DecidableEq, Inhabited

def classOf : Op → Class
 | .move _ | .assign _ | .pick .. | .build .. | .buildSlice .. | .nilCheck _ | .binOp .. | .unOp .. | .makeInterface .. | .makeFunc .. | .slice .. | .fieldAddr .. | .field ..
 | .indexAddr .. | .index .. | .typeAssert .. | .extract .. => .pure
 | .load .. => .reads
 | .call { callee := .builtin .len, .. } => .pure
 | _ => .acts

def mayPass (a b : Class) : Bool :=
 match a, b with
 | .pure, _ | _, .pure => true
 | .reads, .reads => true
 | _, _ => false

def beforeOk (ops : Array Oper) (b : Array Nat) : Bool :=
 (List.range ops.size).all fun j =>
  match ops[j]? with
  | none => true
  | some o =>
   (o.after.all fun e => !Region.binds .any e || decide (e.on < j)) &&
   (List.range ops.size).all fun i => !(b.getD j 0).testBit i || o.after.any fun e => Region.binds .any e && (Nat.beq e.on i || (b.getD e.on 0).testBit i)

def passOk (ops : Array Oper) (i j : Nat) : Bool :=
 match ops[i]?, ops[j]? with
 | some x, some y => mayPass (classOf x.op) (classOf y.op) && x.apart ops y && y.apart ops x
 | _, _ => false

def drawOk (ops : Array Oper) : Bool :=
 let b := Region.before ops
 beforeOk ops b && (List.range ops.size).all fun j => (List.range j).all fun i => (b.getD j 0).testBit i || passOk ops i j

def apartOk (ops : Array Oper) (i j : Nat) : Bool :=
 match ops[i]?, ops[j]? with
 | some x, some y => x.apart ops y && y.apart ops x
 | _, _ => false

def stable (P : Program) (G : Nat → Option (List AV)) (R : Rec) (ops : Array Oper) (e : Env) (h : Heap) (r m : Nat) : Bool :=
 match ops[r]?, opsEv P G R ops (List.range r) e h, opsEv P G R ops (List.range m) e h with
 | some o, some (.normal, er, hr), some (.normal, _, hm) =>
  (match wantedA ops er o with
   | some false => true
   | some true =>
    (match o.op with
     | .load t a => (match loadEv P G hr t (er.eval a), loadEv P G hm t (er.eval a) with | some x, some y => sameAV x y | _, _ => false)
     | _ => false)
   | none => false)
 | _, _, _ => false

def stableOk (P : Program) (G : Nat → Option (List AV)) (R : Rec) (ops : Array Oper) (e : Env) (h : Heap) (i j : Nat) : Bool :=
 apartOk ops i j &&
 match (ops[i]?).map fun o => classOf o.op, (ops[j]?).map fun o => classOf o.op with
 | some .reads, some .acts => stable P G R ops e h i (j + 1)
 | some .acts, some .reads => stable P G R ops e h j i
 | _, _ => false

def calmP (P : Program) (G : Nat → Option (List AV)) (R : Rec) (ops : Array Oper) (e : Env) (h : Heap) (k : Nat) : Prop :=
 ∃ o c x er hr, ops[k]? = some o ∧ o.op = .call c ∧ opsEv P G R ops (List.range k) e h = some (.normal, er, hr) ∧
  ∀ m, m ≤ ops.size → ∃ em hm, opsEv P G R ops (List.range m) e h = some (.normal, em, hm) ∧ callEv P R er hm c = some (.ret x, hm)
noncomputable def calmB (P : Program) (G : Nat → Option (List AV)) (R : Rec) (ops : Array Oper) (e : Env) (h : Heap) (k : Nat) : Bool := @decide (calmP P G R ops e h k) (Classical.propDecidable _)

noncomputable def drawFits (P : Program) (G : Nat → Option (List AV)) (R : Rec) (ops : Array Oper) (e : Env) (h : Heap) : Bool :=
 let b := Region.before ops
 beforeOk ops b && (List.range ops.size).all fun j => (List.range j).all fun i => (b.getD j 0).testBit i || passOk ops i j || stableOk P G R ops e h i j || (apartOk ops i j && (calmB P G R ops e h i || calmB P G R ops e h j))

def isNormal (r : Option (Xt × Env × Heap)) : Bool :=
 match r with
 | some (.normal, _, _) => true
 | _ => false

def edgeA (ops : Array Oper) (i : Nat) : Array Oper := ⟨ops.toList.mapIdx fun k o => if k = i + 1 then { o with after := o.after.push { on := i, ground := .data } } else o⟩
def edgeOn (ops : Array Oper) (k j : Nat) : Bool :=
 match ops[k]? with
 | some o => o.after.any fun ed => Region.binds .any ed && Nat.beq ed.on j
 | none => false
def loadB (ops : Array Oper) (d m : Nat) : Bool :=
 match ops[m]? with
 | some o => (match o.op with | .load _ x => (match x with | .tmp t => !Nat.beq t d | _ => true) | _ => false) && (o.guard.isNone && (match o.dst with | some q => !Nat.beq q d | none => true))
 | none => false
def swapOk (ops : Array Oper) (i : Nat) : Bool :=
 (match ops[i]?, ops[i + 1]? with
  | some o1, some o2 => (match o1.op, o2.op with | .alloc _, .alloc _ => true | _, _ => false) && (o1.guard.isNone && (o2.guard.isNone &&
   (match o1.dst, o2.dst with
    | some d1, some d2 => !Nat.beq d1 d2 && (!edgeOn ops i (i + 1) && (List.range ops.size).all fun k => Nat.beq k i || Nat.beq k (i + 1) || edgeOn ops (i + 1) k || edgeOn ops k i || (loadB ops d2 k && !edgeOn ops k (i + 1)))
    | _, _ => false)))
  | _, _ => false)
noncomputable def swapB (P : Program) (G : Nat → Option (List AV)) (R : Rec) (ops : Array Oper) (e : Env) (h : Heap) : Bool := (List.range ops.size).any fun i => swapOk ops i && drawFits P G R (edgeA ops i) e h

def quiet (o : Oper) : Oper := { o with dst := none, op := .move (.const (.bool true)), guard := none }
def hushL : List Oper → List Oper
 | [] => []
 | [o] => [quiet o]
 | o :: p :: r => o :: hushL (p :: r)
def hush (ops : Array Oper) : Array Oper := ⟨hushL ops.toList⟩

def lastOk (ops : Array Oper) : Bool :=
 let b := Region.before (hush ops)
 (List.range (ops.size - 1)).all fun i => (b.getD (ops.size - 1) 0).testBit i &&
  match ops[i]? with
  | some o => (match o.guard with | some (j, _) => !Nat.beq j (ops.size - 1) | none => true)
  | none => true

def isPanic (r : Option (Xt × Env × Heap)) : Bool :=
 match r with
 | some (.panic _, _, _) => true
 | _ => false
def hushed (ops : Array Oper) (k i : Nat) : Bool := Nat.beq i k || ((Region.before ops).getD i 0).testBit k
def cut (ops : Array Oper) (k : Nat) : Array Oper := ⟨ops.toList.mapIdx fun i o => if hushed ops k i = true then quiet o else o⟩
def calmAt (ops : Array Oper) (i : Nat) : Bool :=
 match ops[i]? with
 | some o => decide (classOf o.op ≠ .acts)
 | none => true
def guardAt (ops : Array Oper) (k i : Nat) : Bool :=
 match ops[i]? with
 | some o => (match o.guard with | some (j, _) => !hushed ops k j | none => true)
 | none => true
def cutOk (ops : Array Oper) (k : Nat) : Bool :=
 let b := Region.before (cut ops k)
 decide (k + 1 < ops.size) && (List.range ops.size).all fun i =>
  Nat.beq i k ||
  (!hushed ops k i && guardAt ops k i && ((decide (i < k) && (b.getD k 0).testBit i) || (calmAt ops i && (apartOk ops i k && apartOk ops k i)))) ||
  (decide (k < i) && (hushed ops k i && (b.getD i 0).testBit k))
def dimT (ops : Array Oper) (k i : Nat) : Option Tmp :=
 if (hushed ops k i || ((Region.before (cut ops k)).getD k 0).testBit i) = true then none else (ops[i]?).bind (·.dst)
def dimL (f : Nat → Option Tmp) : List Nat → Slots → Slots
 | [], s => s
 | i :: r, s => dimL f r (match f i with | some t => s.set t .bad | none => s)
def dim (ops : Array Oper) (k : Nat) (e : Env) : Env := { e with tmps := dimL (dimT ops k) (List.range ops.size) e.tmps }
noncomputable def midAt (P : Program) (G : Nat → Option (List AV)) (R : Rec) (ops : Array Oper) (e : Env) (h : Heap) (k : Nat) : Bool :=
 cutOk ops k && (drawFits P G R (cut ops k) e h && (isNormal (opsEv P G R (cut ops k) (List.range (cut ops k).size) e h) && (isNormal (opsEv P G R ops (List.range k) e h) && isPanic (opsEv P G R ops (List.range (k + 1)) e h))))
noncomputable def midEv (P : Program) (G : Nat → Option (List AV)) (R : Rec) (ops : Array Oper) (e : Env) (h : Heap) : Option (Xt × Env × Heap) :=
 match (List.range ops.size).find? (midAt P G R ops e h) with
 | some k =>
  (match opsEv P G R ops (List.range (k + 1)) e h with
   | some (.panic x, e1, h1) => some (.panic x, dim ops k e1, h1)
   | _ => none)
 | none => none

def setParams (params : List Tmp) (args : List AV) (tmps : Slots) : Slots := (params.zip args).foldl (fun ts p => ts.set p.1 p.2) tmps

section
variable (P : Program) (G : Nat → Option (List AV)) (R : Rec)

noncomputable def codeEv : Code → Env → Heap → Option (Xt × Env × Heap)
 | .skip, e, h | .label _, e, h => some (.normal, e, h)
 | .region _ ops draw, e, h =>
  if draw then
   if drawFits P G R ops e h then
    match opsEv P G R ops (List.range ops.size) e h with
    | some (.normal, e, h) => some (.normal, e, h)
    | some (.panic x, e1, h1) =>
     if lastOk ops && (drawFits P G R (hush ops) e h && isNormal (opsEv P G R (hush ops) (List.range (hush ops).size) e h)) then some (.panic x, e1, h1) else midEv P G R ops e h
    | _ => none
   else if swapB P G R ops e h then
    match opsEv P G R ops (List.range ops.size) e h with
    | some (.normal, e, h) => some (.normal, e, h)
    | _ => midEv P G R ops e h
   else midEv P G R ops e h
  else opsEv P G R ops (List.range ops.size) e h
 | .seq a b, e, h =>
  match R.code a e h with
  | some (.normal, e, h) => R.code b e h
  | r => r
 | .cond c a b, e, h =>
  match e.eval c with
  | .v (.bool true) => R.code a e h
  | .v (.bool false) => R.code b e h
  | _ => none
 | .block id c, e, h =>
  match R.code c e h with
  | some (.exit id', e, h) => if id' = id then some (.normal, e, h) else some (.exit id', e, h)
  | r => r
 | .loop c, e, h =>
  match R.code c e h with
  | some (.normal, e, h) => R.code (.loop c) e h
  | r => r
 | .exit id, e, h => some (.exit id, e, h)
 | .ret, e, h => some (.ret, e, h)
 | .rangeFunc f params assign body, e, h =>
  match e.eval f with
  | .func (.func g) first cap =>
   match R.call g (first ++ [.yield h.loops.length] ++ cap)
    { h with loops := h.loops ++ [{ tmps := e.tmps, params, assign, body, state := .ready, pending := none }] } with
   | some (.ret _, h') =>
    match h'.loops[h.loops.length]? with
    | some r =>
     if r.state = .busy then none else
     match r.pending with
     | none => some (.normal, e, { h' with loops := h'.loops.set h.loops.length { r with state := .exhausted } })
     | some .ret => some (.ret, e, { h' with loops := h'.loops.set h.loops.length { r with state := .exhausted } })
     | some (.exit id) => some (.exit id, e, { h' with loops := h'.loops.set h.loops.length { r with state := .exhausted } })
     | _ => none
    | none => none
   | some (.panic x, h') => some (.panic x, e, h')
   | none => none
  | _ => none
 | _, _, _ => none

def resultListEv (e : Env) (h : Heap) : List ResultVar → Option (List AV)
 | [] => some []
 | .tmp t :: r => (resultListEv e h r).map (e.get t :: ·)
 | .cell a t :: r =>
  match loadEv P G h t (e.get a), resultListEv e h r with
  | some x, some l => some (x :: l)
  | _, _ => none

def resultsEv (fn : Func) (e : Env) (h : Heap) : Option AV :=
 match resultListEv P G e h fn.results.toList with
 | some [x] => some x
 | some l => some (.tuple l)
 | none => none

def unwindEv (fn : Func) (e : Env) : List (FuncId × List AV) → Option (AV × Bool) → Heap → Option (Res × Heap)
 | [], none, h => (resultsEv P G fn e h).map fun x => (.ret x, h)
 | [], some (x, _), h => some (.panic x, h)
 | (g, args) :: ds, m, h =>
  match R.dcall g args m h with
  | some (.ret _, some (_, true), h) => unwindEv fn e ds none h
  | some (.ret _, m, h) => unwindEv fn e ds m h
  | _ => none

def bodyEv (g : FuncId) (args : List AV) (m : Option (AV × Bool)) (h : Heap) : Option (Res × Option (AV × Bool) × Heap) :=
 match P.funcs[g]? with
 | none => none
 | some fn =>
  match fn.body with
  | none => none
  | some body =>
   match R.code body { tmps := { ch := [], base := args }, defers := [], pan := m, round := none } h with
   | some (.normal, e, h) | some (.ret, e, h) => (unwindEv P G R fn e e.defers none h).map fun (r, h) => (r, e.pan, h)
   | some (.panic x, e, h) => (unwindEv P G R fn e e.defers (some (x, false)) h).map fun (r, h) => (r, e.pan, h)
   | _ => none

def funcEv (prims : FuncId → Option (List AV → Heap → Option (AV × Heap))) (g : FuncId) (args : List AV) (h : Heap) : Option (Res × Heap) :=
 match prims g with
 | some p => (p args h).map fun (x, h) => (.ret x, h)
 | none => (bodyEv P G R g args none h).map fun (r, _, h) => (r, h)

def roundEv (l : Nat) (args : List AV) (h : Heap) : Option (Res × Heap) :=
 match h.loops[l]? with
 | none => none
 | some r =>
  if r.params.size = args.length then
   match R.code r.assign { tmps := setParams r.params.toList args r.tmps, defers := [], pan := none, round := some l } h with
   | some (.normal, e, h) =>
    match h.loops[l]? with
    | some r2 =>
     if r2.state = .ready then
      match R.code r.body e { h with loops := h.loops.set l { r2 with state := .busy } } with
      | some (.normal, _, h) => (h.loops[l]?).map fun r => (.ret (.v (.bool true)), { h with loops := h.loops.set l { r with state := .ready, pending := none } })
      | some (.ret, _, h) => (h.loops[l]?).map fun r => (.ret (.v (.bool false)), { h with loops := h.loops.set l { r with state := .done, pending := some .ret } })
      | some (.exit id, _, h) => (h.loops[l]?).map fun r => (.ret (.v (.bool false)), { h with loops := h.loops.set l { r with state := .done, pending := some (.exit id) } })
      | some (.panic x, _, h) => some (.panic x, h)
      | none => none
     else none
    | none => none
   | _ => none
  else none
end

noncomputable def recs (P : Program) (G : Nat → Option (List AV)) (prims : FuncId → Option (List AV → Heap → Option (AV × Heap))) (n : Nat) : Rec :=
 Nat.rec (motive := fun _ => Rec) { code := fun _ _ _ => none, call := fun _ _ _ => none, dcall := fun _ _ _ _ => none, round := fun _ _ _ => none }
  (fun _ R => { code := codeEv P G R, call := funcEv P G R prims, dcall := bodyEv P G R, round := roundEv R }) n

end Go.AE
end

section
namespace Go.AE
open Go.RowKit (Below)

theorem pureRun_run {α : Type} {P : Program} : ∀ {e : Sem α} {a : α}, pureRun P e = some a → ∀ w, e.run P w = .ok a w := by
 intro e
 induction e with
 | pure a => intro b h w; simp [pureRun] at h; subst h; rfl
 | program k ih => intro b h w; simp only [pureRun] at h; simp only [Sem.run]; exact ih _ h w
 | mark m k ih => intro b h w; simp only [pureRun] at h; simp only [Sem.run]; exact ih h w
 | _ => intro b h; simp [pureRun] at h

structure Know where
 base : Nat
 ic : Nat → Nat → Option Value
 β : List Nat
 γ : List Nat
 tn : Nat
 tk : Nat → Nat × Nat × Nat
 md : List Nat
 lb : Nat → Option (Nat × Nat × Nat)

structure Know.Le (K K' : Know) : Prop where
 base : K'.base = K.base
 ic : ∀ g j c, K.ic g j = some c → K'.ic g j = some c
 β : ∀ b g : Nat, K.β[b]? = some g → K'.β[b]? = some g
 γ : ∀ l g : Nat, K.γ[l]? = some g → K'.γ[l]? = some g
 tn : K.tn ≤ K'.tn
 tk : ∀ t, t < K.tn → K'.tk t = K.tk t
 md : ∀ r ∈ K.md, r ∈ K'.md
 lb : ∀ b, b < K.β.length → K'.lb b = K.lb b

theorem Know.Le.refl (K : Know) : K.Le K := ⟨rfl, fun _ _ _ h => h, fun _ _ h => h, fun _ _ h => h, Nat.le_refl _, fun _ _ => rfl, fun _ h => h, fun _ _ => rfl⟩
theorem Know.Le.len {K K' : Know} (h : K.Le K') {b : Nat} (hb : b < K.β.length) : b < K'.β.length := (List.getElem?_eq_some_iff.1 (h.β b _ (List.getElem?_eq_getElem hb))).1

theorem Know.Le.trans {A B C : Know} (h : A.Le B) (k : B.Le C) : A.Le C :=
 ⟨k.base.trans h.base, fun g j c hc => k.ic g j c (h.ic g j c hc), fun b g hb => k.β b g (h.β b g hb), fun b g hb => k.γ b g (h.γ b g hb), Nat.le_trans h.tn k.tn,
  fun t ht => (k.tk t (Nat.lt_of_lt_of_le ht h.tn)).trans (h.tk t ht), fun r hr => k.md r (h.md r hr), fun b hb => (k.lb b (h.len hb)).trans (h.lb b hb)⟩

def TokOk (K : Know) (k : Tok) (g off sz n cap : Nat) : Prop :=
 n ≤ cap ∧ match k with
  | .nil => False
  | .tight => cap = n
  | .free t => t < K.tn ∧ (K.tk t).1 = g ∧ (K.tk t).2.1 = off + n * sz ∧ off + cap * sz ≤ (K.tk t).2.2
  | .held => True

theorem TokOk.mono {K K' : Know} (h : K.Le K') {k : Tok} {g off sz n cap : Nat} (ht : TokOk K k g off sz n cap) : TokOk K' k g off sz n cap := by
 refine ⟨ht.1, ?_⟩
 have h2 := ht.2
 cases k with
 | free t =>
  simp only at h2 ⊢
  rw [h.tk t h2.1]
  exact ⟨Nat.lt_of_lt_of_le h2.1 h.tn, h2.2⟩
 | _ => exact h2

mutual
inductive VRel (K : Know) : AV → Value → Prop
 | bad (c : Value) : VRel K .bad c
 | v (x : Value) (h : scalar x = true) : VRel K (.v x) x
 | nil (sz : Nat) : VRel K (.list .nil sz []) (.slice none 0 0)
 | none0 (sz : Nat) (a : Addr) : VRel K (.list .tight sz []) (.slice (some a) 0 0)
 | list (k : Tok) (sz : Nat) (es : List (List AV)) (g off n cap : Nat) (cells : List Value) (hn : n = es.length) (hr : ∀ r ∈ es, r.length = sz)
  (hv : VsRel K es.flatten cells) (hc : ∀ j c, cells[j]? = some c → K.ic g (off + j) = some c) (ht : TokOk K k g off sz n cap)
  (ha : es.flatten.all AV.isCell = true) : VRel K (.list k sz es) (.slice (some ⟨g, off, none⟩) n cap)
 | arr (b g off len cap off' cap' : Nat) (hb : K.β[b]? = some g) (hl : len ≤ cap) (hc : cap ≤ cap') (ho : off' = off ∨ cap = 0)
  (hr : cap' = cap ∨ cap = 0 ∨ off ≠ 0 ∨ ∃ sz room, K.lb b = some (cap, sz, room) ∧ 0 < sz ∧ cap' * sz ≤ room) : VRel K (.arr b off len cap) (.slice (some ⟨g, off', none⟩) len cap')
 | agg (cs : List AV) (vs : Array Value) (h : VsRel K cs vs.toList) : VRel K (.agg cs) (.agg vs)
 | tuple (cs : List AV) (vs : Array Value) (h : VsRel K cs vs.toList) : VRel K (.tuple cs) (.tuple vs)
 | box (b g off : Nat) (hb : K.β[b]? = some g) : VRel K (.ptr (.box b) off) (.pointer (some ⟨g, off, none⟩))
 | glob (g off : Nat) : VRel K (.ptr (.glob g) off) (.pointer (some ⟨g, off, none⟩))
 | elem (sz : Nat) (es : List (List AV)) (i off g o p : Nat) (cells : List Value) (hr : ∀ r ∈ es, r.length = sz) (hv : VsRel K es.flatten cells)
  (hc : ∀ j c, cells[j]? = some c → K.ic g (o + j) = some c) (hi : i < es.length) (hp : p = o + i * sz + off)
  (ha : es.flatten.all AV.isCell = true) : VRel K (.elem sz es i off) (.pointer (some ⟨g, p, none⟩))
 | func (fn : Fn) (first cap : List AV) (fs cs : Array Value) (h1 : VsRel K first fs.toList) (h2 : VsRel K cap cs.toList) : VRel K (.func fn first cap) (.func fn fs cs)
 | yield (l g : Nat) (h : K.γ[l]? = some g) : VRel K (.yield l) (.func (.yield g) #[] #[])
 | iface (t : TypeId) (x : AV) (c : Value) (h : VRel K x c) : VRel K (.iface t x) (.iface t c)
inductive VsRel (K : Know) : List AV → List Value → Prop
 | nil : VsRel K [] []
 | cons (x : AV) (c : Value) (xs : List AV) (cs : List Value) (h : VRel K x c) (hs : VsRel K xs cs) : VsRel K (x :: xs) (c :: cs)
end

mutual
theorem VRel.mono {K K' : Know} (h : K.Le K') : ∀ {x : AV} {c : Value}, VRel K x c → VRel K' x c
 | _, _, .bad c => .bad c
 | _, _, .v x hx => .v x hx
 | _, _, .nil sz => .nil sz
 | _, _, .none0 sz a => .none0 sz a
 | _, _, .list k sz es g off n cap cells hn hr hv hc ht ha => .list k sz es g off n cap cells hn hr (VsRel.mono h hv) (fun j c hj => h.ic _ _ _ (hc j c hj)) (ht.mono h) ha
 | _, _, .arr b g off len cap off' cap' hb hl hc ho hr => .arr b g off len cap off' cap' (h.β _ _ hb) hl hc ho (by rw [h.lb b (List.getElem?_eq_some_iff.1 hb).1]; exact hr)
 | _, _, .agg cs vs hv => .agg cs vs (VsRel.mono h hv)
 | _, _, .tuple cs vs hv => .tuple cs vs (VsRel.mono h hv)
 | _, _, .box b g off hb => .box b g off (h.β _ _ hb)
 | _, _, .glob g off => .glob g off
 | _, _, .elem sz es i off g o p cells hr hv hc hi hp ha => .elem sz es i off g o p cells hr (VsRel.mono h hv) (fun j c hj => h.ic _ _ _ (hc j c hj)) hi hp ha
 | _, _, .func fn first cap fs cs h1 h2 => .func fn first cap fs cs (VsRel.mono h h1) (VsRel.mono h h2)
 | _, _, .yield l g hl => .yield l g (h.γ _ _ hl)
 | _, _, .iface t x c hx => .iface t x c (VRel.mono h hx)
theorem VsRel.mono {K K' : Know} (h : K.Le K') : ∀ {xs : List AV} {cs : List Value}, VsRel K xs cs → VsRel K' xs cs
 | _, _, .nil => .nil
 | _, _, .cons x c xs cs hx hs => .cons x c xs cs (VRel.mono h hx) (VsRel.mono h hs)
end

def isOne : Value → Bool
 | .agg _ | .tuple _ => false
 | _ => true

section
variable {K : Know}

theorem VsRel.length {xs : List AV} {cs : List Value} (h : VsRel K xs cs) : xs.length = cs.length := by
 induction xs generalizing cs with
 | nil => cases h; rfl
 | cons x xs ih => cases h with | cons _ _ _ _ _ hs => simp [ih hs]

theorem VsRel.get {xs : List AV} {cs : List Value} (h : VsRel K xs cs) : ∀ {i : Nat} {x : AV}, xs[i]? = some x → ∃ c, cs[i]? = some c ∧ VRel K x c := by
 induction xs generalizing cs with
 | nil => intro i x hx; simp at hx
 | cons y xs ih =>
  cases h with
  | cons _ c _ cs hy hs =>
   intro i x hx
   cases i with
   | zero => simp at hx; subst hx; exact ⟨c, rfl, hy⟩
   | succ i => exact ih hs (by simpa using hx)

theorem VsRel.get' {xs : List AV} {cs : List Value} (h : VsRel K xs cs) : ∀ {i : Nat} {c : Value}, cs[i]? = some c → ∃ x, xs[i]? = some x ∧ VRel K x c := by
 induction xs generalizing cs with
 | nil => cases h; intro i x hx; simp at hx
 | cons y xs ih =>
  cases h with
  | cons _ c _ cs hy hs =>
   intro i x hx
   cases i with
   | zero => simp at hx; subst hx; exact ⟨y, rfl, hy⟩
   | succ i => exact ih hs (by simpa using hx)

theorem VsRel.of {xs : List AV} {cs : List Value} (hl : xs.length = cs.length) (h : ∀ (i : Nat) (x : AV) (c : Value), xs[i]? = some x → cs[i]? = some c → VRel K x c) : VsRel K xs cs := by
 induction xs generalizing cs with
 | nil => cases cs with | nil => exact .nil | cons _ _ => simp at hl
 | cons y xs ih =>
  cases cs with
  | nil => simp at hl
  | cons c cs => exact .cons _ _ _ _ (h 0 y c rfl rfl) (ih (by simpa using hl) fun i x c hx hc => h (i + 1) x c (by simpa using hx) (by simpa using hc))

theorem VsRel.append {xs ys : List AV} {cs ds : List Value} (h : VsRel K xs cs) (k : VsRel K ys ds) : VsRel K (xs ++ ys) (cs ++ ds) := by
 induction xs generalizing cs with
 | nil => cases h; exact k
 | cons y xs ih => cases h with | cons _ _ _ _ hy hs => exact .cons _ _ _ _ hy (ih hs)

theorem VsRel.take {xs : List AV} {cs : List Value} (h : VsRel K xs cs) (n : Nat) : VsRel K (xs.take n) (cs.take n) := by
 refine .of (by simp [h.length]) fun i x c hx hc => ?_
 simp only [List.getElem?_take] at hx hc
 split at hx
 ·rename_i hi; rw [if_pos hi] at hc
  obtain ⟨c', hc', hr⟩ := h.get hx
  rw [hc] at hc'; injection hc' with e; subst e; exact hr
 ·cases hx

theorem VsRel.drop {xs : List AV} {cs : List Value} (h : VsRel K xs cs) (n : Nat) : VsRel K (xs.drop n) (cs.drop n) := by
 refine .of (by simp [h.length]) fun i x c hx hc => ?_
 simp only [List.getElem?_drop] at hx hc
 obtain ⟨c', hc', hr⟩ := h.get hx
 rw [hc] at hc'; injection hc' with e; subst e; exact hr

theorem VsRel.set {xs : List AV} {cs : List Value} (h : VsRel K xs cs) (i : Nat) {x : AV} {c : Value} (hx : VRel K x c) : VsRel K (xs.set i x) (cs.set i c) := by
 refine .of (by simp [h.length]) fun j y d hy hd => ?_
 simp only [List.getElem?_set] at hy hd
 split at hy
 ·rename_i e; subst e
  rw [if_pos rfl] at hd
  split at hy
  ·rename_i hlt
   rw [if_pos (h.length ▸ hlt)] at hd
   injection hy with hy; injection hd with hd; subst hy; subst hd; exact hx
  ·cases hy
 ·rename_i e
  rw [if_neg e] at hd
  obtain ⟨c', hc', hr⟩ := h.get hy
  rw [hd] at hc'; injection hc' with e; subst e; exact hr

theorem VsRel.map_mk {α : Type} {l : List α} {f : α → AV} {f' : α → Value} (h : ∀ a ∈ l, VRel K (f a) (f' a)) : VsRel K (l.map f) (l.map f') := by
 induction l with
 | nil => exact .nil
 | cons a l ih => exact .cons _ _ _ _ (h a (by simp)) (ih fun b hb => h b (by simp [hb]))

theorem VRel.scalar_of {x : Value} {c : Value} (h : VRel K (.v x) c) : c = x ∧ scalar x = true := by
 cases h with | v _ h => exact ⟨rfl, h⟩

theorem flatCells_rel : ∀ {cs : List AV} {l : List Value}, flatCells cs = some l → ∀ {vs : List Value}, VsRel K cs vs → vs = l
 | [], l, h, _, hv => by cases hv; simp [flatCells] at h; exact h.symm ▸ rfl
 | .v x :: r, l, h, _, hv => by
  cases hv with
  | cons _ c _ cs hx hs =>
   simp only [flatCells, Option.map_eq_some_iff] at h
   obtain ⟨l', hl', rfl⟩ := h
   rw [(VRel.scalar_of hx).1, flatCells_rel hl' hs]
 | .bad :: _, _, h, _, _ | .list .. :: _, _, h, _, _ | .arr .. :: _, _, h, _, _ | .agg _ :: _, _, h, _, _ | .tuple _ :: _, _, h, _, _ | .ptr .. :: _, _, h, _, _
 | .elem .. :: _, _, h, _, _ | .func .. :: _, _, h, _, _ | .yield _ :: _, _, h, _, _ | .iface .. :: _, _, h, _, _ => by simp [flatCells] at h

theorem flat_rel {x : AV} {p : Value} (h : x.flat = some p) {c : Value} (hv : VRel K x c) : c = p := by
 unfold AV.flat at h
 split at h
 ·injection h with h; subst h; exact (VRel.scalar_of hv).1
 ·simp only [Option.map_eq_some_iff] at h
  obtain ⟨l, hl, rfl⟩ := h
  cases hv with | agg _ vs hs => rw [← flatCells_rel hl hs]
 ·injection h with h; subst h
  cases hv with | iface _ _ _ hx => rw [(VRel.scalar_of hx).1]
 ·simp only [Option.map_eq_some_iff] at h
  obtain ⟨l, hl, rfl⟩ := h
  cases hv with | iface _ _ _ hx => cases hx with | agg _ vs hs => rw [← flatCells_rel hl hs]
 ·injection h with h; subst h
  cases hv with
  | nil => rfl
  | list _ _ _ _ _ _ _ _ _ _ _ _ ht _ => exact ht.2.elim
 ·cases h

theorem flatAll_rel : ∀ {xs : List AV} {l : List Value}, flatAll xs = some l → ∀ {vs : List Value}, VsRel K xs vs → vs = l
 | [], l, h, _, hv => by cases hv; simp [flatAll] at h; exact h.symm ▸ rfl
 | x :: r, l, h, _, hv => by
  cases hv with
  | cons _ c _ cs hx hs =>
   simp only [flatAll] at h
   split at h
   ·rename_i v l' h1 h2
    injection h with h; subst h
    rw [flat_rel h1 hx, flatAll_rel h2 hs]
   ·cases h

theorem scalarV_rel {z : Value} {x : AV} (h : scalarV z = some x) : VRel K x z := by
 unfold scalarV at h
 split at h
 ·injection h with h; subst h; exact .v _ ‹_›
 ·cases h

theorem ofCell_rel (x : Value) : VRel K (ofCell x) x := by
 unfold ofCell
 split
 ·exact .nil 0
 ·split
  ·exact .v _ ‹_›
  ·exact .bad _

theorem ofVal_rel (x : Value) : VRel K (ofVal x) x := by
 unfold ofVal
 split
 ·rename_i cs
  refine .agg _ _ ?_
  have : VsRel K (cs.toList.map ofCell) (cs.toList.map id) := VsRel.map_mk fun a _ => ofCell_rel a
  simpa using this
 ·split
  ·rename_i vs h
   have : vs = #[] := by simpa using h
   subst this
   exact .tuple _ _ .nil
  ·exact .bad _
 ·exact .iface _ _ _ (ofCell_rel _)
 ·exact ofCell_rel _

theorem cellsO_rel {x : AV} {cs : List AV} (h : x.cellsO = some cs) {c : Value} (hv : VRel K x c) : VsRel K cs c.cells.toList ∧ cs.all AV.isCell = true := by
 unfold AV.cellsO at h
 split at h
 ·split at h
  ·rename_i ha
   injection h with h; subst h
   cases hv with | agg _ vs hs => exact ⟨hs, ha⟩
  ·cases h
 ·cases h
 ·cases h
 ·rename_i h1 h2 h3
  injection h with h; subst h
  have hcell : x.isCell = true := by cases x <;> first | rfl | exact absurd rfl (h1 _) | exact absurd rfl (h2 _) | exact absurd rfl h3
  refine ⟨?_, by simp [hcell]⟩
  have : c.cells = #[c] := by cases hv <;> first | rfl | exact absurd rfl (h1 _) | exact absurd rfl (h2 _) | exact absurd rfl h3 | (cases c <;> first | rfl | simp [scalar] at *)
  rw [this]
  exact .cons _ _ _ _ hv .nil

theorem isOne_of_scalar {c : Value} (h : scalar c = true) : isOne c = true := by
 cases c <;> first | rfl | simp [scalar] at h

theorem isCell_one {x : AV} (h : x.isCell = true) {c : Value} (hv : VRel K x c) : isOne c = true := by
 cases hv <;> first | rfl | exact isOne_of_scalar ‹_› | (simp [AV.isCell] at h; done)

end

def BoxRel (K : Know) (b : Nat) (cs : List AV) (cells : Array Value) : Prop :=
 VsRel K cs (cells.toList.take cs.length) ∧ ∀ N sz room, K.lb b = some (N, sz, room) → cs = [] ∨ (cs.length = N * sz ∧ room ≤ cells.size)
theorem BoxRel.mono {K K' : Know} (h : K.Le K') {b : Nat} (hb : b < K.β.length) {cs : List AV} {cells : Array Value} (r : BoxRel K b cs cells) : BoxRel K' b cs cells :=
 ⟨r.1.mono h, by rw [h.lb b hb]; exact r.2⟩
theorem BoxRel.nil {K : Know} {b : Nat} {cells : Array Value} : BoxRel K b [] cells := ⟨.nil, fun _ _ _ _ => .inl rfl⟩
theorem BoxRel.le {K : Know} {b : Nat} {cs : List AV} {cells : Array Value} (r : BoxRel K b cs cells) : cs.length ≤ cells.size := by
 have := r.1.length
 rw [List.length_take] at this
 simp only [Array.length_toList] at this
 omega

def SlotsRel (K : Know) (s : Slots) (tmps : Array Value) : Prop := ∀ t, VRel K (s.get t) (tmps.getD t undef)

theorem SlotsRel.mono {K K' : Know} (h : K.Le K') {s : Slots} {tmps : Array Value} (hs : SlotsRel K s tmps) : SlotsRel K' s tmps := fun t => (hs t).mono h

structure Sim (K : Know) (G : Nat → Option (List AV)) (ok : FuncId → Nat → Code → Bool) (w0 : World) (h : Heap) (w : World) : Prop where
 old : Below K.base w0 w
 size : K.base ≤ w.heap.size
 ic : ∀ g j c, K.ic g j = some c → w.cell? ⟨g, j, none⟩ = some c
 glob : ∀ g cs, G g = some cs → ∃ cells, VsRel K cs cells ∧ ∀ (j : Nat) (c : Value), cells[j]? = some c → K.ic g j = some c
 βlen : K.β.length = h.boxes.length
 βnd : ∀ (b b' g : Nat), K.β[b]? = some g → K.β[b']? = some g → b = b' ∨ h.boxes[b]? = some [] ∨ h.boxes[b']? = some []
 box : ∀ (b g : Nat) (cs : List AV), K.β[b]? = some g → h.boxes[b]? = some cs →
  K.base ≤ g ∧ (∀ j, K.ic g j = none) ∧ cs.all AV.isCell = true ∧ ∃ cells e, w.heap[g]? = some (.cells cells e (0, 0)) ∧ BoxRel K b cs cells
 γlen : K.γ.length = h.loops.length
 γnd : ∀ (b b' g : Nat), K.γ[b]? = some g → K.γ[b']? = some g → b = b'
 loop : ∀ (l g : Nat) (r : LoopRec), K.γ[l]? = some g → h.loops[l]? = some r → K.base ≤ g ∧ ∃ fn tmps d,
  w.heap[g]? = some (.loop { state := r.state, pending := r.pending, fn, tmps, params := r.params, assign := r.assign, body := r.body, defers := d }) ∧
  SlotsRel K r.tmps tmps ∧ ok fn tmps.size r.assign = true ∧ ok fn tmps.size r.body = true ∧ ∀ p ∈ r.params.toList, p < tmps.size
 tn : K.tn = h.tn
 tok : ∀ t, alive h t = true → K.base ≤ (K.tk t).1 ∧ (∀ b : Nat, K.β[b]? ≠ some (K.tk t).1) ∧ (∀ j, (K.tk t).2.1 ≤ j → K.ic (K.tk t).1 j = none) ∧
  ∃ cells e fz, w.heap[(K.tk t).1]? = some (.cells cells e fz) ∧ cells.size = (K.tk t).2.2 ∧
   ∀ j, (K.tk t).2.1 ≤ j → j < cells.size → w.frozen? ⟨(K.tk t).1, j, none⟩ = false
 tokd : ∀ t t', alive h t = true → alive h t' = true → (K.tk t).1 = (K.tk t').1 → t = t'
 md : ∀ r ∈ K.md, K.base ≤ r ∧ w.heap[r]? = some (.deferred (some []))
 all : K.base = w0.heap.size

theorem Addr.add_none (g o n : Nat) : (⟨g, o, none⟩ : Addr).add n = ⟨g, o + n, none⟩ := by
 unfold Addr.add
 split
 ·subst_vars; rfl
 ·rfl

theorem alive_lt {h : Heap} {t : Nat} (ha : alive h t = true) : t < h.tn := by
 unfold alive at ha; simp at ha; exact ha.1

section
variable {K : Know} {G : Nat → Option (List AV)} {ok : FuncId → Nat → Code → Bool} {w0 w : World} {h : Heap}

theorem Sim.lt_of_cell (s : Sim K G ok w0 h w) {g j : Nat} {c : Value} (hc : K.ic g j = some c) : g < w.heap.size := by
 have := s.ic g j c hc
 unfold World.cell? at this
 rcases Nat.lt_or_ge g w.heap.size with hlt | hge
 ·exact hlt
 ·simp [Array.getElem?_eq_none hge] at this

theorem Sim.same {w' : World} (s : Sim K G ok w0 h w) (hh : w'.heap = w.heap) (ht : w'.tape = w.tape) (ho : w'.os = w.os) (hp : w'.output = w.output) : Sim K G ok w0 h w' := by
 have hc : ∀ a, w'.cell? a = w.cell? a := fun a => by simp [World.cell?, hh]
 have hf : ∀ a, w'.frozen? a = w.frozen? a := fun a => by simp [World.frozen?, hh]
 refine ⟨⟨ho.trans s.old.os, ht.trans s.old.tape, hp.trans s.old.output, by rw [hh]; exact s.old.size, fun k hk => by rw [hh]; exact s.old.block k hk⟩, by rw [hh]; exact s.size,
  fun g j c hg => (hc _).trans (s.ic g j c hg), s.glob, s.βlen, s.βnd, fun b g cs hb hc => by rw [hh]; exact s.box b g cs hb hc, s.γlen, s.γnd,
  fun l g r hl hr => by rw [hh]; exact s.loop l g r hl hr, s.tn, fun t ht => ?_, s.tokd, fun r hr => by rw [hh]; exact s.md r hr, s.all⟩
 obtain ⟨h1, h2, h3, cells, e, fz, h4, h5, h6⟩ := s.tok t ht
 exact ⟨h1, h2, h3, cells, e, fz, by rw [hh]; exact h4, h5, fun j hj hl => (hf _).trans (h6 j hj hl)⟩

theorem Sim.drew (s : Sim K G ok w0 h w) (n : Nat) : Sim K G ok w0 h { w with drawn := n } := s.same rfl rfl rfl rfl

theorem heap_push_old (w : World) (o : Obj) {k : Nat} (hk : k < w.heap.size) : (w.heap.push o)[k]? = w.heap[k]? := by
 rw [Array.getElem?_push, if_neg (by omega)]

theorem lt_of_heap {w : World} {g : Nat} {o : Obj} (h : w.heap[g]? = some o) : g < w.heap.size := by
 rcases Nat.lt_or_ge g w.heap.size with hlt | hge
 ·exact hlt
 ·rw [Array.getElem?_eq_none hge] at h; cases h

theorem Sim.push (s : Sim K G ok w0 h w) (o : Obj) : Sim K G ok w0 h { w with heap := w.heap.push o } := by
 have hk : ∀ {k : Nat} {o' : Obj}, w.heap[k]? = some o' → (w.heap.push o)[k]? = some o' := fun hk => (heap_push_old w o (lt_of_heap hk)).trans hk
 refine ⟨⟨s.old.os, s.old.tape, s.old.output, by have := s.old.size; simp; omega, fun k hk => (heap_push_old w o (Nat.lt_of_lt_of_le hk s.size)).trans (s.old.block k hk)⟩, by have := s.size; simp; omega,
  fun g j c hg => ?_, s.glob, s.βlen, s.βnd, fun b g cs hb hc => ?_, s.γlen, s.γnd, fun l g r hl hr => ?_, s.tn, fun t ht => ?_, s.tokd, fun r hr => ?_, s.all⟩
 ·rw [← s.ic g j c hg]
  exact World.cell?_of_block (w := w) (heap_push_old w o (s.lt_of_cell hg))
 ·obtain ⟨h1, h2, ha, cells, e, h3, h4⟩ := s.box b g cs hb hc
  exact ⟨h1, h2, ha, cells, e, hk h3, h4⟩
 ·obtain ⟨h1, fn, tmps, d, h2, h3⟩ := s.loop l g r hl hr
  exact ⟨h1, fn, tmps, d, hk h2, h3⟩
 ·obtain ⟨h1, h2, h3, cells, e, fz, h4, h5, h6⟩ := s.tok t ht
  refine ⟨h1, h2, h3, cells, e, fz, hk h4, h5, fun j hj hl => ?_⟩
  rw [← h6 j hj hl]
  exact World.frozen?_of_block (w := w) (heap_push_old w o (lt_of_heap h4))
 ·exact ⟨(s.md r hr).1, hk (s.md r hr).2⟩

theorem getElem?_snoc_old {α : Type} {l : List α} {x : α} {i : Nat} {y : α} (h : l[i]? = some y) : (l ++ [x])[i]? = some y := by
 rw [List.getElem?_append_left (List.getElem?_eq_some_iff.1 h).1]; exact h

theorem getElem?_snoc {α : Type} {l : List α} {x : α} {i : Nat} {y : α} (h : (l ++ [x])[i]? = some y) : l[i]? = some y ∨ (i = l.length ∧ y = x) := by
 rcases Nat.lt_trichotomy i l.length with hlt | heq | hgt
 ·rw [List.getElem?_append_left hlt] at h; exact .inl h
 ·subst heq; simp at h; exact .inr ⟨rfl, h.symm⟩
 ·rw [List.getElem?_eq_none (by simp; omega)] at h; cases h

def Know.boxL (K : Know) (g : Nat) (x : Option (Nat × Nat × Nat)) : Know := { K with β := K.β ++ [g], lb := fun b => if b = K.β.length then x else K.lb b }
def Know.box (K : Know) (g : Nat) : Know := K.boxL g none
theorem Know.le_boxL (K : Know) (g : Nat) (x : Option (Nat × Nat × Nat)) : K.Le (K.boxL g x) :=
 ⟨rfl, fun _ _ _ h => h, fun _ _ h => getElem?_snoc_old h, fun _ _ h => h, Nat.le_refl _, fun _ _ => rfl, fun _ h => h, fun b hb => if_neg (by omega)⟩
theorem Know.le_box (K : Know) (g : Nat) : K.Le (K.box g) := K.le_boxL g none

theorem Sim.newBoxL (s : Sim K G ok w0 h w) {cs : List AV} {cells : Array Value} (e : TypeId) (x : Option (Nat × Nat × Nat)) (hv : VsRel K cs (cells.toList.take cs.length)) (hac : cs.all AV.isCell = true)
 (hx : ∀ N sz room, x = some (N, sz, room) → cs = [] ∨ (cs.length = N * sz ∧ room ≤ cells.size)) :
 Sim (K.boxL w.heap.size x) G ok w0 { h with boxes := h.boxes ++ [cs] } { w with heap := w.heap.push (.cells cells e) } ∧
 VRel (K.boxL w.heap.size x) (.ptr (.box h.boxes.length) 0) (.pointer (some ⟨w.heap.size, 0, none⟩)) := by
 have le := K.le_boxL w.heap.size x
 have p := s.push (.cells cells e)
 have hnew : (K.boxL w.heap.size x).β[h.boxes.length]? = some w.heap.size := by simp [Know.boxL, ← s.βlen]
 have hlt : ∀ {b g : Nat}, K.β[b]? = some g → g < w.heap.size := fun {b g} hb => by
  have hbl : b < h.boxes.length := by rw [← s.βlen]; exact (List.getElem?_eq_some_iff.1 hb).1
  obtain ⟨_, _, _, _, _, h3, _⟩ := s.box b g _ hb (List.getElem?_eq_getElem hbl)
  exact lt_of_heap h3
 have hicn : ∀ j, K.ic w.heap.size j = none := fun j => by
  cases hc : K.ic w.heap.size j with
  | none => rfl
  | some c => have := s.lt_of_cell hc; omega
 refine ⟨⟨p.old, p.size, p.ic, fun g cs hg => ?_, by simp [Know.boxL, s.βlen], fun b b' g hb hb' => ?_, fun b g cs' hb hc => ?_, p.γlen, p.γnd, fun l g r hl hr => ?_, p.tn, fun t ht => ?_, p.tokd, p.md, s.all⟩, .box _ _ _ hnew⟩
 ·obtain ⟨cells', h1, h2⟩ := s.glob g cs hg
  exact ⟨cells', h1.mono le, h2⟩
 ·rcases getElem?_snoc hb with hb | ⟨rfl, rfl⟩ <;> rcases getElem?_snoc hb' with hb' | ⟨rfl, h2⟩
  ·rcases s.βnd _ _ _ hb hb' with p | p | p
   ·exact .inl p
   ·exact .inr (.inl (getElem?_snoc_old p))
   ·exact .inr (.inr (getElem?_snoc_old p))
  ·have := hlt hb; omega
  ·have := hlt hb'; omega
  ·exact .inl rfl
 ·rcases getElem?_snoc hb with hb | ⟨rfl, rfl⟩
  ·rcases getElem?_snoc hc with hc | ⟨rfl, rfl⟩
   ·obtain ⟨h1, h2, ha, cells', e', h3, h4⟩ := p.box b g cs' hb hc
    exact ⟨h1, h2, ha, cells', e', h3, h4.mono le (List.getElem?_eq_some_iff.1 hb).1⟩
   ·have : h.boxes.length < K.β.length := (List.getElem?_eq_some_iff.1 hb).1
    have := s.βlen; omega
  ·have : cs' = cs := by
    rw [s.βlen] at hc; simp at hc; exact hc.symm
   subst this
   exact ⟨s.size, hicn, hac, cells, e, by simp, hv.mono le, by simp only [Know.boxL, if_true]; exact hx⟩
 ·obtain ⟨h1, fn, tmps, d, h2, h3, h4⟩ := p.loop l g r hl hr
  exact ⟨h1, fn, tmps, d, h2, h3.mono le, h4⟩
 ·obtain ⟨h1, h2, h3, cells', e', fz, h4, h5⟩ := p.tok t ht
  refine ⟨h1, fun b hb => ?_, h3, cells', e', fz, h4, h5⟩
  obtain ⟨_, _, _, _, _, _, h4', _⟩ := s.tok t ht
  rcases getElem?_snoc hb with hb | ⟨_, hb⟩
  ·exact h2 b hb
  ·have := lt_of_heap h4'; simp only [Know.boxL] at hb; omega


theorem VsRel.whole {cs : List AV} {vs : List Value} (h : VsRel K cs vs) : VsRel K cs (vs.take cs.length) := by
 rw [List.take_of_length_le (by rw [h.length]; exact Nat.le_refl _)]; exact h
theorem Sim.newBox (s : Sim K G ok w0 h w) {cs : List AV} {cells : Array Value} (e : TypeId) (hv : VsRel K cs cells.toList) (hac : cs.all AV.isCell = true) :
 Sim (K.box w.heap.size) G ok w0 { h with boxes := h.boxes ++ [cs] } { w with heap := w.heap.push (.cells cells e) } ∧
 VRel (K.box w.heap.size) (.ptr (.box h.boxes.length) 0) (.pointer (some ⟨w.heap.size, 0, none⟩)) := s.newBoxL e none hv.whole hac (fun _ _ _ q => by cases q)

structure Chg (w w' : World) (g : Nat) (o : Obj) : Prop where
 os : w'.os = w.os
 tape : w'.tape = w.tape
 output : w'.output = w.output
 size : w'.heap.size = w.heap.size
 other : ∀ k, k ≠ g → w'.heap[k]? = w.heap[k]?
 this : w'.heap[g]? = some o

theorem Chg.lt {w w' : World} {g : Nat} {o : Obj} (c : Chg w w' g o) : g < w.heap.size := c.size ▸ lt_of_heap c.this

theorem Chg.below {w w' : World} {g : Nat} {o : Obj} (c : Chg w w' g o) {B : Nat} (hB : B ≤ g) : Below B w w' :=
 ⟨c.os, c.tape, c.output, by rw [c.size]; exact Nat.le_refl _, fun k hk => c.other k (by omega)⟩

def frz (fz : Nat × Nat) (j : Nat) : Bool := decide (fz.1 ≤ j) && decide (j < fz.2)

theorem frozen_of {w : World} {g : Nat} {cells : Array Value} {e : TypeId} {fz : Nat × Nat} (h : w.heap[g]? = some (.cells cells e fz)) (j : Nat) : w.frozen? ⟨g, j, none⟩ = frz fz j := by
 obtain ⟨lo, hi⟩ := fz
 simp [World.frozen?, h, frz]

theorem cell_of {w : World} {g : Nat} {cells : Array Value} {e : TypeId} {fz : Nat × Nat} (h : w.heap[g]? = some (.cells cells e fz)) (j : Nat) : w.cell? ⟨g, j, none⟩ = cells[j]? := by
 simp [World.cell?, h]

theorem Sim.dropBox (s : Sim K G ok w0 h w) (b : Nat) : Sim K G ok w0 { h with boxes := h.boxes.set b [] } w := by
 refine ⟨s.old, s.size, s.ic, s.glob, by simp [s.βlen], fun b1 b2 g h1 h2 => ?_, fun b' g' cs' hb' hc' => ?_, s.γlen, s.γnd, s.loop, s.tn, s.tok, s.tokd, s.md, s.all⟩
 ·have key : ∀ k, h.boxes[k]? = some [] → (h.boxes.set b [])[k]? = some [] := fun k hk => by
   rw [List.getElem?_set]
   split
   ·rename_i e; subst e
    rw [if_pos (List.getElem?_eq_some_iff.1 hk).1]
   ·exact hk
  rcases s.βnd _ _ _ h1 h2 with p | p | p
  ·exact .inl p
  ·exact .inr (.inl (key _ p))
  ·exact .inr (.inr (key _ p))
 ·simp only [List.getElem?_set] at hc'
  split at hc'
  ·rename_i e'; subst e'
   split at hc'
   ·rename_i hlt
    injection hc' with hc'; subst hc'
    obtain ⟨k1, k2, _, cells0, e0, k3, k4⟩ := s.box _ _ _ hb' (List.getElem?_eq_getElem hlt)
    exact ⟨k1, k2, rfl, cells0, e0, k3, .nil⟩
   ·cases hc'
  ·exact s.box b' g' cs' hb' hc'

theorem Sim.setBoxP {w' : World} (s : Sim K G ok w0 h w) {b g : Nat} {cs old : List AV} {cells : Array Value} {e : TypeId} (hb : K.β[b]? = some g) (hold : h.boxes[b]? = some old) (hne : old ≠ []) (hlen : cs.length = old.length) (hsz : ∀ c0 e0, w.heap[g]? = some (.cells c0 e0 (0, 0)) → c0.size ≤ cells.size)
 (c : Chg w w' g (.cells cells e (0, 0))) (hv : VsRel K cs (cells.toList.take cs.length)) (hac : cs.all AV.isCell = true) : Sim K G ok w0 { h with boxes := h.boxes.set b cs } w' := by
 have hlt := (List.getElem?_eq_some_iff.1 hold).1
 obtain ⟨k1, k2, _, cells0, e0, k3, k4⟩ := s.box b g _ hb hold
 refine ⟨s.old.trans (c.below k1), by rw [c.size]; exact s.size, fun g' j x hx => ?_, s.glob, by simp [s.βlen], fun b1 b2 g h1 h2 => ?_, fun b' g' cs' hb' hc' => ?_, s.γlen, s.γnd, fun l g' r hl hr => ?_, s.tn, fun t ht => ?_, s.tokd, fun r hr => ?_, s.all⟩
 ·have hne : g' ≠ g := by rintro rfl; rw [k2 j] at hx; cases hx
  rw [← s.ic g' j x hx]
  exact World.cell?_of_block (w := w) (c.other g' hne)
 ·have key : ∀ k, h.boxes[k]? = some [] → (h.boxes.set b cs)[k]? = some [] := fun k hk => by
   rw [List.getElem?_set, if_neg]
   ·exact hk
   ·rintro rfl
    rw [hold] at hk; injection hk with hk; exact hne hk
  rcases s.βnd _ _ _ h1 h2 with p | p | p
  ·exact .inl p
  ·exact .inr (.inl (key _ p))
  ·exact .inr (.inr (key _ p))
 ·simp only [List.getElem?_set] at hc'
  split at hc'
  ·rename_i e'; subst e'
   injection hc' with hc'; subst hc'
   rw [hb] at hb'; injection hb' with hb'; subst hb'
   refine ⟨k1, k2, hac, cells, e, c.this, hv, fun N sz room q => ?_⟩
   rcases k4.2 N sz room q with r | ⟨r1, r2⟩
   ·exact absurd r hne
   ·exact .inr ⟨hlen.trans r1, Nat.le_trans r2 (hsz _ _ k3)⟩
  ·rename_i hnb
   by_cases hgg : g' = g
   ·subst hgg
    rcases s.βnd _ _ _ hb hb' with p | p | p
    ·exact absurd p hnb
    ·rw [hold] at p; injection p with p; exact absurd p hne
    ·rw [hc'] at p; injection p with p; subst p
     exact ⟨k1, k2, rfl, cells, e, c.this, .nil⟩
   ·obtain ⟨h1, h2, ha, cells', e', h3, h4⟩ := s.box b' g' cs' hb' hc'
    exact ⟨h1, h2, ha, cells', e', (c.other g' hgg).trans h3, h4⟩
 ·obtain ⟨h1, fn, tmps, d, h2, h3⟩ := s.loop l g' r hl hr
  have hgg : g' ≠ g := by rintro rfl; rw [h2] at k3; cases k3
  exact ⟨h1, fn, tmps, d, (c.other g' hgg).trans h2, h3⟩
 ·obtain ⟨h1, h2, h3, cells', e', fz, h4, h5, h6⟩ := s.tok t ht
  have hgg : (K.tk t).1 ≠ g := fun e => h2 b (e ▸ hb)
  refine ⟨h1, h2, h3, cells', e', fz, (c.other _ hgg).trans h4, h5, fun j hj hl => ?_⟩
  rw [← h6 j hj hl]
  exact World.frozen?_of_block (w := w) (c.other _ hgg)
 ·have h2 := (s.md r hr).2
  have hgg : r ≠ g := by rintro rfl; rw [h2] at k3; cases k3
  exact ⟨(s.md r hr).1, (c.other r hgg).trans h2⟩

theorem Sim.takeBox {w' : World} (s : Sim K G ok w0 h w) {g : Nat} {cs : List AV} {cells : Array Value} {e : TypeId} (hg : K.base ≤ g) (hic : ∀ j, K.ic g j = none) (hdead : ∀ b : Nat, K.β[b]? = some g → h.boxes[b]? = some [])
 (htok : ∀ t, alive h t = true → (K.tk t).1 ≠ g) {c0 : Array Value} {e0 : TypeId} {z0 : Nat × Nat} (hwas : w.heap[g]? = some (.cells c0 e0 z0))
 (x : Option (Nat × Nat × Nat)) (hx : ∀ N sz room, x = some (N, sz, room) → cs = [] ∨ (cs.length = N * sz ∧ room ≤ cells.size))
 (c : Chg w w' g (.cells cells e (0, 0))) (hv : VsRel K cs (cells.toList.take cs.length)) (hac : cs.all AV.isCell = true) :
 Sim (K.boxL g x) G ok w0 { h with boxes := h.boxes ++ [cs] } w' ∧ (K.boxL g x).β[h.boxes.length]? = some g := by
 have le := K.le_boxL g x
 have hnew : (K.boxL g x).β[h.boxes.length]? = some g := by simp [Know.boxL, ← s.βlen]
 refine ⟨⟨s.old.trans (c.below hg), by rw [c.size]; exact s.size, fun g' j x hx => ?_, fun g' cs' hg' => ?_, by simp [Know.boxL, s.βlen], fun b b' g' hb hb' => ?_, fun b g' cs' hb hc => ?_, s.γlen, s.γnd, fun l g' r hl hr => ?_, s.tn, fun t ht => ?_, s.tokd, fun r hr => ?_, s.all⟩, hnew⟩
 ·have hx2 : K.ic g' j = some x := hx
  have hne : g' ≠ g := fun q => by rw [q, hic j] at hx2; cases hx2
  rw [← s.ic g' j x hx2]
  exact World.cell?_of_block (w := w) (c.other g' hne)
 ·obtain ⟨cells', h1, h2⟩ := s.glob g' cs' hg'
  exact ⟨cells', h1.mono le, h2⟩
 ·rcases getElem?_snoc hb with p | ⟨p1, p2⟩ <;> rcases getElem?_snoc hb' with q | ⟨q1, q2⟩
  ·rcases s.βnd _ _ _ p q with r | r | r
   ·exact .inl r
   ·exact .inr (.inl (getElem?_snoc_old r))
   ·exact .inr (.inr (getElem?_snoc_old r))
  ·subst q2
   exact .inr (.inl (getElem?_snoc_old (hdead _ p)))
  ·subst p2
   exact .inr (.inr (getElem?_snoc_old (hdead _ q)))
  ·exact .inl (by rw [p1, q1])
 ·rcases getElem?_snoc hb with p | ⟨p1, p2⟩
  ·have hbl : b < h.boxes.length := by rw [← s.βlen]; exact (List.getElem?_eq_some_iff.1 p).1
   rw [List.getElem?_append_left hbl] at hc
   by_cases hgg : g' = g
   ·subst hgg
    have := hdead b p
    rw [hc] at this; injection this with this; subst this
    exact ⟨hg, hic, rfl, cells, e, c.this, .nil⟩
   ·obtain ⟨h1, h2, ha, cells', e', h3, h4⟩ := s.box b g' cs' p hc
    exact ⟨h1, h2, ha, cells', e', (c.other g' hgg).trans h3, h4.mono le (List.getElem?_eq_some_iff.1 p).1⟩
  ·subst p2
   have : cs' = cs := by
    rw [p1, s.βlen] at hc; simp at hc; exact hc.symm
   subst this
   exact ⟨hg, hic, hac, cells, e, c.this, hv.mono le, by rw [p1]; simp only [Know.boxL, if_true]; exact hx⟩
 ·obtain ⟨h1, fn, tmps, d, h2, h3, h4⟩ := s.loop l g' r hl hr
  have hgg : g' ≠ g := by rintro rfl; rw [h2] at hwas; cases hwas
  exact ⟨h1, fn, tmps, d, (c.other g' hgg).trans h2, h3.mono le, h4⟩
 ·obtain ⟨h1, h2, h3, cells', e', fz, h4, h5, h6⟩ := s.tok t ht
  have hgg := htok t ht
  refine ⟨h1, fun b hb => ?_, h3, cells', e', fz, (c.other _ hgg).trans h4, h5, fun j hj hl => ?_⟩
  ·rcases getElem?_snoc hb with p | ⟨-, p⟩
   ·exact h2 b p
   ·exact hgg p
  ·rw [← h6 j hj hl]
   exact World.frozen?_of_block (w := w) (c.other _ hgg)
 ·have h2 := (s.md r hr).2
  have hgg : r ≠ g := by rintro rfl; rw [h2] at hwas; cases hwas
  exact ⟨(s.md r hr).1, (c.other r hgg).trans h2⟩

def Know.row (K : Know) (g off m size : Nat) (cells : Nat → Option Value) : Know :=
 { K with ic := fun g' j => if g' = g ∧ off ≤ j ∧ j < m then cells j else K.ic g' j, tn := K.tn + 1, tk := fun t => if t = K.tn then (g, m, size) else K.tk t }

theorem Know.le_row {K : Know} {g off m size : Nat} {cells : Nat → Option Value} (h : ∀ j, off ≤ j → K.ic g j = none) : K.Le (K.row g off m size cells) := by
 refine ⟨rfl, fun g' j c hc => ?_, fun _ _ h => h, fun _ _ h => h, Nat.le_succ _, fun t ht => ?_, fun _ h => h, fun _ _ => rfl⟩
 ·simp only [Know.row]
  rw [if_neg]
  ·exact hc
  ·rintro ⟨rfl, h1, _⟩
   rw [h j h1] at hc; cases hc
 ·simp only [Know.row]
  rw [if_neg (by omega)]

theorem Sim.row {w' : World} {h' : Heap} (s : Sim K G ok w0 h w) {g off m : Nat} {cells : Array Value} {e : TypeId} {fz : Nat × Nat}
 (hbox : h'.boxes = h.boxes) (hloop : h'.loops = h.loops) (htn : h'.tn = h.tn + 1) (hal : ∀ t, alive h' t = true → t = h.tn ∨ (alive h t = true ∧ (K.tk t).1 ≠ g))
 (hbase : K.base ≤ g) (hnb : ∀ b : Nat, K.β[b]? ≠ some g) (hic : ∀ j, off ≤ j → K.ic g j = none) (hsz : w.heap.size ≤ w'.heap.size)
 (hos : w'.os = w.os) (htape : w'.tape = w.tape) (hout : w'.output = w.output)
 (hother : ∀ k o, k ≠ g → w.heap[k]? = some o → w'.heap[k]? = some o) (hthis : w'.heap[g]? = some (.cells cells e fz))
 (hwas : ∀ o, w.heap[g]? = some o → ∃ c0 e0 z0, o = .cells c0 e0 z0)
 (hkeep : ∀ j c, K.ic g j = some c → cells[j]? = some c) (hom : off ≤ m) (_hm : m ≤ cells.size) (hfz : ∀ j, m ≤ j → j < cells.size → frz fz j = false) :
 Sim (K.row g off m cells.size (fun j => cells[j]?)) G ok w0 h' w' := by
 have le := Know.le_row (m := m) (size := cells.size) (cells := fun j => cells[j]?) hic
 refine ⟨?_, Nat.le_trans s.size hsz, fun g' j x hx => ?_, fun g' cs hg => ?_, by rw [hbox]; exact s.βlen, by rw [hbox]; exact s.βnd, fun b g' cs hb hc => ?_, by rw [hloop]; exact s.γlen, s.γnd, fun l g' r hl hr => ?_, by rw [htn]; simp [Know.row, s.tn],
  fun t ht => ?_, fun t t' ht ht' heq => ?_, fun r hr => ?_, s.all⟩
 ·refine s.old.trans ⟨hos, htape, hout, hsz, fun k hk => ?_⟩
  have hlt : k < w.heap.size := Nat.lt_of_lt_of_le hk s.size
  have hk' : w.heap[k]? = some (w.heap[k]) := Array.getElem?_eq_getElem hlt
  have hkb : k < K.base := hk
  rw [hk']
  exact hother k _ (by omega) hk'
 ·simp only [Know.row] at hx
  split at hx
  ·rename_i hc
   obtain ⟨rfl, _, _⟩ := hc
   rw [cell_of hthis]; exact hx
  ·by_cases hgg : g' = g
   ·subst hgg
    rw [cell_of hthis]; exact hkeep j x hx
   ·have hlt := s.lt_of_cell hx
    rw [← s.ic g' j x hx]
    refine World.cell?_of_block (w := w) ?_
    simp only
    rw [Array.getElem?_eq_getElem hlt]
    exact hother g' _ hgg (Array.getElem?_eq_getElem hlt)
 ·obtain ⟨cells', h1, h2⟩ := s.glob g' cs hg
  exact ⟨cells', h1.mono le, fun j c hj => le.ic _ _ _ (h2 j c hj)⟩
 ·rw [hbox] at hc
  obtain ⟨h1, h2, ha, cells', e', h3, h4⟩ := s.box b g' cs hb hc
  have hgg : g' ≠ g := fun e => hnb b (e ▸ hb)
  refine ⟨h1, fun j => ?_, ha, cells', e', hother g' _ hgg h3, h4.mono le (List.getElem?_eq_some_iff.1 hb).1⟩
  simp only [Know.row]
  rw [if_neg (fun hh => hgg hh.1)]
  exact h2 j
 ·rw [hloop] at hr
  obtain ⟨h1, fn, tmps, d, h2, h3, h4⟩ := s.loop l g' r hl hr
  have hgg : g' ≠ g := by
   rintro rfl
   obtain ⟨_, _, _, h⟩ := hwas _ h2
   cases h
  exact ⟨h1, fn, tmps, d, hother g' _ hgg h2, h3.mono le, h4⟩
 ·rcases hal t ht with rfl | ⟨hta, htg⟩
  ·simp only [Know.row, s.tn, if_true]
   refine ⟨hbase, hnb, fun j hj => ?_, cells, e, fz, hthis, rfl, fun j hj hl => (frozen_of hthis j).trans (hfz j hj hl)⟩
   rw [if_neg (by omega)]
   exact hic j (by omega)
  ·have htn' := alive_lt hta
   have e1 : (K.row g off m cells.size (fun j => cells[j]?)).tk t = K.tk t := le.tk t (by rw [s.tn]; exact htn')
   rw [e1]
   obtain ⟨h1, h2, h3, cells', e', fz', h4, h5, h6⟩ := s.tok t hta
   refine ⟨h1, h2, fun j hj => ?_, cells', e', fz', hother _ _ htg h4, h5, fun j hj hl => ?_⟩
   ·simp only [Know.row]
    rw [if_neg (fun hh => htg hh.1)]
    exact h3 j hj
   ·rw [← h6 j hj hl, frozen_of h4, frozen_of (hother _ _ htg h4)]
 ·rcases hal t ht with rfl | ⟨hta, htg⟩ <;> rcases hal t' ht' with rfl | ⟨hta', htg'⟩
  ·rfl
  ·exfalso
   have e1 : (K.row g off m cells.size (fun j => cells[j]?)).tk t' = K.tk t' := le.tk t' (by rw [s.tn]; exact alive_lt hta')
   rw [e1] at heq
   simp [Know.row, s.tn] at heq
   exact htg' heq.symm
  ·exfalso
   have e1 : (K.row g off m cells.size (fun j => cells[j]?)).tk t = K.tk t := le.tk t (by rw [s.tn]; exact alive_lt hta)
   rw [e1] at heq
   simp [Know.row, s.tn] at heq
   exact htg heq
  ·have e1 : (K.row g off m cells.size (fun j => cells[j]?)).tk t = K.tk t := le.tk t (by rw [s.tn]; exact alive_lt hta)
   have e2 : (K.row g off m cells.size (fun j => cells[j]?)).tk t' = K.tk t' := le.tk t' (by rw [s.tn]; exact alive_lt hta')
   rw [e1, e2] at heq
   exact s.tokd t t' hta hta' heq
 ·obtain ⟨h1, h2⟩ := s.md r hr
  have hgg : r ≠ g := by
   rintro rfl
   obtain ⟨_, _, _, h⟩ := hwas _ h2
   cases h
  exact ⟨h1, hother r _ hgg h2⟩

def Know.tight (K : Know) (g : Nat) (cells : Array Value) : Know := { K with ic := fun g' j => if g' = g then cells[j]? else K.ic g' j }

theorem Sim.newTight (s : Sim K G ok w0 h w) (cells : Array Value) (e : TypeId) :
 K.Le (K.tight w.heap.size cells) ∧ Sim (K.tight w.heap.size cells) G ok w0 h { w with heap := w.heap.push (.cells cells e) } := by
 have hicn : ∀ j, K.ic w.heap.size j = none := fun j => by
  cases hc : K.ic w.heap.size j with
  | none => rfl
  | some c => have := s.lt_of_cell hc; omega
 have le : K.Le (K.tight w.heap.size cells) := by
  refine ⟨rfl, fun g j c hc => ?_, fun _ _ h => h, fun _ _ h => h, Nat.le_refl _, fun _ _ => rfl, fun _ h => h, fun _ _ => rfl⟩
  simp only [Know.tight]
  rw [if_neg]
  ·exact hc
  ·rintro rfl
   rw [hicn] at hc; cases hc
 have p := s.push (.cells cells e)
 refine ⟨le, p.old, p.size, fun g j x hx => ?_, fun g cs hg => ?_, p.βlen, p.βnd, fun b g cs hb hc => ?_, p.γlen, p.γnd, fun l g r hl hr => ?_, p.tn, fun t ht => ?_, p.tokd, p.md, s.all⟩
 ·simp only [Know.tight] at hx
  split at hx
  ·subst_vars
   rw [cell_of (cells := cells) (e := e) (fz := (0, 0)) (by simp)]; exact hx
  ·exact p.ic g j x hx
 ·obtain ⟨cells', h1, h2⟩ := s.glob g cs hg
  exact ⟨cells', h1.mono le, fun j c hj => le.ic _ _ _ (h2 j c hj)⟩
 ·obtain ⟨h1, h2, ha, cells', e', h3, h4⟩ := p.box b g cs hb hc
  refine ⟨h1, fun j => ?_, ha, cells', e', h3, h4.mono le (List.getElem?_eq_some_iff.1 hb).1⟩
  simp only [Know.tight]
  obtain ⟨_, _, _, _, _, h3', _⟩ := s.box b g cs hb hc
  rw [if_neg (by have := lt_of_heap h3'; omega)]
  exact h2 j
 ·obtain ⟨h1, fn, tmps, d, h2, h3, h4⟩ := p.loop l g r hl hr
  exact ⟨h1, fn, tmps, d, h2, h3.mono le, h4⟩
 ·obtain ⟨h1, h2, h3, cells', e', fz, h4, h5⟩ := p.tok t ht
  obtain ⟨_, _, _, _, _, _, h4', _⟩ := s.tok t ht
  refine ⟨h1, h2, fun j hj => ?_, cells', e', fz, h4, h5⟩
  simp only [Know.tight]
  have := lt_of_heap h4'
  have e1 : (K.tight w.heap.size cells).tk t = K.tk t := rfl
  rw [if_neg (by show (K.tk t).1 ≠ _; omega)]
  exact h3 j hj

end
end Go.AE
end

section
namespace Go.AE
open Go.RowKit (Below)

section
variable {P : Program}

theorem run_und {t : TypeId} {d : TypeDesc} (h : P.underlying t = some d) (w : World) : (underlying t).run P w = .ok d w := run_underlying h w

theorem run_info {t : TypeId} {i : TypeInfo} (h : P.info? t = some i) (w : World) : (typeInfo t).run P w = .ok i w := by simp [typeInfo, h]

theorem sizeB_info {t : TypeId} {n : Nat} (h : sizeB P t = some n) : ∃ i, P.info? t = some i ∧ i.size = n := by
 simpa [sizeB] using h

theorem run_size {t : TypeId} {n : Nat} (h : sizeB P t = some n) (w : World) : (sizeOf t).run P w = .ok n w := by
 obtain ⟨i, h1, h2⟩ := sizeB_info h
 simp [sizeOf, run_info h1, h2]

theorem run_isAgg {t : TypeId} {b : Bool} (h : isAggB P t = some b) (w : World) : (isAgg t).run P w = .ok b w := by
 unfold isAggB at h
 unfold isAgg
 cases hu : P.underlying t with
 | none => rw [hu] at h; cases h
 | some d =>
  rw [hu] at h
  rw [Sem.run_bind, run_und hu]
  cases d <;> (injection h with h; subst h; rfl)

theorem run_zero {t : TypeId} {z : AV} (h : zeroA P t = some z) (w : World) : ∃ v, (zeroValue t).run P w = .ok v w ∧ z = ofVal v := by
 unfold zeroA at h
 split at h
 ·rename_i i hi
  simp only [Option.map_eq_some_iff] at h
  obtain ⟨v, hv, rfl⟩ := h
  exact ⟨v, by simp [zeroValue, run_info hi, hv], rfl⟩
 ·cases h

theorem flatten_row {α : Type} {es : List (List α)} {sz : Nat} (hr : ∀ r ∈ es, r.length = sz) : ∀ {i : Nat} {row : List α}, es[i]? = some row → (es.flatten.drop (i * sz)).take sz = row := by
 induction es with
 | nil => intro i row h; simp at h
 | cons r es ih =>
  have hl : r.length = sz := hr r (by simp)
  intro i row h
  cases i with
  | zero => simp at h; subst h; simp [← hl]
  | succ i =>
   have := ih (fun r hr' => hr r (by simp [hr'])) (i := i) (row := row) (by simpa using h)
   rw [← this]
   simp only [List.flatten_cons]
   rw [List.drop_append, show (i + 1) * sz = r.length + i * sz by rw [hl, Nat.add_mul]; omega]
   rw [List.drop_of_length_le (by omega)]
   simp

theorem flatten_take {α : Type} {es : List (List α)} {sz : Nat} (hr : ∀ r ∈ es, r.length = sz) : ∀ n : Nat, (es.take n).flatten = es.flatten.take (n * sz) := by
 induction es with
 | nil => intro n; simp
 | cons r es ih =>
  have hl : r.length = sz := hr r (by simp)
  intro n
  cases n with
  | zero => simp
  | succ n =>
   rw [List.take_succ_cons, List.flatten_cons, List.flatten_cons, ih (fun r hm => hr r (by simp [hm])) n, show (n + 1) * sz = r.length + n * sz by rw [hl, Nat.add_mul]; omega]
   rw [List.take_append, List.take_of_length_le (show r.length ≤ r.length + n * sz by omega), show r.length + n * sz - r.length = n * sz by omega]

theorem flatten_drop {α : Type} {es : List (List α)} {sz : Nat} (hr : ∀ r ∈ es, r.length = sz) : ∀ n : Nat, (es.drop n).flatten = es.flatten.drop (n * sz) := by
 induction es with
 | nil => intro n; simp
 | cons r es ih =>
  have hl : r.length = sz := hr r (by simp)
  intro n
  cases n with
  | zero => simp
  | succ n =>
   rw [List.drop_succ_cons, List.flatten_cons, ih (fun r hm => hr r (by simp [hm])) n, show (n + 1) * sz = r.length + n * sz by rw [hl, Nat.add_mul]; omega]
   rw [List.drop_append, List.drop_of_length_le (show r.length ≤ r.length + n * sz by omega), show r.length + n * sz - r.length = n * sz by omega]
   simp

theorem flatten_length {α : Type} {es : List (List α)} {sz : Nat} (hr : ∀ r ∈ es, r.length = sz) : es.flatten.length = es.length * sz := by
 induction es with
 | nil => simp
 | cons r es ih =>
  rw [List.flatten_cons, List.length_append, ih (fun r hr' => hr r (by simp [hr'])), hr r (by simp), List.length_cons, Nat.add_mul]; omega

end

section
variable {P : Program} {K : Know} {G : Nat → Option (List AV)} {ok : FuncId → Nat → Code → Bool} {w0 w : World} {h : Heap}

theorem βsome {b : Nat} {g : Nat} (s : Sim K G ok w0 h w) (hb : K.β[b]? = some g) : ∃ cs, h.boxes[b]? = some cs := by
 have hbl : b < h.boxes.length := by rw [← s.βlen]; exact (List.getElem?_eq_some_iff.1 hb).1
 exact ⟨_, List.getElem?_eq_getElem hbl⟩

theorem cellsAt_rel (s : Sim K G ok w0 h w) {a : AV} {cs : List AV} (hc : cellsAt G h a = some cs) {ca : Value} (hv : VRel K a ca) :
 ∃ g p vals, ca = .pointer (some ⟨g, p, none⟩) ∧ VsRel K cs vals ∧ ∀ (j : Nat) (c : Value), vals[j]? = some c → w.cell? ⟨g, p + j, none⟩ = some c := by
 unfold cellsAt at hc
 split at hc
 ·rename_i r off
  simp only [Option.map_eq_some_iff] at hc
  obtain ⟨cs0, h0, rfl⟩ := hc
  cases hv with
  | box b g _ hb =>
   obtain ⟨_, _, _, cells, e, h3, h4⟩ := s.box b g cs0 hb h0
   refine ⟨g, off, (cells.toList.take cs0.length).drop off, rfl, h4.1.drop off, fun j c hj => ?_⟩
   rw [cell_of h3]
   simp only [List.getElem?_drop, List.getElem?_take] at hj
   split at hj
   ·simpa using hj
   ·cases hj
  | glob g _ =>
   obtain ⟨cells, h1, h2⟩ := s.glob g cs0 h0
   refine ⟨g, off, cells.drop off, rfl, h1.drop off, fun j c hj => ?_⟩
   exact s.ic _ _ _ (h2 (off + j) c (by simpa using hj))
 ·rename_i sz es i off
  simp only [Option.map_eq_some_iff] at hc
  obtain ⟨row, h0, rfl⟩ := hc
  cases hv with
  | elem _ _ _ _ g o p cells hr hvs hic hi hp ha =>
   refine ⟨g, p, ((cells.drop (i * sz)).take sz).drop off, rfl, ?_, fun j c hj => ?_⟩
   ·have := ((hvs.drop (i * sz)).take sz).drop off
    rwa [flatten_row hr h0] at this
   ·refine s.ic _ _ _ ?_
    have h1 : cells[i * sz + off + j]? = some c := by
     simp only [List.getElem?_drop, List.getElem?_take] at hj
     split at hj
     ·rw [← hj]; congr 1; omega
     ·cases hj
    have := hic _ _ h1
    rw [hp]
    rw [← this]; congr 1; omega
 ·cases hc

theorem load_rel (s : Sim K G ok w0 h w) {t : TypeId} {a x : AV} (he : loadEv P G h t a = some x) {ca : Value} (hv : VRel K a ca) :
 ∃ g p v, ca = .pointer (some ⟨g, p, none⟩) ∧ (loadVar t ⟨g, p, none⟩).run P w = .ok v w ∧ VRel K x v := by
 unfold loadEv at he
 split at he
 ·rename_i cs hag hcs
  obtain ⟨g, p, vals, rfl, hvs, hcell⟩ := cellsAt_rel s hcs hv
  split at he
  ·rename_i n hn
   split at he
   ·rename_i hle
    injection he with he; subst he
    have hl := run_loadCells_list (P := P) w ⟨g, p, none⟩ (vals.take n) (fun j v hj => by
     rw [Addr.add_none]
     refine hcell j v ?_
     simp only [List.getElem?_take] at hj
     split at hj
     ·exact hj
     ·cases hj)
    have hlen : (vals.take n).length = n := by rw [List.length_take, ← hvs.length]; omega
    rw [hlen] at hl
    exact ⟨g, p, .agg (vals.take n).toArray, rfl, by simp [loadVar, run_isAgg hag, run_size hn, hl], .agg _ _ (by simpa using hvs.take n)⟩
   ·cases he
  ·cases he
 ·rename_i cs hag hcs
  obtain ⟨g, p, vals, rfl, hvs, hcell⟩ := cellsAt_rel s hcs hv
  cases cs with
  | nil => simp at he
  | cons y cs =>
   simp at he; subst he
   cases hvs with
   | cons _ c _ cs' hx hs =>
    have := hcell 0 c rfl
    simp only [Nat.add_zero] at this
    exact ⟨g, p, c, rfl, by simp [loadVar, run_isAgg hag, this], hx⟩
 ·cases he

theorem run_storeCells {g : Nat} (off : Nat) (e : TypeId) (fz : Nat × Nat) : ∀ (vs : List Value) (i : Nat) (cells : Array Value) (w : World),
 w.heap[g]? = some (.cells cells e fz) → off + i + vs.length ≤ cells.size → (∀ v ∈ vs, isOne v = true) → (∀ j, off + i ≤ j → j < off + i + vs.length → frz fz j = false) →
 ∃ w' cells', (storeCells ⟨g, off, none⟩ vs i).run P w = .ok () w' ∧ Chg w w' g (.cells cells' e fz) ∧
  cells'.toList = cells.toList.take (off + i) ++ vs ++ cells.toList.drop (off + i + vs.length) := by
 intro vs
 induction vs with
 | nil =>
  intro i cells w hg hl h1 hf
  exact ⟨w, cells, rfl, ⟨rfl, rfl, rfl, rfl, fun _ _ => rfl, hg⟩, by simp⟩
 | cons v rest ih =>
  intro i cells w hg hl h1 hf
  simp only [List.length_cons] at hl hf
  have hi : off + i < cells.size := by omega
  have hv : v.oneCell' = true := by have := h1 v (by simp); cases v <;> first | rfl | simp [isOne] at this
  have hst : (store ((⟨g, off, none⟩ : Addr).add i) v).run P w = .ok () (w.setCell ⟨g, off + i, none⟩ v) := by
   rw [Addr.add_none, run_store P w _ v _ hv, cell_of hg, frozen_of hg, hf (off + i) (by omega) (by omega), Array.getElem?_eq_getElem hi]
   simp
  have hthis : (w.setCell ⟨g, off + i, none⟩ v).heap[g]? = some (.cells (cells.setIfInBounds (off + i) v) e fz) := by
   simp [World.setCell, Array.getElem?_modify, hg]
  obtain ⟨w', cells', hr, hc, hcells⟩ := ih (i + 1) _ _ hthis (by simp; omega) (fun x hx => h1 x (by simp [hx])) (fun j hj hj' => hf j (by omega) (by omega))
  refine ⟨w', cells', by simp only [storeCells, Sem.run_bind, hst, Result.andThen_ok, hr], ⟨hc.os, hc.tape, hc.output, by rw [hc.size]; simp [World.setCell], fun k hk => ?_, hc.this⟩, ?_⟩
  ·rw [hc.other k hk]
   simp only [World.setCell, Array.getElem?_modify]
   rw [if_neg (by exact fun e => hk e.symm)]
  ·rw [hcells]
   simp only [Array.toList_setIfInBounds, List.length_cons]
   have hlen : off + i < cells.toList.length := by simpa using hi
   rw [List.set_eq_take_append_cons_drop, if_pos hlen]
   rw [show off + (i + 1) = off + i + 1 by omega, show off + i + (rest.length + 1) = off + i + 1 + rest.length by omega]
   rw [List.take_append, List.drop_append]
   have h1 : (cells.toList.take (off + i)).length = off + i := by simp; omega
   rw [h1]
   have h2 : (cells.toList.take (off + i)).take (off + i + 1) = cells.toList.take (off + i) := List.take_of_length_le (by omega)
   have h3 : (cells.toList.take (off + i)).drop (off + i + 1 + rest.length) = [] := List.drop_of_length_le (by omega)
   rw [h2, h3]
   have h4 : off + i + 1 - (off + i) = 1 := by omega
   have h5 : off + i + 1 + rest.length - (off + i) = rest.length + 1 := by omega
   rw [h4, h5]
   simp

theorem run_storeArr {g off off' cap : Nat} {e : TypeId} (hoo : off' = off ∨ cap = 0) {vs : List Value} {cells : Array Value} {w : World} (hz : cap = 0 → vs = []) (hg : w.heap[g]? = some (.cells cells e (0, 0))) (hl : off + vs.length ≤ cells.size) (h1 : ∀ v ∈ vs, isOne v = true) :
 ∃ w' cells', (storeCells ⟨g, off', none⟩ vs 0).run P w = .ok () w' ∧ Chg w w' g (.cells cells' e (0, 0)) ∧ cells'.toList = cells.toList.take (off + 0) ++ vs ++ cells.toList.drop (off + 0 + vs.length) := by
 rcases hoo with rfl | h0
 ·exact run_storeCells _ e (0, 0) vs 0 cells w hg (by omega) h1 (fun j _ _ => by simp [frz])
 ·have := hz h0
  subst this
  exact ⟨w, cells, rfl, ⟨rfl, rfl, rfl, rfl, fun _ _ => rfl, hg⟩, by simp⟩

theorem splice_rel {old cs : List AV} {vo vc : List Value} (off : Nat) (h1 : VsRel K old vo) (h2 : VsRel K cs vc) : VsRel K (splice old off cs) (vo.take off ++ vc ++ vo.drop (off + vc.length)) := by
 unfold splice
 rw [h2.length]
 exact ((h1.take off).append h2).append (h1.drop _)

theorem splice_cell {old cs : List AV} (off : Nat) (h1 : old.all AV.isCell = true) (h2 : cs.all AV.isCell = true) : (splice old off cs).all AV.isCell = true := by
 rw [List.all_eq_true] at h1 h2 ⊢
 intro x hx
 simp only [splice, List.mem_append] at hx
 rcases hx with (hx | hx) | hx
 ·exact h1 x (List.mem_of_mem_take hx)
 ·exact h2 x hx
 ·exact h1 x (List.mem_of_mem_drop hx)

theorem splice_len {α : Type} {vo vc : List α} {off : Nat} (h : off + vc.length ≤ vo.length) : (vo.take off ++ vc ++ vo.drop (off + vc.length)).length = vo.length := by
 simp only [List.length_append, List.length_take, List.length_drop]; omega
theorem splice_take {α : Type} {vo vc : List α} {off n : Nat} (h : off + vc.length ≤ n) (hn : n ≤ vo.length) : (vo.take off ++ vc ++ vo.drop (off + vc.length)).take n = (vo.take n).take off ++ vc ++ (vo.take n).drop (off + vc.length) := by
 have e1 : (vo.take n).take off = vo.take off := by rw [List.take_take, Nat.min_eq_left (by omega)]
 have e2 : (vo.take n).drop (off + vc.length) = (vo.drop (off + vc.length)).take (n - (off + vc.length)) := by rw [List.drop_take]
 rw [e1, e2, List.take_append]
 have h1 : (vo.take off ++ vc).length = off + vc.length := by simp; omega
 rw [List.take_of_length_le (by omega), h1]

theorem Chg.same {w w' : World} {g : Nat} {o : Obj} (c : Chg w w' g o) (h : w.heap[g]? = some o) : w'.heap = w.heap := by
 apply Array.ext_getElem?
 intro k
 by_cases hk : k = g
 ·subst hk; rw [c.this, h]
 ·exact c.other k hk

theorem Sim.storeBox {w' : World} (s : Sim K G ok w0 h w) {b g off : Nat} {cs old : List AV} {vs : List Value} {cells cells' : Array Value} {e : TypeId} (hb : K.β[b]? = some g) (hold : h.boxes[b]? = some old) (hfit : off + cs.length ≤ old.length)
 (hthis : w.heap[g]? = some (.cells cells e (0, 0))) (c : Chg w w' g (.cells cells' e (0, 0))) (hcells : cells'.toList = cells.toList.take (off + 0) ++ vs ++ cells.toList.drop (off + 0 + vs.length)) (hv : VsRel K cs vs) (hac : cs.all AV.isCell = true) :
 Sim K G ok w0 { h with boxes := h.boxes.set b (splice old off cs) } w' := by
 obtain ⟨k1, k2, ka, cells0, e0, k3, k4⟩ := s.box b g old hb hold
 rw [hthis] at k3
 injection k3 with k3
 injection k3 with k3 k3'
 subst k3
 simp only [Nat.add_zero] at hcells
 have hle : old.length ≤ cells.toList.length := by
  have := k4.le
  simpa using this
 by_cases hne : old = []
 ·subst hne
  have hc : cs = [] := by cases cs with | nil => rfl | cons _ _ => simp at hfit
  subst hc
  have hvs : vs = [] := by cases hv; rfl
  subst hvs
  have hw : cells' = cells := by
   apply Array.toList_inj.1
   rw [hcells]; simp
  subst hw
  have hh := c.same hthis
  have hset : h.boxes.set b (splice [] off []) = h.boxes := by
   rw [show splice ([] : List AV) off [] = [] by simp [splice]]
   apply List.ext_getElem?
   intro k
   rw [List.getElem?_set]
   split
   ·rename_i e; subst e
    rw [if_pos (List.getElem?_eq_some_iff.1 hold).1, hold]
   ·rfl
  rw [hset]
  exact s.same hh c.tape c.os c.output
 ·have hl : (splice old off cs).length = old.length := by unfold splice; exact splice_len hfit
  refine s.setBoxP hb hold hne hl (fun c0 e0 q => ?_) c ?_ (splice_cell off ka hac)
  ·rw [hthis] at q
   injection q with q
   injection q with q
   subst q
   have : cells'.toList.length = cells.toList.length := by
    rw [hcells]; exact splice_len (by rw [← hv.length]; omega)
   simp only [Array.length_toList] at this
   omega
  ·rw [hl, hcells, splice_take (by rw [← hv.length]; exact hfit) hle]
   exact splice_rel off k4.1 hv

theorem all_one {cs : List AV} {vs : List Value} (h : VsRel K cs vs) (ha : cs.all AV.isCell = true) : ∀ v ∈ vs, isOne v = true := by
 intro v hv
 obtain ⟨i, hi⟩ := List.getElem?_of_mem hv
 obtain ⟨x, hx, hr⟩ := h.get' hi
 exact isCell_one (List.all_eq_true.1 ha x (List.mem_of_getElem? hx)) hr

theorem frz00 (j : Nat) : frz (0, 0) j = false := by simp [frz]

theorem store_rel (s : Sim K G ok w0 h w) {t : TypeId} {a x : AV} {h' : Heap} (he : storeEv P h t a x = some h') {ca cx : Value} (hv : VRel K a ca) (hx : VRel K x cx) :
 ∃ w', (Instr.storeAt t ca cx).run P w = .ok () w' ∧ Sim K G ok w0 h' w' := by
 unfold storeEv at he
 split at he
 ·rename_i b off cs n hcs hn
  split at he
  ·rename_i old hold
   split at he
   ·rename_i hlen
    injection he with he; subst he
    cases hv with
    | box _ g _ hb =>
     obtain ⟨k1, k2, ka, cells, e, k3, k4⟩ := s.box b g old hb hold
     obtain ⟨r1, r2⟩ := cellsO_rel hcs hx
     have hsz : cx.cells.size = n := by rw [← hlen.1, r1.length]; simp
     have hsz2 : old.length ≤ cells.size := k4.le
     obtain ⟨w', cells', q1, q2, q3⟩ := run_storeCells (P := P) off e (0, 0) cx.cells.toList 0 cells w k3 (by simp; omega) (all_one r1 r2) (fun j _ _ => frz00 j)
     refine ⟨w', by simp [Instr.storeAt, Instr.sureAddr, storeVar, run_size hn, hsz, q1], s.storeBox hb hold (by omega) k3 q2 q3 r1 r2⟩
   ·cases he
  ·cases he
 ·cases he

end
end Go.AE
end

section
namespace Go.AE
open Go.RowKit (Below)

section
variable {P : Program} {K : Know} {G : Nat → Option (List AV)} {ok : FuncId → Nat → Code → Bool} {w0 w : World} {h : Heap}

def Yields (K : Know) (G : Nat → Option (List AV)) (ok : FuncId → Nat → Code → Bool) (w0 : World) (x : AV) (h' : Heap) (r : Result Next) : Prop :=
 ∃ K' v w', K.Le K' ∧ Sim K' G ok w0 h' w' ∧ VRel K' x v ∧ (r = .ok (.value v) w' ∨ (r = .ok .skip w' ∧ v = undef))

theorem Yields.of_pure (s : Sim K G ok w0 h w) {x : AV} {v : Value} (hx : VRel K x v) {r : Result Next} (hr : r = .ok (.value v) w) : Yields K G ok w0 x h r :=
 ⟨K, v, w, .refl K, s, hx, .inl hr⟩

theorem foldl_set (off : Nat) : ∀ (l : List Value) (i : Nat) (cells : Array Value), off + i + l.length ≤ cells.size →
 ((l.zipIdx i).foldl (fun cs p => cs.setIfInBounds (off + p.2) p.1) cells).toList = cells.toList.take (off + i) ++ l ++ cells.toList.drop (off + i + l.length) := by
 intro l
 induction l with
 | nil => intro i cells _; simp
 | cons v rest ih =>
  intro i cells hl
  simp only [List.length_cons] at hl
  have hi : off + i < cells.size := by omega
  simp only [List.zipIdx_cons, List.foldl_cons]
  rw [ih (i + 1) _ (by simp; omega)]
  simp only [Array.toList_setIfInBounds, List.length_cons]
  have hlen : off + i < cells.toList.length := by simpa using hi
  rw [List.set_eq_take_append_cons_drop, if_pos hlen]
  rw [show off + (i + 1) = off + i + 1 by omega, show off + i + (rest.length + 1) = off + i + 1 + rest.length by omega]
  rw [List.take_append, List.drop_append]
  have h1 : (cells.toList.take (off + i)).length = off + i := by simp; omega
  rw [h1]
  have h2 : (cells.toList.take (off + i)).take (off + i + 1) = cells.toList.take (off + i) := List.take_of_length_le (by omega)
  have h3 : (cells.toList.take (off + i)).drop (off + i + 1 + rest.length) = [] := List.drop_of_length_le (by omega)
  rw [h2, h3]
  have h4 : off + i + 1 - (off + i) = 1 := by omega
  have h5 : off + i + 1 + rest.length - (off + i) = rest.length + 1 := by omega
  rw [h4, h5]
  simp

theorem zipIdx_foldl_toList (f : Array Value → Value × Nat → Array Value) (vs cells : Array Value) : vs.zipIdx.foldl f cells = (vs.toList.zipIdx 0).foldl f cells := by
 rw [← Array.foldl_toList, Array.toList_zipIdx]

theorem fill_cell {place : Nat → Option (Nat × Nat)} : ∀ {parts : List (Nat × AV)} {cells out : List AV}, fillA place cells parts = some out → cells.all AV.isCell = true → out.all AV.isCell = true := by
 intro parts
 induction parts with
 | nil => intro cells out he hc; simp [fillA] at he; subst he; exact hc
 | cons p rest ih =>
  intro cells out he hc
  simp only [fillA] at he
  split at he
  ·rename_i off size cs hp hcs
   split at he
   ·refine ih he (splice_cell off hc ?_)
    unfold AV.cellsO at hcs
    split at hcs
    ·split at hcs
     ·injection hcs with hcs; subst hcs; assumption
     ·cases hcs
    ·cases hcs
    ·cases hcs
    ·rename_i h1 h2 h3
     injection hcs with hcs; subst hcs
     have hx : p.2.isCell = true := by
      cases hq : p.2 <;> first | rfl | exact absurd hq (h1 _) | exact absurd hq (h2 _) | exact absurd hq h3
     simp [hx]
   ·cases he
  ·cases he

theorem fill_rel {place : Nat → Option (Nat × Nat)} : ∀ {parts : List (Nat × AV)} {cells out : List AV} {parts' : List (Nat × Value)} {cells' : Array Value},
 fillA place cells parts = some out → VsRel K cells cells'.toList → (parts'.map (·.1) = parts.map (·.1)) → VsRel K (parts.map (·.2)) (parts'.map (·.2)) →
 ∃ out', Instr.fill place cells' parts' = some out' ∧ VsRel K out out'.toList := by
 intro parts
 induction parts with
 | nil =>
  intro cells out parts' cells' he hc h1 h2
  have : parts' = [] := by simpa using h1
  subst this
  simp [fillA] at he; subst he
  exact ⟨cells', rfl, hc⟩
 | cons p rest ih =>
  obtain ⟨i, x⟩ := p
  intro cells out parts' cells' he hc h1 h2
  cases parts' with
  | nil => simp at h1
  | cons p' rest' =>
   obtain ⟨i', v⟩ := p'
   simp only [List.map_cons, List.cons.injEq] at h1
   obtain ⟨rfl, h1⟩ := h1
   simp only [List.map_cons] at h2
   cases h2 with
   | cons _ _ _ _ hx hs =>
    simp only [fillA] at he
    split at he
    ·rename_i off size cs hp hcs
     split at he
     ·rename_i hlen
      obtain ⟨r1, _⟩ := cellsO_rel hcs hx
      have hsz : v.cells.size = size := by rw [← hlen.1, r1.length]; simp
      have hsz2 : cells'.size = cells.length := by rw [hc.length]; simp
      have hfold := foldl_set off v.cells.toList 0 cells' (by simp; omega)
      obtain ⟨out', q1, q2⟩ := ih (cells' := v.cells.zipIdx.foldl (fun cs (c, j) => cs.setIfInBounds (off + j) c) cells') he (by
       rw [zipIdx_foldl_toList, hfold]
       simpa using splice_rel off hc r1) h1 hs
      refine ⟨out', ?_, q2⟩
      simp only [Instr.fill, hp]
      rw [if_neg (by simp; omega)]
      exact q1
     ·cases he
    ·cases he

theorem parts_rel {ρ : Operand → AV} {ρ' : Operand → Value} (hρ : ∀ x, VRel K (ρ x) (ρ' x)) (parts : Array (Nat × Operand)) :
 ((parts.map fun p => (p.1, ρ' p.2)).toList.map (·.1) = (parts.toList.map fun p => (p.1, ρ p.2)).map (·.1)) ∧
 VsRel K ((parts.toList.map fun p => (p.1, ρ p.2)).map (·.2)) ((parts.map fun p => (p.1, ρ' p.2)).toList.map (·.2)) := by
 simp only [Array.toList_map, List.map_map]
 exact ⟨rfl, VsRel.map_mk fun p _ => hρ p.2⟩

theorem zero_rel {t : TypeId} {zero : List AV} (hz : (zeroA P t).bind AV.cellsO = some zero) (w : World) : ∃ v, (zeroValue t).run P w = .ok v w ∧ VsRel K zero v.cells.toList ∧ zero.all AV.isCell = true := by
 simp only [Option.bind_eq_some_iff] at hz
 obtain ⟨z, h1, h2⟩ := hz
 obtain ⟨v, h3, rfl⟩ := run_zero h1 w
 obtain ⟨r1, r2⟩ := cellsO_rel h2 (ofVal_rel (K := K) v)
 exact ⟨v, h3, r1, r2⟩

theorem mapM_sizes (fields : Array Field) (hall : ∀ f ∈ fields.toList, (P.info? f.type).isSome = true) (w : World) :
 ∃ places : Array (Nat × Nat), (fields.mapM (m := Sem) fun (f : Field) => do pure (f.offset, ← sizeOf f.type)).run P w = .ok places w ∧ ∀ i, places[i]? = placesOf P fields i := by
 have key : ∀ (l : List Field), (∀ f ∈ l, (P.info? f.type).isSome = true) →
  (l.mapM (m := Sem) fun (f : Field) => do pure (f.offset, ← sizeOf f.type)).run P w = .ok (l.map fun f => (f.offset, (sizeB P f.type).getD 0)) w := by
  intro l
  induction l with
  | nil => intro _; rfl
  | cons f l ih =>
   intro hl
   have hf := hl f (by simp)
   obtain ⟨i, hi⟩ := Option.isSome_iff_exists.1 hf
   have hs : sizeB P f.type = some i.size := by simp [sizeB, hi]
   rw [List.mapM_cons, Sem.run_bind, Sem.run_bind, run_size hs]
   simp only [Result.andThen_ok, Sem.run_pure, Sem.run_bind, ih (fun f hf => hl f (by simp [hf])), List.map_cons, hs, Option.getD_some]
 refine ⟨(fields.toList.map fun f => (f.offset, (sizeB P f.type).getD 0)).toArray, ?_, fun i => ?_⟩
 ·rw [Array.mapM_eq_mapM_toList, Sem.run_map, key fields.toList hall]
  rfl
 ·simp only [List.getElem?_toArray, List.getElem?_map, Array.getElem?_toList, placesOf]
  cases hf : fields[i]? with
  | none => rfl
  | some f =>
   have hm : f ∈ fields.toList := by simpa using Array.mem_of_getElem? hf
   obtain ⟨i, hi⟩ := Option.isSome_iff_exists.1 (hall f hm)
   simp [sizeB, hi]

theorem build_rel {t : TypeId} {parts : Array (Nat × Operand)} {ρ : Operand → AV} {ρ' : Operand → Value} (hρ : ∀ x, VRel K (ρ x) (ρ' x)) {x : AV}
 (he : buildEv P t (parts.toList.map fun p => (p.1, ρ p.2)) = some x) (w : World) : ∃ v, (Instr.build t (parts.map fun p => (p.1, ρ' p.2))).run P w = .ok v w ∧ VRel K x v := by
 obtain ⟨p1, p2⟩ := parts_rel hρ parts
 unfold buildEv at he
 split at he
 ·rename_i fields zero hu hz
  obtain ⟨z, hz1, hz2, _⟩ := zero_rel (K := K) hz w
  split at he
  ·rename_i hall
   simp only [Option.map_eq_some_iff] at he
   obtain ⟨out, ho, rfl⟩ := he
   obtain ⟨places, hp1, hp2⟩ := mapM_sizes (P := P) fields (fun f hf => Array.all_eq_true'.1 hall f (by simpa using hf)) w
   have hpl : placesOf P fields = (places[·]?) := by funext i; exact (hp2 i).symm
   rw [hpl] at ho
   obtain ⟨out', q1, q2⟩ := fill_rel ho hz2 p1 p2
   exact ⟨.agg out', by simp only [Instr.build, Sem.run_bind, hz1, Result.andThen_ok, run_und hu, hp1, q1, Sem.run_pure], .agg _ _ q2⟩
  ·cases he
 ·rename_i n elem zero hu hz
  obtain ⟨z, hz1, hz2, _⟩ := zero_rel (K := K) hz w
  split at he
  ·rename_i size hs
   simp only [Option.map_eq_some_iff] at he
   obtain ⟨out, ho, rfl⟩ := he
   obtain ⟨out', q1, q2⟩ := fill_rel ho hz2 p1 p2
   exact ⟨.agg out', by simp only [Instr.build, Sem.run_bind, hz1, Result.andThen_ok, run_und hu, run_size hs, q1, Sem.run_pure], .agg _ _ q2⟩
  ·cases he
 ·cases he

theorem fillRows_fill {sz : Nat} : ∀ {parts : List (Nat × AV)} {rows out : List (List AV)}, (∀ r ∈ rows, r.length = sz) → fillRows sz rows parts = some out →
 fillA (fun i => some (i * sz, sz)) rows.flatten parts = some out.flatten ∧ (∀ r ∈ out, r.length = sz) ∧ out.length = rows.length := by
 intro parts
 induction parts with
 | nil => intro rows out hr he; simp [fillRows] at he; subst he; exact ⟨rfl, hr, rfl⟩
 | cons p rest ih =>
  obtain ⟨i, x⟩ := p
  intro rows out hr he
  simp only [fillRows] at he
  split at he
  ·rename_i cs hcs
   split at he
   ·rename_i hlen
    have hr' : ∀ r ∈ rows.set i cs, r.length = sz := fun r hm => by
     rcases List.mem_or_eq_of_mem_set hm with hm | rfl
     ·exact hr r hm
     ·exact hlen.1
    obtain ⟨q1, q2, q3⟩ := ih hr' he
    have hfl := flatten_length hr
    have hle : i * sz + sz ≤ rows.flatten.length := by
     rw [hfl]
     have : (i + 1) * sz ≤ rows.length * sz := Nat.mul_le_mul_right _ hlen.2
     rw [Nat.add_mul] at this; omega
    have hset : (rows.set i cs).flatten = splice rows.flatten (i * sz) cs := by
     clear q1 q2 q3 ih he hle hr'
     unfold splice
     rw [hlen.1]
     induction rows generalizing i with
     | nil => simp at hlen
     | cons r rows ih2 =>
      have hrl : r.length = sz := hr r (by simp)
      cases i with
      | zero => simp [← hrl]
      | succ i =>
       have := ih2 i (fun r hm => hr r (by simp [hm])) ⟨hlen.1, by simpa using hlen.2⟩ (flatten_length (fun r hm => hr r (by simp [hm])))
       simp only [List.set_cons_succ, List.flatten_cons, this]
       rw [show (i + 1) * sz = r.length + i * sz by rw [hrl, Nat.add_mul]; omega, List.take_append, List.drop_append]
       rw [List.take_of_length_le (show r.length ≤ r.length + i * sz by omega), List.drop_of_length_le (show r.length ≤ r.length + i * sz + sz by omega)]
       rw [show r.length + i * sz - r.length = i * sz by omega, show r.length + i * sz + sz - r.length = i * sz + sz by omega]
       simp
    refine ⟨?_, q2, by rw [q3]; simp⟩
    simp only [fillA, hcs]
    rw [if_pos ⟨hlen.1, hle⟩, ← hset]
    exact q1
   ·cases he
  ·cases he

theorem replicate_cells (zero : Array Value) (n : Nat) : ((Array.range (n * zero.size)).map (zero[· % zero.size]!)).toList = (List.replicate n zero.toList).flatten := by
 induction n with
 | zero => simp
 | succ n ih =>
  rw [List.replicate_succ', List.flatten_append, ← ih]
  simp only [Array.toList_map, Array.toList_range, Nat.add_mul, Nat.one_mul, List.range_add, List.map_append, List.map_map, List.flatten_cons, List.flatten_nil, List.append_nil]
  congr 1
  apply List.ext_getElem
  ·simp
  ·intro i h1 h2
   have hlt : i < zero.size := by simpa using h1
   simp [Nat.mod_eq_of_lt hlt, hlt]

theorem VsRel.flat_replicate {zero : List AV} {z : List Value} (hz : VsRel K zero z) : ∀ n : Nat, VsRel K (List.replicate n zero).flatten (List.replicate n z).flatten
 | 0 => .nil
 | n + 1 => by
  simp only [List.replicate_succ, List.flatten_cons]
  exact hz.append (VsRel.flat_replicate hz n)

theorem replicate_cell {zero : List AV} (hz : zero.all AV.isCell = true) (n : Nat) : (List.replicate n zero).flatten.all AV.isCell = true := by
 rw [List.all_eq_true] at hz ⊢
 intro x hx
 simp only [List.mem_flatten, List.mem_replicate] at hx
 obtain ⟨l, ⟨_, rfl⟩, hx⟩ := hx
 exact hz x hx

theorem buildSlice_rel (s : Sim K G ok w0 h w) {t : TypeId} {len : Nat} {parts : Array (Nat × Operand)} {ρ : Operand → AV} {ρ' : Operand → Value} (hρ : ∀ x, VRel K (ρ x) (ρ' x)) {x : AV}
 (he : buildSliceEv P t len (parts.toList.map fun p => (p.1, ρ p.2)) = some x) :
 ∃ K' v w', K.Le K' ∧ Sim K' G ok w0 h w' ∧ VRel K' x v ∧ (Instr.buildSlice t len (parts.map fun p => (p.1, ρ' p.2))).run P w = .ok v w' := by
 obtain ⟨p1, p2⟩ := parts_rel hρ parts
 unfold buildSliceEv at he
 split at he
 ·rename_i elem hu
  split at he
  ·rename_i size zero hs hz
   obtain ⟨z, hz1, hz2, hz3⟩ := zero_rel (K := K) hz w
   split at he
   ·rename_i hc
    simp only [Option.map_eq_some_iff] at he
    obtain ⟨out, ho, rfl⟩ := he
    obtain ⟨f1, f2, f3⟩ := fillRows_fill (fun r hr => by rw [(List.mem_replicate.1 hr).2]; exact hc.2.1) ho
    have hzs : z.cells.size = size := by rw [← hc.2.1, hz2.length]; simp
    have hcells : ((Array.range (len * size)).map (z.cells[· % z.cells.size]!)).toList = (List.replicate len z.cells.toList).flatten := by rw [← hzs]; exact replicate_cells _ _
    obtain ⟨out', q1, q2⟩ := fill_rel (cells' := (Array.range (len * size)).map (z.cells[· % z.cells.size]!)) f1 (by rw [hcells]; exact hz2.flat_replicate len) p1 p2
    obtain ⟨le, s'⟩ := s.newTight out' elem
    refine ⟨_, .slice (some ⟨w.heap.size, 0, none⟩) len len, _, le, s', ?_, ?_⟩
    ·refine .list .tight size out w.heap.size 0 len len out'.toList (by rw [f3]; simp) f2 (q2.mono le) (fun j c hj => ?_) ⟨Nat.le_refl _, rfl⟩ (fill_cell f1 (replicate_cell hz3 len))
     simp only [Know.tight, Nat.zero_add, if_true]
     simpa using hj
    ·by_cases h0 : len * size = 0
     ·have h00 : len = 0 := by
       rcases Nat.mul_eq_zero.1 h0 with h | h
       ·exact h
       ·omega
      subst h00
      simp only [Nat.zero_mul] at q1
      have e1 : (Array.range 0).map (fun x => (#[] : Array Value)[x % (#[] : Array Value).size]!) = (Array.range 0).map (z.cells[· % z.cells.size]!) := by simp
      simp only [Instr.buildSlice, Sem.run_bind, run_und hu, Result.andThen_ok, run_size hs, Nat.zero_mul]
      simp only [Nat.not_lt_zero, gt_iff_lt, if_false, Nat.reducePow, if_true, Sem.run_pure, Result.andThen_ok, e1, q1, newRow, Sem.run_bind, run_newObj]
     ·simp only [Instr.buildSlice, Sem.run_bind, run_und hu, Result.andThen_ok, run_size hs]
      rw [if_neg (by omega), if_neg h0]
      simp only [Sem.run_pure, Sem.run_bind, hz1, Result.andThen_ok, q1, newRow, run_newObj]
   ·cases he
  ·cases he
 ·cases he

theorem alloc_rel (s : Sim K G ok w0 h w) {t : TypeId} {cs : List AV} (hz : (zeroA P t).bind AV.cellsO = some cs) :
 ∃ K' v w', K.Le K' ∧ Sim K' G ok w0 (h.box cs).2 w' ∧ VRel K' (h.box cs).1 v ∧ (Instr.alloc t true (.tuple #[])).run P w = .ok v w' := by
 obtain ⟨z, hz1, hz2, hz3⟩ := zero_rel (K := K) hz w
 obtain ⟨q1, q2⟩ := s.newBox t hz2 hz3
 exact ⟨_, _, _, K.le_box _, q1, q2, by simp [Instr.alloc, hz1, newVar, newRow]⟩

theorem box_rel (s : Sim K G ok w0 h w) {t : TypeId} {x : AV} {cs : List AV} (hc : x.cellsO = some cs) {c : Value} (hx : VRel K x c) :
 ∃ K' v w', K.Le K' ∧ Sim K' G ok w0 (h.box cs).2 w' ∧ VRel K' (h.box cs).1 v ∧ (Instr.box t c).run P w = .ok v w' := by
 obtain ⟨r1, r2⟩ := cellsO_rel hc hx
 obtain ⟨q1, q2⟩ := s.newBox t r1 r2
 exact ⟨_, _, _, K.le_box _, q1, q2, by simp [Instr.box, newVar, newRow]⟩

theorem makeSlice_rel (s : Sim K G ok w0 h w) {t : TypeId} {l c x : AV} {h' : Heap} (he : makeSliceEv P h t l c = some (x, h')) {vl vc : Value} (hl : VRel K l vl) (hc : VRel K c vc) :
 ∃ K' v w', K.Le K' ∧ Sim K' G ok w0 h' w' ∧ VRel K' x v ∧ (Instr.makeSlice t vl vc).run P w = .ok v w' := by
 unfold makeSliceEv at he
 split at he
 ·rename_i elem kl l kc c hu
  obtain ⟨rfl, _⟩ := hl.scalar_of
  obtain ⟨rfl, _⟩ := hc.scalar_of
  split at he
  ·rename_i i zero hi hz
   obtain ⟨z, hz1, hz2, hz3⟩ := zero_rel (K := K) hz w
   split at he
   ·rename_i hcond
    obtain ⟨h1, h2, h3, h4, h5, h6⟩ := hcond
    injection he with he
    obtain ⟨rfl, rfl⟩ := Prod.mk.inj he
    have hzero : i.zero = some z := by
     simp only [zeroValue, Sem.run_bind, run_info hi, Result.andThen_ok] at hz1
     cases hzz : i.zero with
     | none => rw [hzz] at hz1; simp at hz1
     | some v => rw [hzz] at hz1; simp at hz1; rw [hz1]
    have hzs : z.cells.size = i.size := by rw [← h6, hz2.length]; simp
    have hrun := run_make (P := P) w t elem i z hu hi hzero kl kc l c h1 h2 h4 (by omega)
    have hcells : (madeCells z.cells (c.toNat * i.size)).toList = (List.replicate c.toNat z.cells.toList).flatten := by
     rw [← hzs]; exact replicate_cells _ _
    obtain ⟨q1, q2⟩ := s.newBox (cells := madeCells z.cells (c.toNat * i.size)) elem (by rw [hcells]; exact hz2.flat_replicate _) (replicate_cell hz3 _)
    cases q2 with
    | box _ _ _ hb => exact ⟨_, _, _, K.le_box _, q1, .arr _ _ _ _ _ _ _ hb (by omega) (Nat.le_refl _) (.inl rfl) (.inl rfl), hrun⟩
   ·cases he
  ·cases he
 ·cases he

theorem boundOf_rel {hi : Nat} {x : Option AV} {d n : Nat} (he : boundOf hi x d = some n) {x' : Option Value} (hx : ∀ a, x = some a → ∃ c, x' = some c ∧ VRel K a c) (hn : x = none → x' = none) (w : World) :
 (x' = none ∧ n = d ∧ x = none) ∨ (∃ c, x' = some c ∧ (∀ (top : Nat) (code : Go.BoundsCode), hi ≤ top → (Instr.sliceBound c top code).run P w = .ok n w) ∧ n ≤ hi ∧ x.isSome = true) := by
 unfold boundOf at he
 split at he
 ·injection he with he; subst he; exact .inl ⟨hn rfl, rfl, rfl⟩
 ·rename_i _ k m
  split at he
  ·rename_i hc
   injection he with he; subst he
   obtain ⟨c, rfl, hv⟩ := hx _ rfl
   obtain ⟨rfl, _⟩ := hv.scalar_of
   refine .inr ⟨_, rfl, fun top code ht => ?_, by omega, rfl⟩
   have : m ≤ (top : Int) := by omega
   simp [Instr.sliceBound, asIntOf, hc.1, this]
  ·cases he
 ·cases he

theorem bounds_rel {lo hi mx : Option AV} {lo' hi' mx' : Option Value} (hlo : ∀ a, lo = some a → ∃ c, lo' = some c ∧ VRel K a c) (nlo : lo = none → lo' = none)
 (hhi : ∀ a, hi = some a → ∃ c, hi' = some c ∧ VRel K a c) (nhi : hi = none → hi' = none) (hmx : ∀ a, mx = some a → ∃ c, mx' = some c ∧ VRel K a c) (nmx : mx = none → mx' = none)
 {top cap len m hb l : Nat} (isSlice : Bool) (e1 : boundOf top mx top = some m) (e2 : boundOf m hi len = some hb) (e3 : boundOf hb lo 0 = some l)
 (hlen : len ≤ cap) (htop : top ≤ cap) (hmh : mx.isSome = true → hi.isSome = true) (w : World) :
 ∃ m', (Instr.sliceBounds isSlice len cap lo' hi' mx').run P w = .ok (l, hb, m') w ∧ (mx = none → m' = cap ∧ m = top) ∧ (mx.isSome = true → m' = m) ∧ l ≤ hb ∧ (hi = none → hb = len) ∧ hb ≤ m' ∧ (hi.isSome = true → hb ≤ m) := by
 rcases boundOf_rel (P := P) e1 hmx nmx w with ⟨rfl, rfl, rfl⟩ | ⟨c1, rfl, q1, hm1, hs1⟩
 ·rcases boundOf_rel (P := P) e2 hhi nhi w with ⟨rfl, rfl, rfl⟩ | ⟨c2, rfl, q2, hm2, hs2⟩
  ·rcases boundOf_rel (P := P) e3 hlo nlo w with ⟨rfl, rfl, rfl⟩ | ⟨c3, rfl, q3, hm3, _⟩
   ·exact ⟨cap, by simp [Instr.sliceBounds], fun _ => ⟨rfl, rfl⟩, (by simp), Nat.zero_le _, fun _ => rfl, hlen, by simp⟩
   ·have q3' := fun code => q3 hb code (Nat.le_refl _)
    exact ⟨cap, by simp [Instr.sliceBounds, q3'], fun _ => ⟨rfl, rfl⟩, (by simp), hm3, fun _ => rfl, hlen, by simp⟩
  ·have q2' := fun code => q2 cap code (by omega)
   rcases boundOf_rel (P := P) e3 hlo nlo w with ⟨rfl, rfl, rfl⟩ | ⟨c3, rfl, q3, hm3, _⟩
   ·exact ⟨cap, by simp [Instr.sliceBounds, q2'], fun _ => ⟨rfl, rfl⟩, (by simp), Nat.zero_le _, fun e => by simp [e] at hs2, by omega, fun _ => hm2⟩
   ·have q3' := fun code => q3 hb code (Nat.le_refl _)
    exact ⟨cap, by simp [Instr.sliceBounds, q2', q3'], fun _ => ⟨rfl, rfl⟩, (by simp), hm3, fun e => by simp [e] at hs2, by omega, fun _ => hm2⟩
 ·have hs2 := hmh hs1
  have q1' := fun code => q1 cap code htop
  rcases boundOf_rel (P := P) e2 hhi nhi w with ⟨_, _, rfl⟩ | ⟨c2, rfl, q2, hm2, _⟩
  ·simp at hs2
  ·have q2' := fun code => q2 m code (Nat.le_refl _)
   rcases boundOf_rel (P := P) e3 hlo nlo w with ⟨rfl, rfl, rfl⟩ | ⟨c3, rfl, q3, hm3, _⟩
   ·exact ⟨m, by simp [Instr.sliceBounds, q1', q2'], fun e => by simp [e] at hs1, fun _ => rfl, Nat.zero_le _, fun e => by simp [e] at hs2, hm2, fun _ => hm2⟩
   ·have q3' := fun code => q3 hb code (Nat.le_refl _)
    exact ⟨m, by simp [Instr.sliceBounds, q1', q2', q3'], fun e => by simp [e] at hs1, fun _ => rfl, hm3, fun e => by simp [e] at hs2, hm2, fun _ => hm2⟩

theorem optMap_rel {ρ : Operand → AV} {ρ' : Operand → Value} (hρ : ∀ x, VRel K (ρ x) (ρ' x)) (o : Option Operand) :
 (∀ a, o.map ρ = some a → ∃ c, o.map ρ' = some c ∧ VRel K a c) ∧ (o.map ρ = none → o.map ρ' = none) := by
 cases o with
 | none => exact ⟨fun a h => (by cases h), fun _ => rfl⟩
 | some x => exact ⟨fun a h => ⟨_, rfl, (by injection h with h; subst h; exact hρ x)⟩, fun h => (by cases h)⟩

theorem list_cut {k : Tok} {sz : Nat} {es : List (List AV)} {g off cap size l hb m' : Nat} {toEnd limited : Bool}
 (hv : VRel K (.list k sz es) (.slice (some ⟨g, off, none⟩) es.length cap)) (hsz : size = sz ∨ es = []) (hl : l ≤ hb) (hh : hb ≤ es.length) (hm : hb ≤ m') (hcap : m' ≤ cap)
 (hend : toEnd = true → hb = es.length ∧ m' = cap) (hlim : limited = true → m' = hb) :
 VRel K (.list (cutTok k toEnd limited (hb - l)) sz ((es.take hb).drop l)) (.slice (some (if m' = l then ⟨g, off, none⟩ else (⟨g, off, none⟩ : Addr).add (l * size))) (hb - l) (m' - l)) := by
 cases hv with
 | none0 =>
  have hb0 : hb = 0 := by simpa using hh
  subst hb0
  have l0 : l = 0 := by omega
  subst l0
  have m0 : m' = 0 := by omega
  subst m0
  refine .list _ sz [] g off 0 0 [] rfl (by simp) .nil (by simp) ⟨Nat.le_refl _, ?_⟩ rfl
  unfold cutTok
  cases toEnd <;> cases limited <;> simp
 | list _ _ _ _ _ n _ cells hn hr hvs hic ht ha =>
  have hlen' : ((es.take hb).drop l).length = hb - l := by simp; omega
  have haddr : (if m' = l then (⟨g, off, none⟩ : Addr) else (⟨g, off, none⟩ : Addr).add (l * size)) = ⟨g, if m' = l then off else off + l * size, none⟩ := by
   split
   ·rfl
   ·rw [Addr.add_none]
  rw [haddr]
  have hr' : ∀ r ∈ (es.take hb).drop l, r.length = sz := fun r hm => hr r (List.mem_of_mem_take (List.mem_of_mem_drop hm))
  have hfl : ((es.take hb).drop l).flatten = (es.flatten.take (hb * sz)).drop (l * sz) := by
   rw [flatten_drop (fun r hm => hr r (List.mem_of_mem_take hm)), flatten_take hr]
  refine .list _ sz _ g _ _ _ ((cells.take (hb * sz)).drop (l * sz)) hlen'.symm hr' (by rw [hfl]; exact (hvs.take _).drop _) (fun j c hj => ?_) ?_ ?_
  ·simp only [List.getElem?_drop, List.getElem?_take] at hj
   split at hj
   ·rename_i hlt
    have hne : es ≠ [] := by
     rintro rfl
     simp only [List.flatten_nil] at hvs
     cases hvs
     simp at hj
    have hsz' : size = sz := hsz.resolve_right hne
    have hlt2 : l < hb := by
     rcases Nat.lt_or_ge l hb with h | h
     ·exact h
     ·have : hb * sz ≤ l * sz := Nat.mul_le_mul_right _ h
      omega
    rw [if_neg (by omega), hsz']
    have := hic _ _ hj
    rw [← this]; congr 1; omega
   ·cases hj
  rotate_left
  ·rw [List.all_eq_true] at ha ⊢
   intro x hx
   rw [hfl] at hx
   exact ha x (List.mem_of_mem_take (List.mem_of_mem_drop hx))
  ·refine ⟨by omega, ?_⟩
   have ht2 := ht.2
   cases k with
   | nil => exact ht2.elim
   | tight =>
    simp only [cutTok]
    simp only at ht2
    cases toEnd with
    | true => obtain ⟨e1, e2⟩ := hend rfl; simp; omega
    | false =>
     cases limited with
     | true => have := hlim rfl; simp; omega
     | false => simp
   | held =>
    simp only [cutTok]
    cases limited with
    | true => have := hlim rfl; simp; omega
    | false => simp
   | free t =>
    simp only [cutTok]
    simp only at ht2
    cases limited with
    | true => have := hlim rfl; simp; omega
    | false =>
     by_cases hc : (toEnd && hb - l != 0) = true
     ·simp only [Bool.false_eq_true, if_false, hc, if_true]
      simp only [Bool.and_eq_true, bne_iff_ne, ne_eq] at hc
      obtain ⟨e1, e2⟩ := hend hc.1
      have hne : es ≠ [] := by rintro rfl; simp at e1; omega
      have hsz' : size = sz := hsz.resolve_right hne
      obtain ⟨t1, t2, t3, t4⟩ := ht2
      subst hsz'
      rw [if_neg (by omega)]
      refine ⟨t1, t2, ?_, ?_⟩
      ·rw [t3, ← e1, Nat.sub_mul]
       have : l * size ≤ hb * size := Nat.mul_le_mul_right _ hl
       omega
      ·rw [e2, Nat.sub_mul]
       have : l * size ≤ cap * size := Nat.mul_le_mul_right _ (by omega)
       omega
     ·simp only [Bool.false_eq_true, if_false, hc]

theorem slice_rel {t : TypeId} {x y : AV} {lo hi mx : Option Operand} {ρ : Operand → AV} {ρ' : Operand → Value} (hρ : ∀ x, VRel K (ρ x) (ρ' x))
 (he : sliceEv P t x (lo.map ρ) (hi.map ρ) (mx.map ρ) = some y) {c : Value} (hx : VRel K x c) (w : World) :
 ∃ v, (Instr.sliceAt t c (lo.map ρ') (hi.map ρ') (mx.map ρ')).run P w = .ok v w ∧ VRel K y v := by
 obtain ⟨hlo, nlo⟩ := optMap_rel hρ lo
 obtain ⟨hhi, nhi⟩ := optMap_rel hρ hi
 obtain ⟨hmx, nmx⟩ := optMap_rel hρ mx
 unfold sliceEv at he
 split at he
 ·cases he
 rename_i hguard
 have hmh : (mx.map ρ).isSome = true → (hi.map ρ).isSome = true := by
  intro h1
  cases h2 : hi.map ρ with
  | some _ => rfl
  | none => rw [h1, h2] at hguard; simp at hguard
 split at he
 ·rename_i s hu
  split at he
  ·cases he
  rename_i hmn
  have hmn' : mx.map ρ = none := by simpa using hmn
  split at he
  ·rename_i hb e2
   split at he
   ·rename_i l e3
    injection he with he; subst he
    obtain ⟨rfl, _⟩ := hx.scalar_of
    obtain ⟨m', q1, q2, _⟩ := bounds_rel (P := P) (mx := none) (mx' := none) hlo nlo hhi nhi (by simp) (by simp) false (top := s.size) (cap := s.size) (m := s.size) rfl e2 e3 (Nat.le_refl _) (Nat.le_refl _) (by simp) w
    refine ⟨_, ?_, .v (.string (s.extract l hb)) rfl⟩
    simp only [Instr.sliceAt, Sem.run_bind, run_und hu, Result.andThen_ok, Instr.slice, nmx hmn']
    simp [q1]
   ·cases he
  ·cases he
 ·rename_i elem k sz es hu
  split at he
  ·rename_i size m hs e1
   split at he
   ·rename_i hb e2
    split at he
    ·rename_i l e3
     split at he
     ·rename_i hsz
      injection he with he; subst he
      have hbm : hb ≤ es.length := by
       rcases boundOf_rel (P := P) e1 hmx nmx w with ⟨_, rfl, _⟩ | ⟨_, _, _, hm1, _⟩ <;> rcases boundOf_rel (P := P) e2 hhi nhi w with ⟨_, rfl, _⟩ | ⟨_, _, _, hm2, _⟩ <;> omega
      cases hx with
      | nil =>
       obtain ⟨m', q1, q2, q3, q4, q5, q6, q7⟩ := bounds_rel (P := P) hlo nlo hhi nhi hmx nmx true (top := 0) (cap := 0) (len := 0) e1 e2 e3 (Nat.le_refl _) (Nat.le_refl _) hmh w
       have hb0 : hb = 0 := by simpa using hbm
       subst hb0
       have l0 : l = 0 := by omega
       subst l0
       have hm0 : m' = 0 := by
        rcases boundOf_rel (P := P) e1 hmx nmx w with ⟨_, _, hn⟩ | ⟨_, _, _, hm1, hs1⟩
        ·exact (q2 hn).1
        ·have := q3 hs1; simp at hm1; omega
       subst hm0
       refine ⟨.slice none 0 0, ?_, ?_⟩
       ·simp only [Instr.sliceAt, Sem.run_bind, run_und hu, Result.andThen_ok, Instr.slice, q1, run_size hs]
        simp
       ·simp only [cutTok, List.take_nil, List.drop_nil]
        exact .nil _
      | none0 _ a0 =>
       obtain ⟨m', q1, q2, q3, q4, q5, q6, q7⟩ := bounds_rel (P := P) hlo nlo hhi nhi hmx nmx true (top := 0) (cap := 0) (len := 0) e1 e2 e3 (Nat.le_refl _) (Nat.le_refl _) hmh w
       have hb0 : hb = 0 := by simpa using hbm
       subst hb0
       have l0 : l = 0 := by omega
       subst l0
       have hm0 : m' = 0 := by
        rcases boundOf_rel (P := P) e1 hmx nmx w with ⟨_, _, hn⟩ | ⟨_, _, _, hm1, hs1⟩
        ·exact (q2 hn).1
        ·have := q3 hs1; simp at hm1; omega
       subst hm0
       refine ⟨.slice (some a0) 0 0, ?_, ?_⟩
       ·simp only [Instr.sliceAt, Sem.run_bind, run_und hu, Result.andThen_ok, Instr.slice, q1, run_size hs]
        simp
       ·have hm00 : m = 0 := by
         rcases boundOf_rel (P := P) e1 hmx nmx w with ⟨_, hn, _⟩ | ⟨_, _, _, hm1, hs1⟩
         ·simpa using hn
         ·simpa using hm1
        subst hm00
        have hct : ∀ q : Option AV, cutTok .tight (decide (0 = ([] : List (List AV)).length) && q.isNone) (q.isSome && decide (0 = 0)) (0 - 0) = .tight := by
         intro q; cases q <;> rfl
        rw [hct]
        simp only [List.take_nil, List.drop_nil]
        exact .none0 _ _
      | list _ _ _ g off n cap cells hn hr hvs hic ht ha =>
       subst hn
       obtain ⟨m', q1, q2, q3, q4, q5, q6, q7⟩ := bounds_rel (P := P) hlo nlo hhi nhi hmx nmx true (top := es.length) (cap := cap) (len := es.length) e1 e2 e3 ht.1 ht.1 hmh w
       have hmcap : m' ≤ cap := by
        rcases boundOf_rel (P := P) e1 hmx nmx w with ⟨_, _, hn⟩ | ⟨_, _, _, hm1, hs1⟩
        ·rw [(q2 hn).1]; exact Nat.le_refl _
        ·have := q3 hs1; have := ht.1; omega
       refine ⟨.slice (some (if m' = l then ⟨g, off, none⟩ else (⟨g, off, none⟩ : Addr).add (l * size))) (hb - l) (m' - l), ?_, ?_⟩
       ·simp only [Instr.sliceAt, Sem.run_bind, run_und hu, Result.andThen_ok, Instr.slice, q1, run_size hs, Sem.run_pure]
        congr 2
        split <;> rfl
       ·refine list_cut (.list _ _ _ g off _ cap cells rfl hr hvs hic ht ha) hsz q4 hbm q6 hmcap (fun h => ?_) (fun h => ?_)
        ·simp only [Bool.and_eq_true, decide_eq_true_eq, Option.isNone_iff_eq_none] at h
         exact ⟨h.1, (q2 h.2).1⟩
        ·simp only [Bool.and_eq_true, decide_eq_true_eq] at h
         rw [q3 h.1]; exact h.2.symm
     ·cases he
    ·cases he
   ·cases he
  ·cases he
 ·rename_i elem b off len cap hu
  split at he
  ·rename_i size m hs e1
   split at he
   ·rename_i hb e2
    split at he
    ·rename_i l e3
     cases hx with
     | arr _ g _ _ _ off' cap' hβ hl hcc hoo hrr =>
      obtain ⟨m', q1, q2, q3, q4, q5, q6, q7⟩ := bounds_rel (P := P) hlo nlo hhi nhi hmx nmx true (top := cap) (cap := cap') (len := len) e1 e2 e3 (by omega) hcc hmh w
      have hmc : m ≤ cap := by
       rcases boundOf_rel (P := P) e1 hmx nmx w with ⟨_, q, _⟩ | ⟨_, _, _, q, _⟩ <;> omega
      have hmm : m ≤ m' := by
       cases hq : Option.map ρ mx with
       | none => have := q2 hq; omega
       | some z => have := q3 (by rw [hq]; rfl); omega
      have hbm : hb ≤ m := by
       cases hq : Option.map ρ mx with
       | none =>
        cases hq2 : Option.map ρ hi with
        | none => have := q5 hq2; have := q2 hq; omega
        | some z => exact q7 (by rw [hq2]; rfl)
       | some z => have := q3 (by rw [hq]; rfl); omega
      have hrun : (Instr.sliceAt t (.slice (some ⟨g, off', none⟩) len cap') (Option.map ρ' lo) (Option.map ρ' hi) (Option.map ρ' mx)).run P w = .ok (.slice (some ⟨g, if m' = l then off' else off' + l * size, none⟩) (hb - l) (m' - l)) w := by
       simp only [Instr.sliceAt, Sem.run_bind, run_und hu, Result.andThen_ok, Instr.slice, q1, run_size hs, Sem.run_pure]
       congr 2
       split
       ·rfl
       ·simp [Addr.add_none]
      refine ⟨_, hrun, ?_⟩
      split at he
      ·cases he
      rename_i hs0
      split at he
      ·rename_i hml
       injection he with he; subst he
       have := q3 hml.1
       rw [show hb - l = 0 by omega, show m' - l = 0 by omega]
       exact .none0 _ _
      ·injection he with he; subst he
       refine .arr _ _ _ _ _ _ _ hβ (by omega) (by omega) ?_ ?_
       ·rcases hoo with rfl | hz
        ·by_cases hml : m = l
         ·exact .inr (by omega)
         ·rw [if_neg (by omega), if_neg hml]; exact .inl rfl
        ·exact .inr (by omega)
       ·cases hq : Option.map ρ mx with
        | some z => have := q3 (by rw [hq]; rfl); exact .inl (by omega)
        | none =>
         obtain ⟨r1, r2⟩ := q2 hq
         by_cases hml : m = l
         ·exact .inr (.inl (by omega))
         ·rw [if_neg hml]
          by_cases hl0 : l = 0
          ·subst hl0
           rcases hrr with r | r | r | ⟨sz, room, r3, r4, r5⟩
           ·exact .inl (by omega)
           ·exact .inr (.inl (by omega))
           ·exact .inr (.inr (.inl (by omega)))
           ·exact .inr (.inr (.inr ⟨sz, room, by rw [r2]; exact r3, r4, by rw [r1]; exact r5⟩))
          ·exact .inr (.inr (.inl (by have := Nat.mul_pos (Nat.pos_of_ne_zero hl0) (Nat.pos_of_ne_zero hs0); omega)))
    ·cases he
   ·cases he
  ·cases he
 ·rename_i n elem b off hu
  split at he
  ·rename_i size m hs e1
   split at he
   ·rename_i hb e2
    split at he
    ·rename_i l e3
     injection he with he; subst he
     cases hx with
     | box _ g _ hβ =>
      obtain ⟨m', q1, q2, q3, q4, q5, q6, q7⟩ := bounds_rel (P := P) hlo nlo hhi nhi hmx nmx false (top := n) (cap := n) (len := n) e1 e2 e3 (Nat.le_refl _) (Nat.le_refl _) hmh w
      have hm : m' = m := by
       rcases boundOf_rel (P := P) e1 hmx nmx w with ⟨_, _, hn⟩ | ⟨_, _, _, hm1, hs1⟩
       ·have := q2 hn; omega
       ·exact q3 hs1
      subst hm
      refine ⟨.slice (some ⟨g, if m' = l then off else off + l * size, none⟩) (hb - l) (m' - l), ?_, .arr _ _ _ _ _ _ _ hβ (by omega) (Nat.le_refl _) (.inl rfl) (.inl rfl)⟩
      simp only [Instr.sliceAt, Sem.run_bind, run_und hu, Result.andThen_ok, Instr.sureAddr, q1, run_size hs, Sem.run_pure]
      congr 3
      split
      ·rfl
      ·simp [Addr.add_none]
    ·cases he
   ·cases he
  ·cases he
 ·cases he

theorem fieldPlace_rel {f : Field} {n : Nat} (hs : sizeB P f.type = some n) (hn : n ≠ 0) (g o : Nat) (w : World) : (fieldPlace ⟨g, o, none⟩ f).run P w = .ok ⟨g, o + f.offset, none⟩ w := by
 simp [fieldPlace, run_size hs, hn, Addr.add_none]

theorem fieldAddr_rel {t : TypeId} {x y : AV} {f : Nat} (he : fieldAddrEv P t x f = some y) {c : Value} (hx : VRel K x c) (w : World) :
 ∃ v, (Instr.fieldAt t c f).run P w = .ok v w ∧ VRel K y v := by
 unfold fieldAddrEv at he
 split at he
 ·rename_i fields hu
  split at he
  ·rename_i fd hf
   split at he
   ·cases he
   ·rename_i n hn0 hs
    have hn : n ≠ 0 := fun e => hn0 e
    split at he
    ·rename_i r off
     injection he with he; subst he
     cases hx with
     | box b g _ hb => exact ⟨_, by simp [Instr.fieldAt, run_und hu, hf, Instr.sureAddr, fieldPlace_rel hs hn], .box _ _ _ hb⟩
     | glob g _ => exact ⟨_, by simp [Instr.fieldAt, run_und hu, hf, Instr.sureAddr, fieldPlace_rel hs hn], .glob _ _⟩
    ·rename_i sz es i off
     injection he with he; subst he
     cases hx with
     | elem _ _ _ _ g o p cells hr hv hc hi hp ha =>
      exact ⟨.pointer (some ⟨g, p + fd.offset, none⟩), by simp [Instr.fieldAt, run_und hu, hf, Instr.sureAddr, fieldPlace_rel hs hn], .elem _ _ _ _ g o _ cells hr hv hc hi (by omega) ha⟩
    ·cases he
   ·cases he
  ·cases he
 ·cases he

theorem indexAddr_rel {t : TypeId} {x ix y : AV} (he : indexAddrEv P t x ix = some y) {c ci : Value} (hx : VRel K x c) (hi : VRel K ix ci) (w : World) :
 ∃ v, (Instr.indexAt t c ci).run P w = .ok v w ∧ VRel K y v := by
 unfold indexAddrEv at he
 split at he
 ·rename_i elem k sz es kk i hu
  obtain ⟨rfl, _⟩ := hi.scalar_of
  split at he
  ·rename_i hc
   injection he with he; subst he
   cases hx with
   | nil => simp at hc; omega
   | none0 => simp at hc; omega
   | list _ _ _ g off n cap cells hn hr hv hic ht ha =>
    subst hn
    refine ⟨.pointer (some ⟨g, off + i.toNat * sz, none⟩), ?_, .elem _ _ _ _ g off _ cells hr hv hic (by omega) (by omega) ha⟩
    simp [Instr.indexAt, run_und hu, asIntOf, hc.1, hc.2.1, run_size hc.2.2, Addr.add_none]
  ·cases he
 ·rename_i elem b off len cap kk i hu
  obtain ⟨rfl, _⟩ := hi.scalar_of
  split at he
  ·rename_i size hs
   split at he
   ·rename_i hc
    injection he with he; subst he
    cases hx with
    | arr _ g _ _ _ off' cap' hb hl hcc hoo hrr =>
     have : off' = off := by rcases hoo with p | p <;> omega
     subst this
     exact ⟨_, by simp [Instr.indexAt, run_und hu, asIntOf, hc.1, hc.2, run_size hs, Addr.add_none], .box _ _ _ hb⟩
   ·cases he
  ·cases he
 ·rename_i len elem r off kk i hu
  obtain ⟨rfl, _⟩ := hi.scalar_of
  split at he
  ·rename_i size hs
   split at he
   ·rename_i hc
    injection he with he; subst he
    cases hx with
    | box b g _ hb => exact ⟨_, by simp [Instr.indexAt, run_und hu, asIntOf, hc.1, hc.2, run_size hs, Addr.add_none, Instr.sureAddr], .box _ _ _ hb⟩
    | glob g _ => exact ⟨_, by simp [Instr.indexAt, run_und hu, asIntOf, hc.1, hc.2, run_size hs, Addr.add_none, Instr.sureAddr], .glob _ _⟩
   ·cases he
  ·cases he
 ·rename_i len elem sz es k off kk i hu
  obtain ⟨rfl, _⟩ := hi.scalar_of
  split at he
  ·rename_i size hs
   split at he
   ·rename_i hc
    injection he with he; subst he
    cases hx with
    | elem _ _ _ _ g o p cells hr hv hic hi' hp ha =>
     exact ⟨.pointer (some ⟨g, p + i.toNat * size, none⟩), by simp [Instr.indexAt, run_und hu, asIntOf, hc.1, hc.2, run_size hs, Addr.add_none, Instr.sureAddr], .elem _ _ _ _ g o _ cells hr hv hic hi' (by omega) ha⟩
   ·cases he
  ·cases he
 ·cases he

theorem part_rel {t : TypeId} {cs : List AV} {off : Nat} {y : AV} (he : partEv P t cs off = some y) {vs : Array Value} (hx : VsRel K cs vs.toList) (w : World) :
 ∃ v, (part t vs off).run P w = .ok v w ∧ VRel K y v := by
 unfold partEv at he
 split at he
 ·rename_i hag
  simp only [Option.map_eq_some_iff] at he
  obtain ⟨n, hs, rfl⟩ := he
  refine ⟨.agg (vs.extract off (off + n)), by simp [part, run_isAgg hag, run_size hs], .agg _ _ ?_⟩
  have : (vs.extract off (off + n)).toList = (vs.toList.drop off).take n := by
   rw [Array.toList_extract, List.extract_eq_take_drop]
   congr 1
   omega
  rw [this]
  exact (hx.drop off).take n
 ·rename_i hag
  obtain ⟨c, hc, hr⟩ := hx.get he
  exact ⟨c, by simp only [part, Sem.run_bind, run_isAgg hag, Result.andThen_ok]; simp only [Bool.false_eq_true, if_false]; rw [show vs[off]? = some c by simpa using hc]; rfl, hr⟩
 ·cases he

theorem index_rel {t : TypeId} {x ix y : AV} (he : indexEv P t x ix = some y) {c ci : Value} (hx : VRel K x c) (hi : VRel K ix ci) (w : World) :
 ∃ v, (Instr.index t c ci).run P w = .ok v w ∧ VRel K y v := by
 unfold indexEv at he
 split at he
 ·rename_i s kk i hu
  obtain ⟨rfl, _⟩ := hi.scalar_of
  obtain ⟨rfl, _⟩ := hx.scalar_of
  split at he
  ·rename_i b hb
   injection he with he; subst he
   split at hb
   ·rename_i h0
    refine ⟨.int .u8 b.toNat, ?_, .v _ rfl⟩
    have : s[i.toNat]? = some b := by
     have h1 : i.toNat < s.data.size := (Array.getElem?_eq_some_iff.1 hb).1
     have h2 : s.data[i.toNat] = b := (Array.getElem?_eq_some_iff.1 hb).2
     have h3 : i.toNat < s.size := h1
     rw [getElem?_pos s i.toNat h3]
     exact congrArg some h2
    simp only [Instr.index, Sem.run_bind, asIntOf, Sem.run_pure, Result.andThen_ok, run_und hu, if_pos h0, this]
   ·cases hb
  ·cases he
 ·rename_i len elem cs kk i hu
  obtain ⟨rfl, _⟩ := hi.scalar_of
  split at he
  ·rename_i size hs
   split at he
   ·rename_i hc
    cases hx with
    | agg _ vs hvs =>
     obtain ⟨v, q1, q2⟩ := part_rel he hvs w
     exact ⟨v, by simp only [Instr.index, Sem.run_bind, asIntOf, Sem.run_pure, Result.andThen_ok, run_und hu, if_pos hc, run_size hs, q1], q2⟩
   ·cases he
  ·cases he
 ·cases he

theorem isIface_false {t : TypeId} (he : isIface P t = some false) : ∃ d, P.underlying t = some d ∧ ∀ ms, d ≠ .interface ms := by
 unfold isIface at he
 split at he
 ·cases he
 ·rename_i d h1 h2
  exact ⟨d, h2, fun ms e => h1 ms e⟩
 ·cases he

theorem assert_rel {x y : AV} {xt a : TypeId} {okk : Bool} (he : assertEv P x a okk = some y) {c : Value} (hx : VRel K x c) (w : World) :
 ∃ v, (Instr.typeAssert c xt a okk).run P w = .ok v w ∧ VRel K y v := by
 unfold assertEv at he
 split at he
 ·rename_i t x' hif
  obtain ⟨d, hu, hd⟩ := isIface_false hif
  cases hx with
  | iface _ _ c' hx =>
   split at he
   ·rename_i hta
    injection he with he; subst he
    subst hta
    cases okk with
    | true =>
     refine ⟨.tuple #[c', .bool true], ?_, .tuple _ _ (.cons _ _ _ _ hx (.cons _ _ _ _ (.v _ rfl) .nil))⟩
     simp only [Instr.typeAssert, Sem.run_bind, run_und hu, Result.andThen_ok]
     cases d <;> first | exact absurd rfl (hd _) | simp
    | false =>
     refine ⟨c', ?_, hx⟩
     simp only [Instr.typeAssert, Sem.run_bind, run_und hu, Result.andThen_ok]
     cases d <;> first | exact absurd rfl (hd _) | simp
   ·rename_i hta
    split at he
    ·rename_i hok
     simp only [Option.map_eq_some_iff] at he
     obtain ⟨z, hz, rfl⟩ := he
     obtain ⟨v, hz1, rfl⟩ := run_zero hz w
     refine ⟨.tuple #[v, .bool false], ?_, .tuple _ _ (.cons _ _ _ _ (ofVal_rel v) (.cons _ _ _ _ (.v _ rfl) .nil))⟩
     simp only [Instr.typeAssert, Sem.run_bind, run_und hu, Result.andThen_ok]
     cases d <;> first | exact absurd rfl (hd _) | simp [hta, hok, hz1]
    ·cases he
 ·rename_i hif
  obtain ⟨d, hu, hd⟩ := isIface_false hif
  obtain ⟨rfl, _⟩ := hx.scalar_of
  split at he
  ·rename_i hok
   simp only [Option.map_eq_some_iff] at he
   obtain ⟨z, hz, rfl⟩ := he
   obtain ⟨v, hz1, rfl⟩ := run_zero hz w
   refine ⟨.tuple #[v, .bool false], ?_, .tuple _ _ (.cons _ _ _ _ (ofVal_rel v) (.cons _ _ _ _ (.v _ rfl) .nil))⟩
   simp only [Instr.typeAssert, Sem.run_bind, run_und hu, Result.andThen_ok]
   cases d <;> first | exact absurd rfl (hd _) | simp [hok, hz1]
  ·cases he
 ·cases he

theorem boolEq_rel {op : BinOp} {b : Bool} {x : AV} (he : boolEq op b = some x) : (op = .eql ∧ x = .v (.bool b)) ∨ (op = .neq ∧ x = .v (.bool !b)) := by
 unfold boolEq at he
 split at he
 ·injection he with he; exact .inl ⟨rfl, he.symm⟩
 ·injection he with he; exact .inr ⟨rfl, he.symm⟩
 ·cases he

theorem binFlat_rel {op : BinOp} {t : TypeId} {x y : Operand} {a b r : AV} (he : binFlat P op t x y a b = some r) {p q : Value} (ha : VRel K a p) (hb : VRel K b q) (w : World) :
 ∃ v, (do eqGuard op t x y p q; binOp op t p q : Sem Value).run P w = .ok v w ∧ VRel K r v := by
 unfold binFlat at he
 split at he
 ·rename_i p' q' hp hq
  have e1 := flat_rel hp ha
  have e2 := flat_rel hq hb
  subst e1; subst e2
  simp only [Option.bind_eq_some_iff] at he
  obtain ⟨z, h1, h2⟩ := he
  exact ⟨z, pureRun_run h1 w, scalarV_rel h2⟩
 ·cases he

theorem eq_rel {op : BinOp} {t : TypeId} {x y : Operand} {p q : Value} {b : Bool} {r : AV} (he : boolEq op b = some r) (hg : ∀ op, eqGuard op t x y p q = pure ()) (w : World)
 (heq0 : ∀ d, (Op.equalIn (d + 1) t p q).run P w = .ok b w) (h1 : binOp .eql t p q = (do pure (.bool (← Op.equal t p q)))) (h2 : binOp .neq t p q = (do pure (.bool (!(← Op.equal t p q))))) :
 ∃ v, (do eqGuard op t x y p q; binOp op t p q : Sem Value).run P w = .ok v w ∧ VRel K r v := by
 have heq : (Op.equal t p q).run P w = .ok b w := heq0 9999
 rcases boolEq_rel he with ⟨rfl, rfl⟩ | ⟨rfl, rfl⟩
 ·exact ⟨.bool b, by rw [hg, h1]; simp [heq], .v _ rfl⟩
 ·exact ⟨.bool !b, by rw [hg, h2]; simp [heq], .v _ rfl⟩

theorem isIface_true {t : TypeId} (he : isIface P t = some true) : ∃ ms, P.underlying t = some (.interface ms) := by
 unfold isIface at he
 split at he
 ·exact ⟨_, ‹_›⟩
 ·cases he
 ·cases he

theorem bin_rel {op : BinOp} {t : TypeId} {x y : Operand} {a b r : AV} (he : binEv P op t x y a b = some r) {p q : Value} (ha : VRel K a p) (hb : VRel K b q) (w : World) :
 ∃ v, (do eqGuard op t x y p q; binOp op t p q : Sem Value).run P w = .ok v w ∧ VRel K r v := by
 unfold binEv at he
 split at he
 ·rename_i s1 s2
  have f1 := ha.scalar_of.1
  have f2 := hb.scalar_of.1
  subst f1; subst f2
  split at he
  ·injection he with he; subst he
   exact ⟨.bool (s1.data.toList == s2.data.toList), by simp [eqGuard, binOp, Op.stringOp, ByteArray.toList_eq], .v _ rfl⟩
  ·injection he with he; subst he
   exact ⟨.bool !(s1.data.toList == s2.data.toList), by simp [eqGuard, binOp, Op.stringOp, ByteArray.toList_eq], .v _ rfl⟩
  ·split at he
   ·rename_i hl
    injection he with he; subst he
    refine ⟨.string (s1 ++ s2), ?_, .v _ rfl⟩
    have : ¬ (((s1.size + s2.size : Nat) : Int) > IntKind.i64.max) := by simp only [IntKind.max, IntKind.signed, IntKind.bits]; simp; omega
    simp only [eqGuard, binOp, Op.stringOp]
    simp only [if_neg this]
    simp
   ·cases he
  ·exact binFlat_rel he ha hb w
 ·rename_i ti xi
  split at he
  ·rename_i hif
   obtain ⟨ms, hu⟩ := isIface_true hif
   cases ha with
   | iface _ _ c hx =>
    have f2 := hb.scalar_of.1
    subst f2
    refine eq_rel he (fun op => by cases op <;> rfl) w (fun d => ?_) rfl rfl
    simp only [Op.equalIn, Sem.run_bind, run_und hu, Result.andThen_ok, Sem.run_pure]
  ·cases he
 ·rename_i ti xi
  split at he
  ·rename_i hif
   obtain ⟨ms, hu⟩ := isIface_true hif
   cases hb with
   | iface _ _ c hx =>
    have f2 := ha.scalar_of.1
    subst f2
    refine eq_rel he (fun op => by cases op <;> rfl) w (fun d => ?_) rfl rfl
    simp only [Op.equalIn, Sem.run_bind, run_und hu, Result.andThen_ok, Sem.run_pure]
  ·cases he
 ·rename_i r0 o0
  split at he
  ·rename_i e hu
   have f2 := hb.scalar_of.1
   subst f2
   cases ha <;> (refine eq_rel he (fun op => by cases op <;> rfl) w (fun d => ?_) rfl rfl; simp only [Op.equalIn, Sem.run_bind, run_und hu, Result.andThen_ok, Sem.run_pure, Option.isNone_some])
  ·cases he
 ·rename_i r0 o0
  split at he
  ·rename_i e hu
   have f2 := ha.scalar_of.1
   subst f2
   cases hb <;> (refine eq_rel he (fun op => by cases op <;> rfl) w (fun d => ?_) rfl rfl; simp only [Op.equalIn, Sem.run_bind, run_und hu, Result.andThen_ok, Sem.run_pure, Option.isNone_some])
  ·cases he
 ·split at he
  ·rename_i hu
   have f2 := hb.scalar_of.1
   subst f2
   cases ha <;> (refine eq_rel he (fun op => by cases op <;> rfl) w (fun d => ?_) rfl rfl; simp only [Op.equalIn, Sem.run_bind, run_und hu, Result.andThen_ok, Sem.run_pure, Option.isNone_some])
  ·cases he
 ·split at he
  ·rename_i hu
   have f2 := ha.scalar_of.1
   subst f2
   cases hb <;> (refine eq_rel he (fun op => by cases op <;> rfl) w (fun d => ?_) rfl rfl; simp only [Op.equalIn, Sem.run_bind, run_und hu, Result.andThen_ok, Sem.run_pure, Option.isNone_some])
  ·cases he
 ·rename_i k sz es sz2
  split at he
  ·rename_i e hu
   have f2 : q = .slice none 0 0 := by
    cases hb with
    | nil => rfl
    | list _ _ _ _ _ _ _ _ _ _ _ _ ht _ => exact ht.2.elim
   subst f2
   cases ha with
   | nil =>
    refine eq_rel he (fun op => by cases op <;> rfl) w (fun d => ?_) rfl rfl
    simp only [Op.equalIn, Sem.run_bind, run_und hu, Result.andThen_ok, Sem.run_pure, Option.isNone_none, decide_true]
   | none0 =>
    refine eq_rel he (fun op => by cases op <;> rfl) w (fun d => ?_) rfl rfl
    simp only [Op.equalIn, Sem.run_bind, run_und hu, Result.andThen_ok, Sem.run_pure, Option.isNone_some]
    rfl
   | list _ _ _ g off n cap cells hn hr hv hc ht _ =>
    have hk : k ≠ .nil := fun e => by subst e; exact ht.2
    refine eq_rel he (fun op => by cases op <;> rfl) w (fun d => ?_) rfl rfl
    simp only [Op.equalIn, Sem.run_bind, run_und hu, Result.andThen_ok, Sem.run_pure, hk, decide_false]
  ·cases he
 ·exact binFlat_rel he ha hb w

theorem un_rel {op : UnOp} {a r : AV} (he : unEv P op a = some r) {p : Value} (ha : VRel K a p) (w : World) : ∃ v, (Op.unary op p).run P w = .ok v w ∧ VRel K r v := by
 unfold unEv at he
 split at he
 ·rename_i p' hp
  have e1 := flat_rel hp ha
  subst e1
  simp only [Option.bind_eq_some_iff] at he
  obtain ⟨z, h1, h2⟩ := he
  exact ⟨z, pureRun_run h1 w, scalarV_rel h2⟩
 ·cases he

end
end Go.AE
end

section
namespace Go.AE
open Go.RowKit (Below)

section
variable {P : Program} {K : Know} {G : Nat → Option (List AV)} {ok : FuncId → Nat → Code → Bool} {w0 w : World} {h : Heap}

theorem alive_fresh {h : Heap} {d : List Nat} {sz : Nat} {es : List (List AV)} {t : Nat} (hd : ∀ n ∈ h.dead, n ∈ d) (ha : alive ({ h with dead := d }.fresh sz es).2 t = true) :
 t = h.tn ∨ (alive h t = true ∧ t ∉ d) := by
 simp only [Heap.fresh, alive, Bool.and_eq_true, decide_eq_true_eq, Bool.not_eq_true', List.contains_eq_mem, decide_eq_false_iff_not] at ha
 obtain ⟨ha1, ha2⟩ := ha
 have ha1 : t < h.tn + 1 := of_decide_eq_true ha1
 rcases Nat.lt_or_ge t h.tn with hlt | hge
 ·exact .inr ⟨by simp [alive, hlt]; exact fun hm => ha2 (hd t hm), ha2⟩
 ·exact .inl (by omega)

theorem Sim.freshRow {w' : World} (s : Sim K G ok w0 h w) {d : List Nat} (hd : ∀ n ∈ h.dead, n ∈ d) {sz : Nat} {es : List (List AV)} {cells : Array Value} {e : TypeId} {fz : Nat × Nat} {cap : Nat}
 (hr : ∀ r ∈ es, r.length = sz) (ha : es.flatten.all AV.isCell = true) (hv : VsRel K es.flatten (cells.toList.take (es.length * sz)))
 (hos : w'.os = w.os) (htape : w'.tape = w.tape) (hout : w'.output = w.output) (hsz : w'.heap.size = w.heap.size + 1)
 (hother : ∀ k, k < w.heap.size → w'.heap[k]? = w.heap[k]?) (hthis : w'.heap[w.heap.size]? = some (.cells cells e fz))
 (hcap : es.length ≤ cap) (hfit : cap * sz ≤ cells.size) (hfz : ∀ j, j < cells.size → frz fz j = false) :
 ∃ K', K.Le K' ∧ Sim K' G ok w0 ({ h with dead := d }.fresh sz es).2 w' ∧ VRel K' ({ h with dead := d }.fresh sz es).1 (.slice (some ⟨w.heap.size, 0, none⟩) es.length cap) := by
 have hicn : ∀ j, K.ic w.heap.size j = none := fun j => by
  cases hc : K.ic w.heap.size j with
  | none => rfl
  | some c => have := s.lt_of_cell hc; omega
 have hlen : es.length * sz ≤ cells.size := Nat.le_trans (Nat.mul_le_mul_right _ hcap) hfit
 have hrow := s.row (h' := ({ h with dead := d }.fresh sz es).2) (w' := w') (g := w.heap.size) (off := 0) (m := es.length * sz) (cells := cells) (e := e) (fz := fz) rfl rfl rfl
  (fun t ht => (alive_fresh hd ht).imp id fun hh => ⟨hh.1, fun heq => by
   obtain ⟨_, _, _, _, _, _, h4, _⟩ := s.tok t hh.1
   have := lt_of_heap h4; omega⟩)
  s.size (fun b hb => by
   obtain ⟨cs, hcs⟩ := βsome s hb
   obtain ⟨_, _, _, _, _, h3, _⟩ := s.box b _ cs hb hcs
   have := lt_of_heap h3; omega) (fun j _ => hicn j) (by omega) hos htape hout
  (fun k o hk ho => by rw [hother k (lt_of_heap ho)]; exact ho) hthis (fun o ho => by have := lt_of_heap ho; omega) (fun j c hc => by rw [hicn] at hc; cases hc) (Nat.zero_le _) hlen (fun j _ hl => hfz j hl)
 have le := Know.le_row (K := K) (g := w.heap.size) (off := 0) (m := es.length * sz) (size := cells.size) (cells := fun j => cells[j]?) (fun j _ => hicn j)
 refine ⟨_, le, hrow, ?_⟩
 refine .list (.free h.tn) sz es w.heap.size 0 _ cap (cells.toList.take (es.length * sz)) rfl hr (hv.mono le) (fun j c hj => ?_) ⟨hcap, ?_⟩ ha
 ·simp only [List.getElem?_take] at hj
  split at hj
  ·rename_i hlt
   simp only [Know.row, Nat.zero_add]
   rw [if_pos (by exact ⟨trivial, Nat.zero_le _, hlt⟩)]
   simpa using hj
  ·cases hj
 ·simp only [Know.row, s.tn, if_true]
  refine ⟨by omega, trivial, by omega, by omega⟩

theorem byteRow_len (l : List UInt8) : ∀ r ∈ l.map byteRow, r.length = 1 := by
 intro r hr
 simp only [List.mem_map] at hr
 obtain ⟨b, _, rfl⟩ := hr
 rfl

theorem byteRow_flat (l : List UInt8) : (l.map byteRow).flatten = l.map fun b => AV.v (.int .u8 b.toNat) := by
 induction l with
 | nil => rfl
 | cons b l ih => simp [byteRow, ih]

theorem byteRow_rel (l : List UInt8) : VsRel K (l.map byteRow).flatten (l.map fun b => Value.int .u8 b.toNat) := by
 rw [byteRow_flat]
 exact VsRel.map_mk fun b _ => .v _ rfl

theorem byteRow_cell (l : List UInt8) : (l.map byteRow).flatten.all AV.isCell = true := by
 rw [byteRow_flat, List.all_eq_true]
 intro x hx
 simp only [List.mem_map] at hx
 obtain ⟨b, _, rfl⟩ := hx
 rfl

theorem toBytes_rel (s : Sim K G ok w0 h w) {e : TypeId} {str : ByteArray} :
 ∃ K' v w', K.Le K' ∧ Sim K' G ok w0 (h.fresh 1 (str.data.toList.map byteRow)).2 w' ∧ VRel K' (h.fresh 1 (str.data.toList.map byteRow)).1 v ∧ (Conv.stringToBytes e str).run P w = .ok v w' := by
 have hq : ∃ cap, str.size ≤ cap ∧ (choose (.appendCap str.size 0 e)).run P w = .ok cap { w with drawn := w.drawn + 1 } := by
  refine ⟨_, ?_, by simp [Question.forced]; rfl⟩
  simp [Question.cut]
 obtain ⟨cap, hcap, hch⟩ := hq
 let w1 : World := { w with drawn := w.drawn + 1 }
 let cells : Array Value := str.data.map (fun b => .int .u8 b.toNat) ++ Array.replicate (cap - str.size) (.int .u8 0)
 have hcs : cells.size = cap := by
  have : str.data.size = str.size := rfl
  simp only [cells, Array.size_append, Array.size_map, Array.size_replicate, this]; try omega
 have hlen : str.data.toList.length = str.size := rfl
 let w2 : World := ({ w1 with heap := w1.heap.push (.cells cells e) } : World).freeze { block := w1.heap.size, off := cap } 1
 have hthis : w2.heap[w.heap.size]? = some (.cells cells e (cap, cap + 1)) := by
  simp only [w2, World.freeze, w1, Nat.one_ne_zero, if_false, Array.getElem?_modify, if_true, Array.getElem?_push_size, Option.map_some]
  rfl
 have hother : ∀ k, k < w.heap.size → w2.heap[k]? = w.heap[k]? := fun k hk => by
  simp only [w2, World.freeze, w1, Array.getElem?_modify]
  simp only [Nat.one_ne_zero, if_false, Array.getElem?_modify]
  rw [if_neg (by omega)]
  exact heap_push_old w _ hk
 obtain ⟨K', le, s', hv⟩ := s.freshRow (w' := w2) (d := h.dead) (fun _ hm => hm) (sz := 1) (es := str.data.toList.map byteRow) (cells := cells) (e := e) (fz := (cap, cap + 1)) (cap := cap)
  (byteRow_len _) (byteRow_cell _) (by
   have : cells.toList.take ((str.data.toList.map byteRow).length * 1) = str.data.toList.map fun b => Value.int .u8 b.toNat := by
    simp only [cells, Array.toList_append, Array.toList_map, List.length_map, Nat.mul_one]
    rw [List.take_append_of_le_length (by simp), List.take_of_length_le (by simp)]
   rw [this]
   exact byteRow_rel _) rfl rfl rfl (by simp [w2, World.freeze, w1]) hother hthis (by simp only [List.length_map, hlen]; exact hcap) (by omega) (fun j hj => by simp [frz]; omega)
 refine ⟨K', _, w2, le, s', hv, ?_⟩
 have hl2 : (str.data.toList.map byteRow).length = str.size := by simp only [List.length_map, hlen]
 rw [hl2]
 simp only [Conv.stringToBytes, Sem.run_bind, hch, Result.andThen_ok, newRow, run_newObj, Sem.run_pure, markStringish, run_shape]
 have hsh : ({ w1 with heap := w1.heap.push (.cells cells e) } : World).shape? w1.heap.size = some (e, cap) := by
  simp [World.shape?, hcs]
 simp only [w1, cells] at hsh
 simp only [hsh, run_freeze, Result.andThen_ok, Sem.run_pure, w2, w1, cells]

theorem bytesOf_rel : ∀ {rows : List (List AV)} {l : List UInt8}, bytesOf rows = some l → ∀ {vs : List Value}, VsRel K rows.flatten vs →
 ∃ ns : List Int, vs = ns.map (.int .u8 ·) ∧ l = ns.map fun n => UInt8.ofNat n.toNat := by
 intro rows
 induction rows with
 | nil => intro l h vs hv; simp [bytesOf] at h; subst h; cases hv; exact ⟨[], rfl, rfl⟩
 | cons r rows ih =>
  intro l h vs hv
  simp only [bytesOf] at h
  split at h
  ·rename_i b l' hb hl
   injection h with h; subst h
   unfold byteOf at hb
   split at hb
   ·rename_i n
    injection hb with hb; subst hb
    simp only [List.flatten_cons, List.cons_append, List.nil_append] at hv
    cases hv with
    | cons _ c _ cs hx hs =>
     obtain ⟨ns, h1, h2⟩ := ih hl hs
     exact ⟨n :: ns, by rw [hx.scalar_of.1, h1]; rfl, by rw [h2]; rfl⟩
   ·cases hb
  ·cases h

theorem foldl_push (ns : List Int) : ∀ acc : ByteArray, ns.foldl (fun b a => b.push (UInt8.ofNat a.toNat)) acc = ⟨acc.data ++ (ns.map fun n => UInt8.ofNat n.toNat).toArray⟩ := by
 induction ns with
 | nil => intro acc; simp
 | cons n ns ih =>
  intro acc
  simp only [List.foldl_cons, ih, List.map_cons]
  simp [ByteArray.push]

theorem rows_rel (s : Sim K G ok w0 h w) {size : Nat} {x : AV} {rows : List (List AV)} (he : rowsOf h size x = some rows) {c : Value} (hv : VRel K x c) :
 ∃ a cap vals, c = .slice a rows.length cap ∧ (∀ r ∈ rows, r.length = size) ∧ VsRel K rows.flatten vals ∧ rows.flatten.all AV.isCell = true ∧ vals.length = rows.length * size ∧
  (∀ b, a = some b → (loadCells b (rows.length * size)).run P w = .ok vals.toArray w) ∧ (a = none → rows = []) := by
 unfold rowsOf at he
 split at he
 ·rename_i k sz es
  split at he
  ·rename_i hsz
   injection he with he; subst he
   cases hv with
   | nil => exact ⟨none, 0, [], rfl, by simp, .nil, rfl, by simp, fun b hb => (by cases hb), fun _ => rfl⟩
   | none0 _ a0 =>
    refine ⟨some a0, 0, [], rfl, by simp, .nil, rfl, by simp, fun b hb => ?_, fun hb => by cases hb⟩
    have := run_loadCells_list (P := P) w b [] (fun j v hj => by simp at hj)
    simpa using this
   | list _ _ _ g off n cap cells hn hr hvs hic ht ha =>
    subst hn
    have hl : cells.length = es.length * sz := by rw [← hvs.length, flatten_length hr]
    have hsz2 : es.length * sz = es.length * size := by
     rcases hsz with h | h
     ·rw [h]
     ·simp [h]
    refine ⟨some ⟨g, off, none⟩, cap, cells, rfl, fun r hm => ?_, hvs, ha, by rw [hl, hsz2], fun b hb => ?_, fun hn => by cases hn⟩
    ·rcases hsz with h | h
     ·rw [← h]; exact hr r hm
     ·rw [h] at hm; simp at hm
    ·injection hb with hb; subst hb
     have := run_loadCells_list (P := P) w ⟨g, off, none⟩ cells (fun j v hj => by rw [Addr.add_none]; exact s.ic _ _ _ (hic j v hj))
     rw [hl, hsz2] at this
     exact this
  ·cases he
 ·rename_i b off len cap
  split at he
  ·rename_i cs hcs
   split at he
   ·rename_i hfit
    injection he with he; subst he
    cases hv with
    | arr _ g _ _ _ off' cap' hb hl hcc hoo hrr =>
     obtain ⟨_, _, ka, cells, e, k3, k4⟩ := s.box b g cs hb hcs
     have hflat : ∀ n, off + n * size ≤ cs.length → ((List.range n).map fun i => (cs.drop (off + i * size)).take size).flatten = (cs.drop off).take (n * size) := by
      intro n
      induction n with
      | zero => intro _; simp
      | succ n ih =>
       intro hn
       rw [List.range_succ, List.map_append, List.flatten_append, ih (by rw [Nat.add_mul] at hn; omega)]
       simp only [List.map_cons, List.map_nil, List.flatten_cons, List.flatten_nil, List.append_nil]
       rw [show (n + 1) * size = n * size + size by rw [Nat.add_mul]; omega, List.take_add, List.drop_drop]
     have hf := hflat len hfit
     have hk4 := (k4.1.drop off).take (len * size)
     have hcl : cs.length ≤ cells.toList.length := by
      have := k4.le
      simpa using this
     have hvl : (((cells.toList.take cs.length).drop off).take (len * size)).length = len * size := by
      simp only [List.length_take, List.length_drop]; omega
     refine ⟨some ⟨g, off', none⟩, cap', ((cells.toList.take cs.length).drop off).take (len * size), by simp, fun r hr => ?_, ?_, ?_, by rw [hvl]; simp, fun b' hb' => ?_, fun hn => by cases hn⟩
     ·simp only [List.mem_map, List.mem_range] at hr
      obtain ⟨i, hi, rfl⟩ := hr
      simp only [List.length_take, List.length_drop]
      have : (i + 1) * size ≤ len * size := Nat.mul_le_mul_right _ hi
      rw [Nat.add_mul] at this
      omega
     ·rw [hf]; exact hk4
     ·rw [hf, List.all_eq_true]
      intro x hx
      exact List.all_eq_true.1 ka x (List.mem_of_mem_drop (List.mem_of_mem_take hx))
     ·injection hb' with hb'; subst hb'
      have := run_loadCells_list (P := P) w ⟨g, off', none⟩ (((cells.toList.take cs.length).drop off).take (len * size)) (fun j v hj => by
       rcases hoo with rfl | hz
       ·rw [Addr.add_none, cell_of k3]
        simp only [List.getElem?_take, List.getElem?_drop] at hj
        split at hj
        ·split at hj
         ·simpa using hj
         ·cases hj
        ·cases hj
       ·have hl0 : len = 0 := by omega
        subst hl0
        simp at hj)
      have hl2 : (((cells.toList.take cs.length).drop off).take (len * size)).length = ((List.range len).map fun i => (cs.drop (off + i * size)).take size).length * size := by
       rw [hvl]; simp
      rw [hl2] at this
      exact this
   ·cases he
  ·cases he
 ·cases he

theorem newRows_rel (s : Sim K G ok w0 h w) {size : Nat} {x : AV} {rows : List (List AV)} (he : newRows h size x = some rows) {c : Value} (hv : VRel K x c) :
 ∃ vals, (Builtin.lenOf c).run P w = .ok rows.length w ∧ (∀ r ∈ rows, r.length = size) ∧ VsRel K rows.flatten vals ∧ rows.flatten.all AV.isCell = true ∧ vals.length = rows.length * size ∧
  (Builtin.firstCells size rows.length c).run P w = .ok vals.toArray w := by
 unfold newRows at he
 split at he
 ·rename_i str
  split at he
  ·rename_i h1
   injection he with he; subst he; subst h1
   obtain ⟨rfl, _⟩ := hv.scalar_of
   have hl : (str.data.toList.map byteRow).length = str.size := by rw [List.length_map]; rfl
   refine ⟨str.data.toList.map fun b => .int .u8 b.toNat, by rw [hl]; rfl, byteRow_len _, byteRow_rel _, byteRow_cell _, by simp, ?_⟩
   rw [hl]
   have : str.extract 0 str.size = str := by simp
   have e2 : str.data.map (fun b => Value.int .u8 b.toNat) = (str.data.toList.map fun b => Value.int .u8 b.toNat).toArray := by apply Array.ext'; simp
   simp only [Builtin.firstCells, this, Sem.run_pure, e2]
  ·cases he
 ·obtain ⟨a, cap, vals, rfl, hr, hvs, ha, hlen, hload, hnil⟩ := rows_rel (P := P) s he hv
  refine ⟨vals, rfl, hr, hvs, ha, hlen, ?_⟩
  cases a with
  | none =>
   have := hnil rfl
   subst this
   have : vals = [] := by simpa using hlen
   subst this
   rfl
  | some b => exact hload b rfl

theorem size_zeroCells' (z : Array Value) (n : Nat) : (Builtin.zeroCells z n).size = n * z.size := by simp [Builtin.zeroCells]

theorem grow_rel (s : Sim K G ok w0 h w) {d : List Nat} (hd : ∀ n ∈ h.dead, n ∈ d) {t0 t1 elem : TypeId} {ts : Array TypeId} {ty : TypeId} {i : TypeInfo} {d1 : TypeDesc} (h0 : ts[0]? = some t0) (hu : P.underlying t0 = some (.slice elem))
 (h1 : ts[1]? = some t1) (hu1 : P.underlying t1 = some d1) (hd1 : ∀ k, d1 ≠ .int k) (hi : P.info? elem = some i) (hz : (i.zero.map fun z => z.cells.size) = some i.size)
 {es new : List (List AV)} {a : Option Addr} {cap : Nat} {c cx : Value} (hc : c = .slice a es.length cap) (hcap : cap < es.length + new.length)
 (hr : ∀ r ∈ es, r.length = i.size) (ha : es.flatten.all AV.isCell = true) {vals : List Value} (hvs : VsRel K es.flatten vals) (hf : (Builtin.firstCells i.size es.length c).run P { w with drawn := w.drawn + 1 } = .ok vals.toArray { w with drawn := w.drawn + 1 })
 {nv : List Value} (hlx : (Builtin.lenOf cx).run P w = .ok new.length w) (hrn : ∀ r ∈ new, r.length = i.size) (hvn : VsRel K new.flatten nv) (han : new.flatten.all AV.isCell = true)
 (hfx : (Builtin.firstCells i.size new.length cx).run P { w with drawn := w.drawn + 1 } = .ok nv.toArray { w with drawn := w.drawn + 1 })
 (hb : (es.length + new.length) * i.bytes ≤ 140737488355328) (hm : es.length + new.length ≤ 9223372036854775807) :
 ∃ K' v w', K.Le K' ∧ Sim K' G ok w0 ({ h with dead := d }.fresh i.size (es ++ new)).2 w' ∧ VRel K' ({ h with dead := d }.fresh i.size (es ++ new)).1 v ∧ (Builtin.append_ ts ty #[c, cx]).run P w = .ok v w' := by
 simp only [Option.map_eq_some_iff] at hz
 obtain ⟨z, hz, hzs⟩ := hz
 have hq : ∃ nc, es.length + new.length ≤ nc ∧ (choose (.appendCap (es.length + new.length) cap elem)).run P w = .ok nc { w with drawn := w.drawn + 1 } := by
  refine ⟨_, ?_, by simp [Question.forced]; rfl⟩
  simp [Question.cut]
 obtain ⟨nc, hnc, hch⟩ := hq
 let rest := Builtin.zeroCells z.cells (nc - (es.length + new.length))
 let cells : Array Value := vals.toArray ++ nv.toArray ++ rest
 let w1 : World := { w with drawn := w.drawn + 1 }
 let w2 : World := { w1 with heap := w1.heap.push (.cells cells elem) }
 have hl1 : vals.length = es.length * i.size := by rw [← hvs.length, flatten_length hr]
 have hl2 : nv.length = new.length * i.size := by rw [← hvn.length, flatten_length hrn]
 have hlen : (es ++ new).length * i.size = (vals ++ nv).length := by rw [List.length_append, List.length_append, hl1, hl2, Nat.add_mul]
 have hzero : (zeroValue elem).run P w1 = .ok z w1 := by simp [zeroValue, run_info hi, hz]
 have hfits := growslice_fits (bytes := i.bytes) hcap hb
 have hrun : (Builtin.append_ ts ty #[c, cx]).run P w = .ok (.slice (some ⟨w.heap.size, 0, none⟩) (es.length + new.length) nc) w2 := by
  subst hc
  have e1 : ¬ (((es.length + new.length : Nat) : Int) > IntKind.i64.max) := by simp only [IntKind.max, IntKind.signed, IntKind.bits]; simp; omega
  have e2 : ¬ (Builtin.nextslicecap (es.length + new.length) cap * i.bytes > 2 ^ 48) := by omega
  have e3 : ¬ (es.length + new.length ≤ cap) := by omega
  cases d1 <;> first | exact absurd rfl (hd1 _) | (simp only [Builtin.append_, h0, List.getElem?_toArray, List.getElem?_cons_zero, List.getElem?_cons_succ, Sem.run_bind, run_und hu, Result.andThen_ok, sizeOf, run_info hi, Sem.run_pure, h1, run_und hu1, Bool.false_eq_true, if_false, hlx, e3, e1, e2, false_and, hch, run_askRoom, hf, Bool.not_false, if_true, hfx, newRow, run_newObj, hzero, w1, w2, cells, rest])
 have hs1 : cells.size = nc * i.size := by
  simp only [cells, Array.size_append, List.size_toArray, rest, size_zeroCells', hl1, hl2, hzs]
  rw [Nat.sub_mul]
  have : (es.length + new.length) * i.size ≤ nc * i.size := Nat.mul_le_mul_right _ hnc
  rw [Nat.add_mul] at this ⊢
  omega
 have hthis : w2.heap[w.heap.size]? = some (.cells cells elem (0, 0)) := by simp [w2, w1]
 obtain ⟨K', le, s', hv⟩ := s.freshRow (w' := w2) hd (sz := i.size) (es := es ++ new) (cells := cells) (e := elem) (fz := (0, 0)) (cap := nc)
  (fun r hm => by rcases List.mem_append.1 hm with hm | hm; exact hr r hm; exact hrn r hm) (by rw [List.flatten_append, List.all_append, ha, han]; rfl) (by
   have : cells.toList.take ((es ++ new).length * i.size) = vals ++ nv := by
    rw [hlen]
    simp only [cells, Array.toList_append]
    rw [List.take_append_of_le_length (by simp)]
    exact List.take_of_length_le (by simp)
   rw [this, List.flatten_append]
   exact hvs.append hvn) rfl rfl rfl (by simp [w2, w1]) (fun k hk => heap_push_old w _ hk) hthis (by rw [List.length_append]; exact hnc) (by rw [hs1]; exact Nat.le_refl _) (fun j _ => frz00 j)
 rw [List.length_append] at hv
 exact ⟨K', _, w2, le, s', hv, hrun⟩

set_option maxHeartbeats 1000000 in
theorem append_rel (s : Sim K G ok w0 h w) {ts : Array TypeId} {ty : TypeId} {a x y : AV} {h' : Heap} (he : appendEv P h ts a x = some (y, h')) {c cx : Value} (ha : VRel K a c) (hx : VRel K x cx) :
 ∃ K' v w', K.Le K' ∧ Sim K' G ok w0 h' w' ∧ VRel K' y v ∧ (Builtin.append_ ts ty #[c, cx]).run P w = .ok v w' := by
 unfold appendEv at he
 split at he
 ·cases he
 ·rename_i elem d1 hnot hu hu1
  simp only [Option.bind_eq_some_iff] at hu hu1
  obtain ⟨t0, h0, hu⟩ := hu
  obtain ⟨t1, h1, hu1⟩ := hu1
  have hd1 : ∀ k, d1 ≠ .int k := fun k e => hnot k e
  split at he
  ·cases he
  rename_i i hi
  split at he
  ·cases he
  rename_i new hnew
  split at he
  rotate_left
  ·cases he
  rename_i hz
  obtain ⟨nv, n1, n2, n3, n4, n5, n6⟩ := newRows_rel (P := P) s hnew hx
  obtain ⟨nv', n1', n2', n3', n4', n5', n6'⟩ := newRows_rel (P := P) (s.drew (w.drawn + 1)) hnew hx
  split at he
  ·rename_i k sz es
   split at he
   rotate_left
   ·cases he
   rename_i hsz
   have hrows : rowsOf h i.size (.list k sz es) = some es := by simp only [rowsOf]; rw [if_pos hsz]
   obtain ⟨b, cap, vals, rfl, r1, r2, r3, r4, r5, r6⟩ := rows_rel (P := P) (s.drew (w.drawn + 1)) hrows ha
   have hf : (Builtin.firstCells i.size es.length (.slice b es.length cap)).run P { w with drawn := w.drawn + 1 } = .ok vals.toArray { w with drawn := w.drawn + 1 } := by
    cases b with
    | none => have := r6 rfl; subst this; have : vals = [] := by simpa using r4
              subst this; rfl
    | some b => exact r5 b rfl
   split at he
   ·rename_i hnil
    injection he with he
    obtain ⟨rfl, rfl⟩ := Prod.mk.inj he
    subst hnil
    have hnv : nv = [] := by simpa using n5
    subst hnv
    refine ⟨K, .slice b es.length cap, w, .refl K, s, ha, ?_⟩
    have hcap : es.length ≤ cap := by
     cases ha with
     | nil => exact Nat.le_refl _
     | none0 => exact Nat.le_refl _
     | list _ _ _ _ _ _ _ _ _ _ _ _ ht _ => exact ht.1
    have n1 : (Builtin.lenOf cx).run P w = .ok 0 w := n1
    have n6 : (Builtin.firstCells i.size 0 cx).run P w = .ok #[] w := n6
    cases d1 <;> first | exact absurd rfl (hd1 _) | (cases b <;> simp only [Builtin.append_, h0, List.getElem?_toArray, List.getElem?_cons_zero, List.getElem?_cons_succ, Sem.run_bind, run_und hu, Result.andThen_ok, sizeOf, run_info hi, Sem.run_pure, h1, run_und hu1, Bool.false_eq_true, if_false, n1, Nat.add_zero, hcap, if_true, Bool.not_false, n6, storeCells])
   ·rename_i hnn
    have hnpos : 0 < new.length := by cases new with | nil => exact absurd rfl hnn | cons _ _ => simp
    split at he
    rotate_left
    ·cases he
    rename_i hb
    have grow : ∀ d : List Nat, (∀ n ∈ h.dead, n ∈ d) → cap < es.length + new.length →
     ∃ K' v w', K.Le K' ∧ Sim K' G ok w0 ({ h with dead := d }.fresh i.size (es ++ new)).2 w' ∧ VRel K' ({ h with dead := d }.fresh i.size (es ++ new)).1 v ∧ (Builtin.append_ ts ty #[.slice b es.length cap, cx]).run P w = .ok v w' :=
     fun d hd hcap => grow_rel s hd h0 hu h1 hu1 hd1 hi hz.2 rfl hcap r1 r3 r2 hf n1 n2 n3' n4 n6' hb.1 hb.2
    split at he
    ·injection he with he
     obtain ⟨rfl, rfl⟩ := Prod.mk.inj he
     cases ha with
     | nil => exact grow h.dead (fun _ hm => hm) (by simpa using hnpos)
     | list _ _ _ _ _ _ _ _ _ _ _ _ ht _ => exact ht.2.elim
    ·injection he with he
     obtain ⟨rfl, rfl⟩ := Prod.mk.inj he
     cases ha with
     | none0 => exact grow h.dead (fun _ hm => hm) (by simpa using hnpos)
     | list _ _ _ _ _ _ _ _ _ _ _ _ ht _ => exact grow h.dead (fun _ hm => hm) (by have := ht.2; simp only at this; omega)
    ·rename_i n
     split at he
     rotate_left
     ·cases he
     rename_i hal0
     simp only [Bool.and_eq_true, decide_eq_true_eq] at hal0
     obtain ⟨hal, hsi⟩ := hal0
     injection he with he
     obtain ⟨rfl, rfl⟩ := Prod.mk.inj he
     rcases Nat.lt_or_ge cap (es.length + new.length) with hcap | hcap
     ·exact grow (n :: h.dead) (fun _ hm => List.mem_cons_of_mem _ hm) hcap
     ·cases ha with
      | list _ _ _ g off n' _ cells hn hr hvs hic ht hac =>
       obtain ⟨t1', t2, t3, t4⟩ := ht.2
       obtain ⟨k1, k2, k3, bc, be, bz, k4, k5, k6⟩ := s.tok n hal
       subst t2
       subst hsi
       have hbs : bc.size = (K.tk n).2.2 := k5
       have hfit : off + es.length * i.size + nv.length ≤ bc.size := by
        have : (es.length + new.length) * i.size ≤ cap * i.size := Nat.mul_le_mul_right _ hcap
        rw [Nat.add_mul] at this
        omega
       obtain ⟨w', cells', q1, q2, q3⟩ := run_storeCells (P := P) (off + es.length * i.size) be bz nv 0 bc w k4 (by omega) (all_one n3 n4) (fun j hj hj' => by
        rw [← frozen_of k4]
        exact k6 j (by omega) (by omega))
       have hl3 : cells'.size = bc.size := by
        have h1 : cells'.toList.length = bc.toList.length := by
         rw [q3]
         simp only [List.length_append, List.length_take, List.length_drop, Array.length_toList, Nat.add_zero]
         omega
        simpa using h1
       have hget : ∀ j, j < off + es.length * i.size → cells'[j]? = bc[j]? := fun j hj => by
        rw [← Array.getElem?_toList, q3, ← Array.getElem?_toList, List.append_assoc, List.getElem?_append_left (by simp; omega), List.getElem?_take, if_pos (by omega)]
       have hget2 : ∀ j, j < nv.length → cells'[off + es.length * i.size + j]? = nv[j]? := fun j hj => by
        have hlt : (bc.toList.take (off + es.length * i.size + 0)).length = off + es.length * i.size := by simp; omega
        rw [← Array.getElem?_toList, q3, List.append_assoc, List.getElem?_append_right (by omega), hlt, List.getElem?_append_left (by omega)]
        congr 1; omega
       have hrow := s.row (h' := ({ h with dead := n :: h.dead }.fresh i.size (es ++ new)).2) (w' := w') (g := (K.tk n).1) (off := off + es.length * i.size) (m := off + (es.length + new.length) * i.size) (cells := cells') (e := be) (fz := bz) rfl rfl rfl
        (fun t ht => (alive_fresh (fun _ hm => List.mem_cons_of_mem _ hm) ht).imp id fun hh => ⟨hh.1, fun heq => hh.2 (by rw [s.tokd t n hh.1 hal heq]; exact List.mem_cons_self ..)⟩)
        k1 k2 (fun j hj => k3 j (by omega)) (by rw [q2.size]; exact Nat.le_refl _) q2.os q2.tape q2.output (fun k o hk ho => (q2.other k hk).trans ho) q2.this (fun o ho => by rw [k4] at ho; injection ho with ho; subst ho; exact ⟨_, _, _, rfl⟩)
        (fun j c hc => by
         have hj : j < off + es.length * i.size := by
          rcases Nat.lt_or_ge j (off + es.length * i.size) with h | h
          ·exact h
          ·rw [k3 j (by omega)] at hc; cases hc
         rw [hget j hj, ← cell_of k4]; exact s.ic _ _ _ hc)
        (by rw [Nat.add_mul]; omega) (by rw [Nat.add_mul, hl3]; omega) (fun j hj hl => by rw [← frozen_of k4]; rw [Nat.add_mul] at hj; exact k6 j (by omega) (by omega))
       have le := Know.le_row (K := K) (g := (K.tk n).1) (off := off + es.length * i.size) (m := off + (es.length + new.length) * i.size) (size := cells'.size) (cells := fun j => cells'[j]?) (fun j hj => k3 j (by omega))
       have hcl : cells.length = es.length * i.size := by rw [← hvs.length, flatten_length hr]
       refine ⟨_, .slice (some ⟨(K.tk n).1, off, none⟩) (es.length + new.length) cap, w', le, hrow, ?_, ?_⟩
       ·refine .list (.free h.tn) i.size (es ++ new) (K.tk n).1 off _ cap (cells ++ nv) (by simp) (fun r hm => by rcases List.mem_append.1 hm with hm | hm; exact hr r hm; exact n2 r hm) (by rw [List.flatten_append]; exact (hvs.append n3).mono le) (fun j c hj => ?_) ⟨hcap, ?_⟩ (by rw [List.flatten_append, List.all_append, hac, n4]; rfl)
        ·rcases Nat.lt_or_ge j cells.length with hlt | hge
         ·rw [List.getElem?_append_left hlt] at hj
          exact le.ic _ _ _ (hic j c hj)
         ·rw [List.getElem?_append_right hge] at hj
          have hjl : j - cells.length < nv.length := (List.getElem?_eq_some_iff.1 hj).1
          simp only [Know.row]
          rw [if_pos (by refine ⟨trivial, by omega, by rw [Nat.add_mul]; omega⟩)]
          have := hget2 (j - cells.length) hjl
          rw [hj] at this
          rw [← this]; congr 1; omega
        ·simp only [Know.row, s.tn, if_true]
         refine ⟨by omega, trivial, trivial, by omega⟩
       ·have hadd : (⟨(K.tk n).1, off, none⟩ : Addr).add (es.length * i.size) = ⟨(K.tk n).1, off + es.length * i.size, none⟩ := Addr.add_none _ _ _
        cases d1 <;> first | exact absurd rfl (hd1 _) | (simp only [Builtin.append_, h0, List.getElem?_toArray, List.getElem?_cons_zero, List.getElem?_cons_succ, Sem.run_bind, run_und hu, Result.andThen_ok, sizeOf, run_info hi, Sem.run_pure, h1, run_und hu1, Bool.false_eq_true, if_false, n1, hcap, if_true, Bool.not_false, n6, hadd, q1])
    ·cases he
  ·rename_i b off len cap
   split at he
   ·rename_i cs hcs
    split at he
    ·rename_i hc
     injection he with he
     obtain ⟨rfl, rfl⟩ := Prod.mk.inj he
     cases ha with
     | arr _ g _ _ _ off' cap' hb hl hcc hoo hrr =>
      obtain ⟨k1, k2, ka, cells, e, k3, k4⟩ := s.box b g cs hb hcs
      have hsz2 : cs.length ≤ cells.size := k4.le
      have hm : (len + new.length) * i.size ≤ cap * i.size := Nat.mul_le_mul_right _ hc.1
      rw [Nat.add_mul] at hm
      have hcc2 : len + new.length ≤ cap' := by omega
      by_cases hz0 : cap = 0
      ·have hn0 : new = [] := by cases new with | nil => rfl | cons _ _ => simp at hc; omega
       subst hn0
       have hnv : nv = [] := by simpa using n5
       subst hnv
       have n1 : (Builtin.lenOf cx).run P w = .ok 0 w := n1
       have n6 : (Builtin.firstCells i.size 0 cx).run P w = .ok #[] w := n6
       have hset : h.boxes.set b (splice cs (off + len * i.size) ([] : List (List AV)).flatten) = h.boxes := by
        rw [show splice cs (off + len * i.size) ([] : List (List AV)).flatten = cs by simp [splice]]
        apply List.ext_getElem?
        intro k
        rw [List.getElem?_set]
        split
        ·rename_i e; subst e
         rw [if_pos (List.getElem?_eq_some_iff.1 hcs).1, hcs]
        ·rfl
       rw [hset]
       refine ⟨K, .slice (some ⟨g, off', none⟩) len cap', w, .refl K, s, .arr _ _ _ _ _ _ _ hb hl hcc hoo hrr, ?_⟩
       have hlc : len ≤ cap' := by omega
       cases d1 <;> first | exact absurd rfl (hd1 _) | (simp only [Builtin.append_, h0, List.getElem?_toArray, List.getElem?_cons_zero, List.getElem?_cons_succ, Sem.run_bind, run_und hu, Result.andThen_ok, sizeOf, run_info hi, Sem.run_pure, h1, run_und hu1, Bool.false_eq_true, if_false, n1, Nat.add_zero, hlc, if_true, Bool.not_false, n6, storeCells])
      ·have hoe : off' = off := by rcases hoo with p | p <;> omega
       obtain ⟨w', cells', q1, q2, q3⟩ := run_storeCells (P := P) (off + len * i.size) e (0, 0) nv 0 cells w k3 (by omega) (all_one n3 n4) (fun j _ _ => frz00 j)
       have hnl : new.flatten.length = new.length * i.size := by rw [n3.length, n5]
       refine ⟨K, .slice (some ⟨g, off', none⟩) (len + new.length) cap', w', .refl K, s.storeBox hb hcs (by rw [hnl]; omega) k3 q2 q3 n3 n4, .arr _ _ _ _ _ _ _ hb hc.1 hcc hoo hrr, ?_⟩
       have hadd : (⟨g, off, none⟩ : Addr).add (len * i.size) = ⟨g, off + len * i.size, none⟩ := Addr.add_none _ _ _
       rw [hoe]
       cases d1 <;> first | exact absurd rfl (hd1 _) | (simp only [Builtin.append_, h0, List.getElem?_toArray, List.getElem?_cons_zero, List.getElem?_cons_succ, Sem.run_bind, run_und hu, Result.andThen_ok, sizeOf, run_info hi, Sem.run_pure, h1, run_und hu1, Bool.false_eq_true, if_false, n1, hcc2, if_true, Bool.not_false, n6, hadd, q1])
    ·cases he
   ·cases he
  ·cases he
 ·cases he

theorem grow_run {t0 t1 elem : TypeId} {ts : Array TypeId} {ty : TypeId} {i : TypeInfo} {d1 : TypeDesc} (h0 : ts[0]? = some t0) (hu : P.underlying t0 = some (.slice elem))
 (h1 : ts[1]? = some t1) (hu1 : P.underlying t1 = some d1) (hd1 : ∀ k, d1 ≠ .int k) (hi : P.info? elem = some i) (hz : (i.zero.map fun z => z.cells.size) = some i.size)
 {n m : Nat} {a : Option Addr} {cap : Nat} {cx : Value} (hcap : cap < n + m) {vals : List Value} (hvl : vals.length = n * i.size)
 (hf : (Builtin.firstCells i.size n (.slice a n cap)).run P { w with drawn := w.drawn + 1 } = .ok vals.toArray { w with drawn := w.drawn + 1 })
 {nv : List Value} (hlx : (Builtin.lenOf cx).run P w = .ok m w) (hnl : nv.length = m * i.size)
 (hfx : (Builtin.firstCells i.size m cx).run P { w with drawn := w.drawn + 1 } = .ok nv.toArray { w with drawn := w.drawn + 1 })
 (hb : (n + m) * i.bytes ≤ 140737488355328) (hm : n + m ≤ 9223372036854775807) :
 ∃ nc cells, n + m ≤ nc ∧ cells.size = nc * i.size ∧ cells.toList.take ((n + m) * i.size) = vals ++ nv ∧
  (Builtin.append_ ts ty #[.slice a n cap, cx]).run P w = .ok (.slice (some ⟨w.heap.size, 0, none⟩) (n + m) nc) { w with drawn := w.drawn + 1, heap := w.heap.push (.cells cells elem) } := by
 simp only [Option.map_eq_some_iff] at hz
 obtain ⟨z, hz, hzs⟩ := hz
 have hq : ∃ nc, n + m ≤ nc ∧ (choose (.appendCap (n + m) cap elem)).run P w = .ok nc { w with drawn := w.drawn + 1 } := by
  refine ⟨_, ?_, by simp [Question.forced]; rfl⟩
  simp [Question.cut]
 obtain ⟨nc, hnc, hch⟩ := hq
 let rest := Builtin.zeroCells z.cells (nc - (n + m))
 let cells : Array Value := vals.toArray ++ nv.toArray ++ rest
 let w1 : World := { w with drawn := w.drawn + 1 }
 have hlen : (n + m) * i.size = (vals ++ nv).length := by rw [List.length_append, hvl, hnl, Nat.add_mul]
 have hzero : (zeroValue elem).run P w1 = .ok z w1 := by simp [zeroValue, run_info hi, hz]
 have hfits := growslice_fits (bytes := i.bytes) hcap hb
 refine ⟨nc, cells, hnc, ?_, ?_, ?_⟩
 ·simp only [cells, Array.size_append, List.size_toArray, rest, size_zeroCells', hvl, hnl, hzs]
  rw [Nat.sub_mul]
  have : (n + m) * i.size ≤ nc * i.size := Nat.mul_le_mul_right _ hnc
  rw [Nat.add_mul] at this ⊢
  omega
 ·rw [hlen]
  simp only [cells, Array.toList_append]
  rw [List.take_append_of_le_length (by simp)]
  exact List.take_of_length_le (by simp)
 ·have e1 : ¬ (((n + m : Nat) : Int) > IntKind.i64.max) := by simp only [IntKind.max, IntKind.signed, IntKind.bits]; simp; omega
  have e2 : ¬ (Builtin.nextslicecap (n + m) cap * i.bytes > 2 ^ 48) := by omega
  have e3 : ¬ (n + m ≤ cap) := by omega
  cases d1 <;> first | exact absurd rfl (hd1 _) | (simp only [Builtin.append_, h0, List.getElem?_toArray, List.getElem?_cons_zero, List.getElem?_cons_succ, Sem.run_bind, run_und hu, Result.andThen_ok, sizeOf, run_info hi, Sem.run_pure, h1, run_und hu1, Bool.false_eq_true, if_false, hlx, e3, e1, e2, false_and, hch, run_askRoom, hf, Bool.not_false, if_true, hfx, newRow, run_newObj, hzero, w1, cells, rest])

set_option maxHeartbeats 2000000 in
theorem thaw_rel (s : Sim K G ok w0 h w) {ts : Array TypeId} {ty : TypeId} {a x y : AV} {h' : Heap} (he : thawEv P h ts a x = some (y, h')) {c cx : Value} (ha : VRel K a c) (hx : VRel K x cx) :
 ∃ K' v w', K.Le K' ∧ Sim K' G ok w0 h' w' ∧ VRel K' y v ∧ (Builtin.append_ ts ty #[c, cx]).run P w = .ok v w' := by
 have he0 := he
 unfold thawEv at he
 split at he
 ·cases he
 ·rename_i elem d1 hnot hu0 hu01
  have hu := hu0
  have hu1 := hu01
  simp only [Option.bind_eq_some_iff] at hu hu1
  obtain ⟨t0, h0, hu⟩ := hu
  obtain ⟨t1, h1, hu1⟩ := hu1
  have hd1 : ∀ k, d1 ≠ .int k := fun k e => hnot k e
  split at he
  ·cases he
  rename_i i hi
  split at he
  ·cases he
  rename_i new hnew
  split at he
  rotate_left
  ·cases he
  rename_i hz
  obtain ⟨nv, n1, n2, n3, n4, n5, n6⟩ := newRows_rel (P := P) s hnew hx
  obtain ⟨nv', n1', n2', n3', n4', n5', n6'⟩ := newRows_rel (P := P) (s.drew (w.drawn + 1)) hnew hx
  have fresh : ∀ {h0 : Heap} (s0 : Sim K G ok w0 h0 w) {n cap : Nat} {ad : Option Addr} {cs : List AV} {vals : List Value}, h0.boxes.length = h.boxes.length → cap < n + new.length → VsRel K cs vals → cs.all AV.isCell = true → cs.length = n * i.size →
   (Builtin.firstCells i.size n (.slice ad n cap)).run P { w with drawn := w.drawn + 1 } = .ok vals.toArray { w with drawn := w.drawn + 1 } → (n + new.length) * i.bytes ≤ 140737488355328 → n + new.length ≤ 9223372036854775807 →
   ∃ K' v w', K.Le K' ∧ Sim K' G ok w0 { h0 with boxes := h0.boxes ++ [cs ++ new.flatten] } w' ∧ VRel K' (.arr h.boxes.length 0 (n + new.length) (n + new.length)) v ∧ (Builtin.append_ ts ty #[.slice ad n cap, cx]).run P w = .ok v w' := by
   intro h0' s0 n cap ad cs vals hbl hcap hvs hac hcl hf hb hm
   have hnl : new.flatten.length = new.length * i.size := flatten_length n2'
   obtain ⟨nc, cells, g1, g2, g3, g4⟩ := grow_run (ty := ty) h0 hu h1 hu1 hd1 hi hz.2 hcap (by rw [← hvs.length, hcl]) hf n1 n5' n6' hb hm
   have hcl2 : (cs ++ new.flatten).length = (n + new.length) * i.size := by rw [List.length_append, hcl, hnl, Nat.add_mul]
   obtain ⟨q1, q2⟩ := (s0.drew (w.drawn + 1)).newBoxL (cs := cs ++ new.flatten) (cells := cells) elem (some (n + new.length, i.size, nc * i.size)) (by rw [hcl2, g3]; exact hvs.append n3') (by rw [List.all_append, hac, n4']; rfl)
    (fun N sz room q => by
     injection q with q
     injection q with q1 q
     injection q with q2 q3
     subst q1 q2 q3
     exact .inr ⟨hcl2, by rw [g2]; exact Nat.le_refl _⟩)
   cases q2 with
   | box _ _ _ hb2 =>
    rw [hbl] at hb2
    refine ⟨_, _, _, K.le_boxL _ _, q1, .arr _ _ _ _ _ _ _ hb2 (Nat.le_refl _) g1 (.inl rfl) (.inr (.inr (.inr ⟨i.size, nc * i.size, ?_, hz.1, Nat.le_refl _⟩))), g4⟩
    have hlen : h.boxes.length = K.β.length := by rw [s0.βlen, hbl]
    simp only [Know.boxL, hlen, if_true]
  split at he
  ·rename_i k sz es
   split at he
   rotate_left
   ·cases he
   rename_i hsz
   split at he
   ·rename_i hnil
    refine append_rel s ?_ ha hx
    unfold appendEv
    rw [hu0, hu01]
    cases d1 <;> first | exact absurd rfl (hd1 _) | (simp only [hi, hnew, if_pos hz, if_pos hsz, if_pos hnil]; exact he)
   ·rename_i hnn
    split at he
    rotate_left
    ·cases he
    rename_i hb
    have hrows : rowsOf h i.size (.list k sz es) = some es := by simp only [rowsOf]; rw [if_pos hsz]
    obtain ⟨b, cap, vals, rfl, r1, r2, r3, r4, r5, r6⟩ := rows_rel (P := P) (s.drew (w.drawn + 1)) hrows ha
    have hf : (Builtin.firstCells i.size es.length (.slice b es.length cap)).run P { w with drawn := w.drawn + 1 } = .ok vals.toArray { w with drawn := w.drawn + 1 } := by
     cases b with
     | none => have := r6 rfl; subst this; have : vals = [] := by simpa using r4
               subst this; rfl
     | some b => exact r5 b rfl
    have hnpos : 0 < new.length := by cases new with | nil => exact absurd rfl hnn | cons _ _ => simp
    have fin : cap < es.length + new.length → some (AV.arr h.boxes.length 0 (es.length + new.length) (es.length + new.length), ({ h with boxes := h.boxes ++ [(es ++ new).flatten] } : Heap)) = some (y, h') → ∃ K' v w', K.Le K' ∧ Sim K' G ok w0 h' w' ∧ VRel K' y v ∧ (Builtin.append_ ts ty #[.slice b es.length cap, cx]).run P w = .ok v w' := fun hcap hq => by
     injection hq with hq
     obtain ⟨rfl, rfl⟩ := Prod.mk.inj hq
     rw [List.flatten_append]
     exact fresh s rfl hcap r2 r3 (flatten_length r1) hf hb.1 hb.2
    split at he
    ·refine fin ?_ he
     cases ha with
     | nil => simpa using hnpos
     | list _ _ _ _ _ _ _ _ _ _ _ _ ht _ => exact ht.2.elim
    ·refine fin ?_ he
     cases ha with
     | none0 => simpa using hnpos
     | list _ _ _ _ _ _ _ _ _ _ _ _ ht _ => have := ht.2; simp only at this; omega
    ·cases he
  ·rename_i b off len cap
   split at he
   ·rename_i cs hcs
    split at he
    ·exact append_rel s he ha hx
    ·rename_i hgt
     split at he
     ·rename_i hc
      injection he with he
      obtain ⟨rfl, rfl⟩ := Prod.mk.inj he
      obtain ⟨c1, c2, c3, c4, c5, c6⟩ := hc
      subst c1
      subst c3
      cases ha with
      | arr _ g _ _ _ off' cap' hb hl hcc hoo hrr =>
       have hoe : off' = 0 := by rcases hoo with p | p <;> omega
       subst hoe
       obtain ⟨k1, k2, ka, cells, e, k3, k4⟩ := s.box b g cs hb hcs
       have hne : cs ≠ [] := fun q => by
        subst q
        have := Nat.mul_pos c2 hz.1
        simp at c4; omega
       have hblt := (List.getElem?_eq_some_iff.1 hcs).1
       have hdrop := s.dropBox b
       have hlen2 : (h.boxes.set b []).length = h.boxes.length := by simp
       rcases Nat.lt_or_ge cap' (len + new.length) with hcap | hcap
       ·refine fresh hdrop hlen2 hcap k4.1 ka c4.symm ?_ c5 c6
        have := run_loadCells_list (P := P) { w with drawn := w.drawn + 1 } ⟨g, 0, none⟩ (cells.toList.take cs.length) (fun j v hj => by
         rw [Addr.add_none, cell_of (w := { w with drawn := w.drawn + 1 }) k3]
         simp only [List.getElem?_take] at hj
         split at hj
         ·simpa using hj
         ·cases hj)
        rw [← k4.1.length, ← c4] at this
        rw [← c4]
        exact this
       ·rcases hrr with r | r | r | ⟨sz, room, r1, r2, r3⟩
        ·omega
        ·omega
        ·exact absurd rfl r
        ·rcases k4.2 _ _ _ r1 with q | ⟨q1, q2⟩
         ·exact absurd q hne
         ·have hsz : i.size = sz := Nat.eq_of_mul_eq_mul_left c2 (c4.trans q1)
          subst hsz
          have hle := k4.le
          have hnl : new.flatten.length = new.length * i.size := flatten_length n2
          have hroom : (len + new.length) * i.size ≤ cells.size := Nat.le_trans (Nat.mul_le_mul_right _ hcap) (Nat.le_trans r3 q2)
          rw [Nat.add_mul] at hroom
          obtain ⟨w', cells', w1, w2, w3⟩ := run_storeCells (P := P) (0 + len * i.size) e (0, 0) nv 0 cells w k3 (by omega) (all_one n3 n4) (fun j _ _ => frz00 j)
          have hclen : cells'.toList.length = cells.toList.length := by
           rw [w3]; exact splice_len (by simp only [Array.length_toList]; omega)
          obtain ⟨s3, hb3⟩ := hdrop.takeBox (g := g) (cs := cs ++ new.flatten) (cells := cells') (e := e) k1 k2
           (fun b2 hb2 => by
            show (h.boxes.set b [])[b2]? = some []
            rw [List.getElem?_set]
            by_cases hbb : b = b2
            ·subst hbb; rw [if_pos rfl, if_pos hblt]
            ·rw [if_neg hbb]
             rcases s.βnd _ _ _ hb hb2 with p | p | p
             ·exact absurd p hbb
             ·rw [hcs] at p; injection p with p; exact absurd p hne
             ·exact p)
           (fun t ht hq => by
            obtain ⟨_, q, _⟩ := s.tok t ht
            exact q b (by rw [hq]; exact hb)) k3 (some (len + new.length, i.size, cells.size))
           (fun N sz room q => by
            injection q with q
            injection q with q1 q
            injection q with q2 q3
            subst q1 q2 q3
            refine .inr ⟨by rw [List.length_append, ← c4, hnl, Nat.add_mul], ?_⟩
            simp only [Array.length_toList] at hclen
            omega) w2
           (by
            rw [List.length_append, hnl, w3]
            have e1 : cs.length + new.length * i.size = 0 + len * i.size + 0 + nv.length := by omega
            rw [e1, List.take_append_of_le_length (by simp only [List.length_append, List.length_take, Array.length_toList]; omega), List.take_of_length_le (by simp only [List.length_append, List.length_take, Array.length_toList]; omega)]
            have e2 : 0 + len * i.size + 0 = cs.length := by omega
            rw [e2]
            exact k4.1.append n3) (by rw [List.all_append, ka, n4]; rfl)
          rw [hlen2] at hb3
          refine ⟨_, .slice (some ⟨g, 0, none⟩) (len + new.length) cap', w', K.le_boxL _ _, s3, .arr _ _ _ _ _ _ _ hb3 (Nat.le_refl _) hcap (.inl rfl) (.inr (.inr (.inr ⟨i.size, cells.size, ?_, hz.1, Nat.le_trans r3 q2⟩))), ?_⟩
          ·have hlen : h.boxes.length = K.β.length := s.βlen.symm
           simp only [Know.boxL, hlen, if_true]
          ·have hadd : (⟨g, 0, none⟩ : Addr).add (len * i.size) = ⟨g, 0 + len * i.size, none⟩ := Addr.add_none _ _ _
           cases d1 <;> first | exact absurd rfl (hd1 _) | (simp only [Builtin.append_, h0, List.getElem?_toArray, List.getElem?_cons_zero, List.getElem?_cons_succ, Sem.run_bind, run_und hu, Result.andThen_ok, sizeOf, run_info hi, Sem.run_pure, h1, run_und hu1, Bool.false_eq_true, if_false, n1, hcap, if_true, Bool.not_false, n6, hadd, w1])
     ·cases he
   ·cases he
  ·cases he
 ·cases he

theorem conv_rel (s : Sim K G ok w0 h w) {src dst : TypeId} {x y : AV} {h' : Heap} (he : convEv P h src dst x = some (y, h')) {c : Value} (hx : VRel K x c) :
 ∃ K' v w', K.Le K' ∧ Sim K' G ok w0 h' w' ∧ VRel K' y v ∧ (convert src dst c).run P w = .ok v w' := by
 unfold convEv at he
 split at he
 ·rename_i e str hs hd
  obtain ⟨rfl, _⟩ := hx.scalar_of
  split at he
  ·rename_i i hu hi
   split at he
   ·injection he with he
    obtain ⟨rfl, rfl⟩ := Prod.mk.inj he
    obtain ⟨K', v, w', q1, q2, q3, q4⟩ := toBytes_rel (P := P) s (e := e) (str := str)
    exact ⟨K', v, w', q1, q2, q3, by simp only [convert, Sem.run_bind, run_und hs, run_und hd, run_und hu, Result.andThen_ok]; exact q4⟩
   ·cases he
  ·cases he
 ·rename_i e hs hd
  split at he
  ·rename_i rows hu hrows
   simp only [Option.map_eq_some_iff] at he
   obtain ⟨l, hl, he⟩ := he
   obtain ⟨rfl, rfl⟩ := Prod.mk.inj he
   obtain ⟨a, cap, vals, rfl, hr, hvs, ha, hlen, hload, hnil⟩ := rows_rel (P := P) s hrows hx
   obtain ⟨ns, rfl, rfl⟩ := bytesOf_rel hl hvs
   refine ⟨K, .string ⟨(ns.map fun n => UInt8.ofNat n.toNat).toArray⟩, w, .refl K, s, .v _ rfl, ?_⟩
   cases a with
   | none =>
    have := hnil rfl
    subst this
    simp at hlen
    subst hlen
    simp only [convert, Sem.run_bind, run_und hs, run_und hd, run_und hu, Result.andThen_ok, Conv.bytesToString]
    rfl
   | some b =>
    have hl2 := hload b rfl
    rw [Nat.mul_one] at hl2
    simp only [convert, Sem.run_bind, run_und hs, run_und hd, run_und hu, Result.andThen_ok, Conv.bytesToString, hl2, List.forIn_toArray, Sem.run_pure]
    simp [foldl_push]
  ·cases he
 ·cases he
 ·rename_i d1 d2 p hs hd _ _ _
  simp only [Option.map_eq_some_iff, Option.bind_eq_some_iff] at he
  obtain ⟨z, ⟨q, h1, h2⟩, he⟩ := he
  obtain ⟨rfl, rfl⟩ := Prod.mk.inj he
  obtain ⟨rfl, _⟩ := hx.scalar_of
  exact ⟨K, q, w, .refl K, s, scalarV_rel h2, pureRun_run h1 w⟩
 ·cases he

end
end Go.AE
end

section
namespace Go.AE
open Go.RowKit (Below)

section
variable {P : Program} {K : Know} {G : Nat → Option (List AV)} {ok : FuncId → Nat → Code → Bool} {w0 w : World} {h : Heap}

theorem copy_rel (s : Sim K G ok w0 h w) {ts : Array TypeId} {ty : TypeId} {a x y : AV} {h' : Heap} (he : copyEv P h ts a x = some (y, h')) {c cx : Value} (ha : VRel K a c) (hx : VRel K x cx) :
 ∃ K' v w', K.Le K' ∧ Sim K' G ok w0 h' w' ∧ VRel K' y v ∧ (Builtin.copy_ ts ty #[c, cx]).run P w = .ok v w' := by
 unfold copyEv at he
 split at he
 ·rename_i elem hu
  simp only [Option.bind_eq_some_iff] at hu
  obtain ⟨t0, h0, hu⟩ := hu
  split at he
  ·rename_i i b off len cap hi
   split at he
   ·rename_i rows cs hrows hcs
    split at he
    ·rename_i hc
     injection he with he
     obtain ⟨rfl, rfl⟩ := Prod.mk.inj he
     obtain ⟨nv, n1, n2, n3, n4, n5, n6⟩ := newRows_rel (P := P) s hrows hx
     cases ha with
     | arr _ g _ _ _ off' cap' hb hl hcc hoo hrr =>
      obtain ⟨k1, k2, ka, cells, e, k3, k4⟩ := s.box b g cs hb hcs
      have hsz2 : cs.length ≤ cells.size := k4.le
      have hmin : Nat.min rows.length len ≤ rows.length := Nat.min_le_left _ _
      have hmin2 : Nat.min rows.length len ≤ len := Nat.min_le_right _ _
      have hm : Nat.min rows.length len * i.size ≤ len * i.size := Nat.mul_le_mul_right _ hmin2
      have hm1 : Nat.min rows.length len * i.size ≤ rows.length * i.size := Nat.mul_le_mul_right _ hmin
      have hfl : (rows.take (Nat.min rows.length len)).flatten = rows.flatten.take (Nat.min rows.length len * i.size) := flatten_take n2 _
      have hv' : VsRel K (rows.take (Nat.min rows.length len)).flatten (nv.take (Nat.min rows.length len * i.size)) := by rw [hfl]; exact n3.take _
      have hc' : (rows.take (Nat.min rows.length len)).flatten.all AV.isCell = true := by
       rw [hfl, List.all_eq_true]
       intro x hx
       exact List.all_eq_true.1 n4 x (List.mem_of_mem_take hx)
      have hlen : (nv.take (Nat.min rows.length len * i.size)).length = Nat.min rows.length len * i.size := by simp only [List.length_take]; omega
      obtain ⟨w', cells', q1, q2, q3⟩ := run_storeArr (P := P) hoo (vs := nv.take (Nat.min rows.length len * i.size)) (fun hz => by
       have : Nat.min rows.length len = 0 := by omega
       rw [this]; simp) k3 (by omega) (all_one hv' hc')
      refine ⟨K, .int .i64 (Nat.min rows.length len : Nat), w', .refl K, s.storeBox hb hcs (by rw [hv'.length]; omega) k3 q2 q3 hv' hc', .v _ rfl, ?_⟩
      ·-- the source's first cells, as many as are copied
       have hfirst : (Builtin.firstCells i.size (Nat.min rows.length len) cx).run P w = .ok (nv.take (Nat.min rows.length len * i.size)).toArray w := by
        unfold newRows at hrows
        split at hrows
        ·rename_i str
         split at hrows
         ·rename_i h1
          injection hrows with hrows; subst hrows
          obtain ⟨rfl, _⟩ := hx.scalar_of
          have hl2 : (str.data.toList.map byteRow).length = str.size := by rw [List.length_map]; rfl
          have e2 : nv = str.data.toList.map fun b => Value.int .u8 b.toNat := by
           have e3 : (Builtin.firstCells i.size (str.data.toList.map byteRow).length (.string str)).run P w = .ok (str.data.toList.map fun b => Value.int .u8 b.toNat).toArray w := by
            rw [hl2]
            have : str.extract 0 str.size = str := by simp
            have e4 : str.data.map (fun b => Value.int .u8 b.toNat) = (str.data.toList.map fun b => Value.int .u8 b.toNat).toArray := by apply Array.ext'; simp
            simp only [Builtin.firstCells, this, Sem.run_pure, e4]
           rw [e3] at n6
           injection n6 with n6 _
           exact (List.toArray_inj n6).symm
          subst e2
          rw [h1, Nat.mul_one]
          simp only [Builtin.firstCells, Sem.run_pure]
          congr 1
          apply Array.ext'
          simp only [ByteArray.data_extract, Array.toList_map, Array.toList_extract, List.extract_eq_take_drop, List.drop_zero, Nat.sub_zero, List.map_take]
         ·cases hrows
        ·obtain ⟨a, cap', vals, rfl, hr, hvs, hac, hlen', hload, hnil⟩ := rows_rel (P := P) s hrows hx
         cases a with
         | none =>
          have := hnil rfl
          subst this
          have : nv = [] := by simpa using n5
          subst this
          simp [Builtin.firstCells]
         | some ad =>
          simp only [Builtin.firstCells]
          have hl := hload ad rfl
          have e5 : vals = nv := by
           simp only [Builtin.firstCells] at n6
           rw [hl] at n6
           injection n6 with n6 _
           exact List.toArray_inj n6
          subst e5
          have hcell : ∀ j v, vals[j]? = some v → w.cell? (ad.add j) = some v := by
           unfold rowsOf at hrows
           split at hrows
           ·rename_i k sz es _
            split at hrows
            ·injection hrows with hrows; subst hrows
             cases hx with
             | none0 =>
              cases hvs
              intro j v hj
              simp at hj
             | list _ _ _ g2 off2 n cap2 cells2 hn hr2 hvs2 hic2 ht2 ha2 =>
              have hl2 := run_loadCells_list (P := P) w ⟨g2, off2, none⟩ cells2 (fun j v hj => by rw [Addr.add_none]; exact s.ic _ _ _ (hic2 j v hj))
              have hcl2 : cells2.length = es.length * i.size := by rw [← hvs2.length, hvs.length, hlen']
              rw [hcl2] at hl2
              rw [hl2] at hl
              injection hl with hl _
              have := List.toArray_inj hl
              subst this
              intro j v hj
              rw [Addr.add_none]; exact s.ic _ _ _ (hic2 j v hj)
            ·cases hrows
           ·rename_i b2 off2 len2 cap2 _
            split at hrows
            ·rename_i cs2 hcs2
             split at hrows
             ·rename_i hfit2
              injection hrows with hrows
              cases hx with
              | arr _ g2 _ _ _ off2' cap2' hb2 hl2 hcc2 hoo2 hrr2 =>
               obtain ⟨_, _, _, cells2, e2, k3', k4'⟩ := s.box b2 g2 cs2 hb2 hcs2
               have hcl : cs2.length ≤ cells2.toList.length := by
                have := k4'.le
                simpa using this
               rcases hoo2 with hoo2 | hz2
               rotate_left 1
               ·intro j v hj
                have hr0 : rows.length = 0 := by omega
                rw [hr0] at hlen'
                have : vals = [] := by simpa using hlen'
                subst this
                simp at hj
               rw [hoo2] at hl ⊢
               have hcl2 : ((cells2.toList.drop off2).take (rows.length * i.size)).length = rows.length * i.size := by
                simp only [List.length_take, List.length_drop]; omega
               have hl3 := run_loadCells_list (P := P) w ⟨g2, off2, none⟩ ((cells2.toList.drop off2).take (rows.length * i.size)) (fun j v hj => by
                rw [Addr.add_none, cell_of k3']
                simp only [List.getElem?_take, List.getElem?_drop] at hj
                split at hj
                ·simpa using hj
                ·cases hj)
               rw [hcl2] at hl3
               rw [hl3] at hl
               injection hl with hl _
               have := List.toArray_inj hl
               subst this
               intro j v hj
               rw [Addr.add_none, cell_of k3']
               simp only [List.getElem?_take, List.getElem?_drop] at hj
               split at hj
               ·simpa using hj
               ·cases hj
             ·cases hrows
            ·cases hrows
           ·cases hrows
          have := run_loadCells_list (P := P) w ad (vals.take (Nat.min rows.length len * i.size)) (fun j v hj => by
           simp only [List.getElem?_take] at hj
           split at hj
           ·exact hcell j v hj
           ·cases hj)
          rw [hlen] at this
          exact this
       simp only [Builtin.copy_, h0, List.getElem?_toArray, List.getElem?_cons_zero, List.getElem?_cons_succ, Sem.run_bind, run_und hu, Result.andThen_ok, n1, sizeOf, run_info hi, Sem.run_pure, hfirst, q1]
       rfl
    ·cases he
   ·cases he
  ·cases he
 ·cases he

theorem len_rel {ts : Array TypeId} {ty t : TypeId} (h0 : ts[0]? = some t) {x y : AV} (he : lenEv P t x = some y) {c : Value} (hx : VRel K x c) (w : World) :
 ∃ v, (Builtin.len_ ts ty #[c]).run P w = .ok v w ∧ VRel K y v := by
 unfold lenEv at he
 split at he
 ·rename_i hu
  injection he with he; subst he
  obtain ⟨rfl, _⟩ := hx.scalar_of
  exact ⟨_, by simp only [Builtin.len_, h0, List.getElem?_toArray, List.getElem?_cons_zero, Sem.run_bind, run_und hu, Result.andThen_ok, Sem.run_pure, goInt], .v _ rfl⟩
 ·rename_i n e hu
  injection he with he; subst he
  exact ⟨_, by simp only [Builtin.len_, h0, List.getElem?_toArray, List.getElem?_cons_zero, Sem.run_bind, run_und hu, Result.andThen_ok, Sem.run_pure, goInt], .v _ rfl⟩
 ·rename_i a hu
  split at he
  ·rename_i n e hu2
   injection he with he; subst he
   exact ⟨_, by simp only [Builtin.len_, h0, List.getElem?_toArray, List.getElem?_cons_zero, Sem.run_bind, run_und hu, run_und hu2, Result.andThen_ok, Sem.run_pure, goInt], .v _ rfl⟩
  ·cases he
 ·rename_i e k sz es hu
  injection he with he; subst he
  cases hx with
  | nil => exact ⟨.int .i64 0, by simp only [Builtin.len_, h0, List.getElem?_toArray, List.getElem?_cons_zero, Sem.run_bind, run_und hu, Result.andThen_ok, Sem.run_pure, goInt]; rfl, .v _ rfl⟩
  | none0 => exact ⟨.int .i64 0, by simp only [Builtin.len_, h0, List.getElem?_toArray, List.getElem?_cons_zero, Sem.run_bind, run_und hu, Result.andThen_ok, Sem.run_pure, goInt]; rfl, .v _ rfl⟩
  | list _ _ _ g off n cap cells hn _ _ _ _ _ =>
   subst hn
   exact ⟨_, by simp only [Builtin.len_, h0, List.getElem?_toArray, List.getElem?_cons_zero, Sem.run_bind, run_und hu, Result.andThen_ok, Sem.run_pure, goInt], .v _ rfl⟩
 ·rename_i e b off len cap hu
  injection he with he; subst he
  cases hx with
  | arr => exact ⟨_, by simp only [Builtin.len_, h0, List.getElem?_toArray, List.getElem?_cons_zero, Sem.run_bind, run_und hu, Result.andThen_ok, Sem.run_pure, goInt], .v _ rfl⟩
 ·cases he

theorem cap_rel {ts : Array TypeId} {ty t : TypeId} (h0 : ts[0]? = some t) {x y : AV} (he : capEv P t x = some y) {c : Value} (hx : VRel K x c) (w : World) :
 ∃ v, (Builtin.cap_ ts ty #[c]).run P w = .ok v w ∧ VRel K y v := by
 unfold capEv at he
 split at he
 ·rename_i e sz es hu
  injection he with he; subst he
  cases hx with
  | none0 => exact ⟨.int .i64 0, by simp only [Builtin.cap_, h0, List.getElem?_toArray, List.getElem?_cons_zero, Sem.run_bind, run_und hu, Result.andThen_ok, Sem.run_pure, goInt]; rfl, .v _ rfl⟩
  | list _ _ _ g off n cap cells hn _ _ _ ht _ =>
   have := ht.2
   simp only at this
   subst this
   subst hn
   exact ⟨_, by simp only [Builtin.cap_, h0, List.getElem?_toArray, List.getElem?_cons_zero, Sem.run_bind, run_und hu, Result.andThen_ok, Sem.run_pure, goInt], .v _ rfl⟩
 ·rename_i e sz es hu
  injection he with he; subst he
  cases hx with
  | nil => exact ⟨.int .i64 0, by simp only [Builtin.cap_, h0, List.getElem?_toArray, List.getElem?_cons_zero, Sem.run_bind, run_und hu, Result.andThen_ok, Sem.run_pure, goInt]; rfl, .v _ rfl⟩
  | list _ _ _ _ _ _ _ _ _ _ _ _ ht _ => exact ht.2.elim
 ·rename_i n e hu
  injection he with he; subst he
  exact ⟨_, by simp only [Builtin.cap_, h0, List.getElem?_toArray, List.getElem?_cons_zero, Sem.run_bind, run_und hu, Result.andThen_ok, Sem.run_pure, goInt], .v _ rfl⟩
 ·cases he

theorem builtin_rel (s : Sim K G ok w0 h w) {b : Builtin} {ts : Array TypeId} {ty : TypeId} {args : List AV} {y : AV} {h' : Heap} (he : builtinEv P h b ts ty args = some (y, h')) {vs : Array Value} (hx : VsRel K args vs.toList) (consts : Array Bool) :
 ∃ K' v w', K.Le K' ∧ Sim K' G ok w0 h' w' ∧ VRel K' y v ∧ (builtin b ts ty consts vs).run P w = .ok (.value v) w' := by
 unfold builtinEv at he
 obtain ⟨vs⟩ := vs
 simp only at hx
 split at he
 ·cases hx with | cons _ c _ _ hx hs => cases hs with | nil =>
  split at he
  ·rename_i t h0
   simp only [Option.map_eq_some_iff] at he
   obtain ⟨z, hz, he⟩ := he
   obtain ⟨rfl, rfl⟩ := Prod.mk.inj he
   obtain ⟨v, q1, q2⟩ := len_rel (ty := ty) h0 hz hx w
   exact ⟨K, v, w, .refl K, s, q2, by simp only [builtin, Sem.run_bind, q1, Result.andThen_ok, Sem.run_pure]⟩
  ·cases he
 ·cases hx with | cons _ c _ _ hx hs => cases hs with | nil =>
  split at he
  ·rename_i t h0
   simp only [Option.map_eq_some_iff] at he
   obtain ⟨z, hz, he⟩ := he
   obtain ⟨rfl, rfl⟩ := Prod.mk.inj he
   obtain ⟨v, q1, q2⟩ := cap_rel (ty := ty) h0 hz hx w
   exact ⟨K, v, w, .refl K, s, q2, by simp only [builtin, Sem.run_bind, q1, Result.andThen_ok, Sem.run_pure]⟩
  ·cases he
 ·cases hx with | cons _ c _ _ hx hs => cases hs with | cons _ c2 _ _ hx2 hs => cases hs with | nil =>
  obtain ⟨K', v, w', q1, q2, q3, q4⟩ := append_rel (ty := ty) s he hx hx2
  exact ⟨K', v, w', q1, q2, q3, by simp only [builtin, Sem.run_bind, q4, Result.andThen_ok, Sem.run_pure]⟩
 ·cases hx with | cons _ c _ _ hx hs => cases hs with | cons _ c2 _ _ hx2 hs => cases hs with | nil =>
  obtain ⟨K', v, w', q1, q2, q3, q4⟩ := copy_rel (ty := ty) s he hx hx2
  exact ⟨K', v, w', q1, q2, q3, by simp only [builtin, Sem.run_bind, q4, Result.andThen_ok, Sem.run_pure]⟩
 ·split at he
  ·rename_i l hl
   simp only [Option.map_eq_some_iff, Option.bind_eq_some_iff] at he
   obtain ⟨z, ⟨q, h1, h2⟩, he⟩ := he
   obtain ⟨rfl, rfl⟩ := Prod.mk.inj he
   have := flatAll_rel hl hx
   subst this
   exact ⟨K, q, w, .refl K, s, scalarV_rel h2, by simp only [builtin, Sem.run_bind, pureRun_run h1 w, Result.andThen_ok, Sem.run_pure]⟩
  ·cases he
 ·split at he
  ·rename_i l hl
   simp only [Option.map_eq_some_iff, Option.bind_eq_some_iff] at he
   obtain ⟨z, ⟨q, h1, h2⟩, he⟩ := he
   obtain ⟨rfl, rfl⟩ := Prod.mk.inj he
   have := flatAll_rel hl hx
   subst this
   exact ⟨K, q, w, .refl K, s, scalarV_rel h2, by simp only [builtin, Sem.run_bind, pureRun_run h1 w, Result.andThen_ok, Sem.run_pure]⟩
  ·cases he
 ·cases he

theorem builtinT_rel (s : Sim K G ok w0 h w) {d : Option Tmp} {b : Builtin} {ts : Array TypeId} {ty : TypeId} {args : List AV} {y : AV} {h' : Heap} (he : builtinT P G d h b ts ty args = some (y, h')) {vs : Array Value} (hx : VsRel K args vs.toList) (consts : Array Bool) :
 ∃ K' v w', K.Le K' ∧ Sim K' G ok w0 h' w' ∧ VRel K' y v ∧ (builtin b ts ty consts vs).run P w = .ok (.value v) w' := by
 unfold builtinT at he
 split at he
 ·split at he
  ·obtain ⟨vs⟩ := vs
   simp only at hx
   cases hx with | cons _ c _ _ hx hs => cases hs with | cons _ c2 _ _ hx2 hs => cases hs with | nil =>
   obtain ⟨K', v, w', q1, q2, q3, q4⟩ := thaw_rel (ty := ty) s he hx hx2
   exact ⟨K', v, w', q1, q2, q3, by simp only [builtin, Sem.run_bind, q4, Result.andThen_ok, Sem.run_pure]⟩
  ·exact builtin_rel s (b := .append) (ts := ts) (ty := ty) (args := [_, _]) (show builtinEv P h .append ts ty [_, _] = _ from he) hx consts
 ·exact builtin_rel s he hx consts

theorem pick_rel {c a b y : AV} (he : pickEv c a b = some y) {vc va vb : Value} (hc : VRel K c vc) (ha : VRel K a va) (hb : VRel K b vb) :
 ∃ t v, vc = .bool t ∧ v = (if t then va else vb) ∧ VRel K y v := by
 unfold pickEv at he
 split at he
 ·rename_i t
  injection he with he; subst he
  obtain ⟨rfl, _⟩ := hc.scalar_of
  refine ⟨t, _, rfl, rfl, ?_⟩
  cases t
  ·exact hb
  ·exact ha
 ·cases he

theorem plain_rel (s : Sim K G ok w0 h w) {ρ : Operand → AV} {ρ' : Operand → Value} (hρ : ∀ x, VRel K (ρ x) (ρ' x)) {o : Oper} {x : AV} {h' : Heap} (he : plainEv P G ρ h o.op = some (x, h')) :
 Yields K G ok w0 x h' ((execOp ρ' o).run P w) := by
 unfold execOp
 cases hop : o.op <;> rw [hop] at he <;> simp only [plainEv] at he
 case move a => injection he with he; obtain ⟨rfl, rfl⟩ := Prod.mk.inj he; exact .of_pure s (hρ a) rfl
 case assign a => injection he with he; obtain ⟨rfl, rfl⟩ := Prod.mk.inj he; exact .of_pure s (hρ a) rfl
 case pick c a b =>
  simp only [Option.map_eq_some_iff] at he
  obtain ⟨y, hy, he⟩ := he
  obtain ⟨rfl, rfl⟩ := Prod.mk.inj he
  obtain ⟨t, v, q1, rfl, q3⟩ := pick_rel hy (hρ c) (hρ a) (hρ b)
  refine .of_pure s q3 ?_
  simp only [q1, asBool, Sem.run_bind, Sem.run_pure, Result.andThen_ok]
 case alloc t =>
  simp only [Option.map_eq_some_iff] at he
  obtain ⟨cs, hcs, he⟩ := he
  obtain ⟨K', v, w', q1, q2, q3, q4⟩ := alloc_rel (P := P) s hcs
  rw [he] at q2 q3
  exact ⟨K', v, w', q1, q2, q3, .inl (by simp only [Sem.run_bind, q4, Result.andThen_ok, Sem.run_pure])⟩
 case box t a =>
  simp only [Option.map_eq_some_iff] at he
  obtain ⟨cs, hcs, he⟩ := he
  obtain ⟨K', v, w', q1, q2, q3, q4⟩ := box_rel (P := P) (t := t) s hcs (hρ a)
  rw [he] at q2 q3
  exact ⟨K', v, w', q1, q2, q3, .inl (by simp only [Sem.run_bind, q4, Result.andThen_ok, Sem.run_pure])⟩
 case build t parts =>
  simp only [Option.map_eq_some_iff] at he
  obtain ⟨y, hy, he⟩ := he
  obtain ⟨rfl, rfl⟩ := Prod.mk.inj he
  obtain ⟨v, q1, q2⟩ := build_rel hρ hy w
  exact .of_pure s q2 (by simp only [Sem.run_bind, q1, Result.andThen_ok, Sem.run_pure])
 case buildSlice t len parts =>
  simp only [Option.map_eq_some_iff] at he
  obtain ⟨y, hy, he⟩ := he
  obtain ⟨rfl, rfl⟩ := Prod.mk.inj he
  obtain ⟨K', v, w', q1, q2, q3, q4⟩ := buildSlice_rel s hρ hy
  exact ⟨K', v, w', q1, q2, q3, .inl (by simp only [Sem.run_bind, q4, Result.andThen_ok, Sem.run_pure])⟩
 case load t a =>
  simp only [Option.map_eq_some_iff] at he
  obtain ⟨y, hy, he⟩ := he
  obtain ⟨rfl, rfl⟩ := Prod.mk.inj he
  obtain ⟨g, p, v, q1, q2, q3⟩ := load_rel s hy (hρ a)
  exact .of_pure s q3 (by simp only [q1, Instr.loadAt, Instr.sureAddr, Sem.run_bind, q2, Result.andThen_ok, Sem.run_pure])
 case store t a y =>
  simp only [Option.map_eq_some_iff] at he
  obtain ⟨h2, hy, he⟩ := he
  obtain ⟨rfl, rfl⟩ := Prod.mk.inj he
  obtain ⟨w', q1, q2⟩ := store_rel s hy (hρ a) (hρ y)
  exact ⟨K, undef, w', .refl K, q2, .tuple _ _ .nil, .inr ⟨by simp only [Sem.run_bind, q1, Result.andThen_ok, Sem.run_pure], rfl⟩⟩
 case nilCheck a =>
  simp only [Option.map_eq_some_iff] at he
  obtain ⟨y, hy, he⟩ := he
  obtain ⟨rfl, rfl⟩ := Prod.mk.inj he
  have ha := hρ a
  generalize ρ a = xa at ha hy
  generalize hq : ρ' a = ca at ha
  unfold nilCheckEv at hy
  split at hy
  ·injection hy with hy; subst hy
   cases ha with
   | box _ _ _ hb => exact .of_pure s (.box _ _ _ hb) (by simp only [hq, Sem.run_pure])
   | glob _ _ => exact .of_pure s (.glob _ _) (by simp only [hq, Sem.run_pure])
  ·injection hy with hy; subst hy
   cases ha with
   | elem _ _ _ _ g o p cells hr hv hc hi hp hac => exact .of_pure s (.elem _ _ _ _ g o p cells hr hv hc hi hp hac) (by simp only [hq, Sem.run_pure])
  ·injection hy with hy; subst hy
   cases ha with
   | func _ _ _ fs cs h1 h2 => exact .of_pure s (.func _ _ _ fs cs h1 h2) (by simp only [hq, Sem.run_pure])
  ·injection hy with hy; subst hy
   cases ha with
   | yield _ g hl => exact .of_pure s (.yield _ g hl) (by simp only [hq, Sem.run_pure])
  ·injection hy with hy; subst hy
   cases ha with
   | iface _ _ c hx => exact .of_pure s (.iface _ _ c hx) (by simp only [hq, Sem.run_pure])
  ·cases hy
 case binOp op t a b yt =>
  simp only [Option.map_eq_some_iff] at he
  obtain ⟨y, hy, he⟩ := he
  obtain ⟨rfl, rfl⟩ := Prod.mk.inj he
  obtain ⟨v, q1, q2⟩ := bin_rel hy (hρ a) (hρ b) w
  exact .of_pure s q2 (by rw [Sem.run_bind, q1]; rfl)
 case unOp op t a =>
  simp only [Option.map_eq_some_iff] at he
  obtain ⟨y, hy, he⟩ := he
  obtain ⟨rfl, rfl⟩ := Prod.mk.inj he
  obtain ⟨v, q1, q2⟩ := un_rel hy (hρ a) w
  exact .of_pure s q2 (by simp only [Sem.run_bind, q1, Result.andThen_ok, Sem.run_pure])
 case convert sr ds a =>
  obtain ⟨K', v, w', q1, q2, q3, q4⟩ := conv_rel s he (hρ a)
  exact ⟨K', v, w', q1, q2, q3, .inl (by simp only [Sem.run_bind, q4, Result.andThen_ok, Sem.run_pure])⟩
 case makeInterface t a =>
  split at he
  ·rename_i hif
   injection he with he; obtain ⟨rfl, rfl⟩ := Prod.mk.inj he
   obtain ⟨d, hu, hd⟩ := isIface_false hif
   refine .of_pure s (.iface t _ _ (hρ a)) ?_
   simp only [Instr.makeInterface, Sem.run_bind, run_und hu, Result.andThen_ok]
   cases d <;> first | exact absurd rfl (hd _) | rfl
  ·cases he
 case makeFunc fn first cap =>
  injection he with he; obtain ⟨rfl, rfl⟩ := Prod.mk.inj he
  refine .of_pure s (.func fn _ _ _ _ (by rw [Array.toList_map]; exact VsRel.map_mk fun x _ => hρ x) (by rw [Array.toList_map]; exact VsRel.map_mk fun x _ => hρ x)) rfl
 case makeSlice t l c =>
  obtain ⟨K', v, w', q1, q2, q3, q4⟩ := makeSlice_rel s he (hρ l) (hρ c)
  exact ⟨K', v, w', q1, q2, q3, .inl (by simp only [Sem.run_bind, q4, Result.andThen_ok, Sem.run_pure])⟩
 case slice t a lo hi mx =>
  simp only [Option.map_eq_some_iff] at he
  obtain ⟨y, hy, he⟩ := he
  obtain ⟨rfl, rfl⟩ := Prod.mk.inj he
  obtain ⟨v, q1, q2⟩ := slice_rel hρ hy (hρ a) w
  exact .of_pure s q2 (by simp only [Sem.run_bind, q1, Result.andThen_ok, Sem.run_pure])
 case fieldAddr t a f =>
  simp only [Option.map_eq_some_iff] at he
  obtain ⟨y, hy, he⟩ := he
  obtain ⟨rfl, rfl⟩ := Prod.mk.inj he
  obtain ⟨v, q1, q2⟩ := fieldAddr_rel hy (hρ a) w
  exact .of_pure s q2 (by simp only [Sem.run_bind, q1, Result.andThen_ok, Sem.run_pure])
 case field t a f =>
  have ha := hρ a
  generalize ρ a = xa at ha he
  generalize hq : ρ' a = ca at ha
  split at he
  ·rename_i fields cs hu
   split at he
   ·rename_i fd hf
    simp only [Option.map_eq_some_iff] at he
    obtain ⟨y, hy, he⟩ := he
    obtain ⟨rfl, rfl⟩ := Prod.mk.inj he
    cases ha with
    | agg _ vs hvs =>
     obtain ⟨v, q1, q2⟩ := part_rel hy hvs w
     exact .of_pure s q2 (by simp only [Instr.field, Sem.run_bind, run_und hu, Result.andThen_ok, hf, hq, asAgg, Sem.run_pure, q1])
   ·cases he
  ·cases he
 case indexAddr t a i =>
  simp only [Option.map_eq_some_iff] at he
  obtain ⟨y, hy, he⟩ := he
  obtain ⟨rfl, rfl⟩ := Prod.mk.inj he
  obtain ⟨v, q1, q2⟩ := indexAddr_rel hy (hρ a) (hρ i) w
  exact .of_pure s q2 (by simp only [Sem.run_bind, q1, Result.andThen_ok, Sem.run_pure])
 case index t a i =>
  simp only [Option.map_eq_some_iff] at he
  obtain ⟨y, hy, he⟩ := he
  obtain ⟨rfl, rfl⟩ := Prod.mk.inj he
  obtain ⟨v, q1, q2⟩ := index_rel hy (hρ a) (hρ i) w
  exact .of_pure s q2 (by simp only [Sem.run_bind, q1, Result.andThen_ok, Sem.run_pure])
 case typeAssert a xt t okk =>
  simp only [Option.map_eq_some_iff] at he
  obtain ⟨y, hy, he⟩ := he
  obtain ⟨rfl, rfl⟩ := Prod.mk.inj he
  obtain ⟨v, q1, q2⟩ := assert_rel (xt := xt) hy (hρ a) w
  exact .of_pure s q2 (by simp only [Sem.run_bind, q1, Result.andThen_ok, Sem.run_pure])
 case extract a i =>
  have ha := hρ a
  generalize ρ a = xa at ha he
  generalize hq : ρ' a = ca at ha
  split at he
  ·rename_i vs
   simp only [Option.map_eq_some_iff] at he
   obtain ⟨y, hy, he⟩ := he
   obtain ⟨rfl, rfl⟩ := Prod.mk.inj he
   cases ha with
   | tuple _ cvs hvs =>
    obtain ⟨c, hc, hr⟩ := hvs.get hy
    have : cvs[i]? = some c := by simpa using hc
    exact .of_pure s hr (by simp only [Instr.extract, hq, this, Sem.run_bind, Sem.run_pure, Result.andThen_ok])
  ·cases he
 all_goals cases he

end
end Go.AE
end
