/-
  The engine, part 1: an evaluator of the model's Code over values in which a slice is a list. No claim is made here; part 2 and on show that what it gives the machine does.
-/
import Derived.AtR
import Derived.Recover
import Derived.Below
import Derived.Orders
import Derived.Laws.AppendOwn
import Derived.Laws.Cells
import Derived.Laws.Entries
set_option linter.unusedSimpArgs false
set_option linter.unusedVariables false
set_option linter.constructorNameAsVariable false
section
namespace Go.AE
inductive Tok where
 |nil|tight|free (n:Nat) |held
 deriving DecidableEq,Inhabited
inductive Ref where
 |box (b:Nat) |dW (g:Nat)
 deriving DecidableEq,Inhabited
inductive AV where
 |bad
 |v (x:Value)
 |list (k:Tok) (sz:Nat) (es:List (List AV))
 |arr (b off len cap:Nat)
 |agg (cs:List AV)
 |tuple (vs:List AV)
 |ptr (r:Ref) (off:Nat)
 |elem (sz:Nat) (es:List (List AV)) (i off:Nat)
 |func (fn:Fn) (first cap:List AV)
 |yield (l:Nat)
 |iface (t:TypeId) (x:AV)
 deriving Inhabited
def bQ{α:Type}(P:Program):Sem α->Option α
 | .pure a=>some a
 | .program k=>bQ P (k P)
 | .mark _ k=>bQ P k
 |_=>none
def scalar:Value->Bool
 | .bool _| .int .. | .float .. | .complex .. | .string _| .nilFunc| .nilIface| .pointer none| .map none| .chan none=>true
 |_=>false
def eS(z:Value):Option AV:=if scalar z then some (.v z) else none
def AV.bu:AV->Bool
 | .agg _| .tuple _| .bad=>false
 |_=>true
def AV.aC:AV->Option (List AV)
 | .agg cs=>if cs.all AV.bu then some cs else none
 | .tuple _| .bad=>none
 |x=>some [x]
def kK(x:Value):AV:=
 match x with
 | .slice none 0 0=> .list .nil 0 []
 |x=>if scalar x then .v x else .bad
def lX:Value->AV
 | .agg cs=> .agg (cs.toList.map kK)
 | .tuple vs=>if vs.size=0 then .tuple [] else .bad
 | .iface t x=> .iface t (kK x)
 |x=>kK x
def iW:List AV->Option (List Value)
 | []=>some []
 | .v x::r=>(iW r).map (x::·)
 |_=>none
def AV.flat:AV->Option Value
 | .v x=>some x
 | .agg cs=>(iW cs).map fun l=> .agg l.toArray
 | .iface t (.v x)=>some (.iface t x)
 | .iface t (.agg cs)=>(iW cs).map fun l=> .iface t (.agg l.toArray)
 | .list .nil _ []=>some (.slice none 0 0)
 |_=>none
def flatAll:List AV->Option (List Value)
 | []=>some []
 |x::r=>match x.flat,flatAll r with|some v,some l=>some (v::l) |_,_=>none
def gB:Value->Value->Bool
 | .int k n,.int k' n'=>decide (k=k')&&decide (n=n')
 | .bool a,.bool b=>a==b
 | .string p,.string q=>p.data.toList==q.data.toList
 | .nilFunc,.nilFunc| .nilIface,.nilIface| .pointer none,.pointer none=>true
 |_,_=>false
def tZ:Ref->Ref->Bool
 | .box a,.box b| .dW a,.dW b=>Nat.beq a b
 |_,_=>false
def lY:Tok->Tok->Bool
 | .nil,.nil| .tight,.tight| .held,.held=>true
 | .free a,.free b=>Nat.beq a b
 |_,_=>false
mutual
def cB:AV->AV->Bool
 | .v x,.v y=>gB x y
 | .list k sz es,.list k' sz' es'=>lY k k'&&Nat.beq sz sz'&&eT es es'
 | .arr b o l c,.arr b' o' l' c'=>Nat.beq b b'&&Nat.beq o o'&&Nat.beq l l'&&Nat.beq c c'
 | .agg cs,.agg ds=>kL cs ds
 | .tuple cs,.tuple ds=>kL cs ds
 | .ptr r o,.ptr r' o'=>tZ r r'&&Nat.beq o o'
 | .elem sz es i o,.elem sz' es' i' o'=>Nat.beq sz sz'&&Nat.beq i i'&&Nat.beq o o'&&eT es es'
 | .yield l,.yield l'=>Nat.beq l l'
 | .iface t x,.iface t' y=>Nat.beq t t'&&cB x y
 | .func (.func f) a b,.func (.func g) a' b'=>Nat.beq f g&&kL a a'&&kL b b'
 |_,_=>false
def kL:List AV->List AV->Bool
 | [],[]=>true
 |x::xs,y::ys=>cB x y&&kL xs ys
 |_,_=>false
def eT:List (List AV)->List (List AV)->Bool
 | [],[]=>true
 |x::xs,y::ys=>kL x y&&eT xs ys
 |_,_=>false
end
structure iU where
 ch:List (Nat × AV)
 base:List AV
 deriving Inhabited
def look(base:List AV):List (Nat × AV)->Nat->AV
 | [],t=>base.getD t (.tuple [])
 |p::r,t=>bif Nat.beq p.1 t then p.2 else look base r t
def iU.get(s:iU)(t:Nat):AV:=look s.base s.ch t
def iU.set(s:iU)(t:Nat)(x:AV):iU:={s with ch:=(t,x)::s.ch}
structure bE where
 tmps:iU
 params:Array Tmp
 assign:Code
 body:Code
 state:LoopState
 pending:Option Code
 deriving Inhabited
structure ae where
 boxes:List (List AV)
 loops:List bE
 tn:Nat
 dead:List Nat
 deriving Inhabited
structure Env where
 tmps:iU
 defers:List (FuncId × List AV)
 pan:Option (AV × Bool)
 round:Option Nat
 deriving Inhabited
inductive Xt where
 |normal
 |exit (id:Nat)
 |ret
 |panic (x:AV)
 deriving Inhabited
inductive Res where
 |ret (x:AV)
 |panic (x:AV)
 deriving Inhabited
def Env.get(e:Env)(t:Nat):AV:=e.tmps.get t
def Env.put(e:Env)(dst:Option Tmp)(x:AV):Env:=
 match dst with
 |some d=>{e with tmps:=e.tmps.set d x}
 |none=>e
def N5(tmps:iU):Operand->AV
 | .tmp t=>tmps.get t
 | .const v=>lX v
 | .global g=> .ptr (.dW g) 0
 | .func f=> .func (.func f) [] []
def Env.eval(e:Env)(x:Operand):AV:=N5 e.tmps x
section
variable (P:Program)
def bF(t:TypeId):Option Nat:=(P.info? t).map (·.size)
def cZ(t:TypeId):Option Bool:=
 match P.underlying t with
 |some (.struct _) |some (.array _ _)=>some true
 |some _=>some false
 |none=>none
def ej(t:TypeId):Option AV:=
 match P.info? t with
 |some i=>i.zero.map lX
 |none=>none
def uq(t:TypeId)(cs:List AV)(off:Nat):Option AV:=
 match cZ P t with
 |some true=>(bF P t).map fun n=> .agg ((cs.drop off).take n)
 |some false=>cs[off]?
 |none=>none
end
def ae.box(h:ae)(cs:List AV):AV × ae:=(.ptr (.box h.boxes.length) 0,{h with boxes:=h.boxes++[cs]})
def ae.fresh(h:ae)(sz:Nat)(es:List (List AV)):AV × ae:=(.list (.free h.tn) sz es,{h with tn:=h.tn+1})
def ur(G:Nat->Option (List AV))(h:ae):Ref->Option (List AV)
 | .box b=>h.boxes[b]?
 | .dW g=>G g
def nb(G:Nat->Option (List AV))(h:ae):AV->Option (List AV)
 | .ptr r off=>(ur G h r).map (·.drop off)
 | .elem _ es i off=>(es[i]?).map (·.drop off)
 |_=>none
def ai(P:Program)(G:Nat->Option (List AV))(h:ae)(t:TypeId)(a:AV):Option AV:=
 match cZ P t,nb G h a with
 |some true,some cs=>
  match bF P t with
  |some n=>if n<=cs.length then some (.agg (cs.take n)) else none
  |none=>none
 |some false,some cs=>cs.head?
 |_,_=>none
def bI(old:List AV)(off:Nat)(cs:List AV):List AV:=old.take off++cs++old.drop (off+cs.length)
def aA(P:Program)(h:ae)(t:TypeId)(a x:AV):Option ae:=
 match a,x.aC,bF P t with
 | .ptr (.box b) off,some cs,some n=>
  match h.boxes[b]? with
  |some old=>if cs.length=n/\off+n<=old.length then some {h with boxes:=h.boxes.set b (bI old off cs)} else none
  |none=>none
 |_,_,_=>none
def oh(place:Nat->Option (Nat × Nat))(cells:List AV):List (Nat × AV)->Option (List AV)
 | []=>some cells
 | (i,x)::rest=>
  match place i,x.aC with
  |some (off,size),some cs=>if cs.length=size/\off+size<=cells.length then oh place (bI cells off cs) rest else none
  |_,_=>none
def my(sz:Nat)(rows:List (List AV)):List (Nat × AV)->Option (List (List AV))
 | []=>some rows
 | (i,x)::rest=>
  match x.aC with
  |some cs=>if cs.length=sz/\i<rows.length then my sz (rows.set i cs) rest else none
  |none=>none
def placesOf(P:Program)(fields:Array Field)(i:Nat):Option (Nat × Nat):=
 match fields[i]? with
 |some f=>(bF P f.type).map fun n=>(f.offset,n)
 |none=>none
def fj(P:Program)(t:TypeId)(parts:List (Nat × AV)):Option AV:=
 match P.underlying t,(ej P t).bind AV.aC with
 |some (.struct fields),some zero=>
  if fields.all fun f=>(P.info? f.type).isSome then (oh (placesOf P fields) zero parts).map .agg else none
 |some (.array _ elem),some zero=>
  match bF P elem with
  |some size=>(oh (fun i=>some (i * size,size)) zero parts).map .agg
  |none=>none
 |_,_=>none
def aN(P:Program)(t:TypeId)(len:Nat)(parts:List (Nat × AV)):Option AV:=
 match P.underlying t with
 |some (.slice elem)=>
  match bF P elem,(ej P elem).bind AV.aC with
  |some size,some zero=>
   if 0<size/\zero.length=size/\len * size<=16777216 then (my size (List.replicate len zero) parts).map (.list .tight size) else none
  |_,_=>none
 |_=>none
def eU(P:Program)(h:ae)(t:TypeId)(l c:AV):Option (AV × ae):=
 match P.underlying t,l,c with
 |some (.slice elem),.v (.int _ l),.v (.int _ c)=>
  match P.info? elem,(ej P elem).bind AV.aC with
  |some i,some zero=>
   if 0<=l/\l<=c/\c<9223372036854775808/\i.bytes * c<=281474976710656/\0<i.size/\zero.length=i.size then
    some (.arr h.boxes.length 0 l.toNat c.toNat,{h with boxes:=h.boxes++[(List.replicate c.toNat zero).flatten]})
   else none
  |_,_=>none
 |_,_,_=>none
def rowsOf(h:ae)(size:Nat):AV->Option (List (List AV))
 | .list _ sz es=>if sz=size∨es=[] then some es else none
 | .arr b off len _=>
  match h.boxes[b]? with
  |some cs=>if off+len * size<=cs.length then some ((List.range len).map fun i=>(cs.drop (off+i * size)).take size) else none
  |none=>none
 |_=>none
def dp(b:UInt8):List AV:=[.v (.int .u8 b.toNat)]
def byteOf:List AV->Option UInt8
 | [.v (.int .u8 n)]=>some (UInt8.ofNat n.toNat)
 |_=>none
def bytesOf:List (List AV)->Option (List UInt8)
 | []=>some []
 |r::rest=>match byteOf r,bytesOf rest with|some b,some l=>some (b::l) |_,_=>none
def eH(h:ae)(size:Nat):AV->Option (List (List AV))
 | .v (.string s)=>if size=1 then some (s.data.toList.map dp) else none
 |x=>rowsOf h size x
def alive(h:ae)(n:Nat):Bool:=decide (n<h.tn)&& !h.dead.contains n
def ua(P:Program)(h:ae)(ts:Array TypeId)(elem:TypeId)(s x:AV):Option (AV × ae):=
 match s,x with
 | .list .nil _ [],.v (.int _ n)=>
  match P.info? elem,(ej P elem).bind AV.aC with
  |some i,some zero=>
   if ts.size=2/\0<n/\n * i.bytes<=140737488355328/\n<=9223372036854775807/\0<i.size/\zero.length=i.size then
    some (.arr h.boxes.length 0 n.toNat n.toNat,{h with boxes:=h.boxes++[(List.replicate n.toNat zero).flatten]})
   else none
  |_,_=>none
 |_,_=>none
def bP(P:Program)(h:ae)(ts:Array TypeId)(s x:AV):Option (AV × ae):=
 match (ts[0]?).bind P.underlying,(ts[1]?).bind P.underlying with
 |some (.slice elem),some (.int _)=>ua P h ts elem s x
 |some (.slice elem),some _=>
  match P.info? elem with
  |none=>none
  |some i=>
   match eH h i.size x with
   |none=>none
   |some new=>
    if 0<i.size/\(i.zero.map fun z=>z.cells.size)=some i.size then
     match s with
     | .list k sz es=>
      if sz=i.size∨es=[] then
       if new=[] then some (s,h)
       else if (es.length+new.length) * i.bytes<=140737488355328/\es.length+new.length<=9223372036854775807 then
        match k with
        | .nil| .tight=>some (h.fresh i.size (es++new))
        | .free n=>if alive h n&&decide (sz=i.size) then some ({h with dead:=n::h.dead}.fresh i.size (es++new)) else none
        | .held=>none
       else none
      else none
     | .arr b off len cap=>
      match h.boxes[b]? with
      |some cs=>
       if len+new.length<=cap/\off+cap * i.size<=cs.length then
        some (.arr b off (len+new.length) cap,{h with boxes:=h.boxes.set b (bI cs (off+len * i.size) new.flatten)})
       else none
      |none=>none
     |_=>none
    else none
 |_,_=>none
def uu(G:Nat->Option (List AV))(d:Option Tmp)(t:TypeId):Bool:=(G (1000000+1000 * t+d.getD 0)).isSome
def iX(P:Program)(h:ae)(ts:Array TypeId)(s x:AV):Option (AV × ae):=
 match (ts[0]?).bind P.underlying,(ts[1]?).bind P.underlying with
 |some (.slice _),some (.int _)=>none
 |some (.slice elem),some _=>
  match P.info? elem with
  |none=>none
  |some i=>
   match eH h i.size x with
   |none=>none
   |some new=>
    if 0<i.size/\(i.zero.map fun z=>z.cells.size)=some i.size then
     match s with
     | .list k sz es=>
      if sz=i.size∨es=[] then
       if new=[] then some (s,h)
       else if (es.length+new.length) * i.bytes<=140737488355328/\es.length+new.length<=9223372036854775807 then
        match k with
        | .nil| .tight=>some (.arr h.boxes.length 0 (es.length+new.length) (es.length+new.length),{h with boxes:=h.boxes++[(es++new).flatten]})
        |_=>none
       else none
      else none
     | .arr b off len cap=>
      match h.boxes[b]? with
      |some cs=>
       if len+new.length<=cap then bP P h ts s x
       else if off=0/\0<len/\len=cap/\len * i.size=cs.length/\(len+new.length) * i.bytes<=140737488355328/\len+new.length<=9223372036854775807 then
        some (.arr h.boxes.length 0 (len+new.length) (len+new.length),{h with boxes:=h.boxes.set b []++[cs++new.flatten]})
       else none
      |none=>none
     |_=>none
    else none
 |_,_=>none
def oi(P:Program)(h:ae)(ts:Array TypeId)(d s:AV):Option (AV × ae):=
 match (ts[0]?).bind P.underlying with
 |some (.slice elem)=>
  match P.info? elem,d with
  |some i,.arr b off len cap=>
   match eH h i.size s,h.boxes[b]? with
   |some rows,some cs=>
    if off+len * i.size<=cs.length/\len<=cap then
     some (.v (.int .i64 (Nat.min rows.length len:Nat)),{h with boxes:=h.boxes.set b (bI cs off (rows.take (Nat.min rows.length len)).flatten)})
    else none
   |_,_=>none
  |_,_=>none
 |_=>none
def cH(P:Program)(t:TypeId)(x:AV):Option AV:=
 match P.underlying t,x with
 |some .string,.v (.string s)=>some (.v (.int .i64 s.size))
 |some (.array n _),_=>some (.v (.int .i64 n))
 |some (.pointer a),_=>match P.underlying a with|some (.array n _)=>some (.v (.int .i64 n)) |_=>none
 |some (.slice _),.list _ _ es=>some (.v (.int .i64 es.length))
 |some (.slice _),.arr _ _ len _=>some (.v (.int .i64 len))
 |_,_=>none
def wQ(P:Program)(t:TypeId)(x:AV):Option AV:=
 match P.underlying t,x with
 |some (.slice _),.list .tight _ es=>some (.v (.int .i64 es.length))
 |some (.slice _),.list .nil _ es=>some (.v (.int .i64 es.length))
 |some (.array n _),_=>some (.v (.int .i64 n))
 |_,_=>none
def bX(hi:Nat):Option AV->Nat->Option Nat
 |none,d=>some d
 |some (.v (.int _ n)),_=>if 0<=n/\n<=hi then some n.toNat else none
 |_,_=>none
def gO(k:Tok)(toEnd limited:Bool)(n:Nat):Tok:=
 match k with
 | .nil=> .nil
 | .tight=>if toEnd||limited then .tight else .held
 | .free t=>if limited then .tight else if toEnd&&n !=0 then .free t else .held
 | .held=>if limited then .tight else .held
def ck(P:Program)(t:TypeId)(x:AV)(lo hi mx:Option AV):Option AV:=
 if mx.isSome&&hi.isNone then none else
 match P.underlying t,x with
 |some .string,.v (.string s)=>
  if mx.isSome then none else
  match bX s.size hi s.size with
  |some h=>match bX h lo 0 with
   |some l=>some (.v (.string (s.extract l h)))
   |none=>none
  |none=>none
 |some (.slice elem),.list k sz es=>
  match bF P elem,bX es.length mx es.length with
  |some size,some m=>match bX m hi es.length with
   |some h=>match bX h lo 0 with
    |some l=>
     if size=sz∨es=[] then some (.list (gO k (decide (h=es.length)&&mx.isNone) (mx.isSome&&decide (h=m)) (h - l)) sz ((es.take h).drop l)) else none
    |none=>none
   |none=>none
  |_,_=>none
 |some (.slice elem),.arr b off len cap=>
  match bF P elem,bX cap mx cap with
  |some size,some m=>match bX m hi len with
   |some h=>match bX h lo 0 with
    |some l=>if size=0 then none else if mx.isSome/\m=l then some (.list .tight size []) else some (.arr b (if m=l then off else off+l * size) (h - l) (m - l))
    |none=>none
   |none=>none
  |_,_=>none
 |some (.array n elem),.ptr (.box b) off=>
  match bF P elem,bX n mx n with
  |some size,some m=>match bX m hi n with
   |some h=>match bX h lo 0 with
    |some l=>some (.arr b (if m=l then off else off+l * size) (h - l) (m - l))
    |none=>none
   |none=>none
  |_,_=>none
 |_,_=>none
def aJ(P:Program)(s:TypeId)(x:AV)(f:Nat):Option AV:=
 match P.underlying s with
 |some (.struct fields)=>
  match fields[f]? with
  |some fd=>
   match bF P fd.type with
   |some 0=>none
   |some _=>match x with
    | .ptr r off=>some (.ptr r (off+fd.offset))
    | .elem sz es i off=>some (.elem sz es i (off+fd.offset))
    |_=>none
   |none=>none
  |none=>none
 |_=>none
def ay(P:Program)(t:TypeId)(x ix:AV):Option AV:=
 match P.underlying t,x,ix with
 |some (.slice elem),.list _ sz es,.v (.int _ i)=>if 0<=i/\i<es.length/\bF P elem=some sz then some (.elem sz es i.toNat 0) else none
 |some (.slice elem),.arr b off len _,.v (.int _ i)=>
  match bF P elem with
  |some size=>if 0<=i/\i<len then some (.ptr (.box b) (off+i.toNat * size)) else none
  |none=>none
 |some (.array len elem),.ptr r off,.v (.int _ i)=>
  match bF P elem with
  |some size=>if 0<=i/\i<len then some (.ptr r (off+i.toNat * size)) else none
  |none=>none
 |some (.array len elem),.elem sz es k off,.v (.int _ i)=>
  match bF P elem with
  |some size=>if 0<=i/\i<len then some (.elem sz es k (off+i.toNat * size)) else none
  |none=>none
 |_,_,_=>none
def nf(P:Program)(t:TypeId)(x ix:AV):Option AV:=
 match P.underlying t,x,ix with
 |some .string,.v (.string s),.v (.int _ i)=>
  match (if 0<=i then s.data[i.toNat]? else none) with
  |some b=>some (.v (.int .u8 b.toNat))
  |none=>none
 |some (.array len elem),.agg cs,.v (.int _ i)=>
  match bF P elem with
  |some size=>if 0<=i/\i<len then uq P elem cs (i.toNat * size) else none
  |none=>none
 |_,_,_=>none
def isIface(P:Program)(t:TypeId):Option Bool:=
 match P.underlying t with
 |some (.interface _)=>some true
 |some _=>some false
 |none=>none
def iz(P:Program)(x:AV)(asserted:TypeId)(commaOk:Bool):Option AV:=
 match isIface P asserted,x with
 |some false,.iface t y=>if t=asserted then some (if commaOk then .tuple [y,.v (.bool true)] else y)
  else if commaOk then (ej P asserted).map fun z=> .tuple [z,.v (.bool false)] else none
 |some false,.v .nilIface=>if commaOk then (ej P asserted).map fun z=> .tuple [z,.v (.bool false)] else none
 |_,_=>none
def mf(op:BinOp)(b:Bool):Option AV:=
 match op with
 | .eql=>some (.v (.bool b))
 | .neq=>some (.v (.bool !b))
 |_=>none
def ub(P:Program)(op:BinOp)(t:TypeId)(x y:Operand)(a b:AV):Option AV:=
 match a.flat,b.flat with
 |some p,some q=>(bQ P (do eqGuard op t x y p q;binOp op t p q)).bind eS
 |_,_=>none
def bB(P:Program)(op:BinOp)(t:TypeId)(x y:Operand)(a b:AV):Option AV:=
 match a,b with
 | .v (.string p),.v (.string q)=>
  match op with
  | .eql=>some (.v (.bool (p.data.toList==q.data.toList)))
  | .neq=>some (.v (.bool !(p.data.toList==q.data.toList)))
  | .add=>if p.size+q.size<=9223372036854775807 then some (.v (.string (p++q))) else none
  |_=>ub P op t x y a b
 | .iface _ _,.v .nilIface=>if isIface P t=some true then mf op false else none
 | .v .nilIface,.iface _ _=>if isIface P t=some true then mf op false else none
 | .ptr _ _,.v (.pointer none)=>(match P.underlying t with|some (.pointer _)=>mf op false|_=>none)
 | .v (.pointer none),.ptr _ _=>(match P.underlying t with|some (.pointer _)=>mf op false|_=>none)
 | .func _ _ _,.v .nilFunc=>(match P.underlying t with|some (.func ..)=>mf op false|_=>none)
 | .v .nilFunc,.func _ _ _=>(match P.underlying t with|some (.func ..)=>mf op false|_=>none)
 | .list k _ _,.list .nil _ []=>(match P.underlying t with|some (.slice _)=>mf op (decide (k= .nil)) |_=>none)
 |a,b=>ub P op t x y a b
def HQ(P:Program)(op:UnOp)(x:AV):Option AV:=
 match x.flat with
 |some p=>(bQ P (Op.unary op p)).bind eS
 |none=>none
def fm(P:Program)(h:ae)(src dst:TypeId)(x:AV):Option (AV × ae):=
 match P.underlying src,P.underlying dst,x with
 |some .string,some (.slice e),.v (.string s)=>
  match P.underlying e,P.info? e with
  |some (.int .u8),some i=>if i.size=1 then some (h.fresh 1 (s.data.toList.map dp)) else none
  |_,_=>none
 |some (.slice e),some .string,x=>
  match P.underlying e,rowsOf h 1 x with
  |some (.int .u8),some rows=>(bytesOf rows).map fun l=>(.v (.string ⟨l.toArray⟩),h)
  |_,_=>none
 |some (.slice e),some (.slice _),.list (.free t) sz es=>
  match P.underlying e with
  |some (.int .u8)=>if src=dst/\alive h t=true then some (.list .held sz es,{h with dead:=t::h.dead}) else none
  |_=>none
 |some (.slice _),some (.slice _),_=>none
 |some _,some _,.v x=>((bQ P (convert src dst x)).bind eS).map fun z=>(z,h)
 |_,_,_=>none
def yj(c a b:AV):Option AV:=
 match c with
 | .v (.bool t)=>some (if t then a else b)
 |_=>none
def qi(x:AV):Option AV:=
 match x with
 | .ptr .. | .elem .. | .func (.func _) _ _| .yield _| .iface .. =>some x
 |_=>none
def fc(parts:Array (Nat × Operand)):Bool:=
 match parts.toList with
 | (_,.const (.int .u8 _))::_::_=>true
 |_=>false
def aO(P:Program)(G:Nat->Option (List AV))(ρ:Operand->AV)(h:ae)(o:Op):Option (AV × ae):=
 match o with
 | .move x| .assign x=>some (ρ x,h)
 | .pick c a b=>(yj (ρ c) (ρ a) (ρ b)).map (·,h)
 | .alloc t=>((ej P t).bind AV.aC).map h.box
 | .box _ x=>((ρ x).aC).map h.box
 | .build t parts=>(fj P t (parts.toList.map fun p=>(p.1,ρ p.2))).map (·,h)
 | .buildSlice t len parts=>
  match fc parts with
  |false=>(aN P t len (parts.toList.map fun p=>(p.1,ρ p.2))).map (·,h)
  |true=>(match aN P t len (parts.toList.map fun p=>(p.1,ρ p.2)) with|some (.list _ sz es)=>some (h.fresh sz es) |_=>none)
 | .load t a=>(ai P G h t (ρ a)).map (·,h)
 | .store t a x=>(aA P h t (ρ a) (ρ x)).map (.tuple [],·)
 | .nilCheck x=>(qi (ρ x)).map (·,h)
 | .binOp op t x y _=>(bB P op t x y (ρ x) (ρ y)).map (·,h)
 | .unOp op _ x=>(HQ P op (ρ x)).map (·,h)
 | .convert s d x=>fm P h s d (ρ x)
 | .makeInterface t x=>if isIface P t=some false then some (.iface t (ρ x),h) else none
 | .makeFunc fn first cap=>some (.func fn (first.toList.map ρ) (cap.toList.map ρ),h)
 | .makeSlice t l c=>eU P h t (ρ l) (ρ c)
 | .slice t x lo hi mx=>(ck P t (ρ x) (lo.map ρ) (hi.map ρ) (mx.map ρ)).map (·,h)
 | .fieldAddr s x f=>(aJ P s (ρ x) f).map (·,h)
 | .field t x f=>
  match P.underlying t,ρ x with
  |some (.struct fields),.agg cs=>(match fields[f]? with|some fd=>(uq P fd.type cs fd.offset).map (·,h) |none=>none)
  |_,_=>none
 | .indexAddr t x i=>(ay P t (ρ x) (ρ i)).map (·,h)
 | .index t x i=>(nf P t (ρ x) (ρ i)).map (·,h)
 | .typeAssert x _ asserted ok=>(iz P (ρ x) asserted ok).map (·,h)
 | .extract x i=>(match ρ x with| .tuple vs=>(vs[i]?).map (·,h) |_=>none)
 |_=>none
def bK(P:Program)(h:ae)(b:Builtin)(ts:Array TypeId)(ty:TypeId)(args:List AV):Option (AV × ae):=
 match b,args with
 | .len,[x]=>(match ts[0]? with|some t=>(cH P t x).map (·,h) |none=>none)
 | .cap,[x]=>(match ts[0]? with|some t=>(wQ P t x).map (·,h) |none=>none)
 | .append,[s,x]=>bP P h ts s x
 | .copy,[d,s]=>oi P h ts d s
 | .min,xs=>(match flatAll xs with|some l=>((bQ P (Builtin.min_ ts ty l.toArray)).bind eS).map (·,h) |none=>none)
 | .max,xs=>(match flatAll xs with|some l=>((bQ P (Builtin.max_ ts ty l.toArray)).bind eS).map (·,h) |none=>none)
 |_,_=>none
def eV(P:Program)(G:Nat->Option (List AV))(d:Option Tmp)(h:ae)(b:Builtin)(ts:Array TypeId)(ty:TypeId)(args:List AV):Option (AV × ae):=
 match b,args with
 | .append,[s,x]=>if uu G d ty then iX P h ts s x else bP P h ts s x
 |b,args=>bK P h b ts ty args
structure Rec where
 code:Code->Env->ae->Option (Xt × Env × ae)
 call:FuncId->List AV->ae->Option (Res × ae)
 fg:FuncId->List AV->Option (AV × Bool)->ae->Option (Res × Option (AV × Bool) × ae)
 round:Nat->List AV->ae->Option (Res × ae)
def uw(P:Program)(t:TypeId)(name:String):Option FuncId:=
 match P.info? t with
 |some i=>
  match i.methods.find? (·.name==name) with
  |some m=>
   match m.path.toList,m.func,P.underlying t with
   | [],some (f,true),some (.pointer _)=>some f
   | [],some (_,_),some (.pointer _)=>none
   | [],some (f,false),some _=>some f
   |_,_,_=>none
  |none=>none
 |none=>none
def eI(P:Program)(R:Rec)(e:Env)(h:ae)(c:Call):Option (Res × ae):=
 let args:=c.args.toList.map e.eval
 match c.callee with
 | .builtin _=>none
 | .value f=>
  match e.eval f with
  | .func (.func g) first cap=>R.call g (first++args++cap) h
  | .yield l=>R.round l args h
  |_=>none
 | .invoke r name=>
  match e.eval r with
  | .iface t x=>(match uw P t name with|some f=>R.call f (x::args) h|none=>none)
  |_=>none
def dC(P:Program)(G:Nat->Option (List AV))(R:Rec)(e:Env)(h:ae)(o:Oper):Option (Res × Env × ae):=
 match o.op with
 | .call {callee:= .builtin .recover,.. }=>
  if e.round.isSome then none else
  match e.pan with
  |some (x,false)=>some (.ret x,{e with pan:=some (x,true)},h)
  |_=>some (.ret (.v .nilIface),e,h)
 | .call {callee:= .builtin .panic,args,.. }=>
  match args.toList.map e.eval with
  | [.iface t x]=>some (.panic (.iface t x),e,h)
  |_=>none
 | .call {callee:= .builtin b,args,argTypes}=>(eV P G o.dst h b argTypes o.type (args.toList.map e.eval)).map fun(x,h)=>(.ret x,e,h)
 | .call c=>(eI P R e h c).map fun(r,h)=>(r,e,h)
 | .defer {callee:= .value f,args,.. }=>
  if e.round.isSome then none else
  match e.eval f with
  | .func (.func g) first cap=>some (.ret (.tuple []),{e with defers:=(g,first++args.toList.map e.eval++cap)::e.defers},h)
  |_=>none
 | .panic x=>
  match e.eval x with
  | .iface t x=>some (.panic (.iface t x),e,h)
  |_=>none
 |op=>(aO P G e.eval h op).map fun(x,h)=>(.ret x,e,h)
def bg(ops:Array Oper)(e:Env)(o:Oper):Option Bool:=
 match o.guard with
 |none=>some true
 |some (j,want)=>
  match (ops[j]?).bind (·.dst) with
  |none=>some false
  |some d=>
   match e.get d with
   | .v (.bool b)=>some (b==want)
   | .tuple []=>some false
   |_=>none
def br(P:Program)(G:Nat->Option (List AV))(R:Rec)(ops:Array Oper):List Nat->Env->ae->Option (Xt × Env × ae)
 | [],e,h=>some (.normal,e,h)
 |i::rest,e,h=>
  match ops[i]? with
  |none=>none
  |some o=>
   match bg ops e o with
   |none=>none
   |some false=>br P G R ops rest (e.put o.dst (.tuple [])) h
   |some true=>
    match dC P G R e h o with
    |some (.ret x,e,h)=>br P G R ops rest (e.put o.dst x) h
    |some (.panic x,e,h)=>some (.panic x,e,h)
    |none=>none
inductive Class where
 |pure|reads|acts
 deriving DecidableEq,Inhabited
def cY:Op->Class
 | .move _| .assign _| .pick .. | .build .. | .nilCheck _| .binOp .. | .unOp .. | .makeInterface .. | .makeFunc .. | .slice .. | .fieldAddr .. | .field ..
 | .indexAddr .. | .index .. | .typeAssert .. | .extract .. => .pure
 | .buildSlice _ _ parts=>if fc parts=true then .acts else .pure
 | .load .. => .reads
 | .call {callee:= .builtin .len,.. }=> .pure
 |_=> .acts
def uc(a b:Class):Bool:=
 match a,b with
 | .pure,_|_,.pure=>true
 | .reads,.reads=>true
 |_,_=>false
def kQ(ops:Array Oper)(b:Array Nat):Bool:=
 (List.range ops.size).all fun j=>
  match ops[j]? with
  |none=>true
  |some o=>
   (o.after.all fun e=> !Region.binds .any e||decide (e.on<j))&&
   (List.range ops.size).all fun i=> !(b.getD j 0).testBit i||o.after.any fun e=>Region.binds .any e&&(Nat.beq e.on i|| (b.getD e.on 0).testBit i)
def ng(ops:Array Oper)(i j:Nat):Bool:=
 match ops[i]?,ops[j]? with
 |some x,some y=>uc (cY x.op) (cY y.op)&&x.apart ops y&&y.apart ops x
 |_,_=>false
def Cd(ops:Array Oper):Bool:=
 let b:=Region.before ops
 kQ ops b&&(List.range ops.size).all fun j=>(List.range j).all fun i=>(b.getD j 0).testBit i||ng ops i j
def eW(ops:Array Oper)(i j:Nat):Bool:=
 match ops[i]?,ops[j]? with
 |some x,some y=>x.apart ops y&&y.apart ops x
 |_,_=>false
def fX(P:Program)(G:Nat->Option (List AV))(R:Rec)(ops:Array Oper)(e:Env)(h:ae)(r m:Nat):Bool:=
 match ops[r]?,br P G R ops (List.range r) e h,br P G R ops (List.range m) e h with
 |some o,some (.normal,er,hr),some (.normal,_,hm)=>
  (match bg ops er o with
   |some false=>true
   |some true=>
    (match o.op with
     | .load t a=>(match ai P G hr t (er.eval a),ai P G hm t (er.eval a) with|some x,some y=>cB x y|_,_=>false)
     |_=>false)
   |none=>false)
 |_,_,_=>false
def cX(P:Program)(G:Nat->Option (List AV))(R:Rec)(ops:Array Oper)(e:Env)(h:ae)(i j:Nat):Bool:=
 eW ops i j&&
 match (ops[i]?).map fun o=>cY o.op,(ops[j]?).map fun o=>cY o.op with
 |some .reads,some .acts=>fX P G R ops e h i (j+1)
 |some .acts,some .reads=>fX P G R ops e h j i
 |_,_=>false
def oj:Op->Bool
 | .call {callee:= .builtin .recover,.. }=>false
 | .call {callee:= .builtin .panic,.. }=>false
 | .call _=>true
 | .convert .. =>true
 |_=>false
def sY(P:Program)(G:Nat->Option (List AV))(R:Rec)(ops:Array Oper)(e:Env)(h:ae)(k:Nat):Prop:=
 ∃o x er hr,ops[k]?=some o/\oj o.op=true/\br P G R ops (List.range k) e h=some (.normal,er,hr)/\
  ∀m,m<=ops.size->∃em hm,br P G R ops (List.range m) e h=some (.normal,em,hm)/\dC P G R er hm o=some (.ret x,er,hm)
noncomputable def gC(P:Program)(G:Nat->Option (List AV))(R:Rec)(ops:Array Oper)(e:Env)(h:ae)(k:Nat):Bool:=@decide (sY P G R ops e h k) (Classical.propDecidable _)
noncomputable def df(P:Program)(G:Nat->Option (List AV))(R:Rec)(ops:Array Oper)(e:Env)(h:ae):Bool:=
 let b:=Region.before ops
 kQ ops b&&(List.range ops.size).all fun j=>(List.range j).all fun i=>(b.getD j 0).testBit i||ng ops i j||cX P G R ops e h i j|| (eW ops i j&&(gC P G R ops e h i||gC P G R ops e h j))
def yk(ops:Array Oper)(k j:Nat):Bool:=
 match ops[k]? with
 |some o=>o.after.any fun ed=>Region.binds .any ed&&Nat.beq ed.on j
 |none=>false
def Qe(ops:Array Oper)(d m:Nat):Bool:=
 match ops[m]? with
 |some o=>(match o.op with| .load _ x=>(match x with| .tmp t=> !Nat.beq t d|_=>true) |_=>false)&&(o.guard.isNone&&(match o.dst with|some q=> !Nat.beq q d|none=>true))
 |none=>false
def dE(ops:Array Oper)(i j:Nat):Array Oper:=⟨ops.toList.mapIdx fun k o=>if k=j then {o with after:=o.after.push {on:=i,ground:= .data}} else o⟩
def jR(ops:Array Oper)(k:Nat):Bool:=
 match ops[k]? with
 |some o=>(match o.op with| .store _ _ _=>true|_=>false)&&(o.guard.isNone&&o.dst.isNone)
 |none=>false
def Nn(ops:Array Oper)(k:Nat):Bool:=
 match ops[k]? with
 |some o=>decide (cY o.op= .pure)
 |none=>false
def rY(ops:Array Oper)(i:Nat):Bool:=
 kQ ops (Region.before ops)&&(decide (i+1<ops.size)&&(jR ops i&&(jR ops (ops.size - 1)&&(List.range (ops.size - 1)).all fun k=>Nat.beq k i|| (((Region.before ops).getD (ops.size - 1) 0).testBit k|| (Nn ops k&&eW ops k (ops.size - 1))))))
def gP(ops:Array Oper)(k:Nat)(e:Env):Option Nat:=
 match ops[k]? with
 |some o=>(match o.op with| .store _ a _=>(match e.eval a with| .ptr (.box b) _=>some b|_=>none) |_=>none)
 |none=>none
def iA(P:Program)(G:Nat->Option (List AV))(R:Rec)(ops:Array Oper)(e:Env)(h:ae)(i:Nat):Bool:=
 match br P G R ops (List.range i) e h,br P G R ops (List.range (ops.size - 1)) e h with
 |some (.normal,ei,_),some (.normal,en,_)=>
  (match gP ops i ei,gP ops (ops.size - 1) en with
   |some a,some b=> !Nat.beq a b
   |_,_=>false)
 |_,_=>false
noncomputable def gu(P:Program)(G:Nat->Option (List AV))(R:Rec)(ops:Array Oper)(e:Env)(h:ae):Bool:=(List.range ops.size).any fun i=>rY ops i&&(iA P G R ops e h i&&df P G R (dE ops i (ops.size - 1)) e h)
def quiet(o:Oper):Oper:={o with dst:=none,op:= .move (.const (.bool true)),guard:=none}
def rZ(ops:Array Oper)(k i:Nat):Bool:=Nat.beq i k|| ((Region.before ops).getD i 0).testBit k
def cut(ops:Array Oper)(k:Nat):Array Oper:=⟨ops.toList.mapIdx fun i o=>if rZ ops k i=true then quiet o else o⟩
def N6(ops:Array Oper)(i:Nat):Bool:=
 match ops[i]? with
 |some o=>decide (cY o.op≠ .acts)
 |none=>true
def D5(ops:Array Oper)(k i:Nat):Bool:=
 match ops[i]? with
 |some o=>(match o.guard with|some (j,_)=> !rZ ops k j|none=>true)
 |none=>true
def Sy(ops:Array Oper)(k i:Nat):Option Tmp:=
 if (rZ ops k i|| ((Region.before (cut ops k)).getD k 0).testBit i)=true then none else (ops[i]?).bind (·.dst)
def j9(params:List Tmp)(args:List AV)(tmps:iU):iU:=(params.zip args).foldl (fun ts p=>ts.set p.1 p.2) tmps
section
variable (P:Program) (G:Nat->Option (List AV)) (R:Rec)
noncomputable def b7:Code->Env->ae->Option (Xt × Env × ae)
 | .skip,e,h| .label _,e,h=>some (.normal,e,h)
 | .region _ ops draw,e,h=>
  if draw then
   if df P G R ops e h||gu P G R ops e h then
    match br P G R ops (List.range ops.size) e h with
    |some (.normal,e,h)=>some (.normal,e,h)
    |_=>none
   else none
  else br P G R ops (List.range ops.size) e h
 | .seq a b,e,h=>
  match R.code a e h with
  |some (.normal,e,h)=>R.code b e h
  |r=>r
 | .cond c a b,e,h=>
  match e.eval c with
  | .v (.bool true)=>R.code a e h
  | .v (.bool false)=>R.code b e h
  |_=>none
 | .block id c,e,h=>
  match R.code c e h with
  |some (.exit id',e,h)=>if id'=id then some (.normal,e,h) else some (.exit id',e,h)
  |r=>r
 | .loop c,e,h=>
  match R.code c e h with
  |some (.normal,e,h)=>R.code (.loop c) e h
  |r=>r
 | .scope c,e,h=>R.code c e h
 | .exit id,e,h=>some (.exit id,e,h)
 | .ret,e,h=>some (.ret,e,h)
 | .rangeFunc f params assign body,e,h=>
  match e.eval f with
  | .func (.func g) first cap=>
   match R.call g (first++[.yield h.loops.length]++cap)
    {h with loops:=h.loops++[{tmps:=e.tmps,params,assign,body,state:= .ready,pending:=none}]} with
   |some (.ret _,h')=>
    match h'.loops[h.loops.length]? with
    |some r=>
     if r.state= .busy then none else
     match r.pending with
     |none=>some (.normal,e,{h' with loops:=h'.loops.set h.loops.length {r with state:= .exhausted}})
     |some .ret=>some (.ret,e,{h' with loops:=h'.loops.set h.loops.length {r with state:= .exhausted}})
     |some (.exit id)=>some (.exit id,e,{h' with loops:=h'.loops.set h.loops.length {r with state:= .exhausted}})
     |_=>none
    |none=>none
   |some (.panic x,h')=>some (.panic x,e,h')
   |none=>none
  |_=>none
 |_,_,_=>none
def dJ(e:Env)(h:ae):List ResultVar->Option (List AV)
 | []=>some []
 | .tmp t::r=>(dJ e h r).map (e.get t::·)
 | .cell a t::r=>
  match ai P G h t (e.get a),dJ e h r with
  |some x,some l=>some (x::l)
  |_,_=>none
def mz(fn:Func)(e:Env)(h:ae):Option AV:=
 match dJ P G e h fn.results.toList with
 |some [x]=>some x
 |some l=>some (.tuple l)
 |none=>none
def bD(fn:Func)(e:Env):List (FuncId × List AV)->Option (AV × Bool)->ae->Option (Res × ae)
 | [],none,h=>(mz P G fn e h).map fun x=>(.ret x,h)
 | [],some (x,_),h=>some (.panic x,h)
 | (g,args)::ds,m,h=>
  match R.fg g args m h with
  |some (.ret _,some (_,true),h)=>bD fn e ds none h
  |some (.ret _,m,h)=>bD fn e ds m h
  |_=>none
def iB(g:FuncId)(args:List AV)(m:Option (AV × Bool))(h:ae):Option (Res × Option (AV × Bool) × ae):=
 match P.funcs[g]? with
 |none=>none
 |some fn=>
  match fn.body with
  |none=>none
  |some body=>
   match R.code body {tmps:={ch:=[],base:=args},defers:=[],pan:=m,round:=none} h with
   |some (.normal,e,h) |some (.ret,e,h)=>(bD P G R fn e e.defers none h).map fun(r,h)=>(r,e.pan,h)
   |some (.panic x,e,h)=>(bD P G R fn e e.defers (some (x,false)) h).map fun(r,h)=>(r,e.pan,h)
   |_=>none
def gQ(prims:FuncId->Option (List AV->ae->Option (AV × ae)))(g:FuncId)(args:List AV)(h:ae):Option (Res × ae):=
 match prims g with
 |some p=>(p args h).map fun(x,h)=>(.ret x,h)
 |none=>(iB P G R g args none h).map fun(r,_,h)=>(r,h)
def iC(l:Nat)(args:List AV)(h:ae):Option (Res × ae):=
 match h.loops[l]? with
 |none=>none
 |some r=>
  if r.params.size=args.length then
   match R.code r.assign {tmps:=j9 r.params.toList args r.tmps,defers:=[],pan:=none,round:=some l} h with
   |some (.normal,e,h)=>
    match h.loops[l]? with
    |some r2=>
     if r2.state= .ready then
      match R.code r.body e {h with loops:=h.loops.set l {r2 with state:= .busy}} with
      |some (.normal,_,h)=>(h.loops[l]?).map fun r=>(.ret (.v (.bool true)),{h with loops:=h.loops.set l {r with state:= .ready,pending:=none}})
      |some (.ret,_,h)=>(h.loops[l]?).map fun r=>(.ret (.v (.bool false)),{h with loops:=h.loops.set l {r with state:= .done,pending:=some .ret}})
      |some (.exit id,_,h)=>(h.loops[l]?).map fun r=>(.ret (.v (.bool false)),{h with loops:=h.loops.set l {r with state:= .done,pending:=some (.exit id)}})
      |some (.panic x,_,h)=>some (.panic x,h)
      |none=>none
     else none
    |none=>none
   |_=>none
  else none
end
noncomputable def fW(P:Program)(G:Nat->Option (List AV))(prims:FuncId->Option (List AV->ae->Option (AV × ae)))(n:Nat):Rec:=
 Nat.rec (motive:=fun _=>Rec) {code:=fun _ _ _=>none,call:=fun _ _ _=>none,fg:=fun _ _ _ _=>none,round:=fun _ _ _=>none}
  (fun _ R=>{code:=b7 P G R,call:=gQ P G R prims,fg:=iB P G R,round:=iC R}) n
end Go.AE
end
section
namespace Go.AE
open Go.RowKit (Below)
theorem jq{α:Type}{P:Program}:∀{e:Sem α} {a:α},bQ P e=some a->∀w,e.run P w= .ok a w:=by
 intro e
 induction e with
 |pure a=>intro b h w;simp[bQ] at h;subst h;rfl
 |program k ih=>intro b h w;simp only[bQ] at h;simp only[Sem.run];exact ih _ h w
 |mark m k ih=>intro b h w;simp only[bQ] at h;simp only[Sem.run];exact ih h w
 |_=>intro b h;simp[bQ] at h
structure aB where
 base:Nat
 ic:Nat->Nat->Option Value
 β:List Nat
 γ:List Nat
 tn:Nat
 tk:Nat->Nat × Nat × Nat
 md:List Nat
 lb:Nat->Option (Nat × Nat × Nat)
structure aB.Le(K K':aB):Prop where
 base:K'.base=K.base
 ic:∀g j c,K.ic g j=some c->K'.ic g j=some c
 β:∀b g:Nat,K.β[b]?=some g->K'.β[b]?=some g
 γ:∀l g:Nat,K.γ[l]?=some g->K'.γ[l]?=some g
 tn:K.tn<=K'.tn
 tk:∀t,t<K.tn->K'.tk t=K.tk t
 md:∀r∈K.md,r∈K'.md
 lb:∀b,b<K.β.length->K'.lb b=K.lb b
 new:∀g j c,K'.ic g j=some c->K.ic g j=some c∨K.base<=g
theorem aB.Le.refl(K:aB):K.Le K:=⟨rfl,fun _ _ _ h=>h,fun _ _ h=>h,fun _ _ h=>h,Nat.le_refl _,fun _ _=>rfl,fun _ h=>h,fun _ _=>rfl,fun _ _ _ h=> .inl h⟩
theorem aB.Le.len{K K':aB}(h:K.Le K'){b:Nat}(hb:b<K.β.length):b<K'.β.length:=(List.getElem?_eq_some_iff.1 (h.β b _ (List.getElem?_eq_getElem hb))).1
theorem aB.Le.trans{A B C:aB}(h:A.Le B)(k:B.Le C):A.Le C:=
 ⟨k.base.trans h.base,fun g j c hc=>k.ic g j c (h.ic g j c hc),fun b g hb=>k.β b g (h.β b g hb),fun b g hb=>k.γ b g (h.γ b g hb),Nat.le_trans h.tn k.tn,
  fun t ht=>(k.tk t (Nat.lt_of_lt_of_le ht h.tn)).trans (h.tk t ht),fun r hr=>k.md r (h.md r hr),fun b hb=>(k.lb b (h.len hb)).trans (h.lb b hb),fun g j c hc=>(k.new g j c hc).elim (h.new g j c) fun q=> .inr (by rw[<-h.base];exact q)⟩
def pT(K:aB)(k:Tok)(g off sz n cap:Nat):Prop:=
 n<=cap/\match k with
  | .nil=>False
  | .tight=>cap=n
  | .free t=>t<K.tn/\(K.tk t).1=g/\(K.tk t).2.1=off+n * sz/\off+cap * sz<=(K.tk t).2.2
  | .held=>True
theorem pT.mono{K K':aB}(h:K.Le K'){k:Tok}{g off sz n cap:Nat}(ht:pT K k g off sz n cap):pT K' k g off sz n cap:=by
 refine⟨ht.1,?_⟩
 have h2:=ht.2
 cases k with
 |free t=>
  simp only at h2 ⊢
  rw[h.tk t h2.1]
  exact⟨Nat.lt_of_lt_of_le h2.1 h.tn,h2.2⟩
 |_=>exact h2
mutual
inductive aI (K:aB):AV->Value->Prop
 |bad (c:Value):aI K .bad c
 |v (x:Value) (h:scalar x=true):aI K (.v x) x
 |nil (sz:Nat):aI K (.list .nil sz []) (.slice none 0 0)
 |eK (sz:Nat) (a:Addr):aI K (.list .tight sz []) (.slice (some a) 0 0)
 |list (k:Tok) (sz:Nat) (es:List (List AV)) (g off n cap:Nat) (cells:List Value) (hn:n=es.length) (hr:∀r∈es,r.length=sz)
  (hv:ao K es.flatten cells) (hc:∀j c,cells[j]?=some c->K.ic g (off+j)=some c) (ht:pT K k g off sz n cap)
  (ha:es.flatten.all AV.bu=true):aI K (.list k sz es) (.slice (some ⟨g,off,none⟩) n cap)
 |arr (b g off len cap off' cap':Nat) (hb:K.β[b]?=some g) (hl:len<=cap) (hc:cap<=cap') (ho:off'=off∨cap=0)
  (hr:cap'=cap∨cap=0∨off≠0∨∃sz room,K.lb b=some (cap,sz,room)/\0<sz/\cap' * sz<=room):aI K (.arr b off len cap) (.slice (some ⟨g,off',none⟩) len cap')
 |agg (cs:List AV) (vs:Array Value) (h:ao K cs vs.toList):aI K (.agg cs) (.agg vs)
 |tuple (cs:List AV) (vs:Array Value) (h:ao K cs vs.toList):aI K (.tuple cs) (.tuple vs)
 |box (b g off:Nat) (hb:K.β[b]?=some g):aI K (.ptr (.box b) off) (.pointer (some ⟨g,off,none⟩))
 |dW (g off:Nat):aI K (.ptr (.dW g) off) (.pointer (some ⟨g,off,none⟩))
 |elem (sz:Nat) (es:List (List AV)) (i off g o p:Nat) (cells:List Value) (hr:∀r∈es,r.length=sz) (hv:ao K es.flatten cells)
  (hc:∀j c,cells[j]?=some c->K.ic g (o+j)=some c) (hi:i<es.length) (hp:p=o+i * sz+off)
  (ha:es.flatten.all AV.bu=true):aI K (.elem sz es i off) (.pointer (some ⟨g,p,none⟩))
 |func (fn:Fn) (first cap:List AV) (fs cs:Array Value) (h1:ao K first fs.toList) (h2:ao K cap cs.toList):aI K (.func fn first cap) (.func fn fs cs)
 |yield (l g:Nat) (h:K.γ[l]?=some g):aI K (.yield l) (.func (.yield g) #[] #[])
 |iface (t:TypeId) (x:AV) (c:Value) (h:aI K x c):aI K (.iface t x) (.iface t c)
inductive ao (K:aB):List AV->List Value->Prop
 |nil:ao K [] []
 |cons (x:AV) (c:Value) (xs:List AV) (cs:List Value) (h:aI K x c) (hs:ao K xs cs):ao K (x::xs) (c::cs)
end
mutual
theorem aI.mono{K K':aB}(h:K.Le K'):∀{x:AV} {c:Value},aI K x c->aI K' x c
 |_,_,.bad c=> .bad c
 |_,_,.v x hx=> .v x hx
 |_,_,.nil sz=> .nil sz
 |_,_,.eK sz a=> .eK sz a
 |_,_,.list k sz es g off n cap cells hn hr hv hc ht ha=> .list k sz es g off n cap cells hn hr (ao.mono h hv) (fun j c hj=>h.ic _ _ _ (hc j c hj)) (ht.mono h) ha
 |_,_,.arr b g off len cap off' cap' hb hl hc ho hr=> .arr b g off len cap off' cap' (h.β _ _ hb) hl hc ho (by rw[h.lb b (List.getElem?_eq_some_iff.1 hb).1];exact hr)
 |_,_,.agg cs vs hv=> .agg cs vs (ao.mono h hv)
 |_,_,.tuple cs vs hv=> .tuple cs vs (ao.mono h hv)
 |_,_,.box b g off hb=> .box b g off (h.β _ _ hb)
 |_,_,.dW g off=> .dW g off
 |_,_,.elem sz es i off g o p cells hr hv hc hi hp ha=> .elem sz es i off g o p cells hr (ao.mono h hv) (fun j c hj=>h.ic _ _ _ (hc j c hj)) hi hp ha
 |_,_,.func fn first cap fs cs h1 h2=> .func fn first cap fs cs (ao.mono h h1) (ao.mono h h2)
 |_,_,.yield l g hl=> .yield l g (h.γ _ _ hl)
 |_,_,.iface t x c hx=> .iface t x c (aI.mono h hx)
theorem ao.mono{K K':aB}(h:K.Le K'):∀{xs:List AV} {cs:List Value},ao K xs cs->ao K' xs cs
 |_,_,.nil=> .nil
 |_,_,.cons x c xs cs hx hs=> .cons x c xs cs (aI.mono h hx) (ao.mono h hs)
end
def wR:Value->Bool
 | .agg _| .tuple _=>false
 |_=>true
section
variable {K:aB}
theorem ao.length{xs:List AV}{cs:List Value}(h:ao K xs cs):xs.length=cs.length:=by
 induction xs generalizing cs with
 |nil=>cases h;rfl
 |cons x xs ih=>cases h with|cons _ _ _ _ _ hs=>simp[ih hs]
theorem ao.get{xs:List AV}{cs:List Value}(h:ao K xs cs):∀{i:Nat} {x:AV},xs[i]?=some x->∃c,cs[i]?=some c/\aI K x c:=by
 induction xs generalizing cs with
 |nil=>intro i x hx;simp at hx
 |cons y xs ih=>
  cases h with
  |cons _ c _ cs hy hs=>
   intro i x hx
   cases i with
   |zero=>simp at hx;subst hx;exact⟨c,rfl,hy⟩
   |succ i=>exact ih hs (by simpa using hx)
theorem ao.get'{xs:List AV}{cs:List Value}(h:ao K xs cs):∀{i:Nat} {c:Value},cs[i]?=some c->∃x,xs[i]?=some x/\aI K x c:=by
 induction xs generalizing cs with
 |nil=>cases h;intro i x hx;simp at hx
 |cons y xs ih=>
  cases h with
  |cons _ c _ cs hy hs=>
   intro i x hx
   cases i with
   |zero=>simp at hx;subst hx;exact⟨y,rfl,hy⟩
   |succ i=>exact ih hs (by simpa using hx)
theorem ao.of{xs:List AV}{cs:List Value}(hl:xs.length=cs.length)(h:∀(i:Nat) (x:AV) (c:Value),xs[i]?=some x->cs[i]?=some c->aI K x c):ao K xs cs:=by
 induction xs generalizing cs with
 |nil=>cases cs with|nil=>exact .nil|cons _ _=>simp at hl
 |cons y xs ih=>
  cases cs with
  |nil=>simp at hl
  |cons c cs=>exact .cons _ _ _ _ (h 0 y c rfl rfl) (ih (by simpa using hl) fun i x c hx hc=>h (i+1) x c (by simpa using hx) (by simpa using hc))
theorem ao.append{xs ys:List AV}{cs ds:List Value}(h:ao K xs cs)(k:ao K ys ds):ao K (xs++ys) (cs++ds):=by
 induction xs generalizing cs with
 |nil=>cases h;exact k
 |cons y xs ih=>cases h with|cons _ _ _ _ hy hs=>exact .cons _ _ _ _ hy (ih hs)
theorem ao.take{xs:List AV}{cs:List Value}(h:ao K xs cs)(n:Nat):ao K (xs.take n) (cs.take n):=by
 refine .of (by simp[h.length]) fun i x c hx hc=>?_
 simp only[List.getElem?_take] at hx hc
 split at hx
 ·rename_i hi;rw[if_pos hi] at hc
  obtain⟨c',hc',hr⟩:=h.get hx
  rw[hc] at hc';injection hc' with e;subst e;exact hr
 ·cases hx
theorem ao.drop{xs:List AV}{cs:List Value}(h:ao K xs cs)(n:Nat):ao K (xs.drop n) (cs.drop n):=by
 refine .of (by simp[h.length]) fun i x c hx hc=>?_
 simp only[List.getElem?_drop] at hx hc
 obtain⟨c',hc',hr⟩:=h.get hx
 rw[hc] at hc';injection hc' with e;subst e;exact hr
theorem ao.set{xs:List AV}{cs:List Value}(h:ao K xs cs)(i:Nat){x:AV}{c:Value}(hx:aI K x c):ao K (xs.set i x) (cs.set i c):=by
 refine .of (by simp[h.length]) fun j y d hy hd=>?_
 simp only[List.getElem?_set] at hy hd
 split at hy
 ·rename_i e;subst e
  rw[if_pos rfl] at hd
  split at hy
  ·rename_i hlt
   rw[if_pos (h.length ▸ hlt)] at hd
   injection hy with hy;injection hd with hd;subst hy;subst hd;exact hx
  ·cases hy
 ·rename_i e
  rw[if_neg e] at hd
  obtain⟨c',hc',hr⟩:=h.get hy
  rw[hd] at hc';injection hc' with e;subst e;exact hr
theorem ao.map_mk{α:Type}{l:List α}{f:α->AV}{f':α->Value}(h:∀a∈l,aI K (f a) (f' a)):ao K (l.map f) (l.map f'):=by
 induction l with
 |nil=>exact .nil
 |cons a l ih=>exact .cons _ _ _ _ (h a (by simp)) (ih fun b hb=>h b (by simp[hb]))
theorem aI.bm{x:Value}{c:Value}(h:aI K (.v x) c):c=x/\scalar x=true:=by
 cases h with|v _ h=>exact⟨rfl,h⟩
theorem mg:∀{cs:List AV} {l:List Value},iW cs=some l->∀{vs:List Value},ao K cs vs->vs=l
 | [],l,h,_,hv=>by cases hv;simp[iW] at h;exact h.symm ▸ rfl
 | .v x::r,l,h,_,hv=>by
  cases hv with
  |cons _ c _ cs hx hs=>
   simp only[iW,Option.map_eq_some_iff] at h
   obtain⟨l',hl',rfl⟩:=h
   rw[(aI.bm hx).1,mg hl' hs]
 | .bad::_,_,h,_,_| .list .. ::_,_,h,_,_| .arr .. ::_,_,h,_,_| .agg _::_,_,h,_,_| .tuple _::_,_,h,_,_| .ptr .. ::_,_,h,_,_
 | .elem .. ::_,_,h,_,_| .func .. ::_,_,h,_,_| .yield _::_,_,h,_,_| .iface .. ::_,_,h,_,_=>by simp[iW] at h
theorem qL{x:AV}{p:Value}(h:x.flat=some p){c:Value}(hv:aI K x c):c=p:=by
 unfold AV.flat at h
 split at h
 ·injection h with h;subst h;exact(aI.bm hv).1
 ·simp only[Option.map_eq_some_iff] at h
  obtain⟨l,hl,rfl⟩:=h
  cases hv with|agg _ vs hs=>rw[<-mg hl hs]
 ·injection h with h;subst h
  cases hv with|iface _ _ _ hx=>rw[(aI.bm hx).1]
 ·simp only[Option.map_eq_some_iff] at h
  obtain⟨l,hl,rfl⟩:=h
  cases hv with|iface _ _ _ hx=>cases hx with|agg _ vs hs=>rw[<-mg hl hs]
 ·injection h with h;subst h
  cases hv with
  |nil=>rfl
  |list _ _ _ _ _ _ _ _ _ _ _ _ ht _=>exact ht.2.elim
 ·cases h
theorem om:∀{xs:List AV} {l:List Value},flatAll xs=some l->∀{vs:List Value},ao K xs vs->vs=l
 | [],l,h,_,hv=>by cases hv;simp[flatAll] at h;exact h.symm ▸ rfl
 |x::r,l,h,_,hv=>by
  cases hv with
  |cons _ c _ cs hx hs=>
   simp only[flatAll] at h
   split at h
   ·rename_i v l' h1 h2
    injection h with h;subst h
    rw[qL h1 hx,om h2 hs]
   ·cases h
theorem jr{z:Value}{x:AV}(h:eS z=some x):aI K x z:=by
 unfold eS at h
 split at h
 ·injection h with h;subst h;exact .v _ ‹_›
 ·cases h
theorem qj(x:Value):aI K (kK x) x:=by
 unfold kK
 split
 ·exact .nil 0
 ·split
  ·exact .v _ ‹_›
  ·exact .bad _
theorem oZ(x:Value):aI K (lX x) x:=by
 unfold lX
 split
 ·rename_i cs
  refine .agg _ _ ?_
  have:ao K (cs.toList.map kK) (cs.toList.map id):=ao.map_mk fun a _=>qj a
  simpa using this
 ·split
  ·rename_i vs h
   have:vs=#[]:=by simpa using h
   subst this
   exact .tuple _ _ .nil
  ·exact .bad _
 ·exact .iface _ _ _ (qj _)
 ·exact qj _
theorem nh{x:AV}{cs:List AV}(h:x.aC=some cs){c:Value}(hv:aI K x c):ao K cs c.cells.toList/\cs.all AV.bu=true:=by
 unfold AV.aC at h
 split at h
 ·split at h
  ·rename_i ha
   injection h with h;subst h
   cases hv with|agg _ vs hs=>exact⟨hs,ha⟩
  ·cases h
 ·cases h
 ·cases h
 ·rename_i h1 h2 h3
  injection h with h;subst h
  have hcell:x.bu=true:=by cases x<;>first|rfl|exact absurd rfl (h1 _) |exact absurd rfl (h2 _) |exact absurd rfl h3
  refine⟨?_,by simp[hcell]⟩
  have:c.cells=#[c]:=by cases hv<;>first|rfl|exact absurd rfl (h1 _) |exact absurd rfl (h2 _) |exact absurd rfl h3| (cases c<;>first|rfl|simp[scalar] at *)
  rw[this]
  exact .cons _ _ _ _ hv .nil
theorem tR{c:Value}(h:scalar c=true):wR c=true:=by
 cases c<;>first|rfl|simp[scalar] at h
theorem Ce{x:AV}(h:x.bu=true){c:Value}(hv:aI K x c):wR c=true:=by
 cases hv<;>first|rfl|exact tR ‹_›| (simp[AV.bu] at h;done)
end
def oo(K:aB)(b:Nat)(cs:List AV)(cells:Array Value):Prop:=
 ao K cs (cells.toList.take cs.length)/\∀N sz room,K.lb b=some (N,sz,room)->cs=[]∨(cs.length=N * sz/\room<=cells.size)
theorem oo.mono{K K':aB}(h:K.Le K'){b:Nat}(hb:b<K.β.length){cs:List AV}{cells:Array Value}(r:oo K b cs cells):oo K' b cs cells:=
 ⟨r.1.mono h,by rw[h.lb b hb];exact r.2⟩
theorem oo.nil{K:aB}{b:Nat}{cells:Array Value}:oo K b [] cells:=⟨.nil,fun _ _ _ _=> .inl rfl⟩
theorem oo.le{K:aB}{b:Nat}{cs:List AV}{cells:Array Value}(r:oo K b cs cells):cs.length<=cells.size:=by
 have:=r.1.length
 rw[List.length_take] at this
 simp only[Array.length_toList] at this
 omega
def dg(K:aB)(s:iU)(tmps:Array Value):Prop:=∀t,aI K (s.get t) (tmps.getD t undef)
theorem dg.mono{K K':aB}(h:K.Le K'){s:iU}{tmps:Array Value}(hs:dg K s tmps):dg K' s tmps:=fun t=>(hs t).mono h
structure Sim(K:aB)(G:Nat->Option (List AV))(ok:FuncId->Nat->Code->Bool)(w0:World)(h:ae)(w:World):Prop where
 old:Below K.base w0 w
 size:K.base<=w.heap.size
 ic:∀g j c,K.ic g j=some c->w.cell? ⟨g,j,none⟩=some c
 dW:∀g cs,G g=some cs->∃cells,ao K cs cells/\∀(j:Nat) (c:Value),cells[j]?=some c->K.ic g j=some c
 js:K.β.length=h.boxes.length
 βnd:∀(b b' g:Nat),K.β[b]?=some g->K.β[b']?=some g->b=b'∨h.boxes[b]?=some []∨h.boxes[b']?=some []
 box:∀(b g:Nat) (cs:List AV),K.β[b]?=some g->h.boxes[b]?=some cs->
  K.base<=g/\(∀j,K.ic g j=none)/\cs.all AV.bu=true/\∃cells e,w.heap[g]?=some (.cells cells e (0,0))/\oo K b cs cells
 mA:K.γ.length=h.loops.length
 γnd:∀(b b' g:Nat),K.γ[b]?=some g->K.γ[b']?=some g->b=b'
 loop:∀(l g:Nat) (r:bE),K.γ[l]?=some g->h.loops[l]?=some r->K.base<=g/\∃fn tmps d,
  w.heap[g]?=some (.loop {state:=r.state,pending:=r.pending,fn,tmps,params:=r.params,assign:=r.assign,body:=r.body,defers:=d})/\
  dg K r.tmps tmps/\ok fn tmps.size r.assign=true/\ok fn tmps.size r.body=true/\∀p∈r.params.toList,p<tmps.size
 tn:K.tn=h.tn
 tok:∀t,alive h t=true->K.base<=(K.tk t).1/\(∀b:Nat,K.β[b]?≠some (K.tk t).1)/\(∀j,(K.tk t).2.1<=j->K.ic (K.tk t).1 j=none)/\
  ∃cells e fz,w.heap[(K.tk t).1]?=some (.cells cells e fz)/\cells.size=(K.tk t).2.2/\
   ∀j,(K.tk t).2.1<=j->j<cells.size->w.frozen? ⟨(K.tk t).1,j,none⟩=false
 oq:∀t t',alive h t=true->alive h t'=true->(K.tk t).1=(K.tk t').1->t=t'
 md:∀r∈K.md,K.base<=r/\w.heap[r]?=some (.deferred (some []))
 all:K.base=w0.heap.size
theorem Addr.dh(g o n:Nat):(⟨g,o,none⟩:Addr).add n=⟨g,o+n,none⟩:=by
 unfold Addr.add
 split
 ·subst_vars;rfl
 ·rfl
theorem gG{h:ae}{t:Nat}(ha:alive h t=true):t<h.tn:=by
 unfold alive at ha;simp at ha;exact ha.1
section
variable {K:aB} {G:Nat->Option (List AV)} {ok:FuncId->Nat->Code->Bool} {w0 w:World} {h:ae}
theorem Sim.fY(s:Sim K G ok w0 h w){g j:Nat}{c:Value}(hc:K.ic g j=some c):g<w.heap.size:=by
 have:=s.ic g j c hc
 unfold World.cell? at this
 rcases Nat.lt_or_ge g w.heap.size with hlt|hge
 ·exact hlt
 ·simp[Array.getElem?_eq_none hge] at this
theorem Sim.same{w':World}(s:Sim K G ok w0 h w)(hh:w'.heap=w.heap)(ht:w'.tape=w.tape)(ho:w'.os=w.os)(hp:w'.output=w.output):Sim K G ok w0 h w':=by
 have hc:∀a,w'.cell? a=w.cell? a:=fun a=>by simp[World.cell?,hh]
 have hf:∀a,w'.frozen? a=w.frozen? a:=fun a=>by simp[World.frozen?,hh]
 refine⟨⟨ho.trans s.old.os,ht.trans s.old.tape,hp.trans s.old.output,by rw[hh];exact s.old.size,fun k hk=>by rw[hh];exact s.old.block k hk⟩,by rw[hh];exact s.size,
  fun g j c hg=>(hc _).trans (s.ic g j c hg),s.dW,s.js,s.βnd,fun b g cs hb hc=>by rw[hh];exact s.box b g cs hb hc,s.mA,s.γnd,
  fun l g r hl hr=>by rw[hh];exact s.loop l g r hl hr,s.tn,fun t ht=>?_,s.oq,fun r hr=>by rw[hh];exact s.md r hr,s.all⟩
 obtain⟨h1,h2,h3,cells,e,fz,h4,h5,h6⟩:=s.tok t ht
 exact⟨h1,h2,h3,cells,e,fz,by rw[hh];exact h4,h5,fun j hj hl=>(hf _).trans (h6 j hj hl)⟩
theorem Sim.drew(s:Sim K G ok w0 h w)(n:Nat):Sim K G ok w0 h {w with drawn:=n}:=s.same rfl rfl rfl rfl
theorem fe(w:World)(o:Obj){k:Nat}(hk:k<w.heap.size):(w.heap.push o)[k]?=w.heap[k]?:=by
 rw[Array.getElem?_push,if_neg (by omega)]
theorem cV{w:World}{g:Nat}{o:Obj}(h:w.heap[g]?=some o):g<w.heap.size:=by
 rcases Nat.lt_or_ge g w.heap.size with hlt|hge
 ·exact hlt
 ·rw[Array.getElem?_eq_none hge] at h;cases h
theorem Sim.push(s:Sim K G ok w0 h w)(o:Obj):Sim K G ok w0 h {w with heap:=w.heap.push o}:=by
 have hk:∀{k:Nat} {o':Obj},w.heap[k]?=some o'->(w.heap.push o)[k]?=some o':=fun hk=>(fe w o (cV hk)).trans hk
 refine⟨⟨s.old.os,s.old.tape,s.old.output,by have:=s.old.size;simp;omega,fun k hk=>(fe w o (Nat.lt_of_lt_of_le hk s.size)).trans (s.old.block k hk)⟩,by have:=s.size;simp;omega,
  fun g j c hg=>?_,s.dW,s.js,s.βnd,fun b g cs hb hc=>?_,s.mA,s.γnd,fun l g r hl hr=>?_,s.tn,fun t ht=>?_,s.oq,fun r hr=>?_,s.all⟩
 ·rw[<-s.ic g j c hg]
  exact World.cell?_of_block (w:=w) (fe w o (s.fY hg))
 ·obtain⟨h1,h2,ha,cells,e,h3,h4⟩:=s.box b g cs hb hc
  exact⟨h1,h2,ha,cells,e,hk h3,h4⟩
 ·obtain⟨h1,fn,tmps,d,h2,h3⟩:=s.loop l g r hl hr
  exact⟨h1,fn,tmps,d,hk h2,h3⟩
 ·obtain⟨h1,h2,h3,cells,e,fz,h4,h5,h6⟩:=s.tok t ht
  refine⟨h1,h2,h3,cells,e,fz,hk h4,h5,fun j hj hl=>?_⟩
  rw[<-h6 j hj hl]
  exact World.frozen?_of_block (w:=w) (fe w o (cV h4))
 ·exact⟨(s.md r hr).1,hk (s.md r hr).2⟩
theorem cC{α:Type}{l:List α}{x:α}{i:Nat}{y:α}(h:l[i]?=some y):(l++[x])[i]?=some y:=by
 rw[List.getElem?_append_left (List.getElem?_eq_some_iff.1 h).1];exact h
theorem cR{α:Type}{l:List α}{x:α}{i:Nat}{y:α}(h:(l++[x])[i]?=some y):l[i]?=some y∨(i=l.length/\y=x):=by
 rcases Nat.lt_trichotomy i l.length with hlt|heq|hgt
 ·rw[List.getElem?_append_left hlt] at h;exact .inl h
 ·subst heq;simp at h;exact .inr ⟨rfl,h.symm⟩
 ·rw[List.getElem?_eq_none (by simp;omega)] at h;cases h
def aB.nW(K:aB)(g:Nat)(x:Option (Nat × Nat × Nat)):aB:={K with β:=K.β++[g],lb:=fun b=>if b=K.β.length then x else K.lb b}
def aB.box(K:aB)(g:Nat):aB:=K.nW g none
theorem aB.o5(K:aB)(g:Nat)(x:Option (Nat × Nat × Nat)):K.Le (K.nW g x):=
 ⟨rfl,fun _ _ _ h=>h,fun _ _ h=>cC h,fun _ _ h=>h,Nat.le_refl _,fun _ _=>rfl,fun _ h=>h,fun b hb=>if_neg (by omega),fun _ _ _ h=> .inl h⟩
theorem aB.Cf(K:aB)(g:Nat):K.Le (K.box g):=K.o5 g none
theorem Sim.yl(s:Sim K G ok w0 h w){cs:List AV}{cells:Array Value}(e:TypeId)(x:Option (Nat × Nat × Nat))(hv:ao K cs (cells.toList.take cs.length))(hac:cs.all AV.bu=true)
 (hx:∀N sz room,x=some (N,sz,room)->cs=[]∨(cs.length=N * sz/\room<=cells.size)):
 Sim (K.nW w.heap.size x) G ok w0 {h with boxes:=h.boxes++[cs]} {w with heap:=w.heap.push (.cells cells e)}/\
 aI (K.nW w.heap.size x) (.ptr (.box h.boxes.length) 0) (.pointer (some ⟨w.heap.size,0,none⟩)):=by
 have le:=K.o5 w.heap.size x
 have p:=s.push (.cells cells e)
 have hnew:(K.nW w.heap.size x).β[h.boxes.length]?=some w.heap.size:=by simp[aB.nW,<-s.js]
 have hlt:∀{b g:Nat},K.β[b]?=some g->g<w.heap.size:=fun{b g} hb=>by
  have hbl:b<h.boxes.length:=by rw[<-s.js];exact(List.getElem?_eq_some_iff.1 hb).1
  obtain⟨_,_,_,_,_,h3,_⟩:=s.box b g _ hb (List.getElem?_eq_getElem hbl)
  exact cV h3
 have hicn:∀j,K.ic w.heap.size j=none:=fun j=>by
  cases hc:K.ic w.heap.size j with
  |none=>rfl
  |some c=>have:=s.fY hc;omega
 refine⟨⟨p.old,p.size,p.ic,fun g cs hg=>?_,by simp[aB.nW,s.js],fun b b' g hb hb'=>?_,fun b g cs' hb hc=>?_,p.mA,p.γnd,fun l g r hl hr=>?_,p.tn,fun t ht=>?_,p.oq,p.md,s.all⟩,.box _ _ _ hnew⟩
 ·obtain⟨cells',h1,h2⟩:=s.dW g cs hg
  exact⟨cells',h1.mono le,h2⟩
 ·rcases cR hb with hb|⟨rfl,rfl⟩<;>rcases cR hb' with hb'|⟨rfl,h2⟩
  ·rcases s.βnd _ _ _ hb hb' with p|p|p
   ·exact .inl p
   ·exact .inr (.inl (cC p))
   ·exact .inr (.inr (cC p))
  ·have:=hlt hb;omega
  ·have:=hlt hb';omega
  ·exact .inl rfl
 ·rcases cR hb with hb|⟨rfl,rfl⟩
  ·rcases cR hc with hc|⟨rfl,rfl⟩
   ·obtain⟨h1,h2,ha,cells',e',h3,h4⟩:=p.box b g cs' hb hc
    exact⟨h1,h2,ha,cells',e',h3,h4.mono le (List.getElem?_eq_some_iff.1 hb).1⟩
   ·have:h.boxes.length<K.β.length:=(List.getElem?_eq_some_iff.1 hb).1
    have:=s.js;omega
  ·have:cs'=cs:=by
    rw[s.js] at hc;simp at hc;exact hc.symm
   subst this
   exact⟨s.size,hicn,hac,cells,e,by simp,hv.mono le,by simp only[aB.nW,if_true];exact hx⟩
 ·obtain⟨h1,fn,tmps,d,h2,h3,h4⟩:=p.loop l g r hl hr
  exact⟨h1,fn,tmps,d,h2,h3.mono le,h4⟩
 ·obtain⟨h1,h2,h3,cells',e',fz,h4,h5⟩:=p.tok t ht
  refine⟨h1,fun b hb=>?_,h3,cells',e',fz,h4,h5⟩
  obtain⟨_,_,_,_,_,_,h4',_⟩:=s.tok t ht
  rcases cR hb with hb|⟨_,hb⟩
  ·exact h2 b hb
  ·have:=cV h4';simp only[aB.nW] at hb;omega
theorem ao.whole{cs:List AV}{vs:List Value}(h:ao K cs vs):ao K cs (vs.take cs.length):=by
 rw[List.take_of_length_le (by rw[h.length];exact Nat.le_refl _)];exact h
theorem Sim.Cg(s:Sim K G ok w0 h w){cs:List AV}{cells:Array Value}(e:TypeId)(hv:ao K cs cells.toList)(hac:cs.all AV.bu=true):
 Sim (K.box w.heap.size) G ok w0 {h with boxes:=h.boxes++[cs]} {w with heap:=w.heap.push (.cells cells e)}/\
 aI (K.box w.heap.size) (.ptr (.box h.boxes.length) 0) (.pointer (some ⟨w.heap.size,0,none⟩)):=s.yl e none hv.whole hac (fun _ _ _ q=>by cases q)
structure Chg(w w':World)(g:Nat)(o:Obj):Prop where
 os:w'.os=w.os
 tape:w'.tape=w.tape
 output:w'.output=w.output
 size:w'.heap.size=w.heap.size
 other:∀k,k≠g->w'.heap[k]?=w.heap[k]?
 this:w'.heap[g]?=some o
theorem Chg.lt{w w':World}{g:Nat}{o:Obj}(c:Chg w w' g o):g<w.heap.size:=c.size ▸ cV c.this
theorem Chg.below{w w':World}{g:Nat}{o:Obj}(c:Chg w w' g o){B:Nat}(hB:B<=g):Below B w w':=
 ⟨c.os,c.tape,c.output,by rw[c.size];exact Nat.le_refl _,fun k hk=>c.other k (by omega)⟩
def frz(fz:Nat × Nat)(j:Nat):Bool:=decide (fz.1<=j)&&decide (j<fz.2)
theorem ie{w:World}{g:Nat}{cells:Array Value}{e:TypeId}{fz:Nat × Nat}(h:w.heap[g]?=some (.cells cells e fz))(j:Nat):w.frozen? ⟨g,j,none⟩=frz fz j:=by
 obtain⟨lo,hi⟩:=fz
 simp[World.frozen?,h,frz]
theorem fO{w:World}{g:Nat}{cells:Array Value}{e:TypeId}{fz:Nat × Nat}(h:w.heap[g]?=some (.cells cells e fz))(j:Nat):w.cell? ⟨g,j,none⟩=cells[j]?:=by
 simp[World.cell?,h]
theorem Sim.Lq(s:Sim K G ok w0 h w)(b:Nat):Sim K G ok w0 {h with boxes:=h.boxes.set b []} w:=by
 refine⟨s.old,s.size,s.ic,s.dW,by simp[s.js],fun b1 b2 g h1 h2=>?_,fun b' g' cs' hb' hc'=>?_,s.mA,s.γnd,s.loop,s.tn,s.tok,s.oq,s.md,s.all⟩
 ·have key:∀k,h.boxes[k]?=some []->(h.boxes.set b [])[k]?=some []:=fun k hk=>by
   rw[List.getElem?_set]
   split
   ·rename_i e;subst e
    rw[if_pos (List.getElem?_eq_some_iff.1 hk).1]
   ·exact hk
  rcases s.βnd _ _ _ h1 h2 with p|p|p
  ·exact .inl p
  ·exact .inr (.inl (key _ p))
  ·exact .inr (.inr (key _ p))
 ·simp only[List.getElem?_set] at hc'
  split at hc'
  ·rename_i e';subst e'
   split at hc'
   ·rename_i hlt
    injection hc' with hc';subst hc'
    obtain⟨k1,k2,_,cells0,e0,k3,k4⟩:=s.box _ _ _ hb' (List.getElem?_eq_getElem hlt)
    exact⟨k1,k2,rfl,cells0,e0,k3,.nil⟩
   ·cases hc'
  ·exact s.box b' g' cs' hb' hc'
theorem Sim.Lr{w':World}(s:Sim K G ok w0 h w){b g:Nat}{cs old:List AV}{cells:Array Value}{e:TypeId}(hb:K.β[b]?=some g)(hold:h.boxes[b]?=some old)(hne:old≠[])(hlen:cs.length=old.length)(hsz:∀c0 e0,w.heap[g]?=some (.cells c0 e0 (0,0))->c0.size<=cells.size)
 (c:Chg w w' g (.cells cells e (0,0))) (hv:ao K cs (cells.toList.take cs.length)) (hac:cs.all AV.bu=true):Sim K G ok w0 {h with boxes:=h.boxes.set b cs} w':=by
 have hlt:=(List.getElem?_eq_some_iff.1 hold).1
 obtain⟨k1,k2,_,cells0,e0,k3,k4⟩:=s.box b g _ hb hold
 refine⟨s.old.trans (c.below k1),by rw[c.size];exact s.size,fun g' j x hx=>?_,s.dW,by simp[s.js],fun b1 b2 g h1 h2=>?_,fun b' g' cs' hb' hc'=>?_,s.mA,s.γnd,fun l g' r hl hr=>?_,s.tn,fun t ht=>?_,s.oq,fun r hr=>?_,s.all⟩
 ·have hne:g'≠g:=by rintro rfl;rw[k2 j] at hx;cases hx
  rw[<-s.ic g' j x hx]
  exact World.cell?_of_block (w:=w) (c.other g' hne)
 ·have key:∀k,h.boxes[k]?=some []->(h.boxes.set b cs)[k]?=some []:=fun k hk=>by
   rw[List.getElem?_set,if_neg]
   ·exact hk
   ·rintro rfl
    rw[hold] at hk;injection hk with hk;exact hne hk
  rcases s.βnd _ _ _ h1 h2 with p|p|p
  ·exact .inl p
  ·exact .inr (.inl (key _ p))
  ·exact .inr (.inr (key _ p))
 ·simp only[List.getElem?_set] at hc'
  split at hc'
  ·rename_i e';subst e'
   injection hc' with hc';subst hc'
   rw[hb] at hb';injection hb' with hb';subst hb'
   refine⟨k1,k2,hac,cells,e,c.this,hv,fun N sz room q=>?_⟩
   rcases k4.2 N sz room q with r|⟨r1,r2⟩
   ·exact absurd r hne
   ·exact .inr ⟨hlen.trans r1,Nat.le_trans r2 (hsz _ _ k3)⟩
  ·rename_i hnb
   by_cases hgg:g'=g
   ·subst hgg
    rcases s.βnd _ _ _ hb hb' with p|p|p
    ·exact absurd p hnb
    ·rw[hold] at p;injection p with p;exact absurd p hne
    ·rw[hc'] at p;injection p with p;subst p
     exact⟨k1,k2,rfl,cells,e,c.this,.nil⟩
   ·obtain⟨h1,h2,ha,cells',e',h3,h4⟩:=s.box b' g' cs' hb' hc'
    exact⟨h1,h2,ha,cells',e',(c.other g' hgg).trans h3,h4⟩
 ·obtain⟨h1,fn,tmps,d,h2,h3⟩:=s.loop l g' r hl hr
  have hgg:g'≠g:=by rintro rfl;rw[h2] at k3;cases k3
  exact⟨h1,fn,tmps,d,(c.other g' hgg).trans h2,h3⟩
 ·obtain⟨h1,h2,h3,cells',e',fz,h4,h5,h6⟩:=s.tok t ht
  have hgg:(K.tk t).1≠g:=fun e=>h2 b (e ▸ hb)
  refine⟨h1,h2,h3,cells',e',fz,(c.other _ hgg).trans h4,h5,fun j hj hl=>?_⟩
  rw[<-h6 j hj hl]
  exact World.frozen?_of_block (w:=w) (c.other _ hgg)
 ·have h2:=(s.md r hr).2
  have hgg:r≠g:=by rintro rfl;rw[h2] at k3;cases k3
  exact⟨(s.md r hr).1,(c.other r hgg).trans h2⟩
theorem Sim.Ls{w':World}(s:Sim K G ok w0 h w){g:Nat}{cs:List AV}{cells:Array Value}{e:TypeId}(hg:K.base<=g)(hic:∀j,K.ic g j=none)(hdead:∀b:Nat,K.β[b]?=some g->h.boxes[b]?=some [])
 (htok:∀t,alive h t=true->(K.tk t).1≠g) {c0:Array Value} {e0:TypeId} {z0:Nat × Nat} (hwas:w.heap[g]?=some (.cells c0 e0 z0))
 (x:Option (Nat × Nat × Nat)) (hx:∀N sz room,x=some (N,sz,room)->cs=[]∨(cs.length=N * sz/\room<=cells.size))
 (c:Chg w w' g (.cells cells e (0,0))) (hv:ao K cs (cells.toList.take cs.length)) (hac:cs.all AV.bu=true):
 Sim (K.nW g x) G ok w0 {h with boxes:=h.boxes++[cs]} w'/\(K.nW g x).β[h.boxes.length]?=some g:=by
 have le:=K.o5 g x
 have hnew:(K.nW g x).β[h.boxes.length]?=some g:=by simp[aB.nW,<-s.js]
 refine⟨⟨s.old.trans (c.below hg),by rw[c.size];exact s.size,fun g' j x hx=>?_,fun g' cs' hg'=>?_,by simp[aB.nW,s.js],fun b b' g' hb hb'=>?_,fun b g' cs' hb hc=>?_,s.mA,s.γnd,fun l g' r hl hr=>?_,s.tn,fun t ht=>?_,s.oq,fun r hr=>?_,s.all⟩,hnew⟩
 ·have hx2:K.ic g' j=some x:=hx
  have hne:g'≠g:=fun q=>by rw[q,hic j] at hx2;cases hx2
  rw[<-s.ic g' j x hx2]
  exact World.cell?_of_block (w:=w) (c.other g' hne)
 ·obtain⟨cells',h1,h2⟩:=s.dW g' cs' hg'
  exact⟨cells',h1.mono le,h2⟩
 ·rcases cR hb with p|⟨p1,p2⟩<;>rcases cR hb' with q|⟨q1,q2⟩
  ·rcases s.βnd _ _ _ p q with r|r|r
   ·exact .inl r
   ·exact .inr (.inl (cC r))
   ·exact .inr (.inr (cC r))
  ·subst q2
   exact .inr (.inl (cC (hdead _ p)))
  ·subst p2
   exact .inr (.inr (cC (hdead _ q)))
  ·exact .inl (by rw[p1,q1])
 ·rcases cR hb with p|⟨p1,p2⟩
  ·have hbl:b<h.boxes.length:=by rw[<-s.js];exact(List.getElem?_eq_some_iff.1 p).1
   rw[List.getElem?_append_left hbl] at hc
   by_cases hgg:g'=g
   ·subst hgg
    have:=hdead b p
    rw[hc] at this;injection this with this;subst this
    exact⟨hg,hic,rfl,cells,e,c.this,.nil⟩
   ·obtain⟨h1,h2,ha,cells',e',h3,h4⟩:=s.box b g' cs' p hc
    exact⟨h1,h2,ha,cells',e',(c.other g' hgg).trans h3,h4.mono le (List.getElem?_eq_some_iff.1 p).1⟩
  ·subst p2
   have:cs'=cs:=by
    rw[p1,s.js] at hc;simp at hc;exact hc.symm
   subst this
   exact⟨hg,hic,hac,cells,e,c.this,hv.mono le,by rw[p1];simp only[aB.nW,if_true];exact hx⟩
 ·obtain⟨h1,fn,tmps,d,h2,h3,h4⟩:=s.loop l g' r hl hr
  have hgg:g'≠g:=by rintro rfl;rw[h2] at hwas;cases hwas
  exact⟨h1,fn,tmps,d,(c.other g' hgg).trans h2,h3.mono le,h4⟩
 ·obtain⟨h1,h2,h3,cells',e',fz,h4,h5,h6⟩:=s.tok t ht
  have hgg:=htok t ht
  refine⟨h1,fun b hb=>?_,h3,cells',e',fz,(c.other _ hgg).trans h4,h5,fun j hj hl=>?_⟩
  ·rcases cR hb with p|⟨-,p⟩
   ·exact h2 b p
   ·exact hgg p
  ·rw[<-h6 j hj hl]
   exact World.frozen?_of_block (w:=w) (c.other _ hgg)
 ·have h2:=(s.md r hr).2
  have hgg:r≠g:=by rintro rfl;rw[h2] at hwas;cases hwas
  exact⟨(s.md r hr).1,(c.other r hgg).trans h2⟩
def aB.row(K:aB)(g off m size:Nat)(cells:Nat->Option Value):aB:=
 {K with ic:=fun g' j=>if g'=g/\off<=j/\j<m then cells j else K.ic g' j,tn:=K.tn+1,tk:=fun t=>if t=K.tn then (g,m,size) else K.tk t}
theorem aB.Ch{K:aB}{g off m size:Nat}{cells:Nat->Option Value}(h:∀j,off<=j->K.ic g j=none)(hb:K.base<=g):K.Le (K.row g off m size cells):=by
 refine⟨rfl,fun g' j c hc=>?_,fun _ _ h=>h,fun _ _ h=>h,Nat.le_succ _,fun t ht=>?_,fun _ h=>h,fun _ _=>rfl,fun g' j c hc=>?_⟩
 ·simp only[aB.row]
  rw[if_neg]
  ·exact hc
  ·rintro⟨rfl,h1,_⟩
   rw[h j h1] at hc;cases hc
 ·simp only[aB.row]
  rw[if_neg (by omega)]
 ·simp only[aB.row] at hc
  split at hc
  ·rename_i q;rw[q.1];exact .inr hb
  ·exact .inl hc
theorem Sim.row{w':World}{h':ae}(s:Sim K G ok w0 h w){g off m:Nat}{cells:Array Value}{e:TypeId}{fz:Nat × Nat}
 (hbox:h'.boxes=h.boxes) (hloop:h'.loops=h.loops) (htn:h'.tn=h.tn+1) (hal:∀t,alive h' t=true->t=h.tn∨(alive h t=true/\(K.tk t).1≠g))
 (hbase:K.base<=g) (hnb:∀b:Nat,K.β[b]?≠some g) (hic:∀j,off<=j->K.ic g j=none) (hsz:w.heap.size<=w'.heap.size)
 (hos:w'.os=w.os) (htape:w'.tape=w.tape) (hout:w'.output=w.output)
 (hother:∀k o,k≠g->w.heap[k]?=some o->w'.heap[k]?=some o) (hthis:w'.heap[g]?=some (.cells cells e fz))
 (hwas:∀o,w.heap[g]?=some o->∃c0 e0 z0,o= .cells c0 e0 z0)
 (hkeep:∀j c,K.ic g j=some c->cells[j]?=some c) (hom:off<=m) (_hm:m<=cells.size) (hfz:∀j,m<=j->j<cells.size->frz fz j=false):
 Sim (K.row g off m cells.size (fun j=>cells[j]?)) G ok w0 h' w':=by
 have le:=aB.Ch (m:=m) (size:=cells.size) (cells:=fun j=>cells[j]?) hic hbase
 refine⟨?_,Nat.le_trans s.size hsz,fun g' j x hx=>?_,fun g' cs hg=>?_,by rw[hbox];exact s.js,by rw[hbox];exact s.βnd,fun b g' cs hb hc=>?_,by rw[hloop];exact s.mA,s.γnd,fun l g' r hl hr=>?_,by rw[htn];simp[aB.row,s.tn],
  fun t ht=>?_,fun t t' ht ht' heq=>?_,fun r hr=>?_,s.all⟩
 ·refine s.old.trans ⟨hos,htape,hout,hsz,fun k hk=>?_⟩
  have hlt:k<w.heap.size:=Nat.lt_of_lt_of_le hk s.size
  have hk':w.heap[k]?=some (w.heap[k]):=Array.getElem?_eq_getElem hlt
  have hkb:k<K.base:=hk
  rw[hk']
  exact hother k _ (by omega) hk'
 ·simp only[aB.row] at hx
  split at hx
  ·rename_i hc
   obtain⟨rfl,_,_⟩:=hc
   rw[fO hthis];exact hx
  ·by_cases hgg:g'=g
   ·subst hgg
    rw[fO hthis];exact hkeep j x hx
   ·have hlt:=s.fY hx
    rw[<-s.ic g' j x hx]
    refine World.cell?_of_block (w:=w) ?_
    simp only
    rw[Array.getElem?_eq_getElem hlt]
    exact hother g' _ hgg (Array.getElem?_eq_getElem hlt)
 ·obtain⟨cells',h1,h2⟩:=s.dW g' cs hg
  exact⟨cells',h1.mono le,fun j c hj=>le.ic _ _ _ (h2 j c hj)⟩
 ·rw[hbox] at hc
  obtain⟨h1,h2,ha,cells',e',h3,h4⟩:=s.box b g' cs hb hc
  have hgg:g'≠g:=fun e=>hnb b (e ▸ hb)
  refine⟨h1,fun j=>?_,ha,cells',e',hother g' _ hgg h3,h4.mono le (List.getElem?_eq_some_iff.1 hb).1⟩
  simp only[aB.row]
  rw[if_neg (fun hh=>hgg hh.1)]
  exact h2 j
 ·rw[hloop] at hr
  obtain⟨h1,fn,tmps,d,h2,h3,h4⟩:=s.loop l g' r hl hr
  have hgg:g'≠g:=by
   rintro rfl
   obtain⟨_,_,_,h⟩:=hwas _ h2
   cases h
  exact⟨h1,fn,tmps,d,hother g' _ hgg h2,h3.mono le,h4⟩
 ·rcases hal t ht with rfl|⟨hta,htg⟩
  ·simp only[aB.row,s.tn,if_true]
   refine⟨hbase,hnb,fun j hj=>?_,cells,e,fz,hthis,rfl,fun j hj hl=>(ie hthis j).trans (hfz j hj hl)⟩
   rw[if_neg (by omega)]
   exact hic j (by omega)
  ·have htn':=gG hta
   have e1:(K.row g off m cells.size (fun j=>cells[j]?)).tk t=K.tk t:=le.tk t (by rw[s.tn];exact htn')
   rw[e1]
   obtain⟨h1,h2,h3,cells',e',fz',h4,h5,h6⟩:=s.tok t hta
   refine⟨h1,h2,fun j hj=>?_,cells',e',fz',hother _ _ htg h4,h5,fun j hj hl=>?_⟩
   ·simp only[aB.row]
    rw[if_neg (fun hh=>htg hh.1)]
    exact h3 j hj
   ·rw[<-h6 j hj hl,ie h4,ie (hother _ _ htg h4)]
 ·rcases hal t ht with rfl|⟨hta,htg⟩<;>rcases hal t' ht' with rfl|⟨hta',htg'⟩
  ·rfl
  ·exfalso
   have e1:(K.row g off m cells.size (fun j=>cells[j]?)).tk t'=K.tk t':=le.tk t' (by rw[s.tn];exact gG hta')
   rw[e1] at heq
   simp[aB.row,s.tn] at heq
   exact htg' heq.symm
  ·exfalso
   have e1:(K.row g off m cells.size (fun j=>cells[j]?)).tk t=K.tk t:=le.tk t (by rw[s.tn];exact gG hta)
   rw[e1] at heq
   simp[aB.row,s.tn] at heq
   exact htg heq
  ·have e1:(K.row g off m cells.size (fun j=>cells[j]?)).tk t=K.tk t:=le.tk t (by rw[s.tn];exact gG hta)
   have e2:(K.row g off m cells.size (fun j=>cells[j]?)).tk t'=K.tk t':=le.tk t' (by rw[s.tn];exact gG hta')
   rw[e1,e2] at heq
   exact s.oq t t' hta hta' heq
 ·obtain⟨h1,h2⟩:=s.md r hr
  have hgg:r≠g:=by
   rintro rfl
   obtain⟨_,_,_,h⟩:=hwas _ h2
   cases h
  exact⟨h1,hother r _ hgg h2⟩
def aB.tight(K:aB)(g:Nat)(cells:Array Value):aB:={K with ic:=fun g' j=>if g'=g then cells[j]? else K.ic g' j}
theorem Sim.HR(s:Sim K G ok w0 h w)(cells:Array Value)(e:TypeId):
 K.Le (K.tight w.heap.size cells)/\Sim (K.tight w.heap.size cells) G ok w0 h {w with heap:=w.heap.push (.cells cells e)}:=by
 have hicn:∀j,K.ic w.heap.size j=none:=fun j=>by
  cases hc:K.ic w.heap.size j with
  |none=>rfl
  |some c=>have:=s.fY hc;omega
 have le:K.Le (K.tight w.heap.size cells):=by
  refine⟨rfl,fun g j c hc=>?_,fun _ _ h=>h,fun _ _ h=>h,Nat.le_refl _,fun _ _=>rfl,fun _ h=>h,fun _ _=>rfl,fun g j c hc=>by
   simp only[aB.tight] at hc
   split at hc
   ·rename_i q;rw[q];exact .inr s.size
   ·exact .inl hc⟩
  simp only[aB.tight]
  rw[if_neg]
  ·exact hc
  ·rintro rfl
   rw[hicn] at hc;cases hc
 have p:=s.push (.cells cells e)
 refine⟨le,p.old,p.size,fun g j x hx=>?_,fun g cs hg=>?_,p.js,p.βnd,fun b g cs hb hc=>?_,p.mA,p.γnd,fun l g r hl hr=>?_,p.tn,fun t ht=>?_,p.oq,p.md,s.all⟩
 ·simp only[aB.tight] at hx
  split at hx
  ·subst_vars
   rw[fO (cells:=cells) (e:=e) (fz:=(0,0)) (by simp)];exact hx
  ·exact p.ic g j x hx
 ·obtain⟨cells',h1,h2⟩:=s.dW g cs hg
  exact⟨cells',h1.mono le,fun j c hj=>le.ic _ _ _ (h2 j c hj)⟩
 ·obtain⟨h1,h2,ha,cells',e',h3,h4⟩:=p.box b g cs hb hc
  refine⟨h1,fun j=>?_,ha,cells',e',h3,h4.mono le (List.getElem?_eq_some_iff.1 hb).1⟩
  simp only[aB.tight]
  obtain⟨_,_,_,_,_,h3',_⟩:=s.box b g cs hb hc
  rw[if_neg (by have:=cV h3';omega)]
  exact h2 j
 ·obtain⟨h1,fn,tmps,d,h2,h3,h4⟩:=p.loop l g r hl hr
  exact⟨h1,fn,tmps,d,h2,h3.mono le,h4⟩
 ·obtain⟨h1,h2,h3,cells',e',fz,h4,h5⟩:=p.tok t ht
  obtain⟨_,_,_,_,_,_,h4',_⟩:=s.tok t ht
  refine⟨h1,h2,fun j hj=>?_,cells',e',fz,h4,h5⟩
  simp only[aB.tight]
  have:=cV h4'
  have e1:(K.tight w.heap.size cells).tk t=K.tk t:=rfl
  rw[if_neg (by show(K.tk t).1≠_;omega)]
  exact h3 j hj
end
section
variable {P:Program}
theorem aH{t:TypeId}{d:TypeDesc}(h:P.underlying t=some d)(w:World):(underlying t).run P w= .ok d w:=run_underlying h w
theorem eM{t:TypeId}{i:TypeInfo}(h:P.info? t=some i)(w:World):(typeInfo t).run P w= .ok i w:=by simp[typeInfo,h]
theorem Ci{t:TypeId}{n:Nat}(h:bF P t=some n):∃i,P.info? t=some i/\i.size=n:=by
 simpa [bF] using h
theorem dw{t:TypeId}{n:Nat}(h:bF P t=some n)(w:World):(sizeOf t).run P w= .ok n w:=by
 obtain⟨i,h1,h2⟩:=Ci h
 simp[sizeOf,eM h1,h2]
theorem o6{t:TypeId}{b:Bool}(h:cZ P t=some b)(w:World):(isAgg t).run P w= .ok b w:=by
 unfold cZ at h
 unfold isAgg
 cases hu:P.underlying t with
 |none=>rw[hu] at h;cases h
 |some d=>
  rw[hu] at h
  rw[Sem.run_bind,aH hu]
  cases d<;>(injection h with h;subst h;rfl)
theorem ux{t:TypeId}{z:AV}(h:ej P t=some z)(w:World):∃v,(zeroValue t).run P w= .ok v w/\z=lX v:=by
 unfold ej at h
 split at h
 ·rename_i i hi
  simp only[Option.map_eq_some_iff] at h
  obtain⟨v,hv,rfl⟩:=h
  exact⟨v,by simp[zeroValue,eM hi,hv],rfl⟩
 ·cases h
theorem ot{α:Type}{es:List (List α)}{sz:Nat}(hr:∀r∈es,r.length=sz):∀{i:Nat} {row:List α},es[i]?=some row->(es.flatten.drop (i * sz)).take sz=row:=by
 induction es with
 |nil=>intro i row h;simp at h
 |cons r es ih=>
  have hl:r.length=sz:=hr r (by simp)
  intro i row h
  cases i with
  |zero=>simp at h;subst h;simp[<-hl]
  |succ i=>
   have:=ih (fun r hr'=>hr r (by simp[hr'])) (i:=i) (row:=row) (by simpa using h)
   rw[<-this]
   simp only[List.flatten_cons]
   rw[List.drop_append,show(i+1) * sz=r.length+i * sz by rw[hl,Nat.add_mul];omega]
   rw[List.drop_of_length_le (by omega)]
   simp
theorem ni{α:Type}{es:List (List α)}{sz:Nat}(hr:∀r∈es,r.length=sz):∀n:Nat,(es.take n).flatten=es.flatten.take (n * sz):=by
 induction es with
 |nil=>intro n;simp
 |cons r es ih=>
  have hl:r.length=sz:=hr r (by simp)
  intro n
  cases n with
  |zero=>simp
  |succ n=>
   rw[List.take_succ_cons,List.flatten_cons,List.flatten_cons,ih (fun r hm=>hr r (by simp[hm])) n,show(n+1) * sz=r.length+n * sz by rw[hl,Nat.add_mul];omega]
   rw[List.take_append,List.take_of_length_le (show r.length<=r.length+n * sz by omega),show r.length+n * sz - r.length=n * sz by omega]
theorem qM{α:Type}{es:List (List α)}{sz:Nat}(hr:∀r∈es,r.length=sz):∀n:Nat,(es.drop n).flatten=es.flatten.drop (n * sz):=by
 induction es with
 |nil=>intro n;simp
 |cons r es ih=>
  have hl:r.length=sz:=hr r (by simp)
  intro n
  cases n with
  |zero=>simp
  |succ n=>
   rw[List.drop_succ_cons,List.flatten_cons,ih (fun r hm=>hr r (by simp[hm])) n,show(n+1) * sz=r.length+n * sz by rw[hl,Nat.add_mul];omega]
   rw[List.drop_append,List.drop_of_length_le (show r.length<=r.length+n * sz by omega),show r.length+n * sz - r.length=n * sz by omega]
   simp
theorem a8{α:Type}{es:List (List α)}{sz:Nat}(hr:∀r∈es,r.length=sz):es.flatten.length=es.length * sz:=by
 induction es with
 |nil=>simp
 |cons r es ih=>
  rw[List.flatten_cons,List.length_append,ih (fun r hr'=>hr r (by simp[hr'])),hr r (by simp),List.length_cons,Nat.add_mul];omega
end
section
variable {P:Program} {K:aB} {G:Nat->Option (List AV)} {ok:FuncId->Nat->Code->Bool} {w0 w:World} {h:ae}
theorem Qf{b:Nat}{g:Nat}(s:Sim K G ok w0 h w)(hb:K.β[b]?=some g):∃cs,h.boxes[b]?=some cs:=by
 have hbl:b<h.boxes.length:=by rw[<-s.js];exact(List.getElem?_eq_some_iff.1 hb).1
 exact⟨_,List.getElem?_eq_getElem hbl⟩
theorem sZ(s:Sim K G ok w0 h w){a:AV}{cs:List AV}(hc:nb G h a=some cs){ca:Value}(hv:aI K a ca):
 ∃g p dF,ca= .pointer (some ⟨g,p,none⟩)/\ao K cs dF/\∀(j:Nat) (c:Value),dF[j]?=some c->w.cell? ⟨g,p+j,none⟩=some c:=by
 unfold nb at hc
 split at hc
 ·rename_i r off
  simp only[Option.map_eq_some_iff] at hc
  obtain⟨cs0,h0,rfl⟩:=hc
  cases hv with
  |box b g _ hb=>
   obtain⟨_,_,_,cells,e,h3,h4⟩:=s.box b g cs0 hb h0
   refine⟨g,off,(cells.toList.take cs0.length).drop off,rfl,h4.1.drop off,fun j c hj=>?_⟩
   rw[fO h3]
   simp only[List.getElem?_drop,List.getElem?_take] at hj
   split at hj
   ·simpa using hj
   ·cases hj
  |dW g _=>
   obtain⟨cells,h1,h2⟩:=s.dW g cs0 h0
   refine⟨g,off,cells.drop off,rfl,h1.drop off,fun j c hj=>?_⟩
   exact s.ic _ _ _ (h2 (off+j) c (by simpa using hj))
 ·rename_i sz es i off
  simp only[Option.map_eq_some_iff] at hc
  obtain⟨row,h0,rfl⟩:=hc
  cases hv with
  |elem _ _ _ _ g o p cells hr hvs hic hi hp ha=>
   refine⟨g,p,((cells.drop (i * sz)).take sz).drop off,rfl,?_,fun j c hj=>?_⟩
   ·have:=((hvs.drop (i * sz)).take sz).drop off
    rwa [ot hr h0] at this
   ·refine s.ic _ _ _ ?_
    have h1:cells[i * sz+off+j]?=some c:=by
     simp only[List.getElem?_drop,List.getElem?_take] at hj
     split at hj
     ·rw[<-hj];congr 1;omega
     ·cases hj
    have:=hic _ _ h1
    rw[hp]
    rw[<-this];congr 1;omega
 ·cases hc
theorem zQ(s:Sim K G ok w0 h w){t:TypeId}{a x:AV}(he:ai P G h t a=some x){ca:Value}(hv:aI K a ca):
 ∃g p v,ca= .pointer (some ⟨g,p,none⟩)/\(loadVar t ⟨g,p,none⟩).run P w= .ok v w/\aI K x v:=by
 unfold ai at he
 split at he
 ·rename_i cs hag hcs
  obtain⟨g,p,dF,rfl,hvs,hcell⟩:=sZ s hcs hv
  split at he
  ·rename_i n hn
   split at he
   ·rename_i hle
    injection he with he;subst he
    have hl:=run_loadCells_list (P:=P) w ⟨g,p,none⟩ (dF.take n) (fun j v hj=>by
     rw[Addr.dh]
     refine hcell j v ?_
     simp only[List.getElem?_take] at hj
     split at hj
     ·exact hj
     ·cases hj)
    have hlen:(dF.take n).length=n:=by rw[List.length_take,<-hvs.length];omega
    rw[hlen] at hl
    exact⟨g,p,.agg (dF.take n).toArray,rfl,by simp[loadVar,o6 hag,dw hn,hl],.agg _ _ (by simpa using hvs.take n)⟩
   ·cases he
  ·cases he
 ·rename_i cs hag hcs
  obtain⟨g,p,dF,rfl,hvs,hcell⟩:=sZ s hcs hv
  cases cs with
  |nil=>simp at he
  |cons y cs=>
   simp at he;subst he
   cases hvs with
   |cons _ c _ cs' hx hs=>
    have:=hcell 0 c rfl
    simp only[Nat.add_zero] at this
    exact⟨g,p,c,rfl,by simp[loadVar,o6 hag,this],hx⟩
 ·cases he
theorem fZ{g:Nat}(off:Nat)(e:TypeId)(fz:Nat × Nat):∀(vs:List Value) (i:Nat) (cells:Array Value) (w:World),
 w.heap[g]?=some (.cells cells e fz)->off+i+vs.length<=cells.size->(∀v∈vs,wR v=true)->(∀j,off+i<=j->j<off+i+vs.length->frz fz j=false)->
 ∃w' cells',(storeCells ⟨g,off,none⟩ vs i).run P w= .ok () w'/\Chg w w' g (.cells cells' e fz)/\
  cells'.toList=cells.toList.take (off+i)++vs++cells.toList.drop (off+i+vs.length):=by
 intro vs
 induction vs with
 |nil=>
  intro i cells w hg hl h1 hf
  exact⟨w,cells,rfl,⟨rfl,rfl,rfl,rfl,fun _ _=>rfl,hg⟩,by simp⟩
 |cons v rest ih=>
  intro i cells w hg hl h1 hf
  simp only[List.length_cons] at hl hf
  have hi:off+i<cells.size:=by omega
  have hv:v.oneCell'=true:=by have:=h1 v (by simp);cases v<;>first|rfl|simp[wR] at this
  have hst:(store ((⟨g,off,none⟩:Addr).add i) v).run P w= .ok () (w.setCell ⟨g,off+i,none⟩ v):=by
   rw[Addr.dh,run_store P w _ v _ hv,fO hg,ie hg,hf (off+i) (by omega) (by omega),Array.getElem?_eq_getElem hi]
   simp
  have hthis:(w.setCell ⟨g,off+i,none⟩ v).heap[g]?=some (.cells (cells.setIfInBounds (off+i) v) e fz):=by
   simp[World.setCell,Array.getElem?_modify,hg]
  obtain⟨w',cells',hr,hc,hcells⟩:=ih (i+1) _ _ hthis (by simp;omega) (fun x hx=>h1 x (by simp[hx])) (fun j hj hj'=>hf j (by omega) (by omega))
  refine⟨w',cells',by simp only[storeCells,Sem.run_bind,hst,Result.andThen_ok,hr],⟨hc.os,hc.tape,hc.output,by rw[hc.size];simp[World.setCell],fun k hk=>?_,hc.this⟩,?_⟩
  ·rw[hc.other k hk]
   simp only[World.setCell,Array.getElem?_modify]
   rw[if_neg (by exact fun e=>hk e.symm)]
  ·rw[hcells]
   simp only[Array.toList_setIfInBounds,List.length_cons]
   have hlen:off+i<cells.toList.length:=by simpa using hi
   rw[List.set_eq_take_append_cons_drop,if_pos hlen]
   rw[show off+(i+1)=off+i+1 by omega,show off+i+(rest.length+1)=off+i+1+rest.length by omega]
   rw[List.take_append,List.drop_append]
   have h1:(cells.toList.take (off+i)).length=off+i:=by simp;omega
   rw[h1]
   have h2:(cells.toList.take (off+i)).take (off+i+1)=cells.toList.take (off+i):=List.take_of_length_le (by omega)
   have h3:(cells.toList.take (off+i)).drop (off+i+1+rest.length)=[]:=List.drop_of_length_le (by omega)
   rw[h2,h3]
   have h4:off+i+1 - (off+i)=1:=by omega
   have h5:off+i+1+rest.length - (off+i)=rest.length+1:=by omega
   rw[h4,h5]
   simp
theorem ym{g off off' cap:Nat}{e:TypeId}(hoo:off'=off∨cap=0){vs:List Value}{cells:Array Value}{w:World}(hz:cap=0->vs=[])(hg:w.heap[g]?=some (.cells cells e (0,0)))(hl:off+vs.length<=cells.size)(h1:∀v∈vs,wR v=true):
 ∃w' cells',(storeCells ⟨g,off',none⟩ vs 0).run P w= .ok () w'/\Chg w w' g (.cells cells' e (0,0))/\cells'.toList=cells.toList.take (off+0)++vs++cells.toList.drop (off+0+vs.length):=by
 rcases hoo with rfl|h0
 ·exact fZ _ e (0,0) vs 0 cells w hg (by omega) h1 (fun j _ _=>by simp[frz])
 ·have:=hz h0
  subst this
  exact⟨w,cells,rfl,⟨rfl,rfl,rfl,rfl,fun _ _=>rfl,hg⟩,by simp⟩
theorem uy{old cs:List AV}{vo vc:List Value}(off:Nat)(h1:ao K old vo)(h2:ao K cs vc):ao K (bI old off cs) (vo.take off++vc++vo.drop (off+vc.length)):=by
 unfold bI
 rw[h2.length]
 exact((h1.take off).append h2).append (h1.drop _)
theorem s7{old cs:List AV}(off:Nat)(h1:old.all AV.bu=true)(h2:cs.all AV.bu=true):(bI old off cs).all AV.bu=true:=by
 rw[List.all_eq_true] at h1 h2 ⊢
 intro x hx
 simp only[bI,List.mem_append] at hx
 rcases hx with(hx|hx) |hx
 ·exact h1 x (List.mem_of_mem_take hx)
 ·exact h2 x hx
 ·exact h1 x (List.mem_of_mem_drop hx)
theorem qk{α:Type}{vo vc:List α}{off:Nat}(h:off+vc.length<=vo.length):(vo.take off++vc++vo.drop (off+vc.length)).length=vo.length:=by
 simp only[List.length_append,List.length_take,List.length_drop];omega
theorem zR{α:Type}{vo vc:List α}{off n:Nat}(h:off+vc.length<=n)(hn:n<=vo.length):(vo.take off++vc++vo.drop (off+vc.length)).take n=(vo.take n).take off++vc++(vo.take n).drop (off+vc.length):=by
 have e1:(vo.take n).take off=vo.take off:=by rw[List.take_take,Nat.min_eq_left (by omega)]
 have e2:(vo.take n).drop (off+vc.length)=(vo.drop (off+vc.length)).take (n - (off+vc.length)):=by rw[List.drop_take]
 rw[e1,e2,List.take_append]
 have h1:(vo.take off++vc).length=off+vc.length:=by simp;omega
 rw[List.take_of_length_le (by omega),h1]
theorem Chg.same{w w':World}{g:Nat}{o:Obj}(c:Chg w w' g o)(h:w.heap[g]?=some o):w'.heap=w.heap:=by
 apply Array.ext_getElem?
 intro k
 by_cases hk:k=g
 ·subst hk;rw[c.this,h]
 ·exact c.other k hk
theorem Sim.uz{w':World}(s:Sim K G ok w0 h w){b g off:Nat}{cs old:List AV}{vs:List Value}{cells cells':Array Value}{e:TypeId}(hb:K.β[b]?=some g)(hold:h.boxes[b]?=some old)(hfit:off+cs.length<=old.length)
 (hthis:w.heap[g]?=some (.cells cells e (0,0))) (c:Chg w w' g (.cells cells' e (0,0))) (hcells:cells'.toList=cells.toList.take (off+0)++vs++cells.toList.drop (off+0+vs.length)) (hv:ao K cs vs) (hac:cs.all AV.bu=true):
 Sim K G ok w0 {h with boxes:=h.boxes.set b (bI old off cs)} w':=by
 obtain⟨k1,k2,ka,cells0,e0,k3,k4⟩:=s.box b g old hb hold
 rw[hthis] at k3
 injection k3 with k3
 injection k3 with k3 k3'
 subst k3
 simp only[Nat.add_zero] at hcells
 have hle:old.length<=cells.toList.length:=by
  have:=k4.le
  simpa using this
 by_cases hne:old=[]
 ·subst hne
  have hc:cs=[]:=by cases cs with|nil=>rfl|cons _ _=>simp at hfit
  subst hc
  have hvs:vs=[]:=by cases hv;rfl
  subst hvs
  have hw:cells'=cells:=by
   apply Array.toList_inj.1
   rw[hcells];simp
  subst hw
  have hh:=c.same hthis
  have hset:h.boxes.set b (bI [] off [])=h.boxes:=by
   rw[show bI ([]:List AV) off []=[] by simp[bI]]
   apply List.ext_getElem?
   intro k
   rw[List.getElem?_set]
   split
   ·rename_i e;subst e
    rw[if_pos (List.getElem?_eq_some_iff.1 hold).1,hold]
   ·rfl
  rw[hset]
  exact s.same hh c.tape c.os c.output
 ·have hl:(bI old off cs).length=old.length:=by unfold bI;exact qk hfit
  refine s.Lr hb hold hne hl (fun c0 e0 q=>?_) c ?_ (s7 off ka hac)
  ·rw[hthis] at q
   injection q with q
   injection q with q
   subst q
   have:cells'.toList.length=cells.toList.length:=by
    rw[hcells];exact qk (by rw[<-hv.length];omega)
   simp only[Array.length_toList] at this
   omega
  ·rw[hl,hcells,zR (by rw[<-hv.length];exact hfit) hle]
   exact uy off k4.1 hv
theorem qN{cs:List AV}{vs:List Value}(h:ao K cs vs)(ha:cs.all AV.bu=true):∀v∈vs,wR v=true:=by
 intro v hv
 obtain⟨i,hi⟩:=List.getElem?_of_mem hv
 obtain⟨x,hx,hr⟩:=h.get' hi
 exact Ce (List.all_eq_true.1 ha x (List.mem_of_getElem? hx)) hr
theorem D6(j:Nat):frz (0,0) j=false:=by simp[frz]
theorem Fb(s:Sim K G ok w0 h w){t:TypeId}{a x:AV}{h':ae}(he:aA P h t a x=some h'){ca cx:Value}(hv:aI K a ca)(hx:aI K x cx):
 ∃w',(Instr.storeAt t ca cx).run P w= .ok () w'/\Sim K G ok w0 h' w':=by
 unfold aA at he
 split at he
 ·rename_i b off cs n hcs hn
  split at he
  ·rename_i old hold
   split at he
   ·rename_i hlen
    injection he with he;subst he
    cases hv with
    |box _ g _ hb=>
     obtain⟨k1,k2,ka,cells,e,k3,k4⟩:=s.box b g old hb hold
     obtain⟨r1,r2⟩:=nh hcs hx
     have hsz:cx.cells.size=n:=by rw[<-hlen.1,r1.length];simp
     have hsz2:old.length<=cells.size:=k4.le
     obtain⟨w',cells',q1,q2,q3⟩:=fZ (P:=P) off e (0,0) cx.cells.toList 0 cells w k3 (by simp;omega) (qN r1 r2) (fun j _ _=>D6 j)
     refine⟨w',by simp[Instr.storeAt,Instr.sureAddr,storeVar,dw hn,hsz,q1],s.uz hb hold (by omega) k3 q2 q3 r1 r2⟩
   ·cases he
  ·cases he
 ·cases he
end
end Go.AE
end
