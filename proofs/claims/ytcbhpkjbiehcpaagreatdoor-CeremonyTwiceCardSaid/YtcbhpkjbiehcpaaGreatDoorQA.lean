/-
  The engine, part 1: an evaluator of the model's Code over values in which a slice is a list. No claim is made here; part 2 and on show that what it gives the machine does.
-/
import Derived.AtR
import Derived.Recover
import Derived.Below
import Derived.Orders
import Derived.Laws.AppendOwn
import Derived.Laws.Cells
import Derived.Laws.Entries
import Derived.Laws.MakeOwn
import Derived.Laws.Strings
import Derived.Laws.Append
import Derived.Lib.AppendZeros
import Derived.Defers
import Derived.RangeFuncRecord
open Bool renaming true->V,false->ah,false_eq_true->jB,and_eq_true->bm,not_eq_true'->Cu,not_false->zY,or_eq_true->og,not_true->aao,false_or->FE
open Go renaming Value->aG,TypeId->aF,Program->bk,FuncId->aR,Operand->bR,World->bP,Frame->eF
open Option renaming some->J,none->ag,map_eq_some_iff->dg,bind_eq_some_iff->wD,isSome_iff_exists->abw,map->Ai,isNone_some->FW,map_some->fF,some.injEq->dt,getD_some->Ah
open Nat renaming beq->hy,min->nM,le_refl->aV,le_trans->e8,lt_of_lt_of_le->my,add_mul->js,add_zero->xU,mul_le_mul_right->mz,zero_add->oj,mul_eq_zero->abm,zero_mul->Kt,not_lt_zero->nt,reducePow->abs,zero_le->bY,sub_mul->Ks,mul_pos->Ko,pos_of_ne_zero->abp,lt_or_ge->dp,one_ne_zero->QV,mul_one->jS,eq_of_beq_eq_true->lN,lt_succ_iff->Af,lt_trans->oi,le_of_lt->mR,lt_of_le_of_ne->abj,le_zero->abi,mod_lt->kC,strongRecOn->Kr
open List renaming length->F,replicate->bB,range->bZ,getElem?_eq_some_iff->aT,getElem?_eq_getElem->aP,getElem?_take->mM,getElem?_set->lM,take_of_length_le->ga,getElem?_append_left->qH,flatten_cons->jP,drop_append->xP,drop_of_length_le->nq,length_take->cR,length_cons->ef,set_eq_take_append_cons_drop->xT,take_append->Kg,all_eq_true->eJ,ext_getElem?->oh,mem_of_getElem?->cT,map_cons->eI,cons.injEq->QF,map_map->Ad,getElem?_toArray->iQ,flatten_append->oC,map_append->jQ,flatten_nil->aaQ,append_nil->gj,mem_of_mem_take->xS,take_nil->abb,drop_nil->aaO,mem_map->jg,length_map->br,cons_append->ey,nil_append->dO,range_succ->ku,length_drop->eC,mem_range->ie,getElem?_cons_zero->iP,getElem?_cons_succ->jE,size_toArray->Kf,take_append_of_le_length->QP,mem_cons_of_mem->gx,length_append->ck,append_assoc->iO,getElem?_append_right->wB,toArray_inj->Ki,map_congr_left->CG,mem_append_left->Kd,mem_filterMap->aa1,range_zero->aa3,countP_eq_zero->aaK,reverse_nil->aa5,mem_filter->uU,reverse_singleton->aa6,singleton_append->aba,countP_le_length->aaL,mem_cons_self->gH,mem_cons->gU
open Array renaming getElem?_eq_getElem->jO,getElem?_modify->Cr,toList_setIfInBounds->aah,toList_map->Ct,getElem?_toList->FD,all_eq_true'->Fz,range->wm,getElem?_eq_some_iff->JK,replicate->xL,size_append->Cs,toList_append->wp,ext'->JJ,length_toList->ip,getElem?_setIfInBounds->Qe,map->JL,all_eq_true->zX,getElem_of_mem->Qf,getElem_mem->aad,getD_eq_getD_getElem?->FA,getElem?_replicate->Qd
open Prod renaming mk.inj->eD,mk.injEq->cL
set_option linter.unusedSimpArgs false
set_option linter.unusedVariables false
set_option linter.constructorNameAsVariable false
set_option linter.defProp false
namespace Go
def M{p:Prop}(h:p:=by omega):p:=h
def b8{p:Prop}(h:p:=by simp):p:=h
def aY{p:Prop}(h:p:=by decide):p:=h
def avV{p:Prop}(h:p:=by simp;omega):p:=h
def O.{u}{α:Sort u}{a:α}:a=a:=rfl
def avW{p:Prop}(h:p:=by first|exact trivial|exact rfl):p:=h
def bD{p:Prop}(h:p:=by kernel_rfl):p:=h
def aL.{u}{c:Prop}{h:Decidable c}(q:¬c){α:Sort u}{t e:α}:ite c t e=e:=if_neg q
def av.{u}{c:Prop}{h:Decidable c}(q:c){α:Sort u}{t e:α}:ite c t e=t:=if_pos q
def bQ{p:Prop}[Decidable p](q:p):decide p=V:=decide_eq_true q
def b7{p:Prop}[Decidable p](q:¬p):decide p=ah:=decide_eq_false q
end Go
section
namespace Go.AE
inductive Tok where
 |nil|tight|free (n:Nat)|held
 deriving DecidableEq,Inhabited
inductive Ref where
 |box (b:Nat)|dA (g:Nat)
 deriving DecidableEq,Inhabited
inductive U where
 |bad
 |v (x:aG)
 |list (k:Tok) (sz:Nat) (es:List (List U))
 |arr (b off len aS:Nat)
 |agg (cs:List U)
 |tuple (vs:List U)
 |ptr (r:Ref) (off:Nat)
 |elem (sz:Nat) (es:List (List U)) (i off:Nat)
 |func (fn:Fn) (first aS:List U)
 |yield (l:Nat)
 |iface (t:aF) (x:U)
 deriving Inhabited
def cV{α:Type}(P:bk):Sem α->Option α
 | .pure a=>J a
 | .program k=>cV P (k P)
 | .mark _ k=>cV P k
 |_=>ag
def scalar:aG->Bool
 | .bool _| .int .. | .float .. | .complex .. | .string _| .nilFunc| .nilIface| .pointer ag| .map ag| .chan ag=>V
 |_=>ah
def jf(z:aG):Option U:=if scalar z then J (.v z) else ag
def U.cW:U->Bool
 | .agg _| .tuple _| .bad=>ah
 |_=>V
def U.bF:U->Option (List U)
 | .agg cs=>if cs.all U.cW then J cs else ag
 | .tuple _| .bad=>ag
 |x=>J [x]
def r8(x:aG):U:=
 match x with
 | .slice ag 0 0=>.list .nil 0 []
 |x=>if scalar x then .v x else .bad
def oP:aG->U
 | .agg cs=>.agg (cs.toList.map r8)
 | .tuple c=>if c.size=0 then .tuple [] else .bad
 | .iface d x=>.iface d (r8 x)
 |x=>r8 x
def tN:List U->Option (List aG)
 | []=>J []
 | .v d::c=>(tN c).map (d::·)
 |_=>ag
def U.flat:U->Option aG
 | .v f=>J f
 | .agg cs=>(tN cs).map λc=>.agg c.toArray
 | .iface d (.v f)=>J (.iface d f)
 | .iface d (.agg cs)=>(tN cs).map λc=>.iface d (.agg c.toArray)
 | .list .nil _ []=>J (.slice ag 0 0)
 |_=>ag
def flatAll:List U->Option (List aG)
 | []=>J []
 |x::d=>match x.flat,flatAll d with|some f,J c=>J (f::c)|_,_=>ag
def gF:aG->aG->Bool
 | .int k f,.int c d=>decide (k=c)&&decide (f=d)
 | .bool a,.bool b=>a==b
 | .string g,.string l=>g.data.toList==l.data.toList
 | .nilFunc,.nilFunc| .nilIface,.nilIface| .pointer ag,.pointer ag=>V
 |_,_=>ah
def Jh:Ref->Ref->Bool
 | .box a,.box b| .dA a,.dA b=>hy a b
 |_,_=>ah
def ry:Tok->Tok->Bool
 | .nil,.nil| .tight,.tight| .held,.held=>V
 | .free a,.free b=>hy a b
 |_,_=>ah
mutual
def cE:U->U->Bool
 | .v y,.v z=>gF y z
 | .list k p m,.list t f c=>ry k t&&hy p f&&mI m c
 | .arr b o u A,.arr g d n r=>hy b g&&hy o d&&hy u n&&hy A r
 | .agg cs,.agg l=>fV cs l
 | .tuple cs,.tuple l=>fV cs l
 | .ptr E o,.ptr v d=>Jh E v&&hy o d
 | .elem p m i o,.elem f c s d=>hy p f&&hy i s&&hy o d&&mI m c
 | .yield u,.yield n=>hy u n
 | .iface H y,.iface x z=>hy H x&&cE y z
 | .func (.func C) a b,.func (.func D) q g=>hy C D&&fV a q&&fV b g
 |_,_=>ah
def fV:List U->List U->Bool
 | [],[]=>V
 |x::c,f::d=>cE x f&&fV c d
 |_,_=>ah
def mI:List (List U)->List (List U)->Bool
 | [],[]=>V
 |x::c,f::d=>fV x f&&mI c d
 |_,_=>ah
end
structure nO where
 ch:List (Nat × U)
 base:List U
 deriving Inhabited
def look(c:List U):List (Nat × U)->Nat->U
 | [],d=>c.getD d (.tuple [])
 |p::f,d=>bif hy p.1 d then p.2 else look c f d
def nO.get(s:nO)(t:Nat):U:=look s.base s.ch t
def nO.set(s:nO)(t:Nat)(x:U):nO:={s with ch:=(t,x)::s.ch}
structure gV where
 tmps:nO
 params:Array Tmp
 assign:Code
 body:Code
 state:LoopState
 pending:Option Code
 deriving Inhabited
structure Heap where
 boxes:List (List U)
 loops:List gV
 tn:Nat
 dead:List Nat
 deriving Inhabited
structure Env where
 tmps:nO
 defers:List (aR × List U)
 cD:Option (U × Bool)
 round:Option Nat
 deriving Inhabited
inductive Xt where
 |normal
 |exit (id:Nat)
 |ret
 |panic (x:U)
 deriving Inhabited
inductive dR where
 |ret (x:U)
 |panic (x:U)
 deriving Inhabited
def Env.get(e:Env)(t:Nat):U:=e.tmps.get t
def Env.put(e:Env)(c:Option Tmp)(x:U):Env:=
 match c with
 |some d=>{e with tmps:=e.tmps.set d x}
 |none=>e
def agw(tmps:nO):bR->U
 | .tmp f=>tmps.get f
 | .const g=>oP g
 | .global d=>.ptr (.dA d) 0
 | .func c=>.func (.func c) [] []
def Env.eval(e:Env)(x:bR):U:=agw e.tmps x
section
variable (P:bk)
def cC(t:aF):Option Nat:=(P.info? t).map (·.size)
def fH(t:aF):Option Bool:=
 match P.underlying t with
 |some (.struct _)|some (.array _ _)=>J V
 |some _=>J ah
 |none=>ag
def fW(t:aF):Option U:=
 match P.info? t with
 |some i=>i.zero.map oP
 |none=>ag
def EI(t:aF)(cs:List U)(off:Nat):Option U:=
 match fH P t with
 |some V=>(cC P t).map λc=>.agg ((cs.drop off).take c)
 |some ah=>cs[off]?
 |none=>ag
end
def Heap.box(h:Heap)(cs:List U):U × Heap:=(.ptr (.box (F h.boxes)) 0,{h with boxes:=h.boxes++[cs]})
def Heap.fresh(h:Heap)(sz:Nat)(es:List (List U)):U × Heap:=(.list (.free h.tn) sz es,{h with tn:=h.tn+1})
def OT(G:Nat->Option (List U))(h:Heap):Ref->Option (List U)
 | .box b=>h.boxes[b]?
 | .dA c=>G c
def yj(G:Nat->Option (List U))(h:Heap):U->Option (List U)
 | .ptr f c=>(OT G h f).map (·.drop c)
 | .elem _ d i c=>(d[i]?).map (·.drop c)
 |_=>ag
def aD(P:bk)(G:Nat->Option (List U))(h:Heap)(t:aF)(a:U):Option U:=
 match fH P t,yj G h a with
 |some V,J cs=>
  match cC P t with
  |some c=>if c<=F cs then J (.agg (cs.take c)) else ag
  |none=>ag
 |some ah,J cs=>cs.head?
 |_,_=>ag
def dC(c:List U)(off:Nat)(cs:List U):List U:=c.take off++cs++c.drop (off+F cs)
def bV(P:bk)(h:Heap)(t:aF)(a x:U):Option Heap:=
 match a,x.bF,cC P t with
 | .ptr (.box b) c,J cs,J f=>
  match h.boxes[b]? with
  |some d=>if F cs=f/\c+f<=F d then J {h with boxes:=h.boxes.set b (dC d c cs)} else ag
  |none=>ag
 |_,_,_=>ag
def qS(c:Nat->Option (Nat × Nat))(cells:List U):List (Nat × U)->Option (List U)
 | []=>J cells
 |(i,g)::rest=>
  match c i,g.bF with
  |some (f,d),J cs=>if F cs=d/\f+d<=F cells then qS c (dC cells f cs) rest else ag
  |_,_=>ag
def w7(sz:Nat)(rows:List (List U)):List (Nat × U)->Option (List (List U))
 | []=>J rows
 |(i,c)::rest=>
  match c.bF with
  |some cs=>if F cs=sz/\i<F rows then w7 sz (rows.set i cs) rest else ag
  |none=>ag
def placesOf(P:bk)(fields:Array Field)(i:Nat):Option (Nat × Nat):=
 match fields[i]? with
 |some c=>(cC P c.type).map λd=>(c.offset,d)
 |none=>ag
def iI(P:bk)(t:aF)(parts:List (Nat × U)):Option U:=
 match P.underlying t,(fW P t).bind U.bF with
 |some (.struct fields),J zero=>
  if fields.all λd=>(P.info? d.type).isSome then (qS (placesOf P fields) zero parts).map .agg else ag
 |some (.array _ elem),J zero=>
  match cC P elem with
  |some c=>(qS (λi=>J (i*c,c)) zero parts).map .agg
  |none=>ag
 |_,_=>ag
def fy(P:bk)(t:aF)(len:Nat)(parts:List (Nat × U)):Option U:=
 match P.underlying t with
 |some (.slice elem)=>
  match cC P elem,(fW P elem).bind U.bF with
  |some c,J zero=>
   if 0<c/\F zero=c/\len*c<=16777216 then (w7 c (bB len zero) parts).map (.list .tight c) else ag
  |_,_=>ag
 |_=>ag
def vJ(P:bk)(h:Heap)(t:aF)(l c:U):Option (U × Heap):=
 match P.underlying t,l,c with
 |some (.slice elem),.v (.int _ l),.v (.int _ c)=>
  match P.info? elem,(fW P elem).bind U.bF with
  |some i,J zero=>
   if 0<=l/\l<=c/\c<9223372036854775808/\i.bytes*c<=281474976710656/\0<i.size/\F zero=i.size then
    J (.arr (F h.boxes) 0 l.toNat c.toNat,{h with boxes:=h.boxes++[(bB c.toNat zero).flatten]})
   else ag
  |_,_=>ag
 |_,_,_=>ag
def rowsOf(h:Heap)(size:Nat):U->Option (List (List U))
 | .list _ f d=>if f=size∨d=[] then J d else ag
 | .arr b c len _=>
  match h.boxes[b]? with
  |some cs=>if c+len*size<=F cs then J ((bZ len).map λi=>(cs.drop (c+i*size)).take size) else ag
  |none=>ag
 |_=>ag
def iy(b:UInt8):List U:=[.v (.int .u8 b.toNat)]
def byteOf:List U->Option UInt8
 | [.v (.int .u8 c)]=>J (UInt8.ofNat c.toNat)
 |_=>ag
def bytesOf:List (List U)->Option (List UInt8)
 | []=>J []
 |r::rest=>match byteOf r,bytesOf rest with|some b,J c=>J (b::c)|_,_=>ag
def jL(h:Heap)(size:Nat):U->Option (List (List U))
 | .v (.string c)=>if size=1 then J (c.data.toList.map iy) else ag
 |x=>rowsOf h size x
def alive(h:Heap)(n:Nat):Bool:=decide (n<h.tn)&& !h.dead.contains n
def JH(P:bk)(h:Heap)(ts:Array aF)(elem:aF)(s x:U):Option (U × Heap):=
 match s,x with
 | .list .nil _ [],.v (.int _ c)=>
  match P.info? elem,(fW P elem).bind U.bF with
  |some i,J zero=>
   if ts.size=2/\0<c/\c*i.bytes<=140737488355328/\c<=9223372036854775807/\0<i.size/\F zero=i.size then
    J (.arr (F h.boxes) 0 c.toNat c.toNat,{h with boxes:=h.boxes++[(bB c.toNat zero).flatten]})
   else ag
  |_,_=>ag
 |_,_=>ag
def gm(P:bk)(h:Heap)(ts:Array aF)(s x:U):Option (U × Heap):=
 match (ts[0]?).bind P.underlying,(ts[1]?).bind P.underlying with
 |some (.slice elem),J (.int _)=>JH P h ts elem s x
 |some (.slice elem),J _=>
  match P.info? elem with
  |none=>ag
  |some i=>
   match jL h i.size x with
   |none=>ag
   |some new=>
    if 0<i.size/\(i.zero.map λm=>m.cells.size)=J i.size then
     match s with
     | .list k g d=>
      if g=i.size∨d=[] then
       if new=[] then J (s,h)
       else if (F d+F new)*i.bytes<=140737488355328/\F d+F new<=9223372036854775807 then
        match k with
        | .nil| .tight=>J (h.fresh i.size (d++new))
        | .free l=>if alive h l&&decide (g=i.size) then J ({h with dead:=l::h.dead}.fresh i.size (d++new)) else ag
        | .held=>ag
       else ag
      else ag
     | .arr b f len c=>
      match h.boxes[b]? with
      |some cs=>
       if len+F new<=c/\f+c*i.size<=F cs then
        J (.arr b f (len+F new) c,{h with boxes:=h.boxes.set b (dC cs (f+len*i.size) new.flatten)})
       else ag
      |none=>ag
     |_=>ag
    else ag
 |_,_=>ag
def Fp(G:Nat->Option (List U))(d:Option Tmp)(t:aF):Bool:=(G (1000000+1000*t+d.getD 0)).isSome
def ml(P:bk)(h:Heap)(ts:Array aF)(s x:U):Option (U × Heap):=
 match (ts[0]?).bind P.underlying,(ts[1]?).bind P.underlying with
 |some (.slice _),J (.int _)=>ag
 |some (.slice elem),J _=>
  match P.info? elem with
  |none=>ag
  |some i=>
   match jL h i.size x with
   |none=>ag
   |some new=>
    if 0<i.size/\(i.zero.map λl=>l.cells.size)=J i.size then
     match s with
     | .list k g c=>
      if g=i.size∨c=[] then
       if new=[] then J (s,h)
       else if (F c+F new)*i.bytes<=140737488355328/\F c+F new<=9223372036854775807 then
        match k with
        | .nil| .tight=>J (.arr (F h.boxes) 0 (F c+F new) (F c+F new),{h with boxes:=h.boxes++[(c++new).flatten]})
        |_=>ag
       else ag
      else ag
     | .arr b f len d=>
      match h.boxes[b]? with
      |some cs=>
       if len+F new<=d then gm P h ts s x
       else if f=0/\0<len/\len=d/\len*i.size=F cs/\(len+F new)*i.bytes<=140737488355328/\len+F new<=9223372036854775807 then
        J (.arr (F h.boxes) 0 (len+F new) (len+F new),{h with boxes:=h.boxes.set b []++[cs++new.flatten]})
       else ag
      |none=>ag
     |_=>ag
    else ag
 |_,_=>ag
def wO(P:bk)(h:Heap)(ts:Array aF)(d s:U):Option (U × Heap):=
 match (ts[0]?).bind P.underlying with
 |some (.slice elem)=>
  match P.info? elem,d with
  |some i,.arr b f len g=>
   match jL h i.size s,h.boxes[b]? with
   |some c,J cs=>
    if f+len*i.size<=F cs/\len<=g then
     J (.v (.int .i64 (nM (F c) len:Nat)),{h with boxes:=h.boxes.set b (dC cs f (c.take (nM (F c) len)).flatten)})
    else ag
   |_,_=>ag
  |_,_=>ag
 |_=>ag
def dB(P:bk)(t:aF)(x:U):Option U:=
 match P.underlying t,x with
 |some .string,.v (.string f)=>J (.v (.int .i64 f.size))
 |some (.array d _),_=>J (.v (.int .i64 d))
 |some (.pointer a),_=>match P.underlying a with|some (.array d _)=>J (.v (.int .i64 d))|_=>ag
 |some (.slice _),.list _ _ c=>J (.v (.int .i64 (F c)))
 |some (.slice _),.arr _ _ len _=>J (.v (.int .i64 len))
 |_,_=>ag
def Az(P:bk)(t:aF)(x:U):Option U:=
 match P.underlying t,x with
 |some (.slice _),.list .tight _ c=>J (.v (.int .i64 (F c)))
 |some (.slice _),.list .nil _ c=>J (.v (.int .i64 (F c)))
 |some (.array d _),_=>J (.v (.int .i64 d))
 |_,_=>ag
def gc(hi:Nat):Option U->Nat->Option Nat
 |none,d=>J d
 |some (.v (.int _ c)),_=>if 0<=c/\c<=hi then J c.toNat else ag
 |_,_=>ag
def p9(k:Tok)(c NZ:Bool)(n:Nat):Tok:=
 match k with
 | .nil=>.nil
 | .tight=>if c||NZ then .tight else .held
 | .free d=>if NZ then .tight else if c&&n !=0 then .free d else .held
 | .held=>if NZ then .tight else .held
def gw(P:bk)(t:aF)(x:U)(lo hi mx:Option U):Option U:=
 if mx.isSome&&hi.isNone then ag else
 match P.underlying t,x with
 |some .string,.v (.string q)=>
  if mx.isSome then ag else
  match gc q.size hi q.size with
  |some h=>match gc h lo 0 with
   |some f=>J (.v (.string (q.extract f h)))
   |none=>ag
  |none=>ag
 |some (.slice elem),.list k n g=>
  match cC P elem,gc (F g) mx (F g) with
  |some c,J l=>match gc l hi (F g) with
   |some h=>match gc h lo 0 with
    |some f=>
     if c=n∨g=[] then J (.list (p9 k (decide (h=F g)&&mx.isNone) (mx.isSome&&decide (h=l)) (h-f)) n ((g.take h).drop f)) else ag
    |none=>ag
   |none=>ag
  |_,_=>ag
 |some (.slice elem),.arr b d len m=>
  match cC P elem,gc m mx m with
  |some c,J l=>match gc l hi len with
   |some h=>match gc h lo 0 with
    |some f=>if c=0 then ag else if mx.isSome/\l=f then J (.list .tight c []) else J (.arr b (if l=f then d else d+f*c) (h-f) (l-f))
    |none=>ag
   |none=>ag
  |_,_=>ag
 |some (.array p elem),.ptr (.box b) d=>
  match cC P elem,gc p mx p with
  |some c,J l=>match gc l hi p with
   |some h=>match gc h lo 0 with
    |some f=>J (.arr b (if l=f then d else d+f*c) (h-f) (l-f))
    |none=>ag
   |none=>ag
  |_,_=>ag
 |_,_=>ag
def dU(P:bk)(s:aF)(x:U)(f:Nat):Option U:=
 match P.underlying s with
 |some (.struct fields)=>
  match fields[f]? with
  |some d=>
   match cC P d.type with
   |some 0=>ag
   |some _=>match x with
    | .ptr m c=>J (.ptr m (c+d.offset))
    | .elem l g i c=>J (.elem l g i (c+d.offset))
    |_=>ag
   |none=>ag
  |none=>ag
 |_=>ag
def dK(P:bk)(t:aF)(x ix:U):Option U:=
 match P.underlying t,x,ix with
 |some (.slice elem),.list _ g f,.v (.int _ i)=>if 0<=i/\i<F f/\cC P elem=J g then J (.elem g f i.toNat 0) else ag
 |some (.slice elem),.arr b d len _,.v (.int _ i)=>
  match cC P elem with
  |some c=>if 0<=i/\i<len then J (.ptr (.box b) (d+i.toNat*c)) else ag
  |none=>ag
 |some (.array len elem),.ptr l d,.v (.int _ i)=>
  match cC P elem with
  |some c=>if 0<=i/\i<len then J (.ptr l (d+i.toNat*c)) else ag
  |none=>ag
 |some (.array len elem),.elem g f k d,.v (.int _ i)=>
  match cC P elem with
  |some c=>if 0<=i/\i<len then J (.elem g f k (d+i.toNat*c)) else ag
  |none=>ag
 |_,_,_=>ag
def zu(P:bk)(t:aF)(x ix:U):Option U:=
 match P.underlying t,x,ix with
 |some .string,.v (.string d),.v (.int _ i)=>
  match (if 0<=i then d.data[i.toNat]? else ag) with
  |some b=>J (.v (.int .u8 b.toNat))
  |none=>ag
 |some (.array len elem),.agg cs,.v (.int _ i)=>
  match cC P elem with
  |some c=>if 0<=i/\i<len then EI P elem cs (i.toNat*c) else ag
  |none=>ag
 |_,_,_=>ag
def isIface(P:bk)(t:aF):Option Bool:=
 match P.underlying t with
 |some (.interface _)=>J V
 |some _=>J ah
 |none=>ag
def tD(P:bk)(x:U)(c:aF)(d:Bool):Option U:=
 match isIface P c,x with
 |some ah,.iface l g=>if l=c then J (if d then .tuple [g,.v (.bool V)] else g)
  else if d then (fW P c).map λf=>.tuple [f,.v (.bool ah)] else ag
 |some ah,.v .nilIface=>if d then (fW P c).map λf=>.tuple [f,.v (.bool ah)] else ag
 |_,_=>ag
def rI(c:BinOp)(b:Bool):Option U:=
 match c with
 | .eql=>J (.v (.bool b))
 | .neq=>J (.v (.bool !b))
 |_=>ag
def At(P:bk)(c:BinOp)(t:aF)(x y:bR)(a b:U):Option U:=
 match a.flat,b.flat with
 |some d,J f=>(cV P (do eqGuard c t x y d f;binOp c t d f)).bind jf
 |_,_=>ag
def cy(P:bk)(c:BinOp)(t:aF)(x y:bR)(a b:U):Option U:=
 match a,b with
 | .v (.string d),.v (.string f)=>
  match c with
  | .eql=>J (.v (.bool (d.data.toList==f.data.toList)))
  | .neq=>J (.v (.bool !(d.data.toList==f.data.toList)))
  | .add=>if d.size+f.size<=9223372036854775807 then J (.v (.string (d++f))) else ag
  |_=>At P c t x y a b
 | .iface _ _,.v .nilIface=>if isIface P t=J V then rI c ah else ag
 | .v .nilIface,.iface _ _=>if isIface P t=J V then rI c ah else ag
 | .ptr _ _,.v (.pointer ag)=>(match P.underlying t with|some (.pointer _)=>rI c ah|_=>ag)
 | .v (.pointer ag),.ptr _ _=>(match P.underlying t with|some (.pointer _)=>rI c ah|_=>ag)
 | .func _ _ _,.v .nilFunc=>(match P.underlying t with|some (.func ..)=>rI c ah|_=>ag)
 | .v .nilFunc,.func _ _ _=>(match P.underlying t with|some (.func ..)=>rI c ah|_=>ag)
 | .list k _ _,.list .nil _ []=>(match P.underlying t with|some (.slice _)=>rI c (decide (k=.nil))|_=>ag)
 |a,b=>At P c t x y a b
def Fu(P:bk)(c:UnOp)(x:U):Option U:=
 match x.flat with
 |some d=>(cV P (Op.unary c d)).bind jf
 |none=>ag
def kL(P:bk)(h:Heap)(src c:aF)(x:U):Option (U × Heap):=
 match P.underlying src,P.underlying c,x with
 |some .string,J (.slice e),.v (.string n)=>
  match P.underlying e,P.info? e with
  |some (.int .u8),J i=>if i.size=1 then J (h.fresh 1 (n.data.toList.map iy)) else ag
  |_,_=>ag
 |some (.slice e),J .string,x=>
  match P.underlying e,rowsOf h 1 x with
  |some (.int .u8),J d=>(bytesOf d).map λm=>(.v (.string ⟨m.toArray⟩),h)
  |_,_=>ag
 |some (.slice e),J (.slice _),.list (.free l) g f=>
  match P.underlying e with
  |some (.int .u8)=>if src=c/\alive h l=V then J (.list .held g f,{h with dead:=l::h.dead}) else ag
  |_=>ag
 |some (.slice _),J (.slice _),_=>ag
 |some _,J _,.v x=>((cV P (convert src c x)).bind jf).map λp=>(p,h)
 |_,_,_=>ag
def Is(c a b:U):Option U:=
 match c with
 | .v (.bool d)=>J (if d then a else b)
 |_=>ag
def Oe(x:U):Option U:=
 match x with
 | .ptr .. | .elem .. | .func (.func _) _ _| .yield _| .iface .. =>J x
 |_=>ag
def tK(parts:Array (Nat × bR)):Bool:=
 match parts.toList with
 |(_,.const (.int .u8 _))::_::_=>V
 |_=>ah
def dk(P:bk)(G:Nat->Option (List U))(ρ:bR->U)(h:Heap)(o:Op):Option (U × Heap):=
 match o with
 | .move c| .assign c=>J (ρ c,h)
 | .pick p a b=>(Is (ρ p) (ρ a) (ρ b)).map (·,h)
 | .alloc d=>((fW P d).bind U.bF).map h.box
 | .box _ c=>((ρ c).bF).map h.box
 | .build d parts=>(iI P d (parts.toList.map λg=>(g.1,ρ g.2))).map (·,h)
 | .buildSlice d len parts=>
  match tK parts with
  |false=>(fy P d len (parts.toList.map λg=>(g.1,ρ g.2))).map (·,h)
  |true=>(match fy P d len (parts.toList.map λg=>(g.1,ρ g.2)) with|some (.list _ y q)=>J (h.fresh y q)|_=>ag)
 | .load d a=>(aD P G h d (ρ a)).map (·,h)
 | .store d a c=>(bV P h d (ρ a) (ρ c)).map (.tuple [],·)
 | .nilCheck c=>(Oe (ρ c)).map (·,h)
 | .binOp l d c A _=>(cy P l d c A (ρ c) (ρ A)).map (·,h)
 | .unOp l _ c=>(Fu P l (ρ c)).map (·,h)
 | .convert x C c=>kL P h x C (ρ c)
 | .makeInterface d c=>if isIface P d=J ah then J (.iface d (ρ c),h) else ag
 | .makeFunc s first m=>J (.func s (first.toList.map ρ) (m.toList.map ρ),h)
 | .makeSlice d D p=>vJ P h d (ρ D) (ρ p)
 | .slice d c u t v=>(gw P d (ρ c) (u.map ρ) (t.map ρ) (v.map ρ)).map (·,h)
 | .fieldAddr x c r=>(dU P x (ρ c) r).map (·,h)
 | .field d c r=>
  match P.underlying d,ρ c with
  |some (.struct fields),.agg cs=>(match fields[r]? with|some n=>(EI P n.type cs n.offset).map (·,h)|none=>ag)
  |_,_=>ag
 | .indexAddr d c i=>(dK P d (ρ c) (ρ i)).map (·,h)
 | .index d c i=>(zu P d (ρ c) (ρ i)).map (·,h)
 | .typeAssert c _ f ok=>(tD P (ρ c) f ok).map (·,h)
 | .extract c i=>(match ρ c with| .tuple z=>(z[i]?).map (·,h)|_=>ag)
 |_=>ag
def iu(P:bk)(h:Heap)(b:Builtin)(ts:Array aF)(ty:aF)(args:List U):Option (U × Heap):=
 match b,args with
 | .len,[d]=>(match ts[0]? with|some l=>(dB P l d).map (·,h)|none=>ag)
 | .cap,[d]=>(match ts[0]? with|some l=>(Az P l d).map (·,h)|none=>ag)
 | .append,[g,d]=>gm P h ts g d
 | .copy,[m,g]=>wO P h ts m g
 | .min,c=>(match flatAll c with|some f=>((cV P (Builtin.min_ ts ty f.toArray)).bind jf).map (·,h)|none=>ag)
 | .max,c=>(match flatAll c with|some f=>((cV P (Builtin.max_ ts ty f.toArray)).bind jf).map (·,h)|none=>ag)
 |_,_=>ag
def po(P:bk)(G:Nat->Option (List U))(d:Option Tmp)(h:Heap)(b:Builtin)(ts:Array aF)(ty:aF)(args:List U):Option (U × Heap):=
 match b,args with
 | .append,[c,f]=>if Fp G d ty then ml P h ts c f else gm P h ts c f
 |b,args=>iu P h b ts ty args
structure Rec where
 code:Code->Env->Heap->Option (Xt × Env × Heap)
 call:aR->List U->Heap->Option (dR × Heap)
 iA:aR->List U->Option (U × Bool)->Heap->Option (dR × Option (U × Bool) × Heap)
 round:Nat->List U->Heap->Option (dR × Heap)
def N8(P:bk)(t:aF)(name:String):Option aR:=
 match P.info? t with
 |some i=>
  match i.methods.find? (·.name==name) with
  |some d=>
   match d.path.toList,d.func,P.underlying t with
   | [],J (c,V),J (.pointer _)=>J c
   | [],J (_,_),J (.pointer _)=>ag
   | [],J (c,ah),J _=>J c
   |_,_,_=>ag
  |none=>ag
 |none=>ag
def jU(P:bk)(R:Rec)(e:Env)(h:Heap)(c:Call):Option (dR × Heap):=
 let d:=c.args.toList.map e.eval
 match c.callee with
 | .builtin _=>ag
 | .value l=>
  match e.eval l with
  | .func (.func m) first g=>R.call m (first++d++g) h
  | .yield n=>R.round n d h
  |_=>ag
 | .invoke p f=>
  match e.eval p with
  | .iface q r=>(match N8 P q f with|some l=>R.call l (r::d) h|none=>ag)
  |_=>ag
def dH(P:bk)(G:Nat->Option (List U))(R:Rec)(e:Env)(h:Heap)(o:Oper):Option (dR × Env × Heap):=
 match o.op with
 | .call {callee:=.builtin .recover,.. }=>
  if e.round.isSome then ag else
  match e.cD with
  |some (c,ah)=>J (.ret c,{e with cD:=J (c,V)},h)
  |_=>J (.ret (.v .nilIface),e,h)
 | .call {callee:=.builtin .panic,args,.. }=>
  match args.toList.map e.eval with
  | [.iface g c]=>J (.panic (.iface g c),e,h)
  |_=>ag
 | .call {callee:=.builtin b,args,argTypes}=>(po P G o.dst h b argTypes o.type (args.toList.map e.eval)).map λ(c,h)=>(.ret c,e,h)
 | .call l=>(jU P R e h l).map λ(n,h)=>(n,e,h)
 | .defer {callee:=.value f,args,.. }=>
  if e.round.isSome then ag else
  match e.eval f with
  | .func (.func m) first d=>J (.ret (.tuple []),{e with defers:=(m,first++args.toList.map e.eval++d)::e.defers},h)
  |_=>ag
 | .panic c=>
  match e.eval c with
  | .iface g c=>J (.panic (.iface g c),e,h)
  |_=>ag
 |op=>(dk P G e.eval h op).map λ(c,h)=>(.ret c,e,h)
def eE(ops:Array Oper)(e:Env)(o:Oper):Option Bool:=
 match o.guard with
 |none=>J V
 |some (j,c)=>
  match (ops[j]?).bind (·.dst) with
  |none=>J ah
  |some d=>
   match e.get d with
   | .v (.bool b)=>J (b==c)
   | .tuple []=>J ah
   |_=>ag
def bW(P:bk)(G:Nat->Option (List U))(R:Rec)(ops:Array Oper):List Nat->Env->Heap->Option (Xt × Env × Heap)
 | [],e,h=>J (.normal,e,h)
 |i::rest,e,h=>
  match ops[i]? with
  |none=>ag
  |some o=>
   match eE ops e o with
   |none=>ag
   |some ah=>bW P G R ops rest (e.put o.dst (.tuple [])) h
   |some V=>
    match dH P G R e h o with
    |some (.ret c,e,h)=>bW P G R ops rest (e.put o.dst c) h
    |some (.panic c,e,h)=>J (.panic c,e,h)
    |none=>ag
inductive Class where
 |pure|reads|iq
 deriving DecidableEq,Inhabited
def iz:Op->Class
 | .move _| .assign _| .pick .. | .build .. | .nilCheck _| .binOp .. | .unOp .. | .makeInterface .. | .makeFunc .. | .slice .. | .fieldAddr .. | .field ..
 | .indexAddr .. | .index .. | .typeAssert .. | .extract .. =>.pure
 | .buildSlice _ _ parts=>if tK parts=V then .iq else .pure
 | .load .. =>.reads
 | .call {callee:=.builtin .len,.. }=>.pure
 |_=>.iq
def HZ(a b:Class):Bool:=
 match a,b with
 | .pure,_|_,.pure=>V
 | .reads,.reads=>V
 |_,_=>ah
def x_(ops:Array Oper)(b:Array Nat):Bool:=
 (bZ ops.size).all λj=>
  match ops[j]? with
  |none=>V
  |some o=>
   (o.after.all λe=> !Region.binds .any e||decide (e.on<j))&&
   (bZ ops.size).all λi=> !(b.getD j 0).testBit i||o.after.any λe=>Region.binds .any e&&(hy e.on i||(b.getD e.on 0).testBit i)
def vT(ops:Array Oper)(i j:Nat):Bool:=
 match ops[i]?,ops[j]? with
 |some c,J d=>HZ (iz c.op) (iz d.op)&&c.apart ops d&&d.apart ops c
 |_,_=>ah
def De(ops:Array Oper):Bool:=
 let b:=Region.before ops
 x_ ops b&&(bZ ops.size).all λj=>(bZ j).all λi=>(b.getD j 0).testBit i||vT ops i j
def nP(ops:Array Oper)(i j:Nat):Bool:=
 match ops[i]?,ops[j]? with
 |some c,J d=>c.apart ops d&&d.apart ops c
 |_,_=>ah
def od(P:bk)(G:Nat->Option (List U))(R:Rec)(ops:Array Oper)(e:Env)(h:Heap)(r m:Nat):Bool:=
 match ops[r]?,bW P G R ops (bZ r) e h,bW P G R ops (bZ m) e h with
 |some o,J (.normal,c,f),J (.normal,_,d)=>
  (match eE ops c o with
   |some ah=>V
   |some V=>
    (match o.op with
     | .load g a=>(match aD P G f g (c.eval a),aD P G d g (c.eval a) with|some l,J n=>cE l n|_,_=>ah)
     |_=>ah)
   |none=>ah)
 |_,_,_=>ah
def jA(P:bk)(G:Nat->Option (List U))(R:Rec)(ops:Array Oper)(e:Env)(h:Heap)(i j:Nat):Bool:=
 nP ops i j&&
 match (ops[i]?).map λo=>iz o.op,(ops[j]?).map λo=>iz o.op with
 |some .reads,J .iq=>od P G R ops e h i (j+1)
 |some .iq,J .reads=>od P G R ops e h j i
 |_,_=>ah
def wM:Op->Bool
 | .call {callee:=.builtin .recover,.. }=>ah
 | .call {callee:=.builtin .panic,.. }=>ah
 | .call _=>V
 | .convert .. =>V
 |_=>ah
def u'(P:bk)(G:Nat->Option (List U))(R:Rec)(ops:Array Oper)(e:Env)(h:Heap)(k:Nat):Prop:=
 ∃o m c g,ops[k]?=J o/\wM o.op=V/\bW P G R ops (bZ k) e h=J (.normal,c,g)/\
  ∀l,l<=ops.size->∃f d,bW P G R ops (bZ l) e h=J (.normal,f,d)/\dH P G R c d o=J (.ret m,c,d)
noncomputable def jW(P:bk)(G:Nat->Option (List U))(R:Rec)(ops:Array Oper)(e:Env)(h:Heap)(k:Nat):Bool:=@decide (u' P G R ops e h k) (Classical.propDecidable _)
noncomputable def kU(P:bk)(G:Nat->Option (List U))(R:Rec)(ops:Array Oper)(e:Env)(h:Heap):Bool:=
 let b:=Region.before ops
 x_ ops b&&(bZ ops.size).all λj=>(bZ j).all λi=>(b.getD j 0).testBit i||vT ops i j||jA P G R ops e h i j||(nP ops i j&&(jW P G R ops e h i||jW P G R ops e h j))
def zw(r:Option (Xt × Env × Heap)):Bool:=
 match r with
 |some (.normal,_,_)=>V
 |_=>ah
def Gl(ops:Array Oper)(k j:Nat):Bool:=
 match ops[k]? with
 |some o=>o.after.any λc=>Region.binds .any c&&hy c.on j
 |none=>ah
def ak6(ops:Array Oper)(d m:Nat):Bool:=
 match ops[m]? with
 |some o=>(match o.op with| .load _ g=>(match g with| .tmp f=> !Nat.beq f d|_=>V)|_=>ah)&&(o.guard.isNone&&(match o.dst with|some c=> !Nat.beq c d|none=>V))
 |none=>ah
def fN(ops:Array Oper)(i j:Nat):Array Oper:=⟨ops.toList.mapIdx λk o=>if k=j then {o with after:=o.after.push {on:=i,ground:=.data}} else o⟩
def vB(ops:Array Oper)(k:Nat):Bool:=
 match ops[k]? with
 |some o=>(match o.op with| .store _ _ _=>V|_=>ah)&&(o.guard.isNone&&o.dst.isNone)
 |none=>ah
def X9(ops:Array Oper)(k:Nat):Bool:=
 match ops[k]? with
 |some o=>decide (iz o.op=.pure)|none=>ah
def BM(ops:Array Oper)(i:Nat):Bool:=
 x_ ops (Region.before ops)&&(decide (i+1<ops.size)&&(vB ops i&&(vB ops (ops.size-1)&&(bZ (ops.size-1)).all λk=>hy k i||(((Region.before ops).getD (ops.size-1) 0).testBit k||(X9 ops k&&nP ops k (ops.size-1))))))
def oR(ops:Array Oper)(k:Nat)(e:Env):Option Nat:=
 match ops[k]? with
 |some o=>(match o.op with| .store _ a _=>(match e.eval a with| .ptr (.box b) _=>J b|_=>ag)|_=>ag)
 |none=>ag
def pP(P:bk)(G:Nat->Option (List U))(R:Rec)(ops:Array Oper)(e:Env)(h:Heap)(i:Nat):Bool:=
 match bW P G R ops (bZ i) e h,bW P G R ops (bZ (ops.size-1)) e h with
 |some (.normal,c,_),J (.normal,d,_)=>
  (match oR ops i c,oR ops (ops.size-1) d with
   |some a,J b=> !Nat.beq a b
   |_,_=>ah)
 |_,_=>ah
noncomputable def xF(P:bk)(G:Nat->Option (List U))(R:Rec)(ops:Array Oper)(e:Env)(h:Heap):Bool:=(bZ ops.size).any λi=>BM ops i&&(pP P G R ops e h i&&kU P G R (fN ops i (ops.size-1)) e h)
def quiet(o:Oper):Oper:={o with dst:=ag,op:=.move (.const (.bool V)),guard:=ag}
def uk:List Oper->List Oper
 | []=>[]
 | [o]=>[quiet o]
 |o::c::d=>o::uk (c::d)
def gB(ops:Array Oper):Array Oper:=⟨uk ops.toList⟩
def qZ(ops:Array Oper):Bool:=
 let b:=Region.before (gB ops)
 (bZ (ops.size-1)).all λi=>(b.getD (ops.size-1) 0).testBit i&&
  match ops[i]? with
  |some o=>(match o.guard with|some (j,_)=> !Nat.beq j (ops.size-1)|none=>V)
  |none=>V
def Bf(ops:Array Oper)(k i:Nat):Bool:=hy i k||((Region.before ops).getD i 0).testBit k
def cut(ops:Array Oper)(k:Nat):Array Oper:=⟨ops.toList.mapIdx λi o=>if Bf ops k i=V then quiet o else o⟩
def aek(ops:Array Oper)(i:Nat):Bool:=
 match ops[i]? with
 |some o=>decide (iz o.op≠ .iq)|none=>V
def TZ(ops:Array Oper)(k i:Nat):Bool:=
 match ops[i]? with
 |some o=>(match o.guard with|some (j,_)=> !Bf ops k j|none=>V)
 |none=>V
def afZ(ops:Array Oper)(k i:Nat):Option Tmp:=
 if (Bf ops k i||((Region.before (cut ops k)).getD k 0).testBit i)=V then ag else (ops[i]?).bind (·.dst)
noncomputable def drawC(P:bk)(G:Nat->Option (List U))(R:Rec)(ops:Array Oper)(e:Env)(h:Heap):Xt->Bool
 | .normal=>kU P G R ops e h||xF P G R ops e h
 | .panic _=>qZ ops&&(kU P G R (gB ops) e h&&zw (bW P G R (gB ops) (bZ (gB ops).size) e h))
 |_=>ah
def Cf(c:List Tmp)(args:List U)(tmps:nO):nO:=(c.zip args).foldl (λd f=>d.set f.1 f.2) tmps
section
variable (P:bk) (G:Nat->Option (List U)) (R:Rec)
noncomputable def eY:Code->Env->Heap->Option (Xt × Env × Heap)
 | .skip,e,h| .label _,e,h=>J (.normal,e,h)
 | .region _ ops f,e,h=>
  if f then
   (bW P G R ops (bZ ops.size) e h).filter λr=>drawC P G R ops e h r.1
  else bW P G R ops (bZ ops.size) e h
 | .seq a b,e,h=>
  match R.code a e h with
  |some (.normal,e,h)=>R.code b e h
  |r=>r
 | .cond c a b,e,h=>
  match e.eval c with
  | .v (.bool V)=>R.code a e h
  | .v (.bool ah)=>R.code b e h
  |_=>ag
 | .block id c,e,h=>
  match R.code c e h with
  |some (.exit d,e,h)=>if d=id then J (.normal,e,h) else J (.exit d,e,h)
  |r=>r
 | .loop c,e,h=>
  match R.code c e h with
  |some (.normal,e,h)=>R.code (.loop c) e h
  |r=>r
 | .scope c,e,h=>R.code c e h
 | .exit id,e,h=>J (.exit id,e,h)
 | .ret,e,h=>J (.ret,e,h)
 | .rangeFunc l params assign body,e,h=>
  match e.eval l with
  | .func (.func m) first g=>
   match R.call m (first++[.yield (F h.loops)]++g)
    {h with loops:=h.loops++[{tmps:=e.tmps,params,assign,body,state:=.ready,pending:=ag}]} with
   |some (.ret _,h')=>
    match h'.loops[h.loops.length]? with
    |some r=>
     if r.state=.busy then ag else
     match r.pending with
     |none=>J (.normal,e,{h' with loops:=h'.loops.set (F h.loops) {r with state:=.exhausted}})
     |some .ret=>J (.ret,e,{h' with loops:=h'.loops.set (F h.loops) {r with state:=.exhausted}})
     |some (.exit id)=>J (.exit id,e,{h' with loops:=h'.loops.set (F h.loops) {r with state:=.exhausted}})
     |_=>ag
    |none=>ag
   |some (.panic n,h')=>J (.panic n,e,h')
   |none=>ag
  |_=>ag
 |_,_,_=>ag
def sF(e:Env)(h:Heap):List ResultVar->Option (List U)
 | []=>J []
 | .tmp d::c=>(sF e h c).map (e.get d::·)
 | .cell a d::c=>
  match aD P G h d (e.get a),sF e h c with
  |some g,J f=>J (g::f)
  |_,_=>ag
def EU(fn:Func)(e:Env)(h:Heap):Option U:=
 match sF P G e h fn.results.toList with
 |some [d]=>J d
 |some c=>J (.tuple c)
 |none=>ag
def gh(fn:Func)(e:Env):List (aR × List U)->Option (U × Bool)->Heap->Option (dR × Heap)
 | [],ag,h=>(EU P G fn e h).map λg=>(.ret g,h)
 | [],J (g,_),h=>J (.panic g,h)
 |(l,c)::d,f,h=>
  match R.iA l c f h with
  |some (.ret _,J (_,V),h)=>gh fn e d ag h
  |some (.ret _,f,h)=>gh fn e d f h
  |_=>ag
def pi(g:aR)(args:List U)(m:Option (U × Bool))(h:Heap):Option (dR × Option (U × Bool) × Heap):=
 match P.funcs[g]? with
 |none=>ag
 |some d=>
  match d.body with
  |none=>ag
  |some c=>
   match R.code c {tmps:={ch:=[],base:=args},defers:=[],cD:=m,round:=ag} h with
   |some (.normal,e,h)|some (.ret,e,h)=>(gh P G R d e e.defers ag h).map λ(f,h)=>(f,e.cD,h)
   |some (.panic l,e,h)=>(gh P G R d e e.defers (J (l,ah)) h).map λ(f,h)=>(f,e.cD,h)
   |_=>ag
def k_(aJ:aR->Option (List U->Heap->Option (U × Heap)))(g:aR)(args:List U)(h:Heap):Option (dR × Heap):=
 match aJ g with
 |some c=>(c args h).map λ(f,h)=>(.ret f,h)
 |none=>(pi P G R g args ag h).map λ(d,_,h)=>(d,h)
def sI(l:Nat)(args:List U)(h:Heap):Option (dR × Heap):=
 match h.loops[l]? with
 |none=>ag
 |some r=>
  if r.params.size=F args then
   match R.code r.assign {tmps:=Cf r.params.toList args r.tmps,defers:=[],cD:=ag,round:=J l} h with
   |some (.normal,e,h)=>
    match h.loops[l]? with
    |some r2=>
     if r2.state=.ready then
      match R.code r.body e {h with loops:=h.loops.set l {r2 with state:=.busy}} with
      |some (.normal,_,h)=>(h.loops[l]?).map λr=>(.ret (.v (.bool V)),{h with loops:=h.loops.set l {r with state:=.ready,pending:=ag}})
      |some (.ret,_,h)=>(h.loops[l]?).map λr=>(.ret (.v (.bool ah)),{h with loops:=h.loops.set l {r with state:=.done,pending:=J .ret}})
      |some (.exit id,_,h)=>(h.loops[l]?).map λr=>(.ret (.v (.bool ah)),{h with loops:=h.loops.set l {r with state:=.done,pending:=J (.exit id)}})
      |some (.panic c,_,h)=>J (.panic c,h)
      |none=>ag
     else ag
    |none=>ag
   |_=>ag
  else ag
end
noncomputable def gN(P:bk)(G:Nat->Option (List U))(aJ:aR->Option (List U->Heap->Option (U × Heap)))(n:Nat):Rec:=
 Nat.rec (motive:=λ_=>Rec) {code:=λ_ _ _=>ag,call:=λ_ _ _=>ag,iA:=λ_ _ _ _=>ag,round:=λ_ _ _=>ag}
  (λ_ R=>{code:=eY P G R,call:=k_ P G R aJ,iA:=pi P G R,round:=sI R}) n
end Go.AE
end
section
namespace Go.AE
open Go.RowKit (Below)
def EK{α}{P}:∀{e:Sem α} {a:α},cV P e=J a->∀w,e.run P w=.ok a w:=by
 intro e
 induction e with
 |pure a=>intro b h w;simp[cV]at h;simp_all|program k c=>intro b h w;simp only[cV]at h;simp only[Sem.run];simp_all|mark d k c=>intro b h w;simp only[cV]at h;simp only[Sem.run];simp_all|_=>intro b h;simp[cV]at h
structure aW where
 base:Nat
 ic:Nat->Nat->Option aG
 β:List Nat
 γ:List Nat
 tn:Nat
 tk:Nat->Nat × Nat × Nat
 md:List Nat
 lb:Nat->Option (Nat × Nat × Nat)
structure aW.Le(K K':aW):Prop where
 base:K'.base=K.base
 ic:∀g j c,K.ic g j=J c->K'.ic g j=J c
 β:∀b g:Nat,K.β[b]?=J g->K'.β[b]?=J g
 γ:∀l g:Nat,K.γ[l]?=J g->K'.γ[l]?=J g
 tn:K.tn<=K'.tn
 tk:∀t,t<K.tn->K'.tk t=K.tk t
 md:∀r∈K.md,r∈K'.md
 lb:∀b,b<K.β.length->K'.lb b=K.lb b
 new:∀g j c,K'.ic g j=J c->K.ic g j=J c∨K.base<=g
def aW.Le.refl(K:aW):K.Le K:=⟨O,λ_ _ _ h=>h,λ_ _ h=>h,λ_ _ h=>h,aV _,λ_ _=>rfl,λ_ h=>h,λ_ _=>rfl,λ_ _ _ h=>.inl h⟩
def aW.Le.len{K c:aW}(h:K.Le c){b}(d:b<F K.β):b<F c.β:=(aT.1 (h.β b _ (aP d))).1
def aW.Le.trans{A B C:aW}(h:A.Le B)(k:B.Le C):A.Le C:=
 ⟨k.base.trans h.base,λd j g f=>k.ic d j g (h.ic d j g f),λb d c=>k.β b d (h.β b d c),λb d c=>k.γ b d (h.γ b d c),e8 h.tn k.tn,
  λp l=>(k.tk p (my l h.tn)).trans (h.tk p l),λn m=>k.md n (h.md n m),λb c=>(k.lb b (h.len c)).trans (h.lb b c),λd j g f=>(k.new d j g f).elim (h.new d j g) λq=>.inr (by rw[<-h.base];exact q)⟩
def tu(K:aW)(k:Tok)(g off sz n aS:Nat):Prop:=
 n<=aS/\match k with
  | .nil=>False
  | .tight=>aS=n
  | .free c=>c<K.tn/\(K.tk c).1=g/\(K.tk c).2.1=off+n*sz/\off+aS*sz<=(K.tk c).2.2
  | .held=>True
def tu.mono{K d}(h:K.Le d){k}{g off sz n aS}(f:tu K k g off sz n aS):tu d k g off sz n aS:=by
 refine⟨f.1,?_⟩;have c:=f.2;cases k with|free l=>simp only at c ⊢;rw[h.tk l c.1];exact⟨my c.1 h.tn,c.2⟩|_=>exact c
mutual
inductive aQ (K:aW):U->aG->Prop
 |bad (c:aG):aQ K .bad c
 |v (x:aG) (h:scalar x=V):aQ K (.v x) x
 |nil (sz:Nat):aQ K (.list .nil sz []) (.slice ag 0 0)
 |fZ (sz:Nat) (a:Addr):aQ K (.list .tight sz []) (.slice (J a) 0 0)
 |list (k:Tok) (sz:Nat) (es:List (List U)) (g off n aS:Nat) (cells:List aG) (hn:n=es.length) (hr:∀r∈es,r.length=sz)
  (hv:aI K es.flatten cells) (hc:∀j c,cells[j]?=J c->K.ic g (off+j)=J c) (ht:tu K k g off sz n aS)
  (ha:es.flatten.all U.cW=V):aQ K (.list k sz es) (.slice (J ⟨g,off,ag⟩) n aS)
 |arr (b g off len aS r_ qP:Nat) (hb:K.β[b]?=J g) (hl:len<=aS) (hc:aS<=qP) (ho:r_=off∨aS=0)
  (hr:qP=aS∨aS=0∨off≠0∨∃sz room,K.lb b=J (aS,sz,room)/\0<sz/\qP * sz<=room):aQ K (.arr b off len aS) (.slice (J ⟨g,r_,ag⟩) len qP)
 |agg (cs:List U) (vs:Array aG) (h:aI K cs vs.toList):aQ K (.agg cs) (.agg vs)
 |tuple (cs:List U) (vs:Array aG) (h:aI K cs vs.toList):aQ K (.tuple cs) (.tuple vs)
 |box (b g off:Nat) (hb:K.β[b]?=J g):aQ K (.ptr (.box b) off) (.pointer (J ⟨g,off,ag⟩))
 |dA (g off:Nat):aQ K (.ptr (.dA g) off) (.pointer (J ⟨g,off,ag⟩))
 |elem (sz:Nat) (es:List (List U)) (i off g o p:Nat) (cells:List aG) (hr:∀r∈es,r.length=sz) (hv:aI K es.flatten cells)
  (hc:∀j c,cells[j]?=J c->K.ic g (o+j)=J c) (hi:i<es.length) (hp:p=o+i * sz+off)
  (ha:es.flatten.all U.cW=V):aQ K (.elem sz es i off) (.pointer (J ⟨g,p,ag⟩))
 |func (fn:Fn) (first aS:List U) (fs cs:Array aG) (h1:aI K first fs.toList) (h2:aI K aS cs.toList):aQ K (.func fn first aS) (.func fn fs cs)
 |yield (l g:Nat) (h:K.γ[l]?=J g):aQ K (.yield l) (.func (.yield g) #[] #[])
 |iface (t:aF) (x:U) (c:aG) (h:aQ K x c):aQ K (.iface t x) (.iface t c)
inductive aI (K:aW):List U->List aG->Prop
 |nil:aI K [] []
 |cons (x:U) (c:aG) (xs:List U) (cs:List aG) (h:aQ K x c) (hs:aI K xs cs):aI K (x::xs) (c::cs)
end
mutual
def aQ.mono{K C:aW}(h:K.Le C):∀{x:U} {c:aG},aQ K x c->aQ C x c
 |_,_,.bad c=>.bad c
 |_,_,.v x y=>.v x y
 |_,_,.nil l=>.nil l
 |_,_,.fZ l a=>.fZ l a
 |_,_,.list k l s m d z0 f cells S p g n Y t=>.list k l s m d z0 f cells S p (aI.mono h g) (λj c u=>h.ic _ _ _ (n j c u)) (Y.mono h) t
 |_,_,.arr b m d len f z r q v n T p=>.arr b m d len f z r (h.β _ _ q) v n T (by rw[h.lb b (aT.1 q).1];exact p)
 |_,_,.agg cs A g=>.agg cs A (aI.mono h g)
 |_,_,.tuple cs A g=>.tuple cs A (aI.mono h g)
 |_,_,.box b m d q=>.box b m d (h.β _ _ q)
 |_,_,.dA m d=>.dA m d
 |_,_,.elem l s i d m o z1 cells p g n N X t=>.elem l s i d m o z1 cells p (aI.mono h g) (λj c u=>h.ic _ _ _ (n j c u)) N X t
 |_,_,.func D first f E cs H L=>.func D first f E cs (aI.mono h H) (aI.mono h L)
 |_,_,.yield Z m v=>.yield Z m (h.γ _ _ v)
 |_,_,.iface z2 x c y=>.iface z2 x c (aQ.mono h y)
def aI.mono{K c:aW}(h:K.Le c):∀{xs:List U} {cs:List aG},aI K xs cs->aI c xs cs
 |_,_,.nil=>.nil
 |_,_,.cons l g xs cs f d=>.cons l g xs cs (aQ.mono h f) (aI.mono h d)
end
def mE:aG->Bool
 | .agg _| .tuple _=>ah
 |_=>V
section
variable {K:aW}
def aI.length{xs:List U}{cs:List aG}(h:aI K xs cs):F xs=F cs:=by
 induction xs generalizing cs with
 |nil=>cases h;rfl
 |cons f xs d=>cases h with|cons _ _ _ _ _ c=>grind
def aI.get{xs:List U}{cs:List aG}(h:aI K xs cs):∀{i:Nat} {x:U},xs[i]?=J x->∃c,cs[i]?=J c/\aQ K x c:=by
 induction xs generalizing cs with
 |nil=>simp_all|cons l xs g=>
  cases h with
  |cons _ c _ cs f d=>
   grind
def aI.get'{xs:List U}{cs:List aG}(h:aI K xs cs):∀{i:Nat} {c:aG},cs[i]?=J c->∃x,xs[i]?=J x/\aQ K x c:=by
 induction xs generalizing cs with
 |nil=>cases h;simp_all
 |cons l xs g=>
  cases h with
  |cons _ c _ cs f d=>
   grind
def aI.of{xs:List U}{cs:List aG}(g:F xs=F cs)(h:∀(i:Nat) (x:U) (c:aG),xs[i]?=J x->cs[i]?=J c->aQ K x c):aI K xs cs:=by
 induction xs generalizing cs with
 |nil=>cases cs with|nil=>exact .nil|cons _ _=>grind
 |cons m xs d=>
  cases cs with
  |nil=>grind
  |cons c cs=>exact .cons _ _ _ _ (h 0 m c O O) (d (by simp_all) λi x c l f=>h (i+1) x c (by simp_all) (by simp_all))
def aI.append{xs d:List U}{cs c:List aG}(h:aI K xs cs)(k:aI K d c):aI K (xs++d) (cs++c):=by
 induction xs generalizing cs with
 |nil=>cases h;exact k
 |cons m xs l=>cases h with|cons _ _ _ _ g f=>exact .cons _ _ _ _ g (l f)
def aI.take{xs:List U}{cs:List aG}(h:aI K xs cs)(n:Nat):aI K (xs.take n) (cs.take n):=by
 refine .of (by simp[h.length]) λi q p c d=>?_;simp only[mM]at c d;split at c
 .rename_i f;rw[av f]at d;obtain⟨l,g,m⟩:=h.get c;simp_all
 grind
def aI.drop{xs:List U}{cs:List aG}(h:aI K xs cs)(n:Nat):aI K (xs.drop n) (cs.drop n):=by refine .of (by simp[h.length]) λi p m c d=>?_;simp only[List.getElem?_drop]at c d;obtain⟨g,f,l⟩:=h.get c;simp_all
def aI.set{xs:List U}{cs:List aG}(h:aI K xs cs)(i:Nat){x:U}{c:aG}(n:aQ K x c):aI K (xs.set i x) (cs.set i c):=by
 refine .of (by simp[h.length]) λj q p d f=>?_;simp only[lM]at d f;split at d
 .simp_all
 .rename_i e;rw[aL e]at f;obtain⟨l,g,m⟩:=h.get d;simp_all
def aI.map_mk{α:Type}{l:List α}{f:α->U}{c:α->aG}(h:∀a∈l,aQ K (f a) (c a)):aI K (l.map f) (l.map c):=by
 induction l with
 |nil=>exact .nil|cons a l d=>exact .cons _ _ _ _ (h a b8) (d λb g=>h b (by grind))
def aQ.gP{x:aG}{c:aG}(h:aQ K (.v x) c):c=x/\scalar x=V:=by cases h with|v _ h=>simp_all
def LO:∀{cs:List U} {l:List aG},tN cs=J l->∀{vs:List aG},aI K cs vs->vs=l
 | [],l,h,_,c=>by cases c;simp[tN]at h;simp_all
 | .v q::p,l,h,_,c=>by
  cases c with|cons _ n _ cs g f=>simp only[tN,dg]at h;obtain⟨m,d,rfl⟩:=h;rw[(aQ.gP g).1,LO d f]
 | .bad::_,_,h,_,_| .list .. ::_,_,h,_,_| .arr .. ::_,_,h,_,_| .agg _::_,_,h,_,_| .tuple _::_,_,h,_,_| .ptr .. ::_,_,h,_,_
 | .elem .. ::_,_,h,_,_| .func .. ::_,_,h,_,_| .yield _::_,_,h,_,_| .iface .. ::_,_,h,_,_=>by simp[tN]at h
def GC{x:U}{p:Value}(h:x.flat=some p){c:Value}(d:aQ K x c):c=p:=by
 unfold U.flat at h;split at h
 .injection h with h;subst h;exact(aQ.gP d).1
 .simp only[dg] at h;obtain⟨q,f,rfl⟩:=h;cases d with|agg _ n g=>rw[<-LO f g]
 .injection h with h;subst h;cases d with|iface _ _ _ l=>rw[(aQ.gP l).1]
 .simp only[dg] at h;obtain⟨q,f,rfl⟩:=h;cases d with|iface _ _ _ l=>cases l with|agg _ n g=>rw[<-LO f g]
 .injection h with h;subst h;cases d with|nil=>rfl|list _ _ _ _ _ _ _ _ _ _ _ _ m _=>exact m.2.elim
 grind
def LN:∀{xs:List U} {l:List aG},flatAll xs=J l->∀{vs:List aG},aI K xs vs->vs=l
 | [],l,h,_,c=>by cases c;simp[flatAll]at h;simp_all
 |x::q,l,h,_,c=>by
  cases c with
  |cons _ p _ cs m g=>
   simp only[flatAll]at h;split at h
   .rename_i r n d f;injection h with h;subst h;rw[GC d m,LN f g]
   grind
def Fb{z:aG}{x:U}(h:jf z=J x):aQ K x z:=by
 unfold jf at h;split at h
 .injection h with h;subst h;exact .v _ ‹_›
 grind
def Oh(x:aG):aQ K (r8 x) x:=by
 unfold r8;split
 .exact .nil 0
 .split
  .exact .v _ ‹_›
  .exact .bad _
def Ij(x:aG):aQ K (oP x) x:=by
 unfold oP;split
 .rename_i cs;refine .agg _ _ ?_;have:aI K (cs.toList.map r8) (cs.toList.map id):=aI.map_mk λa _=>Oh a;simp_all
 .split
  .rename_i c h;have:c=#[]:=(by simpa using h);subst this;exact .tuple _ _ .nil
  .exact .bad _
 .exact .iface _ _ _ (Oh _)
 .exact Oh _
def Gh{x:U}{cs:List U}(h:x.bF=J cs){c:aG}(d:aQ K x c):aI K cs c.cells.toList/\cs.all U.cW=V:=by
 unfold U.bF at h;split at h
 .split at h
  .rename_i n;injection h with h;subst h;cases d with|agg _ q p=>exact⟨p,n⟩
  grind
 .cases h
 .cases h
 .rename_i f g l;injection h with h;subst h;have m:x.cW=V:=by cases x<;>first|rfl|exact absurd O (f _)|exact absurd O (g _)|exact absurd O l
  refine⟨?_,by simp_all⟩;have:c.cells=#[c]:=by cases d<;>first|rfl|exact absurd O (f _)|exact absurd O (g _)|exact absurd O l|(cases c<;>first|rfl|simp[scalar]at *)
  rw[this];exact .cons _ _ _ _ d .nil
def ajS{c}(h:scalar c=V):mE c=V:=by cases c<;>first|rfl|simp[scalar]at h
def ajR{x:U}(h:x.cW=V){c:aG}(d:aQ K x c):mE c=V:=by cases d<;>first|rfl|exact ajS ‹_›|(simp[U.cW]at h;done)
end
def wr(K:aW)(b:Nat)(cs:List U)(cells:Array aG):Prop:=
 aI K cs (cells.toList.take (F cs))/\∀f d c,K.lb b=J (f,d,c)->cs=[]∨(F cs=f*d/\c<=cells.size)
def wr.mono{K c}(h:K.Le c){b}(d:b<F K.β){cs}{cells}(r:wr K b cs cells):wr c b cs cells:=
 ⟨r.1.mono h,by rw[h.lb b d];exact r.2⟩
def wr.nil{K}{b}{cells}:wr K b [] cells:=⟨.nil,λ_ _ _ _=>.inl O⟩
def wr.le{K}{b}{cs}{cells}(r:wr K b cs cells):F cs<=cells.size:=by
 have:=r.1.length
 grind
def jT(K:aW)(s:nO)(tmps:Array aG):Prop:=∀c,aQ K (s.get c) (tmps.getD c undef)
def jT.mono{K c}(h:K.Le c){s}{tmps}(d:jT K s tmps):jT c s tmps:=λf=>(d f).mono h
structure bK(K:aW)(G:Nat->Option (List U))(ok:aR->Nat->Code->Bool)(w0:bP)(h:Heap)(w:bP):Prop where
 fL:Below K.base w0 w
 size:K.base<=w.heap.size
 ic:∀g j c,K.ic g j=J c->w.cell? ⟨g,j,ag⟩=J c
 dA:∀g cs,G g=J cs->∃cells,aI K cs cells/\∀(j:Nat) (c:aG),cells[j]?=J c->K.ic g j=J c
 iN:K.β.length=h.boxes.length
 np:∀(b b' g:Nat),K.β[b]?=J g->K.β[b']?=J g->b=b'∨h.boxes[b]?=J []∨h.boxes[b']?=J []
 box:∀(b g:Nat) (cs:List U),K.β[b]?=J g->h.boxes[b]?=J cs->
  K.base<=g/\(∀j,K.ic g j=ag)/\cs.all U.cW=V/\∃cells e,w.heap[g]?=J (.cells cells e (0,0))/\wr K b cs cells
 mn:K.γ.length=h.loops.length
 oe:∀(b b' g:Nat),K.γ[b]?=J g->K.γ[b']?=J g->b=b'
 loop:∀(l g:Nat) (r:gV),K.γ[l]?=J g->h.loops[l]?=J r->K.base<=g/\∃fn tmps d,
  w.heap[g]?=J (.loop {state:=r.state,pending:=r.pending,fn,tmps,params:=r.params,assign:=r.assign,body:=r.body,defers:=d})/\
  jT K r.tmps tmps/\ok fn tmps.size r.assign=V/\ok fn tmps.size r.body=V/\∀p∈r.params.toList,p<tmps.size
 tn:K.tn=h.tn
 tok:∀t,alive h t=V->K.base<=(K.tk t).1/\(∀b:Nat,K.β[b]?≠J (K.tk t).1)/\(∀j,(K.tk t).2.1<=j->K.ic (K.tk t).1 j=ag)/\
  ∃cells e fz,w.heap[(K.tk t).1]?=J (.cells cells e fz)/\cells.size=(K.tk t).2.2/\
   ∀j,(K.tk t).2.1<=j->j<cells.size->w.frozen? ⟨(K.tk t).1,j,ag⟩=ah
 nL:∀t t',alive h t=V->alive h t'=V->(K.tk t).1=(K.tk t').1->t=t'
 md:∀r∈K.md,K.base<=r/\w.heap[r]?=J (.deferred (J []))
 all:K.base=w0.heap.size
def Addr.hC(g o n):(⟨g,o,ag⟩:Addr).add n=⟨g,o+n,ag⟩:=by unfold Addr.add;simp_all
def qN{h}{t}(c:alive h t=V):t<h.tn:=by unfold alive at c;simp_all
section
variable {K:aW} {G:Nat->Option (List U)} {ok:aR->Nat->Code->Bool} {w0 w:bP} {h:Heap}
def bK.ur(s:bK K G ok w0 h w){g j:Nat}{c:aG}(d:K.ic g j=J c):g<w.heap.size:=by
 have:=s.ic g j c d;unfold World.cell? at this
 grind
def bK.same{w':bP}(s:bK K G ok w0 h w)(c:w'.heap=w.heap)(g:w'.tape=w.tape)(r:w'.os=w.os)(t:w'.output=w.output):bK K G ok w0 h w':=by
 have d:∀a,w'.cell? a=w.cell? a:=λa=>by simp[World.cell?,c]
 have L:∀a,w'.frozen? a=w.frozen? a:=λa=>by simp[World.frozen?,c]
 refine⟨⟨r.trans s.fL.os,g.trans s.fL.tape,t.trans s.fL.output,by rw[c];exact s.fL.size,λk p=>by rw[c];exact s.fL.block k p⟩,by rw[c];exact s.size,
  λl j v n=>(d _).trans (s.ic l j v n),s.dA,s.iN,s.np,λb l cs m d=>by rw[c];exact s.box b l cs m d,s.mn,s.oe,
  λN l u q f=>by rw[c];exact s.loop N l u q f,s.tn,λS g=>?_,s.nL,λu f=>by rw[c];exact s.md u f,s.all⟩
 obtain⟨y,z,A,cells,e,x,C,E,H⟩:=s.tok S g;simp_all
def bK.drew(s:bK K G ok w0 h w)(n:Nat):bK K G ok w0 h {w with drawn:=n}:=s.same O O O rfl
def A0(w:bP)(o){k}(c:k<w.heap.size):(w.heap.push o)[k]?=w.heap[k]?:=by
 grind
def oy{w:bP}{g}{o}(h:w.heap[g]?=J o):g<w.heap.size:=by
 grind
def bK.push(s:bK K G ok w0 h w)(o:Obj):bK K G ok w0 h {w with heap:=w.heap.push o}:=by
 have c:∀{k:Nat} {r:Obj},w.heap[k]?=J r->(w.heap.push o)[k]?=J r:=λc=>(A0 w o (oy c)).trans c;refine⟨⟨s.fL.os,s.fL.tape,s.fL.output,by have:=s.fL.size;grind,λk c=>(A0 w o (my c s.size)).trans (s.fL.block k c)⟩,by have:=s.size;grind,
  λp j E q=>?_,s.dA,s.iN,s.np,λb p cs y z=>?_,s.mn,s.oe,λN p t n d=>?_,s.tn,λS C=>?_,s.nL,λt d=>?_,s.all⟩
 .rw[<-s.ic p j E q];exact World.cell?_of_block (w:=w) (A0 w o (s.ur q))
 .obtain⟨f,g,L,cells,e,l,m⟩:=s.box b p cs y z;simp_all
 .obtain⟨f,H,D,T,g,l⟩:=s.loop N p t n d
  grind
 .obtain⟨f,g,l,cells,e,u,m,v,x⟩:=s.tok S C;refine⟨f,g,l,cells,e,u,c m,v,λj A n=>?_⟩;rw[<-x j A n];exact World.frozen?_of_block (w:=w) (A0 w o (oy m))
 .exact⟨(s.md t d).1,c (s.md t d).2⟩
def Do{α:Type}{l}{x}{i:Nat}{y:α}(h:l[i]?=J y):(l++[x])[i]?=J y:=by
 grind
def qc{α:Type}{l}{x}{i}{y:α}(h:(l++[x])[i]?=J y):l[i]?=J y∨(i=F l/\y=x):=by
 grind
def aW.mX(K:aW)(g:Nat)(x:Option (Nat × Nat × Nat)):aW:={K with β:=K.β++[g],lb:=λb=>if b=F K.β then x else K.lb b}
def aW.box(K:aW)(g:Nat):aW:=K.mX g ag
def aW.zF(K:aW)(g)(x):K.Le (K.mX g x):=
 ⟨O,λ_ _ _ h=>h,λ_ _ h=>Do h,λ_ _ h=>h,aV _,λ_ _=>rfl,λ_ h=>h,λb c=>aL M,λ_ _ _ h=>.inl h⟩
def aW.NR(K:aW)(g):K.Le (K.box g):=K.zF g ag
def bK.Oc(s:bK K G ok w0 h w){cs:List U}{cells:Array aG}(e:aF)(x:Option (Nat × Nat × Nat))(Z:aI K cs (cells.toList.take (F cs)))(C:cs.all U.cW=V)
 (hx:∀z0 sz t,x=J (z0,sz,t)->cs=[]∨(F cs=z0*sz/\t<=cells.size)):
 bK (K.mX w.heap.size x) G ok w0 {h with boxes:=h.boxes++[cs]} {w with heap:=w.heap.push (.cells cells e)}/\
 aQ (K.mX w.heap.size x) (.ptr (.box (F h.boxes)) 0) (.pointer (J ⟨w.heap.size,0,ag⟩)):=by
 have le:=K.zF w.heap.size x;have p:=s.push (.cells cells e);have y:(K.mX w.heap.size x).β[h.boxes.length]?=J w.heap.size:=by simp[aW.mX,<-s.iN]
 have di:∀{b n:Nat},K.β[b]?=J n->n<w.heap.size:=λ{b n} d=>by
  have D:b<F h.boxes:=by rw[<-s.iN];exact(aT.1 d).1
  obtain⟨_,_,_,_,_,m,_⟩:=s.box b n _ d (aP D)
  grind
 have v:∀j,K.ic w.heap.size j=ag:=λj=>by
  cases g:K.ic w.heap.size j with|none=>rfl|some z5=>have:=s.ur g;omega
 refine⟨⟨p.fL,p.size,p.ic,λn cs T=>?_,by simp[aW.mX,s.iN],λb b' n d r=>?_,λb n u d g=>?_,p.mn,p.oe,λz3 n z4 X Y=>?_,p.tn,λz1 E=>?_,p.nL,p.md,s.all⟩,.box _ _ _ y⟩
 .obtain⟨c,l,f⟩:=s.dA n cs T;exact⟨c,l.mono le,f⟩
 .rcases qc d with d|⟨rfl,rfl⟩<;>rcases qc r with r|⟨rfl,f⟩
  .rcases s.np _ _ _ d r with p|p|p<;>grind
  .grind
  .grind
  omega
 .rcases qc d with d|⟨rfl,rfl⟩
  .rcases qc g with g|⟨rfl,rfl⟩
   .obtain⟨l,f,S,c,e',m,q⟩:=p.box b n u d g;exact⟨l,f,S,c,e',m,q.mono le (aT.1 d).1⟩
   grind
  .have:u=cs:=(by rw[s.iN]at g;simp at g;exact g.symm);subst this;exact⟨s.size,v,C,cells,e,by simp,Z.mono le,by simp only[aW.mX,if_true];exact hx⟩
 .obtain⟨l,H,z,z2,f,m,q⟩:=p.loop z3 n z4 X Y;exact⟨l,H,z,z2,f,m.mono le,q⟩
 .obtain⟨l,f,m,c,e',L,q,N⟩:=p.tok z1 E;refine⟨l,λb d=>?_,m,c,e',L,q,N⟩;obtain⟨_,_,_,_,_,_,A,_⟩:=s.tok z1 E;rcases qc d with d|⟨_,d⟩
  .exact f b d
  .have:=oy A;simp only[aW.mX]at d;omega
def aI.whole{cs:List U}{vs:List aG}(h:aI K cs vs):aI K cs (vs.take (F cs)):=by rw[ga (by rw[h.length];omega)];exact h
def bK.Ob(s:bK K G ok w0 h w){cs:List U}{cells:Array aG}(e:aF)(d:aI K cs cells.toList)(c:cs.all U.cW=V):
 bK (K.box w.heap.size) G ok w0 {h with boxes:=h.boxes++[cs]} {w with heap:=w.heap.push (.cells cells e)}/\
 aQ (K.box w.heap.size) (.ptr (.box (F h.boxes)) 0) (.pointer (J ⟨w.heap.size,0,ag⟩)):=s.Oc e ag d.whole c (λ_ _ _ f=>by cases f)
structure jC(w w':bP)(g:Nat)(o:Obj):Prop where
 os:w'.os=w.os
 tape:w'.tape=w.tape
 output:w'.output=w.output
 size:w'.heap.size=w.heap.size
 other:∀k,k≠g->w'.heap[k]?=w.heap[k]?
 this:w'.heap[g]?=J o
def jC.lt{w w'}{g}{o}(c:jC w w' g o):g<w.heap.size:=c.size ▸ oy c.this
def jC.below{w w'}{g}{o}(c:jC w w' g o){B}(d:B<=g):Below B w w':=
 ⟨c.os,c.tape,c.output,by rw[c.size];omega,λk f=>c.other k M⟩
def kZ(fz:Nat × Nat)(j:Nat):Bool:=decide (fz.1<=j)&&decide (j<fz.2)
def tP{w:bP}{g}{cells}{e}{fz}(h:w.heap[g]?=J (.cells cells e fz))(j):w.frozen? ⟨g,j,ag⟩=kZ fz j:=by obtain⟨d,c⟩:=fz;simp[World.frozen?,h,kZ]
def cell_of{w:bP}{g}{cells}{e}{fz}(h:w.heap[g]?=J (.cells cells e fz))(j):w.cell? ⟨g,j,ag⟩=cells[j]?:=by simp[World.cell?,h]
def bK.Tg(s:bK K G ok w0 h w)(b:Nat):bK K G ok w0 {h with boxes:=h.boxes.set b []} w:=by
 refine⟨s.fL,s.size,s.ic,s.dA,by simp[s.iN],λA C E r t=>?_,λm q g f c=>?_,s.mn,s.oe,s.loop,s.tn,s.tok,s.nL,s.md,s.all⟩
 .have z:∀k,h.boxes[k]?=J []->(h.boxes.set b [])[k]?=J []:=λk u=>by
   rw[lM];split
   .rename_i e;subst e;rw[av (aT.1 u).1]
   omega
  rcases s.np _ _ _ r t with p|p|p<;>simp_all
 .simp only[lM]at c;split at c
  .rename_i e';subst e';split at c
   .rename_i l;injection c with c;subst c;obtain⟨v,x,_,d,n,y,D⟩:=s.box _ _ _ f (aP l);exact⟨v,x,O,d,n,y,.nil⟩
   simp_all
  .exact s.box m q g f c
def bK.arO{w':bP}(s:bK K G ok w0 h w){b g:Nat}{cs u:List U}{cells:Array aG}{e:aF}(v:K.β[b]?=J g)(hold:h.boxes[b]?=J u)(z:u≠[])(qm:F cs=F u)(gK:∀c0 Y,w.heap[g]?=J (.cells c0 Y (0,0))->c0.size<=cells.size)
 (c:jC w w' g (.cells cells e (0,0))) (hv:aI K cs (cells.toList.take (F cs))) (Z:cs.all U.cW=V):bK K G ok w0 {h with boxes:=h.boxes.set b cs} w':=by
 have di:=(aT.1 hold).1;obtain⟨E,H,_,T,Y,y,k4⟩:=s.box b g _ v hold;refine⟨s.fL.trans (c.below E),by rw[c.size];grind,λm j z5 D=>?_,s.dA,by simp[s.iN],λb1 b2 g r f=>?_,λb' m X q n=>?_,s.mn,s.oe,λz3 m L C x=>?_,s.tn,λz0 ht=>?_,s.nL,λL x=>?_,s.all⟩
 .have z:m≠g:=by rintro rfl;rw[H j]at D;cases D
  rw[<-s.ic m j z5 D];exact World.cell?_of_block (w:=w) (c.other m z)
 .have key:∀k,h.boxes[k]?=J []->(h.boxes.set b cs)[k]?=J []:=λk hk=>by
   rw[lM,aL]
   .exact hk
   grind
  rcases s.np _ _ _ r f with p|p|p<;>simp_all
 .simp only[lM]at n;split at n
  .rename_i e';subst e';injection n with n;subst n;rw[v]at q;injection q with q;subst q;refine⟨E,H,Z,cells,e,c.this,hv,λz1 sz N z4=>?_⟩;rcases k4.2 z1 sz N z4 with L|⟨r1,r2⟩<;>grind
  .rename_i uh;by_cases d:m=g
   .subst d;rcases s.np _ _ _ v q with p|p|p
    .omega
    .simp_all
    .rw[n]at p;injection p with p;subst p;exact⟨E,H,O,cells,e,c.this,.nil⟩
   .obtain⟨r,f,ha,l,e',t,A⟩:=s.box b' m X q n;exact⟨r,f,ha,l,e',(c.other m d).trans t,A⟩
 .obtain⟨r,fn,S,z2,f,t⟩:=s.loop z3 m L C x;have d:m≠g:=by rintro rfl;rw[f]at y;cases y
  exact⟨r,fn,S,z2,(c.other m d).trans f,t⟩
 .obtain⟨r,f,t,l,e',fz,A,h5,h6⟩:=s.tok z0 ht;have d:(K.tk z0).1≠g:=λe=>f b (e ▸ v);refine⟨r,f,t,l,e',fz,(c.other _ d).trans A,h5,λj hj C=>?_⟩;rw[<-h6 j hj C];exact World.frozen?_of_block (w:=w) (c.other _ d)
 .have f:=(s.md L x).2;have d:L≠g:=by rintro rfl;rw[f]at y;cases y
  exact⟨(s.md L x).1,(c.other L d).trans f⟩
def bK.ZW{w':bP}(s:bK K G ok w0 h w){g:Nat}{cs:List U}{cells:Array aG}{e:aF}(L:K.base<=g)(H:∀j,K.ic g j=ag)(D:∀b:Nat,K.β[b]?=J g->h.boxes[b]?=J [])
 (T:∀t,alive h t=V->(K.tk t).1≠g) {c0:Array aG} {e0:aF} {z0:Nat × Nat} (n:w.heap[g]?=J (.cells c0 e0 z0))
 (x:Option (Nat × Nat × Nat)) (X:∀z1 sz A,x=J (z1,sz,A)->cs=[]∨(F cs=z1*sz/\A<=cells.size))
 (c:jC w w' g (.cells cells e (0,0))) (hv:aI K cs (cells.toList.take (F cs))) (yE:cs.all U.cW=V):
 bK (K.mX g x) G ok w0 {h with boxes:=h.boxes++[cs]} w'/\(K.mX g x).β[h.boxes.length]?=J g:=by
 have le:=K.zF g x;have S:(K.mX g x).β[h.boxes.length]?=J g:=by simp[aW.mX,<-s.iN]
 refine⟨⟨s.fL.trans (c.below L),by rw[c.size];exact s.size,λl j x X=>?_,λl q hg'=>?_,by simp[aW.mX,s.iN],λb b' l z hb'=>?_,λb l q z u=>?_,s.mn,s.oe,λz4 l r N E=>?_,s.tn,λt ht=>?_,s.nL,λr E=>?_,s.all⟩,S⟩
 .have HH:K.ic l j=J x:=X;have fP:l≠g:=λz2=>by simp_all
  rw[<-s.ic l j x HH];exact World.cell?_of_block (w:=w) (c.other l fP)
 .obtain⟨d,p,m⟩:=s.dA l q hg';exact⟨d,p.mono le,m⟩
 .rcases qc z with C|⟨Y,p2⟩<;>rcases qc hb' with z2|⟨q1,q2⟩
  .rcases s.np _ _ _ C z2 with r|r|r<;>grind
  .grind
  .grind
  omega
 .rcases qc z with C|⟨Y,p2⟩
  .have pG:b<F h.boxes:=(by rw[<-s.iN];exact(aT.1 C).1);rw[qH pG]at u;by_cases f:l=g
   .subst f;have:=D b C;rw[u]at this;injection this with this;subst this;exact⟨L,H,O,cells,e,c.this,.nil⟩
   .obtain⟨p,m,ha,d,e',v,y⟩:=s.box b l q C u;exact⟨p,m,ha,d,e',(c.other l f).trans v,y.mono le (aT.1 C).1⟩
  .subst p2;have:q=cs:=(by rw[Y,s.iN]at u;simp at u;exact u.symm);subst this;exact⟨L,H,yE,cells,e,c.this,hv.mono le,by rw[Y];simp only[aW.mX,if_true];exact X⟩
 .obtain⟨p,fn,Z,z3,m,v,y⟩:=s.loop z4 l r N E;have f:l≠g:=by rintro rfl;rw[m]at n;cases n
  exact⟨p,fn,Z,z3,(c.other l f).trans m,v.mono le,y⟩
 .obtain⟨p,m,v,d,e',fz,y,h5,h6⟩:=s.tok t ht;have f:=T t ht;refine⟨p,λb z=>?_,v,d,e',fz,(c.other _ f).trans y,h5,λj hj N=>?_⟩
  .rcases qc z with C|⟨-,C⟩
   .exact m b C
   .exact f C
  .rw[<-h6 j hj N];exact World.frozen?_of_block (w:=w) (c.other _ f)
 .have m:=(s.md r E).2;have f:r≠g:=by rintro rfl;rw[m]at n;cases n
  exact⟨(s.md r E).1,(c.other r f).trans m⟩
def aW.row(K:aW)(g off m size:Nat)(cells:Nat->Option aG):aW:=
 {K with ic:=λc j=>if c=g/\off<=j/\j<m then cells j else K.ic c j,tn:=K.tn+1,tk:=λd=>if d=K.tn then (g,m,size) else K.tk d}
def aW.NU{K:aW}{g off m size}{cells}(h:∀j,off<=j->K.ic g j=ag)(l:K.base<=g):K.Le (K.row g off m size cells):=by
 refine⟨O,λd j f c=>?_,λ_ _ h=>h,λ_ _ h=>h,Nat.le_succ _,λp n=>?_,λ_ h=>h,λ_ _=>rfl,λd j f c=>?_⟩
 .simp only[aW.row]
  grind
 .simp only[aW.row]
  grind
 .simp only[aW.row]at c
  grind
def bK.row{w':bP}{h':Heap}(s:bK K G ok w0 h w){g off m:Nat}{cells:Array aG}{e:aF}{fz:Nat × Nat}
 (A:h'.boxes=h.boxes) (H:h'.loops=h.loops) (Eg:h'.tn=h.tn+1) (L:∀t,alive h' t=V->t=h.tn∨(alive h t=V/\(K.tk t).1≠g))
 (E:K.base<=g) (uh:∀b:Nat,K.β[b]?≠J g) (xg:∀j,off<=j->K.ic g j=ag) (gK:w.heap.size<=w'.heap.size)
 (hos:w'.os=w.os) (ai6:w'.tape=w.tape) (MY:w'.output=w.output)
 (f:∀k o,k≠g->w.heap[k]?=J o->w'.heap[k]?=J o) (n:w'.heap[g]?=J (.cells cells e fz))
 (T:∀o,w.heap[g]?=J o->∃c0 e0 z0,o=.cells c0 e0 z0)
 (avr:∀j c,K.ic g j=J c->cells[j]?=J c) (hom:off<=m) (_hm:m<=cells.size) (xe:∀j,m<=j->j<cells.size->kZ fz j=ah):
 bK (K.row g off m cells.size (λj=>cells[j]?)) G ok w0 h' w':=by
 have le:=aW.NU (m:=m) (size:=cells.size) (cells:=λj=>cells[j]?) xg E;refine⟨?_,e8 s.size gK,λl j z4 X=>?_,λl cs hg=>?_,by rw[A];exact s.iN,by rw[A];exact s.np,λb l cs hb Z=>?_,by rw[H];exact s.mn,s.oe,λz3 l z1 N hr=>?_,by rw[Eg];simp[aW.row,s.tn],
  λt ht=>?_,λt x ht Np r=>?_,λz1 hr=>?_,s.all⟩
 .refine s.fL.trans ⟨hos,ai6,MY,gK,λk hk=>?_⟩;have di:k<w.heap.size:=my hk s.size
  grind
 .simp only[aW.row]at X;split at X
  .rename_i Z;obtain⟨rfl,_,_⟩:=Z;rw[cell_of n];exact X
  .by_cases p:l=g
   .subst p;rw[cell_of n];simp_all
   .have di:=s.ur X;rw[<-s.ic l j z4 X];refine World.cell?_of_block (w:=w) ?_;simp_all
 .obtain⟨d,v,q⟩:=s.dA l cs hg;exact⟨d,v.mono le,λj c C=>le.ic _ _ _ (q j c C)⟩
 .rw[A]at Z;obtain⟨v,q,ha,d,e',Y,z⟩:=s.box b l cs hb Z;have p:l≠g:=λe=>uh b (e ▸ hb);refine⟨v,λj=>?_,ha,d,e',f l _ p Y,z.mono le (aT.1 hb).1⟩;simp only[aW.row];simp_all
 .rw[H]at hr;obtain⟨v,fn,tmps,z2,q,Y,z⟩:=s.loop z3 l z1 N hr;have p:l≠g:=by rintro rfl;obtain⟨_,_,_,h⟩:=T _ q;cases h
  exact⟨v,fn,tmps,z2,f l _ p q,Y.mono le,z⟩
 .rcases L t ht with rfl|⟨u,S⟩
  .simp only[aW.row,s.tn,if_true];refine⟨E,uh,λj C=>?_,cells,e,fz,n,O,λj C N=>(tP n j).trans (xe j C N)⟩
   grind
  .have avP:=qN u;have y:(K.row g off m cells.size (λj=>cells[j]?)).tk t=K.tk t:=le.tk t (by rw[s.tn];omega);rw[y];obtain⟨v,q,Y,d,e',fz',z,h5,h6⟩:=s.tok t u;refine⟨v,q,λj C=>?_,d,e',fz',f _ _ S z,h5,λj C N=>?_⟩
   .simp only[aW.row];simp_all
   .rw[<-h6 j C N,tP z,tP (f _ _ S z)]
 .rcases L t ht with rfl|⟨u,S⟩<;>rcases L x Np with rfl|⟨D,avN⟩
  .rfl
  .exfalso;have y:(K.row g off m cells.size (λj=>cells[j]?)).tk x=K.tk x:=le.tk x (by rw[s.tn];exact qN D);rw[y]at r;simp[aW.row,s.tn]at r;omega
  .exfalso;have y:(K.row g off m cells.size (λj=>cells[j]?)).tk t=K.tk t:=le.tk t (by rw[s.tn];exact qN u);rw[y]at r;simp[aW.row,s.tn]at r;omega
  .have y:(K.row g off m cells.size (λj=>cells[j]?)).tk t=K.tk t:=le.tk t (by rw[s.tn];exact qN u);have e2:(K.row g off m cells.size (λj=>cells[j]?)).tk x=K.tk x:=le.tk x (by rw[s.tn];exact qN D);rw[y,e2]at r;exact s.nL t x u D r
 .obtain⟨v,q⟩:=s.md z1 hr;have p:z1≠g:=by rintro rfl;obtain⟨_,_,_,h⟩:=T _ q;cases h
  exact⟨v,f z1 _ p q⟩
def aW.tight(K:aW)(g:Nat)(cells:Array aG):aW:={K with ic:=λc j=>if c=g then cells[j]? else K.ic c j}
def bK.alL(s:bK K G ok w0 h w)(cells:Array aG)(e:aF):
 K.Le (K.tight w.heap.size cells)/\bK (K.tight w.heap.size cells) G ok w0 h {w with heap:=w.heap.push (.cells cells e)}:=by
 have L:∀j,K.ic w.heap.size j=ag:=λj=>by
  cases d:K.ic w.heap.size j with|none=>rfl|some y=>have:=s.ur d;omega
 have le:K.Le (K.tight w.heap.size cells):=by
  refine⟨O,λn j y d=>?_,λ_ _ h=>h,λ_ _ h=>h,aV _,λ_ _=>rfl,λ_ h=>h,λ_ _=>rfl,λn j y d=>by
   simp only[aW.tight]at d;split at d
   .rename_i z0;rw[z0];exact .inr s.size
   simp_all⟩
  simp only[aW.tight];rw[aL]
  .exact d
  .grind
 have l:=s.push (.cells cells e);refine⟨le,l.fL,l.size,λn j z2 r=>?_,λn cs H=>?_,l.iN,l.np,λb n cs q d=>?_,l.mn,l.oe,λZ n z1 N S=>?_,l.tn,λz x=>?_,l.nL,l.md,s.all⟩
 .simp only[aW.tight]at r;split at r
  .simp_all
  .exact l.ic n j z2 r
 .obtain⟨c,f,g⟩:=s.dA n cs H;exact⟨c,f.mono le,λj y v=>le.ic _ _ _ (g j y v)⟩
 .obtain⟨f,g,E,c,e',p,m⟩:=l.box b n cs q d;refine⟨f,λj=>?_,E,c,e',p,m.mono le (aT.1 q).1⟩;simp only[aW.tight];obtain⟨_,_,_,_,_,T,_⟩:=s.box b n cs q d
  grind
 .obtain⟨f,A,t,X,g,p,m⟩:=l.loop Z n z1 N S;exact⟨f,A,t,X,g,p.mono le,m⟩
 .obtain⟨f,g,p,c,e',C,m,D⟩:=l.tok z x;obtain⟨_,_,_,_,_,_,u,_⟩:=s.tok z x;refine⟨f,g,λj v=>?_,c,e',C,m,D⟩;simp only[aW.tight];have:=oy u;have Y:(K.tight w.heap.size cells).tk z=K.tk z:=rfl
  grind
end
section
variable {P:bk}
def cQ{t:aF}{d:TypeDesc}(h:P.underlying t=J d)(w:bP):(underlying t).run P w=.ok d w:=run_underlying h w
def oU{t:aF}{i:TypeInfo}(h:P.info? t=J i)(w:bP):(typeInfo t).run P w=.ok i w:=by simp[typeInfo,h]
def ar1{t:aF}{n:Nat}(h:cC P t=J n):∃i,P.info? t=J i/\i.size=n:=by simpa [cC] using h
def mi{t:aF}{n:Nat}(h:cC P t=J n)(w:bP):(sizeOf t).run P w=.ok n w:=by obtain⟨i,c,d⟩:=ar1 h;simp[sizeOf,oU c,d]
def Jc{t:aF}{b:Bool}(h:fH P t=J b)(w:bP):(isAgg t).run P w=.ok b w:=by
 unfold fH at h;unfold isAgg;cases c:P.underlying t with|none=>simp_all|some d=>rw[c]at h;rw[Sem.run_bind,cQ c];cases d<;>(injection h with h;subst h;rfl)
def Ps{t:aF}{z:U}(h:fW P t=J z)(w:bP):∃v,(zeroValue t).run P w=.ok v w/\z=oP v:=by
 unfold fW at h;split at h
 .rename_i i c;simp only[dg]at h;obtain⟨v,d,rfl⟩:=h;exact⟨v,by simp[zeroValue,oU c,d],O⟩
 grind
def LQ{α:Type}{es:List (List α)}{sz}(c:∀r∈es,F r=sz):∀{i:Nat} {row:List α},es[i]?=J row->(es.flatten.drop (i*sz)).take sz=row:=by
 induction es with
 |nil=>simp_all|cons r es f=>
  have d:F r=sz:=c r b8;intro i row h;cases i with|zero=>simp_all|succ i=>have:=f (λr g=>c r (by grind)) (i:=i) (row:=row) (by simp_all);rw[<-this];simp only[jP];rw[xP,show(i+1)*sz=F r+i*sz by rw[d,js];omega];rw[nq M];simp
def LR{α:Type}{es:List (List α)}{sz}(c:∀r∈es,F r=sz):∀n:Nat,(es.take n).flatten=es.flatten.take (n*sz):=by
 induction es with
 |nil=>simp_all|cons r es f=>
  have d:F r=sz:=c r b8;intro n;cases n with
  |zero=>simp|succ n=>
   rw[List.take_succ_cons,jP,jP,f (λr g=>c r (by grind)) n,show(n+1)*sz=F r+n*sz by rw[d,js];omega]
   grind
def TF{α:Type}{es:List (List α)}{sz}(c:∀r∈es,F r=sz):∀n:Nat,(es.drop n).flatten=es.flatten.drop (n*sz):=by
 induction es with
 |nil=>simp_all|cons r es f=>
  have d:F r=sz:=c r b8;intro n;cases n with|zero=>simp|succ n=>rw[List.drop_succ_cons,jP,f (λr g=>c r (by grind)) n,show(n+1)*sz=F r+n*sz by rw[d,js];omega];rw[xP,nq (M:F r<=F r+n*sz),(M:F r+n*sz-F r=n*sz)];simp
def lX{α:Type}{es:List (List α)}{sz}(c:∀r∈es,F r=sz):F es.flatten=F es*sz:=by
 induction es with
 |nil=>simp|cons r es d=>
  grind
end
section
variable {P:bk} {K:aW} {G:Nat->Option (List U)} {ok:aR->Nat->Code->Bool} {w0 w:bP} {h:Heap}
def βJ{b:Nat}{g:Nat}(s:bK K G ok w0 h w)(c:K.β[b]?=J g):∃cs,h.boxes[b]?=J cs:=by
 have d:b<F h.boxes:=by rw[<-s.iN];exact(aT.1 c).1
 simp_all
def Sz(s:bK K G ok w0 h w){a:U}{cs:List U}(f:yj G h a=J cs){r:aG}(u:aQ K a r):
 ∃g p m,r=.pointer (J ⟨g,p,ag⟩)/\aI K cs m/\∀(j:Nat) (c:aG),m[j]?=J c->w.cell? ⟨g,p+j,ag⟩=J c:=by
 unfold yj at f;split at f
 .rename_i T d;simp only[dg]at f;obtain⟨l,n,rfl⟩:=f;cases u with
  |box b g _ C=>
   obtain⟨_,_,_,cells,e,z,A⟩:=s.box b g l C n;refine⟨g,d,(cells.toList.take (F l)).drop d,O,A.1.drop d,λj c t=>?_⟩;rw[cell_of z]
   grind
  |dA g _=>obtain⟨cells,x,y⟩:=s.dA g l n;refine⟨g,d,cells.drop d,O,x.drop d,λj c t=>?_⟩;exact s.ic _ _ _ (y (d+j) c (by simp_all))
 .rename_i q H i d;simp only[dg]at f;obtain⟨row,n,rfl⟩:=f;cases u with
  |elem _ _ _ _ g o p cells D v E N S L=>
   refine⟨g,p,((cells.drop (i*q)).take q).drop d,O,?_,λj c t=>?_⟩
   .have:=((v.drop (i*q)).take q).drop d
    rwa [LQ D n]at this
   .refine s.ic _ _ _ ?_
    grind
 grind
def WJ(s:bK K G ok w0 h w){t:aF}{a x:U}(c:aD P G h t a=J x){r:aG}(y:aQ K a r):
 ∃g p v,r=.pointer (J ⟨g,p,ag⟩)/\(loadVar t ⟨g,p,ag⟩).run P w=.ok v w/\aQ K x v:=by
 unfold aD at c;split at c
 .rename_i cs m n;obtain⟨g,p,d,rfl,l,f⟩:=Sz s n y;split at c
  .rename_i z A;split at c
   .rename_i H;injection c with c;subst c;have u:=run_loadCells_list (P:=P) w ⟨g,p,ag⟩ (d.take z) (λj v L=>by
     rw[Addr.hC]
     grind)
    have q:F (d.take z)=z:=(by rw[cR,<-l.length];omega);rw[q]at u;exact⟨g,p,.agg (d.take z).toArray,O,by simp[loadVar,Jc m,mi A,u],.agg _ _ (by simpa using l.take z)⟩
   grind
  grind
 .rename_i cs m n;obtain⟨g,p,d,rfl,l,f⟩:=Sz s n y;cases cs with
  |nil=>grind
  |cons S cs=>
   simp at c;subst c;cases l with|cons _ D _ E C N=>have:=f 0 D O;simp only[xU]at this;exact⟨g,p,D,O,by simp[loadVar,Jc m,this],C⟩
 grind
def Cc{g:Nat}(off:Nat)(e:aF)(fz:Nat × Nat):∀(vs:List aG) (i:Nat) (cells:Array aG) (w:bP),
 w.heap[g]?=J (.cells cells e fz)->off+i+F vs<=cells.size->(∀v∈vs,mE v=V)->(∀j,off+i<=j->j<off+i+F vs->kZ fz j=ah)->
 ∃w' cZ,(storeCells ⟨g,off,ag⟩ vs i).run P w=.ok () w'/\jC w w' g (.cells cZ e fz)/\
  cZ.toList=cells.toList.take (off+i)++vs++cells.toList.drop (off+i+F vs):=by
 intro vs
 induction vs with
 |nil=>intro i cells w l r d m;exact⟨w,cells,O,⟨O,O,O,O,λ_ _=>rfl,l⟩,by simp⟩|cons v rest A=>
  intro i cells w l r d m;simp only[ef]at r m;have q:off+i<cells.size:=by omega
  have z:v.oneCell'=V:=by have:=d v b8;cases v<;>first|rfl|simp[mE]at this
  have s:(store ((⟨g,off,ag⟩:Addr).add i) v).run P w=.ok () (w.setCell ⟨g,off+i,ag⟩ v):=by rw[Addr.hC,run_store P w _ v _ z,cell_of l,tP l,m (off+i) M M,jO q];simp
  have n:(w.setCell ⟨g,off+i,ag⟩ v).heap[g]?=J (.cells (cells.setIfInBounds (off+i) v) e fz):=by simp[World.setCell,Cr,l]
  obtain⟨w',cZ,y,c,f⟩:=A (i+1) _ _ n (by grind) (λN L=>d N (by grind)) (λj H C=>m j M M);refine⟨w',cZ,by simp only[storeCells,Sem.run_bind,s,Result.andThen_ok,y],⟨c.os,c.tape,c.output,by rw[c.size];simp_all,λk x=>?_,c.this⟩,?_⟩
  .rw[c.other k x];simp only[World.setCell,Cr]
   grind
  .rw[f];simp only[aah,ef];have p:off+i<F cells.toList:=(by simpa using q);rw[xT,av p];rw[(M:off+(i+1)=off+i+1),(M:off+i+(F rest+1)=off+i+1+F rest)];rw[Kg,xP];have d:F (cells.toList.take (off+i))=off+i:=(by simp;omega);rw[d];have t:(cells.toList.take (off+i)).take (off+i+1)=cells.toList.take (off+i):=ga M;have u:(cells.toList.take (off+i)).drop (off+i+1+F rest)=[]:=nq M;rw[t,u];have D:off+i+1-(off+i)=1:=(by omega);have E:off+i+1+F rest-(off+i)=F rest+1:=(by omega);simp_all
def arc{g off c aS:Nat}{e:aF}(f:c=off∨aS=0){vs:List aG}{cells:Array aG}{w:bP}(n:aS=0->vs=[])(d:w.heap[g]?=J (.cells cells e (0,0)))(p:off+F vs<=cells.size)(m:∀v∈vs,mE v=V):
 ∃w' cZ,(storeCells ⟨g,c,ag⟩ vs 0).run P w=.ok () w'/\jC w w' g (.cells cZ e (0,0))/\cZ.toList=cells.toList.take (off+0)++vs++cells.toList.drop (off+0+F vs):=by
 rcases f with rfl|l
 .exact Cc _ e (0,0) vs 0 cells w d M m (λj _ _=>by simp[kZ])
 .have:=n l;subst this;exact⟨w,cells,O,⟨O,O,O,O,λ_ _=>rfl,d⟩,by simp⟩
def Zj{c cs:List U}{f d:List aG}(off:Nat)(g:aI K c f)(l:aI K cs d):aI K (dC c off cs) (f.take off++d++f.drop (off+F d)):=by unfold dC;rw[l.length];exact((g.take off).append l).append (g.drop _)
def Zi{c cs}(off)(d:c.all U.cW=V)(f:cs.all U.cW=V):(dC c off cs).all U.cW=V:=by
 rw[eJ]at d f ⊢;intro l g;simp only[dC,List.mem_append]at g
 grind
def PC{α:Type}{c d:List α}{off}(h:off+F d<=F c):F (c.take off++d++c.drop (off+d.length))=F c:=by
 grind
def asi{α:Type}{d c:List α}{off n}(h:off+F c<=n)(m:n<=F d):(d.take off++c++d.drop (off+F c)).take n=(d.take n).take off++c++(d.take n).drop (off+F c):=by
 have f:(d.take n).take off=d.take off:=by grind
 have g:(d.take n).drop (off+F c)=(d.drop (off+F c)).take (n-(off+F c)):=by rw[List.drop_take]
 rw[f,g,Kg];have l:F (d.take off++c)=off+F c:=by simp;omega
 rw[ga M,l]
def jC.same{w w'}{g}{o}(c:jC w w' g o)(h:w.heap[g]?=some o):w'.heap=w.heap:=by
 apply Array.ext_getElem?;intro k;by_cases d:k=g
 .subst d;rw[c.this,h]
 .exact c.other k d
def bK.PO{w':bP}(s:bK K G ok w0 h w){b g off:Nat}{cs f:List U}{vs:List aG}{cells cZ:Array aG}{e:aF}(x:K.β[b]?=J g)(hold:h.boxes[b]?=J f)(q:off+F cs<=F f)
 (l:w.heap[g]?=J (.cells cells e (0,0))) (c:jC w w' g (.cells cZ e (0,0))) (d:cZ.toList=cells.toList.take (off+0)++vs++cells.toList.drop (off+0+F vs)) (n:aI K cs vs) (v:cs.all U.cW=V):
 bK K G ok w0 {h with boxes:=h.boxes.set b (dC f off cs)} w':=by
 obtain⟨Y,Z,T,u,H,m,E⟩:=s.box b g f x hold;rw[l]at m;injection m with m;injection m with m X;subst m;simp only[xU]at d;have z:F f<=F cells.toList:=by have:=E.le;simpa using this
 by_cases p:f=[]
 .subst p;have L:cs=[]:=by cases cs with|nil=>rfl|cons _ _=>simp_all
  subst L;have C:vs=[]:=by cases n;rfl
  subst C;have S:cZ=cells:=by apply Array.toList_inj.1;rw[d];simp
  subst S;have N:=c.same l;have r:h.boxes.set b (dC [] off [])=h.boxes:=by
   rw[show dC ([]:List U) off []=[] by simp[dC]];apply oh;intro k;rw[lM];split
   .grind
   .rfl
  rw[r];exact s.same N c.tape c.os c.output
 .have y:F (dC f off cs)=F f:=by unfold dC;exact PC q
  refine s.arO x hold p y (λc0 H t=>?_) c ?_ (Zi off T v)
  .rw[l]at t;injection t with t;injection t with t;subst t;have:F cZ.toList=F cells.toList:=by rw[d];exact PC (by rw[<-n.length];omega)
   grind
  .rw[y,d,asi (by rw[<-n.length];omega) z];exact Zj off E.1 n
def xZ{cs:List U}{vs:List aG}(h:aI K cs vs)(c:cs.all U.cW=V):∀v∈vs,mE v=V:=by intro v g;obtain⟨i,d⟩:=List.getElem?_of_mem g;obtain⟨m,l,f⟩:=h.get' d;exact ajR (eJ.1 c m (cT l)) f
def yy(j):kZ (0,0) j=ah:=by simp[kZ]
def asZ(s:bK K G ok w0 h w){t:aF}{a x:U}{h':Heap}(c:bV P h t a x=J h'){m d:aG}(C:aQ K a m)(D:aQ K x d):
 ∃w',(Instr.storeAt t m d).run P w=.ok () w'/\bK K G ok w0 h' w':=by
 unfold bV at c;split at c
 .rename_i b v cs Z q z;split at c
  .rename_i f hold;split at c
   .rename_i g;injection c with c;subst c;cases C with|box _ S _ p=>obtain⟨T,X,Y,cells,e,u,E⟩:=s.box b S f p hold;obtain⟨l,y⟩:=Gh q D;have r:d.cells.size=Z:=(by rw[<-g.1,l.length];simp);have A:F f<=cells.size:=E.le;obtain⟨w',n,H,L,N⟩:=Cc (P:=P) v e (0,0) d.cells.toList 0 cells w u (by grind) (xZ l y) (λj _ _=>yy j);refine⟨w',by simp[Instr.storeAt,Instr.sureAddr,storeVar,mi z,r,H],s.PO p hold M u L N l y⟩
   grind
  grind
 grind
end
section
variable {P:bk} {K:aW} {G:Nat->Option (List U)} {ok:aR->Nat->Code->Bool} {w0 w:bP} {h:Heap}
def Yields(K:aW)(G:Nat->Option (List U))(ok:aR->Nat->Code->Bool)(w0:bP)(x:U)(h':Heap)(r:Result Next):Prop:=
 ∃c d w',K.Le c/\bK c G ok w0 h' w'/\aQ c x d/\(r=.ok (.value d) w'∨(r=.ok .skip w'/\d=undef))
def Yields.lE(s:bK K G ok w0 h w){x:U}{v:aG}(d:aQ K x v){r:Result Next}(c:r=.ok (.value v) w):Yields K G ok w0 x h r:=
 ⟨K,v,w,.refl K,s,d,.inl c⟩
def agX(off):∀(l:List aG) (i:Nat) (cells:Array aG),off+i+F l<=cells.size->
 ((l.zipIdx i).foldl (λcs p=>cs.setIfInBounds (off+p.2) p.1) cells).toList=cells.toList.take (off+i)++l++cells.toList.drop (off+i+F l):=by
 intro l
 induction l with
 |nil=>simp_all|cons t rest q=>
  intro i cells n;simp only[ef]at n;have m:off+i<cells.size:=by omega
  simp only[List.zipIdx_cons,List.foldl_cons];rw[q (i+1) _ (by grind)];simp only[aah,ef];have c:off+i<F cells.toList:=by simpa using m
  rw[xT,av c];rw[(M:off+(i+1)=off+i+1),(M:off+i+(F rest+1)=off+i+1+F rest)];rw[Kg,xP];have d:F (cells.toList.take (off+i))=off+i:=by simp;omega
  rw[d];have f:(cells.toList.take (off+i)).take (off+i+1)=cells.toList.take (off+i):=ga M;have g:(cells.toList.take (off+i)).drop (off+i+1+F rest)=[]:=nq M;rw[f,g];have r:off+i+1-(off+i)=1:=by omega
  have s:off+i+1+F rest-(off+i)=F rest+1:=by omega
  simp_all
def auU(f)(vs cells:Array aG):vs.zipIdx.foldl f cells=(vs.toList.zipIdx 0).foldl f cells:=by rw[<-Array.foldl_toList,Array.toList_zipIdx]
def Tx{g}:∀{parts:List (Nat × U)} {cells d:List U},qS g cells parts=J d->cells.all U.cW=V->d.all U.cW=V:=by
 intro parts
 induction parts with
 |nil=>intro cells d f m;simp[qS]at f;simp_all|cons u rest s=>
  intro cells d f m;simp only[qS]at f;split at f
  .rename_i n t cs v c;split at f
   .refine s f (Zi n m ?_);unfold U.bF at c;split at c
    .simp_all
    .grind
    .grind
    .rename_i p q r;injection c with c;subst c;have x:u.2.cW=V:=by cases l:u.2<;>first|rfl|exact absurd l (p _)|exact absurd l (q _)|exact absurd l r
     grind
   grind
  grind
def Gy{l:Nat->Option (Nat × Nat)}:∀{parts:List (Nat × U)} {cells g:List U} {c:List (Nat × aG)} {cZ:Array aG},
 qS l cells parts=J g->aI K cells cZ.toList->(c.map (·.1)=parts.map (·.1))->aI K (parts.map (·.2)) (c.map (·.2))->
 ∃d,Instr.fill l cZ c=J d/\aI K g d.toList:=by
 intro parts
 induction parts with
 |nil=>
  intro cells g c cZ f p m r;have:c=[]:=by simpa using m
  subst this;simp[qS]at f;subst f;exact⟨cZ,O,p⟩
 |cons X rest D=>
  obtain⟨i,Z⟩:=X;intro cells g c cZ f p m r;cases c with
  |nil=>grind
  |cons E x=>
   obtain⟨T,L⟩:=E;simp only[eI,QF]at m;obtain⟨rfl,m⟩:=m;simp only[eI]at r;cases r with
   |cons _ _ _ _ C z=>
    simp only[qS]at f;split at f
    .rename_i n t cs y u;split at f
     .rename_i s;obtain⟨v,_⟩:=Gh u C;have N:L.cells.size=t:=(by rw[<-s.1,v.length];simp);have A:cZ.size=F cells:=(by rw[p.length];simp);have q:=agX n L.cells.toList 0 cZ (by grind);obtain⟨d,Y,H⟩:=D (cZ:=L.cells.zipIdx.foldl (λcs (S,j)=>cs.setIfInBounds (n+j) S) cZ) f (by rw[auU,q];simpa using Zj n p v) m z;refine⟨d,?_,H⟩;simp only[Instr.fill,y];simp_all
     grind
    grind
def Ou{ρ:bR->U}{ρ':bR->aG}(c:∀x,aQ K (ρ x) (ρ' x))(parts:Array (Nat × bR)):
 ((parts.map λp=>(p.1,ρ' p.2)).toList.map (·.1)=(parts.toList.map λp=>(p.1,ρ p.2)).map (·.1))/\
 aI K ((parts.toList.map λp=>(p.1,ρ p.2)).map (·.2)) ((parts.map λp=>(p.1,ρ' p.2)).toList.map (·.2)):=by
 simp only[Ct,Ad];exact⟨O,aI.map_mk λp _=>c p.2⟩
def zW{t:aF}{zero:List U}(c:(fW P t).bind U.bF=J zero)(w:bP):∃v,(zeroValue t).run P w=.ok v w/\aI K zero v.cells.toList/\zero.all U.cW=V:=by simp only[wD]at c;obtain⟨n,d,f⟩:=c;obtain⟨v,g,rfl⟩:=Ps d w;obtain⟨l,m⟩:=Gh f (Ij (K:=K) v);simp_all
def alr(fields:Array Field)(d:∀f∈fields.toList,(P.info? f.type).isSome=V)(w:bP):
 ∃c:Array (Nat × Nat),(fields.mapM (m:=Sem) λ(f:Field)=>do pure (f.offset,<-sizeOf f.type)).run P w=.ok c w/\∀i,c[i]?=placesOf P fields i:=by
 have p:∀(n:List Field),(∀f∈n,(P.info? f.type).isSome=V)->
  (n.mapM (m:=Sem) λ(f:Field)=>do pure (f.offset,<-sizeOf f.type)).run P w=.ok (n.map λf=>(f.offset,(cC P f.type).getD 0)) w:=by
  intro n
  induction n with
  |nil=>simp_all|cons f n t=>intro q;have g:=q f b8;obtain⟨i,l⟩:=abw.1 g;have s:cC P f.type=J i.size:=(by simp[cC,l]);rw[List.mapM_cons,Sem.run_bind,Sem.run_bind,mi s];simp_all
 refine⟨(fields.toList.map λf=>(f.offset,(cC P f.type).getD 0)).toArray,?_,λi=>?_⟩
 .rw[Array.mapM_eq_mapM_toList,Sem.run_map,p fields.toList d];rfl
 .simp only[iQ,List.getElem?_map,FD,placesOf];cases g:fields[i]? with|none=>rfl|some f=>have r:f∈fields.toList:=(by simpa using Array.mem_of_getElem? g);obtain⟨i,l⟩:=abw.1 (d f r);simp[cC,l]
def aeb{t:aF}{parts:Array (Nat × bR)}{ρ:bR->U}{ρ':bR->aG}(L:∀x,aQ K (ρ x) (ρ' x)){x:U}
 (c:iI P t (parts.toList.map λp=>(p.1,ρ p.2))=J x) (w:bP):∃v,(Instr.build t (parts.map λp=>(p.1,ρ' p.2))).run P w=.ok v w/\aQ K x v:=by
 obtain⟨D,E⟩:=Ou L parts;unfold iI at c;split at c
 .rename_i fields zero q r;obtain⟨X,f,g,_⟩:=zW (K:=K) r w;split at c
  .rename_i n;simp only[dg]at c;obtain⟨C,m,rfl⟩:=c;obtain⟨l,y,z⟩:=alr (P:=P) fields (λS T=>Fz.1 n S (by simp_all)) w;have A:placesOf P fields=(l[·]?):=(by funext i;exact(z i).symm);rw[A]at m;obtain⟨d,s,u⟩:=Gy m g D E;exact⟨.agg d,by simp only[Instr.build,Sem.run_bind,f,Result.andThen_ok,cQ q,y,s,Sem.run_pure],.agg _ _ u⟩
  grind
 .rename_i Y elem zero q r;obtain⟨X,f,g,_⟩:=zW (K:=K) r w;split at c
  .rename_i N H;simp only[dg]at c;obtain⟨C,m,rfl⟩:=c;obtain⟨d,s,u⟩:=Gy m g D E;exact⟨.agg d,by simp only[Instr.build,Sem.run_bind,f,Result.andThen_ok,cQ q,mi H,s,Sem.run_pure],.agg _ _ u⟩
  grind
 grind
def Tw{sz}:∀{parts:List (Nat × U)} {rows c:List (List U)},(∀r∈rows,F r=sz)->w7 sz rows parts=J c->
 qS (λi=>J (i*sz,sz)) rows.flatten parts=J c.flatten/\(∀r∈c,F r=sz)/\F c=F rows:=by
 intro parts
 induction parts with
 |nil=>intro rows c g d;simp[w7]at d;subst d;exact⟨O,g,O⟩|cons A rest t=>
  obtain⟨i,C⟩:=A;intro rows c g d;simp only[w7]at d;split at d
  .rename_i cs m;split at d
   .rename_i f;have l:∀r∈rows.set i cs,F r=sz:=λr q=>by
     grind
    obtain⟨y,v,z⟩:=t l d;have n:=lX g;have p:i*sz+sz<=F rows.flatten:=(by rw[n];have:(i+1)*sz<=F rows*sz:=mz _ f.2;rw[js]at this;omega);have x:(rows.set i cs).flatten=dC rows.flatten (i*sz) cs:=by
     clear y v z t d p l;unfold dC;rw[f.1]
     induction rows generalizing i with
     |nil=>simp_all|cons r rows u=>
      have s:F r=sz:=g r b8;cases i with|zero=>simp_all|succ i=>have:=u i (λr q=>g r (by grind)) ⟨f.1,by simp_all⟩ (lX (λr q=>g r (by grind)));simp only[List.set_cons_succ,jP,this];rw[show(i+1)*sz=F r+i*sz by rw[s,js];omega,Kg,xP];rw[ga (M:F r<=F r+i*sz),nq (M:F r<=F r+i*sz+sz)];rw[(M:F r+i*sz-F r=i*sz),(M:F r+i*sz+sz-F r=i*sz+sz)];simp
    refine⟨?_,v,by simp_all⟩;simp only[qS,m];simp_all
   grind
  grind
def ET(zero:Array aG)(n):((wm (n*zero.size)).map (zero[·%zero.size]!)).toList=(bB n zero.toList).flatten:=by
 induction n with
 |zero=>simp|succ n f=>
  rw[List.replicate_succ',oC,<-f];simp only[Ct,Array.toList_range,js,Nat.one_mul,List.range_add,jQ,Ad,jP,aaQ,gj];congr 1;apply List.ext_getElem
  .simp
  .intro i d g;have c:i<zero.size:=(by simpa using d);simp[Nat.mod_eq_of_lt c,c]
def aI.yw{zero:List U}{z:List aG}(c:aI K zero z):∀n:Nat,aI K (bB n zero).flatten (bB n z).flatten
 |0=>.nil
 |n+1=>by simp only[List.replicate_succ,jP];exact c.append (aI.yw c n)
def IM{zero}(c:zero.all U.cW=V)(n):(bB n zero).flatten.all U.cW=V:=by simp_all
def aea(s:bK K G ok w0 h w){t:aF}{len:Nat}{parts:Array (Nat × bR)}{ρ:bR->U}{ρ':bR->aG}(T:∀x,aQ K (ρ x) (ρ' x)){x:U}
 (d:fy P t len (parts.toList.map λp=>(p.1,ρ p.2))=J x):
 ∃n v w',K.Le n/\bK n G ok w0 h w'/\aQ n x v/\(Instr.buildSlice t len (parts.map λp=>(p.1,ρ' p.2))).run P w=.ok v w':=by
 obtain⟨X,Y⟩:=Ou T parts;unfold fy at d;split at d
 .rename_i elem z;split at d
  .rename_i c zero y S;obtain⟨m,A,l,C⟩:=zW (K:=K) S w;split at d
   .rename_i L;simp only[dg]at d;obtain⟨E,N,rfl⟩:=d;obtain⟨f1,f2,f3⟩:=Tw (λz1 hr=>by simp_all) N;have D:m.cells.size=c:=(by rw[<-L.2.1,l.length];simp);have f:((wm (len*c)).map (m.cells[·%m.cells.size]!)).toList=(bB len m.cells.toList).flatten:=(by rw[<-D];exact ET _ _);obtain⟨g,q,Z⟩:=Gy (cZ:=(wm (len*c)).map (m.cells[·%m.cells.size]!)) f1 (by rw[f];exact l.yw len) X Y;obtain⟨le,s'⟩:=s.alL g elem;refine⟨_,.slice (J ⟨w.heap.size,0,ag⟩) len len,_,le,s',?_,?_⟩
    .refine .list .tight c E w.heap.size 0 len len g.toList (by simp_all) f2 (Z.mono le) (λj z0 hj=>?_) ⟨aV _,O⟩ (Tx f1 (IM C len));simp only[aW.tight,oj,if_true];simp_all
    .by_cases r:len*c=0
     .have u:len=0:=by
       rcases abm.1 r with h|h
       .exact h
       .omega
      subst u;simp only[Kt]at q;have H:(wm 0).map (λx=>(#[]:Array aG)[x%(#[]:Array aG).size]!)=(wm 0).map (m.cells[·%m.cells.size]!):=(by simp);simp only[Instr.buildSlice,Sem.run_bind,cQ z,Result.andThen_ok,mi y,Kt];simp only[nt,gt_iff_lt,if_false,abs,if_true,Sem.run_pure,Result.andThen_ok,H,q,newRow,Sem.run_bind,run_newObj]
     .simp only[Instr.buildSlice,Sem.run_bind,cQ z,Result.andThen_ok,mi y];rw[aL M,aL r];simp only[Sem.run_pure,Sem.run_bind,A,Result.andThen_ok,q,newRow,run_newObj]
   grind
  grind
 grind
def acy(s:bK K G ok w0 h w){t:aF}{cs:List U}(l:(fW P t).bind U.bF=J cs):
 ∃c v w',K.Le c/\bK c G ok w0 (h.box cs).2 w'/\aQ c (h.box cs).1 v/\(Instr.alloc t V (.tuple #[])).run P w=.ok v w':=by
 obtain⟨p,d,f,g⟩:=zW (K:=K) l w;obtain⟨m,n⟩:=s.Ob t f g;exact⟨_,_,_,K.NR _,m,n,by simp[Instr.alloc,d,newVar,newRow]⟩
def ad0(s:bK K G ok w0 h w){t:aF}{x:U}{cs:List U}(f:x.bF=J cs){c:aG}(g:aQ K x c):
 ∃d v w',K.Le d/\bK d G ok w0 (h.box cs).2 w'/\aQ d (h.box cs).1 v/\(Instr.box t c).run P w=.ok v w':=by
 obtain⟨n,p⟩:=Gh f g;obtain⟨l,m⟩:=s.Ob t n p;exact⟨_,_,_,K.NR _,l,m,by simp[Instr.box,newVar,newRow]⟩
def aln(s:bK K G ok w0 h w){t:aF}{l c x:U}{h':Heap}(d:vJ P h t l c=J (x,h')){D C:aG}(X:aQ K l D)(T:aQ K c C):
 ∃p v w',K.Le p/\bK p G ok w0 h' w'/\aQ p x v/\(Instr.makeSlice t D C).run P w=.ok v w':=by
 unfold vJ at d;split at d
 .rename_i elem kl l kc c Y;obtain⟨rfl,_⟩:=X.gP;obtain⟨rfl,_⟩:=T.gP;split at d
  .rename_i i zero u Z;obtain⟨r,y,n,z⟩:=zW (K:=K) Z w;split at d
   .rename_i g;obtain⟨E,H,h3,L,h5,N⟩:=g;injection d with d;obtain⟨rfl,rfl⟩:=eD d;have m:i.zero=J r:=by
     simp only[zeroValue,Sem.run_bind,oU u,Result.andThen_ok]at y;cases hzz:i.zero with|none=>simp_all|some v=>simp_all
    have A:r.cells.size=i.size:=(by rw[<-N,n.length];simp);have q:=run_make (P:=P) w t elem i r Y u m kl kc l c E H L M;have f:(madeCells r.cells (c.toNat*i.size)).toList=(bB c.toNat r.cells.toList).flatten:=(by rw[<-A];exact ET _ _);obtain⟨q1,q2⟩:=s.Ob (cells:=madeCells r.cells (c.toNat*i.size)) elem (by rw[f];exact n.yw _) (IM z _);cases q2 with|box _ _ _ S=>exact⟨_,_,_,K.NR _,q1,.arr _ _ _ _ _ _ _ S M (aV _) (.inl O) (.inl O),q⟩
   grind
  grind
 grind
def pj{hi:Nat}{x:Option U}{d n:Nat}(f:gc hi x d=J n){l:Option aG}(q:∀a,x=J a->∃c,l=J c/\aQ K a c)(r:x=ag->l=ag)(w:bP):
 (l=ag/\n=d/\x=ag)∨(∃c,l=J c/\(∀(top:Nat) (g:Go.BoundsCode),hi<=top->(Instr.sliceBound c top g).run P w=.ok n w)/\n<=hi/\x.isSome=V):=by
 unfold gc at f;split at f
 .simp_all
 .rename_i _ k t;split at f
  .rename_i m;injection f with f;subst f;obtain⟨c,rfl,p⟩:=q _ O;obtain⟨rfl,_⟩:=p.gP;refine .inr ⟨_,O,λtop g s=>?_,by omega,O⟩;have:t<=(top:Int):=(by omega);simp[Instr.sliceBound,asIntOf,m.1,this]
  grind
 grind
def Av{lo hi mx:Option U}{v s mx':Option aG}(u:∀a,lo=J a->∃c,v=J c/\aQ K a c)(x:lo=ag->v=ag)
 (z:∀a,hi=J a->∃c,s=J c/\aQ K a c) (A:hi=ag->s=ag) (S:∀a,mx=J a->∃c,mx'=J c/\aQ K a c) (Y:mx=ag->mx'=ag)
 {top aS len m g l:Nat} (r:Bool) (e1:gc top mx top=J m) (e2:gc m hi len=J g) (D:gc g lo 0=J l)
 (t:len<=aS) (E:top<=aS) (N:mx.isSome=V->hi.isSome=V) (w:bP):
 ∃m',(Instr.sliceBounds r len aS v s mx').run P w=.ok (l,g,m') w/\(mx=ag->m'=aS/\m=top)/\(mx.isSome=V->m'=m)/\l<=g/\(hi=ag->g=len)/\g<=m'/\(hi.isSome=V->g<=m):=by
 rcases pj (P:=P) e1 S Y w with⟨rfl,rfl,rfl⟩|⟨c1,rfl,q1,nX,T⟩
 .rcases pj (P:=P) e2 z A w with⟨rfl,rfl,rfl⟩|⟨Z,rfl,H,f,X⟩
  .rcases pj (P:=P) D u x w with⟨rfl,rfl,rfl⟩|⟨L,rfl,y,n,_⟩
   .exact⟨aS,by simp[Instr.sliceBounds],λ_=>⟨O,O⟩,b8,bY _,λ_=>rfl,t,by simp⟩
   .have q:=λd=>y g d (aV _);exact⟨aS,by simp[Instr.sliceBounds,q],λ_=>⟨O,O⟩,b8,n,λ_=>rfl,t,by simp⟩
  .have p:=λd=>H aS d M;rcases pj (P:=P) D u x w with⟨rfl,rfl,rfl⟩|⟨L,rfl,y,n,_⟩
   .exact⟨aS,by simp[Instr.sliceBounds,p],λ_=>⟨O,O⟩,b8,bY _,λe=>by simp_all,by omega,λ_=>f⟩
   .have q:=λd=>y g d (aV _);exact⟨aS,by simp[Instr.sliceBounds,p,q],λ_=>⟨O,O⟩,b8,n,λe=>by simp_all,by omega,λ_=>f⟩
 .have X:=N T;have C:=λd=>q1 aS d E;rcases pj (P:=P) e2 z A w with⟨_,_,rfl⟩|⟨Z,rfl,H,f,_⟩
  .grind
  .have p:=λd=>H m d (aV _);rcases pj (P:=P) D u x w with⟨rfl,rfl,rfl⟩|⟨L,rfl,y,n,_⟩
   .exact⟨m,by simp[Instr.sliceBounds,C,p],λe=>by simp_all,λ_=>rfl,bY _,λe=>by simp_all,f,λ_=>f⟩
   .have q:=λd=>y g d (aV _);exact⟨m,by simp[Instr.sliceBounds,C,p,q],λe=>by simp_all,λ_=>rfl,n,λe=>by simp_all,f,λ_=>f⟩
def Ol{ρ:bR->U}{ρ':bR->aG}(d:∀x,aQ K (ρ x) (ρ' x))(o:Option bR):
 (∀a,o.map ρ=J a->∃c,o.map ρ'=J c/\aQ K a c)/\(o.map ρ=ag->o.map ρ'=ag):=by
 cases o with|none=>simp_all|some x=>simp_all
def ak4{k:Tok}{sz:Nat}{es:List (List U)}{g off aS size l c m':Nat}{f d:Bool}
 (Z:aQ K (.list k sz es) (.slice (J ⟨g,off,ag⟩) (F es) aS)) (C:size=sz∨es=[]) (T:l<=c) (S:c<=F es) (p:c<=m') (N:m'<=aS)
 (s:f=V->c=F es/\m'=aS) (X:d=V->m'=c):
 aQ K (.list (p9 k f d (c-l)) sz ((es.take c).drop l)) (.slice (J (if m'=l then ⟨g,off,ag⟩ else (⟨g,off,ag⟩:Addr).add (l*size))) (c-l) (m' - l)):=by
 cases Z with
 |fZ=>
  have x:c=0:=by simpa using S
  subst x;have l0:l=0:=by omega
  subst l0;have m0:m'=0:=by omega
  subst m0;refine .list _ sz [] g off 0 0 [] O b8 .nil b8 ⟨aV _,?_⟩ O;unfold p9
  grind
 |list _ _ _ _ _ z1 _ cells hn t E xg Y ha=>
  have n:F ((es.take c).drop l)=c-l:=by simp;omega
  have m:(if m'=l then (⟨g,off,ag⟩:Addr) else (⟨g,off,ag⟩:Addr).add (l*size))=⟨g,if m'=l then off else off+l*size,ag⟩:=by
   split
   .rfl
   .rw[Addr.hC]
  rw[m];have A:∀H∈(es.take c).drop l,F H=sz:=λH p=>t H (xS (List.mem_of_mem_drop p));have y:((es.take c).drop l).flatten=(es.flatten.take (c*sz)).drop (l*sz):=by rw[TF (λH p=>t H (xS p)),LR t]
  refine .list _ sz _ g _ _ _ ((cells.take (c*sz)).drop (l*sz)) n.symm A (by rw[y];exact(E.take _).drop _) (λj z0 hj=>?_) ?_ ?_
  .grind
  rotate_left
  .grind
  .refine⟨M,?_⟩;have q:=Y.2;cases k with
   |nil=>simp_all|tight=>
    simp only[p9]
    grind
   |held=>
    simp only[p9]
    grind
   |free z2=>
    simp only[p9];simp only at q;cases d with
    |true=>simp_all|false=>
     by_cases r:(f&&c-l !=0)=V
     .simp only[jB,if_false,r,if_true];simp only[bm,bne_iff_ne,ne_eq]at r;obtain⟨v,L⟩:=s r.1;have z:es≠[]:=(by rintro rfl;simp at v;omega);have u:size=sz:=C.resolve_right z;obtain⟨t1,t2,t3,t4⟩:=q;subst u;rw[aL M];refine⟨t1,t2,?_,?_⟩
      .rw[t3,<-v,Ks];have:l*size<=c*size:=mz _ T;omega
      .rw[L,Ks];have:l*size<=aS*size:=mz _ M;omega
     grind
def ar7{t:aF}{x y:U}{lo hi mx:Option bR}{ρ:bR->U}{ρ':bR->aG}(hρ:∀x,aQ K (ρ x) (ρ' x))
 (d:gw P t x (lo.map ρ) (hi.map ρ) (mx.map ρ)=J y) {c:aG} (hx:aQ K x c) (w:bP):
 ∃v,(Instr.sliceAt t c (lo.map ρ') (hi.map ρ') (mx.map ρ')).run P w=.ok v w/\aQ K y v:=by
 obtain⟨D,E⟩:=Ol hρ lo;obtain⟨q,r⟩:=Ol hρ hi;obtain⟨l,f⟩:=Ol hρ mx;unfold gw at d;split at d
 .cases d
 rename_i avo;have S:(mx.map ρ).isSome=V->(hi.map ρ).isSome=V:=by
  intro h1;cases h2:hi.map ρ with|some _=>rfl|none=>simp_all
 split at d
 .rename_i z4 L;split at d
  .cases d
  rename_i hmn;have aiK:mx.map ρ=ag:=by simpa using hmn
  split at d
  .rename_i p C;split at d
   .rename_i A H;injection d with d;subst d;obtain⟨rfl,_⟩:=hx.gP;obtain⟨m,u,q2,_⟩:=Av (P:=P) (mx:=ag) (mx':=ag) D E q r b8 b8 ah (top:=z4.size) (aS:=z4.size) (m:=z4.size) rfl C H (aV _) (aV _) b8 w;refine⟨_,?_,.v (.string (z4.extract A p)) rfl⟩;simp only[Instr.sliceAt,Sem.run_bind,cQ L,Result.andThen_ok,Instr.slice,f aiK];simp[u]
   grind
  grind
 .rename_i elem k sz es L;split at d
  .rename_i z z0 X n;split at d
   .rename_i p C;split at d
    .rename_i A H;split at d
     .rename_i gK;injection d with d;subst d;have Z:p<=es.length:=by rcases pj (P:=P) n l f w with⟨_,rfl,_⟩|⟨_,_,_,N,_⟩<;>rcases pj (P:=P) C q r w with⟨_,rfl,_⟩|⟨_,_,_,uf,_⟩<;>omega
      cases hx with
      |nil=>
       obtain⟨m,u,q2,q3,q4,q5,q6,q7⟩:=Av (P:=P) D E q r l f V (top:=0) (aS:=0) (len:=0) n C H (aV _) (aV _) S w;have AY:p=0:=(by simpa using Z);subst AY;have l0:A=0:=(by omega);subst l0;have MN:m=0:=by
        rcases pj (P:=P) n l f w with⟨_,_,hn⟩|⟨_,_,_,N,T⟩
        .simp_all
        .simp_all
       subst MN;refine⟨.slice ag 0 0,?_,?_⟩
       .simp only[Instr.sliceAt,Sem.run_bind,cQ L,Result.andThen_ok,Instr.slice,u,mi X];simp
       .simp only[p9,abb,aaO];exact .nil _
      |fZ _ a0=>
       obtain⟨m,u,q2,q3,q4,q5,q6,q7⟩:=Av (P:=P) D E q r l f V (top:=0) (aS:=0) (len:=0) n C H (aV _) (aV _) S w;have AY:p=0:=(by simpa using Z);subst AY;have l0:A=0:=(by omega);subst l0;have MN:m=0:=by
        rcases pj (P:=P) n l f w with⟨_,_,hn⟩|⟨_,_,_,N,T⟩
        .simp_all
        .simp_all
       subst MN;refine⟨.slice (J a0) 0 0,?_,?_⟩
       .simp only[Instr.sliceAt,Sem.run_bind,cQ L,Result.andThen_ok,Instr.slice,u,mi X];simp
       .have aiF:z0=0:=by
         rcases pj (P:=P) n l f w with⟨_,hn,_⟩|⟨_,_,_,N,T⟩
         .omega
         .simp_all
        subst aiF;have hct:∀z2:Option U,p9 .tight (decide (0=([]:List (List U)).length)&&z2.isNone) (z2.isSome&&decide (0=0)) (0 - 0)=.tight:=(by intro z2;cases z2<;>rfl);rw[hct];simp only[abb,aaO];exact .fZ _ _
      |list _ _ _ z1 s z3 g cells hn hr gC xg ht ha=>
       subst hn;obtain⟨m,u,q2,q3,q4,q5,q6,q7⟩:=Av (P:=P) D E q r l f V (top:=es.length) (aS:=g) (len:=es.length) n C H ht.1 ht.1 S w;have aiG:m<=g:=by
        rcases pj (P:=P) n l f w with⟨_,_,hn⟩|⟨_,_,_,N,T⟩
        .simp_all
        .have:=q3 T;have:=ht.1;omega
       refine⟨.slice (J (if m=A then ⟨z1,s,ag⟩ else (⟨z1,s,ag⟩:Addr).add (A * z))) (p - A) (m - A),?_,?_⟩
       .simp only[Instr.sliceAt,Sem.run_bind,cQ L,Result.andThen_ok,Instr.slice,u,mi X,Sem.run_pure]
        grind
       .refine ak4 (.list _ _ _ z1 s _ g cells rfl hr gC xg ht ha) gK q4 Z q6 aiG (λh=>?_) (λh=>?_)<;>simp_all
     grind
    grind
   grind
  grind
 .rename_i elem b s len g L;split at d
  .rename_i z z0 X n;split at d
   .rename_i p C;split at d
    .rename_i A H;cases hx with
     |arr _ z1 _ _ _ Y qP hβ hl pH A_ rW=>
      obtain⟨m,u,q2,q3,q4,q5,q6,q7⟩:=Av (P:=P) D E q r l f V (top:=g) (aS:=qP) (len:=len) n C H M pH S w;have hmc:z0<=g:=(by rcases pj (P:=P) n l f w with⟨_,z2,_⟩|⟨_,_,_,z2,_⟩<;>omega);have hmm:z0<=m:=by
       cases hq:Ai ρ mx with|none=>simp_all|some z5=>simp_all
      have Z:p<=z0:=by
       cases hq:Ai ρ mx with
       |none=>
        cases vt:Ai ρ hi with|none=>simp_all|some z5=>simp_all
       |some z5=>simp_all
      have xk:(Instr.sliceAt t (.slice (J ⟨z1,Y,ag⟩) len qP) (Ai ρ' lo) (Ai ρ' hi) (Ai ρ' mx)).run P w=.ok (.slice (J ⟨z1,if m=A then Y else Y+A * z,ag⟩) (p - A) (m - A)) w:=by
       simp only[Instr.sliceAt,Sem.run_bind,cQ L,Result.andThen_ok,Instr.slice,u,mi X,Sem.run_pure];congr 2;split
       .rfl
       .simp[Addr.hC]
      refine⟨_,xk,?_⟩;split at d
      .cases d
      rename_i Bd;split at d
      .rename_i DV;injection d with d;subst d;have:=q3 DV.1;rw[(M:p - A=0),(M:m - A=0)];exact .fZ _ _
      .injection d with d;subst d;refine .arr _ _ _ _ _ _ _ hβ M M ?_ ?_
       .grind
       .cases hq:Ai ρ mx with
        |some z5=>simp_all|none=>
         obtain⟨r1,r2⟩:=q2 hq;by_cases DV:z0=A
         .omega
         .rw[aL DV];by_cases MK:A=0
          .simp_all
          .exact .inr (.inr (.inl (by have:=Ko (abp MK) (abp Bd);omega)))
    grind
   grind
  grind
 .rename_i z3 elem b s L;split at d
  .rename_i z z0 X n;split at d
   .rename_i p C;split at d
    .rename_i A H;injection d with d;subst d;cases hx with
     |box _ z1 _ hβ=>
      obtain⟨m,u,q2,q3,q4,q5,q6,q7⟩:=Av (P:=P) D E q r l f ah (top:=z3) (aS:=z3) (len:=z3) n C H (aV _) (aV _) S w;have hm:m=z0:=by
       rcases pj (P:=P) n l f w with⟨_,_,hn⟩|⟨_,_,_,N,T⟩
       .simp_all
       .simp_all
      subst hm;refine⟨.slice (J ⟨z1,if m=A then s else s+A * z,ag⟩) (p - A) (m - A),?_,.arr _ _ _ _ _ _ _ hβ M (aV _) (.inl rfl) (.inl rfl)⟩;simp only[Instr.sliceAt,Sem.run_bind,cQ L,Result.andThen_ok,Instr.sureAddr,u,mi X,Sem.run_pure];congr 3;split
      .rfl
      .simp[Addr.hC]
    grind
   grind
  grind
 grind
def Lx{f:Field}{n:Nat}(d:cC P f.type=J n)(c:n≠0)(g o:Nat)(w:bP):(fieldPlace ⟨g,o,ag⟩ f).run P w=.ok ⟨g,o+f.offset,ag⟩ w:=by simp[fieldPlace,mi d,c,Addr.hC]
def agI{t:aF}{x y:U}{f:Nat}(d:dU P t x f=J y){c:aG}(q:aQ K x c)(w:bP):
 ∃v,(Instr.fieldAt t c f).run P w=.ok v w/\aQ K y v:=by
 unfold dU at d;split at d
 .rename_i fields n;split at d
  .rename_i u g;split at d
   .cases d
   .rename_i S p m;have l:S≠0:=λe=>p e;split at d
    .rename_i Y r;injection d with d;subst d;cases q with|box b s _ A=>exact⟨_,by simp[Instr.fieldAt,cQ n,g,Instr.sureAddr,Lx m l],.box _ _ _ A⟩|dA s _=>exact⟨_,by simp[Instr.fieldAt,cQ n,g,Instr.sureAddr,Lx m l],.dA _ _⟩
    .rename_i X L i r;injection d with d;subst d;cases q with|elem _ _ _ _ s o T cells E H C D N z=>exact⟨.pointer (J ⟨s,T+u.offset,ag⟩),by simp[Instr.fieldAt,cQ n,g,Instr.sureAddr,Lx m l],.elem _ _ _ _ s o _ cells E H C D M z⟩
    grind
   grind
  grind
 grind
def ajp{t:aF}{x ix y:U}(d:dK P t x ix=J y){c H:aG}(q:aQ K x c)(hi:aQ K ix H)(w:bP):
 ∃v,(Instr.indexAt t c H).run P w=.ok v w/\aQ K y v:=by
 unfold dK at d;split at d
 .rename_i elem k N T C i l;obtain⟨rfl,_⟩:=hi.gP;split at d
  .rename_i f;injection d with d;subst d;cases q with
   |nil=>grind
   |fZ=>grind
   |list _ _ _ r g z1 E cells X z A p ht s=>subst X;refine⟨.pointer (J ⟨r,g+i.toNat*N,ag⟩),?_,.elem _ _ _ _ r g _ cells z A p M M s⟩;simp[Instr.indexAt,cQ l,asIntOf,f.1,f.2.1,mi f.2.2,Addr.hC]
  grind
 .rename_i elem b g len E C i l;obtain⟨rfl,_⟩:=hi.gP;split at d
  .rename_i m n;split at d
   .rename_i f;injection d with d;subst d;cases q with|arr _ r _ _ _ D S u hl Y Z rW=>have:D=g:=(by grind);subst this;exact⟨_,by simp[Instr.indexAt,cQ l,asIntOf,f.1,f.2,mi n,Addr.hC],.box _ _ _ u⟩
   grind
  grind
 .rename_i len elem z2 g C i l;obtain⟨rfl,_⟩:=hi.gP;split at d
  .rename_i m n;split at d
   .rename_i f;injection d with d;subst d;cases q with|box b r _ u=>exact⟨_,by simp[Instr.indexAt,cQ l,asIntOf,f.1,f.2,mi n,Addr.hC,Instr.sureAddr],.box _ _ _ u⟩|dA r _=>exact⟨_,by simp[Instr.indexAt,cQ l,asIntOf,f.1,f.2,mi n,Addr.hC,Instr.sureAddr],.dA _ _⟩
   grind
  grind
 .rename_i len elem N T k g C i l;obtain⟨rfl,_⟩:=hi.gP;split at d
  .rename_i m n;split at d
   .rename_i f;injection d with d;subst d;cases q with|elem _ _ _ _ r o z0 cells z A p L hp s=>exact⟨.pointer (J ⟨r,z0+i.toNat*m,ag⟩),by simp[Instr.indexAt,cQ l,asIntOf,f.1,f.2,mi n,Addr.hC,Instr.sureAddr],.elem _ _ _ _ r o _ cells z A p L M s⟩
   grind
  grind
 grind
def XI{t:aF}{cs:List U}{off:Nat}{y:U}(d:EI P t cs off=J y){vs:Array aG}(f:aI K cs vs.toList)(w:bP):
 ∃v,(part t vs off).run P w=.ok v w/\aQ K y v:=by
 unfold EI at d;split at d
 .rename_i c;simp only[dg]at d;obtain⟨g,m,rfl⟩:=d;refine⟨.agg (vs.extract off (off+g)),by simp[part,Jc c,mi m],.agg _ _ ?_⟩;have:(vs.extract off (off+g)).toList=(vs.toList.drop off).take g:=by rw[Array.toList_extract,List.extract_eq_take_drop];congr 1;omega
  rw[this];exact(f.drop off).take g
 .rename_i c;obtain⟨n,p,l⟩:=f.get d;exact⟨n,by simp only[part,Sem.run_bind,Jc c,Result.andThen_ok];simp_all,l⟩
 grind
def ajs{t:aF}{x ix y:U}(d:zu P t x ix=J y){c l:aG}(n:aQ K x c)(hi:aQ K ix l)(w:bP):
 ∃v,(Instr.index t c l).run P w=.ok v w/\aQ K y v:=by
 unfold zu at d;split at d
 .rename_i p C i g;obtain⟨rfl,_⟩:=hi.gP;obtain⟨rfl,_⟩:=n.gP;split at d
  .rename_i b f;injection d with d;subst d;split at f
   .rename_i q;refine⟨.int .u8 b.toNat,?_,.v _ O⟩;have:p[i.toNat]?=J b:=(by have r:i.toNat<p.data.size:=(JK.1 f).1;have s:p.data[i.toNat]=b:=(JK.1 f).2;have u:i.toNat<p.size:=r;rw[getElem?_pos p i.toNat u];exact congrArg J s);simp only[Instr.index,Sem.run_bind,asIntOf,Sem.run_pure,Result.andThen_ok,cQ g,av q,this]
   grind
  grind
 .rename_i len elem cs C i g;obtain⟨rfl,_⟩:=hi.gP;split at d
  .rename_i H A;split at d
   .rename_i z;cases n with|agg _ L m=>obtain⟨v,D,E⟩:=XI d m w;exact⟨v,by simp only[Instr.index,Sem.run_bind,asIntOf,Sem.run_pure,Result.andThen_ok,cQ g,av z,mi A,D],E⟩
   grind
  grind
 grind
def NG{t:aF}(c:isIface P t=J ah):∃d,P.underlying t=J d/\∀f,d≠ .interface f:=by
 unfold isIface at c
 grind
def acV{x y:U}{xt a:aF}{m:Bool}(d:tD P x a m=J y){c:aG}(l:aQ K x c)(w:bP):
 ∃v,(Instr.typeAssert c xt a m).run P w=.ok v w/\aQ K y v:=by
 unfold tD at d;split at d
 .rename_i C z f;obtain⟨u,g,t⟩:=NG f;cases l with
  |iface _ _ q l=>
   split at d
   .rename_i n;injection d with d;subst d;subst n;cases m with|true=>refine⟨.tuple #[q,.bool V],?_,.tuple _ _ (.cons _ _ _ _ l (.cons _ _ _ _ (.v _ O) .nil))⟩;simp only[Instr.typeAssert,Sem.run_bind,cQ g,Result.andThen_ok];simp_all|false=>refine⟨q,?_,l⟩;simp only[Instr.typeAssert,Sem.run_bind,cQ g,Result.andThen_ok];simp_all
   .rename_i n;split at d
    .rename_i r;simp only[dg]at d;obtain⟨A,p,rfl⟩:=d;obtain⟨v,s,rfl⟩:=Ps p w;refine⟨.tuple #[v,.bool ah],?_,.tuple _ _ (.cons _ _ _ _ (Ij v) (.cons _ _ _ _ (.v _ O) .nil))⟩;simp only[Instr.typeAssert,Sem.run_bind,cQ g,Result.andThen_ok];simp_all
    grind
 .rename_i f;obtain⟨u,g,t⟩:=NG f;obtain⟨rfl,_⟩:=l.gP;split at d
  .rename_i r;simp only[dg]at d;obtain⟨A,p,rfl⟩:=d;obtain⟨v,s,rfl⟩:=Ps p w;refine⟨.tuple #[v,.bool ah],?_,.tuple _ _ (.cons _ _ _ _ (Ij v) (.cons _ _ _ _ (.v _ O) .nil))⟩;simp only[Instr.typeAssert,Sem.run_bind,cQ g,Result.andThen_ok];simp_all
  grind
 grind
def adZ{c}{b}{x}(d:rI c b=J x):(c=.eql/\x=.v (.bool b))∨(c=.neq/\x=.v (.bool !b)):=by
 unfold rI at d
 grind
def RQ{d:BinOp}{t:aF}{x y:bR}{a b r:U}(c:At P d t x y a b=J r){p q:aG}(n:aQ K a p)(s:aQ K b q)(w:bP):
 ∃v,(do eqGuard d t x y p q;binOp d t p q:Sem aG).run P w=.ok v w/\aQ K r v:=by
 unfold At at c;split at c
 .rename_i A C u z;have f:=GC u n;have g:=GC z s;subst f;subst g;simp only[wD]at c;obtain⟨D,l,m⟩:=c;exact⟨D,EK l w,Fb m⟩
 grind
def vg{c:BinOp}{t:aF}{x y:bR}{p q:aG}{b:Bool}{r:U}(g:rI c b=J r)(s:∀c,eqGuard c t x y p q=pure ())(w:bP)
 (f:∀d,(Op.equalIn (d+1) t p q).run P w=.ok b w) (m:binOp .eql t p q=(do pure (.bool (<-Op.equal t p q)))) (n:binOp .neq t p q=(do pure (.bool (!(<-Op.equal t p q))))):
 ∃v,(do eqGuard c t x y p q;binOp c t p q:Sem aG).run P w=.ok v w/\aQ K r v:=by
 have l:(Op.equal t p q).run P w=.ok b w:=f 9999;rcases adZ g with⟨rfl,rfl⟩|⟨rfl,rfl⟩
 .exact⟨.bool b,by simp_all,.v _ O⟩
 .exact⟨.bool !b,by simp_all,.v _ O⟩
def V5{t:aF}(c:isIface P t=J V):∃d,P.underlying t=J (.interface d):=by
 unfold isIface at c
 grind
def adx{d:BinOp}{t:aF}{x y:bR}{a b r:U}(c:cy P d t x y a b=J r){p q:aG}(g:aQ K a p)(l:aQ K b q)(w:bP):
 ∃v,(do eqGuard d t x y p q;binOp d t p q:Sem aG).run P w=.ok v w/\aQ K r v:=by
 unfold cy at c;split at c
 .rename_i n s;have f1:=g.gP.1;have f2:=l.gP.1;subst f1;subst f2;split at c
  .injection c with c;subst c;exact⟨.bool (n.data.toList==s.data.toList),by simp[eqGuard,binOp,Op.stringOp,ByteArray.toList_eq],.v _ O⟩
  .injection c with c;subst c;exact⟨.bool !(n.data.toList==s.data.toList),by simp[eqGuard,binOp,Op.stringOp,ByteArray.toList_eq],.v _ O⟩
  .split at c
   .rename_i hl;injection c with c;subst c;refine⟨.string (n++s),?_,.v _ O⟩;have:¬(((n.size+s.size:Nat):Int)>IntKind.i64.max):=(by simp only[IntKind.max,IntKind.signed,IntKind.bits];simp;omega);simp only[eqGuard,binOp,Op.stringOp];simp_all
   grind
  .exact RQ c g l w
 .rename_i L N;split at c
  .rename_i m;obtain⟨D,f⟩:=V5 m;cases g with|iface _ _ Y C=>have f2:=l.gP.1;subst f2;refine vg c (λd=>by cases d<;>rfl) w (λu=>?_) O O;simp only[Op.equalIn,Sem.run_bind,cQ f,Result.andThen_ok,Sem.run_pure]
  grind
 .rename_i L N;split at c
  .rename_i m;obtain⟨D,f⟩:=V5 m;cases l with|iface _ _ Y C=>have f2:=g.gP.1;subst f2;refine vg c (λd=>by cases d<;>rfl) w (λu=>?_) O O;simp only[Op.equalIn,Sem.run_bind,cQ f,Result.andThen_ok,Sem.run_pure]
  grind
 .rename_i H E;split at c
  .rename_i e f;have f2:=l.gP.1;subst f2;cases g<;>(refine vg c (λd=>by cases d<;>rfl) w (λu=>?_) O O;simp only[Op.equalIn,Sem.run_bind,cQ f,Result.andThen_ok,Sem.run_pure,FW])
  grind
 .rename_i H E;split at c
  .rename_i e f;have f2:=g.gP.1;subst f2;cases l<;>(refine vg c (λd=>by cases d<;>rfl) w (λu=>?_) O O;simp only[Op.equalIn,Sem.run_bind,cQ f,Result.andThen_ok,Sem.run_pure,FW])
  grind
 .split at c
  .rename_i f;have f2:=l.gP.1;subst f2;cases g<;>(refine vg c (λd=>by cases d<;>rfl) w (λu=>?_) O O;simp only[Op.equalIn,Sem.run_bind,cQ f,Result.andThen_ok,Sem.run_pure,FW])
  grind
 .split at c
  .rename_i f;have f2:=g.gP.1;subst f2;cases l<;>(refine vg c (λd=>by cases d<;>rfl) w (λu=>?_) O O;simp only[Op.equalIn,Sem.run_bind,cQ f,Result.andThen_ok,Sem.run_pure,FW])
  grind
 .rename_i k sz Z X;split at c
  .rename_i e f;have f2:q=.slice ag 0 0:=by
    cases l with|nil=>rfl|list _ _ _ _ _ _ _ _ _ _ _ _ z _=>exact z.2.elim
   subst f2;cases g with
   |nil=>refine vg c (λd=>by cases d<;>rfl) w (λu=>?_) O O;simp only[Op.equalIn,Sem.run_bind,cQ f,Result.andThen_ok,Sem.run_pure,Option.isNone_none,decide_true]
   |fZ=>refine vg c (λd=>by cases d<;>rfl) w (λu=>?_) O O;simp only[Op.equalIn,Sem.run_bind,cQ f,Result.andThen_ok,Sem.run_pure,FW];rfl
   |list _ _ _ z0 T z1 S cells hn hr hv hc z _=>have A:k≠ .nil:=λe=>(by subst e;exact z.2);refine vg c (λd=>by cases d<;>rfl) w (λu=>?_) O O;simp only[Op.equalIn,Sem.run_bind,cQ f,Result.andThen_ok,Sem.run_pure,A,decide_false]
  grind
 .exact RQ c g l w
def at4{d:UnOp}{a r:U}(c:Fu P d a=J r){p:aG}(m:aQ K a p)(w:bP):∃v,(Op.unary d p).run P w=.ok v w/\aQ K r v:=by
 unfold Fu at c;split at c
 .rename_i q n;have f:=GC n m;subst f;simp only[wD]at c;obtain⟨s,g,l⟩:=c;exact⟨s,EK g w,Fb l⟩
 grind
end
section
variable {P:bk} {K:aW} {G:Nat->Option (List U)} {ok:aR->Nat->Code->Bool} {w0 w:bP} {h:Heap}
def RA{h}{d}{sz}{es}{t}(p:∀n∈h.dead,n∈d)(f:alive ({h with dead:=d}.fresh sz es).2 t=V):
 t=h.tn∨(alive h t=V/\t∉d):=by
 simp only[Heap.fresh,alive,bm,decide_eq_true_eq,Cu,List.contains_eq_mem,decide_eq_false_iff_not]at f;obtain⟨c,g⟩:=f;have c:t<h.tn+1:=of_decide_eq_true c;rcases dp t h.tn with l|m
 .exact .inr ⟨by simp[alive,l];grind,g⟩
 omega
def bK.LV{w':bP}(s:bK K G ok w0 h w){d:List Nat}(T:∀n∈h.dead,n∈d){sz:Nat}{es:List (List U)}{cells:Array aG}{e:aF}{fz:Nat × Nat}{aS:Nat}
 (Z:∀r∈es,F r=sz) (S:es.flatten.all U.cW=V) (hv:aI K es.flatten (cells.toList.take (F es*sz)))
 (L:w'.os=w.os) (l:w'.tape=w.tape) (v:w'.output=w.output) (gK:w'.heap.size=w.heap.size+1)
 (N:∀k,k<w.heap.size->w'.heap[k]?=w.heap[k]?) (p:w'.heap[w.heap.size]?=J (.cells cells e fz))
 (c:F es<=aS) (t:aS*sz<=cells.size) (C:∀j,j<cells.size->kZ fz j=ah):
 ∃q,K.Le q/\bK q G ok w0 ({h with dead:=d}.fresh sz es).2 w'/\aQ q ({h with dead:=d}.fresh sz es).1 (.slice (J ⟨w.heap.size,0,ag⟩) (F es) aS):=by
 have f:∀j,K.ic w.heap.size j=ag:=λj=>by
  cases z:K.ic w.heap.size j with|none=>rfl|some z0=>have:=s.ur z;omega
 have u:F es*sz<=cells.size:=e8 (mz _ c) t;have x:=s.row (h':=({h with dead:=d}.fresh sz es).2) (w':=w') (g:=w.heap.size) (off:=0) (m:=F es*sz) (cells:=cells) (e:=e) (fz:=fz) O O O
  (λz1 ht=>(RA T ht).imp id λE=>⟨E.1,λHa=>by obtain⟨_,_,_,_,_,_,h4,_⟩:=s.tok z1 E.1;simp_all⟩)
  s.size (λb y=>by obtain⟨cs,A⟩:=βJ s y;obtain⟨_,_,_,_,_,h3,_⟩:=s.box b _ cs y A;simp_all) (λj _=>f j) M L l v
  (λk o hk Y=>by grind) p (λo Y=>by simp_all) (λj z0 z=>by simp_all) (bY _) u (λj _ X=>C j X)
 have le:=aW.NU (K:=K) (g:=w.heap.size) (off:=0) (m:=F es*sz) (size:=cells.size) (cells:=λj=>cells[j]?) (λj _=>f j) s.size;refine⟨_,le,x,?_⟩;refine .list (.free h.tn) sz es w.heap.size 0 _ aS (cells.toList.take (F es*sz)) O Z (hv.mono le) (λj z0 H=>?_) ⟨c,?_⟩ S
 .simp only[mM]at H;split at H
  .rename_i di;simp only[aW.row,oj];simp_all
  grind
 .simp only[aW.row,s.tn,if_true];simp_all
def ye(l:List UInt8):∀r∈l.map iy,F r=1:=by intro r c;simp only[jg]at c;obtain⟨b,_,rfl⟩:=c;rfl
def K_(l:List UInt8):(l.map iy).flatten=l.map λb=>U.v (.int .u8 b.toNat):=by
 induction l with
 |nil=>rfl|cons b l c=>simp[iy,c]
def Sd(l:List UInt8):aI K (l.map iy).flatten (l.map λb=>Value.int .u8 b.toNat):=by rw[K_];exact aI.map_mk λb _=>.v _ rfl
def Sc(l:List UInt8):(l.map iy).flatten.all U.cW=V:=by rw[K_,eJ];intro d c;simp only[jg]at c;obtain⟨b,_,rfl⟩:=c;rfl
def atQ(s:bK K G ok w0 h w){e:aF}{str:ByteArray}:
 ∃g v w',K.Le g/\bK g G ok w0 (h.fresh 1 (str.data.toList.map iy)).2 w'/\aQ g (h.fresh 1 (str.data.toList.map iy)).1 v/\(Conv.stringToBytes e str).run P w=.ok v w':=by
 have y:∃c,str.size<=c/\(choose (.appendCap str.size 0 e)).run P w=.ok c {w with drawn:=w.drawn+1}:=by refine⟨_,?_,by simp[Question.forced];rfl⟩;simp[Question.cut]
 obtain⟨c,u,q⟩:=y
 let w1:bP:={w with drawn:=w.drawn+1}
 let cells:Array aG:=str.data.map (λb=>.int .u8 b.toNat)++xL (c - str.size) (.int .u8 0)
 have r:cells.size=c:=by have:str.data.size=str.size:=rfl;simp only[cells,Cs,Array.size_map,Array.size_replicate,this];try omega
 have p:str.data.toList.length=str.size:=rfl
 let f:bP:=({w1 with heap:=w1.heap.push (.cells cells e)}:bP).freeze {block:=w1.heap.size,off:=c} 1
 have m:f.heap[w.heap.size]?=J (.cells cells e (c,c+1)):=by simp only[f,World.freeze,w1,QV,if_false,Cr,if_true,Array.getElem?_push_size,fF];rfl
 have l:∀k,k<w.heap.size->f.heap[k]?=w.heap[k]?:=λk D=>by
  simp only[f,World.freeze,w1,Cr]
  grind
 obtain⟨g,le,A,z⟩:=s.LV (w':=f) (d:=h.dead) (λ_ x=>x) (sz:=1) (es:=str.data.toList.map iy) (cells:=cells) (e:=e) (fz:=(c,c+1)) (aS:=c)
  (ye _) (Sc _) (by have:cells.toList.take ((str.data.toList.map iy).length * 1)=str.data.toList.map λb=>Value.int .u8 b.toNat:=(by simp only[cells,wp,Ct,br,jS];simp_all);rw[this];exact Sd _) rfl rfl rfl (by simp[f,World.freeze,w1]) l m (by simp_all) M (λj C=>by simp[kZ];omega)
 refine⟨g,_,f,le,A,z,?_⟩;have t:(str.data.toList.map iy).length=str.size:=by simp only[br,p]
 rw[t];simp only[Conv.stringToBytes,Sem.run_bind,q,Result.andThen_ok,newRow,run_newObj,Sem.run_pure,markStringish,run_shape];have n:({w1 with heap:=w1.heap.push (.cells cells e)}:bP).shape? w1.heap.size=J (e,c):=by simp[World.shape?,r]
 simp only[w1,cells] at n;simp only[n,run_freeze,Result.andThen_ok,Sem.run_pure,f,w1,cells]
def aed:∀{rows:List (List U)} {l:List UInt8},bytesOf rows=J l->∀{vs:List aG},aI K rows.flatten vs->
 ∃f:List Int,vs=f.map (.int .u8 ·)/\l=f.map λn=>UInt8.ofNat n.toNat:=by
 intro rows
 induction rows with
 |nil=>intro l h vs d;simp[bytesOf]at h;subst h;cases d;simp_all
 |cons v rows r=>
  intro l h vs d;simp only[bytesOf]at h;split at h
  .rename_i b t c m;injection h with h;subst h;unfold byteOf at c;split at c
   .rename_i n;injection c with c;subst c;simp only[jP,ey,dO]at d;cases d with|cons _ u _ cs q p=>obtain⟨f,g,s⟩:=r m p;exact⟨n::f,by rw[q.gP.1,g];rfl,by simp_all⟩
   grind
  grind
def foldl_push(c:List Int):∀d:ByteArray,c.foldl (λb a=>b.push (UInt8.ofNat a.toNat)) d=⟨d.data++(c.map λn=>UInt8.ofNat n.toNat).toArray⟩:=by
 induction c with
 |nil=>simp_all|cons n c f=>simp_all
def EW(s:bK K G ok w0 h w){size:Nat}{x:U}{rows:List (List U)}(f:rowsOf h size x=J rows){c:aG}(S:aQ K x c):
 ∃a aS l,c=.slice a (F rows) aS/\(∀r∈rows,F r=size)/\aI K rows.flatten l/\rows.flatten.all U.cW=V/\F l=F rows*size/\
  (∀b,a=J b->(loadCells b (F rows*size)).run P w=.ok l.toArray w)/\(a=ag->rows=[]):=by
 unfold rowsOf at f;split at f
 .rename_i k X z;split at f
  .rename_i N;injection f with f;subst f;cases S with
   |nil=>exact⟨ag,0,[],O,by simp,.nil,O,by simp,λb g=>(by cases g),λ_=>rfl⟩|fZ _ a0=>refine⟨J a0,0,[],O,by simp,.nil,O,by simp,λb g=>?_,λg=>by cases g⟩;have:=run_loadCells_list (P:=P) w b [] (λj z0 C=>by grind);simp_all|list _ _ _ D d u aS cells m t v H ht Y=>
    subst m;have hl:F cells=F z*X:=(by rw[<-v.length,lX t]);have Nn:F z*X=F z*size:=by
     rcases N with h|h
     .rw[h]
     .simp[h]
    refine⟨J ⟨D,d,ag⟩,aS,cells,O,λr hm=>?_,v,Y,by omega,λb g=>?_,λm=>by cases m⟩
    .grind
    .injection g with g;subst g;have:=run_loadCells_list (P:=P) w ⟨D,d,ag⟩ cells (λj z0 C=>by rw[Addr.hC];exact s.ic _ _ _ (H j z0 C));simp_all
  grind
 .rename_i b d len aS;split at f
  .rename_i cs E;split at f
   .rename_i A;injection f with f;subst f;cases S with
    |arr _ D _ _ _ p y g hl pH L rW=>
     obtain⟨_,_,ka,cells,e,k3,T⟩:=s.box b D cs g E;have q:∀u,d+u*size<=F cs->((bZ u).map λi=>(cs.drop (d+i*size)).take size).flatten=(cs.drop d).take (u*size):=by
      intro u
      induction u with
      |zero=>simp_all|succ u ih=>intro m;rw[ku,jQ,oC,ih (by grind)];simp only[eI,List.map_nil,jP,aaQ,gj];rw[show(u+1)*size=u*size+size by rw[js];omega,List.take_add,List.drop_drop]
     have hf:=q len A;have hk4:=(T.1.drop d).take (len*size);have eM:F cs<=F cells.toList:=(by have:=T.le;simpa using this);have pI:F (((cells.toList.take (F cs)).drop d).take (len*size))=len*size:=(by simp only[cR,eC];omega);refine⟨J ⟨D,p,ag⟩,y,((cells.toList.take (F cs)).drop d).take (len*size),by simp,λr t=>?_,?_,?_,by simp_all,λb' n=>?_,λm=>by cases m⟩
     .simp only[jg,ie]at t;obtain⟨i,Z,rfl⟩:=t;simp only[cR,eC];have:(i+1)*size<=len*size:=mz _ Z
      grind
     .simp_all
     .grind
     .injection n with n;subst n;have:=run_loadCells_list (P:=P) w ⟨D,p,ag⟩ (((cells.toList.take (F cs)).drop d).take (len*size)) (λj z0 C=>by
       rcases L with rfl|hz
       .rw[Addr.hC,cell_of k3]
        grind
       simp_all)
      simp_all
   grind
  grind
 grind
def EB(s:bK K G ok w0 h w){size:Nat}{x:U}{rows:List (List U)}(f:jL h size x=J rows){c:aG}(p:aQ K x c):
 ∃d,(Builtin.lenOf c).run P w=.ok (F rows) w/\(∀r∈rows,F r=size)/\aI K rows.flatten d/\rows.flatten.all U.cW=V/\F d=F rows*size/\
  (Builtin.firstCells size (F rows) c).run P w=.ok d.toArray w:=by
 unfold jL at f;split at f
 .rename_i str;split at f
  .rename_i u;injection f with f;subst f;subst u;obtain⟨rfl,_⟩:=p.gP;have n:F (str.data.toList.map iy)=str.size:=(by rw[br];rfl);refine⟨str.data.toList.map λb=>.int .u8 b.toNat,by rw[n];rfl,ye _,Sd _,Sc _,by simp,?_⟩;rw[n];have:str.extract 0 str.size=str:=(by simp);have t:str.data.map (λb=>Value.int .u8 b.toNat)=(str.data.toList.map λb=>Value.int .u8 b.toNat).toArray:=(by apply JJ;simp);simp only[Builtin.firstCells,this,Sem.run_pure,t]
  grind
 .obtain⟨a,z,d,rfl,y,q,v,g,l,m⟩:=EW (P:=P) s f p;refine⟨d,O,y,q,v,g,?_⟩;cases a with|none=>have:=m O;subst this;have:d=[]:=(by simpa using g);subst this;rfl|some b=>exact l b rfl
def Jk(z)(n):(Builtin.zeroCells z n).size=n*z.size:=by simp[Builtin.zeroCells]
def ahK(s:bK K G ok w0 h w){d:List Nat}(hd:∀n∈h.dead,n∈d){t0 t1 elem:aF}{ts:Array aF}{ty:aF}{i:TypeInfo}{d1:TypeDesc}(h0:ts[0]?=J t0)(hu:P.underlying t0=J (.slice elem))
 (h1:ts[1]?=J t1) (Z:P.underlying t1=J d1) (H:∀k,d1≠ .int k) (hi:P.info? elem=J i) (u:(i.zero.map λz=>z.cells.size)=J i.size)
 {es new:List (List U)} {a:Option Addr} {aS:Nat} {c q:aG} (hc:c=.slice a (F es) aS) (C:aS<F es+F new)
 (hr:∀r∈es,F r=i.size) (ha:es.flatten.all U.cW=V) {f:List aG} (A:aI K es.flatten f) (hf:(Builtin.firstCells i.size (F es) c).run P {w with drawn:=w.drawn+1}=.ok f.toArray {w with drawn:=w.drawn+1})
 {l:List aG} (T:(Builtin.lenOf q).run P w=.ok (F new) w) (Y:∀r∈new,F r=i.size) (y:aI K new.flatten l) (han:new.flatten.all U.cW=V)
 (L:(Builtin.firstCells i.size (F new) q).run P {w with drawn:=w.drawn+1}=.ok l.toArray {w with drawn:=w.drawn+1})
 (hb:(F es+F new)*i.bytes<=140737488355328) (hm:F es+F new<=9223372036854775807):
 ∃p v w',K.Le p/\bK p G ok w0 ({h with dead:=d}.fresh i.size (es++new)).2 w'/\aQ p ({h with dead:=d}.fresh i.size (es++new)).1 v/\(Builtin.append_ ts ty #[c,q]).run P w=.ok v w':=by
 simp only[dg]at u;obtain⟨z,u,Bj⟩:=u;have hq:∃g,F es+F new<=g/\(choose (.appendCap (F es+F new) aS elem)).run P w=.ok g {w with drawn:=w.drawn+1}:=by refine⟨_,?_,by simp[Question.forced];rfl⟩;simp[Question.cut]
 obtain⟨g,X,E⟩:=hq
 let rest:=Builtin.zeroCells z.cells (g-(F es+F new))
 let cells:Array aG:=f.toArray++l.toArray++rest
 let w1:bP:={w with drawn:=w.drawn+1}
 let m:bP:={w1 with heap:=w1.heap.push (.cells cells elem)}
 have N:F f=F es*i.size:=by rw[<-A.length,lX hr]
 have S:F l=F new*i.size:=by rw[<-y.length,lX Y]
 have D:F (es++new)*i.size=F (f++l):=by grind
 have x:(zeroValue elem).run P w1=.ok z w1:=by simp[zeroValue,oU hi,u]
 have avn:=growslice_fits (bytes:=i.bytes) C hb;have xk:(Builtin.append_ ts ty #[c,q]).run P w=.ok (.slice (J ⟨w.heap.size,0,ag⟩) (F es+F new) g) m:=by
  subst hc;have e1:¬(((F es+F new:Nat):Int)>IntKind.i64.max):=by simp only[IntKind.max,IntKind.signed,IntKind.bits];simp;omega
  have e2:¬(Builtin.nextslicecap (F es+F new) aS*i.bytes>2^48):=by omega
  have e3:¬(F es+F new<=aS):=by omega
  cases d1<;>first|exact absurd O (H _)|(simp only[Builtin.append_,h0,iQ,iP,jE,Sem.run_bind,cQ hu,Result.andThen_ok,sizeOf,oU hi,Sem.run_pure,h1,cQ Z,jB,if_false,T,e3,e1,e2,false_and,E,run_askRoom,hf,zY,if_true,L,newRow,run_newObj,x,w1,m,cells,rest])
 have ev:cells.size=g*i.size:=by simp only[cells,Cs,Kf,rest,Jk,N,S,Bj];rw[Ks];have:(F es+F new)*i.size<=g*i.size:=mz _ X;rw[js]at this ⊢;omega
 have t:m.heap[w.heap.size]?=J (.cells cells elem (0,0)):=by simp[m,w1]
 obtain⟨p,le,s',hv⟩:=s.LV (w':=m) hd (sz:=i.size) (es:=es++new) (cells:=cells) (e:=elem) (fz:=(0,0)) (aS:=g)
  (λr hm=>by grind) (by grind) (by have:cells.toList.take (F (es++new)*i.size)=f++l:=(by rw[D];simp only[cells,wp];rw[QP b8];exact ga b8);rw[this,oC];exact A.append y) O O O (by grind) (λk hk=>A0 w _ hk) t (by simp_all) M (λj _=>yy j)
 grind
def auT(s:bK K G ok w0 h w){ts:Array aF}{ty elem:aF}{E:IntKind}{a x y:U}{h':Heap}(D:(ts[0]?).bind P.underlying=J (.slice elem))(p:(ts[1]?).bind P.underlying=J (.int E))
 (l:JH P h ts elem a x=J (y,h')) {c L:aG} (ha:aQ K a c) (hx:aQ K x L):
 ∃z v w',K.Le z/\bK z G ok w0 h' w'/\aQ z y v/\(Builtin.append_ ts ty #[c,L]).run P w=.ok v w':=by
 unfold JH at l;split at l
 .rename_i H kk z0;obtain⟨rfl,_⟩:=hx.gP;split at l
  .rename_i i zero S hz;obtain⟨n,Y,m,Z⟩:=zW (K:=K) hz w;split at l
   .rename_i q;obtain⟨h0,h1,h2,h3,N,h6⟩:=q;injection l with l;obtain⟨rfl,rfl⟩:=eD l;have r:i.zero=J n:=by
     simp only[zeroValue,Sem.run_bind,oU S,Result.andThen_ok]at Y;cases hzz:i.zero with|none=>simp_all|some v=>simp_all
    have Bj:n.cells.size=i.size:=(by rw[<-h6,m.length];simp);obtain⟨d,rfl⟩:∃d:Nat,z0=d:=⟨z0.toNat,by omega⟩;rw[Int.toNat_natCast];obtain⟨t0,t1,rfl⟩:∃t0 t1,ts=#[t0,t1]:=by
     obtain⟨z1⟩:=ts
     match z1,h0 with
     | [a,b],_=>exact⟨a,b,O⟩
    have D:P.underlying t0=J (.slice elem):=D;have p:P.underlying t1=J (.int E):=p;have hm:d*i.bytes<=140737488355328:=(by have:((d*i.bytes:Nat):Int)<=140737488355328:=(by rw[Int.natCast_mul];exact h2);omega);have C:=Go.Lib.run_append_nil_zeros (P:=P) w t0 t1 ty elem i n kk E D p S r d M N M M;have u:=grownCap_ge w d 0 elem;generalize grownCap w d 0 elem=g at *
    have t:(Builtin.zeroCells n.cells d).toList=(bB d n.cells.toList).flatten:=ET _ _;have T:F (bB d n.cells.toList).flatten=F (bB d zero).flatten:=(m.yw d).length.symm;have X:F (bB d zero).flatten=d*i.size:=lX (sz:=i.size) (es:=bB d zero) (λz2 hr=>by simp_all)|>.trans (by simp_all)
    have gK:(Builtin.zeroCells n.cells d++Builtin.zeroCells n.cells (g-d)).size=g*i.size:=by
     rw[Cs,<-ip,<-ip,t,T,X];have e2:(Builtin.zeroCells n.cells (g-d)).toList=(bB (g-d) n.cells.toList).flatten:=ET _ _;rw[e2,<-(m.yw (g-d)).length];have e3:F (bB (g-d) zero).flatten=(g-d)*i.size:=lX (sz:=i.size) (es:=bB (g-d) zero) (λz2 hr=>by simp_all)|>.trans (by simp_all)
     rw[e3,<-js,Nat.add_sub_cancel' u]
    obtain⟨q1,q2⟩:=(s.drew (w.drawn+1)).Oc (cs:=(bB d zero).flatten) (cells:=Builtin.zeroCells n.cells d++Builtin.zeroCells n.cells (g-d)) elem (J (d,i.size,g*i.size))
     (by rw[wp,t,QP M,ga M];exact m.yw d) (IM Z _)
     (λz3 H room z4=>by
      grind)
    have A:F h.boxes=F K.β:=s.iN.symm;cases ha with
    |nil=>
     cases q2 with|box _ _ _ hb=>exact⟨_,_,_,K.zF _ _,q1,.arr _ _ _ _ _ _ _ hb (aV _) u (.inl O) (.inr (.inr (.inr ⟨i.size,g*i.size,by simp only[aW.mX,A,if_true],N,aV _⟩))),C⟩
    |list _ _ _ _ _ _ _ _ _ _ _ _ ht _=>exact ht.2.elim
   grind
  grind
 grind
set_option maxHeartbeats 1000000 in
def KP(s:bK K G ok w0 h w){ts:Array aF}{ty:aF}{a x y:U}{h':Heap}(f:gm P h ts a x=J (y,h')){c Z:aG}(L:aQ K a c)(hx:aQ K x Z):
 ∃X v w',K.Le X/\bK X G ok w0 h' w'/\aQ X y v/\(Builtin.append_ ts ty #[c,Z]).run P w=.ok v w':=by
 unfold gm at f;split at f
 .rename_i u q;exact auT s u q f L hx
 .rename_i elem d1 DX u q;simp only[wD] at u q;obtain⟨t0,h0,u⟩:=u;obtain⟨t1,h1,q⟩:=q;have N:∀k,d1≠ .int k:=λk e=>DX k e;split at f
  .cases f
  rename_i i hi;split at f
  .cases f
  rename_i new Vc;split at f;rotate_left
  .cases f
  rename_i hz;obtain⟨H,E,n2,n3,n4,n5,S⟩:=EB (P:=P) s Vc hx;obtain⟨nv',n1',n2',n3',n4',n5',n6'⟩:=EB (P:=P) (s.drew (w.drawn+1)) Vc hx;split at f
  .rename_i k sz g;split at f;rotate_left
   .cases f
   rename_i gK;have Nc:rowsOf h i.size (.list k sz g)=J g:=(by simp only[rowsOf];simp_all);obtain⟨b,p,qB,rfl,r1,r2,r3,r4,r5,r6⟩:=EW (P:=P) (s.drew (w.drawn+1)) Nc L;have hf:(Builtin.firstCells i.size g.length (.slice b g.length p)).run P {w with drawn:=w.drawn+1}=.ok qB.toArray {w with drawn:=w.drawn+1}:=by
    cases b with|none=>have:=r6 rfl;subst this;have:qB=[]:=(by simpa using r4);subst this;rfl|some b=>exact r5 b rfl
   split at f
   .rename_i DW;injection f with f;obtain⟨rfl,rfl⟩:=Prod.mk.inj f;subst DW;have MQ:H=[]:=(by simpa using n5);subst MQ;refine⟨K,.slice b g.length p,w,.refl K,s,L,?_⟩;have n:g.length<=p:=by
     cases L with|nil=>simp_all|fZ=>simp_all|list _ _ _ _ _ _ _ _ _ _ _ _ C _=>exact C.1
    have E:(Builtin.lenOf Z).run P w=.ok 0 w:=E;have S:(Builtin.firstCells i.size 0 Z).run P w=.ok #[] w:=S;cases d1<;>first|exact absurd rfl (N _)|(cases b<;>simp only[Builtin.append_,h0,iQ,iP,jE,Sem.run_bind,cQ u,Result.andThen_ok,sizeOf,oU hi,Sem.run_pure,h1,cQ q,jB,if_false,E,xU,n,if_true,zY,S,storeCells])
   .rename_i hnn;have aiO:0<new.length:=by cases new with|nil=>simp_all|cons _ _=>simp
    split at f;rotate_left
    .cases f
    rename_i hb;have A:∀z2:List Nat,(∀z0∈h.dead,z0∈z2)->p<g.length+new.length->
     ∃X v w',K.Le X/\bK X G ok w0 ({h with dead:=z2}.fresh i.size (g++new)).2 w'/\aQ X ({h with dead:=z2}.fresh i.size (g++new)).1 v/\(Builtin.append_ ts ty #[.slice b g.length p,Z]).run P w=.ok v w':=
     λz2 hd n=>ahK s hd h0 u h1 q N hi hz.2 rfl n r1 r3 r2 hf E n2 n3' n4 n6' hb.1 hb.2
    split at f
    .injection f with f;obtain⟨rfl,rfl⟩:=eD f;cases L with|nil=>exact A h.dead (λ_ t=>t) M|list _ _ _ _ _ _ _ _ _ _ _ _ C _=>exact C.2.elim
    .injection f with f;obtain⟨rfl,rfl⟩:=eD f;cases L with|fZ=>exact A h.dead (λ_ t=>t) M|list _ _ _ _ _ _ _ _ _ _ _ _ C _=>exact A h.dead (λ_ t=>t) (by have:=C.2;omega)
    .rename_i z0;split at f;rotate_left
     .cases f
     rename_i Ux;simp only[bm,decide_eq_true_eq] at Ux;obtain⟨tX,hsi⟩:=Ux;injection f with f;obtain⟨rfl,rfl⟩:=eD f;rcases dp p (g.length+new.length) with n|n
     .exact A (z0::h.dead) (λ_ t=>gx _ t) n
     .cases L with
      |list _ _ _ z1 d n' _ cells hn hr gC xg C yE=>
       obtain⟨t1',t2,t3,t4⟩:=C.2;obtain⟨k1,k2,k3,Y,be,bz,k4,k5,k6⟩:=s.tok z0 tX;subst t2;subst hsi;have Ml:Y.size=(K.tk z0).2.2:=k5;have UU:d+g.length * i.size+H.length<=Y.size:=(by have:(g.length+new.length) * i.size<=p * i.size:=mz _ n;rw[js] at this;omega);obtain⟨w',l,q1,T,q3⟩:=Cc (P:=P) (d+g.length * i.size) be bz H 0 Y w k4 M (xZ n3 n4) (λj r hj'=>by
        rw[<-tP k4]
        grind)
       have Hh:l.size=Y.size:=(by have h1:l.toList.length=Y.toList.length:=(by rw[q3];simp only[ck,cR,eC,ip,xU];omega);simpa using h1);have aix:∀j,j<d+g.length * i.size->l[j]?=Y[j]?:=λj r=>(by rw[<-FD,q3,<-FD,iO,qH (by grind),mM,av M]);have aiy:∀j,j<H.length->l[d+g.length * i.size+j]?=H[j]?:=λj r=>(by have di:(Y.toList.take (d+g.length * i.size+0)).length=d+g.length * i.size:=(by simp;omega);rw[<-FD,q3,iO,wB M,di,qH M];simp_all);have uj:=s.row (h':=({h with dead:=z0::h.dead}.fresh i.size (g++new)).2) (w':=w') (g:=(K.tk z0).1) (off:=d+g.length * i.size) (m:=d+(g.length+new.length) * i.size) (cells:=l) (e:=be) (fz:=bz) rfl rfl rfl
        (λz3 C=>(RA (λ_ t=>gx _ t) C).imp id λD=>⟨D.1,λHa=>D.2 (by rw[s.nL z3 z0 D.1 tX Ha];simp_all)⟩)
        k1 k2 (λj r=>k3 j M) (by rw[T.size];omega) T.os T.tape T.output (λk o hk ho=>(T.other k hk).trans ho) T.this (λo ho=>by simp_all)
        (λj c hc=>by
         have r:j<d+g.length * i.size:=by
          rcases dp j (d+g.length * i.size) with h|h
          .exact h
          .simp_all
         rw[aix j r,<-cell_of k4];exact s.ic _ _ _ hc)
        (by grind) (by grind) (λj r hl=>by rw[<-tP k4];grind)
       have le:=aW.NU (K:=K) (g:=(K.tk z0).1) (off:=d+g.length * i.size) (m:=d+(g.length+new.length) * i.size) (size:=l.size) (cells:=λj=>l[j]?) (λj r=>k3 j M) k1;have eM:cells.length=g.length * i.size:=(by rw[<-gC.length,lX hr]);refine⟨_,.slice (J ⟨(K.tk z0).1,d,ag⟩) (g.length+new.length) p,w',le,uj,?_,?_⟩
       .refine .list (.free h.tn) i.size (g++new) (K.tk z0).1 d _ p (cells++H) b8 (λz4 t=>by grind) (by rw[oC];exact(gC.append n3).mono le) (λj c r=>?_) ⟨n,?_⟩ (by grind)
        .rcases dp j cells.length with di|oL
         .rw[qH di] at r;exact le.ic _ _ _ (xg j c r)
         .rw[wB oL] at r;have vp:j - cells.length<H.length:=(aT.1 r).1;simp only[aW.row];rw[av (by grind)];have:=aiy (j - cells.length) vp
          grind
        .simp only[aW.row,s.tn,if_true];simp_all
       .have xc:(⟨(K.tk z0).1,d,ag⟩:Addr).add (g.length * i.size)=⟨(K.tk z0).1,d+g.length * i.size,ag⟩:=Addr.hC _ _ _;cases d1<;>first|exact absurd rfl (N _)|(simp only[Builtin.append_,h0,iQ,iP,jE,Sem.run_bind,cQ u,Result.andThen_ok,sizeOf,oU hi,Sem.run_pure,h1,cQ q,jB,if_false,E,n,if_true,zY,S,xc,q1])
    grind
  .rename_i b d len p;split at f
   .rename_i cs jc;split at f
    .rename_i hc;injection f with f;obtain⟨rfl,rfl⟩:=eD f;cases L with
     |arr _ z1 _ _ _ r_ z hb hl pH A_ rW=>
      obtain⟨k1,k2,ka,cells,e,k3,k4⟩:=s.box b z1 cs hb jc;have Nn:cs.length<=cells.size:=k4.le;have t:(len+new.length) * i.size<=p * i.size:=mz _ hc.1;rw[js] at t;have UJ:len+new.length<=z:=(by omega);by_cases zl:p=0
      .have ug:new=[]:=by cases new with|nil=>rfl|cons _ _=>simp_all
       subst ug;have MQ:H=[]:=(by simpa using n5);subst MQ;have E:(Builtin.lenOf Z).run P w=.ok 0 w:=E;have S:(Builtin.firstCells i.size 0 Z).run P w=.ok #[] w:=S;have ai1:h.boxes.set b (dC cs (d+len * i.size) ([]:List (List U)).flatten)=h.boxes:=by
        rw[show dC cs (d+len * i.size) ([]:List (List U)).flatten=cs by simp[dC]];apply oh;intro k;rw[lM];split
        .grind
        .rfl
       rw[ai1];refine⟨K,.slice (J ⟨z1,r_,ag⟩) len z,w,.refl K,s,.arr _ _ _ _ _ _ _ hb hl pH A_ rW,?_⟩;have MM:len<=z:=(by omega);cases d1<;>first|exact absurd rfl (N _)|(simp only[Builtin.append_,h0,iQ,iP,jE,Sem.run_bind,cQ u,Result.andThen_ok,sizeOf,oU hi,Sem.run_pure,h1,cQ q,jB,if_false,E,xU,MM,if_true,zY,S,storeCells])
      .have MR:r_=d:=(by simp_all);obtain⟨w',l,q1,T,q3⟩:=Cc (P:=P) (d+len * i.size) e (0,0) H 0 cells w k3 M (xZ n3 n4) (λj _ _=>yy j);have Hm:new.flatten.length=new.length * i.size:=(by rw[n3.length,n5]);refine⟨K,.slice (J ⟨z1,r_,ag⟩) (len+new.length) z,w',.refl K,s.PO hb jc M k3 T q3 n3 n4,.arr _ _ _ _ _ _ _ hb hc.1 pH A_ rW,?_⟩;have xc:(⟨z1,d,ag⟩:Addr).add (len * i.size)=⟨z1,d+len * i.size,ag⟩:=Addr.hC _ _ _;rw[MR];cases d1<;>first|exact absurd rfl (N _)|(simp only[Builtin.append_,h0,iQ,iP,jE,Sem.run_bind,cQ u,Result.andThen_ok,sizeOf,oU hi,Sem.run_pure,h1,cQ q,jB,if_false,E,UJ,if_true,zY,S,xc,q1])
    grind
   grind
  grind
 grind
def ahL{t0 t1 elem:aF}{ts:Array aF}{ty:aF}{i:TypeInfo}{d1:TypeDesc}(S:ts[0]?=J t0)(hu:P.underlying t0=J (.slice elem))
 (T:ts[1]?=J t1) (A:P.underlying t1=J d1) (u:∀k,d1≠ .int k) (hi:P.info? elem=J i) (g:(i.zero.map λz=>z.cells.size)=J i.size)
 {n m:Nat} {a:Option Addr} {aS:Nat} {q:aG} (r:aS<n+m) {c:List aG} (C:F c=n*i.size)
 (Y:(Builtin.firstCells i.size n (.slice a n aS)).run P {w with drawn:=w.drawn+1}=.ok c.toArray {w with drawn:=w.drawn+1})
 {f:List aG} (x:(Builtin.lenOf q).run P w=.ok m w) (y:F f=m*i.size)
 (v:(Builtin.firstCells i.size m q).run P {w with drawn:=w.drawn+1}=.ok f.toArray {w with drawn:=w.drawn+1})
 (X:(n+m)*i.bytes<=140737488355328) (hm:n+m<=9223372036854775807):
 ∃d cells,n+m<=d/\cells.size=d*i.size/\cells.toList.take ((n+m)*i.size)=c++f/\
  (Builtin.append_ ts ty #[.slice a n aS,q]).run P w=.ok (.slice (J ⟨w.heap.size,0,ag⟩) (n+m) d) {w with drawn:=w.drawn+1,heap:=w.heap.push (.cells cells elem)}:=by
 simp only[dg]at g;obtain⟨z,g,D⟩:=g;have hq:∃d,n+m<=d/\(choose (.appendCap (n+m) aS elem)).run P w=.ok d {w with drawn:=w.drawn+1}:=by refine⟨_,?_,by simp[Question.forced];rfl⟩;simp[Question.cut]
 obtain⟨d,p,t⟩:=hq
 let rest:=Builtin.zeroCells z.cells (d-(n+m))
 let cells:Array aG:=c.toArray++f.toArray++rest
 let s:bP:={w with drawn:=w.drawn+1}
 have Z:(n+m)*i.size=F (c++f):=by grind
 have l:(zeroValue elem).run P s=.ok z s:=by simp[zeroValue,oU hi,g]
 have E:=growslice_fits (bytes:=i.bytes) r X;refine⟨d,cells,p,?_,?_,?_⟩
 .simp only[cells,Cs,Kf,rest,Jk,C,y,D];rw[Ks];have:(n+m)*i.size<=d*i.size:=mz _ p;simp_all
 .grind
 .have H:¬(((n+m:Nat):Int)>IntKind.i64.max):=by simp only[IntKind.max,IntKind.signed,IntKind.bits];simp;omega
  have L:¬(Builtin.nextslicecap (n+m) aS*i.bytes>2^48):=by omega
  have N:¬(n+m<=aS):=by omega
  cases d1<;>first|exact absurd O (u _)|(simp only[Builtin.append_,S,iQ,iP,jE,Sem.run_bind,cQ hu,Result.andThen_ok,sizeOf,oU hi,Sem.run_pure,T,cQ A,jB,if_false,x,N,H,L,false_and,t,run_askRoom,Y,zY,if_true,v,newRow,run_newObj,l,s,cells,rest])
set_option maxHeartbeats 2000000 in
def P0(s:bK K G ok w0 h w){ts:Array aF}{ty:aF}{a x y:U}{h':Heap}(d:ml P h ts a x=J (y,h')){c cx:aG}(E:aQ K a c)(hx:aQ K x cx):
 ∃m v w',K.Le m/\bK m G ok w0 h' w'/\aQ m y v/\(Builtin.append_ ts ty #[c,cx]).run P w=.ok v w':=by
 have he0:=d;unfold ml at d;split at d
 .cases d
 .rename_i elem d1 DX hu0 ai9;have T:=hu0;have t:=ai9;simp only[wD]at T t;obtain⟨t0,h0,T⟩:=T;obtain⟨t1,h1,t⟩:=t;have ii:∀k,d1≠ .int k:=λk e=>DX k e;split at d
  .cases d
  rename_i i hi;split at d
  .cases d
  rename_i new N;split at d;rotate_left
  .cases d
  rename_i hz;obtain⟨nv,n1,n2,n3,n4,n5,n6⟩:=EB (P:=P) s N hx;obtain⟨nv',n1',n2',n3',n4',n5',n6'⟩:=EB (P:=P) (s.drew (w.drawn+1)) N hx;have fresh:∀{h0:Heap} (s0:bK K G ok w0 h0 w) {H g:Nat} {ad:Option Addr} {cs:List U} {l:List aG},F h0.boxes=F h.boxes->g<H+F new->aI K cs l->cs.all U.cW=V->F cs=H*i.size->
   (Builtin.firstCells i.size H (.slice ad H g)).run P {w with drawn:=w.drawn+1}=.ok l.toArray {w with drawn:=w.drawn+1}->(H+F new)*i.bytes<=140737488355328->H+F new<=9223372036854775807->
   ∃m v w',K.Le m/\bK m G ok w0 {h0 with boxes:=h0.boxes++[cs++new.flatten]} w'/\aQ m (.arr (F h.boxes) 0 (H+F new) (H+F new)) v/\(Builtin.append_ ts ty #[.slice ad H g,cx]).run P w=.ok v w':=by
   intro h0' s0 H g ad cs l pG f gC yE eM hf u hm;have Hm:F new.flatten=F new*i.size:=lX n2';obtain⟨nc,cells,g1,g2,g3,g4⟩:=ahL (ty:=ty) h0 T h1 t ii hi hz.2 f (by rw[<-gC.length,eM]) hf n1 n5' n6' u hm;have aim:F (cs++new.flatten)=(H+F new)*i.size:=(by grind);obtain⟨q1,q2⟩:=(s0.drew (w.drawn+1)).Oc (cs:=cs++new.flatten) (cells:=cells) elem (J (H+F new,i.size,nc*i.size)) (by rw[aim,g3];exact gC.append n3') (by grind)
    (λz2 Z Y z1=>by
     grind)
   cases q2 with|box _ _ _ A=>rw[pG]at A;refine⟨_,_,_,K.zF _ _,q1,.arr _ _ _ _ _ _ _ A (aV _) g1 (.inl O) (.inr (.inr (.inr ⟨i.size,nc*i.size,?_,hz.1,aV _⟩))),g4⟩;have z:F h.boxes=F K.β:=(by rw[s0.iN,pG]);simp only[aW.mX,z,if_true]
  split at d
  .rename_i k Z n;split at d;rotate_left
   .cases d
   rename_i gK;split at d
   .rename_i DW;refine KP s ?_ E hx;unfold gm;simp_all
   .rename_i hnn;split at d;rotate_left
    .cases d
    rename_i u;have Nc:rowsOf h i.size (.list k Z n)=J n:=(by simp only[rowsOf];simp_all);obtain⟨b,g,l,rfl,r1,r2,r3,r4,r5,r6⟩:=EW (P:=P) (s.drew (w.drawn+1)) Nc E;have hf:(Builtin.firstCells i.size (F n) (.slice b (F n) g)).run P {w with drawn:=w.drawn+1}=.ok l.toArray {w with drawn:=w.drawn+1}:=by
     cases b with|none=>have:=r6 O;subst this;have:l=[]:=(by simpa using r4);subst this;rfl|some b=>exact r5 b O
    have aiO:0<F new:=by cases new with|nil=>simp_all|cons _ _=>simp
    have fin:g<F n+F new->J (U.arr (F h.boxes) 0 (F n+F new) (F n+F new),({h with boxes:=h.boxes++[(n++new).flatten]}:Heap))=J (y,h')->∃m v w',K.Le m/\bK m G ok w0 h' w'/\aQ m y v/\(Builtin.append_ ts ty #[.slice b (F n) g,cx]).run P w=.ok v w':=λf hq=>(by injection hq with hq;obtain⟨rfl,rfl⟩:=eD hq;rw[oC];exact fresh s O f r2 r3 (lX r1) hf u.1 u.2);split at d
    .refine fin ?_ d;cases E with|nil=>omega|list _ _ _ _ _ _ _ _ _ _ _ _ S _=>exact S.2.elim
    .refine fin ?_ d;cases E with|fZ=>omega|list _ _ _ _ _ _ _ _ _ _ _ _ S _=>have:=S.2;omega
    grind
  .rename_i b off len g;split at d
   .rename_i cs jc;split at d
    .exact KP s d E hx
    .rename_i MB;split at d
     .rename_i hc;injection d with d;obtain⟨rfl,rfl⟩:=eD d;obtain⟨c1,c2,c3,c4,c5,c6⟩:=hc;subst c1;subst c3;cases E with
      |arr _ z0 _ _ _ r_ L u hl pH A_ rW=>
       have MR:r_=0:=(by omega);subst MR;obtain⟨k1,k2,ka,cells,e,k3,X⟩:=s.box b z0 cs u jc;have fP:cs≠[]:=λz1=>(by subst z1;have:=Ko c2 hz.1;simp_all);have UH:=(aT.1 jc).1;have C:=s.Tg b;have D:F (h.boxes.set b [])=F h.boxes:=(by simp);rcases dp L (len+F new) with f|f
       .refine fresh C D f X.1 ka c4.symm ?_ c5 c6;have:=run_loadCells_list (P:=P) {w with drawn:=w.drawn+1} ⟨z0,0,ag⟩ (cells.toList.take (F cs)) (λj v hj=>by
         rw[Addr.hC,cell_of (w:={w with drawn:=w.drawn+1}) k3]
         grind)
        rw[<-X.1.length,<-c4]at this;rw[<-c4];exact this
       .rcases rW with r|r|r|⟨Z,Y,r1,r2,r3⟩
        .omega
        .omega
        .omega
        .rcases X.2 _ _ _ r1 with z1|⟨q1,q2⟩
         .simp_all
         .have gK:i.size=Z:=Nat.eq_of_mul_eq_mul_left c2 (c4.trans q1);subst gK;have iE:=X.le;have Hm:F new.flatten=F new*i.size:=lX n2;have Eb:(len+F new)*i.size<=cells.size:=e8 (mz _ f) (e8 r3 q2);rw[js]at Eb;obtain⟨w',q,w1,w2,w3⟩:=Cc (P:=P) (0+len*i.size) e (0,0) nv 0 cells w k3 M (xZ n3 n4) (λj _ _=>yy j);have avj:F q.toList=F cells.toList:=(by rw[w3];exact PC (by simp_all));obtain⟨s3,tY⟩:=C.ZW (g:=z0) (cs:=cs++new.flatten) (cells:=q) (e:=e) k1 k2
           (λb2 A=>by
            show(h.boxes.set b [])[b2]?=J [];rw[lM];by_cases tZ:b=b2
            .simp_all
            .rw[aL tZ];rcases s.np _ _ _ u A with p|p|p<;>simp_all)
           (λz3 S hq=>by obtain⟨_,z1,_⟩:=s.tok z3 S;simp_all) k3 (J (len+F new,i.size,cells.size))
           (λz2 Z Y z1=>by
            grind) w2
           (by rw[ck,Hm,w3];have e1:F cs+F new*i.size=0+len*i.size+0+F nv:=(by omega);rw[e1,QP (by simp_all),ga (by simp_all)];have e2:0+len*i.size+0=F cs:=(by omega);rw[e2];exact X.1.append n3) (by grind)
          rw[D]at tY;refine⟨_,.slice (J ⟨z0,0,ag⟩) (len+F new) L,w',K.zF _ _,s3,.arr _ _ _ _ _ _ _ tY (aV _) f (.inl O) (.inr (.inr (.inr ⟨i.size,cells.size,?_,hz.1,e8 r3 q2⟩))),?_⟩
          .have z:F h.boxes=F K.β:=s.iN.symm;simp only[aW.mX,z,if_true]
          .have xc:(⟨z0,0,ag⟩:Addr).add (len*i.size)=⟨z0,0+len*i.size,ag⟩:=Addr.hC _ _ _;cases d1<;>first|exact absurd O (ii _)|(simp only[Builtin.append_,h0,iQ,iP,jE,Sem.run_bind,cQ T,Result.andThen_ok,sizeOf,oU hi,Sem.run_pure,h1,cQ t,jB,if_false,n1,f,if_true,zY,n6,xc,w1])
     grind
   grind
  grind
 grind
def ad9(s:bK K G ok w0 h w){t:aF}{len:Nat}{parts:Array (Nat × bR)}{ρ:bR->U}{ρ':bR->aG}(hρ:∀x,aQ K (ρ x) (ρ' x)){k:Tok}{sz:Nat}{es:List (List U)}
 (f:fy P t len (parts.toList.map λp=>(p.1,ρ p.2))=J (.list k sz es)):
 ∃l v w',K.Le l/\bK l G ok w0 (h.fresh sz es).2 w'/\aQ l (h.fresh sz es).1 v/\(Instr.buildSlice t len (parts.map λp=>(p.1,ρ' p.2))).run P w=.ok v w':=by
 obtain⟨p1,p2⟩:=Ou hρ parts;unfold fy at f;split at f
 .rename_i elem E;split at f
  .rename_i c zero D hz;obtain⟨u,L,q,N⟩:=zW (K:=K) hz w;split at f
   .rename_i X;simp only[dg]at f;obtain⟨r,ho,f⟩:=f;injection f with _ y T;subst y;subst T;obtain⟨f1,f2,f3⟩:=Tw (λz0 hr=>by simp_all) ho;have S:u.cells.size=c:=(by rw[<-X.2.1,q.length];simp);have m:((wm (len*c)).map (u.cells[·%u.cells.size]!)).toList=(bB len u.cells.toList).flatten:=(by rw[<-S];exact ET _ _);obtain⟨g,z,q2⟩:=Gy (cZ:=(wm (len*c)).map (u.cells[·%u.cells.size]!)) f1 (by rw[m];exact q.yw len) p1 p2;have n:F r=len:=(by rw[f3];simp);have Nn:F g.toList=len*c:=(by rw[<-q2.length,lX f2,n]);obtain⟨l,le,s',H⟩:=s.LV (w':={w with heap:=w.heap.push (.cells g elem)}) (d:=h.dead) (λ_ Z=>Z) (sz:=c) (es:=r) (cells:=g) (e:=elem) (fz:=(0,0)) (aS:=len)
     f2 (Tx f1 (IM N len)) (by grind) O O O b8 (λk Y=>A0 w _ Y) b8
     M (by simp_all) (λj hj=>by simp[kZ])
    rw[n]at H;refine⟨l,.slice (J ⟨w.heap.size,0,ag⟩) len len,_,le,s',H,?_⟩;by_cases A:len*c=0
    .have C:len=0:=by
      rcases abm.1 A with h|h
      .exact h
      .omega
     subst C;simp only[Kt]at z;have y:(wm 0).map (λx=>(#[]:Array aG)[x%(#[]:Array aG).size]!)=(wm 0).map (u.cells[·%u.cells.size]!):=(by simp);simp only[Instr.buildSlice,Sem.run_bind,cQ E,Result.andThen_ok,mi D,Kt];simp only[nt,gt_iff_lt,if_false,abs,if_true,Sem.run_pure,Result.andThen_ok,y,z,newRow,Sem.run_bind,run_newObj]
    .simp only[Instr.buildSlice,Sem.run_bind,cQ E,Result.andThen_ok,mi D];rw[aL M,aL A];simp only[Sem.run_pure,Sem.run_bind,L,Result.andThen_ok,z,newRow,run_newObj]
   grind
  grind
 grind
def bK.kill(s:bK K G ok w0 h w){t:Nat}(D:alive h t=V)(n:Nat):bK K G ok w0 {h with dead:=t::h.dead} (w.freeze ⟨(K.tk t).1,n,ag⟩ 1):=by
 obtain⟨t1,t2,t3,c0,S,z0,t4,t5,t6⟩:=s.tok t D;have f:∃z7,(w.freeze ⟨(K.tk t).1,n,ag⟩ 1).heap[(K.tk t).1]?=J (.cells c0 S z7):=by simp only[World.freeze,QV,if_false,Cr,if_true,t4,fF];exact⟨_,O⟩
 obtain⟨z1,f⟩:=f;have l:∀k,k≠(K.tk t).1->(w.freeze ⟨(K.tk t).1,n,ag⟩ 1).heap[k]?=w.heap[k]?:=λk hk=>by
  simp only[World.freeze,QV,if_false,Cr]
  grind
 have gK:(w.freeze ⟨(K.tk t).1,n,ag⟩ 1).heap.size=w.heap.size:=by simp[World.freeze]
 have m:∀c,alive {h with dead:=t::h.dead} c=V->alive h c=V/\c≠t:=λc h'=>by unfold alive at h' ⊢;simp_all
 refine⟨?_,by grind,λv j z4 Z=>?_,s.dA,s.iN,s.np,λb v cs Y E=>?_,s.mn,s.oe,λz5 v z2 z A=>?_,s.tn,λc p=>?_,λc z3 p hu=>s.nL c z3 (m c p).1 (m z3 hu).1,λz2 A=>?_,s.all⟩
 .refine s.fL.trans ⟨O,O,O,by omega,λk hk=>?_⟩
  grind
 .have g:=s.ic v j z4 Z;by_cases H:v=(K.tk t).1
  .subst H;rw[cell_of t4]at g;rw[cell_of f];exact g
  .rw[<-g];exact World.cell?_of_block (w:=w) (l v H)
 .obtain⟨g,q,Mf,d,e',x,y⟩:=s.box b v cs Y E
  grind
 .obtain⟨g,fn,tmps,z8,q,x⟩:=s.loop z5 v z2 z A
  grind
 .obtain⟨u,N⟩:=m c p;obtain⟨g,q,x,d,e',r,y,T,X⟩:=s.tok c u;have L:(K.tk c).1≠(K.tk t).1:=λz6=>N (s.nL c t u D z6);have C:(w.freeze ⟨(K.tk t).1,n,ag⟩ 1).heap[(K.tk c).1]?=J (.cells d e' r):=by rw[l _ L];exact y
  exact⟨g,q,x,d,e',r,C,T,λj hj z=>by rw[<-X j hj z,tP y,tP C]⟩
 .obtain⟨g,q⟩:=s.md z2 A
  grind
def afA(s:bK K G ok w0 h w){src u:aF}{x y:U}{h':Heap}(d:kL P h src u x=J (y,h')){c:aG}(t:aQ K x c):
 ∃m v w',K.Le m/\bK m G ok w0 h' w'/\aQ m y v/\(convert src u c).run P w=.ok v w':=by
 unfold kL at d;split at d
 .rename_i e str g f;obtain⟨rfl,_⟩:=t.gP;split at d
  .rename_i i l hi;split at d
   .injection d with d;obtain⟨rfl,rfl⟩:=eD d;obtain⟨m,v,w',q1,q2,q3,q4⟩:=atQ (P:=P) s (e:=e) (str:=str);exact⟨m,v,w',q1,q2,q3,by simp only[convert,Sem.run_bind,cQ g,cQ f,cQ l,Result.andThen_ok];exact q4⟩
   grind
  grind
 .rename_i e g f;split at d
  .rename_i rows l r;simp only[dg]at d;obtain⟨z4,hl,d⟩:=d;obtain⟨rfl,rfl⟩:=eD d;obtain⟨a,n,qB,rfl,L,X,E,p,q,D⟩:=EW (P:=P) s r t;obtain⟨ns,rfl,rfl⟩:=aed hl X;refine⟨K,.string ⟨(ns.map λY=>UInt8.ofNat Y.toNat).toArray⟩,w,.refl K,s,.v _ O,?_⟩;cases a with|none=>have:=D O;subst this;simp at p;subst p;simp only[convert,Sem.run_bind,cQ g,cQ f,cQ l,Result.andThen_ok,Conv.bytesToString];rfl|some b=>have A:=q b O;rw[jS]at A;simp only[convert,Sem.run_bind,cQ g,cQ f,cQ l,Result.andThen_ok,Conv.bytesToString,A,List.forIn_toArray,Sem.run_pure];simp[foldl_push]
  grind
 .rename_i e e2 z1 sz es g f;split at d
  .rename_i l;split at d
   .rename_i hc;obtain⟨rfl,z⟩:=hc;injection d with d;obtain⟨rfl,rfl⟩:=eD d;cases t with|list _ _ _ z3 C Y n cells hn L hv H ht E=>obtain⟨S,ht2,T,ht4,ht5⟩:=ht;subst T;obtain⟨t1,t2,t3,c0,Z,z0,t4,t5,t6⟩:=s.tok z1 z;refine⟨K,.slice (J ⟨(K.tk z1).1,C,ag⟩) Y n,_,.refl K,s.kill z c0.size,.list .held sz es _ C Y n cells hn L hv H ⟨S,trivial⟩ E,?_⟩;have N:w.shape? (K.tk z1).1=J (Z,c0.size):=(by simp[World.shape?,t4]);rw[g]at f;injection f with f;injection f with f;subst f;simp only[convert,Sem.run_bind,cQ g,cQ l,Result.andThen_ok,beq_self_eq_true,markStringish,run_shape,N,run_freeze,Sem.run_pure]
   grind
  grind
 .cases d
 .rename_i d1 d2 z5 g f _ _ _ _;simp only[dg,wD]at d;obtain⟨z6,⟨z2,h1,h2⟩,d⟩:=d;obtain⟨rfl,rfl⟩:=eD d;obtain⟨rfl,_⟩:=t.gP;exact⟨K,z2,w,.refl K,s,Fb h2,EK h1 w⟩
 grind
end
section
variable {P:bk} {K:aW} {G:Nat->Option (List U)} {ok:aR->Nat->Code->Bool} {w0 w:bP} {h:Heap}
def afE(s:bK K G ok w0 h w){ts:Array aF}{ty:aF}{a x y:U}{h':Heap}(p:wO P h ts a x=J (y,h')){c cx:aG}(ha:aQ K a c)(u:aQ K x cx):
 ∃K' v w',K.Le K'/\bK K' G ok w0 h' w'/\aQ K' y v/\(Builtin.copy_ ts ty #[c,cx]).run P w=.ok v w':=by
 unfold wO at p;split at p
 .rename_i elem T;simp only[wD]at T;obtain⟨t0,h0,T⟩:=T;split at p
  .rename_i i b off len aS hi;split at p
   .rename_i d cs f Z;split at p
    .rename_i hc;injection p with p;obtain⟨rfl,rfl⟩:=eD p;obtain⟨C,n1,n2,n3,n4,n5,n⟩:=EB (P:=P) s f u;cases ha with
     |arr _ z0 _ _ _ r_ qP hb l pH A_ rW=>
      obtain⟨k1,k2,ka,cells,e,k3,k4⟩:=s.box b z0 cs hb Z;have Nn:F cs<=cells.size:=k4.le;have aiI:nM (F d) len<=F d:=Nat.min_le_left _ _;have S:nM (F d) len<=len:=Nat.min_le_right _ _;have hm:nM (F d) len*i.size<=len*i.size:=mz _ S;have nX:nM (F d) len*i.size<=F d*i.size:=mz _ aiI;have mD:(d.take (nM (F d) len)).flatten=d.flatten.take (nM (F d) len*i.size):=LR n2 _;have xm:aI K (d.take (nM (F d) len)).flatten (C.take (nM (F d) len*i.size)):=(by rw[mD];exact n3.take _);have Y:(d.take (nM (F d) len)).flatten.all U.cW=V:=(by rw[mD,eJ];intro x u;exact eJ.1 n4 x (xS u));have qm:F (C.take (nM (F d) len*i.size))=nM (F d) len*i.size:=(by simp only[cR];omega);obtain⟨w',cZ,q1,q2,q3⟩:=arc (P:=P) A_ (vs:=C.take (nM (F d) len*i.size)) (λhz=>by simp_all) k3 M (xZ xm Y);refine⟨K,.int .i64 (nM (F d) len:Nat),w',.refl K,s.PO hb Z (by grind) k3 q2 q3 xm Y,.v _ O,?_⟩
      .-- the source's first cells, as many as are copied
       have D:(Builtin.firstCells i.size (nM (F d) len) cx).run P w=.ok (C.take (nM (F d) len*i.size)).toArray w:=by
        unfold jL at f;split at f
        .rename_i str;split at f
         .rename_i h1;injection f with f;subst f;obtain⟨rfl,_⟩:=u.gP;have q:F (str.data.toList.map iy)=str.size:=(by rw[br];rfl);have e2:C=str.data.toList.map λb=>Value.int .u8 b.toNat:=(by have e3:(Builtin.firstCells i.size (F (str.data.toList.map iy)) (.string str)).run P w=.ok (str.data.toList.map λb=>Value.int .u8 b.toNat).toArray w:=(by rw[q];have:str.extract 0 str.size=str:=(by simp);have e4:str.data.map (λb=>Value.int .u8 b.toNat)=(str.data.toList.map λb=>Value.int .u8 b.toNat).toArray:=(by apply JJ;simp);simp only[Builtin.firstCells,this,Sem.run_pure,e4]);rw[e3]at n;injection n with n _;exact(Ki n).symm);subst e2;rw[h1,jS];simp only[Builtin.firstCells,Sem.run_pure];congr 1;apply JJ;simp_all
         simp_all
        .obtain⟨a,qP,z,rfl,hr,gC,yE,L,N,DW⟩:=EW (P:=P) s f u;cases a with
         |none=>simp_all|some ad=>
          simp only[Builtin.firstCells];have l:=N ad O;have e5:z=C:=(by simp only[Builtin.firstCells]at n;rw[l]at n;injection n with n _;exact Ki n);subst e5;have avi:∀j v,z[j]?=J v->w.cell? (ad.add j)=J v:=by
           unfold rowsOf at f;split at f
           .rename_i k sz es _;split at f
            .injection f with f;subst f;cases u with|fZ=>simp_all|list _ _ _ H m z1 cap2 g hn Hy ajc E ht2 Mf=>have q:=run_loadCells_list (P:=P) w ⟨H,m,ag⟩ g (λj v A=>by rw[Addr.hC];exact s.ic _ _ _ (E j v A));have r:F g=F es*i.size:=(by rw[<-ajc.length,gC.length,L]);rw[r]at q;rw[q]at l;injection l with l _;have:=Ki l;subst this;intro j v A;rw[Addr.hC];exact s.ic _ _ _ (E j v A)
            simp_all
           .rename_i b2 m NV cap2 _;split at f
            .rename_i X Ms;split at f
             .rename_i avm;injection f with f;cases u with
              |arr _ H _ _ _ off2' cap2' k' q UJ t avI=>
               obtain⟨_,_,_,g,e2,k3',k4'⟩:=s.box b2 H X k' Ms;have eM:F X<=F g.toList:=(by have:=k4'.le;simpa using this);rcases t with t|oN;rotate_left 1
               .simp_all
               rw[t]at l ⊢;have r:F ((g.toList.drop m).take (d.length*i.size))=F d*i.size:=(by simp only[cR,eC];omega);have Hh:=run_loadCells_list (P:=P) w ⟨H,m,ag⟩ ((g.toList.drop m).take (F d*i.size)) (λj v A=>by
                rw[Addr.hC,cell_of k3']
                grind)
               rw[r]at Hh;rw[Hh]at l;injection l with l _;have:=Ki l;subst this;intro j v A;rw[Addr.hC,cell_of k3']
               grind
             simp_all
            simp_all
           .grind
          have:=run_loadCells_list (P:=P) w ad (z.take (nM (F d) len*i.size)) (λj v A=>by
           grind)
          simp_all
       simp only[Builtin.copy_,h0,iQ,iP,jE,Sem.run_bind,cQ T,Result.andThen_ok,n1,sizeOf,oU hi,Sem.run_pure,D,q1];rfl
    grind
   grind
  grind
 grind
def akK{ts:Array aF}{ty t:aF}(g:ts[0]?=J t){x y:U}(d:dB P t x=J y){c:aG}(l:aQ K x c)(w:bP):
 ∃v,(Builtin.len_ ts ty #[c]).run P w=.ok v w/\aQ K y v:=by
 unfold dB at d;split at d
 .rename_i f;injection d with d;subst d;obtain⟨rfl,_⟩:=l.gP;exact⟨_,by simp only[Builtin.len_,g,iQ,iP,Sem.run_bind,cQ f,Result.andThen_ok,Sem.run_pure,goInt],.v _ O⟩
 .rename_i r e f;injection d with d;subst d;exact⟨_,by simp only[Builtin.len_,g,iQ,iP,Sem.run_bind,cQ f,Result.andThen_ok,Sem.run_pure,goInt],.v _ O⟩
 .rename_i a f;split at d
  .rename_i r e n;injection d with d;subst d;exact⟨_,by simp only[Builtin.len_,g,iQ,iP,Sem.run_bind,cQ f,cQ n,Result.andThen_ok,Sem.run_pure,goInt],.v _ O⟩
  grind
 .rename_i e k u s f;injection d with d;subst d;cases l with
  |nil=>exact⟨.int .i64 0,by simp only[Builtin.len_,g,iQ,iP,Sem.run_bind,cQ f,Result.andThen_ok,Sem.run_pure,goInt];rfl,.v _ O⟩
  |fZ=>exact⟨.int .i64 0,by simp only[Builtin.len_,g,iQ,iP,Sem.run_bind,cQ f,Result.andThen_ok,Sem.run_pure,goInt];rfl,.v _ O⟩
  |list _ _ _ z p r m cells q _ _ _ _ _=>subst q;exact⟨_,by simp only[Builtin.len_,g,iQ,iP,Sem.run_bind,cQ f,Result.andThen_ok,Sem.run_pure,goInt],.v _ O⟩
 .rename_i e b p len m f;injection d with d;subst d;cases l with|arr=>exact⟨_,by simp only[Builtin.len_,g,iQ,iP,Sem.run_bind,cQ f,Result.andThen_ok,Sem.run_pure,goInt],.v _ O⟩
 grind
def aeu{ts:Array aF}{ty t:aF}(g:ts[0]?=J t){x y:U}(d:Az P t x=J y){c:aG}(m:aQ K x c)(w:bP):
 ∃v,(Builtin.cap_ ts ty #[c]).run P w=.ok v w/\aQ K y v:=by
 unfold Az at d;split at d
 .rename_i e q n f;injection d with d;subst d;cases m with
  |fZ=>exact⟨.int .i64 0,by simp only[Builtin.cap_,g,iQ,iP,Sem.run_bind,cQ f,Result.andThen_ok,Sem.run_pure,goInt];rfl,.v _ O⟩
  |list _ _ _ z s u r cells p _ _ _ l _=>have:=l.2;simp only at this;subst this;subst p;exact⟨_,by simp only[Builtin.cap_,g,iQ,iP,Sem.run_bind,cQ f,Result.andThen_ok,Sem.run_pure,goInt],.v _ O⟩
 .rename_i e q n f;injection d with d;subst d;cases m with
  |nil=>exact⟨.int .i64 0,by simp only[Builtin.cap_,g,iQ,iP,Sem.run_bind,cQ f,Result.andThen_ok,Sem.run_pure,goInt];rfl,.v _ O⟩
  |list _ _ _ _ _ _ _ _ _ _ _ _ l _=>exact l.2.elim
 .rename_i u e f;injection d with d;subst d;exact⟨_,by simp only[Builtin.cap_,g,iQ,iP,Sem.run_bind,cQ f,Result.andThen_ok,Sem.run_pure,goInt],.v _ O⟩
 grind
def Sa(s:bK K G ok w0 h w){b:Builtin}{ts:Array aF}{ty:aF}{args:List U}{y:U}{h':Heap}(c:iu P h b ts ty args=J (y,h')){vs:Array aG}(d:aI K args vs.toList)(n:Array Bool):
 ∃g v w',K.Le g/\bK g G ok w0 h' w'/\aQ g y v/\(builtin b ts ty n vs).run P w=.ok (.value v) w':=by
 unfold iu at c;obtain⟨vs⟩:=vs;simp only at d;split at c
 .cases d with|cons _ C _ _ d f=>cases f with|nil=>
  split at c
  .rename_i N q;simp only[dg]at c;obtain⟨H,x,c⟩:=c;obtain⟨rfl,rfl⟩:=eD c;obtain⟨v,l,m⟩:=akK (ty:=ty) q x d w;exact⟨K,v,w,.refl K,s,m,by simp only[builtin,Sem.run_bind,l,Result.andThen_ok,Sem.run_pure]⟩
  grind
 .cases d with|cons _ C _ _ d f=>cases f with|nil=>
  split at c
  .rename_i N q;simp only[dg]at c;obtain⟨H,x,c⟩:=c;obtain⟨rfl,rfl⟩:=eD c;obtain⟨v,l,m⟩:=aeu (ty:=ty) q x d w;exact⟨K,v,w,.refl K,s,m,by simp only[builtin,Sem.run_bind,l,Result.andThen_ok,Sem.run_pure]⟩
  grind
 .cases d with|cons _ C _ _ d f=>cases f with|cons _ D _ _ p f=>cases f with|nil=>
  obtain⟨g,v,w',l,m,z,A⟩:=KP (ty:=ty) s c d p;exact⟨g,v,w',l,m,z,by simp only[builtin,Sem.run_bind,A,Result.andThen_ok,Sem.run_pure]⟩
 .cases d with|cons _ C _ _ d f=>cases f with|cons _ D _ _ p f=>cases f with|nil=>
  obtain⟨g,v,w',l,m,z,A⟩:=afE (ty:=ty) s c d p;exact⟨g,v,w',l,m,z,by simp only[builtin,Sem.run_bind,A,Result.andThen_ok,Sem.run_pure]⟩
 .split at c
  .rename_i L u;simp only[dg,wD]at c;obtain⟨H,⟨E,r,t⟩,c⟩:=c;obtain⟨rfl,rfl⟩:=eD c;have:=LN u d;subst this;exact⟨K,E,w,.refl K,s,Fb t,by simp only[builtin,Sem.run_bind,EK r w,Result.andThen_ok,Sem.run_pure]⟩
  grind
 .split at c
  .rename_i L u;simp only[dg,wD]at c;obtain⟨H,⟨E,r,t⟩,c⟩:=c;obtain⟨rfl,rfl⟩:=eD c;have:=LN u d;subst this;exact⟨K,E,w,.refl K,s,Fb t,by simp only[builtin,Sem.run_bind,EK r w,Result.andThen_ok,Sem.run_pure]⟩
  grind
 grind
def aec(s:bK K G ok w0 h w){d:Option Tmp}{b:Builtin}{ts:Array aF}{ty:aF}{args:List U}{y:U}{h':Heap}(f:po P G d h b ts ty args=J (y,h')){vs:Array aG}(g:aI K args vs.toList)(c:Array Bool):
 ∃l v w',K.Le l/\bK l G ok w0 h' w'/\aQ l y v/\(builtin b ts ty c vs).run P w=.ok (.value v) w':=by
 unfold po at f;split at f
 .split at f
  .obtain⟨vs⟩:=vs;simp only at g;cases g with|cons _ x _ _ g m=>cases m with|cons _ u _ _ n m=>cases m with|nil=>
   obtain⟨l,v,w',p,q,r,t⟩:=P0 (ty:=ty) s f g n;exact⟨l,v,w',p,q,r,by simp only[builtin,Sem.run_bind,t,Result.andThen_ok,Sem.run_pure]⟩
  .exact Sa s (b:=.append) (ts:=ts) (ty:=ty) (args:=[_,_]) (show iu P h .append ts ty [_,_]=_ from f) g c
 .exact Sa s f g c
def amY{c a b y:U}(d:Is c a b=J y){l f g:aG}(m:aQ K c l)(n:aQ K a f)(p:aQ K b g):
 ∃t v,l=.bool t/\v=(if t then f else g)/\aQ K y v:=by
 unfold Is at d;split at d
 .rename_i t;injection d with d;subst d;obtain⟨rfl,_⟩:=m.gP
  grind
 grind
def amZ(s:bK K G ok w0 h w){ρ:bR->U}{ρ':bR->aG}(l:∀x,aQ K (ρ x) (ρ' x)){o:Oper}{x:U}{h':Heap}(c:dk P G ρ h o.op=J (x,h')):
 Yields K G ok w0 x h' ((execOp ρ' o).run P w):=by
 unfold execOp;cases hop:o.op<;>rw[hop]at c<;>simp only[dk]at c
 case move a=>injection c with c;obtain⟨rfl,rfl⟩:=eD c;exact .lE s (l a) O
 case assign a=>injection c with c;obtain⟨rfl,rfl⟩:=eD c;exact .lE s (l a) O
 case pick C a b=>
  simp only[dg]at c;obtain⟨u,d,c⟩:=c;obtain⟨rfl,rfl⟩:=eD c;obtain⟨t,r,m,rfl,n⟩:=amY d (l C) (l a) (l b);refine .lE s n ?_;simp only[m,asBool,Sem.run_bind,Sem.run_pure,Result.andThen_ok]
 case alloc t=>
  simp only[dg]at c;obtain⟨cs,v,c⟩:=c;obtain⟨q,r,w',m,g,n,z⟩:=acy (P:=P) s v;rw[c]at g n;exact⟨q,r,w',m,g,n,.inl (by simp_all)⟩
 case box t a=>
  simp only[dg]at c;obtain⟨cs,v,c⟩:=c;obtain⟨q,r,w',m,g,n,z⟩:=ad0 (P:=P) (t:=t) s v (l a);rw[c]at g n;exact⟨q,r,w',m,g,n,.inl (by simp_all)⟩
 case build t parts=>
  simp only[dg]at c;obtain⟨u,d,c⟩:=c;obtain⟨rfl,rfl⟩:=eD c;obtain⟨r,m,g⟩:=aeb l d w;exact .lE s g (by simp_all)
 case buildSlice t len parts=>
  split at c
  .simp only[dg]at c;obtain⟨u,d,c⟩:=c;obtain⟨rfl,rfl⟩:=eD c;obtain⟨q,r,w',m,g,n,z⟩:=aea s l d;exact⟨q,r,w',m,g,n,.inl (by simp_all)⟩
  .split at c
   .rename_i k sz es d;injection c with c;obtain⟨q,r,w',m,g,n,z⟩:=ad9 s l d;rw[c]at g n;exact⟨q,r,w',m,g,n,.inl (by simp_all)⟩
   grind
 case load t a=>
  simp only[dg]at c;obtain⟨u,d,c⟩:=c;obtain⟨rfl,rfl⟩:=eD c;obtain⟨z0,z1,r,m,g,n⟩:=WJ s d (l a);exact .lE s n (by simp only[m,Instr.loadAt,Instr.sureAddr,Sem.run_bind,g,Result.andThen_ok,Sem.run_pure])
 case store t a u=>
  simp only[dg]at c;obtain⟨T,d,c⟩:=c;obtain⟨rfl,rfl⟩:=eD c;obtain⟨w',m,g⟩:=asZ s d (l a) (l u);exact⟨K,undef,w',.refl K,g,.tuple _ _ .nil,.inr ⟨by simp_all,O⟩⟩
 case nilCheck a=>
  simp only[dg]at c;obtain⟨u,d,c⟩:=c;obtain⟨rfl,rfl⟩:=eD c;have p:=l a;generalize ρ a=xa at p d;generalize A:ρ' a=N at p;unfold Oe at d;split at d
  .injection d with d;subst d;cases p with|box _ _ _ hb=>exact .lE s (.box _ _ _ hb) (by simp_all)|dA _ _=>exact .lE s (.dA _ _) (by simp_all)
  .injection d with d;subst d;cases p with|elem _ _ _ _ z0 o z1 cells H hv D Y hp X=>exact .lE s (.elem _ _ _ _ z0 o z1 cells H hv D Y hp X) (by simp_all)
  .injection d with d;subst d;cases p with|func _ _ _ fs cs h1 T=>exact .lE s (.func _ _ _ fs cs h1 T) (by simp_all)
  .injection d with d;subst d;cases p with|yield _ z0 hl=>exact .lE s (.yield _ z0 hl) (by simp_all)
  .injection d with d;subst d;cases p with|iface _ _ C hx=>exact .lE s (.iface _ _ C hx) (by simp_all)
  grind
 case binOp op t a b yt=>
  simp only[dg]at c;obtain⟨u,d,c⟩:=c;obtain⟨rfl,rfl⟩:=eD c;obtain⟨r,m,g⟩:=adx d (l a) (l b) w;exact .lE s g (by rw[Sem.run_bind,m];rfl)
 case unOp op t a=>
  simp only[dg]at c;obtain⟨u,d,c⟩:=c;obtain⟨rfl,rfl⟩:=eD c;obtain⟨r,m,g⟩:=at4 d (l a) w;exact .lE s g (by simp_all)
 case convert sr ds a=>
  obtain⟨q,r,w',m,g,n,z⟩:=afA s c (l a);exact⟨q,r,w',m,g,n,.inl (by simp_all)⟩
 case makeInterface t a=>
  split at c
  .rename_i Z;injection c with c;obtain⟨rfl,rfl⟩:=eD c;obtain⟨z3,L,hd⟩:=NG Z;refine .lE s (.iface t _ _ (l a)) ?_;simp only[Instr.makeInterface,Sem.run_bind,cQ L,Result.andThen_ok];simp_all
  grind
 case makeFunc fn first aS=>
  injection c with c;obtain⟨rfl,rfl⟩:=eD c;refine .lE s (.func fn _ _ _ _ (by rw[Ct];exact aI.map_mk λx _=>l x) (by rw[Ct];exact aI.map_mk λx _=>l x)) O
 case makeSlice t z2 C=>
  obtain⟨q,r,w',m,g,n,z⟩:=aln s c (l z2) (l C);exact⟨q,r,w',m,g,n,.inl (by simp_all)⟩
 case slice t a lo Y mx=>
  simp only[dg]at c;obtain⟨u,d,c⟩:=c;obtain⟨rfl,rfl⟩:=eD c;obtain⟨r,m,g⟩:=ar7 l d (l a) w;exact .lE s g (by simp_all)
 case fieldAddr t a f=>
  simp only[dg]at c;obtain⟨u,d,c⟩:=c;obtain⟨rfl,rfl⟩:=eD c;obtain⟨r,m,g⟩:=agI d (l a) w;exact .lE s g (by simp_all)
 case field t a f=>
  have p:=l a;generalize ρ a=xa at p c;generalize A:ρ' a=N at p;split at c
  .rename_i fields cs L;split at c
   .rename_i fd hf;simp only[dg]at c;obtain⟨u,d,c⟩:=c;obtain⟨rfl,rfl⟩:=eD c;cases p with|agg _ vs y=>obtain⟨r,m,g⟩:=XI d y w;exact .lE s g (by simp only[Instr.field,Sem.run_bind,cQ L,Result.andThen_ok,hf,A,asAgg,Sem.run_pure,m])
   grind
  grind
 case indexAddr t a i=>
  simp only[dg]at c;obtain⟨u,d,c⟩:=c;obtain⟨rfl,rfl⟩:=eD c;obtain⟨r,m,g⟩:=ajp d (l a) (l i) w;exact .lE s g (by simp_all)
 case index t a i=>
  simp only[dg]at c;obtain⟨u,d,c⟩:=c;obtain⟨rfl,rfl⟩:=eD c;obtain⟨r,m,g⟩:=ajs d (l a) (l i) w;exact .lE s g (by simp_all)
 case typeAssert a xt t okk=>
  simp only[dg]at c;obtain⟨u,d,c⟩:=c;obtain⟨rfl,rfl⟩:=eD c;obtain⟨r,m,g⟩:=acV (xt:=xt) d (l a) w;exact .lE s g (by simp_all)
 case extract a i=>
  have p:=l a;generalize ρ a=xa at p c;generalize A:ρ' a=N at p;split at c
  .rename_i vs;simp only[dg]at c;obtain⟨u,d,c⟩:=c;obtain⟨rfl,rfl⟩:=eD c;cases p with|tuple _ S y=>obtain⟨C,D,H⟩:=y.get d;have:S[i]?=J C:=(by simpa using D);exact .lE s H (by simp only[Instr.extract,A,this,Sem.run_bind,Sem.run_pure,Result.andThen_ok])
  grind
 all_goals cases c
end
def BJ(n:Nat)(ops:Array Oper):Bool:=ops.all λo=>match o.dst with|some c=>decide (c<n)|none=>V
def codeOk(n:Nat):Code->Bool
 | .region _ ops _=>BJ n ops
 | .seq a b=>codeOk n a&&codeOk n b
 | .cond _ a b=>codeOk n a&&codeOk n b
 | .block _ c=>codeOk n c
 | .loop c=>codeOk n c
 | .scope c=>codeOk n c
 | .rangeFunc _ d a b=>d.all (λf=>decide (f<n))&&codeOk n a&&codeOk n b
 |_=>V
def BD(P:bk)(fn:aR)(n:Nat)(c:Code):Bool:=codeOk n c&&(P.funcs[fn]?).isSome
inductive oB (K:aW):List (aR × List U)->List Deferred->List Nat->Prop
 |nil:oB K [] [] []
 |call (g:aR) (args:List U) (vs aS:Array aG) (ds cds ms) (hv:aI K args (vs++aS).toList) (h:oB K ds cds ms):
  oB K ((g,args)::ds) ({target:=.fn (.func g) aS,args:=vs}::cds) ms
 |mark (r:Nat) (ds cds ms) (hr:r∈K.md) (hn:r∉ms) (h:oB K ds cds ms):oB K ds ({target:=.collected r,args:=#[]}::cds) (r::ms)
def oB.mono{K m}(le:K.Le m){d c f}(h:oB K d c f):oB m d c f:=by
 induction h with
 |nil=>exact .nil|call u g s n d c f r _ l=>exact .call u g s n d c f (r.mono le) l|mark t d c f q p _ l=>exact .mark t d c f (le.md t q) p l
structure mq(P:bk)(K:aW)(e:Env)(a:Act)(B:eF)(ms:List Nat):Prop where
 gf:jT K e.tmps a.tmps
 defers:oB K e.defers a.defers ms
 round:match e.round with
  |none=>B.roundOf=ag
  |some l=>∃g,K.γ[l]?=J g/\B.roundOf=J g/\B.kind=.normal/\a.defers=[]/\ms=[]/\e.defers=[]
 fn:(P.funcs[B.fn]?).isSome=V
def mq.mono{P}{K c}(le:K.Le c){e}{a}{B}{d}(h:mq P K e a B d):mq P c e a B d:=by
 refine⟨h.gf.mono le,h.defers.mono le,?_,h.fn⟩;have:=h.round;cases l:e.round with|none=>simp_all|some n=>rw[l]at this;obtain⟨m,f,g⟩:=this;exact⟨m,le.γ _ _ f,g⟩
inductive CS (K:aW) (kind:CallKind) (base:List eF):Option (U × Bool)->List eF->Prop
 |normal (h:kind=.normal):CS K kind base ag base
 |ret (c0:eF) (rest:List eF) (hk:kind=.deferred) (hb:base=c0::rest) (hm:c0.mode=.returning):CS K kind base ag base
 |cD (c0:eF) (rest:List eF) (x:U) (v:aG) (r:Bool) (hk:kind=.deferred) (hb:base=c0::rest) (hx:aQ K x v):
  CS K kind base (J (x,r)) ({c0 with mode:=.panicking [{v,recovered:=r}]}::rest)
def CS.mono{K l}(le:K.Le l){d c p cs}(h:CS K d c p cs):CS l d c p cs:=by
 cases h with|normal h=>exact .normal h|ret c0 rest g f m=>exact .ret c0 rest g f m|cD c0 rest s r q g f n=>exact .cD c0 rest s r q g f (n.mono le)
def Bw(s:nO)(d t)(x):(s.set d x).get t=if d=t then x else s.get t:=by simp only[nO.set,nO.get,look];simp_all
section
variable {P:bk} {K:aW} {G:Nat->Option (List U)} {w0 w:bP} {h:Heap}
def jT.set{s:nO}{tmps:Array aG}(g:jT K s tmps){d:Nat}(l:d<tmps.size){x:U}{v:aG}(m:aQ K x v):jT K (s.set d x) (tmps.setIfInBounds d v):=by
 intro f;rw[Bw];by_cases c:d=f
 .simp_all
 .rw[aL c];have:(tmps.setIfInBounds d v).getD f undef=tmps.getD f undef:=by simp[Qe,c]
  rw[this];exact g f
def wV{e:Env}{a:Act}(c:jT K e.tmps a.tmps)(x:bR):aQ K (e.eval x) (a.eval x):=by
 cases x with|tmp g=>exact c g|const l=>exact Ij l|global f=>exact .dA f 0|func d=>exact .func (.func d) [] [] #[] #[] .nil .nil
def mq.put{e:Env}{a:Act}{B:eF}{g:List Nat}(f:mq P K e a B g){c:Option Tmp}(l:∀d,c=J d->d<a.tmps.size){x:U}{v:aG}(m:aQ K x v):
 mq P K (e.put c x) (a.put c v) B g:=by
 cases c with|none=>exact f|some d=>exact⟨f.gf.set (l d O) m,f.defers,f.round,f.fn⟩
def IA(a:Act)(c)(v):(a.put c v).tmps.size=a.tmps.size:=by cases c<;>simp[Act.put]
section steps
variable {B:eF} {a:Act} {k:List Item} {cs:List eF} {ops:Array Oper} {i:Nat} {rest:List Nat} {o:Oper} {w':bP}
def ys(c:ops[i]?=J o)(v:aG):(B.atR a (.inRegion ops (i::rest)::k)).finish v=B.atR (a.put o.dst v) (.inRegion ops rest::k):=by rw[Frame.finish_atR,c];rfl
def Zy(c:ops[i]?=J o)(f:Region.wanted o (yielded ops a.tmps)=V){v:aG}(d:(o.semAt B.roundOf a.eval).run P w=.ok (.value v) w'):
 step P (lone (B.atR a (.inRegion ops (i::rest)::k)) cs w)=.next (lone (B.atR (a.put o.dst v) (.inRegion ops rest::k)) cs w'):=by
 refine step_lone_go ?_;rw[stepGR_op c f,<-ys c];simp[stepG.apply,d,Sem.runT_eq]
def asW(c:ops[i]?=J o)(f:Region.wanted o (yielded ops a.tmps)=V)(d:(o.semAt B.roundOf a.eval).run P w=.ok .skip w'):
 step P (lone (B.atR a (.inRegion ops (i::rest)::k)) cs w)=.next (lone (B.atR (a.put o.dst undef) (.inRegion ops rest::k)) cs w'):=by
 refine step_lone_go ?_;rw[stepGR_op c f,<-ys c];simp[stepG.apply,d,Sem.runT_eq]
def asN(c:ops[i]?=J o)(g:Region.wanted o (yielded ops a.tmps)=V){f:aR}{args:Array aG}(d:(o.semAt B.roundOf a.eval).run P w=.ok (.enter f args) w'):
 step P (lone (B.atR a (.inRegion ops (i::rest)::k)) cs w)=.next (lone (Frame.enter P f args .normal) (B.atR a (.inRegion ops (i::rest)::k)::cs) w'):=by
 refine step_lone_go ?_;rw[stepGR_op c g];simp[stepG.apply,d,Sem.runT_eq,Frame.atR]
def asU(c:ops[i]?=J o)(g:Region.wanted o (yielded ops a.tmps)=V){l:Nat}{f:aR}{tmps:Array aG}{assign body:Code}(d:(o.semAt B.roundOf a.eval).run P w=.ok (.round l f tmps assign body) w'):
 step P (lone (B.atR a (.inRegion ops (i::rest)::k)) cs w)=.next (lone (Frame.round l f tmps assign body .normal) (B.atR a (.inRegion ops (i::rest)::k)::cs) w'):=by
 refine step_lone_go ?_;rw[stepGR_op c g];simp[stepG.apply,d,Sem.runT_eq,Frame.atR]
def asM(c:ops[i]?=J o)(g:Region.wanted o (yielded ops a.tmps)=V){d:Deferred}(f:(o.semAt B.roundOf a.eval).run P w=.ok (.defer d) w'):
 step P (lone (B.atR a (.inRegion ops (i::rest)::k)) cs w)=.next (lone (B.atR ({a with defers:=d::a.defers}.put o.dst undef) (.inRegion ops rest::k)) cs w'):=by
 refine step_lone_go ?_;rw[stepGR_op c g,<-ys (B:=B) (k:=k) (rest:=rest) (a:={a with defers:=d::a.defers}) c];simp[stepG.apply,f,Sem.runT_eq,Frame.atR]
def Zu(c:ops[i]?=J o)(f:Region.wanted o (yielded ops a.tmps)=V){v:aG}(d:(o.semAt B.roundOf a.eval).run P w=.halt (.panic v) w'):
 step P (lone (B.atR a (.inRegion ops (i::rest)::k)) cs w)=.next (lone {B.atR a (.inRegion ops (i::rest)::k) with mode:=.panicking [{v,recovered:=ah}]} cs w'):=by
 refine step_lone_go ?_;rw[stepGR_op c f,<-Frame.raise_atR];simp[stepG.apply,d,Sem.runT_eq]
def asS(d:ops[i]?=J o)(m:Region.wanted o (yielded ops a.tmps)=V)(f:B.roundOf=ag)(g:(o.semAt B.roundOf a.eval).run P w=.ok .recover w')
 (l:tryRecover (B.atR a (.inRegion ops (i::rest)::k)) cs=ag):
 step P (lone (B.atR a (.inRegion ops (i::rest)::k)) cs w)=.next (lone (B.atR (a.put o.dst .nilIface) (.inRegion ops rest::k)) cs w'):=by
 refine step_lone_go ?_;have c:(B.atR a (.inRegion ops (i::rest)::k)).roundOf=ag:=f;rw[stepGR_op d m,<-ys d];simp[stepG.apply,g,Sem.runT_eq,c,l]
def asT(f:ops[i]?=J o)(n:Region.wanted o (yielded ops a.tmps)=V)(g:B.roundOf=ag)(l:(o.semAt B.roundOf a.eval).run P w=.ok .recover w')
 {v:aG} {c:List eF} (m:tryRecover (B.atR a (.inRegion ops (i::rest)::k)) cs=J (v,c)):
 step P (lone (B.atR a (.inRegion ops (i::rest)::k)) cs w)=.next (lone (B.atR (a.put o.dst v) (.inRegion ops rest::k)) c w'):=by
 refine step_lone_go ?_;have d:(B.atR a (.inRegion ops (i::rest)::k)).roundOf=ag:=g;rw[stepGR_op f n,<-ys f];simp[stepG.apply,l,Sem.runT_eq,d,m]
end steps
end
abbrev ji(P:bk)(G:Nat->Option (List U))(w0:bP)(K:aW)(h:Heap)(w:bP):Prop:=bK K G (BD P) w0 h w
def mK(P:bk)(K:aW)(m:Machine)(B:eF)(k:List Item)(cs:List eF):Xt->Act->bP->Prop
 | .normal,a,w=>Steps P m (lone (B.atR a k) cs w)
 | .exit id,a,w=>∃c,exitTo id c=exitTo id k/\Steps P m (lone (B.atR a (.code (.exit id)::c)) cs w)
 | .ret,a,w=>∃c,Steps P m (lone (B.atR a (.code .ret::c)) cs w)
 | .panic d,a,w=>∃c v,aQ K d v/\Steps P m (lone {B.atR a c with mode:=.panicking [{v,recovered:=ah}]} cs w)
def mK.of_steps{P}{K}{m m'}{B}{k}{cs}{x}{a}{w}(d:Steps P m m')(h:mK P K m' B k cs x a w):mK P K m B k cs x a w:=by
 cases x with
 |normal=>exact d.trans h|exit id=>obtain⟨g,f,c⟩:=h;exact⟨g,f,d.trans c⟩
 |ret=>obtain⟨g,c⟩:=h;exact⟨g,d.trans c⟩
 |panic x=>obtain⟨g,l,f,c⟩:=h;exact⟨g,l,f,d.trans c⟩
def mK.pass{P}{K}{m}{B}{c}{k}{cs}{x}{a}{w}(g:c.plain=V)(l:x≠ .normal)
 (h:mK P K m B (c::k) cs x a w):mK P K m B k cs x a w:=by
 cases x with
 |normal=>simp_all|exit id=>obtain⟨n,d,f⟩:=h;refine⟨n,d.trans ?_,f⟩;cases c<;>first|rfl|simp[Item.plain]at g
 |ret=>exact h|panic x=>exact h
structure Left(P:bk)(G:Nat->Option (List U))(w0:bP)(K:aW)(ms:List Nat)(B:eF)(base:List eF)(m:Machine)(k:List Item)(n:Nat)(out:Xt)(e':Env)(h':Heap)
 (K':aW) (w':bP) (a':Act) (AD:List eF) (ms':List Nat):Prop where
 le:K.Le K'
 oV:ji P G w0 K' h' w'
 frame:mq P K' e' a' B ms'
 cs:CS K' B.kind base e'.cD AD
 size:a'.tmps.size=n
 marks:∀r∈ms',r∈ms∨r∉K.md
 arr:mK P K' m B k AD out a' w'
def Q6(P:bk)(G:Nat->Option (List U))(w0:bP)(f:Code->Env->Heap->Option (Xt × Env × Heap)):Prop:=
 ∀q e h d e' h',f q e h=J (d,e',h')->∀K w a B k c cs l,mq P K e a B l->CS K B.kind c e.cD cs->ji P G w0 K h w->codeOk a.tmps.size q=V->
  ∃n w' p g m,Left P G w0 K l B c (lone (B.atR a (.code q::k)) cs w) k a.tmps.size d e' h' n w' p g m
def Q4(P:bk)(K:aW)(c:eF)(w:bP):dR->Prop
 | .ret d=>∃v,aQ K d v/\c.leaving P w (.returned v)
 | .panic d=>∃v,aQ K d v/\c.leaving P w (.panicked [{v,recovered:=ah}])
def Q5(P:bk)(G:Nat->Option (List U))(w0:bP)(f:aR->List U->Heap->Option (dR × Heap)):Prop:=
 ∀n d h p h',f n d h=J (p,h')->(∃m,P.funcs[n]?=J m/\m.body.isSome=V)/\∀K w c,aI K d (c:Array aG).toList->ji P G w0 K h w->∀cs,
  ∃g w' l,K.Le g/\ji P G w0 g h' w'/\Steps P (lone (Frame.enter P n c .normal) cs w) (lone l cs w')/\l.fn=n/\Q4 P g l w' p
def Q7(P:bk)(G:Nat->Option (List U))(w0:bP)(f:aR->List U->Option (U × Bool)->Heap->Option (dR × Option (U × Bool) × Heap)):Prop:=
 ∀r d s h u q h',f r d s h=J (.ret u,q,h')->(∃p,P.funcs[r]?=J p/\p.body.isSome=V)/\∀K w c g cs,aI K d (c:Array aG).toList->CS K .deferred g s cs->ji P G w0 K h w->
  ∃m w' n l t,K.Le m/\ji P G w0 m h' w'/\CS m .deferred g q l/\Steps P (lone (Frame.enter P r c .deferred) cs w) (lone n l w')/\n.kind=.deferred/\n.going P w' (.returned t)
def Q8(P:bk)(G:Nat->Option (List U))(w0:bP)(f:Nat->List U->Heap->Option (dR × Heap)):Prop:=
 ∀u n h x h',f u n h=J (x,h')->∀K w m p,K.γ[u]?=J p->aI K n (m:Array aG).toList->ji P G w0 K h w->∀c cs,
  ∃r l d g q w',(Instr.yield p m).run P w=.ok (.round p r l d g) w/\K.Le q/\ji P G w0 q h' w'/\
   match x with
   | .ret t=>∃v,aQ q t v/\Steps P (lone (Frame.round p r l d g .normal) (c::cs) w) (lone (c.finish v) cs w')
   | .panic t=>∃v s,aQ q t v/\Steps P (lone (Frame.round p r l d g .normal) (c::cs) w) (lone s (c::cs) w')/\s.leaving P w' (.panicked [{v,recovered:=ah}])
structure tt(P:bk)(G:Nat->Option (List U))(w0:bP)(R:Rec):Prop where
 code:Q6 P G w0 R.code
 call:Q5 P G w0 R.call
 iA:Q7 P G w0 R.iA
 round:Q8 P G w0 R.round
section
variable {P:bk} {G:Nat->Option (List U)} {w0:bP} {R:Rec}
def Ak (P : bk) : Prop := ∀ (d : aR) (c : Func), P.funcs[d]? = J c -> (c.name == "runtime.NumGoroutine") = ah
def Pp(l:Ak P){g:aR}{fn:Func}(c:P.funcs[g]?=J fn)(m:fn.body.isSome=V)(args:Array aG)(w:bP):(callFunc g args).run P w=.ok (.enter g args) w:=by
 have d:=l g fn c;have f:fn.body.isNone=ah:=by simp_all
 unfold callFunc;simp only[Sem.run_bind,run_program,Result.andThen_ok,c];rw[d,f];rfl
def alw{t:aF}{name:String}{f:aR}(d:N8 P t name=J f)(v:aG)(w:bP)(n:Nat):
 (method (n+1) t v name).run P w=.ok (f,v) w:=by
 unfold N8 at d;split at d
 .rename_i i p;split at d
  .rename_i x q;have u:∀(c:Bool) (l:TypeDesc),x.path.toList=[]->x.func=J (f,c)->P.underlying t=J l->(match l with| .pointer _=>c=V|_=>c=ah)->(method (n+1) t v name).run P w=.ok (f,v) w:=by intro c l r m s g;simp only[method,Sem.run_bind,oU p,Result.andThen_ok,q,r,follow,Sem.run_pure,m,receiverAt,cQ s];cases l<;>simp only at g<;>subst g<;>simp[Place.get]
   grind
  grind
 grind
end
section
variable {P:bk} {G:Nat->Option (List U)} {w0:bP} {R:Rec}
def Xu{n}{ops}(h:BJ n ops=V){i:Nat}{o}(f:ops[i]?=J o):∀d,o.dst=J d->d<n:=by
 intro d c;unfold BJ at h
 grind
def auo{K}{e}{a:Act}(v:jT K e.tmps a.tmps){ops}(m:BJ a.tmps.size ops=V){o}{b}(c:eE ops e o=J b):
 Region.wanted o (yielded ops a.tmps)=b:=by
 unfold eE at c;unfold Region.wanted;cases u:o.guard with
 |none=>simp_all|some s=>
  obtain⟨j,x⟩:=s;rw[u]at c;simp only at c ⊢;cases d:(ops[j]?).bind (·.dst) with
  |none=>rw[d]at c;simp only[dt]at c;subst c;simp[yielded,d]|some g=>
   rw[d]at c;simp only at c;have t:g<a.tmps.size:=by
    cases p:ops[j]? with|none=>simp_all|some A=>rw[p]at d;exact Xu m p g d
   have f:=v g;have l:a.tmps[g]?=J (a.tmps.getD g undef):=(by simp[t]);have q:∀r,a.tmps.getD g undef=r->yielded ops a.tmps j=match r with| .bool b=>J b|_=>ag:=by
    intro r n;unfold yielded;rw[d];simp only[Option.bind_some];rw[l,n]
    grind
   unfold Env.get at c;generalize z:e.tmps.get g=D at c f;generalize n:a.tmps.getD g undef=r at f;have q:=q r n;split at c
   .rename_i y;obtain⟨rfl,-⟩:=f.gP;simp_all
   .injection c with c;cases f with|tuple cs C h=>simp_all
   grind
def F7{K}{e:Env}{a:Act}(c:jT K e.tmps a.tmps)(xs:Array bR):aI K (xs.toList.map e.eval) (xs.map a.eval).toList:=by rw[Ct];exact aI.map_mk λd _=>wV c d
def QZ(P:bk)(G:Nat->Option (List U))(w0:bP)(K:aW)(p:List Nat)(B:eF)(g:List eF)(m:Machine)(ops:Array Oper)(o:Oper)(rest:List Nat)(k:List Item)(n:Nat)(e':Env)(h':Heap)(res:dR):Prop:=
 ∃c w' f d,K.Le c/\ji P G w0 c h' w'/\mq P c e' f B p/\CS c B.kind g e'.cD d/\f.tmps.size=n/\
  match res with
  | .ret q=>∃v,aQ c q v/\Steps P m (lone (B.atR (f.put o.dst v) (.inRegion ops rest::k)) d w')
  | .panic q=>∃v l,aQ c q v/\Steps P m (lone {B.atR f l with mode:=.panicking [{v,recovered:=ah}]} d w')
def ali:∃d,Made.depth=d+1:=⟨Made.depth-1,by decide⟩
def amc(hn:Ak P)(hR:tt P G w0 R){e e':Env}{a:Act}{B:eF}{ms:List Nat}{base cs:List eF}{K:aW}{h h':Heap}{w:bP}{ops:Array Oper}{i:Nat}{rest:List Nat}{o:Oper}{res:dR}
 (c:dH P G R e h o=J (res,e',h')) (f:mq P K e a B ms) (d:CS K B.kind base e.cD cs) (S:ji P G w0 K h w) (t:ops[i]?=J o) (z:Region.wanted o (yielded ops a.tmps)=V) (k:List Item):
 QZ P G w0 K ms B base (lone (B.atR a (.inRegion ops (i::rest)::k)) cs w) ops o rest k a.tmps.size e' h' res:=by
 have nx:∀(ro:Option Nat) (v:Sem Next),(∀x,o.op≠ .defer x)->execOp a.eval o=v->(o.semAt ro a.eval)=v:=λro v fP p=>by rw[Oper.semAt_eq ro a.eval o fP,p]
 have Vz:e.round.isSome=ah->B.roundOf=ag:=by
  intro hr;have:=f.round;cases N:e.round with|none=>simp_all|some z6=>simp_all
 unfold dH at c;split at c
 .-- recover
  rename_i args argTypes n;have r:execOp a.eval o=(do let z1 <-resolve a.eval {callee:=.builtin .recover,args:=args,argTypes:=argTypes} o.type;invoke z1.target z1.args):=by unfold execOp;rw[n]
  have l:(o.semAt B.roundOf a.eval).run P w=.ok .recover w:=by rw[nx _ _ (by simp_all) r];simp[resolve,invoke,builtin]
  split at c
  .cases c
  .rename_i Vv;have hB:=Vz (by simp_all);split at c
   .rename_i v hp;simp only[dt,cL]at c;obtain⟨rfl,rfl,rfl⟩:=c;rw[hp]at d;generalize C:B.kind=kd at d;generalize Hv:(J (v,ah):Option (U × Bool))=pp at d;cases d with
    |normal h=>grind
    |ret c0 u hk hb hm=>grind
    |cD c0 u x' z0 z5 hk hb p=>injection Hv with Hv;injection Hv with y h2;subst y;subst h2;refine⟨K,w,a,_,.refl K,S,⟨f.gf,f.defers,f.round,f.fn⟩,.cD c0 u v z0 V (C.trans hk) hb p,O,z0,p,.one (asT t z hB l ?_)⟩;simp[tryRecover,Frame.atR,C,hk]
   .rename_i hp;simp only[dt,cL]at c;obtain⟨rfl,rfl,rfl⟩:=c;refine⟨K,w,a,cs,.refl K,S,f,d,O,.nilIface,.v _ O,.one (asS t z hB l ?_)⟩;generalize C:B.kind=kd at d;generalize Hv:e.cD=pp at d hp;cases d with
    |normal h=>subst h;simp[tryRecover,Frame.atR,C]|ret c0 u hk hb hm=>subst hk;subst hb;simp[tryRecover,Frame.atR,C,hm]|cD c0 u x' z0 z5 hk hb p=>
     subst hk;cases z5 with|false=>simp_all|true=>simp[tryRecover,Frame.atR,C]
 .-- the built-in panic
  rename_i args argTypes n;have r:execOp a.eval o=(do let z1 <-resolve a.eval {callee:=.builtin .panic,args:=args,argTypes:=argTypes} o.type;invoke z1.target z1.args):=by unfold execOp;rw[n]
  split at c
  .rename_i z4 v q;simp only[dt,cL]at c;obtain⟨rfl,rfl,rfl⟩:=c;have hv:=F7 f.gf args;rw[q]at hv;generalize hz:args.map a.eval=z7 at hv;obtain⟨z7⟩:=z7;simp only at hv;cases hv with
   |cons _ x _ X y h2=>
    cases h2;cases y with|iface _ _ x L=>refine⟨K,w,a,cs,.refl K,S,f,d,O,.iface z4 x,_,.iface z4 v x L,.one (Zu t z ?_)⟩;rw[nx _ _ (by simp_all) r];simp[resolve,invoke,builtin,hz,Instr.panic]
  grind
 .-- another built-in function
  rename_i b args argTypes ou k' n;have r:execOp a.eval o=(do let z1 <-resolve a.eval {callee:=.builtin b,args:=args,argTypes:=argTypes} o.type;invoke z1.target z1.args):=by unfold execOp;rw[n]
  simp only[dg]at c;obtain⟨⟨v,y⟩,c,N⟩:=c;simp only[cL]at N;obtain⟨rfl,rfl,rfl⟩:=N;obtain⟨H,z0,w',le,T,p,l⟩:=aec S (ty:=o.type) c (F7 f.gf args) (args.map λ| .const _=>V|_=>ah);refine⟨H,w',a,cs,le,T,f.mono le,d.mono le,O,z0,p,.one (Zy t z ?_)⟩;rw[nx _ _ (by simp_all) r];simp only[resolve,invoke,Sem.run_bind,Sem.run_pure,Result.andThen_ok];omega
 .-- a call
  rename_i x ou k' tY n;have r:execOp a.eval o=(do let z1 <-resolve a.eval x o.type;invoke z1.target z1.args):=by unfold execOp;rw[n]
  simp only[dg]at c;obtain⟨⟨z5,y⟩,c,N⟩:=c;simp only[cL]at N;obtain⟨rfl,rfl,rfl⟩:=N;have q:=F7 f.gf x.args;have call:∀(z3:aR) (xs:List U) (vs:Array aG),R.call z3 xs h=J (z5,y)->aI K xs vs.toList->((∃fn,P.funcs[z3]?=J fn/\fn.body.isSome=V)->(execOp a.eval o).run P w=(callFunc z3 vs).run P w)->
   QZ P G w0 K ms B base (lone (B.atR a (.inRegion ops (i::rest)::k)) cs w) ops o rest k a.tmps.size e y z5:=by
   intro z3 xs vs G7 gC l;obtain⟨⟨fn,DQ,AZ⟩,L⟩:=hR.call z3 xs h z5 y G7;obtain⟨H,w',fr,le,T,gZ,-,Z⟩:=L K w vs gC S (B.atR a (.inRegion ops (i::rest)::k)::cs);have Y:=asN (k:=k) (cs:=cs) (rest:=rest) t z (by rw[nx B.roundOf _ (by simp_all) O,l ⟨fn,DQ,AZ⟩];exact Pp hn DQ AZ vs w);cases z5 with
   |ret v=>obtain⟨z0,p,Z⟩:=Z;refine⟨H,w',a,cs,le,T,f.mono le,d.mono le,O,z0,p,.head Y (gZ.trans (.one ?_))⟩;rw[step_leave_returned Z,ys t]
   |panic v=>obtain⟨z0,p,Z⟩:=Z;refine⟨H,w',a,cs,le,T,f.mono le,d.mono le,O,z0,.inRegion ops (i::rest)::k,p,.head Y (gZ.trans (.one ?_))⟩;rw[step_leave_panicked Z,Frame.raise_atR]
  obtain⟨callee,m,cts⟩:=x;cases callee with
  |builtin b=>simp_all|value z2=>
   simp only[jU]at c;have g:=wV f.gf z2;generalize M':e.eval z2=qf at c g;generalize s:a.eval z2=qv at g;split at c
   .rename_i z3 first aS
    cases g with
    |func _ _ _ fs X AU tU=>
     refine call z3 _ (fs++m.map a.eval++X) c ?_ λ_=>?_
     .simp only[wp];exact(AU.append q).append tU
     .rw[r];simp[resolve,s,Deferred.ofValue,invoke]
   .rename_i z6;cases g with
    |yield _ lg hlg=>
     obtain⟨fn,tmps,assign,body,H,w',E,le,T,hm⟩:=hR.round z6 _ h z5 y c K w (m.map a.eval) lg hlg q S (B.atR a (.inRegion ops (i::rest)::k)) cs;have G':=asU (k:=k) (cs:=cs) (rest:=rest) t z (by rw[nx B.roundOf _ (by simp_all) r];simp only[resolve,s,Deferred.ofValue,invoke,Sem.run_bind,Sem.run_pure,Result.andThen_ok];simpa using E);cases z5 with
     |ret v=>obtain⟨z0,p,gZ⟩:=hm;refine⟨H,w',a,cs,le,T,f.mono le,d.mono le,O,z0,p,.head G' ?_⟩;rw[<-ys t];omega
     |panic v=>obtain⟨z0,fr,p,gZ,Z⟩:=hm;refine⟨H,w',a,cs,le,T,f.mono le,d.mono le,O,z0,.inRegion ops (i::rest)::k,p,.head G' (gZ.trans (.one ?_))⟩;rw[step_leave_panicked Z,Frame.raise_atR]
   grind
  |invoke rcv name=>
   simp only[jU]at c;have g:=wV f.gf rcv;generalize M':e.eval rcv=qf at c g;generalize s:a.eval rcv=qv at g;split at c
   .rename_i z4 v;split at c
    .rename_i z2 hm;cases g with
     |iface _ _ x L=>
      refine call z2 _ (#[x]++m.map a.eval) c ?_ λ_=>?_
      .simp only[wp];exact .cons _ _ _ _ L q
      .rw[r];obtain⟨z1,hd⟩:=ali;have aiH:=alw hm x w (P.types.size+z1);have gK:P.types.size+Made.depth=P.types.size+z1+1:=(by omega);simp only[resolve,s,invoke,Sem.run_bind,Sem.run_pure,Result.andThen_ok,callMethod];have h0:(#[Value.iface z4 x]++JL a.eval m)[0]?=J (.iface z4 x):=(by rw[Array.getElem?_append_left b8];rfl);simp only[h0,run_program,Sem.run_bind,Result.andThen_ok,gK,aiH];congr 2;have D:(#[Value.iface z4 x]++JL a.eval m).extract 1 (#[Value.iface z4 x]++JL a.eval m).size=JL a.eval m:=(by apply JJ;simp;rw[<-ip,<-br (f:=a.eval),List.take_length]);rw[D]
    grind
   grind
 .-- a defer
  rename_i z2 args argTypes n;split at c
  .cases c
  .rename_i Vv;have hB:=Vz (by simp_all);have g:=wV f.gf z2;generalize M':e.eval z2=qf at c g;generalize s:a.eval z2=qv at g;split at c
   .rename_i z3 first aS
    simp only[dt,cL]at c;obtain⟨rfl,rfl,rfl⟩:=c;cases g with
    |func _ _ _ fs X AU tU=>
     have l:(o.semAt B.roundOf a.eval).run P w=.ok (.defer {target:=.fn (.func z3) X,args:=fs++args.map a.eval}) w:=(by rw[hB,Oper.semAt_none];unfold execOp;rw[n];simp[resolve,s,Deferred.ofValue]);refine⟨K,w,{a with defers:=_::a.defers},cs,.refl K,S,⟨f.gf,.call z3 _ (fs++args.map a.eval) X _ _ _ ?_ f.defers,?_,f.fn⟩,d,O,undef,?_,.one (asM t z l)⟩
     .simp only[wp];exact(AU.append (F7 f.gf args)).append tU
     .simp_all
     .exact .tuple [] #[] .nil
   grind
 .-- a panic
  rename_i v n;have g:=wV f.gf v;generalize M':e.eval v=qf at c g;generalize s:a.eval v=qv at g;split at c
  .rename_i z4 v;simp only[dt,cL]at c;obtain⟨rfl,rfl,rfl⟩:=c;cases g with|iface _ _ x L=>refine⟨K,w,a,cs,.refl K,S,f,d,O,.iface z4 x,_,.iface z4 v x L,.one (Zu t z ?_)⟩;rw[Oper.semAt_eq _ _ _ (by simp_all)];unfold execOp;rw[n];simp[s,Instr.panic]
  grind
 .-- any other operation
  rename_i op avA avB avC avD avE avF;simp only[dg]at c;obtain⟨⟨v,y⟩,c,N⟩:=c;simp only[cL]at N;obtain⟨rfl,rfl,rfl⟩:=N;have hnd:∀x,o.op≠ .defer x:=by intro x L;rw[L]at c;simp[dk]at c
  obtain⟨H,z0,w',le,T,p,l⟩:=amZ S (λv=>wV f.gf v) c;refine⟨H,w',a,cs,le,T,f.mono le,d.mono le,O,z0,p,.one ?_⟩;rcases l with l|⟨l,rfl⟩
  .exact Zy t z (by simp_all)
  .exact asW t z (by simp_all)
end
end Go.AE
end
section
namespace Go.AE
def arx{x y}(h:gF x y=V):x=y:=by
 cases x<;>cases y<;>simp only[gF,bm,decide_eq_true_eq,jB,beq_iff_eq]at h
 case int.int=>simp_all
 case bool.bool=>rw[h]
 case string.string a b=>
  obtain⟨⟨a⟩⟩:=a;simp_all
 case pointer.pointer a b=>grind
 all_goals rfl
def arv{x y}(h:Jh x y=V):x=y:=by cases x<;>cases y<;>simp only[Jh,jB]at h<;>rw[lN h]
def arw{x y}(h:ry x y=V):x=y:=by cases x<;>cases y<;>simp only[ry,jB]at h<;>first|rfl|rw[lN h]
mutual
def Pu:∀{x y:U},cE x y=V->x=y
 | .v x,.v y,h=>by rw[cE]at h;rw[arx h]
 | .list k p m,.list t f c,h=>by rw[cE,bm,bm]at h;rw[arw h.1.1,lN h.1.2,Pv h.2]
 | .arr b o u A,.arr g d n r,h=>by rw[cE,bm,bm,bm]at h;simp_all
 | .agg cs,.agg l,h=>by rw[cE]at h;rw[Cd h]
 | .tuple cs,.tuple l,h=>by rw[cE]at h;rw[Cd h]
 | .ptr E o,.ptr v d,h=>by rw[cE,bm]at h;rw[arv h.1,lN h.2]
 | .elem p m i o,.elem f c s d,h=>by rw[cE,bm,bm,bm]at h;rw[lN h.1.1.1,lN h.1.1.2,lN h.1.2,Pv h.2]
 | .yield u,.yield n,h=>by rw[cE]at h;simp_all
 | .iface H x,.iface z y,h=>by rw[cE,bm]at h;rw[lN h.1,Pu h.2]
 | .func (.func C) a b,.func (.func D) q g,h=>by rw[cE,bm,bm]at h;rw[lN h.1.1,Cd h.1.2,Cd h.2]
 | .bad,y,h=>by simp[cE]at h
def Cd:∀{x y:List U},fV x y=V->x=y
 | [],[],_=>rfl
 |x::c,y::d,h=>by rw[fV,bm]at h;rw[Pu h.1,Cd h.2]
 | [],y::d,h=>by simp[fV]at h
 |x::c,[],h=>by simp[fV]at h
def Pv:∀{x y:List (List U)},mI x y=V->x=y
 | [],[],_=>rfl
 |x::c,y::d,h=>by rw[mI,bm]at h;rw[Cd h.1,Pv h.2]
 | [],y::d,h=>by simp[mI]at h
 |x::c,[],h=>by simp[mI]at h
end
end Go.AE
end
section
namespace Go.AE
section
variable {P:bk} {G:Nat->Option (List U)} {R:Rec}
def N6{ρ ρ':bR->U}{ps:Array (Nat × bR)}(h:∀x∈ps.map (·.2),ρ x=ρ' x):(ps.toList.map λp=>(p.1,ρ p.2))=ps.toList.map λp=>(p.1,ρ' p.2):=
 CG λp c=>by grind
def Bz{ρ ρ':bR->U}{ps:Array bR}(h:∀x∈ps,ρ x=ρ' x):ps.toList.map ρ=ps.toList.map ρ':=
 CG λd c=>h d (Array.mem_toList_iff.1 c)
def XR{ρ ρ':bR->U}{h:Heap}{c:Op}(d:∀x∈c.operands,ρ x=ρ' x):dk P G ρ h c=dk P G ρ' h c:=by
 cases c<;>simp only[Op.operands] at d<;>simp only[dk]
 case build t ps=>rw[N6 (λx g=>d x (by simp_all))]
 case buildSlice t n ps=>rw[N6 (λx g=>d x (by simp_all))]
 case makeFunc fn first captured=>
  simp_all
 case slice t x l f m=>cases l<;>cases f<;>cases m<;>simp_all
 all_goals (first|rfl|(simp_all;done))
def Op.WR{c:Call}{x}(h:x∈c.args):x∈c.operands:=by simp[Call.operands,h]
def La{e e2:Env}{h:Heap}{c:Call}(d:∀x∈c.operands,e.eval x=e2.eval x):jU P R e h c=jU P R e2 h c:=by
 have l:c.args.toList.map e.eval=c.args.toList.map e2.eval:=Bz λx m=>d x (Op.WR m);unfold jU;simp only[l];cases f:c.callee with|builtin b=>rfl|value g=>have p:e.eval g=e2.eval g:=d g (by simp[Call.operands,f]);simp_all|invoke n r=>have q:e.eval n=e2.eval n:=d n (by simp[Call.operands,f]);simp_all
def Env.with(e e':Env):Env:={e with defers:=e'.defers,cD:=e'.cD}
def Xp{e e':Env}{h h':Heap}{o:Oper}{r:dR}(c:dH P G R e h o=J (r,e',h')):e'=e.with e':=by
 unfold dH at c;split at c
 .split at c
  .cases c
  .split at c
   .simp only[dt,cL]at c;obtain⟨-,rfl,-⟩:=c;rfl
   .simp only[dt,cL]at c;obtain⟨-,rfl,-⟩:=c;rfl
 .split at c
  .simp only[dt,cL]at c;obtain⟨-,rfl,-⟩:=c;rfl
  grind
 .simp only[dg,cL]at c;obtain⟨_,-,-,rfl,-⟩:=c;rfl
 .simp only[dg,cL]at c;obtain⟨_,-,-,rfl,-⟩:=c;rfl
 .split at c
  .cases c
  .split at c
   .simp only[dt,cL]at c;obtain⟨-,rfl,-⟩:=c;rfl
   grind
 .split at c
  .simp only[dt,cL]at c;obtain⟨-,rfl,-⟩:=c;rfl
  grind
 .simp only[dg,cL]at c;obtain⟨_,-,-,rfl,-⟩:=c;rfl
def Xo{e e' e2:Env}{h h':Heap}{o:Oper}{r:dR}(l:∀x∈o.op.operands,e.eval x=e2.eval x)(y:e2.defers=e.defers)(z:e2.cD=e.cD)(p:e2.round=e.round)
 (d:dH P G R e h o=J (r,e',h')):dH P G R e2 h o=J (r,e2.with e',h'):=by
 have A:e2.with e=e2:=by cases e2;cases e;simp_all [Env.with]
 unfold dH at d ⊢;split at d
 .rename_i c t f;simp only[p,z];split at d
  .cases d
  .rename_i m;rw[aL m];split at d
   .rename_i x E;simp only[dt,cL]at d;obtain⟨rfl,rfl,rfl⟩:=d;simp[Env.with,<-y,<-p]
   simp_all
 .rename_i c t f;have n:c.toList.map e.eval=c.toList.map e2.eval:=Bz λx g=>l x (by rw[f];simp[Op.operands,Call.operands,g]);simp only[<-n];split at d<;>simp_all
 .rename_i b c t u v f;have n:c.toList.map e.eval=c.toList.map e2.eval:=Bz λx g=>l x (by rw[f];simp[Op.operands,Call.operands,g]);simp only[dg,cL]at d;grind
 .rename_i L u v D f;simp only[dg,cL]at d;obtain⟨H,s,rfl,rfl,rfl⟩:=d;rw[La (e2:=e2) (λx g=>l x (by rw[f];exact g))]at s;simp_all
 .rename_i C c t f;have n:c.toList.map e.eval=c.toList.map e2.eval:=Bz λx g=>l x (by rw[f];simp[Op.operands,Call.operands,g]);have q:e.eval C=e2.eval C:=l C (by rw[f];simp[Op.operands,Call.operands]);simp only[p];split at d
  .cases d
  .rename_i m;rw[aL m];simp only[<-q,<-n];split at d
   .simp only[dt,cL]at d;obtain⟨rfl,rfl,rfl⟩:=d;simp only[Env.with,y,<-z,<-p]
   grind
 .rename_i x f;have q:e.eval x=e2.eval x:=l x (by rw[f];simp[Op.operands]);simp only[<-q];split at d<;>simp_all
 .simp only[dg,cL]at d;obtain⟨H,s,rfl,rfl,rfl⟩:=d;rw[XR (ρ':=e2.eval) l]at s;simp_all
def anx{e e':Env}{h h':Heap}{o:Oper}{r:dR}(n:iz o.op=.pure)(g:dH P G R e h o=J (r,e',h')):
 e'=e/\h'=h/\∀e2:Env,(∀x∈o.op.operands,e.eval x=e2.eval x)->∀d,dH P G R e2 d o=J (r,e2,d):=by
 cases f:o.op with
 |call L=>
  obtain⟨p,m,y⟩:=L;rw[f]at n;cases p with
  |value z1=>simp[iz]at n|invoke r X=>simp[iz]at n|builtin b=>
   cases b<;>simp[iz]at n
   case len=>
    unfold dH at g ⊢;simp only[f]at g ⊢;simp only[dg,cL]at g;obtain⟨⟨x,s⟩,c,rfl,rfl,rfl⟩:=g;have A:∀(d:Heap) (z:List U),po P G o.dst d .len y o.type z=iu P d .len y o.type z:=λ_ _=>rfl;rw[A]at c;have l:s=h/\∀d:Heap,iu P d .len y o.type (m.toList.map e.eval)=J (x,d):=by
     generalize m.toList.map e.eval=z at c ⊢;rcases z with _|⟨Z,_|⟨z0,z⟩⟩
     .simp[iu]at c
     .simp only[iu]at c ⊢;split at c
      .rename_i Y S;simp only[dg,cL]at c
       grind
      grind
     .simp[iu]at c
    obtain⟨rfl,l⟩:=l;refine⟨O,O,λe2 t d=>?_⟩;have N:m.toList.map e.eval=m.toList.map e2.eval:=Bz λx q=>t x (by simp[Op.operands,Call.operands,q]);simp_all
 |buildSlice Y X u=>
  rw[f]at n;have v:tK u=ah:=by
   cases C:tK u with|false=>rfl|true=>simp[iz,C]at n
  unfold dH at g ⊢;simp only[f]at g ⊢;simp only[dg,cL]at g;obtain⟨⟨x,s⟩,c,rfl,rfl,rfl⟩:=g;simp only[dk,v,dg,cL]at c;obtain⟨Z,H,rfl,rfl⟩:=c;refine⟨O,O,λe2 t d=>?_⟩;have q:=N6 (ρ:=e.eval) (ρ':=e2.eval) (ps:=u) (λx q=>t x (by simpa [Op.operands] using q));simp only[dk,v,<-q,H,fF]
 |_=>
  rw[f]at n
  first
   |(simp[iz]at n;done)
   |(unfold dH at g ⊢
     simp only[f]at g ⊢;simp only[dg,cL]at g;obtain⟨⟨x,s⟩,c,rfl,rfl,rfl⟩:=g;have l:s=h/\∀d:Heap,dk P G e.eval d o.op=J (x,d):=by
      rw[f];simp only[dk]at c ⊢
      first
       |(simp only[dt,cL]at c;obtain⟨rfl,rfl⟩:=c;exact⟨O,λ_=>rfl⟩)
       |(simp only[dg,cL]at c;obtain⟨z0,T,rfl,rfl⟩:=c;exact⟨O,λ_=>by simp_all⟩)
       |(split at c
         .simp_all
         .cases c)
       |(split at c
         .simp only[dg,cL]at c;grind
         .cases c)
       |(split at c
         .split at c
          .simp only[dg,cL]at c;grind
          grind
         .cases c)
     obtain⟨rfl,l⟩:=l;refine⟨O,O,λe2 t d=>?_⟩;rw[<-f,<-XR (P:=P) (G:=G) (ρ:=e.eval) (h:=d) (by simp_all),l d];rfl)
def ak7{e e':Env}{h h':Heap}{o:Oper}{r:dR}{t:aF}{a:bR}(f:o.op=.load t a)(d:dH P G R e h o=J (r,e',h')):
 ∃x,r=.ret x/\e'=e/\h'=h/\aD P G h t (e.eval a)=J x/\∀e2:Env,e2.eval a=e.eval a->∀c,aD P G c t (e.eval a)=J x->dH P G R e2 c o=J (.ret x,e2,c):=by
 unfold dH at d ⊢;simp only[f,dk]at d ⊢;simp only[dg,cL]at d
 grind
def Yo{d}(h:iz d=.reads):∃t a,d=.load t a:=by
 cases d with
 |load t a=>simp_all|buildSlice t n l=>
  exfalso;simp only[iz]at h
  grind
 |call g=>
  obtain⟨c,f,m⟩:=g;cases c with
  |builtin b=>cases b<;>simp[iz]at h
  |_=>simp[iz]at h
 |_=>simp[iz]at h
end
end Go.AE
end
section
namespace Go.AE
section
variable (P:bk) (G:Nat->Option (List U)) (R:Rec) (ops:Array Oper)
def gQ(i:Nat)(e:Env)(h:Heap):Option (U × Env × Heap):=
 match ops[i]? with
 |none=>ag
 |some o=>
  match eE ops e o with
  |none=>ag
  |some ah=>J (.tuple [],e,h)
  |some V=>
   match dH P G R e h o with
   |some (.ret c,e,h)=>J (c,e,h)
   |_=>ag
def iK(i:Nat):Option Tmp:=(ops[i]?).bind (·.dst)
def nR(i:Nat):Class:=((ops[i]?).map λo=>iz o.op).getD .pure
noncomputable def jX(e:Env)(h:Heap)(i:Nat):Class:=if jW P G R ops e h i=V then .reads else nR ops i
def cI(e:Env)(h:Heap)(k:Nat):Env × Heap:=
 match bW P G R ops (bZ k) e h with
 |some (_,e,h)=>(e,h)
 |none=>(e,h)
def rE(e:Env)(h:Heap)(k:Nat):U × Env:=
 match gQ P G R ops k (cI P G R ops e h k).1 (cI P G R ops e h k).2 with
 |some (c,e,_)=>(c,e)
 |none=>(.bad,e)
def val(e:Env)(h:Heap)(d:Nat->Bool):Nat->Nat->U
 |0,c=>e.get c
 |k+1,c=>if d k=V/\iK ops k=J c then (rE P G R ops e h k).1 else val e h d k c
def Alike(e e2:Env)(o:Oper):Prop:=∀c∈o.looksAt ops,e.get c=e2.get c
end
section
variable {P:bk} {G:Nat->Option (List U)} {R:Rec} {ops:Array Oper}
def nE{i:Nat}{rest:List Nat}{e e':Env}{h h':Heap}:
 bW P G R ops (i::rest) e h=J (.normal,e',h')↔∃x c d,gQ P G R ops i e h=J (x,c,d)/\bW P G R ops rest (c.put (iK ops i) x) d=J (.normal,e',h'):=by
 simp only[bW,gQ,iK];cases f:ops[i]? with
 |none=>simp|some o=>
  grind
def BH{g r:List Nat}:∀{e e':Env} {h h':Heap},
 bW P G R ops (g++r) e h=J (.normal,e',h')↔∃c d,bW P G R ops g e h=J (.normal,c,d)/\bW P G R ops r c d=J (.normal,e',h'):=by
 induction g with
 |nil=>
  intro e e' h h';simp only[dO,bW,dt,cL,true_and]
  grind
 |cons i u s=>
  intro e e' h h';rw[ey,nE];constructor
  .rintro⟨t,c,d,q,p⟩;obtain⟨l,m,f,n⟩:=s.1 p;exact⟨l,m,nE.2 ⟨t,c,d,q,f⟩,n⟩
  .rintro⟨l,m,f,n⟩;obtain⟨t,c,d,q,p⟩:=nE.1 f
   grind
def trace{e e':Env}{h h':Heap}:∀{n:Nat},bW P G R ops (bZ n) e h=J (.normal,e',h')->
 (e',h')=cI P G R ops e h n/\(∀k,k<=n->bW P G R ops (bZ k) e h=J (.normal,(cI P G R ops e h k).1,(cI P G R ops e h k).2))/\
 ∀k,k<n->gQ P G R ops k (cI P G R ops e h k).1 (cI P G R ops e h k).2=J ((rE P G R ops e h k).1,(rE P G R ops e h k).2,(cI P G R ops e h (k+1)).2)/\
  (cI P G R ops e h (k+1)).1=(rE P G R ops e h k).2.put (iK ops k) (rE P G R ops e h k).1:=by
 intro n
 induction n generalizing e' h' with
 |zero=>
  intro c;have g:(e',h')=cI P G R ops e h 0:=by unfold cI;rw[c]
  simp_all
 |succ n x=>
  intro c;have g:(e',h')=cI P G R ops e h (n+1):=by unfold cI;rw[c]
  have d:=c;rw[ku,BH]at d;obtain⟨A,C,r,s⟩:=d;obtain⟨v,E,H⟩:=x r;obtain⟨z,f,q,u,t⟩:=nE.1 s;simp only[bW,dt,cL,true_and]at t;refine⟨g,λk m=>?_,λk m=>?_⟩
  .grind
  .rcases dp k n with y|l
   .simp_all
   .have:k=n:=Nat.le_antisymm (Af.1 m) l;subst this;have p:gQ P G R ops k (cI P G R ops e h k).1 (cI P G R ops e h k).2=J (z,f,q):=(by rw[<-v];exact u);have D:rE P G R ops e h k=(z,f):=by unfold rE;rw[p]
    grind
def CV{e e2:Env}{o:Oper}(h:Alike ops e e2 o):∀x∈o.op.operands,e.eval x=e2.eval x:=by
 intro x d;cases x with|tmp c=>refine h c ?_;unfold Oper.looksAt;exact Kd _ (aa1.2 ⟨.tmp c,by simp_all,O⟩)|_=>rfl
def wH{e e2:Env}{o:Oper}(h:Alike ops e e2 o):eE ops e o=eE ops e2 o:=by
 unfold eE;cases l:o.guard with
 |none=>rfl|some d=>
  obtain⟨j,f⟩:=d;simp only;cases g:(ops[j]?).bind (·.dst) with|none=>rfl|some c=>have:e.get c=e2.get c:=h c (by unfold Oper.looksAt;simp_all);simp_all
def ON(e:Env)(d)(x)(t):(e.put d x).get t=if d=J t then x else e.get t:=by
 cases d with|none=>simp[Env.put]|some d=>simp only[Env.put,Env.get,Bw,dt]
def su(e:Env)(d)(x):(e.put d x).defers=e.defers/\(e.put d x).cD=e.cD/\(e.put d x).round=e.round:=by cases d<;>exact⟨O,O,O⟩
def PK{k:Nat}{e f e2:Env}{h m:Heap}{x:U}(c:gQ P G R ops k e h=J (x,f,m)):
 f=e.with f/\((∀o,ops[k]?=J o->Alike ops e e2 o)->e2.defers=e.defers->e2.cD=e.cD->e2.round=e.round->gQ P G R ops k e2 h=J (x,e2.with f,m)):=by
 unfold gQ at c ⊢;cases r:ops[k]? with
 |none=>simp_all|some o=>
  rw[r]at c;simp only at c ⊢;cases l:eE ops e o with
  |none=>simp_all|some b=>
   rw[l]at c;cases b with
   |false=>simp only[dt,cL]at c;obtain⟨rfl,rfl,rfl⟩:=c;refine⟨O,λd n p q=>?_⟩;rw[<-wH (d o O),l];have:e2.with e=e2:=(by cases e2;cases e;simp_all [Env.with]);simp_all
   |true=>
    simp only at c;split at c
    .rename_i s e' h' g;simp only[dt,cL]at c;obtain⟨rfl,rfl,rfl⟩:=c;refine⟨Xp g,λd n p q=>?_⟩;rw[<-wH (d o O),l];simp only[Xo (CV (d o O)) n p q g]
    grind
def PM{k:Nat}{e n:Env}{h p:Heap}{x:U}(l:nR ops k=.pure)(c:gQ P G R ops k e h=J (x,n,p)):
 n=e/\p=h/\∀e2 f,(∀o,ops[k]?=J o->Alike ops e e2 o)->gQ P G R ops k e2 f=J (x,e2,f):=by
 unfold gQ at c ⊢;cases q:ops[k]? with
 |none=>simp_all|some o=>
  rw[q]at c;simp only at c ⊢;have l:iz o.op=.pure:=by simpa [nR,q] using l
  cases m:eE ops e o with
  |none=>simp_all|some b=>
   rw[m]at c;cases b with
   |false=>simp only[dt,cL]at c;obtain⟨rfl,rfl,rfl⟩:=c;refine⟨O,O,λe2 f d=>?_⟩;rw[<-wH (d o O),m]
   |true=>
    simp only at c;split at c
    .rename_i s e' h' r;simp only[dt,cL]at c;obtain⟨rfl,rfl,rfl⟩:=c;obtain⟨rfl,rfl,g⟩:=anx l r;refine⟨O,O,λe2 f d=>?_⟩;rw[<-wH (d o O),m];simp only[g e2 (CV (d o O)) f]
    grind
def Reads(P:bk)(G:Nat->Option (List U))(R:Rec)(ops:Array Oper)(k:Nat)(e:Env)(x:U)(c:Heap):Prop:=
 ∀o,ops[k]?=J o->eE ops e o=J V->(∀d a,o.op=.load d a->aD P G c d (e.eval a)=J x)/\(wM o.op=V->dH P G R e c o=J (.ret x,e,c))
def Zv{k:Nat}{e p:Env}{h q:Heap}{x:U}(l:nR ops k=.reads)(c:gQ P G R ops k e h=J (x,p,q)):
 p=e/\q=h/\Reads P G R ops k e x h/\∀e2 f,(∀o,ops[k]?=J o->Alike ops e e2 o)->Reads P G R ops k e x f->gQ P G R ops k e2 f=J (x,e2,f):=by
 unfold gQ at c ⊢;unfold Reads;cases r:ops[k]? with
 |none=>simp_all|some o=>
  rw[r]at c;simp only at c ⊢;have l:iz o.op=.reads:=by simpa [nR,r] using l
  obtain⟨X,a,g⟩:=Yo l;cases m:eE ops e o with
  |none=>simp_all|some b=>
   rw[m]at c;cases b with
   |false=>
    simp only[dt,cL]at c;obtain⟨rfl,rfl,rfl⟩:=c;refine⟨O,O,λy s H=>?_,λe2 f d _=>?_⟩
    .simp_all
    .rw[<-wH (d o O),m]
   |true=>
    simp only at c;split at c
    .rename_i T e' h' t;simp only[dt,cL]at c;obtain⟨rfl,rfl,rfl⟩:=c;obtain⟨Y,n,rfl,rfl,N,u⟩:=ak7 g t;injection n with n;subst n;refine⟨O,O,λy s _=>⟨λS L v=>?_,λC=>?_⟩,λe2 f d D=>?_⟩
     .simp_all
     .simp_all
     .rw[<-wH (d o O),m];have z:e2.eval a=e'.eval a:=(CV (d o O) a (by rw[g];simp[Op.operands])).symm;simp_all
    grind
def aef{e:Env}{h g:Heap}{o:Oper}{c:Call}{x:U}(n:o.op=.call c)(d:jU P R e h c=J (.ret x,g)):dH P G R e h o=J (.ret x,e,g):=by
 have l:∀b,c.callee≠ .builtin b:=by intro b l;unfold jU at d;rw[l]at d;cases d
 obtain⟨f,m,p⟩:=c;unfold dH;simp_all
def aep{e e2:Env}{h:Heap}{o:Oper}{x:U}(m:wM o.op=V)(p:∀z∈o.op.operands,e.eval z=e2.eval z)(g:dH P G R e h o=J (.ret x,e,h)):dH P G R e2 h o=J (.ret x,e2,h):=by
 unfold wM at m;split at m
 .grind
 .grind
 .rename_i r u v c;have l:∀z∈r.operands,e.eval z=e2.eval z:=λz n=>p z (by rw[c];exact n);obtain⟨f,d,y⟩:=r;have s:d.toList.map e.eval=d.toList.map e2.eval:=Bz λx n=>l x (Op.WR n);unfold dH at g ⊢;cases f with
  |builtin b=>cases b<;>simp_all
  |value C=>simp only[c]at g ⊢;rw[<-La (e:=e) (e2:=e2) l];simp_all|invoke H D=>simp only[c]at g ⊢;rw[<-La (e:=e) (e2:=e2) l];simp_all
 .rename_i L A q c;have t:e.eval q=e2.eval q:=p q (by rw[c];simp[Op.operands]);unfold dH at g ⊢;simp only[c,dk]at g ⊢;simp_all
 simp_all
def Zt{k:Nat}{e n:Env}{h p:Heap}{x y:U}{o:Oper}(m:ops[k]?=J o)(l:wM o.op=V)(s:dH P G R e h o=J (.ret y,e,h))(c:gQ P G R ops k e h=J (x,n,p)):
 n=e/\p=h/\(eE ops e o=J V->x=y)/\∀e2 f,(∀o,ops[k]?=J o->Alike ops e e2 o)->Reads P G R ops k e x f->gQ P G R ops k e2 f=J (x,e2,f):=by
 unfold gQ at c ⊢;rw[m]at c;simp only[m]at c ⊢;cases g:eE ops e o with
 |none=>simp_all|some b=>
  rw[g]at c;cases b with
  |false=>simp only[dt,cL]at c;obtain⟨rfl,rfl,rfl⟩:=c;refine⟨O,O,(λv=>nomatch v),λe2 f d _=>?_⟩;rw[<-wH (d o O),g]
  |true=>simp only[s]at c;simp only[dt,cL]at c;obtain⟨rfl,rfl,rfl⟩:=c;refine⟨O,O,λ_=>rfl,λe2 f d q=>?_⟩;rw[<-wH (d o O),g];have r:=(q o m g).2 l;have u:=aep (e2:=e2) l (λz t=>CV (d o O) z t) r;simp_all
end
end Go.AE
end
section
namespace Go.AE
section
variable {P:bk} {G:Nat->Option (List U)} {R:Rec} {ops:Array Oper}
def Ord(b:Array Nat)(i j:Nat):Prop:=(b.getD j 0).testBit i=V
structure Fits(P:bk)(G:Nat->Option (List U))(R:Rec)(ops:Array Oper)(e:Env)(h:Heap)(b:Array Nat):Prop where
 AJ:∀(j:Nat) (o:Oper),ops[j]?=J o->∀ed∈o.after,Region.binds .any ed=V->ed.on<j
 bits:∀(j i:Nat) (o:Oper),ops[j]?=J o->i<ops.size->Ord b i j->∃ed∈o.after,Region.binds .any ed=V/\(ed.on=i∨Ord b i ed.on)
 pair:∀i j:Nat,i<j->j<ops.size->Ord b i j∨vT ops i j=V∨jA P G R ops e h i j=V∨(nP ops i j=V/\(jW P G R ops e h i=V∨jW P G R ops e h j=V))
def tM{e:Env}{h:Heap}(l:kU P G R ops e h=V):Fits P G R ops e h (Region.before ops):=by
 unfold kU at l;simp only[bm,eJ,ie,og]at l;obtain⟨g,s⟩:=l;unfold x_ at g;simp only[eJ,ie]at g;refine⟨λj o f v m t=>?_,λj i o f r c=>?_,λi j c d=>?_⟩
 .have d:j<ops.size:=(JK.1 f).1;have:=g j d;simp only[f,bm,zX]at this;obtain⟨u,n,rfl⟩:=Qf m
  grind
 .have d:j<ops.size:=(JK.1 f).1;have:=g j d;simp only[f,bm,eJ,ie]at this;have:=this.2 i r;unfold Ord at c;rw[c]at this;simp only[aao,FE,Array.any_eq_true,bm,og]at this;obtain⟨u,n,p,q⟩:=this;exact⟨o.after[u],aad n,p,q.imp (λh=>lN h) id⟩
 .rcases s j d i c with((h|h)|h)|h
  .exact .inl h
  .simp_all
  .simp_all
  simp_all
variable {e:Env} {h:Heap} {b:Array Nat}
def Fits.apart(f:Fits P G R ops e h b){i j:Nat}(c:i<j)(d:j<ops.size)(g:¬Ord b i j){x y:Oper}(l:ops[i]?=J x)(m:ops[j]?=J y):
 x.apart ops y=V/\y.apart ops x=V:=by
 rcases f.pair i j c d with h|h|h|⟨h,-⟩
 .simp_all
 .unfold vT at h;simp_all
 .unfold jA nP at h;simp_all
 .unfold nP at h;simp_all
def yl{i:Nat}{x:Oper}(c:ops[i]?=some x):nR ops i=iz x.op:=by simp[nR,c]
def Gj{i:Nat}(hi:jX P G R ops e h i=.iq):nR ops i=.iq/\jW P G R ops e h i=ah:=by
 unfold jX at hi
 grind
def Fits.iq(m:Fits P G R ops e h b){i j:Nat}(d:i<j)(f:j<ops.size)(hi:jX P G R ops e h i=.iq)(c:jX P G R ops e h j=.iq):Ord b i j:=by
 have g:ops[i]?=J ops[i]:=jO (oi d f);have l:ops[j]?=J ops[j]:=jO f;obtain⟨hi,n⟩:=Gj hi;obtain⟨c,p⟩:=Gj c;rw[yl g]at hi;rw[yl l]at c;rcases m.pair i j d f with h|h|h|⟨-,h⟩
 .exact h
 .unfold vT at h;simp only[g,l,bm]at h;rw[hi,c]at h;simp[HZ]at h
 .unfold jA at h
  grind
 simp_all
def Fits.asy(m:Fits P G R ops e h b){i j:Nat}(d:i<j)(f:j<ops.size)(q:¬Ord b i j)(hi:nR ops i=.reads)(n:jW P G R ops e h i=ah)(c:jX P G R ops e h j=.iq):od P G R ops e h i (j+1)=V:=by
 have g:ops[i]?=J ops[i]:=jO (oi d f);have l:ops[j]?=J ops[j]:=jO f;obtain⟨c,p⟩:=Gj c;rw[yl g]at hi;rw[yl l]at c;rcases m.pair i j d f with h|h|h|⟨-,h⟩
 .simp_all
 .unfold vT at h;simp only[g,l,bm]at h;rw[hi,c]at h;simp[HZ]at h
 .unfold jA at h
  grind
 simp_all
def Fits.asz(m:Fits P G R ops e h b){i j:Nat}(c:i<j)(f:j<ops.size)(q:¬Ord b i j)(hi:jX P G R ops e h i=.iq)(d:nR ops j=.reads)(p:jW P G R ops e h j=ah):od P G R ops e h j i=V:=by
 have g:ops[i]?=J ops[i]:=jO (oi c f);have l:ops[j]?=J ops[j]:=jO f;obtain⟨hi,n⟩:=Gj hi;rw[yl g]at hi;rw[yl l]at d;rcases m.pair i j c f with h|h|h|⟨-,h⟩
 .simp_all
 .unfold vT at h;simp only[g,l,bm]at h;rw[hi,d]at h;simp[HZ]at h
 .unfold jA at h
  grind
 simp_all
def asD{r m n:Nat}{e':Env}{h':Heap}(C:bW P G R ops (bZ n) e h=J (.normal,e',h'))(q:r<n)(x:m<=n)(d:od P G R ops e h r m=V)(p:nR ops r=.reads):
 Reads P G R ops r (cI P G R ops e h r).1 (rE P G R ops e h r).1 (cI P G R ops e h m).2:=by
 obtain⟨-,v,st⟩:=trace C;obtain⟨t,-⟩:=st r q;obtain⟨-,-,s,-⟩:=Zv p t;intro o g u;refine⟨λz a c=>?_,λf=>?_⟩
 .have hold:=(s o g u).1 z a c;unfold od at d;rw[g,v r (mR q),v m x]at d;simp only[u,c]at d;rw[hold]at d;split at d
  .rename_i D H l y;injection l with l;subst l;rw[Pu d];exact y
  grind
 .obtain⟨z,a,c⟩:=Yo (show iz o.op=.reads by rw[<-yl g];exact p);rw[c]at f;exact absurd f (by simp[wM])
def ael{k:Nat}:jW P G R ops e h k=V↔u' P G R ops e h k:=by unfold jW;simp_all
def So{n k:Nat}{e':Env}{h':Heap}(l:bW P G R ops (bZ n) e h=J (.normal,e',h'))(t:n=ops.size)(r:k<n)(f:jW P G R ops e h k=V):
 ∃o x,ops[k]?=J o/\wM o.op=V/\∀m,m<=n->dH P G R (cI P G R ops e h k).1 (cI P G R ops e h m).2 o=J (.ret x,(cI P G R ops e h k).1,(cI P G R ops e h m).2):=by
 obtain⟨-,v,-⟩:=trace l;obtain⟨o,x,q,u,g,c,p,d⟩:=ael.1 f;refine⟨o,x,g,c,λm s=>?_⟩
 grind
def Zx{k:Nat}{e':Env}{h':Heap}(C:bW P G R ops (bZ ops.size) e h=J (.normal,e',h'))(q:k<ops.size)(l:jX P G R ops e h k=.reads){m:Env}{n:Heap}{x:U}
 (t:gQ P G R ops k (cI P G R ops e h k).1 (cI P G R ops e h k).2=J (x,m,n)):
 m=(cI P G R ops e h k).1/\n=(cI P G R ops e h k).2/\Reads P G R ops k (cI P G R ops e h k).1 x (cI P G R ops e h k).2/\
  ∀e2 f,(∀o,ops[k]?=J o->Alike ops (cI P G R ops e h k).1 e2 o)->Reads P G R ops k (cI P G R ops e h k).1 x f->gQ P G R ops k e2 f=J (x,e2,f):=by
 unfold jX at l;split at l
 .rename_i p;obtain⟨o,N,s,d,g⟩:=So C O q p;have z:=g k (mR q);obtain⟨u,v,D,y⟩:=Zt s d z t;refine⟨u,v,λH c E=>?_,y⟩;rw[s]at c;injection c with c;subst c;refine⟨λL a r=>(by rw[r]at d;cases d),λ_=>?_⟩;simp_all
 .exact Zv l t
def Zz{k m:Nat}{e':Env}{h':Heap}(s:bW P G R ops (bZ ops.size) e h=J (.normal,e',h'))(l:k<ops.size)(t:m<=ops.size)(f:jX P G R ops e h k=.reads)
 (u:nR ops k=.reads->jW P G R ops e h k=ah->od P G R ops e h k m=V):
 Reads P G R ops k (cI P G R ops e h k).1 (rE P G R ops e h k).1 (cI P G R ops e h m).2:=by
 by_cases c:jW P G R ops e h k=V
 .obtain⟨-,z,st⟩:=trace s;obtain⟨r,-⟩:=st k l;obtain⟨o,D,q,g,n⟩:=So s O l c;obtain⟨-,-,v,-⟩:=Zt q g (n k (mR l)) r;intro y d x;rw[q]at d;injection d with d;subst d;refine⟨λC a p=>(by rw[p]at g;cases g),λ_=>?_⟩;simp_all
 .have c:jW P G R ops e h k=ah:=by simpa using c
  have f:nR ops k=.reads:=by unfold jX at f;rw[c]at f;simpa using f
  exact asD s l t (u f c) f
def SS{k:Nat}(c:jX P G R ops e h k=.pure):nR ops k=.pure:=by
 unfold jX at c
 grind
structure Inv(P:bk)(G:Nat->Option (List U))(R:Rec)(ops:Array Oper)(e:Env)(h:Heap)(b:Array Nat)(S:Nat->Bool)(e1:Env)(h1:Heap):Prop where
 closed:∀i j,i<ops.size->j<ops.size->S j=V->Ord b i j->S i=V
 gf:∀t,e1.get t=val P G R ops e h S ops.size t
 round:e1.round=e.round
 mem:∃m,m<=ops.size/\e1.defers=(cI P G R ops e h m).1.defers/\e1.cD=(cI P G R ops e h m).1.cD/\h1=(cI P G R ops e h m).2/\
  (∀a,a<m->jX P G R ops e h a=.iq->S a=V)/\∀a,m<=a->a<ops.size->jX P G R ops e h a=.iq->S a=ah
variable {e':Env} {h':Heap}
def PY(m:bW P G R ops (bZ ops.size) e h=J (.normal,e',h'))(t:Nat):∀k,k<=ops.size->(cI P G R ops e h k).1.get t=val P G R ops e h (λ_=>V) k t:=by
 obtain⟨-,l,st⟩:=trace m;intro k
 induction k with
 |zero=>intro _;have:=l 0 (bY _);simp only[aa3,bW,dt,cL,true_and]at this;rw[<-this.1];rfl|succ k g=>
  intro c;obtain⟨f,d⟩:=st k c;rw[d,ON];simp only[val,true_and];split
  .rfl
  .rw[<-g (mR c)];have:=(PK (e2:=e) f).1;rw[this];rfl
def ZY(m:bW P G R ops (bZ ops.size) e h=J (.normal,e',h')):∀k,k<=ops.size->(cI P G R ops e h k).1.round=e.round:=by
 obtain⟨-,l,st⟩:=trace m;intro k
 induction k with
 |zero=>
  intro _;have:=l 0 (bY _);simp only[aa3,bW,dt,cL,true_and]at this
  grind
 |succ k g=>intro c;obtain⟨f,d⟩:=st k c;rw[d,(su _ _ _).2.2,(PK (e2:=e) f).1];exact g (mR c)
def aer(p:bW P G R ops (bZ ops.size) e h=J (.normal,e',h')){k:Nat}(c:k<ops.size)(q:jX P G R ops e h k≠ .iq):
 (cI P G R ops e h (k+1)).1.defers=(cI P G R ops e h k).1.defers/\(cI P G R ops e h (k+1)).1.cD=(cI P G R ops e h k).1.cD/\(cI P G R ops e h (k+1)).2=(cI P G R ops e h k).2:=by
 obtain⟨-,r,st⟩:=trace p;obtain⟨f,n⟩:=st k c;have g:(rE P G R ops e h k).2=(cI P G R ops e h k).1/\(cI P G R ops e h (k+1)).2=(cI P G R ops e h k).2:=by
  cases d:jX P G R ops e h k with
  |pure=>obtain⟨l,m,-⟩:=PM (SS d) f;simp_all
  |reads=>obtain⟨l,m,-⟩:=Zx p c d f;simp_all
  |iq=>simp_all
 rw[n,(su _ _ _).1,(su _ _ _).2.1,g.1];simp_all
def Jd(n:bW P G R ops (bZ ops.size) e h=J (.normal,e',h')){m:Nat}:∀k,m<=k->k<=ops.size->
 ((cI P G R ops e h m).1.defers=(cI P G R ops e h k).1.defers/\(cI P G R ops e h m).1.cD=(cI P G R ops e h k).1.cD/\(cI P G R ops e h m).2=(cI P G R ops e h k).2)∨
 (∃a,m<=a/\a<k/\jX P G R ops e h a=.iq/\(cI P G R ops e h m).2=(cI P G R ops e h a).2)/\∃a,m<=a/\a<k/\jX P G R ops e h a=.iq/\(cI P G R ops e h (a+1)).2=(cI P G R ops e h k).2:=by
 intro k
 induction k with
 |zero=>simp_all|succ k t=>
  intro s c;rcases dp k m with l|f
  .grind
  .have g:k<=ops.size:=mR c;by_cases d:jX P G R ops e h k=.iq
   .grind
   .obtain⟨p,q,r⟩:=aer n c d
    grind
def val_congr{d c:Nat->Bool}{t:Nat}:∀k,(∀w,w<k->iK ops w=J t->d w=c w)->val P G R ops e h d k t=val P G R ops e h c k t:=by
 intro k
 induction k with
 |zero=>intro _;rfl|succ k g=>
  intro f;simp only[val]
  grind
def JC{c:Nat->Bool}{t k:Nat}:∀n,k<=n->(∀w,k<=w->w<n->iK ops w=J t->c w=ah)->val P G R ops e h c n t=val P G R ops e h c k t:=by
 intro n
 induction n with
 |zero=>simp_all|succ n m=>
  intro g l;rcases dp n k with f|d
  .grind
  .simp only[val]
   grind
def yo{i:Nat}{x:Oper}(c:ops[i]?=J x):iK ops i=x.dst:=by simp[iK,c]
def Fits.auC(n:Fits P G R ops e h b){i j t:Nat}(c:i<j)(d:j<ops.size)(hi:iK ops i=J t)(f:iK ops j=J t):Ord b i j:=by refine Classical.byContradiction λm=>?_;have g:ops[i]?=J ops[i]:=jO (oi c d);have l:ops[j]?=J ops[j]:=jO d;have p:=(Oper.apart_spec (n.apart c d m g l).1).2.1;rw[yo g]at hi;rw[yo l]at f;simp_all
def Fits.looks(m:Fits P G R ops e h b){i j t:Nat}(c:i<j)(d:j<ops.size){x y:Oper}(g:ops[i]?=J x)(l:ops[j]?=J y)
 (p:(x.dst=J t/\t∈y.looksAt ops)∨(y.dst=J t/\t∈x.looksAt ops)):Ord b i j:=by
 refine Classical.byContradiction λf=>?_;have n:=Oper.apart_spec (m.apart c d f g l).1
 grind
def mU(ops:Array Oper)(d:Nat->Bool)(k:Nat):Prop:=∀o,ops[k]?=J o->∀c∈o.after,Region.binds .any c=V->d c.on=V
def dj(c:Nat->Bool)(k:Nat):Nat->Bool:=λj=>if j=k then V else c j
def next(z1:bW P G R ops (bZ ops.size) e h=J (.normal,e',h'))(z0:Fits P G R ops e h b){N:Nat->Bool}{l:Env}{g:Heap}(Y:Inv P G R ops e h b N l g){k:Nat}(c:k<ops.size)
 (hu:N k=ah) (hr:mU ops N k):∃x e2 Z,gQ P G R ops k l g=J (x,e2,Z)/\Inv P G R ops e h b (dj N k) (e2.put (iK ops k) x) Z:=by
 obtain⟨-,tr,st⟩:=trace z1;have S:ops[k]?=J ops[k]:=jO c;have ahead:∀i,i<ops.size->Ord b i k->N i=V:=by
  intro i hi MF;obtain⟨ed,yN,UD,d⟩:=z0.bits k i _ S hi MF;have T:=hr _ S ed yN UD;have f:=z0.AJ k _ S ed yN UD;rcases d with rfl|d
  .exact T
  .exact Y.closed i ed.on hi (oi f c) T d
 have C:∀o,ops[k]?=J o->Alike ops (cI P G R ops e h k).1 l o:=by
  intro o L X ht;rw[S]at L;injection L with L;subst L;rw[Y.gf X,PY z1 X k (mR c),JC (k:=k) ops.size (mR c)]
  .refine val_congr k λw m u=>?_;have z:ops[w]?=J ops[w]:=jO (oi m c);rw[yo z]at u;exact(ahead w (oi m c) (z0.looks m c z S (.inl ⟨u,ht⟩))).symm
  .intro w MJ m u;rcases dp k w with f|oL
   .cases d:N w with|false=>rfl|true=>have z:ops[w]?=J ops[w]:=jO m;rw[yo z]at u;have:=Y.closed k w c m d (z0.looks f m S z (.inr ⟨u,ht⟩));simp_all
   grind
 obtain⟨T,hn⟩:=st k c;obtain⟨q,hm,u,hp,D,GZ,Mf⟩:=Y.mem;have n:∀i j,i<ops.size->j<ops.size->dj N k j=V->Ord b i j->dj N k i=V:=by
  intro i j hi hj Nj hij;unfold dj at Nj ⊢;by_cases MF:i=k
  .simp_all
  .rw[aL MF];by_cases hjk:j=k
   .simp_all
   .rw[aL hjk]at Nj;exact Y.closed i j hi hj Nj hij
 have y:∀(e2:Env),(∀X,e2.get X=l.get X)->∀X,(e2.put (iK ops k) (rE P G R ops e h k).1).get X=val P G R ops e h (dj N k) ops.size X:=by
  intro e2 qk X;rw[ON];by_cases v:iK ops k=J X
  .rw[av v,JC (k:=k+1) ops.size c]
   .simp[val,dj,v]
   .intro w MJ m DM;have fP:w≠k:=λd=>absurd MJ M;simp only[dj,aL fP];cases d:N w with|false=>rfl|true=>have:=Y.closed k w c m d (z0.auC MJ m v DM);simp_all
  .rw[aL v,qk,Y.gf X];refine val_congr _ λw _ DM=>?_;have fP:w≠k:=λd=>v (d ▸ DM);simp only[dj,aL fP]
 by_cases hc:jX P G R ops e h k=.iq
 .-- it iq
  have hmk:q<=k:=by
   rcases dp k q with f|oL
   .simp_all
   .omega
  have same:=Jd z1 k hmk (mR c);have same:(cI P G R ops e h q).1.defers=(cI P G R ops e h k).1.defers/\(cI P G R ops e h q).1.cD=(cI P G R ops e h k).1.cD/\(cI P G R ops e h q).2=(cI P G R ops e h k).2:=by
   rcases same with g|⟨⟨a,g1,p,r,-⟩,-⟩
   .exact g
   .have g:=Mf a g1 (oi p c) r;rw[ahead a (oi p c) (z0.iq p c r hc)]at g;cases g
  have H:=(PK (e2:=l) T).2 C (u.trans same.1) (hp.trans same.2.1) (by rw[Y.round,ZY z1 k (mR c)]);rw[<-same.2.2,<-D]at H;refine⟨_,_,_,H,n,y _ (λX=>rfl),?_,k+1,c,?_,?_,O,?_,?_⟩
  .rw[(su _ _ _).2.2];exact Y.round
  .rw[(su _ _ _).1,hn,(su _ _ _).1];rfl
  .rw[(su _ _ _).2.1,hn,(su _ _ _).2.1];rfl
  .intro a yF t;unfold dj;by_cases d:a=k
   .simp_all
   .rw[aL d];have f:a<k:=abj (Af.1 yF) d;exact ahead a (oi f c) (z0.iq f c t hc)
  .intro a hka ha t;have d:a≠k:=λd=>absurd hka M;unfold dj
   grind
 .-- it does not
  have mem':∀e2:Env,e2.defers=l.defers->e2.cD=l.cD->∃q,q<=ops.size/\e2.defers=(cI P G R ops e h q).1.defers/\e2.cD=(cI P G R ops e h q).1.cD/\g=(cI P G R ops e h q).2/\
   (∀a,a<q->jX P G R ops e h a=.iq->dj N k a=V)/\∀a,q<=a->a<ops.size->jX P G R ops e h a=.iq->dj N k a=ah:=by
   intro e2 AU tU;refine⟨q,hm,AU.trans u,tU.trans hp,D,λa ham t=>?_,λa hma ha t=>?_⟩
   .unfold dj;simp_all
   .have d:a≠k:=λd=>hc (d ▸ t);unfold dj;simp_all
  have fin:∀x,x=(rE P G R ops e h k).1->gQ P G R ops k l g=J (x,l,g)->∃x e2 Z,gQ P G R ops k l g=J (x,e2,Z)/\Inv P G R ops e h b (dj N k) (e2.put (iK ops k) x) Z:=by intro x z H;subst z;refine⟨_,_,_,H,n,y _ (λX=>rfl),?_,mem' _ (su _ _ _).1 (su _ _ _).2.1⟩;rw[(su _ _ _).2.2];exact Y.round
  cases E:jX P G R ops e h k with
  |iq=>simp_all|pure=>obtain⟨-,-,DE⟩:=PM (SS E) T;simp_all
  |reads=>
   obtain⟨-,-,Vv,DE⟩:=Zx z1 c E T;refine fin _ O (DE l g C ?_);rw[D];rcases dp k q with f|oL
   .rcases Jd z1 (m:=k) q (mR f) hm with d|⟨-,a,g1,p,r,g4⟩
    .simp_all
    .have yF:k<a:=abj g1 λd=>hc (d ▸ r);have s:a<ops.size:=my p hm;have MP:¬Ord b k a:=λd=>(by have:=Y.closed k a c s (GZ a p r) d;simp_all);rw[<-g4];exact Zz z1 c s E λq1 q2=>z0.asy yF s MP q1 q2 r
   .rcases Jd z1 (m:=q) k oL (mR c) with d|⟨⟨a,g1,p,r,g4⟩,-⟩
    .simp_all
    .have s:a<ops.size:=oi p c;have MP:¬Ord b a k:=λd=>by
      grind
     rw[g4];exact Zz z1 c (mR s) E λq1 q2=>z0.asz p c MP r q1 q2
def HR(f:bW P G R ops (bZ ops.size) e h=J (.normal,e',h')):Inv P G R ops e h b (λ_=>ah) e h:=by
 have c:cI P G R ops e h 0=(e,h):=by simp[cI,bW]
 refine⟨λ_ _ _ _ h=>absurd h b8,λg=>?_,O,0,bY _,by rw[c],by rw[c],by rw[c],λa d=>absurd d (nt a),λ_ _ _ _=>rfl⟩;rw[JC (k:=0) ops.size (bY _) (λ_ _ _ _=>rfl)];rfl
structure jh(e e2:Env):Prop where
 gf:∀t,e.get t=e2.get t
 defers:e.defers=e2.defers
 cD:e.cD=e2.cD
 round:e.round=e2.round
def V0(l:bW P G R ops (bZ ops.size) e h=J (.normal,e',h')){s:Nat->Bool}{f:Env}{c:Heap}(m:Inv P G R ops e h b s f c)(d:∀i,i<ops.size->s i=V):jh f e'/\c=h':=by
 obtain⟨t0,L,st⟩:=trace l;have g:e'=(cI P G R ops e h ops.size).1:=by grind
 have E:h'=(cI P G R ops e h ops.size).2:=by grind
 obtain⟨r,n,C,H,p,t,u⟩:=m.mem;have same:=Jd l ops.size n (aV _);have same:(cI P G R ops e h r).1.defers=(cI P G R ops e h ops.size).1.defers/\(cI P G R ops e h r).1.cD=(cI P G R ops e h ops.size).1.cD/\(cI P G R ops e h r).2=(cI P G R ops e h ops.size).2:=by
  rcases same with c|⟨⟨a,x,y,z,-⟩,-⟩
  .exact c
  .simp_all
 refine⟨⟨λv=>?_,?_,?_,?_⟩,?_⟩
 .rw[m.gf v,g,PY l v ops.size (aV _)];exact val_congr _ λw q _=>d w q
 .simp_all
 .simp_all
 .rw[m.round,g,ZY l ops.size (aV _)]
 simp_all
def S7{α:Type}{p q}{a}:∀{l:List α},(∀x∈l,q x=true->p x=true)->a∈l->p a=true->q a=false->l.countP q<l.countP p:=by
 intro l
 induction l with
 |nil=>simp_all|cons x l r=>
  intro c g m n;have f:l.countP q<=l.countP p:=List.countP_mono_left λs d=>c s (gx _ d)
  grind
def mN(ops:Array Oper):(Nat->Bool)->List Nat->Prop
 |S,[]=>∀i,i<ops.size->S i=V
 |S,k::c=>k<ops.size/\S k=ah/\mU ops S k/\mN ops (dj S k) c
def N3(y:bW P G R ops (bZ ops.size) e h=J (.normal,e',h'))(z:Fits P G R ops e h b):∀(L:List Nat) (n:Nat->Bool) (c:Env) (f:Heap),Inv P G R ops e h b n c f->mN ops n L->
 ∃e2,bW P G R ops L c f=J (.normal,e2,h')/\jh e2 e':=by
 intro L
 induction L with
 |nil=>intro n c f p d;obtain⟨l,rfl⟩:=V0 y p d;exact⟨c,by simp[bW],l⟩
 |cons k L x=>
  intro n c f p d;obtain⟨t,v,u,d⟩:=d;obtain⟨A,e2,s,l,q⟩:=next y z p t v u
  obtain⟨r,m,g⟩:=x _ _ _ q d;exact⟨r,nE.2 ⟨A,e2,s,l,m⟩,g⟩
def wq(ops:Array Oper):Prop:=∀(j:Nat) (o:Oper),ops[j]?=J o->∀c∈o.after,Region.binds .any c=V->c.on<j
def akT(T:wq ops):∀(fuel t:Nat) (c:Array Bool),c.size=ops.size->
 (bZ ops.size).countP (λj=> !c.getD j ah)<=fuel->mN ops (λj=>c.getD j ah) (Region.linearise.go .any ops fuel t c []):=by
 intro fuel
 induction fuel with
 |zero=>
  intro t c L f;have m:∀i,i<ops.size->c.getD i ah=V:=by intro i d;have:=aaK.1 (abi.1 f) i (ie.2 d);simpa using this
  simp only[Region.linearise.go,aa5];exact m
 |succ fuel Z=>
  intro t c L f;have r:∀i,i<ops.size->c.getD i V=c.getD i ah:=by intro i d;have:i<c.size:=(by omega);simp[this]
  simp only[Region.linearise.go];change mN ops _ (match (Region.ready .any ops c)[t%F (Region.ready .any ops c)]? with
   |some i=>Region.linearise.go .any ops fuel (t/F (Region.ready .any ops c)) (c.setIfInBounds i V) [i]
   |none=>[].reverse)
  have l:∀i,i∈Region.ready .any ops c↔i<ops.size/\c.getD i ah=ah/\mU ops (λj=>c.getD j ah) i:=by
   intro i;unfold Region.ready;rw[uU,ie];constructor
   .rintro⟨d,g⟩;rw[bm]at g;obtain⟨E,v⟩:=g;rw[r i d]at E;refine⟨d,by simp_all,λo n A q s=>?_⟩;rw[n]at v;simp only[fF,Ah,zX]at v;obtain⟨z0,g,rfl⟩:=Qf q
    grind
   .rintro⟨d,g,z⟩;refine⟨d,?_⟩;rw[bm];refine⟨by simp_all,?_⟩;have n:ops[i]?=J ops[i]:=jO d;rw[n];simp only[fF,Ah,zX];intro z0 g;cases X:Region.binds .any ops[i].after[z0] with|false=>rfl|true=>simpa using z _ n _ (aad g) X
  cases d:(Region.ready .any ops c)[t%F (Region.ready .any ops c)]? with
  |none=>
   have Y:Region.ready .any ops c=[]:=by
    cases z:Region.ready .any ops c with
    |nil=>rfl|cons z1 S=>
     rw[z]at d;have D:t%F (z1::S)<F (z1::S):=kC _ b8
     grind
   have m:∀i,i<ops.size->c.getD i ah=V:=by
    intro i
    induction i using Kr with
    |_ i ihi=>
     intro d;cases g:c.getD i ah with
     |true=>rfl|false=>
      have:i∈Region.ready .any ops c:=(l i).2 ⟨d,g,λo n A q s=>by
       have D:=T i o n A q s
       grind⟩
      simp_all
   simp only[aa5];exact m
  |some i=>
   simp only[];have y:=(l i).1 (cT d);obtain⟨u,N,H⟩:=y;have x:(λj=>(c.setIfInBounds i V).getD j ah)=dj (λj=>c.getD j ah) i:=by
    funext j;unfold dj;have eH:i<c.size:=(by omega);by_cases g:j=i
    .simp_all
    .rw[aL g];simp[Qe,Ne.symm g]
   have ud:=Z (t/F (Region.ready .any ops c)) (c.setIfInBounds i V) (by simp_all) (by
    refine Af.1 (my (S7 (a:=i) (p:=λj=> !c.getD j ah) ?_ (ie.2 u) (by simp_all) ?_) f)
    .intro j _ C;have this:(c.setIfInBounds i V).getD j ah=dj (λj=>c.getD j ah) i j:=congrFun x j;rw[this]at C;unfold dj at C;simp_all
    simp_all)
   rw[linearise_go_acc,aa6,aba];refine⟨u,N,H,?_⟩;simp_all
def aow(n):(λj=>(xL n ah).getD j ah)=λ_=>ah:=by
 funext j;rw[FA,Qd]
 grind
def WG(c:wq ops)(t:Nat):mN ops (λ_=>ah) (Region.linearise .any ops t):=by unfold Region.linearise;have:=akT c ops.size t (xL ops.size ah) b8 (e8 aaL b8);rw[aow]at this;omega
def TD{e:Env}{h:Heap}(g:kU P G R ops e h=V):wq ops:=λj o l d c f=>(tM g).AJ j o l d c f
def af2(d:bW P G R ops (bZ ops.size) e h=J (.normal,e',h'))(c:kU P G R ops e h=V)(t:Nat):
 ∃e2,bW P G R ops (Region.linearise .any ops t) e h=J (.normal,e2,h')/\jh e2 e':=
 N3 d (tM c) _ _ _ _ (HR d) (WG (TD c) t)
end
end Go.AE
end
section
namespace Go.AE
open Go.RowKit (Below)
structure aW.au2(K K':aW):Prop where
 base:K'.base=K.base
 ic:∀g j c,K.ic g j=J c->K'.ic g j=J c
 β:∀b g:Nat,K.β[b]?=J g->K'.β[b]?=J g
 γ:∀l g:Nat,K.γ[l]?=J g->K'.γ[l]?=J g
 tn:K.tn<=K'.tn
 tk:∀t,t<K.tn->K'.tk t=K.tk t
def aW.un(K:aW)(r:Nat):aW:={K with md:=K.md.filter (· !=r)}
def tu.un{K}{r}{k}{g off sz n aS}(h:tu K k g off sz n aS):tu (K.un r) k g off sz n aS:=h
mutual
def aQ.un{K:aW}{r:Nat}:∀{x:U} {c:aG},aQ K x c->aQ (K.un r) x c
 |_,_,.bad c=>.bad c
 |_,_,.v x y=>.v x y
 |_,_,.nil l=>.nil l
 |_,_,.fZ l a=>.fZ l a
 |_,_,.list k l s m d Z f cells N p g n X t=>.list k l s m d Z f cells N p (aI.un g) n X t
 |_,_,.arr b m d len f z q u v n S p=>.arr b m d len f z q u v n S p
 |_,_,.agg cs A g=>.agg cs A (aI.un g)
 |_,_,.tuple cs A g=>.tuple cs A (aI.un g)
 |_,_,.box b m d u=>.box b m d u
 |_,_,.dA m d=>.dA m d
 |_,_,.elem l s i d m o z0 cells p g n L T t=>.elem l s i d m o z0 cells p (aI.un g) n L T t
 |_,_,.func C first f D cs E H=>.func C first f D cs (aI.un E) (aI.un H)
 |_,_,.yield Y m v=>.yield Y m v
 |_,_,.iface z1 x c y=>.iface z1 x c (aQ.un y)
def aI.un{K:aW}{r:Nat}:∀{xs:List U} {cs:List aG},aI K xs cs->aI (K.un r) xs cs
 |_,_,.nil=>.nil
 |_,_,.cons g f xs cs d c=>.cons g f xs cs (aQ.un d) (aI.un c)
end
def oB.un{K}{r}{f c d}(h:oB K f c d)(m:r∉d):oB (K.un r) f c d:=by
 induction h with
 |nil=>exact .nil|call y g u p f c d t _ n=>exact .call y g u p f c d (aI.un t) (n m)|mark q f c d x s _ n=>have v:q≠r:=λl=>m (l ▸ gH);exact .mark q f c d (by unfold aW.un;simp_all) s (n λl=>m (gx _ l))
def oB.sub{K}{f c d}(h:oB K f c d):∀r∈d,r∈K.md:=by
 induction h with
 |nil=>simp_all|call u l t m f c d q _ g=>exact g|mark s f c d n p _ g=>simp_all
def CS.un{K}{r}{d c p cs}(h:CS K d c p cs):CS (K.un r) d c p cs:=by
 cases h with|normal h=>exact .normal h|ret c0 rest g f l=>exact .ret c0 rest g f l|cD c0 rest q n r g f m=>exact .cD c0 rest q n r g f (aQ.un m)
def akB{K c:aW}{r}(le:K.Le c)(g:r∉K.md):K.Le (c.un r):=
 ⟨le.base,le.ic,le.β,le.γ,le.tn,le.tk,λf d=>by unfold aW.un;exact uU.2 ⟨le.md f d,by grind⟩,le.lb,le.new⟩
section
variable {K:aW} {G:Nat->Option (List U)} {ok:aR->Nat->Code->Bool} {w0 w:bP} {h:Heap}
def Ya{g:Nat}{o:Obj}(c:g<w.heap.size):jC w (w.putObj g o) g o:=
 ⟨O,O,O,World.putObj_size,λ_ d=>World.putObj_heap_other d,World.putObj_heap_same c⟩
def bK.drop(s:bK K G ok w0 h w){r:Nat}(hr:r∈K.md)(o:Obj)(ho:∀cells e f,o≠ .cells cells e f):bK (K.un r) G ok w0 h (w.putObj r o):=by
 obtain⟨X,u⟩:=s.md r hr;have C:=oy u;have v:=Ya (o:=o) C;have d:∀{p:Nat} {cells:Array aG} {e:aF} {f:Nat × Nat},w.heap[p]?=J (.cells cells e f)->p≠r:=by rintro p cells e f t rfl;rw[u]at t;cases t
 refine⟨s.fL.trans (v.below X),by rw[v.size];exact s.size,λp j z3 hx=>?_,λp cs t=>?_,s.iN,s.np,λb p cs A Y=>?_,s.mn,s.oe,λz2 p rr x E=>?_,s.tn,λz0 ht=>?_,s.nL,λy D=>?_,s.all⟩
 .have q:=s.ic p j z3 hx;have n:p≠r:=by rintro rfl;simp[World.cell?,u]at q
  rw[<-q];exact World.cell?_of_block (w:=w) (v.other p n)
 .obtain⟨cells,l,c⟩:=s.dA p cs t;exact⟨cells,aI.un l,c⟩
 .obtain⟨l,c,T,cells,e,m,g⟩:=s.box b p cs A Y;exact⟨l,c,T,cells,e,(v.other p (d m)).trans m,aI.un g.1,g.2⟩
 .obtain⟨l,H,z,z1,c,m,g⟩:=s.loop z2 p rr x E;have n:p≠r:=by rintro rfl;rw[u]at c;cases c
  exact⟨l,H,z,z1,(v.other p n).trans c,λz0=>aQ.un (m z0),g⟩
 .obtain⟨l,c,m,cells,e,L,g,N,S⟩:=s.tok z0 ht;refine⟨l,c,m,cells,e,L,(v.other _ (d g)).trans g,N,λj Z x=>?_⟩;rw[<-S j Z x];exact World.frozen?_of_block (w:=w) (v.other _ (d g))
 .obtain⟨l,c⟩:=uU.1 D;have n:y≠r:=by simpa using c
  obtain⟨m,g⟩:=s.md y l;exact⟨m,(v.other y n).trans g⟩
def aW.mark(K:aW)(r:Nat):aW:={K with md:=r::K.md}
def aW.Wy(K:aW)(r):K.Le (K.mark r):=
 ⟨O,λ_ _ _ h=>h,λ_ _ h=>h,λ_ _ h=>h,aV _,λ_ _=>rfl,λ_ h=>gx _ h,λ_ _=>rfl,λ_ _ _ h=>.inl h⟩
def bK.alK(s:bK K G ok w0 h w):bK (K.mark w.heap.size) G ok w0 h (w.alloc (.deferred (J []))):=by
 have le:=K.Wy w.heap.size;have c:=s.push (.deferred (J []));refine⟨c.fL,c.size,c.ic,λp cs v=>?_,c.iN,c.np,λb p cs q u=>?_,c.mn,c.oe,λA p y x g=>?_,c.tn,c.tok,c.nL,λy g=>?_,s.all⟩
 .obtain⟨cells,d,f⟩:=s.dA p cs v;exact⟨cells,d.mono le,f⟩
 .obtain⟨d,f,t,cells,e,l,m⟩:=c.box b p cs q u;exact⟨d,f,t,cells,e,l,m.mono le (aT.1 q).1⟩
 .obtain⟨d,r,n,z,f,l,m⟩:=c.loop A p y x g;exact⟨d,r,n,z,f,l.mono le,m⟩
 .rcases gU.1 g with rfl|g
  .exact⟨s.size,World.alloc_heap_new w _⟩
  .exact c.md y g
def aW.loop(K:aW)(g:Nat):aW:={K with γ:=K.γ++[g]}
def aW.NS(K:aW)(g):K.Le (K.loop g):=
 ⟨O,λ_ _ _ h=>h,λ_ _ h=>h,λ_ _ h=>Do h,aV _,λ_ _=>rfl,λ_ h=>h,λ_ _=>rfl,λ_ _ _ h=>.inl h⟩
def bK.Xb(s:bK K G ok w0 h w){r:gV}{fn:aR}{tmps:Array aG}(d:Nat)(S:jT K r.tmps tmps)(g:ok fn tmps.size r.assign=V)(c:ok fn tmps.size r.body=V)(l:∀p∈r.params.toList,p<tmps.size):
 bK (K.loop w.heap.size) G ok w0 {h with loops:=h.loops++[r]} (w.alloc (.loop {state:=r.state,pending:=r.pending,fn,tmps,params:=r.params,assign:=r.assign,body:=r.body,defers:=d}))/\
 (K.loop w.heap.size).γ[h.loops.length]?=J w.heap.size:=by
 have le:=K.NS w.heap.size;have p:=s.push (.loop {state:=r.state,pending:=r.pending,fn,tmps,params:=r.params,assign:=r.assign,body:=r.body,defers:=d});have v:(K.loop w.heap.size).γ[h.loops.length]?=J w.heap.size:=by simp[aW.loop,<-s.mn]
 have T:∀{x n:Nat},K.γ[x]?=J n->n<w.heap.size:=λ{x n} f=>by
  have C:x<F h.loops:=by rw[<-s.mn];exact(aT.1 f).1
  obtain⟨_,_,_,_,l,_⟩:=s.loop x n _ f (aP C)
  grind
 refine⟨⟨p.fL,p.size,p.ic,λn cs N=>?_,p.iN,p.np,λb n cs q L=>?_,by simp[aW.loop,s.mn],λx X n f A=>?_,λx n D f m=>?_,p.tn,p.tok,p.nL,p.md,s.all⟩,v⟩
 .obtain⟨cells,g,c⟩:=s.dA n cs N;exact⟨cells,g.mono le,c⟩
 .obtain⟨g,c,H,cells,e,l,u⟩:=p.box b n cs q L;exact⟨g,c,H,cells,e,l,u.mono le (aT.1 q).1⟩
 .rcases qc f with q|⟨rfl,rfl⟩<;>rcases qc A with z|⟨rfl,c⟩
  .exact s.oe _ _ _ q z
  .grind
  .grind
  .rfl
 .rcases qc f with f|⟨rfl,rfl⟩
  .rcases qc m with m|⟨rfl,rfl⟩
   .obtain⟨g,y,t,E,c,l,u⟩:=p.loop x n D f m;exact⟨g,y,t,E,c,l.mono le,u⟩
   grind
  .have:D=r:=(by rw[s.mn]at m;simp at m;exact m.symm);subst this;exact⟨s.size,fn,tmps,d,World.alloc_heap_new w _,S.mono le,g,c,l⟩
def bK.fb(s:bK K G ok w0 h w){l g:Nat}{r:gV}(z:K.γ[l]?=J g)(Y:h.loops[l]?=J r)(st:LoopState)(E:Option Code):
 ∃m:Loop,w.heap[g]?=J (.loop m)/\m.state=r.state/\m.pending=r.pending/\m.params=r.params/\m.assign=r.assign/\m.body=r.body/\jT K r.tmps m.tmps/\
  ok m.fn m.tmps.size r.assign=V/\ok m.fn m.tmps.size r.body=V/\(∀p∈r.params.toList,p<m.tmps.size)/\
  bK K G ok w0 {h with loops:=h.loops.set l {r with state:=st,pending:=E}} (w.putObj g (.loop {m with state:=st,pending:=E})):=by
 obtain⟨k1,fn,tmps,z0,A,k3,k4,k5,k6⟩:=s.loop l g r z Y;have gJ:l<F h.loops:=(aT.1 Y).1;refine⟨_,A,O,O,O,O,O,k3,k4,k5,k6,?_⟩;have C:=Ya (o:=.loop {state:=st,pending:=E,fn,tmps,params:=r.params,assign:=r.assign,body:=r.body,defers:=z0}) (oy A);have d:∀{c:Nat} {cells:Array aG} {e:aF} {z1:Nat × Nat},w.heap[c]?=J (.cells cells e z1)->c≠g:=by rintro c cells e z1 T rfl;rw[A]at T;cases T
 refine⟨s.fL.trans (C.below k1),by rw[C.size];grind,λc j z3 hx=>?_,s.dA,s.iN,s.np,λb c cs N hc=>?_,by simp[s.mn],s.oe,λl' c rr f n=>?_,s.tn,λz2 ht=>?_,s.nL,λH Z=>?_,s.all⟩
 .have x:=s.ic c j z3 hx;have t:c≠g:=by rintro rfl;simp[World.cell?,A]at x
  rw[<-x];exact World.cell?_of_block (w:=w) (C.other c t)
 .obtain⟨u,q,ha,cells,e,y,v⟩:=s.box b c cs N hc;exact⟨u,q,ha,cells,e,(C.other c (d y)).trans y,v⟩
 .simp only[lM]at n;split at n
  .rename_i S;subst S;injection n with n;subst n;rw[z]at f;injection f with f;subst f;exact⟨k1,fn,tmps,z0,C.this,k3,k4,k5,k6⟩
  .rename_i t;have X:c≠g:=(by rintro rfl;exact t (s.oe _ _ _ z f));obtain⟨u,L,D,d',q,y,v⟩:=s.loop l' c rr f n;exact⟨u,L,D,d',(C.other c X).trans q,y,v⟩
 .obtain⟨u,q,y,cells,e,fz,v,h5,h6⟩:=s.tok z2 ht;refine⟨u,q,y,cells,e,fz,(C.other _ (d v)).trans v,h5,λj hj z=>?_⟩;rw[<-h6 j hj z];exact World.frozen?_of_block (w:=w) (C.other _ (d v))
 .obtain⟨u,q⟩:=s.md H Z;have t:H≠g:=by rintro rfl;rw[A]at q;cases q
  exact⟨u,(C.other H t).trans q⟩
end
end Go.AE
end
section
namespace Go.AE
section
variable {P:bk} {G:Nat->Option (List U)} {R:Rec} {ops:Array Oper} {e:Env} {h:Heap}
def VJ:∀(l:List Oper),F (uk l)=F l
 | []=>rfl
 | [_]=>rfl
 |o::c::d=>by rw[uk,ef,VJ (c::d)];rfl
def VI:∀(l:List Oper) (i:Nat),(uk l)[i]?=if i+1=F l then (l[i]?).map quiet else l[i]?
 | [],i=>by simp[uk]
 | [o],i=>by cases i<;>simp[uk]
 |o::c::d,i=>by
  cases i with|zero=>simp[uk]|succ i=>rw[uk,jE,VI (c::d) i];simp
def Nr(ops):(gB ops).size=ops.size:=by show(F (uk ops.toList))=_;rw[VJ];simp
def Eh(ops)(i):(gB ops)[i]?=if i+1=ops.size then (ops[i]?).map quiet else ops[i]?:=by have:=VI ops.toList i;simp only[ip,FD]at this;unfold gB;simp_all
def HE{i:Nat}(hi:i+1≠ops.size):(gB ops)[i]?=ops[i]?:=by rw[Eh,aL hi]
def VK(ops)(i:Nat):((gB ops)[i]?).map (·.after)=(ops[i]?).map (·.after):=by
 rw[Eh];split
 .cases ops[i]?<;>rfl
 .rfl
def alf(c:qZ ops=V){i j:Nat}{w:Bool}{o:Oper}(hi:i+1<ops.size)(f:ops[i]?=J o)(d:o.guard=J (j,w)):j+1≠ops.size:=by
 unfold qZ at c;simp only[eJ,ie,bm]at c;have:=(c i M).2;simp only[f,d,Cu]at this;intro l;have g:j=ops.size-1:=by omega
 simp_all
def ald(c:qZ ops=V){i:Nat}(hi:i+1<ops.size):Ord (Region.before (gB ops)) i (ops.size-1):=by unfold qZ at c;simp only[eJ,ie,bm]at c;exact(c i M).1
def WN(d:qZ ops=V){i:Nat}{o:Oper}(hi:i+1<ops.size)(f:ops[i]?=J o)(e:Env):eE (gB ops) e o=eE ops e o:=by
 unfold eE;cases c:o.guard with|none=>rfl|some g=>obtain⟨j,w⟩:=g;simp only;rw[HE (alf d hi f c)]
def alg(c:qZ ops=V){i:Nat}(hi:i+1<ops.size)(e:Env)(h:Heap):gQ P G R (gB ops) i e h=gQ P G R ops i e h:=by
 unfold gQ;rw[HE M];cases d:ops[i]? with|none=>rfl|some o=>simp only[WN c hi d]
def ale{i:Nat}(hi:i+1<ops.size):iK (gB ops) i=iK ops i:=by unfold iK;rw[HE M]
def WM(m:qZ ops=V):∀{l:List Nat},(∀i∈l,i+1<ops.size)->∀(e:Env) (h:Heap),bW P G R (gB ops) l e h=bW P G R ops l e h:=by
 intro l
 induction l with
 |nil=>intro _ e h;rfl|cons i l d=>
  intro c e h;have f:=c i gH;have d:=d λj g=>c j (gx _ g);rw[bW,bW,HE M];cases n:ops[i]? with|none=>rfl|some o=>simp only[WN m f n,d]
def Xw{i:Nat}{rest:List Nat}{e c:Env}{h d:Heap}{x:U}(f:gQ P G R ops i e h=J (x,c,d)):bW P G R ops (i::rest) e h=bW P G R ops rest (c.put (iK ops i) x) d:=by
 unfold gQ at f;rw[bW];unfold iK
 grind
def Ok{l:List Nat}:∀{f:List Nat} {e c:Env} {h d:Heap},bW P G R ops f e h=J (.normal,c,d)->bW P G R ops (f++l) e h=bW P G R ops l c d:=by
 intro f
 induction f with
 |nil=>intro e c h d g;simp only[bW,dt,cL,true_and]at g;simp_all|cons i s r=>
  intro e c h d g;obtain⟨t,n,p,m,q⟩:=nE.1 g;rw[ey,Xw m]
  grind
def Yk{L:Nat}(l:L+1=ops.size){x:U}{c e2:Env}{d g:Heap}(f:gQ P G R (gB ops) L c d=J (x,e2,g)):e2=c/\g=d:=by
 unfold gQ at f;rw[Eh,av l]at f;cases m:ops[L]? with|none=>simp_all|some o=>rw[m]at f;have p:eE (gB ops) c (quiet o)=J V:=rfl;have n:dH P G R c d (quiet o)=J (.ret (oP (.bool V)),c,d):=rfl;simp_all
def Yj{L:Nat}(c:L+1=ops.size):iK (gB ops) L=ag:=by unfold iK;rw[Eh,av c];cases ops[L]?<;>rfl
def jh.trans{a b c}(h:jh a b)(k:jh b c):jh a c:=⟨λd=>(h.gf d).trans (k.gf d),h.defers.trans k.defers,h.cD.trans k.cD,h.round.trans k.round⟩
def jh.symm{a b}(h:jh a b):jh b a:=⟨λc=>(h.gf c).symm,h.defers.symm,h.cD.symm,h.round.symm⟩
def jh.refl(a):jh a a:=⟨λ_=>rfl,O,O,O⟩
def jh.eval{a b}(h:jh a b)(x):a.eval x=b.eval x:=by
 cases x with|tmp c=>exact h.gf c|_=>rfl
def jh.wanted{a b:Env}(h:jh a b)(o:Oper):eE ops a o=eE ops b o:=by
 unfold eE;cases o.guard with
 |none=>rfl|some d=>
  simp only;cases (ops[d.1]?).bind (·.dst) with|none=>rfl|some c=>simp only[h.gf c]
def amI{L:Nat}{x:U}{g ep l:Env}{m p:Heap}{rest:List Nat}(c:bW P G R ops [L] g m=some (.panic x,ep,p))(d:jh l g):∃e2,bW P G R ops (L::rest) l m=some (.panic x,e2,p)/\jh e2 ep:=by
 rw[bW] at c ⊢;cases q:ops[L]? with
 |none=>simp_all|some o=>
  rw[q] at c;simp only at c ⊢;rw[d.wanted];cases n:eE ops g o with
  |none=>simp_all|some b=>
   rw[n] at c;cases b with
   |false=>simp[bW] at c|true=>
    simp only at c ⊢;cases f:dH P G R g m o with
    |none=>simp_all|some s=>
     obtain⟨t,e2,r⟩:=s;rw[f] at c;cases t with|ret v=>simp[bW] at c|panic v=>simp only[dt,cL,Xt.panic.injEq] at c;obtain⟨rfl,rfl,rfl⟩:=c;rw[Xo (e2:=l) (λx _=>(d.eval x).symm) d.defers d.cD d.round f];refine⟨_,rfl,?_⟩;have n:=Xp f;rw[n];exact⟨λu=>d.gf u,rfl,rfl,d.round⟩
variable {b:Array Nat}
def ahA(hl:qZ ops=V){L:Nat}(hL:L+1=ops.size){e':Env}{h':Heap}(z2:bW P G R (gB ops) (bZ (gB ops).size) e h=J (.normal,e',h'))(z0:Fits P G R (gB ops) e h (Region.before (gB ops)))
 {x:U} {eL ep:Env} {N hp:Heap} (hsL:jh e' eL) (hhL:h'=N) (xj:bW P G R ops [L] eL N=J (.panic x,ep,hp)):∀(fuel t:Nat) (c:Array Bool) (A:Env) (C:Heap),c.size=ops.size->c.getD L ah=ah->
 Inv P G R (gB ops) e h (Region.before (gB ops)) (λj=>c.getD j ah) A C->(bZ ops.size).countP (λj=> !c.getD j ah)<=fuel->
 ∃e2,bW P G R ops (Region.linearise.go .any ops fuel t c []) A C=some (.panic x,e2,hp)/\jh e2 ep:=by
 have avL:=Nr ops;intro fuel
 induction fuel with
 |zero=>intro t c A C gK hun z1 f;have:=aaK.1 (abi.1 f) L (ie.2 M);simp_all|succ fuel ih=>
  intro t c A C gK hun z1 f;have H:∀i,i<ops.size->c.getD i V=c.getD i ah:=by intro i l;have:i<c.size:=(by omega);simp[this]
  simp only[Region.linearise.go];change ∃e2,bW P G R ops (match (Region.ready .any ops c)[t%(Region.ready .any ops c).length]? with
   |some i=>Region.linearise.go .any ops fuel (t/(Region.ready .any ops c).length) (c.setIfInBounds i V) [i]
   |none=>[].reverse) A C=J (.panic x,e2,hp)/\jh e2 ep
  have m:∀i,i∈Region.ready .any ops c↔i<ops.size/\c.getD i ah=ah/\mU (gB ops) (λj=>c.getD j ah) i:=by
   intro i;unfold Region.ready;rw[uU,ie];constructor
   .rintro⟨l,d⟩;rw[bm] at d;obtain⟨ui,n⟩:=d;rw[H i l] at ui;refine⟨l,by simp_all,λo r z g u=>?_⟩;have s:=VK ops i;rw[r] at s;cases v:ops[i]? with
    |none=>simp_all|some o2=>
     rw[v] at s n;simp only[fF,dt] at s;rw[s] at g;simp only[fF,Ah,zX] at n;obtain⟨z3,d,rfl⟩:=Qf g
     grind
   .rintro⟨l,d,hr⟩;refine⟨l,?_⟩;rw[bm];refine⟨by simp_all,?_⟩;have r:ops[i]?=J ops[i]:=jO l;have s:=VK ops i;rw[r] at s ⊢;cases v:(gB ops)[i]? with
    |none=>simp_all|some o2=>
     rw[v] at s;simp only[fF,dt] at s;simp only[fF,Ah,zX];intro z3 d;cases hb:Region.binds .any ops[i].after[z3] with|false=>rfl|true=>simpa using hr _ v _ (by simp_all) hb
  cases l:(Region.ready .any ops c)[t%(Region.ready .any ops c).length]? with
  |none=>
   exfalso;have DW:Region.ready .any ops c=[]:=by
    cases hr:Region.ready .any ops c with
    |nil=>rfl|cons x xs=>
     rw[hr] at l;have S:t%(x::xs).length<(x::xs).length:=kC _ b8
     grind
   have D:∀i,i<ops.size->c.getD i ah=V:=by
    intro i
    induction i using Kr with
    |_ i ihi=>
     intro l;cases d:c.getD i ah with
     |true=>rfl|false=>
      have:i∈Region.ready .any ops c:=(m i).2 ⟨l,d,λo r z g u=>by
       have S:=z0.AJ i o r z g u
       grind⟩
      simp_all
   grind
  |some i=>
   simp only[];have Z:=(m i).1 (cT l);obtain⟨jH,aja,T⟩:=Z;obtain⟨z4,e2,h2,hs,I'⟩:=next z2 z0 z1 M aja T
   have X:(λj=>(c.setIfInBounds i V).getD j ah)=dj (λj=>c.getD j ah) i:=by
    funext j;unfold dj;have eH:i<c.size:=(by omega);by_cases d:j=i
    .simp_all
    .rw[aL d];simp[Qe,Ne.symm d]
   rw[linearise_go_acc,aa6,aba];by_cases hiL:i=L
   .subst hiL;obtain⟨q1,q2⟩:=Yk hL hs;subst q1;subst q2;have D:∀j,j<(gB ops).size->dj (λj=>c.getD j ah) i j=V:=by
     intro j Y;unfold dj;by_cases d:j=i
     .simp_all
     .rw[aL d];have q:j+1<ops.size:=(by omega);have E:=ald hl q;have:ops.size - 1=i:=(by omega);rw[this] at E;have r:(gB ops)[i]?=J (gB ops)[i]:=jO M;obtain⟨z,g,u,n⟩:=z0.bits i j _ r M E;have Ni:=T _ r z g u;have S:=z0.AJ i _ r z g u;rcases n with rfl|n
      .omega
      .exact z1.closed j z.on M M Ni n
    obtain⟨y,rfl⟩:=V0 z2 I' D;rw[Yj hL] at y;subst hhL;exact amI xj (y.trans hsL)
   .have q:i+1<ops.size:=(by omega);rw[alg hl q] at hs;rw[ale q] at I';rw[Xw hs];refine ih (t/(Region.ready .any ops c).length) (c.setIfInBounds i V) (e2.put (iK ops i) z4) h2 (by simp_all) ?_ (by simp_all) (by
     refine Af.1 (my (S7 (a:=i) (p:=λj=> !c.getD j ah) ?_ (ie.2 jH) (by simp_all) ?_) f)
     .intro j _ Y;have this:(c.setIfInBounds i V).getD j ah=dj (λj=>c.getD j ah) i j:=congrFun X j;rw[this] at Y;unfold dj at Y;simp_all
     simp_all)
    simp_all
def af4(l:qZ ops=V)(s:kU P G R (gB ops) e h=V)(r:zw (bW P G R (gB ops) (bZ (gB ops).size) e h)=V){x:U}{ep:Env}{m:Heap}(c:bW P G R ops (bZ ops.size) e h=J (.panic x,ep,m))(t:Nat):
 ∃e2,bW P G R ops (Region.linearise .any ops t) e h=some (.panic x,e2,m)/\jh e2 ep:=by
 have u:0<ops.size:=by
  rcases Nat.eq_zero_or_pos ops.size with q|q
  .rw[q] at c;simp[bW] at c
  .exact q
 obtain⟨A,d⟩:∃A,A+1=ops.size:=⟨ops.size - 1,by omega⟩;obtain⟨e',h',p⟩:∃e' h',bW P G R (gB ops) (bZ (gB ops).size) e h=J (.normal,e',h'):=by
  unfold zw at r
  grind
 have g:=p;rw[Nr,<-d,ku] at g;obtain⟨E,C,v,y⟩:=BH.1 g;obtain⟨N,D,H,z,f⟩:=nE.1 y;obtain⟨rfl,rfl⟩:=Yk d z;rw[Yj d] at f;simp only[bW,dt,cL,true_and] at f;obtain⟨rfl,rfl⟩:=f;have n:=v;rw[WM l (λi L=>by grind)] at n;rw[<-d,ku,Ok n] at c;unfold Region.linearise;refine ahA l d p (tM s) (jh.refl _) rfl c ops.size t _ e h b8 ?_ ?_ ?_
 .rw[FA,Qd]
  grind
 .have:(λj=>(xL ops.size ah).getD j ah)=λ_=>ah:=by
   funext j;rw[FA];rw[Qd]
   grind
  rw[this];exact HR p
 .exact e8 aaL b8
end
end Go.AE
end
section
namespace Go.AE
section
variable {P:bk} {G:Nat->Option (List U)} {R:Rec} {ops:Array Oper} {e:Env} {h:Heap} {k:Nat}
inductive au5 (ops:Array Oper) (k i:Nat):Prop
 |self (h:i=k)
 |ahead (h1:Bf ops k i=ah) (h2:TZ ops k i=V) (h3:i<k) (h4:Ord (Region.before (cut ops k)) i k)
 |beside (h1:Bf ops k i=ah) (h2:TZ ops k i=V) (h3:aek ops i=V) (h4:nP ops i k=V)
 |behind (h1:k<i) (h2:Bf ops k i=V) (h3:Ord (Region.before (cut ops k)) k i)
def Fits.lt{b:Array Nat}(t:Fits P G R ops e h b):∀(j i:Nat),j<ops.size->i<ops.size->Ord b i j->i<j:=by
 intro j
 induction j using Kr with
 |_ j s=>
  intro i m l p;have n:ops[j]?=J ops[j]:=jO m;obtain⟨d,g,f,r⟩:=t.bits j i _ n l p;have c:=t.AJ j _ n d g f;rcases r with q|q
  .omega
  .have:=s d.on c i (oi c m) l q;omega
structure au4(ops:Array Oper)(k:Nat)(a b:Env):Prop where
 gf:∀t,(∀i,i<ops.size->afZ ops k i≠J t)->a.get t=b.get t
 defers:a.defers=b.defers
 cD:a.cD=b.cD
 round:a.round=b.round
end
end Go.AE
end
section
namespace Go.AE
open Go.RowKit (Below)
section
variable {P:bk} {G:Nat->Option (List U)} {w0:bP} {R:Rec}
def Steps.tail{m f d:Machine}(h:step P m=.next f)(g:Steps P m d)(n:m≠d):Steps P f d:=by
 obtain⟨l,c⟩:=g;cases l with|zero=>simp[runN]at c;simp_all|succ l=>simp only[runN,h]at c;exact⟨l,c⟩
def HX{f c}{cs d}{w w'}(h:lone f cs w=lone c d w'):f=c:=by unfold lone at h;simp_all
def mK.swap{K:aW}{m q m':Machine}{B:eF}{k:List Item}{c:Code}{cs p:List eF}{x:Xt}{a a0:Act}{w t:bP}(v:∀id,c≠ .exit id)(u:c≠ .ret)(l:m=lone (B.atR a0 (.code c::k)) p t)
 (g:step P m=.next q) (s:step P m'=.next q) (h:mK P K m B k cs x a w):mK P K m' B k cs x a w:=by
 refine mK.of_steps (.one s) ?_;cases x with
 |normal=>refine Steps.tail g h ?_;rw[l];intro d;have:=congrArg Frame.todo (HX d);simp only[Frame.atR]at this;simp_all|exit id=>obtain⟨r,n,f⟩:=h;refine⟨r,n,Steps.tail g f ?_⟩;rw[l];intro d;have:=congrArg Frame.todo (HX d);simp only[Frame.atR,QF,Item.code.injEq]at this;simp_all
 |ret=>obtain⟨r,f⟩:=h;refine⟨r,Steps.tail g f ?_⟩;rw[l];intro d;have:=congrArg Frame.todo (HX d);simp only[Frame.atR,QF,Item.code.injEq]at this;simp_all
 |panic x=>obtain⟨r,y,n,f⟩:=h;refine⟨r,y,n,Steps.tail g f ?_⟩;rw[l];intro d;have:=congrArg Frame.mode (HX d);simp[Frame.atR]at this
def Left.refl{K:aW}{w:bP}{a:Act}{B:eF}{f:List Nat}{c cs:List eF}{k:List Item}{m:Machine}{d:Xt}{e:Env}{h:Heap}(n:mq P K e a B f)(g:CS K B.kind c e.cD cs)(q:ji P G w0 K h w)(l:mK P K m B k cs d a w):
 Left P G w0 K f B c m k a.tmps.size d e h K w a cs f:=
 ⟨.refl K,q,n,g,O,λ_ p=>.inl p,l⟩
def Left.of_steps{K l:aW}{w':bP}{p:Act}{B:eF}{r f:List Nat}{c d:List eF}{k:List Item}{m q:Machine}{g:Xt}{e':Env}{h':Heap}{n:Nat}(s:Steps P m q)(L:Left P G w0 K r B c q k n g e' h' l w' p d f):
 Left P G w0 K r B c m k n g e' h' l w' p d f:=
 ⟨L.le,L.oV,L.frame,L.cs,L.size,L.marks,L.arr.of_steps s⟩
def Xv(hn:Ak P)(hR:tt P G w0 R){ops:Array Oper}:∀(l:List Nat) (e:Env) (h:Heap) (q:Xt) (e':Env) (h':Heap),bW P G R ops l e h=J (q,e',h')->
 ∀(K:aW) (w:bP) (a:Act) (B:eF) (k:List Item) (d cs:List eF) (m:List Nat),mq P K e a B m->CS K B.kind d e.cD cs->ji P G w0 K h w->BJ a.tmps.size ops=V->
 ∃r w' s f,Left P G w0 K m B d (lone (B.atR a (.inRegion ops l::k)) cs w) k a.tmps.size q e' h' r w' s f m:=by
 intro l
 induction l with
 |nil=>intro e h q e' h' c K w a B k d cs m t n z g;simp only[bW,dt,cL]at c;obtain⟨rfl,rfl,rfl⟩:=c;exact⟨K,w,a,cs,.refl t n z (.one stepR_region_end)⟩
 |cons i rest ih=>
  intro e h q e' h' c K w a B k d cs m t n z g;simp only[bW]at c;cases y:ops[i]? with
  |none=>simp_all|some o=>
   rw[y]at c;simp only at c;have H:=Xu g y;cases A:eE ops e o with
   |none=>simp_all|some b=>
    rw[A]at c;have hwm:=auo t.gf g A;cases b with
    |false=>simp only at c;have p:=stepR_op_skip (P:=P) (b:=B) (a:=a) (k:=k) (cs:=cs) (w:=w) (ops:=ops) (i:=i) (rest:=rest) (by simp_all);have hb:(ops[i]?).bind (·.dst)=o.dst:=(by rw[y];rfl);rw[hb]at p;obtain⟨r,w',s,f,x⟩:=ih _ _ _ _ _ c K w (a.put o.dst undef) B k d cs m (t.put H (.tuple [] #[] .nil)) (by cases o.dst<;>exact n) z (by rw[IA];omega);rw[IA]at x;exact⟨r,w',s,f,.of_steps (.one p) x⟩
    |true=>
     simp only at c;cases D:dH P G R e h o with
     |none=>simp_all|some z3=>
      obtain⟨z0,e1,h1⟩:=z3;rw[D]at c;obtain⟨X,w1,Y,C,E,s1,f1,Z,T,u⟩:=amc (i:=i) (rest:=rest) hn hR D t n z y hwm k;cases z0 with
      |ret z4=>obtain⟨z2,N,v⟩:=u;simp only at c;obtain⟨r,w',s,f,x⟩:=ih _ _ _ _ _ c X w1 (Y.put o.dst z2) B k d C m (f1.put (by simp_all) N) (by cases o.dst<;>exact Z) s1 (by rw[IA,T];omega);rw[IA,T]at x;refine⟨r,w',s,f,E.trans x.le,x.oV,x.frame,x.cs,x.size,λz0 L=>.inl L,x.arr.of_steps v⟩
      |panic z4=>obtain⟨z2,S,N,v⟩:=u;simp only[dt,cL]at c;obtain⟨rfl,rfl,rfl⟩:=c;exact⟨X,w1,Y,C,E,s1,f1,Z,T,λz0 L=>.inl L,S,z2,N,v⟩
def mq.same{K:aW}{e e2:Env}{a:Act}{B:eF}{f:List Nat}(c:mq P K e a B f)(d:jh e e2):mq P K e2 a B f:=by
 refine⟨λg=>?_,d.defers ▸ c.defers,?_,c.fn⟩
 .have:=d.gf g;unfold Env.get at this;rw[<-this];exact c.gf g
 .have:=c.round;rw[d.round,d.defers]at this;omega
def alv{n:Nat}{ps:Array Tmp}(h:(ps.all λp=>decide (p<n))=V):∀p∈ps.toList,p<n:=by intro p c;rw[Fz]at h;simp_all
end
end Go.AE
end
section
namespace Go.AE
section
variable {P:bk} {G:Nat->Option (List U)} {R:Rec} {ops:Array Oper} {i:Nat}
end
end Go.AE
end
section
namespace Go.AE
section
variable {K:aW} {G:Nat->Option (List U)} {ok:aR->Nat->Code->Bool} {w0 w:bP} {h:Heap}
end
end Go.AE
end
section
namespace Go.AE
open Go.RowKit (Below)
section
variable {P:bk} {G:Nat->Option (List U)} {w0:bP} {R:Rec}
structure Qh(d:Tmp)(e eh:Env):Prop where
 gf:∀t,t≠d->e.get t=eh.get t
 defers:e.defers=eh.defers
 cD:e.cD=eh.cD
 round:e.round=eh.round
def Qh.eval{d}{e c}(b:Qh d e c){x}(f:x≠ .tmp d):e.eval x=c.eval x:=by
 cases x with|tmp l=>exact b.gf l λg=>f (by rw[g])|_=>rfl
end
end Go.AE
end
section
namespace Go.AE
section
variable {ops:Array Oper} {i:Nat}
def ready_mono{n c:Nat->Bool}{k:Nat}(m:mU ops n k)(h:∀j,n j=V->c j=V):mU ops c k:=λo l f d g=>h _ (m o l f d g)
def Oi(f)(a b):dj (dj f a) b=dj (dj f b) a:=by funext j;unfold dj;by_cases c:j=a<;>by_cases d:j=b<;>simp[c,d]
structure au6(ops:Array Oper)(i:Nat)(d2:Tmp):Prop where
 lt:i+1<ops.size
 no:Gl ops i (i+1)=ah
 all:∀k,k<ops.size->k≠i->k≠i+1->Gl ops (i+1) k=V∨Gl ops k i=V∨(ak6 ops d2 k=V/\Gl ops k (i+1)=ah)
variable {d2:Tmp}
variable {P:bk} {G:Nat->Option (List U)} {w0:bP} {R:Rec}
end
end Go.AE
end
section
namespace Go.AE
section
variable {ops:Array Oper} {i j:Nat} {P:bk} {G:Nat->Option (List U)} {R:Rec}
def px:(fN ops i j).size=ops.size:=by simp[fN]
def AK(k:Nat):(fN ops i j)[k]?=(ops[k]?).map λo=>if k=j then {o with after:=o.after.push {on:=i,ground:=.data}} else o:=by unfold fN;simp_all
def Tj(k:Nat):((fN ops i j)[k]?).bind (·.dst)=(ops[k]?).bind (·.dst):=by
 rw[AK]
 grind
def aun(e:Env)(o:Oper):eE (fN ops i j) e o=eE ops e o:=by
 unfold eE;cases o.guard with|none=>rfl|some c=>simp only[Tj]
def zI:∀(L:List Nat) (e:Env) (h:Heap),bW P G R (fN ops i j) L e h=bW P G R ops L e h:=by
 intro L
 induction L with
 |nil=>intro e h;rfl|cons k L l=>
  intro e h;unfold bW;rw[AK];cases g:ops[k]? with
  |none=>rfl|some o=>
   simp only[fF];have f:∀c:Oper,c.op=o.op->c.type=o.type->c.guard=o.guard->c.dst=o.dst->(eE (fN ops i j) e c=eE ops e o/\dH P G R e h c=dH P G R e h o):=by intro c m n d p;refine⟨by rw[aun];unfold eE;rw[d],?_⟩;unfold dH;simp_all
   grind
def vX{p:Nat->Bool}{k:Nat}(m:mU ops p k)(s:k=j->p i=V):mU (fN ops i j) p k:=by
 intro o c g d l;rw[AK]at c;cases f:ops[k]? with
 |none=>simp_all|some n=>
  rw[f]at c;simp only[fF,dt]at c;split at c
  .rename_i r;subst c;rcases Array.mem_push.1 d with q|q
   .exact m n f g q l
   simp_all
  .subst c;exact m n f g d l
def ak5:∀(L:List Nat) (c:Nat->Bool),c i=V->mN ops c L->mN (fN ops i j) c L:=by
 intro L
 induction L with
 |nil=>intro c _ h k d;exact h k (by rw[px]at d;exact d)
 |cons k L p=>intro c n h;obtain⟨f,g,l,m⟩:=h;refine⟨by rw[px];exact f,g,vX l λ_=>n,p _ ?_ m⟩;unfold dj;simp_all
def ac3(h:wq (fN ops i j)):wq ops:=by
 intro k o g c l d;have f:(fN ops i j)[k]?=J (if k=j then {o with after:=o.after.push {on:=i,ground:=.data}} else o):=by rw[AK,g];rfl
 refine h k _ f c ?_ d
 grind
def z_(ops:Array Oper)(d:Nat->Bool):Prop:=∀(k:Nat) (o:Oper),ops[k]?=J o->d k=V->∀c∈o.after,Region.binds .any c=V->d c.on=V
def z_.one{n:Nat->Bool}{k:Nat}(c:z_ ops n)(p:mU ops n k):z_ ops (dj n k):=by
 intro q o m f g d l;unfold dj at f ⊢;split
 .rfl
 .split at f
  .rename_i r;subst r;exact p o m g d l
  .exact c q o m f g d l
def adm{z:Nat->Bool}(p:x_ ops (Region.before ops)=V)(c:z_ ops z){k:Nat}:∀(m:Nat),m<ops.size->mU ops z m->((Region.before ops).getD m 0).testBit k=V->k<ops.size->z k=V:=by
 intro m
 induction m using Kr with
 |_ m L=>
  intro v E D t;unfold x_ at p;rw[eJ]at p;have:=p m (ie.2 v);have x:ops[m]?=J ops[m]:=jO v;rw[x]at this;simp only[bm,eJ,Fz]at this;obtain⟨A,C⟩:=this;have n:=C k (ie.2 t);rw[D]at n;simp only[aao,FE,Array.any_eq_true',bm,og]at n;obtain⟨d,l,g,f⟩:=n;have H:=E _ x d l g;rcases f with f|f
  .simp_all
  .have u:d.on<m:=(by have:=A d l;rw[g]at this;simpa using this);exact L d.on u M (λo y r q s=>c _ o y H r q s) f t
def aoB{n:Nat}(z:wq ops)(E:n+1=ops.size):∀(L:List Nat) (c:Nat->Bool),c n=ah->c i=V->mU ops c n->mN ops (dj c n) L->mN (fN ops i n) c (L++[n]):=by
 intro L
 induction L with
 |nil=>intro c m q g h;refine⟨by rw[px];omega,m,vX g λ_=>q,λk r=>?_⟩;exact h k (by rw[px]at r;exact r)
 |cons k L A=>
  intro c m q g h;obtain⟨v,d,x,y⟩:=h;unfold dj at d;split at d
  .cases d
  .rename_i s;have u:mU ops c k:=by
    intro o t l f p;have:=x o t l f p;unfold dj at this;split at this
    .rename_i C;have:=z k o t l f p;omega
    .omega
   refine⟨by rw[px];exact v,d,vX u (λC=>absurd C s),A (dj c k) ?_ ?_ ?_ ?_⟩
   .unfold dj;grind
   .unfold dj;simp_all
   .exact ready_mono g λj D=>by unfold dj;simp_all
   .rw[Oi];exact y
def aoC{n:Nat}(A:wq ops)(hn:n+1=ops.size)(jH:i<n):∀(L:List Nat) (d:Nat->Bool),d n=ah->d i=ah->mU ops d n->mN ops (dj d n) L->
 ∃g l,L=g++i::l/\(∀k∈g,k<ops.size/\k≠i/\k≠n/\d k=ah)/\(∀k∈l,k<ops.size/\k≠i/\k≠n/\d k=ah)/\mN (fN ops i n) d (g++i::(l++[n])):=by
 intro L
 induction L with
 |nil=>intro d Z D N h;have:=h i M;unfold dj at this;simp_all|cons k L ih=>
  intro d Z D N h;obtain⟨z,m,X,p⟩:=h;unfold dj at m;split at m
  .cases m
  .rename_i r;have s:mU ops d k:=by
    intro o H y q C;have:=X o H y q C;unfold dj at this;split at this
    .rename_i x;have:=A k o H y q C;omega
    .omega
   have t:mU ops (dj d k) n:=ready_mono N λj hj=>(by unfold dj;simp_all);by_cases E:k=i
   .subst E;have u:∀(L:List Nat) (d:Nat->Bool),mN ops d L->∀f∈L,f<ops.size/\d f=ah:=by
     intro L
     induction L with
     |nil=>simp_all|cons a L S=>
      intro d Y f c;obtain⟨q1,q2,q3,q4⟩:=Y;rcases gU.1 c with rfl|c
      .simp_all
      .obtain⟨p1,v⟩:=S _ q4 f c;unfold dj at v;simp_all
    refine⟨[],L,O,λf c=>(nomatch c),λf c=>?_,?_⟩
    .obtain⟨p1,v⟩:=u L _ p f c;unfold dj at v;simp_all
    .refine⟨by rw[px];exact z,D,vX s (λx=>absurd x r),?_⟩;refine aoB A hn L _ ?_ ?_ t ?_
     .unfold dj;grind
     .unfold dj;simp_all
     .rw[Oi];exact p
   .rw[Oi]at p;obtain⟨g,l,e1,e2,e3,T⟩:=ih (dj d k) (by unfold dj;grind) (by unfold dj;grind) t p;have sO:∀f,dj d k f=ah->d f=ah:=λf x=>(by unfold dj at x;simp_all);refine⟨k::g,l,by simp_all,λf c=>?_,λf c=>?_,by rw[px];exact z,m,vX s (λx=>absurd x r),T⟩<;>grind
def amC{n:Nat}(S:wq ops)(X:n+1=ops.size)(A:i<n):∀(L:List Nat) (m:Nat->Bool),m n=ah->m i=ah->z_ ops m->mN ops m L->
 mN (fN ops i n) m L∨∃g c d f,L=g++(n::(c++i::d))/\f i=ah/\mU ops f n/\z_ ops f/\(∀k∈c,k<ops.size/\k≠i/\k≠n/\f k=ah)/\(∀k∈d,k<ops.size/\k≠i/\k≠n/\f k=ah)/\mN (fN ops i n) m (g++(c++i::(d++[n]))):=by
 intro L
 induction L with
 |nil=>intro m q r _ h;have:=h i M;simp_all|cons k L Y=>
  intro m T z y h;obtain⟨q,r,l,v⟩:=h;by_cases C:k=i
  .subst C;exact .inl ⟨by rw[px];exact q,r,vX l (λx=>by omega),ak5 L _ (by unfold dj;simp_all) v⟩
  .by_cases p:k=n
   .subst p;obtain⟨c,d,E,s,t,u⟩:=aoC S X A L m T z l v;exact .inr ⟨[],c,d,m,by simp_all,z,l,y,s,t,u⟩
   .rcases Y (dj m k) (by unfold dj;grind) (by unfold dj;grind) (y.one l) v with x|⟨g,c,d,f,E,D,s,t,u,H,N⟩
    .exact .inl ⟨by rw[px];exact q,r,vX l (λx=>absurd x p),x⟩
    .exact .inr ⟨k::g,c,d,f,by simp_all,D,s,t,u,H,by rw[px];exact q,r,vX l (λx=>absurd x p),N⟩
def Heap.pm(h:Heap)(c:Nat)(xs:List U):Heap:={h with boxes:=h.boxes.set c xs}
def R_{h:Heap}{a c}{xs}(d:a≠c):(h.pm c xs).boxes[a]?=h.boxes[a]?:=by
 unfold Heap.pm
 grind
variable {e e':Env} {h h':Heap} {b:Array Nat}
def WI(C:bW P G R ops (bZ ops.size) e h=J (.normal,e',h'))(z:Fits P G R ops e h b):∀(A B:List Nat) (l:Nat->Bool) (c:Env) (d:Heap),Inv P G R ops e h b l c d->mN ops l (A++B)->
 ∃S2 e2 g,bW P G R ops A c d=J (.normal,e2,g)/\Inv P G R ops e h b S2 e2 g/\mN ops S2 B:=by
 intro A
 induction A with
 |nil=>intro B l c d n f;exact⟨l,c,d,O,n,f⟩|cons k A y=>
  intro B l c d n f;obtain⟨t,x,u,f⟩:=f;obtain⟨D,e2,g,v,p⟩:=next C z n t x u
  obtain⟨S2,r,s,m,q,L3⟩:=y B _ _ _ p f;exact⟨S2,r,s,nE.2 ⟨D,e2,g,v,m⟩,q,L3⟩
def VZ(T:bW P G R ops (bZ ops.size) e h=J (.normal,e',h'))(C:Fits P G R ops e h b){t:Nat->Bool}{u:Env}{E:Heap}(D:Inv P G R ops e h b t u E){k:Nat}(c:k<ops.size)
 (X:t k=ah) (H:mU ops t k):∀o,ops[k]?=J o->Alike ops (cI P G R ops e h k).1 u o:=by
 have g:ops[k]?=J ops[k]:=jO c;have ahead:∀i,i<ops.size->Ord b i k->t i=V:=by
  intro i v x;obtain⟨s,r,q,n⟩:=C.bits k i _ g v x;have y:=H _ g s r q;have m:=C.AJ k _ g s r q;rcases n with rfl|n
  .exact y
  .exact D.closed i s.on v (oi m c) y n
 intro o f S z;rw[g]at f;injection f with f;subst f;rw[D.gf S,PY T S k (mR c),JC (k:=k) ops.size (mR c)]
 .refine val_congr k λw d l=>?_;have p:ops[w]?=J ops[w]:=jO (oi d c);rw[yo p]at l;exact(ahead w (oi d c) (C.looks d c p g (.inl ⟨l,z⟩))).symm
 .intro w N d l;rcases dp k w with m|L
  .cases n:t w with|false=>rfl|true=>have p:ops[w]?=J ops[w]:=jO d;rw[yo p]at l;have:=D.closed k w c d n (C.looks m d g p (.inr ⟨l,z⟩));simp_all
  grind
def Cm{k:Nat}{x:U}{q:Env}{l:Heap}(m:vB ops k=V)(st:gQ P G R ops k e h=J (x,q,l)):
 x=.tuple []/\q=e/\iK ops k=ag/\∃(o:Oper) (t:aF) (a v:bR) (c off n:Nat) (cs f:List U),ops[k]?=J o/\o.op=.store t a v/\o.guard=ag/\e.eval a=.ptr (.box c) off/\(e.eval v).bF=J cs/\cC P t=J n/\h.boxes[c]?=J f/\F cs=n/\off+n<=F f/\l=h.pm c (dC f off cs):=by
 unfold vB at m;unfold gQ at st;cases s:ops[k]? with
 |none=>simp_all|some o=>
  rw[s]at m st;simp only[bm,Option.isNone_iff_eq_none]at m;obtain⟨u,y,H⟩:=m;cases g:o.op<;>rw[g]at u<;>try (cases u;done)
  rename_i t a v;have E:eE ops e o=J V:=by unfold eE;rw[y]
  simp only[E]at st;have r:dH P G R e h o=(dk P G e.eval h (.store t a v)).map λ(x,h)=>(.ret x,e,h):=by unfold dH;rw[g]
  rw[r]at st;simp only[dk]at st;cases d:bV P h t (e.eval a) (e.eval v) with
  |none=>simp_all|some L=>
   rw[d]at st;simp only[fF,dt,cL]at st;obtain⟨rfl,rfl,rfl⟩:=st;unfold bV at d;split at d
   .rename_i c off cs n l z C;split at d
    .rename_i f hold;split at d
     .rename_i p;injection d with d;exact⟨O,O,by simp[iK,s,H],o,t,a,v,c,off,n,cs,f,O,g,y,l,z,C,hold,p.1,p.2,d.symm⟩
     simp_all
    simp_all
   simp_all
def PP{k:Nat}{o:Oper}{t:aF}{a v:bR}{c off n:Nat}{cs d:List U}(s:ops[k]?=J o)(l:o.op=.store t a v)(q:o.guard=ag)(m:e.eval a=.ptr (.box c) off)(u:(e.eval v).bF=J cs)(y:cC P t=J n)(p:h.boxes[c]?=J d)(r:F cs=n)(g:off+n<=F d):
 gQ P G R ops k e h=J (.tuple [],e,h.pm c (dC d off cs)):=by
 unfold gQ;simp only[s];have x:eE ops e o=J V:=by unfold eE;rw[q]
 simp only[x];have f:dH P G R e h o=(dk P G e.eval h (.store t a v)).map λ(z,h)=>(.ret z,e,h):=by unfold dH;rw[l]
 rw[f];simp only[dk];have:bV P h t (e.eval a) (e.eval v)=J (h.pm c (dC d off cs)):=by unfold bV;simp only[m,u,y,p];rw[av ⟨r,g⟩];rfl
 simp_all
def WV{n:Nat}(X:vB ops n=V):∀(m:List Nat) {e e':Env} {h h':Heap},(∀k∈m,k<ops.size/\nR ops k=.pure/\nP ops k n=V)->∀rest,bW P G R ops (m++n::rest) e h=J (.normal,e',h')->bW P G R ops (n::(m++rest)) e h=J (.normal,e',h'):=by
 intro m
 induction m with
 |nil=>simp_all|cons k m ih=>
  intro e e' h h' v rest c;rw[ey,nE]at c;obtain⟨z0,d,u,hs,c⟩:=c;obtain⟨S,Y,f⟩:=v k gH;have c:=ih (λz1 T=>v z1 (gx _ T)) rest c;obtain⟨rfl,rfl,q⟩:=PM Y hs;rw[nE]at c ⊢;obtain⟨x2,e2,h2,x,c⟩:=c;obtain⟨rfl,rfl,N,o,z2,a,z3,z4,off,z1,cs,fL,r,p,C,s,t,D,E,H,L,rfl⟩:=Cm X x;have g:∀A∈o.op.operands,(d.put (iK ops k) z0).eval A=d.eval A:=by
   intro A hz;cases A with
   |tmp z=>
    show(d.put (iK ops k) z0).get z=d.get z;rw[ON];split
    .rename_i Z;exfalso;unfold nP at f;have l:ops[k]?=J ops[k]:=jO S;rw[l,r]at f;simp only[bm]at f;rw[yo l]at Z;have y:z∈o.looksAt ops:=(by unfold Oper.looksAt;exact Kd _ (aa1.2 ⟨.tmp z,by simp_all,O⟩));have u:=f.1;unfold Oper.apart at u;simp_all
    .rfl
   |_=>rfl
  rw[g a (by rw[p];simp[Op.operands])]at s;rw[g z3 (by rw[p];simp[Op.operands])]at t;refine⟨_,d,_,PP r p C s t D E H L,?_⟩;rw[N]at c ⊢;show bW P G R ops (k::(m++rest)) d _=_;rw[nE];exact⟨z0,d,_,q d _ (λo ho z2 ht=>rfl),c⟩
def ath{n:Nat}(hi:vB ops i=V)(hn:vB ops n=V){e e':Env}{h h':Heap}{bi bn:Nat}(l:oR ops i e=J bi)(m:oR ops n e=J bn)(q:bi≠bn)(rest:List Nat)(c:bW P G R ops (i::n::rest) e h=J (.normal,e',h')):bW P G R ops (n::i::rest) e h=J (.normal,e',h'):=by
 rw[nE]at c;obtain⟨z5,S,hh1,hs,c⟩:=c;obtain⟨rfl,rfl,z,o,z3,a,z4,z0,r,z2,cs,g,u,v,T,x,X,Y,Z,g8,g9,rfl⟩:=Cm hi hs;rw[z]at c;replace c:bW P G R ops (n::rest) S (h.pm z0 (dC g r cs))=J (.normal,e',h'):=c;rw[nE]at c;obtain⟨x2,t,ue,A,c⟩:=c;obtain⟨rfl,rfl,s,o2,t2,a2,v2,N,f,m2,p,d,C,D,k3,E,k5,k6,k7,k8,k9,rfl⟩:=Cm hn A;have q1:bi=z0:=by unfold oR at l;rw[u]at l;simp only[v,x]at l;injection l with l;exact l.symm
 have q2:bn=N:=by unfold oR at m;rw[C]at m;simp only[D,E]at m;injection m with m;exact m.symm
 subst q1;subst q2;have H:h.boxes[bn]?=J d:=by rw[<-k7];exact(R_ (λz1=>q z1.symm)).symm
 have y:(h.pm bn (dC d f p)).boxes[bi]?=J g:=by rw[R_ q];exact Z
 rw[nE];refine⟨_,t,_,PP C D k3 E k5 k6 H k8 k9,?_⟩;rw[s];show bW P G R ops (i::rest) t _=_;rw[nE];refine⟨_,t,_,PP u v T x X Y y g8 g9,?_⟩;rw[z];rw[s]at c;have L:(h.pm bn (dC d f p)).pm bi (dC g r cs)=(h.pm bi (dC g r cs)).pm bn (dC d f p):=by unfold Heap.pm;simp only[List.set_comm _ _ q]
 simp_all
def af3(H:BM ops i=V)(n:pP P G R ops e h i=V)(g:kU P G R (fN ops i (ops.size-1)) e h=V)(he:bW P G R ops (bZ ops.size) e h=J (.normal,e',h'))(tp:Nat):
 ∃e2,bW P G R ops (Region.linearise .any ops tp) e h=J (.normal,e2,h')/\jh e2 e':=by
 unfold BM at H;simp only[bm,decide_eq_true_eq,eJ,ie,og]at H;obtain⟨k0,k1,t,Y,k4⟩:=H;obtain⟨c,MO⟩:∃c,ops.size-1=c:=⟨_,O⟩;have hn:c+1=ops.size:=by omega
 simp only[MO]at g Y k4;have f:bW P G R (fN ops i c) (bZ (fN ops i c).size) e h=J (.normal,e',h'):=by rw[px,zI];exact he
 have C:=ac3 (TD g);have m:=WG C tp;rcases amC (i:=i) C hn M _ (λ_=>ah) O O (λk o E hS=>by cases hS) m with zc|⟨pre,M1,l,S',q1,q7,q2,q3,q4,q5,q6⟩
 .obtain⟨e2,yO,p⟩:=N3 f (tM g) _ _ _ _ (HR f) zc;rw[zI]at yO;simp_all
 .have A:∀k,k<ops.size/\k≠i/\k≠c/\S' k=ah->k<ops.size/\nR ops k=.pure/\nP ops k c=V:=by
   rintro k ⟨p1,p2,p3,p4⟩;rcases k4 k M with w|w|w
   .simp_all
   .have:=adm k0 q3 c M q2 w p1;simp_all
   .refine⟨p1,?_,w.2⟩;have w1:=w.1;unfold X9 at w1;cases E:ops[k]? with|none=>simp_all|some o=>rw[E]at w1;simpa [nR,E] using w1
  rw[<-iO]at q6;obtain⟨S2,em,d,ev1,I1,L1⟩:=WI f (tM g) (pre++M1) (i::(l++[c])) _ _ _ (HR f) q6;obtain⟨l1,l2,l3,l4⟩:=L1;have al1:=VZ f (tM g) I1 l1 l2 l3;obtain⟨z0,e2,h2,hs,v⟩:=next f (tM g) I1 l1 l2 l3
  have Hz:gQ P G R ops i em d=J (z0,e2,h2):=by have:=zI (P:=P) (G:=G) (R:=R) (ops:=ops) (i:=i) (j:=c) [i] em d;have h3:bW P G R (fN ops i c) [i] em d=J (.normal,e2.put (iK (fN ops i c) i) z0,h2):=nE.2 ⟨z0,e2,h2,hs,O⟩;rw[this]at h3;obtain⟨x',e3,h4,HA,L⟩:=nE.1 h3;obtain⟨rfl,rfl,qj,o3,t3,a3,v3,c3,off3,m3,cs3,old3,z1,z2,z3,z4,z5,z6,z7,z8,z9,rfl⟩:=Cm t HA;rw[qj]at L;simp only[bW,dt,cL,true_and]at L;obtain⟨r1,r2⟩:=L;have hx:z0=.tuple []/\e2=e3:=(by have hgE:(fN ops i c)[i]?=J o3:=(by rw[AK,z1,fF,aL M]);have hSt:vB (fN ops i c) i=V:=(by unfold vB at t ⊢;rw[hgE];rw[z1]at t;exact t);obtain⟨y1,y2,-⟩:=Cm hSt hs;exact⟨y1,y2⟩);rw[hx.1,hx.2,<-r2];exact HA
  obtain⟨rfl,rfl,hd,o,zd,a,ze,zb,off,u,cs,fL,g1,g2,g3,g4,g5,g6,g7,g8,g9,rfl⟩:=Cm t Hz;have hdE:iK (fN ops i c) i=ag:=by unfold iK at hd ⊢;rw[Tj];exact hd
  rw[hdE]at v;replace v:Inv P G R (fN ops i c) e h (Region.before (fN ops i c)) (dj S2 i) e2 (d.pm zb (dC fL off cs)):=v;obtain⟨Sn,en,hhn,ev2,I3,L3⟩:=WI f (tM g) l [c] _ _ _ v l4;obtain⟨T,D,p⟩:=N3 f (tM g) _ _ _ _ I3 L3;have aiM:S2 c=ah/\mU ops S2 c:=by
   refine⟨?_,?_⟩
   .have:∀(x:List Nat) (Z:Nat->Bool),mN (fN ops i c) Z x->∀u∈x,Z u=ah:=by
     intro x
     induction x with
     |nil=>simp_all|cons a x S=>
      intro Z m u d;obtain⟨u1,u2,u3,u4⟩:=m;rcases gU.1 d with rfl|d
      .exact u2
      .have p2:=S _ u4 u d;unfold dj at p2;simp_all
    have:=this _ _ l4 c b8;unfold dj at this;simp_all
   .intro o' Vd s yN X;have hS:S' s.on=V:=q2 o' Vd s yN X;have di:s.on<c:=C c o' Vd s yN X;cases hq:S2 s.on with
    |true=>rfl|false=>
     exfalso;have mem:∀(x:List Nat) (Z:Nat->Bool),mN (fN ops i c) Z x->∀u,u<ops.size->Z u=ah->u∈x:=by
      intro x
      induction x with
      |nil=>intro Z m u d hSm;have:=m u (by rw[px];exact d);simp_all
      |cons a x S=>
       intro Z m u d hSm;obtain⟨u1,u2,u3,u4⟩:=m;by_cases hma:u=a
       .simp_all
       .exact gx _ (S _ u4 u d (by unfold dj;simp_all))
     have nX:=mem (i::(l++[c])) S2 ⟨l1,l2,l3,l4⟩ s.on M hq
     grind
  have hrn:mU (fN ops i c) (dj S2 i) c:=vX (ready_mono aiM.2 λj hj=>by unfold dj;simp_all) λ_=>by unfold dj;simp_all
  have al2:=VZ f (tM g) v (k:=c) (by rw[px];omega) (by unfold dj;grind) hrn;have stE:∀k,cI P G R (fN ops i c) e h k=cI P G R ops e h k:=λk=>by unfold cI;rw[zI]
  have put_congr:∀(k:Nat) (q r:Env),(∀o,(fN ops i c)[k]?=J o->Alike (fN ops i c) q r o)->oR ops k q=oR ops k r:=by
   intro k q r tX;unfold oR;cases E:ops[k]? with
   |none=>rfl|some o'=>
    have hg:(fN ops i c)[k]?=J (if k=c then {o' with after:=o'.after.push {on:=i,ground:=.data}} else o'):=(by rw[AK,E];rfl);have hz:=CV (tX _ hg);have N:∀za∈o'.op.operands,q.eval za=r.eval za:=by
     intro za hzm;refine hz za ?_
     grind
    show(match o'.op with| .store _ a _=>(match q.eval a with| .ptr (.box b) _=>J b|_=>ag)|_=>ag)=(match o'.op with| .store _ a _=>(match r.eval a with| .ptr (.box b) _=>J b|_=>ag)|_=>ag)
    revert N
    generalize o'.op=op;intro N;cases op with|store t' a' v'=>have:q.eval a'=r.eval a':=N a' (by simp[Op.operands]);simp_all|_=>rfl
  have X:∃y z,oR ops i e2=J y/\oR ops c e2=J z/\y≠z:=by
   unfold pP at n;rw[MO]at n;split at n
   .rename_i ei _ en _ r1 r2;have s1:(cI P G R ops e h i).1=ei:=(by unfold cI;rw[r1]);have s2:(cI P G R ops e h c).1=en:=(by unfold cI;rw[r2]);split at n
    .rename_i y z u1 u2;refine⟨y,z,?_,?_,?_⟩
     .grind
     .grind
     .rintro rfl;simp_all
    simp_all
   .grind
  obtain⟨y,z,b1,b2,b3⟩:=X;have t1:bW P G R ops (l++c::[]) e2 (d.pm zb (dC fL off cs))=J (.normal,T,h'):=by rw[BH];rw[zI]at ev2 D;exact⟨_,_,ev2,D⟩
  have t2:=WV Y l (λk hk=>A k (q5 k hk)) [] t1;rw[gj]at t2;have t3:bW P G R ops (i::c::l) e2 d=J (.normal,T,h'):=by rw[nE];refine⟨_,_,_,Hz,?_⟩;rw[hd];exact t2
  have t4:=ath t Y b1 b2 b3 l t3;rw[zI,BH]at ev1;obtain⟨e0,h0,v1,v2⟩:=ev1;have t5:bW P G R ops (M1++c::(i::l)) e0 h0=J (.normal,T,h'):=BH.2 ⟨_,_,v2,t4⟩;have t6:=WV Y M1 (λk hk=>A k (q4 k hk)) _ t5;refine⟨T,?_,p⟩;rw[q1];exact BH.2 ⟨_,_,v1,t6⟩
def stores_cases{e:Env}{h:Heap}(c:xF P G R ops e h=V):∃i,i<ops.size/\BM ops i=V/\pP P G R ops e h i=V/\kU P G R (fN ops i (ops.size-1)) e h=V:=by unfold xF at c;simp_all
def stores_of{e:Env}{h:Heap}{i:Nat}(c:i<ops.size)(d:BM ops i=V)(f:pP P G R ops e h i=V)(g:kU P G R (fN ops i (ops.size-1)) e h=V):xF P G R ops e h=V:=by
 unfold xF
 grind
end
end Go.AE
end
section
namespace Go.AE
open Go.RowKit (Below)
section
variable {P:bk} {G:Nat->Option (List U)} {w0:bP} {R:Rec}
def asL{b:eF}{a:Act}{k:List Item}{cs:List eF}{w:bP}{c:Code}:step P (lone (b.atR a (.code (.scope c)::k)) cs w)=.next (lone (b.atR a (.code c::.inScope c::k)) cs w):=by rfl
def asK{b:eF}{a:Act}{k:List Item}{cs:List eF}{w:bP}{c:Code}:step P (lone (b.atR a (.inScope c::k)) cs w)=.next (lone (b.atR a k) cs w):=by rfl
def mK.amQ{K:aW}{m:Machine}{B:eF}{c:Code}{k:List Item}{cs:List eF}{x:Xt}{a:Act}{w:bP}(g:x≠ .normal)
 (h:mK P K m B (.inScope c::k) cs x a w):mK P K m B k cs x a w:=by
 cases x with
 |normal=>simp_all|exit id=>obtain⟨l,d,f⟩:=h;exact⟨l,d.trans O,f⟩
 |ret=>exact h|panic x=>exact h
def afe(hn:Ak P)(aiJ:P.follows .mixedOrders=V)(H:tt P G w0 R):Q6 P G w0 (eY P G R):=by
 intro z2 e h out e' h' c K w a B k m cs u n t x p;cases z2 with
 |skip=>simp only[eY,dt,cL]at c;obtain⟨rfl,rfl,rfl⟩:=c;exact⟨K,w,a,cs,u,.refl n t x (.one stepR_skip)⟩
 |label z9=>simp only[eY,dt,cL]at c;obtain⟨rfl,rfl,rfl⟩:=c;exact⟨K,w,a,cs,u,.refl n t x (.one stepR_label)⟩
 |region id ops draw=>
  simp only[codeOk]at p;cases draw with
  |false=>simp only[eY,jB,if_false]at c;obtain⟨K',w',a',E,z1⟩:=Xv hn H _ _ _ _ _ _ c K w a B k m cs u n t x p;exact⟨K',w',a',E,u,.of_steps (.one stepR_region) z1⟩
  |true=>
   simp only[eY,if_true,Option.filter_eq_some_iff]at c;obtain⟨yO,z5⟩:=c;have VC:=stepR_region_draw (P:=P) (b:=B) (a:=a) (k:=k) (cs:=cs) (w:=w) (ops:=ops) (id:=id);have ai0:Region.schedule (P.follows .mixedOrders) ops (w.tape w.drawn (.order B.fn id))=Region.linearise .any ops (w.tape w.drawn (.order B.fn id)):=(by simp only[Region.schedule,aiJ,Bool.true_or,if_true]);rw[ai0]at VC;obtain⟨e2,aiv,VA⟩:∃e2,bW P G R ops (Region.linearise .any ops (w.tape w.drawn (.order B.fn id))) e h=J (out,e2,h')/\jh e2 e':=by
    cases out with
    |normal=>
     rcases (og _ _).mp z5 with UU|gZ
     .exact af2 yO UU _
     .obtain⟨i,-,DR,vn,hi3⟩:=stores_cases gZ;exact af3 DR vn hi3 yO _
    |panic z=>simp only[drawC,bm]at z5;exact af4 z5.1 z5.2.1 z5.2.2 yO _|_=>cases z5
   obtain⟨K',w',a',E,z1⟩:=Xv hn H _ _ _ _ _ _ aiv K {w with drawn:=w.drawn+1} a B k m cs u n t (x.drew _) p;exact⟨K',w',a',E,u,z1.le,z1.oV,z1.frame.same VA,VA.cD ▸ z1.cs,z1.size,z1.marks,z1.arr.of_steps (.one VC)⟩
 |seq z z0=>
  simp only[codeOk,bm]at p;simp only[eY]at c;cases L:R.code z e h with
  |none=>simp_all|some z3=>
   obtain⟨o1,e1,h1⟩:=z3;rw[L]at c;obtain⟨l,g,q,f,d,L1⟩:=H.code z e h _ _ _ L K w a B (.code z0::k) m cs u n t x p.1;have start:=Steps.one (stepR_seq (P:=P) (b:=B) (a:=a) (k:=k) (cs:=cs) (w:=w) (x:=z) (y:=z0));by_cases r:o1=.normal
   .subst r;simp only at c;obtain⟨T,w2,a2,cs2,ms2,L2⟩:=H.code z0 e1 h1 _ _ _ c l g q B k m f d L1.frame L1.cs L1.oV (by rw[L1.size];grind);refine⟨T,w2,a2,cs2,ms2,L1.le.trans L2.le,L2.oV,L2.frame,L2.cs,L2.size.trans L1.size,λS hr=>?_,(L2.arr.of_steps L1.arr).of_steps start⟩;rcases L2.marks S hr with A|A
    .exact L1.marks S A
    .exact .inr λhm=>A (L1.le.md S hm)
   .have c:J (o1,e1,h1)=J (out,e',h'):=(by simp_all);simp only[dt,cL]at c;obtain⟨rfl,rfl,rfl⟩:=c;exact⟨l,g,q,f,d,L1.le,L1.oV,L1.frame,L1.cs,L1.size,L1.marks,(L1.arr.pass O r).of_steps start⟩
 |cond z3 z z0=>
  simp only[codeOk,bm]at p;simp only[eY]at c;have hv:=wV n.gf z3;split at c
  .rename_i A;rw[A]at hv;obtain⟨l,g,q,f,d,L1⟩:=H.code z e h _ _ _ c K w a B k m cs u n t x p.1;exact⟨l,g,q,f,d,L1.of_steps (.one (by have:=stepR_cond (P:=P) (b:=B) (k:=k) (cs:=cs) (w:=w) (x:=z) (y:=z0) hv.gP.1;simp_all))⟩
  .rename_i A;rw[A]at hv;obtain⟨l,g,q,f,d,L1⟩:=H.code z0 e h _ _ _ c K w a B k m cs u n t x p.2;exact⟨l,g,q,f,d,L1.of_steps (.one (by have:=stepR_cond (P:=P) (b:=B) (k:=k) (cs:=cs) (w:=w) (x:=z) (y:=z0) hv.gP.1;simp_all))⟩
  grind
 |block id z=>
  simp only[codeOk]at p;simp only[eY]at c;cases L:R.code z e h with
  |none=>simp_all|some z3=>
   obtain⟨o1,e1,h1⟩:=z3;rw[L]at c;obtain⟨l,g,q,f,d,L1⟩:=H.code z e h _ _ _ L K w a B (.inBlock id::k) m cs u n t x p;have start:=Steps.one (stepR_block (P:=P) (b:=B) (a:=a) (k:=k) (cs:=cs) (w:=w) (id:=id) (c:=z));have Z:∀{o:Xt},mK P l (lone (B.atR a (.code z::.inBlock id::k)) cs w) B k f o q g->Left P G w0 K u B m (lone (B.atR a (.code (.block id z)::k)) cs w) k a.tmps.size o e1 h1 l g q f d:=λha=>
    ⟨L1.le,L1.oV,L1.frame,L1.cs,L1.size,L1.marks,ha.of_steps start⟩
   cases o1 with
   |normal=>simp only[dt,cL]at c;obtain⟨rfl,rfl,rfl⟩:=c;exact⟨l,g,q,f,d,Z (L1.arr.trans (.one stepR_inBlock))⟩
   |exit id'=>
    simp only at c;obtain⟨z6,h2,h3⟩:=L1.arr;split at c
    .rename_i ME;subst ME;simp only[dt,cL]at c;obtain⟨rfl,rfl,rfl⟩:=c;refine⟨l,g,q,f,d,Z (h3.trans (.one (stepR_exit (h2.trans ?_))))⟩;simp[exitTo]
    .rename_i ME;simp only[dt,cL]at c;obtain⟨rfl,rfl,rfl⟩:=c;refine⟨l,g,q,f,d,Z ⟨z6,h2.trans ?_,h3⟩⟩;simp[exitTo,Ne.symm ME]
   |ret=>simp only[dt,cL]at c;obtain⟨rfl,rfl,rfl⟩:=c;obtain⟨z6,h3⟩:=L1.arr;exact⟨l,g,q,f,d,Z ⟨z6,h3⟩⟩
   |panic z=>simp only[dt,cL]at c;obtain⟨rfl,rfl,rfl⟩:=c;obtain⟨z6,z4,h2,h3⟩:=L1.arr;exact⟨l,g,q,f,d,Z ⟨z6,z4,h2,h3⟩⟩
 |loop z=>
  have aiP:codeOk a.tmps.size z=V:=by simpa only[codeOk] using p
  simp only[eY]at c;cases L:R.code z e h with
  |none=>simp_all|some z3=>
   obtain⟨o1,e1,h1⟩:=z3;rw[L]at c;obtain⟨l,g,q,f,d,L1⟩:=H.code z e h _ _ _ L K w a B (.inLoop z::k) m cs u n t x aiP;have start:=Steps.one (stepR_loop (P:=P) (b:=B) (a:=a) (k:=k) (cs:=cs) (w:=w) (c:=z));by_cases r:o1=.normal
   .subst r;simp only at c;obtain⟨T,w2,a2,cs2,ms2,L2⟩:=H.code (.loop z) e1 h1 _ _ _ c l g q B k m f d L1.frame L1.cs L1.oV (by rw[L1.size];omega);have Mg:=mK.swap (c:=.loop z) (m':=lone (B.atR q (.inLoop z::k)) f g) (λ_=>by simp) b8 O stepR_loop stepR_inLoop L2.arr;refine⟨T,w2,a2,cs2,ms2,L1.le.trans L2.le,L2.oV,L2.frame,L2.cs,L2.size.trans L1.size,λS hr=>?_,(Mg.of_steps L1.arr).of_steps start⟩;rcases L2.marks S hr with A|A
    .exact L1.marks S A
    .exact .inr λhm=>A (L1.le.md S hm)
   .have c:J (o1,e1,h1)=J (out,e',h'):=(by simp_all);simp only[dt,cL]at c;obtain⟨rfl,rfl,rfl⟩:=c;exact⟨l,g,q,f,d,L1.le,L1.oV,L1.frame,L1.cs,L1.size,L1.marks,(L1.arr.pass O r).of_steps start⟩
 |scope z=>
  simp only[codeOk]at p;simp only[eY]at c;obtain⟨l,g,q,f,d,L1⟩:=H.code z e h _ _ _ c K w a B (.inScope z::k) m cs u n t x p;have start:=Steps.one (asL (P:=P) (b:=B) (a:=a) (k:=k) (cs:=cs) (w:=w) (c:=z));by_cases r:out=.normal
  .subst r;exact⟨l,g,q,f,d,L1.le,L1.oV,L1.frame,L1.cs,L1.size,L1.marks,(show mK P l _ B k f .normal q g from L1.arr.trans (.one asK)).of_steps start⟩
  .exact⟨l,g,q,f,d,L1.le,L1.oV,L1.frame,L1.cs,L1.size,L1.marks,(L1.arr.amQ r).of_steps start⟩
 |exit id=>simp only[eY,dt,cL]at c;obtain⟨rfl,rfl,rfl⟩:=c;exact⟨K,w,a,cs,u,.refl n t x ⟨k,O,.refl P _⟩⟩
 |ret=>simp only[eY,dt,cL]at c;obtain⟨rfl,rfl,rfl⟩:=c;exact⟨K,w,a,cs,u,.refl n t x ⟨k,.refl P _⟩⟩
 |rangeFunc z7 ps assign body=>
  simp only[codeOk,bm]at p;obtain⟨⟨Ba,Vf⟩,Vg⟩:=p;have Ba:=alv Ba;simp only[eY]at c;split at c
  .rename_i z8 first aS yO
   have Nt:=wV n.gf z7;rw[yO]at Nt;have enter:∃(D:Nat) (mark:List Deferred) (l:aW) (g:bP) (d:List Nat),(Instr.enterLoop B.fn a.tmps ps assign body B.roundOf).run P w=.ok (D,mark) g/\K.Le l/\
    ji P G w0 l {h with loops:=h.loops++[{tmps:=e.tmps,params:=ps,assign,body,state:=.ready,pending:=ag}]} g/\l.γ[h.loops.length]?=J D/\
    mq P l e {a with defers:=mark++a.defers} B d/\∀S∈d,S∈u∨S∉K.md:=by
    have Y:∀z2,codeOk a.tmps.size z2=V->BD P B.fn a.tmps.size z2=V:=λz2 hc=>(by unfold BD;rw[hc,n.fn];rfl);have v:=n.round;cases nx:e.round with
    |none=>
     rw[nx]at v;simp only at v;have DX:w.heap.size∉K.md:=λA=>absurd (oy (x.md _ A).2) (Nat.lt_irrefl _);have s1:=x.alK;have y:=K.Wy w.heap.size;obtain⟨s2,hγ⟩:=s1.Xb (r:={tmps:=e.tmps,params:=ps,assign,body,state:=.ready,pending:=ag}) (fn:=B.fn) w.heap.size (n.gf.mono y) (Y _ Vf) (Y _ Vg) Ba;have s:=(K.mark w.heap.size).NS (w.alloc (.deferred (J []))).heap.size;refine⟨_,_,_,_,w.heap.size::u,by rw[v];exact run_enterLoop_outer _ _ _ _ _,y.trans s,s2,?_,?_,?_⟩
     .simp_all
     .have A1:=n.mono (y.trans s);refine⟨A1.gf,?_,?_,n.fn⟩
      .refine .mark _ _ _ _ (by simp[aW.loop,aW.mark]) (λA=>DX (n.defers.sub _ A)) A1.defers
      simp_all
     simp_all
    |some z9=>
     rw[nx]at v;obtain⟨D,N,hb,aiB,hd,hm,yN⟩:=v;have gJ:z9<F h.loops:=(by rw[<-x.mn];exact(aT.1 N).1);obtain⟨k1,fn,tmps,za,k2,-⟩:=x.loop z9 D _ N (aP gJ);obtain⟨s2,hγ⟩:=x.Xb (r:={tmps:=e.tmps,params:=ps,assign,body,state:=.ready,pending:=ag}) (fn:=B.fn) za n.gf (Y _ Vf) (Y _ Vg) Ba;have s:=K.NS w.heap.size;refine⟨_,[],_,_,u,?_,s,s2,hγ,?_,λS hr=>.inl hr⟩
     .rw[hb];unfold Instr.enterLoop;simp only[Sem.run_bind,run_getLoop k2,run_newObj_alloc,Result.andThen,Sem.run_pure]
     .have A1:=n.mono s;exact⟨A1.gf,A1.defers,by rw[nx];exact⟨D,s.γ _ _ N,hb,aiB,hd,hm,yN⟩,n.fn⟩
   obtain⟨D,mark,l,g,d,G',y,s1,hγ,f1,X⟩:=enter;generalize hqv:a.eval z7=qv at Nt;cases Nt with
   |func _ _ _ fs E g1 g2=>
    cases G7:R.call z8 (first++[.yield (F h.loops)]++aS) {h with loops:=h.loops++[{tmps:=e.tmps,params:=ps,assign,body,state:=.ready,pending:=ag}]} with
    |none=>simp_all|some z3=>
     obtain⟨S,h2⟩:=z3;rw[G7]at c;obtain⟨⟨fnn,DQ,AZ⟩,hc⟩:=H.call _ _ _ _ _ G7;have gC:aI l (first++[.yield (F h.loops)]++aS) (fs++#[Value.func (.yield D) #[] #[]]++E).toList:=(by simp only[wp];exact((g1.mono y).append (.cons _ _ _ _ (.yield _ _ hγ) .nil)).append (g2.mono y));obtain⟨T,w2,fr,s,s2,gZ,-,N⟩:=hc l g _ gC s1 (B.atR {a with defers:=mark++a.defers} (.inRangeFunc D::k)::cs);have Nl:=stepR_rangeFunc (P:=P) (b:=B) (a:=a) (k:=k) (cs:=cs) (w:=w) (g:=z7) (ps:=ps) (assign:=assign) (body:=body) (l:=D) (mark:=mark) (w₁:=g) (w₁':=g) (w₂:=g) (d:={target:=.fn (.func z8) E,args:=fs++#[Value.func (.yield D) #[] #[]]}) (f:=z8) (args:=fs++#[Value.func (.yield D) #[] #[]]++E) G'
      (by have aio:∀z4,a.eval (.const z4)=z4:=λ_=>rfl;simp[resolve,rangeCall,hqv,Deferred.ofValue,aio]) (by simp only[invoke];exact Pp hn DQ AZ _ _)
     have start:=Steps.head Nl gZ;have f2:=f1.mono s;have c2:CS T B.kind m e.cD cs:=t.mono (y.trans s);cases S with
     |panic z=>simp only[dt,cL]at c;obtain⟨rfl,rfl,rfl⟩:=c;obtain⟨z4,L,N⟩:=N;refine⟨T,w2,_,cs,d,y.trans s,s2,f2,c2,O,X,.inRangeFunc D::k,z4,L,start.trans (.one ?_)⟩;rw[step_leave_panicked N,Frame.raise_atR]
     |ret z=>
      obtain⟨z4,L,N⟩:=N;have back:=start.trans (.one (step_leave_returned N));rw[finish_atR_inRangeFunc]at back;simp only at c;split at c
      .rename_i S hr;split at c
       .cases c
       .rename_i avg;obtain⟨mm,m1,m2,m3,-,-,-,-,-,-,-,s3⟩:=s2.fb (s.γ _ _ hγ) hr .exhausted S.pending;have rQ:=run_endLoop (P:=P) m1 (by simp_all);have Ha:({mm with state:=.exhausted,pending:=S.pending}:Loop)={mm with state:=.exhausted}:=(by grind);rw[Ha]at s3;have ait:(Instr.endLoop D).run P w2=.ok S.pending (w2.putObj D (.loop {mm with state:=.exhausted})):=(by rw[<-m3];exact rQ);have C:=back.trans (.one (stepR_endRangeFunc ait));cases hp:S.pending with
        |none=>rw[hp]at c C s3;simp only[dt,cL]at c;obtain⟨rfl,rfl,rfl⟩:=c;exact⟨T,_,_,cs,d,y.trans s,s3,f2,c2,O,X,C⟩
        |some code=>
         rw[hp]at c C s3;cases code with
         |ret=>simp only[dt,cL]at c;obtain⟨rfl,rfl,rfl⟩:=c;exact⟨T,_,_,cs,d,y.trans s,s3,f2,c2,O,X,k,C⟩
         |exit id=>simp only[dt,cL]at c;obtain⟨rfl,rfl,rfl⟩:=c;exact⟨T,_,_,cs,d,y.trans s,s3,f2,c2,O,X,k,O,C⟩
         |_=>cases c
      grind
  grind
 |_=>simp[eY]at c
end
end Go.AE
end
