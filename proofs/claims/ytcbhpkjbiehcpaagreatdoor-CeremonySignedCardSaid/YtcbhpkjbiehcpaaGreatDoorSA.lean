/-
  The engine, part 1: an evaluator of the model's Code over values in which a slice is a list. No claim is made here; part 2 and on show that what it gives the machine does.
-/
import Derived.AtR
import Derived.Recover
import Derived.Below
import Derived.Orders
import Derived.Laws.AppendOwn
import Derived.Laws.Cells
import Derived.Laws.Entries
import Derived.Laws.MakeOwn
import Derived.Laws.Strings
import Derived.Laws.Append
import Derived.Lib.AppendZeros
import Derived.Defers
import Derived.RangeFuncRecord
open Bool renaming true->aa,false->au,false_eq_true->jw,and_eq_true->bQ,not_eq_true'->DO,not_false->A3,or_eq_true->oX,not_true->ab0,false_or->Ld
open Go renaming Value->aQ,TypeId->aO,Program->bL,FuncId->a_,Operand->ck,World->b_,Frame->fj
open Option renaming some->J,none->aq,map_eq_some_iff->dK,bind_eq_some_iff->xr,isSome_iff_exists->adc,map->Bj,isNone_some->Hn,map_some->gc,some.injEq->d_,getD_some->vR
open Nat renaming beq->jn,min->ox,le_refl->bh,le_trans->fB,lt_of_lt_of_le->mQ,add_mul->jm,add_zero->yR,mul_le_mul_right->mR,zero_add->nT,mul_eq_zero->ac0,zero_mul->L_,not_lt_zero->qT,reducePow->ac8,zero_le->cC,sub_mul->LZ,mul_pos->LW,pos_of_ne_zero->ac4,lt_or_ge->eg,one_ne_zero->Sp,mul_one->mr,eq_of_beq_eq_true->ou,lt_succ_iff->Bh,lt_trans->o7,le_of_lt->np,lt_of_le_of_ne->acX,le_zero->acW,mod_lt->lT,strongRecOn->LY
open List renaming length->F,replicate->bR,range->bT,getElem?_eq_some_iff->bk,getElem?_eq_getElem->aY,getElem?_take->o0,getElem?_set->mq,take_of_length_le->fK,getElem?_append_left->rC,flatten_cons->kJ,drop_append->yJ,drop_of_length_le->oo,length_take->dJ,length_cons->eZ,set_eq_take_append_cons_drop->yQ,take_append->LM,all_eq_true->ff,ext_getElem?->oq,mem_of_getElem?->dy,map_cons->dR,cons.injEq->R9,map_map->xn,getElem?_toArray->je,flatten_append->ux,map_append->jN,flatten_nil->act,append_nil->iB,mem_of_mem_take->Bf,take_nil->acQ,drop_nil->acp,mem_map->iX,length_map->bJ,cons_append->eY,nil_append->eP,range_succ->lP,length_drop->fJ,mem_range->hy,getElem?_cons_zero->jy,getElem?_cons_succ->nR,size_toArray->acP,take_append_of_le_length->Sh,mem_cons_of_mem->gr,length_append->de,append_assoc->jx,getElem?_append_right->xm,toArray_inj->LO,map_congr_left->yN,mem_append_left->LL,mem_filterMap->acE,range_zero->acI,countP_eq_zero->acl,reverse_nil->acJ,mem_filter->rE,reverse_singleton->acK,singleton_append->acO,countP_le_length->acm,mem_cons_self->gt,mem_cons->hh
open Array renaming getElem?_eq_getElem->kn,getElem?_modify->DM,toList_setIfInBounds->abU,toList_map->DN,getElem?_toList->GY,all_eq_true'->GW,range->w9,getElem?_eq_some_iff->K_,replicate->yG,size_append->Lb,toList_append->A1,ext'->KW,length_toList->om,getElem?_setIfInBounds->RD,map->La,all_eq_true->AZ,getElem_of_mem->RE,getElem_mem->abQ,getD_eq_getD_getElem?->GX,getElem?_replicate->RC
open Prod renaming mk.inj->fP,mk.injEq->dz
set_option linter.unusedSimpArgs false
set_option linter.unusedVariables false
set_option linter.constructorNameAsVariable false
set_option linter.defProp false
namespace Go
def af{p:Prop}(h:p:=by omega):p:=h
def cE{p:Prop}(h:p:=by simp):p:=h
def bm{p:Prop}(h:p:=by decide):p:=h
def azE{p:Prop}(h:p:=by simp;omega):p:=h
def O.{u}{α:Sort u}{a:α}:a=a:=rfl
def azI{p:Prop}(h:p:=by first|exact trivial|exact rfl):p:=h
def bX{p:Prop}(h:p:=by kernel_rfl):p:=h
def aV.{u}{c:Prop}{h:Decidable c}(q:¬c){α:Sort u}{t e:α}:ite c t e=e:=if_neg q
def aH.{u}{c:Prop}{h:Decidable c}(q:c){α:Sort u}{t e:α}:ite c t e=t:=if_pos q
def cD{p:Prop}[Decidable p](q:p):decide p=aa:=decide_eq_true q
def cR{p:Prop}[Decidable p](q:¬p):decide p=au:=decide_eq_false q
abbrev kk1:Nat:=1
abbrev kk2:Nat:=2
abbrev kk3:Nat:=3
abbrev kk4:Nat:=4
abbrev kk5:Nat:=5
abbrev kk16:Nat:=16
abbrev kk18:Nat:=18
abbrev kk23:Nat:=23
abbrev kk24:Nat:=24
abbrev kk32:Nat:=32
abbrev kk33:Nat:=33
abbrev kk46:Nat:=46
abbrev kk48:Nat:=48
abbrev kk53:Nat:=53
abbrev kk55:Nat:=55
abbrev kk57:Nat:=57
abbrev kk59:Nat:=59
abbrev kk60:Nat:=60
abbrev kk64:Nat:=64
abbrev kk98:Nat:=98
abbrev kk100:Nat:=100
abbrev kk110:Nat:=110
abbrev kk114:Nat:=114
abbrev kk116:Nat:=116
abbrev kk118:Nat:=118
abbrev kk119:Nat:=119
abbrev kk120:Nat:=120
abbrev kk180:Nat:=180
abbrev kk182:Nat:=182
end Go
section
namespace Go.AE
inductive Tok where
 |nil|aP|free (n:Nat)|held
 deriving DecidableEq,Inhabited
inductive Ref where
 |box (b:Nat)|ec (g:Nat)
 deriving DecidableEq,Inhabited
inductive V where
 |bad
 |v (x:aQ)
 |ac (k:Tok) (sz:Nat) (es:List (List V))
 |arr (b off len ba:Nat)
 |agg (cs:List V)
 |tuple (vs:List V)
 |ptr (r:Ref) (off:Nat)
 |elem (sz:Nat) (es:List (List V)) (i off:Nat)
 |func (fn:Fn) (first ba:List V)
 |yield (l:Nat)
 |iface (t:aO) (x:V)
 deriving Inhabited
instance:Coe Nat V:=⟨λn=>.v (.int .i64 n)⟩
instance:Coe Int V:=⟨λn=>.v (.int .i64 n)⟩
instance:Coe Bool V:=⟨λn=>.v (.bool n)⟩
def dQ{α:Type}(P:bL):Sem α->Option α
 | .pure a=>J a
 | .program k=>dQ P (k P)
 | .mark _ k=>dQ P k
 |_=>aq
def scalar:aQ->Bool
 | .bool _| .int .. | .float .. | .complex .. | .string _| .nilFunc| .nilIface| .pointer aq| .map aq| .chan aq=>aa
 |_=>au
def lH(z:aQ):Option V:=if scalar z then J (.v z) else aq
def V.dt:V->Bool
 | .agg _| .tuple _| .bad=>au
 |_=>aa
def V.bP:V->Option (List V)
 | .agg cs=>if cs.all V.dt then J cs else aq
 | .tuple _| .bad=>aq
 |x=>J [x]
def tU(x:aQ):V:=
 match x with
 | .slice aq 0 0=>.ac .nil 0 []
 |x=>if scalar x then .v x else .bad
def pP:aQ->V
 | .agg cs=>.agg (cs.toList.map tU)
 | .tuple c=>if c.size=0 then .tuple [] else .bad
 | .iface d x=>.iface d (tU x)
 |x=>tU x
def uP:List V->Option (List aQ)
 | []=>J []
 | .v d::c=>(uP c).map (d::·)
 |_=>aq
def V.flat:V->Option aQ
 | .v f=>J f
 | .agg cs=>(uP cs).map λc=>.agg c.toArray
 | .iface d (.v f)=>J (.iface d f)
 | .iface d (.agg cs)=>(uP cs).map λc=>.iface d (.agg c.toArray)
 | .ac .nil _ []=>J (.slice aq 0 0)
 |_=>aq
def flatAll:List V->Option (List aQ)
 | []=>J []
 |x::d=>match x.flat,flatAll d with|some f,J c=>J (f::c)|_,_=>aq
def iz:aQ->aQ->Bool
 | .int k f,.int c d=>decide (k=c)&&decide (f=d)
 | .bool a,.bool b=>a==b
 | .string g,.string l=>g.data.toList==l.data.toList
 | .nilFunc,.nilFunc| .nilIface,.nilIface| .pointer aq,.pointer aq=>aa
 |_,_=>au
def Kt:Ref->Ref->Bool
 | .box a,.box b| .ec a,.ec b=>jn a b
 |_,_=>au
def sF:Tok->Tok->Bool
 | .nil,.nil| .aP,.aP| .held,.held=>aa
 | .free a,.free b=>jn a b
 |_,_=>au
mutual
def dh:V->V->Bool
 | .v y,.v z=>iz y z
 | .ac k p m,.ac t f c=>sF k t&&jn p f&&nf m c
 | .arr b o u A,.arr g d n r=>jn b g&&jn o d&&jn u n&&jn A r
 | .agg cs,.agg l=>gI cs l
 | .tuple cs,.tuple l=>gI cs l
 | .ptr E o,.ptr v d=>Kt E v&&jn o d
 | .elem p m i o,.elem f c s d=>jn p f&&jn i s&&jn o d&&nf m c
 | .yield u,.yield n=>jn u n
 | .iface H y,.iface x z=>jn H x&&dh y z
 | .func (.func C) a b,.func (.func D) q g=>jn C D&&gI a q&&gI b g
 |_,_=>au
def gI:List V->List V->Bool
 | [],[]=>aa
 |x::c,f::d=>dh x f&&gI c d
 |_,_=>au
def nf:List (List V)->List (List V)->Bool
 | [],[]=>aa
 |x::c,f::d=>gI x f&&nf c d
 |_,_=>au
end
structure oA where
 ch:List (Nat × V)
 base:List V
 deriving Inhabited
def look(c:List V):List (Nat × V)->Nat->V
 | [],d=>c.getD d (.tuple [])
 |p::f,d=>bif jn p.1 d then p.2 else look c f d
def oA.get(s:oA)(t:Nat):V:=look s.base s.ch t
def oA.set(s:oA)(t:Nat)(x:V):oA:={s with ch:=(t,x)::s.ch}
structure ij where
 tmps:oA
 params:Array Tmp
 assign:Code
 body:Code
 state:LoopState
 pending:Option Code
 deriving Inhabited
structure ah where
 I:List (List V)
 aI:List ij
 tn:Nat
 dead:List Nat
 deriving Inhabited
structure Env where
 tmps:oA
 defers:List (a_ × List V)
 dg:Option (V × Bool)
 round:Option Nat
 deriving Inhabited
inductive Xt where
 |normal
 |exit (id:Nat)
 |ret
 |panic (x:V)
 deriving Inhabited
inductive dV where
 |ret (x:V)
 |panic (x:V)
 deriving Inhabited
def Env.get(e:Env)(t:Nat):V:=e.tmps.get t
def Env.put(e:Env)(c:Option Tmp)(x:V):Env:=
 match c with
 |some d=>{e with tmps:=e.tmps.set d x}
 |none=>e
def aik(tmps:oA):ck->V
 | .tmp f=>tmps.get f
 | .const g=>pP g
 | .global d=>.ptr (.ec d) 0
 | .func c=>.func (.func c) [] []
def Env.eval(e:Env)(x:ck):V:=aik e.tmps x
section
variable (P:bL)
def cQ(t:aO):Option Nat:=(P.info? t).map (·.size)
def f'(t:aO):Option Bool:=
 match P.underlying t with
 |some (.struct _)|some (.array _ _)=>J aa
 |some _=>J au
 |none=>aq
def gp(t:aO):Option V:=
 match P.info? t with
 |some i=>i.zero.map pP
 |none=>aq
def F4(t:aO)(cs:List V)(off:Nat):Option V:=
 match f' P t with
 |some aa=>(cQ P t).map λc=>.agg ((cs.drop off).take c)
 |some au=>cs[off]?
 |none=>aq
end
def ah.box(h:ah)(cs:List V):V × ah:=(.ptr (.box (F h.I)) 0,{h with I:=h.I++[cs]})
def ah.fresh(h:ah)(sz:Nat)(es:List (List V)):V × ah:=(.ac (.free h.tn) sz es,{h with tn:=h.tn+1})
def Qo(G:Nat->Option (List V))(h:ah):Ref->Option (List V)
 | .box b=>h.I[b]?
 | .ec c=>G c
def zw(G:Nat->Option (List V))(h:ah):V->Option (List V)
 | .ptr f c=>(Qo G h f).map (·.drop c)
 | .elem _ d i c=>(d[i]?).map (·.drop c)
 |_=>aq
def aL(P:bL)(G:Nat->Option (List V))(h:ah)(t:aO)(a:V):Option V:=
 match f' P t,zw G h a with
 |some aa,J cs=>
  match cQ P t with
  |some c=>if c<=F cs then J (.agg (cs.take c)) else aq
  |none=>aq
 |some au,J cs=>cs.head?
 |_,_=>aq
def ej(c:List V)(off:Nat)(cs:List V):List V:=c.take off++cs++c.drop (off+F cs)
def b9(P:bL)(h:ah)(t:aO)(a x:V):Option ah:=
 match a,x.bP,cQ P t with
 | .ptr (.box b) c,J cs,J f=>
  match h.I[b]? with
  |some d=>if F cs=f/\c+f<=F d then J {h with I:=h.I.set b (ej d c cs)} else aq
  |none=>aq
 |_,_,_=>aq
def rM(c:Nat->Option (Nat × Nat))(cells:List V):List (Nat × V)->Option (List V)
 | []=>J cells
 |(i,g)::rest=>
  match c i,g.bP with
  |some (f,d),J cs=>if F cs=d/\f+d<=F cells then rM c (ej cells f cs) rest else aq
  |_,_=>aq
def xN(sz:Nat)(U:List (List V)):List (Nat × V)->Option (List (List V))
 | []=>J U
 |(i,c)::rest=>
  match c.bP with
  |some cs=>if F cs=sz/\i<F U then xN sz (U.set i cs) rest else aq
  |none=>aq
def placesOf(P:bL)(fields:Array Field)(i:Nat):Option (Nat × Nat):=
 match fields[i]? with
 |some c=>(cQ P c.type).map λd=>(c.offset,d)
 |none=>aq
def iP(P:bL)(t:aO)(aW:List (Nat × V)):Option V:=
 match P.underlying t,(gp P t).bind V.bP with
 |some (.struct fields),J zero=>
  if fields.all λd=>(P.info? d.type).isSome then (rM (placesOf P fields) zero aW).map .agg else aq
 |some (.array _ elem),J zero=>
  match cQ P elem with
  |some c=>(rM (λi=>J (i*c,c)) zero aW).map .agg
  |none=>aq
 |_,_=>aq
def fC(P:bL)(t:aO)(len:Nat)(aW:List (Nat × V)):Option V:=
 match P.underlying t with
 |some (.slice elem)=>
  match cQ P elem,(gp P elem).bind V.bP with
  |some c,J zero=>
   if 0<c/\F zero=c/\len*c<=16777216 then (xN c (bR len zero) aW).map (.ac .aP c) else aq
  |_,_=>aq
 |_=>aq
def wE(P:bL)(h:ah)(t:aO)(l c:V):Option (V × ah):=
 match P.underlying t,l,c with
 |some (.slice elem),.v (.int _ l),.v (.int _ c)=>
  match P.info? elem,(gp P elem).bind V.bP with
  |some i,J zero=>
   if 0<=l/\l<=c/\c<9223372036854775808/\i.bytes*c<=281474976710656/\0<i.size/\F zero=i.size then
    J (.arr (F h.I) 0 l.toNat c.toNat,{h with I:=h.I++[(bR c.toNat zero).flatten]})
   else aq
  |_,_=>aq
 |_,_,_=>aq
def rowsOf(h:ah)(size:Nat):V->Option (List (List V))
 | .ac _ f d=>if f=size∨d=[] then J d else aq
 | .arr b c len _=>
  match h.I[b]? with
  |some cs=>if c+len*size<=F cs then J ((bT len).map λi=>(cs.drop (c+i*size)).take size) else aq
  |none=>aq
 |_=>aq
def iF(b:UInt8):List V:=[.v (.int .u8 b.toNat)]
def byteOf:List V->Option UInt8
 | [.v (.int .u8 c)]=>J (UInt8.ofNat c.toNat)
 |_=>aq
def bytesOf:List (List V)->Option (List UInt8)
 | []=>J []
 |r::rest=>match byteOf r,bytesOf rest with|some b,J c=>J (b::c)|_,_=>aq
def jT(h:ah)(size:Nat):V->Option (List (List V))
 | .v (.string c)=>if size=1 then J (c.data.toList.map iF) else aq
 |x=>rowsOf h size x
def alive(h:ah)(n:Nat):Bool:=decide (n<h.tn)&& !h.dead.contains n
def KU(P:bL)(h:ah)(ts:Array aO)(elem:aO)(s x:V):Option (V × ah):=
 match s,x with
 | .ac .nil _ [],.v (.int _ c)=>
  match P.info? elem,(gp P elem).bind V.bP with
  |some i,J zero=>
   if ts.size=2/\0<c/\c*i.bytes<=140737488355328/\c<=9223372036854775807/\0<i.size/\F zero=i.size then
    J (.arr (F h.I) 0 c.toNat c.toNat,{h with I:=h.I++[(bR c.toNat zero).flatten]})
   else aq
  |_,_=>aq
 |_,_=>aq
def gC(P:bL)(h:ah)(ts:Array aO)(s x:V):Option (V × ah):=
 match (ts[0]?).bind P.underlying,(ts[1]?).bind P.underlying with
 |some (.slice elem),J (.int _)=>KU P h ts elem s x
 |some (.slice elem),J _=>
  match P.info? elem with
  |none=>aq
  |some i=>
   match jT h i.size x with
   |none=>aq
   |some new=>
    if 0<i.size/\(i.zero.map λm=>m.cells.size)=J i.size then
     match s with
     | .ac k g d=>
      if g=i.size∨d=[] then
       if new=[] then J (s,h)
       else if (F d+F new)*i.bytes<=140737488355328/\F d+F new<=9223372036854775807 then
        match k with
        | .nil| .aP=>J (h.fresh i.size (d++new))
        | .free l=>if alive h l&&decide (g=i.size) then J ({h with dead:=l::h.dead}.fresh i.size (d++new)) else aq
        | .held=>aq
       else aq
      else aq
     | .arr b f len c=>
      match h.I[b]? with
      |some cs=>
       if len+F new<=c/\f+c*i.size<=F cs then
        J (.arr b f (len+F new) c,{h with I:=h.I.set b (ej cs (f+len*i.size) new.flatten)})
       else aq
      |none=>aq
     |_=>aq
    else aq
 |_,_=>aq
def GK(G:Nat->Option (List V))(d:Option Tmp)(t:aO):Bool:=(G (1000000+1000*t+d.getD 0)).isSome
def ng(P:bL)(h:ah)(ts:Array aO)(s x:V):Option (V × ah):=
 match (ts[0]?).bind P.underlying,(ts[1]?).bind P.underlying with
 |some (.slice _),J (.int _)=>aq
 |some (.slice elem),J _=>
  match P.info? elem with
  |none=>aq
  |some i=>
   match jT h i.size x with
   |none=>aq
   |some new=>
    if 0<i.size/\(i.zero.map λl=>l.cells.size)=J i.size then
     match s with
     | .ac k g c=>
      if g=i.size∨c=[] then
       if new=[] then J (s,h)
       else if (F c+F new)*i.bytes<=140737488355328/\F c+F new<=9223372036854775807 then
        match k with
        | .nil| .aP=>J (.arr (F h.I) 0 (F c+F new) (F c+F new),{h with I:=h.I++[(c++new).flatten]})
        |_=>aq
       else aq
      else aq
     | .arr b f len d=>
      match h.I[b]? with
      |some cs=>
       if len+F new<=d then gC P h ts s x
       else if f=0/\0<len/\len=d/\len*i.size=F cs/\(len+F new)*i.bytes<=140737488355328/\len+F new<=9223372036854775807 then
        J (.arr (F h.I) 0 (len+F new) (len+F new),{h with I:=h.I.set b []++[cs++new.flatten]})
       else aq
      |none=>aq
     |_=>aq
    else aq
 |_,_=>aq
def xE(P:bL)(h:ah)(ts:Array aO)(d s:V):Option (V × ah):=
 match (ts[0]?).bind P.underlying with
 |some (.slice elem)=>
  match P.info? elem,d with
  |some i,.arr b f len g=>
   match jT h i.size s,h.I[b]? with
   |some c,J cs=>
    if f+len*i.size<=F cs/\len<=g then
     J (.v (.int .i64 (ox (F c) len:Nat)),{h with I:=h.I.set b (ej cs f (c.take (ox (F c) len)).flatten)})
    else aq
   |_,_=>aq
  |_,_=>aq
 |_=>aq
def dw(P:bL)(t:aO)(x:V):Option V:=
 match P.underlying t,x with
 |some .string,.v (.string f)=>J (.v (.int .i64 f.size))
 |some (.array d _),_=>J (.v (.int .i64 d))
 |some (.pointer a),_=>match P.underlying a with|some (.array d _)=>J (.v (.int .i64 d))|_=>aq
 |some (.slice _),.ac _ _ c=>J (.v (.int .i64 (F c)))
 |some (.slice _),.arr _ _ len _=>J (.v (.int .i64 len))
 |_,_=>aq
def BB(P:bL)(t:aO)(x:V):Option V:=
 match P.underlying t,x with
 |some (.slice _),.ac .aP _ c=>J (.v (.int .i64 (F c)))
 |some (.slice _),.ac .nil _ c=>J (.v (.int .i64 (F c)))
 |some (.array d _),_=>J (.v (.int .i64 d))
 |_,_=>aq
def gE(hi:Nat):Option V->Nat->Option Nat
 |none,d=>J d
 |some (.v (.int _ c)),_=>if 0<=c/\c<=hi then J c.toNat else aq
 |_,_=>aq
def qj(k:Tok)(c Po:Bool)(n:Nat):Tok:=
 match k with
 | .nil=>.nil
 | .aP=>if c||Po then .aP else .held
 | .free d=>if Po then .aP else if c&&n !=0 then .free d else .held
 | .held=>if Po then .aP else .held
def gY(P:bL)(t:aO)(x:V)(lo hi mx:Option V):Option V:=
 if mx.isSome&&hi.isNone then aq else
 match P.underlying t,x with
 |some .string,.v (.string q)=>
  if mx.isSome then aq else
  match gE q.size hi q.size with
  |some h=>match gE h lo 0 with
   |some f=>J (.v (.string (q.extract f h)))
   |none=>aq
  |none=>aq
 |some (.slice elem),.ac k n g=>
  match cQ P elem,gE (F g) mx (F g) with
  |some c,J l=>match gE l hi (F g) with
   |some h=>match gE h lo 0 with
    |some f=>
     if c=n∨g=[] then J (.ac (qj k (decide (h=F g)&&mx.isNone) (mx.isSome&&decide (h=l)) (h-f)) n ((g.take h).drop f)) else aq
    |none=>aq
   |none=>aq
  |_,_=>aq
 |some (.slice elem),.arr b d len m=>
  match cQ P elem,gE m mx m with
  |some c,J l=>match gE l hi len with
   |some h=>match gE h lo 0 with
    |some f=>if c=0 then aq else if mx.isSome/\l=f then J (.ac .aP c []) else J (.arr b (if l=f then d else d+f*c) (h-f) (l-f))
    |none=>aq
   |none=>aq
  |_,_=>aq
 |some (.array p elem),.ptr (.box b) d=>
  match cQ P elem,gE p mx p with
  |some c,J l=>match gE l hi p with
   |some h=>match gE h lo 0 with
    |some f=>J (.arr b (if l=f then d else d+f*c) (h-f) (l-f))
    |none=>aq
   |none=>aq
  |_,_=>aq
 |_,_=>aq
def eo(P:bL)(s:aO)(x:V)(f:Nat):Option V:=
 match P.underlying s with
 |some (.struct fields)=>
  match fields[f]? with
  |some d=>
   match cQ P d.type with
   |some 0=>aq
   |some _=>match x with
    | .ptr m c=>J (.ptr m (c+d.offset))
    | .elem l g i c=>J (.elem l g i (c+d.offset))
    |_=>aq
   |none=>aq
  |none=>aq
 |_=>aq
def dU(P:bL)(t:aO)(x ix:V):Option V:=
 match P.underlying t,x,ix with
 |some (.slice elem),.ac _ g f,.v (.int _ i)=>if 0<=i/\i<F f/\cQ P elem=J g then J (.elem g f i.toNat 0) else aq
 |some (.slice elem),.arr b d len _,.v (.int _ i)=>
  match cQ P elem with
  |some c=>if 0<=i/\i<len then J (.ptr (.box b) (d+i.toNat*c)) else aq
  |none=>aq
 |some (.array len elem),.ptr l d,.v (.int _ i)=>
  match cQ P elem with
  |some c=>if 0<=i/\i<len then J (.ptr l (d+i.toNat*c)) else aq
  |none=>aq
 |some (.array len elem),.elem g f k d,.v (.int _ i)=>
  match cQ P elem with
  |some c=>if 0<=i/\i<len then J (.elem g f k (d+i.toNat*c)) else aq
  |none=>aq
 |_,_,_=>aq
def As(P:bL)(t:aO)(x ix:V):Option V:=
 match P.underlying t,x,ix with
 |some .string,.v (.string d),.v (.int _ i)=>
  match (if 0<=i then d.data[i.toNat]? else aq) with
  |some b=>J (.v (.int .u8 b.toNat))
  |none=>aq
 |some (.array len elem),.agg cs,.v (.int _ i)=>
  match cQ P elem with
  |some c=>if 0<=i/\i<len then F4 P elem cs (i.toNat*c) else aq
  |none=>aq
 |_,_,_=>aq
def isIface(P:bL)(t:aO):Option Bool:=
 match P.underlying t with
 |some (.interface _)=>J aa
 |some _=>J au
 |none=>aq
def uF(P:bL)(x:V)(c:aO)(d:Bool):Option V:=
 match isIface P c,x with
 |some au,.iface l g=>if l=c then J (if d then .tuple [g,.v (.bool aa)] else g)
  else if d then (gp P c).map λf=>.tuple [f,.v (.bool au)] else aq
 |some au,.v .nilIface=>if d then (gp P c).map λf=>.tuple [f,.v (.bool au)] else aq
 |_,_=>aq
def s_(c:BinOp)(b:Bool):Option V:=
 match c with
 | .eql=>J (.v (.bool b))
 | .neq=>J (.v (.bool !b))
 |_=>aq
def Bu(P:bL)(c:BinOp)(t:aO)(x y:ck)(a b:V):Option V:=
 match a.flat,b.flat with
 |some d,J f=>(dQ P (do eqGuard c t x y d f;binOp c t d f)).bind lH
 |_,_=>aq
def df(P:bL)(c:BinOp)(t:aO)(x y:ck)(a b:V):Option V:=
 match a,b with
 | .v (.string d),.v (.string f)=>
  match c with
  | .eql=>J (.v (.bool (d.data.toList==f.data.toList)))
  | .neq=>J (.v (.bool !(d.data.toList==f.data.toList)))
  | .add=>if d.size+f.size<=9223372036854775807 then J (.v (.string (d++f))) else aq
  |_=>Bu P c t x y a b
 | .iface _ _,.v .nilIface=>if isIface P t=J aa then s_ c au else aq
 | .v .nilIface,.iface _ _=>if isIface P t=J aa then s_ c au else aq
 | .ptr _ _,.v (.pointer aq)=>(match P.underlying t with|some (.pointer _)=>s_ c au|_=>aq)
 | .v (.pointer aq),.ptr _ _=>(match P.underlying t with|some (.pointer _)=>s_ c au|_=>aq)
 | .func _ _ _,.v .nilFunc=>(match P.underlying t with|some (.func ..)=>s_ c au|_=>aq)
 | .v .nilFunc,.func _ _ _=>(match P.underlying t with|some (.func ..)=>s_ c au|_=>aq)
 | .ac k _ _,.ac .nil _ []=>(match P.underlying t with|some (.slice _)=>s_ c (decide (k=.nil))|_=>aq)
 |a,b=>Bu P c t x y a b
def GP(P:bL)(c:UnOp)(x:V):Option V:=
 match x.flat with
 |some d=>(dQ P (Op.unary c d)).bind lH
 |none=>aq
def l_(P:bL)(h:ah)(src c:aO)(x:V):Option (V × ah):=
 match P.underlying src,P.underlying c,x with
 |some .string,J (.slice e),.v (.string n)=>
  match P.underlying e,P.info? e with
  |some (.int .u8),J i=>if i.size=1 then J (h.fresh 1 (n.data.toList.map iF)) else aq
  |_,_=>aq
 |some (.slice e),J .string,x=>
  match P.underlying e,rowsOf h 1 x with
  |some (.int .u8),J d=>(bytesOf d).map λm=>(.v (.string ⟨m.toArray⟩),h)
  |_,_=>aq
 |some (.slice e),J (.slice _),.ac (.free l) g f=>
  match P.underlying e with
  |some (.int .u8)=>if src=c/\alive h l=aa then J (.ac .held g f,{h with dead:=l::h.dead}) else aq
  |_=>aq
 |some (.slice _),J (.slice _),_=>aq
 |some _,J _,.v x=>((dQ P (convert src c x)).bind lH).map λp=>(p,h)
 |_,_,_=>aq
def JP(c a b:V):Option V:=
 match c with
 | .v (.bool d)=>J (if d then a else b)
 |_=>aq
def PK(x:V):Option V:=
 match x with
 | .ptr .. | .elem .. | .func (.func _) _ _| .yield _| .iface .. =>J x
 |_=>aq
def uM(aW:Array (Nat × ck)):Bool:=
 match aW.toList with
 |(_,.const (.int .u8 _))::_::_=>aa
 |_=>au
def dP(P:bL)(G:Nat->Option (List V))(ρ:ck->V)(h:ah)(o:Op):Option (V × ah):=
 match o with
 | .move c| .assign c=>J (ρ c,h)
 | .pick p a b=>(JP (ρ p) (ρ a) (ρ b)).map (·,h)
 | .alloc d=>((gp P d).bind V.bP).map h.box
 | .box _ c=>((ρ c).bP).map h.box
 | .build d aW=>(iP P d (aW.toList.map λg=>(g.1,ρ g.2))).map (·,h)
 | .buildSlice d len aW=>
  match uM aW with
  |false=>(fC P d len (aW.toList.map λg=>(g.1,ρ g.2))).map (·,h)
  |true=>(match fC P d len (aW.toList.map λg=>(g.1,ρ g.2)) with|some (.ac _ y q)=>J (h.fresh y q)|_=>aq)
 | .load d a=>(aL P G h d (ρ a)).map (·,h)
 | .store d a c=>(b9 P h d (ρ a) (ρ c)).map (.tuple [],·)
 | .nilCheck c=>(PK (ρ c)).map (·,h)
 | .binOp l d c A _=>(df P l d c A (ρ c) (ρ A)).map (·,h)
 | .unOp l _ c=>(GP P l (ρ c)).map (·,h)
 | .convert x C c=>l_ P h x C (ρ c)
 | .makeInterface d c=>if isIface P d=J au then J (.iface d (ρ c),h) else aq
 | .makeFunc s first m=>J (.func s (first.toList.map ρ) (m.toList.map ρ),h)
 | .makeSlice d D p=>wE P h d (ρ D) (ρ p)
 | .slice d c u t v=>(gY P d (ρ c) (u.map ρ) (t.map ρ) (v.map ρ)).map (·,h)
 | .fieldAddr x c r=>(eo P x (ρ c) r).map (·,h)
 | .field d c r=>
  match P.underlying d,ρ c with
  |some (.struct fields),.agg cs=>(match fields[r]? with|some n=>(F4 P n.type cs n.offset).map (·,h)|none=>aq)
  |_,_=>aq
 | .indexAddr d c i=>(dU P d (ρ c) (ρ i)).map (·,h)
 | .index d c i=>(As P d (ρ c) (ρ i)).map (·,h)
 | .typeAssert c _ f ok=>(uF P (ρ c) f ok).map (·,h)
 | .extract c i=>(match ρ c with| .tuple z=>(z[i]?).map (·,h)|_=>aq)
 |_=>aq
def iQ(P:bL)(h:ah)(b:Builtin)(ts:Array aO)(ty:aO)(args:List V):Option (V × ah):=
 match b,args with
 | .len,[d]=>(match ts[0]? with|some l=>(dw P l d).map (·,h)|none=>aq)
 | .cap,[d]=>(match ts[0]? with|some l=>(BB P l d).map (·,h)|none=>aq)
 | .append,[g,d]=>gC P h ts g d
 | .copy,[m,g]=>xE P h ts m g
 | .min,c=>(match flatAll c with|some f=>((dQ P (Builtin.min_ ts ty f.toArray)).bind lH).map (·,h)|none=>aq)
 | .max,c=>(match flatAll c with|some f=>((dQ P (Builtin.max_ ts ty f.toArray)).bind lH).map (·,h)|none=>aq)
 |_,_=>aq
def qh(P:bL)(G:Nat->Option (List V))(d:Option Tmp)(h:ah)(b:Builtin)(ts:Array aO)(ty:aO)(args:List V):Option (V × ah):=
 match b,args with
 | .append,[c,f]=>if GK G d ty then ng P h ts c f else gC P h ts c f
 |b,args=>iQ P h b ts ty args
structure Rec where
 code:Code->Env->ah->Option (Xt × Env × ah)
 call:a_->List V->ah->Option (dV × ah)
 iS:a_->List V->Option (V × Bool)->ah->Option (dV × Option (V × Bool) × ah)
 round:Nat->List V->ah->Option (dV × ah)
def Px(P:bL)(t:aO)(name:String):Option a_:=
 match P.info? t with
 |some i=>
  match i.methods.find? (·.name==name) with
  |some d=>
   match d.path.toList,d.func,P.underlying t with
   | [],J (c,aa),J (.pointer _)=>J c
   | [],J (_,_),J (.pointer _)=>aq
   | [],J (c,au),J _=>J c
   |_,_,_=>aq
  |none=>aq
 |none=>aq
def kZ(P:bL)(R:Rec)(e:Env)(h:ah)(c:Call):Option (dV × ah):=
 let d:=c.args.toList.map e.eval
 match c.callee with
 | .builtin _=>aq
 | .value l=>
  match e.eval l with
  | .func (.func m) first g=>R.call m (first++d++g) h
  | .yield n=>R.round n d h
  |_=>aq
 | .invoke p f=>
  match e.eval p with
  | .iface q r=>(match Px P q f with|some l=>R.call l (r::d) h|none=>aq)
  |_=>aq
def ev(P:bL)(G:Nat->Option (List V))(R:Rec)(e:Env)(h:ah)(o:Oper):Option (dV × Env × ah):=
 match o.op with
 | .call {callee:=.builtin .recover,.. }=>
  if e.round.isSome then aq else
  match e.dg with
  |some (c,au)=>J (.ret c,{e with dg:=J (c,aa)},h)
  |_=>J (.ret (.v .nilIface),e,h)
 | .call {callee:=.builtin .panic,args,.. }=>
  match args.toList.map e.eval with
  | [.iface g c]=>J (.panic (.iface g c),e,h)
  |_=>aq
 | .call {callee:=.builtin b,args,argTypes}=>(qh P G o.dst h b argTypes o.type (args.toList.map e.eval)).map λ(c,h)=>(.ret c,e,h)
 | .call l=>(kZ P R e h l).map λ(n,h)=>(n,e,h)
 | .defer {callee:=.value f,args,.. }=>
  if e.round.isSome then aq else
  match e.eval f with
  | .func (.func m) first d=>J (.ret (.tuple []),{e with defers:=(m,first++args.toList.map e.eval++d)::e.defers},h)
  |_=>aq
 | .panic c=>
  match e.eval c with
  | .iface g c=>J (.panic (.iface g c),e,h)
  |_=>aq
 |op=>(dP P G e.eval h op).map λ(c,h)=>(.ret c,e,h)
def fh(ops:Array Oper)(e:Env)(o:Oper):Option Bool:=
 match o.guard with
 |none=>J aa
 |some (j,c)=>
  match (ops[j]?).bind (·.dst) with
  |none=>J au
  |some d=>
   match e.get d with
   | .v (.bool b)=>J (b==c)
   | .tuple []=>J au
   |_=>aq
def cB(P:bL)(G:Nat->Option (List V))(R:Rec)(ops:Array Oper):List Nat->Env->ah->Option (Xt × Env × ah)
 | [],e,h=>J (.normal,e,h)
 |i::rest,e,h=>
  match ops[i]? with
  |none=>aq
  |some o=>
   match fh ops e o with
   |none=>aq
   |some au=>cB P G R ops rest (e.put o.dst (.tuple [])) h
   |some aa=>
    match ev P G R e h o with
    |some (.ret c,e,h)=>cB P G R ops rest (e.put o.dst c) h
    |some (.panic c,e,h)=>J (.panic c,e,h)
    |none=>aq
inductive Class where
 |pure|reads|iO
 deriving DecidableEq,Inhabited
def iR:Op->Class
 | .move _| .assign _| .pick .. | .build .. | .nilCheck _| .binOp .. | .unOp .. | .makeInterface .. | .makeFunc .. | .slice .. | .fieldAddr .. | .field ..
 | .indexAddr .. | .index .. | .typeAssert .. | .extract .. =>.pure
 | .buildSlice _ _ aW=>if uM aW=aa then .iO else .pure
 | .load .. =>.reads
 | .call {callee:=.builtin .len,.. }=>.pure
 |_=>.iO
def Jx(a b:Class):Bool:=
 match a,b with
 | .pure,_|_,.pure=>aa
 | .reads,.reads=>aa
 |_,_=>au
def y9(ops:Array Oper)(b:Array Nat):Bool:=
 (bT ops.size).all λj=>
  match ops[j]? with
  |none=>aa
  |some o=>
   (o.after.all λe=> !Region.binds .any e||decide (e.on<j))&&
   (bT ops.size).all λi=> !(b.getD j 0).testBit i||o.after.any λe=>Region.binds .any e&&(jn e.on i||(b.getD e.on 0).testBit i)
def wL(ops:Array Oper)(i j:Nat):Bool:=
 match ops[i]?,ops[j]? with
 |some c,J d=>Jx (iR c.op) (iR d.op)&&c.apart ops d&&d.apart ops c
 |_,_=>au
def EH(ops:Array Oper):Bool:=
 let b:=Region.before ops
 y9 ops b&&(bT ops.size).all λj=>(bT j).all λi=>(b.getD j 0).testBit i||wL ops i j
def oB(ops:Array Oper)(i j:Nat):Bool:=
 match ops[i]?,ops[j]? with
 |some c,J d=>c.apart ops d&&d.apart ops c
 |_,_=>au
def oV(P:bL)(G:Nat->Option (List V))(R:Rec)(ops:Array Oper)(e:Env)(h:ah)(r m:Nat):Bool:=
 match ops[r]?,cB P G R ops (bT r) e h,cB P G R ops (bT m) e h with
 |some o,J (.normal,c,f),J (.normal,_,d)=>
  (match fh ops c o with
   |some au=>aa
   |some aa=>
    (match o.op with
     | .load g a=>(match aL P G f g (c.eval a),aL P G d g (c.eval a) with|some l,J n=>dh l n|_,_=>au)
     |_=>au)
   |none=>au)
 |_,_,_=>au
def jZ(P:bL)(G:Nat->Option (List V))(R:Rec)(ops:Array Oper)(e:Env)(h:ah)(i j:Nat):Bool:=
 oB ops i j&&
 match (ops[i]?).map λo=>iR o.op,(ops[j]?).map λo=>iR o.op with
 |some .reads,J .iO=>oV P G R ops e h i (j+1)
 |some .iO,J .reads=>oV P G R ops e h j i
 |_,_=>au
def xB:Op->Bool
 | .call {callee:=.builtin .recover,.. }=>au
 | .call {callee:=.builtin .panic,.. }=>au
 | .call _=>aa
 | .convert .. =>aa
 |_=>au
def vZ(P:bL)(G:Nat->Option (List V))(R:Rec)(ops:Array Oper)(e:Env)(h:ah)(k:Nat):Prop:=
 ∃o m c g,ops[k]?=J o/\xB o.op=aa/\cB P G R ops (bT k) e h=J (.normal,c,g)/\
  ∀l,l<=ops.size->∃f d,cB P G R ops (bT l) e h=J (.normal,f,d)/\ev P G R c d o=J (.ret m,c,d)
noncomputable def k'(P:bL)(G:Nat->Option (List V))(R:Rec)(ops:Array Oper)(e:Env)(h:ah)(k:Nat):Bool:=@decide (vZ P G R ops e h k) (Classical.propDecidable _)
noncomputable def mb(P:bL)(G:Nat->Option (List V))(R:Rec)(ops:Array Oper)(e:Env)(h:ah):Bool:=
 let b:=Region.before ops
 y9 ops b&&(bT ops.size).all λj=>(bT j).all λi=>(b.getD j 0).testBit i||wL ops i j||jZ P G R ops e h i j||(oB ops i j&&(k' P G R ops e h i||k' P G R ops e h j))
def Au(r:Option (Xt × Env × ah)):Bool:=
 match r with
 |some (.normal,_,_)=>aa
 |_=>au
def HX(ops:Array Oper)(k j:Nat):Bool:=
 match ops[k]? with
 |some o=>o.after.any λc=>Region.binds .any c&&jn c.on j
 |none=>au
def amZ(ops:Array Oper)(d m:Nat):Bool:=
 match ops[m]? with
 |some o=>(match o.op with| .load _ g=>(match g with| .tmp f=> !Nat.beq f d|_=>aa)|_=>au)&&(o.guard.isNone&&(match o.dst with|some c=> !Nat.beq c d|none=>aa))
 |none=>au
def gu(ops:Array Oper)(i j:Nat):Array Oper:=⟨ops.toList.mapIdx λk o=>if k=j then {o with after:=o.after.push {on:=i,ground:=.data}} else o⟩
def ww(ops:Array Oper)(k:Nat):Bool:=
 match ops[k]? with
 |some o=>(match o.op with| .store _ _ _=>aa|_=>au)&&(o.guard.isNone&&o.dst.isNone)
 |none=>au
def ZT(ops:Array Oper)(k:Nat):Bool:=
 match ops[k]? with
 |some o=>decide (iR o.op=.pure)|none=>au
def C6(ops:Array Oper)(i:Nat):Bool:=
 y9 ops (Region.before ops)&&(decide (i+1<ops.size)&&(ww ops i&&(ww ops (ops.size-1)&&(bT (ops.size-1)).all λk=>jn k i||(((Region.before ops).getD (ops.size-1) 0).testBit k||(ZT ops k&&oB ops k (ops.size-1))))))
def pQ(ops:Array Oper)(k:Nat)(e:Env):Option Nat:=
 match ops[k]? with
 |some o=>(match o.op with| .store _ a _=>(match e.eval a with| .ptr (.box b) _=>J b|_=>aq)|_=>aq)
 |none=>aq
def qE(P:bL)(G:Nat->Option (List V))(R:Rec)(ops:Array Oper)(e:Env)(h:ah)(i:Nat):Bool:=
 match cB P G R ops (bT i) e h,cB P G R ops (bT (ops.size-1)) e h with
 |some (.normal,c,_),J (.normal,d,_)=>
  (match pQ ops i c,pQ ops (ops.size-1) d with
   |some a,J b=> !Nat.beq a b
   |_,_=>au)
 |_,_=>au
noncomputable def yC(P:bL)(G:Nat->Option (List V))(R:Rec)(ops:Array Oper)(e:Env)(h:ah):Bool:=(bT ops.size).any λi=>C6 ops i&&(qE P G R ops e h i&&mb P G R (gu ops i (ops.size-1)) e h)
def quiet(o:Oper):Oper:={o with dst:=aq,op:=.move (.const (.bool aa)),guard:=aq}
def vh:List Oper->List Oper
 | []=>[]
 | [o]=>[quiet o]
 |o::c::d=>o::vh (c::d)
def g'(ops:Array Oper):Array Oper:=⟨vh ops.toList⟩
def rV(ops:Array Oper):Bool:=
 let b:=Region.before (g' ops)
 (bT (ops.size-1)).all λi=>(b.getD (ops.size-1) 0).testBit i&&
  match ops[i]? with
  |some o=>(match o.guard with|some (j,_)=> !Nat.beq j (ops.size-1)|none=>aa)
  |none=>aa
def Cw(ops:Array Oper)(k i:Nat):Bool:=jn i k||((Region.before ops).getD i 0).testBit k
def cut(ops:Array Oper)(k:Nat):Array Oper:=⟨ops.toList.mapIdx λi o=>if Cw ops k i=aa then quiet o else o⟩
def af1(ops:Array Oper)(i:Nat):Bool:=
 match ops[i]? with
 |some o=>decide (iR o.op≠ .iO)|none=>aa
def VB(ops:Array Oper)(k i:Nat):Bool:=
 match ops[i]? with
 |some o=>(match o.guard with|some (j,_)=> !Cw ops k j|none=>aa)
 |none=>aa
def ahO(ops:Array Oper)(k i:Nat):Option Tmp:=
 if (Cw ops k i||((Region.before (cut ops k)).getD k 0).testBit i)=aa then aq else (ops[i]?).bind (·.dst)
noncomputable def drawC(P:bL)(G:Nat->Option (List V))(R:Rec)(ops:Array Oper)(e:Env)(h:ah):Xt->Bool
 | .normal=>mb P G R ops e h||yC P G R ops e h
 | .panic _=>rV ops&&(mb P G R (g' ops) e h&&Au (cB P G R (g' ops) (bT (g' ops).size) e h))
 |_=>au
def Dz(c:List Tmp)(args:List V)(tmps:oA):oA:=(c.zip args).foldl (λd f=>d.set f.1 f.2) tmps
section
variable (P:bL) (G:Nat->Option (List V)) (R:Rec)
noncomputable def fQ:Code->Env->ah->Option (Xt × Env × ah)
 | .skip,e,h| .label _,e,h=>J (.normal,e,h)
 | .region _ ops f,e,h=>
  if f then
   (cB P G R ops (bT ops.size) e h).filter λr=>drawC P G R ops e h r.1
  else cB P G R ops (bT ops.size) e h
 | .seq a b,e,h=>
  match R.code a e h with
  |some (.normal,e,h)=>R.code b e h
  |r=>r
 | .cond c a b,e,h=>
  match e.eval c with
  | .v (.bool aa)=>R.code a e h
  | .v (.bool au)=>R.code b e h
  |_=>aq
 | .block id c,e,h=>
  match R.code c e h with
  |some (.exit d,e,h)=>if d=id then J (.normal,e,h) else J (.exit d,e,h)
  |r=>r
 | .loop c,e,h=>
  match R.code c e h with
  |some (.normal,e,h)=>R.code (.loop c) e h
  |r=>r
 | .scope c,e,h=>R.code c e h
 | .exit id,e,h=>J (.exit id,e,h)
 | .ret,e,h=>J (.ret,e,h)
 | .rangeFunc l params assign body,e,h=>
  match e.eval l with
  | .func (.func m) first g=>
   match R.call m (first++[.yield (F h.aI)]++g)
    {h with aI:=h.aI++[{tmps:=e.tmps,params,assign,body,state:=.ready,pending:=aq}]} with
   |some (.ret _,h')=>
    match h'.aI[F h.aI]? with
    |some r=>
     if r.state=.busy then aq else
     match r.pending with
     |none=>J (.normal,e,{h' with aI:=h'.aI.set (F h.aI) {r with state:=.exhausted}})
     |some .ret=>J (.ret,e,{h' with aI:=h'.aI.set (F h.aI) {r with state:=.exhausted}})
     |some (.exit id)=>J (.exit id,e,{h' with aI:=h'.aI.set (F h.aI) {r with state:=.exhausted}})
     |_=>aq
    |none=>aq
   |some (.panic n,h')=>J (.panic n,e,h')
   |none=>aq
  |_=>aq
 |_,_,_=>aq
def uf(e:Env)(h:ah):List ResultVar->Option (List V)
 | []=>J []
 | .tmp d::c=>(uf e h c).map (e.get d::·)
 | .cell a d::c=>
  match aL P G h d (e.get a),uf e h c with
  |some g,J f=>J (g::f)
  |_,_=>aq
def Gc(fn:Func)(e:Env)(h:ah):Option V:=
 match uf P G e h fn.results.toList with
 |some [d]=>J d
 |some c=>J (.tuple c)
 |none=>aq
def gN(fn:Func)(e:Env):List (a_ × List V)->Option (V × Bool)->ah->Option (dV × ah)
 | [],aq,h=>(Gc P G fn e h).map λg=>(.ret g,h)
 | [],J (g,_),h=>J (.panic g,h)
 |(l,c)::d,f,h=>
  match R.iS l c f h with
  |some (.ret _,J (_,aa),h)=>gN fn e d aq h
  |some (.ret _,f,h)=>gN fn e d f h
  |_=>aq
def qb(g:a_)(args:List V)(m:Option (V × Bool))(h:ah):Option (dV × Option (V × Bool) × ah):=
 match P.funcs[g]? with
 |none=>aq
 |some d=>
  match d.body with
  |none=>aq
  |some c=>
   match R.code c {tmps:={ch:=[],base:=args},defers:=[],dg:=m,round:=aq} h with
   |some (.normal,e,h)|some (.ret,e,h)=>(gN P G R d e e.defers aq h).map λ(f,h)=>(f,e.dg,h)
   |some (.panic l,e,h)=>(gN P G R d e e.defers (J (l,au)) h).map λ(f,h)=>(f,e.dg,h)
   |_=>aq
def mf(aS:a_->Option (List V->ah->Option (V × ah)))(g:a_)(args:List V)(h:ah):Option (dV × ah):=
 match aS g with
 |some c=>(c args h).map λ(f,h)=>(.ret f,h)
 |none=>(qb P G R g args aq h).map λ(d,_,h)=>(d,h)
def uh(l:Nat)(args:List V)(h:ah):Option (dV × ah):=
 match h.aI[l]? with
 |none=>aq
 |some r=>
  if r.params.size=F args then
   match R.code r.assign {tmps:=Dz r.params.toList args r.tmps,defers:=[],dg:=aq,round:=J l} h with
   |some (.normal,e,h)=>
    match h.aI[l]? with
    |some r2=>
     if r2.state=.ready then
      match R.code r.body e {h with aI:=h.aI.set l {r2 with state:=.busy}} with
      |some (.normal,_,h)=>(h.aI[l]?).map λr=>(.ret (.v (.bool aa)),{h with aI:=h.aI.set l {r with state:=.ready,pending:=aq}})
      |some (.ret,_,h)=>(h.aI[l]?).map λr=>(.ret (.v (.bool au)),{h with aI:=h.aI.set l {r with state:=.done,pending:=J .ret}})
      |some (.exit id,_,h)=>(h.aI[l]?).map λr=>(.ret (.v (.bool au)),{h with aI:=h.aI.set l {r with state:=.done,pending:=J (.exit id)}})
      |some (.panic c,_,h)=>J (.panic c,h)
      |none=>aq
     else aq
    |none=>aq
   |_=>aq
  else aq
end
noncomputable def h_(P:bL)(G:Nat->Option (List V))(aS:a_->Option (List V->ah->Option (V × ah)))(n:Nat):Rec:=
 Nat.rec (motive:=λ_=>Rec) {code:=λ_ _ _=>aq,call:=λ_ _ _=>aq,iS:=λ_ _ _ _=>aq,round:=λ_ _ _=>aq}
  (λ_ R=>{code:=fQ P G R,call:=mf P G R aS,iS:=qb P G R,round:=uh R}) n
end Go.AE
end
section
namespace Go.AE
open Go.RowKit (Below)
def F6{α}{P}:∀{e:Sem α} {a:α},dQ P e=J a->∀w,e.run P w=.ok a w:=by
 intro e
 induction e with
 |pure a=>intro b h w;simp[dQ]at h;simp_all|program k c=>intro b h w;simp only[dQ]at h;simp only[Sem.run];simp_all|mark d k c=>intro b h w;simp only[dQ]at h;simp only[Sem.run];simp_all|_=>intro b h;simp[dQ]at h
structure bA where
 base:Nat
 ic:Nat->Nat->Option aQ
 β:List Nat
 γ:List Nat
 tn:Nat
 tk:Nat->Nat × Nat × Nat
 md:List Nat
 lb:Nat->Option (Nat × Nat × Nat)
structure bA.Le(K K':bA):Prop where
 base:K'.base=K.base
 ic:∀g j c,K.ic g j=J c->K'.ic g j=J c
 β:∀b g:Nat,K.β[b]?=J g->K'.β[b]?=J g
 γ:∀l g:Nat,K.γ[l]?=J g->K'.γ[l]?=J g
 tn:K.tn<=K'.tn
 tk:∀t,t<K.tn->K'.tk t=K.tk t
 md:∀r∈K.md,r∈K'.md
 lb:∀b,b<K.β.length->K'.lb b=K.lb b
 new:∀g j c,K'.ic g j=J c->K.ic g j=J c∨K.base<=g
def bA.Le.refl(K:bA):K.Le K:=⟨O,λ_ _ _ h=>h,λ_ _ h=>h,λ_ _ h=>h,bh _,λ_ _=>rfl,λ_ h=>h,λ_ _=>rfl,λ_ _ _ h=>.inl h⟩
def bA.Le.len{K c:bA}(h:K.Le c){b}(d:b<F K.β):b<F c.β:=(bk.1 (h.β b _ (aY d))).1
def bA.Le.trans{A B C:bA}(h:A.Le B)(k:B.Le C):A.Le C:=
 ⟨k.base.trans h.base,λd j g f=>k.ic d j g (h.ic d j g f),λb d c=>k.β b d (h.β b d c),λb d c=>k.γ b d (h.γ b d c),fB h.tn k.tn,
  λp l=>(k.tk p (mQ l h.tn)).trans (h.tk p l),λn m=>k.md n (h.md n m),λb c=>(k.lb b (h.len c)).trans (h.lb b c),λd j g f=>(k.new d j g f).elim (h.new d j g) λq=>.inr (by rw[<-h.base];exact q)⟩
def uB(K:bA)(k:Tok)(g off sz n ba:Nat):Prop:=
 n<=ba/\match k with
  | .nil=>False
  | .aP=>ba=n
  | .free c=>c<K.tn/\(K.tk c).1=g/\(K.tk c).2.1=off+n*sz/\off+ba*sz<=(K.tk c).2.2
  | .held=>True
def uB.mono{K d}(h:K.Le d){k}{g off sz n ba}(f:uB K k g off sz n ba):uB d k g off sz n ba:=by
 refine⟨f.1,?_⟩;have c:=f.2;cases k with|free l=>simp only at c ⊢;rw[h.tk l c.1];exact⟨mQ c.1 h.tn,c.2⟩|_=>exact c
mutual
inductive aZ (K:bA):V->aQ->Prop
 |bad (c:aQ):aZ K .bad c
 |v (x:aQ) (h:scalar x=aa):aZ K (.v x) x
 |nil (sz:Nat):aZ K (.ac .nil sz []) (.slice aq 0 0)
 |gH (sz:Nat) (a:Addr):aZ K (.ac .aP sz []) (.slice (J a) 0 0)
 |ac (k:Tok) (sz:Nat) (es:List (List V)) (g off n ba:Nat) (cells:List aQ) (hn:n=es.length) (hr:∀r∈es,r.length=sz)
  (hv:aR K es.flatten cells) (hc:∀j c,cells[j]?=J c->K.ic g (off+j)=J c) (ht:uB K k g off sz n ba)
  (ha:es.flatten.all V.dt=aa):aZ K (.ac k sz es) (.slice (J ⟨g,off,aq⟩) n ba)
 |arr (b g off len ba tV rI:Nat) (hb:K.β[b]?=J g) (hl:len<=ba) (hc:ba<=rI) (ho:tV=off∨ba=0)
  (hr:rI=ba∨ba=0∨off≠0∨∃sz room,K.lb b=J (ba,sz,room)/\0<sz/\rI * sz<=room):aZ K (.arr b off len ba) (.slice (J ⟨g,tV,aq⟩) len rI)
 |agg (cs:List V) (vs:Array aQ) (h:aR K cs vs.toList):aZ K (.agg cs) (.agg vs)
 |tuple (cs:List V) (vs:Array aQ) (h:aR K cs vs.toList):aZ K (.tuple cs) (.tuple vs)
 |box (b g off:Nat) (hb:K.β[b]?=J g):aZ K (.ptr (.box b) off) (.pointer (J ⟨g,off,aq⟩))
 |ec (g off:Nat):aZ K (.ptr (.ec g) off) (.pointer (J ⟨g,off,aq⟩))
 |elem (sz:Nat) (es:List (List V)) (i off g o p:Nat) (cells:List aQ) (hr:∀r∈es,r.length=sz) (hv:aR K es.flatten cells)
  (hc:∀j c,cells[j]?=J c->K.ic g (o+j)=J c) (hi:i<es.length) (hp:p=o+i * sz+off)
  (ha:es.flatten.all V.dt=aa):aZ K (.elem sz es i off) (.pointer (J ⟨g,p,aq⟩))
 |func (fn:Fn) (first ba:List V) (fs cs:Array aQ) (h1:aR K first fs.toList) (h2:aR K ba cs.toList):aZ K (.func fn first ba) (.func fn fs cs)
 |yield (l g:Nat) (h:K.γ[l]?=J g):aZ K (.yield l) (.func (.yield g) #[] #[])
 |iface (t:aO) (x:V) (c:aQ) (h:aZ K x c):aZ K (.iface t x) (.iface t c)
inductive aR (K:bA):List V->List aQ->Prop
 |nil:aR K [] []
 |cons (x:V) (c:aQ) (xs:List V) (cs:List aQ) (h:aZ K x c) (hs:aR K xs cs):aR K (x::xs) (c::cs)
end
mutual
def aZ.mono{K C:bA}(h:K.Le C):∀{x:V} {c:aQ},aZ K x c->aZ C x c
 |_,_,.bad c=>.bad c
 |_,_,.v x y=>.v x y
 |_,_,.nil l=>.nil l
 |_,_,.gH l a=>.gH l a
 |_,_,.ac k l s m d z0 f cells S p g n Y t=>.ac k l s m d z0 f cells S p (aR.mono h g) (λj c u=>h.ic _ _ _ (n j c u)) (Y.mono h) t
 |_,_,.arr b m d len f z r q v n T p=>.arr b m d len f z r (h.β _ _ q) v n T (by rw[h.lb b (bk.1 q).1];exact p)
 |_,_,.agg cs A g=>.agg cs A (aR.mono h g)
 |_,_,.tuple cs A g=>.tuple cs A (aR.mono h g)
 |_,_,.box b m d q=>.box b m d (h.β _ _ q)
 |_,_,.ec m d=>.ec m d
 |_,_,.elem l s i d m o z1 cells p g n N X t=>.elem l s i d m o z1 cells p (aR.mono h g) (λj c u=>h.ic _ _ _ (n j c u)) N X t
 |_,_,.func D first f E cs H L=>.func D first f E cs (aR.mono h H) (aR.mono h L)
 |_,_,.yield Z m v=>.yield Z m (h.γ _ _ v)
 |_,_,.iface z2 x c y=>.iface z2 x c (aZ.mono h y)
def aR.mono{K c:bA}(h:K.Le c):∀{xs:List V} {cs:List aQ},aR K xs cs->aR c xs cs
 |_,_,.nil=>.nil
 |_,_,.cons l g xs cs f d=>.cons l g xs cs (aZ.mono h f) (aR.mono h d)
end
def mY:aQ->Bool
 | .agg _| .tuple _=>au
 |_=>aa
section
variable {K:bA}
def aR.length{xs:List V}{cs:List aQ}(h:aR K xs cs):F xs=F cs:=by
 induction xs generalizing cs with
 |nil=>cases h;rfl
 |cons f xs d=>cases h with|cons _ _ _ _ _ c=>grind
def aR.get{xs:List V}{cs:List aQ}(h:aR K xs cs):∀{i:Nat} {x:V},xs[i]?=J x->∃c,cs[i]?=J c/\aZ K x c:=by
 induction xs generalizing cs with
 |nil=>simp_all|cons l xs g=>
  cases h with
  |cons _ c _ cs f d=>
   grind
def aR.get'{xs:List V}{cs:List aQ}(h:aR K xs cs):∀{i:Nat} {c:aQ},cs[i]?=J c->∃x,xs[i]?=J x/\aZ K x c:=by
 induction xs generalizing cs with
 |nil=>cases h;simp_all
 |cons l xs g=>
  cases h with
  |cons _ c _ cs f d=>
   grind
def aR.of{xs:List V}{cs:List aQ}(g:F xs=F cs)(h:∀(i:Nat) (x:V) (c:aQ),xs[i]?=J x->cs[i]?=J c->aZ K x c):aR K xs cs:=by
 induction xs generalizing cs with
 |nil=>cases cs with|nil=>exact .nil|cons _ _=>grind
 |cons m xs d=>
  cases cs with
  |nil=>grind
  |cons c cs=>exact .cons _ _ _ _ (h 0 m c O O) (d (by simp_all) λi x c l f=>h (i+1) x c (by simp_all) (by simp_all))
def aR.append{xs d:List V}{cs c:List aQ}(h:aR K xs cs)(k:aR K d c):aR K (xs++d) (cs++c):=by
 induction xs generalizing cs with
 |nil=>cases h;exact k
 |cons m xs l=>cases h with|cons _ _ _ _ g f=>exact .cons _ _ _ _ g (l f)
def aR.take{xs:List V}{cs:List aQ}(h:aR K xs cs)(n:Nat):aR K (xs.take n) (cs.take n):=by
 refine .of (by simp[h.length]) λi q p c d=>?_;simp only[o0]at c d;split at c
 .rename_i f;rw[aH f]at d;obtain⟨l,g,m⟩:=h.get c;simp_all
 grind
def aR.drop{xs:List V}{cs:List aQ}(h:aR K xs cs)(n:Nat):aR K (xs.drop n) (cs.drop n):=by refine .of (by simp[h.length]) λi p m c d=>?_;simp only[List.getElem?_drop]at c d;obtain⟨g,f,l⟩:=h.get c;simp_all
def aR.set{xs:List V}{cs:List aQ}(h:aR K xs cs)(i:Nat){x:V}{c:aQ}(n:aZ K x c):aR K (xs.set i x) (cs.set i c):=by
 refine .of (by simp[h.length]) λj q p d f=>?_;simp only[mq]at d f;split at d
 .simp_all
 .rename_i e;rw[aV e]at f;obtain⟨l,g,m⟩:=h.get d;simp_all
def aR.map_mk{α:Type}{l:List α}{f:α->V}{c:α->aQ}(h:∀a∈l,aZ K (f a) (c a)):aR K (l.map f) (l.map c):=by
 induction l with
 |nil=>exact .nil|cons a l d=>exact .cons _ _ _ _ (h a cE) (d λb g=>h b (by grind))
def aZ.ig{x:aQ}{c:aQ}(h:aZ K (.v x) c):c=x/\scalar x=aa:=by cases h with|v _ h=>simp_all
def Nh:∀{cs:List V} {l:List aQ},uP cs=J l->∀{vs:List aQ},aR K cs vs->vs=l
 | [],l,h,_,c=>by cases c;simp[uP]at h;simp_all
 | .v q::p,l,h,_,c=>by
  cases c with|cons _ n _ cs g f=>simp only[uP,dK]at h;obtain⟨m,d,rfl⟩:=h;rw[(aZ.ig g).1,Nh d f]
 | .bad::_,_,h,_,_| .ac .. ::_,_,h,_,_| .arr .. ::_,_,h,_,_| .agg _::_,_,h,_,_| .tuple _::_,_,h,_,_| .ptr .. ::_,_,h,_,_
 | .elem .. ::_,_,h,_,_| .func .. ::_,_,h,_,_| .yield _::_,_,h,_,_| .iface .. ::_,_,h,_,_=>by simp[uP]at h
def Ig{x:V}{p:Value}(h:x.flat=some p){c:Value}(d:aZ K x c):c=p:=by
 unfold V.flat at h;split at h
 .injection h with h;subst h;exact(aZ.ig d).1
 .simp only[dK] at h;obtain⟨q,f,rfl⟩:=h;cases d with|agg _ n g=>rw[<-Nh f g]
 .injection h with h;subst h;cases d with|iface _ _ _ l=>rw[(aZ.ig l).1]
 .simp only[dK] at h;obtain⟨q,f,rfl⟩:=h;cases d with|iface _ _ _ l=>cases l with|agg _ n g=>rw[<-Nh f g]
 .injection h with h;subst h;cases d with|nil=>rfl|ac _ _ _ _ _ _ _ _ _ _ _ _ m _=>exact m.2.elim
 grind
def Ng:∀{xs:List V} {l:List aQ},flatAll xs=J l->∀{vs:List aQ},aR K xs vs->vs=l
 | [],l,h,_,c=>by cases c;simp[flatAll]at h;simp_all
 |x::q,l,h,_,c=>by
  cases c with
  |cons _ p _ cs m g=>
   simp only[flatAll]at h;split at h
   .rename_i r n d f;injection h with h;subst h;rw[Ig d m,Ng f g]
   grind
def Gw{z:aQ}{x:V}(h:lH z=J x):aZ K x z:=by
 unfold lH at h;split at h
 .injection h with h;subst h;exact .v _ ‹_›
 grind
def PO(x:aQ):aZ K (tU x) x:=by
 unfold tU;split
 .exact .nil 0
 .split
  .exact .v _ ‹_›
  .exact .bad _
def JE(x:aQ):aZ K (pP x) x:=by
 unfold pP;split
 .rename_i cs;refine .agg _ _ ?_;have:aR K (cs.toList.map tU) (cs.toList.map id):=aR.map_mk λa _=>PO a;simp_all
 .split
  .rename_i c h;have:c=#[]:=(by simpa using h);subst this;exact .tuple _ _ .nil
  .exact .bad _
 .exact .iface _ _ _ (PO _)
 .exact PO _
def HR{x:V}{cs:List V}(h:x.bP=J cs){c:aQ}(d:aZ K x c):aR K cs c.cells.toList/\cs.all V.dt=aa:=by
 unfold V.bP at h;split at h
 .split at h
  .rename_i n;injection h with h;subst h;cases d with|agg _ q p=>exact⟨p,n⟩
  grind
 .cases h
 .cases h
 .rename_i f g l;injection h with h;subst h;have m:x.dt=aa:=by cases x<;>first|rfl|exact absurd O (f _)|exact absurd O (g _)|exact absurd O l
  refine⟨?_,by simp_all⟩;have:c.cells=#[c]:=by cases d<;>first|rfl|exact absurd O (f _)|exact absurd O (g _)|exact absurd O l|(cases c<;>first|rfl|simp[scalar]at *)
  rw[this];exact .cons _ _ _ _ d .nil
def alP{c}(h:scalar c=aa):mY c=aa:=by cases c<;>first|rfl|simp[scalar]at h
def alO{x:V}(h:x.dt=aa){c:aQ}(d:aZ K x c):mY c=aa:=by cases d<;>first|rfl|exact alP ‹_›|(simp[V.dt]at h;done)
end
def xb(K:bA)(b:Nat)(cs:List V)(cells:Array aQ):Prop:=
 aR K cs (cells.toList.take (F cs))/\∀f d c,K.lb b=J (f,d,c)->cs=[]∨(F cs=f*d/\c<=cells.size)
def xb.mono{K c}(h:K.Le c){b}(d:b<F K.β){cs}{cells}(r:xb K b cs cells):xb c b cs cells:=
 ⟨r.1.mono h,by rw[h.lb b d];exact r.2⟩
def xb.nil{K}{b}{cells}:xb K b [] cells:=⟨.nil,λ_ _ _ _=>.inl O⟩
def xb.le{K}{b}{cs}{cells}(r:xb K b cs cells):F cs<=cells.size:=by
 have:=r.1.length
 grind
def kQ(K:bA)(s:oA)(tmps:Array aQ):Prop:=∀c,aZ K (s.get c) (tmps.getD c undef)
def kQ.mono{K c}(h:K.Le c){s}{tmps}(d:kQ K s tmps):kQ c s tmps:=λf=>(d f).mono h
structure bZ(K:bA)(G:Nat->Option (List V))(ok:a_->Nat->Code->Bool)(w0:b_)(h:ah)(w:b_):Prop where
 fG:Below K.base w0 w
 size:K.base<=w.heap.size
 ic:∀g j c,K.ic g j=J c->w.cell? ⟨g,j,aq⟩=J c
 ec:∀g cs,G g=J cs->∃cells,aR K cs cells/\∀(j:Nat) (c:aQ),cells[j]?=J c->K.ic g j=J c
 jd:K.β.length=h.I.length
 nQ:∀(b b' g:Nat),K.β[b]?=J g->K.β[b']?=J g->b=b'∨h.I[b]?=J []∨h.I[b']?=J []
 box:∀(b g:Nat) (cs:List V),K.β[b]?=J g->h.I[b]?=J cs->
  K.base<=g/\(∀j,K.ic g j=aq)/\cs.all V.dt=aa/\∃cells e,w.heap[g]?=J (.cells cells e (0,0))/\xb K b cs cells
 mM:K.γ.length=h.aI.length
 oW:∀(b b' g:Nat),K.γ[b]?=J g->K.γ[b']?=J g->b=b'
 loop:∀(l g:Nat) (r:ij),K.γ[l]?=J g->h.aI[l]?=J r->K.base<=g/\∃fn tmps d,
  w.heap[g]?=J (.loop {state:=r.state,pending:=r.pending,fn,tmps,params:=r.params,assign:=r.assign,body:=r.body,defers:=d})/\
  kQ K r.tmps tmps/\ok fn tmps.size r.assign=aa/\ok fn tmps.size r.body=aa/\∀p∈r.params.toList,p<tmps.size
 tn:K.tn=h.tn
 tok:∀t,alive h t=aa->K.base<=(K.tk t).1/\(∀b:Nat,K.β[b]?≠J (K.tk t).1)/\(∀j,(K.tk t).2.1<=j->K.ic (K.tk t).1 j=aq)/\
  ∃cells e fz,w.heap[(K.tk t).1]?=J (.cells cells e fz)/\cells.size=(K.tk t).2.2/\
   ∀j,(K.tk t).2.1<=j->j<cells.size->w.frozen? ⟨(K.tk t).1,j,aq⟩=au
 oj:∀t t',alive h t=aa->alive h t'=aa->(K.tk t).1=(K.tk t').1->t=t'
 md:∀r∈K.md,K.base<=r/\w.heap[r]?=J (.deferred (J []))
 all:K.base=w0.heap.size
def Addr.ji(g o n):(⟨g,o,aq⟩:Addr).add n=⟨g,o+n,aq⟩:=by unfold Addr.add;simp_all
def qV{h}{t}(c:alive h t=aa):t<h.tn:=by unfold alive at c;simp_all
section
variable {K:bA} {G:Nat->Option (List V)} {ok:a_->Nat->Code->Bool} {w0 w:b_} {h:ah}
def bZ.wD(s:bZ K G ok w0 h w){g j:Nat}{c:aQ}(d:K.ic g j=J c):g<w.heap.size:=by
 have:=s.ic g j c d;unfold World.cell? at this
 grind
def bZ.same{w':b_}(s:bZ K G ok w0 h w)(c:w'.heap=w.heap)(g:w'.tape=w.tape)(r:w'.os=w.os)(t:w'.output=w.output):bZ K G ok w0 h w':=by
 have d:∀a,w'.cell? a=w.cell? a:=λa=>by simp[World.cell?,c]
 have L:∀a,w'.frozen? a=w.frozen? a:=λa=>by simp[World.frozen?,c]
 refine⟨⟨r.trans s.fG.os,g.trans s.fG.tape,t.trans s.fG.output,by rw[c];exact s.fG.size,λk p=>by rw[c];exact s.fG.block k p⟩,by rw[c];exact s.size,
  λl j v n=>(d _).trans (s.ic l j v n),s.ec,s.jd,s.nQ,λb l cs m d=>by rw[c];exact s.box b l cs m d,s.mM,s.oW,
  λN l u q f=>by rw[c];exact s.loop N l u q f,s.tn,λS g=>?_,s.oj,λu f=>by rw[c];exact s.md u f,s.all⟩
 obtain⟨y,z,A,cells,e,x,C,E,H⟩:=s.tok S g;simp_all
def bZ.drew(s:bZ K G ok w0 h w)(n:Nat):bZ K G ok w0 h {w with drawn:=n}:=s.same O O O rfl
def Cc(w:b_)(o){k}(c:k<w.heap.size):(w.heap.push o)[k]?=w.heap[k]?:=by
 grind
def pO{w:b_}{g}{o}(h:w.heap[g]?=J o):g<w.heap.size:=by
 grind
def bZ.push(s:bZ K G ok w0 h w)(o:Obj):bZ K G ok w0 h {w with heap:=w.heap.push o}:=by
 have c:∀{k:Nat} {r:Obj},w.heap[k]?=J r->(w.heap.push o)[k]?=J r:=λc=>(Cc w o (pO c)).trans c;refine⟨⟨s.fG.os,s.fG.tape,s.fG.output,by have:=s.fG.size;grind,λk c=>(Cc w o (mQ c s.size)).trans (s.fG.block k c)⟩,by have:=s.size;grind,
  λp j E q=>?_,s.ec,s.jd,s.nQ,λb p cs y z=>?_,s.mM,s.oW,λN p t n d=>?_,s.tn,λS C=>?_,s.oj,λt d=>?_,s.all⟩
 .rw[<-s.ic p j E q];exact World.cell?_of_block (w:=w) (Cc w o (s.wD q))
 .obtain⟨f,g,L,cells,e,l,m⟩:=s.box b p cs y z;simp_all
 .obtain⟨f,H,D,T,g,l⟩:=s.loop N p t n d
  grind
 .obtain⟨f,g,l,cells,e,u,m,v,x⟩:=s.tok S C;refine⟨f,g,l,cells,e,u,c m,v,λj A n=>?_⟩;rw[<-x j A n];exact World.frozen?_of_block (w:=w) (Cc w o (pO m))
 .exact⟨(s.md t d).1,c (s.md t d).2⟩
def EV{α:Type}{l}{x}{i:Nat}{y:α}(h:l[i]?=J y):(l++[x])[i]?=J y:=by
 grind
def qZ{α:Type}{l}{x}{i}{y:α}(h:(l++[x])[i]?=J y):l[i]?=J y∨(i=F l/\y=x):=by
 grind
def bA.nw(K:bA)(g:Nat)(x:Option (Nat × Nat × Nat)):bA:={K with β:=K.β++[g],lb:=λb=>if b=F K.β then x else K.lb b}
def bA.box(K:bA)(g:Nat):bA:=K.nw g aq
def bA.Az(K:bA)(g)(x):K.Le (K.nw g x):=
 ⟨O,λ_ _ _ h=>h,λ_ _ h=>EV h,λ_ _ h=>h,bh _,λ_ _=>rfl,λ_ h=>h,λb c=>aV af,λ_ _ _ h=>.inl h⟩
def bA.Ph(K:bA)(g):K.Le (K.box g):=K.Az g aq
def bZ.PG(s:bZ K G ok w0 h w){cs:List V}{cells:Array aQ}(e:aO)(x:Option (Nat × Nat × Nat))(Z:aR K cs (cells.toList.take (F cs)))(C:cs.all V.dt=aa)
 (hx:∀z0 sz t,x=J (z0,sz,t)->cs=[]∨(F cs=z0*sz/\t<=cells.size)):
 bZ (K.nw w.heap.size x) G ok w0 {h with I:=h.I++[cs]} {w with heap:=w.heap.push (.cells cells e)}/\
 aZ (K.nw w.heap.size x) (.ptr (.box (F h.I)) 0) (.pointer (J ⟨w.heap.size,0,aq⟩)):=by
 have le:=K.Az w.heap.size x;have p:=s.push (.cells cells e);have y:(K.nw w.heap.size x).β[F h.I]?=J w.heap.size:=by simp[bA.nw,<-s.jd]
 have dD:∀{b n:Nat},K.β[b]?=J n->n<w.heap.size:=λ{b n} d=>by
  have D:b<F h.I:=by rw[<-s.jd];exact(bk.1 d).1
  obtain⟨_,_,_,_,_,m,_⟩:=s.box b n _ d (aY D)
  grind
 have v:∀j,K.ic w.heap.size j=aq:=λj=>by
  cases g:K.ic w.heap.size j with|none=>rfl|some z5=>have:=s.wD g;omega
 refine⟨⟨p.fG,p.size,p.ic,λn cs T=>?_,by simp[bA.nw,s.jd],λb b' n d r=>?_,λb n u d g=>?_,p.mM,p.oW,λz3 n z4 X Y=>?_,p.tn,λz1 E=>?_,p.oj,p.md,s.all⟩,.box _ _ _ y⟩
 .obtain⟨c,l,f⟩:=s.ec n cs T;exact⟨c,l.mono le,f⟩
 .rcases qZ d with d|⟨rfl,rfl⟩<;>rcases qZ r with r|⟨rfl,f⟩
  .rcases s.nQ _ _ _ d r with p|p|p<;>grind
  .grind
  .grind
  omega
 .rcases qZ d with d|⟨rfl,rfl⟩
  .rcases qZ g with g|⟨rfl,rfl⟩
   .obtain⟨l,f,S,c,e',m,q⟩:=p.box b n u d g;exact⟨l,f,S,c,e',m,q.mono le (bk.1 d).1⟩
   grind
  .have:u=cs:=(by rw[s.jd]at g;simp at g;exact g.symm);subst this;exact⟨s.size,v,C,cells,e,by simp,Z.mono le,by simp only[bA.nw,if_true];exact hx⟩
 .obtain⟨l,H,z,z2,f,m,q⟩:=p.loop z3 n z4 X Y;exact⟨l,H,z,z2,f,m.mono le,q⟩
 .obtain⟨l,f,m,c,e',L,q,N⟩:=p.tok z1 E;refine⟨l,λb d=>?_,m,c,e',L,q,N⟩;obtain⟨_,_,_,_,_,_,A,_⟩:=s.tok z1 E;rcases qZ d with d|⟨_,d⟩
  .exact f b d
  .have:=pO A;simp only[bA.nw]at d;omega
def aR.whole{cs:List V}{vs:List aQ}(h:aR K cs vs):aR K cs (vs.take (F cs)):=by rw[fK (by rw[h.length];omega)];exact h
def bZ.PE(s:bZ K G ok w0 h w){cs:List V}{cells:Array aQ}(e:aO)(d:aR K cs cells.toList)(c:cs.all V.dt=aa):
 bZ (K.box w.heap.size) G ok w0 {h with I:=h.I++[cs]} {w with heap:=w.heap.push (.cells cells e)}/\
 aZ (K.box w.heap.size) (.ptr (.box (F h.I)) 0) (.pointer (J ⟨w.heap.size,0,aq⟩)):=s.PG e aq d.whole c (λ_ _ _ f=>by cases f)
structure lM(w w':b_)(g:Nat)(o:Obj):Prop where
 os:w'.os=w.os
 tape:w'.tape=w.tape
 output:w'.output=w.output
 size:w'.heap.size=w.heap.size
 other:∀k,k≠g->w'.heap[k]?=w.heap[k]?
 this:w'.heap[g]?=J o
def lM.lt{w w'}{g}{o}(c:lM w w' g o):g<w.heap.size:=c.size ▸ pO c.this
def lM.below{w w'}{g}{o}(c:lM w w' g o){B}(d:B<=g):Below B w w':=
 ⟨c.os,c.tape,c.output,by rw[c.size];omega,λk f=>c.other k af⟩
def me(fz:Nat × Nat)(j:Nat):Bool:=decide (fz.1<=j)&&decide (j<fz.2)
def we{w:b_}{g}{cells}{e}{fz}(h:w.heap[g]?=J (.cells cells e fz))(j):w.frozen? ⟨g,j,aq⟩=me fz j:=by obtain⟨d,c⟩:=fz;simp[World.frozen?,h,me]
def cell_of{w:b_}{g}{cells}{e}{fz}(h:w.heap[g]?=J (.cells cells e fz))(j):w.cell? ⟨g,j,aq⟩=cells[j]?:=by simp[World.cell?,h]
def bZ.UU(s:bZ K G ok w0 h w)(b:Nat):bZ K G ok w0 {h with I:=h.I.set b []} w:=by
 refine⟨s.fG,s.size,s.ic,s.ec,by simp[s.jd],λA C E r t=>?_,λm q g f c=>?_,s.mM,s.oW,s.loop,s.tn,s.tok,s.oj,s.md,s.all⟩
 .have z:∀k,h.I[k]?=J []->(h.I.set b [])[k]?=J []:=λk u=>by
   rw[mq];split
   .rename_i e;subst e;rw[aH (bk.1 u).1]
   omega
  rcases s.nQ _ _ _ r t with p|p|p<;>simp_all
 .simp only[mq]at c;split at c
  .rename_i e';subst e';split at c
   .rename_i l;injection c with c;subst c;obtain⟨v,x,_,d,n,y,D⟩:=s.box _ _ _ f (aY l);exact⟨v,x,O,d,n,y,.nil⟩
   simp_all
  .exact s.box m q g f c
def bZ.at7{w':b_}(s:bZ K G ok w0 h w){b g:Nat}{cs u:List V}{cells:Array aQ}{e:aO}(v:K.β[b]?=J g)(hold:h.I[b]?=J u)(z:u≠[])(qu:F cs=F u)(hJ:∀c0 Y,w.heap[g]?=J (.cells c0 Y (0,0))->c0.size<=cells.size)
 (c:lM w w' g (.cells cells e (0,0))) (hv:aR K cs (cells.toList.take (F cs))) (Z:cs.all V.dt=aa):bZ K G ok w0 {h with I:=h.I.set b cs} w':=by
 have dD:=(bk.1 hold).1;obtain⟨E,H,_,T,Y,y,k4⟩:=s.box b g _ v hold;refine⟨s.fG.trans (c.below E),by rw[c.size];grind,λm j z5 D=>?_,s.ec,by simp[s.jd],λb1 b2 g r f=>?_,λb' m X q n=>?_,s.mM,s.oW,λz3 m L C x=>?_,s.tn,λz0 ht=>?_,s.oj,λL x=>?_,s.all⟩
 .have z:m≠g:=by rintro rfl;rw[H j]at D;cases D
  rw[<-s.ic m j z5 D];exact World.cell?_of_block (w:=w) (c.other m z)
 .have key:∀k,h.I[k]?=J []->(h.I.set b cs)[k]?=J []:=λk hk=>by
   rw[mq,aV]
   .exact hk
   grind
  rcases s.nQ _ _ _ r f with p|p|p<;>simp_all
 .simp only[mq]at n;split at n
  .rename_i e';subst e';injection n with n;subst n;rw[v]at q;injection q with q;subst q;refine⟨E,H,Z,cells,e,c.this,hv,λz1 sz N z4=>?_⟩;rcases k4.2 z1 sz N z4 with L|⟨r1,r2⟩<;>grind
  .rename_i rO;by_cases d:m=g
   .subst d;rcases s.nQ _ _ _ v q with p|p|p
    .omega
    .simp_all
    .rw[n]at p;injection p with p;subst p;exact⟨E,H,O,cells,e,c.this,.nil⟩
   .obtain⟨r,f,ha,l,e',t,A⟩:=s.box b' m X q n;exact⟨r,f,ha,l,e',(c.other m d).trans t,A⟩
 .obtain⟨r,fn,S,z2,f,t⟩:=s.loop z3 m L C x;have d:m≠g:=by rintro rfl;rw[f]at y;cases y
  exact⟨r,fn,S,z2,(c.other m d).trans f,t⟩
 .obtain⟨r,f,t,l,e',fz,A,h5,h6⟩:=s.tok z0 ht;have d:(K.tk z0).1≠g:=λe=>f b (e ▸ v);refine⟨r,f,t,l,e',fz,(c.other _ d).trans A,h5,λj hj C=>?_⟩;rw[<-h6 j hj C];exact World.frozen?_of_block (w:=w) (c.other _ d)
 .have f:=(s.md L x).2;have d:L≠g:=by rintro rfl;rw[f]at y;cases y
  exact⟨(s.md L x).1,(c.other L d).trans f⟩
def bZ.abA{w':b_}(s:bZ K G ok w0 h w){g:Nat}{cs:List V}{cells:Array aQ}{e:aO}(L:K.base<=g)(H:∀j,K.ic g j=aq)(D:∀b:Nat,K.β[b]?=J g->h.I[b]?=J [])
 (T:∀t,alive h t=aa->(K.tk t).1≠g) {c0:Array aQ} {e0:aO} {z0:Nat × Nat} (n:w.heap[g]?=J (.cells c0 e0 z0))
 (x:Option (Nat × Nat × Nat)) (X:∀z1 sz A,x=J (z1,sz,A)->cs=[]∨(F cs=z1*sz/\A<=cells.size))
 (c:lM w w' g (.cells cells e (0,0))) (hv:aR K cs (cells.toList.take (F cs))) (zN:cs.all V.dt=aa):
 bZ (K.nw g x) G ok w0 {h with I:=h.I++[cs]} w'/\(K.nw g x).β[F h.I]?=J g:=by
 have le:=K.Az g x;have S:(K.nw g x).β[F h.I]?=J g:=by simp[bA.nw,<-s.jd]
 refine⟨⟨s.fG.trans (c.below L),by rw[c.size];exact s.size,λl j x X=>?_,λl q hg'=>?_,by simp[bA.nw,s.jd],λb b' l z hb'=>?_,λb l q z u=>?_,s.mM,s.oW,λz4 l r N E=>?_,s.tn,λt ht=>?_,s.oj,λr E=>?_,s.all⟩,S⟩
 .have Jf:K.ic l j=J x:=X;have gb:l≠g:=λz2=>by simp_all
  rw[<-s.ic l j x Jf];exact World.cell?_of_block (w:=w) (c.other l gb)
 .obtain⟨d,p,m⟩:=s.ec l q hg';exact⟨d,p.mono le,m⟩
 .rcases qZ z with C|⟨Y,p2⟩<;>rcases qZ hb' with z2|⟨q1,q2⟩
  .rcases s.nQ _ _ _ C z2 with r|r|r<;>grind
  .grind
  .grind
  omega
 .rcases qZ z with C|⟨Y,p2⟩
  .have qr:b<F h.I:=(by rw[<-s.jd];exact(bk.1 C).1);rw[rC qr]at u;by_cases f:l=g
   .subst f;have:=D b C;rw[u]at this;injection this with this;subst this;exact⟨L,H,O,cells,e,c.this,.nil⟩
   .obtain⟨p,m,ha,d,e',v,y⟩:=s.box b l q C u;exact⟨p,m,ha,d,e',(c.other l f).trans v,y.mono le (bk.1 C).1⟩
  .subst p2;have:q=cs:=(by rw[Y,s.jd]at u;simp at u;exact u.symm);subst this;exact⟨L,H,zN,cells,e,c.this,hv.mono le,by rw[Y];simp only[bA.nw,if_true];exact X⟩
 .obtain⟨p,fn,Z,z3,m,v,y⟩:=s.loop z4 l r N E;have f:l≠g:=by rintro rfl;rw[m]at n;cases n
  exact⟨p,fn,Z,z3,(c.other l f).trans m,v.mono le,y⟩
 .obtain⟨p,m,v,d,e',fz,y,h5,h6⟩:=s.tok t ht;have f:=T t ht;refine⟨p,λb z=>?_,v,d,e',fz,(c.other _ f).trans y,h5,λj hj N=>?_⟩
  .rcases qZ z with C|⟨-,C⟩
   .exact m b C
   .exact f C
  .rw[<-h6 j hj N];exact World.frozen?_of_block (w:=w) (c.other _ f)
 .have m:=(s.md r E).2;have f:r≠g:=by rintro rfl;rw[m]at n;cases n
  exact⟨(s.md r E).1,(c.other r f).trans m⟩
def bA.row(K:bA)(g off m size:Nat)(cells:Nat->Option aQ):bA:=
 {K with ic:=λc j=>if c=g/\off<=j/\j<m then cells j else K.ic c j,tn:=K.tn+1,tk:=λd=>if d=K.tn then (g,m,size) else K.tk d}
def bA.Pj{K:bA}{g off m size}{cells}(h:∀j,off<=j->K.ic g j=aq)(l:K.base<=g):K.Le (K.row g off m size cells):=by
 refine⟨O,λd j f c=>?_,λ_ _ h=>h,λ_ _ h=>h,Nat.le_succ _,λp n=>?_,λ_ h=>h,λ_ _=>rfl,λd j f c=>?_⟩
 .simp only[bA.row]
  grind
 .simp only[bA.row]
  grind
 .simp only[bA.row]at c
  grind
def bZ.row{w':b_}{h':ah}(s:bZ K G ok w0 h w){g off m:Nat}{cells:Array aQ}{e:aO}{fz:Nat × Nat}
 (A:h'.I=h.I) (H:h'.aI=h.aI) (OI:h'.tn=h.tn+1) (L:∀t,alive h' t=aa->t=h.tn∨(alive h t=aa/\(K.tk t).1≠g))
 (E:K.base<=g) (rO:∀b:Nat,K.β[b]?≠J g) (xY:∀j,off<=j->K.ic g j=aq) (hJ:w.heap.size<=w'.heap.size)
 (hos:w'.os=w.os) (akX:w'.tape=w.tape) (On:w'.output=w.output)
 (f:∀k o,k≠g->w.heap[k]?=J o->w'.heap[k]?=J o) (n:w'.heap[g]?=J (.cells cells e fz))
 (T:∀o,w.heap[g]?=J o->∃c0 e0 z0,o=.cells c0 e0 z0)
 (ayi:∀j c,K.ic g j=J c->cells[j]?=J c) (hom:off<=m) (_hm:m<=cells.size) (xW:∀j,m<=j->j<cells.size->me fz j=au):
 bZ (K.row g off m cells.size (λj=>cells[j]?)) G ok w0 h' w':=by
 have le:=bA.Pj (m:=m) (size:=cells.size) (cells:=λj=>cells[j]?) xY E;refine⟨?_,fB s.size hJ,λl j z4 X=>?_,λl cs hg=>?_,by rw[A];exact s.jd,by rw[A];exact s.nQ,λb l cs hb Z=>?_,by rw[H];exact s.mM,s.oW,λz3 l z1 N hr=>?_,by rw[OI];simp[bA.row,s.tn],
  λt ht=>?_,λt x ht OG r=>?_,λz1 hr=>?_,s.all⟩
 .refine s.fG.trans ⟨hos,akX,On,hJ,λk hk=>?_⟩;have dD:k<w.heap.size:=mQ hk s.size
  grind
 .simp only[bA.row]at X;split at X
  .rename_i Z;obtain⟨rfl,_,_⟩:=Z;rw[cell_of n];exact X
  .by_cases p:l=g
   .subst p;rw[cell_of n];simp_all
   .have dD:=s.wD X;rw[<-s.ic l j z4 X];refine World.cell?_of_block (w:=w) ?_;simp_all
 .obtain⟨d,v,q⟩:=s.ec l cs hg;exact⟨d,v.mono le,λj c C=>le.ic _ _ _ (q j c C)⟩
 .rw[A]at Z;obtain⟨v,q,ha,d,e',Y,z⟩:=s.box b l cs hb Z;have p:l≠g:=λe=>rO b (e ▸ hb);refine⟨v,λj=>?_,ha,d,e',f l _ p Y,z.mono le (bk.1 hb).1⟩;simp only[bA.row];simp_all
 .rw[H]at hr;obtain⟨v,fn,tmps,z2,q,Y,z⟩:=s.loop z3 l z1 N hr;have p:l≠g:=by rintro rfl;obtain⟨_,_,_,h⟩:=T _ q;cases h
  exact⟨v,fn,tmps,z2,f l _ p q,Y.mono le,z⟩
 .rcases L t ht with rfl|⟨u,S⟩
  .simp only[bA.row,s.tn,if_true];refine⟨E,rO,λj C=>?_,cells,e,fz,n,O,λj C N=>(we n j).trans (xW j C N)⟩
   grind
  .have ayH:=qV u;have y:(K.row g off m cells.size (λj=>cells[j]?)).tk t=K.tk t:=le.tk t (by rw[s.tn];omega);rw[y];obtain⟨v,q,Y,d,e',fz',z,h5,h6⟩:=s.tok t u;refine⟨v,q,λj C=>?_,d,e',fz',f _ _ S z,h5,λj C N=>?_⟩
   .simp only[bA.row];simp_all
   .rw[<-h6 j C N,we z,we (f _ _ S z)]
 .rcases L t ht with rfl|⟨u,S⟩<;>rcases L x OG with rfl|⟨D,ayF⟩
  .rfl
  .exfalso;have y:(K.row g off m cells.size (λj=>cells[j]?)).tk x=K.tk x:=le.tk x (by rw[s.tn];exact qV D);rw[y]at r;simp[bA.row,s.tn]at r;omega
  .exfalso;have y:(K.row g off m cells.size (λj=>cells[j]?)).tk t=K.tk t:=le.tk t (by rw[s.tn];exact qV u);rw[y]at r;simp[bA.row,s.tn]at r;omega
  .have y:(K.row g off m cells.size (λj=>cells[j]?)).tk t=K.tk t:=le.tk t (by rw[s.tn];exact qV u);have e2:(K.row g off m cells.size (λj=>cells[j]?)).tk x=K.tk x:=le.tk x (by rw[s.tn];exact qV D);rw[y,e2]at r;exact s.oj t x u D r
 .obtain⟨v,q⟩:=s.md z1 hr;have p:z1≠g:=by rintro rfl;obtain⟨_,_,_,h⟩:=T _ q;cases h
  exact⟨v,f z1 _ p q⟩
def bA.aP(K:bA)(g:Nat)(cells:Array aQ):bA:={K with ic:=λc j=>if c=g then cells[j]? else K.ic c j}
def bZ.anK(s:bZ K G ok w0 h w)(cells:Array aQ)(e:aO):
 K.Le (K.aP w.heap.size cells)/\bZ (K.aP w.heap.size cells) G ok w0 h {w with heap:=w.heap.push (.cells cells e)}:=by
 have L:∀j,K.ic w.heap.size j=aq:=λj=>by
  cases d:K.ic w.heap.size j with|none=>rfl|some y=>have:=s.wD d;omega
 have le:K.Le (K.aP w.heap.size cells):=by
  refine⟨O,λn j y d=>?_,λ_ _ h=>h,λ_ _ h=>h,bh _,λ_ _=>rfl,λ_ h=>h,λ_ _=>rfl,λn j y d=>by
   simp only[bA.aP]at d;split at d
   .rename_i z0;rw[z0];exact .inr s.size
   simp_all⟩
  simp only[bA.aP];rw[aV]
  .exact d
  .grind
 have l:=s.push (.cells cells e);refine⟨le,l.fG,l.size,λn j z2 r=>?_,λn cs H=>?_,l.jd,l.nQ,λb n cs q d=>?_,l.mM,l.oW,λZ n z1 N S=>?_,l.tn,λz x=>?_,l.oj,l.md,s.all⟩
 .simp only[bA.aP]at r;split at r
  .simp_all
  .exact l.ic n j z2 r
 .obtain⟨c,f,g⟩:=s.ec n cs H;exact⟨c,f.mono le,λj y v=>le.ic _ _ _ (g j y v)⟩
 .obtain⟨f,g,E,c,e',p,m⟩:=l.box b n cs q d;refine⟨f,λj=>?_,E,c,e',p,m.mono le (bk.1 q).1⟩;simp only[bA.aP];obtain⟨_,_,_,_,_,T,_⟩:=s.box b n cs q d
  grind
 .obtain⟨f,A,t,X,g,p,m⟩:=l.loop Z n z1 N S;exact⟨f,A,t,X,g,p.mono le,m⟩
 .obtain⟨f,g,p,c,e',C,m,D⟩:=l.tok z x;obtain⟨_,_,_,_,_,_,u,_⟩:=s.tok z x;refine⟨f,g,λj v=>?_,c,e',C,m,D⟩;simp only[bA.aP];have:=pO u;have Y:(K.aP w.heap.size cells).tk z=K.tk z:=rfl
  grind
end
section
variable {P:bL}
def dB{t:aO}{d:TypeDesc}(h:P.underlying t=J d)(w:b_):(underlying t).run P w=.ok d w:=run_underlying h w
def pT{t:aO}{i:TypeInfo}(h:P.info? t=J i)(w:b_):(typeInfo t).run P w=.ok i w:=by simp[typeInfo,h]
def aui{t:aO}{n:Nat}(h:cQ P t=J n):∃i,P.info? t=J i/\i.size=n:=by simpa [cQ] using h
def mJ{t:aO}{n:Nat}(h:cQ P t=J n)(w:b_):(sizeOf t).run P w=.ok n w:=by obtain⟨i,c,d⟩:=aui h;simp[sizeOf,pT c,d]
def Ko{t:aO}{b:Bool}(h:f' P t=J b)(w:b_):(isAgg t).run P w=.ok b w:=by
 unfold f' at h;unfold isAgg;cases c:P.underlying t with|none=>simp_all|some d=>rw[c]at h;rw[Sem.run_bind,dB c];cases d<;>(injection h with h;subst h;rfl)
def QU{t:aO}{z:V}(h:gp P t=J z)(w:b_):∃v,(zeroValue t).run P w=.ok v w/\z=pP v:=by
 unfold gp at h;split at h
 .rename_i i c;simp only[dK]at h;obtain⟨v,d,rfl⟩:=h;exact⟨v,by simp[zeroValue,pT c,d],O⟩
 grind
def Nj{α:Type}{es:List (List α)}{sz}(c:∀r∈es,F r=sz):∀{i:Nat} {row:List α},es[i]?=J row->(es.flatten.drop (i*sz)).take sz=row:=by
 induction es with
 |nil=>simp_all|cons r es f=>
  have d:F r=sz:=c r cE;intro i row h;cases i with|zero=>simp_all|succ i=>have:=f (λr g=>c r (by grind)) (i:=i) (row:=row) (by simp_all);rw[<-this];simp only[kJ];rw[yJ,show(i+1)*sz=F r+i*sz by rw[d,jm];omega];rw[oo af];simp
def Nk{α:Type}{es:List (List α)}{sz}(c:∀r∈es,F r=sz):∀n:Nat,(es.take n).flatten=es.flatten.take (n*sz):=by
 induction es with
 |nil=>simp_all|cons r es f=>
  have d:F r=sz:=c r cE;intro n;cases n with
  |zero=>simp|succ n=>
   rw[List.take_succ_cons,kJ,kJ,f (λr g=>c r (by grind)) n,show(n+1)*sz=F r+n*sz by rw[d,jm];omega]
   grind
def Ve{α:Type}{es:List (List α)}{sz}(c:∀r∈es,F r=sz):∀n:Nat,(es.drop n).flatten=es.flatten.drop (n*sz):=by
 induction es with
 |nil=>simp_all|cons r es f=>
  have d:F r=sz:=c r cE;intro n;cases n with|zero=>simp|succ n=>rw[List.drop_succ_cons,kJ,f (λr g=>c r (by grind)) n,show(n+1)*sz=F r+n*sz by rw[d,jm];omega];rw[yJ,oo (af:F r<=F r+n*sz),(af:F r+n*sz-F r=n*sz)];simp
def nA{α:Type}{es:List (List α)}{sz}(c:∀r∈es,F r=sz):F es.flatten=F es*sz:=by
 induction es with
 |nil=>simp|cons r es d=>
  grind
end
section
variable {P:bL} {K:bA} {G:Nat->Option (List V)} {ok:a_->Nat->Code->Bool} {w0 w:b_} {h:ah}
def βJ{b:Nat}{g:Nat}(s:bZ K G ok w0 h w)(c:K.β[b]?=J g):∃cs,h.I[b]?=J cs:=by
 have d:b<F h.I:=by rw[<-s.jd];exact(bk.1 c).1
 simp_all
def Uk(s:bZ K G ok w0 h w){a:V}{cs:List V}(f:zw G h a=J cs){ca:aQ}(t:aZ K a ca):
 ∃g p m,ca=.pointer (J ⟨g,p,aq⟩)/\aR K cs m/\∀(j:Nat) (c:aQ),m[j]?=J c->w.cell? ⟨g,p+j,aq⟩=J c:=by
 unfold zw at f;split at f
 .rename_i S d;simp only[dK]at f;obtain⟨l,n,rfl⟩:=f;cases t with
  |box b g _ A=>
   obtain⟨_,_,_,cells,e,y,z⟩:=s.box b g l A n;refine⟨g,d,(cells.toList.take (F l)).drop d,O,z.1.drop d,λj c r=>?_⟩;rw[cell_of y]
   grind
  |ec g _=>obtain⟨cells,v,x⟩:=s.ec g l n;refine⟨g,d,cells.drop d,O,v.drop d,λj c r=>?_⟩;exact s.ic _ _ _ (x (d+j) c (by simp_all))
 .rename_i q E i d;simp only[dK]at f;obtain⟨row,n,rfl⟩:=f;cases t with
  |elem _ _ _ _ g o p cells C u D L N H=>
   refine⟨g,p,((cells.drop (i*q)).take q).drop d,O,?_,λj c r=>?_⟩
   .have:=((u.drop (i*q)).take q).drop d
    rwa [Nj C n]at this
   .refine s.ic _ _ _ ?_
    grind
 grind
def YA(s:bZ K G ok w0 h w){t:aO}{a x:V}(c:aL P G h t a=J x){ca:aQ}(u:aZ K a ca):
 ∃g p v,ca=.pointer (J ⟨g,p,aq⟩)/\(loadVar t ⟨g,p,aq⟩).run P w=.ok v w/\aZ K x v:=by
 unfold aL at c;split at c
 .rename_i cs m n;obtain⟨g,p,d,rfl,l,f⟩:=Uk s n u;split at c
  .rename_i y z;split at c
   .rename_i E;injection c with c;subst c;have r:=run_loadCells_list (P:=P) w ⟨g,p,aq⟩ (d.take y) (λj v H=>by
     rw[Addr.ji]
     grind)
    have q:F (d.take y)=y:=(by rw[dJ,<-l.length];omega);rw[q]at r;exact⟨g,p,.agg (d.take y).toArray,O,by simp[loadVar,Ko m,mJ z,r],.agg _ _ (by simpa using l.take y)⟩
   grind
  grind
 .rename_i cs m n;obtain⟨g,p,d,rfl,l,f⟩:=Uk s n u;cases cs with
  |nil=>grind
  |cons N cs=>
   simp at c;subst c;cases l with|cons _ C _ D A L=>have:=f 0 C O;simp only[yR]at this;exact⟨g,p,C,O,by simp[loadVar,Ko m,this],A⟩
 grind
def Dx{g:Nat}(off:Nat)(e:aO)(fz:Nat × Nat):∀(vs:List aQ) (i:Nat) (cells:Array aQ) (w:b_),
 w.heap[g]?=J (.cells cells e fz)->off+i+F vs<=cells.size->(∀v∈vs,mY v=aa)->(∀j,off+i<=j->j<off+i+F vs->me fz j=au)->
 ∃w' ea,(storeCells ⟨g,off,aq⟩ vs i).run P w=.ok () w'/\lM w w' g (.cells ea e fz)/\
  ea.toList=cells.toList.take (off+i)++vs++cells.toList.drop (off+i+F vs):=by
 intro vs
 induction vs with
 |nil=>intro i cells w l r d m;exact⟨w,cells,O,⟨O,O,O,O,λ_ _=>rfl,l⟩,by simp⟩|cons v rest A=>
  intro i cells w l r d m;simp only[eZ]at r m;have q:off+i<cells.size:=by omega
  have z:v.oneCell'=aa:=by have:=d v cE;cases v<;>first|rfl|simp[mY]at this
  have s:(store ((⟨g,off,aq⟩:Addr).add i) v).run P w=.ok () (w.setCell ⟨g,off+i,aq⟩ v):=by rw[Addr.ji,run_store P w _ v _ z,cell_of l,we l,m (off+i) af af,kn q];simp
  have n:(w.setCell ⟨g,off+i,aq⟩ v).heap[g]?=J (.cells (cells.setIfInBounds (off+i) v) e fz):=by simp[World.setCell,DM,l]
  obtain⟨w',ea,y,c,f⟩:=A (i+1) _ _ n (by grind) (λN L=>d N (by grind)) (λj H C=>m j af af);refine⟨w',ea,by simp only[storeCells,Sem.run_bind,s,Result.andThen_ok,y],⟨c.os,c.tape,c.output,by rw[c.size];simp_all,λk x=>?_,c.this⟩,?_⟩
  .rw[c.other k x];simp only[World.setCell,DM]
   grind
  .rw[f];simp only[abU,eZ];have p:off+i<F cells.toList:=(by simpa using q);rw[yQ,aH p];rw[(af:off+(i+1)=off+i+1),(af:off+i+(F rest+1)=off+i+1+F rest)];rw[LM,yJ];have d:F (cells.toList.take (off+i))=off+i:=(by simp;omega);rw[d];have t:(cells.toList.take (off+i)).take (off+i+1)=cells.toList.take (off+i):=fK af;have u:(cells.toList.take (off+i)).drop (off+i+1+F rest)=[]:=oo af;rw[t,u];have D:off+i+1-(off+i)=1:=(by omega);have E:off+i+1+F rest-(off+i)=F rest+1:=(by omega);simp_all
def atu{g off c ba:Nat}{e:aO}(f:c=off∨ba=0){vs:List aQ}{cells:Array aQ}{w:b_}(n:ba=0->vs=[])(d:w.heap[g]?=J (.cells cells e (0,0)))(p:off+F vs<=cells.size)(m:∀v∈vs,mY v=aa):
 ∃w' ea,(storeCells ⟨g,c,aq⟩ vs 0).run P w=.ok () w'/\lM w w' g (.cells ea e (0,0))/\ea.toList=cells.toList.take (off+0)++vs++cells.toList.drop (off+0+F vs):=by
 rcases f with rfl|l
 .exact Dx _ e (0,0) vs 0 cells w d af m (λj _ _=>by simp[me])
 .have:=n l;subst this;exact⟨w,cells,O,⟨O,O,O,O,λ_ _=>rfl,d⟩,by simp⟩
def aaY{c cs:List V}{f d:List aQ}(off:Nat)(g:aR K c f)(l:aR K cs d):aR K (ej c off cs) (f.take off++d++f.drop (off+F d)):=by unfold ej;rw[l.length];exact((g.take off).append l).append (g.drop _)
def aaX{c cs}(off)(d:c.all V.dt=aa)(f:cs.all V.dt=aa):(ej c off cs).all V.dt=aa:=by
 rw[ff]at d f ⊢;intro l g;simp only[ej,List.mem_append]at g
 grind
def Q7{α:Type}{c d:List α}{off}(h:off+F d<=F c):F (c.take off++d++c.drop (off+d.length))=F c:=by
 grind
def auD{α:Type}{d c:List α}{off n}(h:off+F c<=n)(m:n<=F d):(d.take off++c++d.drop (off+F c)).take n=(d.take n).take off++c++(d.take n).drop (off+F c):=by
 have f:(d.take n).take off=d.take off:=by grind
 have g:(d.take n).drop (off+F c)=(d.drop (off+F c)).take (n-(off+F c)):=by rw[List.drop_take]
 rw[f,g,LM];have l:F (d.take off++c)=off+F c:=by simp;omega
 rw[fK af,l]
def lM.same{w w'}{g}{o}(c:lM w w' g o)(h:w.heap[g]?=some o):w'.heap=w.heap:=by
 apply Array.ext_getElem?;intro k;by_cases d:k=g
 .subst d;rw[c.this,h]
 .exact c.other k d
def bZ.Rf{w':b_}(s:bZ K G ok w0 h w){b g off:Nat}{cs f:List V}{vs:List aQ}{cells ea:Array aQ}{e:aO}(x:K.β[b]?=J g)(hold:h.I[b]?=J f)(q:off+F cs<=F f)
 (l:w.heap[g]?=J (.cells cells e (0,0))) (c:lM w w' g (.cells ea e (0,0))) (d:ea.toList=cells.toList.take (off+0)++vs++cells.toList.drop (off+0+F vs)) (n:aR K cs vs) (v:cs.all V.dt=aa):
 bZ K G ok w0 {h with I:=h.I.set b (ej f off cs)} w':=by
 obtain⟨X,Y,S,u,E,m,C⟩:=s.box b g f x hold;rw[l]at m;injection m with m;injection m with m T;subst m;simp only[yR]at d;have z:F f<=F cells.toList:=by have:=C.le;simpa using this
 by_cases p:f=[]
 .subst p;have H:cs=[]:=by cases cs with|nil=>rfl|cons _ _=>simp_all
  subst H;have A:vs=[]:=by cases n;rfl
  subst A;have N:ea=cells:=by apply Array.toList_inj.1;rw[d];simp
  subst N;have L:=c.same l;have r:h.I.set b (ej [] off [])=h.I:=by
   rw[show ej ([]:List V) off []=[] by simp[ej]];apply oq;intro k;rw[mq];split
   .grind
   .rfl
  rw[r];exact s.same L c.tape c.os c.output
 .have y:F (ej f off cs)=F f:=by unfold ej;exact Q7 q
  refine s.at7 x hold p y (λc0 E t=>?_) c ?_ (aaX off S v)
  .rw[l]at t;injection t with t;injection t with t;subst t;have:F ea.toList=F cells.toList:=by rw[d];exact Q7 (by rw[<-n.length];omega)
   grind
  .rw[y,d,auD (by rw[<-n.length];omega) z];exact aaY off C.1 n
def yX{cs:List V}{vs:List aQ}(h:aR K cs vs)(c:cs.all V.dt=aa):∀v∈vs,mY v=aa:=by intro v g;obtain⟨i,d⟩:=List.getElem?_of_mem g;obtain⟨m,l,f⟩:=h.get' d;exact alO (ff.1 c m (dy l)) f
def BY(j):me (0,0) j=au:=by simp[me]
def avi(s:bZ K G ok w0 h w){t:aO}{a x:V}{h':ah}(c:b9 P h t a x=J h'){ca d:aQ}(A:aZ K a ca)(C:aZ K x d):
 ∃w',(Instr.storeAt t ca d).run P w=.ok () w'/\bZ K G ok w0 h' w':=by
 unfold b9 at c;split at c
 .rename_i b u cs Y p y;split at c
  .rename_i f hold;split at c
   .rename_i g;injection c with c;subst c;cases A with|box _ N _ n=>obtain⟨S,T,X,cells,e,r,D⟩:=s.box b N f n hold;obtain⟨l,v⟩:=HR p C;have q:d.cells.size=Y:=(by rw[<-g.1,l.length];simp);have z:F f<=cells.size:=D.le;obtain⟨w',m,E,H,L⟩:=Dx (P:=P) u e (0,0) d.cells.toList 0 cells w r (by grind) (yX l v) (λj _ _=>BY j);refine⟨w',by simp[Instr.storeAt,Instr.sureAddr,storeVar,mJ y,q,E],s.Rf n hold af r H L l v⟩
   grind
  grind
 grind
end
section
variable {P:bL} {K:bA} {G:Nat->Option (List V)} {ok:a_->Nat->Code->Bool} {w0 w:b_} {h:ah}
def Yields(K:bA)(G:Nat->Option (List V))(ok:a_->Nat->Code->Bool)(w0:b_)(x:V)(h':ah)(r:Result Next):Prop:=
 ∃c d w',K.Le c/\bZ c G ok w0 h' w'/\aZ c x d/\(r=.ok (.value d) w'∨(r=.ok .skip w'/\d=undef))
def Yields.mi(s:bZ K G ok w0 h w){x:V}{v:aQ}(d:aZ K x v){r:Result Next}(c:r=.ok (.value v) w):Yields K G ok w0 x h r:=
 ⟨K,v,w,.refl K,s,d,.inl c⟩
def aiO(off):∀(l:List aQ) (i:Nat) (cells:Array aQ),off+i+F l<=cells.size->
 ((l.zipIdx i).foldl (λcs p=>cs.setIfInBounds (off+p.2) p.1) cells).toList=cells.toList.take (off+i)++l++cells.toList.drop (off+i+F l):=by
 intro l
 induction l with
 |nil=>simp_all|cons t rest q=>
  intro i cells n;simp only[eZ]at n;have m:off+i<cells.size:=by omega
  simp only[List.zipIdx_cons,List.foldl_cons];rw[q (i+1) _ (by grind)];simp only[abU,eZ];have c:off+i<F cells.toList:=by simpa using m
  rw[yQ,aH c];rw[(af:off+(i+1)=off+i+1),(af:off+i+(F rest+1)=off+i+1+F rest)];rw[LM,yJ];have d:F (cells.toList.take (off+i))=off+i:=by simp;omega
  rw[d];have f:(cells.toList.take (off+i)).take (off+i+1)=cells.toList.take (off+i):=fK af;have g:(cells.toList.take (off+i)).drop (off+i+1+F rest)=[]:=oo af;rw[f,g];have r:off+i+1-(off+i)=1:=by omega
  have s:off+i+1+F rest-(off+i)=F rest+1:=by omega
  simp_all
def axi(f)(vs cells:Array aQ):vs.zipIdx.foldl f cells=(vs.toList.zipIdx 0).foldl f cells:=by rw[<-Array.foldl_toList,Array.toList_zipIdx]
def U8{g}:∀{aW:List (Nat × V)} {cells d:List V},rM g cells aW=J d->cells.all V.dt=aa->d.all V.dt=aa:=by
 intro aW
 induction aW with
 |nil=>intro cells d f m;simp[rM]at f;simp_all|cons u rest s=>
  intro cells d f m;simp only[rM]at f;split at f
  .rename_i n t cs v c;split at f
   .refine s f (aaX n m ?_);unfold V.bP at c;split at c
    .simp_all
    .grind
    .grind
    .rename_i p q r;injection c with c;subst c;have x:u.2.dt=aa:=by cases l:u.2<;>first|rfl|exact absurd l (p _)|exact absurd l (q _)|exact absurd l r
     grind
   grind
  grind
def Ic{l:Nat->Option (Nat × Nat)}:∀{aW:List (Nat × V)} {cells g:List V} {c:List (Nat × aQ)} {ea:Array aQ},
 rM l cells aW=J g->aR K cells ea.toList->(c.map (·.1)=aW.map (·.1))->aR K (aW.map (·.2)) (c.map (·.2))->
 ∃d,Instr.fill l ea c=J d/\aR K g d.toList:=by
 intro aW
 induction aW with
 |nil=>
  intro cells g c ea f p m r;have:c=[]:=by simpa using m
  subst this;simp[rM]at f;subst f;exact⟨ea,O,p⟩
 |cons X rest D=>
  obtain⟨i,Z⟩:=X;intro cells g c ea f p m r;cases c with
  |nil=>grind
  |cons E x=>
   obtain⟨T,L⟩:=E;simp only[dR,R9]at m;obtain⟨rfl,m⟩:=m;simp only[dR]at r;cases r with
   |cons _ _ _ _ C z=>
    simp only[rM]at f;split at f
    .rename_i n t cs y u;split at f
     .rename_i s;obtain⟨v,_⟩:=HR u C;have N:L.cells.size=t:=(by rw[<-s.1,v.length];simp);have A:ea.size=F cells:=(by rw[p.length];simp);have q:=aiO n L.cells.toList 0 ea (by grind);obtain⟨d,Y,H⟩:=D (ea:=L.cells.zipIdx.foldl (λcs (S,j)=>cs.setIfInBounds (n+j) S) ea) f (by rw[axi,q];simpa using aaY n p v) m z;refine⟨d,?_,H⟩;simp only[Instr.fill,y];simp_all
     grind
    grind
def PW{ρ:ck->V}{ρ':ck->aQ}(c:∀x,aZ K (ρ x) (ρ' x))(aW:Array (Nat × ck)):
 ((aW.map λp=>(p.1,ρ' p.2)).toList.map (·.1)=(aW.toList.map λp=>(p.1,ρ p.2)).map (·.1))/\
 aR K ((aW.toList.map λp=>(p.1,ρ p.2)).map (·.2)) ((aW.map λp=>(p.1,ρ' p.2)).toList.map (·.2)):=by
 simp only[DN,xn];exact⟨O,aR.map_mk λp _=>c p.2⟩
def AY{t:aO}{zero:List V}(c:(gp P t).bind V.bP=J zero)(w:b_):∃v,(zeroValue t).run P w=.ok v w/\aR K zero v.cells.toList/\zero.all V.dt=aa:=by simp only[xr]at c;obtain⟨n,d,f⟩:=c;obtain⟨v,g,rfl⟩:=QU d w;obtain⟨l,m⟩:=HR f (JE (K:=K) v);simp_all
def ano(fields:Array Field)(d:∀f∈fields.toList,(P.info? f.type).isSome=aa)(w:b_):
 ∃c:Array (Nat × Nat),(fields.mapM (m:=Sem) λ(f:Field)=>do pure (f.offset,<-sizeOf f.type)).run P w=.ok c w/\∀i,c[i]?=placesOf P fields i:=by
 have p:∀(n:List Field),(∀f∈n,(P.info? f.type).isSome=aa)->
  (n.mapM (m:=Sem) λ(f:Field)=>do pure (f.offset,<-sizeOf f.type)).run P w=.ok (n.map λf=>(f.offset,(cQ P f.type).getD 0)) w:=by
  intro n
  induction n with
  |nil=>simp_all|cons f n t=>intro q;have g:=q f cE;obtain⟨i,l⟩:=adc.1 g;have s:cQ P f.type=J i.size:=(by simp[cQ,l]);rw[List.mapM_cons,Sem.run_bind,Sem.run_bind,mJ s];simp_all
 refine⟨(fields.toList.map λf=>(f.offset,(cQ P f.type).getD 0)).toArray,?_,λi=>?_⟩
 .rw[Array.mapM_eq_mapM_toList,Sem.run_map,p fields.toList d];rfl
 .simp only[je,List.getElem?_map,GY,placesOf];cases g:fields[i]? with|none=>rfl|some f=>have r:f∈fields.toList:=(by simpa using Array.mem_of_getElem? g);obtain⟨i,l⟩:=adc.1 (d f r);simp[cQ,l]
def afR{t:aO}{aW:Array (Nat × ck)}{ρ:ck->V}{ρ':ck->aQ}(L:∀x,aZ K (ρ x) (ρ' x)){x:V}
 (c:iP P t (aW.toList.map λp=>(p.1,ρ p.2))=J x) (w:b_):∃v,(Instr.build t (aW.map λp=>(p.1,ρ' p.2))).run P w=.ok v w/\aZ K x v:=by
 obtain⟨D,E⟩:=PW L aW;unfold iP at c;split at c
 .rename_i fields zero q r;obtain⟨X,f,g,_⟩:=AY (K:=K) r w;split at c
  .rename_i n;simp only[dK]at c;obtain⟨C,m,rfl⟩:=c;obtain⟨l,y,z⟩:=ano (P:=P) fields (λS T=>GW.1 n S (by simp_all)) w;have A:placesOf P fields=(l[·]?):=(by funext i;exact(z i).symm);rw[A]at m;obtain⟨d,s,u⟩:=Ic m g D E;exact⟨.agg d,by simp only[Instr.build,Sem.run_bind,f,Result.andThen_ok,dB q,y,s,Sem.run_pure],.agg _ _ u⟩
  grind
 .rename_i Y elem zero q r;obtain⟨X,f,g,_⟩:=AY (K:=K) r w;split at c
  .rename_i N H;simp only[dK]at c;obtain⟨C,m,rfl⟩:=c;obtain⟨d,s,u⟩:=Ic m g D E;exact⟨.agg d,by simp only[Instr.build,Sem.run_bind,f,Result.andThen_ok,dB q,mJ H,s,Sem.run_pure],.agg _ _ u⟩
  grind
 grind
def U7{sz}:∀{aW:List (Nat × V)} {U c:List (List V)},(∀r∈U,F r=sz)->xN sz U aW=J c->
 rM (λi=>J (i*sz,sz)) U.flatten aW=J c.flatten/\(∀r∈c,F r=sz)/\F c=F U:=by
 intro aW
 induction aW with
 |nil=>intro U c g d;simp[xN]at d;subst d;exact⟨O,g,O⟩|cons A rest t=>
  obtain⟨i,C⟩:=A;intro U c g d;simp only[xN]at d;split at d
  .rename_i cs m;split at d
   .rename_i f;have l:∀r∈U.set i cs,F r=sz:=λr q=>by
     grind
    obtain⟨y,v,z⟩:=t l d;have n:=nA g;have p:i*sz+sz<=F U.flatten:=(by rw[n];have:(i+1)*sz<=F U*sz:=mR _ f.2;rw[jm]at this;omega);have x:(U.set i cs).flatten=ej U.flatten (i*sz) cs:=by
     clear y v z t d p l;unfold ej;rw[f.1]
     induction U generalizing i with
     |nil=>simp_all|cons r U u=>
      have s:F r=sz:=g r cE;cases i with|zero=>simp_all|succ i=>have:=u i (λr q=>g r (by grind)) ⟨f.1,by simp_all⟩ (nA (λr q=>g r (by grind)));simp only[List.set_cons_succ,kJ,this];rw[show(i+1)*sz=F r+i*sz by rw[s,jm];omega,LM,yJ];rw[fK (af:F r<=F r+i*sz),oo (af:F r<=F r+i*sz+sz)];rw[(af:F r+i*sz-F r=i*sz),(af:F r+i*sz+sz-F r=i*sz+sz)];simp
    refine⟨?_,v,by simp_all⟩;simp only[rM,m];simp_all
   grind
  grind
def Gb(zero:Array aQ)(n):((w9 (n*zero.size)).map (zero[·%zero.size]!)).toList=(bR n zero.toList).flatten:=by
 induction n with
 |zero=>simp|succ n f=>
  rw[List.replicate_succ',ux,<-f];simp only[DN,Array.toList_range,jm,Nat.one_mul,List.range_add,jN,xn,kJ,act,iB];congr 1;apply List.ext_getElem
  .simp
  .intro i d g;have c:i<zero.size:=(by simpa using d);simp[Nat.mod_eq_of_lt c,c]
def aR.zH{zero:List V}{z:List aQ}(c:aR K zero z):∀n:Nat,aR K (bR n zero).flatten (bR n z).flatten
 |0=>.nil
 |n+1=>by simp only[List.replicate_succ,kJ];exact c.append (aR.zH c n)
def J5{zero}(c:zero.all V.dt=aa)(n):(bR n zero).flatten.all V.dt=aa:=by simp_all
def afQ(s:bZ K G ok w0 h w){t:aO}{len:Nat}{aW:Array (Nat × ck)}{ρ:ck->V}{ρ':ck->aQ}(T:∀x,aZ K (ρ x) (ρ' x)){x:V}
 (d:fC P t len (aW.toList.map λp=>(p.1,ρ p.2))=J x):
 ∃n v w',K.Le n/\bZ n G ok w0 h w'/\aZ n x v/\(Instr.buildSlice t len (aW.map λp=>(p.1,ρ' p.2))).run P w=.ok v w':=by
 obtain⟨X,Y⟩:=PW T aW;unfold fC at d;split at d
 .rename_i elem z;split at d
  .rename_i c zero y S;obtain⟨m,A,l,C⟩:=AY (K:=K) S w;split at d
   .rename_i L;simp only[dK]at d;obtain⟨E,N,rfl⟩:=d;obtain⟨f1,f2,f3⟩:=U7 (λz1 hr=>by simp_all) N;have D:m.cells.size=c:=(by rw[<-L.2.1,l.length];simp);have f:((w9 (len*c)).map (m.cells[·%m.cells.size]!)).toList=(bR len m.cells.toList).flatten:=(by rw[<-D];exact Gb _ _);obtain⟨g,q,Z⟩:=Ic (ea:=(w9 (len*c)).map (m.cells[·%m.cells.size]!)) f1 (by rw[f];exact l.zH len) X Y;obtain⟨le,s'⟩:=s.anK g elem;refine⟨_,.slice (J ⟨w.heap.size,0,aq⟩) len len,_,le,s',?_,?_⟩
    .refine .ac .aP c E w.heap.size 0 len len g.toList (by simp_all) f2 (Z.mono le) (λj z0 hj=>?_) ⟨bh _,O⟩ (U8 f1 (J5 C len));simp only[bA.aP,nT,if_true];simp_all
    .by_cases r:len*c=0
     .have u:len=0:=by
       rcases ac0.1 r with h|h
       .exact h
       .omega
      subst u;simp only[L_]at q;have H:(w9 0).map (λx=>(#[]:Array aQ)[x%(#[]:Array aQ).size]!)=(w9 0).map (m.cells[·%m.cells.size]!):=(by simp);simp only[Instr.buildSlice,Sem.run_bind,dB z,Result.andThen_ok,mJ y,L_];simp only[qT,gt_iff_lt,if_false,ac8,if_true,Sem.run_pure,Result.andThen_ok,H,q,newRow,Sem.run_bind,run_newObj]
     .simp only[Instr.buildSlice,Sem.run_bind,dB z,Result.andThen_ok,mJ y];rw[aV af,aV r];simp only[Sem.run_pure,Sem.run_bind,A,Result.andThen_ok,q,newRow,run_newObj]
   grind
  grind
 grind
def aeb(s:bZ K G ok w0 h w){t:aO}{cs:List V}(l:(gp P t).bind V.bP=J cs):
 ∃c v w',K.Le c/\bZ c G ok w0 (h.box cs).2 w'/\aZ c (h.box cs).1 v/\(Instr.alloc t aa (.tuple #[])).run P w=.ok v w':=by
 obtain⟨p,d,f,g⟩:=AY (K:=K) l w;obtain⟨m,n⟩:=s.PE t f g;exact⟨_,_,_,K.Ph _,m,n,by simp[Instr.alloc,d,newVar,newRow]⟩
def afG(s:bZ K G ok w0 h w){t:aO}{x:V}{cs:List V}(f:x.bP=J cs){c:aQ}(g:aZ K x c):
 ∃d v w',K.Le d/\bZ d G ok w0 (h.box cs).2 w'/\aZ d (h.box cs).1 v/\(Instr.box t c).run P w=.ok v w':=by
 obtain⟨n,p⟩:=HR f g;obtain⟨l,m⟩:=s.PE t n p;exact⟨_,_,_,K.Ph _,l,m,by simp[Instr.box,newVar,newRow]⟩
def anh(s:bZ K G ok w0 h w){t:aO}{l c x:V}{h':ah}(d:wE P h t l c=J (x,h')){D C:aQ}(X:aZ K l D)(T:aZ K c C):
 ∃p v w',K.Le p/\bZ p G ok w0 h' w'/\aZ p x v/\(Instr.makeSlice t D C).run P w=.ok v w':=by
 unfold wE at d;split at d
 .rename_i elem kl l kc c Y;obtain⟨rfl,_⟩:=X.ig;obtain⟨rfl,_⟩:=T.ig;split at d
  .rename_i i zero u Z;obtain⟨r,y,n,z⟩:=AY (K:=K) Z w;split at d
   .rename_i g;obtain⟨E,H,h3,L,h5,N⟩:=g;injection d with d;obtain⟨rfl,rfl⟩:=fP d;have m:i.zero=J r:=by
     simp only[zeroValue,Sem.run_bind,pT u,Result.andThen_ok]at y;cases hzz:i.zero with|none=>simp_all|some v=>simp_all
    have A:r.cells.size=i.size:=(by rw[<-N,n.length];simp);have q:=run_make (P:=P) w t elem i r Y u m kl kc l c E H L af;have f:(madeCells r.cells (c.toNat*i.size)).toList=(bR c.toNat r.cells.toList).flatten:=(by rw[<-A];exact Gb _ _);obtain⟨q1,q2⟩:=s.PE (cells:=madeCells r.cells (c.toNat*i.size)) elem (by rw[f];exact n.zH _) (J5 z _);cases q2 with|box _ _ _ S=>exact⟨_,_,_,K.Ph _,q1,.arr _ _ _ _ _ _ _ S af (bh _) (.inl O) (.inl O),q⟩
   grind
  grind
 grind
def qc{hi:Nat}{x:Option V}{d n:Nat}(f:gE hi x d=J n){l:Option aQ}(q:∀a,x=J a->∃c,l=J c/\aZ K a c)(r:x=aq->l=aq)(w:b_):
 (l=aq/\n=d/\x=aq)∨(∃c,l=J c/\(∀(top:Nat) (g:Go.BoundsCode),hi<=top->(Instr.sliceBound c top g).run P w=.ok n w)/\n<=hi/\x.isSome=aa):=by
 unfold gE at f;split at f
 .simp_all
 .rename_i _ k t;split at f
  .rename_i m;injection f with f;subst f;obtain⟨c,rfl,p⟩:=q _ O;obtain⟨rfl,_⟩:=p.ig;refine .inr ⟨_,O,λtop g s=>?_,by omega,O⟩;have:t<=(top:Int):=(by omega);simp[Instr.sliceBound,asIntOf,m.1,this]
  grind
 grind
def Bw{lo hi mx:Option V}{v s mx':Option aQ}(u:∀a,lo=J a->∃c,v=J c/\aZ K a c)(x:lo=aq->v=aq)
 (z:∀a,hi=J a->∃c,s=J c/\aZ K a c) (A:hi=aq->s=aq) (S:∀a,mx=J a->∃c,mx'=J c/\aZ K a c) (Y:mx=aq->mx'=aq)
 {top ba len m g l:Nat} (r:Bool) (e1:gE top mx top=J m) (e2:gE m hi len=J g) (D:gE g lo 0=J l)
 (t:len<=ba) (E:top<=ba) (N:mx.isSome=aa->hi.isSome=aa) (w:b_):
 ∃m',(Instr.sliceBounds r len ba v s mx').run P w=.ok (l,g,m') w/\(mx=aq->m'=ba/\m=top)/\(mx.isSome=aa->m'=m)/\l<=g/\(hi=aq->g=len)/\g<=m'/\(hi.isSome=aa->g<=m):=by
 rcases qc (P:=P) e1 S Y w with⟨rfl,rfl,rfl⟩|⟨c1,rfl,q1,qw,T⟩
 .rcases qc (P:=P) e2 z A w with⟨rfl,rfl,rfl⟩|⟨Z,rfl,H,f,X⟩
  .rcases qc (P:=P) D u x w with⟨rfl,rfl,rfl⟩|⟨L,rfl,y,n,_⟩
   .exact⟨ba,by simp[Instr.sliceBounds],λ_=>⟨O,O⟩,cE,cC _,λ_=>rfl,t,by simp⟩
   .have q:=λd=>y g d (bh _);exact⟨ba,by simp[Instr.sliceBounds,q],λ_=>⟨O,O⟩,cE,n,λ_=>rfl,t,by simp⟩
  .have p:=λd=>H ba d af;rcases qc (P:=P) D u x w with⟨rfl,rfl,rfl⟩|⟨L,rfl,y,n,_⟩
   .exact⟨ba,by simp[Instr.sliceBounds,p],λ_=>⟨O,O⟩,cE,cC _,λe=>by simp_all,by omega,λ_=>f⟩
   .have q:=λd=>y g d (bh _);exact⟨ba,by simp[Instr.sliceBounds,p,q],λ_=>⟨O,O⟩,cE,n,λe=>by simp_all,by omega,λ_=>f⟩
 .have X:=N T;have C:=λd=>q1 ba d E;rcases qc (P:=P) e2 z A w with⟨_,_,rfl⟩|⟨Z,rfl,H,f,_⟩
  .grind
  .have p:=λd=>H m d (bh _);rcases qc (P:=P) D u x w with⟨rfl,rfl,rfl⟩|⟨L,rfl,y,n,_⟩
   .exact⟨m,by simp[Instr.sliceBounds,C,p],λe=>by simp_all,λ_=>rfl,cC _,λe=>by simp_all,f,λ_=>f⟩
   .have q:=λd=>y g d (bh _);exact⟨m,by simp[Instr.sliceBounds,C,p,q],λe=>by simp_all,λ_=>rfl,n,λe=>by simp_all,f,λ_=>f⟩
def PU{ρ:ck->V}{ρ':ck->aQ}(d:∀x,aZ K (ρ x) (ρ' x))(o:Option ck):
 (∀a,o.map ρ=J a->∃c,o.map ρ'=J c/\aZ K a c)/\(o.map ρ=aq->o.map ρ'=aq):=by
 cases o with|none=>simp_all|some x=>simp_all
def amX{k:Tok}{sz:Nat}{es:List (List V)}{g off ba size l c m':Nat}{f d:Bool}
 (Z:aZ K (.ac k sz es) (.slice (J ⟨g,off,aq⟩) (F es) ba)) (C:size=sz∨es=[]) (T:l<=c) (S:c<=F es) (p:c<=m') (N:m'<=ba)
 (s:f=aa->c=F es/\m'=ba) (X:d=aa->m'=c):
 aZ K (.ac (qj k f d (c-l)) sz ((es.take c).drop l)) (.slice (J (if m'=l then ⟨g,off,aq⟩ else (⟨g,off,aq⟩:Addr).add (l*size))) (c-l) (m' - l)):=by
 cases Z with
 |gH=>
  have x:c=0:=by simpa using S
  subst x;have l0:l=0:=by omega
  subst l0;have m0:m'=0:=by omega
  subst m0;refine .ac _ sz [] g off 0 0 [] O cE .nil cE ⟨bh _,?_⟩ O;unfold qj
  grind
 |ac _ _ _ _ _ z1 _ cells hn t E xY Y ha=>
  have n:F ((es.take c).drop l)=c-l:=by simp;omega
  have m:(if m'=l then (⟨g,off,aq⟩:Addr) else (⟨g,off,aq⟩:Addr).add (l*size))=⟨g,if m'=l then off else off+l*size,aq⟩:=by
   split
   .rfl
   .rw[Addr.ji]
  rw[m];have A:∀H∈(es.take c).drop l,F H=sz:=λH p=>t H (Bf (List.mem_of_mem_drop p));have y:((es.take c).drop l).flatten=(es.flatten.take (c*sz)).drop (l*sz):=by rw[Ve (λH p=>t H (Bf p)),Nk t]
  refine .ac _ sz _ g _ _ _ ((cells.take (c*sz)).drop (l*sz)) n.symm A (by rw[y];exact(E.take _).drop _) (λj z0 hj=>?_) ?_ ?_
  .grind
  rotate_left
  .grind
  .refine⟨af,?_⟩;have q:=Y.2;cases k with
   |nil=>simp_all|aP=>
    simp only[qj]
    grind
   |held=>
    simp only[qj]
    grind
   |free z2=>
    simp only[qj];simp only at q;cases d with
    |true=>simp_all|false=>
     by_cases r:(f&&c-l !=0)=aa
     .simp only[jw,if_false,r,if_true];simp only[bQ,bne_iff_ne,ne_eq]at r;obtain⟨v,L⟩:=s r.1;have z:es≠[]:=(by rintro rfl;simp at v;omega);have u:size=sz:=C.resolve_right z;obtain⟨t1,t2,t3,t4⟩:=q;subst u;rw[aV af];refine⟨t1,t2,?_,?_⟩
      .rw[t3,<-v,LZ];have:l*size<=c*size:=mR _ T;omega
      .rw[L,LZ];have:l*size<=ba*size:=mR _ af;omega
     grind
def auq{t:aO}{x y:V}{lo hi mx:Option ck}{ρ:ck->V}{ρ':ck->aQ}(hρ:∀x,aZ K (ρ x) (ρ' x))
 (d:gY P t x (lo.map ρ) (hi.map ρ) (mx.map ρ)=J y) {c:aQ} (hx:aZ K x c) (w:b_):
 ∃v,(Instr.sliceAt t c (lo.map ρ') (hi.map ρ') (mx.map ρ')).run P w=.ok v w/\aZ K y v:=by
 obtain⟨D,E⟩:=PU hρ lo;obtain⟨q,r⟩:=PU hρ hi;obtain⟨l,f⟩:=PU hρ mx;unfold gY at d;split at d
 .cases d
 rename_i ayf;have S:(mx.map ρ).isSome=aa->(hi.map ρ).isSome=aa:=by
  intro h1;cases h2:hi.map ρ with|some _=>rfl|none=>simp_all
 split at d
 .rename_i z4 L;split at d
  .cases d
  rename_i hmn;have akw:mx.map ρ=aq:=by simpa using hmn
  split at d
  .rename_i p C;split at d
   .rename_i A H;injection d with d;subst d;obtain⟨rfl,_⟩:=hx.ig;obtain⟨m,u,q2,_⟩:=Bw (P:=P) (mx:=aq) (mx':=aq) D E q r cE cE au (top:=z4.size) (ba:=z4.size) (m:=z4.size) rfl C H (bh _) (bh _) cE w;refine⟨_,?_,.v (.string (z4.extract A p)) rfl⟩;simp only[Instr.sliceAt,Sem.run_bind,dB L,Result.andThen_ok,Instr.slice,f akw];simp[u]
   grind
  grind
 .rename_i elem k sz es L;split at d
  .rename_i z z0 X n;split at d
   .rename_i p C;split at d
    .rename_i A H;split at d
     .rename_i hJ;injection d with d;subst d;have Z:p<=es.length:=by rcases qc (P:=P) n l f w with⟨_,rfl,_⟩|⟨_,_,_,N,_⟩<;>rcases qc (P:=P) C q r w with⟨_,rfl,_⟩|⟨_,_,_,z_,_⟩<;>omega
      cases hx with
      |nil=>
       obtain⟨m,u,q2,q3,q4,q5,q6,q7⟩:=Bw (P:=P) D E q r l f aa (top:=0) (ba:=0) (len:=0) n C H (bh _) (bh _) S w;have xR:p=0:=(by simpa using Z);subst xR;have l0:A=0:=(by omega);subst l0;have Ob:m=0:=by
        rcases qc (P:=P) n l f w with⟨_,_,hn⟩|⟨_,_,_,N,T⟩
        .simp_all
        .simp_all
       subst Ob;refine⟨.slice aq 0 0,?_,?_⟩
       .simp only[Instr.sliceAt,Sem.run_bind,dB L,Result.andThen_ok,Instr.slice,u,mJ X];simp
       .simp only[qj,acQ,acp];exact .nil _
      |gH _ a0=>
       obtain⟨m,u,q2,q3,q4,q5,q6,q7⟩:=Bw (P:=P) D E q r l f aa (top:=0) (ba:=0) (len:=0) n C H (bh _) (bh _) S w;have xR:p=0:=(by simpa using Z);subst xR;have l0:A=0:=(by omega);subst l0;have Ob:m=0:=by
        rcases qc (P:=P) n l f w with⟨_,_,hn⟩|⟨_,_,_,N,T⟩
        .simp_all
        .simp_all
       subst Ob;refine⟨.slice (J a0) 0 0,?_,?_⟩
       .simp only[Instr.sliceAt,Sem.run_bind,dB L,Result.andThen_ok,Instr.slice,u,mJ X];simp
       .have akq:z0=0:=by
         rcases qc (P:=P) n l f w with⟨_,hn,_⟩|⟨_,_,_,N,T⟩
         .omega
         .simp_all
        subst akq;have hct:∀z2:Option V,qj .aP (decide (0=([]:List (List V)).length)&&z2.isNone) (z2.isSome&&decide (0=0)) (0 - 0)=.aP:=(by intro z2;cases z2<;>rfl);rw[hct];simp only[acQ,acp];exact .gH _ _
      |ac _ _ _ z1 s z3 g cells hn hr iV xY ht ha=>
       subst hn;obtain⟨m,u,q2,q3,q4,q5,q6,q7⟩:=Bw (P:=P) D E q r l f aa (top:=es.length) (ba:=g) (len:=es.length) n C H ht.1 ht.1 S w;have akr:m<=g:=by
        rcases qc (P:=P) n l f w with⟨_,_,hn⟩|⟨_,_,_,N,T⟩
        .simp_all
        .have:=q3 T;have:=ht.1;omega
       refine⟨.slice (J (if m=A then ⟨z1,s,aq⟩ else (⟨z1,s,aq⟩:Addr).add (A * z))) (p - A) (m - A),?_,?_⟩
       .simp only[Instr.sliceAt,Sem.run_bind,dB L,Result.andThen_ok,Instr.slice,u,mJ X,Sem.run_pure]
        grind
       .refine amX (.ac _ _ _ z1 s _ g cells rfl hr iV xY ht ha) hJ q4 Z q6 akr (λh=>?_) (λh=>?_)<;>simp_all
     grind
    grind
   grind
  grind
 .rename_i elem b s len g L;split at d
  .rename_i z z0 X n;split at d
   .rename_i p C;split at d
    .rename_i A H;cases hx with
     |arr _ z1 _ _ _ Y rI hβ hl qs Cn ri=>
      obtain⟨m,u,q2,q3,q4,q5,q6,q7⟩:=Bw (P:=P) D E q r l f aa (top:=g) (ba:=rI) (len:=len) n C H af qs S w;have hmc:z0<=g:=(by rcases qc (P:=P) n l f w with⟨_,z2,_⟩|⟨_,_,_,z2,_⟩<;>omega);have hmm:z0<=m:=by
       cases hq:Bj ρ mx with|none=>simp_all|some z5=>simp_all
      have Z:p<=z0:=by
       cases hq:Bj ρ mx with
       |none=>
        cases wq:Bj ρ hi with|none=>simp_all|some z5=>simp_all
       |some z5=>simp_all
      have x_:(Instr.sliceAt t (.slice (J ⟨z1,Y,aq⟩) len rI) (Bj ρ' lo) (Bj ρ' hi) (Bj ρ' mx)).run P w=.ok (.slice (J ⟨z1,if m=A then Y else Y+A * z,aq⟩) (p - A) (m - A)) w:=by
       simp only[Instr.sliceAt,Sem.run_bind,dB L,Result.andThen_ok,Instr.slice,u,mJ X,Sem.run_pure];congr 2;split
       .rfl
       .simp[Addr.ji]
      refine⟨_,x_,?_⟩;split at d
      .cases d
      rename_i Ct;split at d
      .rename_i Oc;injection d with d;subst d;have:=q3 Oc.1;rw[(af:p - A=0),(af:m - A=0)];exact .gH _ _
      .injection d with d;subst d;refine .arr _ _ _ _ _ _ _ hβ af af ?_ ?_
       .grind
       .cases hq:Bj ρ mx with
        |some z5=>simp_all|none=>
         obtain⟨r1,r2⟩:=q2 hq;by_cases Oc:z0=A
         .omega
         .rw[aV Oc];by_cases IQ:A=0
          .simp_all
          .exact .inr (.inr (.inl (by have:=LW (ac4 IQ) (ac4 Ct);omega)))
    grind
   grind
  grind
 .rename_i z3 elem b s L;split at d
  .rename_i z z0 X n;split at d
   .rename_i p C;split at d
    .rename_i A H;injection d with d;subst d;cases hx with
     |box _ z1 _ hβ=>
      obtain⟨m,u,q2,q3,q4,q5,q6,q7⟩:=Bw (P:=P) D E q r l f au (top:=z3) (ba:=z3) (len:=z3) n C H (bh _) (bh _) S w;have hm:m=z0:=by
       rcases qc (P:=P) n l f w with⟨_,_,hn⟩|⟨_,_,_,N,T⟩
       .simp_all
       .simp_all
      subst hm;refine⟨.slice (J ⟨z1,if m=A then s else s+A * z,aq⟩) (p - A) (m - A),?_,.arr _ _ _ _ _ _ _ hβ af (bh _) (.inl rfl) (.inl rfl)⟩;simp only[Instr.sliceAt,Sem.run_bind,dB L,Result.andThen_ok,Instr.sureAddr,u,mJ X,Sem.run_pure];congr 3;split
      .rfl
      .simp[Addr.ji]
    grind
   grind
  grind
 grind
def M9{f:Field}{n:Nat}(d:cQ P f.type=J n)(c:n≠0)(g o:Nat)(w:b_):(fieldPlace ⟨g,o,aq⟩ f).run P w=.ok ⟨g,o+f.offset,aq⟩ w:=by simp[fieldPlace,mJ d,c,Addr.ji]
def ais{t:aO}{x y:V}{f:Nat}(d:eo P t x f=J y){c:aQ}(q:aZ K x c)(w:b_):
 ∃v,(Instr.fieldAt t c f).run P w=.ok v w/\aZ K y v:=by
 unfold eo at d;split at d
 .rename_i fields n;split at d
  .rename_i u g;split at d
   .cases d
   .rename_i S p m;have l:S≠0:=λe=>p e;split at d
    .rename_i Y r;injection d with d;subst d;cases q with|box b s _ A=>exact⟨_,by simp[Instr.fieldAt,dB n,g,Instr.sureAddr,M9 m l],.box _ _ _ A⟩|ec s _=>exact⟨_,by simp[Instr.fieldAt,dB n,g,Instr.sureAddr,M9 m l],.ec _ _⟩
    .rename_i X L i r;injection d with d;subst d;cases q with|elem _ _ _ _ s o T cells E H C D N z=>exact⟨.pointer (J ⟨s,T+u.offset,aq⟩),by simp[Instr.fieldAt,dB n,g,Instr.sureAddr,M9 m l],.elem _ _ _ _ s o _ cells E H C D af z⟩
    grind
   grind
  grind
 grind
def alk{t:aO}{x ix y:V}(d:dU P t x ix=J y){c H:aQ}(q:aZ K x c)(hi:aZ K ix H)(w:b_):
 ∃v,(Instr.indexAt t c H).run P w=.ok v w/\aZ K y v:=by
 unfold dU at d;split at d
 .rename_i elem k N T C i l;obtain⟨rfl,_⟩:=hi.ig;split at d
  .rename_i f;injection d with d;subst d;cases q with
   |nil=>grind
   |gH=>grind
   |ac _ _ _ r g z1 E cells X z A p ht s=>subst X;refine⟨.pointer (J ⟨r,g+i.toNat*N,aq⟩),?_,.elem _ _ _ _ r g _ cells z A p af af s⟩;simp[Instr.indexAt,dB l,asIntOf,f.1,f.2.1,mJ f.2.2,Addr.ji]
  grind
 .rename_i elem b g len E C i l;obtain⟨rfl,_⟩:=hi.ig;split at d
  .rename_i m n;split at d
   .rename_i f;injection d with d;subst d;cases q with|arr _ r _ _ _ D S u hl Y Z ri=>have:D=g:=(by grind);subst this;exact⟨_,by simp[Instr.indexAt,dB l,asIntOf,f.1,f.2,mJ n,Addr.ji],.box _ _ _ u⟩
   grind
  grind
 .rename_i len elem z2 g C i l;obtain⟨rfl,_⟩:=hi.ig;split at d
  .rename_i m n;split at d
   .rename_i f;injection d with d;subst d;cases q with|box b r _ u=>exact⟨_,by simp[Instr.indexAt,dB l,asIntOf,f.1,f.2,mJ n,Addr.ji,Instr.sureAddr],.box _ _ _ u⟩|ec r _=>exact⟨_,by simp[Instr.indexAt,dB l,asIntOf,f.1,f.2,mJ n,Addr.ji,Instr.sureAddr],.ec _ _⟩
   grind
  grind
 .rename_i len elem N T k g C i l;obtain⟨rfl,_⟩:=hi.ig;split at d
  .rename_i m n;split at d
   .rename_i f;injection d with d;subst d;cases q with|elem _ _ _ _ r o z0 cells z A p L hp s=>exact⟨.pointer (J ⟨r,z0+i.toNat*m,aq⟩),by simp[Instr.indexAt,dB l,asIntOf,f.1,f.2,mJ n,Addr.ji,Instr.sureAddr],.elem _ _ _ _ r o _ cells z A p L af s⟩
   grind
  grind
 grind
def Zx{t:aO}{cs:List V}{off:Nat}{y:V}(d:F4 P t cs off=J y){vs:Array aQ}(f:aR K cs vs.toList)(w:b_):
 ∃v,(part t vs off).run P w=.ok v w/\aZ K y v:=by
 unfold F4 at d;split at d
 .rename_i c;simp only[dK]at d;obtain⟨g,m,rfl⟩:=d;refine⟨.agg (vs.extract off (off+g)),by simp[part,Ko c,mJ m],.agg _ _ ?_⟩;have:(vs.extract off (off+g)).toList=(vs.toList.drop off).take g:=by rw[Array.toList_extract,List.extract_eq_take_drop];congr 1;omega
  rw[this];exact(f.drop off).take g
 .rename_i c;obtain⟨n,p,l⟩:=f.get d;exact⟨n,by simp only[part,Sem.run_bind,Ko c,Result.andThen_ok];simp_all,l⟩
 grind
def alo{t:aO}{x ix y:V}(d:As P t x ix=J y){c l:aQ}(n:aZ K x c)(hi:aZ K ix l)(w:b_):
 ∃v,(Instr.index t c l).run P w=.ok v w/\aZ K y v:=by
 unfold As at d;split at d
 .rename_i p C i g;obtain⟨rfl,_⟩:=hi.ig;obtain⟨rfl,_⟩:=n.ig;split at d
  .rename_i b f;injection d with d;subst d;split at f
   .rename_i q;refine⟨.int .u8 b.toNat,?_,.v _ O⟩;have:p[i.toNat]?=J b:=(by have r:i.toNat<p.data.size:=(K_.1 f).1;have s:p.data[i.toNat]=b:=(K_.1 f).2;have u:i.toNat<p.size:=r;rw[getElem?_pos p i.toNat u];exact congrArg J s);simp only[Instr.index,Sem.run_bind,asIntOf,Sem.run_pure,Result.andThen_ok,dB g,aH q,this]
   grind
  grind
 .rename_i len elem cs C i g;obtain⟨rfl,_⟩:=hi.ig;split at d
  .rename_i H A;split at d
   .rename_i z;cases n with|agg _ L m=>obtain⟨v,D,E⟩:=Zx d m w;exact⟨v,by simp only[Instr.index,Sem.run_bind,asIntOf,Sem.run_pure,Result.andThen_ok,dB g,aH z,mJ A,D],E⟩
   grind
  grind
 grind
def O0{t:aO}(c:isIface P t=J au):∃d,P.underlying t=J d/\∀f,d≠ .interface f:=by
 unfold isIface at c
 grind
def aeA{x y:V}{xt a:aO}{m:Bool}(d:uF P x a m=J y){c:aQ}(l:aZ K x c)(w:b_):
 ∃v,(Instr.typeAssert c xt a m).run P w=.ok v w/\aZ K y v:=by
 unfold uF at d;split at d
 .rename_i C z f;obtain⟨u,g,t⟩:=O0 f;cases l with
  |iface _ _ q l=>
   split at d
   .rename_i n;injection d with d;subst d;subst n;cases m with|true=>refine⟨.tuple #[q,.bool aa],?_,.tuple _ _ (.cons _ _ _ _ l (.cons _ _ _ _ (.v _ O) .nil))⟩;simp only[Instr.typeAssert,Sem.run_bind,dB g,Result.andThen_ok];simp_all|false=>refine⟨q,?_,l⟩;simp only[Instr.typeAssert,Sem.run_bind,dB g,Result.andThen_ok];simp_all
   .rename_i n;split at d
    .rename_i r;simp only[dK]at d;obtain⟨A,p,rfl⟩:=d;obtain⟨v,s,rfl⟩:=QU p w;refine⟨.tuple #[v,.bool au],?_,.tuple _ _ (.cons _ _ _ _ (JE v) (.cons _ _ _ _ (.v _ O) .nil))⟩;simp only[Instr.typeAssert,Sem.run_bind,dB g,Result.andThen_ok];simp_all
    grind
 .rename_i f;obtain⟨u,g,t⟩:=O0 f;obtain⟨rfl,_⟩:=l.ig;split at d
  .rename_i r;simp only[dK]at d;obtain⟨A,p,rfl⟩:=d;obtain⟨v,s,rfl⟩:=QU p w;refine⟨.tuple #[v,.bool au],?_,.tuple _ _ (.cons _ _ _ _ (JE v) (.cons _ _ _ _ (.v _ O) .nil))⟩;simp only[Instr.typeAssert,Sem.run_bind,dB g,Result.andThen_ok];simp_all
  grind
 grind
def afF{c}{b}{x}(d:s_ c b=J x):(c=.eql/\x=.v (.bool b))∨(c=.neq/\x=.v (.bool !b)):=by
 unfold s_ at d
 grind
def Tw{d:BinOp}{t:aO}{x y:ck}{a b r:V}(c:Bu P d t x y a b=J r){p q:aQ}(n:aZ K a p)(s:aZ K b q)(w:b_):
 ∃v,(do eqGuard d t x y p q;binOp d t p q:Sem aQ).run P w=.ok v w/\aZ K r v:=by
 unfold Bu at c;split at c
 .rename_i A C u z;have f:=Ig u n;have g:=Ig z s;subst f;subst g;simp only[xr]at c;obtain⟨D,l,m⟩:=c;exact⟨D,F6 l w,Gw m⟩
 grind
def wc{c:BinOp}{t:aO}{x y:ck}{p q:aQ}{b:Bool}{r:V}(g:s_ c b=J r)(s:∀c,eqGuard c t x y p q=pure ())(w:b_)
 (f:∀d,(Op.equalIn (d+1) t p q).run P w=.ok b w) (m:binOp .eql t p q=(do pure (.bool (<-Op.equal t p q)))) (n:binOp .neq t p q=(do pure (.bool (!(<-Op.equal t p q))))):
 ∃v,(do eqGuard c t x y p q;binOp c t p q:Sem aQ).run P w=.ok v w/\aZ K r v:=by
 have l:(Op.equal t p q).run P w=.ok b w:=f 9999;rcases afF g with⟨rfl,rfl⟩|⟨rfl,rfl⟩
 .exact⟨.bool b,by simp_all,.v _ O⟩
 .exact⟨.bool !b,by simp_all,.v _ O⟩
def XT{t:aO}(c:isIface P t=J aa):∃d,P.underlying t=J (.interface d):=by
 unfold isIface at c
 grind
def aff{d:BinOp}{t:aO}{x y:ck}{a b r:V}(c:df P d t x y a b=J r){p q:aQ}(g:aZ K a p)(l:aZ K b q)(w:b_):
 ∃v,(do eqGuard d t x y p q;binOp d t p q:Sem aQ).run P w=.ok v w/\aZ K r v:=by
 unfold df at c;split at c
 .rename_i n s;have f1:=g.ig.1;have f2:=l.ig.1;subst f1;subst f2;split at c
  .injection c with c;subst c;exact⟨.bool (n.data.toList==s.data.toList),by simp[eqGuard,binOp,Op.stringOp,ByteArray.toList_eq],.v _ O⟩
  .injection c with c;subst c;exact⟨.bool !(n.data.toList==s.data.toList),by simp[eqGuard,binOp,Op.stringOp,ByteArray.toList_eq],.v _ O⟩
  .split at c
   .rename_i hl;injection c with c;subst c;refine⟨.string (n++s),?_,.v _ O⟩;have:¬(((n.size+s.size:Nat):Int)>IntKind.i64.max):=(by simp only[IntKind.max,IntKind.signed,IntKind.bits];simp;omega);simp only[eqGuard,binOp,Op.stringOp];simp_all
   grind
  .exact Tw c g l w
 .rename_i L N;split at c
  .rename_i m;obtain⟨D,f⟩:=XT m;cases g with|iface _ _ Y C=>have f2:=l.ig.1;subst f2;refine wc c (λd=>by cases d<;>rfl) w (λu=>?_) O O;simp only[Op.equalIn,Sem.run_bind,dB f,Result.andThen_ok,Sem.run_pure]
  grind
 .rename_i L N;split at c
  .rename_i m;obtain⟨D,f⟩:=XT m;cases l with|iface _ _ Y C=>have f2:=g.ig.1;subst f2;refine wc c (λd=>by cases d<;>rfl) w (λu=>?_) O O;simp only[Op.equalIn,Sem.run_bind,dB f,Result.andThen_ok,Sem.run_pure]
  grind
 .rename_i H E;split at c
  .rename_i e f;have f2:=l.ig.1;subst f2;cases g<;>(refine wc c (λd=>by cases d<;>rfl) w (λu=>?_) O O;simp only[Op.equalIn,Sem.run_bind,dB f,Result.andThen_ok,Sem.run_pure,Hn])
  grind
 .rename_i H E;split at c
  .rename_i e f;have f2:=g.ig.1;subst f2;cases l<;>(refine wc c (λd=>by cases d<;>rfl) w (λu=>?_) O O;simp only[Op.equalIn,Sem.run_bind,dB f,Result.andThen_ok,Sem.run_pure,Hn])
  grind
 .split at c
  .rename_i f;have f2:=l.ig.1;subst f2;cases g<;>(refine wc c (λd=>by cases d<;>rfl) w (λu=>?_) O O;simp only[Op.equalIn,Sem.run_bind,dB f,Result.andThen_ok,Sem.run_pure,Hn])
  grind
 .split at c
  .rename_i f;have f2:=g.ig.1;subst f2;cases l<;>(refine wc c (λd=>by cases d<;>rfl) w (λu=>?_) O O;simp only[Op.equalIn,Sem.run_bind,dB f,Result.andThen_ok,Sem.run_pure,Hn])
  grind
 .rename_i k sz Z X;split at c
  .rename_i e f;have f2:q=.slice aq 0 0:=by
    cases l with|nil=>rfl|ac _ _ _ _ _ _ _ _ _ _ _ _ z _=>exact z.2.elim
   subst f2;cases g with
   |nil=>refine wc c (λd=>by cases d<;>rfl) w (λu=>?_) O O;simp only[Op.equalIn,Sem.run_bind,dB f,Result.andThen_ok,Sem.run_pure,Option.isNone_none,decide_true]
   |gH=>refine wc c (λd=>by cases d<;>rfl) w (λu=>?_) O O;simp only[Op.equalIn,Sem.run_bind,dB f,Result.andThen_ok,Sem.run_pure,Hn];rfl
   |ac _ _ _ z0 T z1 S cells hn hr hv hc z _=>have A:k≠ .nil:=λe=>(by subst e;exact z.2);refine wc c (λd=>by cases d<;>rfl) w (λu=>?_) O O;simp only[Op.equalIn,Sem.run_bind,dB f,Result.andThen_ok,Sem.run_pure,A,decide_false]
  grind
 .exact Tw c g l w
def awm{d:UnOp}{a r:V}(c:GP P d a=J r){p:aQ}(m:aZ K a p)(w:b_):∃v,(Op.unary d p).run P w=.ok v w/\aZ K r v:=by
 unfold GP at c;split at c
 .rename_i q n;have f:=Ig n m;subst f;simp only[xr]at c;obtain⟨s,g,l⟩:=c;exact⟨s,F6 g w,Gw l⟩
 grind
end
section
variable {P:bL} {K:bA} {G:Nat->Option (List V)} {ok:a_->Nat->Code->Bool} {w0 w:b_} {h:ah}
def Td{h}{d}{sz}{es}{t}(p:∀n∈h.dead,n∈d)(f:alive ({h with dead:=d}.fresh sz es).2 t=aa):
 t=h.tn∨(alive h t=aa/\t∉d):=by
 simp only[ah.fresh,alive,bQ,decide_eq_true_eq,DO,List.contains_eq_mem,decide_eq_false_iff_not]at f;obtain⟨c,g⟩:=f;have c:t<h.tn+1:=of_decide_eq_true c;rcases eg t h.tn with l|m
 .exact .inr ⟨by simp[alive,l];grind,g⟩
 omega
def bZ.Np{w':b_}(s:bZ K G ok w0 h w){d:List Nat}(T:∀n∈h.dead,n∈d){sz:Nat}{es:List (List V)}{cells:Array aQ}{e:aO}{fz:Nat × Nat}{ba:Nat}
 (Z:∀r∈es,F r=sz) (S:es.flatten.all V.dt=aa) (hv:aR K es.flatten (cells.toList.take (F es*sz)))
 (L:w'.os=w.os) (l:w'.tape=w.tape) (v:w'.output=w.output) (hJ:w'.heap.size=w.heap.size+1)
 (N:∀k,k<w.heap.size->w'.heap[k]?=w.heap[k]?) (p:w'.heap[w.heap.size]?=J (.cells cells e fz))
 (c:F es<=ba) (t:ba*sz<=cells.size) (C:∀j,j<cells.size->me fz j=au):
 ∃q,K.Le q/\bZ q G ok w0 ({h with dead:=d}.fresh sz es).2 w'/\aZ q ({h with dead:=d}.fresh sz es).1 (.slice (J ⟨w.heap.size,0,aq⟩) (F es) ba):=by
 have f:∀j,K.ic w.heap.size j=aq:=λj=>by
  cases z:K.ic w.heap.size j with|none=>rfl|some z0=>have:=s.wD z;omega
 have u:F es*sz<=cells.size:=fB (mR _ c) t;have x:=s.row (h':=({h with dead:=d}.fresh sz es).2) (w':=w') (g:=w.heap.size) (off:=0) (m:=F es*sz) (cells:=cells) (e:=e) (fz:=fz) O O O
  (λz1 ht=>(Td T ht).imp id λE=>⟨E.1,λIH=>by obtain⟨_,_,_,_,_,_,h4,_⟩:=s.tok z1 E.1;simp_all⟩)
  s.size (λb y=>by obtain⟨cs,A⟩:=βJ s y;obtain⟨_,_,_,_,_,h3,_⟩:=s.box b _ cs y A;simp_all) (λj _=>f j) af L l v
  (λk o hk Y=>by grind) p (λo Y=>by simp_all) (λj z0 z=>by simp_all) (cC _) u (λj _ X=>C j X)
 have le:=bA.Pj (K:=K) (g:=w.heap.size) (off:=0) (m:=F es*sz) (size:=cells.size) (cells:=λj=>cells[j]?) (λj _=>f j) s.size;refine⟨_,le,x,?_⟩;refine .ac (.free h.tn) sz es w.heap.size 0 _ ba (cells.toList.take (F es*sz)) O Z (hv.mono le) (λj z0 H=>?_) ⟨c,?_⟩ S
 .simp only[o0]at H;split at H
  .rename_i dD;simp only[bA.row,nT];simp_all
  grind
 .simp only[bA.row,s.tn,if_true];simp_all
def zo(l:List UInt8):∀r∈l.map iF,F r=1:=by intro r c;simp only[iX]at c;obtain⟨b,_,rfl⟩:=c;rfl
def MC(l:List UInt8):(l.map iF).flatten=l.map λb=>V.v (.int .u8 b.toNat):=by
 induction l with
 |nil=>rfl|cons b l c=>simp[iF,c]
def TQ(l:List UInt8):aR K (l.map iF).flatten (l.map λb=>Value.int .u8 b.toNat):=by rw[MC];exact aR.map_mk λb _=>.v _ rfl
def TP(l:List UInt8):(l.map iF).flatten.all V.dt=aa:=by rw[MC,ff];intro d c;simp only[iX]at c;obtain⟨b,_,rfl⟩:=c;rfl
def awb(s:bZ K G ok w0 h w){e:aO}{str:ByteArray}:
 ∃g v w',K.Le g/\bZ g G ok w0 (h.fresh 1 (str.data.toList.map iF)).2 w'/\aZ g (h.fresh 1 (str.data.toList.map iF)).1 v/\(Conv.stringToBytes e str).run P w=.ok v w':=by
 have y:∃c,str.size<=c/\(choose (.appendCap str.size 0 e)).run P w=.ok c {w with drawn:=w.drawn+1}:=by refine⟨_,?_,by simp[Question.forced];rfl⟩;simp[Question.cut]
 obtain⟨c,u,q⟩:=y
 let w1:b_:={w with drawn:=w.drawn+1}
 let cells:Array aQ:=str.data.map (λb=>.int .u8 b.toNat)++yG (c - str.size) (.int .u8 0)
 have r:cells.size=c:=by have:str.data.size=str.size:=rfl;simp only[cells,Lb,Array.size_map,Array.size_replicate,this];try omega
 have p:str.data.toList.length=str.size:=rfl
 let f:b_:=({w1 with heap:=w1.heap.push (.cells cells e)}:b_).freeze {block:=w1.heap.size,off:=c} 1
 have m:f.heap[w.heap.size]?=J (.cells cells e (c,c+1)):=by simp only[f,World.freeze,w1,Sp,if_false,DM,if_true,Array.getElem?_push_size,gc];rfl
 have l:∀k,k<w.heap.size->f.heap[k]?=w.heap[k]?:=λk D=>by
  simp only[f,World.freeze,w1,DM]
  grind
 obtain⟨g,le,A,z⟩:=s.Np (w':=f) (d:=h.dead) (λ_ x=>x) (sz:=1) (es:=str.data.toList.map iF) (cells:=cells) (e:=e) (fz:=(c,c+1)) (ba:=c)
  (zo _) (TP _) (by have:cells.toList.take ((str.data.toList.map iF).length * 1)=str.data.toList.map λb=>Value.int .u8 b.toNat:=(by simp only[cells,A1,DN,bJ,mr];simp_all);rw[this];exact TQ _) rfl rfl rfl (by simp[f,World.freeze,w1]) l m (by simp_all) af (λj C=>by simp[me];omega)
 refine⟨g,_,f,le,A,z,?_⟩;have t:(str.data.toList.map iF).length=str.size:=by simp only[bJ,p]
 rw[t];simp only[Conv.stringToBytes,Sem.run_bind,q,Result.andThen_ok,newRow,run_newObj,Sem.run_pure,markStringish,run_shape];have n:({w1 with heap:=w1.heap.push (.cells cells e)}:b_).shape? w1.heap.size=J (e,c):=by simp[World.shape?,r]
 simp only[w1,cells] at n;simp only[n,run_freeze,Result.andThen_ok,Sem.run_pure,f,w1,cells]
def afT:∀{U:List (List V)} {l:List UInt8},bytesOf U=J l->∀{vs:List aQ},aR K U.flatten vs->
 ∃f:List Int,vs=f.map (.int .u8 ·)/\l=f.map λn=>UInt8.ofNat n.toNat:=by
 intro U
 induction U with
 |nil=>intro l h vs d;simp[bytesOf]at h;subst h;cases d;simp_all
 |cons v U r=>
  intro l h vs d;simp only[bytesOf]at h;split at h
  .rename_i b t c m;injection h with h;subst h;unfold byteOf at c;split at c
   .rename_i n;injection c with c;subst c;simp only[kJ,eY,eP]at d;cases d with|cons _ u _ cs q p=>obtain⟨f,g,s⟩:=r m p;exact⟨n::f,by rw[q.ig.1,g];rfl,by simp_all⟩
   grind
  grind
def foldl_push(c:List Int):∀d:ByteArray,c.foldl (λb a=>b.push (UInt8.ofNat a.toNat)) d=⟨d.data++(c.map λn=>UInt8.ofNat n.toNat).toArray⟩:=by
 induction c with
 |nil=>simp_all|cons n c f=>simp_all
def Gd(s:bZ K G ok w0 h w){size:Nat}{x:V}{U:List (List V)}(f:rowsOf h size x=J U){c:aQ}(S:aZ K x c):
 ∃a ba l,c=.slice a (F U) ba/\(∀r∈U,F r=size)/\aR K U.flatten l/\U.flatten.all V.dt=aa/\F l=F U*size/\
  (∀b,a=J b->(loadCells b (F U*size)).run P w=.ok l.toArray w)/\(a=aq->U=[]):=by
 unfold rowsOf at f;split at f
 .rename_i k X z;split at f
  .rename_i N;injection f with f;subst f;cases S with
   |nil=>exact⟨aq,0,[],O,by simp,.nil,O,by simp,λb g=>(by cases g),λ_=>rfl⟩|gH _ a0=>refine⟨J a0,0,[],O,by simp,.nil,O,by simp,λb g=>?_,λg=>by cases g⟩;have:=run_loadCells_list (P:=P) w b [] (λj z0 C=>by grind);simp_all|ac _ _ _ D d u ba cells m t v H ht Y=>
    subst m;have hl:F cells=F z*X:=(by rw[<-v.length,nA t]);have OF:F z*X=F z*size:=by
     rcases N with h|h
     .rw[h]
     .simp[h]
    refine⟨J ⟨D,d,aq⟩,ba,cells,O,λr hm=>?_,v,Y,by omega,λb g=>?_,λm=>by cases m⟩
    .grind
    .injection g with g;subst g;have:=run_loadCells_list (P:=P) w ⟨D,d,aq⟩ cells (λj z0 C=>by rw[Addr.ji];exact s.ic _ _ _ (H j z0 C));simp_all
  grind
 .rename_i b d len ba;split at f
  .rename_i cs E;split at f
   .rename_i A;injection f with f;subst f;cases S with
    |arr _ D _ _ _ p y g hl qs L ri=>
     obtain⟨_,_,ka,cells,e,k3,T⟩:=s.box b D cs g E;have q:∀u,d+u*size<=F cs->((bT u).map λi=>(cs.drop (d+i*size)).take size).flatten=(cs.drop d).take (u*size):=by
      intro u
      induction u with
      |zero=>simp_all|succ u ih=>intro m;rw[lP,jN,ux,ih (by grind)];simp only[dR,List.map_nil,kJ,act,iB];rw[show(u+1)*size=u*size+size by rw[jm];omega,List.take_add,List.drop_drop]
     have hf:=q len A;have hk4:=(T.1.drop d).take (len*size);have fw:F cs<=F cells.toList:=(by have:=T.le;simpa using this);have qy:F (((cells.toList.take (F cs)).drop d).take (len*size))=len*size:=(by simp only[dJ,fJ];omega);refine⟨J ⟨D,p,aq⟩,y,((cells.toList.take (F cs)).drop d).take (len*size),by simp,λr t=>?_,?_,?_,by simp_all,λb' n=>?_,λm=>by cases m⟩
     .simp only[iX,hy]at t;obtain⟨i,Z,rfl⟩:=t;simp only[dJ,fJ];have:(i+1)*size<=len*size:=mR _ Z
      grind
     .simp_all
     .grind
     .injection n with n;subst n;have:=run_loadCells_list (P:=P) w ⟨D,p,aq⟩ (((cells.toList.take (F cs)).drop d).take (len*size)) (λj z0 C=>by
       rcases L with rfl|hz
       .rw[Addr.ji,cell_of k3]
        grind
       simp_all)
      simp_all
   grind
  grind
 grind
def FW(s:bZ K G ok w0 h w){size:Nat}{x:V}{U:List (List V)}(f:jT h size x=J U){c:aQ}(p:aZ K x c):
 ∃d,(Builtin.lenOf c).run P w=.ok (F U) w/\(∀r∈U,F r=size)/\aR K U.flatten d/\U.flatten.all V.dt=aa/\F d=F U*size/\
  (Builtin.firstCells size (F U) c).run P w=.ok d.toArray w:=by
 unfold jT at f;split at f
 .rename_i str;split at f
  .rename_i u;injection f with f;subst f;subst u;obtain⟨rfl,_⟩:=p.ig;have n:F (str.data.toList.map iF)=str.size:=(by rw[bJ];rfl);refine⟨str.data.toList.map λb=>.int .u8 b.toNat,by rw[n];rfl,zo _,TQ _,TP _,by simp,?_⟩;rw[n];have:str.extract 0 str.size=str:=(by simp);have t:str.data.map (λb=>Value.int .u8 b.toNat)=(str.data.toList.map λb=>Value.int .u8 b.toNat).toArray:=(by apply KW;simp);simp only[Builtin.firstCells,this,Sem.run_pure,t]
  grind
 .obtain⟨a,z,d,rfl,y,q,v,g,l,m⟩:=Gd (P:=P) s f p;refine⟨d,O,y,q,v,g,?_⟩;cases a with|none=>have:=m O;subst this;have:d=[]:=(by simpa using g);subst this;rfl|some b=>exact l b rfl
def Q5(z)(n):(Builtin.zeroCells z n).size=n*z.size:=by simp[Builtin.zeroCells]
def ajw(s:bZ K G ok w0 h w){d:List Nat}(hd:∀n∈h.dead,n∈d){t0 t1 elem:aO}{ts:Array aO}{ty:aO}{i:TypeInfo}{d1:TypeDesc}(h0:ts[0]?=J t0)(hu:P.underlying t0=J (.slice elem))
 (h1:ts[1]?=J t1) (Z:P.underlying t1=J d1) (H:∀k,d1≠ .int k) (hi:P.info? elem=J i) (u:(i.zero.map λz=>z.cells.size)=J i.size)
 {es new:List (List V)} {a:Option Addr} {ba:Nat} {c q:aQ} (hc:c=.slice a (F es) ba) (C:ba<F es+F new)
 (hr:∀r∈es,F r=i.size) (ha:es.flatten.all V.dt=aa) {f:List aQ} (A:aR K es.flatten f) (hf:(Builtin.firstCells i.size (F es) c).run P {w with drawn:=w.drawn+1}=.ok f.toArray {w with drawn:=w.drawn+1})
 {l:List aQ} (T:(Builtin.lenOf q).run P w=.ok (F new) w) (Y:∀r∈new,F r=i.size) (y:aR K new.flatten l) (han:new.flatten.all V.dt=aa)
 (L:(Builtin.firstCells i.size (F new) q).run P {w with drawn:=w.drawn+1}=.ok l.toArray {w with drawn:=w.drawn+1})
 (hb:(F es+F new)*i.bytes<=140737488355328) (hm:F es+F new<=9223372036854775807):
 ∃p v w',K.Le p/\bZ p G ok w0 ({h with dead:=d}.fresh i.size (es++new)).2 w'/\aZ p ({h with dead:=d}.fresh i.size (es++new)).1 v/\(Builtin.append_ ts ty #[c,q]).run P w=.ok v w':=by
 simp only[dK]at u;obtain⟨z,u,Jj⟩:=u;have hq:∃g,F es+F new<=g/\(choose (.appendCap (F es+F new) ba elem)).run P w=.ok g {w with drawn:=w.drawn+1}:=by refine⟨_,?_,by simp[Question.forced];rfl⟩;simp[Question.cut]
 obtain⟨g,X,E⟩:=hq
 let rest:=Builtin.zeroCells z.cells (g-(F es+F new))
 let cells:Array aQ:=f.toArray++l.toArray++rest
 let w1:b_:={w with drawn:=w.drawn+1}
 let m:b_:={w1 with heap:=w1.heap.push (.cells cells elem)}
 have N:F f=F es*i.size:=by rw[<-A.length,nA hr]
 have S:F l=F new*i.size:=by rw[<-y.length,nA Y]
 have D:F (es++new)*i.size=F (f++l):=by grind
 have x:(zeroValue elem).run P w1=.ok z w1:=by simp[zeroValue,pT hi,u]
 have aye:=growslice_fits (bytes:=i.bytes) C hb;have x_:(Builtin.append_ ts ty #[c,q]).run P w=.ok (.slice (J ⟨w.heap.size,0,aq⟩) (F es+F new) g) m:=by
  subst hc;have e1:¬(((F es+F new:Nat):Int)>IntKind.i64.max):=by simp only[IntKind.max,IntKind.signed,IntKind.bits];simp;omega
  have e2:¬(Builtin.nextslicecap (F es+F new) ba*i.bytes>2^48):=by omega
  have e3:¬(F es+F new<=ba):=by omega
  cases d1<;>first|exact absurd O (H _)|(simp only[Builtin.append_,h0,je,jy,nR,Sem.run_bind,dB hu,Result.andThen_ok,sizeOf,pT hi,Sem.run_pure,h1,dB Z,jw,if_false,T,e3,e1,e2,false_and,E,run_askRoom,hf,A3,if_true,L,newRow,run_newObj,x,w1,m,cells,rest])
 have eM:cells.size=g*i.size:=by simp only[cells,Lb,acP,rest,Q5,N,S,Jj];rw[LZ];have:(F es+F new)*i.size<=g*i.size:=mR _ X;rw[jm]at this ⊢;omega
 have t:m.heap[w.heap.size]?=J (.cells cells elem (0,0)):=by simp[m,w1]
 obtain⟨p,le,s',hv⟩:=s.Np (w':=m) hd (sz:=i.size) (es:=es++new) (cells:=cells) (e:=elem) (fz:=(0,0)) (ba:=g)
  (λr hm=>by grind) (by grind) (by have:cells.toList.take (F (es++new)*i.size)=f++l:=(by rw[D];simp only[cells,A1];rw[Sh cE];exact fK cE);rw[this,ux];exact A.append y) O O O (by grind) (λk hk=>Cc w _ hk) t (by simp_all) af (λj _=>BY j)
 grind
def axh(s:bZ K G ok w0 h w){ts:Array aO}{ty elem:aO}{E:IntKind}{a x y:V}{h':ah}(D:(ts[0]?).bind P.underlying=J (.slice elem))(p:(ts[1]?).bind P.underlying=J (.int E))
 (l:KU P h ts elem a x=J (y,h')) {c L:aQ} (ha:aZ K a c) (hx:aZ K x L):
 ∃z v w',K.Le z/\bZ z G ok w0 h' w'/\aZ z y v/\(Builtin.append_ ts ty #[c,L]).run P w=.ok v w':=by
 unfold KU at l;split at l
 .rename_i H kk z0;obtain⟨rfl,_⟩:=hx.ig;split at l
  .rename_i i zero S hz;obtain⟨n,Y,m,Z⟩:=AY (K:=K) hz w;split at l
   .rename_i q;obtain⟨h0,h1,h2,h3,N,h6⟩:=q;injection l with l;obtain⟨rfl,rfl⟩:=fP l;have r:i.zero=J n:=by
     simp only[zeroValue,Sem.run_bind,pT S,Result.andThen_ok]at Y;cases hzz:i.zero with|none=>simp_all|some v=>simp_all
    have Jj:n.cells.size=i.size:=(by rw[<-h6,m.length];simp);obtain⟨d,rfl⟩:∃d:Nat,z0=d:=⟨z0.toNat,by omega⟩;rw[Int.toNat_natCast];obtain⟨t0,t1,rfl⟩:∃t0 t1,ts=#[t0,t1]:=by
     obtain⟨z1⟩:=ts
     match z1,h0 with
     | [a,b],_=>exact⟨a,b,O⟩
    have D:P.underlying t0=J (.slice elem):=D;have p:P.underlying t1=J (.int E):=p;have hm:d*i.bytes<=140737488355328:=(by have:((d*i.bytes:Nat):Int)<=140737488355328:=(by rw[Int.natCast_mul];exact h2);omega);have C:=Go.Lib.run_append_nil_zeros (P:=P) w t0 t1 ty elem i n kk E D p S r d af N af af;have u:=grownCap_ge w d 0 elem;generalize grownCap w d 0 elem=g at *
    have t:(Builtin.zeroCells n.cells d).toList=(bR d n.cells.toList).flatten:=Gb _ _;have T:F (bR d n.cells.toList).flatten=F (bR d zero).flatten:=(m.zH d).length.symm;have X:F (bR d zero).flatten=d*i.size:=nA (sz:=i.size) (es:=bR d zero) (λz2 hr=>by simp_all)|>.trans (by simp_all)
    have hJ:(Builtin.zeroCells n.cells d++Builtin.zeroCells n.cells (g-d)).size=g*i.size:=by
     rw[Lb,<-om,<-om,t,T,X];have e2:(Builtin.zeroCells n.cells (g-d)).toList=(bR (g-d) n.cells.toList).flatten:=Gb _ _;rw[e2,<-(m.zH (g-d)).length];have e3:F (bR (g-d) zero).flatten=(g-d)*i.size:=nA (sz:=i.size) (es:=bR (g-d) zero) (λz2 hr=>by simp_all)|>.trans (by simp_all)
     rw[e3,<-jm,Nat.add_sub_cancel' u]
    obtain⟨q1,q2⟩:=(s.drew (w.drawn+1)).PG (cs:=(bR d zero).flatten) (cells:=Builtin.zeroCells n.cells d++Builtin.zeroCells n.cells (g-d)) elem (J (d,i.size,g*i.size))
     (by rw[A1,t,Sh af,fK af];exact m.zH d) (J5 Z _)
     (λz3 H room z4=>by
      grind)
    have A:F h.I=F K.β:=s.jd.symm;cases ha with
    |nil=>
     cases q2 with|box _ _ _ hb=>exact⟨_,_,_,K.Az _ _,q1,.arr _ _ _ _ _ _ _ hb (bh _) u (.inl O) (.inr (.inr (.inr ⟨i.size,g*i.size,by simp only[bA.nw,A,if_true],N,bh _⟩))),C⟩
    |ac _ _ _ _ _ _ _ _ _ _ _ _ ht _=>exact ht.2.elim
   grind
  grind
 grind
set_option maxHeartbeats 1000000 in
def Mq(s:bZ K G ok w0 h w){ts:Array aO}{ty:aO}{a x y:V}{h':ah}(f:gC P h ts a x=J (y,h')){c Z:aQ}(L:aZ K a c)(hx:aZ K x Z):
 ∃X v w',K.Le X/\bZ X G ok w0 h' w'/\aZ X y v/\(Builtin.append_ ts ty #[c,Z]).run P w=.ok v w':=by
 unfold gC at f;split at f
 .rename_i u q;exact axh s u q f L hx
 .rename_i elem d1 Fq u q;simp only[xr] at u q;obtain⟨t0,h0,u⟩:=u;obtain⟨t1,h1,q⟩:=q;have N:∀k,d1≠ .int k:=λk e=>Fq k e;split at f
  .cases f
  rename_i i hi;split at f
  .cases f
  rename_i new WP;split at f;rotate_left
  .cases f
  rename_i hz;obtain⟨H,E,n2,n3,n4,n5,S⟩:=FW (P:=P) s WP hx;obtain⟨nv',n1',n2',n3',n4',n5',n6'⟩:=FW (P:=P) (s.drew (w.drawn+1)) WP hx;split at f
  .rename_i k sz g;split at f;rotate_left
   .cases f
   rename_i hJ;have Ox:rowsOf h i.size (.ac k sz g)=J g:=(by simp only[rowsOf];simp_all);obtain⟨b,p,rx,rfl,r1,r2,r3,r4,r5,r6⟩:=Gd (P:=P) (s.drew (w.drawn+1)) Ox L;have hf:(Builtin.firstCells i.size g.length (.slice b g.length p)).run P {w with drawn:=w.drawn+1}=.ok rx.toArray {w with drawn:=w.drawn+1}:=by
    cases b with|none=>have:=r6 rfl;subst this;have:rx=[]:=(by simpa using r4);subst this;rfl|some b=>exact r5 b rfl
   split at f
   .rename_i Fp;injection f with f;obtain⟨rfl,rfl⟩:=Prod.mk.inj f;subst Fp;have Of:H=[]:=(by simpa using n5);subst Of;refine⟨K,.slice b g.length p,w,.refl K,s,L,?_⟩;have n:g.length<=p:=by
     cases L with|nil=>simp_all|gH=>simp_all|ac _ _ _ _ _ _ _ _ _ _ _ _ C _=>exact C.1
    have E:(Builtin.lenOf Z).run P w=.ok 0 w:=E;have S:(Builtin.firstCells i.size 0 Z).run P w=.ok #[] w:=S;cases d1<;>first|exact absurd rfl (N _)|(cases b<;>simp only[Builtin.append_,h0,je,jy,nR,Sem.run_bind,dB u,Result.andThen_ok,sizeOf,pT hi,Sem.run_pure,h1,dB q,jw,if_false,E,yR,n,if_true,A3,S,storeCells])
   .rename_i WQ;have akB:0<new.length:=by cases new with|nil=>simp_all|cons _ _=>simp
    split at f;rotate_left
    .cases f
    rename_i hb;have A:∀z2:List Nat,(∀z0∈h.dead,z0∈z2)->p<g.length+new.length->
     ∃X v w',K.Le X/\bZ X G ok w0 ({h with dead:=z2}.fresh i.size (g++new)).2 w'/\aZ X ({h with dead:=z2}.fresh i.size (g++new)).1 v/\(Builtin.append_ ts ty #[.slice b g.length p,Z]).run P w=.ok v w':=
     λz2 hd n=>ajw s hd h0 u h1 q N hi hz.2 rfl n r1 r3 r2 hf E n2 n3' n4 n6' hb.1 hb.2
    split at f
    .injection f with f;obtain⟨rfl,rfl⟩:=fP f;cases L with|nil=>exact A h.dead (λ_ t=>t) af|ac _ _ _ _ _ _ _ _ _ _ _ _ C _=>exact C.2.elim
    .injection f with f;obtain⟨rfl,rfl⟩:=fP f;cases L with|gH=>exact A h.dead (λ_ t=>t) af|ac _ _ _ _ _ _ _ _ _ _ _ _ C _=>exact A h.dead (λ_ t=>t) (by have:=C.2;omega)
    .rename_i z0;split at f;rotate_left
     .cases f
     rename_i V5;simp only[bQ,decide_eq_true_eq] at V5;obtain⟨uY,hsi⟩:=V5;injection f with f;obtain⟨rfl,rfl⟩:=fP f;rcases eg p (g.length+new.length) with n|n
     .exact A (z0::h.dead) (λ_ t=>gr _ t) n
     .cases L with
      |ac _ _ _ z1 d n' _ cells hn hr iV xY C zN=>
       obtain⟨t1',t2,t3,t4⟩:=C.2;obtain⟨k1,k2,k3,Y,be,bz,k4,k5,k6⟩:=s.tok z0 uY;subst t2;subst hsi;have NI:Y.size=(K.tk z0).2.2:=k5;have Wv:d+g.length * i.size+H.length<=Y.size:=(by have:(g.length+new.length) * i.size<=p * i.size:=mR _ n;rw[jm] at this;omega);obtain⟨w',l,q1,T,q3⟩:=Dx (P:=P) (d+g.length * i.size) be bz H 0 Y w k4 af (yX n3 n4) (λj r hj'=>by
        rw[<-we k4]
        grind)
       have IR:l.size=Y.size:=(by have h1:l.toList.length=Y.toList.length:=(by rw[q3];simp only[de,dJ,fJ,om,yR];omega);simpa using h1);have akg:∀j,j<d+g.length * i.size->l[j]?=Y[j]?:=λj r=>(by rw[<-GY,q3,<-GY,jx,rC (by grind),o0,aH af]);have akh:∀j,j<H.length->l[d+g.length * i.size+j]?=H[j]?:=λj r=>(by have dD:(Y.toList.take (d+g.length * i.size+0)).length=d+g.length * i.size:=(by simp;omega);rw[<-GY,q3,jx,xm af,dD,rC af];simp_all);have vg:=s.row (h':=({h with dead:=z0::h.dead}.fresh i.size (g++new)).2) (w':=w') (g:=(K.tk z0).1) (off:=d+g.length * i.size) (m:=d+(g.length+new.length) * i.size) (cells:=l) (e:=be) (fz:=bz) rfl rfl rfl
        (λz3 C=>(Td (λ_ t=>gr _ t) C).imp id λD=>⟨D.1,λIH=>D.2 (by rw[s.oj z3 z0 D.1 uY IH];simp_all)⟩)
        k1 k2 (λj r=>k3 j af) (by rw[T.size];omega) T.os T.tape T.output (λk o hk ho=>(T.other k hk).trans ho) T.this (λo ho=>by simp_all)
        (λj c hc=>by
         have r:j<d+g.length * i.size:=by
          rcases eg j (d+g.length * i.size) with h|h
          .exact h
          .simp_all
         rw[akg j r,<-cell_of k4];exact s.ic _ _ _ hc)
        (by grind) (by grind) (λj r hl=>by rw[<-we k4];grind)
       have le:=bA.Pj (K:=K) (g:=(K.tk z0).1) (off:=d+g.length * i.size) (m:=d+(g.length+new.length) * i.size) (size:=l.size) (cells:=λj=>l[j]?) (λj r=>k3 j af) k1;have fw:cells.length=g.length * i.size:=(by rw[<-iV.length,nA hr]);refine⟨_,.slice (J ⟨(K.tk z0).1,d,aq⟩) (g.length+new.length) p,w',le,vg,?_,?_⟩
       .refine .ac (.free h.tn) i.size (g++new) (K.tk z0).1 d _ p (cells++H) cE (λz4 t=>by grind) (by rw[ux];exact(iV.append n3).mono le) (λj c r=>?_) ⟨n,?_⟩ (by grind)
        .rcases eg j cells.length with dD|pN
         .rw[rC dD] at r;exact le.ic _ _ _ (xY j c r)
         .rw[xm pN] at r;have wm:j - cells.length<H.length:=(bk.1 r).1;simp only[bA.row];rw[aH (by grind)];have:=akh (j - cells.length) wm
          grind
        .simp only[bA.row,s.tn,if_true];simp_all
       .have zO:(⟨(K.tk z0).1,d,aq⟩:Addr).add (g.length * i.size)=⟨(K.tk z0).1,d+g.length * i.size,aq⟩:=Addr.ji _ _ _;cases d1<;>first|exact absurd rfl (N _)|(simp only[Builtin.append_,h0,je,jy,nR,Sem.run_bind,dB u,Result.andThen_ok,sizeOf,pT hi,Sem.run_pure,h1,dB q,jw,if_false,E,n,if_true,A3,S,zO,q1])
    grind
  .rename_i b d len p;split at f
   .rename_i cs jr;split at f
    .rename_i hc;injection f with f;obtain⟨rfl,rfl⟩:=fP f;cases L with
     |arr _ z1 _ _ _ tV z hb hl qs Cn ri=>
      obtain⟨k1,k2,ka,cells,e,k3,k4⟩:=s.box b z1 cs hb jr;have OF:cs.length<=cells.size:=k4.le;have t:(len+new.length) * i.size<=p * i.size:=mR _ hc.1;rw[jm] at t;have Wl:len+new.length<=z:=(by omega);by_cases Al:p=0
      .have tI:new=[]:=by cases new with|nil=>rfl|cons _ _=>simp_all
       subst tI;have Of:H=[]:=(by simpa using n5);subst Of;have E:(Builtin.lenOf Z).run P w=.ok 0 w:=E;have S:(Builtin.firstCells i.size 0 Z).run P w=.ok #[] w:=S;have akQ:h.I.set b (ej cs (d+len * i.size) ([]:List (List V)).flatten)=h.I:=by
        rw[show ej cs (d+len * i.size) ([]:List (List V)).flatten=cs by simp[ej]];apply oq;intro k;rw[mq];split
        .grind
        .rfl
       rw[akQ];refine⟨K,.slice (J ⟨z1,tV,aq⟩) len z,w,.refl K,s,.arr _ _ _ _ _ _ _ hb hl qs Cn ri,?_⟩;have Oa:len<=z:=(by omega);cases d1<;>first|exact absurd rfl (N _)|(simp only[Builtin.append_,h0,je,jy,nR,Sem.run_bind,dB u,Result.andThen_ok,sizeOf,pT hi,Sem.run_pure,h1,dB q,jw,if_false,E,yR,Oa,if_true,A3,S,storeCells])
      .have Og:tV=d:=(by simp_all);obtain⟨w',l,q1,T,q3⟩:=Dx (P:=P) (d+len * i.size) e (0,0) H 0 cells w k3 af (yX n3 n4) (λj _ _=>BY j);have wp:new.flatten.length=new.length * i.size:=(by rw[n3.length,n5]);refine⟨K,.slice (J ⟨z1,tV,aq⟩) (len+new.length) z,w',.refl K,s.Rf hb jr af k3 T q3 n3 n4,.arr _ _ _ _ _ _ _ hb hc.1 qs Cn ri,?_⟩;have zO:(⟨z1,d,aq⟩:Addr).add (len * i.size)=⟨z1,d+len * i.size,aq⟩:=Addr.ji _ _ _;rw[Og];cases d1<;>first|exact absurd rfl (N _)|(simp only[Builtin.append_,h0,je,jy,nR,Sem.run_bind,dB u,Result.andThen_ok,sizeOf,pT hi,Sem.run_pure,h1,dB q,jw,if_false,E,Wl,if_true,A3,S,zO,q1])
    grind
   grind
  grind
 grind
def ajx{t0 t1 elem:aO}{ts:Array aO}{ty:aO}{i:TypeInfo}{d1:TypeDesc}(S:ts[0]?=J t0)(hu:P.underlying t0=J (.slice elem))
 (T:ts[1]?=J t1) (A:P.underlying t1=J d1) (u:∀k,d1≠ .int k) (hi:P.info? elem=J i) (g:(i.zero.map λz=>z.cells.size)=J i.size)
 {n m:Nat} {a:Option Addr} {ba:Nat} {q:aQ} (r:ba<n+m) {c:List aQ} (C:F c=n*i.size)
 (Y:(Builtin.firstCells i.size n (.slice a n ba)).run P {w with drawn:=w.drawn+1}=.ok c.toArray {w with drawn:=w.drawn+1})
 {f:List aQ} (x:(Builtin.lenOf q).run P w=.ok m w) (y:F f=m*i.size)
 (v:(Builtin.firstCells i.size m q).run P {w with drawn:=w.drawn+1}=.ok f.toArray {w with drawn:=w.drawn+1})
 (X:(n+m)*i.bytes<=140737488355328) (hm:n+m<=9223372036854775807):
 ∃d cells,n+m<=d/\cells.size=d*i.size/\cells.toList.take ((n+m)*i.size)=c++f/\
  (Builtin.append_ ts ty #[.slice a n ba,q]).run P w=.ok (.slice (J ⟨w.heap.size,0,aq⟩) (n+m) d) {w with drawn:=w.drawn+1,heap:=w.heap.push (.cells cells elem)}:=by
 simp only[dK]at g;obtain⟨z,g,D⟩:=g;have hq:∃d,n+m<=d/\(choose (.appendCap (n+m) ba elem)).run P w=.ok d {w with drawn:=w.drawn+1}:=by refine⟨_,?_,by simp[Question.forced];rfl⟩;simp[Question.cut]
 obtain⟨d,p,t⟩:=hq
 let rest:=Builtin.zeroCells z.cells (d-(n+m))
 let cells:Array aQ:=c.toArray++f.toArray++rest
 let s:b_:={w with drawn:=w.drawn+1}
 have Z:(n+m)*i.size=F (c++f):=by grind
 have l:(zeroValue elem).run P s=.ok z s:=by simp[zeroValue,pT hi,g]
 have E:=growslice_fits (bytes:=i.bytes) r X;refine⟨d,cells,p,?_,?_,?_⟩
 .simp only[cells,Lb,acP,rest,Q5,C,y,D];rw[LZ];have:(n+m)*i.size<=d*i.size:=mR _ p;simp_all
 .grind
 .have H:¬(((n+m:Nat):Int)>IntKind.i64.max):=by simp only[IntKind.max,IntKind.signed,IntKind.bits];simp;omega
  have L:¬(Builtin.nextslicecap (n+m) ba*i.bytes>2^48):=by omega
  have N:¬(n+m<=ba):=by omega
  cases d1<;>first|exact absurd O (u _)|(simp only[Builtin.append_,S,je,jy,nR,Sem.run_bind,dB hu,Result.andThen_ok,sizeOf,pT hi,Sem.run_pure,T,dB A,jw,if_false,x,N,H,L,false_and,t,run_askRoom,Y,A3,if_true,v,newRow,run_newObj,l,s,cells,rest])
set_option maxHeartbeats 2000000 in
def Ro(s:bZ K G ok w0 h w){ts:Array aO}{ty:aO}{a x y:V}{h':ah}(d:ng P h ts a x=J (y,h')){c cx:aQ}(E:aZ K a c)(hx:aZ K x cx):
 ∃m v w',K.Le m/\bZ m G ok w0 h' w'/\aZ m y v/\(Builtin.append_ ts ty #[c,cx]).run P w=.ok v w':=by
 have he0:=d;unfold ng at d;split at d
 .cases d
 .rename_i elem d1 Fq hu0 ak0;have T:=hu0;have t:=ak0;simp only[xr]at T t;obtain⟨t0,h0,T⟩:=T;obtain⟨t1,h1,t⟩:=t;have iN:∀k,d1≠ .int k:=λk e=>Fq k e;split at d
  .cases d
  rename_i i hi;split at d
  .cases d
  rename_i new N;split at d;rotate_left
  .cases d
  rename_i hz;obtain⟨nv,n1,n2,n3,n4,n5,n6⟩:=FW (P:=P) s N hx;obtain⟨nv',n1',n2',n3',n4',n5',n6'⟩:=FW (P:=P) (s.drew (w.drawn+1)) N hx;have fresh:∀{h0:ah} (s0:bZ K G ok w0 h0 w) {H g:Nat} {ad:Option Addr} {cs:List V} {l:List aQ},F h0.I=F h.I->g<H+F new->aR K cs l->cs.all V.dt=aa->F cs=H*i.size->
   (Builtin.firstCells i.size H (.slice ad H g)).run P {w with drawn:=w.drawn+1}=.ok l.toArray {w with drawn:=w.drawn+1}->(H+F new)*i.bytes<=140737488355328->H+F new<=9223372036854775807->
   ∃m v w',K.Le m/\bZ m G ok w0 {h0 with I:=h0.I++[cs++new.flatten]} w'/\aZ m (.arr (F h.I) 0 (H+F new) (H+F new)) v/\(Builtin.append_ ts ty #[.slice ad H g,cx]).run P w=.ok v w':=by
   intro h0' s0 H g ad cs l qr f iV zN fw hf u hm;have wp:F new.flatten=F new*i.size:=nA n2';obtain⟨nc,cells,g1,g2,g3,g4⟩:=ajx (ty:=ty) h0 T h1 t iN hi hz.2 f (by rw[<-iV.length,fw]) hf n1 n5' n6' u hm;have aj5:F (cs++new.flatten)=(H+F new)*i.size:=(by grind);obtain⟨q1,q2⟩:=(s0.drew (w.drawn+1)).PG (cs:=cs++new.flatten) (cells:=cells) elem (J (H+F new,i.size,nc*i.size)) (by rw[aj5,g3];exact iV.append n3') (by grind)
    (λz2 Z Y z1=>by
     grind)
   cases q2 with|box _ _ _ A=>rw[qr]at A;refine⟨_,_,_,K.Az _ _,q1,.arr _ _ _ _ _ _ _ A (bh _) g1 (.inl O) (.inr (.inr (.inr ⟨i.size,nc*i.size,?_,hz.1,bh _⟩))),g4⟩;have z:F h.I=F K.β:=(by rw[s0.jd,qr]);simp only[bA.nw,z,if_true]
  split at d
  .rename_i k Z n;split at d;rotate_left
   .cases d
   rename_i hJ;split at d
   .rename_i Fp;refine Mq s ?_ E hx;unfold gC;simp_all
   .rename_i WQ;split at d;rotate_left
    .cases d
    rename_i u;have Ox:rowsOf h i.size (.ac k Z n)=J n:=(by simp only[rowsOf];simp_all);obtain⟨b,g,l,rfl,r1,r2,r3,r4,r5,r6⟩:=Gd (P:=P) (s.drew (w.drawn+1)) Ox E;have hf:(Builtin.firstCells i.size (F n) (.slice b (F n) g)).run P {w with drawn:=w.drawn+1}=.ok l.toArray {w with drawn:=w.drawn+1}:=by
     cases b with|none=>have:=r6 O;subst this;have:l=[]:=(by simpa using r4);subst this;rfl|some b=>exact r5 b O
    have akB:0<F new:=by cases new with|nil=>simp_all|cons _ _=>simp
    have fin:g<F n+F new->J (V.arr (F h.I) 0 (F n+F new) (F n+F new),({h with I:=h.I++[(n++new).flatten]}:ah))=J (y,h')->∃m v w',K.Le m/\bZ m G ok w0 h' w'/\aZ m y v/\(Builtin.append_ ts ty #[.slice b (F n) g,cx]).run P w=.ok v w':=λf hq=>(by injection hq with hq;obtain⟨rfl,rfl⟩:=fP hq;rw[ux];exact fresh s O f r2 r3 (nA r1) hf u.1 u.2);split at d
    .refine fin ?_ d;cases E with|nil=>omega|ac _ _ _ _ _ _ _ _ _ _ _ _ S _=>exact S.2.elim
    .refine fin ?_ d;cases E with|gH=>omega|ac _ _ _ _ _ _ _ _ _ _ _ _ S _=>have:=S.2;omega
    grind
  .rename_i b off len g;split at d
   .rename_i cs jr;split at d
    .exact Mq s d E hx
    .rename_i hgt;split at d
     .rename_i hc;injection d with d;obtain⟨rfl,rfl⟩:=fP d;obtain⟨c1,c2,c3,c4,c5,c6⟩:=hc;subst c1;subst c3;cases E with
      |arr _ z0 _ _ _ tV L u hl qs Cn ri=>
       have Og:tV=0:=(by omega);subst Og;obtain⟨k1,k2,ka,cells,e,k3,X⟩:=s.box b z0 cs u jr;have gb:cs≠[]:=λz1=>(by subst z1;have:=LW c2 hz.1;simp_all);have Wg:=(bk.1 jr).1;have C:=s.UU b;have D:F (h.I.set b [])=F h.I:=(by simp);rcases eg L (len+F new) with f|f
       .refine fresh C D f X.1 ka c4.symm ?_ c5 c6;have:=run_loadCells_list (P:=P) {w with drawn:=w.drawn+1} ⟨z0,0,aq⟩ (cells.toList.take (F cs)) (λj v hj=>by
         rw[Addr.ji,cell_of (w:={w with drawn:=w.drawn+1}) k3]
         grind)
        rw[<-X.1.length,<-c4]at this;rw[<-c4];exact this
       .rcases ri with r|r|r|⟨Z,Y,r1,r2,r3⟩
        .omega
        .omega
        .omega
        .rcases X.2 _ _ _ r1 with z1|⟨q1,q2⟩
         .simp_all
         .have hJ:i.size=Z:=Nat.eq_of_mul_eq_mul_left c2 (c4.trans q1);subst hJ;have jR:=X.le;have wp:F new.flatten=F new*i.size:=nA n2;have Fz:(len+F new)*i.size<=cells.size:=fB (mR _ f) (fB r3 q2);rw[jm]at Fz;obtain⟨w',q,w1,w2,w3⟩:=Dx (P:=P) (0+len*i.size) e (0,0) nv 0 cells w k3 af (yX n3 n4) (λj _ _=>BY j);have aya:F q.toList=F cells.toList:=(by rw[w3];exact Q7 (by simp_all));obtain⟨s3,xS⟩:=C.abA (g:=z0) (cs:=cs++new.flatten) (cells:=q) (e:=e) k1 k2
           (λb2 A=>by
            show(h.I.set b [])[b2]?=J [];rw[mq];by_cases nD:b=b2
            .simp_all
            .rw[aV nD];rcases s.nQ _ _ _ u A with p|p|p<;>simp_all)
           (λz3 S hq=>by obtain⟨_,z1,_⟩:=s.tok z3 S;simp_all) k3 (J (len+F new,i.size,cells.size))
           (λz2 Z Y z1=>by
            grind) w2
           (by rw[de,wp,w3];have e1:F cs+F new*i.size=0+len*i.size+0+F nv:=(by omega);rw[e1,Sh (by simp_all),fK (by simp_all)];have e2:0+len*i.size+0=F cs:=(by omega);rw[e2];exact X.1.append n3) (by grind)
          rw[D]at xS;refine⟨_,.slice (J ⟨z0,0,aq⟩) (len+F new) L,w',K.Az _ _,s3,.arr _ _ _ _ _ _ _ xS (bh _) f (.inl O) (.inr (.inr (.inr ⟨i.size,cells.size,?_,hz.1,fB r3 q2⟩))),?_⟩
          .have z:F h.I=F K.β:=s.jd.symm;simp only[bA.nw,z,if_true]
          .have zO:(⟨z0,0,aq⟩:Addr).add (len*i.size)=⟨z0,0+len*i.size,aq⟩:=Addr.ji _ _ _;cases d1<;>first|exact absurd O (iN _)|(simp only[Builtin.append_,h0,je,jy,nR,Sem.run_bind,dB T,Result.andThen_ok,sizeOf,pT hi,Sem.run_pure,h1,dB t,jw,if_false,n1,f,if_true,A3,n6,zO,w1])
     grind
   grind
  grind
 grind
def afP(s:bZ K G ok w0 h w){t:aO}{len:Nat}{aW:Array (Nat × ck)}{ρ:ck->V}{ρ':ck->aQ}(hρ:∀x,aZ K (ρ x) (ρ' x)){k:Tok}{sz:Nat}{es:List (List V)}
 (f:fC P t len (aW.toList.map λp=>(p.1,ρ p.2))=J (.ac k sz es)):
 ∃l v w',K.Le l/\bZ l G ok w0 (h.fresh sz es).2 w'/\aZ l (h.fresh sz es).1 v/\(Instr.buildSlice t len (aW.map λp=>(p.1,ρ' p.2))).run P w=.ok v w':=by
 obtain⟨p1,p2⟩:=PW hρ aW;unfold fC at f;split at f
 .rename_i elem E;split at f
  .rename_i c zero D hz;obtain⟨u,L,q,N⟩:=AY (K:=K) hz w;split at f
   .rename_i X;simp only[dK]at f;obtain⟨r,ho,f⟩:=f;injection f with _ y T;subst y;subst T;obtain⟨f1,f2,f3⟩:=U7 (λz0 hr=>by simp_all) ho;have S:u.cells.size=c:=(by rw[<-X.2.1,q.length];simp);have m:((w9 (len*c)).map (u.cells[·%u.cells.size]!)).toList=(bR len u.cells.toList).flatten:=(by rw[<-S];exact Gb _ _);obtain⟨g,z,q2⟩:=Ic (ea:=(w9 (len*c)).map (u.cells[·%u.cells.size]!)) f1 (by rw[m];exact q.zH len) p1 p2;have n:F r=len:=(by rw[f3];simp);have OF:F g.toList=len*c:=(by rw[<-q2.length,nA f2,n]);obtain⟨l,le,s',H⟩:=s.Np (w':={w with heap:=w.heap.push (.cells g elem)}) (d:=h.dead) (λ_ Z=>Z) (sz:=c) (es:=r) (cells:=g) (e:=elem) (fz:=(0,0)) (ba:=len)
     f2 (U8 f1 (J5 N len)) (by grind) O O O cE (λk Y=>Cc w _ Y) cE
     af (by simp_all) (λj hj=>by simp[me])
    rw[n]at H;refine⟨l,.slice (J ⟨w.heap.size,0,aq⟩) len len,_,le,s',H,?_⟩;by_cases A:len*c=0
    .have C:len=0:=by
      rcases ac0.1 A with h|h
      .exact h
      .omega
     subst C;simp only[L_]at z;have y:(w9 0).map (λx=>(#[]:Array aQ)[x%(#[]:Array aQ).size]!)=(w9 0).map (u.cells[·%u.cells.size]!):=(by simp);simp only[Instr.buildSlice,Sem.run_bind,dB E,Result.andThen_ok,mJ D,L_];simp only[qT,gt_iff_lt,if_false,ac8,if_true,Sem.run_pure,Result.andThen_ok,y,z,newRow,Sem.run_bind,run_newObj]
    .simp only[Instr.buildSlice,Sem.run_bind,dB E,Result.andThen_ok,mJ D];rw[aV af,aV A];simp only[Sem.run_pure,Sem.run_bind,L,Result.andThen_ok,z,newRow,run_newObj]
   grind
  grind
 grind
def bZ.kill(s:bZ K G ok w0 h w){t:Nat}(D:alive h t=aa)(n:Nat):bZ K G ok w0 {h with dead:=t::h.dead} (w.freeze ⟨(K.tk t).1,n,aq⟩ 1):=by
 obtain⟨t1,t2,t3,c0,S,z0,t4,t5,t6⟩:=s.tok t D;have f:∃z7,(w.freeze ⟨(K.tk t).1,n,aq⟩ 1).heap[(K.tk t).1]?=J (.cells c0 S z7):=by simp only[World.freeze,Sp,if_false,DM,if_true,t4,gc];exact⟨_,O⟩
 obtain⟨z1,f⟩:=f;have l:∀k,k≠(K.tk t).1->(w.freeze ⟨(K.tk t).1,n,aq⟩ 1).heap[k]?=w.heap[k]?:=λk hk=>by
  simp only[World.freeze,Sp,if_false,DM]
  grind
 have hJ:(w.freeze ⟨(K.tk t).1,n,aq⟩ 1).heap.size=w.heap.size:=by simp[World.freeze]
 have m:∀c,alive {h with dead:=t::h.dead} c=aa->alive h c=aa/\c≠t:=λc h'=>by unfold alive at h' ⊢;simp_all
 refine⟨?_,by grind,λv j z4 Z=>?_,s.ec,s.jd,s.nQ,λb v cs Y E=>?_,s.mM,s.oW,λz5 v z2 z A=>?_,s.tn,λc p=>?_,λc z3 p hu=>s.oj c z3 (m c p).1 (m z3 hu).1,λz2 A=>?_,s.all⟩
 .refine s.fG.trans ⟨O,O,O,by omega,λk hk=>?_⟩
  grind
 .have g:=s.ic v j z4 Z;by_cases H:v=(K.tk t).1
  .subst H;rw[cell_of t4]at g;rw[cell_of f];exact g
  .rw[<-g];exact World.cell?_of_block (w:=w) (l v H)
 .obtain⟨g,q,NB,d,e',x,y⟩:=s.box b v cs Y E
  grind
 .obtain⟨g,fn,tmps,z8,q,x⟩:=s.loop z5 v z2 z A
  grind
 .obtain⟨u,N⟩:=m c p;obtain⟨g,q,x,d,e',r,y,T,X⟩:=s.tok c u;have L:(K.tk c).1≠(K.tk t).1:=λz6=>N (s.oj c t u D z6);have C:(w.freeze ⟨(K.tk t).1,n,aq⟩ 1).heap[(K.tk c).1]?=J (.cells d e' r):=by rw[l _ L];exact y
  exact⟨g,q,x,d,e',r,C,T,λj hj z=>by rw[<-X j hj z,we y,we C]⟩
 .obtain⟨g,q⟩:=s.md z2 A
  grind
def ahq(s:bZ K G ok w0 h w){src u:aO}{x y:V}{h':ah}(d:l_ P h src u x=J (y,h')){c:aQ}(t:aZ K x c):
 ∃m v w',K.Le m/\bZ m G ok w0 h' w'/\aZ m y v/\(convert src u c).run P w=.ok v w':=by
 unfold l_ at d;split at d
 .rename_i e str g f;obtain⟨rfl,_⟩:=t.ig;split at d
  .rename_i i l hi;split at d
   .injection d with d;obtain⟨rfl,rfl⟩:=fP d;obtain⟨m,v,w',q1,q2,q3,q4⟩:=awb (P:=P) s (e:=e) (str:=str);exact⟨m,v,w',q1,q2,q3,by simp only[convert,Sem.run_bind,dB g,dB f,dB l,Result.andThen_ok];exact q4⟩
   grind
  grind
 .rename_i e g f;split at d
  .rename_i U l r;simp only[dK]at d;obtain⟨z4,hl,d⟩:=d;obtain⟨rfl,rfl⟩:=fP d;obtain⟨a,n,rx,rfl,L,X,E,p,q,D⟩:=Gd (P:=P) s r t;obtain⟨ns,rfl,rfl⟩:=afT hl X;refine⟨K,.string ⟨(ns.map λY=>UInt8.ofNat Y.toNat).toArray⟩,w,.refl K,s,.v _ O,?_⟩;cases a with|none=>have:=D O;subst this;simp at p;subst p;simp only[convert,Sem.run_bind,dB g,dB f,dB l,Result.andThen_ok,Conv.bytesToString];rfl|some b=>have A:=q b O;rw[mr]at A;simp only[convert,Sem.run_bind,dB g,dB f,dB l,Result.andThen_ok,Conv.bytesToString,A,List.forIn_toArray,Sem.run_pure];simp[foldl_push]
  grind
 .rename_i e e2 z1 sz es g f;split at d
  .rename_i l;split at d
   .rename_i hc;obtain⟨rfl,z⟩:=hc;injection d with d;obtain⟨rfl,rfl⟩:=fP d;cases t with|ac _ _ _ z3 C Y n cells hn L hv H ht E=>obtain⟨S,Xu,T,ht4,ht5⟩:=ht;subst T;obtain⟨t1,t2,t3,c0,Z,z0,t4,t5,t6⟩:=s.tok z1 z;refine⟨K,.slice (J ⟨(K.tk z1).1,C,aq⟩) Y n,_,.refl K,s.kill z c0.size,.ac .held sz es _ C Y n cells hn L hv H ⟨S,trivial⟩ E,?_⟩;have N:w.shape? (K.tk z1).1=J (Z,c0.size):=(by simp[World.shape?,t4]);rw[g]at f;injection f with f;injection f with f;subst f;simp only[convert,Sem.run_bind,dB g,dB l,Result.andThen_ok,beq_self_eq_true,markStringish,run_shape,N,run_freeze,Sem.run_pure]
   grind
  grind
 .cases d
 .rename_i d1 d2 z5 g f _ _ _ _;simp only[dK,xr]at d;obtain⟨z6,⟨z2,h1,h2⟩,d⟩:=d;obtain⟨rfl,rfl⟩:=fP d;obtain⟨rfl,_⟩:=t.ig;exact⟨K,z2,w,.refl K,s,Gw h2,F6 h1 w⟩
 grind
end
section
variable {P:bL} {K:bA} {G:Nat->Option (List V)} {ok:a_->Nat->Code->Bool} {w0 w:b_} {h:ah}
def ahu(s:bZ K G ok w0 h w){ts:Array aO}{ty:aO}{a x y:V}{h':ah}(p:xE P h ts a x=J (y,h')){c cx:aQ}(ha:aZ K a c)(u:aZ K x cx):
 ∃K' v w',K.Le K'/\bZ K' G ok w0 h' w'/\aZ K' y v/\(Builtin.copy_ ts ty #[c,cx]).run P w=.ok v w':=by
 unfold xE at p;split at p
 .rename_i elem T;simp only[xr]at T;obtain⟨t0,h0,T⟩:=T;split at p
  .rename_i i b off len ba hi;split at p
   .rename_i d cs f Z;split at p
    .rename_i hc;injection p with p;obtain⟨rfl,rfl⟩:=fP p;obtain⟨C,n1,n2,n3,n4,n5,n⟩:=FW (P:=P) s f u;cases ha with
     |arr _ z0 _ _ _ tV rI hb l qs Cn ri=>
      obtain⟨k1,k2,ka,cells,e,k3,k4⟩:=s.box b z0 cs hb Z;have OF:F cs<=cells.size:=k4.le;have akt:ox (F d) len<=F d:=Nat.min_le_left _ _;have S:ox (F d) len<=len:=Nat.min_le_right _ _;have hm:ox (F d) len*i.size<=len*i.size:=mR _ S;have qw:ox (F d) len*i.size<=F d*i.size:=mR _ akt;have pM:(d.take (ox (F d) len)).flatten=d.flatten.take (ox (F d) len*i.size):=Nk n2 _;have Cx:aR K (d.take (ox (F d) len)).flatten (C.take (ox (F d) len*i.size)):=(by rw[pM];exact n3.take _);have Y:(d.take (ox (F d) len)).flatten.all V.dt=aa:=(by rw[pM,ff];intro x u;exact ff.1 n4 x (Bf u));have qu:F (C.take (ox (F d) len*i.size))=ox (F d) len*i.size:=(by simp only[dJ];omega);obtain⟨w',ea,q1,q2,q3⟩:=atu (P:=P) Cn (vs:=C.take (ox (F d) len*i.size)) (λhz=>by simp_all) k3 af (yX Cx Y);refine⟨K,.int .i64 (ox (F d) len:Nat),w',.refl K,s.Rf hb Z (by grind) k3 q2 q3 Cx Y,.v _ O,?_⟩
      .-- the source's first cells, as many as are copied
       have D:(Builtin.firstCells i.size (ox (F d) len) cx).run P w=.ok (C.take (ox (F d) len*i.size)).toArray w:=by
        unfold jT at f;split at f
        .rename_i str;split at f
         .rename_i h1;injection f with f;subst f;obtain⟨rfl,_⟩:=u.ig;have q:F (str.data.toList.map iF)=str.size:=(by rw[bJ];rfl);have e2:C=str.data.toList.map λb=>Value.int .u8 b.toNat:=(by have e3:(Builtin.firstCells i.size (F (str.data.toList.map iF)) (.string str)).run P w=.ok (str.data.toList.map λb=>Value.int .u8 b.toNat).toArray w:=(by rw[q];have:str.extract 0 str.size=str:=(by simp);have e4:str.data.map (λb=>Value.int .u8 b.toNat)=(str.data.toList.map λb=>Value.int .u8 b.toNat).toArray:=(by apply KW;simp);simp only[Builtin.firstCells,this,Sem.run_pure,e4]);rw[e3]at n;injection n with n _;exact(LO n).symm);subst e2;rw[h1,mr];simp only[Builtin.firstCells,Sem.run_pure];congr 1;apply KW;simp_all
         simp_all
        .obtain⟨a,rI,z,rfl,hr,iV,zN,L,N,Fp⟩:=Gd (P:=P) s f u;cases a with
         |none=>simp_all|some ad=>
          simp only[Builtin.firstCells];have l:=N ad O;have e5:z=C:=(by simp only[Builtin.firstCells]at n;rw[l]at n;injection n with n _;exact LO n);subst e5;have ax9:∀j v,z[j]?=J v->w.cell? (ad.add j)=J v:=by
           unfold rowsOf at f;split at f
           .rename_i k sz es _;split at f
            .injection f with f;subst f;cases u with|gH=>simp_all|ac _ _ _ H m z1 cap2 g hn I8 ak3 E Xu NB=>have q:=run_loadCells_list (P:=P) w ⟨H,m,aq⟩ g (λj v A=>by rw[Addr.ji];exact s.ic _ _ _ (E j v A));have r:F g=F es*i.size:=(by rw[<-ak3.length,iV.length,L]);rw[r]at q;rw[q]at l;injection l with l _;have:=LO l;subst this;intro j v A;rw[Addr.ji];exact s.ic _ _ _ (E j v A)
            simp_all
           .rename_i b2 m tP cap2 _;split at f
            .rename_i X NR;split at f
             .rename_i ayd;injection f with f;cases u with
              |arr _ H _ _ _ off2' cap2' mC q Wl t ayA=>
               obtain⟨_,_,_,g,e2,k3',k4'⟩:=s.box b2 H X mC NR;have fw:F X<=F g.toList:=(by have:=k4'.le;simpa using this);rcases t with t|qA;rotate_left 1
               .simp_all
               rw[t]at l ⊢;have r:F ((g.toList.drop m).take (d.length*i.size))=F d*i.size:=(by simp only[dJ,fJ];omega);have IR:=run_loadCells_list (P:=P) w ⟨H,m,aq⟩ ((g.toList.drop m).take (F d*i.size)) (λj v A=>by
                rw[Addr.ji,cell_of k3']
                grind)
               rw[r]at IR;rw[IR]at l;injection l with l _;have:=LO l;subst this;intro j v A;rw[Addr.ji,cell_of k3']
               grind
             simp_all
            simp_all
           .grind
          have:=run_loadCells_list (P:=P) w ad (z.take (ox (F d) len*i.size)) (λj v A=>by
           grind)
          simp_all
       simp only[Builtin.copy_,h0,je,jy,nR,Sem.run_bind,dB T,Result.andThen_ok,n1,sizeOf,pT hi,Sem.run_pure,D,q1];rfl
    grind
   grind
  grind
 grind
def amD{ts:Array aO}{ty t:aO}(g:ts[0]?=J t){x y:V}(d:dw P t x=J y){c:aQ}(l:aZ K x c)(w:b_):
 ∃v,(Builtin.len_ ts ty #[c]).run P w=.ok v w/\aZ K y v:=by
 unfold dw at d;split at d
 .rename_i f;injection d with d;subst d;obtain⟨rfl,_⟩:=l.ig;exact⟨_,by simp only[Builtin.len_,g,je,jy,Sem.run_bind,dB f,Result.andThen_ok,Sem.run_pure,goInt],.v _ O⟩
 .rename_i r e f;injection d with d;subst d;exact⟨_,by simp only[Builtin.len_,g,je,jy,Sem.run_bind,dB f,Result.andThen_ok,Sem.run_pure,goInt],.v _ O⟩
 .rename_i a f;split at d
  .rename_i r e n;injection d with d;subst d;exact⟨_,by simp only[Builtin.len_,g,je,jy,Sem.run_bind,dB f,dB n,Result.andThen_ok,Sem.run_pure,goInt],.v _ O⟩
  grind
 .rename_i e k u s f;injection d with d;subst d;cases l with
  |nil=>exact⟨.int .i64 0,by simp only[Builtin.len_,g,je,jy,Sem.run_bind,dB f,Result.andThen_ok,Sem.run_pure,goInt];rfl,.v _ O⟩
  |gH=>exact⟨.int .i64 0,by simp only[Builtin.len_,g,je,jy,Sem.run_bind,dB f,Result.andThen_ok,Sem.run_pure,goInt];rfl,.v _ O⟩
  |ac _ _ _ z p r m cells q _ _ _ _ _=>subst q;exact⟨_,by simp only[Builtin.len_,g,je,jy,Sem.run_bind,dB f,Result.andThen_ok,Sem.run_pure,goInt],.v _ O⟩
 .rename_i e b p len m f;injection d with d;subst d;cases l with|arr=>exact⟨_,by simp only[Builtin.len_,g,je,jy,Sem.run_bind,dB f,Result.andThen_ok,Sem.run_pure,goInt],.v _ O⟩
 grind
def agd{ts:Array aO}{ty t:aO}(g:ts[0]?=J t){x y:V}(d:BB P t x=J y){c:aQ}(m:aZ K x c)(w:b_):
 ∃v,(Builtin.cap_ ts ty #[c]).run P w=.ok v w/\aZ K y v:=by
 unfold BB at d;split at d
 .rename_i e q n f;injection d with d;subst d;cases m with
  |gH=>exact⟨.int .i64 0,by simp only[Builtin.cap_,g,je,jy,Sem.run_bind,dB f,Result.andThen_ok,Sem.run_pure,goInt];rfl,.v _ O⟩
  |ac _ _ _ z s u r cells p _ _ _ l _=>have:=l.2;simp only at this;subst this;subst p;exact⟨_,by simp only[Builtin.cap_,g,je,jy,Sem.run_bind,dB f,Result.andThen_ok,Sem.run_pure,goInt],.v _ O⟩
 .rename_i e q n f;injection d with d;subst d;cases m with
  |nil=>exact⟨.int .i64 0,by simp only[Builtin.cap_,g,je,jy,Sem.run_bind,dB f,Result.andThen_ok,Sem.run_pure,goInt];rfl,.v _ O⟩
  |ac _ _ _ _ _ _ _ _ _ _ _ _ l _=>exact l.2.elim
 .rename_i u e f;injection d with d;subst d;exact⟨_,by simp only[Builtin.cap_,g,je,jy,Sem.run_bind,dB f,Result.andThen_ok,Sem.run_pure,goInt],.v _ O⟩
 grind
def TN(s:bZ K G ok w0 h w){b:Builtin}{ts:Array aO}{ty:aO}{args:List V}{y:V}{h':ah}(c:iQ P h b ts ty args=J (y,h')){vs:Array aQ}(d:aR K args vs.toList)(n:Array Bool):
 ∃g v w',K.Le g/\bZ g G ok w0 h' w'/\aZ g y v/\(builtin b ts ty n vs).run P w=.ok (.value v) w':=by
 unfold iQ at c;obtain⟨vs⟩:=vs;simp only at d;split at c
 .cases d with|cons _ C _ _ d f=>cases f with|nil=>
  split at c
  .rename_i N q;simp only[dK]at c;obtain⟨H,x,c⟩:=c;obtain⟨rfl,rfl⟩:=fP c;obtain⟨v,l,m⟩:=amD (ty:=ty) q x d w;exact⟨K,v,w,.refl K,s,m,by simp only[builtin,Sem.run_bind,l,Result.andThen_ok,Sem.run_pure]⟩
  grind
 .cases d with|cons _ C _ _ d f=>cases f with|nil=>
  split at c
  .rename_i N q;simp only[dK]at c;obtain⟨H,x,c⟩:=c;obtain⟨rfl,rfl⟩:=fP c;obtain⟨v,l,m⟩:=agd (ty:=ty) q x d w;exact⟨K,v,w,.refl K,s,m,by simp only[builtin,Sem.run_bind,l,Result.andThen_ok,Sem.run_pure]⟩
  grind
 .cases d with|cons _ C _ _ d f=>cases f with|cons _ D _ _ p f=>cases f with|nil=>
  obtain⟨g,v,w',l,m,z,A⟩:=Mq (ty:=ty) s c d p;exact⟨g,v,w',l,m,z,by simp only[builtin,Sem.run_bind,A,Result.andThen_ok,Sem.run_pure]⟩
 .cases d with|cons _ C _ _ d f=>cases f with|cons _ D _ _ p f=>cases f with|nil=>
  obtain⟨g,v,w',l,m,z,A⟩:=ahu (ty:=ty) s c d p;exact⟨g,v,w',l,m,z,by simp only[builtin,Sem.run_bind,A,Result.andThen_ok,Sem.run_pure]⟩
 .split at c
  .rename_i L u;simp only[dK,xr]at c;obtain⟨H,⟨E,r,t⟩,c⟩:=c;obtain⟨rfl,rfl⟩:=fP c;have:=Ng u d;subst this;exact⟨K,E,w,.refl K,s,Gw t,by simp only[builtin,Sem.run_bind,F6 r w,Result.andThen_ok,Sem.run_pure]⟩
  grind
 .split at c
  .rename_i L u;simp only[dK,xr]at c;obtain⟨H,⟨E,r,t⟩,c⟩:=c;obtain⟨rfl,rfl⟩:=fP c;have:=Ng u d;subst this;exact⟨K,E,w,.refl K,s,Gw t,by simp only[builtin,Sem.run_bind,F6 r w,Result.andThen_ok,Sem.run_pure]⟩
  grind
 grind
def afS(s:bZ K G ok w0 h w){d:Option Tmp}{b:Builtin}{ts:Array aO}{ty:aO}{args:List V}{y:V}{h':ah}(f:qh P G d h b ts ty args=J (y,h')){vs:Array aQ}(g:aR K args vs.toList)(c:Array Bool):
 ∃l v w',K.Le l/\bZ l G ok w0 h' w'/\aZ l y v/\(builtin b ts ty c vs).run P w=.ok (.value v) w':=by
 unfold qh at f;split at f
 .split at f
  .obtain⟨vs⟩:=vs;simp only at g;cases g with|cons _ x _ _ g m=>cases m with|cons _ u _ _ n m=>cases m with|nil=>
   obtain⟨l,v,w',p,q,r,t⟩:=Ro (ty:=ty) s f g n;exact⟨l,v,w',p,q,r,by simp only[builtin,Sem.run_bind,t,Result.andThen_ok,Sem.run_pure]⟩
  .exact TN s (b:=.append) (ts:=ts) (ty:=ty) (args:=[_,_]) (show iQ P h .append ts ty [_,_]=_ from f) g c
 .exact TN s f g c
def ao7{c a b y:V}(d:JP c a b=J y){l f g:aQ}(m:aZ K c l)(n:aZ K a f)(p:aZ K b g):
 ∃t v,l=.bool t/\v=(if t then f else g)/\aZ K y v:=by
 unfold JP at d;split at d
 .rename_i t;injection d with d;subst d;obtain⟨rfl,_⟩:=m.ig
  grind
 grind
def ao8(s:bZ K G ok w0 h w){ρ:ck->V}{ρ':ck->aQ}(l:∀x,aZ K (ρ x) (ρ' x)){o:Oper}{x:V}{h':ah}(c:dP P G ρ h o.op=J (x,h')):
 Yields K G ok w0 x h' ((execOp ρ' o).run P w):=by
 unfold execOp;cases Z:o.op<;>rw[Z]at c<;>simp only[dP]at c
 case move a=>injection c with c;obtain⟨rfl,rfl⟩:=fP c;exact .mi s (l a) O
 case assign a=>injection c with c;obtain⟨rfl,rfl⟩:=fP c;exact .mi s (l a) O
 case pick C a b=>
  simp only[dK]at c;obtain⟨u,d,c⟩:=c;obtain⟨rfl,rfl⟩:=fP c;obtain⟨t,r,m,rfl,n⟩:=ao7 d (l C) (l a) (l b);refine .mi s n ?_;simp only[m,asBool,Sem.run_bind,Sem.run_pure,Result.andThen_ok]
 case alloc t=>
  simp only[dK]at c;obtain⟨cs,v,c⟩:=c;obtain⟨q,r,w',m,g,n,z⟩:=aeb (P:=P) s v;rw[c]at g n;exact⟨q,r,w',m,g,n,.inl (by simp_all)⟩
 case box t a=>
  simp only[dK]at c;obtain⟨cs,v,c⟩:=c;obtain⟨q,r,w',m,g,n,z⟩:=afG (P:=P) (t:=t) s v (l a);rw[c]at g n;exact⟨q,r,w',m,g,n,.inl (by simp_all)⟩
 case build t aW=>
  simp only[dK]at c;obtain⟨u,d,c⟩:=c;obtain⟨rfl,rfl⟩:=fP c;obtain⟨r,m,g⟩:=afR l d w;exact .mi s g (by simp_all)
 case buildSlice t len aW=>
  split at c
  .simp only[dK]at c;obtain⟨u,d,c⟩:=c;obtain⟨rfl,rfl⟩:=fP c;obtain⟨q,r,w',m,g,n,z⟩:=afQ s l d;exact⟨q,r,w',m,g,n,.inl (by simp_all)⟩
  .split at c
   .rename_i k sz es d;injection c with c;obtain⟨q,r,w',m,g,n,z⟩:=afP s l d;rw[c]at g n;exact⟨q,r,w',m,g,n,.inl (by simp_all)⟩
   grind
 case load t a=>
  simp only[dK]at c;obtain⟨u,d,c⟩:=c;obtain⟨rfl,rfl⟩:=fP c;obtain⟨z0,z1,r,m,g,n⟩:=YA s d (l a);exact .mi s n (by simp only[m,Instr.loadAt,Instr.sureAddr,Sem.run_bind,g,Result.andThen_ok,Sem.run_pure])
 case store t a u=>
  simp only[dK]at c;obtain⟨S,d,c⟩:=c;obtain⟨rfl,rfl⟩:=fP c;obtain⟨w',m,g⟩:=avi s d (l a) (l u);exact⟨K,undef,w',.refl K,g,.tuple _ _ .nil,.inr ⟨by simp_all,O⟩⟩
 case nilCheck a=>
  simp only[dK]at c;obtain⟨u,d,c⟩:=c;obtain⟨rfl,rfl⟩:=fP c;have p:=l a;generalize ρ a=xa at p d;generalize A:ρ' a=ca at p;unfold PK at d;split at d
  .injection d with d;subst d;cases p with|box _ _ _ hb=>exact .mi s (.box _ _ _ hb) (by simp_all)|ec _ _=>exact .mi s (.ec _ _) (by simp_all)
  .injection d with d;subst d;cases p with|elem _ _ _ _ z0 o z1 cells H hv D X hp T=>exact .mi s (.elem _ _ _ _ z0 o z1 cells H hv D X hp T) (by simp_all)
  .injection d with d;subst d;cases p with|func _ _ _ fs cs h1 S=>exact .mi s (.func _ _ _ fs cs h1 S) (by simp_all)
  .injection d with d;subst d;cases p with|yield _ z0 hl=>exact .mi s (.yield _ z0 hl) (by simp_all)
  .injection d with d;subst d;cases p with|iface _ _ C hx=>exact .mi s (.iface _ _ C hx) (by simp_all)
  grind
 case binOp op t a b yt=>
  simp only[dK]at c;obtain⟨u,d,c⟩:=c;obtain⟨rfl,rfl⟩:=fP c;obtain⟨r,m,g⟩:=aff d (l a) (l b) w;exact .mi s g (by rw[Sem.run_bind,m];rfl)
 case unOp op t a=>
  simp only[dK]at c;obtain⟨u,d,c⟩:=c;obtain⟨rfl,rfl⟩:=fP c;obtain⟨r,m,g⟩:=awm d (l a) w;exact .mi s g (by simp_all)
 case convert sr ds a=>
  obtain⟨q,r,w',m,g,n,z⟩:=ahq s c (l a);exact⟨q,r,w',m,g,n,.inl (by simp_all)⟩
 case makeInterface t a=>
  split at c
  .rename_i Y;injection c with c;obtain⟨rfl,rfl⟩:=fP c;obtain⟨z3,L,hd⟩:=O0 Y;refine .mi s (.iface t _ _ (l a)) ?_;simp only[Instr.makeInterface,Sem.run_bind,dB L,Result.andThen_ok];simp_all
  grind
 case makeFunc fn first ba=>
  injection c with c;obtain⟨rfl,rfl⟩:=fP c;refine .mi s (.func fn _ _ _ _ (by rw[DN];exact aR.map_mk λx _=>l x) (by rw[DN];exact aR.map_mk λx _=>l x)) O
 case makeSlice t z2 C=>
  obtain⟨q,r,w',m,g,n,z⟩:=anh s c (l z2) (l C);exact⟨q,r,w',m,g,n,.inl (by simp_all)⟩
 case slice t a lo X mx=>
  simp only[dK]at c;obtain⟨u,d,c⟩:=c;obtain⟨rfl,rfl⟩:=fP c;obtain⟨r,m,g⟩:=auq l d (l a) w;exact .mi s g (by simp_all)
 case fieldAddr t a f=>
  simp only[dK]at c;obtain⟨u,d,c⟩:=c;obtain⟨rfl,rfl⟩:=fP c;obtain⟨r,m,g⟩:=ais d (l a) w;exact .mi s g (by simp_all)
 case field t a f=>
  have p:=l a;generalize ρ a=xa at p c;generalize A:ρ' a=ca at p;split at c
  .rename_i fields cs L;split at c
   .rename_i fd hf;simp only[dK]at c;obtain⟨u,d,c⟩:=c;obtain⟨rfl,rfl⟩:=fP c;cases p with|agg _ vs y=>obtain⟨r,m,g⟩:=Zx d y w;exact .mi s g (by simp only[Instr.field,Sem.run_bind,dB L,Result.andThen_ok,hf,A,asAgg,Sem.run_pure,m])
   grind
  grind
 case indexAddr t a i=>
  simp only[dK]at c;obtain⟨u,d,c⟩:=c;obtain⟨rfl,rfl⟩:=fP c;obtain⟨r,m,g⟩:=alk d (l a) (l i) w;exact .mi s g (by simp_all)
 case index t a i=>
  simp only[dK]at c;obtain⟨u,d,c⟩:=c;obtain⟨rfl,rfl⟩:=fP c;obtain⟨r,m,g⟩:=alo d (l a) (l i) w;exact .mi s g (by simp_all)
 case typeAssert a xt t okk=>
  simp only[dK]at c;obtain⟨u,d,c⟩:=c;obtain⟨rfl,rfl⟩:=fP c;obtain⟨r,m,g⟩:=aeA (xt:=xt) d (l a) w;exact .mi s g (by simp_all)
 case extract a i=>
  have p:=l a;generalize ρ a=xa at p c;generalize A:ρ' a=ca at p;split at c
  .rename_i vs;simp only[dK]at c;obtain⟨u,d,c⟩:=c;obtain⟨rfl,rfl⟩:=fP c;cases p with|tuple _ N y=>obtain⟨C,D,H⟩:=y.get d;have:N[i]?=J C:=(by simpa using D);exact .mi s H (by simp only[Instr.extract,A,this,Sem.run_bind,Sem.run_pure,Result.andThen_ok])
  grind
 all_goals cases c
end
def CZ(n:Nat)(ops:Array Oper):Bool:=ops.all λo=>match o.dst with|some c=>decide (c<n)|none=>aa
def codeOk(n:Nat):Code->Bool
 | .region _ ops _=>CZ n ops
 | .seq a b=>codeOk n a&&codeOk n b
 | .cond _ a b=>codeOk n a&&codeOk n b
 | .block _ c=>codeOk n c
 | .loop c=>codeOk n c
 | .scope c=>codeOk n c
 | .rangeFunc _ d a b=>d.all (λf=>decide (f<n))&&codeOk n a&&codeOk n b
 |_=>aa
def CW(P:bL)(fn:a_)(n:Nat)(c:Code):Bool:=codeOk n c&&(P.funcs[fn]?).isSome
inductive pG (K:bA):List (a_ × List V)->List Deferred->List Nat->Prop
 |nil:pG K [] [] []
 |call (g:a_) (args:List V) (vs ba:Array aQ) (ds cds ms) (hv:aR K args (vs++ba).toList) (h:pG K ds cds ms):
  pG K ((g,args)::ds) ({target:=.fn (.func g) ba,args:=vs}::cds) ms
 |mark (r:Nat) (ds cds ms) (hr:r∈K.md) (hn:r∉ms) (h:pG K ds cds ms):pG K ds ({target:=.collected r,args:=#[]}::cds) (r::ms)
def pG.mono{K m}(le:K.Le m){d c f}(h:pG K d c f):pG m d c f:=by
 induction h with
 |nil=>exact .nil|call u g s n d c f r _ l=>exact .call u g s n d c f (r.mono le) l|mark t d c f q p _ l=>exact .mark t d c f (le.md t q) p l
structure mO(P:bL)(K:bA)(e:Env)(a:Act)(B:fj)(ms:List Nat):Prop where
 gM:kQ K e.tmps a.tmps
 defers:pG K e.defers a.defers ms
 round:match e.round with
  |none=>B.roundOf=aq
  |some l=>∃g,K.γ[l]?=J g/\B.roundOf=J g/\B.kind=.normal/\a.defers=[]/\ms=[]/\e.defers=[]
 fn:(P.funcs[B.fn]?).isSome=aa
def mO.mono{P}{K c}(le:K.Le c){e}{a}{B}{d}(h:mO P K e a B d):mO P c e a B d:=by
 refine⟨h.gM.mono le,h.defers.mono le,?_,h.fn⟩;have:=h.round;cases l:e.round with|none=>simp_all|some n=>rw[l]at this;obtain⟨m,f,g⟩:=this;exact⟨m,le.γ _ _ f,g⟩
inductive CS (K:bA) (kind:CallKind) (base:List fj):Option (V × Bool)->List fj->Prop
 |normal (h:kind=.normal):CS K kind base aq base
 |ret (c0:fj) (rest:List fj) (hk:kind=.deferred) (hb:base=c0::rest) (hm:c0.mode=.returning):CS K kind base aq base
 |dg (c0:fj) (rest:List fj) (x:V) (v:aQ) (r:Bool) (hk:kind=.deferred) (hb:base=c0::rest) (hx:aZ K x v):
  CS K kind base (J (x,r)) ({c0 with mode:=.panicking [{v,recovered:=r}]}::rest)
def CS.mono{K l}(le:K.Le l){d c p cs}(h:CS K d c p cs):CS l d c p cs:=by
 cases h with|normal h=>exact .normal h|ret c0 rest g f m=>exact .ret c0 rest g f m|dg c0 rest s r q g f n=>exact .dg c0 rest s r q g f (n.mono le)
def CP(s:oA)(d t)(x):(s.set d x).get t=if d=t then x else s.get t:=by simp only[oA.set,oA.get,look];simp_all
section
variable {P:bL} {K:bA} {G:Nat->Option (List V)} {w0 w:b_} {h:ah}
def kQ.set{s:oA}{tmps:Array aQ}(g:kQ K s tmps){d:Nat}(l:d<tmps.size){x:V}{v:aQ}(m:aZ K x v):kQ K (s.set d x) (tmps.setIfInBounds d v):=by
 intro f;rw[CP];by_cases c:d=f
 .simp_all
 .rw[aV c];have:(tmps.setIfInBounds d v).getD f undef=tmps.getD f undef:=by simp[RD,c]
  rw[this];exact g f
def xK{e:Env}{a:Act}(c:kQ K e.tmps a.tmps)(x:ck):aZ K (e.eval x) (a.eval x):=by
 cases x with|tmp g=>exact c g|const l=>exact JE l|global f=>exact .ec f 0|func d=>exact .func (.func d) [] [] #[] #[] .nil .nil
def mO.put{e:Env}{a:Act}{B:fj}{g:List Nat}(f:mO P K e a B g){c:Option Tmp}(l:∀d,c=J d->d<a.tmps.size){x:V}{v:aQ}(m:aZ K x v):
 mO P K (e.put c x) (a.put c v) B g:=by
 cases c with|none=>exact f|some d=>exact⟨f.gM.set (l d O) m,f.defers,f.round,f.fn⟩
def JW(a:Act)(c)(v):(a.put c v).tmps.size=a.tmps.size:=by cases c<;>simp[Act.put]
section steps
variable {B:fj} {a:Act} {k:List Item} {cs:List fj} {ops:Array Oper} {i:Nat} {rest:List Nat} {o:Oper} {w':b_}
def zD(c:ops[i]?=J o)(v:aQ):(B.atR a (.inRegion ops (i::rest)::k)).finish v=B.atR (a.put o.dst v) (.inRegion ops rest::k):=by rw[Frame.finish_atR,c];rfl
def abd(c:ops[i]?=J o)(f:Region.wanted o (yielded ops a.tmps)=aa){v:aQ}(d:(o.semAt B.roundOf a.eval).run P w=.ok (.value v) w'):
 step P (lone (B.atR a (.inRegion ops (i::rest)::k)) cs w)=.next (lone (B.atR (a.put o.dst v) (.inRegion ops rest::k)) cs w'):=by
 refine step_lone_go ?_;rw[stepGR_op c f,<-zD c];simp[stepG.apply,d,Sem.runT_eq]
def avf(c:ops[i]?=J o)(f:Region.wanted o (yielded ops a.tmps)=aa)(d:(o.semAt B.roundOf a.eval).run P w=.ok .skip w'):
 step P (lone (B.atR a (.inRegion ops (i::rest)::k)) cs w)=.next (lone (B.atR (a.put o.dst undef) (.inRegion ops rest::k)) cs w'):=by
 refine step_lone_go ?_;rw[stepGR_op c f,<-zD c];simp[stepG.apply,d,Sem.runT_eq]
def au6(c:ops[i]?=J o)(g:Region.wanted o (yielded ops a.tmps)=aa){f:a_}{args:Array aQ}(d:(o.semAt B.roundOf a.eval).run P w=.ok (.enter f args) w'):
 step P (lone (B.atR a (.inRegion ops (i::rest)::k)) cs w)=.next (lone (Frame.enter P f args .normal) (B.atR a (.inRegion ops (i::rest)::k)::cs) w'):=by
 refine step_lone_go ?_;rw[stepGR_op c g];simp[stepG.apply,d,Sem.runT_eq,Frame.atR]
def avd(c:ops[i]?=J o)(g:Region.wanted o (yielded ops a.tmps)=aa){l:Nat}{f:a_}{tmps:Array aQ}{assign body:Code}(d:(o.semAt B.roundOf a.eval).run P w=.ok (.round l f tmps assign body) w'):
 step P (lone (B.atR a (.inRegion ops (i::rest)::k)) cs w)=.next (lone (Frame.round l f tmps assign body .normal) (B.atR a (.inRegion ops (i::rest)::k)::cs) w'):=by
 refine step_lone_go ?_;rw[stepGR_op c g];simp[stepG.apply,d,Sem.runT_eq,Frame.atR]
def au5(c:ops[i]?=J o)(g:Region.wanted o (yielded ops a.tmps)=aa){d:Deferred}(f:(o.semAt B.roundOf a.eval).run P w=.ok (.defer d) w'):
 step P (lone (B.atR a (.inRegion ops (i::rest)::k)) cs w)=.next (lone (B.atR ({a with defers:=d::a.defers}.put o.dst undef) (.inRegion ops rest::k)) cs w'):=by
 refine step_lone_go ?_;rw[stepGR_op c g,<-zD (B:=B) (k:=k) (rest:=rest) (a:={a with defers:=d::a.defers}) c];simp[stepG.apply,f,Sem.runT_eq,Frame.atR]
def aa9(c:ops[i]?=J o)(f:Region.wanted o (yielded ops a.tmps)=aa){v:aQ}(d:(o.semAt B.roundOf a.eval).run P w=.halt (.panic v) w'):
 step P (lone (B.atR a (.inRegion ops (i::rest)::k)) cs w)=.next (lone {B.atR a (.inRegion ops (i::rest)::k) with mode:=.panicking [{v,recovered:=au}]} cs w'):=by
 refine step_lone_go ?_;rw[stepGR_op c f,<-Frame.raise_atR];simp[stepG.apply,d,Sem.runT_eq]
def avb(d:ops[i]?=J o)(m:Region.wanted o (yielded ops a.tmps)=aa)(f:B.roundOf=aq)(g:(o.semAt B.roundOf a.eval).run P w=.ok .recover w')
 (l:tryRecover (B.atR a (.inRegion ops (i::rest)::k)) cs=aq):
 step P (lone (B.atR a (.inRegion ops (i::rest)::k)) cs w)=.next (lone (B.atR (a.put o.dst .nilIface) (.inRegion ops rest::k)) cs w'):=by
 refine step_lone_go ?_;have c:(B.atR a (.inRegion ops (i::rest)::k)).roundOf=aq:=f;rw[stepGR_op d m,<-zD d];simp[stepG.apply,g,Sem.runT_eq,c,l]
def avc(f:ops[i]?=J o)(n:Region.wanted o (yielded ops a.tmps)=aa)(g:B.roundOf=aq)(l:(o.semAt B.roundOf a.eval).run P w=.ok .recover w')
 {v:aQ} {c:List fj} (m:tryRecover (B.atR a (.inRegion ops (i::rest)::k)) cs=J (v,c)):
 step P (lone (B.atR a (.inRegion ops (i::rest)::k)) cs w)=.next (lone (B.atR (a.put o.dst v) (.inRegion ops rest::k)) c w'):=by
 refine step_lone_go ?_;have d:(B.atR a (.inRegion ops (i::rest)::k)).roundOf=aq:=g;rw[stepGR_op f n,<-zD f];simp[stepG.apply,l,Sem.runT_eq,d,m]
end steps
end
abbrev jB(P:bL)(G:Nat->Option (List V))(w0:b_)(K:bA)(h:ah)(w:b_):Prop:=bZ K G (CW P) w0 h w
def ni(P:bL)(K:bA)(m:Machine)(B:fj)(k:List Item)(cs:List fj):Xt->Act->b_->Prop
 | .normal,a,w=>Steps P m (lone (B.atR a k) cs w)
 | .exit id,a,w=>∃c,exitTo id c=exitTo id k/\Steps P m (lone (B.atR a (.code (.exit id)::c)) cs w)
 | .ret,a,w=>∃c,Steps P m (lone (B.atR a (.code .ret::c)) cs w)
 | .panic d,a,w=>∃c v,aZ K d v/\Steps P m (lone {B.atR a c with mode:=.panicking [{v,recovered:=au}]} cs w)
def ni.of_steps{P}{K}{m m'}{B}{k}{cs}{x}{a}{w}(d:Steps P m m')(h:ni P K m' B k cs x a w):ni P K m B k cs x a w:=by
 cases x with
 |normal=>exact d.trans h|exit id=>obtain⟨g,f,c⟩:=h;exact⟨g,f,d.trans c⟩
 |ret=>obtain⟨g,c⟩:=h;exact⟨g,d.trans c⟩
 |panic x=>obtain⟨g,l,f,c⟩:=h;exact⟨g,l,f,d.trans c⟩
def ni.pass{P}{K}{m}{B}{c}{k}{cs}{x}{a}{w}(g:c.plain=aa)(l:x≠ .normal)
 (h:ni P K m B (c::k) cs x a w):ni P K m B k cs x a w:=by
 cases x with
 |normal=>simp_all|exit id=>obtain⟨n,d,f⟩:=h;refine⟨n,d.trans ?_,f⟩;cases c<;>first|rfl|simp[Item.plain]at g
 |ret=>exact h|panic x=>exact h
structure Left(P:bL)(G:Nat->Option (List V))(w0:b_)(K:bA)(ms:List Nat)(B:fj)(base:List fj)(m:Machine)(k:List Item)(n:Nat)(M:Xt)(e':Env)(h':ah)
 (K':bA) (w':b_) (a':Act) (BE:List fj) (ms':List Nat):Prop where
 le:K.Le K'
 pU:jB P G w0 K' h' w'
 frame:mO P K' e' a' B ms'
 cs:CS K' B.kind base e'.dg BE
 size:a'.tmps.size=n
 marks:∀r∈ms',r∈ms∨r∉K.md
 arr:ni P K' m B k BE M a' w'
def SK(P:bL)(G:Nat->Option (List V))(w0:b_)(f:Code->Env->ah->Option (Xt × Env × ah)):Prop:=
 ∀q e h d e' h',f q e h=J (d,e',h')->∀K w a B k c cs l,mO P K e a B l->CS K B.kind c e.dg cs->jB P G w0 K h w->codeOk a.tmps.size q=aa->
  ∃n w' p g m,Left P G w0 K l B c (lone (B.atR a (.code q::k)) cs w) k a.tmps.size d e' h' n w' p g m
def SI(P:bL)(K:bA)(c:fj)(w:b_):dV->Prop
 | .ret d=>∃v,aZ K d v/\c.leaving P w (.returned v)
 | .panic d=>∃v,aZ K d v/\c.leaving P w (.panicked [{v,recovered:=au}])
def SJ(P:bL)(G:Nat->Option (List V))(w0:b_)(f:a_->List V->ah->Option (dV × ah)):Prop:=
 ∀n d h p h',f n d h=J (p,h')->(∃m,P.funcs[n]?=J m/\m.body.isSome=aa)/\∀K w c,aR K d (c:Array aQ).toList->jB P G w0 K h w->∀cs,
  ∃g w' l,K.Le g/\jB P G w0 g h' w'/\Steps P (lone (Frame.enter P n c .normal) cs w) (lone l cs w')/\l.fn=n/\SI P g l w' p
def SM(P:bL)(G:Nat->Option (List V))(w0:b_)(f:a_->List V->Option (V × Bool)->ah->Option (dV × Option (V × Bool) × ah)):Prop:=
 ∀r d s h u q h',f r d s h=J (.ret u,q,h')->(∃p,P.funcs[r]?=J p/\p.body.isSome=aa)/\∀K w c g cs,aR K d (c:Array aQ).toList->CS K .deferred g s cs->jB P G w0 K h w->
  ∃m w' n l t,K.Le m/\jB P G w0 m h' w'/\CS m .deferred g q l/\Steps P (lone (Frame.enter P r c .deferred) cs w) (lone n l w')/\n.kind=.deferred/\n.going P w' (.returned t)
def SN(P:bL)(G:Nat->Option (List V))(w0:b_)(f:Nat->List V->ah->Option (dV × ah)):Prop:=
 ∀u n h x h',f u n h=J (x,h')->∀K w m p,K.γ[u]?=J p->aR K n (m:Array aQ).toList->jB P G w0 K h w->∀c cs,
  ∃r l d g q w',(Instr.yield p m).run P w=.ok (.round p r l d g) w/\K.Le q/\jB P G w0 q h' w'/\
   match x with
   | .ret t=>∃v,aZ q t v/\Steps P (lone (Frame.round p r l d g .normal) (c::cs) w) (lone (c.finish v) cs w')
   | .panic t=>∃v s,aZ q t v/\Steps P (lone (Frame.round p r l d g .normal) (c::cs) w) (lone s (c::cs) w')/\s.leaving P w' (.panicked [{v,recovered:=au}])
structure uA(P:bL)(G:Nat->Option (List V))(w0:b_)(R:Rec):Prop where
 code:SK P G w0 R.code
 call:SJ P G w0 R.call
 iS:SM P G w0 R.iS
 round:SN P G w0 R.round
section
variable {P:bL} {G:Nat->Option (List V)} {w0:b_} {R:Rec}
def Bl (P : bL) : Prop := ∀ (d : a_) (c : Func), P.funcs[d]? = J c -> (c.name == "runtime.NumGoroutine") = au
def QS(l:Bl P){g:a_}{fn:Func}(c:P.funcs[g]?=J fn)(m:fn.body.isSome=aa)(args:Array aQ)(w:b_):(callFunc g args).run P w=.ok (.enter g args) w:=by
 have d:=l g fn c;have f:fn.body.isNone=au:=by simp_all
 unfold callFunc;simp only[Sem.run_bind,run_program,Result.andThen_ok,c];rw[d,f];rfl
def anu{t:aO}{name:String}{f:a_}(d:Px P t name=J f)(v:aQ)(w:b_)(n:Nat):
 (method (n+1) t v name).run P w=.ok (f,v) w:=by
 unfold Px at d;split at d
 .rename_i i p;split at d
  .rename_i x q;have u:∀(c:Bool) (l:TypeDesc),x.path.toList=[]->x.func=J (f,c)->P.underlying t=J l->(match l with| .pointer _=>c=aa|_=>c=au)->(method (n+1) t v name).run P w=.ok (f,v) w:=by intro c l r m s g;simp only[method,Sem.run_bind,pT p,Result.andThen_ok,q,r,follow,Sem.run_pure,m,receiverAt,dB s];cases l<;>simp only at g<;>subst g<;>simp[Place.get]
   grind
  grind
 grind
end
section
variable {P:bL} {G:Nat->Option (List V)} {w0:b_} {R:Rec}
def Zf{n}{ops}(h:CZ n ops=aa){i:Nat}{o}(f:ops[i]?=J o):∀d,o.dst=J d->d<n:=by
 intro d c;unfold CZ at h
 grind
def awH{K}{e}{a:Act}(v:kQ K e.tmps a.tmps){ops}(m:CZ a.tmps.size ops=aa){o}{b}(c:fh ops e o=J b):
 Region.wanted o (yielded ops a.tmps)=b:=by
 unfold fh at c;unfold Region.wanted;cases u:o.guard with
 |none=>simp_all|some s=>
  obtain⟨j,x⟩:=s;rw[u]at c;simp only at c ⊢;cases d:(ops[j]?).bind (·.dst) with
  |none=>rw[d]at c;simp only[d_]at c;subst c;simp[yielded,d]|some g=>
   rw[d]at c;simp only at c;have t:g<a.tmps.size:=by
    cases p:ops[j]? with|none=>simp_all|some A=>rw[p]at d;exact Zf m p g d
   have f:=v g;have l:a.tmps[g]?=J (a.tmps.getD g undef):=(by simp[t]);have q:∀r,a.tmps.getD g undef=r->yielded ops a.tmps j=match r with| .bool b=>J b|_=>aq:=by
    intro r n;unfold yielded;rw[d];simp only[Option.bind_some];rw[l,n]
    grind
   unfold Env.get at c;generalize z:e.tmps.get g=D at c f;generalize n:a.tmps.getD g undef=r at f;have q:=q r n;split at c
   .rename_i y;obtain⟨rfl,-⟩:=f.ig;simp_all
   .injection c with c;cases f with|tuple cs C h=>simp_all
   grind
def HC{K}{e:Env}{a:Act}(c:kQ K e.tmps a.tmps)(xs:Array ck):aR K (xs.toList.map e.eval) (xs.map a.eval).toList:=by rw[DN];exact aR.map_mk λd _=>xK c d
def Ss(P:bL)(G:Nat->Option (List V))(w0:b_)(K:bA)(p:List Nat)(B:fj)(g:List fj)(m:Machine)(ops:Array Oper)(o:Oper)(rest:List Nat)(k:List Item)(n:Nat)(e':Env)(h':ah)(res:dV):Prop:=
 ∃c w' f d,K.Le c/\jB P G w0 c h' w'/\mO P c e' f B p/\CS c B.kind g e'.dg d/\f.tmps.size=n/\
  match res with
  | .ret q=>∃v,aZ c q v/\Steps P m (lone (B.atR (f.put o.dst v) (.inRegion ops rest::k)) d w')
  | .panic q=>∃v l,aZ c q v/\Steps P m (lone {B.atR f l with mode:=.panicking [{v,recovered:=au}]} d w')
def anc:∃d,Made.depth=d+1:=⟨Made.depth-1,by decide⟩
def aom(hn:Bl P)(hR:uA P G w0 R){e e':Env}{a:Act}{B:fj}{ms:List Nat}{base cs:List fj}{K:bA}{h h':ah}{w:b_}{ops:Array Oper}{i:Nat}{rest:List Nat}{o:Oper}{res:dV}
 (c:ev P G R e h o=J (res,e',h')) (f:mO P K e a B ms) (d:CS K B.kind base e.dg cs) (N:jB P G w0 K h w) (t:ops[i]?=J o) (z:Region.wanted o (yielded ops a.tmps)=aa) (k:List Item):
 Ss P G w0 K ms B base (lone (B.atR a (.inRegion ops (i::rest)::k)) cs w) ops o rest k a.tmps.size e' h' res:=by
 have Z:∀(ro:Option Nat) (v:Sem Next),(∀x,o.op≠ .defer x)->execOp a.eval o=v->(o.semAt ro a.eval)=v:=λro v gb p=>by rw[Oper.semAt_eq ro a.eval o gb,p]
 have Xl:e.round.isSome=au->B.roundOf=aq:=by
  intro hr;have:=f.round;cases L:e.round with|none=>simp_all|some z6=>simp_all
 unfold ev at c;split at c
 .-- recover
  rename_i args argTypes n;have r:execOp a.eval o=(do let z1 <-resolve a.eval {callee:=.builtin .recover,args:=args,argTypes:=argTypes} o.type;invoke z1.target z1.args):=by unfold execOp;rw[n]
  have l:(o.semAt B.roundOf a.eval).run P w=.ok .recover w:=by rw[Z _ _ (by simp_all) r];simp[resolve,invoke,builtin]
  split at c
  .cases c
  .rename_i Xg;have hB:=Xl (by simp_all);split at c
   .rename_i v hp;simp only[d_,dz]at c;obtain⟨rfl,rfl,rfl⟩:=c;rw[hp]at d;generalize A:B.kind=kd at d;generalize I6:(J (v,au):Option (V × Bool))=pp at d;cases d with
    |normal h=>grind
    |ret c0 u hk hb hm=>grind
    |dg c0 u x' z0 z5 hk hb p=>injection I6 with I6;injection I6 with y h2;subst y;subst h2;refine⟨K,w,a,_,.refl K,N,⟨f.gM,f.defers,f.round,f.fn⟩,.dg c0 u v z0 aa (A.trans hk) hb p,O,z0,p,.one (avc t z hB l ?_)⟩;simp[tryRecover,Frame.atR,A,hk]
   .rename_i hp;simp only[d_,dz]at c;obtain⟨rfl,rfl,rfl⟩:=c;refine⟨K,w,a,cs,.refl K,N,f,d,O,.nilIface,.v _ O,.one (avb t z hB l ?_)⟩;generalize A:B.kind=kd at d;generalize I6:e.dg=pp at d hp;cases d with
    |normal h=>subst h;simp[tryRecover,Frame.atR,A]|ret c0 u hk hb hm=>subst hk;subst hb;simp[tryRecover,Frame.atR,A,hm]|dg c0 u x' z0 z5 hk hb p=>
     subst hk;cases z5 with|false=>simp_all|true=>simp[tryRecover,Frame.atR,A]
 .-- the built-in panic
  rename_i args argTypes n;have r:execOp a.eval o=(do let z1 <-resolve a.eval {callee:=.builtin .panic,args:=args,argTypes:=argTypes} o.type;invoke z1.target z1.args):=by unfold execOp;rw[n]
  split at c
  .rename_i z4 v q;simp only[d_,dz]at c;obtain⟨rfl,rfl,rfl⟩:=c;have hv:=HC f.gM args;rw[q]at hv;generalize hz:args.map a.eval=z7 at hv;obtain⟨z7⟩:=z7;simp only at hv;cases hv with
   |cons _ x _ T y h2=>
    cases h2;cases y with|iface _ _ x H=>refine⟨K,w,a,cs,.refl K,N,f,d,O,.iface z4 x,_,.iface z4 v x H,.one (aa9 t z ?_)⟩;rw[Z _ _ (by simp_all) r];simp[resolve,invoke,builtin,hz,Instr.panic]
  grind
 .-- another built-in function
  rename_i b args argTypes qp mC n;have r:execOp a.eval o=(do let z1 <-resolve a.eval {callee:=.builtin b,args:=args,argTypes:=argTypes} o.type;invoke z1.target z1.args):=by unfold execOp;rw[n]
  simp only[dK]at c;obtain⟨⟨v,y⟩,c,L⟩:=c;simp only[dz]at L;obtain⟨rfl,rfl,rfl⟩:=L;obtain⟨C,z0,w',le,S,p,l⟩:=afS N (ty:=o.type) c (HC f.gM args) (args.map λ| .const _=>aa|_=>au);refine⟨C,w',a,cs,le,S,f.mono le,d.mono le,O,z0,p,.one (abd t z ?_)⟩;rw[Z _ _ (by simp_all) r];simp only[resolve,invoke,Sem.run_bind,Sem.run_pure,Result.andThen_ok];omega
 .-- a call
  rename_i x qp mC xS n;have r:execOp a.eval o=(do let z1 <-resolve a.eval x o.type;invoke z1.target z1.args):=by unfold execOp;rw[n]
  simp only[dK]at c;obtain⟨⟨z5,y⟩,c,L⟩:=c;simp only[dz]at L;obtain⟨rfl,rfl,rfl⟩:=L;have q:=HC f.gM x.args;have call:∀(z3:a_) (xs:List V) (vs:Array aQ),R.call z3 xs h=J (z5,y)->aR K xs vs.toList->((∃fn,P.funcs[z3]?=J fn/\fn.body.isSome=aa)->(execOp a.eval o).run P w=(callFunc z3 vs).run P w)->
   Ss P G w0 K ms B base (lone (B.atR a (.inRegion ops (i::rest)::k)) cs w) ops o rest k a.tmps.size e y z5:=by
   intro z3 xs vs IB iV l;obtain⟨⟨fn,Fh,Cb⟩,H⟩:=hR.call z3 xs h z5 y IB;obtain⟨C,w',fr,le,S,iq,-,Y⟩:=H K w vs iV N (B.atR a (.inRegion ops (i::rest)::k)::cs);have X:=au6 (k:=k) (cs:=cs) (rest:=rest) t z (by rw[Z B.roundOf _ (by simp_all) O,l ⟨fn,Fh,Cb⟩];exact QS hn Fh Cb vs w);cases z5 with
   |ret v=>obtain⟨z0,p,Y⟩:=Y;refine⟨C,w',a,cs,le,S,f.mono le,d.mono le,O,z0,p,.head X (iq.trans (.one ?_))⟩;rw[step_leave_returned Y,zD t]
   |panic v=>obtain⟨z0,p,Y⟩:=Y;refine⟨C,w',a,cs,le,S,f.mono le,d.mono le,O,z0,.inRegion ops (i::rest)::k,p,.head X (iq.trans (.one ?_))⟩;rw[step_leave_panicked Y,Frame.raise_atR]
  obtain⟨callee,m,cts⟩:=x;cases callee with
  |builtin b=>simp_all|value z2=>
   simp only[kZ]at c;have g:=xK f.gM z2;generalize Ov:e.eval z2=qf at c g;generalize s:a.eval z2=qv at g;split at c
   .rename_i z3 first ba
    cases g with
    |func _ _ _ fs T B7 uV=>
     refine call z3 _ (fs++m.map a.eval++T) c ?_ λ_=>?_
     .simp only[A1];exact(B7.append q).append uV
     .rw[r];simp[resolve,s,Deferred.ofValue,invoke]
   .rename_i z6;cases g with
    |yield _ lg hlg=>
     obtain⟨fn,tmps,assign,body,C,w',E,le,S,hm⟩:=hR.round z6 _ h z5 y c K w (m.map a.eval) lg hlg q N (B.atR a (.inRegion ops (i::rest)::k)) cs;have IG:=avd (k:=k) (cs:=cs) (rest:=rest) t z (by rw[Z B.roundOf _ (by simp_all) r];simp only[resolve,s,Deferred.ofValue,invoke,Sem.run_bind,Sem.run_pure,Result.andThen_ok];simpa using E);cases z5 with
     |ret v=>obtain⟨z0,p,iq⟩:=hm;refine⟨C,w',a,cs,le,S,f.mono le,d.mono le,O,z0,p,.head IG ?_⟩;rw[<-zD t];omega
     |panic v=>obtain⟨z0,fr,p,iq,Y⟩:=hm;refine⟨C,w',a,cs,le,S,f.mono le,d.mono le,O,z0,.inRegion ops (i::rest)::k,p,.head IG (iq.trans (.one ?_))⟩;rw[step_leave_panicked Y,Frame.raise_atR]
   grind
  |invoke rcv name=>
   simp only[kZ]at c;have g:=xK f.gM rcv;generalize Ov:e.eval rcv=qf at c g;generalize s:a.eval rcv=qv at g;split at c
   .rename_i z4 v;split at c
    .rename_i z2 hm;cases g with
     |iface _ _ x H=>
      refine call z2 _ (#[x]++m.map a.eval) c ?_ λ_=>?_
      .simp only[A1];exact .cons _ _ _ _ H q
      .rw[r];obtain⟨z1,hd⟩:=anc;have aks:=anu hm x w (P.types.size+z1);have hJ:P.types.size+Made.depth=P.types.size+z1+1:=(by omega);simp only[resolve,s,invoke,Sem.run_bind,Sem.run_pure,Result.andThen_ok,callMethod];have h0:(#[Value.iface z4 x]++La a.eval m)[0]?=J (.iface z4 x):=(by rw[Array.getElem?_append_left cE];rfl);simp only[h0,run_program,Sem.run_bind,Result.andThen_ok,hJ,aks];congr 2;have D:(#[Value.iface z4 x]++La a.eval m).extract 1 (#[Value.iface z4 x]++La a.eval m).size=La a.eval m:=(by apply KW;simp;rw[<-om,<-bJ (f:=a.eval),List.take_length]);rw[D]
    grind
   grind
 .-- a defer
  rename_i z2 args argTypes n;split at c
  .cases c
  .rename_i Xg;have hB:=Xl (by simp_all);have g:=xK f.gM z2;generalize Ov:e.eval z2=qf at c g;generalize s:a.eval z2=qv at g;split at c
   .rename_i z3 first ba
    simp only[d_,dz]at c;obtain⟨rfl,rfl,rfl⟩:=c;cases g with
    |func _ _ _ fs T B7 uV=>
     have l:(o.semAt B.roundOf a.eval).run P w=.ok (.defer {target:=.fn (.func z3) T,args:=fs++args.map a.eval}) w:=(by rw[hB,Oper.semAt_none];unfold execOp;rw[n];simp[resolve,s,Deferred.ofValue]);refine⟨K,w,{a with defers:=_::a.defers},cs,.refl K,N,⟨f.gM,.call z3 _ (fs++args.map a.eval) T _ _ _ ?_ f.defers,?_,f.fn⟩,d,O,undef,?_,.one (au5 t z l)⟩
     .simp only[A1];exact(B7.append (HC f.gM args)).append uV
     .simp_all
     .exact .tuple [] #[] .nil
   grind
 .-- a panic
  rename_i v n;have g:=xK f.gM v;generalize Ov:e.eval v=qf at c g;generalize s:a.eval v=qv at g;split at c
  .rename_i z4 v;simp only[d_,dz]at c;obtain⟨rfl,rfl,rfl⟩:=c;cases g with|iface _ _ x H=>refine⟨K,w,a,cs,.refl K,N,f,d,O,.iface z4 x,_,.iface z4 v x H,.one (aa9 t z ?_)⟩;rw[Oper.semAt_eq _ _ _ (by simp_all)];unfold execOp;rw[n];simp[s,Instr.panic]
  grind
 .-- any other operation
  rename_i op ays ayt ayu ayv ayw ayx;simp only[dK]at c;obtain⟨⟨v,y⟩,c,L⟩:=c;simp only[dz]at L;obtain⟨rfl,rfl,rfl⟩:=L;have hnd:∀x,o.op≠ .defer x:=by intro x H;rw[H]at c;simp[dP]at c
  obtain⟨C,z0,w',le,S,p,l⟩:=ao8 N (λv=>xK f.gM v) c;refine⟨C,w',a,cs,le,S,f.mono le,d.mono le,O,z0,p,.one ?_⟩;rcases l with l|⟨l,rfl⟩
  .exact abd t z (by simp_all)
  .exact avf t z (by simp_all)
end
end Go.AE
end
section
namespace Go.AE
def atN{x y}(h:iz x y=aa):x=y:=by
 cases x<;>cases y<;>simp only[iz,bQ,decide_eq_true_eq,jw,beq_iff_eq]at h
 case int.int=>simp_all
 case bool.bool=>rw[h]
 case string.string a b=>
  obtain⟨⟨a⟩⟩:=a;simp_all
 case pointer.pointer a b=>grind
 all_goals rfl
def atL{x y}(h:Kt x y=aa):x=y:=by cases x<;>cases y<;>simp only[Kt,jw]at h<;>rw[ou h]
def atM{x y}(h:sF x y=aa):x=y:=by cases x<;>cases y<;>simp only[sF,jw]at h<;>first|rfl|rw[ou h]
mutual
def QW:∀{x y:V},dh x y=aa->x=y
 | .v x,.v y,h=>by rw[dh]at h;rw[atN h]
 | .ac k p m,.ac t f c,h=>by rw[dh,bQ,bQ]at h;rw[atM h.1.1,ou h.1.2,QX h.2]
 | .arr b o u A,.arr g d n r,h=>by rw[dh,bQ,bQ,bQ]at h;simp_all
 | .agg cs,.agg l,h=>by rw[dh]at h;rw[Dy h]
 | .tuple cs,.tuple l,h=>by rw[dh]at h;rw[Dy h]
 | .ptr E o,.ptr v d,h=>by rw[dh,bQ]at h;rw[atL h.1,ou h.2]
 | .elem p m i o,.elem f c s d,h=>by rw[dh,bQ,bQ,bQ]at h;rw[ou h.1.1.1,ou h.1.1.2,ou h.1.2,QX h.2]
 | .yield u,.yield n,h=>by rw[dh]at h;simp_all
 | .iface H x,.iface z y,h=>by rw[dh,bQ]at h;rw[ou h.1,QW h.2]
 | .func (.func C) a b,.func (.func D) q g,h=>by rw[dh,bQ,bQ]at h;rw[ou h.1.1,Dy h.1.2,Dy h.2]
 | .bad,y,h=>by simp[dh]at h
def Dy:∀{x y:List V},gI x y=aa->x=y
 | [],[],_=>rfl
 |x::c,y::d,h=>by rw[gI,bQ]at h;rw[QW h.1,Dy h.2]
 | [],y::d,h=>by simp[gI]at h
 |x::c,[],h=>by simp[gI]at h
def QX:∀{x y:List (List V)},nf x y=aa->x=y
 | [],[],_=>rfl
 |x::c,y::d,h=>by rw[nf,bQ]at h;rw[Dy h.1,QX h.2]
 | [],y::d,h=>by simp[nf]at h
 |x::c,[],h=>by simp[nf]at h
end
end Go.AE
end
section
namespace Go.AE
section
variable {P:bL} {G:Nat->Option (List V)} {R:Rec}
def Pv{ρ ρ':ck->V}{ps:Array (Nat × ck)}(h:∀x∈ps.map (·.2),ρ x=ρ' x):(ps.toList.map λp=>(p.1,ρ p.2))=ps.toList.map λp=>(p.1,ρ' p.2):=
 yN λp c=>by grind
def CR{ρ ρ':ck->V}{ps:Array ck}(h:∀x∈ps,ρ x=ρ' x):ps.toList.map ρ=ps.toList.map ρ':=
 yN λd c=>h d (Array.mem_toList_iff.1 c)
def ZH{ρ ρ':ck->V}{h:ah}{c:Op}(d:∀x∈c.operands,ρ x=ρ' x):dP P G ρ h c=dP P G ρ' h c:=by
 cases c<;>simp only[Op.operands] at d<;>simp only[dP]
 case build t ps=>rw[Pv (λx g=>d x (by simp_all))]
 case buildSlice t n ps=>rw[Pv (λx g=>d x (by simp_all))]
 case makeFunc fn first captured=>
  simp_all
 case slice t x l f m=>cases l<;>cases f<;>cases m<;>simp_all
 all_goals (first|rfl|(simp_all;done))
def Op.YJ{c:Call}{x}(h:x∈c.args):x∈c.operands:=by simp[Call.operands,h]
def MD{e e2:Env}{h:ah}{c:Call}(d:∀x∈c.operands,e.eval x=e2.eval x):kZ P R e h c=kZ P R e2 h c:=by
 have l:c.args.toList.map e.eval=c.args.toList.map e2.eval:=CR λx m=>d x (Op.YJ m);unfold kZ;simp only[l];cases f:c.callee with|builtin b=>rfl|value g=>have p:e.eval g=e2.eval g:=d g (by simp[Call.operands,f]);simp_all|invoke n r=>have q:e.eval n=e2.eval n:=d n (by simp[Call.operands,f]);simp_all
def Env.with(e e':Env):Env:={e with defers:=e'.defers,dg:=e'.dg}
def Zb{e e':Env}{h h':ah}{o:Oper}{r:dV}(c:ev P G R e h o=J (r,e',h')):e'=e.with e':=by
 unfold ev at c;split at c
 .split at c
  .cases c
  .split at c
   .simp only[d_,dz]at c;obtain⟨-,rfl,-⟩:=c;rfl
   .simp only[d_,dz]at c;obtain⟨-,rfl,-⟩:=c;rfl
 .split at c
  .simp only[d_,dz]at c;obtain⟨-,rfl,-⟩:=c;rfl
  grind
 .simp only[dK,dz]at c;obtain⟨_,-,-,rfl,-⟩:=c;rfl
 .simp only[dK,dz]at c;obtain⟨_,-,-,rfl,-⟩:=c;rfl
 .split at c
  .cases c
  .split at c
   .simp only[d_,dz]at c;obtain⟨-,rfl,-⟩:=c;rfl
   grind
 .split at c
  .simp only[d_,dz]at c;obtain⟨-,rfl,-⟩:=c;rfl
  grind
 .simp only[dK,dz]at c;obtain⟨_,-,-,rfl,-⟩:=c;rfl
def Za{e e' e2:Env}{h h':ah}{o:Oper}{r:dV}(l:∀x∈o.op.operands,e.eval x=e2.eval x)(y:e2.defers=e.defers)(z:e2.dg=e.dg)(p:e2.round=e.round)
 (d:ev P G R e h o=J (r,e',h')):ev P G R e2 h o=J (r,e2.with e',h'):=by
 have A:e2.with e=e2:=by cases e2;cases e;simp_all [Env.with]
 unfold ev at d ⊢;split at d
 .rename_i c t f;simp only[p,z];split at d
  .cases d
  .rename_i m;rw[aV m];split at d
   .rename_i x E;simp only[d_,dz]at d;obtain⟨rfl,rfl,rfl⟩:=d;simp[Env.with,<-y,<-p]
   simp_all
 .rename_i c t f;have n:c.toList.map e.eval=c.toList.map e2.eval:=CR λx g=>l x (by rw[f];simp[Op.operands,Call.operands,g]);simp only[<-n];split at d<;>simp_all
 .rename_i b c t u v f;have n:c.toList.map e.eval=c.toList.map e2.eval:=CR λx g=>l x (by rw[f];simp[Op.operands,Call.operands,g]);simp only[dK,dz]at d;grind
 .rename_i L u v D f;simp only[dK,dz]at d;obtain⟨H,s,rfl,rfl,rfl⟩:=d;rw[MD (e2:=e2) (λx g=>l x (by rw[f];exact g))]at s;simp_all
 .rename_i C c t f;have n:c.toList.map e.eval=c.toList.map e2.eval:=CR λx g=>l x (by rw[f];simp[Op.operands,Call.operands,g]);have q:e.eval C=e2.eval C:=l C (by rw[f];simp[Op.operands,Call.operands]);simp only[p];split at d
  .cases d
  .rename_i m;rw[aV m];simp only[<-q,<-n];split at d
   .simp only[d_,dz]at d;obtain⟨rfl,rfl,rfl⟩:=d;simp only[Env.with,y,<-z,<-p]
   grind
 .rename_i x f;have q:e.eval x=e2.eval x:=l x (by rw[f];simp[Op.operands]);simp only[<-q];split at d<;>simp_all
 .simp only[dK,dz]at d;obtain⟨H,s,rfl,rfl,rfl⟩:=d;rw[ZH (ρ':=e2.eval) l]at s;simp_all
def apM{e e':Env}{h h':ah}{o:Oper}{r:dV}(n:iR o.op=.pure)(g:ev P G R e h o=J (r,e',h')):
 e'=e/\h'=h/\∀e2:Env,(∀x∈o.op.operands,e.eval x=e2.eval x)->∀d,ev P G R e2 d o=J (r,e2,d):=by
 cases f:o.op with
 |call L=>
  obtain⟨p,m,y⟩:=L;rw[f]at n;cases p with
  |value z1=>simp[iR]at n|invoke r X=>simp[iR]at n|builtin b=>
   cases b<;>simp[iR]at n
   case len=>
    unfold ev at g ⊢;simp only[f]at g ⊢;simp only[dK,dz]at g;obtain⟨⟨x,s⟩,c,rfl,rfl,rfl⟩:=g;have A:∀(d:ah) (z:List V),qh P G o.dst d .len y o.type z=iQ P d .len y o.type z:=λ_ _=>rfl;rw[A]at c;have l:s=h/\∀d:ah,iQ P d .len y o.type (m.toList.map e.eval)=J (x,d):=by
     generalize m.toList.map e.eval=z at c ⊢;rcases z with _|⟨Z,_|⟨z0,z⟩⟩
     .simp[iQ]at c
     .simp only[iQ]at c ⊢;split at c
      .rename_i Y S;simp only[dK,dz]at c
       grind
      grind
     .simp[iQ]at c
    obtain⟨rfl,l⟩:=l;refine⟨O,O,λe2 t d=>?_⟩;have N:m.toList.map e.eval=m.toList.map e2.eval:=CR λx q=>t x (by simp[Op.operands,Call.operands,q]);simp_all
 |buildSlice Y X u=>
  rw[f]at n;have v:uM u=au:=by
   cases C:uM u with|false=>rfl|true=>simp[iR,C]at n
  unfold ev at g ⊢;simp only[f]at g ⊢;simp only[dK,dz]at g;obtain⟨⟨x,s⟩,c,rfl,rfl,rfl⟩:=g;simp only[dP,v,dK,dz]at c;obtain⟨Z,H,rfl,rfl⟩:=c;refine⟨O,O,λe2 t d=>?_⟩;have q:=Pv (ρ:=e.eval) (ρ':=e2.eval) (ps:=u) (λx q=>t x (by simpa [Op.operands] using q));simp only[dP,v,<-q,H,gc]
 |_=>
  rw[f]at n
  first
   |(simp[iR]at n;done)
   |(unfold ev at g ⊢
     simp only[f]at g ⊢;simp only[dK,dz]at g;obtain⟨⟨x,s⟩,c,rfl,rfl,rfl⟩:=g;have l:s=h/\∀d:ah,dP P G e.eval d o.op=J (x,d):=by
      rw[f];simp only[dP]at c ⊢
      first
       |(simp only[d_,dz]at c;obtain⟨rfl,rfl⟩:=c;exact⟨O,λ_=>rfl⟩)
       |(simp only[dK,dz]at c;obtain⟨z0,T,rfl,rfl⟩:=c;exact⟨O,λ_=>by simp_all⟩)
       |(split at c
         .simp_all
         .cases c)
       |(split at c
         .simp only[dK,dz]at c;grind
         .cases c)
       |(split at c
         .split at c
          .simp only[dK,dz]at c;grind
          grind
         .cases c)
     obtain⟨rfl,l⟩:=l;refine⟨O,O,λe2 t d=>?_⟩;rw[<-f,<-ZH (P:=P) (G:=G) (ρ:=e.eval) (h:=d) (by simp_all),l d];rfl)
def am0{e e':Env}{h h':ah}{o:Oper}{r:dV}{t:aO}{a:ck}(f:o.op=.load t a)(d:ev P G R e h o=J (r,e',h')):
 ∃x,r=.ret x/\e'=e/\h'=h/\aL P G h t (e.eval a)=J x/\∀e2:Env,e2.eval a=e.eval a->∀c,aL P G c t (e.eval a)=J x->ev P G R e2 c o=J (.ret x,e2,c):=by
 unfold ev at d ⊢;simp only[f,dP]at d ⊢;simp only[dK,dz]at d
 grind
def aad{d}(h:iR d=.reads):∃t a,d=.load t a:=by
 cases d with
 |load t a=>simp_all|buildSlice t n l=>
  exfalso;simp only[iR]at h
  grind
 |call g=>
  obtain⟨c,f,m⟩:=g;cases c with
  |builtin b=>cases b<;>simp[iR]at h
  |_=>simp[iR]at h
 |_=>simp[iR]at h
end
end Go.AE
end
section
namespace Go.AE
section
variable (P:bL) (G:Nat->Option (List V)) (R:Rec) (ops:Array Oper)
def ii(i:Nat)(e:Env)(h:ah):Option (V × Env × ah):=
 match ops[i]? with
 |none=>aq
 |some o=>
  match fh ops e o with
  |none=>aq
  |some au=>J (.tuple [],e,h)
  |some aa=>
   match ev P G R e h o with
   |some (.ret c,e,h)=>J (c,e,h)
   |_=>aq
def i_(i:Nat):Option Tmp:=(ops[i]?).bind (·.dst)
def oD(i:Nat):Class:=((ops[i]?).map λo=>iR o.op).getD .pure
noncomputable def lh(e:Env)(h:ah)(i:Nat):Class:=if k' P G R ops e h i=aa then .reads else oD ops i
def dj(e:Env)(h:ah)(k:Nat):Env × ah:=
 match cB P G R ops (bT k) e h with
 |some (_,e,h)=>(e,h)
 |none=>(e,h)
def sN(e:Env)(h:ah)(k:Nat):V × Env:=
 match ii P G R ops k (dj P G R ops e h k).1 (dj P G R ops e h k).2 with
 |some (c,e,_)=>(c,e)
 |none=>(.bad,e)
def val(e:Env)(h:ah)(d:Nat->Bool):Nat->Nat->V
 |0,c=>e.get c
 |k+1,c=>if d k=aa/\i_ ops k=J c then (sN P G R ops e h k).1 else val e h d k c
def Alike(e e2:Env)(o:Oper):Prop:=∀c∈o.looksAt ops,e.get c=e2.get c
end
section
variable {P:bL} {G:Nat->Option (List V)} {R:Rec} {ops:Array Oper}
def oc{i:Nat}{rest:List Nat}{e e':Env}{h h':ah}:
 cB P G R ops (i::rest) e h=J (.normal,e',h')↔∃x c d,ii P G R ops i e h=J (x,c,d)/\cB P G R ops rest (c.put (i_ ops i) x) d=J (.normal,e',h'):=by
 simp only[cB,ii,i_];cases f:ops[i]? with
 |none=>simp|some o=>
  grind
def CY{g r:List Nat}:∀{e e':Env} {h h':ah},
 cB P G R ops (g++r) e h=J (.normal,e',h')↔∃c d,cB P G R ops g e h=J (.normal,c,d)/\cB P G R ops r c d=J (.normal,e',h'):=by
 induction g with
 |nil=>
  intro e e' h h';simp only[eP,cB,d_,dz,true_and]
  grind
 |cons i u s=>
  intro e e' h h';rw[eY,oc];constructor
  .rintro⟨t,c,d,q,p⟩;obtain⟨l,m,f,n⟩:=s.1 p;exact⟨l,m,oc.2 ⟨t,c,d,q,f⟩,n⟩
  .rintro⟨l,m,f,n⟩;obtain⟨t,c,d,q,p⟩:=oc.1 f
   grind
def trace{e e':Env}{h h':ah}:∀{n:Nat},cB P G R ops (bT n) e h=J (.normal,e',h')->
 (e',h')=dj P G R ops e h n/\(∀k,k<=n->cB P G R ops (bT k) e h=J (.normal,(dj P G R ops e h k).1,(dj P G R ops e h k).2))/\
 ∀k,k<n->ii P G R ops k (dj P G R ops e h k).1 (dj P G R ops e h k).2=J ((sN P G R ops e h k).1,(sN P G R ops e h k).2,(dj P G R ops e h (k+1)).2)/\
  (dj P G R ops e h (k+1)).1=(sN P G R ops e h k).2.put (i_ ops k) (sN P G R ops e h k).1:=by
 intro n
 induction n generalizing e' h' with
 |zero=>
  intro c;have g:(e',h')=dj P G R ops e h 0:=by unfold dj;rw[c]
  simp_all
 |succ n x=>
  intro c;have g:(e',h')=dj P G R ops e h (n+1):=by unfold dj;rw[c]
  have d:=c;rw[lP,CY]at d;obtain⟨A,C,r,s⟩:=d;obtain⟨v,E,H⟩:=x r;obtain⟨z,f,q,u,t⟩:=oc.1 s;simp only[cB,d_,dz,true_and]at t;refine⟨g,λk m=>?_,λk m=>?_⟩
  .grind
  .rcases eg k n with y|l
   .simp_all
   .have:k=n:=Nat.le_antisymm (Bh.1 m) l;subst this;have p:ii P G R ops k (dj P G R ops e h k).1 (dj P G R ops e h k).2=J (z,f,q):=(by rw[<-v];exact u);have D:sN P G R ops e h k=(z,f):=by unfold sN;rw[p]
    grind
def En{e e2:Env}{o:Oper}(h:Alike ops e e2 o):∀x∈o.op.operands,e.eval x=e2.eval x:=by
 intro x d;cases x with|tmp c=>refine h c ?_;unfold Oper.looksAt;exact LL _ (acE.2 ⟨.tmp c,by simp_all,O⟩)|_=>rfl
def xx{e e2:Env}{o:Oper}(h:Alike ops e e2 o):fh ops e o=fh ops e2 o:=by
 unfold fh;cases l:o.guard with
 |none=>rfl|some d=>
  obtain⟨j,f⟩:=d;simp only;cases g:(ops[j]?).bind (·.dst) with|none=>rfl|some c=>have:e.get c=e2.get c:=h c (by unfold Oper.looksAt;simp_all);simp_all
def Qj(e:Env)(d)(x)(t):(e.put d x).get t=if d=J t then x else e.get t:=by
 cases d with|none=>simp[Env.put]|some d=>simp only[Env.put,Env.get,CP,d_]
def ud(e:Env)(d)(x):(e.put d x).defers=e.defers/\(e.put d x).dg=e.dg/\(e.put d x).round=e.round:=by cases d<;>exact⟨O,O,O⟩
def Rc{k:Nat}{e f e2:Env}{h m:ah}{x:V}(c:ii P G R ops k e h=J (x,f,m)):
 f=e.with f/\((∀o,ops[k]?=J o->Alike ops e e2 o)->e2.defers=e.defers->e2.dg=e.dg->e2.round=e.round->ii P G R ops k e2 h=J (x,e2.with f,m)):=by
 unfold ii at c ⊢;cases r:ops[k]? with
 |none=>simp_all|some o=>
  rw[r]at c;simp only at c ⊢;cases l:fh ops e o with
  |none=>simp_all|some b=>
   rw[l]at c;cases b with
   |false=>simp only[d_,dz]at c;obtain⟨rfl,rfl,rfl⟩:=c;refine⟨O,λd n p q=>?_⟩;rw[<-xx (d o O),l];have:e2.with e=e2:=(by cases e2;cases e;simp_all [Env.with]);simp_all
   |true=>
    simp only at c;split at c
    .rename_i s e' h' g;simp only[d_,dz]at c;obtain⟨rfl,rfl,rfl⟩:=c;refine⟨Zb g,λd n p q=>?_⟩;rw[<-xx (d o O),l];simp only[Za (En (d o O)) n p q g]
    grind
def Rd{k:Nat}{e n:Env}{h p:ah}{x:V}(l:oD ops k=.pure)(c:ii P G R ops k e h=J (x,n,p)):
 n=e/\p=h/\∀e2 f,(∀o,ops[k]?=J o->Alike ops e e2 o)->ii P G R ops k e2 f=J (x,e2,f):=by
 unfold ii at c ⊢;cases q:ops[k]? with
 |none=>simp_all|some o=>
  rw[q]at c;simp only at c ⊢;have l:iR o.op=.pure:=by simpa [oD,q] using l
  cases m:fh ops e o with
  |none=>simp_all|some b=>
   rw[m]at c;cases b with
   |false=>simp only[d_,dz]at c;obtain⟨rfl,rfl,rfl⟩:=c;refine⟨O,O,λe2 f d=>?_⟩;rw[<-xx (d o O),m]
   |true=>
    simp only at c;split at c
    .rename_i s e' h' r;simp only[d_,dz]at c;obtain⟨rfl,rfl,rfl⟩:=c;obtain⟨rfl,rfl,g⟩:=apM l r;refine⟨O,O,λe2 f d=>?_⟩;rw[<-xx (d o O),m];simp only[g e2 (En (d o O)) f]
    grind
def Reads(P:bL)(G:Nat->Option (List V))(R:Rec)(ops:Array Oper)(k:Nat)(e:Env)(x:V)(c:ah):Prop:=
 ∀o,ops[k]?=J o->fh ops e o=J aa->(∀d a,o.op=.load d a->aL P G c d (e.eval a)=J x)/\(xB o.op=aa->ev P G R e c o=J (.ret x,e,c))
def aba{k:Nat}{e p:Env}{h q:ah}{x:V}(l:oD ops k=.reads)(c:ii P G R ops k e h=J (x,p,q)):
 p=e/\q=h/\Reads P G R ops k e x h/\∀e2 f,(∀o,ops[k]?=J o->Alike ops e e2 o)->Reads P G R ops k e x f->ii P G R ops k e2 f=J (x,e2,f):=by
 unfold ii at c ⊢;unfold Reads;cases r:ops[k]? with
 |none=>simp_all|some o=>
  rw[r]at c;simp only at c ⊢;have l:iR o.op=.reads:=by simpa [oD,r] using l
  obtain⟨T,a,g⟩:=aad l;cases m:fh ops e o with
  |none=>simp_all|some b=>
   rw[m]at c;cases b with
   |false=>
    simp only[d_,dz]at c;obtain⟨rfl,rfl,rfl⟩:=c;refine⟨O,O,λy s D=>?_,λe2 f d _=>?_⟩
    .simp_all
    .rw[<-xx (d o O),m]
   |true=>
    simp only at c;split at c
    .rename_i S e' h' t;simp only[d_,dz]at c;obtain⟨rfl,rfl,rfl⟩:=c;obtain⟨X,n,rfl,rfl,L,u⟩:=am0 g t;injection n with n;subst n;refine⟨O,O,λy s _=>⟨λN H v=>?_,λA=>?_⟩,λe2 f d C=>?_⟩
     .simp_all
     .simp_all
     .rw[<-xx (d o O),m];have z:e2.eval a=e'.eval a:=(En (d o O) a (by rw[g];simp[Op.operands])).symm;simp_all
    grind
def afW{e:Env}{h g:ah}{o:Oper}{c:Call}{x:V}(n:o.op=.call c)(d:kZ P R e h c=J (.ret x,g)):ev P G R e h o=J (.ret x,e,g):=by
 have l:∀b,c.callee≠ .builtin b:=by intro b l;unfold kZ at d;rw[l]at d;cases d
 obtain⟨f,m,p⟩:=c;unfold ev;simp_all
def af6{e e2:Env}{h:ah}{o:Oper}{x:V}(m:xB o.op=aa)(p:∀z∈o.op.operands,e.eval z=e2.eval z)(g:ev P G R e h o=J (.ret x,e,h)):ev P G R e2 h o=J (.ret x,e2,h):=by
 unfold xB at m;split at m
 .grind
 .grind
 .rename_i r u v c;have l:∀z∈r.operands,e.eval z=e2.eval z:=λz n=>p z (by rw[c];exact n);obtain⟨f,d,y⟩:=r;have s:d.toList.map e.eval=d.toList.map e2.eval:=CR λx n=>l x (Op.YJ n);unfold ev at g ⊢;cases f with
  |builtin b=>cases b<;>simp_all
  |value C=>simp only[c]at g ⊢;rw[<-MD (e:=e) (e2:=e2) l];simp_all|invoke H D=>simp only[c]at g ⊢;rw[<-MD (e:=e) (e2:=e2) l];simp_all
 .rename_i L A q c;have t:e.eval q=e2.eval q:=p q (by rw[c];simp[Op.operands]);unfold ev at g ⊢;simp only[c,dP]at g ⊢;simp_all
 simp_all
def aa8{k:Nat}{e n:Env}{h p:ah}{x y:V}{o:Oper}(m:ops[k]?=J o)(l:xB o.op=aa)(s:ev P G R e h o=J (.ret y,e,h))(c:ii P G R ops k e h=J (x,n,p)):
 n=e/\p=h/\(fh ops e o=J aa->x=y)/\∀e2 f,(∀o,ops[k]?=J o->Alike ops e e2 o)->Reads P G R ops k e x f->ii P G R ops k e2 f=J (x,e2,f):=by
 unfold ii at c ⊢;rw[m]at c;simp only[m]at c ⊢;cases g:fh ops e o with
 |none=>simp_all|some b=>
  rw[g]at c;cases b with
  |false=>simp only[d_,dz]at c;obtain⟨rfl,rfl,rfl⟩:=c;refine⟨O,O,(λv=>nomatch v),λe2 f d _=>?_⟩;rw[<-xx (d o O),g]
  |true=>simp only[s]at c;simp only[d_,dz]at c;obtain⟨rfl,rfl,rfl⟩:=c;refine⟨O,O,λ_=>rfl,λe2 f d q=>?_⟩;rw[<-xx (d o O),g];have r:=(q o m g).2 l;have u:=af6 (e2:=e2) l (λz t=>En (d o O) z t) r;simp_all
end
end Go.AE
end
section
namespace Go.AE
section
variable {P:bL} {G:Nat->Option (List V)} {R:Rec} {ops:Array Oper}
def Ord(b:Array Nat)(i j:Nat):Prop:=(b.getD j 0).testBit i=aa
structure Fits(P:bL)(G:Nat->Option (List V))(R:Rec)(ops:Array Oper)(e:Env)(h:ah)(b:Array Nat):Prop where
 BN:∀(j:Nat) (o:Oper),ops[j]?=J o->∀ed∈o.after,Region.binds .any ed=aa->ed.on<j
 bits:∀(j i:Nat) (o:Oper),ops[j]?=J o->i<ops.size->Ord b i j->∃ed∈o.after,Region.binds .any ed=aa/\(ed.on=i∨Ord b i ed.on)
 pair:∀i j:Nat,i<j->j<ops.size->Ord b i j∨wL ops i j=aa∨jZ P G R ops e h i j=aa∨(oB ops i j=aa/\(k' P G R ops e h i=aa∨k' P G R ops e h j=aa))
def uO{e:Env}{h:ah}(l:mb P G R ops e h=aa):Fits P G R ops e h (Region.before ops):=by
 unfold mb at l;simp only[bQ,ff,hy,oX]at l;obtain⟨g,s⟩:=l;unfold y9 at g;simp only[ff,hy]at g;refine⟨λj o f v m t=>?_,λj i o f r c=>?_,λi j c d=>?_⟩
 .have d:j<ops.size:=(K_.1 f).1;have:=g j d;simp only[f,bQ,AZ]at this;obtain⟨u,n,rfl⟩:=RE m
  grind
 .have d:j<ops.size:=(K_.1 f).1;have:=g j d;simp only[f,bQ,ff,hy]at this;have:=this.2 i r;unfold Ord at c;rw[c]at this;simp only[ab0,Ld,Array.any_eq_true,bQ,oX]at this;obtain⟨u,n,p,q⟩:=this;exact⟨o.after[u],abQ n,p,q.imp (λh=>ou h) id⟩
 .rcases s j d i c with((h|h)|h)|h
  .exact .inl h
  .simp_all
  .simp_all
  simp_all
variable {e:Env} {h:ah} {b:Array Nat}
def Fits.apart(f:Fits P G R ops e h b){i j:Nat}(c:i<j)(d:j<ops.size)(g:¬Ord b i j){x y:Oper}(l:ops[i]?=J x)(m:ops[j]?=J y):
 x.apart ops y=aa/\y.apart ops x=aa:=by
 rcases f.pair i j c d with h|h|h|⟨h,-⟩
 .simp_all
 .unfold wL at h;simp_all
 .unfold jZ oB at h;simp_all
 .unfold oB at h;simp_all
def zx{i:Nat}{x:Oper}(c:ops[i]?=some x):oD ops i=iR x.op:=by simp[oD,c]
def HS{i:Nat}(hi:lh P G R ops e h i=.iO):oD ops i=.iO/\k' P G R ops e h i=au:=by
 unfold lh at hi
 grind
def Fits.iO(m:Fits P G R ops e h b){i j:Nat}(d:i<j)(f:j<ops.size)(hi:lh P G R ops e h i=.iO)(c:lh P G R ops e h j=.iO):Ord b i j:=by
 have g:ops[i]?=J ops[i]:=kn (o7 d f);have l:ops[j]?=J ops[j]:=kn f;obtain⟨hi,n⟩:=HS hi;obtain⟨c,p⟩:=HS c;rw[zx g]at hi;rw[zx l]at c;rcases m.pair i j d f with h|h|h|⟨-,h⟩
 .exact h
 .unfold wL at h;simp only[g,l,bQ]at h;rw[hi,c]at h;simp[Jx]at h
 .unfold jZ at h
  grind
 simp_all
def Fits.auR(m:Fits P G R ops e h b){i j:Nat}(d:i<j)(f:j<ops.size)(q:¬Ord b i j)(hi:oD ops i=.reads)(n:k' P G R ops e h i=au)(c:lh P G R ops e h j=.iO):oV P G R ops e h i (j+1)=aa:=by
 have g:ops[i]?=J ops[i]:=kn (o7 d f);have l:ops[j]?=J ops[j]:=kn f;obtain⟨c,p⟩:=HS c;rw[zx g]at hi;rw[zx l]at c;rcases m.pair i j d f with h|h|h|⟨-,h⟩
 .simp_all
 .unfold wL at h;simp only[g,l,bQ]at h;rw[hi,c]at h;simp[Jx]at h
 .unfold jZ at h
  grind
 simp_all
def Fits.auS(m:Fits P G R ops e h b){i j:Nat}(c:i<j)(f:j<ops.size)(q:¬Ord b i j)(hi:lh P G R ops e h i=.iO)(d:oD ops j=.reads)(p:k' P G R ops e h j=au):oV P G R ops e h j i=aa:=by
 have g:ops[i]?=J ops[i]:=kn (o7 c f);have l:ops[j]?=J ops[j]:=kn f;obtain⟨hi,n⟩:=HS hi;rw[zx g]at hi;rw[zx l]at d;rcases m.pair i j c f with h|h|h|⟨-,h⟩
 .simp_all
 .unfold wL at h;simp only[g,l,bQ]at h;rw[hi,d]at h;simp[Jx]at h
 .unfold jZ at h
  grind
 simp_all
def auW{r m n:Nat}{e':Env}{h':ah}(A:cB P G R ops (bT n) e h=J (.normal,e',h'))(q:r<n)(x:m<=n)(d:oV P G R ops e h r m=aa)(p:oD ops r=.reads):
 Reads P G R ops r (dj P G R ops e h r).1 (sN P G R ops e h r).1 (dj P G R ops e h m).2:=by
 obtain⟨-,v,st⟩:=trace A;obtain⟨t,-⟩:=st r q;obtain⟨-,-,s,-⟩:=aba p t;intro o g u;refine⟨λz a c=>?_,λf=>?_⟩
 .have hold:=(s o g u).1 z a c;unfold oV at d;rw[g,v r (np q),v m x]at d;simp only[u,c]at d;rw[hold]at d;split at d
  .rename_i C D l y;injection l with l;subst l;rw[QW d];exact y
  grind
 .obtain⟨z,a,c⟩:=aad (show iR o.op=.reads by rw[<-zx g];exact p);rw[c]at f;exact absurd f (by simp[xB])
def af2{k:Nat}:k' P G R ops e h k=aa↔vZ P G R ops e h k:=by unfold k';simp_all
def Ua{n k:Nat}{e':Env}{h':ah}(l:cB P G R ops (bT n) e h=J (.normal,e',h'))(t:n=ops.size)(r:k<n)(f:k' P G R ops e h k=aa):
 ∃o x,ops[k]?=J o/\xB o.op=aa/\∀m,m<=n->ev P G R (dj P G R ops e h k).1 (dj P G R ops e h m).2 o=J (.ret x,(dj P G R ops e h k).1,(dj P G R ops e h m).2):=by
 obtain⟨-,v,-⟩:=trace l;obtain⟨o,x,q,u,g,c,p,d⟩:=af2.1 f;refine⟨o,x,g,c,λm s=>?_⟩
 grind
def abc{k:Nat}{e':Env}{h':ah}(A:cB P G R ops (bT ops.size) e h=J (.normal,e',h'))(q:k<ops.size)(l:lh P G R ops e h k=.reads){m:Env}{n:ah}{x:V}
 (t:ii P G R ops k (dj P G R ops e h k).1 (dj P G R ops e h k).2=J (x,m,n)):
 m=(dj P G R ops e h k).1/\n=(dj P G R ops e h k).2/\Reads P G R ops k (dj P G R ops e h k).1 x (dj P G R ops e h k).2/\
  ∀e2 f,(∀o,ops[k]?=J o->Alike ops (dj P G R ops e h k).1 e2 o)->Reads P G R ops k (dj P G R ops e h k).1 x f->ii P G R ops k e2 f=J (x,e2,f):=by
 unfold lh at l;split at l
 .rename_i p;obtain⟨o,L,s,d,g⟩:=Ua A O q p;have z:=g k (np q);obtain⟨u,v,C,y⟩:=aa8 s d z t;refine⟨u,v,λE c D=>?_,y⟩;rw[s]at c;injection c with c;subst c;refine⟨λH a r=>(by rw[r]at d;cases d),λ_=>?_⟩;simp_all
 .exact aba l t
def abe{k m:Nat}{e':Env}{h':ah}(s:cB P G R ops (bT ops.size) e h=J (.normal,e',h'))(l:k<ops.size)(t:m<=ops.size)(f:lh P G R ops e h k=.reads)
 (u:oD ops k=.reads->k' P G R ops e h k=au->oV P G R ops e h k m=aa):
 Reads P G R ops k (dj P G R ops e h k).1 (sN P G R ops e h k).1 (dj P G R ops e h m).2:=by
 by_cases c:k' P G R ops e h k=aa
 .obtain⟨-,z,st⟩:=trace s;obtain⟨r,-⟩:=st k l;obtain⟨o,C,q,g,n⟩:=Ua s O l c;obtain⟨-,-,v,-⟩:=aa8 q g (n k (np l)) r;intro y d x;rw[q]at d;injection d with d;subst d;refine⟨λA a p=>(by rw[p]at g;cases g),λ_=>?_⟩;simp_all
 .have c:k' P G R ops e h k=au:=by simpa using c
  have f:oD ops k=.reads:=by unfold lh at f;rw[c]at f;simpa using f
  exact auW s l t (u f c) f
def Uv{k:Nat}(c:lh P G R ops e h k=.pure):oD ops k=.pure:=by
 unfold lh at c
 grind
structure Inv(P:bL)(G:Nat->Option (List V))(R:Rec)(ops:Array Oper)(e:Env)(h:ah)(b:Array Nat)(S:Nat->Bool)(e1:Env)(h1:ah):Prop where
 closed:∀i j,i<ops.size->j<ops.size->S j=aa->Ord b i j->S i=aa
 gM:∀t,e1.get t=val P G R ops e h S ops.size t
 round:e1.round=e.round
 mem:∃m,m<=ops.size/\e1.defers=(dj P G R ops e h m).1.defers/\e1.dg=(dj P G R ops e h m).1.dg/\h1=(dj P G R ops e h m).2/\
  (∀a,a<m->lh P G R ops e h a=.iO->S a=aa)/\∀a,m<=a->a<ops.size->lh P G R ops e h a=.iO->S a=au
variable {e':Env} {h':ah}
def Rn(m:cB P G R ops (bT ops.size) e h=J (.normal,e',h'))(t:Nat):∀k,k<=ops.size->(dj P G R ops e h k).1.get t=val P G R ops e h (λ_=>aa) k t:=by
 obtain⟨-,l,st⟩:=trace m;intro k
 induction k with
 |zero=>intro _;have:=l 0 (cC _);simp only[acI,cB,d_,dz,true_and]at this;rw[<-this.1];rfl|succ k g=>
  intro c;obtain⟨f,d⟩:=st k c;rw[d,Qj];simp only[val,true_and];split
  .rfl
  .rw[<-g (np c)];have:=(Rc (e2:=e) f).1;rw[this];rfl
def abC(m:cB P G R ops (bT ops.size) e h=J (.normal,e',h')):∀k,k<=ops.size->(dj P G R ops e h k).1.round=e.round:=by
 obtain⟨-,l,st⟩:=trace m;intro k
 induction k with
 |zero=>
  intro _;have:=l 0 (cC _);simp only[acI,cB,d_,dz,true_and]at this
  grind
 |succ k g=>intro c;obtain⟨f,d⟩:=st k c;rw[d,(ud _ _ _).2.2,(Rc (e2:=e) f).1];exact g (np c)
def af8(p:cB P G R ops (bT ops.size) e h=J (.normal,e',h')){k:Nat}(c:k<ops.size)(q:lh P G R ops e h k≠ .iO):
 (dj P G R ops e h (k+1)).1.defers=(dj P G R ops e h k).1.defers/\(dj P G R ops e h (k+1)).1.dg=(dj P G R ops e h k).1.dg/\(dj P G R ops e h (k+1)).2=(dj P G R ops e h k).2:=by
 obtain⟨-,r,st⟩:=trace p;obtain⟨f,n⟩:=st k c;have g:(sN P G R ops e h k).2=(dj P G R ops e h k).1/\(dj P G R ops e h (k+1)).2=(dj P G R ops e h k).2:=by
  cases d:lh P G R ops e h k with
  |pure=>obtain⟨l,m,-⟩:=Rd (Uv d) f;simp_all
  |reads=>obtain⟨l,m,-⟩:=abc p c d f;simp_all
  |iO=>simp_all
 rw[n,(ud _ _ _).1,(ud _ _ _).2.1,g.1];simp_all
def Kp(n:cB P G R ops (bT ops.size) e h=J (.normal,e',h')){m:Nat}:∀k,m<=k->k<=ops.size->
 ((dj P G R ops e h m).1.defers=(dj P G R ops e h k).1.defers/\(dj P G R ops e h m).1.dg=(dj P G R ops e h k).1.dg/\(dj P G R ops e h m).2=(dj P G R ops e h k).2)∨
 (∃a,m<=a/\a<k/\lh P G R ops e h a=.iO/\(dj P G R ops e h m).2=(dj P G R ops e h a).2)/\∃a,m<=a/\a<k/\lh P G R ops e h a=.iO/\(dj P G R ops e h (a+1)).2=(dj P G R ops e h k).2:=by
 intro k
 induction k with
 |zero=>simp_all|succ k t=>
  intro s c;rcases eg k m with l|f
  .grind
  .have g:k<=ops.size:=np c;by_cases d:lh P G R ops e h k=.iO
   .grind
   .obtain⟨p,q,r⟩:=af8 n c d
    grind
def val_congr{d c:Nat->Bool}{t:Nat}:∀k,(∀w,w<k->i_ ops w=J t->d w=c w)->val P G R ops e h d k t=val P G R ops e h c k t:=by
 intro k
 induction k with
 |zero=>intro _;rfl|succ k g=>
  intro f;simp only[val]
  grind
def KP{c:Nat->Bool}{t k:Nat}:∀n,k<=n->(∀w,k<=w->w<n->i_ ops w=J t->c w=au)->val P G R ops e h c n t=val P G R ops e h c k t:=by
 intro n
 induction n with
 |zero=>simp_all|succ n m=>
  intro g l;rcases eg n k with f|d
  .grind
  .simp only[val]
   grind
def zA{i:Nat}{x:Oper}(c:ops[i]?=J x):i_ ops i=x.dst:=by simp[i_,c]
def Fits.awW(n:Fits P G R ops e h b){i j t:Nat}(c:i<j)(d:j<ops.size)(hi:i_ ops i=J t)(f:i_ ops j=J t):Ord b i j:=by refine Classical.byContradiction λm=>?_;have g:ops[i]?=J ops[i]:=kn (o7 c d);have l:ops[j]?=J ops[j]:=kn d;have p:=(Oper.apart_spec (n.apart c d m g l).1).2.1;rw[zA g]at hi;rw[zA l]at f;simp_all
def Fits.looks(m:Fits P G R ops e h b){i j t:Nat}(c:i<j)(d:j<ops.size){x y:Oper}(g:ops[i]?=J x)(l:ops[j]?=J y)
 (p:(x.dst=J t/\t∈y.looksAt ops)∨(y.dst=J t/\t∈x.looksAt ops)):Ord b i j:=by
 refine Classical.byContradiction λf=>?_;have n:=Oper.apart_spec (m.apart c d f g l).1
 grind
def nt(ops:Array Oper)(d:Nat->Bool)(k:Nat):Prop:=∀o,ops[k]?=J o->∀c∈o.after,Region.binds .any c=aa->d c.on=aa
def dO(c:Nat->Bool)(k:Nat):Nat->Bool:=λj=>if j=k then aa else c j
def next(z1:cB P G R ops (bT ops.size) e h=J (.normal,e',h'))(z0:Fits P G R ops e h b){L:Nat->Bool}{l:Env}{g:ah}(X:Inv P G R ops e h b L l g){k:Nat}(c:k<ops.size)
 (hu:L k=au) (hr:nt ops L k):∃x e2 Y,ii P G R ops k l g=J (x,e2,Y)/\Inv P G R ops e h b (dO L k) (e2.put (i_ ops k) x) Y:=by
 obtain⟨-,tr,st⟩:=trace z1;have N:ops[k]?=J ops[k]:=kn c;have ahead:∀i,i<ops.size->Ord b i k->L i=aa:=by
  intro i hi N5;obtain⟨ed,zV,Wb,d⟩:=z0.bits k i _ N hi N5;have S:=hr _ N ed zV Wb;have f:=z0.BN k _ N ed zV Wb;rcases d with rfl|d
  .exact S
  .exact X.closed i ed.on hi (o7 f c) S d
 have A:∀o,ops[k]?=J o->Alike ops (dj P G R ops e h k).1 l o:=by
  intro o H T ht;rw[N]at H;injection H with H;subst H;rw[X.gM T,Rn z1 T k (np c),KP (k:=k) ops.size (np c)]
  .refine val_congr k λw m u=>?_;have z:ops[w]?=J ops[w]:=kn (o7 m c);rw[zA z]at u;exact(ahead w (o7 m c) (z0.looks m c z N (.inl ⟨u,ht⟩))).symm
  .intro w N_ m u;rcases eg k w with f|pN
   .cases d:L w with|false=>rfl|true=>have z:ops[w]?=J ops[w]:=kn m;rw[zA z]at u;have:=X.closed k w c m d (z0.looks f m N z (.inr ⟨u,ht⟩));simp_all
   grind
 obtain⟨S,hn⟩:=st k c;obtain⟨q,hm,u,hp,D,Iz,NB⟩:=X.mem;have n:∀i j,i<ops.size->j<ops.size->dO L k j=aa->Ord b i j->dO L k i=aa:=by
  intro i j hi hj OC hij;unfold dO at OC ⊢;by_cases N5:i=k
  .simp_all
  .rw[aV N5];by_cases hjk:j=k
   .simp_all
   .rw[aV hjk]at OC;exact X.closed i j hi hj OC hij
 have y:∀(e2:Env),(∀T,e2.get T=l.get T)->∀T,(e2.put (i_ ops k) (sN P G R ops e h k).1).get T=val P G R ops e h (dO L k) ops.size T:=by
  intro e2 qt T;rw[Qj];by_cases v:i_ ops k=J T
  .rw[aH v,KP (k:=k+1) ops.size c]
   .simp[val,dO,v]
   .intro w N_ m Fc;have gb:w≠k:=λd=>absurd N_ af;simp only[dO,aV gb];cases d:L w with|false=>rfl|true=>have:=X.closed k w c m d (z0.awW N_ m v Fc);simp_all
  .rw[aV v,qt,X.gM T];refine val_congr _ λw _ Fc=>?_;have gb:w≠k:=λd=>v (d ▸ Fc);simp only[dO,aV gb]
 by_cases hc:lh P G R ops e h k=.iO
 .-- it iO
  have hmk:q<=k:=by
   rcases eg k q with f|pN
   .simp_all
   .omega
  have same:=Kp z1 k hmk (np c);have same:(dj P G R ops e h q).1.defers=(dj P G R ops e h k).1.defers/\(dj P G R ops e h q).1.dg=(dj P G R ops e h k).1.dg/\(dj P G R ops e h q).2=(dj P G R ops e h k).2:=by
   rcases same with g|⟨⟨a,g1,p,r,-⟩,-⟩
   .exact g
   .have g:=NB a g1 (o7 p c) r;rw[ahead a (o7 p c) (z0.iO p c r hc)]at g;cases g
  have E:=(Rc (e2:=l) S).2 A (u.trans same.1) (hp.trans same.2.1) (by rw[X.round,abC z1 k (np c)]);rw[<-same.2.2,<-D]at E;refine⟨_,_,_,E,n,y _ (λT=>rfl),?_,k+1,c,?_,?_,O,?_,?_⟩
  .rw[(ud _ _ _).2.2];exact X.round
  .rw[(ud _ _ _).1,hn,(ud _ _ _).1];rfl
  .rw[(ud _ _ _).2.1,hn,(ud _ _ _).2.1];rfl
  .intro a Z t;unfold dO;by_cases d:a=k
   .simp_all
   .rw[aV d];have f:a<k:=acX (Bh.1 Z) d;exact ahead a (o7 f c) (z0.iO f c t hc)
  .intro a hka ha t;have d:a≠k:=λd=>absurd hka af;unfold dO
   grind
 .-- it does not
  have mem':∀e2:Env,e2.defers=l.defers->e2.dg=l.dg->∃q,q<=ops.size/\e2.defers=(dj P G R ops e h q).1.defers/\e2.dg=(dj P G R ops e h q).1.dg/\g=(dj P G R ops e h q).2/\
   (∀a,a<q->lh P G R ops e h a=.iO->dO L k a=aa)/\∀a,q<=a->a<ops.size->lh P G R ops e h a=.iO->dO L k a=au:=by
   intro e2 B7 uV;refine⟨q,hm,B7.trans u,uV.trans hp,D,λa ham t=>?_,λa hma ha t=>?_⟩
   .unfold dO;simp_all
   .have d:a≠k:=λd=>hc (d ▸ t);unfold dO;simp_all
  have fin:∀x,x=(sN P G R ops e h k).1->ii P G R ops k l g=J (x,l,g)->∃x e2 Y,ii P G R ops k l g=J (x,e2,Y)/\Inv P G R ops e h b (dO L k) (e2.put (i_ ops k) x) Y:=by intro x z E;subst z;refine⟨_,_,_,E,n,y _ (λT=>rfl),?_,mem' _ (ud _ _ _).1 (ud _ _ _).2.1⟩;rw[(ud _ _ _).2.2];exact X.round
  cases C:lh P G R ops e h k with
  |iO=>simp_all|pure=>obtain⟨-,-,zP⟩:=Rd (Uv C) S;simp_all
  |reads=>
   obtain⟨-,-,Xg,zP⟩:=abc z1 c C S;refine fin _ O (zP l g A ?_);rw[D];rcases eg k q with f|pN
   .rcases Kp z1 (m:=k) q (np f) hm with d|⟨-,a,g1,p,r,g4⟩
    .simp_all
    .have Z:k<a:=acX g1 λd=>hc (d ▸ r);have s:a<ops.size:=mQ p hm;have Oe:¬Ord b k a:=λd=>(by have:=X.closed k a c s (Iz a p r) d;simp_all);rw[<-g4];exact abe z1 c s C λq1 q2=>z0.auR Z s Oe q1 q2 r
   .rcases Kp z1 (m:=q) k pN (np c) with d|⟨⟨a,g1,p,r,g4⟩,-⟩
    .simp_all
    .have s:a<ops.size:=o7 p c;have Oe:¬Ord b a k:=λd=>by
      grind
     rw[g4];exact abe z1 c (np s) C λq1 q2=>z0.auS p c Oe r q1 q2
def Jp(f:cB P G R ops (bT ops.size) e h=J (.normal,e',h')):Inv P G R ops e h b (λ_=>au) e h:=by
 have c:dj P G R ops e h 0=(e,h):=by simp[dj,cB]
 refine⟨λ_ _ _ _ h=>absurd h cE,λg=>?_,O,0,cC _,by rw[c],by rw[c],by rw[c],λa d=>absurd d (qT a),λ_ _ _ _=>rfl⟩;rw[KP (k:=0) ops.size (cC _) (λ_ _ _ _=>rfl)];rfl
structure jA(e e2:Env):Prop where
 gM:∀t,e.get t=e2.get t
 defers:e.defers=e2.defers
 dg:e.dg=e2.dg
 round:e.round=e2.round
def XS(l:cB P G R ops (bT ops.size) e h=J (.normal,e',h')){s:Nat->Bool}{f:Env}{c:ah}(m:Inv P G R ops e h b s f c)(d:∀i,i<ops.size->s i=aa):jA f e'/\c=h':=by
 obtain⟨t0,H,st⟩:=trace l;have g:e'=(dj P G R ops e h ops.size).1:=by grind
 have C:h'=(dj P G R ops e h ops.size).2:=by grind
 obtain⟨r,n,A,E,p,t,u⟩:=m.mem;have same:=Kp l ops.size n (bh _);have same:(dj P G R ops e h r).1.defers=(dj P G R ops e h ops.size).1.defers/\(dj P G R ops e h r).1.dg=(dj P G R ops e h ops.size).1.dg/\(dj P G R ops e h r).2=(dj P G R ops e h ops.size).2:=by
  rcases same with c|⟨⟨a,x,y,z,-⟩,-⟩
  .exact c
  .simp_all
 refine⟨⟨λv=>?_,?_,?_,?_⟩,?_⟩
 .rw[m.gM v,g,Rn l v ops.size (bh _)];exact val_congr _ λw q _=>d w q
 .simp_all
 .simp_all
 .rw[m.round,g,abC l ops.size (bh _)]
 simp_all
def UE{α:Type}{p q}{a}:∀{l:List α},(∀x∈l,q x=true->p x=true)->a∈l->p a=true->q a=false->l.countP q<l.countP p:=by
 intro l
 induction l with
 |nil=>simp_all|cons x l r=>
  intro c g m n;have f:l.countP q<=l.countP p:=List.countP_mono_left λs d=>c s (gr _ d)
  grind
def nk(ops:Array Oper):(Nat->Bool)->List Nat->Prop
 |S,[]=>∀i,i<ops.size->S i=aa
 |S,k::c=>k<ops.size/\S k=au/\nt ops S k/\nk ops (dO S k) c
def Pt(y:cB P G R ops (bT ops.size) e h=J (.normal,e',h'))(z:Fits P G R ops e h b):∀(L:List Nat) (n:Nat->Bool) (c:Env) (f:ah),Inv P G R ops e h b n c f->nk ops n L->
 ∃e2,cB P G R ops L c f=J (.normal,e2,h')/\jA e2 e':=by
 intro L
 induction L with
 |nil=>intro n c f p d;obtain⟨l,rfl⟩:=XS y p d;exact⟨c,by simp[cB],l⟩
 |cons k L x=>
  intro n c f p d;obtain⟨t,v,u,d⟩:=d;obtain⟨A,e2,s,l,q⟩:=next y z p t v u
  obtain⟨r,m,g⟩:=x _ _ _ q d;exact⟨r,oc.2 ⟨A,e2,s,l,m⟩,g⟩
def w_(ops:Array Oper):Prop:=∀(j:Nat) (o:Oper),ops[j]?=J o->∀c∈o.after,Region.binds .any c=aa->c.on<j
def amM(T:w_ ops):∀(fuel t:Nat) (c:Array Bool),c.size=ops.size->
 (bT ops.size).countP (λj=> !c.getD j au)<=fuel->nk ops (λj=>c.getD j au) (Region.linearise.go .any ops fuel t c []):=by
 intro fuel
 induction fuel with
 |zero=>
  intro t c L f;have m:∀i,i<ops.size->c.getD i au=aa:=by intro i d;have:=acl.1 (acW.1 f) i (hy.2 d);simpa using this
  simp only[Region.linearise.go,acJ];exact m
 |succ fuel Z=>
  intro t c L f;have r:∀i,i<ops.size->c.getD i aa=c.getD i au:=by intro i d;have:i<c.size:=(by omega);simp[this]
  simp only[Region.linearise.go];change nk ops _ (match (Region.ready .any ops c)[t%F (Region.ready .any ops c)]? with
   |some i=>Region.linearise.go .any ops fuel (t/F (Region.ready .any ops c)) (c.setIfInBounds i aa) [i]
   |none=>[].reverse)
  have l:∀i,i∈Region.ready .any ops c↔i<ops.size/\c.getD i au=au/\nt ops (λj=>c.getD j au) i:=by
   intro i;unfold Region.ready;rw[rE,hy];constructor
   .rintro⟨d,g⟩;rw[bQ]at g;obtain⟨E,v⟩:=g;rw[r i d]at E;refine⟨d,by simp_all,λo n A q s=>?_⟩;rw[n]at v;simp only[gc,vR,AZ]at v;obtain⟨z0,g,rfl⟩:=RE q
    grind
   .rintro⟨d,g,z⟩;refine⟨d,?_⟩;rw[bQ];refine⟨by simp_all,?_⟩;have n:ops[i]?=J ops[i]:=kn d;rw[n];simp only[gc,vR,AZ];intro z0 g;cases X:Region.binds .any ops[i].after[z0] with|false=>rfl|true=>simpa using z _ n _ (abQ g) X
  cases d:(Region.ready .any ops c)[t%F (Region.ready .any ops c)]? with
  |none=>
   have Y:Region.ready .any ops c=[]:=by
    cases z:Region.ready .any ops c with
    |nil=>rfl|cons z1 S=>
     rw[z]at d;have D:t%F (z1::S)<F (z1::S):=lT _ cE
     grind
   have m:∀i,i<ops.size->c.getD i au=aa:=by
    intro i
    induction i using LY with
    |_ i ihi=>
     intro d;cases g:c.getD i au with
     |true=>rfl|false=>
      have:i∈Region.ready .any ops c:=(l i).2 ⟨d,g,λo n A q s=>by
       have D:=T i o n A q s
       grind⟩
      simp_all
   simp only[acJ];exact m
  |some i=>
   simp only[];have y:=(l i).1 (dy d);obtain⟨u,N,H⟩:=y;have x:(λj=>(c.setIfInBounds i aa).getD j au)=dO (λj=>c.getD j au) i:=by
    funext j;unfold dO;have e_:i<c.size:=(by omega);by_cases g:j=i
    .simp_all
    .rw[aV g];simp[RD,Ne.symm g]
   have u7:=Z (t/F (Region.ready .any ops c)) (c.setIfInBounds i aa) (by simp_all) (by
    refine Bh.1 (mQ (UE (a:=i) (p:=λj=> !c.getD j au) ?_ (hy.2 u) (by simp_all) ?_) f)
    .intro j _ C;have this:(c.setIfInBounds i aa).getD j au=dO (λj=>c.getD j au) i j:=congrFun x j;rw[this]at C;unfold dO at C;simp_all
    simp_all)
   rw[linearise_go_acc,acK,acO];refine⟨u,N,H,?_⟩;simp_all
def aqH(n):(λj=>(yG n au).getD j au)=λ_=>au:=by
 funext j;rw[GX,RC]
 grind
def Yw(c:w_ ops)(t:Nat):nk ops (λ_=>au) (Region.linearise .any ops t):=by unfold Region.linearise;have:=amM c ops.size t (yG ops.size au) cE (fB acm cE);rw[aqH]at this;omega
def Vb{e:Env}{h:ah}(g:mb P G R ops e h=aa):w_ ops:=λj o l d c f=>(uO g).BN j o l d c f
def ahT(d:cB P G R ops (bT ops.size) e h=J (.normal,e',h'))(c:mb P G R ops e h=aa)(t:Nat):
 ∃e2,cB P G R ops (Region.linearise .any ops t) e h=J (.normal,e2,h')/\jA e2 e':=
 Pt d (uO c) _ _ _ _ (Jp d) (Yw (Vb c) t)
end
end Go.AE
end
section
namespace Go.AE
open Go.RowKit (Below)
structure bA.axp(K K':bA):Prop where
 base:K'.base=K.base
 ic:∀g j c,K.ic g j=J c->K'.ic g j=J c
 β:∀b g:Nat,K.β[b]?=J g->K'.β[b]?=J g
 γ:∀l g:Nat,K.γ[l]?=J g->K'.γ[l]?=J g
 tn:K.tn<=K'.tn
 tk:∀t,t<K.tn->K'.tk t=K.tk t
def bA.un(K:bA)(r:Nat):bA:={K with md:=K.md.filter (· !=r)}
def uB.un{K}{r}{k}{g off sz n ba}(h:uB K k g off sz n ba):uB (K.un r) k g off sz n ba:=h
mutual
def aZ.un{K:bA}{r:Nat}:∀{x:V} {c:aQ},aZ K x c->aZ (K.un r) x c
 |_,_,.bad c=>.bad c
 |_,_,.v x y=>.v x y
 |_,_,.nil l=>.nil l
 |_,_,.gH l a=>.gH l a
 |_,_,.ac k l s m d Z f cells N p g n X t=>.ac k l s m d Z f cells N p (aR.un g) n X t
 |_,_,.arr b m d len f z q u v n S p=>.arr b m d len f z q u v n S p
 |_,_,.agg cs A g=>.agg cs A (aR.un g)
 |_,_,.tuple cs A g=>.tuple cs A (aR.un g)
 |_,_,.box b m d u=>.box b m d u
 |_,_,.ec m d=>.ec m d
 |_,_,.elem l s i d m o z0 cells p g n L T t=>.elem l s i d m o z0 cells p (aR.un g) n L T t
 |_,_,.func C first f D cs E H=>.func C first f D cs (aR.un E) (aR.un H)
 |_,_,.yield Y m v=>.yield Y m v
 |_,_,.iface z1 x c y=>.iface z1 x c (aZ.un y)
def aR.un{K:bA}{r:Nat}:∀{xs:List V} {cs:List aQ},aR K xs cs->aR (K.un r) xs cs
 |_,_,.nil=>.nil
 |_,_,.cons g f xs cs d c=>.cons g f xs cs (aZ.un d) (aR.un c)
end
def pG.un{K}{r}{f c d}(h:pG K f c d)(m:r∉d):pG (K.un r) f c d:=by
 induction h with
 |nil=>exact .nil|call y g u p f c d t _ n=>exact .call y g u p f c d (aR.un t) (n m)|mark q f c d x s _ n=>have v:q≠r:=λl=>m (l ▸ gt);exact .mark q f c d (by unfold bA.un;simp_all) s (n λl=>m (gr _ l))
def pG.sub{K}{f c d}(h:pG K f c d):∀r∈d,r∈K.md:=by
 induction h with
 |nil=>simp_all|call u l t m f c d q _ g=>exact g|mark s f c d n p _ g=>simp_all
def CS.un{K}{r}{d c p cs}(h:CS K d c p cs):CS (K.un r) d c p cs:=by
 cases h with|normal h=>exact .normal h|ret c0 rest g f l=>exact .ret c0 rest g f l|dg c0 rest q n r g f m=>exact .dg c0 rest q n r g f (aZ.un m)
def amv{K c:bA}{r}(le:K.Le c)(g:r∉K.md):K.Le (c.un r):=
 ⟨le.base,le.ic,le.β,le.γ,le.tn,le.tk,λf d=>by unfold bA.un;exact rE.2 ⟨le.md f d,by grind⟩,le.lb,le.new⟩
section
variable {K:bA} {G:Nat->Option (List V)} {ok:a_->Nat->Code->Bool} {w0 w:b_} {h:ah}
def ZW{g:Nat}{o:Obj}(c:g<w.heap.size):lM w (w.putObj g o) g o:=
 ⟨O,O,O,World.putObj_size,λ_ d=>World.putObj_heap_other d,World.putObj_heap_same c⟩
def bZ.drop(s:bZ K G ok w0 h w){r:Nat}(hr:r∈K.md)(o:Obj)(ho:∀cells e f,o≠ .cells cells e f):bZ (K.un r) G ok w0 h (w.putObj r o):=by
 obtain⟨X,u⟩:=s.md r hr;have C:=pO u;have v:=ZW (o:=o) C;have d:∀{p:Nat} {cells:Array aQ} {e:aO} {f:Nat × Nat},w.heap[p]?=J (.cells cells e f)->p≠r:=by rintro p cells e f t rfl;rw[u]at t;cases t
 refine⟨s.fG.trans (v.below X),by rw[v.size];exact s.size,λp j z3 hx=>?_,λp cs t=>?_,s.jd,s.nQ,λb p cs A Y=>?_,s.mM,s.oW,λz2 p rr x E=>?_,s.tn,λz0 ht=>?_,s.oj,λy D=>?_,s.all⟩
 .have q:=s.ic p j z3 hx;have n:p≠r:=by rintro rfl;simp[World.cell?,u]at q
  rw[<-q];exact World.cell?_of_block (w:=w) (v.other p n)
 .obtain⟨cells,l,c⟩:=s.ec p cs t;exact⟨cells,aR.un l,c⟩
 .obtain⟨l,c,T,cells,e,m,g⟩:=s.box b p cs A Y;exact⟨l,c,T,cells,e,(v.other p (d m)).trans m,aR.un g.1,g.2⟩
 .obtain⟨l,H,z,z1,c,m,g⟩:=s.loop z2 p rr x E;have n:p≠r:=by rintro rfl;rw[u]at c;cases c
  exact⟨l,H,z,z1,(v.other p n).trans c,λz0=>aZ.un (m z0),g⟩
 .obtain⟨l,c,m,cells,e,L,g,N,S⟩:=s.tok z0 ht;refine⟨l,c,m,cells,e,L,(v.other _ (d g)).trans g,N,λj Z x=>?_⟩;rw[<-S j Z x];exact World.frozen?_of_block (w:=w) (v.other _ (d g))
 .obtain⟨l,c⟩:=rE.1 D;have n:y≠r:=by simpa using c
  obtain⟨m,g⟩:=s.md y l;exact⟨m,(v.other y n).trans g⟩
def bA.mark(K:bA)(r:Nat):bA:={K with md:=r::K.md}
def bA.Yp(K:bA)(r):K.Le (K.mark r):=
 ⟨O,λ_ _ _ h=>h,λ_ _ h=>h,λ_ _ h=>h,bh _,λ_ _=>rfl,λ_ h=>gr _ h,λ_ _=>rfl,λ_ _ _ h=>.inl h⟩
def bZ.anJ(s:bZ K G ok w0 h w):bZ (K.mark w.heap.size) G ok w0 h (w.alloc (.deferred (J []))):=by
 have le:=K.Yp w.heap.size;have c:=s.push (.deferred (J []));refine⟨c.fG,c.size,c.ic,λp cs v=>?_,c.jd,c.nQ,λb p cs q u=>?_,c.mM,c.oW,λA p y x g=>?_,c.tn,c.tok,c.oj,λy g=>?_,s.all⟩
 .obtain⟨cells,d,f⟩:=s.ec p cs v;exact⟨cells,d.mono le,f⟩
 .obtain⟨d,f,t,cells,e,l,m⟩:=c.box b p cs q u;exact⟨d,f,t,cells,e,l,m.mono le (bk.1 q).1⟩
 .obtain⟨d,r,n,z,f,l,m⟩:=c.loop A p y x g;exact⟨d,r,n,z,f,l.mono le,m⟩
 .rcases hh.1 g with rfl|g
  .exact⟨s.size,World.alloc_heap_new w _⟩
  .exact c.md y g
def bA.loop(K:bA)(g:Nat):bA:={K with γ:=K.γ++[g]}
def bA.Pi(K:bA)(g):K.Le (K.loop g):=
 ⟨O,λ_ _ _ h=>h,λ_ _ h=>h,λ_ _ h=>EV h,bh _,λ_ _=>rfl,λ_ h=>h,λ_ _=>rfl,λ_ _ _ h=>.inl h⟩
def bZ.YW(s:bZ K G ok w0 h w){r:ij}{fn:a_}{tmps:Array aQ}(d:Nat)(S:kQ K r.tmps tmps)(g:ok fn tmps.size r.assign=aa)(c:ok fn tmps.size r.body=aa)(l:∀p∈r.params.toList,p<tmps.size):
 bZ (K.loop w.heap.size) G ok w0 {h with aI:=h.aI++[r]} (w.alloc (.loop {state:=r.state,pending:=r.pending,fn,tmps,params:=r.params,assign:=r.assign,body:=r.body,defers:=d}))/\
 (K.loop w.heap.size).γ[F h.aI]?=J w.heap.size:=by
 have le:=K.Pi w.heap.size;have p:=s.push (.loop {state:=r.state,pending:=r.pending,fn,tmps,params:=r.params,assign:=r.assign,body:=r.body,defers:=d});have v:(K.loop w.heap.size).γ[F h.aI]?=J w.heap.size:=by simp[bA.loop,<-s.mM]
 have T:∀{x n:Nat},K.γ[x]?=J n->n<w.heap.size:=λ{x n} f=>by
  have C:x<F h.aI:=by rw[<-s.mM];exact(bk.1 f).1
  obtain⟨_,_,_,_,l,_⟩:=s.loop x n _ f (aY C)
  grind
 refine⟨⟨p.fG,p.size,p.ic,λn cs N=>?_,p.jd,p.nQ,λb n cs q L=>?_,by simp[bA.loop,s.mM],λx X n f A=>?_,λx n D f m=>?_,p.tn,p.tok,p.oj,p.md,s.all⟩,v⟩
 .obtain⟨cells,g,c⟩:=s.ec n cs N;exact⟨cells,g.mono le,c⟩
 .obtain⟨g,c,H,cells,e,l,u⟩:=p.box b n cs q L;exact⟨g,c,H,cells,e,l,u.mono le (bk.1 q).1⟩
 .rcases qZ f with q|⟨rfl,rfl⟩<;>rcases qZ A with z|⟨rfl,c⟩
  .exact s.oW _ _ _ q z
  .grind
  .grind
  .rfl
 .rcases qZ f with f|⟨rfl,rfl⟩
  .rcases qZ m with m|⟨rfl,rfl⟩
   .obtain⟨g,y,t,E,c,l,u⟩:=p.loop x n D f m;exact⟨g,y,t,E,c,l.mono le,u⟩
   grind
  .have:D=r:=(by rw[s.mM]at m;simp at m;exact m.symm);subst this;exact⟨s.size,fn,tmps,d,World.alloc_heap_new w _,S.mono le,g,c,l⟩
def bZ.fV(s:bZ K G ok w0 h w){l g:Nat}{r:ij}(z:K.γ[l]?=J g)(Y:h.aI[l]?=J r)(st:LoopState)(E:Option Code):
 ∃m:Loop,w.heap[g]?=J (.loop m)/\m.state=r.state/\m.pending=r.pending/\m.params=r.params/\m.assign=r.assign/\m.body=r.body/\kQ K r.tmps m.tmps/\
  ok m.fn m.tmps.size r.assign=aa/\ok m.fn m.tmps.size r.body=aa/\(∀p∈r.params.toList,p<m.tmps.size)/\
  bZ K G ok w0 {h with aI:=h.aI.set l {r with state:=st,pending:=E}} (w.putObj g (.loop {m with state:=st,pending:=E})):=by
 obtain⟨k1,fn,tmps,z0,A,k3,k4,k5,k6⟩:=s.loop l g r z Y;have gU:l<F h.aI:=(bk.1 Y).1;refine⟨_,A,O,O,O,O,O,k3,k4,k5,k6,?_⟩;have C:=ZW (o:=.loop {state:=st,pending:=E,fn,tmps,params:=r.params,assign:=r.assign,body:=r.body,defers:=z0}) (pO A);have d:∀{c:Nat} {cells:Array aQ} {e:aO} {z1:Nat × Nat},w.heap[c]?=J (.cells cells e z1)->c≠g:=by rintro c cells e z1 T rfl;rw[A]at T;cases T
 refine⟨s.fG.trans (C.below k1),by rw[C.size];grind,λc j z3 hx=>?_,s.ec,s.jd,s.nQ,λb c cs N hc=>?_,by simp[s.mM],s.oW,λl' c rr f n=>?_,s.tn,λz2 ht=>?_,s.oj,λH Z=>?_,s.all⟩
 .have x:=s.ic c j z3 hx;have t:c≠g:=by rintro rfl;simp[World.cell?,A]at x
  rw[<-x];exact World.cell?_of_block (w:=w) (C.other c t)
 .obtain⟨u,q,ha,cells,e,y,v⟩:=s.box b c cs N hc;exact⟨u,q,ha,cells,e,(C.other c (d y)).trans y,v⟩
 .simp only[mq]at n;split at n
  .rename_i S;subst S;injection n with n;subst n;rw[z]at f;injection f with f;subst f;exact⟨k1,fn,tmps,z0,C.this,k3,k4,k5,k6⟩
  .rename_i t;have X:c≠g:=(by rintro rfl;exact t (s.oW _ _ _ z f));obtain⟨u,L,D,d',q,y,v⟩:=s.loop l' c rr f n;exact⟨u,L,D,d',(C.other c X).trans q,y,v⟩
 .obtain⟨u,q,y,cells,e,fz,v,h5,h6⟩:=s.tok z2 ht;refine⟨u,q,y,cells,e,fz,(C.other _ (d v)).trans v,h5,λj hj z=>?_⟩;rw[<-h6 j hj z];exact World.frozen?_of_block (w:=w) (C.other _ (d v))
 .obtain⟨u,q⟩:=s.md H Z;have t:H≠g:=by rintro rfl;rw[A]at q;cases q
  exact⟨u,(C.other H t).trans q⟩
end
end Go.AE
end
section
namespace Go.AE
section
variable {P:bL} {G:Nat->Option (List V)} {R:Rec} {ops:Array Oper} {e:Env} {h:ah}
def XD:∀(l:List Oper),F (vh l)=F l
 | []=>rfl
 | [_]=>rfl
 |o::c::d=>by rw[vh,eZ,XD (c::d)];rfl
def XC:∀(l:List Oper) (i:Nat),(vh l)[i]?=if i+1=F l then (l[i]?).map quiet else l[i]?
 | [],i=>by simp[vh]
 | [o],i=>by cases i<;>simp[vh]
 |o::c::d,i=>by
  cases i with|zero=>simp[vh]|succ i=>rw[vh,nR,XC (c::d) i];simp
def OJ(ops):(g' ops).size=ops.size:=by show(F (vh ops.toList))=_;rw[XD];simp
def FH(ops)(i):(g' ops)[i]?=if i+1=ops.size then (ops[i]?).map quiet else ops[i]?:=by have:=XC ops.toList i;simp only[om,GY]at this;unfold g';simp_all
def Jd{i:Nat}(hi:i+1≠ops.size):(g' ops)[i]?=ops[i]?:=by rw[FH,aV hi]
def XE(ops)(i:Nat):((g' ops)[i]?).map (·.after)=(ops[i]?).map (·.after):=by
 rw[FH];split
 .cases ops[i]?<;>rfl
 .rfl
def am9(c:rV ops=aa){i j:Nat}{w:Bool}{o:Oper}(hi:i+1<ops.size)(f:ops[i]?=J o)(d:o.guard=J (j,w)):j+1≠ops.size:=by
 unfold rV at c;simp only[ff,hy,bQ]at c;have:=(c i af).2;simp only[f,d,DO]at this;intro l;have g:j=ops.size-1:=by omega
 simp_all
def am7(c:rV ops=aa){i:Nat}(hi:i+1<ops.size):Ord (Region.before (g' ops)) i (ops.size-1):=by unfold rV at c;simp only[ff,hy,bQ]at c;exact(c i af).1
def YF(d:rV ops=aa){i:Nat}{o:Oper}(hi:i+1<ops.size)(f:ops[i]?=J o)(e:Env):fh (g' ops) e o=fh ops e o:=by
 unfold fh;cases c:o.guard with|none=>rfl|some g=>obtain⟨j,w⟩:=g;simp only;rw[Jd (am9 d hi f c)]
def ana(c:rV ops=aa){i:Nat}(hi:i+1<ops.size)(e:Env)(h:ah):ii P G R (g' ops) i e h=ii P G R ops i e h:=by
 unfold ii;rw[Jd af];cases d:ops[i]? with|none=>rfl|some o=>simp only[YF c hi d]
def am8{i:Nat}(hi:i+1<ops.size):i_ (g' ops) i=i_ ops i:=by unfold i_;rw[Jd af]
def YE(m:rV ops=aa):∀{l:List Nat},(∀i∈l,i+1<ops.size)->∀(e:Env) (h:ah),cB P G R (g' ops) l e h=cB P G R ops l e h:=by
 intro l
 induction l with
 |nil=>intro _ e h;rfl|cons i l d=>
  intro c e h;have f:=c i gt;have d:=d λj g=>c j (gr _ g);rw[cB,cB,Jd af];cases n:ops[i]? with|none=>rfl|some o=>simp only[YF m f n,d]
def Zh{i:Nat}{rest:List Nat}{e c:Env}{h d:ah}{x:V}(f:ii P G R ops i e h=J (x,c,d)):cB P G R ops (i::rest) e h=cB P G R ops rest (c.put (i_ ops i) x) d:=by
 unfold ii at f;rw[cB];unfold i_
 grind
def PT{l:List Nat}:∀{f:List Nat} {e c:Env} {h d:ah},cB P G R ops f e h=J (.normal,c,d)->cB P G R ops (f++l) e h=cB P G R ops l c d:=by
 intro f
 induction f with
 |nil=>intro e c h d g;simp only[cB,d_,dz,true_and]at g;simp_all|cons i s r=>
  intro e c h d g;obtain⟨t,n,p,m,q⟩:=oc.1 g;rw[eY,Zh m]
  grind
def Z9{L:Nat}(l:L+1=ops.size){x:V}{c e2:Env}{d g:ah}(f:ii P G R (g' ops) L c d=J (x,e2,g)):e2=c/\g=d:=by
 unfold ii at f;rw[FH,aH l]at f;cases m:ops[L]? with|none=>simp_all|some o=>rw[m]at f;have p:fh (g' ops) c (quiet o)=J aa:=rfl;have n:ev P G R c d (quiet o)=J (.ret (pP (.bool aa)),c,d):=rfl;simp_all
def Z8{L:Nat}(c:L+1=ops.size):i_ (g' ops) L=aq:=by unfold i_;rw[FH,aH c];cases ops[L]?<;>rfl
def jA.trans{a b c}(h:jA a b)(k:jA b c):jA a c:=⟨λd=>(h.gM d).trans (k.gM d),h.defers.trans k.defers,h.dg.trans k.dg,h.round.trans k.round⟩
def jA.symm{a b}(h:jA a b):jA b a:=⟨λc=>(h.gM c).symm,h.defers.symm,h.dg.symm,h.round.symm⟩
def jA.refl(a):jA a a:=⟨λ_=>rfl,O,O,O⟩
def jA.eval{a b}(h:jA a b)(x):a.eval x=b.eval x:=by
 cases x with|tmp c=>exact h.gM c|_=>rfl
def jA.wanted{a b:Env}(h:jA a b)(o:Oper):fh ops a o=fh ops b o:=by
 unfold fh;cases o.guard with
 |none=>rfl|some d=>
  simp only;cases (ops[d.1]?).bind (·.dst) with|none=>rfl|some c=>simp only[h.gM c]
def aoP{L:Nat}{x:V}{g ep l:Env}{m p:ah}{rest:List Nat}(c:cB P G R ops [L] g m=some (.panic x,ep,p))(d:jA l g):∃e2,cB P G R ops (L::rest) l m=some (.panic x,e2,p)/\jA e2 ep:=by
 rw[cB] at c ⊢;cases q:ops[L]? with
 |none=>simp_all|some o=>
  rw[q] at c;simp only at c ⊢;rw[d.wanted];cases n:fh ops g o with
  |none=>simp_all|some b=>
   rw[n] at c;cases b with
   |false=>simp[cB] at c|true=>
    simp only at c ⊢;cases f:ev P G R g m o with
    |none=>simp_all|some s=>
     obtain⟨t,e2,r⟩:=s;rw[f] at c;cases t with|ret v=>simp[cB] at c|panic v=>simp only[d_,dz,Xt.panic.injEq] at c;obtain⟨rfl,rfl,rfl⟩:=c;rw[Za (e2:=l) (λx _=>(d.eval x).symm) d.defers d.dg d.round f];refine⟨_,rfl,?_⟩;have n:=Zb f;rw[n];exact⟨λu=>d.gM u,rfl,rfl,d.round⟩
variable {b:Array Nat}
def ajq(hl:rV ops=aa){L:Nat}(hL:L+1=ops.size){e':Env}{h':ah}(z2:cB P G R (g' ops) (bT (g' ops).size) e h=J (.normal,e',h'))(z0:Fits P G R (g' ops) e h (Region.before (g' ops)))
 {x:V} {eL ep:Env} {N hp:ah} (hsL:jA e' eL) (hhL:h'=N) (x9:cB P G R ops [L] eL N=J (.panic x,ep,hp)):∀(fuel t:Nat) (c:Array Bool) (A:Env) (C:ah),c.size=ops.size->c.getD L au=au->
 Inv P G R (g' ops) e h (Region.before (g' ops)) (λj=>c.getD j au) A C->(bT ops.size).countP (λj=> !c.getD j au)<=fuel->
 ∃e2,cB P G R ops (Region.linearise.go .any ops fuel t c []) A C=some (.panic x,e2,hp)/\jA e2 ep:=by
 have ayD:=OJ ops;intro fuel
 induction fuel with
 |zero=>intro t c A C hJ Ak z1 f;have:=acl.1 (acW.1 f) L (hy.2 af);simp_all|succ fuel ih=>
  intro t c A C hJ Ak z1 f;have H:∀i,i<ops.size->c.getD i aa=c.getD i au:=by intro i l;have:i<c.size:=(by omega);simp[this]
  simp only[Region.linearise.go];change ∃e2,cB P G R ops (match (Region.ready .any ops c)[t%(Region.ready .any ops c).length]? with
   |some i=>Region.linearise.go .any ops fuel (t/(Region.ready .any ops c).length) (c.setIfInBounds i aa) [i]
   |none=>[].reverse) A C=J (.panic x,e2,hp)/\jA e2 ep
  have m:∀i,i∈Region.ready .any ops c↔i<ops.size/\c.getD i au=au/\nt (g' ops) (λj=>c.getD j au) i:=by
   intro i;unfold Region.ready;rw[rE,hy];constructor
   .rintro⟨l,d⟩;rw[bQ] at d;obtain⟨vf,n⟩:=d;rw[H i l] at vf;refine⟨l,by simp_all,λo r z g u=>?_⟩;have s:=XE ops i;rw[r] at s;cases v:ops[i]? with
    |none=>simp_all|some o2=>
     rw[v] at s n;simp only[gc,d_] at s;rw[s] at g;simp only[gc,vR,AZ] at n;obtain⟨z3,d,rfl⟩:=RE g
     grind
   .rintro⟨l,d,hr⟩;refine⟨l,?_⟩;rw[bQ];refine⟨by simp_all,?_⟩;have r:ops[i]?=J ops[i]:=kn l;have s:=XE ops i;rw[r] at s ⊢;cases v:(g' ops)[i]? with
    |none=>simp_all|some o2=>
     rw[v] at s;simp only[gc,d_] at s;simp only[gc,vR,AZ];intro z3 d;cases hb:Region.binds .any ops[i].after[z3] with|false=>rfl|true=>simpa using hr _ v _ (by simp_all) hb
  cases l:(Region.ready .any ops c)[t%(Region.ready .any ops c).length]? with
  |none=>
   exfalso;have Fp:Region.ready .any ops c=[]:=by
    cases hr:Region.ready .any ops c with
    |nil=>rfl|cons x xs=>
     rw[hr] at l;have S:t%(x::xs).length<(x::xs).length:=lT _ cE
     grind
   have D:∀i,i<ops.size->c.getD i au=aa:=by
    intro i
    induction i using LY with
    |_ i ihi=>
     intro l;cases d:c.getD i au with
     |true=>rfl|false=>
      have:i∈Region.ready .any ops c:=(m i).2 ⟨l,d,λo r z g u=>by
       have S:=z0.BN i o r z g u
       grind⟩
      simp_all
   grind
  |some i=>
   simp only[];have Z:=(m i).1 (dy l);obtain⟨mg,ak1,T⟩:=Z;obtain⟨z4,e2,h2,hs,I'⟩:=next z2 z0 z1 af ak1 T
   have X:(λj=>(c.setIfInBounds i aa).getD j au)=dO (λj=>c.getD j au) i:=by
    funext j;unfold dO;have e_:i<c.size:=(by omega);by_cases d:j=i
    .simp_all
    .rw[aV d];simp[RD,Ne.symm d]
   rw[linearise_go_acc,acK,acO];by_cases hiL:i=L
   .subst hiL;obtain⟨q1,q2⟩:=Z9 hL hs;subst q1;subst q2;have D:∀j,j<(g' ops).size->dO (λj=>c.getD j au) i j=aa:=by
     intro j Y;unfold dO;by_cases d:j=i
     .simp_all
     .rw[aV d];have q:j+1<ops.size:=(by omega);have E:=am7 hl q;have:ops.size - 1=i:=(by omega);rw[this] at E;have r:(g' ops)[i]?=J (g' ops)[i]:=kn af;obtain⟨z,g,u,n⟩:=z0.bits i j _ r af E;have OB:=T _ r z g u;have S:=z0.BN i _ r z g u;rcases n with rfl|n
      .omega
      .exact z1.closed j z.on af af OB n
    obtain⟨y,rfl⟩:=XS z2 I' D;rw[Z8 hL] at y;subst hhL;exact aoP x9 (y.trans hsL)
   .have q:i+1<ops.size:=(by omega);rw[ana hl q] at hs;rw[am8 q] at I';rw[Zh hs];refine ih (t/(Region.ready .any ops c).length) (c.setIfInBounds i aa) (e2.put (i_ ops i) z4) h2 (by simp_all) ?_ (by simp_all) (by
     refine Bh.1 (mQ (UE (a:=i) (p:=λj=> !c.getD j au) ?_ (hy.2 mg) (by simp_all) ?_) f)
     .intro j _ Y;have this:(c.setIfInBounds i aa).getD j au=dO (λj=>c.getD j au) i j:=congrFun X j;rw[this] at Y;unfold dO at Y;simp_all
     simp_all)
    simp_all
def ahV(l:rV ops=aa)(s:mb P G R (g' ops) e h=aa)(r:Au (cB P G R (g' ops) (bT (g' ops).size) e h)=aa){x:V}{ep:Env}{m:ah}(c:cB P G R ops (bT ops.size) e h=J (.panic x,ep,m))(t:Nat):
 ∃e2,cB P G R ops (Region.linearise .any ops t) e h=some (.panic x,e2,m)/\jA e2 ep:=by
 have u:0<ops.size:=by
  rcases Nat.eq_zero_or_pos ops.size with q|q
  .rw[q] at c;simp[cB] at c
  .exact q
 obtain⟨A,d⟩:∃A,A+1=ops.size:=⟨ops.size - 1,by omega⟩;obtain⟨e',h',p⟩:∃e' h',cB P G R (g' ops) (bT (g' ops).size) e h=J (.normal,e',h'):=by
  unfold Au at r
  grind
 have g:=p;rw[OJ,<-d,lP] at g;obtain⟨E,C,v,y⟩:=CY.1 g;obtain⟨N,D,H,z,f⟩:=oc.1 y;obtain⟨rfl,rfl⟩:=Z9 d z;rw[Z8 d] at f;simp only[cB,d_,dz,true_and] at f;obtain⟨rfl,rfl⟩:=f;have n:=v;rw[YE l (λi L=>by grind)] at n;rw[<-d,lP,PT n] at c;unfold Region.linearise;refine ajq l d p (uO s) (jA.refl _) rfl c ops.size t _ e h cE ?_ ?_ ?_
 .rw[GX,RC]
  grind
 .have:(λj=>(yG ops.size au).getD j au)=λ_=>au:=by
   funext j;rw[GX];rw[RC]
   grind
  rw[this];exact Jp p
 .exact fB acm cE
end
end Go.AE
end
section
namespace Go.AE
section
variable {P:bL} {G:Nat->Option (List V)} {R:Rec} {ops:Array Oper} {e:Env} {h:ah} {k:Nat}
inductive axs (ops:Array Oper) (k i:Nat):Prop
 |self (h:i=k)
 |ahead (h1:Cw ops k i=au) (h2:VB ops k i=aa) (h3:i<k) (h4:Ord (Region.before (cut ops k)) i k)
 |beside (h1:Cw ops k i=au) (h2:VB ops k i=aa) (h3:af1 ops i=aa) (h4:oB ops i k=aa)
 |behind (h1:k<i) (h2:Cw ops k i=aa) (h3:Ord (Region.before (cut ops k)) k i)
def Fits.lt{b:Array Nat}(t:Fits P G R ops e h b):∀(j i:Nat),j<ops.size->i<ops.size->Ord b i j->i<j:=by
 intro j
 induction j using LY with
 |_ j s=>
  intro i m l p;have n:ops[j]?=J ops[j]:=kn m;obtain⟨d,g,f,r⟩:=t.bits j i _ n l p;have c:=t.BN j _ n d g f;rcases r with q|q
  .omega
  .have:=s d.on c i (o7 c m) l q;omega
structure axr(ops:Array Oper)(k:Nat)(a b:Env):Prop where
 gM:∀t,(∀i,i<ops.size->ahO ops k i≠J t)->a.get t=b.get t
 defers:a.defers=b.defers
 dg:a.dg=b.dg
 round:a.round=b.round
end
end Go.AE
end
section
namespace Go.AE
open Go.RowKit (Below)
section
variable {P:bL} {G:Nat->Option (List V)} {w0:b_} {R:Rec}
def Steps.tail{m f d:Machine}(h:step P m=.next f)(g:Steps P m d)(n:m≠d):Steps P f d:=by
 obtain⟨l,c⟩:=g;cases l with|zero=>simp[runN]at c;simp_all|succ l=>simp only[runN,h]at c;exact⟨l,c⟩
def Jv{f c}{cs d}{w w'}(h:lone f cs w=lone c d w'):f=c:=by unfold lone at h;simp_all
def ni.swap{K:bA}{m q m':Machine}{B:fj}{k:List Item}{c:Code}{cs p:List fj}{x:Xt}{a a0:Act}{w t:b_}(v:∀id,c≠ .exit id)(u:c≠ .ret)(l:m=lone (B.atR a0 (.code c::k)) p t)
 (g:step P m=.next q) (s:step P m'=.next q) (h:ni P K m B k cs x a w):ni P K m' B k cs x a w:=by
 refine ni.of_steps (.one s) ?_;cases x with
 |normal=>refine Steps.tail g h ?_;rw[l];intro d;have:=congrArg Frame.todo (Jv d);simp only[Frame.atR]at this;simp_all|exit id=>obtain⟨r,n,f⟩:=h;refine⟨r,n,Steps.tail g f ?_⟩;rw[l];intro d;have:=congrArg Frame.todo (Jv d);simp only[Frame.atR,R9,Item.code.injEq]at this;simp_all
 |ret=>obtain⟨r,f⟩:=h;refine⟨r,Steps.tail g f ?_⟩;rw[l];intro d;have:=congrArg Frame.todo (Jv d);simp only[Frame.atR,R9,Item.code.injEq]at this;simp_all
 |panic x=>obtain⟨r,y,n,f⟩:=h;refine⟨r,y,n,Steps.tail g f ?_⟩;rw[l];intro d;have:=congrArg Frame.mode (Jv d);simp[Frame.atR]at this
def Left.refl{K:bA}{w:b_}{a:Act}{B:fj}{f:List Nat}{c cs:List fj}{k:List Item}{m:Machine}{d:Xt}{e:Env}{h:ah}(n:mO P K e a B f)(g:CS K B.kind c e.dg cs)(q:jB P G w0 K h w)(l:ni P K m B k cs d a w):
 Left P G w0 K f B c m k a.tmps.size d e h K w a cs f:=
 ⟨.refl K,q,n,g,O,λ_ p=>.inl p,l⟩
def Left.of_steps{K l:bA}{w':b_}{p:Act}{B:fj}{r f:List Nat}{c d:List fj}{k:List Item}{m q:Machine}{g:Xt}{e':Env}{h':ah}{n:Nat}(s:Steps P m q)(L:Left P G w0 K r B c q k n g e' h' l w' p d f):
 Left P G w0 K r B c m k n g e' h' l w' p d f:=
 ⟨L.le,L.pU,L.frame,L.cs,L.size,L.marks,L.arr.of_steps s⟩
def Zg(hn:Bl P)(hR:uA P G w0 R){ops:Array Oper}:∀(l:List Nat) (e:Env) (h:ah) (q:Xt) (e':Env) (h':ah),cB P G R ops l e h=J (q,e',h')->
 ∀(K:bA) (w:b_) (a:Act) (B:fj) (k:List Item) (d cs:List fj) (m:List Nat),mO P K e a B m->CS K B.kind d e.dg cs->jB P G w0 K h w->CZ a.tmps.size ops=aa->
 ∃r w' s f,Left P G w0 K m B d (lone (B.atR a (.inRegion ops l::k)) cs w) k a.tmps.size q e' h' r w' s f m:=by
 intro l
 induction l with
 |nil=>intro e h q e' h' c K w a B k d cs m t n z g;simp only[cB,d_,dz]at c;obtain⟨rfl,rfl,rfl⟩:=c;exact⟨K,w,a,cs,.refl t n z (.one stepR_region_end)⟩
 |cons i rest ih=>
  intro e h q e' h' c K w a B k d cs m t n z g;simp only[cB]at c;cases y:ops[i]? with
  |none=>simp_all|some o=>
   rw[y]at c;simp only at c;have E:=Zf g y;cases Z:fh ops e o with
   |none=>simp_all|some b=>
    rw[Z]at c;have hwm:=awH t.gM g Z;cases b with
    |false=>simp only at c;have p:=stepR_op_skip (P:=P) (b:=B) (a:=a) (k:=k) (cs:=cs) (w:=w) (ops:=ops) (i:=i) (rest:=rest) (by simp_all);have hb:(ops[i]?).bind (·.dst)=o.dst:=(by rw[y];rfl);rw[hb]at p;obtain⟨r,w',s,f,x⟩:=ih _ _ _ _ _ c K w (a.put o.dst undef) B k d cs m (t.put E (.tuple [] #[] .nil)) (by cases o.dst<;>exact n) z (by rw[JW];omega);rw[JW]at x;exact⟨r,w',s,f,.of_steps (.one p) x⟩
    |true=>
     simp only at c;cases C:ev P G R e h o with
     |none=>simp_all|some z3=>
      obtain⟨z0,e1,h1⟩:=z3;rw[C]at c;obtain⟨T,w1,X,A,D,s1,f1,Y,S,u⟩:=aom (i:=i) (rest:=rest) hn hR C t n z y hwm k;cases z0 with
      |ret z4=>obtain⟨z2,L,v⟩:=u;simp only at c;obtain⟨r,w',s,f,x⟩:=ih _ _ _ _ _ c T w1 (X.put o.dst z2) B k d A m (f1.put (by simp_all) L) (by cases o.dst<;>exact Y) s1 (by rw[JW,S];omega);rw[JW,S]at x;refine⟨r,w',s,f,D.trans x.le,x.pU,x.frame,x.cs,x.size,λz0 H=>.inl H,x.arr.of_steps v⟩
      |panic z4=>obtain⟨z2,N,L,v⟩:=u;simp only[d_,dz]at c;obtain⟨rfl,rfl,rfl⟩:=c;exact⟨T,w1,X,A,D,s1,f1,Y,S,λz0 H=>.inl H,N,z2,L,v⟩
def mO.same{K:bA}{e e2:Env}{a:Act}{B:fj}{f:List Nat}(c:mO P K e a B f)(d:jA e e2):mO P K e2 a B f:=by
 refine⟨λg=>?_,d.defers ▸ c.defers,?_,c.fn⟩
 .have:=d.gM g;unfold Env.get at this;rw[<-this];exact c.gM g
 .have:=c.round;rw[d.round,d.defers]at this;omega
def ant{n:Nat}{ps:Array Tmp}(h:(ps.all λp=>decide (p<n))=aa):∀p∈ps.toList,p<n:=by intro p c;rw[GW]at h;simp_all
end
end Go.AE
end
section
namespace Go.AE
section
variable {P:bL} {G:Nat->Option (List V)} {R:Rec} {ops:Array Oper} {i:Nat}
end
end Go.AE
end
section
namespace Go.AE
section
variable {K:bA} {G:Nat->Option (List V)} {ok:a_->Nat->Code->Bool} {w0 w:b_} {h:ah}
end
end Go.AE
end
section
namespace Go.AE
open Go.RowKit (Below)
section
variable {P:bL} {G:Nat->Option (List V)} {w0:b_} {R:Rec}
structure RI(d:Tmp)(e eh:Env):Prop where
 gM:∀t,t≠d->e.get t=eh.get t
 defers:e.defers=eh.defers
 dg:e.dg=eh.dg
 round:e.round=eh.round
def RI.eval{d}{e c}(b:RI d e c){x}(f:x≠ .tmp d):e.eval x=c.eval x:=by
 cases x with|tmp l=>exact b.gM l λg=>f (by rw[g])|_=>rfl
end
end Go.AE
end
section
namespace Go.AE
section
variable {ops:Array Oper} {i:Nat}
def ready_mono{n c:Nat->Bool}{k:Nat}(m:nt ops n k)(h:∀j,n j=aa->c j=aa):nt ops c k:=λo l f d g=>h _ (m o l f d g)
def PQ(f)(a b):dO (dO f a) b=dO (dO f b) a:=by funext j;unfold dO;by_cases c:j=a<;>by_cases d:j=b<;>simp[c,d]
structure axt(ops:Array Oper)(i:Nat)(d2:Tmp):Prop where
 lt:i+1<ops.size
 no:HX ops i (i+1)=au
 all:∀k,k<ops.size->k≠i->k≠i+1->HX ops (i+1) k=aa∨HX ops k i=aa∨(amZ ops d2 k=aa/\HX ops k (i+1)=au)
variable {d2:Tmp}
variable {P:bL} {G:Nat->Option (List V)} {w0:b_} {R:Rec}
end
end Go.AE
end
section
namespace Go.AE
section
variable {ops:Array Oper} {i j:Nat} {P:bL} {G:Nat->Option (List V)} {R:Rec}
def ql:(gu ops i j).size=ops.size:=by simp[gu]
def BO(k:Nat):(gu ops i j)[k]?=(ops[k]?).map λo=>if k=j then {o with after:=o.after.push {on:=i,ground:=.data}} else o:=by unfold gu;simp_all
def UW(k:Nat):((gu ops i j)[k]?).bind (·.dst)=(ops[k]?).bind (·.dst):=by
 rw[BO]
 grind
def awG(e:Env)(o:Oper):fh (gu ops i j) e o=fh ops e o:=by
 unfold fh;cases o.guard with|none=>rfl|some c=>simp only[UW]
def AF:∀(L:List Nat) (e:Env) (h:ah),cB P G R (gu ops i j) L e h=cB P G R ops L e h:=by
 intro L
 induction L with
 |nil=>intro e h;rfl|cons k L l=>
  intro e h;unfold cB;rw[BO];cases g:ops[k]? with
  |none=>rfl|some o=>
   simp only[gc];have f:∀c:Oper,c.op=o.op->c.type=o.type->c.guard=o.guard->c.dst=o.dst->(fh (gu ops i j) e c=fh ops e o/\ev P G R e h c=ev P G R e h o):=by intro c m n d p;refine⟨by rw[awG];unfold fh;rw[d],?_⟩;unfold ev;simp_all
   grind
def wO{p:Nat->Bool}{k:Nat}(m:nt ops p k)(s:k=j->p i=aa):nt (gu ops i j) p k:=by
 intro o c g d l;rw[BO]at c;cases f:ops[k]? with
 |none=>simp_all|some n=>
  rw[f]at c;simp only[gc,d_]at c;split at c
  .rename_i r;subst c;rcases Array.mem_push.1 d with q|q
   .exact m n f g q l
   simp_all
  .subst c;exact m n f g d l
def amY:∀(L:List Nat) (c:Nat->Bool),c i=aa->nk ops c L->nk (gu ops i j) c L:=by
 intro L
 induction L with
 |nil=>intro c _ h k d;exact h k (by rw[ql]at d;exact d)
 |cons k L p=>intro c n h;obtain⟨f,g,l,m⟩:=h;refine⟨by rw[ql];exact f,g,wO l λ_=>n,p _ ?_ m⟩;unfold dO;simp_all
def aeG(h:w_ (gu ops i j)):w_ ops:=by
 intro k o g c l d;have f:(gu ops i j)[k]?=J (if k=j then {o with after:=o.after.push {on:=i,ground:=.data}} else o):=by rw[BO,g];rfl
 refine h k _ f c ?_ d
 grind
def A8(ops:Array Oper)(d:Nat->Bool):Prop:=∀(k:Nat) (o:Oper),ops[k]?=J o->d k=aa->∀c∈o.after,Region.binds .any c=aa->d c.on=aa
def A8.one{n:Nat->Bool}{k:Nat}(c:A8 ops n)(p:nt ops n k):A8 ops (dO n k):=by
 intro q o m f g d l;unfold dO at f ⊢;split
 .rfl
 .split at f
  .rename_i r;subst r;exact p o m g d l
  .exact c q o m f g d l
def aeX{z:Nat->Bool}(p:y9 ops (Region.before ops)=aa)(c:A8 ops z){k:Nat}:∀(m:Nat),m<ops.size->nt ops z m->((Region.before ops).getD m 0).testBit k=aa->k<ops.size->z k=aa:=by
 intro m
 induction m using LY with
 |_ m L=>
  intro v E D t;unfold y9 at p;rw[ff]at p;have:=p m (hy.2 v);have x:ops[m]?=J ops[m]:=kn v;rw[x]at this;simp only[bQ,ff,GW]at this;obtain⟨A,C⟩:=this;have n:=C k (hy.2 t);rw[D]at n;simp only[ab0,Ld,Array.any_eq_true',bQ,oX]at n;obtain⟨d,l,g,f⟩:=n;have H:=E _ x d l g;rcases f with f|f
  .simp_all
  .have u:d.on<m:=(by have:=A d l;rw[g]at this;simpa using this);exact L d.on u af (λo y r q s=>c _ o y H r q s) f t
def aqM{n:Nat}(z:w_ ops)(E:n+1=ops.size):∀(L:List Nat) (c:Nat->Bool),c n=au->c i=aa->nt ops c n->nk ops (dO c n) L->nk (gu ops i n) c (L++[n]):=by
 intro L
 induction L with
 |nil=>intro c m q g h;refine⟨by rw[ql];omega,m,wO g λ_=>q,λk r=>?_⟩;exact h k (by rw[ql]at r;exact r)
 |cons k L A=>
  intro c m q g h;obtain⟨v,d,x,y⟩:=h;unfold dO at d;split at d
  .cases d
  .rename_i s;have u:nt ops c k:=by
    intro o t l f p;have:=x o t l f p;unfold dO at this;split at this
    .rename_i C;have:=z k o t l f p;omega
    .omega
   refine⟨by rw[ql];exact v,d,wO u (λC=>absurd C s),A (dO c k) ?_ ?_ ?_ ?_⟩
   .unfold dO;grind
   .unfold dO;simp_all
   .exact ready_mono g λj D=>by unfold dO;simp_all
   .rw[PQ];exact y
def aqN{n:Nat}(A:w_ ops)(hn:n+1=ops.size)(mg:i<n):∀(L:List Nat) (d:Nat->Bool),d n=au->d i=au->nt ops d n->nk ops (dO d n) L->
 ∃g l,L=g++i::l/\(∀k∈g,k<ops.size/\k≠i/\k≠n/\d k=au)/\(∀k∈l,k<ops.size/\k≠i/\k≠n/\d k=au)/\nk (gu ops i n) d (g++i::(l++[n])):=by
 intro L
 induction L with
 |nil=>intro d Z D N h;have:=h i af;unfold dO at this;simp_all|cons k L ih=>
  intro d Z D N h;obtain⟨z,m,X,p⟩:=h;unfold dO at m;split at m
  .cases m
  .rename_i r;have s:nt ops d k:=by
    intro o H y q C;have:=X o H y q C;unfold dO at this;split at this
    .rename_i x;have:=A k o H y q C;omega
    .omega
   have t:nt ops (dO d k) n:=ready_mono N λj hj=>(by unfold dO;simp_all);by_cases E:k=i
   .subst E;have u:∀(L:List Nat) (d:Nat->Bool),nk ops d L->∀f∈L,f<ops.size/\d f=au:=by
     intro L
     induction L with
     |nil=>simp_all|cons a L S=>
      intro d Y f c;obtain⟨q1,q2,q3,q4⟩:=Y;rcases hh.1 c with rfl|c
      .simp_all
      .obtain⟨p1,v⟩:=S _ q4 f c;unfold dO at v;simp_all
    refine⟨[],L,O,λf c=>(nomatch c),λf c=>?_,?_⟩
    .obtain⟨p1,v⟩:=u L _ p f c;unfold dO at v;simp_all
    .refine⟨by rw[ql];exact z,D,wO s (λx=>absurd x r),?_⟩;refine aqM A hn L _ ?_ ?_ t ?_
     .unfold dO;grind
     .unfold dO;simp_all
     .rw[PQ];exact p
   .rw[PQ]at p;obtain⟨g,l,e1,e2,e3,T⟩:=ih (dO d k) (by unfold dO;grind) (by unfold dO;grind) t p;have um:∀f,dO d k f=au->d f=au:=λf x=>(by unfold dO at x;simp_all);refine⟨k::g,l,by simp_all,λf c=>?_,λf c=>?_,by rw[ql];exact z,m,wO s (λx=>absurd x r),T⟩<;>grind
def aoJ{n:Nat}(S:w_ ops)(X:n+1=ops.size)(A:i<n):∀(L:List Nat) (m:Nat->Bool),m n=au->m i=au->A8 ops m->nk ops m L->
 nk (gu ops i n) m L∨∃g c d f,L=g++(n::(c++i::d))/\f i=au/\nt ops f n/\A8 ops f/\(∀k∈c,k<ops.size/\k≠i/\k≠n/\f k=au)/\(∀k∈d,k<ops.size/\k≠i/\k≠n/\f k=au)/\nk (gu ops i n) m (g++(c++i::(d++[n]))):=by
 intro L
 induction L with
 |nil=>intro m q r _ h;have:=h i af;simp_all|cons k L Y=>
  intro m T z y h;obtain⟨q,r,l,v⟩:=h;by_cases C:k=i
  .subst C;exact .inl ⟨by rw[ql];exact q,r,wO l (λx=>by omega),amY L _ (by unfold dO;simp_all) v⟩
  .by_cases p:k=n
   .subst p;obtain⟨c,d,E,s,t,u⟩:=aqN S X A L m T z l v;exact .inr ⟨[],c,d,m,by simp_all,z,l,y,s,t,u⟩
   .rcases Y (dO m k) (by unfold dO;grind) (by unfold dO;grind) (y.one l) v with x|⟨g,c,d,f,E,D,s,t,u,H,N⟩
    .exact .inl ⟨by rw[ql];exact q,r,wO l (λx=>absurd x p),x⟩
    .exact .inr ⟨k::g,c,d,f,by simp_all,D,s,t,u,H,by rw[ql];exact q,r,wO l (λx=>absurd x p),N⟩
def ah.qg(h:ah)(c:Nat)(xs:List V):ah:={h with I:=h.I.set c xs}
def TM{h:ah}{a c}{xs}(d:a≠c):(h.qg c xs).I[a]?=h.I[a]?:=by
 unfold ah.qg
 grind
variable {e e':Env} {h h':ah} {b:Array Nat}
def Yy(C:cB P G R ops (bT ops.size) e h=J (.normal,e',h'))(z:Fits P G R ops e h b):∀(A B:List Nat) (l:Nat->Bool) (c:Env) (d:ah),Inv P G R ops e h b l c d->nk ops l (A++B)->
 ∃S2 e2 g,cB P G R ops A c d=J (.normal,e2,g)/\Inv P G R ops e h b S2 e2 g/\nk ops S2 B:=by
 intro A
 induction A with
 |nil=>intro B l c d n f;exact⟨l,c,d,O,n,f⟩|cons k A y=>
  intro B l c d n f;obtain⟨t,x,u,f⟩:=f;obtain⟨D,e2,g,v,p⟩:=next C z n t x u
  obtain⟨S2,r,s,m,q,L3⟩:=y B _ _ _ p f;exact⟨S2,r,s,oc.2 ⟨D,e2,g,v,m⟩,q,L3⟩
def XR(S:cB P G R ops (bT ops.size) e h=J (.normal,e',h'))(A:Fits P G R ops e h b){t:Nat->Bool}{u:Env}{D:ah}(C:Inv P G R ops e h b t u D){k:Nat}(c:k<ops.size)
 (T:t k=au) (E:nt ops t k):∀o,ops[k]?=J o->Alike ops (dj P G R ops e h k).1 u o:=by
 have g:ops[k]?=J ops[k]:=kn c;have ahead:∀i,i<ops.size->Ord b i k->t i=aa:=by
  intro i v x;obtain⟨s,r,q,n⟩:=A.bits k i _ g v x;have y:=E _ g s r q;have m:=A.BN k _ g s r q;rcases n with rfl|n
  .exact y
  .exact C.closed i s.on v (o7 m c) y n
 intro o f N z;rw[g]at f;injection f with f;subst f;rw[C.gM N,Rn S N k (np c),KP (k:=k) ops.size (np c)]
 .refine val_congr k λw d l=>?_;have p:ops[w]?=J ops[w]:=kn (o7 d c);rw[zA p]at l;exact(ahead w (o7 d c) (A.looks d c p g (.inl ⟨l,z⟩))).symm
 .intro w L d l;rcases eg k w with m|H
  .cases n:t w with|false=>rfl|true=>have p:ops[w]?=J ops[w]:=kn d;rw[zA p]at l;have:=C.closed k w c d n (A.looks m d g p (.inr ⟨l,z⟩));simp_all
  grind
def DG{k:Nat}{x:V}{q:Env}{l:ah}(m:ww ops k=aa)(st:ii P G R ops k e h=J (x,q,l)):
 x=.tuple []/\q=e/\i_ ops k=aq/\∃(o:Oper) (t:aO) (a v:ck) (c off n:Nat) (cs f:List V),ops[k]?=J o/\o.op=.store t a v/\o.guard=aq/\e.eval a=.ptr (.box c) off/\(e.eval v).bP=J cs/\cQ P t=J n/\h.I[c]?=J f/\F cs=n/\off+n<=F f/\l=h.qg c (ej f off cs):=by
 unfold ww at m;unfold ii at st;cases s:ops[k]? with
 |none=>simp_all|some o=>
  rw[s]at m st;simp only[bQ,Option.isNone_iff_eq_none]at m;obtain⟨u,y,E⟩:=m;cases g:o.op<;>rw[g]at u<;>try (cases u;done)
  rename_i t a v;have C:fh ops e o=J aa:=by unfold fh;rw[y]
  simp only[C]at st;have r:ev P G R e h o=(dP P G e.eval h (.store t a v)).map λ(x,h)=>(.ret x,e,h):=by unfold ev;rw[g]
  rw[r]at st;simp only[dP]at st;cases d:b9 P h t (e.eval a) (e.eval v) with
  |none=>simp_all|some H=>
   rw[d]at st;simp only[gc,d_,dz]at st;obtain⟨rfl,rfl,rfl⟩:=st;unfold b9 at d;split at d
   .rename_i c off cs n l z A;split at d
    .rename_i f hold;split at d
     .rename_i p;injection d with d;exact⟨O,O,by simp[i_,s,E],o,t,a,v,c,off,n,cs,f,O,g,y,l,z,A,hold,p.1,p.2,d.symm⟩
     simp_all
    simp_all
   simp_all
def Rg{k:Nat}{o:Oper}{t:aO}{a v:ck}{c off n:Nat}{cs d:List V}(s:ops[k]?=J o)(l:o.op=.store t a v)(q:o.guard=aq)(m:e.eval a=.ptr (.box c) off)(u:(e.eval v).bP=J cs)(y:cQ P t=J n)(p:h.I[c]?=J d)(r:F cs=n)(g:off+n<=F d):
 ii P G R ops k e h=J (.tuple [],e,h.qg c (ej d off cs)):=by
 unfold ii;simp only[s];have x:fh ops e o=J aa:=by unfold fh;rw[q]
 simp only[x];have f:ev P G R e h o=(dP P G e.eval h (.store t a v)).map λ(z,h)=>(.ret z,e,h):=by unfold ev;rw[l]
 rw[f];simp only[dP];have:b9 P h t (e.eval a) (e.eval v)=J (h.qg c (ej d off cs)):=by unfold b9;simp only[m,u,y,p];rw[aH ⟨r,g⟩];rfl
 simp_all
def YP{n:Nat}(X:ww ops n=aa):∀(m:List Nat) {e e':Env} {h h':ah},(∀k∈m,k<ops.size/\oD ops k=.pure/\oB ops k n=aa)->∀rest,cB P G R ops (m++n::rest) e h=J (.normal,e',h')->cB P G R ops (n::(m++rest)) e h=J (.normal,e',h'):=by
 intro m
 induction m with
 |nil=>simp_all|cons k m ih=>
  intro e e' h h' v rest c;rw[eY,oc]at c;obtain⟨z0,d,u,hs,c⟩:=c;obtain⟨S,Y,f⟩:=v k gt;have c:=ih (λz1 T=>v z1 (gr _ T)) rest c;obtain⟨rfl,rfl,q⟩:=Rd Y hs;rw[oc]at c ⊢;obtain⟨x2,e2,h2,x,c⟩:=c;obtain⟨rfl,rfl,N,o,z2,a,z3,z4,off,z1,cs,fG,r,p,C,s,t,D,E,H,L,rfl⟩:=DG X x;have g:∀A∈o.op.operands,(d.put (i_ ops k) z0).eval A=d.eval A:=by
   intro A hz;cases A with
   |tmp z=>
    show(d.put (i_ ops k) z0).get z=d.get z;rw[Qj];split
    .rename_i Z;exfalso;unfold oB at f;have l:ops[k]?=J ops[k]:=kn S;rw[l,r]at f;simp only[bQ]at f;rw[zA l]at Z;have y:z∈o.looksAt ops:=(by unfold Oper.looksAt;exact LL _ (acE.2 ⟨.tmp z,by simp_all,O⟩));have u:=f.1;unfold Oper.apart at u;simp_all
    .rfl
   |_=>rfl
  rw[g a (by rw[p];simp[Op.operands])]at s;rw[g z3 (by rw[p];simp[Op.operands])]at t;refine⟨_,d,_,Rg r p C s t D E H L,?_⟩;rw[N]at c ⊢;show cB P G R ops (k::(m++rest)) d _=_;rw[oc];exact⟨z0,d,_,q d _ (λo ho z2 ht=>rfl),c⟩
def avC{n:Nat}(hi:ww ops i=aa)(hn:ww ops n=aa){e e':Env}{h h':ah}{bi bn:Nat}(l:pQ ops i e=J bi)(m:pQ ops n e=J bn)(q:bi≠bn)(rest:List Nat)(c:cB P G R ops (i::n::rest) e h=J (.normal,e',h')):cB P G R ops (n::i::rest) e h=J (.normal,e',h'):=by
 rw[oc]at c;obtain⟨z5,S,hh1,hs,c⟩:=c;obtain⟨rfl,rfl,z,o,z3,a,z4,z0,r,z2,cs,g,u,v,T,x,X,Y,Z,g8,g9,rfl⟩:=DG hi hs;rw[z]at c;replace c:cB P G R ops (n::rest) S (h.qg z0 (ej g r cs))=J (.normal,e',h'):=c;rw[oc]at c;obtain⟨x2,t,u_,A,c⟩:=c;obtain⟨rfl,rfl,s,o2,t2,a2,v2,N,f,m2,p,d,C,D,k3,E,k5,k6,k7,k8,k9,rfl⟩:=DG hn A;have q1:bi=z0:=by unfold pQ at l;rw[u]at l;simp only[v,x]at l;injection l with l;exact l.symm
 have q2:bn=N:=by unfold pQ at m;rw[C]at m;simp only[D,E]at m;injection m with m;exact m.symm
 subst q1;subst q2;have H:h.I[bn]?=J d:=by rw[<-k7];exact(TM (λz1=>q z1.symm)).symm
 have y:(h.qg bn (ej d f p)).I[bi]?=J g:=by rw[TM q];exact Z
 rw[oc];refine⟨_,t,_,Rg C D k3 E k5 k6 H k8 k9,?_⟩;rw[s];show cB P G R ops (i::rest) t _=_;rw[oc];refine⟨_,t,_,Rg u v T x X Y y g8 g9,?_⟩;rw[z];rw[s]at c;have L:(h.qg bn (ej d f p)).qg bi (ej g r cs)=(h.qg bi (ej g r cs)).qg bn (ej d f p):=by unfold ah.qg;simp only[List.set_comm _ _ q]
 simp_all
def ahU(H:C6 ops i=aa)(n:qE P G R ops e h i=aa)(g:mb P G R (gu ops i (ops.size-1)) e h=aa)(he:cB P G R ops (bT ops.size) e h=J (.normal,e',h'))(tp:Nat):
 ∃e2,cB P G R ops (Region.linearise .any ops tp) e h=J (.normal,e2,h')/\jA e2 e':=by
 unfold C6 at H;simp only[bQ,decide_eq_true_eq,ff,hy,oX]at H;obtain⟨k0,k1,t,Y,k4⟩:=H;obtain⟨c,Od⟩:∃c,ops.size-1=c:=⟨_,O⟩;have hn:c+1=ops.size:=by omega
 simp only[Od]at g Y k4;have f:cB P G R (gu ops i c) (bT (gu ops i c).size) e h=J (.normal,e',h'):=by rw[ql,AF];exact he
 have C:=aeG (Vb g);have m:=Yw C tp;rcases aoJ (i:=i) C hn af _ (λ_=>au) O O (λk o E hS=>by cases hS) m with zc|⟨pre,M1,l,S',q1,q7,q2,q3,q4,q5,q6⟩
 .obtain⟨e2,zX,p⟩:=Pt f (uO g) _ _ _ _ (Jp f) zc;rw[AF]at zX;simp_all
 .have A:∀k,k<ops.size/\k≠i/\k≠c/\S' k=au->k<ops.size/\oD ops k=.pure/\oB ops k c=aa:=by
   rintro k ⟨p1,p2,p3,p4⟩;rcases k4 k af with w|w|w
   .simp_all
   .have:=aeX k0 q3 c af q2 w p1;simp_all
   .refine⟨p1,?_,w.2⟩;have w1:=w.1;unfold ZT at w1;cases E:ops[k]? with|none=>simp_all|some o=>rw[E]at w1;simpa [oD,E] using w1
  rw[<-jx]at q6;obtain⟨S2,em,d,ev1,I1,L1⟩:=Yy f (uO g) (pre++M1) (i::(l++[c])) _ _ _ (Jp f) q6;obtain⟨l1,l2,l3,l4⟩:=L1;have al1:=XR f (uO g) I1 l1 l2 l3;obtain⟨z0,e2,h2,hs,v⟩:=next f (uO g) I1 l1 l2 l3
  have I9:ii P G R ops i em d=J (z0,e2,h2):=by have:=AF (P:=P) (G:=G) (R:=R) (ops:=ops) (i:=i) (j:=c) [i] em d;have h3:cB P G R (gu ops i c) [i] em d=J (.normal,e2.put (i_ (gu ops i c) i) z0,h2):=oc.2 ⟨z0,e2,h2,hs,O⟩;rw[this]at h3;obtain⟨x',e3,h4,I_,L⟩:=oc.1 h3;obtain⟨rfl,rfl,rg,o3,t3,a3,v3,c3,off3,m3,cs3,old3,z1,z2,z3,z4,z5,z6,z7,z8,z9,rfl⟩:=DG t I_;rw[rg]at L;simp only[cB,d_,dz,true_and]at L;obtain⟨r1,r2⟩:=L;have hx:z0=.tuple []/\e2=e3:=(by have hgE:(gu ops i c)[i]?=J o3:=(by rw[BO,z1,gc,aV af]);have hSt:ww (gu ops i c) i=aa:=(by unfold ww at t ⊢;rw[hgE];rw[z1]at t;exact t);obtain⟨y1,y2,-⟩:=DG hSt hs;exact⟨y1,y2⟩);rw[hx.1,hx.2,<-r2];exact I_
  obtain⟨rfl,rfl,hd,o,zd,a,ze,zb,off,u,cs,fG,g1,g2,g3,g4,g5,g6,g7,g8,g9,rfl⟩:=DG t I9;have hdE:i_ (gu ops i c) i=aq:=by unfold i_ at hd ⊢;rw[UW];exact hd
  rw[hdE]at v;replace v:Inv P G R (gu ops i c) e h (Region.before (gu ops i c)) (dO S2 i) e2 (d.qg zb (ej fG off cs)):=v;obtain⟨Sn,en,hhn,ev2,I3,L3⟩:=Yy f (uO g) l [c] _ _ _ v l4;obtain⟨T,D,p⟩:=Pt f (uO g) _ _ _ _ I3 L3;have aky:S2 c=au/\nt ops S2 c:=by
   refine⟨?_,?_⟩
   .have:∀(x:List Nat) (Z:Nat->Bool),nk (gu ops i c) Z x->∀u∈x,Z u=au:=by
     intro x
     induction x with
     |nil=>simp_all|cons a x S=>
      intro Z m u d;obtain⟨u1,u2,u3,u4⟩:=m;rcases hh.1 d with rfl|d
      .exact u2
      .have p2:=S _ u4 u d;unfold dO at p2;simp_all
    have:=this _ _ l4 c cE;unfold dO at this;simp_all
   .intro o' WR s zV X;have hS:S' s.on=aa:=q2 o' WR s zV X;have dD:s.on<c:=C c o' WR s zV X;cases hq:S2 s.on with
    |true=>rfl|false=>
     exfalso;have mem:∀(x:List Nat) (Z:Nat->Bool),nk (gu ops i c) Z x->∀u,u<ops.size->Z u=au->u∈x:=by
      intro x
      induction x with
      |nil=>intro Z m u d hSm;have:=m u (by rw[ql];exact d);simp_all
      |cons a x S=>
       intro Z m u d hSm;obtain⟨u1,u2,u3,u4⟩:=m;by_cases hma:u=a
       .simp_all
       .exact gr _ (S _ u4 u d (by unfold dO;simp_all))
     have qw:=mem (i::(l++[c])) S2 ⟨l1,l2,l3,l4⟩ s.on af hq
     grind
  have hrn:nt (gu ops i c) (dO S2 i) c:=wO (ready_mono aky.2 λj hj=>by unfold dO;simp_all) λ_=>by unfold dO;simp_all
  have al2:=XR f (uO g) v (k:=c) (by rw[ql];omega) (by unfold dO;grind) hrn;have stE:∀k,dj P G R (gu ops i c) e h k=dj P G R ops e h k:=λk=>by unfold dj;rw[AF]
  have put_congr:∀(k:Nat) (q r:Env),(∀o,(gu ops i c)[k]?=J o->Alike (gu ops i c) q r o)->pQ ops k q=pQ ops k r:=by
   intro k q r uY;unfold pQ;cases E:ops[k]? with
   |none=>rfl|some o'=>
    have hg:(gu ops i c)[k]?=J (if k=c then {o' with after:=o'.after.push {on:=i,ground:=.data}} else o'):=(by rw[BO,E];rfl);have hz:=En (uY _ hg);have N:∀za∈o'.op.operands,q.eval za=r.eval za:=by
     intro za hzm;refine hz za ?_
     grind
    show(match o'.op with| .store _ a _=>(match q.eval a with| .ptr (.box b) _=>J b|_=>aq)|_=>aq)=(match o'.op with| .store _ a _=>(match r.eval a with| .ptr (.box b) _=>J b|_=>aq)|_=>aq)
    revert N
    generalize o'.op=op;intro N;cases op with|store t' a' v'=>have:q.eval a'=r.eval a':=N a' (by simp[Op.operands]);simp_all|_=>rfl
  have X:∃y z,pQ ops i e2=J y/\pQ ops c e2=J z/\y≠z:=by
   unfold qE at n;rw[Od]at n;split at n
   .rename_i ei _ en _ r1 r2;have s1:(dj P G R ops e h i).1=ei:=(by unfold dj;rw[r1]);have s2:(dj P G R ops e h c).1=en:=(by unfold dj;rw[r2]);split at n
    .rename_i y z u1 u2;refine⟨y,z,?_,?_,?_⟩
     .grind
     .grind
     .rintro rfl;simp_all
    simp_all
   .grind
  obtain⟨y,z,b1,b2,b3⟩:=X;have t1:cB P G R ops (l++c::[]) e2 (d.qg zb (ej fG off cs))=J (.normal,T,h'):=by rw[CY];rw[AF]at ev2 D;exact⟨_,_,ev2,D⟩
  have t2:=YP Y l (λk hk=>A k (q5 k hk)) [] t1;rw[iB]at t2;have t3:cB P G R ops (i::c::l) e2 d=J (.normal,T,h'):=by rw[oc];refine⟨_,_,_,I9,?_⟩;rw[hd];exact t2
  have t4:=avC t Y b1 b2 b3 l t3;rw[AF,CY]at ev1;obtain⟨e0,h0,v1,v2⟩:=ev1;have t5:cB P G R ops (M1++c::(i::l)) e0 h0=J (.normal,T,h'):=CY.2 ⟨_,_,v2,t4⟩;have t6:=YP Y M1 (λk hk=>A k (q4 k hk)) _ t5;refine⟨T,?_,p⟩;rw[q1];exact CY.2 ⟨_,_,v1,t6⟩
def stores_cases{e:Env}{h:ah}(c:yC P G R ops e h=aa):∃i,i<ops.size/\C6 ops i=aa/\qE P G R ops e h i=aa/\mb P G R (gu ops i (ops.size-1)) e h=aa:=by unfold yC at c;simp_all
def stores_of{e:Env}{h:ah}{i:Nat}(c:i<ops.size)(d:C6 ops i=aa)(f:qE P G R ops e h i=aa)(g:mb P G R (gu ops i (ops.size-1)) e h=aa):yC P G R ops e h=aa:=by
 unfold yC
 grind
end
end Go.AE
end
section
namespace Go.AE
open Go.RowKit (Below)
section
variable {P:bL} {G:Nat->Option (List V)} {w0:b_} {R:Rec}
def au4{b:fj}{a:Act}{k:List Item}{cs:List fj}{w:b_}{c:Code}:step P (lone (b.atR a (.code (.scope c)::k)) cs w)=.next (lone (b.atR a (.code c::.inScope c::k)) cs w):=by rfl
def au3{b:fj}{a:Act}{k:List Item}{cs:List fj}{w:b_}{c:Code}:step P (lone (b.atR a (.inScope c::k)) cs w)=.next (lone (b.atR a k) cs w):=by rfl
def ni.aoY{K:bA}{m:Machine}{B:fj}{c:Code}{k:List Item}{cs:List fj}{x:Xt}{a:Act}{w:b_}(g:x≠ .normal)
 (h:ni P K m B (.inScope c::k) cs x a w):ni P K m B k cs x a w:=by
 cases x with
 |normal=>simp_all|exit id=>obtain⟨l,d,f⟩:=h;exact⟨l,d.trans O,f⟩
 |ret=>exact h|panic x=>exact h
def agY(hn:Bl P)(aku:P.follows .mixedOrders=aa)(H:uA P G w0 R):SK P G w0 (fQ P G R):=by
 intro z2 e h M e' h' c K w a B k m cs u n t x p;cases z2 with
 |skip=>simp only[fQ,d_,dz]at c;obtain⟨rfl,rfl,rfl⟩:=c;exact⟨K,w,a,cs,u,.refl n t x (.one stepR_skip)⟩
 |label z9=>simp only[fQ,d_,dz]at c;obtain⟨rfl,rfl,rfl⟩:=c;exact⟨K,w,a,cs,u,.refl n t x (.one stepR_label)⟩
 |region id ops draw=>
  simp only[codeOk]at p;cases draw with
  |false=>simp only[fQ,jw,if_false]at c;obtain⟨K',w',a',E,z1⟩:=Zg hn H _ _ _ _ _ _ c K w a B k m cs u n t x p;exact⟨K',w',a',E,u,.of_steps (.one stepR_region) z1⟩
  |true=>
   simp only[fQ,if_true,Option.filter_eq_some_iff]at c;obtain⟨zX,z5⟩:=c;have Xq:=stepR_region_draw (P:=P) (b:=B) (a:=a) (k:=k) (cs:=cs) (w:=w) (ops:=ops) (id:=id);have akP:Region.schedule (P.follows .mixedOrders) ops (w.tape w.drawn (.order B.fn id))=Region.linearise .any ops (w.tape w.drawn (.order B.fn id)):=(by simp only[Region.schedule,aku,Bool.true_or,if_true]);rw[akP]at Xq;obtain⟨e2,ake,Xm⟩:∃e2,cB P G R ops (Region.linearise .any ops (w.tape w.drawn (.order B.fn id))) e h=J (M,e2,h')/\jA e2 e':=by
    cases M with
    |normal=>
     rcases (oX _ _).mp z5 with Wv|iq
     .exact ahT zX Wv _
     .obtain⟨i,-,Fi,wj,hi3⟩:=stores_cases iq;exact ahU Fi wj hi3 zX _
    |panic z=>simp only[drawC,bQ]at z5;exact ahV z5.1 z5.2.1 z5.2.2 zX _|_=>cases z5
   obtain⟨K',w',a',E,z1⟩:=Zg hn H _ _ _ _ _ _ ake K {w with drawn:=w.drawn+1} a B k m cs u n t (x.drew _) p;exact⟨K',w',a',E,u,z1.le,z1.pU,z1.frame.same Xm,Xm.dg ▸ z1.cs,z1.size,z1.marks,z1.arr.of_steps (.one Xq)⟩
 |seq z z0=>
  simp only[codeOk,bQ]at p;simp only[fQ]at c;cases L:R.code z e h with
  |none=>simp_all|some z3=>
   obtain⟨o1,e1,h1⟩:=z3;rw[L]at c;obtain⟨l,g,q,f,d,L1⟩:=H.code z e h _ _ _ L K w a B (.code z0::k) m cs u n t x p.1;have start:=Steps.one (stepR_seq (P:=P) (b:=B) (a:=a) (k:=k) (cs:=cs) (w:=w) (x:=z) (y:=z0));by_cases r:o1=.normal
   .subst r;simp only at c;obtain⟨T,w2,a2,cs2,ms2,L2⟩:=H.code z0 e1 h1 _ _ _ c l g q B k m f d L1.frame L1.cs L1.pU (by rw[L1.size];grind);refine⟨T,w2,a2,cs2,ms2,L1.le.trans L2.le,L2.pU,L2.frame,L2.cs,L2.size.trans L1.size,λS hr=>?_,(L2.arr.of_steps L1.arr).of_steps start⟩;rcases L2.marks S hr with A|A
    .exact L1.marks S A
    .exact .inr λhm=>A (L1.le.md S hm)
   .have c:J (o1,e1,h1)=J (M,e',h'):=(by simp_all);simp only[d_,dz]at c;obtain⟨rfl,rfl,rfl⟩:=c;exact⟨l,g,q,f,d,L1.le,L1.pU,L1.frame,L1.cs,L1.size,L1.marks,(L1.arr.pass O r).of_steps start⟩
 |cond z3 z z0=>
  simp only[codeOk,bQ]at p;simp only[fQ]at c;have hv:=xK n.gM z3;split at c
  .rename_i A;rw[A]at hv;obtain⟨l,g,q,f,d,L1⟩:=H.code z e h _ _ _ c K w a B k m cs u n t x p.1;exact⟨l,g,q,f,d,L1.of_steps (.one (by have:=stepR_cond (P:=P) (b:=B) (k:=k) (cs:=cs) (w:=w) (x:=z) (y:=z0) hv.ig.1;simp_all))⟩
  .rename_i A;rw[A]at hv;obtain⟨l,g,q,f,d,L1⟩:=H.code z0 e h _ _ _ c K w a B k m cs u n t x p.2;exact⟨l,g,q,f,d,L1.of_steps (.one (by have:=stepR_cond (P:=P) (b:=B) (k:=k) (cs:=cs) (w:=w) (x:=z) (y:=z0) hv.ig.1;simp_all))⟩
  grind
 |block id z=>
  simp only[codeOk]at p;simp only[fQ]at c;cases L:R.code z e h with
  |none=>simp_all|some z3=>
   obtain⟨o1,e1,h1⟩:=z3;rw[L]at c;obtain⟨l,g,q,f,d,L1⟩:=H.code z e h _ _ _ L K w a B (.inBlock id::k) m cs u n t x p;have start:=Steps.one (stepR_block (P:=P) (b:=B) (a:=a) (k:=k) (cs:=cs) (w:=w) (id:=id) (c:=z));have Z:∀{o:Xt},ni P l (lone (B.atR a (.code z::.inBlock id::k)) cs w) B k f o q g->Left P G w0 K u B m (lone (B.atR a (.code (.block id z)::k)) cs w) k a.tmps.size o e1 h1 l g q f d:=λha=>
    ⟨L1.le,L1.pU,L1.frame,L1.cs,L1.size,L1.marks,ha.of_steps start⟩
   cases o1 with
   |normal=>simp only[d_,dz]at c;obtain⟨rfl,rfl,rfl⟩:=c;exact⟨l,g,q,f,d,Z (L1.arr.trans (.one stepR_inBlock))⟩
   |exit id'=>
    simp only at c;obtain⟨z6,h2,h3⟩:=L1.arr;split at c
    .rename_i N4;subst N4;simp only[d_,dz]at c;obtain⟨rfl,rfl,rfl⟩:=c;refine⟨l,g,q,f,d,Z (h3.trans (.one (stepR_exit (h2.trans ?_))))⟩;simp[exitTo]
    .rename_i N4;simp only[d_,dz]at c;obtain⟨rfl,rfl,rfl⟩:=c;refine⟨l,g,q,f,d,Z ⟨z6,h2.trans ?_,h3⟩⟩;simp[exitTo,Ne.symm N4]
   |ret=>simp only[d_,dz]at c;obtain⟨rfl,rfl,rfl⟩:=c;obtain⟨z6,h3⟩:=L1.arr;exact⟨l,g,q,f,d,Z ⟨z6,h3⟩⟩
   |panic z=>simp only[d_,dz]at c;obtain⟨rfl,rfl,rfl⟩:=c;obtain⟨z6,z4,h2,h3⟩:=L1.arr;exact⟨l,g,q,f,d,Z ⟨z6,z4,h2,h3⟩⟩
 |loop z=>
  have akC:codeOk a.tmps.size z=aa:=by simpa only[codeOk] using p
  simp only[fQ]at c;cases L:R.code z e h with
  |none=>simp_all|some z3=>
   obtain⟨o1,e1,h1⟩:=z3;rw[L]at c;obtain⟨l,g,q,f,d,L1⟩:=H.code z e h _ _ _ L K w a B (.inLoop z::k) m cs u n t x akC;have start:=Steps.one (stepR_loop (P:=P) (b:=B) (a:=a) (k:=k) (cs:=cs) (w:=w) (c:=z));by_cases r:o1=.normal
   .subst r;simp only at c;obtain⟨T,w2,a2,cs2,ms2,L2⟩:=H.code (.loop z) e1 h1 _ _ _ c l g q B k m f d L1.frame L1.cs L1.pU (by rw[L1.size];omega);have ND:=ni.swap (c:=.loop z) (m':=lone (B.atR q (.inLoop z::k)) f g) (λ_=>by simp) cE O stepR_loop stepR_inLoop L2.arr;refine⟨T,w2,a2,cs2,ms2,L1.le.trans L2.le,L2.pU,L2.frame,L2.cs,L2.size.trans L1.size,λS hr=>?_,(ND.of_steps L1.arr).of_steps start⟩;rcases L2.marks S hr with A|A
    .exact L1.marks S A
    .exact .inr λhm=>A (L1.le.md S hm)
   .have c:J (o1,e1,h1)=J (M,e',h'):=(by simp_all);simp only[d_,dz]at c;obtain⟨rfl,rfl,rfl⟩:=c;exact⟨l,g,q,f,d,L1.le,L1.pU,L1.frame,L1.cs,L1.size,L1.marks,(L1.arr.pass O r).of_steps start⟩
 |scope z=>
  simp only[codeOk]at p;simp only[fQ]at c;obtain⟨l,g,q,f,d,L1⟩:=H.code z e h _ _ _ c K w a B (.inScope z::k) m cs u n t x p;have start:=Steps.one (au4 (P:=P) (b:=B) (a:=a) (k:=k) (cs:=cs) (w:=w) (c:=z));by_cases r:M=.normal
  .subst r;exact⟨l,g,q,f,d,L1.le,L1.pU,L1.frame,L1.cs,L1.size,L1.marks,(show ni P l _ B k f .normal q g from L1.arr.trans (.one au3)).of_steps start⟩
  .exact⟨l,g,q,f,d,L1.le,L1.pU,L1.frame,L1.cs,L1.size,L1.marks,(L1.arr.aoY r).of_steps start⟩
 |exit id=>simp only[fQ,d_,dz]at c;obtain⟨rfl,rfl,rfl⟩:=c;exact⟨K,w,a,cs,u,.refl n t x ⟨k,O,.refl P _⟩⟩
 |ret=>simp only[fQ,d_,dz]at c;obtain⟨rfl,rfl,rfl⟩:=c;exact⟨K,w,a,cs,u,.refl n t x ⟨k,.refl P _⟩⟩
 |rangeFunc z7 ps assign body=>
  simp only[codeOk,bQ]at p;obtain⟨⟨Cp,WT⟩,WU⟩:=p;have Cp:=ant Cp;simp only[fQ]at c;split at c
  .rename_i z8 first ba zX
   have OM:=xK n.gM z7;rw[zX]at OM;have enter:∃(D:Nat) (mark:List Deferred) (l:bA) (g:b_) (d:List Nat),(Instr.enterLoop B.fn a.tmps ps assign body B.roundOf).run P w=.ok (D,mark) g/\K.Le l/\
    jB P G w0 l {h with aI:=h.aI++[{tmps:=e.tmps,params:=ps,assign,body,state:=.ready,pending:=aq}]} g/\l.γ[F h.aI]?=J D/\
    mO P l e {a with defers:=mark++a.defers} B d/\∀S∈d,S∈u∨S∉K.md:=by
    have Y:∀z2,codeOk a.tmps.size z2=aa->CW P B.fn a.tmps.size z2=aa:=λz2 hc=>(by unfold CW;rw[hc,n.fn];rfl);have v:=n.round;cases rP:e.round with
    |none=>
     rw[rP]at v;simp only at v;have Fq:w.heap.size∉K.md:=λA=>absurd (pO (x.md _ A).2) (Nat.lt_irrefl _);have s1:=x.anJ;have y:=K.Yp w.heap.size;obtain⟨s2,hγ⟩:=s1.YW (r:={tmps:=e.tmps,params:=ps,assign,body,state:=.ready,pending:=aq}) (fn:=B.fn) w.heap.size (n.gM.mono y) (Y _ WT) (Y _ WU) Cp;have s:=(K.mark w.heap.size).Pi (w.alloc (.deferred (J []))).heap.size;refine⟨_,_,_,_,w.heap.size::u,by rw[v];exact run_enterLoop_outer _ _ _ _ _,y.trans s,s2,?_,?_,?_⟩
     .simp_all
     .have Cd:=n.mono (y.trans s);refine⟨Cd.gM,?_,?_,n.fn⟩
      .refine .mark _ _ _ _ (by simp[bA.loop,bA.mark]) (λA=>Fq (n.defers.sub _ A)) Cd.defers
      simp_all
     simp_all
    |some z9=>
     rw[rP]at v;obtain⟨D,N,hb,akk,hd,hm,zV⟩:=v;have gU:z9<F h.aI:=(by rw[<-x.mM];exact(bk.1 N).1);obtain⟨k1,fn,tmps,za,k2,-⟩:=x.loop z9 D _ N (aY gU);obtain⟨s2,hγ⟩:=x.YW (r:={tmps:=e.tmps,params:=ps,assign,body,state:=.ready,pending:=aq}) (fn:=B.fn) za n.gM (Y _ WT) (Y _ WU) Cp;have s:=K.Pi w.heap.size;refine⟨_,[],_,_,u,?_,s,s2,hγ,?_,λS hr=>.inl hr⟩
     .rw[hb];unfold Instr.enterLoop;simp only[Sem.run_bind,run_getLoop k2,run_newObj_alloc,Result.andThen,Sem.run_pure]
     .have Cd:=n.mono s;exact⟨Cd.gM,Cd.defers,by rw[rP];exact⟨D,s.γ _ _ N,hb,akk,hd,hm,zV⟩,n.fn⟩
   obtain⟨D,mark,l,g,d,IG,y,s1,hγ,f1,X⟩:=enter;generalize hqv:a.eval z7=qv at OM;cases OM with
   |func _ _ _ fs E g1 g2=>
    cases IB:R.call z8 (first++[.yield (F h.aI)]++ba) {h with aI:=h.aI++[{tmps:=e.tmps,params:=ps,assign,body,state:=.ready,pending:=aq}]} with
    |none=>simp_all|some z3=>
     obtain⟨S,h2⟩:=z3;rw[IB]at c;obtain⟨⟨fnn,Fh,Cb⟩,hc⟩:=H.call _ _ _ _ _ IB;have iV:aR l (first++[.yield (F h.aI)]++ba) (fs++#[Value.func (.yield D) #[] #[]]++E).toList:=(by simp only[A1];exact((g1.mono y).append (.cons _ _ _ _ (.yield _ _ hγ) .nil)).append (g2.mono y));obtain⟨T,w2,fr,s,s2,iq,-,N⟩:=hc l g _ iV s1 (B.atR {a with defers:=mark++a.defers} (.inRangeFunc D::k)::cs);have OE:=stepR_rangeFunc (P:=P) (b:=B) (a:=a) (k:=k) (cs:=cs) (w:=w) (g:=z7) (ps:=ps) (assign:=assign) (body:=body) (l:=D) (mark:=mark) (w₁:=g) (w₁':=g) (w₂:=g) (d:={target:=.fn (.func z8) E,args:=fs++#[Value.func (.yield D) #[] #[]]}) (f:=z8) (args:=fs++#[Value.func (.yield D) #[] #[]]++E) IG
      (by have aj7:∀z4,a.eval (.const z4)=z4:=λ_=>rfl;simp[resolve,rangeCall,hqv,Deferred.ofValue,aj7]) (by simp only[invoke];exact QS hn Fh Cb _ _)
     have start:=Steps.head OE iq;have f2:=f1.mono s;have c2:CS T B.kind m e.dg cs:=t.mono (y.trans s);cases S with
     |panic z=>simp only[d_,dz]at c;obtain⟨rfl,rfl,rfl⟩:=c;obtain⟨z4,L,N⟩:=N;refine⟨T,w2,_,cs,d,y.trans s,s2,f2,c2,O,X,.inRangeFunc D::k,z4,L,start.trans (.one ?_)⟩;rw[step_leave_panicked N,Frame.raise_atR]
     |ret z=>
      obtain⟨z4,L,N⟩:=N;have back:=start.trans (.one (step_leave_returned N));rw[finish_atR_inRangeFunc]at back;simp only at c;split at c
      .rename_i S hr;split at c
       .cases c
       .rename_i ax7;obtain⟨mm,m1,m2,m3,-,-,-,-,-,-,-,s3⟩:=s2.fV (s.γ _ _ hγ) hr .exhausted S.pending;have zW:=run_endLoop (P:=P) m1 (by simp_all);have IH:({mm with state:=.exhausted,pending:=S.pending}:Loop)={mm with state:=.exhausted}:=(by grind);rw[IH]at s3;have akc:(Instr.endLoop D).run P w2=.ok S.pending (w2.putObj D (.loop {mm with state:=.exhausted})):=(by rw[<-m3];exact zW);have C:=back.trans (.one (stepR_endRangeFunc akc));cases hp:S.pending with
        |none=>rw[hp]at c C s3;simp only[d_,dz]at c;obtain⟨rfl,rfl,rfl⟩:=c;exact⟨T,_,_,cs,d,y.trans s,s3,f2,c2,O,X,C⟩
        |some code=>
         rw[hp]at c C s3;cases code with
         |ret=>simp only[d_,dz]at c;obtain⟨rfl,rfl,rfl⟩:=c;exact⟨T,_,_,cs,d,y.trans s,s3,f2,c2,O,X,k,C⟩
         |exit id=>simp only[d_,dz]at c;obtain⟨rfl,rfl,rfl⟩:=c;exact⟨T,_,_,cs,d,y.trans s,s3,f2,c2,O,X,k,O,C⟩
         |_=>cases c
      grind
  grind
 |_=>simp[fQ]at c
end
end Go.AE
end
