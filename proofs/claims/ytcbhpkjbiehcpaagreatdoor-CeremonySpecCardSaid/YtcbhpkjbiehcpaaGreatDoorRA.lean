/-
  The engine, part 1: an evaluator of the model's Code over values in which a slice is a list. No claim is made here; part 2 and on show that what it gives the machine does.
-/
import Derived.AtR
import Derived.Recover
import Derived.Below
import Derived.Orders
import Derived.Laws.AppendOwn
import Derived.Laws.Cells
import Derived.Laws.Entries
import Derived.Laws.MakeOwn
import Derived.Laws.Strings
import Derived.Laws.Append
import Derived.Lib.AppendZeros
import Derived.Defers
import Derived.RangeFuncRecord
open Bool renaming true->V,false->ai,false_eq_true->jo,and_eq_true->bm,not_eq_true'->Ca,not_false->zD,or_eq_true->nU,not_true->ZK,false_or->Fc
open Go renaming Value->aG,TypeId->aC,Program->bj,FuncId->aQ,Operand->bP,World->bO,Frame->ex
open Option renaming some->J,none->af,map_eq_some_iff->dg,bind_eq_some_iff->wd,isSome_iff_exists->aaX,map->zP,isNone_some->Fw,map_some->fk,some.injEq->dt,getD_some->zO
open Nat renaming beq->gX,min->nx,le_refl->aV,le_trans->eS,lt_of_lt_of_le->l_,add_mul->jh,add_zero->xA,mul_le_mul_right->ma,zero_add->nX,mul_eq_zero->aaN,zero_mul->J1,not_lt_zero->mY,reducePow->aaT,zero_le->bV,sub_mul->JZ,mul_pos->JV,pos_of_ne_zero->aaQ,lt_or_ge->dp,one_ne_zero->Qh,mul_one->jC,eq_of_beq_eq_true->kU,lt_succ_iff->zM,lt_trans->nW,le_of_lt->mz,lt_of_le_of_ne->aaK,le_zero->aaJ,mod_lt->jU,strongRecOn->JY
open List renaming length->F,replicate->bB,range->bZ,getElem?_eq_some_iff->aS,getElem?_eq_getElem->aN,getElem?_take->mr,getElem?_set->kQ,take_of_length_le->fR,getElem?_append_left->qn,flatten_cons->jA,drop_append->xv,drop_of_length_le->mW,length_take->cR,length_cons->dY,set_eq_take_append_cons_drop->xz,take_append->JN,all_eq_true->eF,ext_getElem?->nV,mem_of_getElem?->cU,map_cons->eD,cons.injEq->P2,map_map->zK,getElem?_toArray->iG,flatten_append->oi,map_append->jB,flatten_nil->aah,append_nil->ga,mem_of_mem_take->xy,take_nil->aaC,drop_nil->aaf,mem_map->iV,length_map->br,cons_append->eu,nil_append->dM,range_succ->jT,length_drop->ev,mem_range->hy,getElem?_cons_zero->iF,getElem?_cons_succ->jS,size_toArray->JM,take_append_of_le_length->Qb,mem_cons_of_mem->gj,length_append->cg,append_assoc->iE,getElem?_append_right->v_,toArray_inj->JP,map_congr_left->Cl,mem_append_left->JK,mem_filterMap->aas,range_zero->aau,countP_eq_zero->aab,reverse_nil->aaw,mem_filter->uA,reverse_singleton->aax,singleton_append->aaB,countP_le_length->aac,mem_cons_self->gx,mem_cons->gL
open Array renaming getElem?_eq_getElem->jz,getElem?_modify->B8,toList_setIfInBounds->Zy,toList_map->B_,getElem?_toList->Fb,all_eq_true'->E_,range->vQ,getElem?_eq_some_iff->Jh,replicate->xq,size_append->B9,toList_append->vR,ext'->Jg,length_toList->hW,getElem?_setIfInBounds->Py,map->Ji,all_eq_true->zC,getElem_of_mem->Pz,getElem_mem->Zu,getD_eq_getD_getElem?->E',getElem?_replicate->Px
open Prod renaming mk.inj->eW,mk.injEq->cL
set_option linter.unusedSimpArgs false
set_option linter.unusedVariables false
set_option linter.constructorNameAsVariable false
set_option linter.defProp false
namespace Go
def M{p:Prop}(h:p:=by omega):p:=h
def b7{p:Prop}(h:p:=by simp):p:=h
def aY{p:Prop}(h:p:=by decide):p:=h
def avn{p:Prop}(h:p:=by simp;omega):p:=h
def O.{u}{α:Sort u}{a:α}:a=a:=rfl
def avo{p:Prop}(h:p:=by first|exact trivial|exact rfl):p:=h
def bD{p:Prop}(h:p:=by kernel_rfl):p:=h
def aP.{u}{c:Prop}{h:Decidable c}(q:¬c){α:Sort u}{t e:α}:ite c t e=e:=if_neg q
def av.{u}{c:Prop}{h:Decidable c}(q:c){α:Sort u}{t e:α}:ite c t e=t:=if_pos q
def bQ{p:Prop}[Decidable p](q:p):decide p=V:=decide_eq_true q
def b_{p:Prop}[Decidable p](q:¬p):decide p=ai:=decide_eq_false q
end Go
section
namespace Go.AE
inductive Tok where
 |nil|tight|free (n:Nat)|held
 deriving DecidableEq,Inhabited
inductive Ref where
 |box (b:Nat)|dB (g:Nat)
 deriving DecidableEq,Inhabited
inductive U where
 |bad
 |v (x:aG)
 |list (k:Tok) (sz:Nat) (es:List (List U))
 |arr (b off len aR:Nat)
 |agg (cs:List U)
 |tuple (vs:List U)
 |ptr (r:Ref) (off:Nat)
 |elem (sz:Nat) (es:List (List U)) (i off:Nat)
 |func (fn:Fn) (first aR:List U)
 |yield (l:Nat)
 |iface (t:aC) (x:U)
 deriving Inhabited
def cV{α:Type}(P:bj):Sem α->Option α
 | .pure a=>J a
 | .program k=>cV P (k P)
 | .mark _ k=>cV P k
 |_=>af
def scalar:aG->Bool
 | .bool _| .int .. | .float .. | .complex .. | .string _| .nilFunc| .nilIface| .pointer af| .map af| .chan af=>V
 |_=>ai
def iU(z:aG):Option U:=if scalar z then J (.v z) else af
def U.cW:U->Bool
 | .agg _| .tuple _| .bad=>ai
 |_=>V
def U.bG:U->Option (List U)
 | .agg cs=>if cs.all U.cW then J cs else af
 | .tuple _| .bad=>af
 |x=>J [x]
def rJ(x:aG):U:=
 match x with
 | .slice af 0 0=>.list .nil 0 []
 |x=>if scalar x then .v x else .bad
def oB:aG->U
 | .agg cs=>.agg (cs.toList.map rJ)
 | .tuple c=>if c.size=0 then .tuple [] else .bad
 | .iface d x=>.iface d (rJ x)
 |x=>rJ x
def tj:List U->Option (List aG)
 | []=>J []
 | .v d::c=>(tj c).map (d::·)
 |_=>af
def U.flat:U->Option aG
 | .v f=>J f
 | .agg cs=>(tj cs).map λc=>.agg c.toArray
 | .iface d (.v f)=>J (.iface d f)
 | .iface d (.agg cs)=>(tj cs).map λc=>.iface d (.agg c.toArray)
 | .list .nil _ []=>J (.slice af 0 0)
 |_=>af
def flatAll:List U->Option (List aG)
 | []=>J []
 |x::d=>match x.flat,flatAll d with|some f,J c=>J (f::c)|_,_=>af
def gH:aG->aG->Bool
 | .int k f,.int c d=>decide (k=c)&&decide (f=d)
 | .bool a,.bool b=>a==b
 | .string g,.string l=>g.data.toList==l.data.toList
 | .nilFunc,.nilFunc| .nilIface,.nilIface| .pointer af,.pointer af=>V
 |_,_=>ai
def IM:Ref->Ref->Bool
 | .box a,.box b| .dB a,.dB b=>gX a b
 |_,_=>ai
def qU:Tok->Tok->Bool
 | .nil,.nil| .tight,.tight| .held,.held=>V
 | .free a,.free b=>gX a b
 |_,_=>ai
mutual
def cH:U->U->Bool
 | .v y,.v z=>gH y z
 | .list k p m,.list t f c=>qU k t&&gX p f&&ml m c
 | .arr b o u A,.arr g d n r=>gX b g&&gX o d&&gX u n&&gX A r
 | .agg cs,.agg l=>fL cs l
 | .tuple cs,.tuple l=>fL cs l
 | .ptr E o,.ptr v d=>IM E v&&gX o d
 | .elem p m i o,.elem f c s d=>gX p f&&gX i s&&gX o d&&ml m c
 | .yield u,.yield n=>gX u n
 | .iface H y,.iface x z=>gX H x&&cH y z
 | .func (.func C) a b,.func (.func D) q g=>gX C D&&fL a q&&fL b g
 |_,_=>ai
def fL:List U->List U->Bool
 | [],[]=>V
 |x::c,f::d=>cH x f&&fL c d
 |_,_=>ai
def ml:List (List U)->List (List U)->Bool
 | [],[]=>V
 |x::c,f::d=>fL x f&&ml c d
 |_,_=>ai
end
structure nA where
 ch:List (Nat × U)
 base:List U
 deriving Inhabited
def look(c:List U):List (Nat × U)->Nat->U
 | [],d=>c.getD d (.tuple [])
 |p::f,d=>bif gX p.1 d then p.2 else look c f d
def nA.get(s:nA)(t:Nat):U:=look s.base s.ch t
def nA.set(s:nA)(t:Nat)(x:U):nA:={s with ch:=(t,x)::s.ch}
structure gM where
 tmps:nA
 params:Array Tmp
 assign:Code
 body:Code
 state:LoopState
 pending:Option Code
 deriving Inhabited
structure Heap where
 boxes:List (List U)
 loops:List gM
 tn:Nat
 dead:List Nat
 deriving Inhabited
structure Env where
 tmps:nA
 defers:List (aQ × List U)
 cC:Option (U × Bool)
 round:Option Nat
 deriving Inhabited
inductive Xt where
 |normal
 |exit (id:Nat)
 |ret
 |panic (x:U)
 deriving Inhabited
inductive dO where
 |ret (x:U)
 |panic (x:U)
 deriving Inhabited
def Env.get(e:Env)(t:Nat):U:=e.tmps.get t
def Env.put(e:Env)(c:Option Tmp)(x:U):Env:=
 match c with
 |some d=>{e with tmps:=e.tmps.set d x}
 |none=>e
def afZ(tmps:nA):bP->U
 | .tmp f=>tmps.get f
 | .const g=>oB g
 | .global d=>.ptr (.dB d) 0
 | .func c=>.func (.func c) [] []
def Env.eval(e:Env)(x:bP):U:=afZ e.tmps x
section
variable (P:bj)
def cB(t:aC):Option Nat:=(P.info? t).map (·.size)
def fx(t:aC):Option Bool:=
 match P.underlying t with
 |some (.struct _)|some (.array _ _)=>J V
 |some _=>J ai
 |none=>af
def fM(t:aC):Option U:=
 match P.info? t with
 |some i=>i.zero.map oB
 |none=>af
def Ek(t:aC)(cs:List U)(off:Nat):Option U:=
 match fx P t with
 |some V=>(cB P t).map λc=>.agg ((cs.drop off).take c)
 |some ai=>cs[off]?
 |none=>af
end
def Heap.box(h:Heap)(cs:List U):U × Heap:=(.ptr (.box (F h.boxes)) 0,{h with boxes:=h.boxes++[cs]})
def Heap.fresh(h:Heap)(sz:Nat)(es:List (List U)):U × Heap:=(.list (.free h.tn) sz es,{h with tn:=h.tn+1})
def Oe(G:Nat->Option (List U))(h:Heap):Ref->Option (List U)
 | .box b=>h.boxes[b]?
 | .dB c=>G c
def xQ(G:Nat->Option (List U))(h:Heap):U->Option (List U)
 | .ptr f c=>(Oe G h f).map (·.drop c)
 | .elem _ d i c=>(d[i]?).map (·.drop c)
 |_=>af
def aD(P:bj)(G:Nat->Option (List U))(h:Heap)(t:aC)(a:U):Option U:=
 match fx P t,xQ G h a with
 |some V,J cs=>
  match cB P t with
  |some c=>if c<=F cs then J (.agg (cs.take c)) else af
  |none=>af
 |some ai,J cs=>cs.head?
 |_,_=>af
def dC(c:List U)(off:Nat)(cs:List U):List U:=c.take off++cs++c.drop (off+F cs)
def bY(P:bj)(h:Heap)(t:aC)(a x:U):Option Heap:=
 match a,x.bG,cB P t with
 | .ptr (.box b) c,J cs,J f=>
  match h.boxes[b]? with
  |some d=>if F cs=f/\c+f<=F d then J {h with boxes:=h.boxes.set b (dC d c cs)} else af
  |none=>af
 |_,_,_=>af
def qB(c:Nat->Option (Nat × Nat))(cells:List U):List (Nat × U)->Option (List U)
 | []=>J cells
 |(i,g)::rest=>
  match c i,g.bG with
  |some (f,d),J cs=>if F cs=d/\f+d<=F cells then qB c (dC cells f cs) rest else af
  |_,_=>af
def wG(sz:Nat)(rows:List (List U)):List (Nat × U)->Option (List (List U))
 | []=>J rows
 |(i,c)::rest=>
  match c.bG with
  |some cs=>if F cs=sz/\i<F rows then wG sz (rows.set i cs) rest else af
  |none=>af
def placesOf(P:bj)(fields:Array Field)(i:Nat):Option (Nat × Nat):=
 match fields[i]? with
 |some c=>(cB P c.type).map λd=>(c.offset,d)
 |none=>af
def iy(P:bj)(t:aC)(parts:List (Nat × U)):Option U:=
 match P.underlying t,(fM P t).bind U.bG with
 |some (.struct fields),J zero=>
  if fields.all λd=>(P.info? d.type).isSome then (qB (placesOf P fields) zero parts).map .agg else af
 |some (.array _ elem),J zero=>
  match cB P elem with
  |some c=>(qB (λi=>J (i*c,c)) zero parts).map .agg
  |none=>af
 |_,_=>af
def ff(P:bj)(t:aC)(len:Nat)(parts:List (Nat × U)):Option U:=
 match P.underlying t with
 |some (.slice elem)=>
  match cB P elem,(fM P elem).bind U.bG with
  |some c,J zero=>
   if 0<c/\F zero=c/\len*c<=16777216 then (wG c (bB len zero) parts).map (.list .tight c) else af
  |_,_=>af
 |_=>af
def vj(P:bj)(h:Heap)(t:aC)(l c:U):Option (U × Heap):=
 match P.underlying t,l,c with
 |some (.slice elem),.v (.int _ l),.v (.int _ c)=>
  match P.info? elem,(fM P elem).bind U.bG with
  |some i,J zero=>
   if 0<=l/\l<=c/\c<9223372036854775808/\i.bytes*c<=281474976710656/\0<i.size/\F zero=i.size then
    J (.arr (F h.boxes) 0 l.toNat c.toNat,{h with boxes:=h.boxes++[(bB c.toNat zero).flatten]})
   else af
  |_,_=>af
 |_,_,_=>af
def rowsOf(h:Heap)(size:Nat):U->Option (List (List U))
 | .list _ f d=>if f=size∨d=[] then J d else af
 | .arr b c len _=>
  match h.boxes[b]? with
  |some cs=>if c+len*size<=F cs then J ((bZ len).map λi=>(cs.drop (c+i*size)).take size) else af
  |none=>af
 |_=>af
def ie(b:UInt8):List U:=[.v (.int .u8 b.toNat)]
def byteOf:List U->Option UInt8
 | [.v (.int .u8 c)]=>J (UInt8.ofNat c.toNat)
 |_=>af
def bytesOf:List (List U)->Option (List UInt8)
 | []=>J []
 |r::rest=>match byteOf r,bytesOf rest with|some b,J c=>J (b::c)|_,_=>af
def jx(h:Heap)(size:Nat):U->Option (List (List U))
 | .v (.string c)=>if size=1 then J (c.data.toList.map ie) else af
 |x=>rowsOf h size x
def alive(h:Heap)(n:Nat):Bool:=decide (n<h.tn)&& !h.dead.contains n
def Je(P:bj)(h:Heap)(ts:Array aC)(elem:aC)(s x:U):Option (U × Heap):=
 match s,x with
 | .list .nil _ [],.v (.int _ c)=>
  match P.info? elem,(fM P elem).bind U.bG with
  |some i,J zero=>
   if ts.size=2/\0<c/\c*i.bytes<=140737488355328/\c<=9223372036854775807/\0<i.size/\F zero=i.size then
    J (.arr (F h.boxes) 0 c.toNat c.toNat,{h with boxes:=h.boxes++[(bB c.toNat zero).flatten]})
   else af
  |_,_=>af
 |_,_=>af
def gb(P:bj)(h:Heap)(ts:Array aC)(s x:U):Option (U × Heap):=
 match (ts[0]?).bind P.underlying,(ts[1]?).bind P.underlying with
 |some (.slice elem),J (.int _)=>Je P h ts elem s x
 |some (.slice elem),J _=>
  match P.info? elem with
  |none=>af
  |some i=>
   match jx h i.size x with
   |none=>af
   |some new=>
    if 0<i.size/\(i.zero.map λm=>m.cells.size)=J i.size then
     match s with
     | .list k g d=>
      if g=i.size∨d=[] then
       if new=[] then J (s,h)
       else if (F d+F new)*i.bytes<=140737488355328/\F d+F new<=9223372036854775807 then
        match k with
        | .nil| .tight=>J (h.fresh i.size (d++new))
        | .free l=>if alive h l&&decide (g=i.size) then J ({h with dead:=l::h.dead}.fresh i.size (d++new)) else af
        | .held=>af
       else af
      else af
     | .arr b f len c=>
      match h.boxes[b]? with
      |some cs=>
       if len+F new<=c/\f+c*i.size<=F cs then
        J (.arr b f (len+F new) c,{h with boxes:=h.boxes.set b (dC cs (f+len*i.size) new.flatten)})
       else af
      |none=>af
     |_=>af
    else af
 |_,_=>af
def EY(G:Nat->Option (List U))(d:Option Tmp)(t:aC):Bool:=(G (1000000+1000*t+d.getD 0)).isSome
def lU(P:bj)(h:Heap)(ts:Array aC)(s x:U):Option (U × Heap):=
 match (ts[0]?).bind P.underlying,(ts[1]?).bind P.underlying with
 |some (.slice _),J (.int _)=>af
 |some (.slice elem),J _=>
  match P.info? elem with
  |none=>af
  |some i=>
   match jx h i.size x with
   |none=>af
   |some new=>
    if 0<i.size/\(i.zero.map λl=>l.cells.size)=J i.size then
     match s with
     | .list k g c=>
      if g=i.size∨c=[] then
       if new=[] then J (s,h)
       else if (F c+F new)*i.bytes<=140737488355328/\F c+F new<=9223372036854775807 then
        match k with
        | .nil| .tight=>J (.arr (F h.boxes) 0 (F c+F new) (F c+F new),{h with boxes:=h.boxes++[(c++new).flatten]})
        |_=>af
       else af
      else af
     | .arr b f len d=>
      match h.boxes[b]? with
      |some cs=>
       if len+F new<=d then gb P h ts s x
       else if f=0/\0<len/\len=d/\len*i.size=F cs/\(len+F new)*i.bytes<=140737488355328/\len+F new<=9223372036854775807 then
        J (.arr (F h.boxes) 0 (len+F new) (len+F new),{h with boxes:=h.boxes.set b []++[cs++new.flatten]})
       else af
      |none=>af
     |_=>af
    else af
 |_,_=>af
def wr(P:bj)(h:Heap)(ts:Array aC)(d s:U):Option (U × Heap):=
 match (ts[0]?).bind P.underlying with
 |some (.slice elem)=>
  match P.info? elem,d with
  |some i,.arr b f len g=>
   match jx h i.size s,h.boxes[b]? with
   |some c,J cs=>
    if f+len*i.size<=F cs/\len<=g then
     J (.v (.int .i64 (nx (F c) len:Nat)),{h with boxes:=h.boxes.set b (dC cs f (c.take (nx (F c) len)).flatten)})
    else af
   |_,_=>af
  |_,_=>af
 |_=>af
def dK(P:bj)(t:aC)(x:U):Option U:=
 match P.underlying t,x with
 |some .string,.v (.string f)=>J (.v (.int .i64 f.size))
 |some (.array d _),_=>J (.v (.int .i64 d))
 |some (.pointer a),_=>match P.underlying a with|some (.array d _)=>J (.v (.int .i64 d))|_=>af
 |some (.slice _),.list _ _ c=>J (.v (.int .i64 (F c)))
 |some (.slice _),.arr _ _ len _=>J (.v (.int .i64 len))
 |_,_=>af
def Ad(P:bj)(t:aC)(x:U):Option U:=
 match P.underlying t,x with
 |some (.slice _),.list .tight _ c=>J (.v (.int .i64 (F c)))
 |some (.slice _),.list .nil _ c=>J (.v (.int .i64 (F c)))
 |some (.array d _),_=>J (.v (.int .i64 d))
 |_,_=>af
def fT(hi:Nat):Option U->Nat->Option Nat
 |none,d=>J d
 |some (.v (.int _ c)),_=>if 0<=c/\c<=hi then J c.toNat else af
 |_,_=>af
def pK(k:Tok)(c Nq:Bool)(n:Nat):Tok:=
 match k with
 | .nil=>.nil
 | .tight=>if c||Nq then .tight else .held
 | .free d=>if Nq then .tight else if c&&n !=0 then .free d else .held
 | .held=>if Nq then .tight else .held
def gi(P:bj)(t:aC)(x:U)(lo hi mx:Option U):Option U:=
 if mx.isSome&&hi.isNone then af else
 match P.underlying t,x with
 |some .string,.v (.string q)=>
  if mx.isSome then af else
  match fT q.size hi q.size with
  |some h=>match fT h lo 0 with
   |some f=>J (.v (.string (q.extract f h)))
   |none=>af
  |none=>af
 |some (.slice elem),.list k n g=>
  match cB P elem,fT (F g) mx (F g) with
  |some c,J l=>match fT l hi (F g) with
   |some h=>match fT h lo 0 with
    |some f=>
     if c=n∨g=[] then J (.list (pK k (decide (h=F g)&&mx.isNone) (mx.isSome&&decide (h=l)) (h-f)) n ((g.take h).drop f)) else af
    |none=>af
   |none=>af
  |_,_=>af
 |some (.slice elem),.arr b d len m=>
  match cB P elem,fT m mx m with
  |some c,J l=>match fT l hi len with
   |some h=>match fT h lo 0 with
    |some f=>if c=0 then af else if mx.isSome/\l=f then J (.list .tight c []) else J (.arr b (if l=f then d else d+f*c) (h-f) (l-f))
    |none=>af
   |none=>af
  |_,_=>af
 |some (.array p elem),.ptr (.box b) d=>
  match cB P elem,fT p mx p with
  |some c,J l=>match fT l hi p with
   |some h=>match fT h lo 0 with
    |some f=>J (.arr b (if l=f then d else d+f*c) (h-f) (l-f))
    |none=>af
   |none=>af
  |_,_=>af
 |_,_=>af
def dQ(P:bj)(s:aC)(x:U)(f:Nat):Option U:=
 match P.underlying s with
 |some (.struct fields)=>
  match fields[f]? with
  |some d=>
   match cB P d.type with
   |some 0=>af
   |some _=>match x with
    | .ptr m c=>J (.ptr m (c+d.offset))
    | .elem l g i c=>J (.elem l g i (c+d.offset))
    |_=>af
   |none=>af
  |none=>af
 |_=>af
def dH(P:bj)(t:aC)(x ix:U):Option U:=
 match P.underlying t,x,ix with
 |some (.slice elem),.list _ g f,.v (.int _ i)=>if 0<=i/\i<F f/\cB P elem=J g then J (.elem g f i.toNat 0) else af
 |some (.slice elem),.arr b d len _,.v (.int _ i)=>
  match cB P elem with
  |some c=>if 0<=i/\i<len then J (.ptr (.box b) (d+i.toNat*c)) else af
  |none=>af
 |some (.array len elem),.ptr l d,.v (.int _ i)=>
  match cB P elem with
  |some c=>if 0<=i/\i<len then J (.ptr l (d+i.toNat*c)) else af
  |none=>af
 |some (.array len elem),.elem g f k d,.v (.int _ i)=>
  match cB P elem with
  |some c=>if 0<=i/\i<len then J (.elem g f k (d+i.toNat*c)) else af
  |none=>af
 |_,_,_=>af
def yL(P:bj)(t:aC)(x ix:U):Option U:=
 match P.underlying t,x,ix with
 |some .string,.v (.string d),.v (.int _ i)=>
  match (if 0<=i then d.data[i.toNat]? else af) with
  |some b=>J (.v (.int .u8 b.toNat))
  |none=>af
 |some (.array len elem),.agg cs,.v (.int _ i)=>
  match cB P elem with
  |some c=>if 0<=i/\i<len then Ek P elem cs (i.toNat*c) else af
  |none=>af
 |_,_,_=>af
def isIface(P:bj)(t:aC):Option Bool:=
 match P.underlying t with
 |some (.interface _)=>J V
 |some _=>J ai
 |none=>af
def sQ(P:bj)(x:U)(c:aC)(d:Bool):Option U:=
 match isIface P c,x with
 |some ai,.iface l g=>if l=c then J (if d then .tuple [g,.v (.bool V)] else g)
  else if d then (fM P c).map λf=>.tuple [f,.v (.bool ai)] else af
 |some ai,.v .nilIface=>if d then (fM P c).map λf=>.tuple [f,.v (.bool ai)] else af
 |_,_=>af
def ri(c:BinOp)(b:Bool):Option U:=
 match c with
 | .eql=>J (.v (.bool b))
 | .neq=>J (.v (.bool !b))
 |_=>af
def zZ(P:bj)(c:BinOp)(t:aC)(x y:bP)(a b:U):Option U:=
 match a.flat,b.flat with
 |some d,J f=>(cV P (do eqGuard c t x y d f;binOp c t d f)).bind iU
 |_,_=>af
def cy(P:bj)(c:BinOp)(t:aC)(x y:bP)(a b:U):Option U:=
 match a,b with
 | .v (.string d),.v (.string f)=>
  match c with
  | .eql=>J (.v (.bool (d.data.toList==f.data.toList)))
  | .neq=>J (.v (.bool !(d.data.toList==f.data.toList)))
  | .add=>if d.size+f.size<=9223372036854775807 then J (.v (.string (d++f))) else af
  |_=>zZ P c t x y a b
 | .iface _ _,.v .nilIface=>if isIface P t=J V then ri c ai else af
 | .v .nilIface,.iface _ _=>if isIface P t=J V then ri c ai else af
 | .ptr _ _,.v (.pointer af)=>(match P.underlying t with|some (.pointer _)=>ri c ai|_=>af)
 | .v (.pointer af),.ptr _ _=>(match P.underlying t with|some (.pointer _)=>ri c ai|_=>af)
 | .func _ _ _,.v .nilFunc=>(match P.underlying t with|some (.func ..)=>ri c ai|_=>af)
 | .v .nilFunc,.func _ _ _=>(match P.underlying t with|some (.func ..)=>ri c ai|_=>af)
 | .list k _ _,.list .nil _ []=>(match P.underlying t with|some (.slice _)=>ri c (decide (k=.nil))|_=>af)
 |a,b=>zZ P c t x y a b
def E4(P:bj)(c:UnOp)(x:U):Option U:=
 match x.flat with
 |some d=>(cV P (Op.unary c d)).bind iU
 |none=>af
def jX(P:bj)(h:Heap)(src c:aC)(x:U):Option (U × Heap):=
 match P.underlying src,P.underlying c,x with
 |some .string,J (.slice e),.v (.string n)=>
  match P.underlying e,P.info? e with
  |some (.int .u8),J i=>if i.size=1 then J (h.fresh 1 (n.data.toList.map ie)) else af
  |_,_=>af
 |some (.slice e),J .string,x=>
  match P.underlying e,rowsOf h 1 x with
  |some (.int .u8),J d=>(bytesOf d).map λm=>(.v (.string ⟨m.toArray⟩),h)
  |_,_=>af
 |some (.slice e),J (.slice _),.list (.free l) g f=>
  match P.underlying e with
  |some (.int .u8)=>if src=c/\alive h l=V then J (.list .held g f,{h with dead:=l::h.dead}) else af
  |_=>af
 |some (.slice _),J (.slice _),_=>af
 |some _,J _,.v x=>((cV P (convert src c x)).bind iU).map λp=>(p,h)
 |_,_,_=>af
def HQ(c a b:U):Option U:=
 match c with
 | .v (.bool d)=>J (if d then a else b)
 |_=>af
def NJ(x:U):Option U:=
 match x with
 | .ptr .. | .elem .. | .func (.func _) _ _| .yield _| .iface .. =>J x
 |_=>af
def tf(parts:Array (Nat × bP)):Bool:=
 match parts.toList with
 |(_,.const (.int .u8 _))::_::_=>V
 |_=>ai
def di(P:bj)(G:Nat->Option (List U))(ρ:bP->U)(h:Heap)(o:Op):Option (U × Heap):=
 match o with
 | .move c| .assign c=>J (ρ c,h)
 | .pick p a b=>(HQ (ρ p) (ρ a) (ρ b)).map (·,h)
 | .alloc d=>((fM P d).bind U.bG).map h.box
 | .box _ c=>((ρ c).bG).map h.box
 | .build d parts=>(iy P d (parts.toList.map λg=>(g.1,ρ g.2))).map (·,h)
 | .buildSlice d len parts=>
  match tf parts with
  |false=>(ff P d len (parts.toList.map λg=>(g.1,ρ g.2))).map (·,h)
  |true=>(match ff P d len (parts.toList.map λg=>(g.1,ρ g.2)) with|some (.list _ y q)=>J (h.fresh y q)|_=>af)
 | .load d a=>(aD P G h d (ρ a)).map (·,h)
 | .store d a c=>(bY P h d (ρ a) (ρ c)).map (.tuple [],·)
 | .nilCheck c=>(NJ (ρ c)).map (·,h)
 | .binOp l d c A _=>(cy P l d c A (ρ c) (ρ A)).map (·,h)
 | .unOp l _ c=>(E4 P l (ρ c)).map (·,h)
 | .convert x C c=>jX P h x C (ρ c)
 | .makeInterface d c=>if isIface P d=J ai then J (.iface d (ρ c),h) else af
 | .makeFunc s first m=>J (.func s (first.toList.map ρ) (m.toList.map ρ),h)
 | .makeSlice d D p=>vj P h d (ρ D) (ρ p)
 | .slice d c u t v=>(gi P d (ρ c) (u.map ρ) (t.map ρ) (v.map ρ)).map (·,h)
 | .fieldAddr x c r=>(dQ P x (ρ c) r).map (·,h)
 | .field d c r=>
  match P.underlying d,ρ c with
  |some (.struct fields),.agg cs=>(match fields[r]? with|some n=>(Ek P n.type cs n.offset).map (·,h)|none=>af)
  |_,_=>af
 | .indexAddr d c i=>(dH P d (ρ c) (ρ i)).map (·,h)
 | .index d c i=>(yL P d (ρ c) (ρ i)).map (·,h)
 | .typeAssert c _ f ok=>(sQ P (ρ c) f ok).map (·,h)
 | .extract c i=>(match ρ c with| .tuple z=>(z[i]?).map (·,h)|_=>af)
 |_=>af
def ia(P:bj)(h:Heap)(b:Builtin)(ts:Array aC)(ty:aC)(args:List U):Option (U × Heap):=
 match b,args with
 | .len,[d]=>(match ts[0]? with|some l=>(dK P l d).map (·,h)|none=>af)
 | .cap,[d]=>(match ts[0]? with|some l=>(Ad P l d).map (·,h)|none=>af)
 | .append,[g,d]=>gb P h ts g d
 | .copy,[m,g]=>wr P h ts m g
 | .min,c=>(match flatAll c with|some f=>((cV P (Builtin.min_ ts ty f.toArray)).bind iU).map (·,h)|none=>af)
 | .max,c=>(match flatAll c with|some f=>((cV P (Builtin.max_ ts ty f.toArray)).bind iU).map (·,h)|none=>af)
 |_,_=>af
def oU(P:bj)(G:Nat->Option (List U))(d:Option Tmp)(h:Heap)(b:Builtin)(ts:Array aC)(ty:aC)(args:List U):Option (U × Heap):=
 match b,args with
 | .append,[c,f]=>if EY G d ty then lU P h ts c f else gb P h ts c f
 |b,args=>ia P h b ts ty args
structure Rec where
 code:Code->Env->Heap->Option (Xt × Env × Heap)
 call:aQ->List U->Heap->Option (dO × Heap)
 ii:aQ->List U->Option (U × Bool)->Heap->Option (dO × Option (U × Bool) × Heap)
 round:Nat->List U->Heap->Option (dO × Heap)
def NA(P:bj)(t:aC)(name:String):Option aQ:=
 match P.info? t with
 |some i=>
  match i.methods.find? (·.name==name) with
  |some d=>
   match d.path.toList,d.func,P.underlying t with
   | [],J (c,V),J (.pointer _)=>J c
   | [],J (_,_),J (.pointer _)=>af
   | [],J (c,ai),J _=>J c
   |_,_,_=>af
  |none=>af
 |none=>af
def jE(P:bj)(R:Rec)(e:Env)(h:Heap)(c:Call):Option (dO × Heap):=
 let d:=c.args.toList.map e.eval
 match c.callee with
 | .builtin _=>af
 | .value l=>
  match e.eval l with
  | .func (.func m) first g=>R.call m (first++d++g) h
  | .yield n=>R.round n d h
  |_=>af
 | .invoke p f=>
  match e.eval p with
  | .iface q r=>(match NA P q f with|some l=>R.call l (r::d) h|none=>af)
  |_=>af
def dF(P:bj)(G:Nat->Option (List U))(R:Rec)(e:Env)(h:Heap)(o:Oper):Option (dO × Env × Heap):=
 match o.op with
 | .call {callee:=.builtin .recover,.. }=>
  if e.round.isSome then af else
  match e.cC with
  |some (c,ai)=>J (.ret c,{e with cC:=J (c,V)},h)
  |_=>J (.ret (.v .nilIface),e,h)
 | .call {callee:=.builtin .panic,args,.. }=>
  match args.toList.map e.eval with
  | [.iface g c]=>J (.panic (.iface g c),e,h)
  |_=>af
 | .call {callee:=.builtin b,args,argTypes}=>(oU P G o.dst h b argTypes o.type (args.toList.map e.eval)).map λ(c,h)=>(.ret c,e,h)
 | .call l=>(jE P R e h l).map λ(n,h)=>(n,e,h)
 | .defer {callee:=.value f,args,.. }=>
  if e.round.isSome then af else
  match e.eval f with
  | .func (.func m) first d=>J (.ret (.tuple []),{e with defers:=(m,first++args.toList.map e.eval++d)::e.defers},h)
  |_=>af
 | .panic c=>
  match e.eval c with
  | .iface g c=>J (.panic (.iface g c),e,h)
  |_=>af
 |op=>(di P G e.eval h op).map λ(c,h)=>(.ret c,e,h)
def et(ops:Array Oper)(e:Env)(o:Oper):Option Bool:=
 match o.guard with
 |none=>J V
 |some (j,c)=>
  match (ops[j]?).bind (·.dst) with
  |none=>J ai
  |some d=>
   match e.get d with
   | .v (.bool b)=>J (b==c)
   | .tuple []=>J ai
   |_=>af
def bW(P:bj)(G:Nat->Option (List U))(R:Rec)(ops:Array Oper):List Nat->Env->Heap->Option (Xt × Env × Heap)
 | [],e,h=>J (.normal,e,h)
 |i::rest,e,h=>
  match ops[i]? with
  |none=>af
  |some o=>
   match et ops e o with
   |none=>af
   |some ai=>bW P G R ops rest (e.put o.dst (.tuple [])) h
   |some V=>
    match dF P G R e h o with
    |some (.ret c,e,h)=>bW P G R ops rest (e.put o.dst c) h
    |some (.panic c,e,h)=>J (.panic c,e,h)
    |none=>af
inductive Class where
 |pure|reads|h_
 deriving DecidableEq,Inhabited
def ig:Op->Class
 | .move _| .assign _| .pick .. | .build .. | .nilCheck _| .binOp .. | .unOp .. | .makeInterface .. | .makeFunc .. | .slice .. | .fieldAddr .. | .field ..
 | .indexAddr .. | .index .. | .typeAssert .. | .extract .. =>.pure
 | .buildSlice _ _ parts=>if tf parts=V then .h_ else .pure
 | .load .. =>.reads
 | .call {callee:=.builtin .len,.. }=>.pure
 |_=>.h_
def Hv(a b:Class):Bool:=
 match a,b with
 | .pure,_|_,.pure=>V
 | .reads,.reads=>V
 |_,_=>ai
def xH(ops:Array Oper)(b:Array Nat):Bool:=
 (bZ ops.size).all λj=>
  match ops[j]? with
  |none=>V
  |some o=>
   (o.after.all λe=> !Region.binds .any e||decide (e.on<j))&&
   (bZ ops.size).all λi=> !(b.getD j 0).testBit i||o.after.any λe=>Region.binds .any e&&(gX e.on i||(b.getD e.on 0).testBit i)
def vw(ops:Array Oper)(i j:Nat):Bool:=
 match ops[i]?,ops[j]? with
 |some c,J d=>Hv (ig c.op) (ig d.op)&&c.apart ops d&&d.apart ops c
 |_,_=>ai
def CV(ops:Array Oper):Bool:=
 let b:=Region.before ops
 xH ops b&&(bZ ops.size).all λj=>(bZ j).all λi=>(b.getD j 0).testBit i||vw ops i j
def nB(ops:Array Oper)(i j:Nat):Bool:=
 match ops[i]?,ops[j]? with
 |some c,J d=>c.apart ops d&&d.apart ops c
 |_,_=>ai
def nS(P:bj)(G:Nat->Option (List U))(R:Rec)(ops:Array Oper)(e:Env)(h:Heap)(r m:Nat):Bool:=
 match ops[r]?,bW P G R ops (bZ r) e h,bW P G R ops (bZ m) e h with
 |some o,J (.normal,c,f),J (.normal,_,d)=>
  (match et ops c o with
   |some ai=>V
   |some V=>
    (match o.op with
     | .load g a=>(match aD P G f g (c.eval a),aD P G d g (c.eval a) with|some l,J n=>cH l n|_,_=>ai)
     |_=>ai)
   |none=>ai)
 |_,_,_=>ai
def jn(P:bj)(G:Nat->Option (List U))(R:Rec)(ops:Array Oper)(e:Env)(h:Heap)(i j:Nat):Bool:=
 nB ops i j&&
 match (ops[i]?).map λo=>ig o.op,(ops[j]?).map λo=>ig o.op with
 |some .reads,J .h_=>nS P G R ops e h i (j+1)
 |some .h_,J .reads=>nS P G R ops e h j i
 |_,_=>ai
def wp:Op->Bool
 | .call {callee:=.builtin .recover,.. }=>ai
 | .call {callee:=.builtin .panic,.. }=>ai
 | .call _=>V
 | .convert .. =>V
 |_=>ai
def uH(P:bj)(G:Nat->Option (List U))(R:Rec)(ops:Array Oper)(e:Env)(h:Heap)(k:Nat):Prop:=
 ∃o m c g,ops[k]?=J o/\wp o.op=V/\bW P G R ops (bZ k) e h=J (.normal,c,g)/\
  ∀l,l<=ops.size->∃f d,bW P G R ops (bZ l) e h=J (.normal,f,d)/\dF P G R c d o=J (.ret m,c,d)
noncomputable def jG(P:bj)(G:Nat->Option (List U))(R:Rec)(ops:Array Oper)(e:Env)(h:Heap)(k:Nat):Bool:=@decide (uH P G R ops e h k) (Classical.propDecidable _)
noncomputable def jZ(P:bj)(G:Nat->Option (List U))(R:Rec)(ops:Array Oper)(e:Env)(h:Heap):Bool:=
 let b:=Region.before ops
 xH ops b&&(bZ ops.size).all λj=>(bZ j).all λi=>(b.getD j 0).testBit i||vw ops i j||jn P G R ops e h i j||(nB ops i j&&(jG P G R ops e h i||jG P G R ops e h j))
def yM(r:Option (Xt × Env × Heap)):Bool:=
 match r with
 |some (.normal,_,_)=>V
 |_=>ai
def FY(ops:Array Oper)(k j:Nat):Bool:=
 match ops[k]? with
 |some o=>o.after.any λc=>Region.binds .any c&&gX c.on j
 |none=>ai
def akA(ops:Array Oper)(d m:Nat):Bool:=
 match ops[m]? with
 |some o=>(match o.op with| .load _ g=>(match g with| .tmp f=> !Nat.beq f d|_=>V)|_=>ai)&&(o.guard.isNone&&(match o.dst with|some c=> !Nat.beq c d|none=>V))
 |none=>ai
def fG(ops:Array Oper)(i j:Nat):Array Oper:=⟨ops.toList.mapIdx λk o=>if k=j then {o with after:=o.after.push {on:=i,ground:=.data}} else o⟩
def u'(ops:Array Oper)(k:Nat):Bool:=
 match ops[k]? with
 |some o=>(match o.op with| .store _ _ _=>V|_=>ai)&&(o.guard.isNone&&o.dst.isNone)
 |none=>ai
def Xb(ops:Array Oper)(k:Nat):Bool:=
 match ops[k]? with
 |some o=>decide (ig o.op=.pure)|none=>ai
def Bp(ops:Array Oper)(i:Nat):Bool:=
 xH ops (Region.before ops)&&(decide (i+1<ops.size)&&(u' ops i&&(u' ops (ops.size-1)&&(bZ (ops.size-1)).all λk=>gX k i||(((Region.before ops).getD (ops.size-1) 0).testBit k||(Xb ops k&&nB ops k (ops.size-1))))))
def oD(ops:Array Oper)(k:Nat)(e:Env):Option Nat:=
 match ops[k]? with
 |some o=>(match o.op with| .store _ a _=>(match e.eval a with| .ptr (.box b) _=>J b|_=>af)|_=>af)
 |none=>af
def px(P:bj)(G:Nat->Option (List U))(R:Rec)(ops:Array Oper)(e:Env)(h:Heap)(i:Nat):Bool:=
 match bW P G R ops (bZ i) e h,bW P G R ops (bZ (ops.size-1)) e h with
 |some (.normal,c,_),J (.normal,d,_)=>
  (match oD ops i c,oD ops (ops.size-1) d with
   |some a,J b=> !Nat.beq a b
   |_,_=>ai)
 |_,_=>ai
noncomputable def xj(P:bj)(G:Nat->Option (List U))(R:Rec)(ops:Array Oper)(e:Env)(h:Heap):Bool:=(bZ ops.size).any λi=>Bp ops i&&(px P G R ops e h i&&jZ P G R (fG ops i (ops.size-1)) e h)
def quiet(o:Oper):Oper:={o with dst:=af,op:=.move (.const (.bool V)),guard:=af}
def tQ:List Oper->List Oper
 | []=>[]
 | [o]=>[quiet o]
 |o::c::d=>o::tQ (c::d)
def gp(ops:Array Oper):Array Oper:=⟨tQ ops.toList⟩
def qI(ops:Array Oper):Bool:=
 let b:=Region.before (gp ops)
 (bZ (ops.size-1)).all λi=>(b.getD (ops.size-1) 0).testBit i&&
  match ops[i]? with
  |some o=>(match o.guard with|some (j,_)=> !Nat.beq j (ops.size-1)|none=>V)
  |none=>V
def AT(ops:Array Oper)(k i:Nat):Bool:=gX i k||((Region.before ops).getD i 0).testBit k
def cut(ops:Array Oper)(k:Nat):Array Oper:=⟨ops.toList.mapIdx λi o=>if AT ops k i=V then quiet o else o⟩
def adL(ops:Array Oper)(i:Nat):Bool:=
 match ops[i]? with
 |some o=>decide (ig o.op≠ .h_)|none=>V
def Th(ops:Array Oper)(k i:Nat):Bool:=
 match ops[i]? with
 |some o=>(match o.guard with|some (j,_)=> !AT ops k j|none=>V)
 |none=>V
def afs(ops:Array Oper)(k i:Nat):Option Tmp:=
 if (AT ops k i||((Region.before (cut ops k)).getD k 0).testBit i)=V then af else (ops[i]?).bind (·.dst)
noncomputable def drawC(P:bj)(G:Nat->Option (List U))(R:Rec)(ops:Array Oper)(e:Env)(h:Heap):Xt->Bool
 | .normal=>jZ P G R ops e h||xj P G R ops e h
 | .panic _=>qI ops&&(jZ P G R (gp ops) e h&&yM (bW P G R (gp ops) (bZ (gp ops).size) e h))
 |_=>ai
def BQ(c:List Tmp)(args:List U)(tmps:nA):nA:=(c.zip args).foldl (λd f=>d.set f.1 f.2) tmps
section
variable (P:bj) (G:Nat->Option (List U)) (R:Rec)
noncomputable def eO:Code->Env->Heap->Option (Xt × Env × Heap)
 | .skip,e,h| .label _,e,h=>J (.normal,e,h)
 | .region _ ops f,e,h=>
  if f then
   (bW P G R ops (bZ ops.size) e h).filter λr=>drawC P G R ops e h r.1
  else bW P G R ops (bZ ops.size) e h
 | .seq a b,e,h=>
  match R.code a e h with
  |some (.normal,e,h)=>R.code b e h
  |r=>r
 | .cond c a b,e,h=>
  match e.eval c with
  | .v (.bool V)=>R.code a e h
  | .v (.bool ai)=>R.code b e h
  |_=>af
 | .block id c,e,h=>
  match R.code c e h with
  |some (.exit d,e,h)=>if d=id then J (.normal,e,h) else J (.exit d,e,h)
  |r=>r
 | .loop c,e,h=>
  match R.code c e h with
  |some (.normal,e,h)=>R.code (.loop c) e h
  |r=>r
 | .scope c,e,h=>R.code c e h
 | .exit id,e,h=>J (.exit id,e,h)
 | .ret,e,h=>J (.ret,e,h)
 | .rangeFunc l params assign body,e,h=>
  match e.eval l with
  | .func (.func m) first g=>
   match R.call m (first++[.yield (F h.loops)]++g)
    {h with loops:=h.loops++[{tmps:=e.tmps,params,assign,body,state:=.ready,pending:=af}]} with
   |some (.ret _,h')=>
    match h'.loops[h.loops.length]? with
    |some r=>
     if r.state=.busy then af else
     match r.pending with
     |none=>J (.normal,e,{h' with loops:=h'.loops.set (F h.loops) {r with state:=.exhausted}})
     |some .ret=>J (.ret,e,{h' with loops:=h'.loops.set (F h.loops) {r with state:=.exhausted}})
     |some (.exit id)=>J (.exit id,e,{h' with loops:=h'.loops.set (F h.loops) {r with state:=.exhausted}})
     |_=>af
    |none=>af
   |some (.panic n,h')=>J (.panic n,e,h')
   |none=>af
  |_=>af
 |_,_,_=>af
def rT(e:Env)(h:Heap):List ResultVar->Option (List U)
 | []=>J []
 | .tmp d::c=>(rT e h c).map (e.get d::·)
 | .cell a d::c=>
  match aD P G h d (e.get a),rT e h c with
  |some g,J f=>J (g::f)
  |_,_=>af
def Ex(fn:Func)(e:Env)(h:Heap):Option U:=
 match rT P G e h fn.results.toList with
 |some [d]=>J d
 |some c=>J (.tuple c)
 |none=>af
def fZ(fn:Func)(e:Env):List (aQ × List U)->Option (U × Bool)->Heap->Option (dO × Heap)
 | [],af,h=>(Ex P G fn e h).map λg=>(.ret g,h)
 | [],J (g,_),h=>J (.panic g,h)
 |(l,c)::d,f,h=>
  match R.ii l c f h with
  |some (.ret _,J (_,V),h)=>fZ fn e d af h
  |some (.ret _,f,h)=>fZ fn e d f h
  |_=>af
def oR(g:aQ)(args:List U)(m:Option (U × Bool))(h:Heap):Option (dO × Option (U × Bool) × Heap):=
 match P.funcs[g]? with
 |none=>af
 |some d=>
  match d.body with
  |none=>af
  |some c=>
   match R.code c {tmps:={ch:=[],base:=args},defers:=[],cC:=m,round:=af} h with
   |some (.normal,e,h)|some (.ret,e,h)=>(fZ P G R d e e.defers af h).map λ(f,h)=>(f,e.cC,h)
   |some (.panic l,e,h)=>(fZ P G R d e e.defers (J (l,ai)) h).map λ(f,h)=>(f,e.cC,h)
   |_=>af
def j9(aI:aQ->Option (List U->Heap->Option (U × Heap)))(g:aQ)(args:List U)(h:Heap):Option (dO × Heap):=
 match aI g with
 |some c=>(c args h).map λ(f,h)=>(.ret f,h)
 |none=>(oR P G R g args af h).map λ(d,_,h)=>(d,h)
def rV(l:Nat)(args:List U)(h:Heap):Option (dO × Heap):=
 match h.loops[l]? with
 |none=>af
 |some r=>
  if r.params.size=F args then
   match R.code r.assign {tmps:=BQ r.params.toList args r.tmps,defers:=[],cC:=af,round:=J l} h with
   |some (.normal,e,h)=>
    match h.loops[l]? with
    |some r2=>
     if r2.state=.ready then
      match R.code r.body e {h with loops:=h.loops.set l {r2 with state:=.busy}} with
      |some (.normal,_,h)=>(h.loops[l]?).map λr=>(.ret (.v (.bool V)),{h with loops:=h.loops.set l {r with state:=.ready,pending:=af}})
      |some (.ret,_,h)=>(h.loops[l]?).map λr=>(.ret (.v (.bool ai)),{h with loops:=h.loops.set l {r with state:=.done,pending:=J .ret}})
      |some (.exit id,_,h)=>(h.loops[l]?).map λr=>(.ret (.v (.bool ai)),{h with loops:=h.loops.set l {r with state:=.done,pending:=J (.exit id)}})
      |some (.panic c,_,h)=>J (.panic c,h)
      |none=>af
     else af
    |none=>af
   |_=>af
  else af
end
noncomputable def gF(P:bj)(G:Nat->Option (List U))(aI:aQ->Option (List U->Heap->Option (U × Heap)))(n:Nat):Rec:=
 Nat.rec (motive:=λ_=>Rec) {code:=λ_ _ _=>af,call:=λ_ _ _=>af,ii:=λ_ _ _ _=>af,round:=λ_ _ _=>af}
  (λ_ R=>{code:=eO P G R,call:=j9 P G R aI,ii:=oR P G R,round:=rV R}) n
end Go.AE
end
section
namespace Go.AE
open Go.RowKit (Below)
def El{α}{P}:∀{e:Sem α} {a:α},cV P e=J a->∀w,e.run P w=.ok a w:=by
 intro e
 induction e with
 |pure a=>intro b h w;simp[cV]at h;simp_all|program k c=>intro b h w;simp only[cV]at h;simp only[Sem.run];simp_all|mark d k c=>intro b h w;simp only[cV]at h;simp only[Sem.run];simp_all|_=>intro b h;simp[cV]at h
structure aW where
 base:Nat
 ic:Nat->Nat->Option aG
 β:List Nat
 γ:List Nat
 tn:Nat
 tk:Nat->Nat × Nat × Nat
 md:List Nat
 lb:Nat->Option (Nat × Nat × Nat)
structure aW.Le(K K':aW):Prop where
 base:K'.base=K.base
 ic:∀g j c,K.ic g j=J c->K'.ic g j=J c
 β:∀b g:Nat,K.β[b]?=J g->K'.β[b]?=J g
 γ:∀l g:Nat,K.γ[l]?=J g->K'.γ[l]?=J g
 tn:K.tn<=K'.tn
 tk:∀t,t<K.tn->K'.tk t=K.tk t
 md:∀r∈K.md,r∈K'.md
 lb:∀b,b<K.β.length->K'.lb b=K.lb b
 new:∀g j c,K'.ic g j=J c->K.ic g j=J c∨K.base<=g
def aW.Le.refl(K:aW):K.Le K:=⟨O,λ_ _ _ h=>h,λ_ _ h=>h,λ_ _ h=>h,aV _,λ_ _=>rfl,λ_ h=>h,λ_ _=>rfl,λ_ _ _ h=>.inl h⟩
def aW.Le.len{K c:aW}(h:K.Le c){b}(d:b<F K.β):b<F c.β:=(aS.1 (h.β b _ (aN d))).1
def aW.Le.trans{A B C:aW}(h:A.Le B)(k:B.Le C):A.Le C:=
 ⟨k.base.trans h.base,λd j g f=>k.ic d j g (h.ic d j g f),λb d c=>k.β b d (h.β b d c),λb d c=>k.γ b d (h.γ b d c),eS h.tn k.tn,
  λp l=>(k.tk p (l_ l h.tn)).trans (h.tk p l),λn m=>k.md n (h.md n m),λb c=>(k.lb b (h.len c)).trans (h.lb b c),λd j g f=>(k.new d j g f).elim (h.new d j g) λq=>.inr (by rw[<-h.base];exact q)⟩
def sL(K:aW)(k:Tok)(g off sz n aR:Nat):Prop:=
 n<=aR/\match k with
  | .nil=>False
  | .tight=>aR=n
  | .free c=>c<K.tn/\(K.tk c).1=g/\(K.tk c).2.1=off+n*sz/\off+aR*sz<=(K.tk c).2.2
  | .held=>True
def sL.mono{K d}(h:K.Le d){k}{g off sz n aR}(f:sL K k g off sz n aR):sL d k g off sz n aR:=by
 refine⟨f.1,?_⟩;have c:=f.2;cases k with|free l=>simp only at c ⊢;rw[h.tk l c.1];exact⟨l_ c.1 h.tn,c.2⟩|_=>exact c
mutual
inductive aO (K:aW):U->aG->Prop
 |bad (c:aG):aO K .bad c
 |v (x:aG) (h:scalar x=V):aO K (.v x) x
 |nil (sz:Nat):aO K (.list .nil sz []) (.slice af 0 0)
 |fP (sz:Nat) (a:Addr):aO K (.list .tight sz []) (.slice (J a) 0 0)
 |list (k:Tok) (sz:Nat) (es:List (List U)) (g off n aR:Nat) (cells:List aG) (hn:n=es.length) (hr:∀r∈es,r.length=sz)
  (hv:aH K es.flatten cells) (hc:∀j c,cells[j]?=J c->K.ic g (off+j)=J c) (ht:sL K k g off sz n aR)
  (ha:es.flatten.all U.cW=V):aO K (.list k sz es) (.slice (J ⟨g,off,af⟩) n aR)
 |arr (b g off len aR rK qx:Nat) (hb:K.β[b]?=J g) (hl:len<=aR) (hc:aR<=qx) (ho:rK=off∨aR=0)
  (hr:qx=aR∨aR=0∨off≠0∨∃sz room,K.lb b=J (aR,sz,room)/\0<sz/\qx * sz<=room):aO K (.arr b off len aR) (.slice (J ⟨g,rK,af⟩) len qx)
 |agg (cs:List U) (vs:Array aG) (h:aH K cs vs.toList):aO K (.agg cs) (.agg vs)
 |tuple (cs:List U) (vs:Array aG) (h:aH K cs vs.toList):aO K (.tuple cs) (.tuple vs)
 |box (b g off:Nat) (hb:K.β[b]?=J g):aO K (.ptr (.box b) off) (.pointer (J ⟨g,off,af⟩))
 |dB (g off:Nat):aO K (.ptr (.dB g) off) (.pointer (J ⟨g,off,af⟩))
 |elem (sz:Nat) (es:List (List U)) (i off g o p:Nat) (cells:List aG) (hr:∀r∈es,r.length=sz) (hv:aH K es.flatten cells)
  (hc:∀j c,cells[j]?=J c->K.ic g (o+j)=J c) (hi:i<es.length) (hp:p=o+i * sz+off)
  (ha:es.flatten.all U.cW=V):aO K (.elem sz es i off) (.pointer (J ⟨g,p,af⟩))
 |func (fn:Fn) (first aR:List U) (fs cs:Array aG) (h1:aH K first fs.toList) (h2:aH K aR cs.toList):aO K (.func fn first aR) (.func fn fs cs)
 |yield (l g:Nat) (h:K.γ[l]?=J g):aO K (.yield l) (.func (.yield g) #[] #[])
 |iface (t:aC) (x:U) (c:aG) (h:aO K x c):aO K (.iface t x) (.iface t c)
inductive aH (K:aW):List U->List aG->Prop
 |nil:aH K [] []
 |cons (x:U) (c:aG) (xs:List U) (cs:List aG) (h:aO K x c) (hs:aH K xs cs):aH K (x::xs) (c::cs)
end
mutual
def aO.mono{K C:aW}(h:K.Le C):∀{x:U} {c:aG},aO K x c->aO C x c
 |_,_,.bad c=>.bad c
 |_,_,.v x y=>.v x y
 |_,_,.nil l=>.nil l
 |_,_,.fP l a=>.fP l a
 |_,_,.list k l s m d z0 f cells S p g n Y t=>.list k l s m d z0 f cells S p (aH.mono h g) (λj c u=>h.ic _ _ _ (n j c u)) (Y.mono h) t
 |_,_,.arr b m d len f z r q v n T p=>.arr b m d len f z r (h.β _ _ q) v n T (by rw[h.lb b (aS.1 q).1];exact p)
 |_,_,.agg cs A g=>.agg cs A (aH.mono h g)
 |_,_,.tuple cs A g=>.tuple cs A (aH.mono h g)
 |_,_,.box b m d q=>.box b m d (h.β _ _ q)
 |_,_,.dB m d=>.dB m d
 |_,_,.elem l s i d m o z1 cells p g n N X t=>.elem l s i d m o z1 cells p (aH.mono h g) (λj c u=>h.ic _ _ _ (n j c u)) N X t
 |_,_,.func D first f E cs H L=>.func D first f E cs (aH.mono h H) (aH.mono h L)
 |_,_,.yield Z m v=>.yield Z m (h.γ _ _ v)
 |_,_,.iface z2 x c y=>.iface z2 x c (aO.mono h y)
def aH.mono{K c:aW}(h:K.Le c):∀{xs:List U} {cs:List aG},aH K xs cs->aH c xs cs
 |_,_,.nil=>.nil
 |_,_,.cons l g xs cs f d=>.cons l g xs cs (aO.mono h f) (aH.mono h d)
end
def mf:aG->Bool
 | .agg _| .tuple _=>ai
 |_=>V
section
variable {K:aW}
def aH.length{xs:List U}{cs:List aG}(h:aH K xs cs):F xs=F cs:=by
 induction xs generalizing cs with
 |nil=>cases h;rfl
 |cons f xs d=>cases h with|cons _ _ _ _ _ c=>grind
def aH.get{xs:List U}{cs:List aG}(h:aH K xs cs):∀{i:Nat} {x:U},xs[i]?=J x->∃c,cs[i]?=J c/\aO K x c:=by
 induction xs generalizing cs with
 |nil=>simp_all|cons l xs g=>
  cases h with
  |cons _ c _ cs f d=>
   grind
def aH.get'{xs:List U}{cs:List aG}(h:aH K xs cs):∀{i:Nat} {c:aG},cs[i]?=J c->∃x,xs[i]?=J x/\aO K x c:=by
 induction xs generalizing cs with
 |nil=>cases h;simp_all
 |cons l xs g=>
  cases h with
  |cons _ c _ cs f d=>
   grind
def aH.of{xs:List U}{cs:List aG}(g:F xs=F cs)(h:∀(i:Nat) (x:U) (c:aG),xs[i]?=J x->cs[i]?=J c->aO K x c):aH K xs cs:=by
 induction xs generalizing cs with
 |nil=>cases cs with|nil=>exact .nil|cons _ _=>grind
 |cons m xs d=>
  cases cs with
  |nil=>grind
  |cons c cs=>exact .cons _ _ _ _ (h 0 m c O O) (d (by simp_all) λi x c l f=>h (i+1) x c (by simp_all) (by simp_all))
def aH.append{xs d:List U}{cs c:List aG}(h:aH K xs cs)(k:aH K d c):aH K (xs++d) (cs++c):=by
 induction xs generalizing cs with
 |nil=>cases h;exact k
 |cons m xs l=>cases h with|cons _ _ _ _ g f=>exact .cons _ _ _ _ g (l f)
def aH.take{xs:List U}{cs:List aG}(h:aH K xs cs)(n:Nat):aH K (xs.take n) (cs.take n):=by
 refine .of (by simp[h.length]) λi q p c d=>?_;simp only[mr]at c d;split at c
 .rename_i f;rw[av f]at d;obtain⟨l,g,m⟩:=h.get c;simp_all
 grind
def aH.drop{xs:List U}{cs:List aG}(h:aH K xs cs)(n:Nat):aH K (xs.drop n) (cs.drop n):=by refine .of (by simp[h.length]) λi p m c d=>?_;simp only[List.getElem?_drop]at c d;obtain⟨g,f,l⟩:=h.get c;simp_all
def aH.set{xs:List U}{cs:List aG}(h:aH K xs cs)(i:Nat){x:U}{c:aG}(n:aO K x c):aH K (xs.set i x) (cs.set i c):=by
 refine .of (by simp[h.length]) λj q p d f=>?_;simp only[kQ]at d f;split at d
 .simp_all
 .rename_i e;rw[aP e]at f;obtain⟨l,g,m⟩:=h.get d;simp_all
def aH.map_mk{α:Type}{l:List α}{f:α->U}{c:α->aG}(h:∀a∈l,aO K (f a) (c a)):aH K (l.map f) (l.map c):=by
 induction l with
 |nil=>exact .nil|cons a l d=>exact .cons _ _ _ _ (h a b7) (d λb g=>h b (by grind))
def aO.gI{x:aG}{c:aG}(h:aO K (.v x) c):c=x/\scalar x=V:=by cases h with|v _ h=>simp_all
def K_:∀{cs:List U} {l:List aG},tj cs=J l->∀{vs:List aG},aH K cs vs->vs=l
 | [],l,h,_,c=>by cases c;simp[tj]at h;simp_all
 | .v q::p,l,h,_,c=>by
  cases c with|cons _ n _ cs g f=>simp only[tj,dg]at h;obtain⟨m,d,rfl⟩:=h;rw[(aO.gI g).1,K_ d f]
 | .bad::_,_,h,_,_| .list .. ::_,_,h,_,_| .arr .. ::_,_,h,_,_| .agg _::_,_,h,_,_| .tuple _::_,_,h,_,_| .ptr .. ::_,_,h,_,_
 | .elem .. ::_,_,h,_,_| .func .. ::_,_,h,_,_| .yield _::_,_,h,_,_| .iface .. ::_,_,h,_,_=>by simp[tj]at h
def Gb{x:U}{p:Value}(h:x.flat=some p){c:Value}(d:aO K x c):c=p:=by
 unfold U.flat at h;split at h
 .injection h with h;subst h;exact(aO.gI d).1
 .simp only[dg] at h;obtain⟨q,f,rfl⟩:=h;cases d with|agg _ n g=>rw[<-K_ f g]
 .injection h with h;subst h;cases d with|iface _ _ _ l=>rw[(aO.gI l).1]
 .simp only[dg] at h;obtain⟨q,f,rfl⟩:=h;cases d with|iface _ _ _ l=>cases l with|agg _ n g=>rw[<-K_ f g]
 .injection h with h;subst h;cases d with|nil=>rfl|list _ _ _ _ _ _ _ _ _ _ _ _ m _=>exact m.2.elim
 grind
def K9:∀{xs:List U} {l:List aG},flatAll xs=J l->∀{vs:List aG},aH K xs vs->vs=l
 | [],l,h,_,c=>by cases c;simp[flatAll]at h;simp_all
 |x::q,l,h,_,c=>by
  cases c with
  |cons _ p _ cs m g=>
   simp only[flatAll]at h;split at h
   .rename_i r n d f;injection h with h;subst h;rw[Gb d m,K9 f g]
   grind
def EM{z:aG}{x:U}(h:iU z=J x):aO K x z:=by
 unfold iU at h;split at h
 .injection h with h;subst h;exact .v _ ‹_›
 grind
def NM(x:aG):aO K (rJ x) x:=by
 unfold rJ;split
 .exact .nil 0
 .split
  .exact .v _ ‹_›
  .exact .bad _
def HH(x:aG):aO K (oB x) x:=by
 unfold oB;split
 .rename_i cs;refine .agg _ _ ?_;have:aH K (cs.toList.map rJ) (cs.toList.map id):=aH.map_mk λa _=>NM a;simp_all
 .split
  .rename_i c h;have:c=#[]:=(by simpa using h);subst this;exact .tuple _ _ .nil
  .exact .bad _
 .exact .iface _ _ _ (NM _)
 .exact NM _
def FS{x:U}{cs:List U}(h:x.bG=J cs){c:aG}(d:aO K x c):aH K cs c.cells.toList/\cs.all U.cW=V:=by
 unfold U.bG at h;split at h
 .split at h
  .rename_i n;injection h with h;subst h;cases d with|agg _ q p=>exact⟨p,n⟩
  grind
 .cases h
 .cases h
 .rename_i f g l;injection h with h;subst h;have m:x.cW=V:=by cases x<;>first|rfl|exact absurd O (f _)|exact absurd O (g _)|exact absurd O l
  refine⟨?_,by simp_all⟩;have:c.cells=#[c]:=by cases d<;>first|rfl|exact absurd O (f _)|exact absurd O (g _)|exact absurd O l|(cases c<;>first|rfl|simp[scalar]at *)
  rw[this];exact .cons _ _ _ _ d .nil
def ajo{c}(h:scalar c=V):mf c=V:=by cases c<;>first|rfl|simp[scalar]at h
def ajn{x:U}(h:x.cW=V){c:aG}(d:aO K x c):mf c=V:=by cases d<;>first|rfl|exact ajo ‹_›|(simp[U.cW]at h;done)
end
def vU(K:aW)(b:Nat)(cs:List U)(cells:Array aG):Prop:=
 aH K cs (cells.toList.take (F cs))/\∀f d c,K.lb b=J (f,d,c)->cs=[]∨(F cs=f*d/\c<=cells.size)
def vU.mono{K c}(h:K.Le c){b}(d:b<F K.β){cs}{cells}(r:vU K b cs cells):vU c b cs cells:=
 ⟨r.1.mono h,by rw[h.lb b d];exact r.2⟩
def vU.nil{K}{b}{cells}:vU K b [] cells:=⟨.nil,λ_ _ _ _=>.inl O⟩
def vU.le{K}{b}{cs}{cells}(r:vU K b cs cells):F cs<=cells.size:=by
 have:=r.1.length
 grind
def jD(K:aW)(s:nA)(tmps:Array aG):Prop:=∀c,aO K (s.get c) (tmps.getD c undef)
def jD.mono{K c}(h:K.Le c){s}{tmps}(d:jD K s tmps):jD c s tmps:=λf=>(d f).mono h
structure bJ(K:aW)(G:Nat->Option (List U))(ok:aQ->Nat->Code->Bool)(w0:bO)(h:Heap)(w:bO):Prop where
 fD:Below K.base w0 w
 size:K.base<=w.heap.size
 ic:∀g j c,K.ic g j=J c->w.cell? ⟨g,j,af⟩=J c
 dB:∀g cs,G g=J cs->∃cells,aH K cs cells/\∀(j:Nat) (c:aG),cells[j]?=J c->K.ic g j=J c
 iD:K.β.length=h.boxes.length
 mV:∀(b b' g:Nat),K.β[b]?=J g->K.β[b']?=J g->b=b'∨h.boxes[b]?=J []∨h.boxes[b']?=J []
 box:∀(b g:Nat) (cs:List U),K.β[b]?=J g->h.boxes[b]?=J cs->
  K.base<=g/\(∀j,K.ic g j=af)/\cs.all U.cW=V/\∃cells e,w.heap[g]?=J (.cells cells e (0,0))/\vU K b cs cells
 lV:K.γ.length=h.loops.length
 nT:∀(b b' g:Nat),K.γ[b]?=J g->K.γ[b']?=J g->b=b'
 loop:∀(l g:Nat) (r:gM),K.γ[l]?=J g->h.loops[l]?=J r->K.base<=g/\∃fn tmps d,
  w.heap[g]?=J (.loop {state:=r.state,pending:=r.pending,fn,tmps,params:=r.params,assign:=r.assign,body:=r.body,defers:=d})/\
  jD K r.tmps tmps/\ok fn tmps.size r.assign=V/\ok fn tmps.size r.body=V/\∀p∈r.params.toList,p<tmps.size
 tn:K.tn=h.tn
 tok:∀t,alive h t=V->K.base<=(K.tk t).1/\(∀b:Nat,K.β[b]?≠J (K.tk t).1)/\(∀j,(K.tk t).2.1<=j->K.ic (K.tk t).1 j=af)/\
  ∃cells e fz,w.heap[(K.tk t).1]?=J (.cells cells e fz)/\cells.size=(K.tk t).2.2/\
   ∀j,(K.tk t).2.1<=j->j<cells.size->w.frozen? ⟨(K.tk t).1,j,af⟩=ai
 nw:∀t t',alive h t=V->alive h t'=V->(K.tk t).1=(K.tk t').1->t=t'
 md:∀r∈K.md,K.base<=r/\w.heap[r]?=J (.deferred (J []))
 all:K.base=w0.heap.size
def Addr.gY(g o n):(⟨g,o,af⟩:Addr).add n=⟨g,o+n,af⟩:=by unfold Addr.add;simp_all
def qu{h}{t}(c:alive h t=V):t<h.tn:=by unfold alive at c;simp_all
section
variable {K:aW} {G:Nat->Option (List U)} {ok:aQ->Nat->Code->Bool} {w0 w:bO} {h:Heap}
def bJ.tX(s:bJ K G ok w0 h w){g j:Nat}{c:aG}(d:K.ic g j=J c):g<w.heap.size:=by
 have:=s.ic g j c d;unfold World.cell? at this
 grind
def bJ.same{w':bO}(s:bJ K G ok w0 h w)(c:w'.heap=w.heap)(g:w'.tape=w.tape)(r:w'.os=w.os)(t:w'.output=w.output):bJ K G ok w0 h w':=by
 have d:∀a,w'.cell? a=w.cell? a:=λa=>by simp[World.cell?,c]
 have L:∀a,w'.frozen? a=w.frozen? a:=λa=>by simp[World.frozen?,c]
 refine⟨⟨r.trans s.fD.os,g.trans s.fD.tape,t.trans s.fD.output,by rw[c];exact s.fD.size,λk p=>by rw[c];exact s.fD.block k p⟩,by rw[c];exact s.size,
  λl j v n=>(d _).trans (s.ic l j v n),s.dB,s.iD,s.mV,λb l cs m d=>by rw[c];exact s.box b l cs m d,s.lV,s.nT,
  λN l u q f=>by rw[c];exact s.loop N l u q f,s.tn,λS g=>?_,s.nw,λu f=>by rw[c];exact s.md u f,s.all⟩
 obtain⟨y,z,A,cells,e,x,C,E,H⟩:=s.tok S g;simp_all
def bJ.drew(s:bJ K G ok w0 h w)(n:Nat):bJ K G ok w0 h {w with drawn:=n}:=s.same O O O rfl
def AB(w:bO)(o){k}(c:k<w.heap.size):(w.heap.push o)[k]?=w.heap[k]?:=by
 grind
def od{w:bO}{g}{o}(h:w.heap[g]?=J o):g<w.heap.size:=by
 grind
def bJ.push(s:bJ K G ok w0 h w)(o:Obj):bJ K G ok w0 h {w with heap:=w.heap.push o}:=by
 have c:∀{k:Nat} {r:Obj},w.heap[k]?=J r->(w.heap.push o)[k]?=J r:=λc=>(AB w o (od c)).trans c;refine⟨⟨s.fD.os,s.fD.tape,s.fD.output,by have:=s.fD.size;grind,λk c=>(AB w o (l_ c s.size)).trans (s.fD.block k c)⟩,by have:=s.size;grind,
  λp j E q=>?_,s.dB,s.iD,s.mV,λb p cs y z=>?_,s.lV,s.nT,λN p t n d=>?_,s.tn,λS C=>?_,s.nw,λt d=>?_,s.all⟩
 .rw[<-s.ic p j E q];exact World.cell?_of_block (w:=w) (AB w o (s.tX q))
 .obtain⟨f,g,L,cells,e,l,m⟩:=s.box b p cs y z;simp_all
 .obtain⟨f,H,D,T,g,l⟩:=s.loop N p t n d
  grind
 .obtain⟨f,g,l,cells,e,u,m,v,x⟩:=s.tok S C;refine⟨f,g,l,cells,e,u,c m,v,λj A n=>?_⟩;rw[<-x j A n];exact World.frozen?_of_block (w:=w) (AB w o (od m))
 .exact⟨(s.md t d).1,c (s.md t d).2⟩
def C8{α:Type}{l}{x}{i:Nat}{y:α}(h:l[i]?=J y):(l++[x])[i]?=J y:=by
 grind
def pQ{α:Type}{l}{x}{i}{y:α}(h:(l++[x])[i]?=J y):l[i]?=J y∨(i=F l/\y=x):=by
 grind
def aW.mF(K:aW)(g:Nat)(x:Option (Nat × Nat × Nat)):aW:={K with β:=K.β++[g],lb:=λb=>if b=F K.β then x else K.lb b}
def aW.box(K:aW)(g:Nat):aW:=K.mF g af
def aW.yV(K:aW)(g)(x):K.Le (K.mF g x):=
 ⟨O,λ_ _ _ h=>h,λ_ _ h=>C8 h,λ_ _ h=>h,aV _,λ_ _=>rfl,λ_ h=>h,λb c=>aP M,λ_ _ _ h=>.inl h⟩
def aW.Ni(K:aW)(g):K.Le (K.box g):=K.yV g af
def bJ.NG(s:bJ K G ok w0 h w){cs:List U}{cells:Array aG}(e:aC)(x:Option (Nat × Nat × Nat))(Z:aH K cs (cells.toList.take (F cs)))(C:cs.all U.cW=V)
 (hx:∀z0 sz t,x=J (z0,sz,t)->cs=[]∨(F cs=z0*sz/\t<=cells.size)):
 bJ (K.mF w.heap.size x) G ok w0 {h with boxes:=h.boxes++[cs]} {w with heap:=w.heap.push (.cells cells e)}/\
 aO (K.mF w.heap.size x) (.ptr (.box (F h.boxes)) 0) (.pointer (J ⟨w.heap.size,0,af⟩)):=by
 have le:=K.yV w.heap.size x;have p:=s.push (.cells cells e);have y:(K.mF w.heap.size x).β[h.boxes.length]?=J w.heap.size:=by simp[aW.mF,<-s.iD]
 have dj:∀{b n:Nat},K.β[b]?=J n->n<w.heap.size:=λ{b n} d=>by
  have D:b<F h.boxes:=by rw[<-s.iD];exact(aS.1 d).1
  obtain⟨_,_,_,_,_,m,_⟩:=s.box b n _ d (aN D)
  grind
 have v:∀j,K.ic w.heap.size j=af:=λj=>by
  cases g:K.ic w.heap.size j with|none=>rfl|some z5=>have:=s.tX g;omega
 refine⟨⟨p.fD,p.size,p.ic,λn cs T=>?_,by simp[aW.mF,s.iD],λb b' n d r=>?_,λb n u d g=>?_,p.lV,p.nT,λz3 n z4 X Y=>?_,p.tn,λz1 E=>?_,p.nw,p.md,s.all⟩,.box _ _ _ y⟩
 .obtain⟨c,l,f⟩:=s.dB n cs T;exact⟨c,l.mono le,f⟩
 .rcases pQ d with d|⟨rfl,rfl⟩<;>rcases pQ r with r|⟨rfl,f⟩
  .rcases s.mV _ _ _ d r with p|p|p<;>grind
  .grind
  .grind
  omega
 .rcases pQ d with d|⟨rfl,rfl⟩
  .rcases pQ g with g|⟨rfl,rfl⟩
   .obtain⟨l,f,S,c,e',m,q⟩:=p.box b n u d g;exact⟨l,f,S,c,e',m,q.mono le (aS.1 d).1⟩
   grind
  .have:u=cs:=(by rw[s.iD]at g;simp at g;exact g.symm);subst this;exact⟨s.size,v,C,cells,e,by simp,Z.mono le,by simp only[aW.mF,if_true];exact hx⟩
 .obtain⟨l,H,z,z2,f,m,q⟩:=p.loop z3 n z4 X Y;exact⟨l,H,z,z2,f,m.mono le,q⟩
 .obtain⟨l,f,m,c,e',L,q,N⟩:=p.tok z1 E;refine⟨l,λb d=>?_,m,c,e',L,q,N⟩;obtain⟨_,_,_,_,_,_,A,_⟩:=s.tok z1 E;rcases pQ d with d|⟨_,d⟩
  .exact f b d
  .have:=od A;simp only[aW.mF]at d;omega
def aH.whole{cs:List U}{vs:List aG}(h:aH K cs vs):aH K cs (vs.take (F cs)):=by rw[fR (by rw[h.length];omega)];exact h
def bJ.NF(s:bJ K G ok w0 h w){cs:List U}{cells:Array aG}(e:aC)(d:aH K cs cells.toList)(c:cs.all U.cW=V):
 bJ (K.box w.heap.size) G ok w0 {h with boxes:=h.boxes++[cs]} {w with heap:=w.heap.push (.cells cells e)}/\
 aO (K.box w.heap.size) (.ptr (.box (F h.boxes)) 0) (.pointer (J ⟨w.heap.size,0,af⟩)):=s.NG e af d.whole c (λ_ _ _ f=>by cases f)
structure jp(w w':bO)(g:Nat)(o:Obj):Prop where
 os:w'.os=w.os
 tape:w'.tape=w.tape
 output:w'.output=w.output
 size:w'.heap.size=w.heap.size
 other:∀k,k≠g->w'.heap[k]?=w.heap[k]?
 this:w'.heap[g]?=J o
def jp.lt{w w'}{g}{o}(c:jp w w' g o):g<w.heap.size:=c.size ▸ od c.this
def jp.below{w w'}{g}{o}(c:jp w w' g o){B}(d:B<=g):Below B w w':=
 ⟨c.os,c.tape,c.output,by rw[c.size];omega,λk f=>c.other k M⟩
def j8(fz:Nat × Nat)(j:Nat):Bool:=decide (fz.1<=j)&&decide (j<fz.2)
def tt{w:bO}{g}{cells}{e}{fz}(h:w.heap[g]?=J (.cells cells e fz))(j):w.frozen? ⟨g,j,af⟩=j8 fz j:=by obtain⟨d,c⟩:=fz;simp[World.frozen?,h,j8]
def cell_of{w:bO}{g}{cells}{e}{fz}(h:w.heap[g]?=J (.cells cells e fz))(j):w.cell? ⟨g,j,af⟩=cells[j]?:=by simp[World.cell?,h]
def bJ.Sq(s:bJ K G ok w0 h w)(b:Nat):bJ K G ok w0 {h with boxes:=h.boxes.set b []} w:=by
 refine⟨s.fD,s.size,s.ic,s.dB,by simp[s.iD],λA C E r t=>?_,λm q g f c=>?_,s.lV,s.nT,s.loop,s.tn,s.tok,s.nw,s.md,s.all⟩
 .have z:∀k,h.boxes[k]?=J []->(h.boxes.set b [])[k]?=J []:=λk u=>by
   rw[kQ];split
   .rename_i e;subst e;rw[av (aS.1 u).1]
   omega
  rcases s.mV _ _ _ r t with p|p|p<;>simp_all
 .simp only[kQ]at c;split at c
  .rename_i e';subst e';split at c
   .rename_i l;injection c with c;subst c;obtain⟨v,x,_,d,n,y,D⟩:=s.box _ _ _ f (aN l);exact⟨v,x,O,d,n,y,.nil⟩
   simp_all
  .exact s.box m q g f c
def bJ.arb{w':bO}(s:bJ K G ok w0 h w){b g:Nat}{cs u:List U}{cells:Array aG}{e:aC}(v:K.β[b]?=J g)(hold:h.boxes[b]?=J u)(z:u≠[])(pW:F cs=F u)(gC:∀c0 Y,w.heap[g]?=J (.cells c0 Y (0,0))->c0.size<=cells.size)
 (c:jp w w' g (.cells cells e (0,0))) (hv:aH K cs (cells.toList.take (F cs))) (Z:cs.all U.cW=V):bJ K G ok w0 {h with boxes:=h.boxes.set b cs} w':=by
 have dj:=(aS.1 hold).1;obtain⟨E,H,_,T,Y,y,k4⟩:=s.box b g _ v hold;refine⟨s.fD.trans (c.below E),by rw[c.size];grind,λm j z5 D=>?_,s.dB,by simp[s.iD],λb1 b2 g r f=>?_,λb' m X q n=>?_,s.lV,s.nT,λz3 m L C x=>?_,s.tn,λz0 ht=>?_,s.nw,λL x=>?_,s.all⟩
 .have z:m≠g:=by rintro rfl;rw[H j]at D;cases D
  rw[<-s.ic m j z5 D];exact World.cell?_of_block (w:=w) (c.other m z)
 .have key:∀k,h.boxes[k]?=J []->(h.boxes.set b cs)[k]?=J []:=λk hk=>by
   rw[kQ,aP]
   .exact hk
   grind
  rcases s.mV _ _ _ r f with p|p|p<;>simp_all
 .simp only[kQ]at n;split at n
  .rename_i e';subst e';injection n with n;subst n;rw[v]at q;injection q with q;subst q;refine⟨E,H,Z,cells,e,c.this,hv,λz1 sz N z4=>?_⟩;rcases k4.2 z1 sz N z4 with L|⟨r1,r2⟩<;>grind
  .rename_i tN;by_cases d:m=g
   .subst d;rcases s.mV _ _ _ v q with p|p|p
    .omega
    .simp_all
    .rw[n]at p;injection p with p;subst p;exact⟨E,H,O,cells,e,c.this,.nil⟩
   .obtain⟨r,f,ha,l,e',t,A⟩:=s.box b' m X q n;exact⟨r,f,ha,l,e',(c.other m d).trans t,A⟩
 .obtain⟨r,fn,S,z2,f,t⟩:=s.loop z3 m L C x;have d:m≠g:=by rintro rfl;rw[f]at y;cases y
  exact⟨r,fn,S,z2,(c.other m d).trans f,t⟩
 .obtain⟨r,f,t,l,e',fz,A,h5,h6⟩:=s.tok z0 ht;have d:(K.tk z0).1≠g:=λe=>f b (e ▸ v);refine⟨r,f,t,l,e',fz,(c.other _ d).trans A,h5,λj hj C=>?_⟩;rw[<-h6 j hj C];exact World.frozen?_of_block (w:=w) (c.other _ d)
 .have f:=(s.md L x).2;have d:L≠g:=by rintro rfl;rw[f]at y;cases y
  exact⟨(s.md L x).1,(c.other L d).trans f⟩
def bJ.Y3{w':bO}(s:bJ K G ok w0 h w){g:Nat}{cs:List U}{cells:Array aG}{e:aC}(L:K.base<=g)(H:∀j,K.ic g j=af)(D:∀b:Nat,K.β[b]?=J g->h.boxes[b]?=J [])
 (T:∀t,alive h t=V->(K.tk t).1≠g) {c0:Array aG} {e0:aC} {z0:Nat × Nat} (n:w.heap[g]?=J (.cells c0 e0 z0))
 (x:Option (Nat × Nat × Nat)) (X:∀z1 sz A,x=J (z1,sz,A)->cs=[]∨(F cs=z1*sz/\A<=cells.size))
 (c:jp w w' g (.cells cells e (0,0))) (hv:aH K cs (cells.toList.take (F cs))) (yf:cs.all U.cW=V):
 bJ (K.mF g x) G ok w0 {h with boxes:=h.boxes++[cs]} w'/\(K.mF g x).β[h.boxes.length]?=J g:=by
 have le:=K.yV g x;have S:(K.mF g x).β[h.boxes.length]?=J g:=by simp[aW.mF,<-s.iD]
 refine⟨⟨s.fD.trans (c.below L),by rw[c.size];exact s.size,λl j x X=>?_,λl q hg'=>?_,by simp[aW.mF,s.iD],λb b' l z hb'=>?_,λb l q z u=>?_,s.lV,s.nT,λz4 l r N E=>?_,s.tn,λt ht=>?_,s.nw,λr E=>?_,s.all⟩,S⟩
 .have Hc:K.ic l j=J x:=X;have fI:l≠g:=λz2=>by simp_all
  rw[<-s.ic l j x Hc];exact World.cell?_of_block (w:=w) (c.other l fI)
 .obtain⟨d,p,m⟩:=s.dB l q hg';exact⟨d,p.mono le,m⟩
 .rcases pQ z with C|⟨Y,p2⟩<;>rcases pQ hb' with z2|⟨q1,q2⟩
  .rcases s.mV _ _ _ C z2 with r|r|r<;>grind
  .grind
  .grind
  omega
 .rcases pQ z with C|⟨Y,p2⟩
  .have pg:b<F h.boxes:=(by rw[<-s.iD];exact(aS.1 C).1);rw[qn pg]at u;by_cases f:l=g
   .subst f;have:=D b C;rw[u]at this;injection this with this;subst this;exact⟨L,H,O,cells,e,c.this,.nil⟩
   .obtain⟨p,m,ha,d,e',v,y⟩:=s.box b l q C u;exact⟨p,m,ha,d,e',(c.other l f).trans v,y.mono le (aS.1 C).1⟩
  .subst p2;have:q=cs:=(by rw[Y,s.iD]at u;simp at u;exact u.symm);subst this;exact⟨L,H,yf,cells,e,c.this,hv.mono le,by rw[Y];simp only[aW.mF,if_true];exact X⟩
 .obtain⟨p,fn,Z,z3,m,v,y⟩:=s.loop z4 l r N E;have f:l≠g:=by rintro rfl;rw[m]at n;cases n
  exact⟨p,fn,Z,z3,(c.other l f).trans m,v.mono le,y⟩
 .obtain⟨p,m,v,d,e',fz,y,h5,h6⟩:=s.tok t ht;have f:=T t ht;refine⟨p,λb z=>?_,v,d,e',fz,(c.other _ f).trans y,h5,λj hj N=>?_⟩
  .rcases pQ z with C|⟨-,C⟩
   .exact m b C
   .exact f C
  .rw[<-h6 j hj N];exact World.frozen?_of_block (w:=w) (c.other _ f)
 .have m:=(s.md r E).2;have f:r≠g:=by rintro rfl;rw[m]at n;cases n
  exact⟨(s.md r E).1,(c.other r f).trans m⟩
def aW.row(K:aW)(g off m size:Nat)(cells:Nat->Option aG):aW:=
 {K with ic:=λc j=>if c=g/\off<=j/\j<m then cells j else K.ic c j,tn:=K.tn+1,tk:=λd=>if d=K.tn then (g,m,size) else K.tk d}
def aW.Nk{K:aW}{g off m size}{cells}(h:∀j,off<=j->K.ic g j=af)(l:K.base<=g):K.Le (K.row g off m size cells):=by
 refine⟨O,λd j f c=>?_,λ_ _ h=>h,λ_ _ h=>h,Nat.le_succ _,λp n=>?_,λ_ h=>h,λ_ _=>rfl,λd j f c=>?_⟩
 .simp only[aW.row]
  grind
 .simp only[aW.row]
  grind
 .simp only[aW.row]at c
  grind
def bJ.row{w':bO}{h':Heap}(s:bJ K G ok w0 h w){g off m:Nat}{cells:Array aG}{e:aC}{fz:Nat × Nat}
 (A:h'.boxes=h.boxes) (H:h'.loops=h.loops) (DQ:h'.tn=h.tn+1) (L:∀t,alive h' t=V->t=h.tn∨(alive h t=V/\(K.tk t).1≠g))
 (E:K.base<=g) (tN:∀b:Nat,K.β[b]?≠J g) (wQ:∀j,off<=j->K.ic g j=af) (gC:w.heap.size<=w'.heap.size)
 (hos:w'.os=w.os) (aiC:w'.tape=w.tape) (Ms:w'.output=w.output)
 (f:∀k o,k≠g->w.heap[k]?=J o->w'.heap[k]?=J o) (n:w'.heap[g]?=J (.cells cells e fz))
 (T:∀o,w.heap[g]?=J o->∃c0 e0 z0,o=.cells c0 e0 z0)
 (auT:∀j c,K.ic g j=J c->cells[j]?=J c) (hom:off<=m) (_hm:m<=cells.size) (wP:∀j,m<=j->j<cells.size->j8 fz j=ai):
 bJ (K.row g off m cells.size (λj=>cells[j]?)) G ok w0 h' w':=by
 have le:=aW.Nk (m:=m) (size:=cells.size) (cells:=λj=>cells[j]?) wQ E;refine⟨?_,eS s.size gC,λl j z4 X=>?_,λl cs hg=>?_,by rw[A];exact s.iD,by rw[A];exact s.mV,λb l cs hb Z=>?_,by rw[H];exact s.lV,s.nT,λz3 l z1 N hr=>?_,by rw[DQ];simp[aW.row,s.tn],
  λt ht=>?_,λt x ht MN r=>?_,λz1 hr=>?_,s.all⟩
 .refine s.fD.trans ⟨hos,aiC,Ms,gC,λk hk=>?_⟩;have dj:k<w.heap.size:=l_ hk s.size
  grind
 .simp only[aW.row]at X;split at X
  .rename_i Z;obtain⟨rfl,_,_⟩:=Z;rw[cell_of n];exact X
  .by_cases p:l=g
   .subst p;rw[cell_of n];simp_all
   .have dj:=s.tX X;rw[<-s.ic l j z4 X];refine World.cell?_of_block (w:=w) ?_;simp_all
 .obtain⟨d,v,q⟩:=s.dB l cs hg;exact⟨d,v.mono le,λj c C=>le.ic _ _ _ (q j c C)⟩
 .rw[A]at Z;obtain⟨v,q,ha,d,e',Y,z⟩:=s.box b l cs hb Z;have p:l≠g:=λe=>tN b (e ▸ hb);refine⟨v,λj=>?_,ha,d,e',f l _ p Y,z.mono le (aS.1 hb).1⟩;simp only[aW.row];simp_all
 .rw[H]at hr;obtain⟨v,fn,tmps,z2,q,Y,z⟩:=s.loop z3 l z1 N hr;have p:l≠g:=by rintro rfl;obtain⟨_,_,_,h⟩:=T _ q;cases h
  exact⟨v,fn,tmps,z2,f l _ p q,Y.mono le,z⟩
 .rcases L t ht with rfl|⟨u,S⟩
  .simp only[aW.row,s.tn,if_true];refine⟨E,tN,λj C=>?_,cells,e,fz,n,O,λj C N=>(tt n j).trans (wP j C N)⟩
   grind
  .have avh:=qu u;have y:(K.row g off m cells.size (λj=>cells[j]?)).tk t=K.tk t:=le.tk t (by rw[s.tn];omega);rw[y];obtain⟨v,q,Y,d,e',fz',z,h5,h6⟩:=s.tok t u;refine⟨v,q,λj C=>?_,d,e',fz',f _ _ S z,h5,λj C N=>?_⟩
   .simp only[aW.row];simp_all
   .rw[<-h6 j C N,tt z,tt (f _ _ S z)]
 .rcases L t ht with rfl|⟨u,S⟩<;>rcases L x MN with rfl|⟨D,avf⟩
  .rfl
  .exfalso;have y:(K.row g off m cells.size (λj=>cells[j]?)).tk x=K.tk x:=le.tk x (by rw[s.tn];exact qu D);rw[y]at r;simp[aW.row,s.tn]at r;omega
  .exfalso;have y:(K.row g off m cells.size (λj=>cells[j]?)).tk t=K.tk t:=le.tk t (by rw[s.tn];exact qu u);rw[y]at r;simp[aW.row,s.tn]at r;omega
  .have y:(K.row g off m cells.size (λj=>cells[j]?)).tk t=K.tk t:=le.tk t (by rw[s.tn];exact qu u);have e2:(K.row g off m cells.size (λj=>cells[j]?)).tk x=K.tk x:=le.tk x (by rw[s.tn];exact qu D);rw[y,e2]at r;exact s.nw t x u D r
 .obtain⟨v,q⟩:=s.md z1 hr;have p:z1≠g:=by rintro rfl;obtain⟨_,_,_,h⟩:=T _ q;cases h
  exact⟨v,f z1 _ p q⟩
def aW.tight(K:aW)(g:Nat)(cells:Array aG):aW:={K with ic:=λc j=>if c=g then cells[j]? else K.ic c j}
def bJ.alf(s:bJ K G ok w0 h w)(cells:Array aG)(e:aC):
 K.Le (K.tight w.heap.size cells)/\bJ (K.tight w.heap.size cells) G ok w0 h {w with heap:=w.heap.push (.cells cells e)}:=by
 have L:∀j,K.ic w.heap.size j=af:=λj=>by
  cases d:K.ic w.heap.size j with|none=>rfl|some y=>have:=s.tX d;omega
 have le:K.Le (K.tight w.heap.size cells):=by
  refine⟨O,λn j y d=>?_,λ_ _ h=>h,λ_ _ h=>h,aV _,λ_ _=>rfl,λ_ h=>h,λ_ _=>rfl,λn j y d=>by
   simp only[aW.tight]at d;split at d
   .rename_i z0;rw[z0];exact .inr s.size
   simp_all⟩
  simp only[aW.tight];rw[aP]
  .exact d
  .grind
 have l:=s.push (.cells cells e);refine⟨le,l.fD,l.size,λn j z2 r=>?_,λn cs H=>?_,l.iD,l.mV,λb n cs q d=>?_,l.lV,l.nT,λZ n z1 N S=>?_,l.tn,λz x=>?_,l.nw,l.md,s.all⟩
 .simp only[aW.tight]at r;split at r
  .simp_all
  .exact l.ic n j z2 r
 .obtain⟨c,f,g⟩:=s.dB n cs H;exact⟨c,f.mono le,λj y v=>le.ic _ _ _ (g j y v)⟩
 .obtain⟨f,g,E,c,e',p,m⟩:=l.box b n cs q d;refine⟨f,λj=>?_,E,c,e',p,m.mono le (aS.1 q).1⟩;simp only[aW.tight];obtain⟨_,_,_,_,_,T,_⟩:=s.box b n cs q d
  grind
 .obtain⟨f,A,t,X,g,p,m⟩:=l.loop Z n z1 N S;exact⟨f,A,t,X,g,p.mono le,m⟩
 .obtain⟨f,g,p,c,e',C,m,D⟩:=l.tok z x;obtain⟨_,_,_,_,_,_,u,_⟩:=s.tok z x;refine⟨f,g,λj v=>?_,c,e',C,m,D⟩;simp only[aW.tight];have:=od u;have Y:(K.tight w.heap.size cells).tk z=K.tk z:=rfl
  grind
end
section
variable {P:bj}
def cQ{t:aC}{d:TypeDesc}(h:P.underlying t=J d)(w:bO):(underlying t).run P w=.ok d w:=run_underlying h w
def oG{t:aC}{i:TypeInfo}(h:P.info? t=J i)(w:bO):(typeInfo t).run P w=.ok i w:=by simp[typeInfo,h]
def art{t:aC}{n:Nat}(h:cB P t=J n):∃i,P.info? t=J i/\i.size=n:=by simpa [cB] using h
def lQ{t:aC}{n:Nat}(h:cB P t=J n)(w:bO):(sizeOf t).run P w=.ok n w:=by obtain⟨i,c,d⟩:=art h;simp[sizeOf,oG c,d]
def IG{t:aC}{b:Bool}(h:fx P t=J b)(w:bO):(isAgg t).run P w=.ok b w:=by
 unfold fx at h;unfold isAgg;cases c:P.underlying t with|none=>simp_all|some d=>rw[c]at h;rw[Sem.run_bind,cQ c];cases d<;>(injection h with h;subst h;rfl)
def OO{t:aC}{z:U}(h:fM P t=J z)(w:bO):∃v,(zeroValue t).run P w=.ok v w/\z=oB v:=by
 unfold fM at h;split at h
 .rename_i i c;simp only[dg]at h;obtain⟨v,d,rfl⟩:=h;exact⟨v,by simp[zeroValue,oG c,d],O⟩
 grind
def Lb{α:Type}{es:List (List α)}{sz}(c:∀r∈es,F r=sz):∀{i:Nat} {row:List α},es[i]?=J row->(es.flatten.drop (i*sz)).take sz=row:=by
 induction es with
 |nil=>simp_all|cons r es f=>
  have d:F r=sz:=c r b7;intro i row h;cases i with|zero=>simp_all|succ i=>have:=f (λr g=>c r (by grind)) (i:=i) (row:=row) (by simp_all);rw[<-this];simp only[jA];rw[xv,show(i+1)*sz=F r+i*sz by rw[d,jh];omega];rw[mW M];simp
def Lc{α:Type}{es:List (List α)}{sz}(c:∀r∈es,F r=sz):∀n:Nat,(es.take n).flatten=es.flatten.take (n*sz):=by
 induction es with
 |nil=>simp_all|cons r es f=>
  have d:F r=sz:=c r b7;intro n;cases n with
  |zero=>simp|succ n=>
   rw[List.take_succ_cons,jA,jA,f (λr g=>c r (by grind)) n,show(n+1)*sz=F r+n*sz by rw[d,jh];omega]
   grind
def SZ{α:Type}{es:List (List α)}{sz}(c:∀r∈es,F r=sz):∀n:Nat,(es.drop n).flatten=es.flatten.drop (n*sz):=by
 induction es with
 |nil=>simp_all|cons r es f=>
  have d:F r=sz:=c r b7;intro n;cases n with|zero=>simp|succ n=>rw[List.drop_succ_cons,jA,f (λr g=>c r (by grind)) n,show(n+1)*sz=F r+n*sz by rw[d,jh];omega];rw[xv,mW (M:F r<=F r+n*sz),(M:F r+n*sz-F r=n*sz)];simp
def lu{α:Type}{es:List (List α)}{sz}(c:∀r∈es,F r=sz):F es.flatten=F es*sz:=by
 induction es with
 |nil=>simp|cons r es d=>
  grind
end
section
variable {P:bj} {K:aW} {G:Nat->Option (List U)} {ok:aQ->Nat->Code->Bool} {w0 w:bO} {h:Heap}
def βJ{b:Nat}{g:Nat}(s:bJ K G ok w0 h w)(c:K.β[b]?=J g):∃cs,h.boxes[b]?=J cs:=by
 have d:b<F h.boxes:=by rw[<-s.iD];exact(aS.1 c).1
 simp_all
def RP(s:bJ K G ok w0 h w){a:U}{cs:List U}(f:xQ G h a=J cs){r:aG}(u:aO K a r):
 ∃g p m,r=.pointer (J ⟨g,p,af⟩)/\aH K cs m/\∀(j:Nat) (c:aG),m[j]?=J c->w.cell? ⟨g,p+j,af⟩=J c:=by
 unfold xQ at f;split at f
 .rename_i T d;simp only[dg]at f;obtain⟨l,n,rfl⟩:=f;cases u with
  |box b g _ C=>
   obtain⟨_,_,_,cells,e,z,A⟩:=s.box b g l C n;refine⟨g,d,(cells.toList.take (F l)).drop d,O,A.1.drop d,λj c t=>?_⟩;rw[cell_of z]
   grind
  |dB g _=>obtain⟨cells,x,y⟩:=s.dB g l n;refine⟨g,d,cells.drop d,O,x.drop d,λj c t=>?_⟩;exact s.ic _ _ _ (y (d+j) c (by simp_all))
 .rename_i q H i d;simp only[dg]at f;obtain⟨row,n,rfl⟩:=f;cases u with
  |elem _ _ _ _ g o p cells D v E N S L=>
   refine⟨g,p,((cells.drop (i*q)).take q).drop d,O,?_,λj c t=>?_⟩
   .have:=((v.drop (i*q)).take q).drop d
    rwa [Lb D n]at this
   .refine s.ic _ _ _ ?_
    grind
 grind
def VU(s:bJ K G ok w0 h w){t:aC}{a x:U}(c:aD P G h t a=J x){r:aG}(y:aO K a r):
 ∃g p v,r=.pointer (J ⟨g,p,af⟩)/\(loadVar t ⟨g,p,af⟩).run P w=.ok v w/\aO K x v:=by
 unfold aD at c;split at c
 .rename_i cs m n;obtain⟨g,p,d,rfl,l,f⟩:=RP s n y;split at c
  .rename_i z A;split at c
   .rename_i H;injection c with c;subst c;have u:=run_loadCells_list (P:=P) w ⟨g,p,af⟩ (d.take z) (λj v L=>by
     rw[Addr.gY]
     grind)
    have q:F (d.take z)=z:=(by rw[cR,<-l.length];omega);rw[q]at u;exact⟨g,p,.agg (d.take z).toArray,O,by simp[loadVar,IG m,lQ A,u],.agg _ _ (by simpa using l.take z)⟩
   grind
  grind
 .rename_i cs m n;obtain⟨g,p,d,rfl,l,f⟩:=RP s n y;cases cs with
  |nil=>grind
  |cons S cs=>
   simp at c;subst c;cases l with|cons _ D _ E C N=>have:=f 0 D O;simp only[xA]at this;exact⟨g,p,D,O,by simp[loadVar,IG m,this],C⟩
 grind
def BO{g:Nat}(off:Nat)(e:aC)(fz:Nat × Nat):∀(vs:List aG) (i:Nat) (cells:Array aG) (w:bO),
 w.heap[g]?=J (.cells cells e fz)->off+i+F vs<=cells.size->(∀v∈vs,mf v=V)->(∀j,off+i<=j->j<off+i+F vs->j8 fz j=ai)->
 ∃w' cZ,(storeCells ⟨g,off,af⟩ vs i).run P w=.ok () w'/\jp w w' g (.cells cZ e fz)/\
  cZ.toList=cells.toList.take (off+i)++vs++cells.toList.drop (off+i+F vs):=by
 intro vs
 induction vs with
 |nil=>intro i cells w l r d m;exact⟨w,cells,O,⟨O,O,O,O,λ_ _=>rfl,l⟩,by simp⟩|cons v rest A=>
  intro i cells w l r d m;simp only[dY]at r m;have q:off+i<cells.size:=by omega
  have z:v.oneCell'=V:=by have:=d v b7;cases v<;>first|rfl|simp[mf]at this
  have s:(store ((⟨g,off,af⟩:Addr).add i) v).run P w=.ok () (w.setCell ⟨g,off+i,af⟩ v):=by rw[Addr.gY,run_store P w _ v _ z,cell_of l,tt l,m (off+i) M M,jz q];simp
  have n:(w.setCell ⟨g,off+i,af⟩ v).heap[g]?=J (.cells (cells.setIfInBounds (off+i) v) e fz):=by simp[World.setCell,B8,l]
  obtain⟨w',cZ,y,c,f⟩:=A (i+1) _ _ n (by grind) (λN L=>d N (by grind)) (λj H C=>m j M M);refine⟨w',cZ,by simp only[storeCells,Sem.run_bind,s,Result.andThen_ok,y],⟨c.os,c.tape,c.output,by rw[c.size];simp_all,λk x=>?_,c.this⟩,?_⟩
  .rw[c.other k x];simp only[World.setCell,B8]
   grind
  .rw[f];simp only[Zy,dY];have p:off+i<F cells.toList:=(by simpa using q);rw[xz,av p];rw[(M:off+(i+1)=off+i+1),(M:off+i+(F rest+1)=off+i+1+F rest)];rw[JN,xv];have d:F (cells.toList.take (off+i))=off+i:=(by simp;omega);rw[d];have t:(cells.toList.take (off+i)).take (off+i+1)=cells.toList.take (off+i):=fR M;have u:(cells.toList.take (off+i)).drop (off+i+1+F rest)=[]:=mW M;rw[t,u];have D:off+i+1-(off+i)=1:=(by omega);have E:off+i+1+F rest-(off+i)=F rest+1:=(by omega);simp_all
def aqC{g off c aR:Nat}{e:aC}(f:c=off∨aR=0){vs:List aG}{cells:Array aG}{w:bO}(n:aR=0->vs=[])(d:w.heap[g]?=J (.cells cells e (0,0)))(p:off+F vs<=cells.size)(m:∀v∈vs,mf v=V):
 ∃w' cZ,(storeCells ⟨g,c,af⟩ vs 0).run P w=.ok () w'/\jp w w' g (.cells cZ e (0,0))/\cZ.toList=cells.toList.take (off+0)++vs++cells.toList.drop (off+0+F vs):=by
 rcases f with rfl|l
 .exact BO _ e (0,0) vs 0 cells w d M m (λj _ _=>by simp[j8])
 .have:=n l;subst this;exact⟨w,cells,O,⟨O,O,O,O,λ_ _=>rfl,d⟩,by simp⟩
def Yt{c cs:List U}{f d:List aG}(off:Nat)(g:aH K c f)(l:aH K cs d):aH K (dC c off cs) (f.take off++d++f.drop (off+F d)):=by unfold dC;rw[l.length];exact((g.take off).append l).append (g.drop _)
def Ys{c cs}(off)(d:c.all U.cW=V)(f:cs.all U.cW=V):(dC c off cs).all U.cW=V:=by
 rw[eF]at d f ⊢;intro l g;simp only[dC,List.mem_append]at g
 grind
def OX{α:Type}{c d:List α}{off}(h:off+F d<=F c):F (c.take off++d++c.drop (off+d.length))=F c:=by
 grind
def arK{α:Type}{d c:List α}{off n}(h:off+F c<=n)(m:n<=F d):(d.take off++c++d.drop (off+F c)).take n=(d.take n).take off++c++(d.take n).drop (off+F c):=by
 have f:(d.take n).take off=d.take off:=by grind
 have g:(d.take n).drop (off+F c)=(d.drop (off+F c)).take (n-(off+F c)):=by rw[List.drop_take]
 rw[f,g,JN];have l:F (d.take off++c)=off+F c:=by simp;omega
 rw[fR M,l]
def jp.same{w w'}{g}{o}(c:jp w w' g o)(h:w.heap[g]?=some o):w'.heap=w.heap:=by
 apply Array.ext_getElem?;intro k;by_cases d:k=g
 .subst d;rw[c.this,h]
 .exact c.other k d
def bJ.O_{w':bO}(s:bJ K G ok w0 h w){b g off:Nat}{cs f:List U}{vs:List aG}{cells cZ:Array aG}{e:aC}(x:K.β[b]?=J g)(hold:h.boxes[b]?=J f)(q:off+F cs<=F f)
 (l:w.heap[g]?=J (.cells cells e (0,0))) (c:jp w w' g (.cells cZ e (0,0))) (d:cZ.toList=cells.toList.take (off+0)++vs++cells.toList.drop (off+0+F vs)) (n:aH K cs vs) (v:cs.all U.cW=V):
 bJ K G ok w0 {h with boxes:=h.boxes.set b (dC f off cs)} w':=by
 obtain⟨Y,Z,T,u,H,m,E⟩:=s.box b g f x hold;rw[l]at m;injection m with m;injection m with m X;subst m;simp only[xA]at d;have z:F f<=F cells.toList:=by have:=E.le;simpa using this
 by_cases p:f=[]
 .subst p;have L:cs=[]:=by cases cs with|nil=>rfl|cons _ _=>simp_all
  subst L;have C:vs=[]:=by cases n;rfl
  subst C;have S:cZ=cells:=by apply Array.toList_inj.1;rw[d];simp
  subst S;have N:=c.same l;have r:h.boxes.set b (dC [] off [])=h.boxes:=by
   rw[show dC ([]:List U) off []=[] by simp[dC]];apply nV;intro k;rw[kQ];split
   .grind
   .rfl
  rw[r];exact s.same N c.tape c.os c.output
 .have y:F (dC f off cs)=F f:=by unfold dC;exact OX q
  refine s.arb x hold p y (λc0 H t=>?_) c ?_ (Ys off T v)
  .rw[l]at t;injection t with t;injection t with t;subst t;have:F cZ.toList=F cells.toList:=by rw[d];exact OX (by rw[<-n.length];omega)
   grind
  .rw[y,d,arK (by rw[<-n.length];omega) z];exact Yt off E.1 n
def xF{cs:List U}{vs:List aG}(h:aH K cs vs)(c:cs.all U.cW=V):∀v∈vs,mf v=V:=by intro v g;obtain⟨i,d⟩:=List.getElem?_of_mem g;obtain⟨m,l,f⟩:=h.get' d;exact ajn (eF.1 c m (cU l)) f
def ya(j):j8 (0,0) j=ai:=by simp[j8]
def asp(s:bJ K G ok w0 h w){t:aC}{a x:U}{h':Heap}(c:bY P h t a x=J h'){m d:aG}(C:aO K a m)(D:aO K x d):
 ∃w',(Instr.storeAt t m d).run P w=.ok () w'/\bJ K G ok w0 h' w':=by
 unfold bY at c;split at c
 .rename_i b v cs Z q z;split at c
  .rename_i f hold;split at c
   .rename_i g;injection c with c;subst c;cases C with|box _ S _ p=>obtain⟨T,X,Y,cells,e,u,E⟩:=s.box b S f p hold;obtain⟨l,y⟩:=FS q D;have r:d.cells.size=Z:=(by rw[<-g.1,l.length];simp);have A:F f<=cells.size:=E.le;obtain⟨w',n,H,L,N⟩:=BO (P:=P) v e (0,0) d.cells.toList 0 cells w u (by grind) (xF l y) (λj _ _=>ya j);refine⟨w',by simp[Instr.storeAt,Instr.sureAddr,storeVar,lQ z,r,H],s.O_ p hold M u L N l y⟩
   grind
  grind
 grind
end
section
variable {P:bj} {K:aW} {G:Nat->Option (List U)} {ok:aQ->Nat->Code->Bool} {w0 w:bO} {h:Heap}
def Yields(K:aW)(G:Nat->Option (List U))(ok:aQ->Nat->Code->Bool)(w0:bO)(x:U)(h':Heap)(r:Result Next):Prop:=
 ∃c d w',K.Le c/\bJ c G ok w0 h' w'/\aO c x d/\(r=.ok (.value d) w'∨(r=.ok .skip w'/\d=undef))
def Yields.kn(s:bJ K G ok w0 h w){x:U}{v:aG}(d:aO K x v){r:Result Next}(c:r=.ok (.value v) w):Yields K G ok w0 x h r:=
 ⟨K,v,w,.refl K,s,d,.inl c⟩
def agr(off):∀(l:List aG) (i:Nat) (cells:Array aG),off+i+F l<=cells.size->
 ((l.zipIdx i).foldl (λcs p=>cs.setIfInBounds (off+p.2) p.1) cells).toList=cells.toList.take (off+i)++l++cells.toList.drop (off+i+F l):=by
 intro l
 induction l with
 |nil=>simp_all|cons t rest q=>
  intro i cells n;simp only[dY]at n;have m:off+i<cells.size:=by omega
  simp only[List.zipIdx_cons,List.foldl_cons];rw[q (i+1) _ (by grind)];simp only[Zy,dY];have c:off+i<F cells.toList:=by simpa using m
  rw[xz,av c];rw[(M:off+(i+1)=off+i+1),(M:off+i+(F rest+1)=off+i+1+F rest)];rw[JN,xv];have d:F (cells.toList.take (off+i))=off+i:=by simp;omega
  rw[d];have f:(cells.toList.take (off+i)).take (off+i+1)=cells.toList.take (off+i):=fR M;have g:(cells.toList.take (off+i)).drop (off+i+1+F rest)=[]:=mW M;rw[f,g];have r:off+i+1-(off+i)=1:=by omega
  have s:off+i+1+F rest-(off+i)=F rest+1:=by omega
  simp_all
def aum(f)(vs cells:Array aG):vs.zipIdx.foldl f cells=(vs.toList.zipIdx 0).foldl f cells:=by rw[<-Array.foldl_toList,Array.toList_zipIdx]
def SQ{g}:∀{parts:List (Nat × U)} {cells d:List U},qB g cells parts=J d->cells.all U.cW=V->d.all U.cW=V:=by
 intro parts
 induction parts with
 |nil=>intro cells d f m;simp[qB]at f;simp_all|cons u rest s=>
  intro cells d f m;simp only[qB]at f;split at f
  .rename_i n t cs v c;split at f
   .refine s f (Ys n m ?_);unfold U.bG at c;split at c
    .simp_all
    .grind
    .grind
    .rename_i p q r;injection c with c;subst c;have x:u.2.cW=V:=by cases l:u.2<;>first|rfl|exact absurd l (p _)|exact absurd l (q _)|exact absurd l r
     grind
   grind
  grind
def F9{l:Nat->Option (Nat × Nat)}:∀{parts:List (Nat × U)} {cells g:List U} {c:List (Nat × aG)} {cZ:Array aG},
 qB l cells parts=J g->aH K cells cZ.toList->(c.map (·.1)=parts.map (·.1))->aH K (parts.map (·.2)) (c.map (·.2))->
 ∃d,Instr.fill l cZ c=J d/\aH K g d.toList:=by
 intro parts
 induction parts with
 |nil=>
  intro cells g c cZ f p m r;have:c=[]:=by simpa using m
  subst this;simp[qB]at f;subst f;exact⟨cZ,O,p⟩
 |cons X rest D=>
  obtain⟨i,Z⟩:=X;intro cells g c cZ f p m r;cases c with
  |nil=>grind
  |cons E x=>
   obtain⟨T,L⟩:=E;simp only[eD,P2]at m;obtain⟨rfl,m⟩:=m;simp only[eD]at r;cases r with
   |cons _ _ _ _ C z=>
    simp only[qB]at f;split at f
    .rename_i n t cs y u;split at f
     .rename_i s;obtain⟨v,_⟩:=FS u C;have N:L.cells.size=t:=(by rw[<-s.1,v.length];simp);have A:cZ.size=F cells:=(by rw[p.length];simp);have q:=agr n L.cells.toList 0 cZ (by grind);obtain⟨d,Y,H⟩:=D (cZ:=L.cells.zipIdx.foldl (λcs (S,j)=>cs.setIfInBounds (n+j) S) cZ) f (by rw[aum,q];simpa using Yt n p v) m z;refine⟨d,?_,H⟩;simp only[Instr.fill,y];simp_all
     grind
    grind
def NU{ρ:bP->U}{ρ':bP->aG}(c:∀x,aO K (ρ x) (ρ' x))(parts:Array (Nat × bP)):
 ((parts.map λp=>(p.1,ρ' p.2)).toList.map (·.1)=(parts.toList.map λp=>(p.1,ρ p.2)).map (·.1))/\
 aH K ((parts.toList.map λp=>(p.1,ρ p.2)).map (·.2)) ((parts.map λp=>(p.1,ρ' p.2)).toList.map (·.2)):=by
 simp only[B_,zK];exact⟨O,aH.map_mk λp _=>c p.2⟩
def zB{t:aC}{zero:List U}(c:(fM P t).bind U.bG=J zero)(w:bO):∃v,(zeroValue t).run P w=.ok v w/\aH K zero v.cells.toList/\zero.all U.cW=V:=by simp only[wd]at c;obtain⟨n,d,f⟩:=c;obtain⟨v,g,rfl⟩:=OO d w;obtain⟨l,m⟩:=FS f (HH (K:=K) v);simp_all
def akU(fields:Array Field)(d:∀f∈fields.toList,(P.info? f.type).isSome=V)(w:bO):
 ∃c:Array (Nat × Nat),(fields.mapM (m:=Sem) λ(f:Field)=>do pure (f.offset,<-sizeOf f.type)).run P w=.ok c w/\∀i,c[i]?=placesOf P fields i:=by
 have p:∀(n:List Field),(∀f∈n,(P.info? f.type).isSome=V)->
  (n.mapM (m:=Sem) λ(f:Field)=>do pure (f.offset,<-sizeOf f.type)).run P w=.ok (n.map λf=>(f.offset,(cB P f.type).getD 0)) w:=by
  intro n
  induction n with
  |nil=>simp_all|cons f n t=>intro q;have g:=q f b7;obtain⟨i,l⟩:=aaX.1 g;have s:cB P f.type=J i.size:=(by simp[cB,l]);rw[List.mapM_cons,Sem.run_bind,Sem.run_bind,lQ s];simp_all
 refine⟨(fields.toList.map λf=>(f.offset,(cB P f.type).getD 0)).toArray,?_,λi=>?_⟩
 .rw[Array.mapM_eq_mapM_toList,Sem.run_map,p fields.toList d];rfl
 .simp only[iG,List.getElem?_map,Fb,placesOf];cases g:fields[i]? with|none=>rfl|some f=>have r:f∈fields.toList:=(by simpa using Array.mem_of_getElem? g);obtain⟨i,l⟩:=aaX.1 (d f r);simp[cB,l]
def adC{t:aC}{parts:Array (Nat × bP)}{ρ:bP->U}{ρ':bP->aG}(L:∀x,aO K (ρ x) (ρ' x)){x:U}
 (c:iy P t (parts.toList.map λp=>(p.1,ρ p.2))=J x) (w:bO):∃v,(Instr.build t (parts.map λp=>(p.1,ρ' p.2))).run P w=.ok v w/\aO K x v:=by
 obtain⟨D,E⟩:=NU L parts;unfold iy at c;split at c
 .rename_i fields zero q r;obtain⟨X,f,g,_⟩:=zB (K:=K) r w;split at c
  .rename_i n;simp only[dg]at c;obtain⟨C,m,rfl⟩:=c;obtain⟨l,y,z⟩:=akU (P:=P) fields (λS T=>E_.1 n S (by simp_all)) w;have A:placesOf P fields=(l[·]?):=(by funext i;exact(z i).symm);rw[A]at m;obtain⟨d,s,u⟩:=F9 m g D E;exact⟨.agg d,by simp only[Instr.build,Sem.run_bind,f,Result.andThen_ok,cQ q,y,s,Sem.run_pure],.agg _ _ u⟩
  grind
 .rename_i Y elem zero q r;obtain⟨X,f,g,_⟩:=zB (K:=K) r w;split at c
  .rename_i N H;simp only[dg]at c;obtain⟨C,m,rfl⟩:=c;obtain⟨d,s,u⟩:=F9 m g D E;exact⟨.agg d,by simp only[Instr.build,Sem.run_bind,f,Result.andThen_ok,cQ q,lQ H,s,Sem.run_pure],.agg _ _ u⟩
  grind
 grind
def SP{sz}:∀{parts:List (Nat × U)} {rows c:List (List U)},(∀r∈rows,F r=sz)->wG sz rows parts=J c->
 qB (λi=>J (i*sz,sz)) rows.flatten parts=J c.flatten/\(∀r∈c,F r=sz)/\F c=F rows:=by
 intro parts
 induction parts with
 |nil=>intro rows c g d;simp[wG]at d;subst d;exact⟨O,g,O⟩|cons A rest t=>
  obtain⟨i,C⟩:=A;intro rows c g d;simp only[wG]at d;split at d
  .rename_i cs m;split at d
   .rename_i f;have l:∀r∈rows.set i cs,F r=sz:=λr q=>by
     grind
    obtain⟨y,v,z⟩:=t l d;have n:=lu g;have p:i*sz+sz<=F rows.flatten:=(by rw[n];have:(i+1)*sz<=F rows*sz:=ma _ f.2;rw[jh]at this;omega);have x:(rows.set i cs).flatten=dC rows.flatten (i*sz) cs:=by
     clear y v z t d p l;unfold dC;rw[f.1]
     induction rows generalizing i with
     |nil=>simp_all|cons r rows u=>
      have s:F r=sz:=g r b7;cases i with|zero=>simp_all|succ i=>have:=u i (λr q=>g r (by grind)) ⟨f.1,by simp_all⟩ (lu (λr q=>g r (by grind)));simp only[List.set_cons_succ,jA,this];rw[show(i+1)*sz=F r+i*sz by rw[s,jh];omega,JN,xv];rw[fR (M:F r<=F r+i*sz),mW (M:F r<=F r+i*sz+sz)];rw[(M:F r+i*sz-F r=i*sz),(M:F r+i*sz+sz-F r=i*sz+sz)];simp
    refine⟨?_,v,by simp_all⟩;simp only[qB,m];simp_all
   grind
  grind
def Ew(zero:Array aG)(n):((vQ (n*zero.size)).map (zero[·%zero.size]!)).toList=(bB n zero.toList).flatten:=by
 induction n with
 |zero=>simp|succ n f=>
  rw[List.replicate_succ',oi,<-f];simp only[B_,Array.toList_range,jh,Nat.one_mul,List.range_add,jB,zK,jA,aah,ga];congr 1;apply List.ext_getElem
  .simp
  .intro i d g;have c:i<zero.size:=(by simpa using d);simp[Nat.mod_eq_of_lt c,c]
def aH.x9{zero:List U}{z:List aG}(c:aH K zero z):∀n:Nat,aH K (bB n zero).flatten (bB n z).flatten
 |0=>.nil
 |n+1=>by simp only[List.replicate_succ,jA];exact c.append (aH.x9 c n)
def Ij{zero}(c:zero.all U.cW=V)(n):(bB n zero).flatten.all U.cW=V:=by simp_all
def adB(s:bJ K G ok w0 h w){t:aC}{len:Nat}{parts:Array (Nat × bP)}{ρ:bP->U}{ρ':bP->aG}(T:∀x,aO K (ρ x) (ρ' x)){x:U}
 (d:ff P t len (parts.toList.map λp=>(p.1,ρ p.2))=J x):
 ∃n v w',K.Le n/\bJ n G ok w0 h w'/\aO n x v/\(Instr.buildSlice t len (parts.map λp=>(p.1,ρ' p.2))).run P w=.ok v w':=by
 obtain⟨X,Y⟩:=NU T parts;unfold ff at d;split at d
 .rename_i elem z;split at d
  .rename_i c zero y S;obtain⟨m,A,l,C⟩:=zB (K:=K) S w;split at d
   .rename_i L;simp only[dg]at d;obtain⟨E,N,rfl⟩:=d;obtain⟨f1,f2,f3⟩:=SP (λz1 hr=>by simp_all) N;have D:m.cells.size=c:=(by rw[<-L.2.1,l.length];simp);have f:((vQ (len*c)).map (m.cells[·%m.cells.size]!)).toList=(bB len m.cells.toList).flatten:=(by rw[<-D];exact Ew _ _);obtain⟨g,q,Z⟩:=F9 (cZ:=(vQ (len*c)).map (m.cells[·%m.cells.size]!)) f1 (by rw[f];exact l.x9 len) X Y;obtain⟨le,s'⟩:=s.alf g elem;refine⟨_,.slice (J ⟨w.heap.size,0,af⟩) len len,_,le,s',?_,?_⟩
    .refine .list .tight c E w.heap.size 0 len len g.toList (by simp_all) f2 (Z.mono le) (λj z0 hj=>?_) ⟨aV _,O⟩ (SQ f1 (Ij C len));simp only[aW.tight,nX,if_true];simp_all
    .by_cases r:len*c=0
     .have u:len=0:=by
       rcases aaN.1 r with h|h
       .exact h
       .omega
      subst u;simp only[J1]at q;have H:(vQ 0).map (λx=>(#[]:Array aG)[x%(#[]:Array aG).size]!)=(vQ 0).map (m.cells[·%m.cells.size]!):=(by simp);simp only[Instr.buildSlice,Sem.run_bind,cQ z,Result.andThen_ok,lQ y,J1];simp only[mY,gt_iff_lt,if_false,aaT,if_true,Sem.run_pure,Result.andThen_ok,H,q,newRow,Sem.run_bind,run_newObj]
     .simp only[Instr.buildSlice,Sem.run_bind,cQ z,Result.andThen_ok,lQ y];rw[aP M,aP r];simp only[Sem.run_pure,Sem.run_bind,A,Result.andThen_ok,q,newRow,run_newObj]
   grind
  grind
 grind
def abY(s:bJ K G ok w0 h w){t:aC}{cs:List U}(l:(fM P t).bind U.bG=J cs):
 ∃c v w',K.Le c/\bJ c G ok w0 (h.box cs).2 w'/\aO c (h.box cs).1 v/\(Instr.alloc t V (.tuple #[])).run P w=.ok v w':=by
 obtain⟨p,d,f,g⟩:=zB (K:=K) l w;obtain⟨m,n⟩:=s.NF t f g;exact⟨_,_,_,K.Ni _,m,n,by simp[Instr.alloc,d,newVar,newRow]⟩
def adr(s:bJ K G ok w0 h w){t:aC}{x:U}{cs:List U}(f:x.bG=J cs){c:aG}(g:aO K x c):
 ∃d v w',K.Le d/\bJ d G ok w0 (h.box cs).2 w'/\aO d (h.box cs).1 v/\(Instr.box t c).run P w=.ok v w':=by
 obtain⟨n,p⟩:=FS f g;obtain⟨l,m⟩:=s.NF t n p;exact⟨_,_,_,K.Ni _,l,m,by simp[Instr.box,newVar,newRow]⟩
def akQ(s:bJ K G ok w0 h w){t:aC}{l c x:U}{h':Heap}(d:vj P h t l c=J (x,h')){D C:aG}(X:aO K l D)(T:aO K c C):
 ∃p v w',K.Le p/\bJ p G ok w0 h' w'/\aO p x v/\(Instr.makeSlice t D C).run P w=.ok v w':=by
 unfold vj at d;split at d
 .rename_i elem kl l kc c Y;obtain⟨rfl,_⟩:=X.gI;obtain⟨rfl,_⟩:=T.gI;split at d
  .rename_i i zero u Z;obtain⟨r,y,n,z⟩:=zB (K:=K) Z w;split at d
   .rename_i g;obtain⟨E,H,h3,L,h5,N⟩:=g;injection d with d;obtain⟨rfl,rfl⟩:=eW d;have m:i.zero=J r:=by
     simp only[zeroValue,Sem.run_bind,oG u,Result.andThen_ok]at y;cases hzz:i.zero with|none=>simp_all|some v=>simp_all
    have A:r.cells.size=i.size:=(by rw[<-N,n.length];simp);have q:=run_make (P:=P) w t elem i r Y u m kl kc l c E H L M;have f:(madeCells r.cells (c.toNat*i.size)).toList=(bB c.toNat r.cells.toList).flatten:=(by rw[<-A];exact Ew _ _);obtain⟨q1,q2⟩:=s.NF (cells:=madeCells r.cells (c.toNat*i.size)) elem (by rw[f];exact n.x9 _) (Ij z _);cases q2 with|box _ _ _ S=>exact⟨_,_,_,K.Ni _,q1,.arr _ _ _ _ _ _ _ S M (aV _) (.inl O) (.inl O),q⟩
   grind
  grind
 grind
def oS{hi:Nat}{x:Option U}{d n:Nat}(f:fT hi x d=J n){l:Option aG}(q:∀a,x=J a->∃c,l=J c/\aO K a c)(r:x=af->l=af)(w:bO):
 (l=af/\n=d/\x=af)∨(∃c,l=J c/\(∀(top:Nat) (g:Go.BoundsCode),hi<=top->(Instr.sliceBound c top g).run P w=.ok n w)/\n<=hi/\x.isSome=V):=by
 unfold fT at f;split at f
 .simp_all
 .rename_i _ k t;split at f
  .rename_i m;injection f with f;subst f;obtain⟨c,rfl,p⟩:=q _ O;obtain⟨rfl,_⟩:=p.gI;refine .inr ⟨_,O,λtop g s=>?_,by omega,O⟩;have:t<=(top:Int):=(by omega);simp[Instr.sliceBound,asIntOf,m.1,this]
  grind
 grind
def z'{lo hi mx:Option U}{v s mx':Option aG}(u:∀a,lo=J a->∃c,v=J c/\aO K a c)(x:lo=af->v=af)
 (z:∀a,hi=J a->∃c,s=J c/\aO K a c) (A:hi=af->s=af) (S:∀a,mx=J a->∃c,mx'=J c/\aO K a c) (Y:mx=af->mx'=af)
 {top aR len m g l:Nat} (r:Bool) (e1:fT top mx top=J m) (e2:fT m hi len=J g) (D:fT g lo 0=J l)
 (t:len<=aR) (E:top<=aR) (N:mx.isSome=V->hi.isSome=V) (w:bO):
 ∃m',(Instr.sliceBounds r len aR v s mx').run P w=.ok (l,g,m') w/\(mx=af->m'=aR/\m=top)/\(mx.isSome=V->m'=m)/\l<=g/\(hi=af->g=len)/\g<=m'/\(hi.isSome=V->g<=m):=by
 rcases oS (P:=P) e1 S Y w with⟨rfl,rfl,rfl⟩|⟨c1,rfl,q1,nK,T⟩
 .rcases oS (P:=P) e2 z A w with⟨rfl,rfl,rfl⟩|⟨Z,rfl,H,f,X⟩
  .rcases oS (P:=P) D u x w with⟨rfl,rfl,rfl⟩|⟨L,rfl,y,n,_⟩
   .exact⟨aR,by simp[Instr.sliceBounds],λ_=>⟨O,O⟩,b7,bV _,λ_=>rfl,t,by simp⟩
   .have q:=λd=>y g d (aV _);exact⟨aR,by simp[Instr.sliceBounds,q],λ_=>⟨O,O⟩,b7,n,λ_=>rfl,t,by simp⟩
  .have p:=λd=>H aR d M;rcases oS (P:=P) D u x w with⟨rfl,rfl,rfl⟩|⟨L,rfl,y,n,_⟩
   .exact⟨aR,by simp[Instr.sliceBounds,p],λ_=>⟨O,O⟩,b7,bV _,λe=>by simp_all,by omega,λ_=>f⟩
   .have q:=λd=>y g d (aV _);exact⟨aR,by simp[Instr.sliceBounds,p,q],λ_=>⟨O,O⟩,b7,n,λe=>by simp_all,by omega,λ_=>f⟩
 .have X:=N T;have C:=λd=>q1 aR d E;rcases oS (P:=P) e2 z A w with⟨_,_,rfl⟩|⟨Z,rfl,H,f,_⟩
  .grind
  .have p:=λd=>H m d (aV _);rcases oS (P:=P) D u x w with⟨rfl,rfl,rfl⟩|⟨L,rfl,y,n,_⟩
   .exact⟨m,by simp[Instr.sliceBounds,C,p],λe=>by simp_all,λ_=>rfl,bV _,λe=>by simp_all,f,λ_=>f⟩
   .have q:=λd=>y g d (aV _);exact⟨m,by simp[Instr.sliceBounds,C,p,q],λe=>by simp_all,λ_=>rfl,n,λe=>by simp_all,f,λ_=>f⟩
def NQ{ρ:bP->U}{ρ':bP->aG}(d:∀x,aO K (ρ x) (ρ' x))(o:Option bP):
 (∀a,o.map ρ=J a->∃c,o.map ρ'=J c/\aO K a c)/\(o.map ρ=af->o.map ρ'=af):=by
 cases o with|none=>simp_all|some x=>simp_all
def aky{k:Tok}{sz:Nat}{es:List (List U)}{g off aR size l c m':Nat}{f d:Bool}
 (Z:aO K (.list k sz es) (.slice (J ⟨g,off,af⟩) (F es) aR)) (C:size=sz∨es=[]) (T:l<=c) (S:c<=F es) (p:c<=m') (N:m'<=aR)
 (s:f=V->c=F es/\m'=aR) (X:d=V->m'=c):
 aO K (.list (pK k f d (c-l)) sz ((es.take c).drop l)) (.slice (J (if m'=l then ⟨g,off,af⟩ else (⟨g,off,af⟩:Addr).add (l*size))) (c-l) (m' - l)):=by
 cases Z with
 |fP=>
  have x:c=0:=by simpa using S
  subst x;have l0:l=0:=by omega
  subst l0;have m0:m'=0:=by omega
  subst m0;refine .list _ sz [] g off 0 0 [] O b7 .nil b7 ⟨aV _,?_⟩ O;unfold pK
  grind
 |list _ _ _ _ _ z1 _ cells hn t E wQ Y ha=>
  have n:F ((es.take c).drop l)=c-l:=by simp;omega
  have m:(if m'=l then (⟨g,off,af⟩:Addr) else (⟨g,off,af⟩:Addr).add (l*size))=⟨g,if m'=l then off else off+l*size,af⟩:=by
   split
   .rfl
   .rw[Addr.gY]
  rw[m];have A:∀H∈(es.take c).drop l,F H=sz:=λH p=>t H (xy (List.mem_of_mem_drop p));have y:((es.take c).drop l).flatten=(es.flatten.take (c*sz)).drop (l*sz):=by rw[SZ (λH p=>t H (xy p)),Lc t]
  refine .list _ sz _ g _ _ _ ((cells.take (c*sz)).drop (l*sz)) n.symm A (by rw[y];exact(E.take _).drop _) (λj z0 hj=>?_) ?_ ?_
  .grind
  rotate_left
  .grind
  .refine⟨M,?_⟩;have q:=Y.2;cases k with
   |nil=>simp_all|tight=>
    simp only[pK]
    grind
   |held=>
    simp only[pK]
    grind
   |free z2=>
    simp only[pK];simp only at q;cases d with
    |true=>simp_all|false=>
     by_cases r:(f&&c-l !=0)=V
     .simp only[jo,if_false,r,if_true];simp only[bm,bne_iff_ne,ne_eq]at r;obtain⟨v,L⟩:=s r.1;have z:es≠[]:=(by rintro rfl;simp at v;omega);have u:size=sz:=C.resolve_right z;obtain⟨t1,t2,t3,t4⟩:=q;subst u;rw[aP M];refine⟨t1,t2,?_,?_⟩
      .rw[t3,<-v,JZ];have:l*size<=c*size:=ma _ T;omega
      .rw[L,JZ];have:l*size<=aR*size:=ma _ M;omega
     grind
def arz{t:aC}{x y:U}{lo hi mx:Option bP}{ρ:bP->U}{ρ':bP->aG}(hρ:∀x,aO K (ρ x) (ρ' x))
 (d:gi P t x (lo.map ρ) (hi.map ρ) (mx.map ρ)=J y) {c:aG} (hx:aO K x c) (w:bO):
 ∃v,(Instr.sliceAt t c (lo.map ρ') (hi.map ρ') (mx.map ρ')).run P w=.ok v w/\aO K y v:=by
 obtain⟨D,E⟩:=NQ hρ lo;obtain⟨q,r⟩:=NQ hρ hi;obtain⟨l,f⟩:=NQ hρ mx;unfold gi at d;split at d
 .cases d
 rename_i auQ;have S:(mx.map ρ).isSome=V->(hi.map ρ).isSome=V:=by
  intro h1;cases h2:hi.map ρ with|some _=>rfl|none=>simp_all
 split at d
 .rename_i z4 L;split at d
  .cases d
  rename_i hmn;have aii:mx.map ρ=af:=by simpa using hmn
  split at d
  .rename_i p C;split at d
   .rename_i A H;injection d with d;subst d;obtain⟨rfl,_⟩:=hx.gI;obtain⟨m,u,q2,_⟩:=z' (P:=P) (mx:=af) (mx':=af) D E q r b7 b7 ai (top:=z4.size) (aR:=z4.size) (m:=z4.size) rfl C H (aV _) (aV _) b7 w;refine⟨_,?_,.v (.string (z4.extract A p)) rfl⟩;simp only[Instr.sliceAt,Sem.run_bind,cQ L,Result.andThen_ok,Instr.slice,f aii];simp[u]
   grind
  grind
 .rename_i elem k sz es L;split at d
  .rename_i z z0 X n;split at d
   .rename_i p C;split at d
    .rename_i A H;split at d
     .rename_i gC;injection d with d;subst d;have Z:p<=es.length:=by rcases oS (P:=P) n l f w with⟨_,rfl,_⟩|⟨_,_,_,N,_⟩<;>rcases oS (P:=P) C q r w with⟨_,rfl,_⟩|⟨_,_,_,tL,_⟩<;>omega
      cases hx with
      |nil=>
       obtain⟨m,u,q2,q3,q4,q5,q6,q7⟩:=z' (P:=P) D E q r l f V (top:=0) (aR:=0) (len:=0) n C H (aV _) (aV _) S w;have Az:p=0:=(by simpa using Z);subst Az;have l0:A=0:=(by omega);subst l0;have Mf:m=0:=by
        rcases oS (P:=P) n l f w with⟨_,_,hn⟩|⟨_,_,_,N,T⟩
        .simp_all
        .simp_all
       subst Mf;refine⟨.slice af 0 0,?_,?_⟩
       .simp only[Instr.sliceAt,Sem.run_bind,cQ L,Result.andThen_ok,Instr.slice,u,lQ X];simp
       .simp only[pK,aaC,aaf];exact .nil _
      |fP _ a0=>
       obtain⟨m,u,q2,q3,q4,q5,q6,q7⟩:=z' (P:=P) D E q r l f V (top:=0) (aR:=0) (len:=0) n C H (aV _) (aV _) S w;have Az:p=0:=(by simpa using Z);subst Az;have l0:A=0:=(by omega);subst l0;have Mf:m=0:=by
        rcases oS (P:=P) n l f w with⟨_,_,hn⟩|⟨_,_,_,N,T⟩
        .simp_all
        .simp_all
       subst Mf;refine⟨.slice (J a0) 0 0,?_,?_⟩
       .simp only[Instr.sliceAt,Sem.run_bind,cQ L,Result.andThen_ok,Instr.slice,u,lQ X];simp
       .have aid:z0=0:=by
         rcases oS (P:=P) n l f w with⟨_,hn,_⟩|⟨_,_,_,N,T⟩
         .omega
         .simp_all
        subst aid;have hct:∀z2:Option U,pK .tight (decide (0=([]:List (List U)).length)&&z2.isNone) (z2.isSome&&decide (0=0)) (0 - 0)=.tight:=(by intro z2;cases z2<;>rfl);rw[hct];simp only[aaC,aaf];exact .fP _ _
      |list _ _ _ z1 s z3 g cells hn hr gq wQ ht ha=>
       subst hn;obtain⟨m,u,q2,q3,q4,q5,q6,q7⟩:=z' (P:=P) D E q r l f V (top:=es.length) (aR:=g) (len:=es.length) n C H ht.1 ht.1 S w;have aie:m<=g:=by
        rcases oS (P:=P) n l f w with⟨_,_,hn⟩|⟨_,_,_,N,T⟩
        .simp_all
        .have:=q3 T;have:=ht.1;omega
       refine⟨.slice (J (if m=A then ⟨z1,s,af⟩ else (⟨z1,s,af⟩:Addr).add (A * z))) (p - A) (m - A),?_,?_⟩
       .simp only[Instr.sliceAt,Sem.run_bind,cQ L,Result.andThen_ok,Instr.slice,u,lQ X,Sem.run_pure]
        grind
       .refine aky (.list _ _ _ z1 s _ g cells rfl hr gq wQ ht ha) gC q4 Z q6 aie (λh=>?_) (λh=>?_)<;>simp_all
     grind
    grind
   grind
  grind
 .rename_i elem b s len g L;split at d
  .rename_i z z0 X n;split at d
   .rename_i p C;split at d
    .rename_i A H;cases hx with
     |arr _ z1 _ _ _ Y qx hβ hl ph AM rD=>
      obtain⟨m,u,q2,q3,q4,q5,q6,q7⟩:=z' (P:=P) D E q r l f V (top:=g) (aR:=qx) (len:=len) n C H M ph S w;have hmc:z0<=g:=(by rcases oS (P:=P) n l f w with⟨_,z2,_⟩|⟨_,_,_,z2,_⟩<;>omega);have hmm:z0<=m:=by
       cases hq:zP ρ mx with|none=>simp_all|some z5=>simp_all
      have Z:p<=z0:=by
       cases hq:zP ρ mx with
       |none=>
        cases uV:zP ρ hi with|none=>simp_all|some z5=>simp_all
       |some z5=>simp_all
      have wU:(Instr.sliceAt t (.slice (J ⟨z1,Y,af⟩) len qx) (zP ρ' lo) (zP ρ' hi) (zP ρ' mx)).run P w=.ok (.slice (J ⟨z1,if m=A then Y else Y+A * z,af⟩) (p - A) (m - A)) w:=by
       simp only[Instr.sliceAt,Sem.run_bind,cQ L,Result.andThen_ok,Instr.slice,u,lQ X,Sem.run_pure];congr 2;split
       .rfl
       .simp[Addr.gY]
      refine⟨_,wU,?_⟩;split at d
      .cases d
      rename_i AR;split at d
      .rename_i Mg;injection d with d;subst d;have:=q3 Mg.1;rw[(M:p - A=0),(M:m - A=0)];exact .fP _ _
      .injection d with d;subst d;refine .arr _ _ _ _ _ _ _ hβ M M ?_ ?_
       .grind
       .cases hq:zP ρ mx with
        |some z5=>simp_all|none=>
         obtain⟨r1,r2⟩:=q2 hq;by_cases Mg:z0=A
         .omega
         .rw[aP Mg];by_cases Mc:A=0
          .simp_all
          .exact .inr (.inr (.inl (by have:=JV (aaQ Mc) (aaQ AR);omega)))
    grind
   grind
  grind
 .rename_i z3 elem b s L;split at d
  .rename_i z z0 X n;split at d
   .rename_i p C;split at d
    .rename_i A H;injection d with d;subst d;cases hx with
     |box _ z1 _ hβ=>
      obtain⟨m,u,q2,q3,q4,q5,q6,q7⟩:=z' (P:=P) D E q r l f ai (top:=z3) (aR:=z3) (len:=z3) n C H (aV _) (aV _) S w;have hm:m=z0:=by
       rcases oS (P:=P) n l f w with⟨_,_,hn⟩|⟨_,_,_,N,T⟩
       .simp_all
       .simp_all
      subst hm;refine⟨.slice (J ⟨z1,if m=A then s else s+A * z,af⟩) (p - A) (m - A),?_,.arr _ _ _ _ _ _ _ hβ M (aV _) (.inl rfl) (.inl rfl)⟩;simp only[Instr.sliceAt,Sem.run_bind,cQ L,Result.andThen_ok,Instr.sureAddr,u,lQ X,Sem.run_pure];congr 3;split
      .rfl
      .simp[Addr.gY]
    grind
   grind
  grind
 grind
def KX{f:Field}{n:Nat}(d:cB P f.type=J n)(c:n≠0)(g o:Nat)(w:bO):(fieldPlace ⟨g,o,af⟩ f).run P w=.ok ⟨g,o+f.offset,af⟩ w:=by simp[fieldPlace,lQ d,c,Addr.gY]
def agb{t:aC}{x y:U}{f:Nat}(d:dQ P t x f=J y){c:aG}(q:aO K x c)(w:bO):
 ∃v,(Instr.fieldAt t c f).run P w=.ok v w/\aO K y v:=by
 unfold dQ at d;split at d
 .rename_i fields n;split at d
  .rename_i u g;split at d
   .cases d
   .rename_i S p m;have l:S≠0:=λe=>p e;split at d
    .rename_i Y r;injection d with d;subst d;cases q with|box b s _ A=>exact⟨_,by simp[Instr.fieldAt,cQ n,g,Instr.sureAddr,KX m l],.box _ _ _ A⟩|dB s _=>exact⟨_,by simp[Instr.fieldAt,cQ n,g,Instr.sureAddr,KX m l],.dB _ _⟩
    .rename_i X L i r;injection d with d;subst d;cases q with|elem _ _ _ _ s o T cells E H C D N z=>exact⟨.pointer (J ⟨s,T+u.offset,af⟩),by simp[Instr.fieldAt,cQ n,g,Instr.sureAddr,KX m l],.elem _ _ _ _ s o _ cells E H C D M z⟩
    grind
   grind
  grind
 grind
def aiV{t:aC}{x ix y:U}(d:dH P t x ix=J y){c H:aG}(q:aO K x c)(hi:aO K ix H)(w:bO):
 ∃v,(Instr.indexAt t c H).run P w=.ok v w/\aO K y v:=by
 unfold dH at d;split at d
 .rename_i elem k N T C i l;obtain⟨rfl,_⟩:=hi.gI;split at d
  .rename_i f;injection d with d;subst d;cases q with
   |nil=>grind
   |fP=>grind
   |list _ _ _ r g z1 E cells X z A p ht s=>subst X;refine⟨.pointer (J ⟨r,g+i.toNat*N,af⟩),?_,.elem _ _ _ _ r g _ cells z A p M M s⟩;simp[Instr.indexAt,cQ l,asIntOf,f.1,f.2.1,lQ f.2.2,Addr.gY]
  grind
 .rename_i elem b g len E C i l;obtain⟨rfl,_⟩:=hi.gI;split at d
  .rename_i m n;split at d
   .rename_i f;injection d with d;subst d;cases q with|arr _ r _ _ _ D S u hl Y Z rD=>have:D=g:=(by grind);subst this;exact⟨_,by simp[Instr.indexAt,cQ l,asIntOf,f.1,f.2,lQ n,Addr.gY],.box _ _ _ u⟩
   grind
  grind
 .rename_i len elem z2 g C i l;obtain⟨rfl,_⟩:=hi.gI;split at d
  .rename_i m n;split at d
   .rename_i f;injection d with d;subst d;cases q with|box b r _ u=>exact⟨_,by simp[Instr.indexAt,cQ l,asIntOf,f.1,f.2,lQ n,Addr.gY,Instr.sureAddr],.box _ _ _ u⟩|dB r _=>exact⟨_,by simp[Instr.indexAt,cQ l,asIntOf,f.1,f.2,lQ n,Addr.gY,Instr.sureAddr],.dB _ _⟩
   grind
  grind
 .rename_i len elem N T k g C i l;obtain⟨rfl,_⟩:=hi.gI;split at d
  .rename_i m n;split at d
   .rename_i f;injection d with d;subst d;cases q with|elem _ _ _ _ r o z0 cells z A p L hp s=>exact⟨.pointer (J ⟨r,z0+i.toNat*m,af⟩),by simp[Instr.indexAt,cQ l,asIntOf,f.1,f.2,lQ n,Addr.gY,Instr.sureAddr],.elem _ _ _ _ r o _ cells z A p L M s⟩
   grind
  grind
 grind
def WM{t:aC}{cs:List U}{off:Nat}{y:U}(d:Ek P t cs off=J y){vs:Array aG}(f:aH K cs vs.toList)(w:bO):
 ∃v,(part t vs off).run P w=.ok v w/\aO K y v:=by
 unfold Ek at d;split at d
 .rename_i c;simp only[dg]at d;obtain⟨g,m,rfl⟩:=d;refine⟨.agg (vs.extract off (off+g)),by simp[part,IG c,lQ m],.agg _ _ ?_⟩;have:(vs.extract off (off+g)).toList=(vs.toList.drop off).take g:=by rw[Array.toList_extract,List.extract_eq_take_drop];congr 1;omega
  rw[this];exact(f.drop off).take g
 .rename_i c;obtain⟨n,p,l⟩:=f.get d;exact⟨n,by simp only[part,Sem.run_bind,IG c,Result.andThen_ok];simp_all,l⟩
 grind
def aiY{t:aC}{x ix y:U}(d:yL P t x ix=J y){c l:aG}(n:aO K x c)(hi:aO K ix l)(w:bO):
 ∃v,(Instr.index t c l).run P w=.ok v w/\aO K y v:=by
 unfold yL at d;split at d
 .rename_i p C i g;obtain⟨rfl,_⟩:=hi.gI;obtain⟨rfl,_⟩:=n.gI;split at d
  .rename_i b f;injection d with d;subst d;split at f
   .rename_i q;refine⟨.int .u8 b.toNat,?_,.v _ O⟩;have:p[i.toNat]?=J b:=(by have r:i.toNat<p.data.size:=(Jh.1 f).1;have s:p.data[i.toNat]=b:=(Jh.1 f).2;have u:i.toNat<p.size:=r;rw[getElem?_pos p i.toNat u];exact congrArg J s);simp only[Instr.index,Sem.run_bind,asIntOf,Sem.run_pure,Result.andThen_ok,cQ g,av q,this]
   grind
  grind
 .rename_i len elem cs C i g;obtain⟨rfl,_⟩:=hi.gI;split at d
  .rename_i H A;split at d
   .rename_i z;cases n with|agg _ L m=>obtain⟨v,D,E⟩:=WM d m w;exact⟨v,by simp only[Instr.index,Sem.run_bind,asIntOf,Sem.run_pure,Result.andThen_ok,cQ g,av z,lQ A,D],E⟩
   grind
  grind
 grind
def M8{t:aC}(c:isIface P t=J ai):∃d,P.underlying t=J d/\∀f,d≠ .interface f:=by
 unfold isIface at c
 grind
def acm{x y:U}{xt a:aC}{m:Bool}(d:sQ P x a m=J y){c:aG}(l:aO K x c)(w:bO):
 ∃v,(Instr.typeAssert c xt a m).run P w=.ok v w/\aO K y v:=by
 unfold sQ at d;split at d
 .rename_i C z f;obtain⟨u,g,t⟩:=M8 f;cases l with
  |iface _ _ q l=>
   split at d
   .rename_i n;injection d with d;subst d;subst n;cases m with|true=>refine⟨.tuple #[q,.bool V],?_,.tuple _ _ (.cons _ _ _ _ l (.cons _ _ _ _ (.v _ O) .nil))⟩;simp only[Instr.typeAssert,Sem.run_bind,cQ g,Result.andThen_ok];simp_all|false=>refine⟨q,?_,l⟩;simp only[Instr.typeAssert,Sem.run_bind,cQ g,Result.andThen_ok];simp_all
   .rename_i n;split at d
    .rename_i r;simp only[dg]at d;obtain⟨A,p,rfl⟩:=d;obtain⟨v,s,rfl⟩:=OO p w;refine⟨.tuple #[v,.bool ai],?_,.tuple _ _ (.cons _ _ _ _ (HH v) (.cons _ _ _ _ (.v _ O) .nil))⟩;simp only[Instr.typeAssert,Sem.run_bind,cQ g,Result.andThen_ok];simp_all
    grind
 .rename_i f;obtain⟨u,g,t⟩:=M8 f;obtain⟨rfl,_⟩:=l.gI;split at d
  .rename_i r;simp only[dg]at d;obtain⟨A,p,rfl⟩:=d;obtain⟨v,s,rfl⟩:=OO p w;refine⟨.tuple #[v,.bool ai],?_,.tuple _ _ (.cons _ _ _ _ (HH v) (.cons _ _ _ _ (.v _ O) .nil))⟩;simp only[Instr.typeAssert,Sem.run_bind,cQ g,Result.andThen_ok];simp_all
  grind
 grind
def adq{c}{b}{x}(d:ri c b=J x):(c=.eql/\x=.v (.bool b))∨(c=.neq/\x=.v (.bool !b)):=by
 unfold ri at d
 grind
def Ra{d:BinOp}{t:aC}{x y:bP}{a b r:U}(c:zZ P d t x y a b=J r){p q:aG}(n:aO K a p)(s:aO K b q)(w:bO):
 ∃v,(do eqGuard d t x y p q;binOp d t p q:Sem aG).run P w=.ok v w/\aO K r v:=by
 unfold zZ at c;split at c
 .rename_i A C u z;have f:=Gb u n;have g:=Gb z s;subst f;subst g;simp only[wd]at c;obtain⟨D,l,m⟩:=c;exact⟨D,El l w,EM m⟩
 grind
def uK{c:BinOp}{t:aC}{x y:bP}{p q:aG}{b:Bool}{r:U}(g:ri c b=J r)(s:∀c,eqGuard c t x y p q=pure ())(w:bO)
 (f:∀d,(Op.equalIn (d+1) t p q).run P w=.ok b w) (m:binOp .eql t p q=(do pure (.bool (<-Op.equal t p q)))) (n:binOp .neq t p q=(do pure (.bool (!(<-Op.equal t p q))))):
 ∃v,(do eqGuard c t x y p q;binOp c t p q:Sem aG).run P w=.ok v w/\aO K r v:=by
 have l:(Op.equal t p q).run P w=.ok b w:=f 9999;rcases adq g with⟨rfl,rfl⟩|⟨rfl,rfl⟩
 .exact⟨.bool b,by simp_all,.v _ O⟩
 .exact⟨.bool !b,by simp_all,.v _ O⟩
def Ve{t:aC}(c:isIface P t=J V):∃d,P.underlying t=J (.interface d):=by
 unfold isIface at c
 grind
def acX{d:BinOp}{t:aC}{x y:bP}{a b r:U}(c:cy P d t x y a b=J r){p q:aG}(g:aO K a p)(l:aO K b q)(w:bO):
 ∃v,(do eqGuard d t x y p q;binOp d t p q:Sem aG).run P w=.ok v w/\aO K r v:=by
 unfold cy at c;split at c
 .rename_i n s;have f1:=g.gI.1;have f2:=l.gI.1;subst f1;subst f2;split at c
  .injection c with c;subst c;exact⟨.bool (n.data.toList==s.data.toList),by simp[eqGuard,binOp,Op.stringOp,ByteArray.toList_eq],.v _ O⟩
  .injection c with c;subst c;exact⟨.bool !(n.data.toList==s.data.toList),by simp[eqGuard,binOp,Op.stringOp,ByteArray.toList_eq],.v _ O⟩
  .split at c
   .rename_i hl;injection c with c;subst c;refine⟨.string (n++s),?_,.v _ O⟩;have:¬(((n.size+s.size:Nat):Int)>IntKind.i64.max):=(by simp only[IntKind.max,IntKind.signed,IntKind.bits];simp;omega);simp only[eqGuard,binOp,Op.stringOp];simp_all
   grind
  .exact Ra c g l w
 .rename_i L N;split at c
  .rename_i m;obtain⟨D,f⟩:=Ve m;cases g with|iface _ _ Y C=>have f2:=l.gI.1;subst f2;refine uK c (λd=>by cases d<;>rfl) w (λu=>?_) O O;simp only[Op.equalIn,Sem.run_bind,cQ f,Result.andThen_ok,Sem.run_pure]
  grind
 .rename_i L N;split at c
  .rename_i m;obtain⟨D,f⟩:=Ve m;cases l with|iface _ _ Y C=>have f2:=g.gI.1;subst f2;refine uK c (λd=>by cases d<;>rfl) w (λu=>?_) O O;simp only[Op.equalIn,Sem.run_bind,cQ f,Result.andThen_ok,Sem.run_pure]
  grind
 .rename_i H E;split at c
  .rename_i e f;have f2:=l.gI.1;subst f2;cases g<;>(refine uK c (λd=>by cases d<;>rfl) w (λu=>?_) O O;simp only[Op.equalIn,Sem.run_bind,cQ f,Result.andThen_ok,Sem.run_pure,Fw])
  grind
 .rename_i H E;split at c
  .rename_i e f;have f2:=g.gI.1;subst f2;cases l<;>(refine uK c (λd=>by cases d<;>rfl) w (λu=>?_) O O;simp only[Op.equalIn,Sem.run_bind,cQ f,Result.andThen_ok,Sem.run_pure,Fw])
  grind
 .split at c
  .rename_i f;have f2:=l.gI.1;subst f2;cases g<;>(refine uK c (λd=>by cases d<;>rfl) w (λu=>?_) O O;simp only[Op.equalIn,Sem.run_bind,cQ f,Result.andThen_ok,Sem.run_pure,Fw])
  grind
 .split at c
  .rename_i f;have f2:=g.gI.1;subst f2;cases l<;>(refine uK c (λd=>by cases d<;>rfl) w (λu=>?_) O O;simp only[Op.equalIn,Sem.run_bind,cQ f,Result.andThen_ok,Sem.run_pure,Fw])
  grind
 .rename_i k sz Z X;split at c
  .rename_i e f;have f2:q=.slice af 0 0:=by
    cases l with|nil=>rfl|list _ _ _ _ _ _ _ _ _ _ _ _ z _=>exact z.2.elim
   subst f2;cases g with
   |nil=>refine uK c (λd=>by cases d<;>rfl) w (λu=>?_) O O;simp only[Op.equalIn,Sem.run_bind,cQ f,Result.andThen_ok,Sem.run_pure,Option.isNone_none,decide_true]
   |fP=>refine uK c (λd=>by cases d<;>rfl) w (λu=>?_) O O;simp only[Op.equalIn,Sem.run_bind,cQ f,Result.andThen_ok,Sem.run_pure,Fw];rfl
   |list _ _ _ z0 T z1 S cells hn hr hv hc z _=>have A:k≠ .nil:=λe=>(by subst e;exact z.2);refine uK c (λd=>by cases d<;>rfl) w (λu=>?_) O O;simp only[Op.equalIn,Sem.run_bind,cQ f,Result.andThen_ok,Sem.run_pure,A,decide_false]
  grind
 .exact Ra c g l w
def att{d:UnOp}{a r:U}(c:E4 P d a=J r){p:aG}(m:aO K a p)(w:bO):∃v,(Op.unary d p).run P w=.ok v w/\aO K r v:=by
 unfold E4 at c;split at c
 .rename_i q n;have f:=Gb n m;subst f;simp only[wd]at c;obtain⟨s,g,l⟩:=c;exact⟨s,El g w,EM l⟩
 grind
end
section
variable {P:bj} {K:aW} {G:Nat->Option (List U)} {ok:aQ->Nat->Code->Bool} {w0 w:bO} {h:Heap}
def QY{h}{d}{sz}{es}{t}(p:∀n∈h.dead,n∈d)(f:alive ({h with dead:=d}.fresh sz es).2 t=V):
 t=h.tn∨(alive h t=V/\t∉d):=by
 simp only[Heap.fresh,alive,bm,decide_eq_true_eq,Ca,List.contains_eq_mem,decide_eq_false_iff_not]at f;obtain⟨c,g⟩:=f;have c:t<h.tn+1:=of_decide_eq_true c;rcases dp t h.tn with l|m
 .exact .inr ⟨by simp[alive,l];grind,g⟩
 omega
def bJ.Lf{w':bO}(s:bJ K G ok w0 h w){d:List Nat}(T:∀n∈h.dead,n∈d){sz:Nat}{es:List (List U)}{cells:Array aG}{e:aC}{fz:Nat × Nat}{aR:Nat}
 (Z:∀r∈es,F r=sz) (S:es.flatten.all U.cW=V) (hv:aH K es.flatten (cells.toList.take (F es*sz)))
 (L:w'.os=w.os) (l:w'.tape=w.tape) (v:w'.output=w.output) (gC:w'.heap.size=w.heap.size+1)
 (N:∀k,k<w.heap.size->w'.heap[k]?=w.heap[k]?) (p:w'.heap[w.heap.size]?=J (.cells cells e fz))
 (c:F es<=aR) (t:aR*sz<=cells.size) (C:∀j,j<cells.size->j8 fz j=ai):
 ∃q,K.Le q/\bJ q G ok w0 ({h with dead:=d}.fresh sz es).2 w'/\aO q ({h with dead:=d}.fresh sz es).1 (.slice (J ⟨w.heap.size,0,af⟩) (F es) aR):=by
 have f:∀j,K.ic w.heap.size j=af:=λj=>by
  cases z:K.ic w.heap.size j with|none=>rfl|some z0=>have:=s.tX z;omega
 have u:F es*sz<=cells.size:=eS (ma _ c) t;have x:=s.row (h':=({h with dead:=d}.fresh sz es).2) (w':=w') (g:=w.heap.size) (off:=0) (m:=F es*sz) (cells:=cells) (e:=e) (fz:=fz) O O O
  (λz1 ht=>(QY T ht).imp id λE=>⟨E.1,λGE=>by obtain⟨_,_,_,_,_,_,h4,_⟩:=s.tok z1 E.1;simp_all⟩)
  s.size (λb y=>by obtain⟨cs,A⟩:=βJ s y;obtain⟨_,_,_,_,_,h3,_⟩:=s.box b _ cs y A;simp_all) (λj _=>f j) M L l v
  (λk o hk Y=>by grind) p (λo Y=>by simp_all) (λj z0 z=>by simp_all) (bV _) u (λj _ X=>C j X)
 have le:=aW.Nk (K:=K) (g:=w.heap.size) (off:=0) (m:=F es*sz) (size:=cells.size) (cells:=λj=>cells[j]?) (λj _=>f j) s.size;refine⟨_,le,x,?_⟩;refine .list (.free h.tn) sz es w.heap.size 0 _ aR (cells.toList.take (F es*sz)) O Z (hv.mono le) (λj z0 H=>?_) ⟨c,?_⟩ S
 .simp only[mr]at H;split at H
  .rename_i dj;simp only[aW.row,nX];simp_all
  grind
 .simp only[aW.row,s.tn,if_true];simp_all
def xM(l:List UInt8):∀r∈l.map ie,F r=1:=by intro r c;simp only[iV]at c;obtain⟨b,_,rfl⟩:=c;rfl
def KC(l:List UInt8):(l.map ie).flatten=l.map λb=>U.v (.int .u8 b.toNat):=by
 induction l with
 |nil=>rfl|cons b l c=>simp[ie,c]
def Rr(l:List UInt8):aH K (l.map ie).flatten (l.map λb=>Value.int .u8 b.toNat):=by rw[KC];exact aH.map_mk λb _=>.v _ rfl
def Rq(l:List UInt8):(l.map ie).flatten.all U.cW=V:=by rw[KC,eF];intro d c;simp only[iV]at c;obtain⟨b,_,rfl⟩:=c;rfl
def ath(s:bJ K G ok w0 h w){e:aC}{str:ByteArray}:
 ∃g v w',K.Le g/\bJ g G ok w0 (h.fresh 1 (str.data.toList.map ie)).2 w'/\aO g (h.fresh 1 (str.data.toList.map ie)).1 v/\(Conv.stringToBytes e str).run P w=.ok v w':=by
 have y:∃c,str.size<=c/\(choose (.appendCap str.size 0 e)).run P w=.ok c {w with drawn:=w.drawn+1}:=by refine⟨_,?_,by simp[Question.forced];rfl⟩;simp[Question.cut]
 obtain⟨c,u,q⟩:=y
 let w1:bO:={w with drawn:=w.drawn+1}
 let cells:Array aG:=str.data.map (λb=>.int .u8 b.toNat)++xq (c - str.size) (.int .u8 0)
 have r:cells.size=c:=by have:str.data.size=str.size:=rfl;simp only[cells,B9,Array.size_map,Array.size_replicate,this];try omega
 have p:str.data.toList.length=str.size:=rfl
 let f:bO:=({w1 with heap:=w1.heap.push (.cells cells e)}:bO).freeze {block:=w1.heap.size,off:=c} 1
 have m:f.heap[w.heap.size]?=J (.cells cells e (c,c+1)):=by simp only[f,World.freeze,w1,Qh,if_false,B8,if_true,Array.getElem?_push_size,fk];rfl
 have l:∀k,k<w.heap.size->f.heap[k]?=w.heap[k]?:=λk D=>by
  simp only[f,World.freeze,w1,B8]
  grind
 obtain⟨g,le,A,z⟩:=s.Lf (w':=f) (d:=h.dead) (λ_ x=>x) (sz:=1) (es:=str.data.toList.map ie) (cells:=cells) (e:=e) (fz:=(c,c+1)) (aR:=c)
  (xM _) (Rq _) (by have:cells.toList.take ((str.data.toList.map ie).length * 1)=str.data.toList.map λb=>Value.int .u8 b.toNat:=(by simp only[cells,vR,B_,br,jC];simp_all);rw[this];exact Rr _) rfl rfl rfl (by simp[f,World.freeze,w1]) l m (by simp_all) M (λj C=>by simp[j8];omega)
 refine⟨g,_,f,le,A,z,?_⟩;have t:(str.data.toList.map ie).length=str.size:=by simp only[br,p]
 rw[t];simp only[Conv.stringToBytes,Sem.run_bind,q,Result.andThen_ok,newRow,run_newObj,Sem.run_pure,markStringish,run_shape];have n:({w1 with heap:=w1.heap.push (.cells cells e)}:bO).shape? w1.heap.size=J (e,c):=by simp[World.shape?,r]
 simp only[w1,cells] at n;simp only[n,run_freeze,Result.andThen_ok,Sem.run_pure,f,w1,cells]
def adE:∀{rows:List (List U)} {l:List UInt8},bytesOf rows=J l->∀{vs:List aG},aH K rows.flatten vs->
 ∃f:List Int,vs=f.map (.int .u8 ·)/\l=f.map λn=>UInt8.ofNat n.toNat:=by
 intro rows
 induction rows with
 |nil=>intro l h vs d;simp[bytesOf]at h;subst h;cases d;simp_all
 |cons v rows r=>
  intro l h vs d;simp only[bytesOf]at h;split at h
  .rename_i b t c m;injection h with h;subst h;unfold byteOf at c;split at c
   .rename_i n;injection c with c;subst c;simp only[jA,eu,dM]at d;cases d with|cons _ u _ cs q p=>obtain⟨f,g,s⟩:=r m p;exact⟨n::f,by rw[q.gI.1,g];rfl,by simp_all⟩
   grind
  grind
def foldl_push(c:List Int):∀d:ByteArray,c.foldl (λb a=>b.push (UInt8.ofNat a.toNat)) d=⟨d.data++(c.map λn=>UInt8.ofNat n.toNat).toArray⟩:=by
 induction c with
 |nil=>simp_all|cons n c f=>simp_all
def Ez(s:bJ K G ok w0 h w){size:Nat}{x:U}{rows:List (List U)}(f:rowsOf h size x=J rows){c:aG}(S:aO K x c):
 ∃a aR l,c=.slice a (F rows) aR/\(∀r∈rows,F r=size)/\aH K rows.flatten l/\rows.flatten.all U.cW=V/\F l=F rows*size/\
  (∀b,a=J b->(loadCells b (F rows*size)).run P w=.ok l.toArray w)/\(a=af->rows=[]):=by
 unfold rowsOf at f;split at f
 .rename_i k X z;split at f
  .rename_i N;injection f with f;subst f;cases S with
   |nil=>exact⟨af,0,[],O,by simp,.nil,O,by simp,λb g=>(by cases g),λ_=>rfl⟩|fP _ a0=>refine⟨J a0,0,[],O,by simp,.nil,O,by simp,λb g=>?_,λg=>by cases g⟩;have:=run_loadCells_list (P:=P) w b [] (λj z0 C=>by grind);simp_all|list _ _ _ D d u aR cells m t v H ht Y=>
    subst m;have hl:F cells=F z*X:=(by rw[<-v.length,lu t]);have MM:F z*X=F z*size:=by
     rcases N with h|h
     .rw[h]
     .simp[h]
    refine⟨J ⟨D,d,af⟩,aR,cells,O,λr hm=>?_,v,Y,by omega,λb g=>?_,λm=>by cases m⟩
    .grind
    .injection g with g;subst g;have:=run_loadCells_list (P:=P) w ⟨D,d,af⟩ cells (λj z0 C=>by rw[Addr.gY];exact s.ic _ _ _ (H j z0 C));simp_all
  grind
 .rename_i b d len aR;split at f
  .rename_i cs E;split at f
   .rename_i A;injection f with f;subst f;cases S with
    |arr _ D _ _ _ p y g hl ph L rD=>
     obtain⟨_,_,ka,cells,e,k3,T⟩:=s.box b D cs g E;have q:∀u,d+u*size<=F cs->((bZ u).map λi=>(cs.drop (d+i*size)).take size).flatten=(cs.drop d).take (u*size):=by
      intro u
      induction u with
      |zero=>simp_all|succ u ih=>intro m;rw[jT,jB,oi,ih (by grind)];simp only[eD,List.map_nil,jA,aah,ga];rw[show(u+1)*size=u*size+size by rw[jh];omega,List.take_add,List.drop_drop]
     have hf:=q len A;have hk4:=(T.1.drop d).take (len*size);have eI:F cs<=F cells.toList:=(by have:=T.le;simpa using this);have pj:F (((cells.toList.take (F cs)).drop d).take (len*size))=len*size:=(by simp only[cR,ev];omega);refine⟨J ⟨D,p,af⟩,y,((cells.toList.take (F cs)).drop d).take (len*size),by simp,λr t=>?_,?_,?_,by simp_all,λb' n=>?_,λm=>by cases m⟩
     .simp only[iV,hy]at t;obtain⟨i,Z,rfl⟩:=t;simp only[cR,ev];have:(i+1)*size<=len*size:=ma _ Z
      grind
     .simp_all
     .grind
     .injection n with n;subst n;have:=run_loadCells_list (P:=P) w ⟨D,p,af⟩ (((cells.toList.take (F cs)).drop d).take (len*size)) (λj z0 C=>by
       rcases L with rfl|hz
       .rw[Addr.gY,cell_of k3]
        grind
       simp_all)
      simp_all
   grind
  grind
 grind
def Ee(s:bJ K G ok w0 h w){size:Nat}{x:U}{rows:List (List U)}(f:jx h size x=J rows){c:aG}(p:aO K x c):
 ∃d,(Builtin.lenOf c).run P w=.ok (F rows) w/\(∀r∈rows,F r=size)/\aH K rows.flatten d/\rows.flatten.all U.cW=V/\F d=F rows*size/\
  (Builtin.firstCells size (F rows) c).run P w=.ok d.toArray w:=by
 unfold jx at f;split at f
 .rename_i str;split at f
  .rename_i u;injection f with f;subst f;subst u;obtain⟨rfl,_⟩:=p.gI;have n:F (str.data.toList.map ie)=str.size:=(by rw[br];rfl);refine⟨str.data.toList.map λb=>.int .u8 b.toNat,by rw[n];rfl,xM _,Rr _,Rq _,by simp,?_⟩;rw[n];have:str.extract 0 str.size=str:=(by simp);have t:str.data.map (λb=>Value.int .u8 b.toNat)=(str.data.toList.map λb=>Value.int .u8 b.toNat).toArray:=(by apply Jg;simp);simp only[Builtin.firstCells,this,Sem.run_pure,t]
  grind
 .obtain⟨a,z,d,rfl,y,q,v,g,l,m⟩:=Ez (P:=P) s f p;refine⟨d,O,y,q,v,g,?_⟩;cases a with|none=>have:=m O;subst this;have:d=[]:=(by simpa using g);subst this;rfl|some b=>exact l b rfl
def IQ(z)(n):(Builtin.zeroCells z n).size=n*z.size:=by simp[Builtin.zeroCells]
def ahg(s:bJ K G ok w0 h w){d:List Nat}(hd:∀n∈h.dead,n∈d){t0 t1 elem:aC}{ts:Array aC}{ty:aC}{i:TypeInfo}{d1:TypeDesc}(h0:ts[0]?=J t0)(hu:P.underlying t0=J (.slice elem))
 (h1:ts[1]?=J t1) (Z:P.underlying t1=J d1) (H:∀k,d1≠ .int k) (hi:P.info? elem=J i) (u:(i.zero.map λz=>z.cells.size)=J i.size)
 {es new:List (List U)} {a:Option Addr} {aR:Nat} {c q:aG} (hc:c=.slice a (F es) aR) (C:aR<F es+F new)
 (hr:∀r∈es,F r=i.size) (ha:es.flatten.all U.cW=V) {f:List aG} (A:aH K es.flatten f) (hf:(Builtin.firstCells i.size (F es) c).run P {w with drawn:=w.drawn+1}=.ok f.toArray {w with drawn:=w.drawn+1})
 {l:List aG} (T:(Builtin.lenOf q).run P w=.ok (F new) w) (Y:∀r∈new,F r=i.size) (y:aH K new.flatten l) (han:new.flatten.all U.cW=V)
 (L:(Builtin.firstCells i.size (F new) q).run P {w with drawn:=w.drawn+1}=.ok l.toArray {w with drawn:=w.drawn+1})
 (hb:(F es+F new)*i.bytes<=140737488355328) (hm:F es+F new<=9223372036854775807):
 ∃p v w',K.Le p/\bJ p G ok w0 ({h with dead:=d}.fresh i.size (es++new)).2 w'/\aO p ({h with dead:=d}.fresh i.size (es++new)).1 v/\(Builtin.append_ ts ty #[c,q]).run P w=.ok v w':=by
 simp only[dg]at u;obtain⟨z,u,AY⟩:=u;have hq:∃g,F es+F new<=g/\(choose (.appendCap (F es+F new) aR elem)).run P w=.ok g {w with drawn:=w.drawn+1}:=by refine⟨_,?_,by simp[Question.forced];rfl⟩;simp[Question.cut]
 obtain⟨g,X,E⟩:=hq
 let rest:=Builtin.zeroCells z.cells (g-(F es+F new))
 let cells:Array aG:=f.toArray++l.toArray++rest
 let w1:bO:={w with drawn:=w.drawn+1}
 let m:bO:={w1 with heap:=w1.heap.push (.cells cells elem)}
 have N:F f=F es*i.size:=by rw[<-A.length,lu hr]
 have S:F l=F new*i.size:=by rw[<-y.length,lu Y]
 have D:F (es++new)*i.size=F (f++l):=by grind
 have x:(zeroValue elem).run P w1=.ok z w1:=by simp[zeroValue,oG hi,u]
 have auP:=growslice_fits (bytes:=i.bytes) C hb;have wU:(Builtin.append_ ts ty #[c,q]).run P w=.ok (.slice (J ⟨w.heap.size,0,af⟩) (F es+F new) g) m:=by
  subst hc;have e1:¬(((F es+F new:Nat):Int)>IntKind.i64.max):=by simp only[IntKind.max,IntKind.signed,IntKind.bits];simp;omega
  have e2:¬(Builtin.nextslicecap (F es+F new) aR*i.bytes>2^48):=by omega
  have e3:¬(F es+F new<=aR):=by omega
  cases d1<;>first|exact absurd O (H _)|(simp only[Builtin.append_,h0,iG,iF,jS,Sem.run_bind,cQ hu,Result.andThen_ok,sizeOf,oG hi,Sem.run_pure,h1,cQ Z,jo,if_false,T,e3,e1,e2,false_and,E,run_askRoom,hf,zD,if_true,L,newRow,run_newObj,x,w1,m,cells,rest])
 have eo:cells.size=g*i.size:=by simp only[cells,B9,JM,rest,IQ,N,S,AY];rw[JZ];have:(F es+F new)*i.size<=g*i.size:=ma _ X;rw[jh]at this ⊢;omega
 have t:m.heap[w.heap.size]?=J (.cells cells elem (0,0)):=by simp[m,w1]
 obtain⟨p,le,s',hv⟩:=s.Lf (w':=m) hd (sz:=i.size) (es:=es++new) (cells:=cells) (e:=elem) (fz:=(0,0)) (aR:=g)
  (λr hm=>by grind) (by grind) (by have:cells.toList.take (F (es++new)*i.size)=f++l:=(by rw[D];simp only[cells,vR];rw[Qb b7];exact fR b7);rw[this,oi];exact A.append y) O O O (by grind) (λk hk=>AB w _ hk) t (by simp_all) M (λj _=>ya j)
 grind
def aul(s:bJ K G ok w0 h w){ts:Array aC}{ty elem:aC}{E:IntKind}{a x y:U}{h':Heap}(D:(ts[0]?).bind P.underlying=J (.slice elem))(p:(ts[1]?).bind P.underlying=J (.int E))
 (l:Je P h ts elem a x=J (y,h')) {c L:aG} (ha:aO K a c) (hx:aO K x L):
 ∃z v w',K.Le z/\bJ z G ok w0 h' w'/\aO z y v/\(Builtin.append_ ts ty #[c,L]).run P w=.ok v w':=by
 unfold Je at l;split at l
 .rename_i H kk z0;obtain⟨rfl,_⟩:=hx.gI;split at l
  .rename_i i zero S hz;obtain⟨n,Y,m,Z⟩:=zB (K:=K) hz w;split at l
   .rename_i q;obtain⟨h0,h1,h2,h3,N,h6⟩:=q;injection l with l;obtain⟨rfl,rfl⟩:=eW l;have r:i.zero=J n:=by
     simp only[zeroValue,Sem.run_bind,oG S,Result.andThen_ok]at Y;cases hzz:i.zero with|none=>simp_all|some v=>simp_all
    have AY:n.cells.size=i.size:=(by rw[<-h6,m.length];simp);obtain⟨d,rfl⟩:∃d:Nat,z0=d:=⟨z0.toNat,by omega⟩;rw[Int.toNat_natCast];obtain⟨t0,t1,rfl⟩:∃t0 t1,ts=#[t0,t1]:=by
     obtain⟨z1⟩:=ts
     match z1,h0 with
     | [a,b],_=>exact⟨a,b,O⟩
    have D:P.underlying t0=J (.slice elem):=D;have p:P.underlying t1=J (.int E):=p;have hm:d*i.bytes<=140737488355328:=(by have:((d*i.bytes:Nat):Int)<=140737488355328:=(by rw[Int.natCast_mul];exact h2);omega);have C:=Go.Lib.run_append_nil_zeros (P:=P) w t0 t1 ty elem i n kk E D p S r d M N M M;have u:=grownCap_ge w d 0 elem;generalize grownCap w d 0 elem=g at *
    have t:(Builtin.zeroCells n.cells d).toList=(bB d n.cells.toList).flatten:=Ew _ _;have T:F (bB d n.cells.toList).flatten=F (bB d zero).flatten:=(m.x9 d).length.symm;have X:F (bB d zero).flatten=d*i.size:=lu (sz:=i.size) (es:=bB d zero) (λz2 hr=>by simp_all)|>.trans (by simp_all)
    have gC:(Builtin.zeroCells n.cells d++Builtin.zeroCells n.cells (g-d)).size=g*i.size:=by
     rw[B9,<-hW,<-hW,t,T,X];have e2:(Builtin.zeroCells n.cells (g-d)).toList=(bB (g-d) n.cells.toList).flatten:=Ew _ _;rw[e2,<-(m.x9 (g-d)).length];have e3:F (bB (g-d) zero).flatten=(g-d)*i.size:=lu (sz:=i.size) (es:=bB (g-d) zero) (λz2 hr=>by simp_all)|>.trans (by simp_all)
     rw[e3,<-jh,Nat.add_sub_cancel' u]
    obtain⟨q1,q2⟩:=(s.drew (w.drawn+1)).NG (cs:=(bB d zero).flatten) (cells:=Builtin.zeroCells n.cells d++Builtin.zeroCells n.cells (g-d)) elem (J (d,i.size,g*i.size))
     (by rw[vR,t,Qb M,fR M];exact m.x9 d) (Ij Z _)
     (λz3 H room z4=>by
      grind)
    have A:F h.boxes=F K.β:=s.iD.symm;cases ha with
    |nil=>
     cases q2 with|box _ _ _ hb=>exact⟨_,_,_,K.yV _ _,q1,.arr _ _ _ _ _ _ _ hb (aV _) u (.inl O) (.inr (.inr (.inr ⟨i.size,g*i.size,by simp only[aW.mF,A,if_true],N,aV _⟩))),C⟩
    |list _ _ _ _ _ _ _ _ _ _ _ _ ht _=>exact ht.2.elim
   grind
  grind
 grind
set_option maxHeartbeats 1000000 in
def Km(s:bJ K G ok w0 h w){ts:Array aC}{ty:aC}{a x y:U}{h':Heap}(f:gb P h ts a x=J (y,h')){c Z:aG}(L:aO K a c)(hx:aO K x Z):
 ∃X v w',K.Le X/\bJ X G ok w0 h' w'/\aO X y v/\(Builtin.append_ ts ty #[c,Z]).run P w=.ok v w':=by
 unfold gb at f;split at f
 .rename_i u q;exact aul s u q f L hx
 .rename_i elem d1 DF u q;simp only[wd] at u q;obtain⟨t0,h0,u⟩:=u;obtain⟨t1,h1,q⟩:=q;have N:∀k,d1≠ .int k:=λk e=>DF k e;split at f
  .cases f
  rename_i i hi;split at f
  .cases f
  rename_i new Ut;split at f;rotate_left
  .cases f
  rename_i hz;obtain⟨H,E,n2,n3,n4,n5,S⟩:=Ee (P:=P) s Ut hx;obtain⟨nv',n1',n2',n3',n4',n5',n6'⟩:=Ee (P:=P) (s.drew (w.drawn+1)) Ut hx;split at f
  .rename_i k sz g;split at f;rotate_left
   .cases f
   rename_i gC;have MC:rowsOf h i.size (.list k sz g)=J g:=(by simp only[rowsOf];simp_all);obtain⟨b,p,qi,rfl,r1,r2,r3,r4,r5,r6⟩:=Ez (P:=P) (s.drew (w.drawn+1)) MC L;have hf:(Builtin.firstCells i.size g.length (.slice b g.length p)).run P {w with drawn:=w.drawn+1}=.ok qi.toArray {w with drawn:=w.drawn+1}:=by
    cases b with|none=>have:=r6 rfl;subst this;have:qi=[]:=(by simpa using r4);subst this;rfl|some b=>exact r5 b rfl
   split at f
   .rename_i DE;injection f with f;obtain⟨rfl,rfl⟩:=Prod.mk.inj f;subst DE;have Mj:H=[]:=(by simpa using n5);subst Mj;refine⟨K,.slice b g.length p,w,.refl K,s,L,?_⟩;have n:g.length<=p:=by
     cases L with|nil=>simp_all|fP=>simp_all|list _ _ _ _ _ _ _ _ _ _ _ _ C _=>exact C.1
    have E:(Builtin.lenOf Z).run P w=.ok 0 w:=E;have S:(Builtin.firstCells i.size 0 Z).run P w=.ok #[] w:=S;cases d1<;>first|exact absurd rfl (N _)|(cases b<;>simp only[Builtin.append_,h0,iG,iF,jS,Sem.run_bind,cQ u,Result.andThen_ok,sizeOf,oG hi,Sem.run_pure,h1,cQ q,jo,if_false,E,xA,n,if_true,zD,S,storeCells])
   .rename_i hnn;have aim:0<new.length:=by cases new with|nil=>simp_all|cons _ _=>simp
    split at f;rotate_left
    .cases f
    rename_i hb;have A:∀z2:List Nat,(∀z0∈h.dead,z0∈z2)->p<g.length+new.length->
     ∃X v w',K.Le X/\bJ X G ok w0 ({h with dead:=z2}.fresh i.size (g++new)).2 w'/\aO X ({h with dead:=z2}.fresh i.size (g++new)).1 v/\(Builtin.append_ ts ty #[.slice b g.length p,Z]).run P w=.ok v w':=
     λz2 hd n=>ahg s hd h0 u h1 q N hi hz.2 rfl n r1 r3 r2 hf E n2 n3' n4 n6' hb.1 hb.2
    split at f
    .injection f with f;obtain⟨rfl,rfl⟩:=eW f;cases L with|nil=>exact A h.dead (λ_ t=>t) M|list _ _ _ _ _ _ _ _ _ _ _ _ C _=>exact C.2.elim
    .injection f with f;obtain⟨rfl,rfl⟩:=eW f;cases L with|fP=>exact A h.dead (λ_ t=>t) M|list _ _ _ _ _ _ _ _ _ _ _ _ C _=>exact A h.dead (λ_ t=>t) (by have:=C.2;omega)
    .rename_i z0;split at f;rotate_left
     .cases f
     rename_i TE;simp only[bm,decide_eq_true_eq] at TE;obtain⟨tF,hsi⟩:=TE;injection f with f;obtain⟨rfl,rfl⟩:=eW f;rcases dp p (g.length+new.length) with n|n
     .exact A (z0::h.dead) (λ_ t=>gj _ t) n
     .cases L with
      |list _ _ _ z1 d n' _ cells hn hr gq wQ C yf=>
       obtain⟨t1',t2,t3,t4⟩:=C.2;obtain⟨k1,k2,k3,Y,be,bz,k4,k5,k6⟩:=s.tok z0 tF;subst t2;subst hsi;have Lw:Y.size=(K.tk z0).2.2:=k5;have T_:d+g.length * i.size+H.length<=Y.size:=(by have:(g.length+new.length) * i.size<=p * i.size:=ma _ n;rw[jh] at this;omega);obtain⟨w',l,q1,T,q3⟩:=BO (P:=P) (d+g.length * i.size) be bz H 0 Y w k4 M (xF n3 n4) (λj r hj'=>by
        rw[<-tt k4]
        grind)
       have GJ:l.size=Y.size:=(by have h1:l.toList.length=Y.toList.length:=(by rw[q3];simp only[cg,cR,ev,hW,xA];omega);simpa using h1);have ah5:∀j,j<d+g.length * i.size->l[j]?=Y[j]?:=λj r=>(by rw[<-Fb,q3,<-Fb,iE,qn (by grind),mr,av M]);have ah6:∀j,j<H.length->l[d+g.length * i.size+j]?=H[j]?:=λj r=>(by have dj:(Y.toList.take (d+g.length * i.size+0)).length=d+g.length * i.size:=(by simp;omega);rw[<-Fb,q3,iE,v_ M,dj,qn M];simp_all);have tP:=s.row (h':=({h with dead:=z0::h.dead}.fresh i.size (g++new)).2) (w':=w') (g:=(K.tk z0).1) (off:=d+g.length * i.size) (m:=d+(g.length+new.length) * i.size) (cells:=l) (e:=be) (fz:=bz) rfl rfl rfl
        (λz3 C=>(QY (λ_ t=>gj _ t) C).imp id λD=>⟨D.1,λGE=>D.2 (by rw[s.nw z3 z0 D.1 tF GE];simp_all)⟩)
        k1 k2 (λj r=>k3 j M) (by rw[T.size];omega) T.os T.tape T.output (λk o hk ho=>(T.other k hk).trans ho) T.this (λo ho=>by simp_all)
        (λj c hc=>by
         have r:j<d+g.length * i.size:=by
          rcases dp j (d+g.length * i.size) with h|h
          .exact h
          .simp_all
         rw[ah5 j r,<-cell_of k4];exact s.ic _ _ _ hc)
        (by grind) (by grind) (λj r hl=>by rw[<-tt k4];grind)
       have le:=aW.Nk (K:=K) (g:=(K.tk z0).1) (off:=d+g.length * i.size) (m:=d+(g.length+new.length) * i.size) (size:=l.size) (cells:=λj=>l[j]?) (λj r=>k3 j M) k1;have eI:cells.length=g.length * i.size:=(by rw[<-gq.length,lu hr]);refine⟨_,.slice (J ⟨(K.tk z0).1,d,af⟩) (g.length+new.length) p,w',le,tP,?_,?_⟩
       .refine .list (.free h.tn) i.size (g++new) (K.tk z0).1 d _ p (cells++H) b7 (λz4 t=>by grind) (by rw[oi];exact(gq.append n3).mono le) (λj c r=>?_) ⟨n,?_⟩ (by grind)
        .rcases dp j cells.length with dj|pi
         .rw[qn dj] at r;exact le.ic _ _ _ (wQ j c r)
         .rw[v_ pi] at r;have uT:j - cells.length<H.length:=(aS.1 r).1;simp only[aW.row];rw[av (by grind)];have:=ah6 (j - cells.length) uT
          grind
        .simp only[aW.row,s.tn,if_true];simp_all
       .have wM:(⟨(K.tk z0).1,d,af⟩:Addr).add (g.length * i.size)=⟨(K.tk z0).1,d+g.length * i.size,af⟩:=Addr.gY _ _ _;cases d1<;>first|exact absurd rfl (N _)|(simp only[Builtin.append_,h0,iG,iF,jS,Sem.run_bind,cQ u,Result.andThen_ok,sizeOf,oG hi,Sem.run_pure,h1,cQ q,jo,if_false,E,n,if_true,zD,S,wM,q1])
    grind
  .rename_i b d len p;split at f
   .rename_i cs iT;split at f
    .rename_i hc;injection f with f;obtain⟨rfl,rfl⟩:=eW f;cases L with
     |arr _ z1 _ _ _ rK z hb hl ph AM rD=>
      obtain⟨k1,k2,ka,cells,e,k3,k4⟩:=s.box b z1 cs hb iT;have MM:cs.length<=cells.size:=k4.le;have t:(len+new.length) * i.size<=p * i.size:=ma _ hc.1;rw[jh] at t;have TR:len+new.length<=z:=(by omega);by_cases yG:p=0
      .have tM:new=[]:=by cases new with|nil=>rfl|cons _ _=>simp_all
       subst tM;have Mj:H=[]:=(by simpa using n5);subst Mj;have E:(Builtin.lenOf Z).run P w=.ok 0 w:=E;have S:(Builtin.firstCells i.size 0 Z).run P w=.ok #[] w:=S;have aix:h.boxes.set b (dC cs (d+len * i.size) ([]:List (List U)).flatten)=h.boxes:=by
        rw[show dC cs (d+len * i.size) ([]:List (List U)).flatten=cs by simp[dC]];apply nV;intro k;rw[kQ];split
        .grind
        .rfl
       rw[aix];refine⟨K,.slice (J ⟨z1,rK,af⟩) len z,w,.refl K,s,.arr _ _ _ _ _ _ _ hb hl ph AM rD,?_⟩;have Me:len<=z:=(by omega);cases d1<;>first|exact absurd rfl (N _)|(simp only[Builtin.append_,h0,iG,iF,jS,Sem.run_bind,cQ u,Result.andThen_ok,sizeOf,oG hi,Sem.run_pure,h1,cQ q,jo,if_false,E,xA,Me,if_true,zD,S,storeCells])
      .have Mk:rK=d:=(by simp_all);obtain⟨w',l,q1,T,q3⟩:=BO (P:=P) (d+len * i.size) e (0,0) H 0 cells w k3 M (xF n3 n4) (λj _ _=>ya j);have GP:new.flatten.length=new.length * i.size:=(by rw[n3.length,n5]);refine⟨K,.slice (J ⟨z1,rK,af⟩) (len+new.length) z,w',.refl K,s.O_ hb iT M k3 T q3 n3 n4,.arr _ _ _ _ _ _ _ hb hc.1 ph AM rD,?_⟩;have wM:(⟨z1,d,af⟩:Addr).add (len * i.size)=⟨z1,d+len * i.size,af⟩:=Addr.gY _ _ _;rw[Mk];cases d1<;>first|exact absurd rfl (N _)|(simp only[Builtin.append_,h0,iG,iF,jS,Sem.run_bind,cQ u,Result.andThen_ok,sizeOf,oG hi,Sem.run_pure,h1,cQ q,jo,if_false,E,TR,if_true,zD,S,wM,q1])
    grind
   grind
  grind
 grind
def ahh{t0 t1 elem:aC}{ts:Array aC}{ty:aC}{i:TypeInfo}{d1:TypeDesc}(S:ts[0]?=J t0)(hu:P.underlying t0=J (.slice elem))
 (T:ts[1]?=J t1) (A:P.underlying t1=J d1) (u:∀k,d1≠ .int k) (hi:P.info? elem=J i) (g:(i.zero.map λz=>z.cells.size)=J i.size)
 {n m:Nat} {a:Option Addr} {aR:Nat} {q:aG} (r:aR<n+m) {c:List aG} (C:F c=n*i.size)
 (Y:(Builtin.firstCells i.size n (.slice a n aR)).run P {w with drawn:=w.drawn+1}=.ok c.toArray {w with drawn:=w.drawn+1})
 {f:List aG} (x:(Builtin.lenOf q).run P w=.ok m w) (y:F f=m*i.size)
 (v:(Builtin.firstCells i.size m q).run P {w with drawn:=w.drawn+1}=.ok f.toArray {w with drawn:=w.drawn+1})
 (X:(n+m)*i.bytes<=140737488355328) (hm:n+m<=9223372036854775807):
 ∃d cells,n+m<=d/\cells.size=d*i.size/\cells.toList.take ((n+m)*i.size)=c++f/\
  (Builtin.append_ ts ty #[.slice a n aR,q]).run P w=.ok (.slice (J ⟨w.heap.size,0,af⟩) (n+m) d) {w with drawn:=w.drawn+1,heap:=w.heap.push (.cells cells elem)}:=by
 simp only[dg]at g;obtain⟨z,g,D⟩:=g;have hq:∃d,n+m<=d/\(choose (.appendCap (n+m) aR elem)).run P w=.ok d {w with drawn:=w.drawn+1}:=by refine⟨_,?_,by simp[Question.forced];rfl⟩;simp[Question.cut]
 obtain⟨d,p,t⟩:=hq
 let rest:=Builtin.zeroCells z.cells (d-(n+m))
 let cells:Array aG:=c.toArray++f.toArray++rest
 let s:bO:={w with drawn:=w.drawn+1}
 have Z:(n+m)*i.size=F (c++f):=by grind
 have l:(zeroValue elem).run P s=.ok z s:=by simp[zeroValue,oG hi,g]
 have E:=growslice_fits (bytes:=i.bytes) r X;refine⟨d,cells,p,?_,?_,?_⟩
 .simp only[cells,B9,JM,rest,IQ,C,y,D];rw[JZ];have:(n+m)*i.size<=d*i.size:=ma _ p;simp_all
 .grind
 .have H:¬(((n+m:Nat):Int)>IntKind.i64.max):=by simp only[IntKind.max,IntKind.signed,IntKind.bits];simp;omega
  have L:¬(Builtin.nextslicecap (n+m) aR*i.bytes>2^48):=by omega
  have N:¬(n+m<=aR):=by omega
  cases d1<;>first|exact absurd O (u _)|(simp only[Builtin.append_,S,iG,iF,jS,Sem.run_bind,cQ hu,Result.andThen_ok,sizeOf,oG hi,Sem.run_pure,T,cQ A,jo,if_false,x,N,H,L,false_and,t,run_askRoom,Y,zD,if_true,v,newRow,run_newObj,l,s,cells,rest])
set_option maxHeartbeats 2000000 in
def Pi(s:bJ K G ok w0 h w){ts:Array aC}{ty:aC}{a x y:U}{h':Heap}(d:lU P h ts a x=J (y,h')){c cx:aG}(E:aO K a c)(hx:aO K x cx):
 ∃m v w',K.Le m/\bJ m G ok w0 h' w'/\aO m y v/\(Builtin.append_ ts ty #[c,cx]).run P w=.ok v w':=by
 have he0:=d;unfold lU at d;split at d
 .cases d
 .rename_i elem d1 DF hu0 aiF;have T:=hu0;have t:=aiF;simp only[wd]at T t;obtain⟨t0,h0,T⟩:=T;obtain⟨t1,h1,t⟩:=t;have hC:∀k,d1≠ .int k:=λk e=>DF k e;split at d
  .cases d
  rename_i i hi;split at d
  .cases d
  rename_i new N;split at d;rotate_left
  .cases d
  rename_i hz;obtain⟨nv,n1,n2,n3,n4,n5,n6⟩:=Ee (P:=P) s N hx;obtain⟨nv',n1',n2',n3',n4',n5',n6'⟩:=Ee (P:=P) (s.drew (w.drawn+1)) N hx;have fresh:∀{h0:Heap} (s0:bJ K G ok w0 h0 w) {H g:Nat} {ad:Option Addr} {cs:List U} {l:List aG},F h0.boxes=F h.boxes->g<H+F new->aH K cs l->cs.all U.cW=V->F cs=H*i.size->
   (Builtin.firstCells i.size H (.slice ad H g)).run P {w with drawn:=w.drawn+1}=.ok l.toArray {w with drawn:=w.drawn+1}->(H+F new)*i.bytes<=140737488355328->H+F new<=9223372036854775807->
   ∃m v w',K.Le m/\bJ m G ok w0 {h0 with boxes:=h0.boxes++[cs++new.flatten]} w'/\aO m (.arr (F h.boxes) 0 (H+F new) (H+F new)) v/\(Builtin.append_ ts ty #[.slice ad H g,cx]).run P w=.ok v w':=by
   intro h0' s0 H g ad cs l pg f gq yf eI hf u hm;have GP:F new.flatten=F new*i.size:=lu n2';obtain⟨nc,cells,g1,g2,g3,g4⟩:=ahh (ty:=ty) h0 T h1 t hC hi hz.2 f (by rw[<-gq.length,eI]) hf n1 n5' n6' u hm;have ahU:F (cs++new.flatten)=(H+F new)*i.size:=(by grind);obtain⟨q1,q2⟩:=(s0.drew (w.drawn+1)).NG (cs:=cs++new.flatten) (cells:=cells) elem (J (H+F new,i.size,nc*i.size)) (by rw[ahU,g3];exact gq.append n3') (by grind)
    (λz2 Z Y z1=>by
     grind)
   cases q2 with|box _ _ _ A=>rw[pg]at A;refine⟨_,_,_,K.yV _ _,q1,.arr _ _ _ _ _ _ _ A (aV _) g1 (.inl O) (.inr (.inr (.inr ⟨i.size,nc*i.size,?_,hz.1,aV _⟩))),g4⟩;have z:F h.boxes=F K.β:=(by rw[s0.iD,pg]);simp only[aW.mF,z,if_true]
  split at d
  .rename_i k Z n;split at d;rotate_left
   .cases d
   rename_i gC;split at d
   .rename_i DE;refine Km s ?_ E hx;unfold gb;simp_all
   .rename_i hnn;split at d;rotate_left
    .cases d
    rename_i u;have MC:rowsOf h i.size (.list k Z n)=J n:=(by simp only[rowsOf];simp_all);obtain⟨b,g,l,rfl,r1,r2,r3,r4,r5,r6⟩:=Ez (P:=P) (s.drew (w.drawn+1)) MC E;have hf:(Builtin.firstCells i.size (F n) (.slice b (F n) g)).run P {w with drawn:=w.drawn+1}=.ok l.toArray {w with drawn:=w.drawn+1}:=by
     cases b with|none=>have:=r6 O;subst this;have:l=[]:=(by simpa using r4);subst this;rfl|some b=>exact r5 b O
    have aim:0<F new:=by cases new with|nil=>simp_all|cons _ _=>simp
    have fin:g<F n+F new->J (U.arr (F h.boxes) 0 (F n+F new) (F n+F new),({h with boxes:=h.boxes++[(n++new).flatten]}:Heap))=J (y,h')->∃m v w',K.Le m/\bJ m G ok w0 h' w'/\aO m y v/\(Builtin.append_ ts ty #[.slice b (F n) g,cx]).run P w=.ok v w':=λf hq=>(by injection hq with hq;obtain⟨rfl,rfl⟩:=eW hq;rw[oi];exact fresh s O f r2 r3 (lu r1) hf u.1 u.2);split at d
    .refine fin ?_ d;cases E with|nil=>omega|list _ _ _ _ _ _ _ _ _ _ _ _ S _=>exact S.2.elim
    .refine fin ?_ d;cases E with|fP=>omega|list _ _ _ _ _ _ _ _ _ _ _ _ S _=>have:=S.2;omega
    grind
  .rename_i b off len g;split at d
   .rename_i cs iT;split at d
    .exact Km s d E hx
    .rename_i LV;split at d
     .rename_i hc;injection d with d;obtain⟨rfl,rfl⟩:=eW d;obtain⟨c1,c2,c3,c4,c5,c6⟩:=hc;subst c1;subst c3;cases E with
      |arr _ z0 _ _ _ rK L u hl ph AM rD=>
       have Mk:rK=0:=(by omega);subst Mk;obtain⟨k1,k2,ka,cells,e,k3,X⟩:=s.box b z0 cs u iT;have fI:cs≠[]:=λz1=>(by subst z1;have:=JV c2 hz.1;simp_all);have TP:=(aS.1 iT).1;have C:=s.Sq b;have D:F (h.boxes.set b [])=F h.boxes:=(by simp);rcases dp L (len+F new) with f|f
       .refine fresh C D f X.1 ka c4.symm ?_ c5 c6;have:=run_loadCells_list (P:=P) {w with drawn:=w.drawn+1} ⟨z0,0,af⟩ (cells.toList.take (F cs)) (λj v hj=>by
         rw[Addr.gY,cell_of (w:={w with drawn:=w.drawn+1}) k3]
         grind)
        rw[<-X.1.length,<-c4]at this;rw[<-c4];exact this
       .rcases rD with r|r|r|⟨Z,Y,r1,r2,r3⟩
        .omega
        .omega
        .omega
        .rcases X.2 _ _ _ r1 with z1|⟨q1,q2⟩
         .simp_all
         .have gC:i.size=Z:=Nat.eq_of_mul_eq_mul_left c2 (c4.trans q1);subst gC;have iq:=X.le;have GP:F new.flatten=F new*i.size:=lu n2;have DL:(len+F new)*i.size<=cells.size:=eS (ma _ f) (eS r3 q2);rw[jh]at DL;obtain⟨w',q,w1,w2,w3⟩:=BO (P:=P) (0+len*i.size) e (0,0) nv 0 cells w k3 M (xF n3 n4) (λj _ _=>ya j);have auL:F q.toList=F cells.toList:=(by rw[w3];exact OX (by simp_all));obtain⟨s3,tG⟩:=C.Y3 (g:=z0) (cs:=cs++new.flatten) (cells:=q) (e:=e) k1 k2
           (λb2 A=>by
            show(h.boxes.set b [])[b2]?=J [];rw[kQ];by_cases tH:b=b2
            .simp_all
            .rw[aP tH];rcases s.mV _ _ _ u A with p|p|p<;>simp_all)
           (λz3 S hq=>by obtain⟨_,z1,_⟩:=s.tok z3 S;simp_all) k3 (J (len+F new,i.size,cells.size))
           (λz2 Z Y z1=>by
            grind) w2
           (by rw[cg,GP,w3];have e1:F cs+F new*i.size=0+len*i.size+0+F nv:=(by omega);rw[e1,Qb (by simp_all),fR (by simp_all)];have e2:0+len*i.size+0=F cs:=(by omega);rw[e2];exact X.1.append n3) (by grind)
          rw[D]at tG;refine⟨_,.slice (J ⟨z0,0,af⟩) (len+F new) L,w',K.yV _ _,s3,.arr _ _ _ _ _ _ _ tG (aV _) f (.inl O) (.inr (.inr (.inr ⟨i.size,cells.size,?_,hz.1,eS r3 q2⟩))),?_⟩
          .have z:F h.boxes=F K.β:=s.iD.symm;simp only[aW.mF,z,if_true]
          .have wM:(⟨z0,0,af⟩:Addr).add (len*i.size)=⟨z0,0+len*i.size,af⟩:=Addr.gY _ _ _;cases d1<;>first|exact absurd O (hC _)|(simp only[Builtin.append_,h0,iG,iF,jS,Sem.run_bind,cQ T,Result.andThen_ok,sizeOf,oG hi,Sem.run_pure,h1,cQ t,jo,if_false,n1,f,if_true,zD,n6,wM,w1])
     grind
   grind
  grind
 grind
def adA(s:bJ K G ok w0 h w){t:aC}{len:Nat}{parts:Array (Nat × bP)}{ρ:bP->U}{ρ':bP->aG}(hρ:∀x,aO K (ρ x) (ρ' x)){k:Tok}{sz:Nat}{es:List (List U)}
 (f:ff P t len (parts.toList.map λp=>(p.1,ρ p.2))=J (.list k sz es)):
 ∃l v w',K.Le l/\bJ l G ok w0 (h.fresh sz es).2 w'/\aO l (h.fresh sz es).1 v/\(Instr.buildSlice t len (parts.map λp=>(p.1,ρ' p.2))).run P w=.ok v w':=by
 obtain⟨p1,p2⟩:=NU hρ parts;unfold ff at f;split at f
 .rename_i elem E;split at f
  .rename_i c zero D hz;obtain⟨u,L,q,N⟩:=zB (K:=K) hz w;split at f
   .rename_i X;simp only[dg]at f;obtain⟨r,ho,f⟩:=f;injection f with _ y T;subst y;subst T;obtain⟨f1,f2,f3⟩:=SP (λz0 hr=>by simp_all) ho;have S:u.cells.size=c:=(by rw[<-X.2.1,q.length];simp);have m:((vQ (len*c)).map (u.cells[·%u.cells.size]!)).toList=(bB len u.cells.toList).flatten:=(by rw[<-S];exact Ew _ _);obtain⟨g,z,q2⟩:=F9 (cZ:=(vQ (len*c)).map (u.cells[·%u.cells.size]!)) f1 (by rw[m];exact q.x9 len) p1 p2;have n:F r=len:=(by rw[f3];simp);have MM:F g.toList=len*c:=(by rw[<-q2.length,lu f2,n]);obtain⟨l,le,s',H⟩:=s.Lf (w':={w with heap:=w.heap.push (.cells g elem)}) (d:=h.dead) (λ_ Z=>Z) (sz:=c) (es:=r) (cells:=g) (e:=elem) (fz:=(0,0)) (aR:=len)
     f2 (SQ f1 (Ij N len)) (by grind) O O O b7 (λk Y=>AB w _ Y) b7
     M (by simp_all) (λj hj=>by simp[j8])
    rw[n]at H;refine⟨l,.slice (J ⟨w.heap.size,0,af⟩) len len,_,le,s',H,?_⟩;by_cases A:len*c=0
    .have C:len=0:=by
      rcases aaN.1 A with h|h
      .exact h
      .omega
     subst C;simp only[J1]at z;have y:(vQ 0).map (λx=>(#[]:Array aG)[x%(#[]:Array aG).size]!)=(vQ 0).map (u.cells[·%u.cells.size]!):=(by simp);simp only[Instr.buildSlice,Sem.run_bind,cQ E,Result.andThen_ok,lQ D,J1];simp only[mY,gt_iff_lt,if_false,aaT,if_true,Sem.run_pure,Result.andThen_ok,y,z,newRow,Sem.run_bind,run_newObj]
    .simp only[Instr.buildSlice,Sem.run_bind,cQ E,Result.andThen_ok,lQ D];rw[aP M,aP A];simp only[Sem.run_pure,Sem.run_bind,L,Result.andThen_ok,z,newRow,run_newObj]
   grind
  grind
 grind
def bJ.kill(s:bJ K G ok w0 h w){t:Nat}(D:alive h t=V)(n:Nat):bJ K G ok w0 {h with dead:=t::h.dead} (w.freeze ⟨(K.tk t).1,n,af⟩ 1):=by
 obtain⟨t1,t2,t3,c0,S,z0,t4,t5,t6⟩:=s.tok t D;have f:∃z7,(w.freeze ⟨(K.tk t).1,n,af⟩ 1).heap[(K.tk t).1]?=J (.cells c0 S z7):=by simp only[World.freeze,Qh,if_false,B8,if_true,t4,fk];exact⟨_,O⟩
 obtain⟨z1,f⟩:=f;have l:∀k,k≠(K.tk t).1->(w.freeze ⟨(K.tk t).1,n,af⟩ 1).heap[k]?=w.heap[k]?:=λk hk=>by
  simp only[World.freeze,Qh,if_false,B8]
  grind
 have gC:(w.freeze ⟨(K.tk t).1,n,af⟩ 1).heap.size=w.heap.size:=by simp[World.freeze]
 have m:∀c,alive {h with dead:=t::h.dead} c=V->alive h c=V/\c≠t:=λc h'=>by unfold alive at h' ⊢;simp_all
 refine⟨?_,by grind,λv j z4 Z=>?_,s.dB,s.iD,s.mV,λb v cs Y E=>?_,s.lV,s.nT,λz5 v z2 z A=>?_,s.tn,λc p=>?_,λc z3 p hu=>s.nw c z3 (m c p).1 (m z3 hu).1,λz2 A=>?_,s.all⟩
 .refine s.fD.trans ⟨O,O,O,by omega,λk hk=>?_⟩
  grind
 .have g:=s.ic v j z4 Z;by_cases H:v=(K.tk t).1
  .subst H;rw[cell_of t4]at g;rw[cell_of f];exact g
  .rw[<-g];exact World.cell?_of_block (w:=w) (l v H)
 .obtain⟨g,q,Lq,d,e',x,y⟩:=s.box b v cs Y E
  grind
 .obtain⟨g,fn,tmps,z8,q,x⟩:=s.loop z5 v z2 z A
  grind
 .obtain⟨u,N⟩:=m c p;obtain⟨g,q,x,d,e',r,y,T,X⟩:=s.tok c u;have L:(K.tk c).1≠(K.tk t).1:=λz6=>N (s.nw c t u D z6);have C:(w.freeze ⟨(K.tk t).1,n,af⟩ 1).heap[(K.tk c).1]?=J (.cells d e' r):=by rw[l _ L];exact y
  exact⟨g,q,x,d,e',r,C,T,λj hj z=>by rw[<-X j hj z,tt y,tt C]⟩
 .obtain⟨g,q⟩:=s.md z2 A
  grind
def ae3(s:bJ K G ok w0 h w){src u:aC}{x y:U}{h':Heap}(d:jX P h src u x=J (y,h')){c:aG}(t:aO K x c):
 ∃m v w',K.Le m/\bJ m G ok w0 h' w'/\aO m y v/\(convert src u c).run P w=.ok v w':=by
 unfold jX at d;split at d
 .rename_i e str g f;obtain⟨rfl,_⟩:=t.gI;split at d
  .rename_i i l hi;split at d
   .injection d with d;obtain⟨rfl,rfl⟩:=eW d;obtain⟨m,v,w',q1,q2,q3,q4⟩:=ath (P:=P) s (e:=e) (str:=str);exact⟨m,v,w',q1,q2,q3,by simp only[convert,Sem.run_bind,cQ g,cQ f,cQ l,Result.andThen_ok];exact q4⟩
   grind
  grind
 .rename_i e g f;split at d
  .rename_i rows l r;simp only[dg]at d;obtain⟨z4,hl,d⟩:=d;obtain⟨rfl,rfl⟩:=eW d;obtain⟨a,n,qi,rfl,L,X,E,p,q,D⟩:=Ez (P:=P) s r t;obtain⟨ns,rfl,rfl⟩:=adE hl X;refine⟨K,.string ⟨(ns.map λY=>UInt8.ofNat Y.toNat).toArray⟩,w,.refl K,s,.v _ O,?_⟩;cases a with|none=>have:=D O;subst this;simp at p;subst p;simp only[convert,Sem.run_bind,cQ g,cQ f,cQ l,Result.andThen_ok,Conv.bytesToString];rfl|some b=>have A:=q b O;rw[jC]at A;simp only[convert,Sem.run_bind,cQ g,cQ f,cQ l,Result.andThen_ok,Conv.bytesToString,A,List.forIn_toArray,Sem.run_pure];simp[foldl_push]
  grind
 .rename_i e e2 z1 sz es g f;split at d
  .rename_i l;split at d
   .rename_i hc;obtain⟨rfl,z⟩:=hc;injection d with d;obtain⟨rfl,rfl⟩:=eW d;cases t with|list _ _ _ z3 C Y n cells hn L hv H ht E=>obtain⟨S,ht2,T,ht4,ht5⟩:=ht;subst T;obtain⟨t1,t2,t3,c0,Z,z0,t4,t5,t6⟩:=s.tok z1 z;refine⟨K,.slice (J ⟨(K.tk z1).1,C,af⟩) Y n,_,.refl K,s.kill z c0.size,.list .held sz es _ C Y n cells hn L hv H ⟨S,trivial⟩ E,?_⟩;have N:w.shape? (K.tk z1).1=J (Z,c0.size):=(by simp[World.shape?,t4]);rw[g]at f;injection f with f;injection f with f;subst f;simp only[convert,Sem.run_bind,cQ g,cQ l,Result.andThen_ok,beq_self_eq_true,markStringish,run_shape,N,run_freeze,Sem.run_pure]
   grind
  grind
 .cases d
 .rename_i d1 d2 z5 g f _ _ _ _;simp only[dg,wd]at d;obtain⟨z6,⟨z2,h1,h2⟩,d⟩:=d;obtain⟨rfl,rfl⟩:=eW d;obtain⟨rfl,_⟩:=t.gI;exact⟨K,z2,w,.refl K,s,EM h2,El h1 w⟩
 grind
end
section
variable {P:bj} {K:aW} {G:Nat->Option (List U)} {ok:aQ->Nat->Code->Bool} {w0 w:bO} {h:Heap}
def ae7(s:bJ K G ok w0 h w){ts:Array aC}{ty:aC}{a x y:U}{h':Heap}(p:wr P h ts a x=J (y,h')){c cx:aG}(ha:aO K a c)(u:aO K x cx):
 ∃K' v w',K.Le K'/\bJ K' G ok w0 h' w'/\aO K' y v/\(Builtin.copy_ ts ty #[c,cx]).run P w=.ok v w':=by
 unfold wr at p;split at p
 .rename_i elem T;simp only[wd]at T;obtain⟨t0,h0,T⟩:=T;split at p
  .rename_i i b off len aR hi;split at p
   .rename_i d cs f Z;split at p
    .rename_i hc;injection p with p;obtain⟨rfl,rfl⟩:=eW p;obtain⟨C,n1,n2,n3,n4,n5,n⟩:=Ee (P:=P) s f u;cases ha with
     |arr _ z0 _ _ _ rK qx hb l ph AM rD=>
      obtain⟨k1,k2,ka,cells,e,k3,k4⟩:=s.box b z0 cs hb Z;have MM:F cs<=cells.size:=k4.le;have aig:nx (F d) len<=F d:=Nat.min_le_left _ _;have S:nx (F d) len<=len:=Nat.min_le_right _ _;have hm:nx (F d) len*i.size<=len*i.size:=ma _ S;have nK:nx (F d) len*i.size<=F d*i.size:=ma _ aig;have na:(d.take (nx (F d) len)).flatten=d.flatten.take (nx (F d) len*i.size):=Lc n2 _;have wW:aH K (d.take (nx (F d) len)).flatten (C.take (nx (F d) len*i.size)):=(by rw[na];exact n3.take _);have Y:(d.take (nx (F d) len)).flatten.all U.cW=V:=(by rw[na,eF];intro x u;exact eF.1 n4 x (xy u));have pW:F (C.take (nx (F d) len*i.size))=nx (F d) len*i.size:=(by simp only[cR];omega);obtain⟨w',cZ,q1,q2,q3⟩:=aqC (P:=P) AM (vs:=C.take (nx (F d) len*i.size)) (λhz=>by simp_all) k3 M (xF wW Y);refine⟨K,.int .i64 (nx (F d) len:Nat),w',.refl K,s.O_ hb Z (by grind) k3 q2 q3 wW Y,.v _ O,?_⟩
      .-- the source's first cells, as many as are copied
       have D:(Builtin.firstCells i.size (nx (F d) len) cx).run P w=.ok (C.take (nx (F d) len*i.size)).toArray w:=by
        unfold jx at f;split at f
        .rename_i str;split at f
         .rename_i h1;injection f with f;subst f;obtain⟨rfl,_⟩:=u.gI;have q:F (str.data.toList.map ie)=str.size:=(by rw[br];rfl);have e2:C=str.data.toList.map λb=>Value.int .u8 b.toNat:=(by have e3:(Builtin.firstCells i.size (F (str.data.toList.map ie)) (.string str)).run P w=.ok (str.data.toList.map λb=>Value.int .u8 b.toNat).toArray w:=(by rw[q];have:str.extract 0 str.size=str:=(by simp);have e4:str.data.map (λb=>Value.int .u8 b.toNat)=(str.data.toList.map λb=>Value.int .u8 b.toNat).toArray:=(by apply Jg;simp);simp only[Builtin.firstCells,this,Sem.run_pure,e4]);rw[e3]at n;injection n with n _;exact(JP n).symm);subst e2;rw[h1,jC];simp only[Builtin.firstCells,Sem.run_pure];congr 1;apply Jg;simp_all
         simp_all
        .obtain⟨a,qx,z,rfl,hr,gq,yf,L,N,DE⟩:=Ez (P:=P) s f u;cases a with
         |none=>simp_all|some ad=>
          simp only[Builtin.firstCells];have l:=N ad O;have e5:z=C:=(by simp only[Builtin.firstCells]at n;rw[l]at n;injection n with n _;exact JP n);subst e5;have auK:∀j v,z[j]?=J v->w.cell? (ad.add j)=J v:=by
           unfold rowsOf at f;split at f
           .rename_i k sz es _;split at f
            .injection f with f;subst f;cases u with|fP=>simp_all|list _ _ _ H m z1 cap2 g hn GZ aiI E ht2 Lq=>have q:=run_loadCells_list (P:=P) w ⟨H,m,af⟩ g (λj v A=>by rw[Addr.gY];exact s.ic _ _ _ (E j v A));have r:F g=F es*i.size:=(by rw[<-aiI.length,gq.length,L]);rw[r]at q;rw[q]at l;injection l with l _;have:=JP l;subst this;intro j v A;rw[Addr.gY];exact s.ic _ _ _ (E j v A)
            simp_all
           .rename_i b2 m VM cap2 _;split at f
            .rename_i X LL;split at f
             .rename_i auO;injection f with f;cases u with
              |arr _ H _ _ _ off2' cap2' j_ q TR t ava=>
               obtain⟨_,_,_,g,e2,k3',k4'⟩:=s.box b2 H X j_ LL;have eI:F X<=F g.toList:=(by have:=k4'.le;simpa using this);rcases t with t|oz;rotate_left 1
               .simp_all
               rw[t]at l ⊢;have r:F ((g.toList.drop m).take (d.length*i.size))=F d*i.size:=(by simp only[cR,ev];omega);have GJ:=run_loadCells_list (P:=P) w ⟨H,m,af⟩ ((g.toList.drop m).take (F d*i.size)) (λj v A=>by
                rw[Addr.gY,cell_of k3']
                grind)
               rw[r]at GJ;rw[GJ]at l;injection l with l _;have:=JP l;subst this;intro j v A;rw[Addr.gY,cell_of k3']
               grind
             simp_all
            simp_all
           .grind
          have:=run_loadCells_list (P:=P) w ad (z.take (nx (F d) len*i.size)) (λj v A=>by
           grind)
          simp_all
       simp only[Builtin.copy_,h0,iG,iF,jS,Sem.run_bind,cQ T,Result.andThen_ok,n1,sizeOf,oG hi,Sem.run_pure,D,q1];rfl
    grind
   grind
  grind
 grind
def ake{ts:Array aC}{ty t:aC}(g:ts[0]?=J t){x y:U}(d:dK P t x=J y){c:aG}(l:aO K x c)(w:bO):
 ∃v,(Builtin.len_ ts ty #[c]).run P w=.ok v w/\aO K y v:=by
 unfold dK at d;split at d
 .rename_i f;injection d with d;subst d;obtain⟨rfl,_⟩:=l.gI;exact⟨_,by simp only[Builtin.len_,g,iG,iF,Sem.run_bind,cQ f,Result.andThen_ok,Sem.run_pure,goInt],.v _ O⟩
 .rename_i r e f;injection d with d;subst d;exact⟨_,by simp only[Builtin.len_,g,iG,iF,Sem.run_bind,cQ f,Result.andThen_ok,Sem.run_pure,goInt],.v _ O⟩
 .rename_i a f;split at d
  .rename_i r e n;injection d with d;subst d;exact⟨_,by simp only[Builtin.len_,g,iG,iF,Sem.run_bind,cQ f,cQ n,Result.andThen_ok,Sem.run_pure,goInt],.v _ O⟩
  grind
 .rename_i e k u s f;injection d with d;subst d;cases l with
  |nil=>exact⟨.int .i64 0,by simp only[Builtin.len_,g,iG,iF,Sem.run_bind,cQ f,Result.andThen_ok,Sem.run_pure,goInt];rfl,.v _ O⟩
  |fP=>exact⟨.int .i64 0,by simp only[Builtin.len_,g,iG,iF,Sem.run_bind,cQ f,Result.andThen_ok,Sem.run_pure,goInt];rfl,.v _ O⟩
  |list _ _ _ z p r m cells q _ _ _ _ _=>subst q;exact⟨_,by simp only[Builtin.len_,g,iG,iF,Sem.run_bind,cQ f,Result.andThen_ok,Sem.run_pure,goInt],.v _ O⟩
 .rename_i e b p len m f;injection d with d;subst d;cases l with|arr=>exact⟨_,by simp only[Builtin.len_,g,iG,iF,Sem.run_bind,cQ f,Result.andThen_ok,Sem.run_pure,goInt],.v _ O⟩
 grind
def adW{ts:Array aC}{ty t:aC}(g:ts[0]?=J t){x y:U}(d:Ad P t x=J y){c:aG}(m:aO K x c)(w:bO):
 ∃v,(Builtin.cap_ ts ty #[c]).run P w=.ok v w/\aO K y v:=by
 unfold Ad at d;split at d
 .rename_i e q n f;injection d with d;subst d;cases m with
  |fP=>exact⟨.int .i64 0,by simp only[Builtin.cap_,g,iG,iF,Sem.run_bind,cQ f,Result.andThen_ok,Sem.run_pure,goInt];rfl,.v _ O⟩
  |list _ _ _ z s u r cells p _ _ _ l _=>have:=l.2;simp only at this;subst this;subst p;exact⟨_,by simp only[Builtin.cap_,g,iG,iF,Sem.run_bind,cQ f,Result.andThen_ok,Sem.run_pure,goInt],.v _ O⟩
 .rename_i e q n f;injection d with d;subst d;cases m with
  |nil=>exact⟨.int .i64 0,by simp only[Builtin.cap_,g,iG,iF,Sem.run_bind,cQ f,Result.andThen_ok,Sem.run_pure,goInt];rfl,.v _ O⟩
  |list _ _ _ _ _ _ _ _ _ _ _ _ l _=>exact l.2.elim
 .rename_i u e f;injection d with d;subst d;exact⟨_,by simp only[Builtin.cap_,g,iG,iF,Sem.run_bind,cQ f,Result.andThen_ok,Sem.run_pure,goInt],.v _ O⟩
 grind
def Ro(s:bJ K G ok w0 h w){b:Builtin}{ts:Array aC}{ty:aC}{args:List U}{y:U}{h':Heap}(c:ia P h b ts ty args=J (y,h')){vs:Array aG}(d:aH K args vs.toList)(n:Array Bool):
 ∃g v w',K.Le g/\bJ g G ok w0 h' w'/\aO g y v/\(builtin b ts ty n vs).run P w=.ok (.value v) w':=by
 unfold ia at c;obtain⟨vs⟩:=vs;simp only at d;split at c
 .cases d with|cons _ C _ _ d f=>cases f with|nil=>
  split at c
  .rename_i N q;simp only[dg]at c;obtain⟨H,x,c⟩:=c;obtain⟨rfl,rfl⟩:=eW c;obtain⟨v,l,m⟩:=ake (ty:=ty) q x d w;exact⟨K,v,w,.refl K,s,m,by simp only[builtin,Sem.run_bind,l,Result.andThen_ok,Sem.run_pure]⟩
  grind
 .cases d with|cons _ C _ _ d f=>cases f with|nil=>
  split at c
  .rename_i N q;simp only[dg]at c;obtain⟨H,x,c⟩:=c;obtain⟨rfl,rfl⟩:=eW c;obtain⟨v,l,m⟩:=adW (ty:=ty) q x d w;exact⟨K,v,w,.refl K,s,m,by simp only[builtin,Sem.run_bind,l,Result.andThen_ok,Sem.run_pure]⟩
  grind
 .cases d with|cons _ C _ _ d f=>cases f with|cons _ D _ _ p f=>cases f with|nil=>
  obtain⟨g,v,w',l,m,z,A⟩:=Km (ty:=ty) s c d p;exact⟨g,v,w',l,m,z,by simp only[builtin,Sem.run_bind,A,Result.andThen_ok,Sem.run_pure]⟩
 .cases d with|cons _ C _ _ d f=>cases f with|cons _ D _ _ p f=>cases f with|nil=>
  obtain⟨g,v,w',l,m,z,A⟩:=ae7 (ty:=ty) s c d p;exact⟨g,v,w',l,m,z,by simp only[builtin,Sem.run_bind,A,Result.andThen_ok,Sem.run_pure]⟩
 .split at c
  .rename_i L u;simp only[dg,wd]at c;obtain⟨H,⟨E,r,t⟩,c⟩:=c;obtain⟨rfl,rfl⟩:=eW c;have:=K9 u d;subst this;exact⟨K,E,w,.refl K,s,EM t,by simp only[builtin,Sem.run_bind,El r w,Result.andThen_ok,Sem.run_pure]⟩
  grind
 .split at c
  .rename_i L u;simp only[dg,wd]at c;obtain⟨H,⟨E,r,t⟩,c⟩:=c;obtain⟨rfl,rfl⟩:=eW c;have:=K9 u d;subst this;exact⟨K,E,w,.refl K,s,EM t,by simp only[builtin,Sem.run_bind,El r w,Result.andThen_ok,Sem.run_pure]⟩
  grind
 grind
def adD(s:bJ K G ok w0 h w){d:Option Tmp}{b:Builtin}{ts:Array aC}{ty:aC}{args:List U}{y:U}{h':Heap}(f:oU P G d h b ts ty args=J (y,h')){vs:Array aG}(g:aH K args vs.toList)(c:Array Bool):
 ∃l v w',K.Le l/\bJ l G ok w0 h' w'/\aO l y v/\(builtin b ts ty c vs).run P w=.ok (.value v) w':=by
 unfold oU at f;split at f
 .split at f
  .obtain⟨vs⟩:=vs;simp only at g;cases g with|cons _ x _ _ g m=>cases m with|cons _ u _ _ n m=>cases m with|nil=>
   obtain⟨l,v,w',p,q,r,t⟩:=Pi (ty:=ty) s f g n;exact⟨l,v,w',p,q,r,by simp only[builtin,Sem.run_bind,t,Result.andThen_ok,Sem.run_pure]⟩
  .exact Ro s (b:=.append) (ts:=ts) (ty:=ty) (args:=[_,_]) (show ia P h .append ts ty [_,_]=_ from f) g c
 .exact Ro s f g c
def amm{c a b y:U}(d:HQ c a b=J y){l f g:aG}(m:aO K c l)(n:aO K a f)(p:aO K b g):
 ∃t v,l=.bool t/\v=(if t then f else g)/\aO K y v:=by
 unfold HQ at d;split at d
 .rename_i t;injection d with d;subst d;obtain⟨rfl,_⟩:=m.gI
  grind
 grind
def amn(s:bJ K G ok w0 h w){ρ:bP->U}{ρ':bP->aG}(l:∀x,aO K (ρ x) (ρ' x)){o:Oper}{x:U}{h':Heap}(c:di P G ρ h o.op=J (x,h')):
 Yields K G ok w0 x h' ((execOp ρ' o).run P w):=by
 unfold execOp;cases hop:o.op<;>rw[hop]at c<;>simp only[di]at c
 case move a=>injection c with c;obtain⟨rfl,rfl⟩:=eW c;exact .kn s (l a) O
 case assign a=>injection c with c;obtain⟨rfl,rfl⟩:=eW c;exact .kn s (l a) O
 case pick C a b=>
  simp only[dg]at c;obtain⟨u,d,c⟩:=c;obtain⟨rfl,rfl⟩:=eW c;obtain⟨t,r,m,rfl,n⟩:=amm d (l C) (l a) (l b);refine .kn s n ?_;simp only[m,asBool,Sem.run_bind,Sem.run_pure,Result.andThen_ok]
 case alloc t=>
  simp only[dg]at c;obtain⟨cs,v,c⟩:=c;obtain⟨q,r,w',m,g,n,z⟩:=abY (P:=P) s v;rw[c]at g n;exact⟨q,r,w',m,g,n,.inl (by simp_all)⟩
 case box t a=>
  simp only[dg]at c;obtain⟨cs,v,c⟩:=c;obtain⟨q,r,w',m,g,n,z⟩:=adr (P:=P) (t:=t) s v (l a);rw[c]at g n;exact⟨q,r,w',m,g,n,.inl (by simp_all)⟩
 case build t parts=>
  simp only[dg]at c;obtain⟨u,d,c⟩:=c;obtain⟨rfl,rfl⟩:=eW c;obtain⟨r,m,g⟩:=adC l d w;exact .kn s g (by simp_all)
 case buildSlice t len parts=>
  split at c
  .simp only[dg]at c;obtain⟨u,d,c⟩:=c;obtain⟨rfl,rfl⟩:=eW c;obtain⟨q,r,w',m,g,n,z⟩:=adB s l d;exact⟨q,r,w',m,g,n,.inl (by simp_all)⟩
  .split at c
   .rename_i k sz es d;injection c with c;obtain⟨q,r,w',m,g,n,z⟩:=adA s l d;rw[c]at g n;exact⟨q,r,w',m,g,n,.inl (by simp_all)⟩
   grind
 case load t a=>
  simp only[dg]at c;obtain⟨u,d,c⟩:=c;obtain⟨rfl,rfl⟩:=eW c;obtain⟨z0,z1,r,m,g,n⟩:=VU s d (l a);exact .kn s n (by simp only[m,Instr.loadAt,Instr.sureAddr,Sem.run_bind,g,Result.andThen_ok,Sem.run_pure])
 case store t a u=>
  simp only[dg]at c;obtain⟨T,d,c⟩:=c;obtain⟨rfl,rfl⟩:=eW c;obtain⟨w',m,g⟩:=asp s d (l a) (l u);exact⟨K,undef,w',.refl K,g,.tuple _ _ .nil,.inr ⟨by simp_all,O⟩⟩
 case nilCheck a=>
  simp only[dg]at c;obtain⟨u,d,c⟩:=c;obtain⟨rfl,rfl⟩:=eW c;have p:=l a;generalize ρ a=xa at p d;generalize A:ρ' a=N at p;unfold NJ at d;split at d
  .injection d with d;subst d;cases p with|box _ _ _ hb=>exact .kn s (.box _ _ _ hb) (by simp_all)|dB _ _=>exact .kn s (.dB _ _) (by simp_all)
  .injection d with d;subst d;cases p with|elem _ _ _ _ z0 o z1 cells H hv D Y hp X=>exact .kn s (.elem _ _ _ _ z0 o z1 cells H hv D Y hp X) (by simp_all)
  .injection d with d;subst d;cases p with|func _ _ _ fs cs h1 T=>exact .kn s (.func _ _ _ fs cs h1 T) (by simp_all)
  .injection d with d;subst d;cases p with|yield _ z0 hl=>exact .kn s (.yield _ z0 hl) (by simp_all)
  .injection d with d;subst d;cases p with|iface _ _ C hx=>exact .kn s (.iface _ _ C hx) (by simp_all)
  grind
 case binOp op t a b yt=>
  simp only[dg]at c;obtain⟨u,d,c⟩:=c;obtain⟨rfl,rfl⟩:=eW c;obtain⟨r,m,g⟩:=acX d (l a) (l b) w;exact .kn s g (by rw[Sem.run_bind,m];rfl)
 case unOp op t a=>
  simp only[dg]at c;obtain⟨u,d,c⟩:=c;obtain⟨rfl,rfl⟩:=eW c;obtain⟨r,m,g⟩:=att d (l a) w;exact .kn s g (by simp_all)
 case convert sr ds a=>
  obtain⟨q,r,w',m,g,n,z⟩:=ae3 s c (l a);exact⟨q,r,w',m,g,n,.inl (by simp_all)⟩
 case makeInterface t a=>
  split at c
  .rename_i Z;injection c with c;obtain⟨rfl,rfl⟩:=eW c;obtain⟨z3,L,hd⟩:=M8 Z;refine .kn s (.iface t _ _ (l a)) ?_;simp only[Instr.makeInterface,Sem.run_bind,cQ L,Result.andThen_ok];simp_all
  grind
 case makeFunc fn first aR=>
  injection c with c;obtain⟨rfl,rfl⟩:=eW c;refine .kn s (.func fn _ _ _ _ (by rw[B_];exact aH.map_mk λx _=>l x) (by rw[B_];exact aH.map_mk λx _=>l x)) O
 case makeSlice t z2 C=>
  obtain⟨q,r,w',m,g,n,z⟩:=akQ s c (l z2) (l C);exact⟨q,r,w',m,g,n,.inl (by simp_all)⟩
 case slice t a lo Y mx=>
  simp only[dg]at c;obtain⟨u,d,c⟩:=c;obtain⟨rfl,rfl⟩:=eW c;obtain⟨r,m,g⟩:=arz l d (l a) w;exact .kn s g (by simp_all)
 case fieldAddr t a f=>
  simp only[dg]at c;obtain⟨u,d,c⟩:=c;obtain⟨rfl,rfl⟩:=eW c;obtain⟨r,m,g⟩:=agb d (l a) w;exact .kn s g (by simp_all)
 case field t a f=>
  have p:=l a;generalize ρ a=xa at p c;generalize A:ρ' a=N at p;split at c
  .rename_i fields cs L;split at c
   .rename_i fd hf;simp only[dg]at c;obtain⟨u,d,c⟩:=c;obtain⟨rfl,rfl⟩:=eW c;cases p with|agg _ vs y=>obtain⟨r,m,g⟩:=WM d y w;exact .kn s g (by simp only[Instr.field,Sem.run_bind,cQ L,Result.andThen_ok,hf,A,asAgg,Sem.run_pure,m])
   grind
  grind
 case indexAddr t a i=>
  simp only[dg]at c;obtain⟨u,d,c⟩:=c;obtain⟨rfl,rfl⟩:=eW c;obtain⟨r,m,g⟩:=aiV d (l a) (l i) w;exact .kn s g (by simp_all)
 case index t a i=>
  simp only[dg]at c;obtain⟨u,d,c⟩:=c;obtain⟨rfl,rfl⟩:=eW c;obtain⟨r,m,g⟩:=aiY d (l a) (l i) w;exact .kn s g (by simp_all)
 case typeAssert a xt t okk=>
  simp only[dg]at c;obtain⟨u,d,c⟩:=c;obtain⟨rfl,rfl⟩:=eW c;obtain⟨r,m,g⟩:=acm (xt:=xt) d (l a) w;exact .kn s g (by simp_all)
 case extract a i=>
  have p:=l a;generalize ρ a=xa at p c;generalize A:ρ' a=N at p;split at c
  .rename_i vs;simp only[dg]at c;obtain⟨u,d,c⟩:=c;obtain⟨rfl,rfl⟩:=eW c;cases p with|tuple _ S y=>obtain⟨C,D,H⟩:=y.get d;have:S[i]?=J C:=(by simpa using D);exact .kn s H (by simp only[Instr.extract,A,this,Sem.run_bind,Sem.run_pure,Result.andThen_ok])
  grind
 all_goals cases c
end
def Bm(n:Nat)(ops:Array Oper):Bool:=ops.all λo=>match o.dst with|some c=>decide (c<n)|none=>V
def codeOk(n:Nat):Code->Bool
 | .region _ ops _=>Bm n ops
 | .seq a b=>codeOk n a&&codeOk n b
 | .cond _ a b=>codeOk n a&&codeOk n b
 | .block _ c=>codeOk n c
 | .loop c=>codeOk n c
 | .scope c=>codeOk n c
 | .rangeFunc _ d a b=>d.all (λf=>decide (f<n))&&codeOk n a&&codeOk n b
 |_=>V
def Bh(P:bj)(fn:aQ)(n:Nat)(c:Code):Bool:=codeOk n c&&(P.funcs[fn]?).isSome
inductive oh (K:aW):List (aQ × List U)->List Deferred->List Nat->Prop
 |nil:oh K [] [] []
 |call (g:aQ) (args:List U) (vs aR:Array aG) (ds cds ms) (hv:aH K args (vs++aR).toList) (h:oh K ds cds ms):
  oh K ((g,args)::ds) ({target:=.fn (.func g) aR,args:=vs}::cds) ms
 |mark (r:Nat) (ds cds ms) (hr:r∈K.md) (hn:r∉ms) (h:oh K ds cds ms):oh K ds ({target:=.collected r,args:=#[]}::cds) (r::ms)
def oh.mono{K m}(le:K.Le m){d c f}(h:oh K d c f):oh m d c f:=by
 induction h with
 |nil=>exact .nil|call u g s n d c f r _ l=>exact .call u g s n d c f (r.mono le) l|mark t d c f q p _ l=>exact .mark t d c f (le.md t q) p l
structure lX(P:bj)(K:aW)(e:Env)(a:Act)(B:ex)(ms:List Nat):Prop where
 fX:jD K e.tmps a.tmps
 defers:oh K e.defers a.defers ms
 round:match e.round with
  |none=>B.roundOf=af
  |some l=>∃g,K.γ[l]?=J g/\B.roundOf=J g/\B.kind=.normal/\a.defers=[]/\ms=[]/\e.defers=[]
 fn:(P.funcs[B.fn]?).isSome=V
def lX.mono{P}{K c}(le:K.Le c){e}{a}{B}{d}(h:lX P K e a B d):lX P c e a B d:=by
 refine⟨h.fX.mono le,h.defers.mono le,?_,h.fn⟩;have:=h.round;cases l:e.round with|none=>simp_all|some n=>rw[l]at this;obtain⟨m,f,g⟩:=this;exact⟨m,le.γ _ _ f,g⟩
inductive CS (K:aW) (kind:CallKind) (base:List ex):Option (U × Bool)->List ex->Prop
 |normal (h:kind=.normal):CS K kind base af base
 |ret (c0:ex) (rest:List ex) (hk:kind=.deferred) (hb:base=c0::rest) (hm:c0.mode=.returning):CS K kind base af base
 |cC (c0:ex) (rest:List ex) (x:U) (v:aG) (r:Bool) (hk:kind=.deferred) (hb:base=c0::rest) (hx:aO K x v):
  CS K kind base (J (x,r)) ({c0 with mode:=.panicking [{v,recovered:=r}]}::rest)
def CS.mono{K l}(le:K.Le l){d c p cs}(h:CS K d c p cs):CS l d c p cs:=by
 cases h with|normal h=>exact .normal h|ret c0 rest g f m=>exact .ret c0 rest g f m|cC c0 rest s r q g f n=>exact .cC c0 rest s r q g f (n.mono le)
def A'(s:nA)(d t)(x):(s.set d x).get t=if d=t then x else s.get t:=by simp only[nA.set,nA.get,look];simp_all
section
variable {P:bj} {K:aW} {G:Nat->Option (List U)} {w0 w:bO} {h:Heap}
def jD.set{s:nA}{tmps:Array aG}(g:jD K s tmps){d:Nat}(l:d<tmps.size){x:U}{v:aG}(m:aO K x v):jD K (s.set d x) (tmps.setIfInBounds d v):=by
 intro f;rw[A'];by_cases c:d=f
 .simp_all
 .rw[aP c];have:(tmps.setIfInBounds d v).getD f undef=tmps.getD f undef:=by simp[Py,c]
  rw[this];exact g f
def wB{e:Env}{a:Act}(c:jD K e.tmps a.tmps)(x:bP):aO K (e.eval x) (a.eval x):=by
 cases x with|tmp g=>exact c g|const l=>exact HH l|global f=>exact .dB f 0|func d=>exact .func (.func d) [] [] #[] #[] .nil .nil
def lX.put{e:Env}{a:Act}{B:ex}{g:List Nat}(f:lX P K e a B g){c:Option Tmp}(l:∀d,c=J d->d<a.tmps.size){x:U}{v:aG}(m:aO K x v):
 lX P K (e.put c x) (a.put c v) B g:=by
 cases c with|none=>exact f|some d=>exact⟨f.fX.set (l d O) m,f.defers,f.round,f.fn⟩
def H7(a:Act)(c)(v):(a.put c v).tmps.size=a.tmps.size:=by cases c<;>simp[Act.put]
section steps
variable {B:ex} {a:Act} {k:List Item} {cs:List ex} {ops:Array Oper} {i:Nat} {rest:List Nat} {o:Oper} {w':bO}
def xX(c:ops[i]?=J o)(v:aG):(B.atR a (.inRegion ops (i::rest)::k)).finish v=B.atR (a.put o.dst v) (.inRegion ops rest::k):=by rw[Frame.finish_atR,c];rfl
def YI(c:ops[i]?=J o)(f:Region.wanted o (yielded ops a.tmps)=V){v:aG}(d:(o.semAt B.roundOf a.eval).run P w=.ok (.value v) w'):
 step P (lone (B.atR a (.inRegion ops (i::rest)::k)) cs w)=.next (lone (B.atR (a.put o.dst v) (.inRegion ops rest::k)) cs w'):=by
 refine step_lone_go ?_;rw[stepGR_op c f,<-xX c];simp[stepG.apply,d,Sem.runT_eq]
def asm(c:ops[i]?=J o)(f:Region.wanted o (yielded ops a.tmps)=V)(d:(o.semAt B.roundOf a.eval).run P w=.ok .skip w'):
 step P (lone (B.atR a (.inRegion ops (i::rest)::k)) cs w)=.next (lone (B.atR (a.put o.dst undef) (.inRegion ops rest::k)) cs w'):=by
 refine step_lone_go ?_;rw[stepGR_op c f,<-xX c];simp[stepG.apply,d,Sem.runT_eq]
def asc(c:ops[i]?=J o)(g:Region.wanted o (yielded ops a.tmps)=V){f:aQ}{args:Array aG}(d:(o.semAt B.roundOf a.eval).run P w=.ok (.enter f args) w'):
 step P (lone (B.atR a (.inRegion ops (i::rest)::k)) cs w)=.next (lone (Frame.enter P f args .normal) (B.atR a (.inRegion ops (i::rest)::k)::cs) w'):=by
 refine step_lone_go ?_;rw[stepGR_op c g];simp[stepG.apply,d,Sem.runT_eq,Frame.atR]
def asj(c:ops[i]?=J o)(g:Region.wanted o (yielded ops a.tmps)=V){l:Nat}{f:aQ}{tmps:Array aG}{assign body:Code}(d:(o.semAt B.roundOf a.eval).run P w=.ok (.round l f tmps assign body) w'):
 step P (lone (B.atR a (.inRegion ops (i::rest)::k)) cs w)=.next (lone (Frame.round l f tmps assign body .normal) (B.atR a (.inRegion ops (i::rest)::k)::cs) w'):=by
 refine step_lone_go ?_;rw[stepGR_op c g];simp[stepG.apply,d,Sem.runT_eq,Frame.atR]
def asb(c:ops[i]?=J o)(g:Region.wanted o (yielded ops a.tmps)=V){d:Deferred}(f:(o.semAt B.roundOf a.eval).run P w=.ok (.defer d) w'):
 step P (lone (B.atR a (.inRegion ops (i::rest)::k)) cs w)=.next (lone (B.atR ({a with defers:=d::a.defers}.put o.dst undef) (.inRegion ops rest::k)) cs w'):=by
 refine step_lone_go ?_;rw[stepGR_op c g,<-xX (B:=B) (k:=k) (rest:=rest) (a:={a with defers:=d::a.defers}) c];simp[stepG.apply,f,Sem.runT_eq,Frame.atR]
def YE(c:ops[i]?=J o)(f:Region.wanted o (yielded ops a.tmps)=V){v:aG}(d:(o.semAt B.roundOf a.eval).run P w=.halt (.panic v) w'):
 step P (lone (B.atR a (.inRegion ops (i::rest)::k)) cs w)=.next (lone {B.atR a (.inRegion ops (i::rest)::k) with mode:=.panicking [{v,recovered:=ai}]} cs w'):=by
 refine step_lone_go ?_;rw[stepGR_op c f,<-Frame.raise_atR];simp[stepG.apply,d,Sem.runT_eq]
def ash(d:ops[i]?=J o)(m:Region.wanted o (yielded ops a.tmps)=V)(f:B.roundOf=af)(g:(o.semAt B.roundOf a.eval).run P w=.ok .recover w')
 (l:tryRecover (B.atR a (.inRegion ops (i::rest)::k)) cs=af):
 step P (lone (B.atR a (.inRegion ops (i::rest)::k)) cs w)=.next (lone (B.atR (a.put o.dst .nilIface) (.inRegion ops rest::k)) cs w'):=by
 refine step_lone_go ?_;have c:(B.atR a (.inRegion ops (i::rest)::k)).roundOf=af:=f;rw[stepGR_op d m,<-xX d];simp[stepG.apply,g,Sem.runT_eq,c,l]
def asi(f:ops[i]?=J o)(n:Region.wanted o (yielded ops a.tmps)=V)(g:B.roundOf=af)(l:(o.semAt B.roundOf a.eval).run P w=.ok .recover w')
 {v:aG} {c:List ex} (m:tryRecover (B.atR a (.inRegion ops (i::rest)::k)) cs=J (v,c)):
 step P (lone (B.atR a (.inRegion ops (i::rest)::k)) cs w)=.next (lone (B.atR (a.put o.dst v) (.inRegion ops rest::k)) c w'):=by
 refine step_lone_go ?_;have d:(B.atR a (.inRegion ops (i::rest)::k)).roundOf=af:=g;rw[stepGR_op f n,<-xX f];simp[stepG.apply,l,Sem.runT_eq,d,m]
end steps
end
abbrev iX(P:bj)(G:Nat->Option (List U))(w0:bO)(K:aW)(h:Heap)(w:bO):Prop:=bJ K G (Bh P) w0 h w
def mo(P:bj)(K:aW)(m:Machine)(B:ex)(k:List Item)(cs:List ex):Xt->Act->bO->Prop
 | .normal,a,w=>Steps P m (lone (B.atR a k) cs w)
 | .exit id,a,w=>∃c,exitTo id c=exitTo id k/\Steps P m (lone (B.atR a (.code (.exit id)::c)) cs w)
 | .ret,a,w=>∃c,Steps P m (lone (B.atR a (.code .ret::c)) cs w)
 | .panic d,a,w=>∃c v,aO K d v/\Steps P m (lone {B.atR a c with mode:=.panicking [{v,recovered:=ai}]} cs w)
def mo.of_steps{P}{K}{m m'}{B}{k}{cs}{x}{a}{w}(d:Steps P m m')(h:mo P K m' B k cs x a w):mo P K m B k cs x a w:=by
 cases x with
 |normal=>exact d.trans h|exit id=>obtain⟨g,f,c⟩:=h;exact⟨g,f,d.trans c⟩
 |ret=>obtain⟨g,c⟩:=h;exact⟨g,d.trans c⟩
 |panic x=>obtain⟨g,l,f,c⟩:=h;exact⟨g,l,f,d.trans c⟩
def mo.pass{P}{K}{m}{B}{c}{k}{cs}{x}{a}{w}(g:c.plain=V)(l:x≠ .normal)
 (h:mo P K m B (c::k) cs x a w):mo P K m B k cs x a w:=by
 cases x with
 |normal=>simp_all|exit id=>obtain⟨n,d,f⟩:=h;refine⟨n,d.trans ?_,f⟩;cases c<;>first|rfl|simp[Item.plain]at g
 |ret=>exact h|panic x=>exact h
structure Left(P:bj)(G:Nat->Option (List U))(w0:bO)(K:aW)(ms:List Nat)(B:ex)(base:List ex)(m:Machine)(k:List Item)(n:Nat)(out:Xt)(e':Env)(h':Heap)
 (K':aW) (w':bO) (a':Act) (Ah:List ex) (ms':List Nat):Prop where
 le:K.Le K'
 oH:iX P G w0 K' h' w'
 frame:lX P K' e' a' B ms'
 cs:CS K' B.kind base e'.cC Ah
 size:a'.tmps.size=n
 marks:∀r∈ms',r∈ms∨r∉K.md
 arr:mo P K' m B k Ah out a' w'
def Qt(P:bj)(G:Nat->Option (List U))(w0:bO)(f:Code->Env->Heap->Option (Xt × Env × Heap)):Prop:=
 ∀q e h d e' h',f q e h=J (d,e',h')->∀K w a B k c cs l,lX P K e a B l->CS K B.kind c e.cC cs->iX P G w0 K h w->codeOk a.tmps.size q=V->
  ∃n w' p g m,Left P G w0 K l B c (lone (B.atR a (.code q::k)) cs w) k a.tmps.size d e' h' n w' p g m
def Qr(P:bj)(K:aW)(c:ex)(w:bO):dO->Prop
 | .ret d=>∃v,aO K d v/\c.leaving P w (.returned v)
 | .panic d=>∃v,aO K d v/\c.leaving P w (.panicked [{v,recovered:=ai}])
def Qs(P:bj)(G:Nat->Option (List U))(w0:bO)(f:aQ->List U->Heap->Option (dO × Heap)):Prop:=
 ∀n d h p h',f n d h=J (p,h')->(∃m,P.funcs[n]?=J m/\m.body.isSome=V)/\∀K w c,aH K d (c:Array aG).toList->iX P G w0 K h w->∀cs,
  ∃g w' l,K.Le g/\iX P G w0 g h' w'/\Steps P (lone (Frame.enter P n c .normal) cs w) (lone l cs w')/\l.fn=n/\Qr P g l w' p
def Qu(P:bj)(G:Nat->Option (List U))(w0:bO)(f:aQ->List U->Option (U × Bool)->Heap->Option (dO × Option (U × Bool) × Heap)):Prop:=
 ∀r d s h u q h',f r d s h=J (.ret u,q,h')->(∃p,P.funcs[r]?=J p/\p.body.isSome=V)/\∀K w c g cs,aH K d (c:Array aG).toList->CS K .deferred g s cs->iX P G w0 K h w->
  ∃m w' n l t,K.Le m/\iX P G w0 m h' w'/\CS m .deferred g q l/\Steps P (lone (Frame.enter P r c .deferred) cs w) (lone n l w')/\n.kind=.deferred/\n.going P w' (.returned t)
def Qv(P:bj)(G:Nat->Option (List U))(w0:bO)(f:Nat->List U->Heap->Option (dO × Heap)):Prop:=
 ∀u n h x h',f u n h=J (x,h')->∀K w m p,K.γ[u]?=J p->aH K n (m:Array aG).toList->iX P G w0 K h w->∀c cs,
  ∃r l d g q w',(Instr.yield p m).run P w=.ok (.round p r l d g) w/\K.Le q/\iX P G w0 q h' w'/\
   match x with
   | .ret t=>∃v,aO q t v/\Steps P (lone (Frame.round p r l d g .normal) (c::cs) w) (lone (c.finish v) cs w')
   | .panic t=>∃v s,aO q t v/\Steps P (lone (Frame.round p r l d g .normal) (c::cs) w) (lone s (c::cs) w')/\s.leaving P w' (.panicked [{v,recovered:=ai}])
structure sK(P:bj)(G:Nat->Option (List U))(w0:bO)(R:Rec):Prop where
 code:Qt P G w0 R.code
 call:Qs P G w0 R.call
 ii:Qu P G w0 R.ii
 round:Qv P G w0 R.round
section
variable {P:bj} {G:Nat->Option (List U)} {w0:bO} {R:Rec}
def zR (P : bj) : Prop := ∀ (d : aQ) (c : Func), P.funcs[d]? = J c -> (c.name == "runtime.NumGoroutine") = ai
def OM(l:zR P){g:aQ}{fn:Func}(c:P.funcs[g]?=J fn)(m:fn.body.isSome=V)(args:Array aG)(w:bO):(callFunc g args).run P w=.ok (.enter g args) w:=by
 have d:=l g fn c;have f:fn.body.isNone=ai:=by simp_all
 unfold callFunc;simp only[Sem.run_bind,run_program,Result.andThen_ok,c];rw[d,f];rfl
def akZ{t:aC}{name:String}{f:aQ}(d:NA P t name=J f)(v:aG)(w:bO)(n:Nat):
 (method (n+1) t v name).run P w=.ok (f,v) w:=by
 unfold NA at d;split at d
 .rename_i i p;split at d
  .rename_i x q;have u:∀(c:Bool) (l:TypeDesc),x.path.toList=[]->x.func=J (f,c)->P.underlying t=J l->(match l with| .pointer _=>c=V|_=>c=ai)->(method (n+1) t v name).run P w=.ok (f,v) w:=by intro c l r m s g;simp only[method,Sem.run_bind,oG p,Result.andThen_ok,q,r,follow,Sem.run_pure,m,receiverAt,cQ s];cases l<;>simp only at g<;>subst g<;>simp[Place.get]
   grind
  grind
 grind
end
section
variable {P:bj} {G:Nat->Option (List U)} {w0:bO} {R:Rec}
def Wz{n}{ops}(h:Bm n ops=V){i:Nat}{o}(f:ops[i]?=J o):∀d,o.dst=J d->d<n:=by
 intro d c;unfold Bm at h
 grind
def atO{K}{e}{a:Act}(v:jD K e.tmps a.tmps){ops}(m:Bm a.tmps.size ops=V){o}{b}(c:et ops e o=J b):
 Region.wanted o (yielded ops a.tmps)=b:=by
 unfold et at c;unfold Region.wanted;cases u:o.guard with
 |none=>simp_all|some s=>
  obtain⟨j,x⟩:=s;rw[u]at c;simp only at c ⊢;cases d:(ops[j]?).bind (·.dst) with
  |none=>rw[d]at c;simp only[dt]at c;subst c;simp[yielded,d]|some g=>
   rw[d]at c;simp only at c;have t:g<a.tmps.size:=by
    cases p:ops[j]? with|none=>simp_all|some A=>rw[p]at d;exact Wz m p g d
   have f:=v g;have l:a.tmps[g]?=J (a.tmps.getD g undef):=(by simp[t]);have q:∀r,a.tmps.getD g undef=r->yielded ops a.tmps j=match r with| .bool b=>J b|_=>af:=by
    intro r n;unfold yielded;rw[d];simp only[Option.bind_some];rw[l,n]
    grind
   unfold Env.get at c;generalize z:e.tmps.get g=D at c f;generalize n:a.tmps.getD g undef=r at f;have q:=q r n;split at c
   .rename_i y;obtain⟨rfl,-⟩:=f.gI;simp_all
   .injection c with c;cases f with|tuple cs C h=>simp_all
   grind
def FG{K}{e:Env}{a:Act}(c:jD K e.tmps a.tmps)(xs:Array bP):aH K (xs.toList.map e.eval) (xs.map a.eval).toList:=by rw[B_];exact aH.map_mk λd _=>wB c d
def Qm(P:bj)(G:Nat->Option (List U))(w0:bO)(K:aW)(p:List Nat)(B:ex)(g:List ex)(m:Machine)(ops:Array Oper)(o:Oper)(rest:List Nat)(k:List Item)(n:Nat)(e':Env)(h':Heap)(res:dO):Prop:=
 ∃c w' f d,K.Le c/\iX P G w0 c h' w'/\lX P c e' f B p/\CS c B.kind g e'.cC d/\f.tmps.size=n/\
  match res with
  | .ret q=>∃v,aO c q v/\Steps P m (lone (B.atR (f.put o.dst v) (.inRegion ops rest::k)) d w')
  | .panic q=>∃v l,aO c q v/\Steps P m (lone {B.atR f l with mode:=.panicking [{v,recovered:=ai}]} d w')
def akM:∃d,Made.depth=d+1:=⟨Made.depth-1,by decide⟩
def alF(hn:zR P)(hR:sK P G w0 R){e e':Env}{a:Act}{B:ex}{ms:List Nat}{base cs:List ex}{K:aW}{h h':Heap}{w:bO}{ops:Array Oper}{i:Nat}{rest:List Nat}{o:Oper}{res:dO}
 (c:dF P G R e h o=J (res,e',h')) (f:lX P K e a B ms) (d:CS K B.kind base e.cC cs) (S:iX P G w0 K h w) (t:ops[i]?=J o) (z:Region.wanted o (yielded ops a.tmps)=V) (k:List Item):
 Qm P G w0 K ms B base (lone (B.atR a (.inRegion ops (i::rest)::k)) cs w) ops o rest k a.tmps.size e' h' res:=by
 have nf:∀(ro:Option Nat) (v:Sem Next),(∀x,o.op≠ .defer x)->execOp a.eval o=v->(o.semAt ro a.eval)=v:=λro v fI p=>by rw[Oper.semAt_eq ro a.eval o fI,p]
 have UP:e.round.isSome=ai->B.roundOf=af:=by
  intro hr;have:=f.round;cases N:e.round with|none=>simp_all|some z6=>simp_all
 unfold dF at c;split at c
 .-- recover
  rename_i args argTypes n;have r:execOp a.eval o=(do let z1 <-resolve a.eval {callee:=.builtin .recover,args:=args,argTypes:=argTypes} o.type;invoke z1.target z1.args):=by unfold execOp;rw[n]
  have l:(o.semAt B.roundOf a.eval).run P w=.ok .recover w:=by rw[nf _ _ (by simp_all) r];simp[resolve,invoke,builtin]
  split at c
  .cases c
  .rename_i UK;have hB:=UP (by simp_all);split at c
   .rename_i v hp;simp only[dt,cL]at c;obtain⟨rfl,rfl,rfl⟩:=c;rw[hp]at d;generalize C:B.kind=kd at d;generalize GX:(J (v,ai):Option (U × Bool))=pp at d;cases d with
    |normal h=>grind
    |ret c0 u hk hb hm=>grind
    |cC c0 u x' z0 z5 hk hb p=>injection GX with GX;injection GX with y h2;subst y;subst h2;refine⟨K,w,a,_,.refl K,S,⟨f.fX,f.defers,f.round,f.fn⟩,.cC c0 u v z0 V (C.trans hk) hb p,O,z0,p,.one (asi t z hB l ?_)⟩;simp[tryRecover,Frame.atR,C,hk]
   .rename_i hp;simp only[dt,cL]at c;obtain⟨rfl,rfl,rfl⟩:=c;refine⟨K,w,a,cs,.refl K,S,f,d,O,.nilIface,.v _ O,.one (ash t z hB l ?_)⟩;generalize C:B.kind=kd at d;generalize GX:e.cC=pp at d hp;cases d with
    |normal h=>subst h;simp[tryRecover,Frame.atR,C]|ret c0 u hk hb hm=>subst hk;subst hb;simp[tryRecover,Frame.atR,C,hm]|cC c0 u x' z0 z5 hk hb p=>
     subst hk;cases z5 with|false=>simp_all|true=>simp[tryRecover,Frame.atR,C]
 .-- the built-in panic
  rename_i args argTypes n;have r:execOp a.eval o=(do let z1 <-resolve a.eval {callee:=.builtin .panic,args:=args,argTypes:=argTypes} o.type;invoke z1.target z1.args):=by unfold execOp;rw[n]
  split at c
  .rename_i z4 v q;simp only[dt,cL]at c;obtain⟨rfl,rfl,rfl⟩:=c;have hv:=FG f.fX args;rw[q]at hv;generalize hz:args.map a.eval=z7 at hv;obtain⟨z7⟩:=z7;simp only at hv;cases hv with
   |cons _ x _ X y h2=>
    cases h2;cases y with|iface _ _ x L=>refine⟨K,w,a,cs,.refl K,S,f,d,O,.iface z4 x,_,.iface z4 v x L,.one (YE t z ?_)⟩;rw[nf _ _ (by simp_all) r];simp[resolve,invoke,builtin,hz,Instr.panic]
  grind
 .-- another built-in function
  rename_i b args argTypes ob j_ n;have r:execOp a.eval o=(do let z1 <-resolve a.eval {callee:=.builtin b,args:=args,argTypes:=argTypes} o.type;invoke z1.target z1.args):=by unfold execOp;rw[n]
  simp only[dg]at c;obtain⟨⟨v,y⟩,c,N⟩:=c;simp only[cL]at N;obtain⟨rfl,rfl,rfl⟩:=N;obtain⟨H,z0,w',le,T,p,l⟩:=adD S (ty:=o.type) c (FG f.fX args) (args.map λ| .const _=>V|_=>ai);refine⟨H,w',a,cs,le,T,f.mono le,d.mono le,O,z0,p,.one (YI t z ?_)⟩;rw[nf _ _ (by simp_all) r];simp only[resolve,invoke,Sem.run_bind,Sem.run_pure,Result.andThen_ok];omega
 .-- a call
  rename_i x ob j_ tG n;have r:execOp a.eval o=(do let z1 <-resolve a.eval x o.type;invoke z1.target z1.args):=by unfold execOp;rw[n]
  simp only[dg]at c;obtain⟨⟨z5,y⟩,c,N⟩:=c;simp only[cL]at N;obtain⟨rfl,rfl,rfl⟩:=N;have q:=FG f.fX x.args;have call:∀(z3:aQ) (xs:List U) (vs:Array aG),R.call z3 xs h=J (z5,y)->aH K xs vs.toList->((∃fn,P.funcs[z3]?=J fn/\fn.body.isSome=V)->(execOp a.eval o).run P w=(callFunc z3 vs).run P w)->
   Qm P G w0 K ms B base (lone (B.atR a (.inRegion ops (i::rest)::k)) cs w) ops o rest k a.tmps.size e y z5:=by
   intro z3 xs vs Gz gq l;obtain⟨⟨fn,Dx,AA⟩,L⟩:=hR.call z3 xs h z5 y Gz;obtain⟨H,w',fr,le,T,gP,-,Z⟩:=L K w vs gq S (B.atR a (.inRegion ops (i::rest)::k)::cs);have Y:=asc (k:=k) (cs:=cs) (rest:=rest) t z (by rw[nf B.roundOf _ (by simp_all) O,l ⟨fn,Dx,AA⟩];exact OM hn Dx AA vs w);cases z5 with
   |ret v=>obtain⟨z0,p,Z⟩:=Z;refine⟨H,w',a,cs,le,T,f.mono le,d.mono le,O,z0,p,.head Y (gP.trans (.one ?_))⟩;rw[step_leave_returned Z,xX t]
   |panic v=>obtain⟨z0,p,Z⟩:=Z;refine⟨H,w',a,cs,le,T,f.mono le,d.mono le,O,z0,.inRegion ops (i::rest)::k,p,.head Y (gP.trans (.one ?_))⟩;rw[step_leave_panicked Z,Frame.raise_atR]
  obtain⟨callee,m,cts⟩:=x;cases callee with
  |builtin b=>simp_all|value z2=>
   simp only[jE]at c;have g:=wB f.fX z2;generalize Mz:e.eval z2=qf at c g;generalize s:a.eval z2=qv at g;split at c
   .rename_i z3 first aR
    cases g with
    |func _ _ _ fs X Aw tC=>
     refine call z3 _ (fs++m.map a.eval++X) c ?_ λ_=>?_
     .simp only[vR];exact(Aw.append q).append tC
     .rw[r];simp[resolve,s,Deferred.ofValue,invoke]
   .rename_i z6;cases g with
    |yield _ lg hlg=>
     obtain⟨fn,tmps,assign,body,H,w',E,le,T,hm⟩:=hR.round z6 _ h z5 y c K w (m.map a.eval) lg hlg q S (B.atR a (.inRegion ops (i::rest)::k)) cs;have GD:=asj (k:=k) (cs:=cs) (rest:=rest) t z (by rw[nf B.roundOf _ (by simp_all) r];simp only[resolve,s,Deferred.ofValue,invoke,Sem.run_bind,Sem.run_pure,Result.andThen_ok];simpa using E);cases z5 with
     |ret v=>obtain⟨z0,p,gP⟩:=hm;refine⟨H,w',a,cs,le,T,f.mono le,d.mono le,O,z0,p,.head GD ?_⟩;rw[<-xX t];omega
     |panic v=>obtain⟨z0,fr,p,gP,Z⟩:=hm;refine⟨H,w',a,cs,le,T,f.mono le,d.mono le,O,z0,.inRegion ops (i::rest)::k,p,.head GD (gP.trans (.one ?_))⟩;rw[step_leave_panicked Z,Frame.raise_atR]
   grind
  |invoke rcv name=>
   simp only[jE]at c;have g:=wB f.fX rcv;generalize Mz:e.eval rcv=qf at c g;generalize s:a.eval rcv=qv at g;split at c
   .rename_i z4 v;split at c
    .rename_i z2 hm;cases g with
     |iface _ _ x L=>
      refine call z2 _ (#[x]++m.map a.eval) c ?_ λ_=>?_
      .simp only[vR];exact .cons _ _ _ _ L q
      .rw[r];obtain⟨z1,hd⟩:=akM;have aif:=akZ hm x w (P.types.size+z1);have gC:P.types.size+Made.depth=P.types.size+z1+1:=(by omega);simp only[resolve,s,invoke,Sem.run_bind,Sem.run_pure,Result.andThen_ok,callMethod];have h0:(#[Value.iface z4 x]++Ji a.eval m)[0]?=J (.iface z4 x):=(by rw[Array.getElem?_append_left b7];rfl);simp only[h0,run_program,Sem.run_bind,Result.andThen_ok,gC,aif];congr 2;have D:(#[Value.iface z4 x]++Ji a.eval m).extract 1 (#[Value.iface z4 x]++Ji a.eval m).size=Ji a.eval m:=(by apply Jg;simp;rw[<-hW,<-br (f:=a.eval),List.take_length]);rw[D]
    grind
   grind
 .-- a defer
  rename_i z2 args argTypes n;split at c
  .cases c
  .rename_i UK;have hB:=UP (by simp_all);have g:=wB f.fX z2;generalize Mz:e.eval z2=qf at c g;generalize s:a.eval z2=qv at g;split at c
   .rename_i z3 first aR
    simp only[dt,cL]at c;obtain⟨rfl,rfl,rfl⟩:=c;cases g with
    |func _ _ _ fs X Aw tC=>
     have l:(o.semAt B.roundOf a.eval).run P w=.ok (.defer {target:=.fn (.func z3) X,args:=fs++args.map a.eval}) w:=(by rw[hB,Oper.semAt_none];unfold execOp;rw[n];simp[resolve,s,Deferred.ofValue]);refine⟨K,w,{a with defers:=_::a.defers},cs,.refl K,S,⟨f.fX,.call z3 _ (fs++args.map a.eval) X _ _ _ ?_ f.defers,?_,f.fn⟩,d,O,undef,?_,.one (asb t z l)⟩
     .simp only[vR];exact(Aw.append (FG f.fX args)).append tC
     .simp_all
     .exact .tuple [] #[] .nil
   grind
 .-- a panic
  rename_i v n;have g:=wB f.fX v;generalize Mz:e.eval v=qf at c g;generalize s:a.eval v=qv at g;split at c
  .rename_i z4 v;simp only[dt,cL]at c;obtain⟨rfl,rfl,rfl⟩:=c;cases g with|iface _ _ x L=>refine⟨K,w,a,cs,.refl K,S,f,d,O,.iface z4 x,_,.iface z4 v x L,.one (YE t z ?_)⟩;rw[Oper.semAt_eq _ _ _ (by simp_all)];unfold execOp;rw[n];simp[s,Instr.panic]
  grind
 .-- any other operation
  rename_i op au2 au3 au4 au5 au6 au7;simp only[dg]at c;obtain⟨⟨v,y⟩,c,N⟩:=c;simp only[cL]at N;obtain⟨rfl,rfl,rfl⟩:=N;have hnd:∀x,o.op≠ .defer x:=by intro x L;rw[L]at c;simp[di]at c
  obtain⟨H,z0,w',le,T,p,l⟩:=amn S (λv=>wB f.fX v) c;refine⟨H,w',a,cs,le,T,f.mono le,d.mono le,O,z0,p,.one ?_⟩;rcases l with l|⟨l,rfl⟩
  .exact YI t z (by simp_all)
  .exact asm t z (by simp_all)
end
end Go.AE
end
section
namespace Go.AE
def aqU{x y}(h:gH x y=V):x=y:=by
 cases x<;>cases y<;>simp only[gH,bm,decide_eq_true_eq,jo,beq_iff_eq]at h
 case int.int=>simp_all
 case bool.bool=>rw[h]
 case string.string a b=>
  obtain⟨⟨a⟩⟩:=a;simp_all
 case pointer.pointer a b=>grind
 all_goals rfl
def aqS{x y}(h:IM x y=V):x=y:=by cases x<;>cases y<;>simp only[IM,jo]at h<;>rw[kU h]
def aqT{x y}(h:qU x y=V):x=y:=by cases x<;>cases y<;>simp only[qU,jo]at h<;>first|rfl|rw[kU h]
mutual
def OQ:∀{x y:U},cH x y=V->x=y
 | .v x,.v y,h=>by rw[cH]at h;rw[aqU h]
 | .list k p m,.list t f c,h=>by rw[cH,bm,bm]at h;rw[aqT h.1.1,kU h.1.2,OR h.2]
 | .arr b o u A,.arr g d n r,h=>by rw[cH,bm,bm,bm]at h;simp_all
 | .agg cs,.agg l,h=>by rw[cH]at h;rw[BP h]
 | .tuple cs,.tuple l,h=>by rw[cH]at h;rw[BP h]
 | .ptr E o,.ptr v d,h=>by rw[cH,bm]at h;rw[aqS h.1,kU h.2]
 | .elem p m i o,.elem f c s d,h=>by rw[cH,bm,bm,bm]at h;rw[kU h.1.1.1,kU h.1.1.2,kU h.1.2,OR h.2]
 | .yield u,.yield n,h=>by rw[cH]at h;simp_all
 | .iface H x,.iface z y,h=>by rw[cH,bm]at h;rw[kU h.1,OQ h.2]
 | .func (.func C) a b,.func (.func D) q g,h=>by rw[cH,bm,bm]at h;rw[kU h.1.1,BP h.1.2,BP h.2]
 | .bad,y,h=>by simp[cH]at h
def BP:∀{x y:List U},fL x y=V->x=y
 | [],[],_=>rfl
 |x::c,y::d,h=>by rw[fL,bm]at h;rw[OQ h.1,BP h.2]
 | [],y::d,h=>by simp[fL]at h
 |x::c,[],h=>by simp[fL]at h
def OR:∀{x y:List (List U)},ml x y=V->x=y
 | [],[],_=>rfl
 |x::c,y::d,h=>by rw[ml,bm]at h;rw[BP h.1,OR h.2]
 | [],y::d,h=>by simp[ml]at h
 |x::c,[],h=>by simp[ml]at h
end
end Go.AE
end
section
namespace Go.AE
section
variable {P:bj} {G:Nat->Option (List U)} {R:Rec}
def Ny{ρ ρ':bP->U}{ps:Array (Nat × bP)}(h:∀x∈ps.map (·.2),ρ x=ρ' x):(ps.toList.map λp=>(p.1,ρ p.2))=ps.toList.map λp=>(p.1,ρ' p.2):=
 Cl λp c=>by grind
def Bc{ρ ρ':bP->U}{ps:Array bP}(h:∀x∈ps,ρ x=ρ' x):ps.toList.map ρ=ps.toList.map ρ':=
 Cl λd c=>h d (Array.mem_toList_iff.1 c)
def WV{ρ ρ':bP->U}{h:Heap}{c:Op}(d:∀x∈c.operands,ρ x=ρ' x):di P G ρ h c=di P G ρ' h c:=by
 cases c<;>simp only[Op.operands] at d<;>simp only[di]
 case build t ps=>rw[Ny (λx g=>d x (by simp_all))]
 case buildSlice t n ps=>rw[Ny (λx g=>d x (by simp_all))]
 case makeFunc fn first captured=>
  simp_all
 case slice t x l f m=>cases l<;>cases f<;>cases m<;>simp_all
 all_goals (first|rfl|(simp_all;done))
def Op.V6{c:Call}{x}(h:x∈c.args):x∈c.operands:=by simp[Call.operands,h]
def KD{e e2:Env}{h:Heap}{c:Call}(d:∀x∈c.operands,e.eval x=e2.eval x):jE P R e h c=jE P R e2 h c:=by
 have l:c.args.toList.map e.eval=c.args.toList.map e2.eval:=Bc λx m=>d x (Op.V6 m);unfold jE;simp only[l];cases f:c.callee with|builtin b=>rfl|value g=>have p:e.eval g=e2.eval g:=d g (by simp[Call.operands,f]);simp_all|invoke n r=>have q:e.eval n=e2.eval n:=d n (by simp[Call.operands,f]);simp_all
def Env.with(e e':Env):Env:={e with defers:=e'.defers,cC:=e'.cC}
def Wv{e e':Env}{h h':Heap}{o:Oper}{r:dO}(c:dF P G R e h o=J (r,e',h')):e'=e.with e':=by
 unfold dF at c;split at c
 .split at c
  .cases c
  .split at c
   .simp only[dt,cL]at c;obtain⟨-,rfl,-⟩:=c;rfl
   .simp only[dt,cL]at c;obtain⟨-,rfl,-⟩:=c;rfl
 .split at c
  .simp only[dt,cL]at c;obtain⟨-,rfl,-⟩:=c;rfl
  grind
 .simp only[dg,cL]at c;obtain⟨_,-,-,rfl,-⟩:=c;rfl
 .simp only[dg,cL]at c;obtain⟨_,-,-,rfl,-⟩:=c;rfl
 .split at c
  .cases c
  .split at c
   .simp only[dt,cL]at c;obtain⟨-,rfl,-⟩:=c;rfl
   grind
 .split at c
  .simp only[dt,cL]at c;obtain⟨-,rfl,-⟩:=c;rfl
  grind
 .simp only[dg,cL]at c;obtain⟨_,-,-,rfl,-⟩:=c;rfl
def Wu{e e' e2:Env}{h h':Heap}{o:Oper}{r:dO}(l:∀x∈o.op.operands,e.eval x=e2.eval x)(y:e2.defers=e.defers)(z:e2.cC=e.cC)(p:e2.round=e.round)
 (d:dF P G R e h o=J (r,e',h')):dF P G R e2 h o=J (r,e2.with e',h'):=by
 have A:e2.with e=e2:=by cases e2;cases e;simp_all [Env.with]
 unfold dF at d ⊢;split at d
 .rename_i c t f;simp only[p,z];split at d
  .cases d
  .rename_i m;rw[aP m];split at d
   .rename_i x E;simp only[dt,cL]at d;obtain⟨rfl,rfl,rfl⟩:=d;simp[Env.with,<-y,<-p]
   simp_all
 .rename_i c t f;have n:c.toList.map e.eval=c.toList.map e2.eval:=Bc λx g=>l x (by rw[f];simp[Op.operands,Call.operands,g]);simp only[<-n];split at d<;>simp_all
 .rename_i b c t u v f;have n:c.toList.map e.eval=c.toList.map e2.eval:=Bc λx g=>l x (by rw[f];simp[Op.operands,Call.operands,g]);simp only[dg,cL]at d;grind
 .rename_i L u v D f;simp only[dg,cL]at d;obtain⟨H,s,rfl,rfl,rfl⟩:=d;rw[KD (e2:=e2) (λx g=>l x (by rw[f];exact g))]at s;simp_all
 .rename_i C c t f;have n:c.toList.map e.eval=c.toList.map e2.eval:=Bc λx g=>l x (by rw[f];simp[Op.operands,Call.operands,g]);have q:e.eval C=e2.eval C:=l C (by rw[f];simp[Op.operands,Call.operands]);simp only[p];split at d
  .cases d
  .rename_i m;rw[aP m];simp only[<-q,<-n];split at d
   .simp only[dt,cL]at d;obtain⟨rfl,rfl,rfl⟩:=d;simp only[Env.with,y,<-z,<-p]
   grind
 .rename_i x f;have q:e.eval x=e2.eval x:=l x (by rw[f];simp[Op.operands]);simp only[<-q];split at d<;>simp_all
 .simp only[dg,cL]at d;obtain⟨H,s,rfl,rfl,rfl⟩:=d;rw[WV (ρ':=e2.eval) l]at s;simp_all
def amT{e e':Env}{h h':Heap}{o:Oper}{r:dO}(n:ig o.op=.pure)(g:dF P G R e h o=J (r,e',h')):
 e'=e/\h'=h/\∀e2:Env,(∀x∈o.op.operands,e.eval x=e2.eval x)->∀d,dF P G R e2 d o=J (r,e2,d):=by
 cases f:o.op with
 |call L=>
  obtain⟨p,m,y⟩:=L;rw[f]at n;cases p with
  |value z1=>simp[ig]at n|invoke r X=>simp[ig]at n|builtin b=>
   cases b<;>simp[ig]at n
   case len=>
    unfold dF at g ⊢;simp only[f]at g ⊢;simp only[dg,cL]at g;obtain⟨⟨x,s⟩,c,rfl,rfl,rfl⟩:=g;have A:∀(d:Heap) (z:List U),oU P G o.dst d .len y o.type z=ia P d .len y o.type z:=λ_ _=>rfl;rw[A]at c;have l:s=h/\∀d:Heap,ia P d .len y o.type (m.toList.map e.eval)=J (x,d):=by
     generalize m.toList.map e.eval=z at c ⊢;rcases z with _|⟨Z,_|⟨z0,z⟩⟩
     .simp[ia]at c
     .simp only[ia]at c ⊢;split at c
      .rename_i Y S;simp only[dg,cL]at c
       grind
      grind
     .simp[ia]at c
    obtain⟨rfl,l⟩:=l;refine⟨O,O,λe2 t d=>?_⟩;have N:m.toList.map e.eval=m.toList.map e2.eval:=Bc λx q=>t x (by simp[Op.operands,Call.operands,q]);simp_all
 |buildSlice Y X u=>
  rw[f]at n;have v:tf u=ai:=by
   cases C:tf u with|false=>rfl|true=>simp[ig,C]at n
  unfold dF at g ⊢;simp only[f]at g ⊢;simp only[dg,cL]at g;obtain⟨⟨x,s⟩,c,rfl,rfl,rfl⟩:=g;simp only[di,v,dg,cL]at c;obtain⟨Z,H,rfl,rfl⟩:=c;refine⟨O,O,λe2 t d=>?_⟩;have q:=Ny (ρ:=e.eval) (ρ':=e2.eval) (ps:=u) (λx q=>t x (by simpa [Op.operands] using q));simp only[di,v,<-q,H,fk]
 |_=>
  rw[f]at n
  first
   |(simp[ig]at n;done)
   |(unfold dF at g ⊢
     simp only[f]at g ⊢;simp only[dg,cL]at g;obtain⟨⟨x,s⟩,c,rfl,rfl,rfl⟩:=g;have l:s=h/\∀d:Heap,di P G e.eval d o.op=J (x,d):=by
      rw[f];simp only[di]at c ⊢
      first
       |(simp only[dt,cL]at c;obtain⟨rfl,rfl⟩:=c;exact⟨O,λ_=>rfl⟩)
       |(simp only[dg,cL]at c;obtain⟨z0,T,rfl,rfl⟩:=c;exact⟨O,λ_=>by simp_all⟩)
       |(split at c
         .simp_all
         .cases c)
       |(split at c
         .simp only[dg,cL]at c;grind
         .cases c)
       |(split at c
         .split at c
          .simp only[dg,cL]at c;grind
          grind
         .cases c)
     obtain⟨rfl,l⟩:=l;refine⟨O,O,λe2 t d=>?_⟩;rw[<-f,<-WV (P:=P) (G:=G) (ρ:=e.eval) (h:=d) (by simp_all),l d];rfl)
def akB{e e':Env}{h h':Heap}{o:Oper}{r:dO}{t:aC}{a:bP}(f:o.op=.load t a)(d:dF P G R e h o=J (r,e',h')):
 ∃x,r=.ret x/\e'=e/\h'=h/\aD P G h t (e.eval a)=J x/\∀e2:Env,e2.eval a=e.eval a->∀c,aD P G c t (e.eval a)=J x->dF P G R e2 c o=J (.ret x,e2,c):=by
 unfold dF at d ⊢;simp only[f,di]at d ⊢;simp only[dg,cL]at d
 grind
def Xs{d}(h:ig d=.reads):∃t a,d=.load t a:=by
 cases d with
 |load t a=>simp_all|buildSlice t n l=>
  exfalso;simp only[ig]at h
  grind
 |call g=>
  obtain⟨c,f,m⟩:=g;cases c with
  |builtin b=>cases b<;>simp[ig]at h
  |_=>simp[ig]at h
 |_=>simp[ig]at h
end
end Go.AE
end
section
namespace Go.AE
section
variable (P:bj) (G:Nat->Option (List U)) (R:Rec) (ops:Array Oper)
def gJ(i:Nat)(e:Env)(h:Heap):Option (U × Env × Heap):=
 match ops[i]? with
 |none=>af
 |some o=>
  match et ops e o with
  |none=>af
  |some ai=>J (.tuple [],e,h)
  |some V=>
   match dF P G R e h o with
   |some (.ret c,e,h)=>J (c,e,h)
   |_=>af
def iA(i:Nat):Option Tmp:=(ops[i]?).bind (·.dst)
def nD(i:Nat):Class:=((ops[i]?).map λo=>ig o.op).getD .pure
noncomputable def jH(e:Env)(h:Heap)(i:Nat):Class:=if jG P G R ops e h i=V then .reads else nD ops i
def cI(e:Env)(h:Heap)(k:Nat):Env × Heap:=
 match bW P G R ops (bZ k) e h with
 |some (_,e,h)=>(e,h)
 |none=>(e,h)
def q_(e:Env)(h:Heap)(k:Nat):U × Env:=
 match gJ P G R ops k (cI P G R ops e h k).1 (cI P G R ops e h k).2 with
 |some (c,e,_)=>(c,e)
 |none=>(.bad,e)
def val(e:Env)(h:Heap)(d:Nat->Bool):Nat->Nat->U
 |0,c=>e.get c
 |k+1,c=>if d k=V/\iA ops k=J c then (q_ P G R ops e h k).1 else val e h d k c
def Alike(e e2:Env)(o:Oper):Prop:=∀c∈o.looksAt ops,e.get c=e2.get c
end
section
variable {P:bj} {G:Nat->Option (List U)} {R:Rec} {ops:Array Oper}
def nm{i:Nat}{rest:List Nat}{e e':Env}{h h':Heap}:
 bW P G R ops (i::rest) e h=J (.normal,e',h')↔∃x c d,gJ P G R ops i e h=J (x,c,d)/\bW P G R ops rest (c.put (iA ops i) x) d=J (.normal,e',h'):=by
 simp only[bW,gJ,iA];cases f:ops[i]? with
 |none=>simp|some o=>
  grind
def Bl{g r:List Nat}:∀{e e':Env} {h h':Heap},
 bW P G R ops (g++r) e h=J (.normal,e',h')↔∃c d,bW P G R ops g e h=J (.normal,c,d)/\bW P G R ops r c d=J (.normal,e',h'):=by
 induction g with
 |nil=>
  intro e e' h h';simp only[dM,bW,dt,cL,true_and]
  grind
 |cons i u s=>
  intro e e' h h';rw[eu,nm];constructor
  .rintro⟨t,c,d,q,p⟩;obtain⟨l,m,f,n⟩:=s.1 p;exact⟨l,m,nm.2 ⟨t,c,d,q,f⟩,n⟩
  .rintro⟨l,m,f,n⟩;obtain⟨t,c,d,q,p⟩:=nm.1 f
   grind
def trace{e e':Env}{h h':Heap}:∀{n:Nat},bW P G R ops (bZ n) e h=J (.normal,e',h')->
 (e',h')=cI P G R ops e h n/\(∀k,k<=n->bW P G R ops (bZ k) e h=J (.normal,(cI P G R ops e h k).1,(cI P G R ops e h k).2))/\
 ∀k,k<n->gJ P G R ops k (cI P G R ops e h k).1 (cI P G R ops e h k).2=J ((q_ P G R ops e h k).1,(q_ P G R ops e h k).2,(cI P G R ops e h (k+1)).2)/\
  (cI P G R ops e h (k+1)).1=(q_ P G R ops e h k).2.put (iA ops k) (q_ P G R ops e h k).1:=by
 intro n
 induction n generalizing e' h' with
 |zero=>
  intro c;have g:(e',h')=cI P G R ops e h 0:=by unfold cI;rw[c]
  simp_all
 |succ n x=>
  intro c;have g:(e',h')=cI P G R ops e h (n+1):=by unfold cI;rw[c]
  have d:=c;rw[jT,Bl]at d;obtain⟨A,C,r,s⟩:=d;obtain⟨v,E,H⟩:=x r;obtain⟨z,f,q,u,t⟩:=nm.1 s;simp only[bW,dt,cL,true_and]at t;refine⟨g,λk m=>?_,λk m=>?_⟩
  .grind
  .rcases dp k n with y|l
   .simp_all
   .have:k=n:=Nat.le_antisymm (zM.1 m) l;subst this;have p:gJ P G R ops k (cI P G R ops e h k).1 (cI P G R ops e h k).2=J (z,f,q):=(by rw[<-v];exact u);have D:q_ P G R ops e h k=(z,f):=by unfold q_;rw[p]
    grind
def CD{e e2:Env}{o:Oper}(h:Alike ops e e2 o):∀x∈o.op.operands,e.eval x=e2.eval x:=by
 intro x d;cases x with|tmp c=>refine h c ?_;unfold Oper.looksAt;exact JK _ (aas.2 ⟨.tmp c,by simp_all,O⟩)|_=>rfl
def wh{e e2:Env}{o:Oper}(h:Alike ops e e2 o):et ops e o=et ops e2 o:=by
 unfold et;cases l:o.guard with
 |none=>rfl|some d=>
  obtain⟨j,f⟩:=d;simp only;cases g:(ops[j]?).bind (·.dst) with|none=>rfl|some c=>have:e.get c=e2.get c:=h c (by unfold Oper.looksAt;simp_all);simp_all
def N_(e:Env)(d)(x)(t):(e.put d x).get t=if d=J t then x else e.get t:=by
 cases d with|none=>simp[Env.put]|some d=>simp only[Env.put,Env.get,A',dt]
def rQ(e:Env)(d)(x):(e.put d x).defers=e.defers/\(e.put d x).cC=e.cC/\(e.put d x).round=e.round:=by cases d<;>exact⟨O,O,O⟩
def O7{k:Nat}{e f e2:Env}{h m:Heap}{x:U}(c:gJ P G R ops k e h=J (x,f,m)):
 f=e.with f/\((∀o,ops[k]?=J o->Alike ops e e2 o)->e2.defers=e.defers->e2.cC=e.cC->e2.round=e.round->gJ P G R ops k e2 h=J (x,e2.with f,m)):=by
 unfold gJ at c ⊢;cases r:ops[k]? with
 |none=>simp_all|some o=>
  rw[r]at c;simp only at c ⊢;cases l:et ops e o with
  |none=>simp_all|some b=>
   rw[l]at c;cases b with
   |false=>simp only[dt,cL]at c;obtain⟨rfl,rfl,rfl⟩:=c;refine⟨O,λd n p q=>?_⟩;rw[<-wh (d o O),l];have:e2.with e=e2:=(by cases e2;cases e;simp_all [Env.with]);simp_all
   |true=>
    simp only at c;split at c
    .rename_i s e' h' g;simp only[dt,cL]at c;obtain⟨rfl,rfl,rfl⟩:=c;refine⟨Wv g,λd n p q=>?_⟩;rw[<-wh (d o O),l];simp only[Wu (CD (d o O)) n p q g]
    grind
def O8{k:Nat}{e n:Env}{h p:Heap}{x:U}(l:nD ops k=.pure)(c:gJ P G R ops k e h=J (x,n,p)):
 n=e/\p=h/\∀e2 f,(∀o,ops[k]?=J o->Alike ops e e2 o)->gJ P G R ops k e2 f=J (x,e2,f):=by
 unfold gJ at c ⊢;cases q:ops[k]? with
 |none=>simp_all|some o=>
  rw[q]at c;simp only at c ⊢;have l:ig o.op=.pure:=by simpa [nD,q] using l
  cases m:et ops e o with
  |none=>simp_all|some b=>
   rw[m]at c;cases b with
   |false=>simp only[dt,cL]at c;obtain⟨rfl,rfl,rfl⟩:=c;refine⟨O,O,λe2 f d=>?_⟩;rw[<-wh (d o O),m]
   |true=>
    simp only at c;split at c
    .rename_i s e' h' r;simp only[dt,cL]at c;obtain⟨rfl,rfl,rfl⟩:=c;obtain⟨rfl,rfl,g⟩:=amT l r;refine⟨O,O,λe2 f d=>?_⟩;rw[<-wh (d o O),m];simp only[g e2 (CD (d o O)) f]
    grind
def Reads(P:bj)(G:Nat->Option (List U))(R:Rec)(ops:Array Oper)(k:Nat)(e:Env)(x:U)(c:Heap):Prop:=
 ∀o,ops[k]?=J o->et ops e o=J V->(∀d a,o.op=.load d a->aD P G c d (e.eval a)=J x)/\(wp o.op=V->dF P G R e c o=J (.ret x,e,c))
def YF{k:Nat}{e p:Env}{h q:Heap}{x:U}(l:nD ops k=.reads)(c:gJ P G R ops k e h=J (x,p,q)):
 p=e/\q=h/\Reads P G R ops k e x h/\∀e2 f,(∀o,ops[k]?=J o->Alike ops e e2 o)->Reads P G R ops k e x f->gJ P G R ops k e2 f=J (x,e2,f):=by
 unfold gJ at c ⊢;unfold Reads;cases r:ops[k]? with
 |none=>simp_all|some o=>
  rw[r]at c;simp only at c ⊢;have l:ig o.op=.reads:=by simpa [nD,r] using l
  obtain⟨X,a,g⟩:=Xs l;cases m:et ops e o with
  |none=>simp_all|some b=>
   rw[m]at c;cases b with
   |false=>
    simp only[dt,cL]at c;obtain⟨rfl,rfl,rfl⟩:=c;refine⟨O,O,λy s H=>?_,λe2 f d _=>?_⟩
    .simp_all
    .rw[<-wh (d o O),m]
   |true=>
    simp only at c;split at c
    .rename_i T e' h' t;simp only[dt,cL]at c;obtain⟨rfl,rfl,rfl⟩:=c;obtain⟨Y,n,rfl,rfl,N,u⟩:=akB g t;injection n with n;subst n;refine⟨O,O,λy s _=>⟨λS L v=>?_,λC=>?_⟩,λe2 f d D=>?_⟩
     .simp_all
     .simp_all
     .rw[<-wh (d o O),m];have z:e2.eval a=e'.eval a:=(CD (d o O) a (by rw[g];simp[Op.operands])).symm;simp_all
    grind
def adG{e:Env}{h g:Heap}{o:Oper}{c:Call}{x:U}(n:o.op=.call c)(d:jE P R e h c=J (.ret x,g)):dF P G R e h o=J (.ret x,e,g):=by
 have l:∀b,c.callee≠ .builtin b:=by intro b l;unfold jE at d;rw[l]at d;cases d
 obtain⟨f,m,p⟩:=c;unfold dF;simp_all
def adR{e e2:Env}{h:Heap}{o:Oper}{x:U}(m:wp o.op=V)(p:∀z∈o.op.operands,e.eval z=e2.eval z)(g:dF P G R e h o=J (.ret x,e,h)):dF P G R e2 h o=J (.ret x,e2,h):=by
 unfold wp at m;split at m
 .grind
 .grind
 .rename_i r u v c;have l:∀z∈r.operands,e.eval z=e2.eval z:=λz n=>p z (by rw[c];exact n);obtain⟨f,d,y⟩:=r;have s:d.toList.map e.eval=d.toList.map e2.eval:=Bc λx n=>l x (Op.V6 n);unfold dF at g ⊢;cases f with
  |builtin b=>cases b<;>simp_all
  |value C=>simp only[c]at g ⊢;rw[<-KD (e:=e) (e2:=e2) l];simp_all|invoke H D=>simp only[c]at g ⊢;rw[<-KD (e:=e) (e2:=e2) l];simp_all
 .rename_i L A q c;have t:e.eval q=e2.eval q:=p q (by rw[c];simp[Op.operands]);unfold dF at g ⊢;simp only[c,di]at g ⊢;simp_all
 simp_all
def YD{k:Nat}{e n:Env}{h p:Heap}{x y:U}{o:Oper}(m:ops[k]?=J o)(l:wp o.op=V)(s:dF P G R e h o=J (.ret y,e,h))(c:gJ P G R ops k e h=J (x,n,p)):
 n=e/\p=h/\(et ops e o=J V->x=y)/\∀e2 f,(∀o,ops[k]?=J o->Alike ops e e2 o)->Reads P G R ops k e x f->gJ P G R ops k e2 f=J (x,e2,f):=by
 unfold gJ at c ⊢;rw[m]at c;simp only[m]at c ⊢;cases g:et ops e o with
 |none=>simp_all|some b=>
  rw[g]at c;cases b with
  |false=>simp only[dt,cL]at c;obtain⟨rfl,rfl,rfl⟩:=c;refine⟨O,O,(λv=>nomatch v),λe2 f d _=>?_⟩;rw[<-wh (d o O),g]
  |true=>simp only[s]at c;simp only[dt,cL]at c;obtain⟨rfl,rfl,rfl⟩:=c;refine⟨O,O,λ_=>rfl,λe2 f d q=>?_⟩;rw[<-wh (d o O),g];have r:=(q o m g).2 l;have u:=adR (e2:=e2) l (λz t=>CD (d o O) z t) r;simp_all
end
end Go.AE
end
section
namespace Go.AE
section
variable {P:bj} {G:Nat->Option (List U)} {R:Rec} {ops:Array Oper}
def Ord(b:Array Nat)(i j:Nat):Prop:=(b.getD j 0).testBit i=V
structure Fits(P:bj)(G:Nat->Option (List U))(R:Rec)(ops:Array Oper)(e:Env)(h:Heap)(b:Array Nat):Prop where
 Am:∀(j:Nat) (o:Oper),ops[j]?=J o->∀ed∈o.after,Region.binds .any ed=V->ed.on<j
 bits:∀(j i:Nat) (o:Oper),ops[j]?=J o->i<ops.size->Ord b i j->∃ed∈o.after,Region.binds .any ed=V/\(ed.on=i∨Ord b i ed.on)
 pair:∀i j:Nat,i<j->j<ops.size->Ord b i j∨vw ops i j=V∨jn P G R ops e h i j=V∨(nB ops i j=V/\(jG P G R ops e h i=V∨jG P G R ops e h j=V))
def th{e:Env}{h:Heap}(l:jZ P G R ops e h=V):Fits P G R ops e h (Region.before ops):=by
 unfold jZ at l;simp only[bm,eF,hy,nU]at l;obtain⟨g,s⟩:=l;unfold xH at g;simp only[eF,hy]at g;refine⟨λj o f v m t=>?_,λj i o f r c=>?_,λi j c d=>?_⟩
 .have d:j<ops.size:=(Jh.1 f).1;have:=g j d;simp only[f,bm,zC]at this;obtain⟨u,n,rfl⟩:=Pz m
  grind
 .have d:j<ops.size:=(Jh.1 f).1;have:=g j d;simp only[f,bm,eF,hy]at this;have:=this.2 i r;unfold Ord at c;rw[c]at this;simp only[ZK,Fc,Array.any_eq_true,bm,nU]at this;obtain⟨u,n,p,q⟩:=this;exact⟨o.after[u],Zu n,p,q.imp (λh=>kU h) id⟩
 .rcases s j d i c with((h|h)|h)|h
  .exact .inl h
  .simp_all
  .simp_all
  simp_all
variable {e:Env} {h:Heap} {b:Array Nat}
def Fits.apart(f:Fits P G R ops e h b){i j:Nat}(c:i<j)(d:j<ops.size)(g:¬Ord b i j){x y:Oper}(l:ops[i]?=J x)(m:ops[j]?=J y):
 x.apart ops y=V/\y.apart ops x=V:=by
 rcases f.pair i j c d with h|h|h|⟨h,-⟩
 .simp_all
 .unfold vw at h;simp_all
 .unfold jn nB at h;simp_all
 .unfold nB at h;simp_all
def xR{i:Nat}{x:Oper}(c:ops[i]?=some x):nD ops i=ig x.op:=by simp[nD,c]
def FU{i:Nat}(hi:jH P G R ops e h i=.h_):nD ops i=.h_/\jG P G R ops e h i=ai:=by
 unfold jH at hi
 grind
def Fits.h_(m:Fits P G R ops e h b){i j:Nat}(d:i<j)(f:j<ops.size)(hi:jH P G R ops e h i=.h_)(c:jH P G R ops e h j=.h_):Ord b i j:=by
 have g:ops[i]?=J ops[i]:=jz (nW d f);have l:ops[j]?=J ops[j]:=jz f;obtain⟨hi,n⟩:=FU hi;obtain⟨c,p⟩:=FU c;rw[xR g]at hi;rw[xR l]at c;rcases m.pair i j d f with h|h|h|⟨-,h⟩
 .exact h
 .unfold vw at h;simp only[g,l,bm]at h;rw[hi,c]at h;simp[Hv]at h
 .unfold jn at h
  grind
 simp_all
def Fits.arX(m:Fits P G R ops e h b){i j:Nat}(d:i<j)(f:j<ops.size)(q:¬Ord b i j)(hi:nD ops i=.reads)(n:jG P G R ops e h i=ai)(c:jH P G R ops e h j=.h_):nS P G R ops e h i (j+1)=V:=by
 have g:ops[i]?=J ops[i]:=jz (nW d f);have l:ops[j]?=J ops[j]:=jz f;obtain⟨c,p⟩:=FU c;rw[xR g]at hi;rw[xR l]at c;rcases m.pair i j d f with h|h|h|⟨-,h⟩
 .simp_all
 .unfold vw at h;simp only[g,l,bm]at h;rw[hi,c]at h;simp[Hv]at h
 .unfold jn at h
  grind
 simp_all
def Fits.arY(m:Fits P G R ops e h b){i j:Nat}(c:i<j)(f:j<ops.size)(q:¬Ord b i j)(hi:jH P G R ops e h i=.h_)(d:nD ops j=.reads)(p:jG P G R ops e h j=ai):nS P G R ops e h j i=V:=by
 have g:ops[i]?=J ops[i]:=jz (nW c f);have l:ops[j]?=J ops[j]:=jz f;obtain⟨hi,n⟩:=FU hi;rw[xR g]at hi;rw[xR l]at d;rcases m.pair i j c f with h|h|h|⟨-,h⟩
 .simp_all
 .unfold vw at h;simp only[g,l,bm]at h;rw[hi,d]at h;simp[Hv]at h
 .unfold jn at h
  grind
 simp_all
def ar2{r m n:Nat}{e':Env}{h':Heap}(C:bW P G R ops (bZ n) e h=J (.normal,e',h'))(q:r<n)(x:m<=n)(d:nS P G R ops e h r m=V)(p:nD ops r=.reads):
 Reads P G R ops r (cI P G R ops e h r).1 (q_ P G R ops e h r).1 (cI P G R ops e h m).2:=by
 obtain⟨-,v,st⟩:=trace C;obtain⟨t,-⟩:=st r q;obtain⟨-,-,s,-⟩:=YF p t;intro o g u;refine⟨λz a c=>?_,λf=>?_⟩
 .have hold:=(s o g u).1 z a c;unfold nS at d;rw[g,v r (mz q),v m x]at d;simp only[u,c]at d;rw[hold]at d;split at d
  .rename_i D H l y;injection l with l;subst l;rw[OQ d];exact y
  grind
 .obtain⟨z,a,c⟩:=Xs (show ig o.op=.reads by rw[<-xR g];exact p);rw[c]at f;exact absurd f (by simp[wp])
def adM{k:Nat}:jG P G R ops e h k=V↔uH P G R ops e h k:=by unfold jG;simp_all
def RB{n k:Nat}{e':Env}{h':Heap}(l:bW P G R ops (bZ n) e h=J (.normal,e',h'))(t:n=ops.size)(r:k<n)(f:jG P G R ops e h k=V):
 ∃o x,ops[k]?=J o/\wp o.op=V/\∀m,m<=n->dF P G R (cI P G R ops e h k).1 (cI P G R ops e h m).2 o=J (.ret x,(cI P G R ops e h k).1,(cI P G R ops e h m).2):=by
 obtain⟨-,v,-⟩:=trace l;obtain⟨o,x,q,u,g,c,p,d⟩:=adM.1 f;refine⟨o,x,g,c,λm s=>?_⟩
 grind
def YH{k:Nat}{e':Env}{h':Heap}(C:bW P G R ops (bZ ops.size) e h=J (.normal,e',h'))(q:k<ops.size)(l:jH P G R ops e h k=.reads){m:Env}{n:Heap}{x:U}
 (t:gJ P G R ops k (cI P G R ops e h k).1 (cI P G R ops e h k).2=J (x,m,n)):
 m=(cI P G R ops e h k).1/\n=(cI P G R ops e h k).2/\Reads P G R ops k (cI P G R ops e h k).1 x (cI P G R ops e h k).2/\
  ∀e2 f,(∀o,ops[k]?=J o->Alike ops (cI P G R ops e h k).1 e2 o)->Reads P G R ops k (cI P G R ops e h k).1 x f->gJ P G R ops k e2 f=J (x,e2,f):=by
 unfold jH at l;split at l
 .rename_i p;obtain⟨o,N,s,d,g⟩:=RB C O q p;have z:=g k (mz q);obtain⟨u,v,D,y⟩:=YD s d z t;refine⟨u,v,λH c E=>?_,y⟩;rw[s]at c;injection c with c;subst c;refine⟨λL a r=>(by rw[r]at d;cases d),λ_=>?_⟩;simp_all
 .exact YF l t
def YJ{k m:Nat}{e':Env}{h':Heap}(s:bW P G R ops (bZ ops.size) e h=J (.normal,e',h'))(l:k<ops.size)(t:m<=ops.size)(f:jH P G R ops e h k=.reads)
 (u:nD ops k=.reads->jG P G R ops e h k=ai->nS P G R ops e h k m=V):
 Reads P G R ops k (cI P G R ops e h k).1 (q_ P G R ops e h k).1 (cI P G R ops e h m).2:=by
 by_cases c:jG P G R ops e h k=V
 .obtain⟨-,z,st⟩:=trace s;obtain⟨r,-⟩:=st k l;obtain⟨o,D,q,g,n⟩:=RB s O l c;obtain⟨-,-,v,-⟩:=YD q g (n k (mz l)) r;intro y d x;rw[q]at d;injection d with d;subst d;refine⟨λC a p=>(by rw[p]at g;cases g),λ_=>?_⟩;simp_all
 .have c:jG P G R ops e h k=ai:=by simpa using c
  have f:nD ops k=.reads:=by unfold jH at f;rw[c]at f;simpa using f
  exact ar2 s l t (u f c) f
def R4{k:Nat}(c:jH P G R ops e h k=.pure):nD ops k=.pure:=by
 unfold jH at c
 grind
structure Inv(P:bj)(G:Nat->Option (List U))(R:Rec)(ops:Array Oper)(e:Env)(h:Heap)(b:Array Nat)(S:Nat->Bool)(e1:Env)(h1:Heap):Prop where
 closed:∀i j,i<ops.size->j<ops.size->S j=V->Ord b i j->S i=V
 fX:∀t,e1.get t=val P G R ops e h S ops.size t
 round:e1.round=e.round
 mem:∃m,m<=ops.size/\e1.defers=(cI P G R ops e h m).1.defers/\e1.cC=(cI P G R ops e h m).1.cC/\h1=(cI P G R ops e h m).2/\
  (∀a,a<m->jH P G R ops e h a=.h_->S a=V)/\∀a,m<=a->a<ops.size->jH P G R ops e h a=.h_->S a=ai
variable {e':Env} {h':Heap}
def Ph(m:bW P G R ops (bZ ops.size) e h=J (.normal,e',h'))(t:Nat):∀k,k<=ops.size->(cI P G R ops e h k).1.get t=val P G R ops e h (λ_=>V) k t:=by
 obtain⟨-,l,st⟩:=trace m;intro k
 induction k with
 |zero=>intro _;have:=l 0 (bV _);simp only[aau,bW,dt,cL,true_and]at this;rw[<-this.1];rfl|succ k g=>
  intro c;obtain⟨f,d⟩:=st k c;rw[d,N_];simp only[val,true_and];split
  .rfl
  .rw[<-g (mz c)];have:=(O7 (e2:=e) f).1;rw[this];rfl
def Y5(m:bW P G R ops (bZ ops.size) e h=J (.normal,e',h')):∀k,k<=ops.size->(cI P G R ops e h k).1.round=e.round:=by
 obtain⟨-,l,st⟩:=trace m;intro k
 induction k with
 |zero=>
  intro _;have:=l 0 (bV _);simp only[aau,bW,dt,cL,true_and]at this
  grind
 |succ k g=>intro c;obtain⟨f,d⟩:=st k c;rw[d,(rQ _ _ _).2.2,(O7 (e2:=e) f).1];exact g (mz c)
def adT(p:bW P G R ops (bZ ops.size) e h=J (.normal,e',h')){k:Nat}(c:k<ops.size)(q:jH P G R ops e h k≠ .h_):
 (cI P G R ops e h (k+1)).1.defers=(cI P G R ops e h k).1.defers/\(cI P G R ops e h (k+1)).1.cC=(cI P G R ops e h k).1.cC/\(cI P G R ops e h (k+1)).2=(cI P G R ops e h k).2:=by
 obtain⟨-,r,st⟩:=trace p;obtain⟨f,n⟩:=st k c;have g:(q_ P G R ops e h k).2=(cI P G R ops e h k).1/\(cI P G R ops e h (k+1)).2=(cI P G R ops e h k).2:=by
  cases d:jH P G R ops e h k with
  |pure=>obtain⟨l,m,-⟩:=O8 (R4 d) f;simp_all
  |reads=>obtain⟨l,m,-⟩:=YH p c d f;simp_all
  |h_=>simp_all
 rw[n,(rQ _ _ _).1,(rQ _ _ _).2.1,g.1];simp_all
def IH(n:bW P G R ops (bZ ops.size) e h=J (.normal,e',h')){m:Nat}:∀k,m<=k->k<=ops.size->
 ((cI P G R ops e h m).1.defers=(cI P G R ops e h k).1.defers/\(cI P G R ops e h m).1.cC=(cI P G R ops e h k).1.cC/\(cI P G R ops e h m).2=(cI P G R ops e h k).2)∨
 (∃a,m<=a/\a<k/\jH P G R ops e h a=.h_/\(cI P G R ops e h m).2=(cI P G R ops e h a).2)/\∃a,m<=a/\a<k/\jH P G R ops e h a=.h_/\(cI P G R ops e h (a+1)).2=(cI P G R ops e h k).2:=by
 intro k
 induction k with
 |zero=>simp_all|succ k t=>
  intro s c;rcases dp k m with l|f
  .grind
  .have g:k<=ops.size:=mz c;by_cases d:jH P G R ops e h k=.h_
   .grind
   .obtain⟨p,q,r⟩:=adT n c d
    grind
def val_congr{d c:Nat->Bool}{t:Nat}:∀k,(∀w,w<k->iA ops w=J t->d w=c w)->val P G R ops e h d k t=val P G R ops e h c k t:=by
 intro k
 induction k with
 |zero=>intro _;rfl|succ k g=>
  intro f;simp only[val]
  grind
def I_{c:Nat->Bool}{t k:Nat}:∀n,k<=n->(∀w,k<=w->w<n->iA ops w=J t->c w=ai)->val P G R ops e h c n t=val P G R ops e h c k t:=by
 intro n
 induction n with
 |zero=>simp_all|succ n m=>
  intro g l;rcases dp n k with f|d
  .grind
  .simp only[val]
   grind
def xT{i:Nat}{x:Oper}(c:ops[i]?=J x):iA ops i=x.dst:=by simp[iA,c]
def Fits.at4(n:Fits P G R ops e h b){i j t:Nat}(c:i<j)(d:j<ops.size)(hi:iA ops i=J t)(f:iA ops j=J t):Ord b i j:=by refine Classical.byContradiction λm=>?_;have g:ops[i]?=J ops[i]:=jz (nW c d);have l:ops[j]?=J ops[j]:=jz d;have p:=(Oper.apart_spec (n.apart c d m g l).1).2.1;rw[xT g]at hi;rw[xT l]at f;simp_all
def Fits.looks(m:Fits P G R ops e h b){i j t:Nat}(c:i<j)(d:j<ops.size){x y:Oper}(g:ops[i]?=J x)(l:ops[j]?=J y)
 (p:(x.dst=J t/\t∈y.looksAt ops)∨(y.dst=J t/\t∈x.looksAt ops)):Ord b i j:=by
 refine Classical.byContradiction λf=>?_;have n:=Oper.apart_spec (m.apart c d f g l).1
 grind
def mC(ops:Array Oper)(d:Nat->Bool)(k:Nat):Prop:=∀o,ops[k]?=J o->∀c∈o.after,Region.binds .any c=V->d c.on=V
def dh(c:Nat->Bool)(k:Nat):Nat->Bool:=λj=>if j=k then V else c j
def next(z1:bW P G R ops (bZ ops.size) e h=J (.normal,e',h'))(z0:Fits P G R ops e h b){N:Nat->Bool}{l:Env}{g:Heap}(Y:Inv P G R ops e h b N l g){k:Nat}(c:k<ops.size)
 (hu:N k=ai) (hr:mC ops N k):∃x e2 Z,gJ P G R ops k l g=J (x,e2,Z)/\Inv P G R ops e h b (dh N k) (e2.put (iA ops k) x) Z:=by
 obtain⟨-,tr,st⟩:=trace z1;have S:ops[k]?=J ops[k]:=jz c;have ahead:∀i,i<ops.size->Ord b i k->N i=V:=by
  intro i hi LZ;obtain⟨ed,yo,TL,d⟩:=z0.bits k i _ S hi LZ;have T:=hr _ S ed yo TL;have f:=z0.Am k _ S ed yo TL;rcases d with rfl|d
  .exact T
  .exact Y.closed i ed.on hi (nW f c) T d
 have C:∀o,ops[k]?=J o->Alike ops (cI P G R ops e h k).1 l o:=by
  intro o L X ht;rw[S]at L;injection L with L;subst L;rw[Y.fX X,Ph z1 X k (mz c),I_ (k:=k) ops.size (mz c)]
  .refine val_congr k λw m u=>?_;have z:ops[w]?=J ops[w]:=jz (nW m c);rw[xT z]at u;exact(ahead w (nW m c) (z0.looks m c z S (.inl ⟨u,ht⟩))).symm
  .intro w Mb m u;rcases dp k w with f|pi
   .cases d:N w with|false=>rfl|true=>have z:ops[w]?=J ops[w]:=jz m;rw[xT z]at u;have:=Y.closed k w c m d (z0.looks f m S z (.inr ⟨u,ht⟩));simp_all
   grind
 obtain⟨T,hn⟩:=st k c;obtain⟨q,hm,u,hp,D,Gx,Lq⟩:=Y.mem;have n:∀i j,i<ops.size->j<ops.size->dh N k j=V->Ord b i j->dh N k i=V:=by
  intro i j hi hj MI hij;unfold dh at MI ⊢;by_cases LZ:i=k
  .simp_all
  .rw[aP LZ];by_cases hjk:j=k
   .simp_all
   .rw[aP hjk]at MI;exact Y.closed i j hi hj MI hij
 have y:∀(e2:Env),(∀X,e2.get X=l.get X)->∀X,(e2.put (iA ops k) (q_ P G R ops e h k).1).get X=val P G R ops e h (dh N k) ops.size X:=by
  intro e2 pU X;rw[N_];by_cases v:iA ops k=J X
  .rw[av v,I_ (k:=k+1) ops.size c]
   .simp[val,dh,v]
   .intro w Mb m Dt;have fI:w≠k:=λd=>absurd Mb M;simp only[dh,aP fI];cases d:N w with|false=>rfl|true=>have:=Y.closed k w c m d (z0.at4 Mb m v Dt);simp_all
  .rw[aP v,pU,Y.fX X];refine val_congr _ λw _ Dt=>?_;have fI:w≠k:=λd=>v (d ▸ Dt);simp only[dh,aP fI]
 by_cases hc:jH P G R ops e h k=.h_
 .-- it h_
  have hmk:q<=k:=by
   rcases dp k q with f|pi
   .simp_all
   .omega
  have same:=IH z1 k hmk (mz c);have same:(cI P G R ops e h q).1.defers=(cI P G R ops e h k).1.defers/\(cI P G R ops e h q).1.cC=(cI P G R ops e h k).1.cC/\(cI P G R ops e h q).2=(cI P G R ops e h k).2:=by
   rcases same with g|⟨⟨a,g1,p,r,-⟩,-⟩
   .exact g
   .have g:=Lq a g1 (nW p c) r;rw[ahead a (nW p c) (z0.h_ p c r hc)]at g;cases g
  have H:=(O7 (e2:=l) T).2 C (u.trans same.1) (hp.trans same.2.1) (by rw[Y.round,Y5 z1 k (mz c)]);rw[<-same.2.2,<-D]at H;refine⟨_,_,_,H,n,y _ (λX=>rfl),?_,k+1,c,?_,?_,O,?_,?_⟩
  .rw[(rQ _ _ _).2.2];exact Y.round
  .rw[(rQ _ _ _).1,hn,(rQ _ _ _).1];rfl
  .rw[(rQ _ _ _).2.1,hn,(rQ _ _ _).2.1];rfl
  .intro a yg t;unfold dh;by_cases d:a=k
   .simp_all
   .rw[aP d];have f:a<k:=aaK (zM.1 yg) d;exact ahead a (nW f c) (z0.h_ f c t hc)
  .intro a hka ha t;have d:a≠k:=λd=>absurd hka M;unfold dh
   grind
 .-- it does not
  have mem':∀e2:Env,e2.defers=l.defers->e2.cC=l.cC->∃q,q<=ops.size/\e2.defers=(cI P G R ops e h q).1.defers/\e2.cC=(cI P G R ops e h q).1.cC/\g=(cI P G R ops e h q).2/\
   (∀a,a<q->jH P G R ops e h a=.h_->dh N k a=V)/\∀a,q<=a->a<ops.size->jH P G R ops e h a=.h_->dh N k a=ai:=by
   intro e2 Aw tC;refine⟨q,hm,Aw.trans u,tC.trans hp,D,λa ham t=>?_,λa hma ha t=>?_⟩
   .unfold dh;simp_all
   .have d:a≠k:=λd=>hc (d ▸ t);unfold dh;simp_all
  have fin:∀x,x=(q_ P G R ops e h k).1->gJ P G R ops k l g=J (x,l,g)->∃x e2 Z,gJ P G R ops k l g=J (x,e2,Z)/\Inv P G R ops e h b (dh N k) (e2.put (iA ops k) x) Z:=by intro x z H;subst z;refine⟨_,_,_,H,n,y _ (λX=>rfl),?_,mem' _ (rQ _ _ _).1 (rQ _ _ _).2.1⟩;rw[(rQ _ _ _).2.2];exact Y.round
  cases E:jH P G R ops e h k with
  |h_=>simp_all|pure=>obtain⟨-,-,Dl⟩:=O8 (R4 E) T;simp_all
  |reads=>
   obtain⟨-,-,UK,Dl⟩:=YH z1 c E T;refine fin _ O (Dl l g C ?_);rw[D];rcases dp k q with f|pi
   .rcases IH z1 (m:=k) q (mz f) hm with d|⟨-,a,g1,p,r,g4⟩
    .simp_all
    .have yg:k<a:=aaK g1 λd=>hc (d ▸ r);have s:a<ops.size:=l_ p hm;have Mi:¬Ord b k a:=λd=>(by have:=Y.closed k a c s (Gx a p r) d;simp_all);rw[<-g4];exact YJ z1 c s E λq1 q2=>z0.arX yg s Mi q1 q2 r
   .rcases IH z1 (m:=q) k pi (mz c) with d|⟨⟨a,g1,p,r,g4⟩,-⟩
    .simp_all
    .have s:a<ops.size:=nW p c;have Mi:¬Ord b a k:=λd=>by
      grind
     rw[g4];exact YJ z1 c (mz s) E λq1 q2=>z0.arY p c Mi r q1 q2
def Hn(f:bW P G R ops (bZ ops.size) e h=J (.normal,e',h')):Inv P G R ops e h b (λ_=>ai) e h:=by
 have c:cI P G R ops e h 0=(e,h):=by simp[cI,bW]
 refine⟨λ_ _ _ _ h=>absurd h b7,λg=>?_,O,0,bV _,by rw[c],by rw[c],by rw[c],λa d=>absurd d (mY a),λ_ _ _ _=>rfl⟩;rw[I_ (k:=0) ops.size (bV _) (λ_ _ _ _=>rfl)];rfl
structure iW(e e2:Env):Prop where
 fX:∀t,e.get t=e2.get t
 defers:e.defers=e2.defers
 cC:e.cC=e2.cC
 round:e.round=e2.round
def Vd(l:bW P G R ops (bZ ops.size) e h=J (.normal,e',h')){s:Nat->Bool}{f:Env}{c:Heap}(m:Inv P G R ops e h b s f c)(d:∀i,i<ops.size->s i=V):iW f e'/\c=h':=by
 obtain⟨t0,L,st⟩:=trace l;have g:e'=(cI P G R ops e h ops.size).1:=by grind
 have E:h'=(cI P G R ops e h ops.size).2:=by grind
 obtain⟨r,n,C,H,p,t,u⟩:=m.mem;have same:=IH l ops.size n (aV _);have same:(cI P G R ops e h r).1.defers=(cI P G R ops e h ops.size).1.defers/\(cI P G R ops e h r).1.cC=(cI P G R ops e h ops.size).1.cC/\(cI P G R ops e h r).2=(cI P G R ops e h ops.size).2:=by
  rcases same with c|⟨⟨a,x,y,z,-⟩,-⟩
  .exact c
  .simp_all
 refine⟨⟨λv=>?_,?_,?_,?_⟩,?_⟩
 .rw[m.fX v,g,Ph l v ops.size (aV _)];exact val_congr _ λw q _=>d w q
 .simp_all
 .simp_all
 .rw[m.round,g,Y5 l ops.size (aV _)]
 simp_all
def Sf{α:Type}{p q}{a}:∀{l:List α},(∀x∈l,q x=true->p x=true)->a∈l->p a=true->q a=false->l.countP q<l.countP p:=by
 intro l
 induction l with
 |nil=>simp_all|cons x l r=>
  intro c g m n;have f:l.countP q<=l.countP p:=List.countP_mono_left λs d=>c s (gj _ d)
  grind
def mw(ops:Array Oper):(Nat->Bool)->List Nat->Prop
 |S,[]=>∀i,i<ops.size->S i=V
 |S,k::c=>k<ops.size/\S k=ai/\mC ops S k/\mw ops (dh S k) c
def Nu(y:bW P G R ops (bZ ops.size) e h=J (.normal,e',h'))(z:Fits P G R ops e h b):∀(L:List Nat) (n:Nat->Bool) (c:Env) (f:Heap),Inv P G R ops e h b n c f->mw ops n L->
 ∃e2,bW P G R ops L c f=J (.normal,e2,h')/\iW e2 e':=by
 intro L
 induction L with
 |nil=>intro n c f p d;obtain⟨l,rfl⟩:=Vd y p d;exact⟨c,by simp[bW],l⟩
 |cons k L x=>
  intro n c f p d;obtain⟨t,v,u,d⟩:=d;obtain⟨A,e2,s,l,q⟩:=next y z p t v u
  obtain⟨r,m,g⟩:=x _ _ _ q d;exact⟨r,nm.2 ⟨A,e2,s,l,m⟩,g⟩
def vT(ops:Array Oper):Prop:=∀(j:Nat) (o:Oper),ops[j]?=J o->∀c∈o.after,Region.binds .any c=V->c.on<j
def akn(T:vT ops):∀(fuel t:Nat) (c:Array Bool),c.size=ops.size->
 (bZ ops.size).countP (λj=> !c.getD j ai)<=fuel->mw ops (λj=>c.getD j ai) (Region.linearise.go .any ops fuel t c []):=by
 intro fuel
 induction fuel with
 |zero=>
  intro t c L f;have m:∀i,i<ops.size->c.getD i ai=V:=by intro i d;have:=aab.1 (aaJ.1 f) i (hy.2 d);simpa using this
  simp only[Region.linearise.go,aaw];exact m
 |succ fuel Z=>
  intro t c L f;have r:∀i,i<ops.size->c.getD i V=c.getD i ai:=by intro i d;have:i<c.size:=(by omega);simp[this]
  simp only[Region.linearise.go];change mw ops _ (match (Region.ready .any ops c)[t%F (Region.ready .any ops c)]? with
   |some i=>Region.linearise.go .any ops fuel (t/F (Region.ready .any ops c)) (c.setIfInBounds i V) [i]
   |none=>[].reverse)
  have l:∀i,i∈Region.ready .any ops c↔i<ops.size/\c.getD i ai=ai/\mC ops (λj=>c.getD j ai) i:=by
   intro i;unfold Region.ready;rw[uA,hy];constructor
   .rintro⟨d,g⟩;rw[bm]at g;obtain⟨E,v⟩:=g;rw[r i d]at E;refine⟨d,by simp_all,λo n A q s=>?_⟩;rw[n]at v;simp only[fk,zO,zC]at v;obtain⟨z0,g,rfl⟩:=Pz q
    grind
   .rintro⟨d,g,z⟩;refine⟨d,?_⟩;rw[bm];refine⟨by simp_all,?_⟩;have n:ops[i]?=J ops[i]:=jz d;rw[n];simp only[fk,zO,zC];intro z0 g;cases X:Region.binds .any ops[i].after[z0] with|false=>rfl|true=>simpa using z _ n _ (Zu g) X
  cases d:(Region.ready .any ops c)[t%F (Region.ready .any ops c)]? with
  |none=>
   have Y:Region.ready .any ops c=[]:=by
    cases z:Region.ready .any ops c with
    |nil=>rfl|cons z1 S=>
     rw[z]at d;have D:t%F (z1::S)<F (z1::S):=jU _ b7
     grind
   have m:∀i,i<ops.size->c.getD i ai=V:=by
    intro i
    induction i using JY with
    |_ i ihi=>
     intro d;cases g:c.getD i ai with
     |true=>rfl|false=>
      have:i∈Region.ready .any ops c:=(l i).2 ⟨d,g,λo n A q s=>by
       have D:=T i o n A q s
       grind⟩
      simp_all
   simp only[aaw];exact m
  |some i=>
   simp only[];have y:=(l i).1 (cU d);obtain⟨u,N,H⟩:=y;have x:(λj=>(c.setIfInBounds i V).getD j ai)=dh (λj=>c.getD j ai) i:=by
    funext j;unfold dh;have eC:i<c.size:=(by omega);by_cases g:j=i
    .simp_all
    .rw[aP g];simp[Py,Ne.symm g]
   have tJ:=Z (t/F (Region.ready .any ops c)) (c.setIfInBounds i V) (by simp_all) (by
    refine zM.1 (l_ (Sf (a:=i) (p:=λj=> !c.getD j ai) ?_ (hy.2 u) (by simp_all) ?_) f)
    .intro j _ C;have this:(c.setIfInBounds i V).getD j ai=dh (λj=>c.getD j ai) i j:=congrFun x j;rw[this]at C;unfold dh at C;simp_all
    simp_all)
   rw[linearise_go_acc,aax,aaB];refine⟨u,N,H,?_⟩;simp_all
def anU(n):(λj=>(xq n ai).getD j ai)=λ_=>ai:=by
 funext j;rw[E',Px]
 grind
def VR(c:vT ops)(t:Nat):mw ops (λ_=>ai) (Region.linearise .any ops t):=by unfold Region.linearise;have:=akn c ops.size t (xq ops.size ai) b7 (eS aac b7);rw[anU]at this;omega
def SX{e:Env}{h:Heap}(g:jZ P G R ops e h=V):vT ops:=λj o l d c f=>(th g).Am j o l d c f
def afv(d:bW P G R ops (bZ ops.size) e h=J (.normal,e',h'))(c:jZ P G R ops e h=V)(t:Nat):
 ∃e2,bW P G R ops (Region.linearise .any ops t) e h=J (.normal,e2,h')/\iW e2 e':=
 Nu d (th c) _ _ _ _ (Hn d) (VR (SX c) t)
end
end Go.AE
end
section
namespace Go.AE
open Go.RowKit (Below)
structure aW.auu(K K':aW):Prop where
 base:K'.base=K.base
 ic:∀g j c,K.ic g j=J c->K'.ic g j=J c
 β:∀b g:Nat,K.β[b]?=J g->K'.β[b]?=J g
 γ:∀l g:Nat,K.γ[l]?=J g->K'.γ[l]?=J g
 tn:K.tn<=K'.tn
 tk:∀t,t<K.tn->K'.tk t=K.tk t
def aW.un(K:aW)(r:Nat):aW:={K with md:=K.md.filter (· !=r)}
def sL.un{K}{r}{k}{g off sz n aR}(h:sL K k g off sz n aR):sL (K.un r) k g off sz n aR:=h
mutual
def aO.un{K:aW}{r:Nat}:∀{x:U} {c:aG},aO K x c->aO (K.un r) x c
 |_,_,.bad c=>.bad c
 |_,_,.v x y=>.v x y
 |_,_,.nil l=>.nil l
 |_,_,.fP l a=>.fP l a
 |_,_,.list k l s m d Z f cells N p g n X t=>.list k l s m d Z f cells N p (aH.un g) n X t
 |_,_,.arr b m d len f z q u v n S p=>.arr b m d len f z q u v n S p
 |_,_,.agg cs A g=>.agg cs A (aH.un g)
 |_,_,.tuple cs A g=>.tuple cs A (aH.un g)
 |_,_,.box b m d u=>.box b m d u
 |_,_,.dB m d=>.dB m d
 |_,_,.elem l s i d m o z0 cells p g n L T t=>.elem l s i d m o z0 cells p (aH.un g) n L T t
 |_,_,.func C first f D cs E H=>.func C first f D cs (aH.un E) (aH.un H)
 |_,_,.yield Y m v=>.yield Y m v
 |_,_,.iface z1 x c y=>.iface z1 x c (aO.un y)
def aH.un{K:aW}{r:Nat}:∀{xs:List U} {cs:List aG},aH K xs cs->aH (K.un r) xs cs
 |_,_,.nil=>.nil
 |_,_,.cons g f xs cs d c=>.cons g f xs cs (aO.un d) (aH.un c)
end
def oh.un{K}{r}{f c d}(h:oh K f c d)(m:r∉d):oh (K.un r) f c d:=by
 induction h with
 |nil=>exact .nil|call y g u p f c d t _ n=>exact .call y g u p f c d (aH.un t) (n m)|mark q f c d x s _ n=>have v:q≠r:=λl=>m (l ▸ gx);exact .mark q f c d (by unfold aW.un;simp_all) s (n λl=>m (gj _ l))
def oh.sub{K}{f c d}(h:oh K f c d):∀r∈d,r∈K.md:=by
 induction h with
 |nil=>simp_all|call u l t m f c d q _ g=>exact g|mark s f c d n p _ g=>simp_all
def CS.un{K}{r}{d c p cs}(h:CS K d c p cs):CS (K.un r) d c p cs:=by
 cases h with|normal h=>exact .normal h|ret c0 rest g f l=>exact .ret c0 rest g f l|cC c0 rest q n r g f m=>exact .cC c0 rest q n r g f (aO.un m)
def aj5{K c:aW}{r}(le:K.Le c)(g:r∉K.md):K.Le (c.un r):=
 ⟨le.base,le.ic,le.β,le.γ,le.tn,le.tk,λf d=>by unfold aW.un;exact uA.2 ⟨le.md f d,by grind⟩,le.lb,le.new⟩
section
variable {K:aW} {G:Nat->Option (List U)} {ok:aQ->Nat->Code->Bool} {w0 w:bO} {h:Heap}
def Xe{g:Nat}{o:Obj}(c:g<w.heap.size):jp w (w.putObj g o) g o:=
 ⟨O,O,O,World.putObj_size,λ_ d=>World.putObj_heap_other d,World.putObj_heap_same c⟩
def bJ.drop(s:bJ K G ok w0 h w){r:Nat}(hr:r∈K.md)(o:Obj)(ho:∀cells e f,o≠ .cells cells e f):bJ (K.un r) G ok w0 h (w.putObj r o):=by
 obtain⟨X,u⟩:=s.md r hr;have C:=od u;have v:=Xe (o:=o) C;have d:∀{p:Nat} {cells:Array aG} {e:aC} {f:Nat × Nat},w.heap[p]?=J (.cells cells e f)->p≠r:=by rintro p cells e f t rfl;rw[u]at t;cases t
 refine⟨s.fD.trans (v.below X),by rw[v.size];exact s.size,λp j z3 hx=>?_,λp cs t=>?_,s.iD,s.mV,λb p cs A Y=>?_,s.lV,s.nT,λz2 p rr x E=>?_,s.tn,λz0 ht=>?_,s.nw,λy D=>?_,s.all⟩
 .have q:=s.ic p j z3 hx;have n:p≠r:=by rintro rfl;simp[World.cell?,u]at q
  rw[<-q];exact World.cell?_of_block (w:=w) (v.other p n)
 .obtain⟨cells,l,c⟩:=s.dB p cs t;exact⟨cells,aH.un l,c⟩
 .obtain⟨l,c,T,cells,e,m,g⟩:=s.box b p cs A Y;exact⟨l,c,T,cells,e,(v.other p (d m)).trans m,aH.un g.1,g.2⟩
 .obtain⟨l,H,z,z1,c,m,g⟩:=s.loop z2 p rr x E;have n:p≠r:=by rintro rfl;rw[u]at c;cases c
  exact⟨l,H,z,z1,(v.other p n).trans c,λz0=>aO.un (m z0),g⟩
 .obtain⟨l,c,m,cells,e,L,g,N,S⟩:=s.tok z0 ht;refine⟨l,c,m,cells,e,L,(v.other _ (d g)).trans g,N,λj Z x=>?_⟩;rw[<-S j Z x];exact World.frozen?_of_block (w:=w) (v.other _ (d g))
 .obtain⟨l,c⟩:=uA.1 D;have n:y≠r:=by simpa using c
  obtain⟨m,g⟩:=s.md y l;exact⟨m,(v.other y n).trans g⟩
def aW.mark(K:aW)(r:Nat):aW:={K with md:=r::K.md}
def aW.VK(K:aW)(r):K.Le (K.mark r):=
 ⟨O,λ_ _ _ h=>h,λ_ _ h=>h,λ_ _ h=>h,aV _,λ_ _=>rfl,λ_ h=>gj _ h,λ_ _=>rfl,λ_ _ _ h=>.inl h⟩
def bJ.ale(s:bJ K G ok w0 h w):bJ (K.mark w.heap.size) G ok w0 h (w.alloc (.deferred (J []))):=by
 have le:=K.VK w.heap.size;have c:=s.push (.deferred (J []));refine⟨c.fD,c.size,c.ic,λp cs v=>?_,c.iD,c.mV,λb p cs q u=>?_,c.lV,c.nT,λA p y x g=>?_,c.tn,c.tok,c.nw,λy g=>?_,s.all⟩
 .obtain⟨cells,d,f⟩:=s.dB p cs v;exact⟨cells,d.mono le,f⟩
 .obtain⟨d,f,t,cells,e,l,m⟩:=c.box b p cs q u;exact⟨d,f,t,cells,e,l,m.mono le (aS.1 q).1⟩
 .obtain⟨d,r,n,z,f,l,m⟩:=c.loop A p y x g;exact⟨d,r,n,z,f,l.mono le,m⟩
 .rcases gL.1 g with rfl|g
  .exact⟨s.size,World.alloc_heap_new w _⟩
  .exact c.md y g
def aW.loop(K:aW)(g:Nat):aW:={K with γ:=K.γ++[g]}
def aW.Nj(K:aW)(g):K.Le (K.loop g):=
 ⟨O,λ_ _ _ h=>h,λ_ _ h=>h,λ_ _ h=>C8 h,aV _,λ_ _=>rfl,λ_ h=>h,λ_ _=>rfl,λ_ _ _ h=>.inl h⟩
def bJ.Wg(s:bJ K G ok w0 h w){r:gM}{fn:aQ}{tmps:Array aG}(d:Nat)(S:jD K r.tmps tmps)(g:ok fn tmps.size r.assign=V)(c:ok fn tmps.size r.body=V)(l:∀p∈r.params.toList,p<tmps.size):
 bJ (K.loop w.heap.size) G ok w0 {h with loops:=h.loops++[r]} (w.alloc (.loop {state:=r.state,pending:=r.pending,fn,tmps,params:=r.params,assign:=r.assign,body:=r.body,defers:=d}))/\
 (K.loop w.heap.size).γ[h.loops.length]?=J w.heap.size:=by
 have le:=K.Nj w.heap.size;have p:=s.push (.loop {state:=r.state,pending:=r.pending,fn,tmps,params:=r.params,assign:=r.assign,body:=r.body,defers:=d});have v:(K.loop w.heap.size).γ[h.loops.length]?=J w.heap.size:=by simp[aW.loop,<-s.lV]
 have T:∀{x n:Nat},K.γ[x]?=J n->n<w.heap.size:=λ{x n} f=>by
  have C:x<F h.loops:=by rw[<-s.lV];exact(aS.1 f).1
  obtain⟨_,_,_,_,l,_⟩:=s.loop x n _ f (aN C)
  grind
 refine⟨⟨p.fD,p.size,p.ic,λn cs N=>?_,p.iD,p.mV,λb n cs q L=>?_,by simp[aW.loop,s.lV],λx X n f A=>?_,λx n D f m=>?_,p.tn,p.tok,p.nw,p.md,s.all⟩,v⟩
 .obtain⟨cells,g,c⟩:=s.dB n cs N;exact⟨cells,g.mono le,c⟩
 .obtain⟨g,c,H,cells,e,l,u⟩:=p.box b n cs q L;exact⟨g,c,H,cells,e,l,u.mono le (aS.1 q).1⟩
 .rcases pQ f with q|⟨rfl,rfl⟩<;>rcases pQ A with z|⟨rfl,c⟩
  .exact s.nT _ _ _ q z
  .grind
  .grind
  .rfl
 .rcases pQ f with f|⟨rfl,rfl⟩
  .rcases pQ m with m|⟨rfl,rfl⟩
   .obtain⟨g,y,t,E,c,l,u⟩:=p.loop x n D f m;exact⟨g,y,t,E,c,l.mono le,u⟩
   grind
  .have:D=r:=(by rw[s.lV]at m;simp at m;exact m.symm);subst this;exact⟨s.size,fn,tmps,d,World.alloc_heap_new w _,S.mono le,g,c,l⟩
def bJ.eY(s:bJ K G ok w0 h w){l g:Nat}{r:gM}(z:K.γ[l]?=J g)(Y:h.loops[l]?=J r)(st:LoopState)(E:Option Code):
 ∃m:Loop,w.heap[g]?=J (.loop m)/\m.state=r.state/\m.pending=r.pending/\m.params=r.params/\m.assign=r.assign/\m.body=r.body/\jD K r.tmps m.tmps/\
  ok m.fn m.tmps.size r.assign=V/\ok m.fn m.tmps.size r.body=V/\(∀p∈r.params.toList,p<m.tmps.size)/\
  bJ K G ok w0 {h with loops:=h.loops.set l {r with state:=st,pending:=E}} (w.putObj g (.loop {m with state:=st,pending:=E})):=by
 obtain⟨k1,fn,tmps,z0,A,k3,k4,k5,k6⟩:=s.loop l g r z Y;have gB:l<F h.loops:=(aS.1 Y).1;refine⟨_,A,O,O,O,O,O,k3,k4,k5,k6,?_⟩;have C:=Xe (o:=.loop {state:=st,pending:=E,fn,tmps,params:=r.params,assign:=r.assign,body:=r.body,defers:=z0}) (od A);have d:∀{c:Nat} {cells:Array aG} {e:aC} {z1:Nat × Nat},w.heap[c]?=J (.cells cells e z1)->c≠g:=by rintro c cells e z1 T rfl;rw[A]at T;cases T
 refine⟨s.fD.trans (C.below k1),by rw[C.size];grind,λc j z3 hx=>?_,s.dB,s.iD,s.mV,λb c cs N hc=>?_,by simp[s.lV],s.nT,λl' c rr f n=>?_,s.tn,λz2 ht=>?_,s.nw,λH Z=>?_,s.all⟩
 .have x:=s.ic c j z3 hx;have t:c≠g:=by rintro rfl;simp[World.cell?,A]at x
  rw[<-x];exact World.cell?_of_block (w:=w) (C.other c t)
 .obtain⟨u,q,ha,cells,e,y,v⟩:=s.box b c cs N hc;exact⟨u,q,ha,cells,e,(C.other c (d y)).trans y,v⟩
 .simp only[kQ]at n;split at n
  .rename_i S;subst S;injection n with n;subst n;rw[z]at f;injection f with f;subst f;exact⟨k1,fn,tmps,z0,C.this,k3,k4,k5,k6⟩
  .rename_i t;have X:c≠g:=(by rintro rfl;exact t (s.nT _ _ _ z f));obtain⟨u,L,D,d',q,y,v⟩:=s.loop l' c rr f n;exact⟨u,L,D,d',(C.other c X).trans q,y,v⟩
 .obtain⟨u,q,y,cells,e,fz,v,h5,h6⟩:=s.tok z2 ht;refine⟨u,q,y,cells,e,fz,(C.other _ (d v)).trans v,h5,λj hj z=>?_⟩;rw[<-h6 j hj z];exact World.frozen?_of_block (w:=w) (C.other _ (d v))
 .obtain⟨u,q⟩:=s.md H Z;have t:H≠g:=by rintro rfl;rw[A]at q;cases q
  exact⟨u,(C.other H t).trans q⟩
end
end Go.AE
end
section
namespace Go.AE
section
variable {P:bj} {G:Nat->Option (List U)} {R:Rec} {ops:Array Oper} {e:Env} {h:Heap}
def UZ:∀(l:List Oper),F (tQ l)=F l
 | []=>rfl
 | [_]=>rfl
 |o::c::d=>by rw[tQ,dY,UZ (c::d)];rfl
def UY:∀(l:List Oper) (i:Nat),(tQ l)[i]?=if i+1=F l then (l[i]?).map quiet else l[i]?
 | [],i=>by simp[tQ]
 | [o],i=>by cases i<;>simp[tQ]
 |o::c::d,i=>by
  cases i with|zero=>simp[tQ]|succ i=>rw[tQ,jS,UY (c::d) i];simp
def MP(ops):(gp ops).size=ops.size:=by show(F (tQ ops.toList))=_;rw[UZ];simp
def DR(ops)(i):(gp ops)[i]?=if i+1=ops.size then (ops[i]?).map quiet else ops[i]?:=by have:=UY ops.toList i;simp only[hW,Fb]at this;unfold gp;simp_all
def G'{i:Nat}(hi:i+1≠ops.size):(gp ops)[i]?=ops[i]?:=by rw[DR,aP hi]
def U0(ops)(i:Nat):((gp ops)[i]?).map (·.after)=(ops[i]?).map (·.after):=by
 rw[DR];split
 .cases ops[i]?<;>rfl
 .rfl
def akJ(c:qI ops=V){i j:Nat}{w:Bool}{o:Oper}(hi:i+1<ops.size)(f:ops[i]?=J o)(d:o.guard=J (j,w)):j+1≠ops.size:=by
 unfold qI at c;simp only[eF,hy,bm]at c;have:=(c i M).2;simp only[f,d,Ca]at this;intro l;have g:j=ops.size-1:=by omega
 simp_all
def akH(c:qI ops=V){i:Nat}(hi:i+1<ops.size):Ord (Region.before (gp ops)) i (ops.size-1):=by unfold qI at c;simp only[eF,hy,bm]at c;exact(c i M).1
def VY(d:qI ops=V){i:Nat}{o:Oper}(hi:i+1<ops.size)(f:ops[i]?=J o)(e:Env):et (gp ops) e o=et ops e o:=by
 unfold et;cases c:o.guard with|none=>rfl|some g=>obtain⟨j,w⟩:=g;simp only;rw[G' (akJ d hi f c)]
def akK(c:qI ops=V){i:Nat}(hi:i+1<ops.size)(e:Env)(h:Heap):gJ P G R (gp ops) i e h=gJ P G R ops i e h:=by
 unfold gJ;rw[G' M];cases d:ops[i]? with|none=>rfl|some o=>simp only[VY c hi d]
def akI{i:Nat}(hi:i+1<ops.size):iA (gp ops) i=iA ops i:=by unfold iA;rw[G' M]
def VX(m:qI ops=V):∀{l:List Nat},(∀i∈l,i+1<ops.size)->∀(e:Env) (h:Heap),bW P G R (gp ops) l e h=bW P G R ops l e h:=by
 intro l
 induction l with
 |nil=>intro _ e h;rfl|cons i l d=>
  intro c e h;have f:=c i gx;have d:=d λj g=>c j (gj _ g);rw[bW,bW,G' M];cases n:ops[i]? with|none=>rfl|some o=>simp only[VY m f n,d]
def WB{i:Nat}{rest:List Nat}{e c:Env}{h d:Heap}{x:U}(f:gJ P G R ops i e h=J (x,c,d)):bW P G R ops (i::rest) e h=bW P G R ops rest (c.put (iA ops i) x) d:=by
 unfold gJ at f;rw[bW];unfold iA
 grind
def NP{l:List Nat}:∀{f:List Nat} {e c:Env} {h d:Heap},bW P G R ops f e h=J (.normal,c,d)->bW P G R ops (f++l) e h=bW P G R ops l c d:=by
 intro f
 induction f with
 |nil=>intro e c h d g;simp only[bW,dt,cL,true_and]at g;simp_all|cons i s r=>
  intro e c h d g;obtain⟨t,n,p,m,q⟩:=nm.1 g;rw[eu,WB m]
  grind
def Xo{L:Nat}(l:L+1=ops.size){x:U}{c e2:Env}{d g:Heap}(f:gJ P G R (gp ops) L c d=J (x,e2,g)):e2=c/\g=d:=by
 unfold gJ at f;rw[DR,av l]at f;cases m:ops[L]? with|none=>simp_all|some o=>rw[m]at f;have p:et (gp ops) c (quiet o)=J V:=rfl;have n:dF P G R c d (quiet o)=J (.ret (oB (.bool V)),c,d):=rfl;simp_all
def Xn{L:Nat}(c:L+1=ops.size):iA (gp ops) L=af:=by unfold iA;rw[DR,av c];cases ops[L]?<;>rfl
def iW.trans{a b c}(h:iW a b)(k:iW b c):iW a c:=⟨λd=>(h.fX d).trans (k.fX d),h.defers.trans k.defers,h.cC.trans k.cC,h.round.trans k.round⟩
def iW.symm{a b}(h:iW a b):iW b a:=⟨λc=>(h.fX c).symm,h.defers.symm,h.cC.symm,h.round.symm⟩
def iW.refl(a):iW a a:=⟨λ_=>rfl,O,O,O⟩
def iW.eval{a b}(h:iW a b)(x):a.eval x=b.eval x:=by
 cases x with|tmp c=>exact h.fX c|_=>rfl
def iW.wanted{a b:Env}(h:iW a b)(o:Oper):et ops a o=et ops b o:=by
 unfold et;cases o.guard with
 |none=>rfl|some d=>
  simp only;cases (ops[d.1]?).bind (·.dst) with|none=>rfl|some c=>simp only[h.fX c]
def al9{L:Nat}{x:U}{g ep l:Env}{m p:Heap}{rest:List Nat}(c:bW P G R ops [L] g m=some (.panic x,ep,p))(d:iW l g):∃e2,bW P G R ops (L::rest) l m=some (.panic x,e2,p)/\iW e2 ep:=by
 rw[bW] at c ⊢;cases q:ops[L]? with
 |none=>simp_all|some o=>
  rw[q] at c;simp only at c ⊢;rw[d.wanted];cases n:et ops g o with
  |none=>simp_all|some b=>
   rw[n] at c;cases b with
   |false=>simp[bW] at c|true=>
    simp only at c ⊢;cases f:dF P G R g m o with
    |none=>simp_all|some s=>
     obtain⟨t,e2,r⟩:=s;rw[f] at c;cases t with|ret v=>simp[bW] at c|panic v=>simp only[dt,cL,Xt.panic.injEq] at c;obtain⟨rfl,rfl,rfl⟩:=c;rw[Wu (e2:=l) (λx _=>(d.eval x).symm) d.defers d.cC d.round f];refine⟨_,rfl,?_⟩;have n:=Wv f;rw[n];exact⟨λu=>d.fX u,rfl,rfl,d.round⟩
variable {b:Array Nat}
def ag2(hl:qI ops=V){L:Nat}(hL:L+1=ops.size){e':Env}{h':Heap}(z2:bW P G R (gp ops) (bZ (gp ops).size) e h=J (.normal,e',h'))(z0:Fits P G R (gp ops) e h (Region.before (gp ops)))
 {x:U} {eL ep:Env} {N hp:Heap} (hsL:iW e' eL) (hhL:h'=N) (wT:bW P G R ops [L] eL N=J (.panic x,ep,hp)):∀(fuel t:Nat) (c:Array Bool) (A:Env) (C:Heap),c.size=ops.size->c.getD L ai=ai->
 Inv P G R (gp ops) e h (Region.before (gp ops)) (λj=>c.getD j ai) A C->(bZ ops.size).countP (λj=> !c.getD j ai)<=fuel->
 ∃e2,bW P G R ops (Region.linearise.go .any ops fuel t c []) A C=some (.panic x,e2,hp)/\iW e2 ep:=by
 have avd:=MP ops;intro fuel
 induction fuel with
 |zero=>intro t c A C gC hun z1 f;have:=aab.1 (aaJ.1 f) L (hy.2 M);simp_all|succ fuel ih=>
  intro t c A C gC hun z1 f;have H:∀i,i<ops.size->c.getD i V=c.getD i ai:=by intro i l;have:i<c.size:=(by omega);simp[this]
  simp only[Region.linearise.go];change ∃e2,bW P G R ops (match (Region.ready .any ops c)[t%(Region.ready .any ops c).length]? with
   |some i=>Region.linearise.go .any ops fuel (t/(Region.ready .any ops c).length) (c.setIfInBounds i V) [i]
   |none=>[].reverse) A C=J (.panic x,e2,hp)/\iW e2 ep
  have m:∀i,i∈Region.ready .any ops c↔i<ops.size/\c.getD i ai=ai/\mC (gp ops) (λj=>c.getD j ai) i:=by
   intro i;unfold Region.ready;rw[uA,hy];constructor
   .rintro⟨l,d⟩;rw[bm] at d;obtain⟨tO,n⟩:=d;rw[H i l] at tO;refine⟨l,by simp_all,λo r z g u=>?_⟩;have s:=U0 ops i;rw[r] at s;cases v:ops[i]? with
    |none=>simp_all|some o2=>
     rw[v] at s n;simp only[fk,dt] at s;rw[s] at g;simp only[fk,zO,zC] at n;obtain⟨z3,d,rfl⟩:=Pz g
     grind
   .rintro⟨l,d,hr⟩;refine⟨l,?_⟩;rw[bm];refine⟨by simp_all,?_⟩;have r:ops[i]?=J ops[i]:=jz l;have s:=U0 ops i;rw[r] at s ⊢;cases v:(gp ops)[i]? with
    |none=>simp_all|some o2=>
     rw[v] at s;simp only[fk,dt] at s;simp only[fk,zO,zC];intro z3 d;cases hb:Region.binds .any ops[i].after[z3] with|false=>rfl|true=>simpa using hr _ v _ (by simp_all) hb
  cases l:(Region.ready .any ops c)[t%(Region.ready .any ops c).length]? with
  |none=>
   exfalso;have DE:Region.ready .any ops c=[]:=by
    cases hr:Region.ready .any ops c with
    |nil=>rfl|cons x xs=>
     rw[hr] at l;have S:t%(x::xs).length<(x::xs).length:=jU _ b7
     grind
   have D:∀i,i<ops.size->c.getD i ai=V:=by
    intro i
    induction i using JY with
    |_ i ihi=>
     intro l;cases d:c.getD i ai with
     |true=>rfl|false=>
      have:i∈Region.ready .any ops c:=(m i).2 ⟨l,d,λo r z g u=>by
       have S:=z0.Am i o r z g u
       grind⟩
      simp_all
   grind
  |some i=>
   simp only[];have Z:=(m i).1 (cU l);obtain⟨js,aiG,T⟩:=Z;obtain⟨z4,e2,h2,hs,I'⟩:=next z2 z0 z1 M aiG T
   have X:(λj=>(c.setIfInBounds i V).getD j ai)=dh (λj=>c.getD j ai) i:=by
    funext j;unfold dh;have eC:i<c.size:=(by omega);by_cases d:j=i
    .simp_all
    .rw[aP d];simp[Py,Ne.symm d]
   rw[linearise_go_acc,aax,aaB];by_cases hiL:i=L
   .subst hiL;obtain⟨q1,q2⟩:=Xo hL hs;subst q1;subst q2;have D:∀j,j<(gp ops).size->dh (λj=>c.getD j ai) i j=V:=by
     intro j Y;unfold dh;by_cases d:j=i
     .simp_all
     .rw[aP d];have q:j+1<ops.size:=(by omega);have E:=akH hl q;have:ops.size - 1=i:=(by omega);rw[this] at E;have r:(gp ops)[i]?=J (gp ops)[i]:=jz M;obtain⟨z,g,u,n⟩:=z0.bits i j _ r M E;have MH:=T _ r z g u;have S:=z0.Am i _ r z g u;rcases n with rfl|n
      .omega
      .exact z1.closed j z.on M M MH n
    obtain⟨y,rfl⟩:=Vd z2 I' D;rw[Xn hL] at y;subst hhL;exact al9 wT (y.trans hsL)
   .have q:i+1<ops.size:=(by omega);rw[akK hl q] at hs;rw[akI q] at I';rw[WB hs];refine ih (t/(Region.ready .any ops c).length) (c.setIfInBounds i V) (e2.put (iA ops i) z4) h2 (by simp_all) ?_ (by simp_all) (by
     refine zM.1 (l_ (Sf (a:=i) (p:=λj=> !c.getD j ai) ?_ (hy.2 js) (by simp_all) ?_) f)
     .intro j _ Y;have this:(c.setIfInBounds i V).getD j ai=dh (λj=>c.getD j ai) i j:=congrFun X j;rw[this] at Y;unfold dh at Y;simp_all
     simp_all)
    simp_all
def afx(l:qI ops=V)(s:jZ P G R (gp ops) e h=V)(r:yM (bW P G R (gp ops) (bZ (gp ops).size) e h)=V){x:U}{ep:Env}{m:Heap}(c:bW P G R ops (bZ ops.size) e h=J (.panic x,ep,m))(t:Nat):
 ∃e2,bW P G R ops (Region.linearise .any ops t) e h=some (.panic x,e2,m)/\iW e2 ep:=by
 have u:0<ops.size:=by
  rcases Nat.eq_zero_or_pos ops.size with q|q
  .rw[q] at c;simp[bW] at c
  .exact q
 obtain⟨A,d⟩:∃A,A+1=ops.size:=⟨ops.size - 1,by omega⟩;obtain⟨e',h',p⟩:∃e' h',bW P G R (gp ops) (bZ (gp ops).size) e h=J (.normal,e',h'):=by
  unfold yM at r
  grind
 have g:=p;rw[MP,<-d,jT] at g;obtain⟨E,C,v,y⟩:=Bl.1 g;obtain⟨N,D,H,z,f⟩:=nm.1 y;obtain⟨rfl,rfl⟩:=Xo d z;rw[Xn d] at f;simp only[bW,dt,cL,true_and] at f;obtain⟨rfl,rfl⟩:=f;have n:=v;rw[VX l (λi L=>by grind)] at n;rw[<-d,jT,NP n] at c;unfold Region.linearise;refine ag2 l d p (th s) (iW.refl _) rfl c ops.size t _ e h b7 ?_ ?_ ?_
 .rw[E',Px]
  grind
 .have:(λj=>(xq ops.size ai).getD j ai)=λ_=>ai:=by
   funext j;rw[E'];rw[Px]
   grind
  rw[this];exact Hn p
 .exact eS aac b7
end
end Go.AE
end
section
namespace Go.AE
section
variable {P:bj} {G:Nat->Option (List U)} {R:Rec} {ops:Array Oper} {e:Env} {h:Heap} {k:Nat}
inductive aux (ops:Array Oper) (k i:Nat):Prop
 |self (h:i=k)
 |ahead (h1:AT ops k i=ai) (h2:Th ops k i=V) (h3:i<k) (h4:Ord (Region.before (cut ops k)) i k)
 |beside (h1:AT ops k i=ai) (h2:Th ops k i=V) (h3:adL ops i=V) (h4:nB ops i k=V)
 |behind (h1:k<i) (h2:AT ops k i=V) (h3:Ord (Region.before (cut ops k)) k i)
def Fits.lt{b:Array Nat}(t:Fits P G R ops e h b):∀(j i:Nat),j<ops.size->i<ops.size->Ord b i j->i<j:=by
 intro j
 induction j using JY with
 |_ j s=>
  intro i m l p;have n:ops[j]?=J ops[j]:=jz m;obtain⟨d,g,f,r⟩:=t.bits j i _ n l p;have c:=t.Am j _ n d g f;rcases r with q|q
  .omega
  .have:=s d.on c i (nW c m) l q;omega
structure auw(ops:Array Oper)(k:Nat)(a b:Env):Prop where
 fX:∀t,(∀i,i<ops.size->afs ops k i≠J t)->a.get t=b.get t
 defers:a.defers=b.defers
 cC:a.cC=b.cC
 round:a.round=b.round
end
end Go.AE
end
section
namespace Go.AE
open Go.RowKit (Below)
section
variable {P:bj} {G:Nat->Option (List U)} {w0:bO} {R:Rec}
def Steps.tail{m f d:Machine}(h:step P m=.next f)(g:Steps P m d)(n:m≠d):Steps P f d:=by
 obtain⟨l,c⟩:=g;cases l with|zero=>simp[runN]at c;simp_all|succ l=>simp only[runN,h]at c;exact⟨l,c⟩
def Ht{f c}{cs d}{w w'}(h:lone f cs w=lone c d w'):f=c:=by unfold lone at h;simp_all
def mo.swap{K:aW}{m q m':Machine}{B:ex}{k:List Item}{c:Code}{cs p:List ex}{x:Xt}{a a0:Act}{w t:bO}(v:∀id,c≠ .exit id)(u:c≠ .ret)(l:m=lone (B.atR a0 (.code c::k)) p t)
 (g:step P m=.next q) (s:step P m'=.next q) (h:mo P K m B k cs x a w):mo P K m' B k cs x a w:=by
 refine mo.of_steps (.one s) ?_;cases x with
 |normal=>refine Steps.tail g h ?_;rw[l];intro d;have:=congrArg Frame.todo (Ht d);simp only[Frame.atR]at this;simp_all|exit id=>obtain⟨r,n,f⟩:=h;refine⟨r,n,Steps.tail g f ?_⟩;rw[l];intro d;have:=congrArg Frame.todo (Ht d);simp only[Frame.atR,P2,Item.code.injEq]at this;simp_all
 |ret=>obtain⟨r,f⟩:=h;refine⟨r,Steps.tail g f ?_⟩;rw[l];intro d;have:=congrArg Frame.todo (Ht d);simp only[Frame.atR,P2,Item.code.injEq]at this;simp_all
 |panic x=>obtain⟨r,y,n,f⟩:=h;refine⟨r,y,n,Steps.tail g f ?_⟩;rw[l];intro d;have:=congrArg Frame.mode (Ht d);simp[Frame.atR]at this
def Left.refl{K:aW}{w:bO}{a:Act}{B:ex}{f:List Nat}{c cs:List ex}{k:List Item}{m:Machine}{d:Xt}{e:Env}{h:Heap}(n:lX P K e a B f)(g:CS K B.kind c e.cC cs)(q:iX P G w0 K h w)(l:mo P K m B k cs d a w):
 Left P G w0 K f B c m k a.tmps.size d e h K w a cs f:=
 ⟨.refl K,q,n,g,O,λ_ p=>.inl p,l⟩
def Left.of_steps{K l:aW}{w':bO}{p:Act}{B:ex}{r f:List Nat}{c d:List ex}{k:List Item}{m q:Machine}{g:Xt}{e':Env}{h':Heap}{n:Nat}(s:Steps P m q)(L:Left P G w0 K r B c q k n g e' h' l w' p d f):
 Left P G w0 K r B c m k n g e' h' l w' p d f:=
 ⟨L.le,L.oH,L.frame,L.cs,L.size,L.marks,L.arr.of_steps s⟩
def WA(hn:zR P)(hR:sK P G w0 R){ops:Array Oper}:∀(l:List Nat) (e:Env) (h:Heap) (q:Xt) (e':Env) (h':Heap),bW P G R ops l e h=J (q,e',h')->
 ∀(K:aW) (w:bO) (a:Act) (B:ex) (k:List Item) (d cs:List ex) (m:List Nat),lX P K e a B m->CS K B.kind d e.cC cs->iX P G w0 K h w->Bm a.tmps.size ops=V->
 ∃r w' s f,Left P G w0 K m B d (lone (B.atR a (.inRegion ops l::k)) cs w) k a.tmps.size q e' h' r w' s f m:=by
 intro l
 induction l with
 |nil=>intro e h q e' h' c K w a B k d cs m t n z g;simp only[bW,dt,cL]at c;obtain⟨rfl,rfl,rfl⟩:=c;exact⟨K,w,a,cs,.refl t n z (.one stepR_region_end)⟩
 |cons i rest ih=>
  intro e h q e' h' c K w a B k d cs m t n z g;simp only[bW]at c;cases y:ops[i]? with
  |none=>simp_all|some o=>
   rw[y]at c;simp only at c;have H:=Wz g y;cases A:et ops e o with
   |none=>simp_all|some b=>
    rw[A]at c;have hwm:=atO t.fX g A;cases b with
    |false=>simp only at c;have p:=stepR_op_skip (P:=P) (b:=B) (a:=a) (k:=k) (cs:=cs) (w:=w) (ops:=ops) (i:=i) (rest:=rest) (by simp_all);have hb:(ops[i]?).bind (·.dst)=o.dst:=(by rw[y];rfl);rw[hb]at p;obtain⟨r,w',s,f,x⟩:=ih _ _ _ _ _ c K w (a.put o.dst undef) B k d cs m (t.put H (.tuple [] #[] .nil)) (by cases o.dst<;>exact n) z (by rw[H7];omega);rw[H7]at x;exact⟨r,w',s,f,.of_steps (.one p) x⟩
    |true=>
     simp only at c;cases D:dF P G R e h o with
     |none=>simp_all|some z3=>
      obtain⟨z0,e1,h1⟩:=z3;rw[D]at c;obtain⟨X,w1,Y,C,E,s1,f1,Z,T,u⟩:=alF (i:=i) (rest:=rest) hn hR D t n z y hwm k;cases z0 with
      |ret z4=>obtain⟨z2,N,v⟩:=u;simp only at c;obtain⟨r,w',s,f,x⟩:=ih _ _ _ _ _ c X w1 (Y.put o.dst z2) B k d C m (f1.put (by simp_all) N) (by cases o.dst<;>exact Z) s1 (by rw[H7,T];omega);rw[H7,T]at x;refine⟨r,w',s,f,E.trans x.le,x.oH,x.frame,x.cs,x.size,λz0 L=>.inl L,x.arr.of_steps v⟩
      |panic z4=>obtain⟨z2,S,N,v⟩:=u;simp only[dt,cL]at c;obtain⟨rfl,rfl,rfl⟩:=c;exact⟨X,w1,Y,C,E,s1,f1,Z,T,λz0 L=>.inl L,S,z2,N,v⟩
def lX.same{K:aW}{e e2:Env}{a:Act}{B:ex}{f:List Nat}(c:lX P K e a B f)(d:iW e e2):lX P K e2 a B f:=by
 refine⟨λg=>?_,d.defers ▸ c.defers,?_,c.fn⟩
 .have:=d.fX g;unfold Env.get at this;rw[<-this];exact c.fX g
 .have:=c.round;rw[d.round,d.defers]at this;omega
def akY{n:Nat}{ps:Array Tmp}(h:(ps.all λp=>decide (p<n))=V):∀p∈ps.toList,p<n:=by intro p c;rw[E_]at h;simp_all
end
end Go.AE
end
section
namespace Go.AE
section
variable {P:bj} {G:Nat->Option (List U)} {R:Rec} {ops:Array Oper} {i:Nat}
end
end Go.AE
end
section
namespace Go.AE
section
variable {K:aW} {G:Nat->Option (List U)} {ok:aQ->Nat->Code->Bool} {w0 w:bO} {h:Heap}
end
end Go.AE
end
section
namespace Go.AE
open Go.RowKit (Below)
section
variable {P:bj} {G:Nat->Option (List U)} {w0:bO} {R:Rec}
structure PC(d:Tmp)(e eh:Env):Prop where
 fX:∀t,t≠d->e.get t=eh.get t
 defers:e.defers=eh.defers
 cC:e.cC=eh.cC
 round:e.round=eh.round
def PC.eval{d}{e c}(b:PC d e c){x}(f:x≠ .tmp d):e.eval x=c.eval x:=by
 cases x with|tmp l=>exact b.fX l λg=>f (by rw[g])|_=>rfl
end
end Go.AE
end
section
namespace Go.AE
section
variable {ops:Array Oper} {i:Nat}
def ready_mono{n c:Nat->Bool}{k:Nat}(m:mC ops n k)(h:∀j,n j=V->c j=V):mC ops c k:=λo l f d g=>h _ (m o l f d g)
def NN(f)(a b):dh (dh f a) b=dh (dh f b) a:=by funext j;unfold dh;by_cases c:j=a<;>by_cases d:j=b<;>simp[c,d]
structure auy(ops:Array Oper)(i:Nat)(d2:Tmp):Prop where
 lt:i+1<ops.size
 no:FY ops i (i+1)=ai
 all:∀k,k<ops.size->k≠i->k≠i+1->FY ops (i+1) k=V∨FY ops k i=V∨(akA ops d2 k=V/\FY ops k (i+1)=ai)
variable {d2:Tmp}
variable {P:bj} {G:Nat->Option (List U)} {w0:bO} {R:Rec}
end
end Go.AE
end
section
namespace Go.AE
section
variable {ops:Array Oper} {i j:Nat} {P:bj} {G:Nat->Option (List U)} {R:Rec}
def oX:(fG ops i j).size=ops.size:=by simp[fG]
def An(k:Nat):(fG ops i j)[k]?=(ops[k]?).map λo=>if k=j then {o with after:=o.after.push {on:=i,ground:=.data}} else o:=by unfold fG;simp_all
def Su(k:Nat):((fG ops i j)[k]?).bind (·.dst)=(ops[k]?).bind (·.dst):=by
 rw[An]
 grind
def atN(e:Env)(o:Oper):et (fG ops i j) e o=et ops e o:=by
 unfold et;cases o.guard with|none=>rfl|some c=>simp only[Su]
def yY:∀(L:List Nat) (e:Env) (h:Heap),bW P G R (fG ops i j) L e h=bW P G R ops L e h:=by
 intro L
 induction L with
 |nil=>intro e h;rfl|cons k L l=>
  intro e h;unfold bW;rw[An];cases g:ops[k]? with
  |none=>rfl|some o=>
   simp only[fk];have f:∀c:Oper,c.op=o.op->c.type=o.type->c.guard=o.guard->c.dst=o.dst->(et (fG ops i j) e c=et ops e o/\dF P G R e h c=dF P G R e h o):=by intro c m n d p;refine⟨by rw[atN];unfold et;rw[d],?_⟩;unfold dF;simp_all
   grind
def vA{p:Nat->Bool}{k:Nat}(m:mC ops p k)(s:k=j->p i=V):mC (fG ops i j) p k:=by
 intro o c g d l;rw[An]at c;cases f:ops[k]? with
 |none=>simp_all|some n=>
  rw[f]at c;simp only[fk,dt]at c;split at c
  .rename_i r;subst c;rcases Array.mem_push.1 d with q|q
   .exact m n f g q l
   simp_all
  .subst c;exact m n f g d l
def akz:∀(L:List Nat) (c:Nat->Bool),c i=V->mw ops c L->mw (fG ops i j) c L:=by
 intro L
 induction L with
 |nil=>intro c _ h k d;exact h k (by rw[oX]at d;exact d)
 |cons k L p=>intro c n h;obtain⟨f,g,l,m⟩:=h;refine⟨by rw[oX];exact f,g,vA l λ_=>n,p _ ?_ m⟩;unfold dh;simp_all
def acu(h:vT (fG ops i j)):vT ops:=by
 intro k o g c l d;have f:(fG ops i j)[k]?=J (if k=j then {o with after:=o.after.push {on:=i,ground:=.data}} else o):=by rw[An,g];rfl
 refine h k _ f c ?_ d
 grind
def zF(ops:Array Oper)(d:Nat->Bool):Prop:=∀(k:Nat) (o:Oper),ops[k]?=J o->d k=V->∀c∈o.after,Region.binds .any c=V->d c.on=V
def zF.one{n:Nat->Bool}{k:Nat}(c:zF ops n)(p:mC ops n k):zF ops (dh n k):=by
 intro q o m f g d l;unfold dh at f ⊢;split
 .rfl
 .split at f
  .rename_i r;subst r;exact p o m g d l
  .exact c q o m f g d l
def acM{z:Nat->Bool}(p:xH ops (Region.before ops)=V)(c:zF ops z){k:Nat}:∀(m:Nat),m<ops.size->mC ops z m->((Region.before ops).getD m 0).testBit k=V->k<ops.size->z k=V:=by
 intro m
 induction m using JY with
 |_ m L=>
  intro v E D t;unfold xH at p;rw[eF]at p;have:=p m (hy.2 v);have x:ops[m]?=J ops[m]:=jz v;rw[x]at this;simp only[bm,eF,E_]at this;obtain⟨A,C⟩:=this;have n:=C k (hy.2 t);rw[D]at n;simp only[ZK,Fc,Array.any_eq_true',bm,nU]at n;obtain⟨d,l,g,f⟩:=n;have H:=E _ x d l g;rcases f with f|f
  .simp_all
  .have u:d.on<m:=(by have:=A d l;rw[g]at this;simpa using this);exact L d.on u M (λo y r q s=>c _ o y H r q s) f t
def anZ{n:Nat}(z:vT ops)(E:n+1=ops.size):∀(L:List Nat) (c:Nat->Bool),c n=ai->c i=V->mC ops c n->mw ops (dh c n) L->mw (fG ops i n) c (L++[n]):=by
 intro L
 induction L with
 |nil=>intro c m q g h;refine⟨by rw[oX];omega,m,vA g λ_=>q,λk r=>?_⟩;exact h k (by rw[oX]at r;exact r)
 |cons k L A=>
  intro c m q g h;obtain⟨v,d,x,y⟩:=h;unfold dh at d;split at d
  .cases d
  .rename_i s;have u:mC ops c k:=by
    intro o t l f p;have:=x o t l f p;unfold dh at this;split at this
    .rename_i C;have:=z k o t l f p;omega
    .omega
   refine⟨by rw[oX];exact v,d,vA u (λC=>absurd C s),A (dh c k) ?_ ?_ ?_ ?_⟩
   .unfold dh;grind
   .unfold dh;simp_all
   .exact ready_mono g λj D=>by unfold dh;simp_all
   .rw[NN];exact y
def an0{n:Nat}(A:vT ops)(hn:n+1=ops.size)(js:i<n):∀(L:List Nat) (d:Nat->Bool),d n=ai->d i=ai->mC ops d n->mw ops (dh d n) L->
 ∃g l,L=g++i::l/\(∀k∈g,k<ops.size/\k≠i/\k≠n/\d k=ai)/\(∀k∈l,k<ops.size/\k≠i/\k≠n/\d k=ai)/\mw (fG ops i n) d (g++i::(l++[n])):=by
 intro L
 induction L with
 |nil=>intro d Z D N h;have:=h i M;unfold dh at this;simp_all|cons k L ih=>
  intro d Z D N h;obtain⟨z,m,X,p⟩:=h;unfold dh at m;split at m
  .cases m
  .rename_i r;have s:mC ops d k:=by
    intro o H y q C;have:=X o H y q C;unfold dh at this;split at this
    .rename_i x;have:=A k o H y q C;omega
    .omega
   have t:mC ops (dh d k) n:=ready_mono N λj hj=>(by unfold dh;simp_all);by_cases E:k=i
   .subst E;have u:∀(L:List Nat) (d:Nat->Bool),mw ops d L->∀f∈L,f<ops.size/\d f=ai:=by
     intro L
     induction L with
     |nil=>simp_all|cons a L S=>
      intro d Y f c;obtain⟨q1,q2,q3,q4⟩:=Y;rcases gL.1 c with rfl|c
      .simp_all
      .obtain⟨p1,v⟩:=S _ q4 f c;unfold dh at v;simp_all
    refine⟨[],L,O,λf c=>(nomatch c),λf c=>?_,?_⟩
    .obtain⟨p1,v⟩:=u L _ p f c;unfold dh at v;simp_all
    .refine⟨by rw[oX];exact z,D,vA s (λx=>absurd x r),?_⟩;refine anZ A hn L _ ?_ ?_ t ?_
     .unfold dh;grind
     .unfold dh;simp_all
     .rw[NN];exact p
   .rw[NN]at p;obtain⟨g,l,e1,e2,e3,T⟩:=ih (dh d k) (by unfold dh;grind) (by unfold dh;grind) t p;have r_:∀f,dh d k f=ai->d f=ai:=λf x=>(by unfold dh at x;simp_all);refine⟨k::g,l,by simp_all,λf c=>?_,λf c=>?_,by rw[oX];exact z,m,vA s (λx=>absurd x r),T⟩<;>grind
def al5{n:Nat}(S:vT ops)(X:n+1=ops.size)(A:i<n):∀(L:List Nat) (m:Nat->Bool),m n=ai->m i=ai->zF ops m->mw ops m L->
 mw (fG ops i n) m L∨∃g c d f,L=g++(n::(c++i::d))/\f i=ai/\mC ops f n/\zF ops f/\(∀k∈c,k<ops.size/\k≠i/\k≠n/\f k=ai)/\(∀k∈d,k<ops.size/\k≠i/\k≠n/\f k=ai)/\mw (fG ops i n) m (g++(c++i::(d++[n]))):=by
 intro L
 induction L with
 |nil=>intro m q r _ h;have:=h i M;simp_all|cons k L Y=>
  intro m T z y h;obtain⟨q,r,l,v⟩:=h;by_cases C:k=i
  .subst C;exact .inl ⟨by rw[oX];exact q,r,vA l (λx=>by omega),akz L _ (by unfold dh;simp_all) v⟩
  .by_cases p:k=n
   .subst p;obtain⟨c,d,E,s,t,u⟩:=an0 S X A L m T z l v;exact .inr ⟨[],c,d,m,by simp_all,z,l,y,s,t,u⟩
   .rcases Y (dh m k) (by unfold dh;grind) (by unfold dh;grind) (y.one l) v with x|⟨g,c,d,f,E,D,s,t,u,H,N⟩
    .exact .inl ⟨by rw[oX];exact q,r,vA l (λx=>absurd x p),x⟩
    .exact .inr ⟨k::g,c,d,f,by simp_all,D,s,t,u,H,by rw[oX];exact q,r,vA l (λx=>absurd x p),N⟩
def Heap.oT(h:Heap)(c:Nat)(xs:List U):Heap:={h with boxes:=h.boxes.set c xs}
def Rn{h:Heap}{a c}{xs}(d:a≠c):(h.oT c xs).boxes[a]?=h.boxes[a]?:=by
 unfold Heap.oT
 grind
variable {e e':Env} {h h':Heap} {b:Array Nat}
def VT(C:bW P G R ops (bZ ops.size) e h=J (.normal,e',h'))(z:Fits P G R ops e h b):∀(A B:List Nat) (l:Nat->Bool) (c:Env) (d:Heap),Inv P G R ops e h b l c d->mw ops l (A++B)->
 ∃S2 e2 g,bW P G R ops A c d=J (.normal,e2,g)/\Inv P G R ops e h b S2 e2 g/\mw ops S2 B:=by
 intro A
 induction A with
 |nil=>intro B l c d n f;exact⟨l,c,d,O,n,f⟩|cons k A y=>
  intro B l c d n f;obtain⟨t,x,u,f⟩:=f;obtain⟨D,e2,g,v,p⟩:=next C z n t x u
  obtain⟨S2,r,s,m,q,L3⟩:=y B _ _ _ p f;exact⟨S2,r,s,nm.2 ⟨D,e2,g,v,m⟩,q,L3⟩
def Vc(T:bW P G R ops (bZ ops.size) e h=J (.normal,e',h'))(C:Fits P G R ops e h b){t:Nat->Bool}{u:Env}{E:Heap}(D:Inv P G R ops e h b t u E){k:Nat}(c:k<ops.size)
 (X:t k=ai) (H:mC ops t k):∀o,ops[k]?=J o->Alike ops (cI P G R ops e h k).1 u o:=by
 have g:ops[k]?=J ops[k]:=jz c;have ahead:∀i,i<ops.size->Ord b i k->t i=V:=by
  intro i v x;obtain⟨s,r,q,n⟩:=C.bits k i _ g v x;have y:=H _ g s r q;have m:=C.Am k _ g s r q;rcases n with rfl|n
  .exact y
  .exact D.closed i s.on v (nW m c) y n
 intro o f S z;rw[g]at f;injection f with f;subst f;rw[D.fX S,Ph T S k (mz c),I_ (k:=k) ops.size (mz c)]
 .refine val_congr k λw d l=>?_;have p:ops[w]?=J ops[w]:=jz (nW d c);rw[xT p]at l;exact(ahead w (nW d c) (C.looks d c p g (.inl ⟨l,z⟩))).symm
 .intro w N d l;rcases dp k w with m|L
  .cases n:t w with|false=>rfl|true=>have p:ops[w]?=J ops[w]:=jz d;rw[xT p]at l;have:=D.closed k w c d n (C.looks m d g p (.inr ⟨l,z⟩));simp_all
  grind
def BW{k:Nat}{x:U}{q:Env}{l:Heap}(m:u' ops k=V)(st:gJ P G R ops k e h=J (x,q,l)):
 x=.tuple []/\q=e/\iA ops k=af/\∃(o:Oper) (t:aC) (a v:bP) (c off n:Nat) (cs f:List U),ops[k]?=J o/\o.op=.store t a v/\o.guard=af/\e.eval a=.ptr (.box c) off/\(e.eval v).bG=J cs/\cB P t=J n/\h.boxes[c]?=J f/\F cs=n/\off+n<=F f/\l=h.oT c (dC f off cs):=by
 unfold u' at m;unfold gJ at st;cases s:ops[k]? with
 |none=>simp_all|some o=>
  rw[s]at m st;simp only[bm,Option.isNone_iff_eq_none]at m;obtain⟨u,y,H⟩:=m;cases g:o.op<;>rw[g]at u<;>try (cases u;done)
  rename_i t a v;have E:et ops e o=J V:=by unfold et;rw[y]
  simp only[E]at st;have r:dF P G R e h o=(di P G e.eval h (.store t a v)).map λ(x,h)=>(.ret x,e,h):=by unfold dF;rw[g]
  rw[r]at st;simp only[di]at st;cases d:bY P h t (e.eval a) (e.eval v) with
  |none=>simp_all|some L=>
   rw[d]at st;simp only[fk,dt,cL]at st;obtain⟨rfl,rfl,rfl⟩:=st;unfold bY at d;split at d
   .rename_i c off cs n l z C;split at d
    .rename_i f hold;split at d
     .rename_i p;injection d with d;exact⟨O,O,by simp[iA,s,H],o,t,a,v,c,off,n,cs,f,O,g,y,l,z,C,hold,p.1,p.2,d.symm⟩
     simp_all
    simp_all
   simp_all
def O'{k:Nat}{o:Oper}{t:aC}{a v:bP}{c off n:Nat}{cs d:List U}(s:ops[k]?=J o)(l:o.op=.store t a v)(q:o.guard=af)(m:e.eval a=.ptr (.box c) off)(u:(e.eval v).bG=J cs)(y:cB P t=J n)(p:h.boxes[c]?=J d)(r:F cs=n)(g:off+n<=F d):
 gJ P G R ops k e h=J (.tuple [],e,h.oT c (dC d off cs)):=by
 unfold gJ;simp only[s];have x:et ops e o=J V:=by unfold et;rw[q]
 simp only[x];have f:dF P G R e h o=(di P G e.eval h (.store t a v)).map λ(z,h)=>(.ret z,e,h):=by unfold dF;rw[l]
 rw[f];simp only[di];have:bY P h t (e.eval a) (e.eval v)=J (h.oT c (dC d off cs)):=by unfold bY;simp only[m,u,y,p];rw[av ⟨r,g⟩];rfl
 simp_all
def V_{n:Nat}(X:u' ops n=V):∀(m:List Nat) {e e':Env} {h h':Heap},(∀k∈m,k<ops.size/\nD ops k=.pure/\nB ops k n=V)->∀rest,bW P G R ops (m++n::rest) e h=J (.normal,e',h')->bW P G R ops (n::(m++rest)) e h=J (.normal,e',h'):=by
 intro m
 induction m with
 |nil=>simp_all|cons k m ih=>
  intro e e' h h' v rest c;rw[eu,nm]at c;obtain⟨z0,d,u,hs,c⟩:=c;obtain⟨S,Y,f⟩:=v k gx;have c:=ih (λz1 T=>v z1 (gj _ T)) rest c;obtain⟨rfl,rfl,q⟩:=O8 Y hs;rw[nm]at c ⊢;obtain⟨x2,e2,h2,x,c⟩:=c;obtain⟨rfl,rfl,N,o,z2,a,z3,z4,off,z1,cs,fD,r,p,C,s,t,D,E,H,L,rfl⟩:=BW X x;have g:∀A∈o.op.operands,(d.put (iA ops k) z0).eval A=d.eval A:=by
   intro A hz;cases A with
   |tmp z=>
    show(d.put (iA ops k) z0).get z=d.get z;rw[N_];split
    .rename_i Z;exfalso;unfold nB at f;have l:ops[k]?=J ops[k]:=jz S;rw[l,r]at f;simp only[bm]at f;rw[xT l]at Z;have y:z∈o.looksAt ops:=(by unfold Oper.looksAt;exact JK _ (aas.2 ⟨.tmp z,by simp_all,O⟩));have u:=f.1;unfold Oper.apart at u;simp_all
    .rfl
   |_=>rfl
  rw[g a (by rw[p];simp[Op.operands])]at s;rw[g z3 (by rw[p];simp[Op.operands])]at t;refine⟨_,d,_,O' r p C s t D E H L,?_⟩;rw[N]at c ⊢;show bW P G R ops (k::(m++rest)) d _=_;rw[nm];exact⟨z0,d,_,q d _ (λo ho z2 ht=>rfl),c⟩
def asJ{n:Nat}(hi:u' ops i=V)(hn:u' ops n=V){e e':Env}{h h':Heap}{bi bn:Nat}(l:oD ops i e=J bi)(m:oD ops n e=J bn)(q:bi≠bn)(rest:List Nat)(c:bW P G R ops (i::n::rest) e h=J (.normal,e',h')):bW P G R ops (n::i::rest) e h=J (.normal,e',h'):=by
 rw[nm]at c;obtain⟨z5,S,hh1,hs,c⟩:=c;obtain⟨rfl,rfl,z,o,z3,a,z4,z0,r,z2,cs,g,u,v,T,x,X,Y,Z,g8,g9,rfl⟩:=BW hi hs;rw[z]at c;replace c:bW P G R ops (n::rest) S (h.oT z0 (dC g r cs))=J (.normal,e',h'):=c;rw[nm]at c;obtain⟨x2,t,tK,A,c⟩:=c;obtain⟨rfl,rfl,s,o2,t2,a2,v2,N,f,m2,p,d,C,D,k3,E,k5,k6,k7,k8,k9,rfl⟩:=BW hn A;have q1:bi=z0:=by unfold oD at l;rw[u]at l;simp only[v,x]at l;injection l with l;exact l.symm
 have q2:bn=N:=by unfold oD at m;rw[C]at m;simp only[D,E]at m;injection m with m;exact m.symm
 subst q1;subst q2;have H:h.boxes[bn]?=J d:=by rw[<-k7];exact(Rn (λz1=>q z1.symm)).symm
 have y:(h.oT bn (dC d f p)).boxes[bi]?=J g:=by rw[Rn q];exact Z
 rw[nm];refine⟨_,t,_,O' C D k3 E k5 k6 H k8 k9,?_⟩;rw[s];show bW P G R ops (i::rest) t _=_;rw[nm];refine⟨_,t,_,O' u v T x X Y y g8 g9,?_⟩;rw[z];rw[s]at c;have L:(h.oT bn (dC d f p)).oT bi (dC g r cs)=(h.oT bi (dC g r cs)).oT bn (dC d f p):=by unfold Heap.oT;simp only[List.set_comm _ _ q]
 simp_all
def afw(H:Bp ops i=V)(n:px P G R ops e h i=V)(g:jZ P G R (fG ops i (ops.size-1)) e h=V)(he:bW P G R ops (bZ ops.size) e h=J (.normal,e',h'))(tp:Nat):
 ∃e2,bW P G R ops (Region.linearise .any ops tp) e h=J (.normal,e2,h')/\iW e2 e':=by
 unfold Bp at H;simp only[bm,decide_eq_true_eq,eF,hy,nU]at H;obtain⟨k0,k1,t,Y,k4⟩:=H;obtain⟨c,Mh⟩:∃c,ops.size-1=c:=⟨_,O⟩;have hn:c+1=ops.size:=by omega
 simp only[Mh]at g Y k4;have f:bW P G R (fG ops i c) (bZ (fG ops i c).size) e h=J (.normal,e',h'):=by rw[oX,yY];exact he
 have C:=acu (SX g);have m:=VR C tp;rcases al5 (i:=i) C hn M _ (λ_=>ai) O O (λk o E hS=>by cases hS) m with zc|⟨pre,M1,l,S',q1,q7,q2,q3,q4,q5,q6⟩
 .obtain⟨e2,yp,p⟩:=Nu f (th g) _ _ _ _ (Hn f) zc;rw[yY]at yp;simp_all
 .have A:∀k,k<ops.size/\k≠i/\k≠c/\S' k=ai->k<ops.size/\nD ops k=.pure/\nB ops k c=V:=by
   rintro k ⟨p1,p2,p3,p4⟩;rcases k4 k M with w|w|w
   .simp_all
   .have:=acM k0 q3 c M q2 w p1;simp_all
   .refine⟨p1,?_,w.2⟩;have w1:=w.1;unfold Xb at w1;cases E:ops[k]? with|none=>simp_all|some o=>rw[E]at w1;simpa [nD,E] using w1
  rw[<-iE]at q6;obtain⟨S2,em,d,ev1,I1,L1⟩:=VT f (th g) (pre++M1) (i::(l++[c])) _ _ _ (Hn f) q6;obtain⟨l1,l2,l3,l4⟩:=L1;have al1:=Vc f (th g) I1 l1 l2 l3;obtain⟨z0,e2,h2,hs,v⟩:=next f (th g) I1 l1 l2 l3
  have G1:gJ P G R ops i em d=J (z0,e2,h2):=by have:=yY (P:=P) (G:=G) (R:=R) (ops:=ops) (i:=i) (j:=c) [i] em d;have h3:bW P G R (fG ops i c) [i] em d=J (.normal,e2.put (iA (fG ops i c) i) z0,h2):=nm.2 ⟨z0,e2,h2,hs,O⟩;rw[this]at h3;obtain⟨x',e3,h4,G7,L⟩:=nm.1 h3;obtain⟨rfl,rfl,pT,o3,t3,a3,v3,c3,off3,m3,cs3,old3,z1,z2,z3,z4,z5,z6,z7,z8,z9,rfl⟩:=BW t G7;rw[pT]at L;simp only[bW,dt,cL,true_and]at L;obtain⟨r1,r2⟩:=L;have hx:z0=.tuple []/\e2=e3:=(by have hgE:(fG ops i c)[i]?=J o3:=(by rw[An,z1,fk,aP M]);have hSt:u' (fG ops i c) i=V:=(by unfold u' at t ⊢;rw[hgE];rw[z1]at t;exact t);obtain⟨y1,y2,-⟩:=BW hSt hs;exact⟨y1,y2⟩);rw[hx.1,hx.2,<-r2];exact G7
  obtain⟨rfl,rfl,hd,o,zd,a,ze,zb,off,u,cs,fD,g1,g2,g3,g4,g5,g6,g7,g8,g9,rfl⟩:=BW t G1;have hdE:iA (fG ops i c) i=af:=by unfold iA at hd ⊢;rw[Su];exact hd
  rw[hdE]at v;replace v:Inv P G R (fG ops i c) e h (Region.before (fG ops i c)) (dh S2 i) e2 (d.oT zb (dC fD off cs)):=v;obtain⟨Sn,en,hhn,ev2,I3,L3⟩:=VT f (th g) l [c] _ _ _ v l4;obtain⟨T,D,p⟩:=Nu f (th g) _ _ _ _ I3 L3;have aik:S2 c=ai/\mC ops S2 c:=by
   refine⟨?_,?_⟩
   .have:∀(x:List Nat) (Z:Nat->Bool),mw (fG ops i c) Z x->∀u∈x,Z u=ai:=by
     intro x
     induction x with
     |nil=>simp_all|cons a x S=>
      intro Z m u d;obtain⟨u1,u2,u3,u4⟩:=m;rcases gL.1 d with rfl|d
      .exact u2
      .have p2:=S _ u4 u d;unfold dh at p2;simp_all
    have:=this _ _ l4 c b7;unfold dh at this;simp_all
   .intro o' Uu s yo X;have hS:S' s.on=V:=q2 o' Uu s yo X;have dj:s.on<c:=C c o' Uu s yo X;cases hq:S2 s.on with
    |true=>rfl|false=>
     exfalso;have mem:∀(x:List Nat) (Z:Nat->Bool),mw (fG ops i c) Z x->∀u,u<ops.size->Z u=ai->u∈x:=by
      intro x
      induction x with
      |nil=>intro Z m u d hSm;have:=m u (by rw[oX];exact d);simp_all
      |cons a x S=>
       intro Z m u d hSm;obtain⟨u1,u2,u3,u4⟩:=m;by_cases hma:u=a
       .simp_all
       .exact gj _ (S _ u4 u d (by unfold dh;simp_all))
     have nK:=mem (i::(l++[c])) S2 ⟨l1,l2,l3,l4⟩ s.on M hq
     grind
  have hrn:mC (fG ops i c) (dh S2 i) c:=vA (ready_mono aik.2 λj hj=>by unfold dh;simp_all) λ_=>by unfold dh;simp_all
  have al2:=Vc f (th g) v (k:=c) (by rw[oX];omega) (by unfold dh;grind) hrn;have stE:∀k,cI P G R (fG ops i c) e h k=cI P G R ops e h k:=λk=>by unfold cI;rw[yY]
  have put_congr:∀(k:Nat) (q r:Env),(∀o,(fG ops i c)[k]?=J o->Alike (fG ops i c) q r o)->oD ops k q=oD ops k r:=by
   intro k q r tF;unfold oD;cases E:ops[k]? with
   |none=>rfl|some o'=>
    have hg:(fG ops i c)[k]?=J (if k=c then {o' with after:=o'.after.push {on:=i,ground:=.data}} else o'):=(by rw[An,E];rfl);have hz:=CD (tF _ hg);have N:∀za∈o'.op.operands,q.eval za=r.eval za:=by
     intro za hzm;refine hz za ?_
     grind
    show(match o'.op with| .store _ a _=>(match q.eval a with| .ptr (.box b) _=>J b|_=>af)|_=>af)=(match o'.op with| .store _ a _=>(match r.eval a with| .ptr (.box b) _=>J b|_=>af)|_=>af)
    revert N
    generalize o'.op=op;intro N;cases op with|store t' a' v'=>have:q.eval a'=r.eval a':=N a' (by simp[Op.operands]);simp_all|_=>rfl
  have X:∃y z,oD ops i e2=J y/\oD ops c e2=J z/\y≠z:=by
   unfold px at n;rw[Mh]at n;split at n
   .rename_i ei _ en _ r1 r2;have s1:(cI P G R ops e h i).1=ei:=(by unfold cI;rw[r1]);have s2:(cI P G R ops e h c).1=en:=(by unfold cI;rw[r2]);split at n
    .rename_i y z u1 u2;refine⟨y,z,?_,?_,?_⟩
     .grind
     .grind
     .rintro rfl;simp_all
    simp_all
   .grind
  obtain⟨y,z,b1,b2,b3⟩:=X;have t1:bW P G R ops (l++c::[]) e2 (d.oT zb (dC fD off cs))=J (.normal,T,h'):=by rw[Bl];rw[yY]at ev2 D;exact⟨_,_,ev2,D⟩
  have t2:=V_ Y l (λk hk=>A k (q5 k hk)) [] t1;rw[ga]at t2;have t3:bW P G R ops (i::c::l) e2 d=J (.normal,T,h'):=by rw[nm];refine⟨_,_,_,G1,?_⟩;rw[hd];exact t2
  have t4:=asJ t Y b1 b2 b3 l t3;rw[yY,Bl]at ev1;obtain⟨e0,h0,v1,v2⟩:=ev1;have t5:bW P G R ops (M1++c::(i::l)) e0 h0=J (.normal,T,h'):=Bl.2 ⟨_,_,v2,t4⟩;have t6:=V_ Y M1 (λk hk=>A k (q4 k hk)) _ t5;refine⟨T,?_,p⟩;rw[q1];exact Bl.2 ⟨_,_,v1,t6⟩
def stores_cases{e:Env}{h:Heap}(c:xj P G R ops e h=V):∃i,i<ops.size/\Bp ops i=V/\px P G R ops e h i=V/\jZ P G R (fG ops i (ops.size-1)) e h=V:=by unfold xj at c;simp_all
def stores_of{e:Env}{h:Heap}{i:Nat}(c:i<ops.size)(d:Bp ops i=V)(f:px P G R ops e h i=V)(g:jZ P G R (fG ops i (ops.size-1)) e h=V):xj P G R ops e h=V:=by
 unfold xj
 grind
end
end Go.AE
end
section
namespace Go.AE
open Go.RowKit (Below)
section
variable {P:bj} {G:Nat->Option (List U)} {w0:bO} {R:Rec}
def asa{b:ex}{a:Act}{k:List Item}{cs:List ex}{w:bO}{c:Code}:step P (lone (b.atR a (.code (.scope c)::k)) cs w)=.next (lone (b.atR a (.code c::.inScope c::k)) cs w):=by rfl
def ar9{b:ex}{a:Act}{k:List Item}{cs:List ex}{w:bO}{c:Code}:step P (lone (b.atR a (.inScope c::k)) cs w)=.next (lone (b.atR a k) cs w):=by rfl
def mo.amd{K:aW}{m:Machine}{B:ex}{c:Code}{k:List Item}{cs:List ex}{x:Xt}{a:Act}{w:bO}(g:x≠ .normal)
 (h:mo P K m B (.inScope c::k) cs x a w):mo P K m B k cs x a w:=by
 cases x with
 |normal=>simp_all|exit id=>obtain⟨l,d,f⟩:=h;exact⟨l,d.trans O,f⟩
 |ret=>exact h|panic x=>exact h
def aeG(hn:zR P)(aih:P.follows .mixedOrders=V)(H:sK P G w0 R):Qt P G w0 (eO P G R):=by
 intro z2 e h out e' h' c K w a B k m cs u n t x p;cases z2 with
 |skip=>simp only[eO,dt,cL]at c;obtain⟨rfl,rfl,rfl⟩:=c;exact⟨K,w,a,cs,u,.refl n t x (.one stepR_skip)⟩
 |label z9=>simp only[eO,dt,cL]at c;obtain⟨rfl,rfl,rfl⟩:=c;exact⟨K,w,a,cs,u,.refl n t x (.one stepR_label)⟩
 |region id ops draw=>
  simp only[codeOk]at p;cases draw with
  |false=>simp only[eO,jo,if_false]at c;obtain⟨K',w',a',E,z1⟩:=WA hn H _ _ _ _ _ _ c K w a B k m cs u n t x p;exact⟨K',w',a',E,u,.of_steps (.one stepR_region) z1⟩
  |true=>
   simp only[eO,if_true,Option.filter_eq_some_iff]at c;obtain⟨yp,z5⟩:=c;have US:=stepR_region_draw (P:=P) (b:=B) (a:=a) (k:=k) (cs:=cs) (w:=w) (ops:=ops) (id:=id);have aiw:Region.schedule (P.follows .mixedOrders) ops (w.tape w.drawn (.order B.fn id))=Region.linearise .any ops (w.tape w.drawn (.order B.fn id)):=(by simp only[Region.schedule,aih,Bool.true_or,if_true]);rw[aiw]at US;obtain⟨e2,ah3,UQ⟩:∃e2,bW P G R ops (Region.linearise .any ops (w.tape w.drawn (.order B.fn id))) e h=J (out,e2,h')/\iW e2 e':=by
    cases out with
    |normal=>
     rcases (nU _ _).mp z5 with T_|gP
     .exact afv yp T_ _
     .obtain⟨i,-,Dy,uR,hi3⟩:=stores_cases gP;exact afw Dy uR hi3 yp _
    |panic z=>simp only[drawC,bm]at z5;exact afx z5.1 z5.2.1 z5.2.2 yp _|_=>cases z5
   obtain⟨K',w',a',E,z1⟩:=WA hn H _ _ _ _ _ _ ah3 K {w with drawn:=w.drawn+1} a B k m cs u n t (x.drew _) p;exact⟨K',w',a',E,u,z1.le,z1.oH,z1.frame.same UQ,UQ.cC ▸ z1.cs,z1.size,z1.marks,z1.arr.of_steps (.one US)⟩
 |seq z z0=>
  simp only[codeOk,bm]at p;simp only[eO]at c;cases L:R.code z e h with
  |none=>simp_all|some z3=>
   obtain⟨o1,e1,h1⟩:=z3;rw[L]at c;obtain⟨l,g,q,f,d,L1⟩:=H.code z e h _ _ _ L K w a B (.code z0::k) m cs u n t x p.1;have start:=Steps.one (stepR_seq (P:=P) (b:=B) (a:=a) (k:=k) (cs:=cs) (w:=w) (x:=z) (y:=z0));by_cases r:o1=.normal
   .subst r;simp only at c;obtain⟨T,w2,a2,cs2,ms2,L2⟩:=H.code z0 e1 h1 _ _ _ c l g q B k m f d L1.frame L1.cs L1.oH (by rw[L1.size];grind);refine⟨T,w2,a2,cs2,ms2,L1.le.trans L2.le,L2.oH,L2.frame,L2.cs,L2.size.trans L1.size,λS hr=>?_,(L2.arr.of_steps L1.arr).of_steps start⟩;rcases L2.marks S hr with A|A
    .exact L1.marks S A
    .exact .inr λhm=>A (L1.le.md S hm)
   .have c:J (o1,e1,h1)=J (out,e',h'):=(by simp_all);simp only[dt,cL]at c;obtain⟨rfl,rfl,rfl⟩:=c;exact⟨l,g,q,f,d,L1.le,L1.oH,L1.frame,L1.cs,L1.size,L1.marks,(L1.arr.pass O r).of_steps start⟩
 |cond z3 z z0=>
  simp only[codeOk,bm]at p;simp only[eO]at c;have hv:=wB n.fX z3;split at c
  .rename_i A;rw[A]at hv;obtain⟨l,g,q,f,d,L1⟩:=H.code z e h _ _ _ c K w a B k m cs u n t x p.1;exact⟨l,g,q,f,d,L1.of_steps (.one (by have:=stepR_cond (P:=P) (b:=B) (k:=k) (cs:=cs) (w:=w) (x:=z) (y:=z0) hv.gI.1;simp_all))⟩
  .rename_i A;rw[A]at hv;obtain⟨l,g,q,f,d,L1⟩:=H.code z0 e h _ _ _ c K w a B k m cs u n t x p.2;exact⟨l,g,q,f,d,L1.of_steps (.one (by have:=stepR_cond (P:=P) (b:=B) (k:=k) (cs:=cs) (w:=w) (x:=z) (y:=z0) hv.gI.1;simp_all))⟩
  grind
 |block id z=>
  simp only[codeOk]at p;simp only[eO]at c;cases L:R.code z e h with
  |none=>simp_all|some z3=>
   obtain⟨o1,e1,h1⟩:=z3;rw[L]at c;obtain⟨l,g,q,f,d,L1⟩:=H.code z e h _ _ _ L K w a B (.inBlock id::k) m cs u n t x p;have start:=Steps.one (stepR_block (P:=P) (b:=B) (a:=a) (k:=k) (cs:=cs) (w:=w) (id:=id) (c:=z));have Z:∀{o:Xt},mo P l (lone (B.atR a (.code z::.inBlock id::k)) cs w) B k f o q g->Left P G w0 K u B m (lone (B.atR a (.code (.block id z)::k)) cs w) k a.tmps.size o e1 h1 l g q f d:=λha=>
    ⟨L1.le,L1.oH,L1.frame,L1.cs,L1.size,L1.marks,ha.of_steps start⟩
   cases o1 with
   |normal=>simp only[dt,cL]at c;obtain⟨rfl,rfl,rfl⟩:=c;exact⟨l,g,q,f,d,Z (L1.arr.trans (.one stepR_inBlock))⟩
   |exit id'=>
    simp only at c;obtain⟨z6,h2,h3⟩:=L1.arr;split at c
    .rename_i LY;subst LY;simp only[dt,cL]at c;obtain⟨rfl,rfl,rfl⟩:=c;refine⟨l,g,q,f,d,Z (h3.trans (.one (stepR_exit (h2.trans ?_))))⟩;simp[exitTo]
    .rename_i LY;simp only[dt,cL]at c;obtain⟨rfl,rfl,rfl⟩:=c;refine⟨l,g,q,f,d,Z ⟨z6,h2.trans ?_,h3⟩⟩;simp[exitTo,Ne.symm LY]
   |ret=>simp only[dt,cL]at c;obtain⟨rfl,rfl,rfl⟩:=c;obtain⟨z6,h3⟩:=L1.arr;exact⟨l,g,q,f,d,Z ⟨z6,h3⟩⟩
   |panic z=>simp only[dt,cL]at c;obtain⟨rfl,rfl,rfl⟩:=c;obtain⟨z6,z4,h2,h3⟩:=L1.arr;exact⟨l,g,q,f,d,Z ⟨z6,z4,h2,h3⟩⟩
 |loop z=>
  have ain:codeOk a.tmps.size z=V:=by simpa only[codeOk] using p
  simp only[eO]at c;cases L:R.code z e h with
  |none=>simp_all|some z3=>
   obtain⟨o1,e1,h1⟩:=z3;rw[L]at c;obtain⟨l,g,q,f,d,L1⟩:=H.code z e h _ _ _ L K w a B (.inLoop z::k) m cs u n t x ain;have start:=Steps.one (stepR_loop (P:=P) (b:=B) (a:=a) (k:=k) (cs:=cs) (w:=w) (c:=z));by_cases r:o1=.normal
   .subst r;simp only at c;obtain⟨T,w2,a2,cs2,ms2,L2⟩:=H.code (.loop z) e1 h1 _ _ _ c l g q B k m f d L1.frame L1.cs L1.oH (by rw[L1.size];omega);have Lr:=mo.swap (c:=.loop z) (m':=lone (B.atR q (.inLoop z::k)) f g) (λ_=>by simp) b7 O stepR_loop stepR_inLoop L2.arr;refine⟨T,w2,a2,cs2,ms2,L1.le.trans L2.le,L2.oH,L2.frame,L2.cs,L2.size.trans L1.size,λS hr=>?_,(Lr.of_steps L1.arr).of_steps start⟩;rcases L2.marks S hr with A|A
    .exact L1.marks S A
    .exact .inr λhm=>A (L1.le.md S hm)
   .have c:J (o1,e1,h1)=J (out,e',h'):=(by simp_all);simp only[dt,cL]at c;obtain⟨rfl,rfl,rfl⟩:=c;exact⟨l,g,q,f,d,L1.le,L1.oH,L1.frame,L1.cs,L1.size,L1.marks,(L1.arr.pass O r).of_steps start⟩
 |scope z=>
  simp only[codeOk]at p;simp only[eO]at c;obtain⟨l,g,q,f,d,L1⟩:=H.code z e h _ _ _ c K w a B (.inScope z::k) m cs u n t x p;have start:=Steps.one (asa (P:=P) (b:=B) (a:=a) (k:=k) (cs:=cs) (w:=w) (c:=z));by_cases r:out=.normal
  .subst r;exact⟨l,g,q,f,d,L1.le,L1.oH,L1.frame,L1.cs,L1.size,L1.marks,(show mo P l _ B k f .normal q g from L1.arr.trans (.one ar9)).of_steps start⟩
  .exact⟨l,g,q,f,d,L1.le,L1.oH,L1.frame,L1.cs,L1.size,L1.marks,(L1.arr.amd r).of_steps start⟩
 |exit id=>simp only[eO,dt,cL]at c;obtain⟨rfl,rfl,rfl⟩:=c;exact⟨K,w,a,cs,u,.refl n t x ⟨k,O,.refl P _⟩⟩
 |ret=>simp only[eO,dt,cL]at c;obtain⟨rfl,rfl,rfl⟩:=c;exact⟨K,w,a,cs,u,.refl n t x ⟨k,.refl P _⟩⟩
 |rangeFunc z7 ps assign body=>
  simp only[codeOk,bm]at p;obtain⟨⟨AO,Uw⟩,Ux⟩:=p;have AO:=akY AO;simp only[eO]at c;split at c
  .rename_i z8 first aR yp
   have MR:=wB n.fX z7;rw[yp]at MR;have enter:∃(D:Nat) (mark:List Deferred) (l:aW) (g:bO) (d:List Nat),(Instr.enterLoop B.fn a.tmps ps assign body B.roundOf).run P w=.ok (D,mark) g/\K.Le l/\
    iX P G w0 l {h with loops:=h.loops++[{tmps:=e.tmps,params:=ps,assign,body,state:=.ready,pending:=af}]} g/\l.γ[h.loops.length]?=J D/\
    lX P l e {a with defers:=mark++a.defers} B d/\∀S∈d,S∈u∨S∉K.md:=by
    have Y:∀z2,codeOk a.tmps.size z2=V->Bh P B.fn a.tmps.size z2=V:=λz2 hc=>(by unfold Bh;rw[hc,n.fn];rfl);have v:=n.round;cases nf:e.round with
    |none=>
     rw[nf]at v;simp only at v;have DF:w.heap.size∉K.md:=λA=>absurd (od (x.md _ A).2) (Nat.lt_irrefl _);have s1:=x.ale;have y:=K.VK w.heap.size;obtain⟨s2,hγ⟩:=s1.Wg (r:={tmps:=e.tmps,params:=ps,assign,body,state:=.ready,pending:=af}) (fn:=B.fn) w.heap.size (n.fX.mono y) (Y _ Uw) (Y _ Ux) AO;have s:=(K.mark w.heap.size).Nj (w.alloc (.deferred (J []))).heap.size;refine⟨_,_,_,_,w.heap.size::u,by rw[v];exact run_enterLoop_outer _ _ _ _ _,y.trans s,s2,?_,?_,?_⟩
     .simp_all
     .have AC:=n.mono (y.trans s);refine⟨AC.fX,?_,?_,n.fn⟩
      .refine .mark _ _ _ _ (by simp[aW.loop,aW.mark]) (λA=>DF (n.defers.sub _ A)) AC.defers
      simp_all
     simp_all
    |some z9=>
     rw[nf]at v;obtain⟨D,N,hb,ah9,hd,hm,yo⟩:=v;have gB:z9<F h.loops:=(by rw[<-x.lV];exact(aS.1 N).1);obtain⟨k1,fn,tmps,za,k2,-⟩:=x.loop z9 D _ N (aN gB);obtain⟨s2,hγ⟩:=x.Wg (r:={tmps:=e.tmps,params:=ps,assign,body,state:=.ready,pending:=af}) (fn:=B.fn) za n.fX (Y _ Uw) (Y _ Ux) AO;have s:=K.Nj w.heap.size;refine⟨_,[],_,_,u,?_,s,s2,hγ,?_,λS hr=>.inl hr⟩
     .rw[hb];unfold Instr.enterLoop;simp only[Sem.run_bind,run_getLoop k2,run_newObj_alloc,Result.andThen,Sem.run_pure]
     .have AC:=n.mono s;exact⟨AC.fX,AC.defers,by rw[nf];exact⟨D,s.γ _ _ N,hb,ah9,hd,hm,yo⟩,n.fn⟩
   obtain⟨D,mark,l,g,d,GD,y,s1,hγ,f1,X⟩:=enter;generalize hqv:a.eval z7=qv at MR;cases MR with
   |func _ _ _ fs E g1 g2=>
    cases Gz:R.call z8 (first++[.yield (F h.loops)]++aR) {h with loops:=h.loops++[{tmps:=e.tmps,params:=ps,assign,body,state:=.ready,pending:=af}]} with
    |none=>simp_all|some z3=>
     obtain⟨S,h2⟩:=z3;rw[Gz]at c;obtain⟨⟨fnn,Dx,AA⟩,hc⟩:=H.call _ _ _ _ _ Gz;have gq:aH l (first++[.yield (F h.loops)]++aR) (fs++#[Value.func (.yield D) #[] #[]]++E).toList:=(by simp only[vR];exact((g1.mono y).append (.cons _ _ _ _ (.yield _ _ hγ) .nil)).append (g2.mono y));obtain⟨T,w2,fr,s,s2,gP,-,N⟩:=hc l g _ gq s1 (B.atR {a with defers:=mark++a.defers} (.inRangeFunc D::k)::cs);have MK:=stepR_rangeFunc (P:=P) (b:=B) (a:=a) (k:=k) (cs:=cs) (w:=w) (g:=z7) (ps:=ps) (assign:=assign) (body:=body) (l:=D) (mark:=mark) (w₁:=g) (w₁':=g) (w₂:=g) (d:={target:=.fn (.func z8) E,args:=fs++#[Value.func (.yield D) #[] #[]]}) (f:=z8) (args:=fs++#[Value.func (.yield D) #[] #[]]++E) GD
      (by have ahW:∀z4,a.eval (.const z4)=z4:=λ_=>rfl;simp[resolve,rangeCall,hqv,Deferred.ofValue,ahW]) (by simp only[invoke];exact OM hn Dx AA _ _)
     have start:=Steps.head MK gP;have f2:=f1.mono s;have c2:CS T B.kind m e.cC cs:=t.mono (y.trans s);cases S with
     |panic z=>simp only[dt,cL]at c;obtain⟨rfl,rfl,rfl⟩:=c;obtain⟨z4,L,N⟩:=N;refine⟨T,w2,_,cs,d,y.trans s,s2,f2,c2,O,X,.inRangeFunc D::k,z4,L,start.trans (.one ?_)⟩;rw[step_leave_panicked N,Frame.raise_atR]
     |ret z=>
      obtain⟨z4,L,N⟩:=N;have back:=start.trans (.one (step_leave_returned N));rw[finish_atR_inRangeFunc]at back;simp only at c;split at c
      .rename_i S hr;split at c
       .cases c
       .rename_i auI;obtain⟨mm,m1,m2,m3,-,-,-,-,-,-,-,s3⟩:=s2.eY (s.γ _ _ hγ) hr .exhausted S.pending;have ry:=run_endLoop (P:=P) m1 (by simp_all);have GE:({mm with state:=.exhausted,pending:=S.pending}:Loop)={mm with state:=.exhausted}:=(by grind);rw[GE]at s3;have ah1:(Instr.endLoop D).run P w2=.ok S.pending (w2.putObj D (.loop {mm with state:=.exhausted})):=(by rw[<-m3];exact ry);have C:=back.trans (.one (stepR_endRangeFunc ah1));cases hp:S.pending with
        |none=>rw[hp]at c C s3;simp only[dt,cL]at c;obtain⟨rfl,rfl,rfl⟩:=c;exact⟨T,_,_,cs,d,y.trans s,s3,f2,c2,O,X,C⟩
        |some code=>
         rw[hp]at c C s3;cases code with
         |ret=>simp only[dt,cL]at c;obtain⟨rfl,rfl,rfl⟩:=c;exact⟨T,_,_,cs,d,y.trans s,s3,f2,c2,O,X,k,C⟩
         |exit id=>simp only[dt,cL]at c;obtain⟨rfl,rfl,rfl⟩:=c;exact⟨T,_,_,cs,d,y.trans s,s3,f2,c2,O,X,k,O,C⟩
         |_=>cases c
      grind
  grind
 |_=>simp[eO]at c
end
end Go.AE
end
