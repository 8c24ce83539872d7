/-
  The engine, part 1: an evaluator of the model's Code over values in which a slice is a list. No claim is made here; part 2 and on show that what it gives the machine does.
-/
import Derived.AtR
import Derived.Recover
import Derived.Below
import Derived.Orders
import Derived.Laws.AppendOwn
import Derived.Laws.Cells
import Derived.Laws.Entries
import Derived.Laws.MakeOwn
import Derived.Laws.Strings
import Derived.Laws.Append
import Derived.Lib.AppendZeros
import Derived.Defers
import Derived.RangeFuncRecord
open True renaming intro->aU
open Bool renaming true->ah,false->az,false_eq_true->jO,and_eq_true->bC,not_eq_true'->zR,not_false->zS,or_eq_true->vD
open Option renaming some->aa,none->au,map_eq_some_iff->dx,bind_eq_some_iff->Ac,isSome_iff_exists->adJ,getD_some->JM,map->D1,isNone_some->JN,map_some->ff,some.injEq->dP,bind_some->oq
open Nat renaming beq->jQ,min->pF,le_refl->aJ,le_trans->fw,lt_of_lt_of_le->ni,lt_or_ge->dW,add_mul->gJ,add_zero->BC,mul_le_mul_right->oM,zero_add->qb,mul_eq_zero->ady,zero_mul->GF,not_lt_zero->tN,reducePow->adI,zero_le->cA,sub_mul->NK,mul_pos->NG,pos_of_ne_zero->adE,one_ne_zero->NH,mul_one->oN,eq_of_beq_eq_true->jW,le_zero->NB,lt_succ_iff->BE,le_antisymm->BD,lt_trans->qa,le_of_lt->nJ,lt_succ_self->NC,lt_succ_of_lt->wT,not_succ_le_self->adC,lt_of_le_of_ne->adw
open List renaming replicate->a9,range->bM,getElem?_eq_some_iff->aS,getElem?_eq_getElem->aR,getElem?_take->oJ,getElem?_drop->pD,getElem?_set->mL,length_take->eS,getElem?_append_left->sH,take_of_length_le->gm,flatten_cons->pC,drop_append->DU,drop_of_length_le->qF,take_append->JI,length_append->dw,length_cons->iP,set_eq_take_append_cons_drop->BA,all_eq_true->ey,mem_append->wR,mem_of_mem_take->pE,mem_of_mem_drop->Nr,length_drop->hJ,ext_getElem?->rB,mem_of_getElem?->dj,foldl_cons->yw,map_cons->eC,map_map->Bx,getElem?_toArray->jy,flatten_append->rC,map_append->mw,flatten_nil->Tz,append_nil->jr,mem_replicate->TD,take_nil->adp,drop_nil->acY,extract_eq_take_drop->acZ,mem_map->jP,length_map->bu,take_append_of_le_length->JJ,cons_append->kL,nil_append->lJ,range_succ->om,mem_range->fQ,getElem?_cons_zero->jV,getElem?_cons_succ->p8,size_toArray->ado,all_append->zZ,eq_of_mem_replicate->JD,length_replicate->mM,mem_cons_of_mem->fE,append_assoc->tL,getElem?_append_right->Ab,mem_cons_self->fW,toArray_inj->Nw,map_congr_left->JH,range_zero->adj,mem_cons->iu,countP_cons_of_neg->acV,countP_cons_of_pos->Tw,reverse_nil->adl,mem_filter->vG
open Array renaming length_toList->ym,getElem?_eq_none->yl,getElem?_eq_getElem->mK,getElem?_modify->Dz,toList_setIfInBounds->acu,toList_map->DD,getElem?_toList->DA,range->zO,toList_extract->acs,getElem?_eq_some_iff->Dy,replicate->DB,toList_append->DC,ext'->MW,size_append->Td,getElem?_setIfInBounds->MX,all_eq_true->FY,map->MY,mem_toList_iff->acq,getElem_of_mem->acm,getElem_mem->ack
open Prod renaming mk.inj->iQ,mk.injEq->dn
set_option linter.unusedSimpArgs false
set_option linter.unusedVariables false
set_option linter.constructorNameAsVariable false
set_option linter.defProp false
namespace Go
def ag{p:Prop}(h:p:=by omega):p:=h
def bE{p:Prop}(h:p:=by simp):p:=h
def aV{p:Prop}(h:p:=by decide):p:=h
def awO{p:Prop}(h:p:=by simp;omega):p:=h
def awP{p:Prop}(h:p:=by first|exact trivial|exact rfl):p:=h
def jd{p:Prop}(h:p:=by kernel_rfl):p:=h
def aI.{u}{c:Prop}{h:Decidable c}(q:¬c){α:Sort u}{t e:α}:ite c t e=e:=if_neg q
def aG.{u}{c:Prop}{h:Decidable c}(q:c){α:Sort u}{t e:α}:ite c t e=t:=if_pos q
def bQ{p:Prop}[Decidable p](q:p):decide p=ah:=decide_eq_true q
def cE{p:Prop}[Decidable p](q:¬p):decide p=az:=decide_eq_false q
end Go
section
namespace Go.AE
inductive Tok where
 |nil|tight|free (n:Nat)|held
 deriving DecidableEq,Inhabited
inductive Ref where
 |box (b:Nat)|eV (g:Nat)
 deriving DecidableEq,Inhabited
inductive AV where
 |bad
 |v (x:Value)
 |list (k:Tok) (sz:Nat) (es:List (List AV))
 |arr (b off len aD:Nat)
 |agg (cs:List AV)
 |tuple (vs:List AV)
 |ptr (r:Ref) (off:Nat)
 |elem (sz:Nat) (es:List (List AV)) (i off:Nat)
 |func (fn:Fn) (first aD:List AV)
 |yield (l:Nat)
 |iface (t:TypeId) (x:AV)
 deriving Inhabited
def fg{α:Type}(P:Program):Sem α->Option α
 | .pure a=>aa a
 | .program k=>fg P (k P)
 | .mark _ k=>fg P k
 |_=>au
def scalar:Value->Bool
 | .bool _| .int .. | .float .. | .complex .. | .string _| .nilFunc| .nilIface| .pointer au| .map au| .chan au=>ah
 |_=>az
def ob(z:Value):Option AV:=if scalar z then aa (.v z) else au
def AV.ek:AV->Bool
 | .agg _| .tuple _| .bad=>az
 |_=>ah
def AV.bP:AV->Option (List AV)
 | .agg cs=>if cs.all AV.ek then aa cs else au
 | .tuple _| .bad=>au
 |x=>aa [x]
def wh(x:Value):AV:=
 match x with
 | .slice au 0 0=>.list .nil 0 []
 |x=>if scalar x then .v x else .bad
def tC:Value->AV
 | .agg cs=>.agg (cs.toList.map wh)
 | .tuple vs=>if vs.size=0 then .tuple [] else .bad
 | .iface t x=>.iface t (wh x)
 |x=>wh x
def Cc:List AV->Option (List Value)
 | []=>aa []
 | .v x::r=>(Cc r).map (x::·)
 |_=>au
def AV.flat:AV->Option Value
 | .v x=>aa x
 | .agg cs=>(Cc cs).map λl=>.agg l.toArray
 | .iface t (.v x)=>aa (.iface t x)
 | .iface t (.agg cs)=>(Cc cs).map λl=>.iface t (.agg l.toArray)
 | .list .nil _ []=>aa (.slice au 0 0)
 |_=>au
def flatAll:List AV->Option (List Value)
 | []=>aa []
 |x::r=>match x.flat,flatAll r with|some v,aa l=>aa (v::l)|_,_=>au
def lX:Value->Value->Bool
 | .int k n,.int k' n'=>decide (k=k')&&decide (n=n')
 | .bool a,.bool b=>a==b
 | .string p,.string q=>p.data.toList==q.data.toList
 | .nilFunc,.nilFunc| .nilIface,.nilIface| .pointer au,.pointer au=>ah
 |_,_=>az
def Mq:Ref->Ref->Bool
 | .box a,.box b| .eV a,.eV b=>jQ a b
 |_,_=>az
def yd:Tok->Tok->Bool
 | .nil,.nil| .tight,.tight| .held,.held=>ah
 | .free a,.free b=>jQ a b
 |_,_=>az
mutual
def fc:AV->AV->Bool
 | .v x,.v y=>lX x y
 | .list k sz es,.list k' sz' es'=>yd k k'&&jQ sz sz'&&rm es es'
 | .arr b o l c,.arr b' o' l' c'=>jQ b b'&&jQ o o'&&jQ l l'&&jQ c c'
 | .agg cs,.agg ds=>pg cs ds
 | .tuple cs,.tuple ds=>pg cs ds
 | .ptr r o,.ptr r' o'=>Mq r r'&&jQ o o'
 | .elem sz es i o,.elem sz' es' i' o'=>jQ sz sz'&&jQ i i'&&jQ o o'&&rm es es'
 | .yield l,.yield l'=>jQ l l'
 | .iface t x,.iface t' y=>jQ t t'&&fc x y
 | .func (.func f) a b,.func (.func g) a' b'=>jQ f g&&pg a a'&&pg b b'
 |_,_=>az
def pg:List AV->List AV->Bool
 | [],[]=>ah
 |x::xs,y::ys=>fc x y&&pg xs ys
 |_,_=>az
def rm:List (List AV)->List (List AV)->Bool
 | [],[]=>ah
 |x::xs,y::ys=>pg x y&&rm xs ys
 |_,_=>az
end
structure qc where
 ch:List (Nat × AV)
 base:List AV
 deriving Inhabited
def look(base:List AV):List (Nat × AV)->Nat->AV
 | [],t=>base.getD t (.tuple [])
 |p::r,t=>bif jQ p.1 t then p.2 else look base r t
def qc.get(s:qc)(t:Nat):AV:=look s.base s.ch t
def qc.set(s:qc)(t:Nat)(x:AV):qc:={s with ch:=(t,x)::s.ch}
structure iI where
 tmps:qc
 params:Array Tmp
 assign:Code
 body:Code
 state:LoopState
 pending:Option Code
 deriving Inhabited
structure aq where
 boxes:List (List AV)
 loops:List iI
 tn:Nat
 dead:List Nat
 deriving Inhabited
structure Env where
 tmps:qc
 defers:List (FuncId × List AV)
 cV:Option (AV × Bool)
 round:Option Nat
 deriving Inhabited
inductive Xt where
 |normal
 |exit (id:Nat)
 |ret
 |panic (x:AV)
 deriving Inhabited
inductive eY where
 |ret (x:AV)
 |panic (x:AV)
 deriving Inhabited
def Env.get(e:Env)(t:Nat):AV:=e.tmps.get t
def Env.put(e:Env)(dst:Option Tmp)(x:AV):Env:=
 match dst with
 |some d=>{e with tmps:=e.tmps.set d x}
 |none=>e
def aiG(tmps:qc):Operand->AV
 | .tmp t=>tmps.get t
 | .const v=>tC v
 | .global g=>.ptr (.eV g) 0
 | .func f=>.func (.func f) [] []
def Env.eval(e:Env)(x:Operand):AV:=aiG e.tmps x
section
variable (P:Program)
def dt(t:TypeId):Option Nat:=(P.info? t).map (·.size)
def gI(t:TypeId):Option Bool:=
 match P.underlying t with
 |some (.struct _)|some (.array _ _)=>aa ah
 |some _=>aa az
 |none=>au
def gZ(t:TypeId):Option AV:=
 match P.info? t with
 |some i=>i.zero.map tC
 |none=>au
def Iw(t:TypeId)(cs:List AV)(off:Nat):Option AV:=
 match gI P t with
 |some ah=>(dt P t).map λn=>.agg ((cs.drop off).take n)
 |some az=>cs[off]?
 |none=>au
end
def aq.box(h:aq)(cs:List AV):AV × aq:=(.ptr (.box h.boxes.length) 0,{h with boxes:=h.boxes++[cs]})
def aq.fresh(h:aq)(sz:Nat)(es:List (List AV)):AV × aq:=(.list (.free h.tn) sz es,{h with tn:=h.tn+1})
def RP(G:Nat->Option (List AV))(h:aq):Ref->Option (List AV)
 | .box b=>h.boxes[b]?
 | .eV g=>G g
def BV(G:Nat->Option (List AV))(h:aq):AV->Option (List AV)
 | .ptr r off=>(RP G h r).map (·.drop off)
 | .elem _ es i off=>(es[i]?).map (·.drop off)
 |_=>au
def aH(P:Program)(G:Nat->Option (List AV))(h:aq)(t:TypeId)(a:AV):Option AV:=
 match gI P t,BV G h a with
 |some ah,aa cs=>
  match dt P t with
  |some n=>if n<=cs.length then aa (.agg (cs.take n)) else au
  |none=>au
 |some az,aa cs=>cs.head?
 |_,_=>au
def eX(dh:List AV)(off:Nat)(cs:List AV):List AV:=dh.take off++cs++dh.drop (off+cs.length)
def b7(P:Program)(h:aq)(t:TypeId)(a x:AV):Option aq:=
 match a,x.bP,dt P t with
 | .ptr (.box b) off,aa cs,aa n=>
  match h.boxes[b]? with
  |some dh=>if cs.length=n/\off+n<=dh.length then aa {h with boxes:=h.boxes.set b (eX dh off cs)} else au
  |none=>au
 |_,_,_=>au
def vP(place:Nat->Option (Nat × Nat))(cells:List AV):List (Nat × AV)->Option (List AV)
 | []=>aa cells
 |(i,x)::rest=>
  match place i,x.bP with
  |some (off,size),aa cs=>if cs.length=size/\off+size<=cells.length then vP place (eX cells off cs) rest else au
  |_,_=>au
def Ep(sz:Nat)(ae:List (List AV)):List (Nat × AV)->Option (List (List AV))
 | []=>aa ae
 |(i,x)::rest=>
  match x.bP with
  |some cs=>if cs.length=sz/\i<ae.length then Ep sz (ae.set i cs) rest else au
  |none=>au
def placesOf(P:Program)(fields:Array Field)(i:Nat):Option (Nat × Nat):=
 match fields[i]? with
 |some f=>(dt P f.type).map λn=>(f.offset,n)
 |none=>au
def mz(P:Program)(t:TypeId)(parts:List (Nat × AV)):Option AV:=
 match P.underlying t,(gZ P t).bind AV.bP with
 |some (.struct fields),aa zero=>
  if fields.all λf=>(P.info? f.type).isSome then (vP (placesOf P fields) zero parts).map .agg else au
 |some (.array _ elem),aa zero=>
  match dt P elem with
  |some size=>(vP (λi=>aa (i * size,size)) zero parts).map .agg
  |none=>au
 |_,_=>au
def gf(P:Program)(t:TypeId)(len:Nat)(parts:List (Nat × AV)):Option AV:=
 match P.underlying t with
 |some (.slice elem)=>
  match dt P elem,(gZ P elem).bind AV.bP with
  |some size,aa zero=>
   if 0<size/\zero.length=size/\len * size<=16777216 then (Ep size (a9 len zero) parts).map (.list .tight size) else au
  |_,_=>au
 |_=>au
def zx(P:Program)(h:aq)(t:TypeId)(l c:AV):Option (AV × aq):=
 match P.underlying t,l,c with
 |some (.slice elem),.v (.int _ l),.v (.int _ c)=>
  match P.info? elem,(gZ P elem).bind AV.bP with
  |some i,aa zero=>
   if 0<=l/\l<=c/\c<9223372036854775808/\i.bytes * c<=281474976710656/\0<i.size/\zero.length=i.size then
    aa (.arr h.boxes.length 0 l.toNat c.toNat,{h with boxes:=h.boxes++[(a9 c.toNat zero).flatten]})
   else au
  |_,_=>au
 |_,_,_=>au
def rowsOf(h:aq)(size:Nat):AV->Option (List (List AV))
 | .list _ sz es=>if sz=size∨es=[] then aa es else au
 | .arr b off len _=>
  match h.boxes[b]? with
  |some cs=>if off+len * size<=cs.length then aa ((bM len).map λi=>(cs.drop (off+i * size)).take size) else au
  |none=>au
 |_=>au
def lh(b:UInt8):List AV:=[.v (.int .u8 b.toNat)]
def byteOf:List AV->Option UInt8
 | [.v (.int .u8 n)]=>aa (UInt8.ofNat n.toNat)
 |_=>au
def bytesOf:List (List AV)->Option (List UInt8)
 | []=>aa []
 |r::rest=>match byteOf r,bytesOf rest with|some b,aa l=>aa (b::l)|_,_=>au
def mX(h:aq)(size:Nat):AV->Option (List (List AV))
 | .v (.string s)=>if size=1 then aa (s.data.toList.map lh) else au
 |x=>rowsOf h size x
def alive(h:aq)(n:Nat):Bool:=decide (n<h.tn)&& !h.dead.contains n
def MT(P:Program)(h:aq)(ts:Array TypeId)(elem:TypeId)(s x:AV):Option (AV × aq):=
 match s,x with
 | .list .nil _ [],.v (.int _ n)=>
  match P.info? elem,(gZ P elem).bind AV.bP with
  |some i,aa zero=>
   if ts.size=2/\0<n/\n * i.bytes<=140737488355328/\n<=9223372036854775807/\0<i.size/\zero.length=i.size then
    aa (.arr h.boxes.length 0 n.toNat n.toNat,{h with boxes:=h.boxes++[(a9 n.toNat zero).flatten]})
   else au
  |_,_=>au
 |_,_=>au
def gN(P:Program)(h:aq)(ts:Array TypeId)(s x:AV):Option (AV × aq):=
 match (ts[0]?).bind P.underlying,(ts[1]?).bind P.underlying with
 |some (.slice elem),aa (.int _)=>MT P h ts elem s x
 |some (.slice elem),aa _=>
  match P.info? elem with
  |none=>au
  |some i=>
   match mX h i.size x with
   |none=>au
   |some new=>
    if 0<i.size/\(i.zero.map λz=>z.cells.size)=aa i.size then
     match s with
     | .list k sz es=>
      if sz=i.size∨es=[] then
       if new=[] then aa (s,h)
       else if (es.length+new.length) * i.bytes<=140737488355328/\es.length+new.length<=9223372036854775807 then
        match k with
        | .nil| .tight=>aa (h.fresh i.size (es++new))
        | .free n=>if alive h n&&decide (sz=i.size) then aa ({h with dead:=n::h.dead}.fresh i.size (es++new)) else au
        | .held=>au
       else au
      else au
     | .arr b off len aD=>
      match h.boxes[b]? with
      |some cs=>
       if len+new.length<=aD/\off+aD * i.size<=cs.length then
        aa (.arr b off (len+new.length) aD,{h with boxes:=h.boxes.set b (eX cs (off+len * i.size) new.flatten)})
       else au
      |none=>au
     |_=>au
    else au
 |_,_=>au
def Jm(G:Nat->Option (List AV))(d:Option Tmp)(t:TypeId):Bool:=(G (1000000+1000 * t+d.getD 0)).isSome
def sC(P:Program)(h:aq)(ts:Array TypeId)(s x:AV):Option (AV × aq):=
 match (ts[0]?).bind P.underlying,(ts[1]?).bind P.underlying with
 |some (.slice _),aa (.int _)=>au
 |some (.slice elem),aa _=>
  match P.info? elem with
  |none=>au
  |some i=>
   match mX h i.size x with
   |none=>au
   |some new=>
    if 0<i.size/\(i.zero.map λz=>z.cells.size)=aa i.size then
     match s with
     | .list k sz es=>
      if sz=i.size∨es=[] then
       if new=[] then aa (s,h)
       else if (es.length+new.length) * i.bytes<=140737488355328/\es.length+new.length<=9223372036854775807 then
        match k with
        | .nil| .tight=>aa (.arr h.boxes.length 0 (es.length+new.length) (es.length+new.length),{h with boxes:=h.boxes++[(es++new).flatten]})
        |_=>au
       else au
      else au
     | .arr b off len aD=>
      match h.boxes[b]? with
      |some cs=>
       if len+new.length<=aD then gN P h ts s x
       else if off=0/\0<len/\len=aD/\len * i.size=cs.length/\(len+new.length) * i.bytes<=140737488355328/\len+new.length<=9223372036854775807 then
        aa (.arr h.boxes.length 0 (len+new.length) (len+new.length),{h with boxes:=h.boxes.set b []++[cs++new.flatten]})
       else au
      |none=>au
     |_=>au
    else au
 |_,_=>au
def Ar(P:Program)(h:aq)(ts:Array TypeId)(d s:AV):Option (AV × aq):=
 match (ts[0]?).bind P.underlying with
 |some (.slice elem)=>
  match P.info? elem,d with
  |some i,.arr b off len aD=>
   match mX h i.size s,h.boxes[b]? with
   |some ae,aa cs=>
    if off+len * i.size<=cs.length/\len<=aD then
     aa (.v (.int .i64 (pF ae.length len:Nat)),{h with boxes:=h.boxes.set b (eX cs off (ae.take (pF ae.length len)).flatten)})
    else au
   |_,_=>au
  |_,_=>au
 |_=>au
def dM(P:Program)(t:TypeId)(x:AV):Option AV:=
 match P.underlying t,x with
 |some .string,.v (.string s)=>aa (.v (.int .i64 s.size))
 |some (.array n _),_=>aa (.v (.int .i64 n))
 |some (.pointer a),_=>match P.underlying a with|some (.array n _)=>aa (.v (.int .i64 n))|_=>au
 |some (.slice _),.list _ _ es=>aa (.v (.int .i64 es.length))
 |some (.slice _),.arr _ _ len _=>aa (.v (.int .i64 len))
 |_,_=>au
def Eh(P:Program)(t:TypeId)(x:AV):Option AV:=
 match P.underlying t,x with
 |some (.slice _),.list .tight _ es=>aa (.v (.int .i64 es.length))
 |some (.slice _),.list .nil _ es=>aa (.v (.int .i64 es.length))
 |some (.array n _),_=>aa (.v (.int .i64 n))
 |_,_=>au
def gK(hi:Nat):Option AV->Nat->Option Nat
 |none,d=>aa d
 |some (.v (.int _ n)),_=>if 0<=n/\n<=hi then aa n.toNat else au
 |_,_=>au
def xn(k:Tok)(toEnd xR:Bool)(n:Nat):Tok:=
 match k with
 | .nil=>.nil
 | .tight=>if toEnd||xR then .tight else .held
 | .free t=>if xR then .tight else if toEnd&&n !=0 then .free t else .held
 | .held=>if xR then .tight else .held
def iN(P:Program)(t:TypeId)(x:AV)(lo hi mx:Option AV):Option AV:=
 if mx.isSome&&hi.isNone then au else
 match P.underlying t,x with
 |some .string,.v (.string s)=>
  if mx.isSome then au else
  match gK s.size hi s.size with
  |some h=>match gK h lo 0 with
   |some l=>aa (.v (.string (s.extract l h)))
   |none=>au
  |none=>au
 |some (.slice elem),.list k sz es=>
  match dt P elem,gK es.length mx es.length with
  |some size,aa m=>match gK m hi es.length with
   |some h=>match gK h lo 0 with
    |some l=>
     if size=sz∨es=[] then aa (.list (xn k (decide (h=es.length)&&mx.isNone) (mx.isSome&&decide (h=m)) (h - l)) sz ((es.take h).drop l)) else au
    |none=>au
   |none=>au
  |_,_=>au
 |some (.slice elem),.arr b off len aD=>
  match dt P elem,gK aD mx aD with
  |some size,aa m=>match gK m hi len with
   |some h=>match gK h lo 0 with
    |some l=>if size=0 then au else if mx.isSome/\m=l then aa (.list .tight size []) else aa (.arr b (if m=l then off else off+l * size) (h - l) (m - l))
    |none=>au
   |none=>au
  |_,_=>au
 |some (.array n elem),.ptr (.box b) off=>
  match dt P elem,gK n mx n with
  |some size,aa m=>match gK m hi n with
   |some h=>match gK h lo 0 with
    |some l=>aa (.arr b (if m=l then off else off+l * size) (h - l) (m - l))
    |none=>au
   |none=>au
  |_,_=>au
 |_,_=>au
def gg(P:Program)(s:TypeId)(x:AV)(f:Nat):Option AV:=
 match P.underlying s with
 |some (.struct fields)=>
  match fields[f]? with
  |some fd=>
   match dt P fd.type with
   |some 0=>au
   |some _=>match x with
    | .ptr r off=>aa (.ptr r (off+fd.offset))
    | .elem sz es i off=>aa (.elem sz es i (off+fd.offset))
    |_=>au
   |none=>au
  |none=>au
 |_=>au
def dH(P:Program)(t:TypeId)(x ix:AV):Option AV:=
 match P.underlying t,x,ix with
 |some (.slice elem),.list _ sz es,.v (.int _ i)=>if 0<=i/\i<es.length/\dt P elem=aa sz then aa (.elem sz es i.toNat 0) else au
 |some (.slice elem),.arr b off len _,.v (.int _ i)=>
  match dt P elem with
  |some size=>if 0<=i/\i<len then aa (.ptr (.box b) (off+i.toNat * size)) else au
  |none=>au
 |some (.array len elem),.ptr r off,.v (.int _ i)=>
  match dt P elem with
  |some size=>if 0<=i/\i<len then aa (.ptr r (off+i.toNat * size)) else au
  |none=>au
 |some (.array len elem),.elem sz es k off,.v (.int _ i)=>
  match dt P elem with
  |some size=>if 0<=i/\i<len then aa (.elem sz es k (off+i.toNat * size)) else au
  |none=>au
 |_,_,_=>au
def CZ(P:Program)(t:TypeId)(x ix:AV):Option AV:=
 match P.underlying t,x,ix with
 |some .string,.v (.string s),.v (.int _ i)=>
  match (if 0<=i then s.data[i.toNat]? else au) with
  |some b=>aa (.v (.int .u8 b.toNat))
  |none=>au
 |some (.array len elem),.agg cs,.v (.int _ i)=>
  match dt P elem with
  |some size=>if 0<=i/\i<len then Iw P elem cs (i.toNat * size) else au
  |none=>au
 |_,_,_=>au
def isIface(P:Program)(t:TypeId):Option Bool:=
 match P.underlying t with
 |some (.interface _)=>aa ah
 |some _=>aa az
 |none=>au
def yJ(P:Program)(x:AV)(asserted:TypeId)(commaOk:Bool):Option AV:=
 match isIface P asserted,x with
 |some az,.iface t y=>if t=asserted then aa (if commaOk then .tuple [y,.v (.bool ah)] else y)
  else if commaOk then (gZ P asserted).map λz=>.tuple [z,.v (.bool az)] else au
 |some az,.v .nilIface=>if commaOk then (gZ P asserted).map λz=>.tuple [z,.v (.bool az)] else au
 |_,_=>au
def xg(op:BinOp)(b:Bool):Option AV:=
 match op with
 | .eql=>aa (.v (.bool b))
 | .neq=>aa (.v (.bool !b))
 |_=>au
def JY(P:Program)(op:BinOp)(t:TypeId)(x y:Operand)(a b:AV):Option AV:=
 match a.flat,b.flat with
 |some p,aa q=>(fg P (do eqGuard op t x y p q;binOp op t p q)).bind ob
 |_,_=>au
def cY(P:Program)(op:BinOp)(t:TypeId)(x y:Operand)(a b:AV):Option AV:=
 match a,b with
 | .v (.string p),.v (.string q)=>
  match op with
  | .eql=>aa (.v (.bool (p.data.toList==q.data.toList)))
  | .neq=>aa (.v (.bool !(p.data.toList==q.data.toList)))
  | .add=>if p.size+q.size<=9223372036854775807 then aa (.v (.string (p++q))) else au
  |_=>JY P op t x y a b
 | .iface _ _,.v .nilIface=>if isIface P t=aa ah then xg op az else au
 | .v .nilIface,.iface _ _=>if isIface P t=aa ah then xg op az else au
 | .ptr _ _,.v (.pointer au)=>(match P.underlying t with|some (.pointer _)=>xg op az|_=>au)
 | .v (.pointer au),.ptr _ _=>(match P.underlying t with|some (.pointer _)=>xg op az|_=>au)
 | .func _ _ _,.v .nilFunc=>(match P.underlying t with|some (.func ..)=>xg op az|_=>au)
 | .v .nilFunc,.func _ _ _=>(match P.underlying t with|some (.func ..)=>xg op az|_=>au)
 | .list k _ _,.list .nil _ []=>(match P.underlying t with|some (.slice _)=>xg op (decide (k=.nil))|_=>au)
 |a,b=>JY P op t x y a b
def Du(P:Program)(op:UnOp)(x:AV):Option AV:=
 match x.flat with
 |some p=>(fg P (Op.unary op p)).bind ob
 |none=>au
def nL(P:Program)(h:aq)(src dst:TypeId)(x:AV):Option (AV × aq):=
 match P.underlying src,P.underlying dst,x with
 |some .string,aa (.slice e),.v (.string s)=>
  match P.underlying e,P.info? e with
  |some (.int .u8),aa i=>if i.size=1 then aa (h.fresh 1 (s.data.toList.map lh)) else au
  |_,_=>au
 |some (.slice e),aa .string,x=>
  match P.underlying e,rowsOf h 1 x with
  |some (.int .u8),aa ae=>(bytesOf ae).map λl=>(.v (.string ⟨l.toArray⟩),h)
  |_,_=>au
 |some (.slice e),aa (.slice _),.list (.free t) sz es=>
  match P.underlying e with
  |some (.int .u8)=>if src=dst/\alive h t=ah then aa (.list .held sz es,{h with dead:=t::h.dead}) else au
  |_=>au
 |some (.slice _),aa (.slice _),_=>au
 |some _,aa _,.v x=>((fg P (convert src dst x)).bind ob).map λz=>(z,h)
 |_,_,_=>au
def LA(c a b:AV):Option AV:=
 match c with
 | .v (.bool t)=>aa (if t then a else b)
 |_=>au
def Rb(x:AV):Option AV:=
 match x with
 | .ptr .. | .elem .. | .func (.func _) _ _| .yield _| .iface .. =>aa x
 |_=>au
def xl(parts:Array (Nat × Operand)):Bool:=
 match parts.toList with
 |(_,.const (.int .u8 _))::_::_=>ah
 |_=>az
def dS(P:Program)(G:Nat->Option (List AV))(ρ:Operand->AV)(h:aq)(o:Op):Option (AV × aq):=
 match o with
 | .move x| .assign x=>aa (ρ x,h)
 | .pick c a b=>(LA (ρ c) (ρ a) (ρ b)).map (·,h)
 | .alloc t=>((gZ P t).bind AV.bP).map h.box
 | .box _ x=>((ρ x).bP).map h.box
 | .build t parts=>(mz P t (parts.toList.map λp=>(p.1,ρ p.2))).map (·,h)
 | .buildSlice t len parts=>
  match xl parts with
  |false=>(gf P t len (parts.toList.map λp=>(p.1,ρ p.2))).map (·,h)
  |true=>(match gf P t len (parts.toList.map λp=>(p.1,ρ p.2)) with|some (.list _ sz es)=>aa (h.fresh sz es)|_=>au)
 | .load t a=>(aH P G h t (ρ a)).map (·,h)
 | .store t a x=>(b7 P h t (ρ a) (ρ x)).map (.tuple [],·)
 | .nilCheck x=>(Rb (ρ x)).map (·,h)
 | .binOp op t x y _=>(cY P op t x y (ρ x) (ρ y)).map (·,h)
 | .unOp op _ x=>(Du P op (ρ x)).map (·,h)
 | .convert s d x=>nL P h s d (ρ x)
 | .makeInterface t x=>if isIface P t=aa az then aa (.iface t (ρ x),h) else au
 | .makeFunc fn first aD=>aa (.func fn (first.toList.map ρ) (aD.toList.map ρ),h)
 | .makeSlice t l c=>zx P h t (ρ l) (ρ c)
 | .slice t x lo hi mx=>(iN P t (ρ x) (lo.map ρ) (hi.map ρ) (mx.map ρ)).map (·,h)
 | .fieldAddr s x f=>(gg P s (ρ x) f).map (·,h)
 | .field t x f=>
  match P.underlying t,ρ x with
  |some (.struct fields),.agg cs=>(match fields[f]? with|some fd=>(Iw P fd.type cs fd.offset).map (·,h)|none=>au)
  |_,_=>au
 | .indexAddr t x i=>(dH P t (ρ x) (ρ i)).map (·,h)
 | .index t x i=>(CZ P t (ρ x) (ρ i)).map (·,h)
 | .typeAssert x _ asserted ok=>(yJ P (ρ x) asserted ok).map (·,h)
 | .extract x i=>(match ρ x with| .tuple vs=>(vs[i]?).map (·,h)|_=>au)
 |_=>au
def jH(P:Program)(h:aq)(b:Builtin)(ts:Array TypeId)(ty:TypeId)(args:List AV):Option (AV × aq):=
 match b,args with
 | .len,[x]=>(match ts[0]? with|some t=>(dM P t x).map (·,h)|none=>au)
 | .cap,[x]=>(match ts[0]? with|some t=>(Eh P t x).map (·,h)|none=>au)
 | .append,[s,x]=>gN P h ts s x
 | .copy,[d,s]=>Ar P h ts d s
 | .min,xs=>(match flatAll xs with|some l=>((fg P (Builtin.min_ ts ty l.toArray)).bind ob).map (·,h)|none=>au)
 | .max,xs=>(match flatAll xs with|some l=>((fg P (Builtin.max_ ts ty l.toArray)).bind ob).map (·,h)|none=>au)
 |_,_=>au
def sS(P:Program)(G:Nat->Option (List AV))(d:Option Tmp)(h:aq)(b:Builtin)(ts:Array TypeId)(ty:TypeId)(args:List AV):Option (AV × aq):=
 match b,args with
 | .append,[s,x]=>if Jm G d ty then sC P h ts s x else gN P h ts s x
 |b,args=>jH P h b ts ty args
structure Rec where
 code:Code->Env->aq->Option (Xt × Env × aq)
 call:FuncId->List AV->aq->Option (eY × aq)
 jY:FuncId->List AV->Option (AV × Bool)->aq->Option (eY × Option (AV × Bool) × aq)
 round:Nat->List AV->aq->Option (eY × aq)
def Q4(P:Program)(t:TypeId)(name:String):Option FuncId:=
 match P.info? t with
 |some i=>
  match i.methods.find? (·.name==name) with
  |some m=>
   match m.path.toList,m.func,P.underlying t with
   | [],aa (f,ah),aa (.pointer _)=>aa f
   | [],aa (_,_),aa (.pointer _)=>au
   | [],aa (f,az),aa _=>aa f
   |_,_,_=>au
  |none=>au
 |none=>au
def mA(P:Program)(R:Rec)(e:Env)(h:aq)(c:Call):Option (eY × aq):=
 let args:=c.args.toList.map e.eval
 match c.callee with
 | .builtin _=>au
 | .value f=>
  match e.eval f with
  | .func (.func g) first aD=>R.call g (first++args++aD) h
  | .yield l=>R.round l args h
  |_=>au
 | .invoke r name=>
  match e.eval r with
  | .iface t x=>(match Q4 P t name with|some f=>R.call f (x::args) h|none=>au)
  |_=>au
def eo(P:Program)(G:Nat->Option (List AV))(R:Rec)(e:Env)(h:aq)(o:Oper):Option (eY × Env × aq):=
 match o.op with
 | .call {callee:=.builtin .recover,.. }=>
  if e.round.isSome then au else
  match e.cV with
  |some (x,az)=>aa (.ret x,{e with cV:=aa (x,ah)},h)
  |_=>aa (.ret (.v .nilIface),e,h)
 | .call {callee:=.builtin .panic,args,.. }=>
  match args.toList.map e.eval with
  | [.iface t x]=>aa (.panic (.iface t x),e,h)
  |_=>au
 | .call {callee:=.builtin b,args,argTypes}=>(sS P G o.dst h b argTypes o.type (args.toList.map e.eval)).map λ(x,h)=>(.ret x,e,h)
 | .call c=>(mA P R e h c).map λ(r,h)=>(r,e,h)
 | .defer {callee:=.value f,args,.. }=>
  if e.round.isSome then au else
  match e.eval f with
  | .func (.func g) first aD=>aa (.ret (.tuple []),{e with defers:=(g,first++args.toList.map e.eval++aD)::e.defers},h)
  |_=>au
 | .panic x=>
  match e.eval x with
  | .iface t x=>aa (.panic (.iface t x),e,h)
  |_=>au
 |op=>(dS P G e.eval h op).map λ(x,h)=>(.ret x,e,h)
def fD(ops:Array Oper)(e:Env)(o:Oper):Option Bool:=
 match o.guard with
 |none=>aa ah
 |some (j,want)=>
  match (ops[j]?).bind (·.dst) with
  |none=>aa az
  |some d=>
   match e.get d with
   | .v (.bool b)=>aa (b==want)
   | .tuple []=>aa az
   |_=>au
def di(P:Program)(G:Nat->Option (List AV))(R:Rec)(ops:Array Oper):List Nat->Env->aq->Option (Xt × Env × aq)
 | [],e,h=>aa (.normal,e,h)
 |i::rest,e,h=>
  match ops[i]? with
  |none=>au
  |some o=>
   match fD ops e o with
   |none=>au
   |some az=>di P G R ops rest (e.put o.dst (.tuple [])) h
   |some ah=>
    match eo P G R e h o with
    |some (.ret x,e,h)=>di P G R ops rest (e.put o.dst x) h
    |some (.panic x,e,h)=>aa (.panic x,e,h)
    |none=>au
inductive Class where
 |pure|reads|acts
 deriving DecidableEq,Inhabited
def jI:Op->Class
 | .move _| .assign _| .pick .. | .build .. | .nilCheck _| .binOp .. | .unOp .. | .makeInterface .. | .makeFunc .. | .slice .. | .fieldAddr .. | .field ..
 | .indexAddr .. | .index .. | .typeAssert .. | .extract .. =>.pure
 | .buildSlice _ _ parts=>if xl parts=ah then .acts else .pure
 | .load .. =>.reads
 | .call {callee:=.builtin .len,.. }=>.pure
 |_=>.acts
def Ln(a b:Class):Bool:=
 match a,b with
 | .pure,_|_,.pure=>ah
 | .reads,.reads=>ah
 |_,_=>az
def BO(ops:Array Oper)(b:Array Nat):Bool:=
 (bM ops.size).all λj=>
  match ops[j]? with
  |none=>ah
  |some o=>
   (o.after.all λe=> !Region.binds .any e||decide (e.on<j))&&
   (bM ops.size).all λi=> !(b.getD j 0).testBit i||o.after.any λe=>Region.binds .any e&&(jQ e.on i||(b.getD e.on 0).testBit i)
def zC(ops:Array Oper)(i j:Nat):Bool:=
 match ops[i]?,ops[j]? with
 |some x,aa y=>Ln (jI x.op) (jI y.op)&&x.apart ops y&&y.apart ops x
 |_,_=>az
def Ox(ops:Array Oper):Bool:=
 let b:=Region.before ops
 BO ops b&&(bM ops.size).all λj=>(bM j).all λi=>(b.getD j 0).testBit i||zC ops i j
def qh(ops:Array Oper)(i j:Nat):Bool:=
 match ops[i]?,ops[j]? with
 |some x,aa y=>x.apart ops y&&y.apart ops x
 |_,_=>az
def qx(P:Program)(G:Nat->Option (List AV))(R:Rec)(ops:Array Oper)(e:Env)(h:aq)(r m:Nat):Bool:=
 match ops[r]?,di P G R ops (bM r) e h,di P G R ops (bM m) e h with
 |some o,aa (.normal,er,hr),aa (.normal,_,hm)=>
  (match fD ops er o with
   |some az=>ah
   |some ah=>
    (match o.op with
     | .load t a=>(match aH P G hr t (er.eval a),aH P G hm t (er.eval a) with|some x,aa y=>fc x y|_,_=>az)
     |_=>az)
   |none=>az)
 |_,_,_=>az
def mo(P:Program)(G:Nat->Option (List AV))(R:Rec)(ops:Array Oper)(e:Env)(h:aq)(i j:Nat):Bool:=
 qh ops i j&&
 match (ops[i]?).map λo=>jI o.op,(ops[j]?).map λo=>jI o.op with
 |some .reads,aa .acts=>qx P G R ops e h i (j+1)
 |some .acts,aa .reads=>qx P G R ops e h j i
 |_,_=>az
def Al:Op->Bool
 | .call {callee:=.builtin .recover,.. }=>az
 | .call {callee:=.builtin .panic,.. }=>az
 | .call _=>ah
 | .convert .. =>ah
 |_=>az
def Am(P:Program)(G:Nat->Option (List AV))(R:Rec)(ops:Array Oper)(e:Env)(h:aq)(k:Nat):Prop:=
 ∃o x er hr,ops[k]?=aa o/\Al o.op=ah/\di P G R ops (bM k) e h=aa (.normal,er,hr)/\
  ∀m,m<=ops.size->∃em hm,di P G R ops (bM m) e h=aa (.normal,em,hm)/\eo P G R er hm o=aa (.ret x,er,hm)
noncomputable def nk(P:Program)(G:Nat->Option (List AV))(R:Rec)(ops:Array Oper)(e:Env)(h:aq)(k:Nat):Bool:=@decide (Am P G R ops e h k) (Classical.propDecidable _)
noncomputable def mQ(P:Program)(G:Nat->Option (List AV))(R:Rec)(ops:Array Oper)(e:Env)(h:aq):Bool:=
 let b:=Region.before ops
 BO ops b&&(bM ops.size).all λj=>(bM j).all λi=>(b.getD j 0).testBit i||zC ops i j||mo P G R ops e h i j||(qh ops i j&&(nk P G R ops e h i||nk P G R ops e h j))
def Kg(ops:Array Oper)(k j:Nat):Bool:=
 match ops[k]? with
 |some o=>o.after.any λed=>Region.binds .any ed&&jQ ed.on j
 |none=>az
def amn(ops:Array Oper)(d m:Nat):Bool:=
 match ops[m]? with
 |some o=>(match o.op with| .load _ x=>(match x with| .tmp t=> !Nat.beq t d|_=>ah)|_=>az)&&(o.guard.isNone&&(match o.dst with|some q=> !Nat.beq q d|none=>ah))
 |none=>az
def gP(ops:Array Oper)(i j:Nat):Array Oper:=⟨ops.toList.mapIdx λk o=>if k=j then {o with after:=o.after.push {on:=i,ground:=.data}} else o⟩
def zr(ops:Array Oper)(k:Nat):Bool:=
 match ops[k]? with
 |some o=>(match o.op with| .store _ _ _=>ah|_=>az)&&(o.guard.isNone&&o.dst.isNone)
 |none=>az
def aak(ops:Array Oper)(k:Nat):Bool:=
 match ops[k]? with
 |some o=>decide (jI o.op=.pure)|none=>az
def Fu(ops:Array Oper)(i:Nat):Bool:=
 BO ops (Region.before ops)&&(decide (i+1<ops.size)&&(zr ops i&&(zr ops (ops.size - 1)&&(bM (ops.size - 1)).all λk=>jQ k i||(((Region.before ops).getD (ops.size - 1) 0).testBit k||(aak ops k&&qh ops k (ops.size - 1))))))
def sd(ops:Array Oper)(k:Nat)(e:Env):Option Nat:=
 match ops[k]? with
 |some o=>(match o.op with| .store _ a _=>(match e.eval a with| .ptr (.box b) _=>aa b|_=>au)|_=>au)
 |none=>au
def tF(P:Program)(G:Nat->Option (List AV))(R:Rec)(ops:Array Oper)(e:Env)(h:aq)(i:Nat):Bool:=
 match di P G R ops (bM i) e h,di P G R ops (bM (ops.size - 1)) e h with
 |some (.normal,ei,_),aa (.normal,en,_)=>
  (match sd ops i ei,sd ops (ops.size - 1) en with
   |some a,aa b=> !Nat.beq a b
   |_,_=>az)
 |_,_=>az
noncomputable def uC(P:Program)(G:Nat->Option (List AV))(R:Rec)(ops:Array Oper)(e:Env)(h:aq):Bool:=(bM ops.size).any λi=>Fu ops i&&(tF P G R ops e h i&&mQ P G R (gP ops i (ops.size - 1)) e h)
def quiet(o:Oper):Oper:={o with dst:=au,op:=.move (.const (.bool ah)),guard:=au}
def EX(ops:Array Oper)(k i:Nat):Bool:=jQ i k||((Region.before ops).getD i 0).testBit k
def cut(ops:Array Oper)(k:Nat):Array Oper:=⟨ops.toList.mapIdx λi o=>if EX ops k i=ah then quiet o else o⟩
def agq(ops:Array Oper)(i:Nat):Bool:=
 match ops[i]? with
 |some o=>decide (jI o.op≠ .acts)|none=>ah
def Wv(ops:Array Oper)(k i:Nat):Bool:=
 match ops[i]? with
 |some o=>(match o.guard with|some (j,_)=> !EX ops k j|none=>ah)
 |none=>ah
def aia(ops:Array Oper)(k i:Nat):Option Tmp:=
 if (EX ops k i||((Region.before (cut ops k)).getD k 0).testBit i)=ah then au else (ops[i]?).bind (·.dst)
def FO(params:List Tmp)(args:List AV)(tmps:qc):qc:=(params.zip args).foldl (λts p=>ts.set p.1 p.2) tmps
section
variable (P:Program) (G:Nat->Option (List AV)) (R:Rec)
noncomputable def fM:Code->Env->aq->Option (Xt × Env × aq)
 | .skip,e,h| .label _,e,h=>aa (.normal,e,h)
 | .region _ ops draw,e,h=>
  if draw then
   if mQ P G R ops e h||uC P G R ops e h then
    match di P G R ops (bM ops.size) e h with
    |some (.normal,e,h)=>aa (.normal,e,h)
    |_=>au
   else au
  else di P G R ops (bM ops.size) e h
 | .seq a b,e,h=>
  match R.code a e h with
  |some (.normal,e,h)=>R.code b e h
  |r=>r
 | .cond c a b,e,h=>
  match e.eval c with
  | .v (.bool ah)=>R.code a e h
  | .v (.bool az)=>R.code b e h
  |_=>au
 | .block id c,e,h=>
  match R.code c e h with
  |some (.exit id',e,h)=>if id'=id then aa (.normal,e,h) else aa (.exit id',e,h)
  |r=>r
 | .loop c,e,h=>
  match R.code c e h with
  |some (.normal,e,h)=>R.code (.loop c) e h
  |r=>r
 | .scope c,e,h=>R.code c e h
 | .exit id,e,h=>aa (.exit id,e,h)
 | .ret,e,h=>aa (.ret,e,h)
 | .rangeFunc f params assign body,e,h=>
  match e.eval f with
  | .func (.func g) first aD=>
   match R.call g (first++[.yield h.loops.length]++aD)
    {h with loops:=h.loops++[{tmps:=e.tmps,params,assign,body,state:=.ready,pending:=au}]} with
   |some (.ret _,h')=>
    match h'.loops[h.loops.length]? with
    |some r=>
     if r.state=.busy then au else
     match r.pending with
     |none=>aa (.normal,e,{h' with loops:=h'.loops.set h.loops.length {r with state:=.exhausted}})
     |some .ret=>aa (.ret,e,{h' with loops:=h'.loops.set h.loops.length {r with state:=.exhausted}})
     |some (.exit id)=>aa (.exit id,e,{h' with loops:=h'.loops.set h.loops.length {r with state:=.exhausted}})
     |_=>au
    |none=>au
   |some (.panic x,h')=>aa (.panic x,e,h')
   |none=>au
  |_=>au
 |_,_,_=>au
def wE(e:Env)(h:aq):List ResultVar->Option (List AV)
 | []=>aa []
 | .tmp t::r=>(wE e h r).map (e.get t::·)
 | .cell a t::r=>
  match aH P G h t (e.get a),wE e h r with
  |some x,aa l=>aa (x::l)
  |_,_=>au
def IE(fn:Func)(e:Env)(h:aq):Option AV:=
 match wE P G e h fn.results.toList with
 |some [x]=>aa x
 |some l=>aa (.tuple l)
 |none=>au
def iq(fn:Func)(e:Env):List (FuncId × List AV)->Option (AV × Bool)->aq->Option (eY × aq)
 | [],au,h=>(IE P G fn e h).map λx=>(.ret x,h)
 | [],aa (x,_),h=>aa (.panic x,h)
 |(g,args)::ds,m,h=>
  match R.jY g args m h with
  |some (.ret _,aa (_,ah),h)=>iq fn e ds au h
  |some (.ret _,m,h)=>iq fn e ds m h
  |_=>au
def sO(g:FuncId)(args:List AV)(m:Option (AV × Bool))(h:aq):Option (eY × Option (AV × Bool) × aq):=
 match P.funcs[g]? with
 |none=>au
 |some fn=>
  match fn.body with
  |none=>au
  |some body=>
   match R.code body {tmps:={ch:=[],base:=args},defers:=[],cV:=m,round:=au} h with
   |some (.normal,e,h)|some (.ret,e,h)=>(iq P G R fn e e.defers au h).map λ(r,h)=>(r,e.cV,h)
   |some (.panic x,e,h)=>(iq P G R fn e e.defers (aa (x,az)) h).map λ(r,h)=>(r,e.cV,h)
   |_=>au
def rL(prims:FuncId->Option (List AV->aq->Option (AV × aq)))(g:FuncId)(args:List AV)(h:aq):Option (eY × aq):=
 match prims g with
 |some p=>(p args h).map λ(x,h)=>(.ret x,h)
 |none=>(sO P G R g args au h).map λ(r,_,h)=>(r,h)
def wG(l:Nat)(args:List AV)(h:aq):Option (eY × aq):=
 match h.loops[l]? with
 |none=>au
 |some r=>
  if r.params.size=args.length then
   match R.code r.assign {tmps:=FO r.params.toList args r.tmps,defers:=[],cV:=au,round:=aa l} h with
   |some (.normal,e,h)=>
    match h.loops[l]? with
    |some r2=>
     if r2.state=.ready then
      match R.code r.body e {h with loops:=h.loops.set l {r2 with state:=.busy}} with
      |some (.normal,_,h)=>(h.loops[l]?).map λr=>(.ret (.v (.bool ah)),{h with loops:=h.loops.set l {r with state:=.ready,pending:=au}})
      |some (.ret,_,h)=>(h.loops[l]?).map λr=>(.ret (.v (.bool az)),{h with loops:=h.loops.set l {r with state:=.done,pending:=aa .ret}})
      |some (.exit id,_,h)=>(h.loops[l]?).map λr=>(.ret (.v (.bool az)),{h with loops:=h.loops.set l {r with state:=.done,pending:=aa (.exit id)}})
      |some (.panic x,_,h)=>aa (.panic x,h)
      |none=>au
     else au
    |none=>au
   |_=>au
  else au
end
noncomputable def iM(P:Program)(G:Nat->Option (List AV))(prims:FuncId->Option (List AV->aq->Option (AV × aq)))(n:Nat):Rec:=
 Nat.rec (motive:=λ_=>Rec) {code:=λ_ _ _=>au,call:=λ_ _ _=>au,jY:=λ_ _ _ _=>au,round:=λ_ _ _=>au}
  (λ_ R=>{code:=fM P G R,call:=rL P G R prims,jY:=sO P G R,round:=wG R}) n
end Go.AE
end
section
namespace Go.AE
open Go.RowKit (Below)
def IA{α}{P}:∀{e:Sem α} {a:α},fg P e=aa a->∀w,e.run P w=.ok a w:=by
 intro e
 induction e with
 |pure a=>intro b h w;simp[fg] at h;subst h;rfl|program k ih=>intro b h w;simp only[fg] at h;simp only[Sem.run];exact ih _ h w|mark m k ih=>intro b h w;simp only[fg] at h;simp only[Sem.run];exact ih h w|_=>intro b h;simp[fg] at h
structure aW where
 base:Nat
 ic:Nat->Nat->Option Value
 β:List Nat
 γ:List Nat
 tn:Nat
 tk:Nat->Nat × Nat × Nat
 md:List Nat
 lb:Nat->Option (Nat × Nat × Nat)
structure aW.Le(K K':aW):Prop where
 base:K'.base=K.base
 ic:∀g j c,K.ic g j=aa c->K'.ic g j=aa c
 β:∀b g:Nat,K.β[b]?=aa g->K'.β[b]?=aa g
 γ:∀l g:Nat,K.γ[l]?=aa g->K'.γ[l]?=aa g
 tn:K.tn<=K'.tn
 tk:∀t,t<K.tn->K'.tk t=K.tk t
 md:∀r∈K.md,r∈K'.md
 lb:∀b,b<K.β.length->K'.lb b=K.lb b
 new:∀g j c,K'.ic g j=aa c->K.ic g j=aa c∨K.base<=g
def aW.Le.refl(K:aW):K.Le K:=⟨rfl,λ_ _ _ h=>h,λ_ _ h=>h,λ_ _ h=>h,aJ _,λ_ _=>rfl,λ_ h=>h,λ_ _=>rfl,λ_ _ _ h=>.inl h⟩
def aW.Le.len{K K':aW}(h:K.Le K'){b}(hb:b<K.β.length):b<K'.β.length:=(aS.1 (h.β b _ (aR hb))).1
def aW.Le.trans{A B C:aW}(h:A.Le B)(k:B.Le C):A.Le C:=
 ⟨k.base.trans h.base,λg j c hc=>k.ic g j c (h.ic g j c hc),λb g hb=>k.β b g (h.β b g hb),λb g hb=>k.γ b g (h.γ b g hb),fw h.tn k.tn,
  λt ht=>(k.tk t (ni ht h.tn)).trans (h.tk t ht),λr hr=>k.md r (h.md r hr),λb hb=>(k.lb b (h.len hb)).trans (h.lb b hb),λg j c hc=>(k.new g j c hc).elim (h.new g j c) λq=>.inr (by rw[<-h.base];exact q)⟩
def wY(K:aW)(k:Tok)(g off sz n aD:Nat):Prop:=
 n<=aD/\match k with
  | .nil=>False
  | .tight=>aD=n
  | .free t=>t<K.tn/\(K.tk t).1=g/\(K.tk t).2.1=off+n * sz/\off+aD * sz<=(K.tk t).2.2
  | .held=>True
def wY.mono{K K'}(h:K.Le K'){k}{g off sz n aD}(ht:wY K k g off sz n aD):wY K' k g off sz n aD:=by
 refine⟨ht.1,?_⟩;have h2:=ht.2;cases k with|free t=>simp only at h2 ⊢;rw[h.tk t h2.1];exact⟨ni h2.1 h.tn,h2.2⟩|_=>exact h2
mutual
inductive aX (K:aW):AV->Value->Prop
 |bad (c:Value):aX K .bad c
 |v (x:Value) (h:scalar x=ah):aX K (.v x) x
 |nil (sz:Nat):aX K (.list .nil sz []) (.slice au 0 0)
 |jv (sz:Nat) (a:Addr):aX K (.list .tight sz []) (.slice (aa a) 0 0)
 |list (k:Tok) (sz:Nat) (es:List (List AV)) (g off n aD:Nat) (cells:List Value) (hn:n=es.length) (hr:∀r∈es,r.length=sz)
  (hv:aQ K es.flatten cells) (hc:∀j c,cells[j]?=aa c->K.ic g (off+j)=aa c) (ht:wY K k g off sz n aD)
  (ha:es.flatten.all AV.ek=ah):aX K (.list k sz es) (.slice (aa ⟨g,off,au⟩) n aD)
 |arr (b g off len aD fH iJ:Nat) (hb:K.β[b]?=aa g) (hl:len<=aD) (hc:aD<=iJ) (ho:fH=off∨aD=0)
  (hr:iJ=aD∨aD=0∨off≠0∨∃sz room,K.lb b=aa (aD,sz,room)/\0<sz/\iJ * sz<=room):aX K (.arr b off len aD) (.slice (aa ⟨g,fH,au⟩) len iJ)
 |agg (cs:List AV) (vs:Array Value) (h:aQ K cs vs.toList):aX K (.agg cs) (.agg vs)
 |tuple (cs:List AV) (vs:Array Value) (h:aQ K cs vs.toList):aX K (.tuple cs) (.tuple vs)
 |box (b g off:Nat) (hb:K.β[b]?=aa g):aX K (.ptr (.box b) off) (.pointer (aa ⟨g,off,au⟩))
 |eV (g off:Nat):aX K (.ptr (.eV g) off) (.pointer (aa ⟨g,off,au⟩))
 |elem (sz:Nat) (es:List (List AV)) (i off g o p:Nat) (cells:List Value) (hr:∀r∈es,r.length=sz) (hv:aQ K es.flatten cells)
  (hc:∀j c,cells[j]?=aa c->K.ic g (o+j)=aa c) (hi:i<es.length) (hp:p=o+i * sz+off)
  (ha:es.flatten.all AV.ek=ah):aX K (.elem sz es i off) (.pointer (aa ⟨g,p,au⟩))
 |func (fn:Fn) (first aD:List AV) (fs cs:Array Value) (h1:aQ K first fs.toList) (h2:aQ K aD cs.toList):aX K (.func fn first aD) (.func fn fs cs)
 |yield (l g:Nat) (h:K.γ[l]?=aa g):aX K (.yield l) (.func (.yield g) #[] #[])
 |iface (t:TypeId) (x:AV) (c:Value) (h:aX K x c):aX K (.iface t x) (.iface t c)
inductive aQ (K:aW):List AV->List Value->Prop
 |nil:aQ K [] []
 |cons (x:AV) (c:Value) (xs:List AV) (cs:List Value) (h:aX K x c) (hs:aQ K xs cs):aQ K (x::xs) (c::cs)
end
mutual
def aX.mono{K K':aW}(h:K.Le K'):∀{x:AV} {c:Value},aX K x c->aX K' x c
 |_,_,.bad c=>.bad c
 |_,_,.v x hx=>.v x hx
 |_,_,.nil sz=>.nil sz
 |_,_,.jv sz a=>.jv sz a
 |_,_,.list k sz es g off n aD cells hn hr hv hc ht ha=>.list k sz es g off n aD cells hn hr (aQ.mono h hv) (λj c hj=>h.ic _ _ _ (hc j c hj)) (ht.mono h) ha
 |_,_,.arr b g off len aD fH iJ hb hl hc ho hr=>.arr b g off len aD fH iJ (h.β _ _ hb) hl hc ho (by rw[h.lb b (aS.1 hb).1];exact hr)
 |_,_,.agg cs vs hv=>.agg cs vs (aQ.mono h hv)
 |_,_,.tuple cs vs hv=>.tuple cs vs (aQ.mono h hv)
 |_,_,.box b g off hb=>.box b g off (h.β _ _ hb)
 |_,_,.eV g off=>.eV g off
 |_,_,.elem sz es i off g o p cells hr hv hc hi hp ha=>.elem sz es i off g o p cells hr (aQ.mono h hv) (λj c hj=>h.ic _ _ _ (hc j c hj)) hi hp ha
 |_,_,.func fn first aD fs cs h1 h2=>.func fn first aD fs cs (aQ.mono h h1) (aQ.mono h h2)
 |_,_,.yield l g hl=>.yield l g (h.γ _ _ hl)
 |_,_,.iface t x c hx=>.iface t x c (aX.mono h hx)
def aQ.mono{K K':aW}(h:K.Le K'):∀{xs:List AV} {cs:List Value},aQ K xs cs->aQ K' xs cs
 |_,_,.nil=>.nil
 |_,_,.cons x c xs cs hx hs=>.cons x c xs cs (aX.mono h hx) (aQ.mono h hs)
end
def E7:Value->Bool
 | .agg _| .tuple _=>az
 |_=>ah
section
variable {K:aW}
def aQ.length{xs:List AV}{cs:List Value}(h:aQ K xs cs):xs.length=cs.length:=by
 induction xs generalizing cs with
 |nil=>cases h;rfl
 |cons x xs ih=>cases h with|cons _ _ _ _ _ hs=>simp[ih hs]
def aQ.get{xs:List AV}{cs:List Value}(h:aQ K xs cs):∀{i:Nat} {x:AV},xs[i]?=aa x->∃c,cs[i]?=aa c/\aX K x c:=by
 induction xs generalizing cs with
 |nil=>intro i x hx;simp at hx|cons y xs ih=>
  cases h with
  |cons _ c _ cs hy hs=>
   intro i x hx;cases i with|zero=>simp at hx;subst hx;exact⟨c,rfl,hy⟩|succ i=>exact ih hs (by simpa using hx)
def aQ.get'{xs:List AV}{cs:List Value}(h:aQ K xs cs):∀{i:Nat} {c:Value},cs[i]?=aa c->∃x,xs[i]?=aa x/\aX K x c:=by
 induction xs generalizing cs with
 |nil=>cases h;intro i x hx;simp at hx
 |cons y xs ih=>
  cases h with
  |cons _ c _ cs hy hs=>
   intro i x hx;cases i with|zero=>simp at hx;subst hx;exact⟨y,rfl,hy⟩|succ i=>exact ih hs (by simpa using hx)
def aQ.of{xs:List AV}{cs:List Value}(hl:xs.length=cs.length)(h:∀(i:Nat) (x:AV) (c:Value),xs[i]?=aa x->cs[i]?=aa c->aX K x c):aQ K xs cs:=by
 induction xs generalizing cs with
 |nil=>cases cs with|nil=>exact .nil|cons _ _=>simp at hl
 |cons y xs ih=>
  cases cs with|nil=>simp at hl|cons c cs=>exact .cons _ _ _ _ (h 0 y c rfl rfl) (ih (by simpa using hl) λi x c hx hc=>h (i+1) x c (by simpa using hx) (by simpa using hc))
def aQ.append{xs ys:List AV}{cs ds:List Value}(h:aQ K xs cs)(k:aQ K ys ds):aQ K (xs++ys) (cs++ds):=by
 induction xs generalizing cs with
 |nil=>cases h;exact k
 |cons y xs ih=>cases h with|cons _ _ _ _ hy hs=>exact .cons _ _ _ _ hy (ih hs)
def aQ.take{xs:List AV}{cs:List Value}(h:aQ K xs cs)(n:Nat):aQ K (xs.take n) (cs.take n):=by
 refine .of (by simp[h.length]) λi x c hx hc=>?_;simp only[oJ] at hx hc;split at hx
 ·rename_i hi;rw[aG hi] at hc;obtain⟨c',iC,hr⟩:=h.get hx;rw[hc] at iC;injection iC with e;subst e;exact hr
 ·cases hx
def aQ.drop{xs:List AV}{cs:List Value}(h:aQ K xs cs)(n:Nat):aQ K (xs.drop n) (cs.drop n):=by refine .of (by simp[h.length]) λi x c hx hc=>?_;simp only[pD] at hx hc;obtain⟨c',iC,hr⟩:=h.get hx;rw[hc] at iC;injection iC with e;subst e;exact hr
def aQ.set{xs:List AV}{cs:List Value}(h:aQ K xs cs)(i:Nat){x:AV}{c:Value}(hx:aX K x c):aQ K (xs.set i x) (cs.set i c):=by
 refine .of (by simp[h.length]) λj y d hy hd=>?_;simp only[mL] at hy hd;split at hy
 ·rename_i e;subst e;rw[aG rfl] at hd;split at hy
  ·rename_i aA;rw[aG (h.length ▸ aA)] at hd;injection hy with hy;injection hd with hd;subst hy;subst hd;exact hx
  ·cases hy
 ·rename_i e;rw[aI e] at hd;obtain⟨c',iC,hr⟩:=h.get hy;rw[hd] at iC;injection iC with e;subst e;exact hr
def aQ.map_mk{α:Type}{l:List α}{f:α->AV}{f':α->Value}(h:∀a∈l,aX K (f a) (f' a)):aQ K (l.map f) (l.map f'):=by
 induction l with
 |nil=>exact .nil|cons a l ih=>exact .cons _ _ _ _ (h a bE) (ih λb hb=>h b (by simp[hb]))
def aX.iV{x:Value}{c:Value}(h:aX K (.v x) c):c=x/\scalar x=ah:=by cases h with|v _ h=>exact⟨rfl,h⟩
def OH:∀{cs:List AV} {l:List Value},Cc cs=aa l->∀{vs:List Value},aQ K cs vs->vs=l
 | [],l,h,_,hv=>by cases hv;simp[Cc] at h;exact h.symm ▸ rfl
 | .v x::r,l,h,_,hv=>by
  cases hv with|cons _ c _ cs hx hs=>simp only[Cc,dx] at h;obtain⟨l',tg,rfl⟩:=h;rw[(aX.iV hx).1,OH tg hs]
 | .bad::_,_,h,_,_| .list .. ::_,_,h,_,_| .arr .. ::_,_,h,_,_| .agg _::_,_,h,_,_| .tuple _::_,_,h,_,_| .ptr .. ::_,_,h,_,_
 | .elem .. ::_,_,h,_,_| .func .. ::_,_,h,_,_| .yield _::_,_,h,_,_| .iface .. ::_,_,h,_,_=>by simp[Cc] at h
def Kq{x:AV}{p:Value}(h:x.flat=some p){c:Value}(hv:aX K x c):c=p:=by
 unfold AV.flat at h;split at h
 ·injection h with h;subst h;exact(aX.iV hv).1
 ·simp only[dx] at h;obtain⟨l,hl,rfl⟩:=h;cases hv with|agg _ vs hs=>rw[<-OH hl hs]
 ·injection h with h;subst h;cases hv with|iface _ _ _ hx=>rw[(aX.iV hx).1]
 ·simp only[dx] at h;obtain⟨l,hl,rfl⟩:=h;cases hv with|iface _ _ _ hx=>cases hx with|agg _ vs hs=>rw[<-OH hl hs]
 ·injection h with h;subst h;cases hv with|nil=>rfl|list _ _ _ _ _ _ _ _ _ _ _ _ ht _=>exact ht.2.elim
 ·cases h
def OG:∀{xs:List AV} {l:List Value},flatAll xs=aa l->∀{vs:List Value},aQ K xs vs->vs=l
 | [],l,h,_,hv=>by cases hv;simp[flatAll] at h;exact h.symm ▸ rfl
 |x::r,l,h,_,hv=>by
  cases hv with
  |cons _ c _ cs hx hs=>
   simp only[flatAll] at h;split at h
   ·rename_i v l' h1 h2;injection h with h;subst h;rw[Kq h1 hx,OG h2 hs]
   ·cases h
def Ja{z:Value}{x:AV}(h:ob z=aa x):aX K x z:=by
 unfold ob at h;split at h
 ·injection h with h;subst h;exact .v _ ‹_›
 ·cases h
def Re(x:Value):aX K (wh x) x:=by
 unfold wh;split
 ·exact .nil 0
 ·split
  ·exact .v _ ‹_›
  ·exact .bad _
def Lt(x:Value):aX K (tC x) x:=by
 unfold tC;split
 ·rename_i cs;refine .agg _ _ ?_;have:aQ K (cs.toList.map wh) (cs.toList.map id):=aQ.map_mk λa _=>Re a;simpa using this
 ·split
  ·rename_i vs h;have:vs=#[]:=(by simpa using h);subst this;exact .tuple _ _ .nil
  ·exact .bad _
 ·exact .iface _ _ _ (Re _)
 ·exact Re _
def J9{x:AV}{cs:List AV}(h:x.bP=aa cs){c:Value}(hv:aX K x c):aQ K cs c.cells.toList/\cs.all AV.ek=ah:=by
 unfold AV.bP at h;split at h
 ·split at h
  ·rename_i ha;injection h with h;subst h;cases hv with|agg _ vs hs=>exact⟨hs,ha⟩
  ·cases h
 ·cases h
 ·cases h
 ·rename_i h1 h2 h3;injection h with h;subst h;have qP:x.ek=ah:=by cases x<;>first|rfl|exact absurd rfl (h1 _)|exact absurd rfl (h2 _)|exact absurd rfl h3
  refine⟨?_,by simp[qP]⟩;have:c.cells=#[c]:=by cases hv<;>first|rfl|exact absurd rfl (h1 _)|exact absurd rfl (h2 _)|exact absurd rfl h3|(cases c<;>first|rfl|simp[scalar] at *)
  rw[this];exact .cons _ _ _ _ hv .nil
def alA{c}(h:scalar c=ah):E7 c=ah:=by cases c<;>first|rfl|simp[scalar] at h
def alz{x:AV}(h:x.ek=ah){c:Value}(hv:aX K x c):E7 c=ah:=by cases hv<;>first|rfl|exact alA ‹_›|(simp[AV.ek] at h;done)
end
def zT(K:aW)(b:Nat)(cs:List AV)(cells:Array Value):Prop:=
 aQ K cs (cells.toList.take cs.length)/\∀N sz room,K.lb b=aa (N,sz,room)->cs=[]∨(cs.length=N * sz/\room<=cells.size)
def zT.mono{K K'}(h:K.Le K'){b}(hb:b<K.β.length){cs}{cells}(r:zT K b cs cells):zT K' b cs cells:=
 ⟨r.1.mono h,by rw[h.lb b hb];exact r.2⟩
def zT.nil{K}{b}{cells}:zT K b [] cells:=⟨.nil,λ_ _ _ _=>.inl rfl⟩
def zT.le{K}{b}{cs}{cells}(r:zT K b cs cells):cs.length<=cells.size:=by have:=r.1.length;rw[eS] at this;simp only[ym] at this;omega
def mN(K:aW)(s:qc)(tmps:Array Value):Prop:=∀t,aX K (s.get t) (tmps.getD t undef)
def mN.mono{K K'}(h:K.Le K'){s}{tmps}(hs:mN K s tmps):mN K' s tmps:=λt=>(hs t).mono h
structure bR(K:aW)(G:Nat->Option (List AV))(ok:FuncId->Nat->Code->Bool)(w0:World)(h:aq)(w:World):Prop where
 dh:Below K.base w0 w
 size:K.base<=w.heap.size
 ic:∀g j c,K.ic g j=aa c->w.cell? ⟨g,j,au⟩=aa c
 eV:∀g cs,G g=aa cs->∃cells,aQ K cs cells/\∀(j:Nat) (c:Value),cells[j]?=aa c->K.ic g j=aa c
 ma:K.β.length=h.boxes.length
 qD:∀(b b' g:Nat),K.β[b]?=aa g->K.β[b']?=aa g->b=b'∨h.boxes[b]?=aa []∨h.boxes[b']?=aa []
 box:∀(b g:Nat) (cs:List AV),K.β[b]?=aa g->h.boxes[b]?=aa cs->
  K.base<=g/\(∀j,K.ic g j=au)/\cs.all AV.ek=ah/\∃cells e,w.heap[g]?=aa (.cells cells e (0,0))/\zT K b cs cells
 oH:K.γ.length=h.loops.length
 rv:∀(b b' g:Nat),K.γ[b]?=aa g->K.γ[b']?=aa g->b=b'
 loop:∀(l g:Nat) (r:iI),K.γ[l]?=aa g->h.loops[l]?=aa r->K.base<=g/\∃fn tmps d,
  w.heap[g]?=aa (.loop {state:=r.state,pending:=r.pending,fn,tmps,params:=r.params,assign:=r.assign,body:=r.body,defers:=d})/\
  mN K r.tmps tmps/\ok fn tmps.size r.assign=ah/\ok fn tmps.size r.body=ah/\∀p∈r.params.toList,p<tmps.size
 tn:K.tn=h.tn
 tok:∀t,alive h t=ah->K.base<=(K.tk t).1/\(∀b:Nat,K.β[b]?≠aa (K.tk t).1)/\(∀j,(K.tk t).2.1<=j->K.ic (K.tk t).1 j=au)/\
  ∃cells e fz,w.heap[(K.tk t).1]?=aa (.cells cells e fz)/\cells.size=(K.tk t).2.2/\
   ∀j,(K.tk t).2.1<=j->j<cells.size->w.frozen? ⟨(K.tk t).1,j,au⟩=az
 qA:∀t t',alive h t=ah->alive h t'=ah->(K.tk t).1=(K.tk t').1->t=t'
 md:∀r∈K.md,K.base<=r/\w.heap[r]?=aa (.deferred (aa []))
 all:K.base=w0.heap.size
def Addr.mO(g o n):(⟨g,o,au⟩:Addr).add n=⟨g,o+n,au⟩:=by
 unfold Addr.add;split
 ·subst_vars;rfl
 ·rfl
def uM{h}{t}(ha:alive h t=ah):t<h.tn:=by unfold alive at ha;simp at ha;exact ha.1
section
variable {K:aW} {G:Nat->Option (List AV)} {ok:FuncId->Nat->Code->Bool} {w0 w:World} {h:aq}
def bR.A7(s:bR K G ok w0 h w){g j:Nat}{c:Value}(hc:K.ic g j=aa c):g<w.heap.size:=by
 have:=s.ic g j c hc;unfold World.cell? at this;rcases dW g w.heap.size with aA|eg
 ·exact aA
 ·simp[yl eg] at this
def bR.same{w':World}(s:bR K G ok w0 h w)(hh:w'.heap=w.heap)(ht:w'.tape=w.tape)(ho:w'.os=w.os)(hp:w'.output=w.output):bR K G ok w0 h w':=by
 have hc:∀a,w'.cell? a=w.cell? a:=λa=>by simp[World.cell?,hh]
 have hf:∀a,w'.frozen? a=w.frozen? a:=λa=>by simp[World.frozen?,hh]
 refine⟨⟨ho.trans s.dh.os,ht.trans s.dh.tape,hp.trans s.dh.output,by rw[hh];exact s.dh.size,λk hk=>by rw[hh];exact s.dh.block k hk⟩,by rw[hh];exact s.size,
  λg j c hg=>(hc _).trans (s.ic g j c hg),s.eV,s.ma,s.qD,λb g cs hb hc=>by rw[hh];exact s.box b g cs hb hc,s.oH,s.rv,
  λl g r hl hr=>by rw[hh];exact s.loop l g r hl hr,s.tn,λt ht=>?_,s.qA,λr hr=>by rw[hh];exact s.md r hr,s.all⟩
 obtain⟨h1,h2,h3,cells,e,fz,h4,h5,h6⟩:=s.tok t ht;exact⟨h1,h2,h3,cells,e,fz,by rw[hh];exact h4,h5,λj hj hl=>(hf _).trans (h6 j hj hl)⟩
def bR.drew(s:bR K G ok w0 h w)(n:Nat):bR K G ok w0 h {w with drawn:=n}:=s.same rfl rfl rfl rfl
def Cu(w:World)(o){k}(hk:k<w.heap.size):(w.heap.push o)[k]?=w.heap[k]?:=by rw[Array.getElem?_push,aI ag]
def o9{w:World}{g}{o}(h:w.heap[g]?=aa o):g<w.heap.size:=by
 rcases dW g w.heap.size with aA|eg
 ·exact aA
 ·rw[yl eg] at h;cases h
def bR.push(s:bR K G ok w0 h w)(o:Obj):bR K G ok w0 h {w with heap:=w.heap.push o}:=by
 have hk:∀{k:Nat} {o':Obj},w.heap[k]?=aa o'->(w.heap.push o)[k]?=aa o':=λhk=>(Cu w o (o9 hk)).trans hk;refine⟨⟨s.dh.os,s.dh.tape,s.dh.output,by have:=s.dh.size;simp;omega,λk hk=>(Cu w o (ni hk s.size)).trans (s.dh.block k hk)⟩,by have:=s.size;simp;omega,
  λg j c hg=>?_,s.eV,s.ma,s.qD,λb g cs hb hc=>?_,s.oH,s.rv,λl g r hl hr=>?_,s.tn,λt ht=>?_,s.qA,λr hr=>?_,s.all⟩
 ·rw[<-s.ic g j c hg];exact World.cell?_of_block (w:=w) (Cu w o (s.A7 hg))
 ·obtain⟨h1,h2,ha,cells,e,h3,h4⟩:=s.box b g cs hb hc;exact⟨h1,h2,ha,cells,e,hk h3,h4⟩
 ·obtain⟨h1,fn,tmps,d,h2,h3⟩:=s.loop l g r hl hr;exact⟨h1,fn,tmps,d,hk h2,h3⟩
 ·obtain⟨h1,h2,h3,cells,e,fz,h4,h5,h6⟩:=s.tok t ht;refine⟨h1,h2,h3,cells,e,fz,hk h4,h5,λj hj hl=>?_⟩;rw[<-h6 j hj hl];exact World.frozen?_of_block (w:=w) (Cu w o (o9 h4))
 ·exact⟨(s.md r hr).1,hk (s.md r hr).2⟩
def vQ{α:Type}{l}{x}{i:Nat}{y:α}(h:l[i]?=aa y):(l++[x])[i]?=aa y:=by rw[sH (aS.1 h).1];exact h
def s9{α:Type}{l}{x}{i}{y:α}(h:(l++[x])[i]?=aa y):l[i]?=aa y∨(i=l.length/\y=x):=by
 rcases Nat.lt_trichotomy i l.length with aA|mD|HA
 ·rw[sH aA] at h;exact .inl h
 ·subst mD;simp at h;exact .inr ⟨rfl,h.symm⟩
 ·rw[List.getElem?_eq_none (by simp;omega)] at h;cases h
def aW.pJ(K:aW)(g:Nat)(x:Option (Nat × Nat × Nat)):aW:={K with β:=K.β++[g],lb:=λb=>if b=K.β.length then x else K.lb b}
def aW.box(K:aW)(g:Nat):aW:=K.pJ g au
def aW.Fg(K:aW)(g)(x):K.Le (K.pJ g x):=
 ⟨rfl,λ_ _ _ h=>h,λ_ _ h=>vQ h,λ_ _ h=>h,aJ _,λ_ _=>rfl,λ_ h=>h,λb hb=>aI ag,λ_ _ _ h=>.inl h⟩
def aW.QQ(K:aW)(g):K.Le (K.box g):=K.Fg g au
def bR.Q9(s:bR K G ok w0 h w){cs:List AV}{cells:Array Value}(e:TypeId)(x:Option (Nat × Nat × Nat))(hv:aQ K cs (cells.toList.take cs.length))(qO:cs.all AV.ek=ah)
 (hx:∀N sz room,x=aa (N,sz,room)->cs=[]∨(cs.length=N * sz/\room<=cells.size)):
 bR (K.pJ w.heap.size x) G ok w0 {h with boxes:=h.boxes++[cs]} {w with heap:=w.heap.push (.cells cells e)}/\
 aX (K.pJ w.heap.size x) (.ptr (.box h.boxes.length) 0) (.pointer (aa ⟨w.heap.size,0,au⟩)):=by
 have le:=K.Fg w.heap.size x;have p:=s.push (.cells cells e);have mg:(K.pJ w.heap.size x).β[h.boxes.length]?=aa w.heap.size:=by simp[aW.pJ,<-s.ma]
 have aA:∀{b g:Nat},K.β[b]?=aa g->g<w.heap.size:=λ{b g} hb=>by
  have jJ:b<h.boxes.length:=by rw[<-s.ma];exact(aS.1 hb).1
  obtain⟨_,_,_,_,_,h3,_⟩:=s.box b g _ hb (aR jJ);exact o9 h3
 have Cy:∀j,K.ic w.heap.size j=au:=λj=>by
  cases hc:K.ic w.heap.size j with|none=>rfl|some c=>have:=s.A7 hc;omega
 refine⟨⟨p.dh,p.size,p.ic,λg cs hg=>?_,by simp[aW.pJ,s.ma],λb b' g hb iB=>?_,λb g dR hb hc=>?_,p.oH,p.rv,λl g r hl hr=>?_,p.tn,λt ht=>?_,p.qA,p.md,s.all⟩,.box _ _ _ mg⟩
 ·obtain⟨dJ,h1,h2⟩:=s.eV g cs hg;exact⟨dJ,h1.mono le,h2⟩
 ·rcases s9 hb with hb|⟨rfl,rfl⟩<;>rcases s9 iB with iB|⟨rfl,h2⟩
  ·rcases s.qD _ _ _ hb iB with p|p|p
   ·exact .inl p
   ·exact .inr (.inl (vQ p))
   ·exact .inr (.inr (vQ p))
  ·have:=aA hb;omega
  ·have:=aA iB;omega
  ·exact .inl rfl
 ·rcases s9 hb with hb|⟨rfl,rfl⟩
  ·rcases s9 hc with hc|⟨rfl,rfl⟩
   ·obtain⟨h1,h2,ha,dJ,e',h3,h4⟩:=p.box b g dR hb hc;exact⟨h1,h2,ha,dJ,e',h3,h4.mono le (aS.1 hb).1⟩
   ·have:h.boxes.length<K.β.length:=(aS.1 hb).1;have:=s.ma;omega
  ·have:dR=cs:=(by rw[s.ma] at hc;simp at hc;exact hc.symm);subst this;exact⟨s.size,Cy,qO,cells,e,by simp,hv.mono le,by simp only[aW.pJ,if_true];exact hx⟩
 ·obtain⟨h1,fn,tmps,d,h2,h3,h4⟩:=p.loop l g r hl hr;exact⟨h1,fn,tmps,d,h2,h3.mono le,h4⟩
 ·obtain⟨h1,h2,h3,dJ,e',fz,h4,h5⟩:=p.tok t ht;refine⟨h1,λb hb=>?_,h3,dJ,e',fz,h4,h5⟩;obtain⟨_,_,_,_,_,_,OW,_⟩:=s.tok t ht;rcases s9 hb with hb|⟨_,hb⟩
  ·exact h2 b hb
  ·have:=o9 OW;simp only[aW.pJ] at hb;omega
def aQ.whole{cs:List AV}{vs:List Value}(h:aQ K cs vs):aQ K cs (vs.take cs.length):=by rw[gm (by rw[h.length];exact aJ _)];exact h
def bR.Q8(s:bR K G ok w0 h w){cs:List AV}{cells:Array Value}(e:TypeId)(hv:aQ K cs cells.toList)(qO:cs.all AV.ek=ah):
 bR (K.box w.heap.size) G ok w0 {h with boxes:=h.boxes++[cs]} {w with heap:=w.heap.push (.cells cells e)}/\
 aX (K.box w.heap.size) (.ptr (.box h.boxes.length) 0) (.pointer (aa ⟨w.heap.size,0,au⟩)):=s.Q9 e au hv.whole qO (λ_ _ _ q=>by cases q)
structure uG(w w':World)(g:Nat)(o:Obj):Prop where
 os:w'.os=w.os
 tape:w'.tape=w.tape
 output:w'.output=w.output
 size:w'.heap.size=w.heap.size
 other:∀k,k≠g->w'.heap[k]?=w.heap[k]?
 this:w'.heap[g]?=aa o
def uG.lt{w w'}{g}{o}(c:uG w w' g o):g<w.heap.size:=c.size ▸ o9 c.this
def uG.below{w w'}{g}{o}(c:uG w w' g o){B}(hB:B<=g):Below B w w':=
 ⟨c.os,c.tape,c.output,by rw[c.size];exact aJ _,λk hk=>c.other k ag⟩
def nO(fz:Nat × Nat)(j:Nat):Bool:=decide (fz.1<=j)&&decide (j<fz.2)
def AA{w:World}{g}{cells}{e}{fz}(h:w.heap[g]?=aa (.cells cells e fz))(j):w.frozen? ⟨g,j,au⟩=nO fz j:=by obtain⟨lo,hi⟩:=fz;simp[World.frozen?,h,nO]
def sT{w:World}{g}{cells}{e}{fz}(h:w.heap[g]?=aa (.cells cells e fz))(j):w.cell? ⟨g,j,au⟩=cells[j]?:=by simp[World.cell?,h]
def bR.aie(s:bR K G ok w0 h w)(b:Nat):bR K G ok w0 {h with boxes:=h.boxes.set b []} w:=by
 refine⟨s.dh,s.size,s.ic,s.eV,by simp[s.ma],λb1 b2 g h1 h2=>?_,λb' g' dR iB iC=>?_,s.oH,s.rv,s.loop,s.tn,s.tok,s.qA,s.md,s.all⟩
 ·have key:∀k,h.boxes[k]?=aa []->(h.boxes.set b [])[k]?=aa []:=λk hk=>by
   rw[mL];split
   ·rename_i e;subst e;rw[aG (aS.1 hk).1]
   ·exact hk
  rcases s.qD _ _ _ h1 h2 with p|p|p
  ·exact .inl p
  ·exact .inr (.inl (key _ p))
  ·exact .inr (.inr (key _ p))
 ·simp only[mL] at iC;split at iC
  ·rename_i e';subst e';split at iC
   ·rename_i aA;injection iC with iC;subst iC;obtain⟨k1,k2,_,cells0,e0,k3,k4⟩:=s.box _ _ _ iB (aR aA);exact⟨k1,k2,rfl,cells0,e0,k3,.nil⟩
   ·cases iC
  ·exact s.box b' g' dR iB iC
def bR.as0{w':World}(s:bR K G ok w0 h w){b g:Nat}{cs dh:List AV}{cells:Array Value}{e:TypeId}(hb:K.β[b]?=aa g)(hold:h.boxes[b]?=aa dh)(bG:dh≠[])(hlen:cs.length=dh.length)(dL:∀c0 e0,w.heap[g]?=aa (.cells c0 e0 (0,0))->c0.size<=cells.size)
 (c:uG w w' g (.cells cells e (0,0))) (hv:aQ K cs (cells.toList.take cs.length)) (qO:cs.all AV.ek=ah):bR K G ok w0 {h with boxes:=h.boxes.set b cs} w':=by
 have aA:=(aS.1 hold).1;obtain⟨k1,k2,_,cells0,e0,k3,k4⟩:=s.box b g _ hb hold;refine⟨s.dh.trans (c.below k1),by rw[c.size];exact s.size,λg' j x hx=>?_,s.eV,by simp[s.ma],λb1 b2 g h1 h2=>?_,λb' g' dR iB iC=>?_,s.oH,s.rv,λl g' r hl hr=>?_,s.tn,λt ht=>?_,s.qA,λr hr=>?_,s.all⟩
 ·have bG:g'≠g:=by rintro rfl;rw[k2 j] at hx;cases hx
  rw[<-s.ic g' j x hx];exact World.cell?_of_block (w:=w) (c.other g' bG)
 ·have key:∀k,h.boxes[k]?=aa []->(h.boxes.set b cs)[k]?=aa []:=λk hk=>by
   rw[mL,aI]
   ·exact hk
   ·rintro rfl;rw[hold] at hk;injection hk with hk;exact bG hk
  rcases s.qD _ _ _ h1 h2 with p|p|p
  ·exact .inl p
  ·exact .inr (.inl (key _ p))
  ·exact .inr (.inr (key _ p))
 ·simp only[mL] at iC;split at iC
  ·rename_i e';subst e';injection iC with iC;subst iC;rw[hb] at iB;injection iB with iB;subst iB;refine⟨k1,k2,qO,cells,e,c.this,hv,λN sz room q=>?_⟩;rcases k4.2 N sz room q with r|⟨r1,r2⟩
   ·exact absurd r bG
   ·exact .inr ⟨hlen.trans r1,fw r2 (dL _ _ k3)⟩
  ·rename_i KT;by_cases iZ:g'=g
   ·subst iZ;rcases s.qD _ _ _ hb iB with p|p|p
    ·exact absurd p KT
    ·rw[hold] at p;injection p with p;exact absurd p bG
    ·rw[iC] at p;injection p with p;subst p;exact⟨k1,k2,rfl,cells,e,c.this,.nil⟩
   ·obtain⟨h1,h2,ha,dJ,e',h3,h4⟩:=s.box b' g' dR iB iC;exact⟨h1,h2,ha,dJ,e',(c.other g' iZ).trans h3,h4⟩
 ·obtain⟨h1,fn,tmps,d,h2,h3⟩:=s.loop l g' r hl hr;have iZ:g'≠g:=by rintro rfl;rw[h2] at k3;cases k3
  exact⟨h1,fn,tmps,d,(c.other g' iZ).trans h2,h3⟩
 ·obtain⟨h1,h2,h3,dJ,e',fz,h4,h5,h6⟩:=s.tok t ht;have iZ:(K.tk t).1≠g:=λe=>h2 b (e ▸ hb);refine⟨h1,h2,h3,dJ,e',fz,(c.other _ iZ).trans h4,h5,λj hj hl=>?_⟩;rw[<-h6 j hj hl];exact World.frozen?_of_block (w:=w) (c.other _ iZ)
 ·have h2:=(s.md r hr).2;have iZ:r≠g:=by rintro rfl;rw[h2] at k3;cases k3
  exact⟨(s.md r hr).1,(c.other r iZ).trans h2⟩
def bR.auL{w':World}(s:bR K G ok w0 h w){g:Nat}{cs:List AV}{cells:Array Value}{e:TypeId}(hg:K.base<=g)(iS:∀j,K.ic g j=au)(Pl:∀b:Nat,K.β[b]?=aa g->h.boxes[b]?=aa [])
 (ala:∀t,alive h t=ah->(K.tk t).1≠g) {c0:Array Value} {e0:TypeId} {z0:Nat × Nat} (CQ:w.heap[g]?=aa (.cells c0 e0 z0))
 (x:Option (Nat × Nat × Nat)) (hx:∀N sz room,x=aa (N,sz,room)->cs=[]∨(cs.length=N * sz/\room<=cells.size))
 (c:uG w w' g (.cells cells e (0,0))) (hv:aQ K cs (cells.toList.take cs.length)) (qO:cs.all AV.ek=ah):
 bR (K.pJ g x) G ok w0 {h with boxes:=h.boxes++[cs]} w'/\(K.pJ g x).β[h.boxes.length]?=aa g:=by
 have le:=K.Fg g x;have mg:(K.pJ g x).β[h.boxes.length]?=aa g:=by simp[aW.pJ,<-s.ma]
 refine⟨⟨s.dh.trans (c.below hg),by rw[c.size];exact s.size,λg' j x hx=>?_,λg' dR hg'=>?_,by simp[aW.pJ,s.ma],λb b' g' hb iB=>?_,λb g' dR hb hc=>?_,s.oH,s.rv,λl g' r hl hr=>?_,s.tn,λt ht=>?_,s.qA,λr hr=>?_,s.all⟩,mg⟩
 ·have tA:K.ic g' j=aa x:=hx;have bG:g'≠g:=λq=>by rw[q,iS j] at tA;cases tA
  rw[<-s.ic g' j x tA];exact World.cell?_of_block (w:=w) (c.other g' bG)
 ·obtain⟨dJ,h1,h2⟩:=s.eV g' dR hg';exact⟨dJ,h1.mono le,h2⟩
 ·rcases s9 hb with p|⟨p1,p2⟩<;>rcases s9 iB with q|⟨q1,q2⟩
  ·rcases s.qD _ _ _ p q with r|r|r
   ·exact .inl r
   ·exact .inr (.inl (vQ r))
   ·exact .inr (.inr (vQ r))
  ·subst q2;exact .inr (.inl (vQ (Pl _ p)))
  ·subst p2;exact .inr (.inr (vQ (Pl _ q)))
  ·exact .inl (by rw[p1,q1])
 ·rcases s9 hb with p|⟨p1,p2⟩
  ·have jJ:b<h.boxes.length:=(by rw[<-s.ma];exact(aS.1 p).1);rw[sH jJ] at hc;by_cases iZ:g'=g
   ·subst iZ;have:=Pl b p;rw[hc] at this;injection this with this;subst this;exact⟨hg,iS,rfl,cells,e,c.this,.nil⟩
   ·obtain⟨h1,h2,ha,dJ,e',h3,h4⟩:=s.box b g' dR p hc;exact⟨h1,h2,ha,dJ,e',(c.other g' iZ).trans h3,h4.mono le (aS.1 p).1⟩
  ·subst p2;have:dR=cs:=(by rw[p1,s.ma] at hc;simp at hc;exact hc.symm);subst this;exact⟨hg,iS,qO,cells,e,c.this,hv.mono le,by rw[p1];simp only[aW.pJ,if_true];exact hx⟩
 ·obtain⟨h1,fn,tmps,d,h2,h3,h4⟩:=s.loop l g' r hl hr;have iZ:g'≠g:=by rintro rfl;rw[h2] at CQ;cases CQ
  exact⟨h1,fn,tmps,d,(c.other g' iZ).trans h2,h3.mono le,h4⟩
 ·obtain⟨h1,h2,h3,dJ,e',fz,h4,h5,h6⟩:=s.tok t ht;have iZ:=ala t ht;refine⟨h1,λb hb=>?_,h3,dJ,e',fz,(c.other _ iZ).trans h4,h5,λj hj hl=>?_⟩
  ·rcases s9 hb with p|⟨-,p⟩
   ·exact h2 b p
   ·exact iZ p
  ·rw[<-h6 j hj hl];exact World.frozen?_of_block (w:=w) (c.other _ iZ)
 ·have h2:=(s.md r hr).2;have iZ:r≠g:=by rintro rfl;rw[h2] at CQ;cases CQ
  exact⟨(s.md r hr).1,(c.other r iZ).trans h2⟩
def aW.row(K:aW)(g off m size:Nat)(cells:Nat->Option Value):aW:=
 {K with ic:=λg' j=>if g'=g/\off<=j/\j<m then cells j else K.ic g' j,tn:=K.tn+1,tk:=λt=>if t=K.tn then (g,m,size) else K.tk t}
def aW.QS{K:aW}{g off m size}{cells}(h:∀j,off<=j->K.ic g j=au)(hb:K.base<=g):K.Le (K.row g off m size cells):=by
 refine⟨rfl,λg' j c hc=>?_,λ_ _ h=>h,λ_ _ h=>h,Nat.le_succ _,λt ht=>?_,λ_ h=>h,λ_ _=>rfl,λg' j c hc=>?_⟩
 ·simp only[aW.row];rw[aI]
  ·exact hc
  ·rintro⟨rfl,h1,_⟩;rw[h j h1] at hc;cases hc
 ·simp only[aW.row];rw[aI ag]
 ·simp only[aW.row] at hc;split at hc
  ·rename_i q;rw[q.1];exact .inr hb
  ·exact .inl hc
def bR.row{w':World}{h':aq}(s:bR K G ok w0 h w){g off m:Nat}{cells:Array Value}{e:TypeId}{fz:Nat × Nat}
 (Hr:h'.boxes=h.boxes) (XO:h'.loops=h.loops) (uq:h'.tn=h.tn+1) (eG:∀t,alive h' t=ah->t=h.tn∨(alive h t=ah/\(K.tk t).1≠g))
 (AI:K.base<=g) (KT:∀b:Nat,K.β[b]?≠aa g) (iS:∀j,off<=j->K.ic g j=au) (dL:w.heap.size<=w'.heap.size)
 (P8:w'.os=w.os) (Qw:w'.tape=w.tape) (AY:w'.output=w.output)
 (nV:∀k o,k≠g->w.heap[k]?=aa o->w'.heap[k]?=aa o) (oA:w'.heap[g]?=aa (.cells cells e fz))
 (CQ:∀o,w.heap[g]?=aa o->∃c0 e0 z0,o=.cells c0 e0 z0)
 (akx:∀j c,K.ic g j=aa c->cells[j]?=aa c) (hom:off<=m) (_hm:m<=cells.size) (xG:∀j,m<=j->j<cells.size->nO fz j=az):
 bR (K.row g off m cells.size (λj=>cells[j]?)) G ok w0 h' w':=by
 have le:=aW.QS (m:=m) (size:=cells.size) (cells:=λj=>cells[j]?) iS AI;refine⟨?_,fw s.size dL,λg' j x hx=>?_,λg' cs hg=>?_,by rw[Hr];exact s.ma,by rw[Hr];exact s.qD,λb g' cs hb hc=>?_,by rw[XO];exact s.oH,s.rv,λl g' r hl hr=>?_,by rw[uq];simp[aW.row,s.tn],
  λt ht=>?_,λt t' ht Ic mD=>?_,λr hr=>?_,s.all⟩
 ·refine s.dh.trans ⟨P8,Qw,AY,dL,λk hk=>?_⟩;have aA:k<w.heap.size:=ni hk s.size;have Cz:w.heap[k]?=aa (w.heap[k]):=mK aA;have AS:k<K.base:=hk;rw[Cz];exact nV k _ ag Cz
 ·simp only[aW.row] at hx;split at hx
  ·rename_i hc;obtain⟨rfl,_,_⟩:=hc;rw[sT oA];exact hx
  ·by_cases iZ:g'=g
   ·subst iZ;rw[sT oA];exact akx j x hx
   ·have aA:=s.A7 hx;rw[<-s.ic g' j x hx];refine World.cell?_of_block (w:=w) ?_;simp only;rw[mK aA];exact nV g' _ iZ (mK aA)
 ·obtain⟨dJ,h1,h2⟩:=s.eV g' cs hg;exact⟨dJ,h1.mono le,λj c hj=>le.ic _ _ _ (h2 j c hj)⟩
 ·rw[Hr] at hc;obtain⟨h1,h2,ha,dJ,e',h3,h4⟩:=s.box b g' cs hb hc;have iZ:g'≠g:=λe=>KT b (e ▸ hb);refine⟨h1,λj=>?_,ha,dJ,e',nV g' _ iZ h3,h4.mono le (aS.1 hb).1⟩;simp only[aW.row];rw[aI (λhh=>iZ hh.1)];exact h2 j
 ·rw[XO] at hr;obtain⟨h1,fn,tmps,d,h2,h3,h4⟩:=s.loop l g' r hl hr;have iZ:g'≠g:=by rintro rfl;obtain⟨_,_,_,h⟩:=CQ _ h2;cases h
  exact⟨h1,fn,tmps,d,nV g' _ iZ h2,h3.mono le,h4⟩
 ·rcases eG t ht with rfl|⟨xL,v8⟩
  ·simp only[aW.row,s.tn,if_true];refine⟨AI,KT,λj hj=>?_,cells,e,fz,oA,rfl,λj hj hl=>(AA oA j).trans (xG j hj hl)⟩;rw[aI ag];exact iS j ag
  ·have ak9:=uM xL;have e1:(K.row g off m cells.size (λj=>cells[j]?)).tk t=K.tk t:=le.tk t (by rw[s.tn];exact ak9);rw[e1];obtain⟨h1,h2,h3,dJ,e',fz',h4,h5,h6⟩:=s.tok t xL;refine⟨h1,h2,λj hj=>?_,dJ,e',fz',nV _ _ v8 h4,h5,λj hj hl=>?_⟩
   ·simp only[aW.row];rw[aI (λhh=>v8 hh.1)];exact h3 j hj
   ·rw[<-h6 j hj hl,AA h4,AA (nV _ _ v8 h4)]
 ·rcases eG t ht with rfl|⟨xL,v8⟩<;>rcases eG t' Ic with rfl|⟨Qv,ak7⟩
  ·rfl
  ·exfalso;have e1:(K.row g off m cells.size (λj=>cells[j]?)).tk t'=K.tk t':=le.tk t' (by rw[s.tn];exact uM Qv);rw[e1] at mD;simp[aW.row,s.tn] at mD;exact ak7 mD.symm
  ·exfalso;have e1:(K.row g off m cells.size (λj=>cells[j]?)).tk t=K.tk t:=le.tk t (by rw[s.tn];exact uM xL);rw[e1] at mD;simp[aW.row,s.tn] at mD;exact v8 mD
  ·have e1:(K.row g off m cells.size (λj=>cells[j]?)).tk t=K.tk t:=le.tk t (by rw[s.tn];exact uM xL);have e2:(K.row g off m cells.size (λj=>cells[j]?)).tk t'=K.tk t':=le.tk t' (by rw[s.tn];exact uM Qv);rw[e1,e2] at mD;exact s.qA t t' xL Qv mD
 ·obtain⟨h1,h2⟩:=s.md r hr;have iZ:r≠g:=by rintro rfl;obtain⟨_,_,_,h⟩:=CQ _ h2;cases h
  exact⟨h1,nV r _ iZ h2⟩
def aW.tight(K:aW)(g:Nat)(cells:Array Value):aW:={K with ic:=λg' j=>if g'=g then cells[j]? else K.ic g' j}
def bR.amX(s:bR K G ok w0 h w)(cells:Array Value)(e:TypeId):
 K.Le (K.tight w.heap.size cells)/\bR (K.tight w.heap.size cells) G ok w0 h {w with heap:=w.heap.push (.cells cells e)}:=by
 have Cy:∀j,K.ic w.heap.size j=au:=λj=>by
  cases hc:K.ic w.heap.size j with|none=>rfl|some c=>have:=s.A7 hc;omega
 have le:K.Le (K.tight w.heap.size cells):=by
  refine⟨rfl,λg j c hc=>?_,λ_ _ h=>h,λ_ _ h=>h,aJ _,λ_ _=>rfl,λ_ h=>h,λ_ _=>rfl,λg j c hc=>by
   simp only[aW.tight] at hc;split at hc
   ·rename_i q;rw[q];exact .inr s.size
   ·exact .inl hc⟩
  simp only[aW.tight];rw[aI]
  ·exact hc
  ·rintro rfl;rw[Cy] at hc;cases hc
 have p:=s.push (.cells cells e);refine⟨le,p.dh,p.size,λg j x hx=>?_,λg cs hg=>?_,p.ma,p.qD,λb g cs hb hc=>?_,p.oH,p.rv,λl g r hl hr=>?_,p.tn,λt ht=>?_,p.qA,p.md,s.all⟩
 ·simp only[aW.tight] at hx;split at hx
  ·subst_vars;rw[sT (cells:=cells) (e:=e) (fz:=(0,0)) bE];exact hx
  ·exact p.ic g j x hx
 ·obtain⟨dJ,h1,h2⟩:=s.eV g cs hg;exact⟨dJ,h1.mono le,λj c hj=>le.ic _ _ _ (h2 j c hj)⟩
 ·obtain⟨h1,h2,ha,dJ,e',h3,h4⟩:=p.box b g cs hb hc;refine⟨h1,λj=>?_,ha,dJ,e',h3,h4.mono le (aS.1 hb).1⟩;simp only[aW.tight];obtain⟨_,_,_,_,_,h3',_⟩:=s.box b g cs hb hc;rw[aI (by have:=o9 h3';omega)];exact h2 j
 ·obtain⟨h1,fn,tmps,d,h2,h3,h4⟩:=p.loop l g r hl hr;exact⟨h1,fn,tmps,d,h2,h3.mono le,h4⟩
 ·obtain⟨h1,h2,h3,dJ,e',fz,h4,h5⟩:=p.tok t ht;obtain⟨_,_,_,_,_,_,OW,_⟩:=s.tok t ht;refine⟨h1,h2,λj hj=>?_,dJ,e',fz,h4,h5⟩;simp only[aW.tight];have:=o9 OW;have e1:(K.tight w.heap.size cells).tk t=K.tk t:=rfl;rw[aI (by show(K.tk t).1≠_;omega)];exact h3 j hj
end
section
variable {P:Program}
def du{t:TypeId}{d:TypeDesc}(h:P.underlying t=aa d)(w:World):(underlying t).run P w=.ok d w:=run_underlying h w
def sn{t:TypeId}{i:TypeInfo}(h:P.info? t=aa i)(w:World):(typeInfo t).run P w=.ok i w:=by simp[typeInfo,h]
def ath{t:TypeId}{n:Nat}(h:dt P t=aa n):∃i,P.info? t=aa i/\i.size=n:=by simpa [dt] using h
def oa{t:TypeId}{n:Nat}(h:dt P t=aa n)(w:World):(sizeOf t).run P w=.ok n w:=by obtain⟨i,h1,h2⟩:=ath h;simp[sizeOf,sn h1,h2]
def Mm{t:TypeId}{b:Bool}(h:gI P t=aa b)(w:World):(isAgg t).run P w=.ok b w:=by
 unfold gI at h;unfold isAgg;cases hu:P.underlying t with
 |none=>rw[hu] at h;cases h
 |some d=>rw[hu] at h;rw[Sem.run_bind,du hu];cases d<;>(injection h with h;subst h;rfl)
def Sw{t:TypeId}{z:AV}(h:gZ P t=aa z)(w:World):∃v,(zeroValue t).run P w=.ok v w/\z=tC v:=by
 unfold gZ at h;split at h
 ·rename_i i hi;simp only[dx] at h;obtain⟨v,hv,rfl⟩:=h;exact⟨v,by simp[zeroValue,sn hi,hv],rfl⟩
 ·cases h
def OI{α:Type}{es:List (List α)}{sz}(hr:∀r∈es,r.length=sz):∀{i:Nat} {row:List α},es[i]?=aa row->(es.flatten.drop (i * sz)).take sz=row:=by
 induction es with
 |nil=>intro i row h;simp at h|cons r es ih=>
  have hl:r.length=sz:=hr r bE;intro i row h;cases i with|zero=>simp at h;subst h;simp[<-hl]|succ i=>have:=ih (λr gj=>hr r (by simp[gj])) (i:=i) (row:=row) (by simpa using h);rw[<-this];simp only[pC];rw[DU,show(i+1) * sz=r.length+i * sz by rw[hl,gJ];omega];rw[qF ag];simp
def OJ{α:Type}{es:List (List α)}{sz}(hr:∀r∈es,r.length=sz):∀n:Nat,(es.take n).flatten=es.flatten.take (n * sz):=by
 induction es with
 |nil=>intro n;simp|cons r es ih=>
  have hl:r.length=sz:=hr r bE;intro n;cases n with|zero=>simp|succ n=>rw[List.take_succ_cons,pC,pC,ih (λr hm=>hr r (by simp[hm])) n,show(n+1) * sz=r.length+n * sz by rw[hl,gJ];omega];rw[JI,gm (ag:r.length<=r.length+n * sz),(ag:r.length+n * sz - r.length=n * sz)]
def We{α:Type}{es:List (List α)}{sz}(hr:∀r∈es,r.length=sz):∀n:Nat,(es.drop n).flatten=es.flatten.drop (n * sz):=by
 induction es with
 |nil=>intro n;simp|cons r es ih=>
  have hl:r.length=sz:=hr r bE;intro n;cases n with|zero=>simp|succ n=>rw[List.drop_succ_cons,pC,ih (λr hm=>hr r (by simp[hm])) n,show(n+1) * sz=r.length+n * sz by rw[hl,gJ];omega];rw[DU,qF (ag:r.length<=r.length+n * sz),(ag:r.length+n * sz - r.length=n * sz)];simp
def nN{α:Type}{es:List (List α)}{sz}(hr:∀r∈es,r.length=sz):es.flatten.length=es.length * sz:=by
 induction es with
 |nil=>simp|cons r es ih=>rw[pC,dw,ih (λr gj=>hr r (by simp[gj])),hr r bE,iP,gJ];omega
end
section
variable {P:Program} {K:aW} {G:Nat->Option (List AV)} {ok:FuncId->Nat->Code->Bool} {w0 w:World} {h:aq}
def βaa{b:Nat}{g:Nat}(s:bR K G ok w0 h w)(hb:K.β[b]?=aa g):∃cs,h.boxes[b]?=aa cs:=by
 have jJ:b<h.boxes.length:=by rw[<-s.ma];exact(aS.1 hb).1
 exact⟨_,aR jJ⟩
def Vj(s:bR K G ok w0 h w){a:AV}{cs:List AV}(hc:BV G h a=aa cs){ca:Value}(hv:aX K a ca):
 ∃g p eJ,ca=.pointer (aa ⟨g,p,au⟩)/\aQ K cs eJ/\∀(j:Nat) (c:Value),eJ[j]?=aa c->w.cell? ⟨g,p+j,au⟩=aa c:=by
 unfold BV at hc;split at hc
 ·rename_i r off;simp only[dx] at hc;obtain⟨cs0,h0,rfl⟩:=hc;cases hv with
  |box b g _ hb=>
   obtain⟨_,_,_,cells,e,h3,h4⟩:=s.box b g cs0 hb h0;refine⟨g,off,(cells.toList.take cs0.length).drop off,rfl,h4.1.drop off,λj c hj=>?_⟩;rw[sT h3];simp only[pD,oJ] at hj;split at hj
   ·simpa using hj
   ·cases hj
  |eV g _=>obtain⟨cells,h1,h2⟩:=s.eV g cs0 h0;refine⟨g,off,cells.drop off,rfl,h1.drop off,λj c hj=>?_⟩;exact s.ic _ _ _ (h2 (off+j) c (by simpa using hj))
 ·rename_i sz es i off;simp only[dx] at hc;obtain⟨row,h0,rfl⟩:=hc;cases hv with
  |elem _ _ _ _ g o p cells hr ga iS hi hp ha=>
   refine⟨g,p,((cells.drop (i * sz)).take sz).drop off,rfl,?_,λj c hj=>?_⟩
   ·have:=((ga.drop (i * sz)).take sz).drop off
    rwa [OI hr h0] at this
   ·refine s.ic _ _ _ ?_;have h1:cells[i * sz+off+j]?=aa c:=by
     simp only[pD,oJ] at hj;split at hj
     ·rw[<-hj];congr 1;omega
     ·cases hj
    have:=iS _ _ h1;rw[hp];rw[<-this];congr 1;omega
 ·cases hc
def Zl(s:bR K G ok w0 h w){t:TypeId}{a x:AV}(he:aH P G h t a=aa x){ca:Value}(hv:aX K a ca):
 ∃g p v,ca=.pointer (aa ⟨g,p,au⟩)/\(loadVar t ⟨g,p,au⟩).run P w=.ok v w/\aX K x v:=by
 unfold aH at he;split at he
 ·rename_i cs Cj cq;obtain⟨g,p,eJ,rfl,ga,qP⟩:=Vj s cq hv;split at he
  ·rename_i n hn;split at he
   ·rename_i eO;injection he with he;subst he;have hl:=run_loadCells_list (P:=P) w ⟨g,p,au⟩ (eJ.take n) (λj v hj=>by
     rw[Addr.mO];refine qP j v ?_;simp only[oJ] at hj;split at hj
     ·exact hj
     ·cases hj)
    have hlen:(eJ.take n).length=n:=(by rw[eS,<-ga.length];omega);rw[hlen] at hl;exact⟨g,p,.agg (eJ.take n).toArray,rfl,by simp[loadVar,Mm Cj,oa hn,hl],.agg _ _ (by simpa using ga.take n)⟩
   ·cases he
  ·cases he
 ·rename_i cs Cj cq;obtain⟨g,p,eJ,rfl,ga,qP⟩:=Vj s cq hv;cases cs with
  |nil=>simp at he|cons y cs=>
   simp at he;subst he;cases ga with|cons _ c _ dR hx hs=>have:=qP 0 c rfl;simp only[BC] at this;exact⟨g,p,c,rfl,by simp[loadVar,Mm Cj,this],hx⟩
 ·cases he
def I8{g:Nat}(off:Nat)(e:TypeId)(fz:Nat × Nat):∀(vs:List Value) (i:Nat) (cells:Array Value) (w:World),
 w.heap[g]?=aa (.cells cells e fz)->off+i+vs.length<=cells.size->(∀v∈vs,E7 v=ah)->(∀j,off+i<=j->j<off+i+vs.length->nO fz j=az)->
 ∃w' dJ,(storeCells ⟨g,off,au⟩ vs i).run P w=.ok () w'/\uG w w' g (.cells dJ e fz)/\
  dJ.toList=cells.toList.take (off+i)++vs++cells.toList.drop (off+i+vs.length):=by
 intro vs
 induction vs with
 |nil=>intro i cells w hg hl h1 hf;exact⟨w,cells,rfl,⟨rfl,rfl,rfl,rfl,λ_ _=>rfl,hg⟩,by simp⟩|cons v rest ih=>
  intro i cells w hg hl h1 hf;simp only[iP] at hl hf;have hi:off+i<cells.size:=by omega
  have hv:v.oneCell'=ah:=by have:=h1 v bE;cases v<;>first|rfl|simp[E7] at this
  have bT:(store ((⟨g,off,au⟩:Addr).add i) v).run P w=.ok () (w.setCell ⟨g,off+i,au⟩ v):=by rw[Addr.mO,run_store P w _ v _ hv,sT hg,AA hg,hf (off+i) ag ag,mK hi];simp
  have oA:(w.setCell ⟨g,off+i,au⟩ v).heap[g]?=aa (.cells (cells.setIfInBounds (off+i) v) e fz):=by simp[World.setCell,Dz,hg]
  obtain⟨w',dJ,hr,hc,ov⟩:=ih (i+1) _ _ oA (by simp;omega) (λx hx=>h1 x (by simp[hx])) (λj hj hj'=>hf j ag ag);refine⟨w',dJ,by simp only[storeCells,Sem.run_bind,bT,Result.andThen_ok,hr],⟨hc.os,hc.tape,hc.output,by rw[hc.size];simp[World.setCell],λk hk=>?_,hc.this⟩,?_⟩
  ·rw[hc.other k hk];simp only[World.setCell,Dz];rw[aI (by exactλe=>hk e.symm)]
  ·rw[ov];simp only[acu,iP];have hlen:off+i<cells.toList.length:=(by simpa using hi);rw[BA,aG hlen];rw[(ag:off+(i+1)=off+i+1),(ag:off+i+(rest.length+1)=off+i+1+rest.length)];rw[JI,DU];have h1:(cells.toList.take (off+i)).length=off+i:=(by simp;omega);rw[h1];have h2:(cells.toList.take (off+i)).take (off+i+1)=cells.toList.take (off+i):=gm ag;have h3:(cells.toList.take (off+i)).drop (off+i+1+rest.length)=[]:=qF ag;rw[h2,h3];have h4:off+i+1 - (off+i)=1:=(by omega);have h5:off+i+1+rest.length - (off+i)=rest.length+1:=(by omega);rw[h4,h5];simp
def asy{g off fH aD:Nat}{e:TypeId}(rR:fH=off∨aD=0){vs:List Value}{cells:Array Value}{w:World}(hz:aD=0->vs=[])(hg:w.heap[g]?=aa (.cells cells e (0,0)))(hl:off+vs.length<=cells.size)(h1:∀v∈vs,E7 v=ah):
 ∃w' dJ,(storeCells ⟨g,fH,au⟩ vs 0).run P w=.ok () w'/\uG w w' g (.cells dJ e (0,0))/\dJ.toList=cells.toList.take (off+0)++vs++cells.toList.drop (off+0+vs.length):=by
 rcases rR with rfl|h0
 ·exact I8 _ e (0,0) vs 0 cells w hg ag h1 (λj _ _=>by simp[nO])
 ·have:=hz h0;subst this;exact⟨w,cells,rfl,⟨rfl,rfl,rfl,rfl,λ_ _=>rfl,hg⟩,by simp⟩
def abt{dh cs:List AV}{vo vc:List Value}(off:Nat)(h1:aQ K dh vo)(h2:aQ K cs vc):aQ K (eX dh off cs) (vo.take off++vc++vo.drop (off+vc.length)):=by unfold eX;rw[h2.length];exact((h1.take off).append h2).append (h1.drop _)
def abr{dh cs}(off)(h1:dh.all AV.ek=ah)(h2:cs.all AV.ek=ah):(eX dh off cs).all AV.ek=ah:=by
 rw[ey] at h1 h2 ⊢;intro x hx;simp only[eX,wR] at hx;rcases hx with(hx|hx)|hx
 ·exact h1 x (pE hx)
 ·exact h2 x hx
 ·exact h1 x (Nr hx)
def SE{α:Type}{vo vc:List α}{off}(h:off+vc.length<=vo.length):(vo.take off++vc++vo.drop (off+vc.length)).length=vo.length:=by simp only[dw,eS,hJ];omega
def atw{α:Type}{vo vc:List α}{off n}(h:off+vc.length<=n)(hn:n<=vo.length):(vo.take off++vc++vo.drop (off+vc.length)).take n=(vo.take n).take off++vc++(vo.take n).drop (off+vc.length):=by
 have e1:(vo.take n).take off=vo.take off:=by rw[List.take_take,Nat.min_eq_left ag]
 have e2:(vo.take n).drop (off+vc.length)=(vo.drop (off+vc.length)).take (n - (off+vc.length)):=by rw[List.drop_take]
 rw[e1,e2,JI];have h1:(vo.take off++vc).length=off+vc.length:=by simp;omega
 rw[gm ag,h1]
def uG.same{w w'}{g}{o}(c:uG w w' g o)(h:w.heap[g]?=some o):w'.heap=w.heap:=by
 apply Array.ext_getElem?;intro k;by_cases hk:k=g
 ·subst hk;rw[c.this,h]
 ·exact c.other k hk
def bR.SN{w':World}(s:bR K G ok w0 h w){b g off:Nat}{cs dh:List AV}{vs:List Value}{cells dJ:Array Value}{e:TypeId}(hb:K.β[b]?=aa g)(hold:h.boxes[b]?=aa dh)(nR:off+cs.length<=dh.length)
 (oA:w.heap[g]?=aa (.cells cells e (0,0))) (c:uG w w' g (.cells dJ e (0,0))) (ov:dJ.toList=cells.toList.take (off+0)++vs++cells.toList.drop (off+0+vs.length)) (hv:aQ K cs vs) (qO:cs.all AV.ek=ah):
 bR K G ok w0 {h with boxes:=h.boxes.set b (eX dh off cs)} w':=by
 obtain⟨k1,k2,ka,cells0,e0,k3,k4⟩:=s.box b g dh hb hold;rw[oA] at k3;injection k3 with k3;injection k3 with k3 k3';subst k3;simp only[BC] at ov;have eO:dh.length<=cells.toList.length:=by have:=k4.le;simpa using this
 by_cases bG:dh=[]
 ·subst bG;have hc:cs=[]:=by cases cs with|nil=>rfl|cons _ _=>simp at nR
  subst hc;have ga:vs=[]:=by cases hv;rfl
  subst ga;have hw:dJ=cells:=by apply Array.toList_inj.1;rw[ov];simp
  subst hw;have hh:=c.same oA;have zf:h.boxes.set b (eX [] off [])=h.boxes:=by
   rw[show eX ([]:List AV) off []=[] by simp[eX]];apply rB;intro k;rw[mL];split
   ·rename_i e;subst e;rw[aG (aS.1 hold).1,hold]
   ·rfl
  rw[zf];exact s.same hh c.tape c.os c.output
 ·have hl:(eX dh off cs).length=dh.length:=by unfold eX;exact SE nR
  refine s.as0 hb hold bG hl (λc0 e0 q=>?_) c ?_ (abr off ka qO)
  ·rw[oA] at q;injection q with q;injection q with q;subst q;have:dJ.toList.length=cells.toList.length:=(by rw[ov];exact SE (by rw[<-hv.length];omega));simp only[ym] at this;omega
  ·rw[hl,ov,atw (by rw[<-hv.length];exact nR) eO];exact abt off k4.1 hv
def GL{cs:List AV}{vs:List Value}(h:aQ K cs vs)(ha:cs.all AV.ek=ah):∀v∈vs,E7 v=ah:=by intro v hv;obtain⟨i,hi⟩:=List.getElem?_of_mem hv;obtain⟨x,hx,hr⟩:=h.get' hi;exact alz (ey.1 ha x (dj hx)) hr
def Ku(j):nO (0,0) j=az:=by simp[nO]
def auh(s:bR K G ok w0 h w){t:TypeId}{a x:AV}{h':aq}(he:b7 P h t a x=aa h'){ca cx:Value}(hv:aX K a ca)(hx:aX K x cx):
 ∃w',(Instr.storeAt t ca cx).run P w=.ok () w'/\bR K G ok w0 h' w':=by
 unfold b7 at he;split at he
 ·rename_i b off cs n cq hn;split at he
  ·rename_i dh hold;split at he
   ·rename_i hlen;injection he with he;subst he;cases hv with|box _ g _ hb=>obtain⟨k1,k2,ka,cells,e,k3,k4⟩:=s.box b g dh hb hold;obtain⟨r1,r2⟩:=J9 cq hx;have dL:cx.cells.size=n:=(by rw[<-hlen.1,r1.length];simp);have zh:dh.length<=cells.size:=k4.le;obtain⟨w',dJ,q1,q2,q3⟩:=I8 (P:=P) off e (0,0) cx.cells.toList 0 cells w k3 (by simp;omega) (GL r1 r2) (λj _ _=>Ku j);refine⟨w',by simp[Instr.storeAt,Instr.sureAddr,storeVar,oa hn,dL,q1],s.SN hb hold ag k3 q2 q3 r1 r2⟩
   ·cases he
  ·cases he
 ·cases he
end
section
variable {P:Program} {K:aW} {G:Nat->Option (List AV)} {ok:FuncId->Nat->Code->Bool} {w0 w:World} {h:aq}
def Yields(K:aW)(G:Nat->Option (List AV))(ok:FuncId->Nat->Code->Bool)(w0:World)(x:AV)(h':aq)(r:Result Next):Prop:=
 ∃K' v w',K.Le K'/\bR K' G ok w0 h' w'/\aX K' x v/\(r=.ok (.value v) w'∨(r=.ok .skip w'/\v=undef))
def Yields.nE(s:bR K G ok w0 h w){x:AV}{v:Value}(hx:aX K x v){r:Result Next}(hr:r=.ok (.value v) w):Yields K G ok w0 x h r:=
 ⟨K,v,w,.refl K,s,hx,.inl hr⟩
def aja(off):∀(l:List Value) (i:Nat) (cells:Array Value),off+i+l.length<=cells.size->
 ((l.zipIdx i).foldl (λcs p=>cs.setIfInBounds (off+p.2) p.1) cells).toList=cells.toList.take (off+i)++l++cells.toList.drop (off+i+l.length):=by
 intro l
 induction l with
 |nil=>intro i cells _;simp|cons v rest ih=>
  intro i cells hl;simp only[iP] at hl;have hi:off+i<cells.size:=by omega
  simp only[List.zipIdx_cons,yw];rw[ih (i+1) _ (by simp;omega)];simp only[acu,iP];have hlen:off+i<cells.toList.length:=by simpa using hi
  rw[BA,aG hlen];rw[(ag:off+(i+1)=off+i+1),(ag:off+i+(rest.length+1)=off+i+1+rest.length)];rw[JI,DU];have h1:(cells.toList.take (off+i)).length=off+i:=by simp;omega
  rw[h1];have h2:(cells.toList.take (off+i)).take (off+i+1)=cells.toList.take (off+i):=gm ag;have h3:(cells.toList.take (off+i)).drop (off+i+1+rest.length)=[]:=qF ag;rw[h2,h3];have h4:off+i+1 - (off+i)=1:=by omega
  have h5:off+i+1+rest.length - (off+i)=rest.length+1:=by omega
  rw[h4,h5];simp
def av1(f)(vs cells:Array Value):vs.zipIdx.foldl f cells=(vs.toList.zipIdx 0).foldl f cells:=by rw[<-Array.foldl_toList,Array.toList_zipIdx]
def V2{place}:∀{parts:List (Nat × AV)} {cells out:List AV},vP place cells parts=aa out->cells.all AV.ek=ah->out.all AV.ek=ah:=by
 intro parts
 induction parts with
 |nil=>intro cells out he hc;simp[vP] at he;subst he;exact hc|cons p rest ih=>
  intro cells out he hc;simp only[vP] at he;split at he
  ·rename_i off size cs hp cq;split at he
   ·refine ih he (abr off hc ?_);unfold AV.bP at cq;split at cq
    ·split at cq
     ·injection cq with cq;subst cq;assumption
     ·cases cq
    ·cases cq
    ·cases cq
    ·rename_i h1 h2 h3;injection cq with cq;subst cq;have hx:p.2.ek=ah:=by cases hq:p.2<;>first|rfl|exact absurd hq (h1 _)|exact absurd hq (h2 _)|exact absurd hq h3
     simp[hx]
   ·cases he
  ·cases he
def Ko{place:Nat->Option (Nat × Nat)}:∀{parts:List (Nat × AV)} {cells out:List AV} {parts':List (Nat × Value)} {dJ:Array Value},
 vP place cells parts=aa out->aQ K cells dJ.toList->(parts'.map (·.1)=parts.map (·.1))->aQ K (parts.map (·.2)) (parts'.map (·.2))->
 ∃out',Instr.fill place dJ parts'=aa out'/\aQ K out out'.toList:=by
 intro parts
 induction parts with
 |nil=>
  intro cells out parts' dJ he hc h1 h2;have:parts'=[]:=by simpa using h1
  subst this;simp[vP] at he;subst he;exact⟨dJ,rfl,hc⟩
 |cons p rest ih=>
  obtain⟨i,x⟩:=p;intro cells out parts' dJ he hc h1 h2;cases parts' with
  |nil=>simp at h1|cons p' rest'=>
   obtain⟨i',v⟩:=p';simp only[eC,List.cons.injEq] at h1;obtain⟨rfl,h1⟩:=h1;simp only[eC] at h2;cases h2 with
   |cons _ _ _ _ hx hs=>
    simp only[vP] at he;split at he
    ·rename_i off size cs hp cq;split at he
     ·rename_i hlen;obtain⟨r1,_⟩:=J9 cq hx;have dL:v.cells.size=size:=(by rw[<-hlen.1,r1.length];simp);have zh:dJ.size=cells.length:=(by rw[hc.length];simp);have Ps:=aja off v.cells.toList 0 dJ (by simp;omega);obtain⟨out',q1,q2⟩:=ih (dJ:=v.cells.zipIdx.foldl (λcs (c,j)=>cs.setIfInBounds (off+j) c) dJ) he (by rw[av1,Ps];simpa using abt off hc r1) h1 hs;refine⟨out',?_,q2⟩;simp only[Instr.fill,hp];rw[aI (by simp;omega)];exact q1
     ·cases he
    ·cases he
def Rr{ρ:Operand->AV}{ρ':Operand->Value}(hρ:∀x,aX K (ρ x) (ρ' x))(parts:Array (Nat × Operand)):
 ((parts.map λp=>(p.1,ρ' p.2)).toList.map (·.1)=(parts.toList.map λp=>(p.1,ρ p.2)).map (·.1))/\
 aQ K ((parts.toList.map λp=>(p.1,ρ p.2)).map (·.2)) ((parts.map λp=>(p.1,ρ' p.2)).toList.map (·.2)):=by
 simp only[DD,Bx];exact⟨rfl,aQ.map_mk λp _=>hρ p.2⟩
def Dx{t:TypeId}{zero:List AV}(hz:(gZ P t).bind AV.bP=aa zero)(w:World):∃v,(zeroValue t).run P w=.ok v w/\aQ K zero v.cells.toList/\zero.all AV.ek=ah:=by simp only[Ac] at hz;obtain⟨z,h1,h2⟩:=hz;obtain⟨v,h3,rfl⟩:=Sw h1 w;obtain⟨r1,r2⟩:=J9 h2 (Lt (K:=K) v);exact⟨v,h3,r1,r2⟩
def amF(fields:Array Field)(eM:∀f∈fields.toList,(P.info? f.type).isSome=ah)(w:World):
 ∃places:Array (Nat × Nat),(fields.mapM (m:=Sem) λ(f:Field)=>do pure (f.offset,<-sizeOf f.type)).run P w=.ok places w/\∀i,places[i]?=placesOf P fields i:=by
 have key:∀(l:List Field),(∀f∈l,(P.info? f.type).isSome=ah)->
  (l.mapM (m:=Sem) λ(f:Field)=>do pure (f.offset,<-sizeOf f.type)).run P w=.ok (l.map λf=>(f.offset,(dt P f.type).getD 0)) w:=by
  intro l
  induction l with
  |nil=>intro _;rfl|cons f l ih=>intro hl;have hf:=hl f bE;obtain⟨i,hi⟩:=adJ.1 hf;have hs:dt P f.type=aa i.size:=(by simp[dt,hi]);rw[List.mapM_cons,Sem.run_bind,Sem.run_bind,oa hs];simp only[Result.andThen_ok,Sem.run_pure,Sem.run_bind,ih (λf hf=>hl f (by simp[hf])),eC,hs,JM]
 refine⟨(fields.toList.map λf=>(f.offset,(dt P f.type).getD 0)).toArray,?_,λi=>?_⟩
 ·rw[Array.mapM_eq_mapM_toList,Sem.run_map,key fields.toList eM];rfl
 ·simp only[jy,List.getElem?_map,DA,placesOf];cases hf:fields[i]? with|none=>rfl|some f=>have hm:f∈fields.toList:=(by simpa using Array.mem_of_getElem? hf);obtain⟨i,hi⟩:=adJ.1 (eM f hm);simp[dt,hi]
def age{t:TypeId}{parts:Array (Nat × Operand)}{ρ:Operand->AV}{ρ':Operand->Value}(hρ:∀x,aX K (ρ x) (ρ' x)){x:AV}
 (he:mz P t (parts.toList.map λp=>(p.1,ρ p.2))=aa x) (w:World):∃v,(Instr.build t (parts.map λp=>(p.1,ρ' p.2))).run P w=.ok v w/\aX K x v:=by
 obtain⟨p1,p2⟩:=Rr hρ parts;unfold mz at he;split at he
 ·rename_i fields zero hu hz;obtain⟨z,jF,gG,_⟩:=Dx (K:=K) hz w;split at he
  ·rename_i eM;simp only[dx] at he;obtain⟨out,ho,rfl⟩:=he;obtain⟨places,o5,oy⟩:=amF (P:=P) fields (λf hf=>Array.all_eq_true'.1 eM f (by simpa using hf)) w;have HU:placesOf P fields=(places[·]?):=(by funext i;exact(oy i).symm);rw[HU] at ho;obtain⟨out',q1,q2⟩:=Ko ho gG p1 p2;exact⟨.agg out',by simp only[Instr.build,Sem.run_bind,jF,Result.andThen_ok,du hu,o5,q1,Sem.run_pure],.agg _ _ q2⟩
  ·cases he
 ·rename_i n elem zero hu hz;obtain⟨z,jF,gG,_⟩:=Dx (K:=K) hz w;split at he
  ·rename_i size hs;simp only[dx] at he;obtain⟨out,ho,rfl⟩:=he;obtain⟨out',q1,q2⟩:=Ko ho gG p1 p2;exact⟨.agg out',by simp only[Instr.build,Sem.run_bind,jF,Result.andThen_ok,du hu,oa hs,q1,Sem.run_pure],.agg _ _ q2⟩
  ·cases he
 ·cases he
def V1{sz}:∀{parts:List (Nat × AV)} {ae out:List (List AV)},(∀r∈ae,r.length=sz)->Ep sz ae parts=aa out->
 vP (λi=>aa (i * sz,sz)) ae.flatten parts=aa out.flatten/\(∀r∈out,r.length=sz)/\out.length=ae.length:=by
 intro parts
 induction parts with
 |nil=>intro ae out hr he;simp[Ep] at he;subst he;exact⟨rfl,hr,rfl⟩|cons p rest ih=>
  obtain⟨i,x⟩:=p;intro ae out hr he;simp only[Ep] at he;split at he
  ·rename_i cs cq;split at he
   ·rename_i hlen;have gj:∀r∈ae.set i cs,r.length=sz:=λr hm=>by
     rcases List.mem_or_eq_of_mem_set hm with hm|rfl
     ·exact hr r hm
     ·exact hlen.1
    obtain⟨q1,q2,q3⟩:=ih gj he;have oV:=nN hr;have eO:i * sz+sz<=ae.flatten.length:=(by rw[oV];have:(i+1) * sz<=ae.length * sz:=oM _ hlen.2;rw[gJ] at this;omega);have zf:(ae.set i cs).flatten=eX ae.flatten (i * sz) cs:=by
     clear q1 q2 q3 ih he eO gj;unfold eX;rw[hlen.1]
     induction ae generalizing i with
     |nil=>simp at hlen|cons r ae ih2=>
      have cP:r.length=sz:=hr r bE;cases i with|zero=>simp[<-cP]|succ i=>have:=ih2 i (λr hm=>hr r (by simp[hm])) ⟨hlen.1,by simpa using hlen.2⟩ (nN (λr hm=>hr r (by simp[hm])));simp only[List.set_cons_succ,pC,this];rw[show(i+1) * sz=r.length+i * sz by rw[cP,gJ];omega,JI,DU];rw[gm (ag:r.length<=r.length+i * sz),qF (ag:r.length<=r.length+i * sz+sz)];rw[(ag:r.length+i * sz - r.length=i * sz),(ag:r.length+i * sz+sz - r.length=i * sz+sz)];simp
    refine⟨?_,q2,by rw[q3];simp⟩;simp only[vP,cq];rw[aG ⟨hlen.1,eO⟩,<-zf];exact q1
   ·cases he
  ·cases he
def ID(zero:Array Value)(n):((zO (n * zero.size)).map (zero[·%zero.size]!)).toList=(a9 n zero.toList).flatten:=by
 induction n with
 |zero=>simp|succ n ih=>
  rw[List.replicate_succ',rC,<-ih];simp only[DD,Array.toList_range,gJ,Nat.one_mul,List.range_add,mw,Bx,pC,Tz,jr];congr 1;apply List.ext_getElem
  ·simp
  ·intro i h1 h2;have aA:i<zero.size:=(by simpa using h1);simp[Nat.mod_eq_of_lt aA,aA]
def aQ.Cd{zero:List AV}{z:List Value}(hz:aQ K zero z):∀n:Nat,aQ K (a9 n zero).flatten (a9 n z).flatten
 |0=>.nil
 |n+1=>by simp only[List.replicate_succ,pC];exact hz.append (aQ.Cd hz n)
def LJ{zero}(hz:zero.all AV.ek=ah)(n):(a9 n zero).flatten.all AV.ek=ah:=by rw[ey] at hz ⊢;intro x hx;simp only[List.mem_flatten,TD] at hx;obtain⟨l,⟨_,rfl⟩,hx⟩:=hx;exact hz x hx
def agd(s:bR K G ok w0 h w){t:TypeId}{len:Nat}{parts:Array (Nat × Operand)}{ρ:Operand->AV}{ρ':Operand->Value}(hρ:∀x,aX K (ρ x) (ρ' x)){x:AV}
 (he:gf P t len (parts.toList.map λp=>(p.1,ρ p.2))=aa x):
 ∃K' v w',K.Le K'/\bR K' G ok w0 h w'/\aX K' x v/\(Instr.buildSlice t len (parts.map λp=>(p.1,ρ' p.2))).run P w=.ok v w':=by
 obtain⟨p1,p2⟩:=Rr hρ parts;unfold gf at he;split at he
 ·rename_i elem hu;split at he
  ·rename_i size zero hs hz;obtain⟨z,jF,gG,zn⟩:=Dx (K:=K) hz w;split at he
   ·rename_i hc;simp only[dx] at he;obtain⟨out,ho,rfl⟩:=he;obtain⟨f1,f2,f3⟩:=V1 (λr hr=>by rw[(TD.1 hr).2];exact hc.2.1) ho;have xM:z.cells.size=size:=(by rw[<-hc.2.1,gG.length];simp);have ov:((zO (len * size)).map (z.cells[·%z.cells.size]!)).toList=(a9 len z.cells.toList).flatten:=(by rw[<-xM];exact ID _ _);obtain⟨out',q1,q2⟩:=Ko (dJ:=(zO (len * size)).map (z.cells[·%z.cells.size]!)) f1 (by rw[ov];exact gG.Cd len) p1 p2;obtain⟨le,s'⟩:=s.amX out' elem;refine⟨_,.slice (aa ⟨w.heap.size,0,au⟩) len len,_,le,s',?_,?_⟩
    ·refine .list .tight size out w.heap.size 0 len len out'.toList (by rw[f3];simp) f2 (q2.mono le) (λj c hj=>?_) ⟨aJ _,rfl⟩ (V2 f1 (LJ zn len));simp only[aW.tight,qb,if_true];simpa using hj
    ·by_cases h0:len * size=0
     ·have OT:len=0:=by
       rcases ady.1 h0 with h|h
       ·exact h
       ·omega
      subst OT;simp only[GF] at q1;have e1:(zO 0).map (λx=>(#[]:Array Value)[x%(#[]:Array Value).size]!)=(zO 0).map (z.cells[·%z.cells.size]!):=(by simp);simp only[Instr.buildSlice,Sem.run_bind,du hu,Result.andThen_ok,oa hs,GF];simp only[tN,gt_iff_lt,if_false,adI,if_true,Sem.run_pure,Result.andThen_ok,e1,q1,newRow,Sem.run_bind,run_newObj]
     ·simp only[Instr.buildSlice,Sem.run_bind,du hu,Result.andThen_ok,oa hs];rw[aI ag,aI h0];simp only[Sem.run_pure,Sem.run_bind,jF,Result.andThen_ok,q1,newRow,run_newObj]
   ·cases he
  ·cases he
 ·cases he
def aeD(s:bR K G ok w0 h w){t:TypeId}{cs:List AV}(hz:(gZ P t).bind AV.bP=aa cs):
 ∃K' v w',K.Le K'/\bR K' G ok w0 (h.box cs).2 w'/\aX K' (h.box cs).1 v/\(Instr.alloc t ah (.tuple #[])).run P w=.ok v w':=by
 obtain⟨z,jF,gG,zn⟩:=Dx (K:=K) hz w;obtain⟨q1,q2⟩:=s.Q8 t gG zn;exact⟨_,_,_,K.QQ _,q1,q2,by simp[Instr.alloc,jF,newVar,newRow]⟩
def af3(s:bR K G ok w0 h w){t:TypeId}{x:AV}{cs:List AV}(hc:x.bP=aa cs){c:Value}(hx:aX K x c):
 ∃K' v w',K.Le K'/\bR K' G ok w0 (h.box cs).2 w'/\aX K' (h.box cs).1 v/\(Instr.box t c).run P w=.ok v w':=by
 obtain⟨r1,r2⟩:=J9 hc hx;obtain⟨q1,q2⟩:=s.Q8 t r1 r2;exact⟨_,_,_,K.QQ _,q1,q2,by simp[Instr.box,newVar,newRow]⟩
def amB(s:bR K G ok w0 h w){t:TypeId}{l c x:AV}{h':aq}(he:zx P h t l c=aa (x,h')){vl vc:Value}(hl:aX K l vl)(hc:aX K c vc):
 ∃K' v w',K.Le K'/\bR K' G ok w0 h' w'/\aX K' x v/\(Instr.makeSlice t vl vc).run P w=.ok v w':=by
 unfold zx at he;split at he
 ·rename_i elem kl l kc c hu;obtain⟨rfl,_⟩:=hl.iV;obtain⟨rfl,_⟩:=hc.iV;split at he
  ·rename_i i zero hi hz;obtain⟨z,jF,gG,zn⟩:=Dx (K:=K) hz w;split at he
   ·rename_i Pg;obtain⟨h1,h2,h3,h4,h5,h6⟩:=Pg;injection he with he;obtain⟨rfl,rfl⟩:=iQ he;have hzero:i.zero=aa z:=by
     simp only[zeroValue,Sem.run_bind,sn hi,Result.andThen_ok] at jF;cases Ii:i.zero with|none=>rw[Ii] at jF;simp at jF|some v=>rw[Ii] at jF;simp at jF;rw[jF]
    have xM:z.cells.size=i.size:=(by rw[<-h6,gG.length];simp);have mF:=run_make (P:=P) w t elem i z hu hi hzero kl kc l c h1 h2 h4 ag;have ov:(madeCells z.cells (c.toNat * i.size)).toList=(a9 c.toNat z.cells.toList).flatten:=(by rw[<-xM];exact ID _ _);obtain⟨q1,q2⟩:=s.Q8 (cells:=madeCells z.cells (c.toNat * i.size)) elem (by rw[ov];exact gG.Cd _) (LJ zn _);cases q2 with|box _ _ _ hb=>exact⟨_,_,_,K.QQ _,q1,.arr _ _ _ _ _ _ _ hb ag (aJ _) (.inl rfl) (.inl rfl),mF⟩
   ·cases he
  ·cases he
 ·cases he
def sP{hi:Nat}{x:Option AV}{d n:Nat}(he:gK hi x d=aa n){x':Option Value}(hx:∀a,x=aa a->∃c,x'=aa c/\aX K a c)(hn:x=au->x'=au)(w:World):
 (x'=au/\n=d/\x=au)∨(∃c,x'=aa c/\(∀(top:Nat) (code:Go.BoundsCode),hi<=top->(Instr.sliceBound c top code).run P w=.ok n w)/\n<=hi/\x.isSome=ah):=by
 unfold gK at he;split at he
 ·injection he with he;subst he;exact .inl ⟨hn rfl,rfl,rfl⟩
 ·rename_i _ k m;split at he
  ·rename_i hc;injection he with he;subst he;obtain⟨c,rfl,hv⟩:=hx _ rfl;obtain⟨rfl,_⟩:=hv.iV;refine .inr ⟨_,rfl,λtop code ht=>?_,by omega,rfl⟩;have:m<=(top:Int):=(by omega);simp[Instr.sliceBound,asIntOf,hc.1,this]
  ·cases he
 ·cases he
def Ed{lo hi mx:Option AV}{lo' Cx mx':Option Value}(qR:∀a,lo=aa a->∃c,lo'=aa c/\aX K a c)(nlo:lo=au->lo'=au)
 (ui:∀a,hi=aa a->∃c,Cx=aa c/\aX K a c) (nhi:hi=au->Cx=au) (qT:∀a,mx=aa a->∃c,mx'=aa c/\aX K a c) (nmx:mx=au->mx'=au)
 {top aD len m hb l:Nat} (isSlice:Bool) (e1:gK top mx top=aa m) (e2:gK m hi len=aa hb) (e3:gK hb lo 0=aa l)
 (hlen:len<=aD) (Yv:top<=aD) (CF:mx.isSome=ah->hi.isSome=ah) (w:World):
 ∃m',(Instr.sliceBounds isSlice len aD lo' Cx mx').run P w=.ok (l,hb,m') w/\(mx=au->m'=aD/\m=top)/\(mx.isSome=ah->m'=m)/\l<=hb/\(hi=au->hb=len)/\hb<=m'/\(hi.isSome=ah->hb<=m):=by
 rcases sP (P:=P) e1 qT nmx w with⟨rfl,rfl,rfl⟩|⟨c1,rfl,q1,qS,bD⟩
 ·rcases sP (P:=P) e2 ui nhi w with⟨rfl,rfl,rfl⟩|⟨c2,rfl,q2,uX,ny⟩
  ·rcases sP (P:=P) e3 qR nlo w with⟨rfl,rfl,rfl⟩|⟨c3,rfl,q3,HI,_⟩
   ·exact⟨aD,by simp[Instr.sliceBounds],λ_=>⟨rfl,rfl⟩,bE,cA _,λ_=>rfl,hlen,by simp⟩
   ·have q3':=λcode=>q3 hb code (aJ _);exact⟨aD,by simp[Instr.sliceBounds,q3'],λ_=>⟨rfl,rfl⟩,bE,HI,λ_=>rfl,hlen,by simp⟩
  ·have q2':=λcode=>q2 aD code ag;rcases sP (P:=P) e3 qR nlo w with⟨rfl,rfl,rfl⟩|⟨c3,rfl,q3,HI,_⟩
   ·exact⟨aD,by simp[Instr.sliceBounds,q2'],λ_=>⟨rfl,rfl⟩,bE,cA _,λe=>by simp[e] at ny,by omega,λ_=>uX⟩
   ·have q3':=λcode=>q3 hb code (aJ _);exact⟨aD,by simp[Instr.sliceBounds,q2',q3'],λ_=>⟨rfl,rfl⟩,bE,HI,λe=>by simp[e] at ny,by omega,λ_=>uX⟩
 ·have ny:=CF bD;have q1':=λcode=>q1 aD code Yv;rcases sP (P:=P) e2 ui nhi w with⟨_,_,rfl⟩|⟨c2,rfl,q2,uX,_⟩
  ·simp at ny
  ·have q2':=λcode=>q2 m code (aJ _);rcases sP (P:=P) e3 qR nlo w with⟨rfl,rfl,rfl⟩|⟨c3,rfl,q3,HI,_⟩
   ·exact⟨m,by simp[Instr.sliceBounds,q1',q2'],λe=>by simp[e] at bD,λ_=>rfl,cA _,λe=>by simp[e] at ny,uX,λ_=>uX⟩
   ·have q3':=λcode=>q3 hb code (aJ _);exact⟨m,by simp[Instr.sliceBounds,q1',q2',q3'],λe=>by simp[e] at bD,λ_=>rfl,HI,λe=>by simp[e] at ny,uX,λ_=>uX⟩
def Rk{ρ:Operand->AV}{ρ':Operand->Value}(hρ:∀x,aX K (ρ x) (ρ' x))(o:Option Operand):
 (∀a,o.map ρ=aa a->∃c,o.map ρ'=aa c/\aX K a c)/\(o.map ρ=au->o.map ρ'=au):=by
 cases o with|none=>exact⟨λa h=>(by cases h),λ_=>rfl⟩|some x=>exact⟨λa h=>⟨_,rfl,(by injection h with h;subst h;exact hρ x)⟩,λh=>(by cases h)⟩
def aml{k:Tok}{sz:Nat}{es:List (List AV)}{g off aD size l hb m':Nat}{toEnd xR:Bool}
 (hv:aX K (.list k sz es) (.slice (aa ⟨g,off,au⟩) es.length aD)) (dL:size=sz∨es=[]) (hl:l<=hb) (hh:hb<=es.length) (hm:hb<=m') (jB:m'<=aD)
 (ug:toEnd=ah->hb=es.length/\m'=aD) (PO:xR=ah->m'=hb):
 aX K (.list (xn k toEnd xR (hb - l)) sz ((es.take hb).drop l)) (.slice (aa (if m'=l then ⟨g,off,au⟩ else (⟨g,off,au⟩:Addr).add (l * size))) (hb - l) (m' - l)):=by
 cases hv with
 |jv=>
  have yX:hb=0:=by simpa using hh
  subst yX;have l0:l=0:=by omega
  subst l0;have m0:m'=0:=by omega
  subst m0;refine .list _ sz [] g off 0 0 [] rfl bE .nil bE ⟨aJ _,?_⟩ rfl;unfold xn;cases toEnd<;>cases xR<;>simp
 |list _ _ _ _ _ n _ cells hn hr ga iS ht ha=>
  have HH:((es.take hb).drop l).length=hb - l:=by simp;omega
  have ajU:(if m'=l then (⟨g,off,au⟩:Addr) else (⟨g,off,au⟩:Addr).add (l * size))=⟨g,if m'=l then off else off+l * size,au⟩:=by
   split
   ·rfl
   ·rw[Addr.mO]
  rw[ajU];have gj:∀r∈(es.take hb).drop l,r.length=sz:=λr hm=>hr r (pE (Nr hm));have oV:((es.take hb).drop l).flatten=(es.flatten.take (hb * sz)).drop (l * sz):=by rw[We (λr hm=>hr r (pE hm)),OJ hr]
  refine .list _ sz _ g _ _ _ ((cells.take (hb * sz)).drop (l * sz)) HH.symm gj (by rw[oV];exact(ga.take _).drop _) (λj c hj=>?_) ?_ ?_
  ·simp only[pD,oJ] at hj;split at hj
   ·rename_i aA;have bG:es≠[]:=(by rintro rfl;simp only[Tz] at ga;cases ga;simp at hj);have Qu:size=sz:=dL.resolve_right bG;have rQ:l<hb:=by
     rcases dW l hb with h|h
     ·exact h
     ·have:hb * sz<=l * sz:=oM _ h;omega
    rw[aI ag,Qu];have:=iS _ _ hj;rw[<-this];congr 1;omega
   ·cases hj
  rotate_left
  ·rw[ey] at ha ⊢;intro x hx;rw[oV] at hx;exact ha x (pE (Nr hx))
  ·refine⟨ag,?_⟩;have EW:=ht.2;cases k with
   |nil=>exact EW.elim|tight=>
    simp only[xn];simp only at EW;cases toEnd with
    |true=>obtain⟨e1,e2⟩:=ug rfl;simp;omega
    |false=>
     cases xR with|true=>have:=PO rfl;simp;omega|false=>simp
   |held=>
    simp only[xn];cases xR with|true=>have:=PO rfl;simp;omega|false=>simp
   |free t=>
    simp only[xn];simp only at EW;cases xR with
    |true=>have:=PO rfl;simp;omega|false=>
     by_cases hc:(toEnd&&hb - l !=0)=ah
     ·simp only[jO,if_false,hc,if_true];simp only[bC,bne_iff_ne,ne_eq] at hc;obtain⟨e1,e2⟩:=ug hc.1;have bG:es≠[]:=(by rintro rfl;simp at e1;omega);have Qu:size=sz:=dL.resolve_right bG;obtain⟨t1,t2,t3,t4⟩:=EW;subst Qu;rw[aI ag];refine⟨t1,t2,?_,?_⟩
      ·rw[t3,<-e1,NK];have:l * size<=hb * size:=oM _ hl;omega
      ·rw[e2,NK];have:l * size<=aD * size:=oM _ ag;omega
     ·simp only[jO,if_false,hc]
def atl{t:TypeId}{x y:AV}{lo hi mx:Option Operand}{ρ:Operand->AV}{ρ':Operand->Value}(hρ:∀x,aX K (ρ x) (ρ' x))
 (he:iN P t x (lo.map ρ) (hi.map ρ) (mx.map ρ)=aa y) {c:Value} (hx:aX K x c) (w:World):
 ∃v,(Instr.sliceAt t c (lo.map ρ') (hi.map ρ') (mx.map ρ')).run P w=.ok v w/\aX K y v:=by
 obtain⟨qR,nlo⟩:=Rk hρ lo;obtain⟨ui,nhi⟩:=Rk hρ hi;obtain⟨qT,nmx⟩:=Rk hρ mx;unfold iN at he;split at he
 ·cases he
 rename_i XB;have CF:(mx.map ρ).isSome=ah->(hi.map ρ).isSome=ah:=by
  intro h1;cases h2:hi.map ρ with|some _=>rfl|none=>rw[h1,h2] at XB;simp at XB
 split at he
 ·rename_i s hu;split at he
  ·cases he
  rename_i hmn;have akS:mx.map ρ=au:=by simpa using hmn
  split at he
  ·rename_i hb e2;split at he
   ·rename_i l e3;injection he with he;subst he;obtain⟨rfl,_⟩:=hx.iV;obtain⟨m',q1,q2,_⟩:=Ed (P:=P) (mx:=au) (mx':=au) qR nlo ui nhi bE bE az (top:=s.size) (aD:=s.size) (m:=s.size) rfl e2 e3 (aJ _) (aJ _) bE w;refine⟨_,?_,.v (.string (s.extract l hb)) rfl⟩;simp only[Instr.sliceAt,Sem.run_bind,du hu,Result.andThen_ok,Instr.slice,nmx akS];simp[q1]
   ·cases he
  ·cases he
 ·rename_i elem k sz es hu;split at he
  ·rename_i size m hs e1;split at he
   ·rename_i hb e2;split at he
    ·rename_i l e3;split at he
     ·rename_i dL;injection he with he;subst he;have yZ:hb<=es.length:=by rcases sP (P:=P) e1 qT nmx w with⟨_,rfl,_⟩|⟨_,_,_,qS,_⟩<;>rcases sP (P:=P) e2 ui nhi w with⟨_,rfl,_⟩|⟨_,_,_,uX,_⟩<;>omega
      cases hx with
      |nil=>
       obtain⟨m',q1,q2,q3,q4,q5,q6,q7⟩:=Ed (P:=P) qR nlo ui nhi qT nmx ah (top:=0) (aD:=0) (len:=0) e1 e2 e3 (aJ _) (aJ _) CF w;have yX:hb=0:=(by simpa using yZ);subst yX;have l0:l=0:=(by omega);subst l0;have PW:m'=0:=by
        rcases sP (P:=P) e1 qT nmx w with⟨_,_,hn⟩|⟨_,_,_,qS,bD⟩
        ·exact(q2 hn).1
        ·have:=q3 bD;simp at qS;omega
       subst PW;refine⟨.slice au 0 0,?_,?_⟩
       ·simp only[Instr.sliceAt,Sem.run_bind,du hu,Result.andThen_ok,Instr.slice,q1,oa hs];simp
       ·simp only[xn,adp,acY];exact .nil _
      |jv _ a0=>
       obtain⟨m',q1,q2,q3,q4,q5,q6,q7⟩:=Ed (P:=P) qR nlo ui nhi qT nmx ah (top:=0) (aD:=0) (len:=0) e1 e2 e3 (aJ _) (aJ _) CF w;have yX:hb=0:=(by simpa using yZ);subst yX;have l0:l=0:=(by omega);subst l0;have PW:m'=0:=by
        rcases sP (P:=P) e1 qT nmx w with⟨_,_,hn⟩|⟨_,_,_,qS,bD⟩
        ·exact(q2 hn).1
        ·have:=q3 bD;simp at qS;omega
       subst PW;refine⟨.slice (aa a0) 0 0,?_,?_⟩
       ·simp only[Instr.sliceAt,Sem.run_bind,du hu,Result.andThen_ok,Instr.slice,q1,oa hs];simp
       ·have akM:m=0:=by
         rcases sP (P:=P) e1 qT nmx w with⟨_,hn,_⟩|⟨_,_,_,qS,bD⟩
         ·simpa using hn
         ·simpa using qS
        subst akM;have hct:∀q:Option AV,xn .tight (decide (0=([]:List (List AV)).length)&&q.isNone) (q.isSome&&decide (0=0)) (0 - 0)=.tight:=(by intro q;cases q<;>rfl);rw[hct];simp only[adp,acY];exact .jv _ _
      |list _ _ _ g off n aD cells hn hr ga iS ht ha=>
       subst hn;obtain⟨m',q1,q2,q3,q4,q5,q6,q7⟩:=Ed (P:=P) qR nlo ui nhi qT nmx true (top:=es.length) (aD:=aD) (len:=es.length) e1 e2 e3 ht.1 ht.1 CF w;have akN:m'<=aD:=by
        rcases sP (P:=P) e1 qT nmx w with⟨_,_,hn⟩|⟨_,_,_,qS,bD⟩
        ·rw[(q2 hn).1];exact aJ _
        ·have:=q3 bD;have:=ht.1;omega
       refine⟨.slice (aa (if m'=l then ⟨g,off,au⟩ else (⟨g,off,au⟩:Addr).add (l * size))) (hb - l) (m' - l),?_,?_⟩
       ·simp only[Instr.sliceAt,Sem.run_bind,du hu,Result.andThen_ok,Instr.slice,q1,oa hs,Sem.run_pure];congr 2;split<;>rfl
       ·refine aml (.list _ _ _ g off _ aD cells rfl hr ga iS ht ha) dL q4 yZ q6 akN (λh=>?_) (λh=>?_)
        ·simp only[bC,decide_eq_true_eq,Option.isNone_iff_eq_none] at h;exact⟨h.1,(q2 h.2).1⟩
        ·simp only[bC,decide_eq_true_eq] at h;rw[q3 h.1];exact h.2.symm
     ·cases he
    ·cases he
   ·cases he
  ·cases he
 ·rename_i elem b off len aD hu;split at he
  ·rename_i size m hs e1;split at he
   ·rename_i hb e2;split at he
    ·rename_i l e3;cases hx with
     |arr _ g _ _ _ fH iJ hβ hl pP rR lQ=>
      obtain⟨m',q1,q2,q3,q4,q5,q6,q7⟩:=Ed (P:=P) qR nlo ui nhi qT nmx ah (top:=aD) (aD:=iJ) (len:=len) e1 e2 e3 ag pP CF w;have hmc:m<=aD:=(by rcases sP (P:=P) e1 qT nmx w with⟨_,q,_⟩|⟨_,_,_,q,_⟩<;>omega);have hmm:m<=m':=by
       cases hq:D1 ρ mx with|none=>have:=q2 hq;omega|some z=>have:=q3 (by rw[hq];rfl);omega
      have yZ:hb<=m:=by
       cases hq:D1 ρ mx with
       |none=>
        cases rV:D1 ρ hi with|none=>have:=q5 rV;have:=q2 hq;omega|some z=>exact q7 (by rw[rV];rfl)
       |some z=>have:=q3 (by rw[hq];rfl);omega
      have mF:(Instr.sliceAt t (.slice (aa ⟨g,fH,au⟩) len iJ) (D1 ρ' lo) (D1 ρ' hi) (D1 ρ' mx)).run P w=.ok (.slice (aa ⟨g,if m'=l then fH else fH+l * size,au⟩) (hb - l) (m' - l)) w:=by
       simp only[Instr.sliceAt,Sem.run_bind,du hu,Result.andThen_ok,Instr.slice,q1,oa hs,Sem.run_pure];congr 2;split
       ·rfl
       ·simp[Addr.mO]
      refine⟨_,mF,?_⟩;split at he
      ·cases he
      rename_i vZ;split at he
      ·rename_i nx;injection he with he;subst he;have:=q3 nx.1;rw[(ag:hb - l=0),(ag:m' - l=0)];exact .jv _ _
      ·injection he with he;subst he;refine .arr _ _ _ _ _ _ _ hβ ag ag ?_ ?_
       ·rcases rR with rfl|hz
        ·by_cases nx:m=l
         ·exact .inr ag
         ·rw[aI ag,aI nx];exact .inl rfl
        ·exact .inr ag
       ·cases hq:D1 ρ mx with
        |some z=>have:=q3 (by rw[hq];rfl);exact .inl ag
        |none=>
         obtain⟨r1,r2⟩:=q2 hq;by_cases nx:m=l
         ·exact .inr (.inl ag)
         ·rw[aI nx];by_cases AU:l=0
          ·subst AU;rcases lQ with r|r|r|⟨sz,room,r3,r4,r5⟩
           ·exact .inl ag
           ·exact .inr (.inl ag)
           ·exact .inr (.inr (.inl ag))
           ·exact .inr (.inr (.inr ⟨sz,room,by rw[r2];exact r3,r4,by rw[r1];exact r5⟩))
          ·exact .inr (.inr (.inl (by have:=NG (adE AU) (adE vZ);omega)))
    ·cases he
   ·cases he
  ·cases he
 ·rename_i n elem b off hu;split at he
  ·rename_i size m hs e1;split at he
   ·rename_i hb e2;split at he
    ·rename_i l e3;injection he with he;subst he;cases hx with
     |box _ g _ hβ=>
      obtain⟨m',q1,q2,q3,q4,q5,q6,q7⟩:=Ed (P:=P) qR nlo ui nhi qT nmx az (top:=n) (aD:=n) (len:=n) e1 e2 e3 (aJ _) (aJ _) CF w;have hm:m'=m:=by
       rcases sP (P:=P) e1 qT nmx w with⟨_,_,hn⟩|⟨_,_,_,qS,bD⟩
       ·have:=q2 hn;omega
       ·exact q3 bD
      subst hm;refine⟨.slice (aa ⟨g,if m'=l then off else off+l * size,au⟩) (hb - l) (m' - l),?_,.arr _ _ _ _ _ _ _ hβ ag (aJ _) (.inl rfl) (.inl rfl)⟩;simp only[Instr.sliceAt,Sem.run_bind,du hu,Result.andThen_ok,Instr.sureAddr,q1,oa hs,Sem.run_pure];congr 3;split
      ·rfl
      ·simp[Addr.mO]
    ·cases he
   ·cases he
  ·cases he
 ·cases he
def Oz{f:Field}{n:Nat}(hs:dt P f.type=aa n)(hn:n≠0)(g o:Nat)(w:World):(fieldPlace ⟨g,o,au⟩ f).run P w=.ok ⟨g,o+f.offset,au⟩ w:=by simp[fieldPlace,oa hs,hn,Addr.mO]
def aiQ{t:TypeId}{x y:AV}{f:Nat}(he:gg P t x f=aa y){c:Value}(hx:aX K x c)(w:World):
 ∃v,(Instr.fieldAt t c f).run P w=.ok v w/\aX K y v:=by
 unfold gg at he;split at he
 ·rename_i fields hu;split at he
  ·rename_i fd hf;split at he
   ·cases he
   ·rename_i n CG hs;have hn:n≠0:=λe=>CG e;split at he
    ·rename_i r off;injection he with he;subst he;cases hx with|box b g _ hb=>exact⟨_,by simp[Instr.fieldAt,du hu,hf,Instr.sureAddr,Oz hs hn],.box _ _ _ hb⟩|eV g _=>exact⟨_,by simp[Instr.fieldAt,du hu,hf,Instr.sureAddr,Oz hs hn],.eV _ _⟩
    ·rename_i sz es i off;injection he with he;subst he;cases hx with|elem _ _ _ _ g o p cells hr hv hc hi hp ha=>exact⟨.pointer (aa ⟨g,p+fd.offset,au⟩),by simp[Instr.fieldAt,du hu,hf,Instr.sureAddr,Oz hs hn],.elem _ _ _ _ g o _ cells hr hv hc hi ag ha⟩
    ·cases he
   ·cases he
  ·cases he
 ·cases he
def alj{t:TypeId}{x ix y:AV}(he:dH P t x ix=aa y){c ci:Value}(hx:aX K x c)(hi:aX K ix ci)(w:World):
 ∃v,(Instr.indexAt t c ci).run P w=.ok v w/\aX K y v:=by
 unfold dH at he;split at he
 ·rename_i elem k sz es kk i hu;obtain⟨rfl,_⟩:=hi.iV;split at he
  ·rename_i hc;injection he with he;subst he;cases hx with|nil=>simp at hc;omega|jv=>simp at hc;omega|list _ _ _ g off n aD cells hn hr hv iS ht ha=>subst hn;refine⟨.pointer (aa ⟨g,off+i.toNat * sz,au⟩),?_,.elem _ _ _ _ g off _ cells hr hv iS ag ag ha⟩;simp[Instr.indexAt,du hu,asIntOf,hc.1,hc.2.1,oa hc.2.2,Addr.mO]
  ·cases he
 ·rename_i elem b off len aD kk i hu;obtain⟨rfl,_⟩:=hi.iV;split at he
  ·rename_i size hs;split at he
   ·rename_i hc;injection he with he;subst he;cases hx with
    |arr _ g _ _ _ fH iJ hb hl pP rR lQ=>
     have:fH=off:=by rcases rR with p|p<;>omega
     subst this;exact⟨_,by simp[Instr.indexAt,du hu,asIntOf,hc.1,hc.2,oa hs,Addr.mO],.box _ _ _ hb⟩
   ·cases he
  ·cases he
 ·rename_i len elem r off kk i hu;obtain⟨rfl,_⟩:=hi.iV;split at he
  ·rename_i size hs;split at he
   ·rename_i hc;injection he with he;subst he;cases hx with|box b g _ hb=>exact⟨_,by simp[Instr.indexAt,du hu,asIntOf,hc.1,hc.2,oa hs,Addr.mO,Instr.sureAddr],.box _ _ _ hb⟩|eV g _=>exact⟨_,by simp[Instr.indexAt,du hu,asIntOf,hc.1,hc.2,oa hs,Addr.mO,Instr.sureAddr],.eV _ _⟩
   ·cases he
  ·cases he
 ·rename_i len elem sz es k off kk i hu;obtain⟨rfl,_⟩:=hi.iV;split at he
  ·rename_i size hs;split at he
   ·rename_i hc;injection he with he;subst he;cases hx with|elem _ _ _ _ g o p cells hr hv iS Cx hp ha=>exact⟨.pointer (aa ⟨g,p+i.toNat * size,au⟩),by simp[Instr.indexAt,du hu,asIntOf,hc.1,hc.2,oa hs,Addr.mO,Instr.sureAddr],.elem _ _ _ _ g o _ cells hr hv iS Cx ag ha⟩
   ·cases he
  ·cases he
 ·cases he
def ZY{t:TypeId}{cs:List AV}{off:Nat}{y:AV}(he:Iw P t cs off=aa y){vs:Array Value}(hx:aQ K cs vs.toList)(w:World):
 ∃v,(part t vs off).run P w=.ok v w/\aX K y v:=by
 unfold Iw at he;split at he
 ·rename_i Cj;simp only[dx] at he;obtain⟨n,hs,rfl⟩:=he;refine⟨.agg (vs.extract off (off+n)),by simp[part,Mm Cj,oa hs],.agg _ _ ?_⟩;have:(vs.extract off (off+n)).toList=(vs.toList.drop off).take n:=by rw[acs,acZ];congr 1;omega
  rw[this];exact(hx.drop off).take n
 ·rename_i Cj;obtain⟨c,hc,hr⟩:=hx.get he;exact⟨c,by simp only[part,Sem.run_bind,Mm Cj,Result.andThen_ok];simp only[jO,if_false];rw[show vs[off]?=aa c by simpa using hc];rfl,hr⟩
 ·cases he
def aln{t:TypeId}{x ix y:AV}(he:CZ P t x ix=aa y){c ci:Value}(hx:aX K x c)(hi:aX K ix ci)(w:World):
 ∃v,(Instr.index t c ci).run P w=.ok v w/\aX K y v:=by
 unfold CZ at he;split at he
 ·rename_i s kk i hu;obtain⟨rfl,_⟩:=hi.iV;obtain⟨rfl,_⟩:=hx.iV;split at he
  ·rename_i b hb;injection he with he;subst he;split at hb
   ·rename_i h0;refine⟨.int .u8 b.toNat,?_,.v _ rfl⟩;have:s[i.toNat]?=aa b:=(by have h1:i.toNat<s.data.size:=(Dy.1 hb).1;have h2:s.data[i.toNat]=b:=(Dy.1 hb).2;have h3:i.toNat<s.size:=h1;rw[getElem?_pos s i.toNat h3];exact congrArg aa h2);simp only[Instr.index,Sem.run_bind,asIntOf,Sem.run_pure,Result.andThen_ok,du hu,aG h0,this]
   ·cases hb
  ·cases he
 ·rename_i len elem cs kk i hu;obtain⟨rfl,_⟩:=hi.iV;split at he
  ·rename_i size hs;split at he
   ·rename_i hc;cases hx with|agg _ vs ga=>obtain⟨v,q1,q2⟩:=ZY he ga w;exact⟨v,by simp only[Instr.index,Sem.run_bind,asIntOf,Sem.run_pure,Result.andThen_ok,du hu,aG hc,oa hs,q1],q2⟩
   ·cases he
  ·cases he
 ·cases he
def QH{t:TypeId}(he:isIface P t=aa az):∃d,P.underlying t=aa d/\∀ms,d≠ .interface ms:=by
 unfold isIface at he;split at he
 ·cases he
 ·rename_i d h1 h2;exact⟨d,h2,λms e=>h1 ms e⟩
 ·cases he
def aeY{x y:AV}{xt a:TypeId}{okk:Bool}(he:yJ P x a okk=aa y){c:Value}(hx:aX K x c)(w:World):
 ∃v,(Instr.typeAssert c xt a okk).run P w=.ok v w/\aX K y v:=by
 unfold yJ at he;split at he
 ·rename_i t x' y6;obtain⟨d,hu,hd⟩:=QH y6;cases hx with
  |iface _ _ c' hx=>
   split at he
   ·rename_i xL;injection he with he;subst he;subst xL;cases okk with
    |true=>refine⟨.tuple #[c',.bool ah],?_,.tuple _ _ (.cons _ _ _ _ hx (.cons _ _ _ _ (.v _ rfl) .nil))⟩;simp only[Instr.typeAssert,Sem.run_bind,du hu,Result.andThen_ok];cases d<;>first|exact absurd rfl (hd _)|simp
    |false=>refine⟨c',?_,hx⟩;simp only[Instr.typeAssert,Sem.run_bind,du hu,Result.andThen_ok];cases d<;>first|exact absurd rfl (hd _)|simp
   ·rename_i xL;split at he
    ·rename_i bq;simp only[dx] at he;obtain⟨z,hz,rfl⟩:=he;obtain⟨v,jF,rfl⟩:=Sw hz w;refine⟨.tuple #[v,.bool az],?_,.tuple _ _ (.cons _ _ _ _ (Lt v) (.cons _ _ _ _ (.v _ rfl) .nil))⟩;simp only[Instr.typeAssert,Sem.run_bind,du hu,Result.andThen_ok];cases d<;>first|exact absurd rfl (hd _)|simp[xL,bq,jF]
    ·cases he
 ·rename_i y6;obtain⟨d,hu,hd⟩:=QH y6;obtain⟨rfl,_⟩:=hx.iV;split at he
  ·rename_i bq;simp only[dx] at he;obtain⟨z,hz,rfl⟩:=he;obtain⟨v,jF,rfl⟩:=Sw hz w;refine⟨.tuple #[v,.bool az],?_,.tuple _ _ (.cons _ _ _ _ (Lt v) (.cons _ _ _ _ (.v _ rfl) .nil))⟩;simp only[Instr.typeAssert,Sem.run_bind,du hu,Result.andThen_ok];cases d<;>first|exact absurd rfl (hd _)|simp[bq,jF]
  ·cases he
 ·cases he
def af2{op}{b}{x}(he:xg op b=aa x):(op=.eql/\x=.v (.bool b))∨(op=.neq/\x=.v (.bool !b)):=by
 unfold xg at he;split at he
 ·injection he with he;exact .inl ⟨rfl,he.symm⟩
 ·injection he with he;exact .inr ⟨rfl,he.symm⟩
 ·cases he
def UM{op:BinOp}{t:TypeId}{x y:Operand}{a b r:AV}(he:JY P op t x y a b=aa r){p q:Value}(ha:aX K a p)(hb:aX K b q)(w:World):
 ∃v,(do eqGuard op t x y p q;binOp op t p q:Sem Value).run P w=.ok v w/\aX K r v:=by
 unfold JY at he;split at he
 ·rename_i p' q' hp hq;have e1:=Kq hp ha;have e2:=Kq hq hb;subst e1;subst e2;simp only[Ac] at he;obtain⟨z,h1,h2⟩:=he;exact⟨z,IA h1 w,Ja h2⟩
 ·cases he
def yO{op:BinOp}{t:TypeId}{x y:Operand}{p q:Value}{b:Bool}{r:AV}(he:xg op b=aa r)(hg:∀op,eqGuard op t x y p q=pure ())(w:World)
 (akp:∀d,(Op.equalIn (d+1) t p q).run P w=.ok b w) (h1:binOp .eql t p q=(do pure (.bool (<-Op.equal t p q)))) (h2:binOp .neq t p q=(do pure (.bool (!(<-Op.equal t p q))))):
 ∃v,(do eqGuard op t x y p q;binOp op t p q:Sem Value).run P w=.ok v w/\aX K r v:=by
 have mD:(Op.equal t p q).run P w=.ok b w:=akp 9999;rcases af2 he with⟨rfl,rfl⟩|⟨rfl,rfl⟩
 ·exact⟨.bool b,by rw[hg,h1];simp[mD],.v _ rfl⟩
 ·exact⟨.bool !b,by rw[hg,h2];simp[mD],.v _ rfl⟩
def YR{t:TypeId}(he:isIface P t=aa ah):∃ms,P.underlying t=aa (.interface ms):=by
 unfold isIface at he;split at he
 ·exact⟨_,‹_›⟩
 ·cases he
 ·cases he
def afv{op:BinOp}{t:TypeId}{x y:Operand}{a b r:AV}(he:cY P op t x y a b=aa r){p q:Value}(ha:aX K a p)(hb:aX K b q)(w:World):
 ∃v,(do eqGuard op t x y p q;binOp op t p q:Sem Value).run P w=.ok v w/\aX K r v:=by
 unfold cY at he;split at he
 ·rename_i s1 s2;have f1:=ha.iV.1;have f2:=hb.iV.1;subst f1;subst f2;split at he
  ·injection he with he;subst he;exact⟨.bool (s1.data.toList==s2.data.toList),by simp[eqGuard,binOp,Op.stringOp,ByteArray.toList_eq],.v _ rfl⟩
  ·injection he with he;subst he;exact⟨.bool !(s1.data.toList==s2.data.toList),by simp[eqGuard,binOp,Op.stringOp,ByteArray.toList_eq],.v _ rfl⟩
  ·split at he
   ·rename_i hl;injection he with he;subst he;refine⟨.string (s1++s2),?_,.v _ rfl⟩;have:¬(((s1.size+s2.size:Nat):Int)>IntKind.i64.max):=(by simp only[IntKind.max,IntKind.signed,IntKind.bits];simp;omega);simp only[eqGuard,binOp,Op.stringOp];simp only[aI this];simp
   ·cases he
  ·exact UM he ha hb w
 ·rename_i ti xi;split at he
  ·rename_i y6;obtain⟨ms,hu⟩:=YR y6;cases ha with|iface _ _ c hx=>have f2:=hb.iV.1;subst f2;refine yO he (λop=>by cases op<;>rfl) w (λd=>?_) rfl rfl;simp only[Op.equalIn,Sem.run_bind,du hu,Result.andThen_ok,Sem.run_pure]
  ·cases he
 ·rename_i ti xi;split at he
  ·rename_i y6;obtain⟨ms,hu⟩:=YR y6;cases hb with|iface _ _ c hx=>have f2:=ha.iV.1;subst f2;refine yO he (λop=>by cases op<;>rfl) w (λd=>?_) rfl rfl;simp only[Op.equalIn,Sem.run_bind,du hu,Result.andThen_ok,Sem.run_pure]
  ·cases he
 ·rename_i r0 o0;split at he
  ·rename_i e hu;have f2:=hb.iV.1;subst f2;cases ha<;>(refine yO he (λop=>by cases op<;>rfl) w (λd=>?_) rfl rfl;simp only[Op.equalIn,Sem.run_bind,du hu,Result.andThen_ok,Sem.run_pure,JN])
  ·cases he
 ·rename_i r0 o0;split at he
  ·rename_i e hu;have f2:=ha.iV.1;subst f2;cases hb<;>(refine yO he (λop=>by cases op<;>rfl) w (λd=>?_) rfl rfl;simp only[Op.equalIn,Sem.run_bind,du hu,Result.andThen_ok,Sem.run_pure,JN])
  ·cases he
 ·split at he
  ·rename_i hu;have f2:=hb.iV.1;subst f2;cases ha<;>(refine yO he (λop=>by cases op<;>rfl) w (λd=>?_) rfl rfl;simp only[Op.equalIn,Sem.run_bind,du hu,Result.andThen_ok,Sem.run_pure,JN])
  ·cases he
 ·split at he
  ·rename_i hu;have f2:=ha.iV.1;subst f2;cases hb<;>(refine yO he (λop=>by cases op<;>rfl) w (λd=>?_) rfl rfl;simp only[Op.equalIn,Sem.run_bind,du hu,Result.andThen_ok,Sem.run_pure,JN])
  ·cases he
 ·rename_i k sz es sz2;split at he
  ·rename_i e hu;have f2:q=.slice au 0 0:=by
    cases hb with|nil=>rfl|list _ _ _ _ _ _ _ _ _ _ _ _ ht _=>exact ht.2.elim
   subst f2;cases ha with
   |nil=>refine yO he (λop=>by cases op<;>rfl) w (λd=>?_) rfl rfl;simp only[Op.equalIn,Sem.run_bind,du hu,Result.andThen_ok,Sem.run_pure,Option.isNone_none,decide_true]
   |jv=>refine yO he (λop=>by cases op<;>rfl) w (λd=>?_) rfl rfl;simp only[Op.equalIn,Sem.run_bind,du hu,Result.andThen_ok,Sem.run_pure,JN];rfl
   |list _ _ _ g off n aD cells hn hr hv hc ht _=>have hk:k≠ .nil:=λe=>(by subst e;exact ht.2);refine yO he (λop=>by cases op<;>rfl) w (λd=>?_) rfl rfl;simp only[Op.equalIn,Sem.run_bind,du hu,Result.andThen_ok,Sem.run_pure,hk,decide_false]
  ·cases he
 ·exact UM he ha hb w
def au8{op:UnOp}{a r:AV}(he:Du P op a=aa r){p:Value}(ha:aX K a p)(w:World):∃v,(Op.unary op p).run P w=.ok v w/\aX K r v:=by
 unfold Du at he;split at he
 ·rename_i p' hp;have e1:=Kq hp ha;subst e1;simp only[Ac] at he;obtain⟨z,h1,h2⟩:=he;exact⟨z,IA h1 w,Ja h2⟩
 ·cases he
end
section
variable {P:Program} {K:aW} {G:Nat->Option (List AV)} {ok:FuncId->Nat->Code->Bool} {w0 w:World} {h:aq}
def Uw{h}{d}{sz}{es}{t}(hd:∀n∈h.dead,n∈d)(ha:alive ({h with dead:=d}.fresh sz es).2 t=ah):
 t=h.tn∨(alive h t=ah/\t∉d):=by
 simp only[aq.fresh,alive,bC,decide_eq_true_eq,zR,List.contains_eq_mem,decide_eq_false_iff_not] at ha;obtain⟨xw,pN⟩:=ha;have xw:t<h.tn+1:=of_decide_eq_true xw;rcases dW t h.tn with aA|eg
 ·exact .inr ⟨by simp[alive,aA];exactλhm=>pN (hd t hm),pN⟩
 ·exact .inl ag
def bR.OO{w':World}(s:bR K G ok w0 h w){d:List Nat}(hd:∀n∈h.dead,n∈d){sz:Nat}{es:List (List AV)}{cells:Array Value}{e:TypeId}{fz:Nat × Nat}{aD:Nat}
 (hr:∀r∈es,r.length=sz) (ha:es.flatten.all AV.ek=ah) (hv:aQ K es.flatten (cells.toList.take (es.length * sz)))
 (P8:w'.os=w.os) (Qw:w'.tape=w.tape) (AY:w'.output=w.output) (dL:w'.heap.size=w.heap.size+1)
 (nV:∀k,k<w.heap.size->w'.heap[k]?=w.heap[k]?) (oA:w'.heap[w.heap.size]?=aa (.cells cells e fz))
 (jB:es.length<=aD) (nR:aD * sz<=cells.size) (xG:∀j,j<cells.size->nO fz j=az):
 ∃K',K.Le K'/\bR K' G ok w0 ({h with dead:=d}.fresh sz es).2 w'/\aX K' ({h with dead:=d}.fresh sz es).1 (.slice (aa ⟨w.heap.size,0,au⟩) es.length aD):=by
 have Cy:∀j,K.ic w.heap.size j=au:=λj=>by
  cases hc:K.ic w.heap.size j with|none=>rfl|some c=>have:=s.A7 hc;omega
 have hlen:es.length * sz<=cells.size:=fw (oM _ jB) nR;have dU:=s.row (h':=({h with dead:=d}.fresh sz es).2) (w':=w') (g:=w.heap.size) (off:=0) (m:=es.length * sz) (cells:=cells) (e:=e) (fz:=fz) rfl rfl rfl
  (λt ht=>(Uw hd ht).imp id λhh=>⟨hh.1,λmD=>by obtain⟨_,_,_,_,_,_,h4,_⟩:=s.tok t hh.1;have:=o9 h4;omega⟩)
  s.size (λb hb=>by obtain⟨cs,cq⟩:=βaa s hb;obtain⟨_,_,_,_,_,h3,_⟩:=s.box b _ cs hb cq;have:=o9 h3;omega) (λj _=>Cy j) ag P8 Qw AY
  (λk o hk ho=>by rw[nV k (o9 ho)];exact ho) oA (λo ho=>by have:=o9 ho;omega) (λj c hc=>by rw[Cy] at hc;cases hc) (cA _) hlen (λj _ hl=>xG j hl)
 have le:=aW.QS (K:=K) (g:=w.heap.size) (off:=0) (m:=es.length * sz) (size:=cells.size) (cells:=λj=>cells[j]?) (λj _=>Cy j) s.size;refine⟨_,le,dU,?_⟩;refine .list (.free h.tn) sz es w.heap.size 0 _ aD (cells.toList.take (es.length * sz)) rfl hr (hv.mono le) (λj c hj=>?_) ⟨jB,?_⟩ ha
 ·simp only[oJ] at hj;split at hj
  ·rename_i aA;simp only[aW.row,qb];rw[aG (by exact⟨aU,cA _,aA⟩)];simpa using hj
  ·cases hj
 ·simp only[aW.row,s.tn,if_true];refine⟨ag,aU,by omega,by omega⟩
def Ai(l:List UInt8):∀r∈l.map lh,r.length=1:=by intro r hr;simp only[jP] at hr;obtain⟨b,_,rfl⟩:=hr;rfl
def Og(l:List UInt8):(l.map lh).flatten=l.map λb=>AV.v (.int .u8 b.toNat):=by
 induction l with
 |nil=>rfl|cons b l ih=>simp[lh,ih]
def U4(l:List UInt8):aQ K (l.map lh).flatten (l.map λb=>Value.int .u8 b.toNat):=by rw[Og];exact aQ.map_mk λb _=>.v _ rfl
def U3(l:List UInt8):(l.map lh).flatten.all AV.ek=ah:=by rw[Og,ey];intro x hx;simp only[jP] at hx;obtain⟨b,_,rfl⟩:=hx;rfl
def au1(s:bR K G ok w0 h w){e:TypeId}{str:ByteArray}:
 ∃K' v w',K.Le K'/\bR K' G ok w0 (h.fresh 1 (str.data.toList.map lh)).2 w'/\aX K' (h.fresh 1 (str.data.toList.map lh)).1 v/\(Conv.stringToBytes e str).run P w=.ok v w':=by
 have hq:∃aD,str.size<=aD/\(choose (.appendCap str.size 0 e)).run P w=.ok aD {w with drawn:=w.drawn+1}:=by refine⟨_,?_,by simp[Question.forced];rfl⟩;simp[Question.cut]
 obtain⟨aD,jB,ud⟩:=hq
 let w1:World:={w with drawn:=w.drawn+1}
 let cells:Array Value:=str.data.map (λb=>.int .u8 b.toNat)++DB (aD - str.size) (.int .u8 0)
 have cq:cells.size=aD:=by have:str.data.size=str.size:=rfl;simp only[cells,Array.size_append,Array.size_map,Array.size_replicate,this];try omega
 have hlen:str.data.toList.length=str.size:=rfl
 let w2:World:=({w1 with heap:=w1.heap.push (.cells cells e)}:World).freeze {block:=w1.heap.size,off:=aD} 1
 have oA:w2.heap[w.heap.size]?=aa (.cells cells e (aD,aD+1)):=by simp only[w2,World.freeze,w1,NH,if_false,Dz,if_true,Array.getElem?_push_size,ff];rfl
 have nV:∀k,k<w.heap.size->w2.heap[k]?=w.heap[k]?:=λk hk=>by simp only[w2,World.freeze,w1,Dz];simp only[NH,if_false,Dz];rw[aI ag];exact Cu w _ hk
 obtain⟨K',le,s',hv⟩:=s.OO (w':=w2) (d:=h.dead) (λ_ hm=>hm) (sz:=1) (es:=str.data.toList.map lh) (cells:=cells) (e:=e) (fz:=(aD,aD+1)) (aD:=aD)
  (Ai _) (U3 _) (by have:cells.toList.take ((str.data.toList.map lh).length * 1)=str.data.toList.map λb=>Value.int .u8 b.toNat:=(by simp only[cells,DC,DD,bu,oN];rw[JJ bE,gm bE]);rw[this];exact U4 _) rfl rfl rfl (by simp[w2,World.freeze,w1]) nV oA (by simp only[bu,hlen];exact jB) ag (λj hj=>by simp[nO];omega)
 refine⟨K',_,w2,le,s',hv,?_⟩;have jT:(str.data.toList.map lh).length=str.size:=by simp only[bu,hlen]
 rw[jT];simp only[Conv.stringToBytes,Sem.run_bind,ud,Result.andThen_ok,newRow,run_newObj,Sem.run_pure,markStringish,run_shape];have KZ:({w1 with heap:=w1.heap.push (.cells cells e)}:World).shape? w1.heap.size=aa (e,aD):=by simp[World.shape?,cq]
 simp only[w1,cells] at KZ;simp only[KZ,run_freeze,Result.andThen_ok,Sem.run_pure,w2,w1,cells]
def agh:∀{ae:List (List AV)} {l:List UInt8},bytesOf ae=aa l->∀{vs:List Value},aQ K ae.flatten vs->
 ∃ns:List Int,vs=ns.map (.int .u8 ·)/\l=ns.map λn=>UInt8.ofNat n.toNat:=by
 intro ae
 induction ae with
 |nil=>intro l h vs hv;simp[bytesOf] at h;subst h;cases hv;exact⟨[],rfl,rfl⟩
 |cons r ae ih=>
  intro l h vs hv;simp only[bytesOf] at h;split at h
  ·rename_i b l' hb hl;injection h with h;subst h;unfold byteOf at hb;split at hb
   ·rename_i n;injection hb with hb;subst hb;simp only[pC,kL,lJ] at hv;cases hv with|cons _ c _ cs hx hs=>obtain⟨ns,h1,h2⟩:=ih hl hs;exact⟨n::ns,by rw[hx.iV.1,h1];rfl,by rw[h2];rfl⟩
   ·cases hb
  ·cases h
def foldl_push(ns:List Int):∀acc:ByteArray,ns.foldl (λb a=>b.push (UInt8.ofNat a.toNat)) acc=⟨acc.data++(ns.map λn=>UInt8.ofNat n.toNat).toArray⟩:=by
 induction ns with
 |nil=>intro acc;simp|cons n ns ih=>intro acc;simp only[yw,ih,eC];simp[ByteArray.push]
def IK(s:bR K G ok w0 h w){size:Nat}{x:AV}{ae:List (List AV)}(he:rowsOf h size x=aa ae){c:Value}(hv:aX K x c):
 ∃a aD eJ,c=.slice a ae.length aD/\(∀r∈ae,r.length=size)/\aQ K ae.flatten eJ/\ae.flatten.all AV.ek=ah/\eJ.length=ae.length * size/\
  (∀b,a=aa b->(loadCells b (ae.length * size)).run P w=.ok eJ.toArray w)/\(a=au->ae=[]):=by
 unfold rowsOf at he;split at he
 ·rename_i k sz es;split at he
  ·rename_i dL;injection he with he;subst he;cases hv with
   |nil=>exact⟨au,0,[],rfl,by simp,.nil,rfl,by simp,λb hb=>(by cases hb),λ_=>rfl⟩|jv _ a0=>refine⟨aa a0,0,[],rfl,by simp,.nil,rfl,by simp,λb hb=>?_,λhb=>by cases hb⟩;have:=run_loadCells_list (P:=P) w b [] (λj v hj=>by simp at hj);simpa using this|list _ _ _ g off n aD cells hn hr ga iS ht ha=>
    subst hn;have hl:cells.length=es.length * sz:=(by rw[<-ga.length,nN hr]);have zh:es.length * sz=es.length * size:=by
     rcases dL with h|h
     ·rw[h]
     ·simp[h]
    refine⟨aa ⟨g,off,au⟩,aD,cells,rfl,λr hm=>?_,ga,ha,by rw[hl,zh],λb hb=>?_,λhn=>by cases hn⟩
    ·rcases dL with h|h
     ·rw[<-h];exact hr r hm
     ·rw[h] at hm;simp at hm
    ·injection hb with hb;subst hb;have:=run_loadCells_list (P:=P) w ⟨g,off,au⟩ cells (λj v hj=>by rw[Addr.mO];exact s.ic _ _ _ (iS j v hj));rw[hl,zh] at this;exact this
  ·cases he
 ·rename_i b off len aD;split at he
  ·rename_i cs cq;split at he
   ·rename_i nR;injection he with he;subst he;cases hv with
    |arr _ g _ _ _ fH iJ hb hl pP rR lQ=>
     obtain⟨_,_,ka,cells,e,k3,k4⟩:=s.box b g cs hb cq;have akt:∀n,off+n * size<=cs.length->((bM n).map λi=>(cs.drop (off+i * size)).take size).flatten=(cs.drop off).take (n * size):=by
      intro n
      induction n with
      |zero=>intro _;simp|succ n ih=>intro hn;rw[om,mw,rC,ih (by rw[gJ] at hn;omega)];simp only[eC,List.map_nil,pC,Tz,jr];rw[show(n+1) * size=n * size+size by rw[gJ];omega,List.take_add,List.drop_drop]
     have hf:=akt len nR;have hk4:=(k4.1.drop off).take (len * size);have de:cs.length<=cells.toList.length:=(by have:=k4.le;simpa using this);have qs:(((cells.toList.take cs.length).drop off).take (len * size)).length=len * size:=(by simp only[eS,hJ];omega);refine⟨aa ⟨g,fH,au⟩,iJ,((cells.toList.take cs.length).drop off).take (len * size),by simp,λr hr=>?_,?_,?_,by rw[qs];simp,λb' iB=>?_,λhn=>by cases hn⟩
     ·simp only[jP,fQ] at hr;obtain⟨i,hi,rfl⟩:=hr;simp only[eS,hJ];have:(i+1) * size<=len * size:=oM _ hi;rw[gJ] at this;omega
     ·rw[hf];exact hk4
     ·rw[hf,ey];intro x hx;exact ey.1 ka x (Nr (pE hx))
     ·injection iB with iB;subst iB;have:=run_loadCells_list (P:=P) w ⟨g,fH,au⟩ (((cells.toList.take cs.length).drop off).take (len * size)) (λj v hj=>by
       rcases rR with rfl|hz
       ·rw[Addr.mO,sT k3];simp only[oJ,pD] at hj;split at hj
        ·split at hj
         ·simpa using hj
         ·cases hj
        ·cases hj
       ·have AU:len=0:=(by omega);subst AU;simp at hj)
      have jT:(((cells.toList.take cs.length).drop off).take (len * size)).length=((bM len).map λi=>(cs.drop (off+i * size)).take size).length * size:=(by rw[qs];simp);rw[jT] at this;exact this
   ·cases he
  ·cases he
 ·cases he
def Ir(s:bR K G ok w0 h w){size:Nat}{x:AV}{ae:List (List AV)}(he:mX h size x=aa ae){c:Value}(hv:aX K x c):
 ∃eJ,(Builtin.lenOf c).run P w=.ok ae.length w/\(∀r∈ae,r.length=size)/\aQ K ae.flatten eJ/\ae.flatten.all AV.ek=ah/\eJ.length=ae.length * size/\
  (Builtin.firstCells size ae.length c).run P w=.ok eJ.toArray w:=by
 unfold mX at he;split at he
 ·rename_i str;split at he
  ·rename_i h1;injection he with he;subst he;subst h1;obtain⟨rfl,_⟩:=hv.iV;have hl:(str.data.toList.map lh).length=str.size:=(by rw[bu];rfl);refine⟨str.data.toList.map λb=>.int .u8 b.toNat,by rw[hl];rfl,Ai _,U4 _,U3 _,by simp,?_⟩;rw[hl];have:str.extract 0 str.size=str:=(by simp);have e2:str.data.map (λb=>Value.int .u8 b.toNat)=(str.data.toList.map λb=>Value.int .u8 b.toNat).toArray:=(by apply MW;simp);simp only[Builtin.firstCells,this,Sem.run_pure,e2]
  ·cases he
 ·obtain⟨a,aD,eJ,rfl,hr,ga,ha,hlen,CC,pT⟩:=IK (P:=P) s he hv;refine⟨eJ,rfl,hr,ga,ha,hlen,?_⟩;cases a with|none=>have:=pT rfl;subst this;have:eJ=[]:=(by simpa using hlen);subst this;rfl|some b=>exact CC b rfl
def abk(z)(n):(Builtin.zeroCells z n).size=n * z.size:=by simp[Builtin.zeroCells]
def ajF(s:bR K G ok w0 h w){d:List Nat}(hd:∀n∈h.dead,n∈d){t0 t1 elem:TypeId}{ts:Array TypeId}{ty:TypeId}{i:TypeInfo}{d1:TypeDesc}(h0:ts[0]?=aa t0)(hu:P.underlying t0=aa (.slice elem))
 (h1:ts[1]?=aa t1) (mG:P.underlying t1=aa d1) (fj:∀k,d1≠ .int k) (hi:P.info? elem=aa i) (hz:(i.zero.map λz=>z.cells.size)=aa i.size)
 {es new:List (List AV)} {a:Option Addr} {aD:Nat} {c cx:Value} (hc:c=.slice a es.length aD) (jB:aD<es.length+new.length)
 (hr:∀r∈es,r.length=i.size) (ha:es.flatten.all AV.ek=ah) {eJ:List Value} (ga:aQ K es.flatten eJ) (hf:(Builtin.firstCells i.size es.length c).run P {w with drawn:=w.drawn+1}=.ok eJ.toArray {w with drawn:=w.drawn+1})
 {nv:List Value} (PV:(Builtin.lenOf cx).run P w=.ok new.length w) (KY:∀r∈new,r.length=i.size) (YA:aQ K new.flatten nv) (yW:new.flatten.all AV.ek=ah)
 (AN:(Builtin.firstCells i.size new.length cx).run P {w with drawn:=w.drawn+1}=.ok nv.toArray {w with drawn:=w.drawn+1})
 (hb:(es.length+new.length) * i.bytes<=140737488355328) (hm:es.length+new.length<=9223372036854775807):
 ∃K' v w',K.Le K'/\bR K' G ok w0 ({h with dead:=d}.fresh i.size (es++new)).2 w'/\aX K' ({h with dead:=d}.fresh i.size (es++new)).1 v/\(Builtin.append_ ts ty #[c,cx]).run P w=.ok v w':=by
 simp only[dx] at hz;obtain⟨z,hz,xM⟩:=hz;have hq:∃nc,es.length+new.length<=nc/\(choose (.appendCap (es.length+new.length) aD elem)).run P w=.ok nc {w with drawn:=w.drawn+1}:=by refine⟨_,?_,by simp[Question.forced];rfl⟩;simp[Question.cut]
 obtain⟨nc,HM,ud⟩:=hq
 let rest:=Builtin.zeroCells z.cells (nc - (es.length+new.length))
 let cells:Array Value:=eJ.toArray++nv.toArray++rest
 let w1:World:={w with drawn:=w.drawn+1}
 let w2:World:={w1 with heap:=w1.heap.push (.cells cells elem)}
 have oX:eJ.length=es.length * i.size:=by rw[<-ga.length,nN hr]
 have jT:nv.length=new.length * i.size:=by rw[<-YA.length,nN KY]
 have hlen:(es++new).length * i.size=(eJ++nv).length:=by rw[dw,dw,oX,jT,gJ]
 have hzero:(zeroValue elem).run P w1=.ok z w1:=by simp[zeroValue,sn hi,hz]
 have aks:=growslice_fits (bytes:=i.bytes) jB hb;have mF:(Builtin.append_ ts ty #[c,cx]).run P w=.ok (.slice (aa ⟨w.heap.size,0,au⟩) (es.length+new.length) nc) w2:=by
  subst hc;have e1:¬(((es.length+new.length:Nat):Int)>IntKind.i64.max):=by simp only[IntKind.max,IntKind.signed,IntKind.bits];simp;omega
  have e2:¬(Builtin.nextslicecap (es.length+new.length) aD * i.bytes>2^48):=by omega
  have e3:¬(es.length+new.length<=aD):=by omega
  cases d1<;>first|exact absurd rfl (fj _)|(simp only[Builtin.append_,h0,jy,jV,p8,Sem.run_bind,du hu,Result.andThen_ok,sizeOf,sn hi,Sem.run_pure,h1,du mG,jO,if_false,PV,e3,e1,e2,false_and,ud,run_askRoom,hf,zS,if_true,AN,newRow,run_newObj,hzero,w1,w2,cells,rest])
 have bD:cells.size=nc * i.size:=by simp only[cells,Td,ado,rest,abk,oX,jT,xM];rw[NK];have:(es.length+new.length) * i.size<=nc * i.size:=oM _ HM;rw[gJ] at this ⊢;omega
 have oA:w2.heap[w.heap.size]?=aa (.cells cells elem (0,0)):=by simp[w2,w1]
 obtain⟨K',le,s',hv⟩:=s.OO (w':=w2) hd (sz:=i.size) (es:=es++new) (cells:=cells) (e:=elem) (fz:=(0,0)) (aD:=nc)
  (λr hm=>by rcases wR.1 hm with hm|hm;exact hr r hm;exact KY r hm) (by rw[rC,zZ,ha,yW];rfl) (by have:cells.toList.take ((es++new).length * i.size)=eJ++nv:=(by rw[hlen];simp only[cells,DC];rw[JJ bE];exact gm bE);rw[this,rC];exact ga.append YA) rfl rfl rfl (by simp[w2,w1]) (λk hk=>Cu w _ hk) oA (by rw[dw];exact HM) (by rw[bD];exact aJ _) (λj _=>Ku j)
 rw[dw] at hv;exact⟨K',_,w2,le,s',hv,mF⟩
def av0(s:bR K G ok w0 h w){ts:Array TypeId}{ty elem:TypeId}{kn:IntKind}{a x y:AV}{h':aq}(hu:(ts[0]?).bind P.underlying=aa (.slice elem))(mG:(ts[1]?).bind P.underlying=aa (.int kn))
 (he:MT P h ts elem a x=aa (y,h')) {c cx:Value} (ha:aX K a c) (hx:aX K x cx):
 ∃K' v w',K.Le K'/\bR K' G ok w0 h' w'/\aX K' y v/\(Builtin.append_ ts ty #[c,cx]).run P w=.ok v w':=by
 unfold MT at he;split at he
 ·rename_i sz kk n;obtain⟨rfl,_⟩:=hx.iV;split at he
  ·rename_i i zero hi hz;obtain⟨z,jF,gG,zn⟩:=Dx (K:=K) hz w;split at he
   ·rename_i Pg;obtain⟨h0,h1,h2,h3,h5,h6⟩:=Pg;injection he with he;obtain⟨rfl,rfl⟩:=iQ he;have hzero:i.zero=aa z:=by
     simp only[zeroValue,Sem.run_bind,sn hi,Result.andThen_ok] at jF;cases Ii:i.zero with|none=>rw[Ii] at jF;simp at jF|some v=>rw[Ii] at jF;simp at jF;rw[jF]
    have xM:z.cells.size=i.size:=(by rw[<-h6,gG.length];simp);obtain⟨m,rfl⟩:∃m:Nat,n=m:=⟨n.toNat,by omega⟩;rw[Int.toNat_natCast];obtain⟨t0,t1,rfl⟩:∃t0 t1,ts=#[t0,t1]:=by
     obtain⟨l⟩:=ts
     match l,h0 with
     | [a,b],_=>exact⟨a,b,rfl⟩
    have hu:P.underlying t0=aa (.slice elem):=hu;have mG:P.underlying t1=aa (.int kn):=mG;have hm:m * i.bytes<=140737488355328:=(by have:((m * i.bytes:Nat):Int)<=140737488355328:=(by rw[Int.natCast_mul];exact h2);omega);have mF:=Go.Lib.run_append_nil_zeros (P:=P) w t0 t1 ty elem i z kk kn hu mG hi hzero m ag h5 ag ag;have eg:=grownCap_ge w m 0 elem;generalize grownCap w m 0 elem=gc at *
    have KE:(Builtin.zeroCells z.cells m).toList=(a9 m z.cells.toList).flatten:=ID _ _;have oX:(a9 m z.cells.toList).flatten.length=(a9 m zero).flatten.length:=(gG.Cd m).length.symm;have jT:(a9 m zero).flatten.length=m * i.size:=nN (sz:=i.size) (es:=a9 m zero) (λr hr=>by rw[JD hr];exact h6)|>.trans (by rw[mM])
    have dL:(Builtin.zeroCells z.cells m++Builtin.zeroCells z.cells (gc - m)).size=gc * i.size:=by
     rw[Td,<-ym,<-ym,KE,oX,jT];have e2:(Builtin.zeroCells z.cells (gc - m)).toList=(a9 (gc - m) z.cells.toList).flatten:=ID _ _;rw[e2,<-(gG.Cd (gc - m)).length];have e3:(a9 (gc - m) zero).flatten.length=(gc - m) * i.size:=nN (sz:=i.size) (es:=a9 (gc - m) zero) (λr hr=>by rw[JD hr];exact h6)|>.trans (by rw[mM])
     rw[e3,<-gJ,Nat.add_sub_cancel' eg]
    obtain⟨q1,q2⟩:=(s.drew (w.drawn+1)).Q9 (cs:=(a9 m zero).flatten) (cells:=Builtin.zeroCells z.cells m++Builtin.zeroCells z.cells (gc - m)) elem (aa (m,i.size,gc * i.size))
     (by rw[DC,KE,JJ (by rw[oX];exact aJ _),gm (by rw[oX];exact aJ _)];exact gG.Cd m) (LJ zn _)
     (λN sz room q=>by injection q with q;injection q with q1 q;injection q with q2 q3;subst q1 q2 q3;exact .inr ⟨jT,by rw[dL];exact aJ _⟩)
    have hlen:h.boxes.length=K.β.length:=s.ma.symm;cases ha with
    |nil=>
     cases q2 with|box _ _ _ hb=>exact⟨_,_,_,K.Fg _ _,q1,.arr _ _ _ _ _ _ _ hb (aJ _) eg (.inl rfl) (.inr (.inr (.inr ⟨i.size,gc * i.size,by simp only[aW.pJ,hlen,if_true],h5,aJ _⟩))),mF⟩
    |list _ _ _ _ _ _ _ _ _ _ _ _ ht _=>exact ht.2.elim
   ·cases he
  ·cases he
 ·cases he
set_option maxHeartbeats 1000000 in
def N2(s:bR K G ok w0 h w){ts:Array TypeId}{ty:TypeId}{a x y:AV}{h':aq}(he:gN P h ts a x=aa (y,h')){c cx:Value}(ha:aX K a c)(hx:aX K x cx):
 ∃K' v w',K.Le K'/\bR K' G ok w0 h' w'/\aX K' y v/\(Builtin.append_ ts ty #[c,cx]).run P w=.ok v w':=by
 unfold gN at he;split at he
 ·rename_i hu mG;exact av0 s hu mG he ha hx
 ·rename_i elem d1 EK hu mG;simp only[Ac] at hu mG;obtain⟨t0,h0,hu⟩:=hu;obtain⟨t1,h1,mG⟩:=mG;have fj:∀k,d1≠ .int k:=λk e=>EK k e;split at he
  ·cases he
  rename_i i hi;split at he
  ·cases he
  rename_i new mg;split at he;rotate_left
  ·cases he
  rename_i hz;obtain⟨nv,n1,n2,n3,n4,n5,n6⟩:=Ir (P:=P) s mg hx;obtain⟨nv',n1',n2',n3',n4',n5',n6'⟩:=Ir (P:=P) (s.drew (w.drawn+1)) mg hx;split at he
  ·rename_i k sz es;split at he;rotate_left
   ·cases he
   rename_i dL;have jU:rowsOf h i.size (.list k sz es)=aa es:=(by simp only[rowsOf];rw[aG dL]);obtain⟨b,aD,eJ,rfl,r1,r2,r3,r4,r5,r6⟩:=IK (P:=P) (s.drew (w.drawn+1)) jU ha;have hf:(Builtin.firstCells i.size es.length (.slice b es.length aD)).run P {w with drawn:=w.drawn+1}=.ok eJ.toArray {w with drawn:=w.drawn+1}:=by
    cases b with|none=>have:=r6 rfl;subst this;have:eJ=[]:=(by simpa using r4);subst this;rfl|some b=>exact r5 b rfl
   split at he
   ·rename_i pT;injection he with he;obtain⟨rfl,rfl⟩:=Prod.mk.inj he;subst pT;have PZ:nv=[]:=(by simpa using n5);subst PZ;refine⟨K,.slice b es.length aD,w,.refl K,s,ha,?_⟩;have jB:es.length<=aD:=by
     cases ha with|nil=>exact aJ _|jv=>exact aJ _|list _ _ _ _ _ _ _ _ _ _ _ _ ht _=>exact ht.1
    have n1:(Builtin.lenOf cx).run P w=.ok 0 w:=n1;have n6:(Builtin.firstCells i.size 0 cx).run P w=.ok #[] w:=n6;cases d1<;>first|exact absurd rfl (fj _)|(cases b<;>simp only[Builtin.append_,h0,jy,jV,p8,Sem.run_bind,du hu,Result.andThen_ok,sizeOf,sn hi,Sem.run_pure,h1,du mG,jO,if_false,n1,BC,jB,if_true,zS,n6,storeCells])
   ·rename_i HN;have HO:0<new.length:=by cases new with|nil=>exact absurd rfl HN|cons _ _=>simp
    split at he;rotate_left
    ·cases he
    rename_i hb;have grow:∀d:List Nat,(∀n∈h.dead,n∈d)->aD<es.length+new.length->
     ∃K' v w',K.Le K'/\bR K' G ok w0 ({h with dead:=d}.fresh i.size (es++new)).2 w'/\aX K' ({h with dead:=d}.fresh i.size (es++new)).1 v/\(Builtin.append_ ts ty #[.slice b es.length aD,cx]).run P w=.ok v w':=
     λd hd jB=>ajF s hd h0 hu h1 mG fj hi hz.2 rfl jB r1 r3 r2 hf n1 n2 n3' n4 n6' hb.1 hb.2
    split at he
    ·injection he with he;obtain⟨rfl,rfl⟩:=iQ he;cases ha with|nil=>exact grow h.dead (λ_ hm=>hm) (by simpa using HO)|list _ _ _ _ _ _ _ _ _ _ _ _ ht _=>exact ht.2.elim
    ·injection he with he;obtain⟨rfl,rfl⟩:=iQ he;cases ha with|jv=>exact grow h.dead (λ_ hm=>hm) (by simpa using HO)|list _ _ _ _ _ _ _ _ _ _ _ _ ht _=>exact grow h.dead (λ_ hm=>hm) (by have:=ht.2;simp only at this;omega)
    ·rename_i n;split at he;rotate_left
     ·cases he
     rename_i WX;simp only[bC,decide_eq_true_eq] at WX;obtain⟨eG,hsi⟩:=WX;injection he with he;obtain⟨rfl,rfl⟩:=iQ he;rcases dW aD (es.length+new.length) with jB|jB
     ·exact grow (n::h.dead) (λ_ hm=>fE _ hm) jB
     ·cases ha with
      |list _ _ _ g off n' _ cells hn hr ga iS ht qO=>
       obtain⟨t1',t2,t3,t4⟩:=ht.2;obtain⟨k1,k2,k3,bc,be,bz,k4,k5,k6⟩:=s.tok n eG;subst t2;subst hsi;have mV:bc.size=(K.tk n).2.2:=k5;have nR:off+es.length * i.size+nv.length<=bc.size:=(by have:(es.length+new.length) * i.size<=aD * i.size:=oM _ jB;rw[gJ] at this;omega);obtain⟨w',dJ,q1,q2,q3⟩:=I8 (P:=P) (off+es.length * i.size) be bz nv 0 bc w k4 ag (GL n3 n4) (λj hj hj'=>by rw[<-AA k4];exact k6 j ag ag);have HC:dJ.size=bc.size:=(by have h1:dJ.toList.length=bc.toList.length:=(by rw[q3];simp only[dw,eS,hJ,ym,BC];omega);simpa using h1);have Pu:∀j,j<off+es.length * i.size->dJ[j]?=bc[j]?:=λj hj=>(by rw[<-DA,q3,<-DA,tL,sH (by simp;omega),oJ,aG ag]);have akv:∀j,j<nv.length->dJ[off+es.length * i.size+j]?=nv[j]?:=λj hj=>(by have aA:(bc.toList.take (off+es.length * i.size+0)).length=off+es.length * i.size:=(by simp;omega);rw[<-DA,q3,tL,Ab ag,aA,sH ag];congr 1;omega);have dU:=s.row (h':=({h with dead:=n::h.dead}.fresh i.size (es++new)).2) (w':=w') (g:=(K.tk n).1) (off:=off+es.length * i.size) (m:=off+(es.length+new.length) * i.size) (cells:=dJ) (e:=be) (fz:=bz) rfl rfl rfl
        (λt ht=>(Uw (λ_ hm=>fE _ hm) ht).imp id λhh=>⟨hh.1,λmD=>hh.2 (by rw[s.qA t n hh.1 eG mD];exact fW ..)⟩)
        k1 k2 (λj hj=>k3 j ag) (by rw[q2.size];exact aJ _) q2.os q2.tape q2.output (λk o hk ho=>(q2.other k hk).trans ho) q2.this (λo ho=>by rw[k4] at ho;injection ho with ho;subst ho;exact⟨_,_,_,rfl⟩)
        (λj c hc=>by
         have hj:j<off+es.length * i.size:=by
          rcases dW j (off+es.length * i.size) with h|h
          ·exact h
          ·rw[k3 j ag] at hc;cases hc
         rw[Pu j hj,<-sT k4];exact s.ic _ _ _ hc)
        (by rw[gJ];omega) (by rw[gJ,HC];omega) (λj hj hl=>by rw[<-AA k4];rw[gJ] at hj;exact k6 j ag ag)
       have le:=aW.QS (K:=K) (g:=(K.tk n).1) (off:=off+es.length * i.size) (m:=off+(es.length+new.length) * i.size) (size:=dJ.size) (cells:=λj=>dJ[j]?) (λj hj=>k3 j ag) k1;have de:cells.length=es.length * i.size:=(by rw[<-ga.length,nN hr]);refine⟨_,.slice (aa ⟨(K.tk n).1,off,au⟩) (es.length+new.length) aD,w',le,dU,?_,?_⟩
       ·refine .list (.free h.tn) i.size (es++new) (K.tk n).1 off _ aD (cells++nv) bE (λr hm=>by rcases wR.1 hm with hm|hm;exact hr r hm;exact n2 r hm) (by rw[rC];exact(ga.append n3).mono le) (λj c hj=>?_) ⟨jB,?_⟩ (by rw[rC,zZ,qO,n4];rfl)
        ·rcases dW j cells.length with aA|eg
         ·rw[sH aA] at hj;exact le.ic _ _ _ (iS j c hj)
         ·rw[Ab eg] at hj;have pS:j - cells.length<nv.length:=(aS.1 hj).1;simp only[aW.row];rw[aG (by refine⟨aU,by omega,by rw[gJ];omega⟩)];have:=akv (j - cells.length) pS;rw[hj] at this;rw[<-this];congr 1;omega
        ·simp only[aW.row,s.tn,if_true];refine⟨ag,aU,aU,by omega⟩
       ·have AG:(⟨(K.tk n).1,off,au⟩:Addr).add (es.length * i.size)=⟨(K.tk n).1,off+es.length * i.size,au⟩:=Addr.mO _ _ _;cases d1<;>first|exact absurd rfl (fj _)|(simp only[Builtin.append_,h0,jy,jV,p8,Sem.run_bind,du hu,Result.andThen_ok,sizeOf,sn hi,Sem.run_pure,h1,du mG,jO,if_false,n1,jB,if_true,zS,n6,AG,q1])
    ·cases he
  ·rename_i b off len aD;split at he
   ·rename_i cs cq;split at he
    ·rename_i hc;injection he with he;obtain⟨rfl,rfl⟩:=iQ he;cases ha with
     |arr _ g _ _ _ fH iJ hb hl pP rR lQ=>
      obtain⟨k1,k2,ka,cells,e,k3,k4⟩:=s.box b g cs hb cq;have zh:cs.length<=cells.size:=k4.le;have hm:(len+new.length) * i.size<=aD * i.size:=oM _ hc.1;rw[gJ] at hm;have Xi:len+new.length<=iJ:=(by omega);by_cases CT:aD=0
      ·have CG:new=[]:=by cases new with|nil=>rfl|cons _ _=>simp at hc;omega
       subst CG;have PZ:nv=[]:=(by simpa using n5);subst PZ;have n1:(Builtin.lenOf cx).run P w=.ok 0 w:=n1;have n6:(Builtin.firstCells i.size 0 cx).run P w=.ok #[] w:=n6;have zf:h.boxes.set b (eX cs (off+len * i.size) ([]:List (List AV)).flatten)=h.boxes:=by
        rw[show eX cs (off+len * i.size) ([]:List (List AV)).flatten=cs by simp[eX]];apply rB;intro k;rw[mL];split
        ·rename_i e;subst e;rw[aG (aS.1 cq).1,cq]
        ·rfl
       rw[zf];refine⟨K,.slice (aa ⟨g,fH,au⟩) len iJ,w,.refl K,s,.arr _ _ _ _ _ _ _ hb hl pP rR lQ,?_⟩;have PJ:len<=iJ:=(by omega);cases d1<;>first|exact absurd rfl (fj _)|(simp only[Builtin.append_,h0,jy,jV,p8,Sem.run_bind,du hu,Result.andThen_ok,sizeOf,sn hi,Sem.run_pure,h1,du mG,jO,if_false,n1,BC,PJ,if_true,zS,n6,storeCells])
      ·have P1:fH=off:=by rcases rR with p|p<;>omega
       obtain⟨w',dJ,q1,q2,q3⟩:=I8 (P:=P) (off+len * i.size) e (0,0) nv 0 cells w k3 ag (GL n3 n4) (λj _ _=>Ku j);have oY:new.flatten.length=new.length * i.size:=(by rw[n3.length,n5]);refine⟨K,.slice (aa ⟨g,fH,au⟩) (len+new.length) iJ,w',.refl K,s.SN hb cq (by rw[oY];omega) k3 q2 q3 n3 n4,.arr _ _ _ _ _ _ _ hb hc.1 pP rR lQ,?_⟩;have AG:(⟨g,off,au⟩:Addr).add (len * i.size)=⟨g,off+len * i.size,au⟩:=Addr.mO _ _ _;rw[P1];cases d1<;>first|exact absurd rfl (fj _)|(simp only[Builtin.append_,h0,jy,jV,p8,Sem.run_bind,du hu,Result.andThen_ok,sizeOf,sn hi,Sem.run_pure,h1,du mG,jO,if_false,n1,Xi,if_true,zS,n6,AG,q1])
    ·cases he
   ·cases he
  ·cases he
 ·cases he
def ajG{t0 t1 elem:TypeId}{ts:Array TypeId}{ty:TypeId}{i:TypeInfo}{d1:TypeDesc}(h0:ts[0]?=aa t0)(hu:P.underlying t0=aa (.slice elem))
 (h1:ts[1]?=aa t1) (mG:P.underlying t1=aa d1) (fj:∀k,d1≠ .int k) (hi:P.info? elem=aa i) (hz:(i.zero.map λz=>z.cells.size)=aa i.size)
 {n m:Nat} {a:Option Addr} {aD:Nat} {cx:Value} (jB:aD<n+m) {eJ:List Value} (qs:eJ.length=n * i.size)
 (hf:(Builtin.firstCells i.size n (.slice a n aD)).run P {w with drawn:=w.drawn+1}=.ok eJ.toArray {w with drawn:=w.drawn+1})
 {nv:List Value} (PV:(Builtin.lenOf cx).run P w=.ok m w) (oY:nv.length=m * i.size)
 (AN:(Builtin.firstCells i.size m cx).run P {w with drawn:=w.drawn+1}=.ok nv.toArray {w with drawn:=w.drawn+1})
 (hb:(n+m) * i.bytes<=140737488355328) (hm:n+m<=9223372036854775807):
 ∃nc cells,n+m<=nc/\cells.size=nc * i.size/\cells.toList.take ((n+m) * i.size)=eJ++nv/\
  (Builtin.append_ ts ty #[.slice a n aD,cx]).run P w=.ok (.slice (aa ⟨w.heap.size,0,au⟩) (n+m) nc) {w with drawn:=w.drawn+1,heap:=w.heap.push (.cells cells elem)}:=by
 simp only[dx] at hz;obtain⟨z,hz,xM⟩:=hz;have hq:∃nc,n+m<=nc/\(choose (.appendCap (n+m) aD elem)).run P w=.ok nc {w with drawn:=w.drawn+1}:=by refine⟨_,?_,by simp[Question.forced];rfl⟩;simp[Question.cut]
 obtain⟨nc,HM,ud⟩:=hq
 let rest:=Builtin.zeroCells z.cells (nc - (n+m))
 let cells:Array Value:=eJ.toArray++nv.toArray++rest
 let w1:World:={w with drawn:=w.drawn+1}
 have hlen:(n+m) * i.size=(eJ++nv).length:=by rw[dw,qs,oY,gJ]
 have hzero:(zeroValue elem).run P w1=.ok z w1:=by simp[zeroValue,sn hi,hz]
 have aks:=growslice_fits (bytes:=i.bytes) jB hb;refine⟨nc,cells,HM,?_,?_,?_⟩
 ·simp only[cells,Td,ado,rest,abk,qs,oY,xM];rw[NK];have:(n+m) * i.size<=nc * i.size:=oM _ HM;rw[gJ] at this ⊢;omega
 ·rw[hlen];simp only[cells,DC];rw[JJ bE];exact gm bE
 ·have e1:¬(((n+m:Nat):Int)>IntKind.i64.max):=by simp only[IntKind.max,IntKind.signed,IntKind.bits];simp;omega
  have e2:¬(Builtin.nextslicecap (n+m) aD * i.bytes>2^48):=by omega
  have e3:¬(n+m<=aD):=by omega
  cases d1<;>first|exact absurd rfl (fj _)|(simp only[Builtin.append_,h0,jy,jV,p8,Sem.run_bind,du hu,Result.andThen_ok,sizeOf,sn hi,Sem.run_pure,h1,du mG,jO,if_false,PV,e3,e1,e2,false_and,ud,run_askRoom,hf,zS,if_true,AN,newRow,run_newObj,hzero,w1,cells,rest])
set_option maxHeartbeats 2000000 in
def auT(s:bR K G ok w0 h w){ts:Array TypeId}{ty:TypeId}{a x y:AV}{h':aq}(he:sC P h ts a x=aa (y,h')){c cx:Value}(ha:aX K a c)(hx:aX K x cx):
 ∃K' v w',K.Le K'/\bR K' G ok w0 h' w'/\aX K' y v/\(Builtin.append_ ts ty #[c,cx]).run P w=.ok v w':=by
 have aF:=he;unfold sC at he;split at he
 ·cases he
 ·rename_i elem d1 EK Yx Yy;have hu:=Yx;have mG:=Yy;simp only[Ac] at hu mG;obtain⟨t0,h0,hu⟩:=hu;obtain⟨t1,h1,mG⟩:=mG;have fj:∀k,d1≠ .int k:=λk e=>EK k e;split at he
  ·cases he
  rename_i i hi;split at he
  ·cases he
  rename_i new mg;split at he;rotate_left
  ·cases he
  rename_i hz;obtain⟨nv,n1,n2,n3,n4,n5,n6⟩:=Ir (P:=P) s mg hx;obtain⟨nv',n1',n2',n3',n4',n5',n6'⟩:=Ir (P:=P) (s.drew (w.drawn+1)) mg hx;have fresh:∀{h0:aq} (s0:bR K G ok w0 h0 w) {n aD:Nat} {ad:Option Addr} {cs:List AV} {eJ:List Value},h0.boxes.length=h.boxes.length->aD<n+new.length->aQ K cs eJ->cs.all AV.ek=ah->cs.length=n * i.size->
   (Builtin.firstCells i.size n (.slice ad n aD)).run P {w with drawn:=w.drawn+1}=.ok eJ.toArray {w with drawn:=w.drawn+1}->(n+new.length) * i.bytes<=140737488355328->n+new.length<=9223372036854775807->
   ∃K' v w',K.Le K'/\bR K' G ok w0 {h0 with boxes:=h0.boxes++[cs++new.flatten]} w'/\aX K' (.arr h.boxes.length 0 (n+new.length) (n+new.length)) v/\(Builtin.append_ ts ty #[.slice ad n aD,cx]).run P w=.ok v w':=by
   intro h0' s0 n aD ad cs eJ jJ jB ga qO de hf hb hm;have oY:new.flatten.length=new.length * i.size:=nN n2';obtain⟨nc,cells,g1,g2,g3,g4⟩:=ajG (ty:=ty) h0 hu h1 mG fj hi hz.2 jB (by rw[<-ga.length,de]) hf n1 n5' n6' hb hm;have Ez:(cs++new.flatten).length=(n+new.length) * i.size:=(by rw[dw,de,oY,gJ]);obtain⟨q1,q2⟩:=(s0.drew (w.drawn+1)).Q9 (cs:=cs++new.flatten) (cells:=cells) elem (aa (n+new.length,i.size,nc * i.size)) (by rw[Ez,g3];exact ga.append n3') (by rw[zZ,qO,n4'];rfl)
    (λN sz room q=>by injection q with q;injection q with q1 q;injection q with q2 q3;subst q1 q2 q3;exact .inr ⟨Ez,by rw[g2];exact aJ _⟩)
   cases q2 with|box _ _ _ fT=>rw[jJ] at fT;refine⟨_,_,_,K.Fg _ _,q1,.arr _ _ _ _ _ _ _ fT (aJ _) g1 (.inl rfl) (.inr (.inr (.inr ⟨i.size,nc * i.size,?_,hz.1,aJ _⟩))),g4⟩;have hlen:h.boxes.length=K.β.length:=(by rw[s0.ma,jJ]);simp only[aW.pJ,hlen,if_true]
  split at he
  ·rename_i k sz es;split at he;rotate_left
   ·cases he
   rename_i dL;split at he
   ·rename_i pT;refine N2 s ?_ ha hx;unfold gN;rw[Yx,Yy];cases d1<;>first|exact absurd rfl (fj _)|(simp only[hi,mg,aG hz,aG dL,aG pT];exact he)
   ·rename_i HN;split at he;rotate_left
    ·cases he
    rename_i hb;have jU:rowsOf h i.size (.list k sz es)=aa es:=(by simp only[rowsOf];rw[aG dL]);obtain⟨b,aD,eJ,rfl,r1,r2,r3,r4,r5,r6⟩:=IK (P:=P) (s.drew (w.drawn+1)) jU ha;have hf:(Builtin.firstCells i.size es.length (.slice b es.length aD)).run P {w with drawn:=w.drawn+1}=.ok eJ.toArray {w with drawn:=w.drawn+1}:=by
     cases b with|none=>have:=r6 rfl;subst this;have:eJ=[]:=(by simpa using r4);subst this;rfl|some b=>exact r5 b rfl
    have HO:0<new.length:=by cases new with|nil=>exact absurd rfl HN|cons _ _=>simp
    have fin:aD<es.length+new.length->aa (AV.arr h.boxes.length 0 (es.length+new.length) (es.length+new.length),({h with boxes:=h.boxes++[(es++new).flatten]}:aq))=aa (y,h')->∃K' v w',K.Le K'/\bR K' G ok w0 h' w'/\aX K' y v/\(Builtin.append_ ts ty #[.slice b es.length aD,cx]).run P w=.ok v w':=λjB hq=>(by injection hq with hq;obtain⟨rfl,rfl⟩:=iQ hq;rw[rC];exact fresh s rfl jB r2 r3 (nN r1) hf hb.1 hb.2);split at he
    ·refine fin ?_ he;cases ha with|nil=>simpa using HO|list _ _ _ _ _ _ _ _ _ _ _ _ ht _=>exact ht.2.elim
    ·refine fin ?_ he;cases ha with|jv=>simpa using HO|list _ _ _ _ _ _ _ _ _ _ _ _ ht _=>have:=ht.2;simp only at this;omega
    ·cases he
  ·rename_i b off len aD;split at he
   ·rename_i cs cq;split at he
    ·exact N2 s he ha hx
    ·rename_i HA;split at he
     ·rename_i hc;injection he with he;obtain⟨rfl,rfl⟩:=iQ he;obtain⟨c1,c2,c3,c4,c5,c6⟩:=hc;subst c1;subst c3;cases ha with
      |arr _ g _ _ _ fH iJ hb hl pP rR lQ=>
       have P1:fH=0:=by rcases rR with p|p<;>omega
       subst P1;obtain⟨k1,k2,ka,cells,e,k3,k4⟩:=s.box b g cs hb cq;have bG:cs≠[]:=λq=>(by subst q;have:=NG c2 hz.1;simp at c4;omega);have Pb:=(aS.1 cq).1;have pQ:=s.aie b;have KN:(h.boxes.set b []).length=h.boxes.length:=(by simp);rcases dW iJ (len+new.length) with jB|jB
       ·refine fresh pQ KN jB k4.1 ka c4.symm ?_ c5 c6;have:=run_loadCells_list (P:=P) {w with drawn:=w.drawn+1} ⟨g,0,au⟩ (cells.toList.take cs.length) (λj v hj=>by
         rw[Addr.mO,sT (w:={w with drawn:=w.drawn+1}) k3];simp only[oJ] at hj;split at hj
         ·simpa using hj
         ·cases hj)
        rw[<-k4.1.length,<-c4] at this;rw[<-c4];exact this
       ·rcases lQ with r|r|r|⟨sz,room,r1,r2,r3⟩
        ·omega
        ·omega
        ·exact absurd rfl r
        ·rcases k4.2 _ _ _ r1 with q|⟨q1,q2⟩
         ·exact absurd q bG
         ·have dL:i.size=sz:=Nat.eq_of_mul_eq_mul_left c2 (c4.trans q1);subst dL;have eO:=k4.le;have oY:new.flatten.length=new.length * i.size:=nN n2;have akX:(len+new.length) * i.size<=cells.size:=fw (oM _ jB) (fw r3 q2);rw[gJ] at akX;obtain⟨w',dJ,w1,w2,w3⟩:=I8 (P:=P) (0+len * i.size) e (0,0) nv 0 cells w k3 ag (GL n3 n4) (λj _ _=>Ku j);have ake:dJ.toList.length=cells.toList.length:=(by rw[w3];exact SE (by simp only[ym];omega));obtain⟨s3,yY⟩:=pQ.auL (g:=g) (cs:=cs++new.flatten) (cells:=dJ) (e:=e) k1 k2
           (λb2 fT=>by
            show(h.boxes.set b [])[b2]?=aa [];rw[mL];by_cases uT:b=b2
            ·subst uT;rw[aG rfl,aG Pb]
            ·rw[aI uT];rcases s.qD _ _ _ hb fT with p|p|p
             ·exact absurd p uT
             ·rw[cq] at p;injection p with p;exact absurd p bG
             ·exact p)
           (λt ht hq=>by obtain⟨_,q,_⟩:=s.tok t ht;exact q b (by rw[hq];exact hb)) k3 (aa (len+new.length,i.size,cells.size))
           (λN sz room q=>by injection q with q;injection q with q1 q;injection q with q2 q3;subst q1 q2 q3;refine .inr ⟨by rw[dw,<-c4,oY,gJ],?_⟩;simp only[ym] at ake;omega) w2
           (by rw[dw,oY,w3];have e1:cs.length+new.length * i.size=0+len * i.size+0+nv.length:=(by omega);rw[e1,JJ (by simp only[dw,eS,ym];omega),gm (by simp only[dw,eS,ym];omega)];have e2:0+len * i.size+0=cs.length:=(by omega);rw[e2];exact k4.1.append n3) (by rw[zZ,ka,n4];rfl)
          rw[KN] at yY;refine⟨_,.slice (aa ⟨g,0,au⟩) (len+new.length) iJ,w',K.Fg _ _,s3,.arr _ _ _ _ _ _ _ yY (aJ _) jB (.inl rfl) (.inr (.inr (.inr ⟨i.size,cells.size,?_,hz.1,fw r3 q2⟩))),?_⟩
          ·have hlen:h.boxes.length=K.β.length:=s.ma.symm;simp only[aW.pJ,hlen,if_true]
          ·have AG:(⟨g,0,au⟩:Addr).add (len * i.size)=⟨g,0+len * i.size,au⟩:=Addr.mO _ _ _;cases d1<;>first|exact absurd rfl (fj _)|(simp only[Builtin.append_,h0,jy,jV,p8,Sem.run_bind,du hu,Result.andThen_ok,sizeOf,sn hi,Sem.run_pure,h1,du mG,jO,if_false,n1,jB,if_true,zS,n6,AG,w1])
     ·cases he
   ·cases he
  ·cases he
 ·cases he
def agc(s:bR K G ok w0 h w){t:TypeId}{len:Nat}{parts:Array (Nat × Operand)}{ρ:Operand->AV}{ρ':Operand->Value}(hρ:∀x,aX K (ρ x) (ρ' x)){k:Tok}{sz:Nat}{es:List (List AV)}
 (he:gf P t len (parts.toList.map λp=>(p.1,ρ p.2))=aa (.list k sz es)):
 ∃K' v w',K.Le K'/\bR K' G ok w0 (h.fresh sz es).2 w'/\aX K' (h.fresh sz es).1 v/\(Instr.buildSlice t len (parts.map λp=>(p.1,ρ' p.2))).run P w=.ok v w':=by
 obtain⟨p1,p2⟩:=Rr hρ parts;unfold gf at he;split at he
 ·rename_i elem hu;split at he
  ·rename_i size zero hs hz;obtain⟨z,jF,gG,zn⟩:=Dx (K:=K) hz w;split at he
   ·rename_i hc;simp only[dx] at he;obtain⟨out,ho,he⟩:=he;injection he with _ e1 e2;subst e1;subst e2;obtain⟨f1,f2,f3⟩:=V1 (λr hr=>by rw[(TD.1 hr).2];exact hc.2.1) ho;have xM:z.cells.size=size:=(by rw[<-hc.2.1,gG.length];simp);have ov:((zO (len * size)).map (z.cells[·%z.cells.size]!)).toList=(a9 len z.cells.toList).flatten:=(by rw[<-xM];exact ID _ _);obtain⟨out',q1,q2⟩:=Ko (dJ:=(zO (len * size)).map (z.cells[·%z.cells.size]!)) f1 (by rw[ov];exact gG.Cd len) p1 p2;have tq:out.length=len:=(by rw[f3];simp);have zh:out'.toList.length=len * size:=(by rw[<-q2.length,nN f2,tq]);obtain⟨K',le,s',hv⟩:=s.OO (w':={w with heap:=w.heap.push (.cells out' elem)}) (d:=h.dead) (λ_ hm=>hm) (sz:=size) (es:=out) (cells:=out') (e:=elem) (fz:=(0,0)) (aD:=len)
     f2 (V2 f1 (LJ zn len)) (by rw[gm (by rw[zh,tq];exact aJ _)];exact q2) rfl rfl rfl bE (λk hk=>Cu w _ hk) bE
     ag (by rw[<-zh];simp) (λj hj=>by simp[nO])
    rw[tq] at hv;refine⟨K',.slice (aa ⟨w.heap.size,0,au⟩) len len,_,le,s',hv,?_⟩;by_cases h0:len * size=0
    ·have OT:len=0:=by
      rcases ady.1 h0 with h|h
      ·exact h
      ·omega
     subst OT;simp only[GF] at q1;have e1:(zO 0).map (λx=>(#[]:Array Value)[x%(#[]:Array Value).size]!)=(zO 0).map (z.cells[·%z.cells.size]!):=(by simp);simp only[Instr.buildSlice,Sem.run_bind,du hu,Result.andThen_ok,oa hs,GF];simp only[tN,gt_iff_lt,if_false,adI,if_true,Sem.run_pure,Result.andThen_ok,e1,q1,newRow,Sem.run_bind,run_newObj]
    ·simp only[Instr.buildSlice,Sem.run_bind,du hu,Result.andThen_ok,oa hs];rw[aI ag,aI h0];simp only[Sem.run_pure,Sem.run_bind,jF,Result.andThen_ok,q1,newRow,run_newObj]
   ·cases he
  ·cases he
 ·cases he
def bR.kill(s:bR K G ok w0 h w){t:Nat}(ha:alive h t=ah)(n:Nat):bR K G ok w0 {h with dead:=t::h.dead} (w.freeze ⟨(K.tk t).1,n,au⟩ 1):=by
 obtain⟨t1,t2,t3,c0,e0,z0,t4,t5,t6⟩:=s.tok t ha;have oA:∃z,(w.freeze ⟨(K.tk t).1,n,au⟩ 1).heap[(K.tk t).1]?=aa (.cells c0 e0 z):=by simp only[World.freeze,NH,if_false,Dz,if_true,t4,ff];exact⟨_,rfl⟩
 obtain⟨z1,oA⟩:=oA;have nV:∀k,k≠(K.tk t).1->(w.freeze ⟨(K.tk t).1,n,au⟩ 1).heap[k]?=w.heap[k]?:=λk hk=>by simp only[World.freeze,NH,if_false,Dz];rw[aI (Ne.symm hk)]
 have dL:(w.freeze ⟨(K.tk t).1,n,au⟩ 1).heap.size=w.heap.size:=by simp[World.freeze]
 have eG:∀t',alive {h with dead:=t::h.dead} t'=ah->alive h t'=ah/\t'≠t:=λt' h'=>by unfold alive at h' ⊢;simp only[List.contains_cons,bC,zR,Bool.or_eq_false_iff,decide_eq_true_eq] at h' ⊢;exact⟨⟨h'.1,h'.2.2⟩,λq=>by rw[q] at h';simp at h'⟩
 refine⟨?_,by rw[dL];exact s.size,λg j c hc=>?_,s.eV,s.ma,s.qD,λb g cs hb cq=>?_,s.oH,s.rv,λl g r hl hr=>?_,s.tn,λt' Ic=>?_,λt' u Ic hu=>s.qA t' u (eG t' Ic).1 (eG u hu).1,λr hr=>?_,s.all⟩
 ·refine s.dh.trans ⟨rfl,rfl,rfl,by rw[dL];exact aJ _,λk hk=>?_⟩;have AS:k<K.base:=hk;exact nV k ag
 ·have h1:=s.ic g j c hc;by_cases hg:g=(K.tk t).1
  ·subst hg;rw[sT t4] at h1;rw[sT oA];exact h1
  ·rw[<-h1];exact World.cell?_of_block (w:=w) (nV g hg)
 ·obtain⟨h1,h2,pN,dJ,e',h3,h4⟩:=s.box b g cs hb cq;exact⟨h1,h2,pN,dJ,e',by rw[nV g λq=>t2 b (q ▸ hb)];exact h3,h4⟩
 ·obtain⟨h1,fn,tmps,d,h2,h3⟩:=s.loop l g r hl hr;exact⟨h1,fn,tmps,d,by rw[nV g λq=>by rw[q,t4] at h2;cases h2];exact h2,h3⟩
 ·obtain⟨K6,bG⟩:=eG t' Ic;obtain⟨h1,h2,h3,dJ,e',fz',h4,h5,h6⟩:=s.tok t' K6;have iZ:(K.tk t').1≠(K.tk t).1:=λq=>bG (s.qA t' t K6 ha q);have h7:(w.freeze ⟨(K.tk t).1,n,au⟩ 1).heap[(K.tk t').1]?=aa (.cells dJ e' fz'):=by rw[nV _ iZ];exact h4
  exact⟨h1,h2,h3,dJ,e',fz',h7,h5,λj hj hl=>by rw[<-h6 j hj hl,AA h4,AA h7]⟩
 ·obtain⟨h1,h2⟩:=s.md r hr;exact⟨h1,by rw[nV r λq=>by rw[q,t4] at h2;cases h2];exact h2⟩
def ahC(s:bR K G ok w0 h w){src dst:TypeId}{x y:AV}{h':aq}(he:nL P h src dst x=aa (y,h')){c:Value}(hx:aX K x c):
 ∃K' v w',K.Le K'/\bR K' G ok w0 h' w'/\aX K' y v/\(convert src dst c).run P w=.ok v w':=by
 unfold nL at he;split at he
 ·rename_i e str hs hd;obtain⟨rfl,_⟩:=hx.iV;split at he
  ·rename_i i hu hi;split at he
   ·injection he with he;obtain⟨rfl,rfl⟩:=iQ he;obtain⟨K',v,w',q1,q2,q3,q4⟩:=au1 (P:=P) s (e:=e) (str:=str);exact⟨K',v,w',q1,q2,q3,by simp only[convert,Sem.run_bind,du hs,du hd,du hu,Result.andThen_ok];exact q4⟩
   ·cases he
  ·cases he
 ·rename_i e hs hd;split at he
  ·rename_i ae hu jU;simp only[dx] at he;obtain⟨l,hl,he⟩:=he;obtain⟨rfl,rfl⟩:=iQ he;obtain⟨a,aD,eJ,rfl,hr,ga,ha,hlen,CC,pT⟩:=IK (P:=P) s jU hx;obtain⟨ns,rfl,rfl⟩:=agh hl ga;refine⟨K,.string ⟨(ns.map λn=>UInt8.ofNat n.toNat).toArray⟩,w,.refl K,s,.v _ rfl,?_⟩;cases a with|none=>have:=pT rfl;subst this;simp at hlen;subst hlen;simp only[convert,Sem.run_bind,du hs,du hd,du hu,Result.andThen_ok,Conv.bytesToString];rfl|some b=>have jT:=CC b rfl;rw[oN] at jT;simp only[convert,Sem.run_bind,du hs,du hd,du hu,Result.andThen_ok,Conv.bytesToString,jT,List.forIn_toArray,Sem.run_pure];simp[foldl_push]
  ·cases he
 ·rename_i e e2 t sz es hs hd;split at he
  ·rename_i hu;split at he
   ·rename_i hc;obtain⟨rfl,eG⟩:=hc;injection he with he;obtain⟨rfl,rfl⟩:=iQ he;cases hx with|list _ _ _ g off n aD cells hn hr hv iS ht ha=>obtain⟨K6,EW,zj,ht4,ht5⟩:=ht;subst zj;obtain⟨t1,t2,t3,c0,e0,z0,t4,t5,t6⟩:=s.tok t eG;refine⟨K,.slice (aa ⟨(K.tk t).1,off,au⟩) n aD,_,.refl K,s.kill eG c0.size,.list .held sz es _ off n aD cells hn hr hv iS ⟨K6,aU⟩ ha,?_⟩;have KZ:w.shape? (K.tk t).1=aa (e0,c0.size):=(by simp[World.shape?,t4]);rw[hs] at hd;injection hd with hd;injection hd with hd;subst hd;simp only[convert,Sem.run_bind,du hs,du hu,Result.andThen_ok,beq_self_eq_true,markStringish,run_shape,KZ,run_freeze,Sem.run_pure]
   ·cases he
  ·cases he
 ·cases he
 ·rename_i d1 d2 p hs hd _ _ _ _;simp only[dx,Ac] at he;obtain⟨z,⟨q,h1,h2⟩,he⟩:=he;obtain⟨rfl,rfl⟩:=iQ he;obtain⟨rfl,_⟩:=hx.iV;exact⟨K,q,w,.refl K,s,Ja h2,IA h1 w⟩
 ·cases he
end
section
variable {P:Program} {K:aW} {G:Nat->Option (List AV)} {ok:FuncId->Nat->Code->Bool} {w0 w:World} {h:aq}
def ahG(s:bR K G ok w0 h w){ts:Array TypeId}{ty:TypeId}{a x y:AV}{h':aq}(he:Ar P h ts a x=aa (y,h')){c cx:Value}(ha:aX K a c)(hx:aX K x cx):
 ∃K' v w',K.Le K'/\bR K' G ok w0 h' w'/\aX K' y v/\(Builtin.copy_ ts ty #[c,cx]).run P w=.ok v w':=by
 unfold Ar at he;split at he
 ·rename_i elem hu;simp only[Ac] at hu;obtain⟨t0,h0,hu⟩:=hu;split at he
  ·rename_i i b off len aD hi;split at he
   ·rename_i ae cs jU cq;split at he
    ·rename_i hc;injection he with he;obtain⟨rfl,rfl⟩:=iQ he;obtain⟨nv,n1,n2,n3,n4,n5,n6⟩:=Ir (P:=P) s jU hx;cases ha with
     |arr _ g _ _ _ fH iJ hb hl pP rR lQ=>
      obtain⟨k1,k2,ka,cells,e,k3,k4⟩:=s.box b g cs hb cq;have zh:cs.length<=cells.size:=k4.le;have akP:pF ae.length len<=ae.length:=Nat.min_le_left _ _;have akQ:pF ae.length len<=len:=Nat.min_le_right _ _;have hm:pF ae.length len * i.size<=len * i.size:=oM _ akQ;have qS:pF ae.length len * i.size<=ae.length * i.size:=oM _ akP;have oV:(ae.take (pF ae.length len)).flatten=ae.flatten.take (pF ae.length len * i.size):=OJ n2 _;have qW:aQ K (ae.take (pF ae.length len)).flatten (nv.take (pF ae.length len * i.size)):=(by rw[oV];exact n3.take _);have iC:(ae.take (pF ae.length len)).flatten.all AV.ek=ah:=(by rw[oV,ey];intro x hx;exact ey.1 n4 x (pE hx));have hlen:(nv.take (pF ae.length len * i.size)).length=pF ae.length len * i.size:=(by simp only[eS];omega);obtain⟨w',dJ,q1,q2,q3⟩:=asy (P:=P) rR (vs:=nv.take (pF ae.length len * i.size)) (λhz=>by have:pF ae.length len=0:=(by omega);rw[this];simp) k3 ag (GL qW iC);refine⟨K,.int .i64 (pF ae.length len:Nat),w',.refl K,s.SN hb cq (by rw[qW.length];omega) k3 q2 q3 qW iC,.v _ rfl,?_⟩
      ·-- the source's first cells, as many as are copied
       have akr:(Builtin.firstCells i.size (pF ae.length len) cx).run P w=.ok (nv.take (pF ae.length len * i.size)).toArray w:=by
        unfold mX at jU;split at jU
        ·rename_i str;split at jU
         ·rename_i h1;injection jU with jU;subst jU;obtain⟨rfl,_⟩:=hx.iV;have jT:(str.data.toList.map lh).length=str.size:=(by rw[bu];rfl);have e2:nv=str.data.toList.map λb=>Value.int .u8 b.toNat:=(by have e3:(Builtin.firstCells i.size (str.data.toList.map lh).length (.string str)).run P w=.ok (str.data.toList.map λb=>Value.int .u8 b.toNat).toArray w:=(by rw[jT];have:str.extract 0 str.size=str:=(by simp);have e4:str.data.map (λb=>Value.int .u8 b.toNat)=(str.data.toList.map λb=>Value.int .u8 b.toNat).toArray:=(by apply MW;simp);simp only[Builtin.firstCells,this,Sem.run_pure,e4]);rw[e3] at n6;injection n6 with n6 _;exact(Nw n6).symm);subst e2;rw[h1,oN];simp only[Builtin.firstCells,Sem.run_pure];congr 1;apply MW;simp only[ByteArray.data_extract,DD,acs,acZ,List.drop_zero,Nat.sub_zero,List.map_take]
         ·cases jU
        ·obtain⟨a,iJ,eJ,rfl,hr,ga,qO,HH,CC,pT⟩:=IK (P:=P) s jU hx;cases a with
         |none=>have:=pT rfl;subst this;have:nv=[]:=(by simpa using n5);subst this;simp[Builtin.firstCells]|some ad=>
          simp only[Builtin.firstCells];have hl:=CC ad rfl;have e5:eJ=nv:=(by simp only[Builtin.firstCells] at n6;rw[hl] at n6;injection n6 with n6 _;exact Nw n6);subst e5;have qP:∀j v,eJ[j]?=aa v->w.cell? (ad.add j)=aa v:=by
           unfold rowsOf at jU;split at jU
           ·rename_i k sz es _;split at jU
            ·injection jU with jU;subst jU;cases hx with
             |jv=>cases ga;intro j v hj;simp at hj
             |list _ _ _ g2 off2 n cap2 cells2 hn jD alb XC EW pN=>have jT:=run_loadCells_list (P:=P) w ⟨g2,off2,au⟩ cells2 (λj v hj=>by rw[Addr.mO];exact s.ic _ _ _ (XC j v hj));have Ez:cells2.length=es.length * i.size:=(by rw[<-alb.length,ga.length,HH]);rw[Ez] at jT;rw[jT] at hl;injection hl with hl _;have:=Nw hl;subst this;intro j v hj;rw[Addr.mO];exact s.ic _ _ _ (XC j v hj)
            ·cases jU
           ·rename_i b2 off2 alY cap2 _;split at jU
            ·rename_i cs2 Pj;split at jU
             ·rename_i awm;injection jU with jU;cases hx with
              |arr _ g2 _ _ _ off2' cap2' fT jT Xi P7 awF=>
               obtain⟨_,_,_,cells2,e2,k3',k4'⟩:=s.box b2 g2 cs2 fT Pj;have de:cs2.length<=cells2.toList.length:=(by have:=k4'.le;simpa using this);rcases P7 with P7|gG;rotate_left 1
               ·intro j v hj;have cN:ae.length=0:=(by omega);rw[cN] at HH;have:eJ=[]:=(by simpa using HH);subst this;simp at hj
               rw[P7] at hl ⊢;have Ez:((cells2.toList.drop off2).take (ae.length * i.size)).length=ae.length * i.size:=(by simp only[eS,hJ];omega);have HC:=run_loadCells_list (P:=P) w ⟨g2,off2,au⟩ ((cells2.toList.drop off2).take (ae.length * i.size)) (λj v hj=>by
                rw[Addr.mO,sT k3'];simp only[oJ,pD] at hj;split at hj
                ·simpa using hj
                ·cases hj)
               rw[Ez] at HC;rw[HC] at hl;injection hl with hl _;have:=Nw hl;subst this;intro j v hj;rw[Addr.mO,sT k3'];simp only[oJ,pD] at hj;split at hj
               ·simpa using hj
               ·cases hj
             ·cases jU
            ·cases jU
           ·cases jU
          have:=run_loadCells_list (P:=P) w ad (eJ.take (pF ae.length len * i.size)) (λj v hj=>by
           simp only[oJ] at hj;split at hj
           ·exact qP j v hj
           ·cases hj)
          rw[hlen] at this;exact this
       simp only[Builtin.copy_,h0,jy,jV,p8,Sem.run_bind,du hu,Result.andThen_ok,n1,sizeOf,sn hi,Sem.run_pure,akr,q1];rfl
    ·cases he
   ·cases he
  ·cases he
 ·cases he
def al5{ts:Array TypeId}{ty t:TypeId}(h0:ts[0]?=aa t){x y:AV}(he:dM P t x=aa y){c:Value}(hx:aX K x c)(w:World):
 ∃v,(Builtin.len_ ts ty #[c]).run P w=.ok v w/\aX K y v:=by
 unfold dM at he;split at he
 ·rename_i hu;injection he with he;subst he;obtain⟨rfl,_⟩:=hx.iV;exact⟨_,by simp only[Builtin.len_,h0,jy,jV,Sem.run_bind,du hu,Result.andThen_ok,Sem.run_pure,goInt],.v _ rfl⟩
 ·rename_i n e hu;injection he with he;subst he;exact⟨_,by simp only[Builtin.len_,h0,jy,jV,Sem.run_bind,du hu,Result.andThen_ok,Sem.run_pure,goInt],.v _ rfl⟩
 ·rename_i a hu;split at he
  ·rename_i n e Qx;injection he with he;subst he;exact⟨_,by simp only[Builtin.len_,h0,jy,jV,Sem.run_bind,du hu,du Qx,Result.andThen_ok,Sem.run_pure,goInt],.v _ rfl⟩
  ·cases he
 ·rename_i e k sz es hu;injection he with he;subst he;cases hx with
  |nil=>exact⟨.int .i64 0,by simp only[Builtin.len_,h0,jy,jV,Sem.run_bind,du hu,Result.andThen_ok,Sem.run_pure,goInt];rfl,.v _ rfl⟩
  |jv=>exact⟨.int .i64 0,by simp only[Builtin.len_,h0,jy,jV,Sem.run_bind,du hu,Result.andThen_ok,Sem.run_pure,goInt];rfl,.v _ rfl⟩
  |list _ _ _ g off n aD cells hn _ _ _ _ _=>subst hn;exact⟨_,by simp only[Builtin.len_,h0,jy,jV,Sem.run_bind,du hu,Result.andThen_ok,Sem.run_pure,goInt],.v _ rfl⟩
 ·rename_i e b off len aD hu;injection he with he;subst he;cases hx with|arr=>exact⟨_,by simp only[Builtin.len_,h0,jy,jV,Sem.run_bind,du hu,Result.andThen_ok,Sem.run_pure,goInt],.v _ rfl⟩
 ·cases he
def agy{ts:Array TypeId}{ty t:TypeId}(h0:ts[0]?=aa t){x y:AV}(he:Eh P t x=aa y){c:Value}(hx:aX K x c)(w:World):
 ∃v,(Builtin.cap_ ts ty #[c]).run P w=.ok v w/\aX K y v:=by
 unfold Eh at he;split at he
 ·rename_i e sz es hu;injection he with he;subst he;cases hx with
  |jv=>exact⟨.int .i64 0,by simp only[Builtin.cap_,h0,jy,jV,Sem.run_bind,du hu,Result.andThen_ok,Sem.run_pure,goInt];rfl,.v _ rfl⟩
  |list _ _ _ g off n aD cells hn _ _ _ ht _=>have:=ht.2;simp only at this;subst this;subst hn;exact⟨_,by simp only[Builtin.cap_,h0,jy,jV,Sem.run_bind,du hu,Result.andThen_ok,Sem.run_pure,goInt],.v _ rfl⟩
 ·rename_i e sz es hu;injection he with he;subst he;cases hx with
  |nil=>exact⟨.int .i64 0,by simp only[Builtin.cap_,h0,jy,jV,Sem.run_bind,du hu,Result.andThen_ok,Sem.run_pure,goInt];rfl,.v _ rfl⟩
  |list _ _ _ _ _ _ _ _ _ _ _ _ ht _=>exact ht.2.elim
 ·rename_i n e hu;injection he with he;subst he;exact⟨_,by simp only[Builtin.cap_,h0,jy,jV,Sem.run_bind,du hu,Result.andThen_ok,Sem.run_pure,goInt],.v _ rfl⟩
 ·cases he
def U1(s:bR K G ok w0 h w){b:Builtin}{ts:Array TypeId}{ty:TypeId}{args:List AV}{y:AV}{h':aq}(he:jH P h b ts ty args=aa (y,h')){vs:Array Value}(hx:aQ K args vs.toList)(consts:Array Bool):
 ∃K' v w',K.Le K'/\bR K' G ok w0 h' w'/\aX K' y v/\(builtin b ts ty consts vs).run P w=.ok (.value v) w':=by
 unfold jH at he;obtain⟨vs⟩:=vs;simp only at hx;split at he
 ·cases hx with|cons _ c _ _ hx hs=>cases hs with|nil=>
  split at he
  ·rename_i t h0;simp only[dx] at he;obtain⟨z,hz,he⟩:=he;obtain⟨rfl,rfl⟩:=iQ he;obtain⟨v,q1,q2⟩:=al5 (ty:=ty) h0 hz hx w;exact⟨K,v,w,.refl K,s,q2,by simp only[builtin,Sem.run_bind,q1,Result.andThen_ok,Sem.run_pure]⟩
  ·cases he
 ·cases hx with|cons _ c _ _ hx hs=>cases hs with|nil=>
  split at he
  ·rename_i t h0;simp only[dx] at he;obtain⟨z,hz,he⟩:=he;obtain⟨rfl,rfl⟩:=iQ he;obtain⟨v,q1,q2⟩:=agy (ty:=ty) h0 hz hx w;exact⟨K,v,w,.refl K,s,q2,by simp only[builtin,Sem.run_bind,q1,Result.andThen_ok,Sem.run_pure]⟩
  ·cases he
 ·cases hx with|cons _ c _ _ hx hs=>cases hs with|cons _ c2 _ _ tA hs=>cases hs with|nil=>
  obtain⟨K',v,w',q1,q2,q3,q4⟩:=N2 (ty:=ty) s he hx tA;exact⟨K',v,w',q1,q2,q3,by simp only[builtin,Sem.run_bind,q4,Result.andThen_ok,Sem.run_pure]⟩
 ·cases hx with|cons _ c _ _ hx hs=>cases hs with|cons _ c2 _ _ tA hs=>cases hs with|nil=>
  obtain⟨K',v,w',q1,q2,q3,q4⟩:=ahG (ty:=ty) s he hx tA;exact⟨K',v,w',q1,q2,q3,by simp only[builtin,Sem.run_bind,q4,Result.andThen_ok,Sem.run_pure]⟩
 ·split at he
  ·rename_i l hl;simp only[dx,Ac] at he;obtain⟨z,⟨q,h1,h2⟩,he⟩:=he;obtain⟨rfl,rfl⟩:=iQ he;have:=OG hl hx;subst this;exact⟨K,q,w,.refl K,s,Ja h2,by simp only[builtin,Sem.run_bind,IA h1 w,Result.andThen_ok,Sem.run_pure]⟩
  ·cases he
 ·split at he
  ·rename_i l hl;simp only[dx,Ac] at he;obtain⟨z,⟨q,h1,h2⟩,he⟩:=he;obtain⟨rfl,rfl⟩:=iQ he;have:=OG hl hx;subst this;exact⟨K,q,w,.refl K,s,Ja h2,by simp only[builtin,Sem.run_bind,IA h1 w,Result.andThen_ok,Sem.run_pure]⟩
  ·cases he
 ·cases he
def agf(s:bR K G ok w0 h w){d:Option Tmp}{b:Builtin}{ts:Array TypeId}{ty:TypeId}{args:List AV}{y:AV}{h':aq}(he:sS P G d h b ts ty args=aa (y,h')){vs:Array Value}(hx:aQ K args vs.toList)(consts:Array Bool):
 ∃K' v w',K.Le K'/\bR K' G ok w0 h' w'/\aX K' y v/\(builtin b ts ty consts vs).run P w=.ok (.value v) w':=by
 unfold sS at he;split at he
 ·split at he
  ·obtain⟨vs⟩:=vs;simp only at hx;cases hx with|cons _ c _ _ hx hs=>cases hs with|cons _ c2 _ _ tA hs=>cases hs with|nil=>
   obtain⟨K',v,w',q1,q2,q3,q4⟩:=auT (ty:=ty) s he hx tA;exact⟨K',v,w',q1,q2,q3,by simp only[builtin,Sem.run_bind,q4,Result.andThen_ok,Sem.run_pure]⟩
  ·exact U1 s (b:=.append) (ts:=ts) (ty:=ty) (args:=[_,_]) (show jH P h .append ts ty [_,_]=_ from he) hx consts
 ·exact U1 s he hx consts
def an3{c a b y:AV}(he:LA c a b=aa y){vc va vb:Value}(hc:aX K c vc)(ha:aX K a va)(hb:aX K b vb):
 ∃t v,vc=.bool t/\v=(if t then va else vb)/\aX K y v:=by
 unfold LA at he;split at he
 ·rename_i t;injection he with he;subst he;obtain⟨rfl,_⟩:=hc.iV;refine⟨t,_,rfl,rfl,?_⟩;cases t
  ·exact hb
  ·exact ha
 ·cases he
def an4(s:bR K G ok w0 h w){ρ:Operand->AV}{ρ':Operand->Value}(hρ:∀x,aX K (ρ x) (ρ' x)){o:Oper}{x:AV}{h':aq}(he:dS P G ρ h o.op=aa (x,h')):
 Yields K G ok w0 x h' ((execOp ρ' o).run P w):=by
 unfold execOp;cases bL:o.op<;>rw[bL] at he<;>simp only[dS] at he
 case move a=>injection he with he;obtain⟨rfl,rfl⟩:=iQ he;exact .nE s (hρ a) rfl
 case assign a=>injection he with he;obtain⟨rfl,rfl⟩:=iQ he;exact .nE s (hρ a) rfl
 case pick c a b=>
  simp only[dx] at he;obtain⟨y,hy,he⟩:=he;obtain⟨rfl,rfl⟩:=iQ he;obtain⟨t,v,q1,rfl,q3⟩:=an3 hy (hρ c) (hρ a) (hρ b);refine .nE s q3 ?_;simp only[q1,asBool,Sem.run_bind,Sem.run_pure,Result.andThen_ok]
 case alloc t=>
  simp only[dx] at he;obtain⟨cs,cq,he⟩:=he;obtain⟨K',v,w',q1,q2,q3,q4⟩:=aeD (P:=P) s cq;rw[he] at q2 q3;exact⟨K',v,w',q1,q2,q3,.inl (by simp only[Sem.run_bind,q4,Result.andThen_ok,Sem.run_pure])⟩
 case box t a=>
  simp only[dx] at he;obtain⟨cs,cq,he⟩:=he;obtain⟨K',v,w',q1,q2,q3,q4⟩:=af3 (P:=P) (t:=t) s cq (hρ a);rw[he] at q2 q3;exact⟨K',v,w',q1,q2,q3,.inl (by simp only[Sem.run_bind,q4,Result.andThen_ok,Sem.run_pure])⟩
 case build t parts=>
  simp only[dx] at he;obtain⟨y,hy,he⟩:=he;obtain⟨rfl,rfl⟩:=iQ he;obtain⟨v,q1,q2⟩:=age hρ hy w;exact .nE s q2 (by simp only[Sem.run_bind,q1,Result.andThen_ok,Sem.run_pure])
 case buildSlice t len parts=>
  split at he
  ·simp only[dx] at he;obtain⟨y,hy,he⟩:=he;obtain⟨rfl,rfl⟩:=iQ he;obtain⟨K',v,w',q1,q2,q3,q4⟩:=agd s hρ hy;exact⟨K',v,w',q1,q2,q3,.inl (by simp only[Sem.run_bind,q4,Result.andThen_ok,Sem.run_pure])⟩
  ·split at he
   ·rename_i k sz es hy;injection he with he;obtain⟨K',v,w',q1,q2,q3,q4⟩:=agc s hρ hy;rw[he] at q2 q3;exact⟨K',v,w',q1,q2,q3,.inl (by simp only[Sem.run_bind,q4,Result.andThen_ok,Sem.run_pure])⟩
   ·cases he
 case load t a=>
  simp only[dx] at he;obtain⟨y,hy,he⟩:=he;obtain⟨rfl,rfl⟩:=iQ he;obtain⟨g,p,v,q1,q2,q3⟩:=Zl s hy (hρ a);exact .nE s q3 (by simp only[q1,Instr.loadAt,Instr.sureAddr,Sem.run_bind,q2,Result.andThen_ok,Sem.run_pure])
 case store t a y=>
  simp only[dx] at he;obtain⟨h2,hy,he⟩:=he;obtain⟨rfl,rfl⟩:=iQ he;obtain⟨w',q1,q2⟩:=auh s hy (hρ a) (hρ y);exact⟨K,undef,w',.refl K,q2,.tuple _ _ .nil,.inr ⟨by simp only[Sem.run_bind,q1,Result.andThen_ok,Sem.run_pure],rfl⟩⟩
 case nilCheck a=>
  simp only[dx] at he;obtain⟨y,hy,he⟩:=he;obtain⟨rfl,rfl⟩:=iQ he;have ha:=hρ a;generalize ρ a=xa at ha hy;generalize hq:ρ' a=ca at ha;unfold Rb at hy;split at hy
  ·injection hy with hy;subst hy;cases ha with|box _ _ _ hb=>exact .nE s (.box _ _ _ hb) (by simp only[hq,Sem.run_pure])|eV _ _=>exact .nE s (.eV _ _) (by simp only[hq,Sem.run_pure])
  ·injection hy with hy;subst hy;cases ha with|elem _ _ _ _ g o p cells hr hv hc hi hp qO=>exact .nE s (.elem _ _ _ _ g o p cells hr hv hc hi hp qO) (by simp only[hq,Sem.run_pure])
  ·injection hy with hy;subst hy;cases ha with|func _ _ _ fs cs h1 h2=>exact .nE s (.func _ _ _ fs cs h1 h2) (by simp only[hq,Sem.run_pure])
  ·injection hy with hy;subst hy;cases ha with|yield _ g hl=>exact .nE s (.yield _ g hl) (by simp only[hq,Sem.run_pure])
  ·injection hy with hy;subst hy;cases ha with|iface _ _ c hx=>exact .nE s (.iface _ _ c hx) (by simp only[hq,Sem.run_pure])
  ·cases hy
 case binOp op t a b yt=>
  simp only[dx] at he;obtain⟨y,hy,he⟩:=he;obtain⟨rfl,rfl⟩:=iQ he;obtain⟨v,q1,q2⟩:=afv hy (hρ a) (hρ b) w;exact .nE s q2 (by rw[Sem.run_bind,q1];rfl)
 case unOp op t a=>
  simp only[dx] at he;obtain⟨y,hy,he⟩:=he;obtain⟨rfl,rfl⟩:=iQ he;obtain⟨v,q1,q2⟩:=au8 hy (hρ a) w;exact .nE s q2 (by simp only[Sem.run_bind,q1,Result.andThen_ok,Sem.run_pure])
 case convert sr ds a=>
  obtain⟨K',v,w',q1,q2,q3,q4⟩:=ahC s he (hρ a);exact⟨K',v,w',q1,q2,q3,.inl (by simp only[Sem.run_bind,q4,Result.andThen_ok,Sem.run_pure])⟩
 case makeInterface t a=>
  split at he
  ·rename_i y6;injection he with he;obtain⟨rfl,rfl⟩:=iQ he;obtain⟨d,hu,hd⟩:=QH y6;refine .nE s (.iface t _ _ (hρ a)) ?_;simp only[Instr.makeInterface,Sem.run_bind,du hu,Result.andThen_ok];cases d<;>first|exact absurd rfl (hd _)|rfl
  ·cases he
 case makeFunc fn first aD=>
  injection he with he;obtain⟨rfl,rfl⟩:=iQ he;refine .nE s (.func fn _ _ _ _ (by rw[DD];exact aQ.map_mk λx _=>hρ x) (by rw[DD];exact aQ.map_mk λx _=>hρ x)) rfl
 case makeSlice t l c=>
  obtain⟨K',v,w',q1,q2,q3,q4⟩:=amB s he (hρ l) (hρ c);exact⟨K',v,w',q1,q2,q3,.inl (by simp only[Sem.run_bind,q4,Result.andThen_ok,Sem.run_pure])⟩
 case slice t a lo hi mx=>
  simp only[dx] at he;obtain⟨y,hy,he⟩:=he;obtain⟨rfl,rfl⟩:=iQ he;obtain⟨v,q1,q2⟩:=atl hρ hy (hρ a) w;exact .nE s q2 (by simp only[Sem.run_bind,q1,Result.andThen_ok,Sem.run_pure])
 case fieldAddr t a f=>
  simp only[dx] at he;obtain⟨y,hy,he⟩:=he;obtain⟨rfl,rfl⟩:=iQ he;obtain⟨v,q1,q2⟩:=aiQ hy (hρ a) w;exact .nE s q2 (by simp only[Sem.run_bind,q1,Result.andThen_ok,Sem.run_pure])
 case field t a f=>
  have ha:=hρ a;generalize ρ a=xa at ha he;generalize hq:ρ' a=ca at ha;split at he
  ·rename_i fields cs hu;split at he
   ·rename_i fd hf;simp only[dx] at he;obtain⟨y,hy,he⟩:=he;obtain⟨rfl,rfl⟩:=iQ he;cases ha with|agg _ vs ga=>obtain⟨v,q1,q2⟩:=ZY hy ga w;exact .nE s q2 (by simp only[Instr.field,Sem.run_bind,du hu,Result.andThen_ok,hf,hq,asAgg,Sem.run_pure,q1])
   ·cases he
  ·cases he
 case indexAddr t a i=>
  simp only[dx] at he;obtain⟨y,hy,he⟩:=he;obtain⟨rfl,rfl⟩:=iQ he;obtain⟨v,q1,q2⟩:=alj hy (hρ a) (hρ i) w;exact .nE s q2 (by simp only[Sem.run_bind,q1,Result.andThen_ok,Sem.run_pure])
 case index t a i=>
  simp only[dx] at he;obtain⟨y,hy,he⟩:=he;obtain⟨rfl,rfl⟩:=iQ he;obtain⟨v,q1,q2⟩:=aln hy (hρ a) (hρ i) w;exact .nE s q2 (by simp only[Sem.run_bind,q1,Result.andThen_ok,Sem.run_pure])
 case typeAssert a xt t okk=>
  simp only[dx] at he;obtain⟨y,hy,he⟩:=he;obtain⟨rfl,rfl⟩:=iQ he;obtain⟨v,q1,q2⟩:=aeY (xt:=xt) hy (hρ a) w;exact .nE s q2 (by simp only[Sem.run_bind,q1,Result.andThen_ok,Sem.run_pure])
 case extract a i=>
  have ha:=hρ a;generalize ρ a=xa at ha he;generalize hq:ρ' a=ca at ha;split at he
  ·rename_i vs;simp only[dx] at he;obtain⟨y,hy,he⟩:=he;obtain⟨rfl,rfl⟩:=iQ he;cases ha with|tuple _ cvs ga=>obtain⟨c,hc,hr⟩:=ga.get hy;have:cvs[i]?=aa c:=(by simpa using hc);exact .nE s hr (by simp only[Instr.extract,hq,this,Sem.run_bind,Sem.run_pure,Result.andThen_ok])
  ·cases he
 all_goals cases he
end
def Ft(n:Nat)(ops:Array Oper):Bool:=ops.all λo=>match o.dst with|some d=>decide (d<n)|none=>ah
def codeOk(n:Nat):Code->Bool
 | .region _ ops _=>Ft n ops
 | .seq a b=>codeOk n a&&codeOk n b
 | .cond _ a b=>codeOk n a&&codeOk n b
 | .block _ c=>codeOk n c
 | .loop c=>codeOk n c
 | .scope c=>codeOk n c
 | .rangeFunc _ ps a b=>ps.all (λp=>decide (p<n))&&codeOk n a&&codeOk n b
 |_=>ah
def Fp(P:Program)(fn:FuncId)(n:Nat)(c:Code):Bool:=codeOk n c&&(P.funcs[fn]?).isSome
inductive rz (K:aW):List (FuncId × List AV)->List Deferred->List Nat->Prop
 |nil:rz K [] [] []
 |call (g:FuncId) (args:List AV) (vs aD:Array Value) (ds cds ms) (hv:aQ K args (vs++aD).toList) (h:rz K ds cds ms):
  rz K ((g,args)::ds) ({target:=.fn (.func g) aD,args:=vs}::cds) ms
 |mark (r:Nat) (ds cds ms) (hr:r∈K.md) (hn:r∉ms) (h:rz K ds cds ms):rz K ds ({target:=.collected r,args:=#[]}::cds) (r::ms)
def rz.mono{K K'}(le:K.Le K'){ds cds ms}(h:rz K ds cds ms):rz K' ds cds ms:=by
 induction h with
 |nil=>exact .nil|call g args vs aD ds cds ms hv _ ih=>exact .call g args vs aD ds cds ms (hv.mono le) ih|mark r ds cds ms hr hn _ ih=>exact .mark r ds cds ms (le.md r hr) hn ih
structure oh(P:Program)(K:aW)(e:Env)(a:Act)(B:Frame)(ms:List Nat):Prop where
 iH:mN K e.tmps a.tmps
 defers:rz K e.defers a.defers ms
 round:match e.round with
  |none=>B.roundOf=au
  |some l=>∃g,K.γ[l]?=aa g/\B.roundOf=aa g/\B.kind=.normal/\a.defers=[]/\ms=[]/\e.defers=[]
 fn:(P.funcs[B.fn]?).isSome=ah
def oh.mono{P}{K K'}(le:K.Le K'){e}{a}{B}{ms}(h:oh P K e a B ms):oh P K' e a B ms:=by
 refine⟨h.iH.mono le,h.defers.mono le,?_,h.fn⟩;have:=h.round;cases hr:e.round with|none=>rw[hr] at this;exact this|some l=>rw[hr] at this;obtain⟨g,h1,h2⟩:=this;exact⟨g,le.γ _ _ h1,h2⟩
inductive CS (K:aW) (kind:CallKind) (base:List Frame):Option (AV × Bool)->List Frame->Prop
 |normal (h:kind=.normal):CS K kind base au base
 |ret (c0:Frame) (rest:List Frame) (hk:kind=.deferred) (hb:base=c0::rest) (hm:c0.mode=.returning):CS K kind base au base
 |cV (c0:Frame) (rest:List Frame) (x:AV) (v:Value) (r:Bool) (hk:kind=.deferred) (hb:base=c0::rest) (hx:aX K x v):
  CS K kind base (aa (x,r)) ({c0 with mode:=.panicking [{v,recovered:=r}]}::rest)
def CS.mono{K K'}(le:K.Le K'){kind base p cs}(h:CS K kind base p cs):CS K' kind base p cs:=by
 cases h with|normal h=>exact .normal h|ret c0 rest hk hb hm=>exact .ret c0 rest hk hb hm|cV c0 rest x v r hk hb hx=>exact .cV c0 rest x v r hk hb (hx.mono le)
def Fk(s:qc)(d t)(x):(s.set d x).get t=if d=t then x else s.get t:=by
 simp only[qc.set,qc.get,look];by_cases h:d=t
 ·subst h;have:jQ d d=ah:=Nat.beq_refl d;rw[this,aG rfl];rfl
 ·have:jQ d t=az:=by
   cases hb:jQ d t with|false=>rfl|true=>exact absurd (jW hb) h
  rw[this,aI h];rfl
section
variable {P:Program} {K:aW} {G:Nat->Option (List AV)} {w0 w:World} {h:aq}
def mN.set{s:qc}{tmps:Array Value}(hs:mN K s tmps){d:Nat}(hd:d<tmps.size){x:AV}{v:Value}(hx:aX K x v):mN K (s.set d x) (tmps.setIfInBounds d v):=by
 intro t;rw[Fk];by_cases ht:d=t
 ·subst ht;rw[aG rfl];simp[MX,hd];exact hx
 ·rw[aI ht];have:(tmps.setIfInBounds d v).getD t undef=tmps.getD t undef:=by simp[MX,ht]
  rw[this];exact hs t
def Av{e:Env}{a:Act}(hs:mN K e.tmps a.tmps)(x:Operand):aX K (e.eval x) (a.eval x):=by
 cases x with|tmp t=>exact hs t|const v=>exact Lt v|global g=>exact .eV g 0|func f=>exact .func (.func f) [] [] #[] #[] .nil .nil
def oh.put{e:Env}{a:Act}{B:Frame}{ms:List Nat}(hf:oh P K e a B ms){dst:Option Tmp}(hd:∀d,dst=aa d->d<a.tmps.size){x:AV}{v:Value}(hx:aX K x v):
 oh P K (e.put dst x) (a.put dst v) B ms:=by
 cases dst with|none=>exact hf|some d=>exact⟨hf.iH.set (hd d rfl) hx,hf.defers,hf.round,hf.fn⟩
def LG(a:Act)(dst)(v):(a.put dst v).tmps.size=a.tmps.size:=by cases dst<;>simp[Act.put]
section steps
variable {B:Frame} {a:Act} {k:List Item} {cs:List Frame} {ops:Array Oper} {i:Nat} {rest:List Nat} {o:Oper} {w':World}
def B9(ho:ops[i]?=aa o)(v:Value):(B.atR a (.inRegion ops (i::rest)::k)).finish v=B.atR (a.put o.dst v) (.inRegion ops rest::k):=by rw[Frame.finish_atR,ho];rfl
def abK(ho:ops[i]?=aa o)(hw:Region.wanted o (yielded ops a.tmps)=ah){v:Value}(hr:(o.semAt B.roundOf a.eval).run P w=.ok (.value v) w'):
 step P (lone (B.atR a (.inRegion ops (i::rest)::k)) cs w)=.next (lone (B.atR (a.put o.dst v) (.inRegion ops rest::k)) cs w'):=by
 refine step_lone_go ?_;rw[stepGR_op ho hw,<-B9 ho];simp[stepG.apply,hr,Sem.runT_eq]
def auf(ho:ops[i]?=aa o)(hw:Region.wanted o (yielded ops a.tmps)=ah)(hr:(o.semAt B.roundOf a.eval).run P w=.ok .skip w'):
 step P (lone (B.atR a (.inRegion ops (i::rest)::k)) cs w)=.next (lone (B.atR (a.put o.dst undef) (.inRegion ops rest::k)) cs w'):=by
 refine step_lone_go ?_;rw[stepGR_op ho hw,<-B9 ho];simp[stepG.apply,hr,Sem.runT_eq]
def at4(ho:ops[i]?=aa o)(hw:Region.wanted o (yielded ops a.tmps)=ah){f:FuncId}{args:Array Value}(hr:(o.semAt B.roundOf a.eval).run P w=.ok (.enter f args) w'):
 step P (lone (B.atR a (.inRegion ops (i::rest)::k)) cs w)=.next (lone (Frame.enter P f args .normal) (B.atR a (.inRegion ops (i::rest)::k)::cs) w'):=by
 refine step_lone_go ?_;rw[stepGR_op ho hw];simp[stepG.apply,hr,Sem.runT_eq,Frame.atR]
def aud(ho:ops[i]?=aa o)(hw:Region.wanted o (yielded ops a.tmps)=ah){l:Nat}{f:FuncId}{tmps:Array Value}{assign body:Code}(hr:(o.semAt B.roundOf a.eval).run P w=.ok (.round l f tmps assign body) w'):
 step P (lone (B.atR a (.inRegion ops (i::rest)::k)) cs w)=.next (lone (Frame.round l f tmps assign body .normal) (B.atR a (.inRegion ops (i::rest)::k)::cs) w'):=by
 refine step_lone_go ?_;rw[stepGR_op ho hw];simp[stepG.apply,hr,Sem.runT_eq,Frame.atR]
def at3(ho:ops[i]?=aa o)(hw:Region.wanted o (yielded ops a.tmps)=ah){d:Deferred}(hr:(o.semAt B.roundOf a.eval).run P w=.ok (.defer d) w'):
 step P (lone (B.atR a (.inRegion ops (i::rest)::k)) cs w)=.next (lone (B.atR ({a with defers:=d::a.defers}.put o.dst undef) (.inRegion ops rest::k)) cs w'):=by
 refine step_lone_go ?_;rw[stepGR_op ho hw,<-B9 (B:=B) (k:=k) (rest:=rest) (a:={a with defers:=d::a.defers}) ho];simp[stepG.apply,hr,Sem.runT_eq,Frame.atR]
def abG(ho:ops[i]?=aa o)(hw:Region.wanted o (yielded ops a.tmps)=ah){v:Value}(hr:(o.semAt B.roundOf a.eval).run P w=.halt (.panic v) w'):
 step P (lone (B.atR a (.inRegion ops (i::rest)::k)) cs w)=.next (lone {B.atR a (.inRegion ops (i::rest)::k) with mode:=.panicking [{v,recovered:=az}]} cs w'):=by
 refine step_lone_go ?_;rw[stepGR_op ho hw,<-Frame.raise_atR];simp[stepG.apply,hr,Sem.runT_eq]
def aub(ho:ops[i]?=aa o)(hw:Region.wanted o (yielded ops a.tmps)=ah)(lD:B.roundOf=au)(hr:(o.semAt B.roundOf a.eval).run P w=.ok .recover w')
 (ht:tryRecover (B.atR a (.inRegion ops (i::rest)::k)) cs=au):
 step P (lone (B.atR a (.inRegion ops (i::rest)::k)) cs w)=.next (lone (B.atR (a.put o.dst .nilIface) (.inRegion ops rest::k)) cs w'):=by
 refine step_lone_go ?_;have Ql:(B.atR a (.inRegion ops (i::rest)::k)).roundOf=au:=lD;rw[stepGR_op ho hw,<-B9 ho];simp[stepG.apply,hr,Sem.runT_eq,Ql,ht]
def auc(ho:ops[i]?=aa o)(hw:Region.wanted o (yielded ops a.tmps)=ah)(lD:B.roundOf=au)(hr:(o.semAt B.roundOf a.eval).run P w=.ok .recover w')
 {v:Value} {dR:List Frame} (ht:tryRecover (B.atR a (.inRegion ops (i::rest)::k)) cs=aa (v,dR)):
 step P (lone (B.atR a (.inRegion ops (i::rest)::k)) cs w)=.next (lone (B.atR (a.put o.dst v) (.inRegion ops rest::k)) dR w'):=by
 refine step_lone_go ?_;have Ql:(B.atR a (.inRegion ops (i::rest)::k)).roundOf=au:=lD;rw[stepGR_op ho hw,<-B9 ho];simp[stepG.apply,hr,Sem.runT_eq,Ql,ht]
end steps
end
abbrev lM(P:Program)(G:Nat->Option (List AV))(w0:World)(K:aW)(h:aq)(w:World):Prop:=bR K G (Fp P) w0 h w
def oI(P:Program)(K:aW)(m:Machine)(B:Frame)(k:List Item)(cs:List Frame):Xt->Act->World->Prop
 | .normal,a,w=>Steps P m (lone (B.atR a k) cs w)
 | .exit id,a,w=>∃todo,exitTo id todo=exitTo id k/\Steps P m (lone (B.atR a (.code (.exit id)::todo)) cs w)
 | .ret,a,w=>∃todo,Steps P m (lone (B.atR a (.code .ret::todo)) cs w)
 | .panic x,a,w=>∃todo v,aX K x v/\Steps P m (lone {B.atR a todo with mode:=.panicking [{v,recovered:=az}]} cs w)
def oI.of_steps{P}{K}{m m'}{B}{k}{cs}{x}{a}{w}(hs:Steps P m m')(h:oI P K m' B k cs x a w):oI P K m B k cs x a w:=by
 cases x with
 |normal=>exact hs.trans h|exit id=>obtain⟨t,h1,h2⟩:=h;exact⟨t,h1,hs.trans h2⟩
 |ret=>obtain⟨t,h2⟩:=h;exact⟨t,hs.trans h2⟩
 |panic x=>obtain⟨t,v,h1,h2⟩:=h;exact⟨t,v,h1,hs.trans h2⟩
def oI.pass{P}{K}{m}{B}{it}{k}{cs}{x}{a}{w}(hp:it.plain=ah)(hn:x≠ .normal)
 (h:oI P K m B (it::k) cs x a w):oI P K m B k cs x a w:=by
 cases x with
 |normal=>exact absurd rfl hn|exit id=>obtain⟨t,h1,h2⟩:=h;refine⟨t,h1.trans ?_,h2⟩;cases it<;>first|rfl|simp[Item.plain] at hp
 |ret=>exact h|panic x=>exact h
structure Left(P:Program)(G:Nat->Option (List AV))(w0:World)(K:aW)(ms:List Nat)(B:Frame)(base:List Frame)(m:Machine)(k:List Item)(n:Nat)(out:Xt)(e':Env)(h':aq)
 (K':aW) (w':World) (a':Act) (dR:List Frame) (ms':List Nat):Prop where
 le:K.Le K'
 rq:lM P G w0 K' h' w'
 frame:oh P K' e' a' B ms'
 cs:CS K' B.kind base e'.cV dR
 size:a'.tmps.size=n
 marks:∀r∈ms',r∈ms∨r∉K.md
 arr:oI P K' m B k dR out a' w'
def TX(P:Program)(G:Nat->Option (List AV))(w0:World)(f:Code->Env->aq->Option (Xt × Env × aq)):Prop:=
 ∀c e h out e' h',f c e h=aa (out,e',h')->∀K w a B k base cs ms,oh P K e a B ms->CS K B.kind base e.cV cs->lM P G w0 K h w->codeOk a.tmps.size c=ah->
  ∃K' w' a' dR ms',Left P G w0 K ms B base (lone (B.atR a (.code c::k)) cs w) k a.tmps.size out e' h' K' w' a' dR ms'
def TU(P:Program)(K:aW)(fr:Frame)(w:World):eY->Prop
 | .ret x=>∃v,aX K x v/\fr.leaving P w (.returned v)
 | .panic x=>∃v,aX K x v/\fr.leaving P w (.panicked [{v,recovered:=az}])
def TW(P:Program)(G:Nat->Option (List AV))(w0:World)(f:FuncId->List AV->aq->Option (eY × aq)):Prop:=
 ∀g args h r h',f g args h=aa (r,h')->(∃fn,P.funcs[g]?=aa fn/\fn.body.isSome=ah)/\∀K w fB,aQ K args (fB:Array Value).toList->lM P G w0 K h w->∀cs,
  ∃K' w' fr,K.Le K'/\lM P G w0 K' h' w'/\Steps P (lone (Frame.enter P g fB .normal) cs w) (lone fr cs w')/\fr.fn=g/\TU P K' fr w' r
def TY(P:Program)(G:Nat->Option (List AV))(w0:World)(f:FuncId->List AV->Option (AV × Bool)->aq->Option (eY × Option (AV × Bool) × aq)):Prop:=
 ∀g args m h x m' h',f g args m h=aa (.ret x,m',h')->(∃fn,P.funcs[g]?=aa fn/\fn.body.isSome=ah)/\∀K w fB base cs,aQ K args (fB:Array Value).toList->CS K .deferred base m cs->lM P G w0 K h w->
  ∃K' w' fr dR v,K.Le K'/\lM P G w0 K' h' w'/\CS K' .deferred base m' dR/\Steps P (lone (Frame.enter P g fB .deferred) cs w) (lone fr dR w')/\fr.kind=.deferred/\fr.going P w' (.returned v)
def TZ(P:Program)(G:Nat->Option (List AV))(w0:World)(f:Nat->List AV->aq->Option (eY × aq)):Prop:=
 ∀l args h r h',f l args h=aa (r,h')->∀K w fB lg,K.γ[l]?=aa lg->aQ K args (fB:Array Value).toList->lM P G w0 K h w->∀tS cs,
  ∃fn tmps assign body K' w',(Instr.yield lg fB).run P w=.ok (.round lg fn tmps assign body) w/\K.Le K'/\lM P G w0 K' h' w'/\
   match r with
   | .ret x=>∃v,aX K' x v/\Steps P (lone (Frame.round lg fn tmps assign body .normal) (tS::cs) w) (lone (tS.finish v) cs w')
   | .panic x=>∃v fr,aX K' x v/\Steps P (lone (Frame.round lg fn tmps assign body .normal) (tS::cs) w) (lone fr (tS::cs) w')/\fr.leaving P w' (.panicked [{v,recovered:=az}])
structure wW(P:Program)(G:Nat->Option (List AV))(w0:World)(R:Rec):Prop where
 code:TX P G w0 R.code
 call:TW P G w0 R.call
 jY:TY P G w0 R.jY
 round:TZ P G w0 R.round
section
variable {P:Program} {G:Nat->Option (List AV)} {w0:World} {R:Rec}
def D3 (P : Program) : Prop := ∀ (g : FuncId) (fn : Func), P.funcs[g]? = aa fn -> (fn.name == "runtime.NumGoroutine") = az
def Ss(hn:D3 P){g:FuncId}{fn:Func}(hf:P.funcs[g]?=aa fn)(hb:fn.body.isSome=ah)(args:Array Value)(w:World):(callFunc g args).run P w=.ok (.enter g args) w:=by
 have h1:=hn g fn hf;have h2:fn.body.isNone=az:=by cases h:fn.body<;>simp_all
 unfold callFunc;simp only[Sem.run_bind,run_program,Result.andThen_ok,hf];rw[h1,h2];rfl
def amJ{t:TypeId}{name:String}{f:FuncId}(he:Q4 P t name=aa f)(v:Value)(w:World)(n:Nat):
 (method (n+1) t v name).run P w=.ok (f,v) w:=by
 unfold Q4 at he;split at he
 ·rename_i i hi;split at he
  ·rename_i m hm;have key:∀(pr:Bool) (d:TypeDesc),m.path.toList=[]->m.func=aa (f,pr)->P.underlying t=aa d->(match d with| .pointer _=>pr=ah|_=>pr=az)->(method (n+1) t v name).run P w=.ok (f,v) w:=(by intro pr d hp hf hu hd;simp only[method,Sem.run_bind,sn hi,Result.andThen_ok,hm,hp,follow,Sem.run_pure,hf,receiverAt,du hu];cases d<;>simp only at hd<;>subst hd<;>simp[Place.get]);split at he
   ·rename_i f' e hp hf hu;injection he with he;subst he;exact key _ _ hp hf hu rfl
   ·cases he
   ·rename_i f' d bG hp hf hd;injection he with he;subst he;refine key _ _ hp hf hd ?_;cases d<;>first|rfl|(exact absurd rfl (bG _))
   ·cases he
  ·cases he
 ·cases he
end
section
variable {P:Program} {G:Nat->Option (List AV)} {w0:World} {R:Rec}
def ZN{n}{ops}(h:Ft n ops=ah){i:Nat}{o}(ho:ops[i]?=aa o):∀d,o.dst=aa d->d<n:=by intro d hd;unfold Ft at h;rw[FY] at h;obtain⟨hi,rfl⟩:=Dy.1 ho;have:=h i hi;rw[hd] at this;simpa using this
def avw{K}{e}{a:Act}(hs:mN K e.tmps a.tmps){ops}(CK:Ft a.tmps.size ops=ah){o}{b}(he:fD ops e o=aa b):
 Region.wanted o (yielded ops a.tmps)=b:=by
 unfold fD at he;unfold Region.wanted;cases hg:o.guard with
 |none=>rw[hg] at he;simpa using he|some gw=>
  obtain⟨j,want⟩:=gw;rw[hg] at he;simp only at he ⊢;cases hb:(ops[j]?).bind (·.dst) with
  |none=>rw[hb] at he;simp only[dP] at he;subst he;simp[yielded,hb]|some d=>
   rw[hb] at he;simp only at he;have hd:d<a.tmps.size:=by
    cases ho:ops[j]? with
    |none=>rw[ho] at hb;cases hb
    |some o'=>rw[ho] at hb;exact ZN CK ho d hb
   have hv:=hs d;have Pu:a.tmps[d]?=aa (a.tmps.getD d undef):=(by simp[hd]);have hy:∀z,a.tmps.getD d undef=z->yielded ops a.tmps j=match z with| .bool b=>aa b|_=>au:=by intro z hz;unfold yielded;rw[hb];simp only[oq];rw[Pu,hz];cases z<;>rfl
   unfold Env.get at he;generalize hx:e.tmps.get d=x at he hv;generalize hz:a.tmps.getD d undef=z at hv;have hy:=hy z hz;split at he
   ·rename_i b';obtain⟨rfl,-⟩:=hv.iV;injection he with he;rw[hy];simp[<-he]
   ·injection he with he;cases hv with|tuple cs vs h=>rw[hy];simp[<-he]
   ·cases he
def JU{K}{e:Env}{a:Act}(hs:mN K e.tmps a.tmps)(xs:Array Operand):aQ K (xs.toList.map e.eval) (xs.map a.eval).toList:=by rw[DD];exact aQ.map_mk λx _=>Av hs x
def TQ(P:Program)(G:Nat->Option (List AV))(w0:World)(K:aW)(ms:List Nat)(B:Frame)(base:List Frame)(m:Machine)(ops:Array Oper)(o:Oper)(rest:List Nat)(k:List Item)(n:Nat)(e':Env)(h':aq)(res:eY):Prop:=
 ∃K' w' a' dR,K.Le K'/\lM P G w0 K' h' w'/\oh P K' e' a' B ms/\CS K' B.kind base e'.cV dR/\a'.tmps.size=n/\
  match res with
  | .ret x=>∃v,aX K' x v/\Steps P m (lone (B.atR (a'.put o.dst v) (.inRegion ops rest::k)) dR w')
  | .panic x=>∃v todo,aX K' x v/\Steps P m (lone {B.atR a' todo with mode:=.panicking [{v,recovered:=az}]} dR w')
def amx:∃d,Made.depth=d+1:=⟨Made.depth - 1,by decide⟩
def anq(hn:D3 P)(hR:wW P G w0 R){e e':Env}{a:Act}{B:Frame}{ms:List Nat}{base cs:List Frame}{K:aW}{h h':aq}{w:World}{ops:Array Oper}{i:Nat}{rest:List Nat}{o:Oper}{res:eY}
 (he:eo P G R e h o=aa (res,e',h')) (hf:oh P K e a B ms) (cq:CS K B.kind base e.cV cs) (hs:lM P G w0 K h w) (ho:ops[i]?=aa o) (hw:Region.wanted o (yielded ops a.tmps)=ah) (k:List Item):
 TQ P G w0 K ms B base (lone (B.atR a (.inRegion ops (i::rest)::k)) cs w) ops o rest k a.tmps.size e' h' res:=by
 have lD:∀(ro:Option Nat) (x:Sem Next),(∀c,o.op≠ .defer c)->execOp a.eval o=x->(o.semAt ro a.eval)=x:=λro x bG hx=>by rw[Oper.semAt_eq ro a.eval o bG,hx]
 have ze:e.round.isSome=az->B.roundOf=au:=by
  intro hr;have:=hf.round;cases hq:e.round with|none=>rw[hq] at this;exact this|some l=>rw[hq] at hr;cases hr
 unfold eo at he;split at he
 ·-- recover
  rename_i args argTypes bL;have qQ:execOp a.eval o=(do let d <-resolve a.eval {callee:=.builtin .recover,args:=args,argTypes:=argTypes} o.type;invoke d.target d.args):=by unfold execOp;rw[bL]
  have mF:(o.semAt B.roundOf a.eval).run P w=.ok .recover w:=by rw[lD _ _ (by rw[bL];intro c;simp) qQ];simp[resolve,invoke,builtin]
  split at he
  ·cases he
  ·rename_i qU;have hB:=ze (by simpa using qU);split at he
   ·rename_i x hp;simp only[dP,dn] at he;obtain⟨rfl,rfl,rfl⟩:=he;rw[hp] at cq;generalize EG:B.kind=kd at cq;generalize uk:(aa (x,az):Option (AV × Bool))=pp at cq;cases cq with
    |normal h=>cases uk
    |ret c0 rest' hk hb hm=>cases uk
    |cV c0 rest' x' v r hk hb hx=>injection uk with uk;injection uk with h1 h2;subst h1;subst h2;refine⟨K,w,a,_,.refl K,hs,⟨hf.iH,hf.defers,hf.round,hf.fn⟩,.cV c0 rest' x v ah (EG.trans hk) hb hx,rfl,v,hx,.one (auc ho hw hB mF ?_)⟩;simp[tryRecover,Frame.atR,EG,hk]
   ·rename_i hp;simp only[dP,dn] at he;obtain⟨rfl,rfl,rfl⟩:=he;refine⟨K,w,a,cs,.refl K,hs,hf,cq,rfl,.nilIface,.v _ rfl,.one (aub ho hw hB mF ?_)⟩;generalize EG:B.kind=kd at cq;generalize uk:e.cV=pp at cq hp;cases cq with
    |normal h=>subst h;simp[tryRecover,Frame.atR,EG]|ret c0 rest' hk hb hm=>subst hk;subst hb;simp[tryRecover,Frame.atR,EG,hm]|cV c0 rest' x' v r hk hb hx=>
     subst hk;cases r with|false=>exact absurd rfl (hp x')|true=>simp[tryRecover,Frame.atR,EG]
 ·-- the built-in panic
  rename_i args argTypes bL;have qQ:execOp a.eval o=(do let d <-resolve a.eval {callee:=.builtin .panic,args:=args,argTypes:=argTypes} o.type;invoke d.target d.args):=by unfold execOp;rw[bL]
  split at he
  ·rename_i t x xx;simp only[dP,dn] at he;obtain⟨rfl,rfl,rfl⟩:=he;have hv:=JU hf.iH args;rw[xx] at hv;generalize hz:args.map a.eval=z at hv;obtain⟨z⟩:=z;simp only at hv;cases hv with
   |cons _ c _ dR h1 h2=>
    cases h2;cases h1 with|iface _ _ c hc=>refine⟨K,w,a,cs,.refl K,hs,hf,cq,rfl,.iface t c,_,.iface t x c hc,.one (abG ho hw ?_)⟩;rw[lD _ _ (by rw[bL];intro c;simp) qQ];simp[resolve,invoke,builtin,hz,Instr.panic]
  ·cases he
 ·-- another built-in function
  rename_i b args argTypes lu fT bL;have qQ:execOp a.eval o=(do let d <-resolve a.eval {callee:=.builtin b,args:=args,argTypes:=argTypes} o.type;invoke d.target d.args):=by unfold execOp;rw[bL]
  simp only[dx] at he;obtain⟨⟨x,h1⟩,he,hq⟩:=he;simp only[dn] at hq;obtain⟨rfl,rfl,rfl⟩:=hq;obtain⟨K',v,w',le,s',hx,mF⟩:=agf hs (ty:=o.type) he (JU hf.iH args) (args.map λ| .const _=>ah|_=>az);refine⟨K',w',a,cs,le,s',hf.mono le,cq.mono le,rfl,v,hx,.one (abK ho hw ?_)⟩;rw[lD _ _ (by rw[bL];intro c;simp) qQ];simp only[resolve,invoke,Sem.run_bind,Sem.run_pure,Result.andThen_ok];exact mF
 ·-- a call
  rename_i c lu fT yY bL;have qQ:execOp a.eval o=(do let d <-resolve a.eval c o.type;invoke d.target d.args):=by unfold execOp;rw[bL]
  simp only[dx] at he;obtain⟨⟨r,h1⟩,he,hq⟩:=he;simp only[dn] at hq;obtain⟨rfl,rfl,rfl⟩:=hq;have xx:=JU hf.iH c.args;have call:∀(g:FuncId) (xs:List AV) (vs:Array Value),R.call g xs h=aa (r,h1)->aQ K xs vs.toList->((∃fn,P.funcs[g]?=aa fn/\fn.body.isSome=ah)->(execOp a.eval o).run P w=(callFunc g vs).run P w)->
   TQ P G w0 K ms B base (lone (B.atR a (.inRegion ops (i::rest)::k)) cs w) ops o rest k a.tmps.size e h1 r:=by
   intro g xs vs uc ga mF;obtain⟨⟨fn,ig,nw⟩,hc⟩:=hR.call g xs h r h1 uc;obtain⟨K',w',fr,le,s',bT,-,hl⟩:=hc K w vs ga hs (B.atR a (.inRegion ops (i::rest)::k)::cs);have KH:=at4 (k:=k) (cs:=cs) (rest:=rest) ho hw (by rw[lD B.roundOf _ (by rw[bL];intro c;simp) rfl,mF ⟨fn,ig,nw⟩];exact Ss hn ig nw vs w);cases r with
   |ret x=>obtain⟨v,hx,hl⟩:=hl;refine⟨K',w',a,cs,le,s',hf.mono le,cq.mono le,rfl,v,hx,.head KH (bT.trans (.one ?_))⟩;rw[step_leave_returned hl,B9 ho]
   |panic x=>obtain⟨v,hx,hl⟩:=hl;refine⟨K',w',a,cs,le,s',hf.mono le,cq.mono le,rfl,v,.inRegion ops (i::rest)::k,hx,.head KH (bT.trans (.one ?_))⟩;rw[step_leave_panicked hl,Frame.raise_atR]
  obtain⟨callee,cargs,cts⟩:=c;cases callee with
  |builtin b=>simp[mA] at he|value f=>
   simp only[mA] at he;have oB:=Av hf.iH f;generalize Qf:e.eval f=qf at he oB;generalize tw:a.eval f=qv at oB;split at he
   ·rename_i g first aD
    cases oB with
    |func _ _ _ fs dR Et xu=>
     refine call g _ (fs++cargs.map a.eval++dR) he ?_ λ_=>?_
     ·simp only[DC];exact(Et.append xx).append xu
     ·rw[qQ];simp[resolve,tw,Deferred.ofValue,invoke]
   ·rename_i l;cases oB with
    |yield _ lg hlg=>
     obtain⟨fn,tmps,assign,body,K',w',hy,le,s',hm⟩:=hR.round l _ h r h1 he K w (cargs.map a.eval) lg hlg xx hs (B.atR a (.inRegion ops (i::rest)::k)) cs;have KG:=aud (k:=k) (cs:=cs) (rest:=rest) ho hw (by rw[lD B.roundOf _ (by rw[bL];intro c;simp) qQ];simp only[resolve,tw,Deferred.ofValue,invoke,Sem.run_bind,Sem.run_pure,Result.andThen_ok];simpa using hy);cases r with
     |ret x=>obtain⟨v,hx,bT⟩:=hm;refine⟨K',w',a,cs,le,s',hf.mono le,cq.mono le,rfl,v,hx,.head KG ?_⟩;rw[<-B9 ho];exact bT
     |panic x=>obtain⟨v,fr,hx,bT,hl⟩:=hm;refine⟨K',w',a,cs,le,s',hf.mono le,cq.mono le,rfl,v,.inRegion ops (i::rest)::k,hx,.head KG (bT.trans (.one ?_))⟩;rw[step_leave_panicked hl,Frame.raise_atR]
   ·cases he
  |invoke rcv name=>
   simp only[mA] at he;have oB:=Av hf.iH rcv;generalize Qf:e.eval rcv=qf at he oB;generalize tw:a.eval rcv=qv at oB;split at he
   ·rename_i t x;split at he
    ·rename_i f hm;cases oB with
     |iface _ _ c hc=>
      refine call f _ (#[c]++cargs.map a.eval) he ?_ λ_=>?_
      ·simp only[DC];exact .cons _ _ _ _ hc xx
      ·rw[qQ];obtain⟨d,hd⟩:=amx;have akO:=amJ hm c w (P.types.size+d);have dL:P.types.size+Made.depth=P.types.size+d+1:=(by omega);simp only[resolve,tw,invoke,Sem.run_bind,Sem.run_pure,Result.andThen_ok,callMethod];have h0:(#[Value.iface t c]++MY a.eval cargs)[0]?=aa (.iface t c):=(by rw[Array.getElem?_append_left bE];rfl);simp only[h0,run_program,Sem.run_bind,Result.andThen_ok,dL,akO];congr 2;have hh:(#[Value.iface t c]++MY a.eval cargs).extract 1 (#[Value.iface t c]++MY a.eval cargs).size=MY a.eval cargs:=(by apply MW;simp;rw[<-ym,<-bu (f:=a.eval),List.take_length]);rw[hh]
    ·cases he
   ·cases he
 ·-- a defer
  rename_i f args argTypes bL;split at he
  ·cases he
  ·rename_i qU;have hB:=ze (by simpa using qU);have oB:=Av hf.iH f;generalize Qf:e.eval f=qf at he oB;generalize tw:a.eval f=qv at oB;split at he
   ·rename_i g first aD
    simp only[dP,dn] at he;obtain⟨rfl,rfl,rfl⟩:=he;cases oB with
    |func _ _ _ fs dR Et xu=>
     have mF:(o.semAt B.roundOf a.eval).run P w=.ok (.defer {target:=.fn (.func g) dR,args:=fs++args.map a.eval}) w:=(by rw[hB,Oper.semAt_none];unfold execOp;rw[bL];simp[resolve,tw,Deferred.ofValue]);refine⟨K,w,{a with defers:=_::a.defers},cs,.refl K,hs,⟨hf.iH,.call g _ (fs++args.map a.eval) dR _ _ _ ?_ hf.defers,?_,hf.fn⟩,cq,rfl,undef,?_,.one (at3 ho hw mF)⟩
     ·simp only[DC];exact(Et.append (JU hf.iH args)).append xu
     ·have lQ:=hf.round;cases hq:e.round with|none=>simp only;exact hB|some l=>rw[hq] at qU;exact absurd rfl qU
     ·exact .tuple [] #[] .nil
   ·cases he
 ·-- a panic
  rename_i x bL;have oB:=Av hf.iH x;generalize Qf:e.eval x=qf at he oB;generalize tw:a.eval x=qv at oB;split at he
  ·rename_i t x;simp only[dP,dn] at he;obtain⟨rfl,rfl,rfl⟩:=he;cases oB with|iface _ _ c hc=>refine⟨K,w,a,cs,.refl K,hs,hf,cq,rfl,.iface t c,_,.iface t x c hc,.one (abG ho hw ?_)⟩;rw[Oper.semAt_eq _ _ _ (by rw[bL];intro c;simp)];unfold execOp;rw[bL];simp[tw,Instr.panic]
  ·cases he
 ·-- any other operation
  rename_i op Ye Yf awx awy awz awA;simp only[dx] at he;obtain⟨⟨x,h1⟩,he,hq⟩:=he;simp only[dn] at hq;obtain⟨rfl,rfl,rfl⟩:=hq;have PX:∀c,o.op≠ .defer c:=by intro c hc;rw[hc] at he;simp[dS] at he
  obtain⟨K',v,w',le,s',hx,mF⟩:=an4 hs (λx=>Av hf.iH x) he;refine⟨K',w',a,cs,le,s',hf.mono le,cq.mono le,rfl,v,hx,.one ?_⟩;rcases mF with mF|⟨mF,rfl⟩
  ·exact abK ho hw (by rw[Oper.semAt_eq _ _ _ PX];exact mF)
  ·exact auf ho hw (by rw[Oper.semAt_eq _ _ _ PX];exact mF)
end
end Go.AE
end
section
namespace Go.AE
def asN{x y}(h:lX x y=ah):x=y:=by
 cases x<;>cases y<;>simp only[lX,bC,decide_eq_true_eq,jO,beq_iff_eq] at h
 case int.int=>rw[h.1,h.2]
 case bool.bool=>rw[h]
 case string.string a b=>
  obtain⟨⟨a⟩⟩:=a;obtain⟨⟨b⟩⟩:=b;simp only at h;rw[h]
 case pointer.pointer a b=>cases a<;>cases b<;>first|rfl|simp[lX] at h
 all_goals rfl
def asL{x y}(h:Mq x y=ah):x=y:=by cases x<;>cases y<;>simp only[Mq,jO] at h<;>rw[jW h]
def asM{x y}(h:yd x y=ah):x=y:=by cases x<;>cases y<;>simp only[yd,jO] at h<;>first|rfl|rw[jW h]
mutual
def Sx:∀{x y:AV},fc x y=ah->x=y
 | .v x,.v y,h=>by rw[fc] at h;rw[asN h]
 | .list k sz es,.list k' sz' es',h=>by rw[fc,bC,bC] at h;rw[asM h.1.1,jW h.1.2,Sy h.2]
 | .arr b o l c,.arr b' o' l' c',h=>by rw[fc,bC,bC,bC] at h;rw[jW h.1.1.1,jW h.1.1.2,jW h.1.2,jW h.2]
 | .agg cs,.agg ds,h=>by rw[fc] at h;rw[FM h]
 | .tuple cs,.tuple ds,h=>by rw[fc] at h;rw[FM h]
 | .ptr r o,.ptr r' o',h=>by rw[fc,bC] at h;rw[asL h.1,jW h.2]
 | .elem sz es i o,.elem sz' es' i' o',h=>by rw[fc,bC,bC,bC] at h;rw[jW h.1.1.1,jW h.1.1.2,jW h.1.2,Sy h.2]
 | .yield l,.yield l',h=>by rw[fc] at h;rw[jW h]
 | .iface t x,.iface t' y,h=>by rw[fc,bC] at h;rw[jW h.1,Sx h.2]
 | .func (.func f) a b,.func (.func g) a' b',h=>by rw[fc,bC,bC] at h;rw[jW h.1.1,FM h.1.2,FM h.2]
 | .bad,y,h=>by simp[fc] at h
def FM:∀{x y:List AV},pg x y=ah->x=y
 | [],[],_=>rfl
 |x::xs,y::ys,h=>by rw[pg,bC] at h;rw[Sx h.1,FM h.2]
 | [],y::ys,h=>by simp[pg] at h
 |x::xs,[],h=>by simp[pg] at h
def Sy:∀{x y:List (List AV)},rm x y=ah->x=y
 | [],[],_=>rfl
 |x::xs,y::ys,h=>by rw[rm,bC] at h;rw[FM h.1,Sy h.2]
 | [],y::ys,h=>by simp[rm] at h
 |x::xs,[],h=>by simp[rm] at h
end
end Go.AE
end
section
namespace Go.AE
section
variable {P:Program} {G:Nat->Option (List AV)} {R:Rec}
def Q2{ρ ρ':Operand->AV}{ps:Array (Nat × Operand)}(h:∀x∈ps.map (·.2),ρ x=ρ' x):(ps.toList.map λp=>(p.1,ρ p.2))=ps.toList.map λp=>(p.1,ρ' p.2):=
 JH λp hp=>by rw[h p.2 (Array.mem_map.2 ⟨p,acq.1 hp,rfl⟩)]
def A9{ρ ρ':Operand->AV}{ps:Array Operand}(h:∀x∈ps,ρ x=ρ' x):ps.toList.map ρ=ps.toList.map ρ':=
 JH λp hp=>h p (acq.1 hp)
def aaa{ρ ρ':Operand->AV}{h:aq}{op:Op}(hx:∀x∈op.operands,ρ x=ρ' x):dS P G ρ h op=dS P G ρ' h op:=by
 cases op<;>simp only[Op.operands] at hx<;>simp only[dS]
 case build t ps=>rw[Q2 (λx hm=>hx x (by simpa using hm))]
 case buildSlice t n ps=>rw[Q2 (λx hm=>hx x (by simpa using hm))]
 case makeFunc fn first captured=>
  rw[A9 (ps:=first) λx hm=>hx x (by simp[hm]),A9 (ps:=captured) λx hm=>hx x (by simp[hm])]
 case slice t x lo hi mx=>cases lo<;>cases hi<;>cases mx<;>simp_all
 all_goals (first|rfl|(simp_all;done))
def Op.Zr{c:Call}{x}(h:x∈c.args):x∈c.operands:=by simp[Call.operands,h]
def Oh{e e2:Env}{h:aq}{c:Call}(hx:∀x∈c.operands,e.eval x=e2.eval x):mA P R e h c=mA P R e2 h c:=by
 have ha:c.args.toList.map e.eval=c.args.toList.map e2.eval:=A9 λx hm=>hx x (Op.Zr hm);unfold mA;simp only[ha];cases hc:c.callee with|builtin b=>rfl|value f=>have hf:e.eval f=e2.eval f:=hx f (by simp[Call.operands,hc]);simp only[hf]|invoke r m=>have hr:e.eval r=e2.eval r:=hx r (by simp[Call.operands,hc]);simp only[hr]
def Env.with(e e':Env):Env:={e with defers:=e'.defers,cV:=e'.cV}
def anp{e e':Env}{h h':aq}{o:Oper}{r:eY}(he:eo P G R e h o=aa (r,e',h')):e'=e.with e':=by
 unfold eo at he;split at he
 ·split at he
  ·cases he
  ·split at he
   ·simp only[dP,dn] at he;obtain⟨-,rfl,-⟩:=he;rfl
   ·simp only[dP,dn] at he;obtain⟨-,rfl,-⟩:=he;rfl
 ·split at he
  ·simp only[dP,dn] at he;obtain⟨-,rfl,-⟩:=he;rfl
  ·cases he
 ·simp only[dx,dn] at he;obtain⟨_,-,-,rfl,-⟩:=he;rfl
 ·simp only[dx,dn] at he;obtain⟨_,-,-,rfl,-⟩:=he;rfl
 ·split at he
  ·cases he
  ·split at he
   ·simp only[dP,dn] at he;obtain⟨-,rfl,-⟩:=he;rfl
   ·cases he
 ·split at he
  ·simp only[dP,dn] at he;obtain⟨-,rfl,-⟩:=he;rfl
  ·cases he
 ·simp only[dx,dn] at he;obtain⟨_,-,-,rfl,-⟩:=he;rfl
def ano{e e' e2:Env}{h h':aq}{o:Oper}{r:eY}(hx:∀x∈o.op.operands,e.eval x=e2.eval x)(hd:e2.defers=e.defers)(hp:e2.cV=e.cV)(hr:e2.round=e.round)
 (he:eo P G R e h o=aa (r,e',h')):eo P G R e2 h o=aa (r,e2.with e',h'):=by
 have jn:e2.with e=e2:=by cases e2;cases e;simp_all [Env.with]
 unfold eo at he ⊢;split at he
 ·rename_i args ts bL;simp only[hr,hp];split at he
  ·cases he
  ·rename_i lD;rw[aI lD];split at he
   ·rename_i x uk;simp only[dP,dn] at he;obtain⟨rfl,rfl,rfl⟩:=he;simp[Env.with,<-hd,<-hr]
   ·rename_i uk;simp only[dP,dn] at he;obtain⟨rfl,rfl,rfl⟩:=he;rw[jn]
 ·rename_i args ts bL;have ha:args.toList.map e.eval=args.toList.map e2.eval:=A9 λx hm=>hx x (by rw[bL];simp[Op.operands,Call.operands,hm]);simp only[<-ha];split at he
  ·simp only[dP,dn] at he;obtain⟨rfl,rfl,rfl⟩:=he;simp only[jn]
  ·cases he
 ·rename_i b args ts lu fT bL;have ha:args.toList.map e.eval=args.toList.map e2.eval:=A9 λx hm=>hx x (by rw[bL];simp[Op.operands,Call.operands,hm]);simp only[dx,dn] at he;obtain⟨q,hq,rfl,rfl,rfl⟩:=he;simp only[<-ha,hq,ff,jn]
 ·rename_i c lu fT yY bL;simp only[dx,dn] at he;obtain⟨q,hq,rfl,rfl,rfl⟩:=he;rw[Oh (e2:=e2) (λx hm=>hx x (by rw[bL];exact hm))] at hq;simp only[hq,ff,jn]
 ·rename_i f args ts bL;have ha:args.toList.map e.eval=args.toList.map e2.eval:=A9 λx hm=>hx x (by rw[bL];simp[Op.operands,Call.operands,hm]);have hf:e.eval f=e2.eval f:=hx f (by rw[bL];simp[Op.operands,Call.operands]);simp only[hr];split at he
  ·cases he
  ·rename_i lD;rw[aI lD];simp only[<-hf,<-ha];split at he
   ·simp only[dP,dn] at he;obtain⟨rfl,rfl,rfl⟩:=he;simp only[Env.with,hd,<-hp,<-hr]
   ·cases he
 ·rename_i x bL;have hf:e.eval x=e2.eval x:=hx x (by rw[bL];simp[Op.operands]);simp only[<-hf];split at he
  ·simp only[dP,dn] at he;obtain⟨rfl,rfl,rfl⟩:=he;simp only[jn]
  ·cases he
 ·simp only[dx,dn] at he;obtain⟨q,hq,rfl,rfl,rfl⟩:=he;rw[aaa (ρ':=e2.eval) hx] at hq;simp only[hq,ff,jn]
def aoK{e e':Env}{h h':aq}{o:Oper}{r:eY}(hc:jI o.op=.pure)(he:eo P G R e h o=aa (r,e',h')):
 e'=e/\h'=h/\∀e2:Env,(∀x∈o.op.operands,e.eval x=e2.eval x)->∀h2,eo P G R e2 h2 o=aa (r,e2,h2):=by
 cases bL:o.op with
 |call c=>
  obtain⟨callee,args,ts⟩:=c;rw[bL] at hc;cases callee with
  |value f=>simp[jI] at hc|invoke r n=>simp[jI] at hc|builtin b=>
   cases b<;>simp[jI] at hc
   case len=>
    unfold eo at he ⊢;simp only[bL] at he ⊢;simp only[dx,dn] at he;obtain⟨⟨x,hh⟩,hq,rfl,rfl,rfl⟩:=he;have hT:∀(h2:aq) (l:List AV),sS P G o.dst h2 .len ts o.type l=jH P h2 .len ts o.type l:=λ_ _=>rfl;rw[hT] at hq;have key:hh=h/\∀h2:aq,jH P h2 .len ts o.type (args.toList.map e.eval)=aa (x,h2):=by
     generalize args.toList.map e.eval=l at hq ⊢;rcases l with _|⟨y,_|⟨z,l⟩⟩
     ·simp[jH] at hq
     ·simp only[jH] at hq ⊢;split at hq
      ·rename_i t ht;simp only[dx,dn] at hq;obtain⟨z,hz,rfl,rfl⟩:=hq;refine⟨rfl,λh2=>?_⟩;simp[hz]
      ·cases hq
     ·simp[jH] at hq
    obtain⟨rfl,key⟩:=key;refine⟨rfl,rfl,λe2 hx h2=>?_⟩;have ha:args.toList.map e.eval=args.toList.map e2.eval:=A9 λx hm=>hx x (by simp[Op.operands,Call.operands,hm]);rw[<-ha,hT,key h2];rfl
 |buildSlice t n ps=>
  rw[bL] at hc;have Hs:xl ps=az:=by
   cases hb:xl ps with|false=>rfl|true=>simp[jI,hb] at hc
  unfold eo at he ⊢;simp only[bL] at he ⊢;simp only[dx,dn] at he;obtain⟨⟨x,hh⟩,hq,rfl,rfl,rfl⟩:=he;simp only[dS,Hs,dx,dn] at hq;obtain⟨y,hy,rfl,rfl⟩:=hq;refine⟨rfl,rfl,λe2 hx h2=>?_⟩;have hm:=Q2 (ρ:=e.eval) (ρ':=e2.eval) (ps:=ps) (λx hm=>hx x (by simpa [Op.operands] using hm));simp only[dS,Hs,<-hm,hy,ff]
 |_=>
  rw[bL] at hc
  first
   |(simp[jI] at hc;done)
   |(unfold eo at he ⊢
     simp only[bL] at he ⊢;simp only[dx,dn] at he;obtain⟨⟨x,hh⟩,hq,rfl,rfl,rfl⟩:=he;have key:hh=h/\∀h2:aq,dS P G e.eval h2 o.op=aa (x,h2):=by
      rw[bL];simp only[dS] at hq ⊢
      first
       |(simp only[dP,dn] at hq;obtain⟨rfl,rfl⟩:=hq;exact⟨rfl,λ_=>rfl⟩)
       |(simp only[dx,dn] at hq;obtain⟨z,hz,rfl,rfl⟩:=hq;exact⟨rfl,λ_=>by simp only[hz,ff]⟩)
       |(split at hq
         ·simp only[dP,dn] at hq;obtain⟨rfl,rfl⟩:=hq;exact⟨rfl,λ_=>by simp_all⟩
         ·cases hq)
       |(split at hq
         ·simp only[dx,dn] at hq;obtain⟨z,hz,rfl,rfl⟩:=hq;exact⟨rfl,λ_=>by simp_all⟩
         ·cases hq)
       |(split at hq
         ·split at hq
          ·simp only[dx,dn] at hq;obtain⟨z,hz,rfl,rfl⟩:=hq;exact⟨rfl,λ_=>by simp_all⟩
          ·cases hq
         ·cases hq)
     obtain⟨rfl,key⟩:=key;refine⟨rfl,rfl,λe2 hx h2=>?_⟩;rw[<-bL,<-aaa (P:=P) (G:=G) (ρ:=e.eval) (h:=h2) (by rw[bL];exact hx),key h2];rfl)
def amo{e e':Env}{h h':aq}{o:Oper}{r:eY}{t:TypeId}{a:Operand}(bL:o.op=.load t a)(he:eo P G R e h o=aa (r,e',h')):
 ∃x,r=.ret x/\e'=e/\h'=h/\aH P G h t (e.eval a)=aa x/\∀e2:Env,e2.eval a=e.eval a->∀h2,aH P G h2 t (e.eval a)=aa x->eo P G R e2 h2 o=aa (.ret x,e2,h2):=by
 unfold eo at he ⊢;simp only[bL,dS] at he ⊢;simp only[dx,dn] at he;obtain⟨⟨x,hh⟩,⟨y,hy,rfl,rfl⟩,rfl,rfl,rfl⟩:=he;refine⟨_,rfl,rfl,rfl,hy,λe2 h2 td hl=>?_⟩;rw[h2,hl];rfl
def aar{op}(h:jI op=.reads):∃t a,op=.load t a:=by
 cases op with
 |load t a=>exact⟨t,a,rfl⟩|buildSlice t n ps=>exfalso;simp only[jI] at h;split at h<;>cases h
 |call c=>
  obtain⟨callee,args,ts⟩:=c;cases callee with
  |builtin b=>cases b<;>simp[jI] at h
  |_=>simp[jI] at h
 |_=>simp[jI] at h
end
end Go.AE
end
section
namespace Go.AE
section
variable (P:Program) (G:Nat->Option (List AV)) (R:Rec) (ops:Array Oper)
def kC(i:Nat)(e:Env)(h:aq):Option (AV × Env × aq):=
 match ops[i]? with
 |none=>au
 |some o=>
  match fD ops e o with
  |none=>au
  |some az=>aa (.tuple [],e,h)
  |some ah=>
   match eo P G R e h o with
   |some (.ret x,e,h)=>aa (x,e,h)
   |_=>au
def np(i:Nat):Option Tmp:=(ops[i]?).bind (·.dst)
def qj(i:Nat):Class:=((ops[i]?).map λo=>jI o.op).getD .pure
noncomputable def mP(e:Env)(h:aq)(i:Nat):Class:=if nk P G R ops e h i=ah then .reads else qj ops i
def df(e:Env)(h:aq)(k:Nat):Env × aq:=
 match di P G R ops (bM k) e h with
 |some (_,e,h)=>(e,h)
 |none=>(e,h)
def vB(e:Env)(h:aq)(k:Nat):AV × Env:=
 match kC P G R ops k (df P G R ops e h k).1 (df P G R ops e h k).2 with
 |some (x,e,_)=>(x,e)
 |none=>(.bad,e)
def val(e:Env)(h:aq)(S:Nat->Bool):Nat->Nat->AV
 |0,t=>e.get t
 |k+1,t=>if S k=ah/\np ops k=aa t then (vB P G R ops e h k).1 else val e h S k t
def Alike(e e2:Env)(o:Oper):Prop:=∀t∈o.looksAt ops,e.get t=e2.get t
end
section
variable {P:Program} {G:Nat->Option (List AV)} {R:Rec} {ops:Array Oper}
def rf{i:Nat}{rest:List Nat}{e e':Env}{h h':aq}:
 di P G R ops (i::rest) e h=aa (.normal,e',h')↔∃x e1 h1,kC P G R ops i e h=aa (x,e1,h1)/\di P G R ops rest (e1.put (np ops i) x) h1=aa (.normal,e',h'):=by
 simp only[di,kC,np];cases ho:ops[i]? with
 |none=>simp|some o=>
  simp only[oq];cases hw:fD ops e o with
  |none=>simp|some b=>
   cases b with
   |false=>simp only[dP,dn];exact⟨λhq=>⟨_,_,_,⟨rfl,rfl,rfl⟩,hq⟩,λ⟨_,_,_,⟨a,b,c⟩,hq⟩=>by subst a;subst b;subst c;exact hq⟩
   |true=>
    simp only;cases bL:eo P G R e h o with
    |none=>simp|some q=>
     obtain⟨r,e1,h1⟩:=q;cases r with|panic x=>simp|ret x=>simp only[dP,dn];exact⟨λhq=>⟨_,_,_,⟨rfl,rfl,rfl⟩,hq⟩,λ⟨_,_,_,⟨a,b,c⟩,hq⟩=>by subst a;subst b;subst c;exact hq⟩
def Iv{l1 l2:List Nat}:∀{e e':Env} {h h':aq},
 di P G R ops (l1++l2) e h=aa (.normal,e',h')↔∃e1 h1,di P G R ops l1 e h=aa (.normal,e1,h1)/\di P G R ops l2 e1 h1=aa (.normal,e',h'):=by
 induction l1 with
 |nil=>intro e e' h h';simp only[lJ,di,dP,dn,true_and];exact⟨λhq=>⟨_,_,⟨rfl,rfl⟩,hq⟩,λ⟨_,_,⟨a,b⟩,hq⟩=>by subst a;subst b;exact hq⟩
 |cons i l ih=>
  intro e e' h h';rw[kL,rf];constructor
  ·rintro⟨x,e1,h1,hs,hr⟩;obtain⟨e2,h2,ha,hb⟩:=ih.1 hr;exact⟨e2,h2,rf.2 ⟨x,e1,h1,hs,ha⟩,hb⟩
  ·rintro⟨e2,h2,ha,hb⟩;obtain⟨x,e1,h1,hs,hr⟩:=rf.1 ha;exact⟨x,e1,h1,hs,ih.2 ⟨e2,h2,hr,hb⟩⟩
def trace{e e':Env}{h h':aq}:∀{n:Nat},di P G R ops (bM n) e h=aa (.normal,e',h')->
 (e',h')=df P G R ops e h n/\(∀k,k<=n->di P G R ops (bM k) e h=aa (.normal,(df P G R ops e h k).1,(df P G R ops e h k).2))/\
 ∀k,k<n->kC P G R ops k (df P G R ops e h k).1 (df P G R ops e h k).2=aa ((vB P G R ops e h k).1,(vB P G R ops e h k).2,(df P G R ops e h (k+1)).2)/\
  (df P G R ops e h (k+1)).1=(vB P G R ops e h k).2.put (np ops k) (vB P G R ops e h k).1:=by
 intro n
 induction n generalizing e' h' with
 |zero=>
  intro hn;have h0:(e',h')=df P G R ops e h 0:=by unfold df;rw[hn]
  refine⟨h0,λk hk=>?_,λk hk=>absurd hk (tN k)⟩;have:k=0:=NB.1 hk;subst this;rw[<-h0];exact hn
 |succ n ih=>
  intro hn;have h0:(e',h')=df P G R ops e h (n+1):=by unfold df;rw[hn]
  have EJ:=hn;rw[om,Iv] at EJ;obtain⟨e1,h1,ha,hb⟩:=EJ;obtain⟨i1,i2,i3⟩:=ih ha;obtain⟨x,e2,h2,hs,hr⟩:=rf.1 hb;simp only[di,dP,dn,true_and] at hr;refine⟨h0,λk hk=>?_,λk hk=>?_⟩
  ·rcases dW k (n+1) with aA|eg
   ·exact i2 k (BE.1 aA)
   ·have:k=n+1:=BD hk eg;subst this;rw[<-h0];exact hn
  ·rcases dW k n with aA|eg
   ·exact i3 k aA
   ·have:k=n:=BD (BE.1 hk) eg;subst this;have bT:kC P G R ops k (df P G R ops e h k).1 (df P G R ops e h k).2=aa (x,e2,h2):=(by rw[<-i1];exact hs);have hx:vB P G R ops e h k=(x,e2):=(by unfold vB;rw[bT]);rw[hx,<-h0,bT];obtain⟨rfl,rfl⟩:=hr;exact⟨rfl,rfl⟩
def GK{e e2:Env}{o:Oper}(h:Alike ops e e2 o):∀x∈o.op.operands,e.eval x=e2.eval x:=by
 intro x hx;cases x with|tmp t=>refine h t ?_;unfold Oper.looksAt;exact List.mem_append_left _ (List.mem_filterMap.2 ⟨.tmp t,by simpa using hx,rfl⟩)|_=>rfl
def Ae{e e2:Env}{o:Oper}(h:Alike ops e e2 o):fD ops e o=fD ops e2 o:=by
 unfold fD;cases hg:o.guard with
 |none=>rfl|some gw=>
  obtain⟨j,want⟩:=gw;simp only;cases hd:(ops[j]?).bind (·.dst) with|none=>rfl|some d=>have:e.get d=e2.get d:=h d (by unfold Oper.looksAt;rw[hg];simp[hd]);simp only[this]
def RK(e:Env)(d)(x)(t):(e.put d x).get t=if d=aa t then x else e.get t:=by
 cases d with|none=>simp[Env.put]|some d=>simp only[Env.put,Env.get,Fk,dP]
def wD(e:Env)(d)(x):(e.put d x).defers=e.defers/\(e.put d x).cV=e.cV/\(e.put d x).round=e.round:=by cases d<;>exact⟨rfl,rfl,rfl⟩
def SJ{k:Nat}{e e1 e2:Env}{h h1:aq}{x:AV}(hs:kC P G R ops k e h=aa (x,e1,h1)):
 e1=e.with e1/\((∀o,ops[k]?=aa o->Alike ops e e2 o)->e2.defers=e.defers->e2.cV=e.cV->e2.round=e.round->kC P G R ops k e2 h=aa (x,e2.with e1,h1)):=by
 unfold kC at hs ⊢;cases ho:ops[k]? with
 |none=>rw[ho] at hs;cases hs
 |some o=>
  rw[ho] at hs;simp only at hs ⊢;cases hw:fD ops e o with
  |none=>rw[hw] at hs;cases hs
  |some b=>
   rw[hw] at hs;cases b with
   |false=>simp only[dP,dn] at hs;obtain⟨rfl,rfl,rfl⟩:=hs;refine⟨rfl,λeG hd hp hr=>?_⟩;rw[<-Ae (eG o rfl),hw];have:e2.with e=e2:=(by cases e2;cases e;simp_all [Env.with]);simp only[this]
   |true=>
    simp only at hs;split at hs
    ·rename_i x' e' h' bL;simp only[dP,dn] at hs;obtain⟨rfl,rfl,rfl⟩:=hs;refine⟨anp bL,λeG hd hp hr=>?_⟩;rw[<-Ae (eG o rfl),hw];simp only[ano (GK (eG o rfl)) hd hp hr bL]
    ·cases hs
def SK{k:Nat}{e e1:Env}{h h1:aq}{x:AV}(hc:qj ops k=.pure)(hs:kC P G R ops k e h=aa (x,e1,h1)):
 e1=e/\h1=h/\∀e2 h2,(∀o,ops[k]?=aa o->Alike ops e e2 o)->kC P G R ops k e2 h2=aa (x,e2,h2):=by
 unfold kC at hs ⊢;cases ho:ops[k]? with
 |none=>rw[ho] at hs;cases hs
 |some o=>
  rw[ho] at hs;simp only at hs ⊢;have hc:jI o.op=.pure:=by simpa [qj,ho] using hc
  cases hw:fD ops e o with
  |none=>rw[hw] at hs;cases hs
  |some b=>
   rw[hw] at hs;cases b with
   |false=>simp only[dP,dn] at hs;obtain⟨rfl,rfl,rfl⟩:=hs;refine⟨rfl,rfl,λe2 h2 eG=>?_⟩;rw[<-Ae (eG o rfl),hw]
   |true=>
    simp only at hs;split at hs
    ·rename_i x' e' h' bL;simp only[dP,dn] at hs;obtain⟨rfl,rfl,rfl⟩:=hs;obtain⟨rfl,rfl,eM⟩:=aoK hc bL;refine⟨rfl,rfl,λe2 h2 eG=>?_⟩;rw[<-Ae (eG o rfl),hw];simp only[eM e2 (GK (eG o rfl)) h2]
    ·cases hs
def Reads(P:Program)(G:Nat->Option (List AV))(R:Rec)(ops:Array Oper)(k:Nat)(e:Env)(x:AV)(h2:aq):Prop:=
 ∀o,ops[k]?=aa o->fD ops e o=aa ah->(∀t a,o.op=.load t a->aH P G h2 t (e.eval a)=aa x)/\(Al o.op=ah->eo P G R e h2 o=aa (.ret x,e,h2))
def abH{k:Nat}{e e1:Env}{h h1:aq}{x:AV}(hc:qj ops k=.reads)(hs:kC P G R ops k e h=aa (x,e1,h1)):
 e1=e/\h1=h/\Reads P G R ops k e x h/\∀e2 h2,(∀o,ops[k]?=aa o->Alike ops e e2 o)->Reads P G R ops k e x h2->kC P G R ops k e2 h2=aa (x,e2,h2):=by
 unfold kC at hs ⊢;unfold Reads;cases ho:ops[k]? with
 |none=>rw[ho] at hs;cases hs
 |some o=>
  rw[ho] at hs;simp only at hs ⊢;have hc:jI o.op=.reads:=by simpa [qj,ho] using hc
  obtain⟨t,a,mf⟩:=aar hc;cases hw:fD ops e o with
  |none=>rw[hw] at hs;cases hs
  |some b=>
   rw[hw] at hs;cases b with
   |false=>
    simp only[dP,dn] at hs;obtain⟨rfl,rfl,rfl⟩:=hs;refine⟨rfl,rfl,λo' iT YD=>?_,λe2 h2 eG _=>?_⟩
    ·injection iT with iT;subst iT;rw[hw] at YD;cases YD
    ·rw[<-Ae (eG o rfl),hw]
   |true=>
    simp only at hs;split at hs
    ·rename_i x' e' h' bL;simp only[dP,dn] at hs;obtain⟨rfl,rfl,rfl⟩:=hs;obtain⟨y,hy,rfl,rfl,hl,eM⟩:=amo mf bL;injection hy with hy;subst hy;refine⟨rfl,rfl,λo' iT _=>⟨λt' a' XM=>?_,λiC=>?_⟩,λe2 h2 eG qU=>?_⟩
     ·injection iT with iT;subst iT;rw[mf] at XM;injection XM with h1 h2;subst h1;subst h2;exact hl
     ·injection iT with iT;subst iT;rw[mf] at iC;cases iC
     ·rw[<-Ae (eG o rfl),hw];have hax:e2.eval a=e'.eval a:=(GK (eG o rfl) a (by rw[mf];simp[Op.operands])).symm;simp only[eM e2 hax h2 ((qU o rfl hw).1 t a mf)]
    ·cases hs
def agn{e:Env}{h h2:aq}{o:Oper}{c:Call}{x:AV}(bL:o.op=.call c)(hc:mA P R e h c=aa (.ret x,h2)):eo P G R e h o=aa (.ret x,e,h2):=by
 have hb:∀b,c.callee≠ .builtin b:=by intro b hb;unfold mA at hc;rw[hb] at hc;cases hc
 obtain⟨callee,args,ts⟩:=c;unfold eo;cases callee with|builtin b=>exact absurd rfl (hb b)|value f=>simp only[bL,hc,ff]|invoke r n=>simp only[bL,hc,ff]
def agu{e e2:Env}{h:aq}{o:Oper}{x:AV}(bL:Al o.op=ah)(hz:∀z∈o.op.operands,e.eval z=e2.eval z)(ho:eo P G R e h o=aa (.ret x,e,h)):eo P G R e2 h o=aa (.ret x,e2,h):=by
 unfold Al at bL;split at bL
 ·cases bL
 ·cases bL
 ·rename_i c n1 n2 hc;have QA:∀z∈c.operands,e.eval z=e2.eval z:=λz hm=>hz z (by rw[hc];exact hm);obtain⟨callee,args,ts⟩:=c;have ha:args.toList.map e.eval=args.toList.map e2.eval:=A9 λx hm=>QA x (Op.Zr hm);unfold eo at ho ⊢;cases callee with
  |builtin b=>
   cases b
   case recover=>exact absurd rfl (n1 _ _)
   case panic=>exact absurd rfl (n2 _ _)
   all_goals
    simp only[hc] at ho ⊢;rw[<-ha];simp only[dx] at ho ⊢;obtain⟨⟨y,h1⟩,q1,q2⟩:=ho;injection q2 with q2 q3;injection q3 with q3 q4;injection q2 with q2;subst q2;subst q4;exact⟨_,q1,rfl⟩
  |value f=>simp only[hc] at ho ⊢;rw[<-Oh (e:=e) (e2:=e2) QA];simp only[dx] at ho ⊢;obtain⟨⟨y,h1⟩,q1,q2⟩:=ho;injection q2 with q2 q3;injection q3 with q3 q4;subst q2;subst q4;exact⟨_,q1,rfl⟩
  |invoke r n=>simp only[hc] at ho ⊢;rw[<-Oh (e:=e) (e2:=e2) QA];simp only[dx] at ho ⊢;obtain⟨⟨y,h1⟩,q1,q2⟩:=ho;injection q2 with q2 q3;injection q3 with q3 q4;subst q2;subst q4;exact⟨_,q1,rfl⟩
 ·rename_i s d y hc;have hy:e.eval y=e2.eval y:=hz y (by rw[hc];simp[Op.operands]);unfold eo at ho ⊢;simp only[hc,dS] at ho ⊢;rw[<-hy];simp only[dx] at ho ⊢;obtain⟨⟨y,h1⟩,q1,q2⟩:=ho;injection q2 with q2 q3;injection q3 with q3 q4;injection q2 with q2;subst q2;subst q4;exact⟨_,q1,rfl⟩
 ·cases bL
def abF{k:Nat}{e e1:Env}{h h1:aq}{x y:AV}{o:Oper}(ho:ops[k]?=aa o)(bL:Al o.op=ah)(hc:eo P G R e h o=aa (.ret y,e,h))(hs:kC P G R ops k e h=aa (x,e1,h1)):
 e1=e/\h1=h/\(fD ops e o=aa ah->x=y)/\∀e2 h2,(∀o,ops[k]?=aa o->Alike ops e e2 o)->Reads P G R ops k e x h2->kC P G R ops k e2 h2=aa (x,e2,h2):=by
 unfold kC at hs ⊢;rw[ho] at hs;simp only[ho] at hs ⊢;cases hw:fD ops e o with
 |none=>rw[hw] at hs;cases hs
 |some b=>
  rw[hw] at hs;cases b with
  |false=>simp only[dP,dn] at hs;obtain⟨rfl,rfl,rfl⟩:=hs;refine⟨rfl,rfl,(λq=>nomatch q),λe2 h2 eG _=>?_⟩;rw[<-Ae (eG o rfl),hw]
  |true=>simp only[hc] at hs;simp only[dP,dn] at hs;obtain⟨rfl,rfl,rfl⟩:=hs;refine⟨rfl,rfl,λ_=>rfl,λe2 h2 eG qU=>?_⟩;rw[<-Ae (eG o rfl),hw];have h3:=(qU o ho hw).2 bL;have h4:=agu (e2:=e2) bL (λz hz=>GK (eG o rfl) z hz) h3;simp only[h4]
end
end Go.AE
end
section
namespace Go.AE
section
variable {P:Program} {G:Nat->Option (List AV)} {R:Rec} {ops:Array Oper}
def Ord(b:Array Nat)(i j:Nat):Prop:=(b.getD j 0).testBit i=ah
structure Fits(P:Program)(G:Nat->Option (List AV))(R:Rec)(ops:Array Oper)(e:Env)(h:aq)(b:Array Nat):Prop where
 Kf:∀(j:Nat) (o:Oper),ops[j]?=aa o->∀ed∈o.after,Region.binds .any ed=ah->ed.on<j
 bits:∀(j i:Nat) (o:Oper),ops[j]?=aa o->i<ops.size->Ord b i j->∃ed∈o.after,Region.binds .any ed=ah/\(ed.on=i∨Ord b i ed.on)
 pair:∀i j:Nat,i<j->j<ops.size->Ord b i j∨zC ops i j=ah∨mo P G R ops e h i j=ah∨(qh ops i j=ah/\(nk P G R ops e h i=ah∨nk P G R ops e h j=ah))
def yR{e:Env}{h:aq}(hf:mQ P G R ops e h=ah):Fits P G R ops e h (Region.before ops):=by
 unfold mQ at hf;simp only[bC,ey,fQ,vD] at hf;obtain⟨hb,hp⟩:=hf;unfold BO at hb;simp only[ey,fQ] at hb;refine⟨λj o ho ed gi nQ=>?_,λj i o ho hi mE=>?_,λi j mE hj=>?_⟩
 ·have hj:j<ops.size:=(Dy.1 ho).1;have:=hb j hj;simp only[ho,bC,FY] at this;obtain⟨q,hq,rfl⟩:=acm gi;have:=this.1 q hq;simpa [nQ] using this
 ·have hj:j<ops.size:=(Dy.1 ho).1;have:=hb j hj;simp only[ho,bC,ey,fQ] at this;have:=this.2 i hi;unfold Ord at mE;rw[mE] at this;simp only[Bool.not_true,Bool.false_or,Array.any_eq_true,bC,vD] at this;obtain⟨q,hq,h1,h2⟩:=this;exact⟨o.after[q],ack hq,h1,h2.imp (λh=>jW h) id⟩
 ·rcases hp j hj i mE with((h|h)|h)|h
  ·exact .inl h
  ·exact .inr (.inl h)
  ·exact .inr (.inr (.inl h))
  ·exact .inr (.inr (.inr (by simpa using h)))
variable {e:Env} {h:aq} {b:Array Nat}
def Fits.apart(F:Fits P G R ops e h b){i j:Nat}(mE:i<j)(hj:j<ops.size)(hn:¬Ord b i j){x y:Oper}(hx:ops[i]?=aa x)(hy:ops[j]?=aa y):
 x.apart ops y=ah/\y.apart ops x=ah:=by
 rcases F.pair i j mE hj with h|h|h|⟨h,-⟩
 ·exact absurd h hn
 ·unfold zC at h;simp only[hx,hy,bC] at h;exact⟨h.1.2,h.2⟩
 ·unfold mo qh at h;simp only[hx,hy,bC] at h;exact h.1
 ·unfold qh at h;simp only[hx,hy,bC] at h;exact h
def BW{i:Nat}{x:Oper}(hx:ops[i]?=some x):qj ops i=jI x.op:=by simp[qj,hx]
def Ka{i:Nat}(hi:mP P G R ops e h i=.acts):qj ops i=.acts/\nk P G R ops e h i=az:=by
 unfold mP at hi;split at hi
 ·cases hi
 ·rename_i hc;exact⟨hi,by simpa using hc⟩
def Fits.acts(F:Fits P G R ops e h b){i j:Nat}(mE:i<j)(hj:j<ops.size)(hi:mP P G R ops e h i=.acts)(rP:mP P G R ops e h j=.acts):Ord b i j:=by
 have hx:ops[i]?=aa ops[i]:=mK (qa mE hj);have hy:ops[j]?=aa ops[j]:=mK hj;obtain⟨hi,ci⟩:=Ka hi;obtain⟨rP,cj⟩:=Ka rP;rw[BW hx] at hi;rw[BW hy] at rP;rcases F.pair i j mE hj with h|h|h|⟨-,h⟩
 ·exact h
 ·unfold zC at h;simp only[hx,hy,bC] at h;rw[hi,rP] at h;simp[Ln] at h
 ·unfold mo at h;simp only[hx,hy,bC,ff] at h;rw[hi,rP] at h;simp at h
 ·rw[ci,cj] at h;simp at h
def Fits.atN(F:Fits P G R ops e h b){i j:Nat}(mE:i<j)(hj:j<ops.size)(hn:¬Ord b i j)(hi:qj ops i=.reads)(ci:nk P G R ops e h i=az)(rP:mP P G R ops e h j=.acts):qx P G R ops e h i (j+1)=ah:=by
 have hx:ops[i]?=aa ops[i]:=mK (qa mE hj);have hy:ops[j]?=aa ops[j]:=mK hj;obtain⟨rP,cj⟩:=Ka rP;rw[BW hx] at hi;rw[BW hy] at rP;rcases F.pair i j mE hj with h|h|h|⟨-,h⟩
 ·exact absurd h hn
 ·unfold zC at h;simp only[hx,hy,bC] at h;rw[hi,rP] at h;simp[Ln] at h
 ·unfold mo at h;simp only[hx,hy,bC,ff] at h;rw[hi,rP] at h;exact h.2
 ·rw[ci,cj] at h;simp at h
def Fits.atO(F:Fits P G R ops e h b){i j:Nat}(mE:i<j)(hj:j<ops.size)(hn:¬Ord b i j)(hi:mP P G R ops e h i=.acts)(rP:qj ops j=.reads)(cj:nk P G R ops e h j=az):qx P G R ops e h j i=ah:=by
 have hx:ops[i]?=aa ops[i]:=mK (qa mE hj);have hy:ops[j]?=aa ops[j]:=mK hj;obtain⟨hi,ci⟩:=Ka hi;rw[BW hx] at hi;rw[BW hy] at rP;rcases F.pair i j mE hj with h|h|h|⟨-,h⟩
 ·exact absurd h hn
 ·unfold zC at h;simp only[hx,hy,bC] at h;rw[hi,rP] at h;simp[Ln] at h
 ·unfold mo at h;simp only[hx,hy,bC,ff] at h;rw[hi,rP] at h;exact h.2
 ·rw[ci,cj] at h;simp at h
def atT{r m n:Nat}{e':Env}{h':aq}(N:di P G R ops (bM n) e h=aa (.normal,e',h'))(hr:r<n)(hm:m<=n)(hs:qx P G R ops e h r m=ah)(hc:qj ops r=.reads):
 Reads P G R ops r (df P G R ops e h r).1 (vB P G R ops e h r).1 (df P G R ops e h m).2:=by
 obtain⟨-,tr,st⟩:=trace N;obtain⟨bT,-⟩:=st r hr;obtain⟨-,-,qU,-⟩:=abH hc bT;intro o ho hw;refine⟨λt a mf=>?_,λde=>?_⟩
 ·have hold:=(qU o ho hw).1 t a mf;unfold qx at hs;rw[ho,tr r (nJ hr),tr m hm] at hs;simp only[hw,mf] at hs;rw[hold] at hs;split at hs
  ·rename_i x y hx hy;injection hx with hx;subst hx;rw[Sx hs];exact hy
  ·cases hs
 ·obtain⟨t,a,mf⟩:=aar (show jI o.op=.reads by rw[<-BW ho];exact hc);rw[mf] at de;exact absurd de (by simp[Al])
def agr{k:Nat}:nk P G R ops e h k=ah↔Am P G R ops e h k:=by unfold nk;exact @decide_eq_true_iff _ (Classical.propDecidable _)
def Va{n k:Nat}{e':Env}{h':aq}(N:di P G R ops (bM n) e h=aa (.normal,e',h'))(hn:n=ops.size)(hk:k<n)(hc:nk P G R ops e h k=ah):
 ∃o x,ops[k]?=aa o/\Al o.op=ah/\∀m,m<=n->eo P G R (df P G R ops e h k).1 (df P G R ops e h m).2 o=aa (.ret x,(df P G R ops e h k).1,(df P G R ops e h m).2):=by
 obtain⟨-,tr,-⟩:=trace N;obtain⟨o,x,er,hr,ho,bL,e1,eM⟩:=agr.1 hc;refine⟨o,x,ho,bL,λm hm=>?_⟩;obtain⟨em,CD,e2,uc⟩:=eM m ag;have q1:=tr k (nJ hk);have q2:=tr m hm;rw[e1] at q1;rw[e2] at q2;injection q1 with q1;injection q2 with q2;have a1:er=(df P G R ops e h k).1:=by have:=congrArg (λz=>z.2.1) q1;exact this
 have a2:CD=(df P G R ops e h m).2:=by have:=congrArg (λz=>z.2.2) q2;exact this
 rw[<-a1,<-a2];exact uc
def abJ{k:Nat}{e':Env}{h':aq}(N:di P G R ops (bM ops.size) e h=aa (.normal,e',h'))(hk:k<ops.size)(hc:mP P G R ops e h k=.reads){e1:Env}{h1:aq}{x:AV}
 (hs:kC P G R ops k (df P G R ops e h k).1 (df P G R ops e h k).2=aa (x,e1,h1)):
 e1=(df P G R ops e h k).1/\h1=(df P G R ops e h k).2/\Reads P G R ops k (df P G R ops e h k).1 x (df P G R ops e h k).2/\
  ∀e2 h2,(∀o,ops[k]?=aa o->Alike ops (df P G R ops e h k).1 e2 o)->Reads P G R ops k (df P G R ops e h k).1 x h2->kC P G R ops k e2 h2=aa (x,e2,h2):=by
 unfold mP at hc;split at hc
 ·rename_i vW;obtain⟨o,y,ho,bL,eM⟩:=Va N rfl hk vW;have h0:=eM k (nJ hk);obtain⟨a1,a2,a3,a4⟩:=abF ho bL h0 hs;refine⟨a1,a2,λo' iT hw=>?_,a4⟩;rw[ho] at iT;injection iT with iT;subst iT;refine⟨λt a mf=>(by rw[mf] at bL;cases bL),λ_=>?_⟩;rw[a3 hw];exact h0
 ·exact abH hc hs
def abL{k m:Nat}{e':Env}{h':aq}(N:di P G R ops (bM ops.size) e h=aa (.normal,e',h'))(hk:k<ops.size)(hm:m<=ops.size)(hc:mP P G R ops e h k=.reads)
 (hs:qj ops k=.reads->nk P G R ops e h k=az->qx P G R ops e h k m=ah):
 Reads P G R ops k (df P G R ops e h k).1 (vB P G R ops e h k).1 (df P G R ops e h m).2:=by
 by_cases vW:nk P G R ops e h k=ah
 ·obtain⟨-,tr,st⟩:=trace N;obtain⟨bT,-⟩:=st k hk;obtain⟨o,y,ho,bL,eM⟩:=Va N rfl hk vW;obtain⟨-,-,a3,-⟩:=abF ho bL (eM k (nJ hk)) bT;intro o' iT hw;rw[ho] at iT;injection iT with iT;subst iT;refine⟨λt a mf=>(by rw[mf] at bL;cases bL),λ_=>?_⟩;rw[a3 hw];exact eM m hm
 ·have vW:nk P G R ops e h k=az:=by simpa using vW
  have hc:qj ops k=.reads:=by unfold mP at hc;rw[vW] at hc;simpa using hc
  exact atT N hk hm (hs hc vW) hc
def Vw{k:Nat}(hc:mP P G R ops e h k=.pure):qj ops k=.pure:=by
 unfold mP at hc;split at hc
 ·cases hc
 ·exact hc
structure Inv(P:Program)(G:Nat->Option (List AV))(R:Rec)(ops:Array Oper)(e:Env)(h:aq)(b:Array Nat)(S:Nat->Bool)(e1:Env)(h1:aq):Prop where
 closed:∀i j,i<ops.size->j<ops.size->S j=ah->Ord b i j->S i=ah
 iH:∀t,e1.get t=val P G R ops e h S ops.size t
 round:e1.round=e.round
 mem:∃m,m<=ops.size/\e1.defers=(df P G R ops e h m).1.defers/\e1.cV=(df P G R ops e h m).1.cV/\h1=(df P G R ops e h m).2/\
  (∀a,a<m->mP P G R ops e h a=.acts->S a=ah)/\∀a,m<=a->a<ops.size->mP P G R ops e h a=.acts->S a=az
variable {e':Env} {h':aq}
def SY(N:di P G R ops (bM ops.size) e h=aa (.normal,e',h'))(t:Nat):∀k,k<=ops.size->(df P G R ops e h k).1.get t=val P G R ops e h (λ_=>ah) k t:=by
 obtain⟨-,tr,st⟩:=trace N;intro k
 induction k with
 |zero=>intro _;have:=tr 0 (cA _);simp only[adj,di,dP,dn,true_and] at this;rw[<-this.1];rfl|succ k ih=>
  intro hk;obtain⟨hs,hn⟩:=st k hk;rw[hn,RK];simp only[val,true_and];split
  ·rfl
  ·rw[<-ih (nJ hk)];have:=(SJ (e2:=e) hs).1;rw[this];rfl
def ab1(N:di P G R ops (bM ops.size) e h=aa (.normal,e',h')):∀k,k<=ops.size->(df P G R ops e h k).1.round=e.round:=by
 obtain⟨-,tr,st⟩:=trace N;intro k
 induction k with
 |zero=>intro _;have:=tr 0 (cA _);simp only[adj,di,dP,dn,true_and] at this;rw[<-this.1]|succ k ih=>intro hk;obtain⟨hs,hn⟩:=st k hk;rw[hn,(wD _ _ _).2.2,(SJ (e2:=e) hs).1];exact ih (nJ hk)
def agv(N:di P G R ops (bM ops.size) e h=aa (.normal,e',h')){k:Nat}(hk:k<ops.size)(hc:mP P G R ops e h k≠ .acts):
 (df P G R ops e h (k+1)).1.defers=(df P G R ops e h k).1.defers/\(df P G R ops e h (k+1)).1.cV=(df P G R ops e h k).1.cV/\(df P G R ops e h (k+1)).2=(df P G R ops e h k).2:=by
 obtain⟨-,tr,st⟩:=trace N;obtain⟨hs,hn⟩:=st k hk;have key:(vB P G R ops e h k).2=(df P G R ops e h k).1/\(df P G R ops e h (k+1)).2=(df P G R ops e h k).2:=by
  cases hq:mP P G R ops e h k with
  |pure=>obtain⟨h1,h2,-⟩:=SK (Vw hq) hs;exact⟨h1,h2⟩
  |reads=>obtain⟨h1,h2,-⟩:=abJ N hk hq hs;exact⟨h1,h2⟩
  |acts=>exact absurd hq hc
 rw[hn,(wD _ _ _).1,(wD _ _ _).2.1,key.1];exact⟨rfl,rfl,key.2⟩
def Mn(N:di P G R ops (bM ops.size) e h=aa (.normal,e',h')){m:Nat}:∀k,m<=k->k<=ops.size->
 ((df P G R ops e h m).1.defers=(df P G R ops e h k).1.defers/\(df P G R ops e h m).1.cV=(df P G R ops e h k).1.cV/\(df P G R ops e h m).2=(df P G R ops e h k).2)∨
 (∃a,m<=a/\a<k/\mP P G R ops e h a=.acts/\(df P G R ops e h m).2=(df P G R ops e h a).2)/\∃a,m<=a/\a<k/\mP P G R ops e h a=.acts/\(df P G R ops e h (a+1)).2=(df P G R ops e h k).2:=by
 intro k
 induction k with
 |zero=>intro hm _;have:m=0:=NB.1 hm;subst this;exact .inl ⟨rfl,rfl,rfl⟩|succ k ih=>
  intro hm hk;rcases dW k m with aA|eg
  ·have:m=k+1:=BD hm aA;subst this;exact .inl ⟨rfl,rfl,rfl⟩
  ·have Cz:k<=ops.size:=nJ hk;by_cases hc:mP P G R ops e h k=.acts
   ·refine .inr ⟨?_,k,eg,NC k,hc,rfl⟩;rcases ih eg Cz with h1|⟨⟨a,h1,h2,h3,h4⟩,-⟩
    ·exact⟨k,eg,NC k,hc,h1.2.2⟩
    ·exact⟨a,h1,wT h2,h3,h4⟩
   ·obtain⟨c1,c2,c3⟩:=agv N hk hc;rcases ih eg Cz with h1|⟨⟨a,h1,h2,h3,h4⟩,a2,g1,g2,g3,g4⟩
    ·exact .inl ⟨h1.1.trans c1.symm,h1.2.1.trans c2.symm,h1.2.2.trans c3.symm⟩
    ·exact .inr ⟨⟨a,h1,wT h2,h3,h4⟩,a2,g1,wT g2,g3,g4.trans c3.symm⟩
def val_congr{S S':Nat->Bool}{t:Nat}:∀k,(∀w,w<k->np ops w=aa t->S w=S' w)->val P G R ops e h S k t=val P G R ops e h S' k t:=by
 intro k
 induction k with
 |zero=>intro _;rfl|succ k ih=>
  intro hw;simp only[val];rw[ih λw hwk hd=>hw w (wT hwk) hd];by_cases hd:np ops k=aa t
  ·rw[hw k (NC k) hd]
  ·simp[hd]
def ML{S:Nat->Bool}{t k:Nat}:∀n,k<=n->(∀w,k<=w->w<n->np ops w=aa t->S w=az)->val P G R ops e h S n t=val P G R ops e h S k t:=by
 intro n
 induction n with
 |zero=>intro hk _;rw[NB.1 hk]|succ n ih=>
  intro hk hw;rcases dW n k with aA|eg
  ·rw[BD hk aA]
  ·simp only[val];rw[aI λhq=>by have:=hw n eg (NC n) hq.2;rw[hq.1] at this;cases this];exact ih eg λw h1 h2 h3=>hw w h1 (wT h2) h3
def BX{i:Nat}{x:Oper}(hx:ops[i]?=aa x):np ops i=x.dst:=by simp[np,hx]
def Fits.avK(F:Fits P G R ops e h b){i j t:Nat}(mE:i<j)(hj:j<ops.size)(hi:np ops i=aa t)(uV:np ops j=aa t):Ord b i j:=by refine Classical.byContradiction λhn=>?_;have hx:ops[i]?=aa ops[i]:=mK (qa mE hj);have hy:ops[j]?=aa ops[j]:=mK hj;have ha:=(Oper.apart_spec (F.apart mE hj hn hx hy).1).2.1;rw[BX hx] at hi;rw[BX hy] at uV;exact ha t hi uV
def Fits.looks(F:Fits P G R ops e h b){i j t:Nat}(mE:i<j)(hj:j<ops.size){x y:Oper}(hx:ops[i]?=aa x)(hy:ops[j]?=aa y)
 (hl:(x.dst=aa t/\t∈y.looksAt ops)∨(y.dst=aa t/\t∈x.looksAt ops)):Ord b i j:=by
 refine Classical.byContradiction λhn=>?_;have ha:=Oper.apart_spec (F.apart mE hj hn hx hy).1;rcases hl with⟨h1,h2⟩|⟨h1,h2⟩
 ·exact ha.1 t h1 h2
 ·exact ha.2.2 t h1 h2
def pG(ops:Array Oper)(S:Nat->Bool)(k:Nat):Prop:=∀o,ops[k]?=aa o->∀ed∈o.after,Region.binds .any ed=ah->S ed.on=ah
def dY(S:Nat->Bool)(k:Nat):Nat->Bool:=λj=>if j=k then ah else S j
def next(N:di P G R ops (bM ops.size) e h=aa (.normal,e',h'))(F:Fits P G R ops e h b){S:Nat->Bool}{e1:Env}{h1:aq}(I:Inv P G R ops e h b S e1 h1){k:Nat}(hk:k<ops.size)
 (hu:S k=az) (hr:pG ops S k):∃x e2 h2,kC P G R ops k e1 h1=aa (x,e2,h2)/\Inv P G R ops e h b (dY S k) (e2.put (np ops k) x) h2:=by
 obtain⟨-,tr,st⟩:=trace N;have ho:ops[k]?=aa ops[k]:=mK hk;have ahead:∀i,i<ops.size->Ord b i k->S i=ah:=by
  intro i hi y7;obtain⟨ed,gi,nQ,hq⟩:=F.bits k i _ ho hi y7;have hs:=hr _ ho ed gi nQ;have aA:=F.Kf k _ ho ed gi nQ;rcases hq with rfl|hq
  ·exact hs
  ·exact I.closed i ed.on hi (qa aA hk) hs hq
 have alike:∀o,ops[k]?=aa o->Alike ops (df P G R ops e h k).1 e1 o:=by
  intro o iT t ht;rw[ho] at iT;injection iT with iT;subst iT;rw[I.iH t,SY N t k (nJ hk),ML (k:=k) ops.size (nJ hk)]
  ·refine val_congr k λw hw hd=>?_;have hx:ops[w]?=aa ops[w]:=mK (qa hw hk);rw[BX hx] at hd;exact(ahead w (qa hw hk) (F.looks hw hk hx ho (.inl ⟨hd,ht⟩))).symm
  ·intro w EI hw hd;rcases dW k w with aA|eg
   ·cases hq:S w with|false=>rfl|true=>have hx:ops[w]?=aa ops[w]:=mK hw;rw[BX hx] at hd;have:=I.closed k w hk hw hq (F.looks aA hw ho hx (.inr ⟨hd,ht⟩));rw[hu] at this;cases this
   ·rw[BD eg EI,hu]
 obtain⟨hs,hn⟩:=st k hk;obtain⟨m,hm,hd,hp,hh,xw,pN⟩:=I.mem;have closed':∀i j,i<ops.size->j<ops.size->dY S k j=ah->Ord b i j->dY S k i=ah:=by
  intro i j hi hj Qt mE;unfold dY at Qt ⊢;by_cases y7:i=k
  ·rw[aG y7]
  ·rw[aI y7];by_cases AP:j=k
   ·subst AP;exact ahead i hi mE
   ·rw[aI AP] at Qt;exact I.closed i j hi hj Qt mE
 have slots':∀(e2:Env),(∀t,e2.get t=e1.get t)->∀t,(e2.put (np ops k) (vB P G R ops e h k).1).get t=val P G R ops e h (dY S k) ops.size t:=by
  intro e2 jC t;rw[RK];by_cases Cr:np ops k=aa t
  ·rw[aG Cr,ML (k:=k+1) ops.size hk]
   ·simp[val,dY,Cr]
   ·intro w EI hw Hy;have bG:w≠k:=λhq=>absurd EI (by rw[hq];exact adC k);simp only[dY,aI bG];cases hq:S w with|false=>rfl|true=>have:=I.closed k w hk hw hq (F.avK EI hw Cr Hy);rw[hu] at this;cases this
  ·rw[aI Cr,jC,I.iH t];refine val_congr _ λw _ Hy=>?_;have bG:w≠k:=λhq=>Cr (hq ▸ Hy);simp only[dY,aI bG]
 by_cases hc:mP P G R ops e h k=.acts
 ·-- it acts
  have HK:m<=k:=by
   rcases dW k m with aA|eg
   ·have:=xw k aA hc;rw[hu] at this;cases this
   ·exact eg
  have same:=Mn N k HK (nJ hk);have same:(df P G R ops e h m).1.defers=(df P G R ops e h k).1.defers/\(df P G R ops e h m).1.cV=(df P G R ops e h k).1.cV/\(df P G R ops e h m).2=(df P G R ops e h k).2:=by
   rcases same with h1|⟨⟨a,g1,g2,g3,-⟩,-⟩
   ·exact h1
   ·have h1:=pN a g1 (qa g2 hk) g3;rw[ahead a (qa g2 hk) (F.acts g2 hk g3 hc)] at h1;cases h1
  have ox:=(SJ (e2:=e1) hs).2 alike (hd.trans same.1) (hp.trans same.2.1) (by rw[I.round,ab1 N k (nJ hk)]);rw[<-same.2.2,<-hh] at ox;refine⟨_,_,_,ox,closed',slots' _ (λt=>rfl),?_,k+1,hk,?_,?_,rfl,?_,?_⟩
  ·rw[(wD _ _ _).2.2];exact I.round
  ·rw[(wD _ _ _).1,hn,(wD _ _ _).1];rfl
  ·rw[(wD _ _ _).2.1,hn,(wD _ _ _).2.1];rfl
  ·intro a Ck AJ;unfold dY;by_cases hq:a=k
   ·rw[aG hq]
   ·rw[aI hq];have aA:a<k:=adw (BE.1 Ck) hq;exact ahead a (qa aA hk) (F.acts aA hk AJ hc)
  ·intro a CA ha AJ;have hq:a≠k:=λhq=>absurd CA (by rw[hq];exact adC k);unfold dY;rw[aI hq];exact pN a (fw HK (nJ CA)) ha AJ
 ·-- it does not
  have mem':∀e2:Env,e2.defers=e1.defers->e2.cV=e1.cV->∃m,m<=ops.size/\e2.defers=(df P G R ops e h m).1.defers/\e2.cV=(df P G R ops e h m).1.cV/\h1=(df P G R ops e h m).2/\
   (∀a,a<m->mP P G R ops e h a=.acts->dY S k a=ah)/\∀a,m<=a->a<ops.size->mP P G R ops e h a=.acts->dY S k a=az:=by
   intro e2 Et xu;refine⟨m,hm,Et.trans hd,xu.trans hp,hh,λa ham AJ=>?_,λa KP ha AJ=>?_⟩
   ·unfold dY;by_cases hq:a=k
    ·rw[aG hq]
    ·rw[aI hq];exact xw a ham AJ
   ·have hq:a≠k:=λhq=>hc (hq ▸ AJ);unfold dY;rw[aI hq];exact pN a KP ha AJ
  have fin:∀x,x=(vB P G R ops e h k).1->kC P G R ops k e1 h1=aa (x,e1,h1)->∃x e2 h2,kC P G R ops k e1 h1=aa (x,e2,h2)/\Inv P G R ops e h b (dY S k) (e2.put (np ops k) x) h2:=by intro x hx ox;subst hx;refine⟨_,_,_,ox,closed',slots' _ (λt=>rfl),?_,mem' _ (wD _ _ _).1 (wD _ _ _).2.1⟩;rw[(wD _ _ _).2.2];exact I.round
  cases de:mP P G R ops e h k with
  |acts=>exact absurd de hc|pure=>obtain⟨-,-,eM⟩:=SK (Vw de) hs;exact fin _ rfl (eM e1 h1 alike)
  |reads=>
   obtain⟨-,-,qU,eM⟩:=abJ N hk de hs;refine fin _ rfl (eM e1 h1 alike ?_);rw[hh];rcases dW k m with aA|eg
   ·rcases Mn N (m:=k) m (nJ aA) hm with hq|⟨-,a,g1,g2,g3,g4⟩
    ·rw[<-hq.2.2];exact qU
    ·have Ck:k<a:=adw g1 λhq=>hc (hq ▸ g3);have yW:a<ops.size:=ni g2 hm;have ja:¬Ord b k a:=λhq=>(by have:=I.closed k a hk yW (xw a g2 g3) hq;rw[hu] at this;cases this);rw[<-g4];exact abL N hk yW de λq1 q2=>F.atN Ck yW ja q1 q2 g3
   ·rcases Mn N (m:=m) k eg (nJ hk) with hq|⟨⟨a,g1,g2,g3,g4⟩,-⟩
    ·rw[hq.2.2];exact qU
    ·have yW:a<ops.size:=qa g2 hk;have ja:¬Ord b a k:=λhq=>(by have h1:=ahead a yW hq;rw[pN a g1 yW g3] at h1;cases h1);rw[g4];exact abL N hk (nJ yW) de λq1 q2=>F.atO g2 hk ja g3 q1 q2
def QG(N:di P G R ops (bM ops.size) e h=aa (.normal,e',h')):Inv P G R ops e h b (λ_=>az) e h:=by
 have h0:df P G R ops e h 0=(e,h):=by simp[df,di]
 refine⟨λ_ _ _ _ h=>absurd h bE,λt=>?_,rfl,0,cA _,by rw[h0],by rw[h0],by rw[h0],λa ha=>absurd ha (tN a),λ_ _ _ _=>rfl⟩;rw[ML (k:=0) ops.size (cA _) (λ_ _ _ _=>rfl)];rfl
structure pH(e e2:Env):Prop where
 iH:∀t,e.get t=e2.get t
 defers:e.defers=e2.defers
 cV:e.cV=e2.cV
 round:e.round=e2.round
def als(N:di P G R ops (bM ops.size) e h=aa (.normal,e',h')){S:Nat->Bool}{e1:Env}{h1:aq}(I:Inv P G R ops e h b S e1 h1)(eM:∀i,i<ops.size->S i=ah):pH e1 e'/\h1=h':=by
 obtain⟨t0,tr,st⟩:=trace N;have he:e'=(df P G R ops e h ops.size).1:=by rw[<-t0]
 have hh:h'=(df P G R ops e h ops.size).2:=by rw[<-t0]
 obtain⟨m,hm,hd,hp,qn,xw,pN⟩:=I.mem;have same:=Mn N ops.size hm (aJ _);have same:(df P G R ops e h m).1.defers=(df P G R ops e h ops.size).1.defers/\(df P G R ops e h m).1.cV=(df P G R ops e h ops.size).1.cV/\(df P G R ops e h m).2=(df P G R ops e h ops.size).2:=by
  rcases same with h1|⟨⟨a,g1,g2,g3,-⟩,-⟩
  ·exact h1
  ·have h1:=pN a g1 g2 g3;rw[eM a g2] at h1;cases h1
 refine⟨⟨λt=>?_,?_,?_,?_⟩,?_⟩
 ·rw[I.iH t,he,SY N t ops.size (aJ _)];exact val_congr _ λw hw _=>eM w hw
 ·rw[hd,same.1,he]
 ·rw[hp,same.2.1,he]
 ·rw[I.round,he,ab1 N ops.size (aJ _)]
 ·rw[qn,same.2.2,hh]
def ahH{α:Type}{p q}{a}:∀{l:List α},(∀x∈l,q x=true->p x=true)->a∈l->p a=true->q a=false->l.countP q<l.countP p:=by
 intro l
 induction l with
 |nil=>intro _ ha;cases ha
 |cons x l ih=>
  intro hm ha hp hq;have eO:l.countP q<=l.countP p:=List.countP_mono_left λy hy=>hm y (fE _ hy);rcases iu.1 ha with rfl|ha
  ·rw[acV (by simp[hq]),Tw hp];exact Nat.lt_succ_of_le eO
  ·have:=ih (λy hy=>hm y (fE _ hy)) ha hp hq;by_cases Qh:q x=ah
   ·rw[Tw Qh,Tw (hm x fW Qh)];exact Nat.succ_lt_succ this
   ·rw[acV Qh];exact ni this (by rw[List.countP_cons];exact Nat.le_add_right _ _)
def oK(ops:Array Oper):(Nat->Bool)->List Nat->Prop
 |S,[]=>∀i,i<ops.size->S i=ah
 |S,k::L=>k<ops.size/\S k=az/\pG ops S k/\oK ops (dY S k) L
def QZ(N:di P G R ops (bM ops.size) e h=aa (.normal,e',h'))(F:Fits P G R ops e h b):∀(L:List Nat) (S:Nat->Bool) (e1:Env) (h1:aq),Inv P G R ops e h b S e1 h1->oK ops S L->
 ∃e2,di P G R ops L e1 h1=aa (.normal,e2,h')/\pH e2 e':=by
 intro L
 induction L with
 |nil=>intro S e1 h1 I hL;obtain⟨hs,rfl⟩:=als N I hL;exact⟨e1,by simp[di],hs⟩
 |cons k L ih=>
  intro S e1 h1 I hL;obtain⟨hk,hu,hr,hL⟩:=hL;obtain⟨x,e2,h2,hs,I'⟩:=next N F I hk hu hr
  obtain⟨e3,ox,jn⟩:=ih _ _ _ I' hL;exact⟨e3,rf.2 ⟨x,e2,h2,hs,ox⟩,jn⟩
def zQ(ops:Array Oper):Prop:=∀(j:Nat) (o:Oper),ops[j]?=aa o->∀ed∈o.after,Region.binds .any ed=ah->ed.on<j
def ame(hB:zQ ops):∀(fuel t:Nat) (jf:Array Bool),jf.size=ops.size->
 (bM ops.size).countP (λj=> !jf.getD j az)<=fuel->oK ops (λj=>jf.getD j az) (Region.linearise.go .any ops fuel t jf []):=by
 intro fuel
 induction fuel with
 |zero=>
  intro t jf dL Ph;have eM:∀i,i<ops.size->jf.getD i az=ah:=by intro i hi;have:=List.countP_eq_zero.1 (NB.1 Ph) i (fQ.2 hi);simpa using this
  simp only[Region.linearise.go,adl];exact eM
 |succ fuel ih=>
  intro t jf dL Ph;have XA:∀i,i<ops.size->jf.getD i ah=jf.getD i az:=by intro i hi;have:i<jf.size:=(by omega);simp[this]
  simp only[Region.linearise.go];change oK ops _ (match (Region.ready .any ops jf)[t%(Region.ready .any ops jf).length]? with
   |some i=>Region.linearise.go .any ops fuel (t/(Region.ready .any ops jf).length) (jf.setIfInBounds i ah) [i]
   |none=>[].reverse)
  have ready_of:∀i,i∈Region.ready .any ops jf↔i<ops.size/\jf.getD i az=az/\pG ops (λj=>jf.getD j az) i:=by
   intro i;unfold Region.ready;rw[vG,fQ];constructor
   ·rintro⟨hi,hq⟩;rw[bC] at hq;obtain⟨tv,rV⟩:=hq;rw[XA i hi] at tv;refine⟨hi,by simpa using tv,λo ho ed gi nQ=>?_⟩;rw[ho] at rV;simp only[ff,JM,FY] at rV;obtain⟨q,hq,rfl⟩:=acm gi;have:=rV q hq;simpa [nQ] using this
   ·rintro⟨hi,hq,hr⟩;refine⟨hi,?_⟩;rw[bC];refine⟨by rw[XA i hi];simp[hq],?_⟩;have ho:ops[i]?=aa ops[i]:=mK hi;rw[ho];simp only[ff,JM,FY];intro q hq;cases hb:Region.binds .any ops[i].after[q] with|false=>rfl|true=>simpa using hr _ ho _ (ack hq) hb
  cases hi:(Region.ready .any ops jf)[t%(Region.ready .any ops jf).length]? with
  |none=>
   have pT:Region.ready .any ops jf=[]:=by
    cases hr:Region.ready .any ops jf with|nil=>rfl|cons x xs=>rw[hr] at hi;have aA:t%(x::xs).length<(x::xs).length:=Nat.mod_lt _ bE;simp at hi;simp at aA;omega
   have eM:∀i,i<ops.size->jf.getD i az=ah:=by
    intro i
    induction i using Nat.strongRecOn with
    |_ i ihi=>
     intro hi;cases hq:jf.getD i az with|true=>rfl|false=>have:i∈Region.ready .any ops jf:=(ready_of i).2 ⟨hi,hq,λo ho ed gi nQ=>by have aA:=hB i o ho ed gi nQ;exact ihi ed.on aA (qa aA hi)⟩;rw[pT] at this;cases this
   simp only[adl];exact eM
  |some i=>
   simp only[];have qn:=(ready_of i).1 (dj hi);obtain⟨iD,CP,qU⟩:=qn;have Pt:(λj=>(jf.setIfInBounds i ah).getD j az)=dY (λj=>jf.getD j az) i:=by
    funext j;unfold dY;have cS:i<jf.size:=(by omega);by_cases hq:j=i
    ·subst hq;rw[aG rfl];simp[MX,cS]
    ·rw[aI hq];simp[MX,Ne.symm hq]
   have ox:=ih (t/(Region.ready .any ops jf).length) (jf.setIfInBounds i ah) (by simpa using dL) (by
    refine BE.1 (ni (ahH (a:=i) (p:=λj=> !jf.getD j az) ?_ (fQ.2 iD) (by simp only[CP];rfl) ?_) Ph)
    ·intro j _ hj;have this:(jf.setIfInBounds i ah).getD j az=dY (λj=>jf.getD j az) i j:=congrFun Pt j;rw[this] at hj;unfold dY at hj;split at hj
     ·cases hj
     ·exact hj
    ·have this:(jf.setIfInBounds i ah).getD i az=dY (λj=>jf.getD j az) i i:=congrFun Pt i;rw[this];simp[dY])
   rw[linearise_go_acc,List.reverse_singleton,List.singleton_append];refine⟨iD,CP,qU,?_⟩;rw[<-Pt];exact ox
def apq(n):(λj=>(DB n az).getD j az)=λ_=>az:=by funext j;rw[Array.getD_eq_getD_getElem?,Array.getElem?_replicate];split<;>rfl
def Zj(hB:zQ ops)(t:Nat):oK ops (λ_=>az) (Region.linearise .any ops t):=by unfold Region.linearise;have:=ame hB ops.size t (DB ops.size az) bE (fw List.countP_le_length bE);rw[apq] at this;exact this
def Wa{e:Env}{h:aq}(hf:mQ P G R ops e h=ah):zQ ops:=λj o ho ed gi hb=>(yR hf).Kf j o ho ed gi hb
def aic(N:di P G R ops (bM ops.size) e h=aa (.normal,e',h'))(hf:mQ P G R ops e h=ah)(t:Nat):
 ∃e2,di P G R ops (Region.linearise .any ops t) e h=aa (.normal,e2,h')/\pH e2 e':=
 QZ N (yR hf) _ _ _ _ (QG N) (Zj (Wa hf) t)
end
end Go.AE
end
section
namespace Go.AE
open Go.RowKit (Below)
structure aW.av8(K K':aW):Prop where
 base:K'.base=K.base
 ic:∀g j c,K.ic g j=aa c->K'.ic g j=aa c
 β:∀b g:Nat,K.β[b]?=aa g->K'.β[b]?=aa g
 γ:∀l g:Nat,K.γ[l]?=aa g->K'.γ[l]?=aa g
 tn:K.tn<=K'.tn
 tk:∀t,t<K.tn->K'.tk t=K.tk t
def aW.un(K:aW)(r:Nat):aW:={K with md:=K.md.filter (· !=r)}
def wY.un{K}{r}{k}{g off sz n aD}(h:wY K k g off sz n aD):wY (K.un r) k g off sz n aD:=h
mutual
def aX.un{K:aW}{r:Nat}:∀{x:AV} {c:Value},aX K x c->aX (K.un r) x c
 |_,_,.bad c=>.bad c
 |_,_,.v x hx=>.v x hx
 |_,_,.nil sz=>.nil sz
 |_,_,.jv sz a=>.jv sz a
 |_,_,.list k sz es g off n aD cells hn hr hv hc ht ha=>.list k sz es g off n aD cells hn hr (aQ.un hv) hc ht ha
 |_,_,.arr b g off len aD fH iJ hb hl hc ho hr=>.arr b g off len aD fH iJ hb hl hc ho hr
 |_,_,.agg cs vs hv=>.agg cs vs (aQ.un hv)
 |_,_,.tuple cs vs hv=>.tuple cs vs (aQ.un hv)
 |_,_,.box b g off hb=>.box b g off hb
 |_,_,.eV g off=>.eV g off
 |_,_,.elem sz es i off g o p cells hr hv hc hi hp ha=>.elem sz es i off g o p cells hr (aQ.un hv) hc hi hp ha
 |_,_,.func fn first aD fs cs h1 h2=>.func fn first aD fs cs (aQ.un h1) (aQ.un h2)
 |_,_,.yield l g hl=>.yield l g hl
 |_,_,.iface t x c hx=>.iface t x c (aX.un hx)
def aQ.un{K:aW}{r:Nat}:∀{xs:List AV} {cs:List Value},aQ K xs cs->aQ (K.un r) xs cs
 |_,_,.nil=>.nil
 |_,_,.cons x c xs cs hx hs=>.cons x c xs cs (aX.un hx) (aQ.un hs)
end
def rz.un{K}{r}{ds cds ms}(h:rz K ds cds ms)(hr:r∉ms):rz (K.un r) ds cds ms:=by
 induction h with
 |nil=>exact .nil|call g args vs aD ds cds ms hv _ ih=>exact .call g args vs aD ds cds ms (aQ.un hv) (ih hr)|mark r' ds cds ms gj hn _ ih=>have bG:r'≠r:=λhq=>hr (hq ▸ fW);exact .mark r' ds cds ms (by unfold aW.un;exact vG.2 ⟨gj,by simpa using bG⟩) hn (ih λhq=>hr (fE _ hq))
def rz.sub{K}{ds cds ms}(h:rz K ds cds ms):∀r∈ms,r∈K.md:=by
 induction h with
 |nil=>intro r hr;cases hr
 |call g args vs aD ds cds ms hv _ ih=>exact ih|mark r' ds cds ms gj hn _ ih=>
  intro r hr;rcases iu.1 hr with rfl|hr
  ·exact gj
  ·exact ih r hr
def CS.un{K}{r}{kind base p cs}(h:CS K kind base p cs):CS (K.un r) kind base p cs:=by
 cases h with|normal h=>exact .normal h|ret c0 rest hk hb hm=>exact .ret c0 rest hk hb hm|cV c0 rest x v r hk hb hx=>exact .cV c0 rest x v r hk hb (aX.un hx)
def alT{K K':aW}{r}(le:K.Le K')(hr:r∉K.md):K.Le (K'.un r):=
 ⟨le.base,le.ic,le.β,le.γ,le.tn,le.tk,λr' gj=>by unfold aW.un;exact vG.2 ⟨le.md r' gj,by have:r'≠r:=λhq=>hr (hq ▸ gj);simpa using this⟩,le.lb,le.new⟩
section
variable {K:aW} {G:Nat->Option (List AV)} {ok:FuncId->Nat->Code->Bool} {w0 w:World} {h:aq}
def aal{g:Nat}{o:Obj}(hg:g<w.heap.size):uG w (w.putObj g o) g o:=
 ⟨rfl,rfl,rfl,World.putObj_size,λ_ hk=>World.putObj_heap_other hk,World.putObj_heap_same hg⟩
def bR.drop(s:bR K G ok w0 h w){r:Nat}(hr:r∈K.md)(o:Obj)(ho:∀cells e f,o≠ .cells cells e f):bR (K.un r) G ok w0 h (w.putObj r o):=by
 obtain⟨hb,hm⟩:=s.md r hr;have aA:=o9 hm;have c:=aal (o:=o) aA;have ov:∀{g:Nat} {cells:Array Value} {e:TypeId} {f:Nat × Nat},w.heap[g]?=aa (.cells cells e f)->g≠r:=by rintro g cells e f hg rfl;rw[hm] at hg;cases hg
 refine⟨s.dh.trans (c.below hb),by rw[c.size];exact s.size,λg j x hx=>?_,λg cs hg=>?_,s.ma,s.qD,λb g cs iB hc=>?_,s.oH,s.rv,λl g rr hl lQ=>?_,s.tn,λt ht=>?_,s.qA,λr' gj=>?_,s.all⟩
 ·have qP:=s.ic g j x hx;have bG:g≠r:=by rintro rfl;simp[World.cell?,hm] at qP
  rw[<-qP];exact World.cell?_of_block (w:=w) (c.other g bG)
 ·obtain⟨cells,h1,h2⟩:=s.eV g cs hg;exact⟨cells,aQ.un h1,h2⟩
 ·obtain⟨h1,h2,ha,cells,e,h3,h4⟩:=s.box b g cs iB hc;exact⟨h1,h2,ha,cells,e,(c.other g (ov h3)).trans h3,aQ.un h4.1,h4.2⟩
 ·obtain⟨h1,fn,tmps,d,h2,h3,h4⟩:=s.loop l g rr hl lQ;have bG:g≠r:=by rintro rfl;rw[hm] at h2;cases h2
  exact⟨h1,fn,tmps,d,(c.other g bG).trans h2,λt=>aX.un (h3 t),h4⟩
 ·obtain⟨h1,h2,h3,cells,e,fz,h4,h5,h6⟩:=s.tok t ht;refine⟨h1,h2,h3,cells,e,fz,(c.other _ (ov h4)).trans h4,h5,λj hj hl=>?_⟩;rw[<-h6 j hj hl];exact World.frozen?_of_block (w:=w) (c.other _ (ov h4))
 ·obtain⟨h1,h2⟩:=vG.1 gj;have bG:r'≠r:=by simpa using h2
  obtain⟨h3,h4⟩:=s.md r' h1;exact⟨h3,(c.other r' bG).trans h4⟩
def aW.mark(K:aW)(r:Nat):aW:={K with md:=r::K.md}
def aW.Zd(K:aW)(r):K.Le (K.mark r):=
 ⟨rfl,λ_ _ _ h=>h,λ_ _ h=>h,λ_ _ h=>h,aJ _,λ_ _=>rfl,λ_ h=>fE _ h,λ_ _=>rfl,λ_ _ _ h=>.inl h⟩
def bR.amW(s:bR K G ok w0 h w):bR (K.mark w.heap.size) G ok w0 h (w.alloc (.deferred (aa []))):=by
 have le:=K.Zd w.heap.size;have p:=s.push (.deferred (aa []));refine⟨p.dh,p.size,p.ic,λg cs hg=>?_,p.ma,p.qD,λb g cs hb hc=>?_,p.oH,p.rv,λl g r hl hr=>?_,p.tn,p.tok,p.qA,λr hr=>?_,s.all⟩
 ·obtain⟨cells,h1,h2⟩:=s.eV g cs hg;exact⟨cells,h1.mono le,h2⟩
 ·obtain⟨h1,h2,ha,cells,e,h3,h4⟩:=p.box b g cs hb hc;exact⟨h1,h2,ha,cells,e,h3,h4.mono le (aS.1 hb).1⟩
 ·obtain⟨h1,fn,tmps,d,h2,h3,h4⟩:=p.loop l g r hl hr;exact⟨h1,fn,tmps,d,h2,h3.mono le,h4⟩
 ·rcases iu.1 hr with rfl|hr
  ·exact⟨s.size,World.alloc_heap_new w _⟩
  ·exact p.md r hr
def aW.loop(K:aW)(g:Nat):aW:={K with γ:=K.γ++[g]}
def aW.QR(K:aW)(g):K.Le (K.loop g):=
 ⟨rfl,λ_ _ _ h=>h,λ_ _ h=>h,λ_ _ h=>vQ h,aJ _,λ_ _=>rfl,λ_ h=>h,λ_ _=>rfl,λ_ _ _ h=>.inl h⟩
def bR.ZB(s:bR K G ok w0 h w){r:iI}{fn:FuncId}{tmps:Array Value}(d:Nat)(hs:mN K r.tmps tmps)(h1:ok fn tmps.size r.assign=ah)(h2:ok fn tmps.size r.body=ah)(h3:∀p∈r.params.toList,p<tmps.size):
 bR (K.loop w.heap.size) G ok w0 {h with loops:=h.loops++[r]} (w.alloc (.loop {state:=r.state,pending:=r.pending,fn,tmps,params:=r.params,assign:=r.assign,body:=r.body,defers:=d}))/\
 (K.loop w.heap.size).γ[h.loops.length]?=aa w.heap.size:=by
 have le:=K.QR w.heap.size;have p:=s.push (.loop {state:=r.state,pending:=r.pending,fn,tmps,params:=r.params,assign:=r.assign,body:=r.body,defers:=d});have mg:(K.loop w.heap.size).γ[h.loops.length]?=aa w.heap.size:=by simp[aW.loop,<-s.oH]
 have aA:∀{l g:Nat},K.γ[l]?=aa g->g<w.heap.size:=λ{l g} hl=>by
  have dG:l<h.loops.length:=by rw[<-s.oH];exact(aS.1 hl).1
  obtain⟨_,_,_,_,h3,_⟩:=s.loop l g _ hl (aR dG);exact o9 h3
 refine⟨⟨p.dh,p.size,p.ic,λg cs hg=>?_,p.ma,p.qD,λb g cs hb hc=>?_,by simp[aW.loop,s.oH],λl l' g hl tg=>?_,λl g r' hl hr=>?_,p.tn,p.tok,p.qA,p.md,s.all⟩,mg⟩
 ·obtain⟨cells,h1,h2⟩:=s.eV g cs hg;exact⟨cells,h1.mono le,h2⟩
 ·obtain⟨h1,h2,ha,cells,e,h3,h4⟩:=p.box b g cs hb hc;exact⟨h1,h2,ha,cells,e,h3,h4.mono le (aS.1 hb).1⟩
 ·rcases s9 hl with hb|⟨rfl,rfl⟩<;>rcases s9 tg with iB|⟨rfl,h2⟩
  ·exact s.rv _ _ _ hb iB
  ·have:=aA hb;omega
  ·have:=aA iB;omega
  ·rfl
 ·rcases s9 hl with hl|⟨rfl,rfl⟩
  ·rcases s9 hr with hr|⟨rfl,rfl⟩
   ·obtain⟨h1,fn',tmps',d',h2,h3,h4⟩:=p.loop l g r' hl hr;exact⟨h1,fn',tmps',d',h2,h3.mono le,h4⟩
   ·have:h.loops.length<K.γ.length:=(aS.1 hl).1;have:=s.oH;omega
  ·have:r'=r:=(by rw[s.oH] at hr;simp at hr;exact hr.symm);subst this;exact⟨s.size,fn,tmps,d,World.alloc_heap_new w _,hs.mono le,h1,h2,h3⟩
def bR.eW(s:bR K G ok w0 h w){l g:Nat}{r:iI}(hl:K.γ[l]?=aa g)(hr:h.loops[l]?=aa r)(st:LoopState)(pe:Option Code):
 ∃m:Loop,w.heap[g]?=aa (.loop m)/\m.state=r.state/\m.pending=r.pending/\m.params=r.params/\m.assign=r.assign/\m.body=r.body/\mN K r.tmps m.tmps/\
  ok m.fn m.tmps.size r.assign=ah/\ok m.fn m.tmps.size r.body=ah/\(∀p∈r.params.toList,p<m.tmps.size)/\
  bR K G ok w0 {h with loops:=h.loops.set l {r with state:=st,pending:=pe}} (w.putObj g (.loop {m with state:=st,pending:=pe})):=by
 obtain⟨k1,fn,tmps,d,k2,k3,k4,k5,k6⟩:=s.loop l g r hl hr;have dG:l<h.loops.length:=(aS.1 hr).1;refine⟨_,k2,rfl,rfl,rfl,rfl,rfl,k3,k4,k5,k6,?_⟩;have c:=aal (o:=.loop {state:=st,pending:=pe,fn,tmps,params:=r.params,assign:=r.assign,body:=r.body,defers:=d}) (o9 k2);have ov:∀{g':Nat} {cells:Array Value} {e:TypeId} {f:Nat × Nat},w.heap[g']?=aa (.cells cells e f)->g'≠g:=by rintro g' cells e f hg rfl;rw[k2] at hg;cases hg
 refine⟨s.dh.trans (c.below k1),by rw[c.size];exact s.size,λg' j x hx=>?_,s.eV,s.ma,s.qD,λb g' cs iB hc=>?_,by simp[s.oH],s.rv,λl' g' rr tg lQ=>?_,s.tn,λt ht=>?_,s.qA,λr' gj=>?_,s.all⟩
 ·have qP:=s.ic g' j x hx;have bG:g'≠g:=by rintro rfl;simp[World.cell?,k2] at qP
  rw[<-qP];exact World.cell?_of_block (w:=w) (c.other g' bG)
 ·obtain⟨h1,h2,ha,cells,e,h3,h4⟩:=s.box b g' cs iB hc;exact⟨h1,h2,ha,cells,e,(c.other g' (ov h3)).trans h3,h4⟩
 ·simp only[mL] at lQ;split at lQ
  ·rename_i mD;subst mD;injection lQ with lQ;subst lQ;rw[hl] at tg;injection tg with tg;subst tg;exact⟨k1,fn,tmps,d,c.this,k3,k4,k5,k6⟩
  ·rename_i bG;have iZ:g'≠g:=(by rintro rfl;exact bG (s.rv _ _ _ hl tg));obtain⟨h1,fn',tmps',d',h2,h3,h4⟩:=s.loop l' g' rr tg lQ;exact⟨h1,fn',tmps',d',(c.other g' iZ).trans h2,h3,h4⟩
 ·obtain⟨h1,h2,h3,cells,e,fz,h4,h5,h6⟩:=s.tok t ht;refine⟨h1,h2,h3,cells,e,fz,(c.other _ (ov h4)).trans h4,h5,λj hj hl=>?_⟩;rw[<-h6 j hj hl];exact World.frozen?_of_block (w:=w) (c.other _ (ov h4))
 ·obtain⟨h1,h2⟩:=s.md r' gj;have bG:r'≠g:=by rintro rfl;rw[k2] at h2;cases h2
  exact⟨h1,(c.other r' bG).trans h2⟩
end
end Go.AE
end
