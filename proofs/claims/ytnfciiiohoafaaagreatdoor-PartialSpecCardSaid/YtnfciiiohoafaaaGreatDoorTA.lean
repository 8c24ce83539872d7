/-
  The engine, part 1: an evaluator of the model's Code over values in which a slice is a list. No claim is made here; part 2 and on show that what it gives the machine does.
-/
import Derived.AtR
import Derived.Recover
import Derived.Below
import Derived.Orders
import Derived.Laws.AppendOwn
import Derived.Laws.Cells
import Derived.Laws.Entries
import Derived.Laws.MakeOwn
import Derived.Laws.Strings
import Derived.Laws.Append
import Derived.Lib.AppendZeros
import Derived.Defers
import Derived.RangeFuncRecord
open True renaming intro->aQ
open Bool renaming true->ah,false->av,false_eq_true->jG,and_eq_true->bC,not_eq_true'->yk,not_false->yl,or_eq_true->tQ
open Option renaming some->aa,none->aq,map_eq_some_iff->dh,bind_eq_some_iff->yv,isSome_iff_exists->aa9,getD_some->HN,map->Cm,isNone_some->HO,map_some->eJ,some.injEq->dA,bind_some->ph
open Nat renaming beq->jq,min->oc,le_refl->aJ,le_trans->fe,lt_of_lt_of_le->mq,lt_or_ge->dI,add_mul->gg,add_zero->zZ,mul_le_mul_right->nF,zero_add->oF,mul_eq_zero->aaY,zero_mul->EU,not_lt_zero->rU,reducePow->aa8,zero_le->cr,sub_mul->Lt,mul_pos->Lp,pos_of_ne_zero->aa4,one_ne_zero->Lq,mul_one->nG,eq_of_beq_eq_true->jw,le_zero->Ll,lt_succ_iff->Ab,le_antisymm->Aa,lt_trans->oE,le_of_lt->mJ,lt_succ_self->Lm,lt_succ_of_lt->u6,not_succ_le_self->aa2,lt_of_le_of_ne->aaW
open List renaming replicate->aY,range->bO,getElem?_eq_some_iff->aP,getElem?_eq_getElem->aO,getElem?_take->nC,getElem?_drop->nZ,getElem?_set->lR,length_take->eP,getElem?_append_left->qM,take_of_length_le->gm,flatten_cons->nX,drop_append->Cf,drop_of_length_le->pc,take_append->HJ,length_append->dk,length_cons->iW,set_eq_take_append_cons_drop->zX,all_eq_true->dU,mem_append->uZ,mem_of_mem_take->oa,mem_of_mem_drop->Lb,length_drop->gE,ext_getElem?->p8,mem_of_getElem?->de,foldl_cons->wN,map_cons->eo,map_map->zU,getElem?_toArray->jc,flatten_append->p9,map_append->lU,flatten_nil->Q8,append_nil->jH,mem_replicate->Rb,take_nil->aaP,drop_nil->aaq,extract_eq_take_drop->aar,mem_map->jo,length_map->bu,take_append_of_le_length->HK,cons_append->kj,nil_append->lV,range_succ->ob,mem_range->fY,getElem?_cons_zero->jv,getElem?_cons_succ->oD,size_toArray->aaO,all_append->Ey,eq_of_mem_replicate->HD,length_replicate->lT,mem_cons_of_mem->fi,append_assoc->rR,getElem?_append_right->yu,mem_cons_self->fR,toArray_inj->Lh,map_congr_left->HI,range_zero->aaJ,mem_cons->gO,countP_cons_of_neg->aan,countP_cons_of_pos->Q5,reverse_nil->aaL,mem_filter->tS
open Array renaming length_toList->wG,getElem?_eq_none->wF,getElem?_eq_getElem->lQ,getElem?_modify->BO,toList_setIfInBounds->ZN,toList_map->BS,getElem?_toList->BP,range->yi,toList_extract->ZM,getElem?_eq_some_iff->BN,replicate->BQ,toList_append->BR,ext'->KL,size_append->QI,getElem?_setIfInBounds->KM,all_eq_true->Ej,map->KN,mem_toList_iff->ZK,getElem_of_mem->ZG,getElem_mem->ZF
open Prod renaming mk.inj->il,mk.injEq->cX
set_option linter.unusedSimpArgs false
set_option linter.unusedVariables false
set_option linter.constructorNameAsVariable false
set_option linter.defProp false
namespace Go
def ag{p:Prop}(h:p:=by omega):p:=h
def bh{p:Prop}(h:p:=by simp):p:=h
def aK{p:Prop}(h:p:=by decide):p:=h
def atx{p:Prop}(h:p:=by simp;omega):p:=h
def aty{p:Prop}(h:p:=by first|exact trivial|exact rfl):p:=h
def iU{p:Prop}(h:p:=by kernel_rfl):p:=h
def aG.{u}{c:Prop}{h:Decidable c}(q:¬c){α:Sort u}{t e:α}:ite c t e=e:=if_neg q
def aF.{u}{c:Prop}{h:Decidable c}(q:c){α:Sort u}{t e:α}:ite c t e=t:=if_pos q
def bX{p:Prop}[Decidable p](q:p):decide p=ah:=decide_eq_true q
def cI{p:Prop}[Decidable p](q:¬p):decide p=av:=decide_eq_false q
end Go
section
namespace Go.AE
inductive Tok where
 |nil|tight|free (n:Nat)|held
 deriving DecidableEq,Inhabited
inductive Ref where
 |box (b:Nat)|eD (g:Nat)
 deriving DecidableEq,Inhabited
inductive AV where
 |bad
 |v (x:Value)
 |list (k:Tok) (sz:Nat) (es:List (List AV))
 |arr (b off len aB:Nat)
 |agg (cs:List AV)
 |tuple (vs:List AV)
 |ptr (r:Ref) (off:Nat)
 |elem (sz:Nat) (es:List (List AV)) (i off:Nat)
 |func (fn:Fn) (first aB:List AV)
 |yield (l:Nat)
 |iface (t:TypeId) (x:AV)
 deriving Inhabited
def gy{α:Type}(P:Program):Sem α->Option α
 | .pure a=>aa a
 | .program k=>gy P (k P)
 | .mark _ k=>gy P k
 |_=>aq
def scalar:Value->Bool
 | .bool _| .int .. | .float .. | .complex .. | .string _| .nilFunc| .nilIface| .pointer aq| .map aq| .chan aq=>ah
 |_=>av
def oB(z:Value):Option AV:=if scalar z then aa (.v z) else aq
def AV.dN:AV->Bool
 | .agg _| .tuple _| .bad=>av
 |_=>ah
def AV.b8:AV->Option (List AV)
 | .agg cs=>if cs.all AV.dN then aa cs else aq
 | .tuple _| .bad=>aq
 |x=>aa [x]
def uF(x:Value):AV:=
 match x with
 | .slice aq 0 0=>.list .nil 0 []
 |x=>if scalar x then .v x else .bad
def rG:Value->AV
 | .agg cs=>.agg (cs.toList.map uF)
 | .tuple vs=>if vs.size=0 then .tuple [] else .bad
 | .iface t x=>.iface t (uF x)
 |x=>uF x
def AD:List AV->Option (List Value)
 | []=>aa []
 | .v x::r=>(AD r).map (x::·)
 |_=>aq
def AV.flat:AV->Option Value
 | .v x=>aa x
 | .agg cs=>(AD cs).map λl=>.agg l.toArray
 | .iface t (.v x)=>aa (.iface t x)
 | .iface t (.agg cs)=>(AD cs).map λl=>.iface t (.agg l.toArray)
 | .list .nil _ []=>aa (.slice aq 0 0)
 |_=>aq
def flatAll:List AV->Option (List Value)
 | []=>aa []
 |x::r=>match x.flat,flatAll r with|some v,aa l=>aa (v::l)|_,_=>aq
def mj:Value->Value->Bool
 | .int k n,.int k' n'=>decide (k=k')&&decide (n=n')
 | .bool a,.bool b=>a==b
 | .string p,.string q=>p.data.toList==q.data.toList
 | .nilFunc,.nilFunc| .nilIface,.nilIface| .pointer aq,.pointer aq=>ah
 |_,_=>av
def Kj:Ref->Ref->Bool
 | .box a,.box b| .eD a,.eD b=>jq a b
 |_,_=>av
def wm:Tok->Tok->Bool
 | .nil,.nil| .tight,.tight| .held,.held=>ah
 | .free a,.free b=>jq a b
 |_,_=>av
mutual
def eT:AV->AV->Bool
 | .v x,.v y=>mj x y
 | .list k sz es,.list k' sz' es'=>wm k k'&&jq sz sz'&&pV es es'
 | .arr b o l c,.arr b' o' l' c'=>jq b b'&&jq o o'&&jq l l'&&jq c c'
 | .agg cs,.agg ds=>nT cs ds
 | .tuple cs,.tuple ds=>nT cs ds
 | .ptr r o,.ptr r' o'=>Kj r r'&&jq o o'
 | .elem sz es i o,.elem sz' es' i' o'=>jq sz sz'&&jq i i'&&jq o o'&&pV es es'
 | .yield l,.yield l'=>jq l l'
 | .iface t x,.iface t' y=>jq t t'&&eT x y
 | .func (.func f) a b,.func (.func g) a' b'=>jq f g&&nT a a'&&nT b b'
 |_,_=>av
def nT:List AV->List AV->Bool
 | [],[]=>ah
 |x::xs,y::ys=>eT x y&&nT xs ys
 |_,_=>av
def pV:List (List AV)->List (List AV)->Bool
 | [],[]=>ah
 |x::xs,y::ys=>nT x y&&pV xs ys
 |_,_=>av
end
structure oG where
 ch:List (Nat × AV)
 base:List AV
 deriving Inhabited
def look(base:List AV):List (Nat × AV)->Nat->AV
 | [],t=>base.getD t (.tuple [])
 |p::r,t=>bif jq p.1 t then p.2 else look base r t
def oG.get(s:oG)(t:Nat):AV:=look s.base s.ch t
def oG.set(s:oG)(t:Nat)(x:AV):oG:={s with ch:=(t,x)::s.ch}
structure ij where
 tmps:oG
 params:Array Tmp
 assign:Code
 body:Code
 state:LoopState
 pending:Option Code
 deriving Inhabited
structure ak where
 boxes:List (List AV)
 loops:List ij
 tn:Nat
 dead:List Nat
 deriving Inhabited
structure Env where
 tmps:oG
 defers:List (FuncId × List AV)
 cD:Option (AV × Bool)
 round:Option Nat
 deriving Inhabited
inductive Xt where
 |normal
 |exit (id:Nat)
 |ret
 |panic (x:AV)
 deriving Inhabited
inductive eK where
 |ret (x:AV)
 |panic (x:AV)
 deriving Inhabited
def Env.get(e:Env)(t:Nat):AV:=e.tmps.get t
def Env.put(e:Env)(dst:Option Tmp)(x:AV):Env:=
 match dst with
 |some d=>{e with tmps:=e.tmps.set d x}
 |none=>e
def afJ(tmps:oG):Operand->AV
 | .tmp t=>tmps.get t
 | .const v=>rG v
 | .global g=>.ptr (.eD g) 0
 | .func f=>.func (.func f) [] []
def Env.eval(e:Env)(x:Operand):AV:=afJ e.tmps x
section
variable (P:Program)
def dm(t:TypeId):Option Nat:=(P.info? t).map (·.size)
def gx(t:TypeId):Option Bool:=
 match P.underlying t with
 |some (.struct _)|some (.array _ _)=>aa ah
 |some _=>aa av
 |none=>aq
def iN(t:TypeId):Option AV:=
 match P.info? t with
 |some i=>i.zero.map rG
 |none=>aq
def Gq(t:TypeId)(cs:List AV)(off:Nat):Option AV:=
 match gx P t with
 |some ah=>(dm P t).map λn=>.agg ((cs.drop off).take n)
 |some av=>cs[off]?
 |none=>aq
end
def ak.box(h:ak)(cs:List AV):AV × ak:=(.ptr (.box h.boxes.length) 0,{h with boxes:=h.boxes++[cs]})
def ak.fresh(h:ak)(sz:Nat)(es:List (List AV)):AV × ak:=(.list (.free h.tn) sz es,{h with tn:=h.tn+1})
def Pt(G:Nat->Option (List AV))(h:ak):Ref->Option (List AV)
 | .box b=>h.boxes[b]?
 | .eD g=>G g
def As(G:Nat->Option (List AV))(h:ak):AV->Option (List AV)
 | .ptr r off=>(Pt G h r).map (·.drop off)
 | .elem _ es i off=>(es[i]?).map (·.drop off)
 |_=>aq
def aI(P:Program)(G:Nat->Option (List AV))(h:ak)(t:TypeId)(a:AV):Option AV:=
 match gx P t,As G h a with
 |some ah,aa cs=>
  match dm P t with
  |some n=>if n<=cs.length then aa (.agg (cs.take n)) else aq
  |none=>aq
 |some av,aa cs=>cs.head?
 |_,_=>aq
def eE(cU:List AV)(off:Nat)(cs:List AV):List AV:=cU.take off++cs++cU.drop (off+cs.length)
def ct(P:Program)(h:ak)(t:TypeId)(a x:AV):Option ak:=
 match a,x.b8,dm P t with
 | .ptr (.box b) off,aa cs,aa n=>
  match h.boxes[b]? with
  |some cU=>if cs.length=n/\off+n<=cU.length then aa {h with boxes:=h.boxes.set b (eE cU off cs)} else aq
  |none=>aq
 |_,_,_=>aq
def ug(place:Nat->Option (Nat × Nat))(cells:List AV):List (Nat × AV)->Option (List AV)
 | []=>aa cells
 |(i,x)::rest=>
  match place i,x.b8 with
  |some (off,size),aa cs=>if cs.length=size/\off+size<=cells.length then ug place (eE cells off cs) rest else aq
  |_,_=>aq
def CO(sz:Nat)(ae:List (List AV)):List (Nat × AV)->Option (List (List AV))
 | []=>aa ae
 |(i,x)::rest=>
  match x.b8 with
  |some cs=>if cs.length=sz/\i<ae.length then CO sz (ae.set i cs) rest else aq
  |none=>aq
def placesOf(P:Program)(fields:Array Field)(i:Nat):Option (Nat × Nat):=
 match fields[i]? with
 |some f=>(dm P f.type).map λn=>(f.offset,n)
 |none=>aq
def mw(P:Program)(t:TypeId)(parts:List (Nat × AV)):Option AV:=
 match P.underlying t,(iN P t).bind AV.b8 with
 |some (.struct fields),aa zero=>
  if fields.all λf=>(P.info? f.type).isSome then (ug (placesOf P fields) zero parts).map .agg else aq
 |some (.array _ elem),aa zero=>
  match dm P elem with
  |some size=>(ug (λi=>aa (i * size,size)) zero parts).map .agg
  |none=>aq
 |_,_=>aq
def fC(P:Program)(t:TypeId)(len:Nat)(parts:List (Nat × AV)):Option AV:=
 match P.underlying t with
 |some (.slice elem)=>
  match dm P elem,(iN P elem).bind AV.b8 with
  |some size,aa zero=>
   if 0<size/\zero.length=size/\len * size<=16777216 then (CO size (aY len zero) parts).map (.list .tight size) else aq
  |_,_=>aq
 |_=>aq
def xS(P:Program)(h:ak)(t:TypeId)(l c:AV):Option (AV × ak):=
 match P.underlying t,l,c with
 |some (.slice elem),.v (.int _ l),.v (.int _ c)=>
  match P.info? elem,(iN P elem).bind AV.b8 with
  |some i,aa zero=>
   if 0<=l/\l<=c/\c<9223372036854775808/\i.bytes * c<=281474976710656/\0<i.size/\zero.length=i.size then
    aa (.arr h.boxes.length 0 l.toNat c.toNat,{h with boxes:=h.boxes++[(aY c.toNat zero).flatten]})
   else aq
  |_,_=>aq
 |_,_,_=>aq
def rowsOf(h:ak)(size:Nat):AV->Option (List (List AV))
 | .list _ sz es=>if sz=size∨es=[] then aa es else aq
 | .arr b off len _=>
  match h.boxes[b]? with
  |some cs=>if off+len * size<=cs.length then aa ((bO len).map λi=>(cs.drop (off+i * size)).take size) else aq
  |none=>aq
 |_=>aq
def jJ(b:UInt8):List AV:=[.v (.int .u8 b.toNat)]
def byteOf:List AV->Option UInt8
 | [.v (.int .u8 n)]=>aa (UInt8.ofNat n.toNat)
 |_=>aq
def bytesOf:List (List AV)->Option (List UInt8)
 | []=>aa []
 |r::rest=>match byteOf r,bytesOf rest with|some b,aa l=>aa (b::l)|_,_=>aq
def me(h:ak)(size:Nat):AV->Option (List (List AV))
 | .v (.string s)=>if size=1 then aa (s.data.toList.map jJ) else aq
 |x=>rowsOf h size x
def alive(h:ak)(n:Nat):Bool:=decide (n<h.tn)&& !h.dead.contains n
def KI(P:Program)(h:ak)(ts:Array TypeId)(elem:TypeId)(s x:AV):Option (AV × ak):=
 match s,x with
 | .list .nil _ [],.v (.int _ n)=>
  match P.info? elem,(iN P elem).bind AV.b8 with
  |some i,aa zero=>
   if ts.size=2/\0<n/\n * i.bytes<=140737488355328/\n<=9223372036854775807/\0<i.size/\zero.length=i.size then
    aa (.arr h.boxes.length 0 n.toNat n.toNat,{h with boxes:=h.boxes++[(aY n.toNat zero).flatten]})
   else aq
  |_,_=>aq
 |_,_=>aq
def gq(P:Program)(h:ak)(ts:Array TypeId)(s x:AV):Option (AV × ak):=
 match (ts[0]?).bind P.underlying,(ts[1]?).bind P.underlying with
 |some (.slice elem),aa (.int _)=>KI P h ts elem s x
 |some (.slice elem),aa _=>
  match P.info? elem with
  |none=>aq
  |some i=>
   match me h i.size x with
   |none=>aq
   |some new=>
    if 0<i.size/\(i.zero.map λz=>z.cells.size)=aa i.size then
     match s with
     | .list k sz es=>
      if sz=i.size∨es=[] then
       if new=[] then aa (s,h)
       else if (es.length+new.length) * i.bytes<=140737488355328/\es.length+new.length<=9223372036854775807 then
        match k with
        | .nil| .tight=>aa (h.fresh i.size (es++new))
        | .free n=>if alive h n&&decide (sz=i.size) then aa ({h with dead:=n::h.dead}.fresh i.size (es++new)) else aq
        | .held=>aq
       else aq
      else aq
     | .arr b off len aB=>
      match h.boxes[b]? with
      |some cs=>
       if len+new.length<=aB/\off+aB * i.size<=cs.length then
        aa (.arr b off (len+new.length) aB,{h with boxes:=h.boxes.set b (eE cs (off+len * i.size) new.flatten)})
       else aq
      |none=>aq
     |_=>aq
    else aq
 |_,_=>aq
def Hl(G:Nat->Option (List AV))(d:Option Tmp)(t:TypeId):Bool:=(G (1000000+1000 * t+d.getD 0)).isSome
def qI(P:Program)(h:ak)(ts:Array TypeId)(s x:AV):Option (AV × ak):=
 match (ts[0]?).bind P.underlying,(ts[1]?).bind P.underlying with
 |some (.slice _),aa (.int _)=>aq
 |some (.slice elem),aa _=>
  match P.info? elem with
  |none=>aq
  |some i=>
   match me h i.size x with
   |none=>aq
   |some new=>
    if 0<i.size/\(i.zero.map λz=>z.cells.size)=aa i.size then
     match s with
     | .list k sz es=>
      if sz=i.size∨es=[] then
       if new=[] then aa (s,h)
       else if (es.length+new.length) * i.bytes<=140737488355328/\es.length+new.length<=9223372036854775807 then
        match k with
        | .nil| .tight=>aa (.arr h.boxes.length 0 (es.length+new.length) (es.length+new.length),{h with boxes:=h.boxes++[(es++new).flatten]})
        |_=>aq
       else aq
      else aq
     | .arr b off len aB=>
      match h.boxes[b]? with
      |some cs=>
       if len+new.length<=aB then gq P h ts s x
       else if off=0/\0<len/\len=aB/\len * i.size=cs.length/\(len+new.length) * i.bytes<=140737488355328/\len+new.length<=9223372036854775807 then
        aa (.arr h.boxes.length 0 (len+new.length) (len+new.length),{h with boxes:=h.boxes.set b []++[cs++new.flatten]})
       else aq
      |none=>aq
     |_=>aq
    else aq
 |_,_=>aq
def yI(P:Program)(h:ak)(ts:Array TypeId)(d s:AV):Option (AV × ak):=
 match (ts[0]?).bind P.underlying with
 |some (.slice elem)=>
  match P.info? elem,d with
  |some i,.arr b off len aB=>
   match me h i.size s,h.boxes[b]? with
   |some ae,aa cs=>
    if off+len * i.size<=cs.length/\len<=aB then
     aa (.v (.int .i64 (oc ae.length len:Nat)),{h with boxes:=h.boxes.set b (eE cs off (ae.take (oc ae.length len)).flatten)})
    else aq
   |_,_=>aq
  |_,_=>aq
 |_=>aq
def ej(P:Program)(t:TypeId)(x:AV):Option AV:=
 match P.underlying t,x with
 |some .string,.v (.string s)=>aa (.v (.int .i64 s.size))
 |some (.array n _),_=>aa (.v (.int .i64 n))
 |some (.pointer a),_=>match P.underlying a with|some (.array n _)=>aa (.v (.int .i64 n))|_=>aq
 |some (.slice _),.list _ _ es=>aa (.v (.int .i64 es.length))
 |some (.slice _),.arr _ _ len _=>aa (.v (.int .i64 len))
 |_,_=>aq
def CC(P:Program)(t:TypeId)(x:AV):Option AV:=
 match P.underlying t,x with
 |some (.slice _),.list .tight _ es=>aa (.v (.int .i64 es.length))
 |some (.slice _),.list .nil _ es=>aa (.v (.int .i64 es.length))
 |some (.array n _),_=>aa (.v (.int .i64 n))
 |_,_=>aq
def ga(hi:Nat):Option AV->Nat->Option Nat
 |none,d=>aa d
 |some (.v (.int _ n)),_=>if 0<=n/\n<=hi then aa n.toNat else aq
 |_,_=>aq
def py(k:Tok)(toEnd vV:Bool)(n:Nat):Tok:=
 match k with
 | .nil=>.nil
 | .tight=>if toEnd||vV then .tight else .held
 | .free t=>if vV then .tight else if toEnd&&n !=0 then .free t else .held
 | .held=>if vV then .tight else .held
def gC(P:Program)(t:TypeId)(x:AV)(lo hi mx:Option AV):Option AV:=
 if mx.isSome&&hi.isNone then aq else
 match P.underlying t,x with
 |some .string,.v (.string s)=>
  if mx.isSome then aq else
  match ga s.size hi s.size with
  |some h=>match ga h lo 0 with
   |some l=>aa (.v (.string (s.extract l h)))
   |none=>aq
  |none=>aq
 |some (.slice elem),.list k sz es=>
  match dm P elem,ga es.length mx es.length with
  |some size,aa m=>match ga m hi es.length with
   |some h=>match ga h lo 0 with
    |some l=>
     if size=sz∨es=[] then aa (.list (py k (decide (h=es.length)&&mx.isNone) (mx.isSome&&decide (h=m)) (h - l)) sz ((es.take h).drop l)) else aq
    |none=>aq
   |none=>aq
  |_,_=>aq
 |some (.slice elem),.arr b off len aB=>
  match dm P elem,ga aB mx aB with
  |some size,aa m=>match ga m hi len with
   |some h=>match ga h lo 0 with
    |some l=>if size=0 then aq else if mx.isSome/\m=l then aa (.list .tight size []) else aa (.arr b (if m=l then off else off+l * size) (h - l) (m - l))
    |none=>aq
   |none=>aq
  |_,_=>aq
 |some (.array n elem),.ptr (.box b) off=>
  match dm P elem,ga n mx n with
  |some size,aa m=>match ga m hi n with
   |some h=>match ga h lo 0 with
    |some l=>aa (.arr b (if m=l then off else off+l * size) (h - l) (m - l))
    |none=>aq
   |none=>aq
  |_,_=>aq
 |_,_=>aq
def gQ(P:Program)(s:TypeId)(x:AV)(f:Nat):Option AV:=
 match P.underlying s with
 |some (.struct fields)=>
  match fields[f]? with
  |some fd=>
   match dm P fd.type with
   |some 0=>aq
   |some _=>match x with
    | .ptr r off=>aa (.ptr r (off+fd.offset))
    | .elem sz es i off=>aa (.elem sz es i (off+fd.offset))
    |_=>aq
   |none=>aq
  |none=>aq
 |_=>aq
def dy(P:Program)(t:TypeId)(x ix:AV):Option AV:=
 match P.underlying t,x,ix with
 |some (.slice elem),.list _ sz es,.v (.int _ i)=>if 0<=i/\i<es.length/\dm P elem=aa sz then aa (.elem sz es i.toNat 0) else aq
 |some (.slice elem),.arr b off len _,.v (.int _ i)=>
  match dm P elem with
  |some size=>if 0<=i/\i<len then aa (.ptr (.box b) (off+i.toNat * size)) else aq
  |none=>aq
 |some (.array len elem),.ptr r off,.v (.int _ i)=>
  match dm P elem with
  |some size=>if 0<=i/\i<len then aa (.ptr r (off+i.toNat * size)) else aq
  |none=>aq
 |some (.array len elem),.elem sz es k off,.v (.int _ i)=>
  match dm P elem with
  |some size=>if 0<=i/\i<len then aa (.elem sz es k (off+i.toNat * size)) else aq
  |none=>aq
 |_,_,_=>aq
def Bo(P:Program)(t:TypeId)(x ix:AV):Option AV:=
 match P.underlying t,x,ix with
 |some .string,.v (.string s),.v (.int _ i)=>
  match (if 0<=i then s.data[i.toNat]? else aq) with
  |some b=>aa (.v (.int .u8 b.toNat))
  |none=>aq
 |some (.array len elem),.agg cs,.v (.int _ i)=>
  match dm P elem with
  |some size=>if 0<=i/\i<len then Gq P elem cs (i.toNat * size) else aq
  |none=>aq
 |_,_,_=>aq
def isIface(P:Program)(t:TypeId):Option Bool:=
 match P.underlying t with
 |some (.interface _)=>aa ah
 |some _=>aa av
 |none=>aq
def wU(P:Program)(x:AV)(asserted:TypeId)(commaOk:Bool):Option AV:=
 match isIface P asserted,x with
 |some av,.iface t y=>if t=asserted then aa (if commaOk then .tuple [y,.v (.bool ah)] else y)
  else if commaOk then (iN P asserted).map λz=>.tuple [z,.v (.bool av)] else aq
 |some av,.v .nilIface=>if commaOk then (iN P asserted).map λz=>.tuple [z,.v (.bool av)] else aq
 |_,_=>aq
def vk(op:BinOp)(b:Bool):Option AV:=
 match op with
 | .eql=>aa (.v (.bool b))
 | .neq=>aa (.v (.bool !b))
 |_=>aq
def HZ(P:Program)(op:BinOp)(t:TypeId)(x y:Operand)(a b:AV):Option AV:=
 match a.flat,b.flat with
 |some p,aa q=>(gy P (do eqGuard op t x y p q;binOp op t p q)).bind oB
 |_,_=>aq
def cN(P:Program)(op:BinOp)(t:TypeId)(x y:Operand)(a b:AV):Option AV:=
 match a,b with
 | .v (.string p),.v (.string q)=>
  match op with
  | .eql=>aa (.v (.bool (p.data.toList==q.data.toList)))
  | .neq=>aa (.v (.bool !(p.data.toList==q.data.toList)))
  | .add=>if p.size+q.size<=9223372036854775807 then aa (.v (.string (p++q))) else aq
  |_=>HZ P op t x y a b
 | .iface _ _,.v .nilIface=>if isIface P t=aa ah then vk op av else aq
 | .v .nilIface,.iface _ _=>if isIface P t=aa ah then vk op av else aq
 | .ptr _ _,.v (.pointer aq)=>(match P.underlying t with|some (.pointer _)=>vk op av|_=>aq)
 | .v (.pointer aq),.ptr _ _=>(match P.underlying t with|some (.pointer _)=>vk op av|_=>aq)
 | .func _ _ _,.v .nilFunc=>(match P.underlying t with|some (.func ..)=>vk op av|_=>aq)
 | .v .nilFunc,.func _ _ _=>(match P.underlying t with|some (.func ..)=>vk op av|_=>aq)
 | .list k _ _,.list .nil _ []=>(match P.underlying t with|some (.slice _)=>vk op (decide (k=.nil))|_=>aq)
 |a,b=>HZ P op t x y a b
def BJ(P:Program)(op:UnOp)(x:AV):Option AV:=
 match x.flat with
 |some p=>(gy P (Op.unary op p)).bind oB
 |none=>aq
def mK(P:Program)(h:ak)(src dst:TypeId)(x:AV):Option (AV × ak):=
 match P.underlying src,P.underlying dst,x with
 |some .string,aa (.slice e),.v (.string s)=>
  match P.underlying e,P.info? e with
  |some (.int .u8),aa i=>if i.size=1 then aa (h.fresh 1 (s.data.toList.map jJ)) else aq
  |_,_=>aq
 |some (.slice e),aa .string,x=>
  match P.underlying e,rowsOf h 1 x with
  |some (.int .u8),aa ae=>(bytesOf ae).map λl=>(.v (.string ⟨l.toArray⟩),h)
  |_,_=>aq
 |some (.slice e),aa (.slice _),.list (.free t) sz es=>
  match P.underlying e with
  |some (.int .u8)=>if src=dst/\alive h t=ah then aa (.list .held sz es,{h with dead:=t::h.dead}) else aq
  |_=>aq
 |some (.slice _),aa (.slice _),_=>aq
 |some _,aa _,.v x=>((gy P (convert src dst x)).bind oB).map λz=>(z,h)
 |_,_,_=>aq
def JH(c a b:AV):Option AV:=
 match c with
 | .v (.bool t)=>aa (if t then a else b)
 |_=>aq
def OQ(x:AV):Option AV:=
 match x with
 | .ptr .. | .elem .. | .func (.func _) _ _| .yield _| .iface .. =>aa x
 |_=>aq
def vq(parts:Array (Nat × Operand)):Bool:=
 match parts.toList with
 |(_,.const (.int .u8 _))::_::_=>ah
 |_=>av
def dD(P:Program)(G:Nat->Option (List AV))(ρ:Operand->AV)(h:ak)(o:Op):Option (AV × ak):=
 match o with
 | .move x| .assign x=>aa (ρ x,h)
 | .pick c a b=>(JH (ρ c) (ρ a) (ρ b)).map (·,h)
 | .alloc t=>((iN P t).bind AV.b8).map h.box
 | .box _ x=>((ρ x).b8).map h.box
 | .build t parts=>(mw P t (parts.toList.map λp=>(p.1,ρ p.2))).map (·,h)
 | .buildSlice t len parts=>
  match vq parts with
  |false=>(fC P t len (parts.toList.map λp=>(p.1,ρ p.2))).map (·,h)
  |true=>(match fC P t len (parts.toList.map λp=>(p.1,ρ p.2)) with|some (.list _ sz es)=>aa (h.fresh sz es)|_=>aq)
 | .load t a=>(aI P G h t (ρ a)).map (·,h)
 | .store t a x=>(ct P h t (ρ a) (ρ x)).map (.tuple [],·)
 | .nilCheck x=>(OQ (ρ x)).map (·,h)
 | .binOp op t x y _=>(cN P op t x y (ρ x) (ρ y)).map (·,h)
 | .unOp op _ x=>(BJ P op (ρ x)).map (·,h)
 | .convert s d x=>mK P h s d (ρ x)
 | .makeInterface t x=>if isIface P t=aa av then aa (.iface t (ρ x),h) else aq
 | .makeFunc fn first aB=>aa (.func fn (first.toList.map ρ) (aB.toList.map ρ),h)
 | .makeSlice t l c=>xS P h t (ρ l) (ρ c)
 | .slice t x lo hi mx=>(gC P t (ρ x) (lo.map ρ) (hi.map ρ) (mx.map ρ)).map (·,h)
 | .fieldAddr s x f=>(gQ P s (ρ x) f).map (·,h)
 | .field t x f=>
  match P.underlying t,ρ x with
  |some (.struct fields),.agg cs=>(match fields[f]? with|some fd=>(Gq P fd.type cs fd.offset).map (·,h)|none=>aq)
  |_,_=>aq
 | .indexAddr t x i=>(dy P t (ρ x) (ρ i)).map (·,h)
 | .index t x i=>(Bo P t (ρ x) (ρ i)).map (·,h)
 | .typeAssert x _ asserted ok=>(wU P (ρ x) asserted ok).map (·,h)
 | .extract x i=>(match ρ x with| .tuple vs=>(vs[i]?).map (·,h)|_=>aq)
 |_=>aq
def ji(P:Program)(h:ak)(b:Builtin)(ts:Array TypeId)(ty:TypeId)(args:List AV):Option (AV × ak):=
 match b,args with
 | .len,[x]=>(match ts[0]? with|some t=>(ej P t x).map (·,h)|none=>aq)
 | .cap,[x]=>(match ts[0]? with|some t=>(CC P t x).map (·,h)|none=>aq)
 | .append,[s,x]=>gq P h ts s x
 | .copy,[d,s]=>yI P h ts d s
 | .min,xs=>(match flatAll xs with|some l=>((gy P (Builtin.min_ ts ty l.toArray)).bind oB).map (·,h)|none=>aq)
 | .max,xs=>(match flatAll xs with|some l=>((gy P (Builtin.max_ ts ty l.toArray)).bind oB).map (·,h)|none=>aq)
 |_,_=>aq
def qV(P:Program)(G:Nat->Option (List AV))(d:Option Tmp)(h:ak)(b:Builtin)(ts:Array TypeId)(ty:TypeId)(args:List AV):Option (AV × ak):=
 match b,args with
 | .append,[s,x]=>if Hl G d ty then qI P h ts s x else gq P h ts s x
 |b,args=>ji P h b ts ty args
structure Rec where
 code:Code->Env->ak->Option (Xt × Env × ak)
 call:FuncId->List AV->ak->Option (eK × ak)
 jy:FuncId->List AV->Option (AV × Bool)->ak->Option (eK × Option (AV × Bool) × ak)
 round:Nat->List AV->ak->Option (eK × ak)
def OI(P:Program)(t:TypeId)(name:String):Option FuncId:=
 match P.info? t with
 |some i=>
  match i.methods.find? (·.name==name) with
  |some m=>
   match m.path.toList,m.func,P.underlying t with
   | [],aa (f,ah),aa (.pointer _)=>aa f
   | [],aa (_,_),aa (.pointer _)=>aq
   | [],aa (f,av),aa _=>aa f
   |_,_,_=>aq
  |none=>aq
 |none=>aq
def lE(P:Program)(R:Rec)(e:Env)(h:ak)(c:Call):Option (eK × ak):=
 let args:=c.args.toList.map e.eval
 match c.callee with
 | .builtin _=>aq
 | .value f=>
  match e.eval f with
  | .func (.func g) first aB=>R.call g (first++args++aB) h
  | .yield l=>R.round l args h
  |_=>aq
 | .invoke r name=>
  match e.eval r with
  | .iface t x=>(match OI P t name with|some f=>R.call f (x::args) h|none=>aq)
  |_=>aq
def dO(P:Program)(G:Nat->Option (List AV))(R:Rec)(e:Env)(h:ak)(o:Oper):Option (eK × Env × ak):=
 match o.op with
 | .call {callee:=.builtin .recover,.. }=>
  if e.round.isSome then aq else
  match e.cD with
  |some (x,av)=>aa (.ret x,{e with cD:=aa (x,ah)},h)
  |_=>aa (.ret (.v .nilIface),e,h)
 | .call {callee:=.builtin .panic,args,.. }=>
  match args.toList.map e.eval with
  | [.iface t x]=>aa (.panic (.iface t x),e,h)
  |_=>aq
 | .call {callee:=.builtin b,args,argTypes}=>(qV P G o.dst h b argTypes o.type (args.toList.map e.eval)).map λ(x,h)=>(.ret x,e,h)
 | .call c=>(lE P R e h c).map λ(r,h)=>(r,e,h)
 | .defer {callee:=.value f,args,.. }=>
  if e.round.isSome then aq else
  match e.eval f with
  | .func (.func g) first aB=>aa (.ret (.tuple []),{e with defers:=(g,first++args.toList.map e.eval++aB)::e.defers},h)
  |_=>aq
 | .panic x=>
  match e.eval x with
  | .iface t x=>aa (.panic (.iface t x),e,h)
  |_=>aq
 |op=>(dD P G e.eval h op).map λ(x,h)=>(.ret x,e,h)
def eY(ops:Array Oper)(e:Env)(o:Oper):Option Bool:=
 match o.guard with
 |none=>aa ah
 |some (j,want)=>
  match (ops[j]?).bind (·.dst) with
  |none=>aa av
  |some d=>
   match e.get d with
   | .v (.bool b)=>aa (b==want)
   | .tuple []=>aa av
   |_=>aq
def cV(P:Program)(G:Nat->Option (List AV))(R:Rec)(ops:Array Oper):List Nat->Env->ak->Option (Xt × Env × ak)
 | [],e,h=>aa (.normal,e,h)
 |i::rest,e,h=>
  match ops[i]? with
  |none=>aq
  |some o=>
   match eY ops e o with
   |none=>aq
   |some av=>cV P G R ops rest (e.put o.dst (.tuple [])) h
   |some ah=>
    match dO P G R e h o with
    |some (.ret x,e,h)=>cV P G R ops rest (e.put o.dst x) h
    |some (.panic x,e,h)=>aa (.panic x,e,h)
    |none=>aq
inductive Class where
 |pure|reads|acts
 deriving DecidableEq,Inhabited
def jj:Op->Class
 | .move _| .assign _| .pick .. | .build .. | .nilCheck _| .binOp .. | .unOp .. | .makeInterface .. | .makeFunc .. | .slice .. | .fieldAddr .. | .field ..
 | .indexAddr .. | .index .. | .typeAssert .. | .extract .. =>.pure
 | .buildSlice _ _ parts=>if vq parts=ah then .acts else .pure
 | .load .. =>.reads
 | .call {callee:=.builtin .len,.. }=>.pure
 |_=>.acts
def Jv(a b:Class):Bool:=
 match a,b with
 | .pure,_|_,.pure=>ah
 | .reads,.reads=>ah
 |_,_=>av
def Al(ops:Array Oper)(b:Array Nat):Bool:=
 (bO ops.size).all λj=>
  match ops[j]? with
  |none=>ah
  |some o=>
   (o.after.all λe=> !Region.binds .any e||decide (e.on<j))&&
   (bO ops.size).all λi=> !(b.getD j 0).testBit i||o.after.any λe=>Region.binds .any e&&(jq e.on i||(b.getD e.on 0).testBit i)
def xX(ops:Array Oper)(i j:Nat):Bool:=
 match ops[i]?,ops[j]? with
 |some x,aa y=>Jv (jj x.op) (jj y.op)&&x.apart ops y&&y.apart ops x
 |_,_=>av
def Mm(ops:Array Oper):Bool:=
 let b:=Region.before ops
 Al ops b&&(bO ops.size).all λj=>(bO j).all λi=>(b.getD j 0).testBit i||xX ops i j
def oJ(ops:Array Oper)(i j:Nat):Bool:=
 match ops[i]?,ops[j]? with
 |some x,aa y=>x.apart ops y&&y.apart ops x
 |_,_=>av
def oX(P:Program)(G:Nat->Option (List AV))(R:Rec)(ops:Array Oper)(e:Env)(h:ak)(r m:Nat):Bool:=
 match ops[r]?,cV P G R ops (bO r) e h,cV P G R ops (bO m) e h with
 |some o,aa (.normal,er,hr),aa (.normal,_,hm)=>
  (match eY ops er o with
   |some av=>ah
   |some ah=>
    (match o.op with
     | .load t a=>(match aI P G hr t (er.eval a),aI P G hm t (er.eval a) with|some x,aa y=>eT x y|_,_=>av)
     |_=>av)
   |none=>av)
 |_,_,_=>av
def lj(P:Program)(G:Nat->Option (List AV))(R:Rec)(ops:Array Oper)(e:Env)(h:ak)(i j:Nat):Bool:=
 oJ ops i j&&
 match (ops[i]?).map λo=>jj o.op,(ops[j]?).map λo=>jj o.op with
 |some .reads,aa .acts=>oX P G R ops e h i (j+1)
 |some .acts,aa .reads=>oX P G R ops e h j i
 |_,_=>av
def yG:Op->Bool
 | .call {callee:=.builtin .recover,.. }=>av
 | .call {callee:=.builtin .panic,.. }=>av
 | .call _=>ah
 | .convert .. =>ah
 |_=>av
def yH(P:Program)(G:Nat->Option (List AV))(R:Rec)(ops:Array Oper)(e:Env)(h:ak)(k:Nat):Prop:=
 ∃o x er hr,ops[k]?=aa o/\yG o.op=ah/\cV P G R ops (bO k) e h=aa (.normal,er,hr)/\
  ∀m,m<=ops.size->∃em hm,cV P G R ops (bO m) e h=aa (.normal,em,hm)/\dO P G R er hm o=aa (.ret x,er,hm)
noncomputable def my(P:Program)(G:Nat->Option (List AV))(R:Rec)(ops:Array Oper)(e:Env)(h:ak)(k:Nat):Bool:=@decide (yH P G R ops e h k) (Classical.propDecidable _)
noncomputable def l8(P:Program)(G:Nat->Option (List AV))(R:Rec)(ops:Array Oper)(e:Env)(h:ak):Bool:=
 let b:=Region.before ops
 Al ops b&&(bO ops.size).all λj=>(bO j).all λi=>(b.getD j 0).testBit i||xX ops i j||lj P G R ops e h i j||(oJ ops i j&&(my P G R ops e h i||my P G R ops e h j))
def Il(ops:Array Oper)(k j:Nat):Bool:=
 match ops[k]? with
 |some o=>o.after.any λed=>Region.binds .any ed&&jq ed.on j
 |none=>av
def ajr(ops:Array Oper)(d m:Nat):Bool:=
 match ops[m]? with
 |some o=>(match o.op with| .load _ x=>(match x with| .tmp t=> !Nat.beq t d|_=>ah)|_=>av)&&(o.guard.isNone&&(match o.dst with|some q=> !Nat.beq q d|none=>ah))
 |none=>av
def gi(ops:Array Oper)(i j:Nat):Array Oper:=⟨ops.toList.mapIdx λk o=>if k=j then {o with after:=o.after.push {on:=i,ground:=.data}} else o⟩
def xM(ops:Array Oper)(k:Nat):Bool:=
 match ops[k]? with
 |some o=>(match o.op with| .store _ _ _=>ah|_=>av)&&(o.guard.isNone&&o.dst.isNone)
 |none=>av
def Xr(ops:Array Oper)(k:Nat):Bool:=
 match ops[k]? with
 |some o=>decide (jj o.op=.pure)|none=>av
def DQ(ops:Array Oper)(i:Nat):Bool:=
 Al ops (Region.before ops)&&(decide (i+1<ops.size)&&(xM ops i&&(xM ops (ops.size - 1)&&(bO (ops.size - 1)).all λk=>jq k i||(((Region.before ops).getD (ops.size - 1) 0).testBit k||(Xr ops k&&oJ ops k (ops.size - 1))))))
def qA(ops:Array Oper)(k:Nat)(e:Env):Option Nat:=
 match ops[k]? with
 |some o=>(match o.op with| .store _ a _=>(match e.eval a with| .ptr (.box b) _=>aa b|_=>aq)|_=>aq)
 |none=>aq
def rJ(P:Program)(G:Nat->Option (List AV))(R:Rec)(ops:Array Oper)(e:Env)(h:ak)(i:Nat):Bool:=
 match cV P G R ops (bO i) e h,cV P G R ops (bO (ops.size - 1)) e h with
 |some (.normal,ei,_),aa (.normal,en,_)=>
  (match qA ops i ei,qA ops (ops.size - 1) en with
   |some a,aa b=> !Nat.beq a b
   |_,_=>av)
 |_,_=>av
noncomputable def sT(P:Program)(G:Nat->Option (List AV))(R:Rec)(ops:Array Oper)(e:Env)(h:ak):Bool:=(bO ops.size).any λi=>DQ ops i&&(rJ P G R ops e h i&&l8 P G R (gi ops i (ops.size - 1)) e h)
def quiet(o:Oper):Oper:={o with dst:=aq,op:=.move (.const (.bool ah)),guard:=aq}
def Dq(ops:Array Oper)(k i:Nat):Bool:=jq i k||((Region.before ops).getD i 0).testBit k
def cut(ops:Array Oper)(k:Nat):Array Oper:=⟨ops.toList.mapIdx λi o=>if Dq ops k i=ah then quiet o else o⟩
def adC(ops:Array Oper)(i:Nat):Bool:=
 match ops[i]? with
 |some o=>decide (jj o.op≠ .acts)|none=>ah
def TU(ops:Array Oper)(k i:Nat):Bool:=
 match ops[i]? with
 |some o=>(match o.guard with|some (j,_)=> !Dq ops k j|none=>ah)
 |none=>ah
def afh(ops:Array Oper)(k i:Nat):Option Tmp:=
 if (Dq ops k i||((Region.before (cut ops k)).getD k 0).testBit i)=ah then aq else (ops[i]?).bind (·.dst)
def Eb(params:List Tmp)(args:List AV)(tmps:oG):oG:=(params.zip args).foldl (λts p=>ts.set p.1 p.2) tmps
section
variable (P:Program) (G:Nat->Option (List AV)) (R:Rec)
noncomputable def ff:Code->Env->ak->Option (Xt × Env × ak)
 | .skip,e,h| .label _,e,h=>aa (.normal,e,h)
 | .region _ ops draw,e,h=>
  if draw then
   if l8 P G R ops e h||sT P G R ops e h then
    match cV P G R ops (bO ops.size) e h with
    |some (.normal,e,h)=>aa (.normal,e,h)
    |_=>aq
   else aq
  else cV P G R ops (bO ops.size) e h
 | .seq a b,e,h=>
  match R.code a e h with
  |some (.normal,e,h)=>R.code b e h
  |r=>r
 | .cond c a b,e,h=>
  match e.eval c with
  | .v (.bool ah)=>R.code a e h
  | .v (.bool av)=>R.code b e h
  |_=>aq
 | .block id c,e,h=>
  match R.code c e h with
  |some (.exit id',e,h)=>if id'=id then aa (.normal,e,h) else aa (.exit id',e,h)
  |r=>r
 | .loop c,e,h=>
  match R.code c e h with
  |some (.normal,e,h)=>R.code (.loop c) e h
  |r=>r
 | .scope c,e,h=>R.code c e h
 | .exit id,e,h=>aa (.exit id,e,h)
 | .ret,e,h=>aa (.ret,e,h)
 | .rangeFunc f params assign body,e,h=>
  match e.eval f with
  | .func (.func g) first aB=>
   match R.call g (first++[.yield h.loops.length]++aB)
    {h with loops:=h.loops++[{tmps:=e.tmps,params,assign,body,state:=.ready,pending:=aq}]} with
   |some (.ret _,h')=>
    match h'.loops[h.loops.length]? with
    |some r=>
     if r.state=.busy then aq else
     match r.pending with
     |none=>aa (.normal,e,{h' with loops:=h'.loops.set h.loops.length {r with state:=.exhausted}})
     |some .ret=>aa (.ret,e,{h' with loops:=h'.loops.set h.loops.length {r with state:=.exhausted}})
     |some (.exit id)=>aa (.exit id,e,{h' with loops:=h'.loops.set h.loops.length {r with state:=.exhausted}})
     |_=>aq
    |none=>aq
   |some (.panic x,h')=>aa (.panic x,e,h')
   |none=>aq
  |_=>aq
 |_,_,_=>aq
def uO(e:Env)(h:ak):List ResultVar->Option (List AV)
 | []=>aa []
 | .tmp t::r=>(uO e h r).map (e.get t::·)
 | .cell a t::r=>
  match aI P G h t (e.get a),uO e h r with
  |some x,aa l=>aa (x::l)
  |_,_=>aq
def GA(fn:Func)(e:Env)(h:ak):Option AV:=
 match uO P G e h fn.results.toList with
 |some [x]=>aa x
 |some l=>aa (.tuple l)
 |none=>aq
def gM(fn:Func)(e:Env):List (FuncId × List AV)->Option (AV × Bool)->ak->Option (eK × ak)
 | [],aq,h=>(GA P G fn e h).map λx=>(.ret x,h)
 | [],aa (x,_),h=>aa (.panic x,h)
 |(g,args)::ds,m,h=>
  match R.jy g args m h with
  |some (.ret _,aa (_,ah),h)=>gM fn e ds aq h
  |some (.ret _,m,h)=>gM fn e ds m h
  |_=>aq
def qS(g:FuncId)(args:List AV)(m:Option (AV × Bool))(h:ak):Option (eK × Option (AV × Bool) × ak):=
 match P.funcs[g]? with
 |none=>aq
 |some fn=>
  match fn.body with
  |none=>aq
  |some body=>
   match R.code body {tmps:={ch:=[],base:=args},defers:=[],cD:=m,round:=aq} h with
   |some (.normal,e,h)|some (.ret,e,h)=>(gM P G R fn e e.defers aq h).map λ(r,h)=>(r,e.cD,h)
   |some (.panic x,e,h)=>(gM P G R fn e e.defers (aa (x,av)) h).map λ(r,h)=>(r,e.cD,h)
   |_=>aq
def qk(prims:FuncId->Option (List AV->ak->Option (AV × ak)))(g:FuncId)(args:List AV)(h:ak):Option (eK × ak):=
 match prims g with
 |some p=>(p args h).map λ(x,h)=>(.ret x,h)
 |none=>(qS P G R g args aq h).map λ(r,_,h)=>(r,h)
def uQ(l:Nat)(args:List AV)(h:ak):Option (eK × ak):=
 match h.loops[l]? with
 |none=>aq
 |some r=>
  if r.params.size=args.length then
   match R.code r.assign {tmps:=Eb r.params.toList args r.tmps,defers:=[],cD:=aq,round:=aa l} h with
   |some (.normal,e,h)=>
    match h.loops[l]? with
    |some r2=>
     if r2.state=.ready then
      match R.code r.body e {h with loops:=h.loops.set l {r2 with state:=.busy}} with
      |some (.normal,_,h)=>(h.loops[l]?).map λr=>(.ret (.v (.bool ah)),{h with loops:=h.loops.set l {r with state:=.ready,pending:=aq}})
      |some (.ret,_,h)=>(h.loops[l]?).map λr=>(.ret (.v (.bool av)),{h with loops:=h.loops.set l {r with state:=.done,pending:=aa .ret}})
      |some (.exit id,_,h)=>(h.loops[l]?).map λr=>(.ret (.v (.bool av)),{h with loops:=h.loops.set l {r with state:=.done,pending:=aa (.exit id)}})
      |some (.panic x,_,h)=>aa (.panic x,h)
      |none=>aq
     else aq
    |none=>aq
   |_=>aq
  else aq
end
noncomputable def ig(P:Program)(G:Nat->Option (List AV))(prims:FuncId->Option (List AV->ak->Option (AV × ak)))(n:Nat):Rec:=
 Nat.rec (motive:=λ_=>Rec) {code:=λ_ _ _=>aq,call:=λ_ _ _=>aq,jy:=λ_ _ _ _=>aq,round:=λ_ _ _=>aq}
  (λ_ R=>{code:=ff P G R,call:=qk P G R prims,jy:=qS P G R,round:=uQ R}) n
end Go.AE
end
section
namespace Go.AE
open Go.RowKit (Below)
def Gw{α}{P}:∀{e:Sem α} {a:α},gy P e=aa a->∀w,e.run P w=.ok a w:=by
 intro e
 induction e with
 |pure a=>intro b h w;simp[gy] at h;subst h;rfl|program k ih=>intro b h w;simp only[gy] at h;simp only[Sem.run];exact ih _ h w|mark m k ih=>intro b h w;simp only[gy] at h;simp only[Sem.run];exact ih h w|_=>intro b h;simp[gy] at h
structure aS where
 base:Nat
 ic:Nat->Nat->Option Value
 β:List Nat
 γ:List Nat
 tn:Nat
 tk:Nat->Nat × Nat × Nat
 md:List Nat
 lb:Nat->Option (Nat × Nat × Nat)
structure aS.Le(K K':aS):Prop where
 base:K'.base=K.base
 ic:∀g j c,K.ic g j=aa c->K'.ic g j=aa c
 β:∀b g:Nat,K.β[b]?=aa g->K'.β[b]?=aa g
 γ:∀l g:Nat,K.γ[l]?=aa g->K'.γ[l]?=aa g
 tn:K.tn<=K'.tn
 tk:∀t,t<K.tn->K'.tk t=K.tk t
 md:∀r∈K.md,r∈K'.md
 lb:∀b,b<K.β.length->K'.lb b=K.lb b
 new:∀g j c,K'.ic g j=aa c->K.ic g j=aa c∨K.base<=g
def aS.Le.refl(K:aS):K.Le K:=⟨rfl,λ_ _ _ h=>h,λ_ _ h=>h,λ_ _ h=>h,aJ _,λ_ _=>rfl,λ_ h=>h,λ_ _=>rfl,λ_ _ _ h=>.inl h⟩
def aS.Le.len{K K':aS}(h:K.Le K'){b}(hb:b<K.β.length):b<K'.β.length:=(aP.1 (h.β b _ (aO hb))).1
def aS.Le.trans{A B C:aS}(h:A.Le B)(k:B.Le C):A.Le C:=
 ⟨k.base.trans h.base,λg j c hc=>k.ic g j c (h.ic g j c hc),λb g hb=>k.β b g (h.β b g hb),λb g hb=>k.γ b g (h.γ b g hb),fe h.tn k.tn,
  λt ht=>(k.tk t (mq ht h.tn)).trans (h.tk t ht),λr hr=>k.md r (h.md r hr),λb hb=>(k.lb b (h.len hb)).trans (h.lb b hb),λg j c hc=>(k.new g j c hc).elim (h.new g j c) λq=>.inr (by rw[<-h.base];exact q)⟩
def vf(K:aS)(k:Tok)(g off sz n aB:Nat):Prop:=
 n<=aB/\match k with
  | .nil=>False
  | .tight=>aB=n
  | .free t=>t<K.tn/\(K.tk t).1=g/\(K.tk t).2.1=off+n * sz/\off+aB * sz<=(K.tk t).2.2
  | .held=>True
def vf.mono{K K'}(h:K.Le K'){k}{g off sz n aB}(ht:vf K k g off sz n aB):vf K' k g off sz n aB:=by
 refine⟨ht.1,?_⟩;have h2:=ht.2;cases k with|free t=>simp only at h2 ⊢;rw[h.tk t h2.1];exact⟨mq h2.1 h.tn,h2.2⟩|_=>exact h2
mutual
inductive aT (K:aS):AV->Value->Prop
 |bad (c:Value):aT K .bad c
 |v (x:Value) (h:scalar x=ah):aT K (.v x) x
 |nil (sz:Nat):aT K (.list .nil sz []) (.slice aq 0 0)
 |jb (sz:Nat) (a:Addr):aT K (.list .tight sz []) (.slice (aa a) 0 0)
 |list (k:Tok) (sz:Nat) (es:List (List AV)) (g off n aB:Nat) (cells:List Value) (hn:n=es.length) (hr:∀r∈es,r.length=sz)
  (hv:aM K es.flatten cells) (hc:∀j c,cells[j]?=aa c->K.ic g (off+j)=aa c) (ht:vf K k g off sz n aB)
  (ha:es.flatten.all AV.dN=ah):aT K (.list k sz es) (.slice (aa ⟨g,off,aq⟩) n aB)
 |arr (b g off len aB fa hY:Nat) (hb:K.β[b]?=aa g) (hl:len<=aB) (hc:aB<=hY) (ho:fa=off∨aB=0)
  (hr:hY=aB∨aB=0∨off≠0∨∃sz room,K.lb b=aa (aB,sz,room)/\0<sz/\hY * sz<=room):aT K (.arr b off len aB) (.slice (aa ⟨g,fa,aq⟩) len hY)
 |agg (cs:List AV) (vs:Array Value) (h:aM K cs vs.toList):aT K (.agg cs) (.agg vs)
 |tuple (cs:List AV) (vs:Array Value) (h:aM K cs vs.toList):aT K (.tuple cs) (.tuple vs)
 |box (b g off:Nat) (hb:K.β[b]?=aa g):aT K (.ptr (.box b) off) (.pointer (aa ⟨g,off,aq⟩))
 |eD (g off:Nat):aT K (.ptr (.eD g) off) (.pointer (aa ⟨g,off,aq⟩))
 |elem (sz:Nat) (es:List (List AV)) (i off g o p:Nat) (cells:List Value) (hr:∀r∈es,r.length=sz) (hv:aM K es.flatten cells)
  (hc:∀j c,cells[j]?=aa c->K.ic g (o+j)=aa c) (hi:i<es.length) (hp:p=o+i * sz+off)
  (ha:es.flatten.all AV.dN=ah):aT K (.elem sz es i off) (.pointer (aa ⟨g,p,aq⟩))
 |func (fn:Fn) (first aB:List AV) (fs cs:Array Value) (h1:aM K first fs.toList) (h2:aM K aB cs.toList):aT K (.func fn first aB) (.func fn fs cs)
 |yield (l g:Nat) (h:K.γ[l]?=aa g):aT K (.yield l) (.func (.yield g) #[] #[])
 |iface (t:TypeId) (x:AV) (c:Value) (h:aT K x c):aT K (.iface t x) (.iface t c)
inductive aM (K:aS):List AV->List Value->Prop
 |nil:aM K [] []
 |cons (x:AV) (c:Value) (xs:List AV) (cs:List Value) (h:aT K x c) (hs:aM K xs cs):aM K (x::xs) (c::cs)
end
mutual
def aT.mono{K K':aS}(h:K.Le K'):∀{x:AV} {c:Value},aT K x c->aT K' x c
 |_,_,.bad c=>.bad c
 |_,_,.v x hx=>.v x hx
 |_,_,.nil sz=>.nil sz
 |_,_,.jb sz a=>.jb sz a
 |_,_,.list k sz es g off n aB cells hn hr hv hc ht ha=>.list k sz es g off n aB cells hn hr (aM.mono h hv) (λj c hj=>h.ic _ _ _ (hc j c hj)) (ht.mono h) ha
 |_,_,.arr b g off len aB fa hY hb hl hc ho hr=>.arr b g off len aB fa hY (h.β _ _ hb) hl hc ho (by rw[h.lb b (aP.1 hb).1];exact hr)
 |_,_,.agg cs vs hv=>.agg cs vs (aM.mono h hv)
 |_,_,.tuple cs vs hv=>.tuple cs vs (aM.mono h hv)
 |_,_,.box b g off hb=>.box b g off (h.β _ _ hb)
 |_,_,.eD g off=>.eD g off
 |_,_,.elem sz es i off g o p cells hr hv hc hi hp ha=>.elem sz es i off g o p cells hr (aM.mono h hv) (λj c hj=>h.ic _ _ _ (hc j c hj)) hi hp ha
 |_,_,.func fn first aB fs cs h1 h2=>.func fn first aB fs cs (aM.mono h h1) (aM.mono h h2)
 |_,_,.yield l g hl=>.yield l g (h.γ _ _ hl)
 |_,_,.iface t x c hx=>.iface t x c (aT.mono h hx)
def aM.mono{K K':aS}(h:K.Le K'):∀{xs:List AV} {cs:List Value},aM K xs cs->aM K' xs cs
 |_,_,.nil=>.nil
 |_,_,.cons x c xs cs hx hs=>.cons x c xs cs (aT.mono h hx) (aM.mono h hs)
end
def Dv:Value->Bool
 | .agg _| .tuple _=>av
 |_=>ah
section
variable {K:aS}
def aM.length{xs:List AV}{cs:List Value}(h:aM K xs cs):xs.length=cs.length:=by
 induction xs generalizing cs with
 |nil=>cases h;rfl
 |cons x xs ih=>cases h with|cons _ _ _ _ _ hs=>simp[ih hs]
def aM.get{xs:List AV}{cs:List Value}(h:aM K xs cs):∀{i:Nat} {x:AV},xs[i]?=aa x->∃c,cs[i]?=aa c/\aT K x c:=by
 induction xs generalizing cs with
 |nil=>intro i x hx;simp at hx|cons y xs ih=>
  cases h with
  |cons _ c _ cs hy hs=>
   intro i x hx;cases i with|zero=>simp at hx;subst hx;exact⟨c,rfl,hy⟩|succ i=>exact ih hs (by simpa using hx)
def aM.get'{xs:List AV}{cs:List Value}(h:aM K xs cs):∀{i:Nat} {c:Value},cs[i]?=aa c->∃x,xs[i]?=aa x/\aT K x c:=by
 induction xs generalizing cs with
 |nil=>cases h;intro i x hx;simp at hx
 |cons y xs ih=>
  cases h with
  |cons _ c _ cs hy hs=>
   intro i x hx;cases i with|zero=>simp at hx;subst hx;exact⟨y,rfl,hy⟩|succ i=>exact ih hs (by simpa using hx)
def aM.of{xs:List AV}{cs:List Value}(hl:xs.length=cs.length)(h:∀(i:Nat) (x:AV) (c:Value),xs[i]?=aa x->cs[i]?=aa c->aT K x c):aM K xs cs:=by
 induction xs generalizing cs with
 |nil=>cases cs with|nil=>exact .nil|cons _ _=>simp at hl
 |cons y xs ih=>
  cases cs with|nil=>simp at hl|cons c cs=>exact .cons _ _ _ _ (h 0 y c rfl rfl) (ih (by simpa using hl) λi x c hx hc=>h (i+1) x c (by simpa using hx) (by simpa using hc))
def aM.append{xs ys:List AV}{cs ds:List Value}(h:aM K xs cs)(k:aM K ys ds):aM K (xs++ys) (cs++ds):=by
 induction xs generalizing cs with
 |nil=>cases h;exact k
 |cons y xs ih=>cases h with|cons _ _ _ _ hy hs=>exact .cons _ _ _ _ hy (ih hs)
def aM.take{xs:List AV}{cs:List Value}(h:aM K xs cs)(n:Nat):aM K (xs.take n) (cs.take n):=by
 refine .of (by simp[h.length]) λi x c hx hc=>?_;simp only[nC] at hx hc;split at hx
 ·rename_i hi;rw[aF hi] at hc;obtain⟨c',gV,hr⟩:=h.get hx;rw[hc] at gV;injection gV with e;subst e;exact hr
 ·cases hx
def aM.drop{xs:List AV}{cs:List Value}(h:aM K xs cs)(n:Nat):aM K (xs.drop n) (cs.drop n):=by refine .of (by simp[h.length]) λi x c hx hc=>?_;simp only[nZ] at hx hc;obtain⟨c',gV,hr⟩:=h.get hx;rw[hc] at gV;injection gV with e;subst e;exact hr
def aM.set{xs:List AV}{cs:List Value}(h:aM K xs cs)(i:Nat){x:AV}{c:Value}(hx:aT K x c):aM K (xs.set i x) (cs.set i c):=by
 refine .of (by simp[h.length]) λj y d hy hd=>?_;simp only[lR] at hy hd;split at hy
 ·rename_i e;subst e;rw[aF rfl] at hd;split at hy
  ·rename_i aA;rw[aF (h.length ▸ aA)] at hd;injection hy with hy;injection hd with hd;subst hy;subst hd;exact hx
  ·cases hy
 ·rename_i e;rw[aG e] at hd;obtain⟨c',gV,hr⟩:=h.get hy;rw[hd] at gV;injection gV with e;subst e;exact hr
def aM.map_mk{α:Type}{l:List α}{f:α->AV}{f':α->Value}(h:∀a∈l,aT K (f a) (f' a)):aM K (l.map f) (l.map f'):=by
 induction l with
 |nil=>exact .nil|cons a l ih=>exact .cons _ _ _ _ (h a bh) (ih λb hb=>h b (by simp[hb]))
def aT.iB{x:Value}{c:Value}(h:aT K (.v x) c):c=x/\scalar x=ah:=by cases h with|v _ h=>exact⟨rfl,h⟩
def Mv:∀{cs:List AV} {l:List Value},AD cs=aa l->∀{vs:List Value},aM K cs vs->vs=l
 | [],l,h,_,hv=>by cases hv;simp[AD] at h;exact h.symm ▸ rfl
 | .v x::r,l,h,_,hv=>by
  cases hv with|cons _ c _ cs hx hs=>simp only[AD,dh] at h;obtain⟨l',rq,rfl⟩:=h;rw[(aT.iB hx).1,Mv rq hs]
 | .bad::_,_,h,_,_| .list .. ::_,_,h,_,_| .arr .. ::_,_,h,_,_| .agg _::_,_,h,_,_| .tuple _::_,_,h,_,_| .ptr .. ::_,_,h,_,_
 | .elem .. ::_,_,h,_,_| .func .. ::_,_,h,_,_| .yield _::_,_,h,_,_| .iface .. ::_,_,h,_,_=>by simp[AD] at h
def Iv{x:AV}{p:Value}(h:x.flat=some p){c:Value}(hv:aT K x c):c=p:=by
 unfold AV.flat at h;split at h
 ·injection h with h;subst h;exact(aT.iB hv).1
 ·simp only[dh] at h;obtain⟨l,hl,rfl⟩:=h;cases hv with|agg _ vs hs=>rw[<-Mv hl hs]
 ·injection h with h;subst h;cases hv with|iface _ _ _ hx=>rw[(aT.iB hx).1]
 ·simp only[dh] at h;obtain⟨l,hl,rfl⟩:=h;cases hv with|iface _ _ _ hx=>cases hx with|agg _ vs hs=>rw[<-Mv hl hs]
 ·injection h with h;subst h;cases hv with|nil=>rfl|list _ _ _ _ _ _ _ _ _ _ _ _ ht _=>exact ht.2.elim
 ·cases h
def Mu:∀{xs:List AV} {l:List Value},flatAll xs=aa l->∀{vs:List Value},aM K xs vs->vs=l
 | [],l,h,_,hv=>by cases hv;simp[flatAll] at h;exact h.symm ▸ rfl
 |x::r,l,h,_,hv=>by
  cases hv with
  |cons _ c _ cs hx hs=>
   simp only[flatAll] at h;split at h
   ·rename_i v l' h1 h2;injection h with h;subst h;rw[Iv h1 hx,Mu h2 hs]
   ·cases h
def G7{z:Value}{x:AV}(h:oB z=aa x):aT K x z:=by
 unfold oB at h;split at h
 ·injection h with h;subst h;exact .v _ ‹_›
 ·cases h
def OT(x:Value):aT K (uF x) x:=by
 unfold uF;split
 ·exact .nil 0
 ·split
  ·exact .v _ ‹_›
  ·exact .bad _
def JA(x:Value):aT K (rG x) x:=by
 unfold rG;split
 ·rename_i cs;refine .agg _ _ ?_;have:aM K (cs.toList.map uF) (cs.toList.map id):=aM.map_mk λa _=>OT a;simpa using this
 ·split
  ·rename_i vs h;have:vs=#[]:=(by simpa using h);subst this;exact .tuple _ _ .nil
  ·exact .bad _
 ·exact .iface _ _ _ (OT _)
 ·exact OT _
def Ie{x:AV}{cs:List AV}(h:x.b8=aa cs){c:Value}(hv:aT K x c):aM K cs c.cells.toList/\cs.all AV.dN=ah:=by
 unfold AV.b8 at h;split at h
 ·split at h
  ·rename_i ha;injection h with h;subst h;cases hv with|agg _ vs hs=>exact⟨hs,ha⟩
  ·cases h
 ·cases h
 ·cases h
 ·rename_i h1 h2 h3;injection h with h;subst h;have pF:x.dN=ah:=by cases x<;>first|rfl|exact absurd rfl (h1 _)|exact absurd rfl (h2 _)|exact absurd rfl h3
  refine⟨?_,by simp[pF]⟩;have:c.cells=#[c]:=by cases hv<;>first|rfl|exact absurd rfl (h1 _)|exact absurd rfl (h2 _)|exact absurd rfl h3|(cases c<;>first|rfl|simp[scalar] at *)
  rw[this];exact .cons _ _ _ _ hv .nil
def aiG{c}(h:scalar c=ah):Dv c=ah:=by cases c<;>first|rfl|simp[scalar] at h
def aiF{x:AV}(h:x.dN=ah){c:Value}(hv:aT K x c):Dv c=ah:=by cases hv<;>first|rfl|exact aiG ‹_›|(simp[AV.dN] at h;done)
end
def ym(K:aS)(b:Nat)(cs:List AV)(cells:Array Value):Prop:=
 aM K cs (cells.toList.take cs.length)/\∀N sz room,K.lb b=aa (N,sz,room)->cs=[]∨(cs.length=N * sz/\room<=cells.size)
def ym.mono{K K'}(h:K.Le K'){b}(hb:b<K.β.length){cs}{cells}(r:ym K b cs cells):ym K' b cs cells:=
 ⟨r.1.mono h,by rw[h.lb b hb];exact r.2⟩
def ym.nil{K}{b}{cells}:ym K b [] cells:=⟨.nil,λ_ _ _ _=>.inl rfl⟩
def ym.le{K}{b}{cs}{cells}(r:ym K b cs cells):cs.length<=cells.size:=by have:=r.1.length;rw[eP] at this;simp only[wG] at this;omega
def lX(K:aS)(s:oG)(tmps:Array Value):Prop:=∀t,aT K (s.get t) (tmps.getD t undef)
def lX.mono{K K'}(h:K.Le K'){s}{tmps}(hs:lX K s tmps):lX K' s tmps:=λt=>(hs t).mono h
structure bN(K:aS)(G:Nat->Option (List AV))(ok:FuncId->Nat->Code->Bool)(w0:World)(h:ak)(w:World):Prop where
 cU:Below K.base w0 w
 size:K.base<=w.heap.size
 ic:∀g j c,K.ic g j=aa c->w.cell? ⟨g,j,aq⟩=aa c
 eD:∀g cs,G g=aa cs->∃cells,aM K cs cells/\∀(j:Nat) (c:Value),cells[j]?=aa c->K.ic g j=aa c
 ki:K.β.length=h.boxes.length
 o7:∀(b b' g:Nat),K.β[b]?=aa g->K.β[b']?=aa g->b=b'∨h.boxes[b]?=aa []∨h.boxes[b']?=aa []
 box:∀(b g:Nat) (cs:List AV),K.β[b]?=aa g->h.boxes[b]?=aa cs->
  K.base<=g/\(∀j,K.ic g j=aq)/\cs.all AV.dN=ah/\∃cells e,w.heap[g]?=aa (.cells cells e (0,0))/\ym K b cs cells
 nA:K.γ.length=h.loops.length
 pY:∀(b b' g:Nat),K.γ[b]?=aa g->K.γ[b']?=aa g->b=b'
 loop:∀(l g:Nat) (r:ij),K.γ[l]?=aa g->h.loops[l]?=aa r->K.base<=g/\∃fn tmps d,
  w.heap[g]?=aa (.loop {state:=r.state,pending:=r.pending,fn,tmps,params:=r.params,assign:=r.assign,body:=r.body,defers:=d})/\
  lX K r.tmps tmps/\ok fn tmps.size r.assign=ah/\ok fn tmps.size r.body=ah/\∀p∈r.params.toList,p<tmps.size
 tn:K.tn=h.tn
 tok:∀t,alive h t=ah->K.base<=(K.tk t).1/\(∀b:Nat,K.β[b]?≠aa (K.tk t).1)/\(∀j,(K.tk t).2.1<=j->K.ic (K.tk t).1 j=aq)/\
  ∃cells e fz,w.heap[(K.tk t).1]?=aa (.cells cells e fz)/\cells.size=(K.tk t).2.2/\
   ∀j,(K.tk t).2.1<=j->j<cells.size->w.frozen? ⟨(K.tk t).1,j,aq⟩=av
 oZ:∀t t',alive h t=ah->alive h t'=ah->(K.tk t).1=(K.tk t').1->t=t'
 md:∀r∈K.md,K.base<=r/\w.heap[r]?=aa (.deferred (aa []))
 all:K.base=w0.heap.size
def Addr.lY(g o n):(⟨g,o,aq⟩:Addr).add n=⟨g,o+n,aq⟩:=by
 unfold Addr.add;split
 ·subst_vars;rfl
 ·rfl
def tX{h}{t}(ha:alive h t=ah):t<h.tn:=by unfold alive at ha;simp at ha;exact ha.1
section
variable {K:aS} {G:Nat->Option (List AV)} {ok:FuncId->Nat->Code->Bool} {w0 w:World} {h:ak}
def bN.zt(s:bN K G ok w0 h w){g j:Nat}{c:Value}(hc:K.ic g j=aa c):g<w.heap.size:=by
 have:=s.ic g j c hc;unfold World.cell? at this;rcases dI g w.heap.size with aA|dM
 ·exact aA
 ·simp[wF dM] at this
def bN.same{w':World}(s:bN K G ok w0 h w)(hh:w'.heap=w.heap)(ht:w'.tape=w.tape)(ho:w'.os=w.os)(hp:w'.output=w.output):bN K G ok w0 h w':=by
 have hc:∀a,w'.cell? a=w.cell? a:=λa=>by simp[World.cell?,hh]
 have hf:∀a,w'.frozen? a=w.frozen? a:=λa=>by simp[World.frozen?,hh]
 refine⟨⟨ho.trans s.cU.os,ht.trans s.cU.tape,hp.trans s.cU.output,by rw[hh];exact s.cU.size,λk hk=>by rw[hh];exact s.cU.block k hk⟩,by rw[hh];exact s.size,
  λg j c hg=>(hc _).trans (s.ic g j c hg),s.eD,s.ki,s.o7,λb g cs hb hc=>by rw[hh];exact s.box b g cs hb hc,s.nA,s.pY,
  λl g r hl hr=>by rw[hh];exact s.loop l g r hl hr,s.tn,λt ht=>?_,s.oZ,λr hr=>by rw[hh];exact s.md r hr,s.all⟩
 obtain⟨h1,h2,h3,cells,e,fz,h4,h5,h6⟩:=s.tok t ht;exact⟨h1,h2,h3,cells,e,fz,by rw[hh];exact h4,h5,λj hj hl=>(hf _).trans (h6 j hj hl)⟩
def bN.drew(s:bN K G ok w0 h w)(n:Nat):bN K G ok w0 h {w with drawn:=n}:=s.same rfl rfl rfl rfl
def AY(w:World)(o){k}(hk:k<w.heap.size):(w.heap.push o)[k]?=w.heap[k]?:=by rw[Array.getElem?_push,aG ag]
def nS{w:World}{g}{o}(h:w.heap[g]?=aa o):g<w.heap.size:=by
 rcases dI g w.heap.size with aA|dM
 ·exact aA
 ·rw[wF dM] at h;cases h
def bN.push(s:bN K G ok w0 h w)(o:Obj):bN K G ok w0 h {w with heap:=w.heap.push o}:=by
 have hk:∀{k:Nat} {o':Obj},w.heap[k]?=aa o'->(w.heap.push o)[k]?=aa o':=λhk=>(AY w o (nS hk)).trans hk;refine⟨⟨s.cU.os,s.cU.tape,s.cU.output,by have:=s.cU.size;simp;omega,λk hk=>(AY w o (mq hk s.size)).trans (s.cU.block k hk)⟩,by have:=s.size;simp;omega,
  λg j c hg=>?_,s.eD,s.ki,s.o7,λb g cs hb hc=>?_,s.nA,s.pY,λl g r hl hr=>?_,s.tn,λt ht=>?_,s.oZ,λr hr=>?_,s.all⟩
 ·rw[<-s.ic g j c hg];exact World.cell?_of_block (w:=w) (AY w o (s.zt hg))
 ·obtain⟨h1,h2,ha,cells,e,h3,h4⟩:=s.box b g cs hb hc;exact⟨h1,h2,ha,cells,e,hk h3,h4⟩
 ·obtain⟨h1,fn,tmps,d,h2,h3⟩:=s.loop l g r hl hr;exact⟨h1,fn,tmps,d,hk h2,h3⟩
 ·obtain⟨h1,h2,h3,cells,e,fz,h4,h5,h6⟩:=s.tok t ht;refine⟨h1,h2,h3,cells,e,fz,hk h4,h5,λj hj hl=>?_⟩;rw[<-h6 j hj hl];exact World.frozen?_of_block (w:=w) (AY w o (nS h4))
 ·exact⟨(s.md r hr).1,hk (s.md r hr).2⟩
def uh{α:Type}{l}{x}{i:Nat}{y:α}(h:l[i]?=aa y):(l++[x])[i]?=aa y:=by rw[qM (aP.1 h).1];exact h
def ri{α:Type}{l}{x}{i}{y:α}(h:(l++[x])[i]?=aa y):l[i]?=aa y∨(i=l.length/\y=x):=by
 rcases Nat.lt_trichotomy i l.length with aA|lI|FE
 ·rw[qM aA] at h;exact .inl h
 ·subst lI;simp at h;exact .inr ⟨rfl,h.symm⟩
 ·rw[List.getElem?_eq_none (by simp;omega)] at h;cases h
def aS.oj(K:aS)(g:Nat)(x:Option (Nat × Nat × Nat)):aS:={K with β:=K.β++[g],lb:=λb=>if b=K.β.length then x else K.lb b}
def aS.box(K:aS)(g:Nat):aS:=K.oj g aq
def aS.DE(K:aS)(g)(x):K.Le (K.oj g x):=
 ⟨rfl,λ_ _ _ h=>h,λ_ _ h=>uh h,λ_ _ h=>h,aJ _,λ_ _=>rfl,λ_ h=>h,λb hb=>aG ag,λ_ _ _ h=>.inl h⟩
def aS.Ow(K:aS)(g):K.Le (K.box g):=K.DE g aq
def bN.OO(s:bN K G ok w0 h w){cs:List AV}{cells:Array Value}(e:TypeId)(x:Option (Nat × Nat × Nat))(hv:aM K cs (cells.toList.take cs.length))(pE:cs.all AV.dN=ah)
 (hx:∀N sz room,x=aa (N,sz,room)->cs=[]∨(cs.length=N * sz/\room<=cells.size)):
 bN (K.oj w.heap.size x) G ok w0 {h with boxes:=h.boxes++[cs]} {w with heap:=w.heap.push (.cells cells e)}/\
 aT (K.oj w.heap.size x) (.ptr (.box h.boxes.length) 0) (.pointer (aa ⟨w.heap.size,0,aq⟩)):=by
 have le:=K.DE w.heap.size x;have p:=s.push (.cells cells e);have kK:(K.oj w.heap.size x).β[h.boxes.length]?=aa w.heap.size:=by simp[aS.oj,<-s.ki]
 have aA:∀{b g:Nat},K.β[b]?=aa g->g<w.heap.size:=λ{b g} hb=>by
  have js:b<h.boxes.length:=by rw[<-s.ki];exact(aP.1 hb).1
  obtain⟨_,_,_,_,_,h3,_⟩:=s.box b g _ hb (aO js);exact nS h3
 have A2:∀j,K.ic w.heap.size j=aq:=λj=>by
  cases hc:K.ic w.heap.size j with|none=>rfl|some c=>have:=s.zt hc;omega
 refine⟨⟨p.cU,p.size,p.ic,λg cs hg=>?_,by simp[aS.oj,s.ki],λb b' g hb gU=>?_,λb g dB hb hc=>?_,p.nA,p.pY,λl g r hl hr=>?_,p.tn,λt ht=>?_,p.oZ,p.md,s.all⟩,.box _ _ _ kK⟩
 ·obtain⟨dp,h1,h2⟩:=s.eD g cs hg;exact⟨dp,h1.mono le,h2⟩
 ·rcases ri hb with hb|⟨rfl,rfl⟩<;>rcases ri gU with gU|⟨rfl,h2⟩
  ·rcases s.o7 _ _ _ hb gU with p|p|p
   ·exact .inl p
   ·exact .inr (.inl (uh p))
   ·exact .inr (.inr (uh p))
  ·have:=aA hb;omega
  ·have:=aA gU;omega
  ·exact .inl rfl
 ·rcases ri hb with hb|⟨rfl,rfl⟩
  ·rcases ri hc with hc|⟨rfl,rfl⟩
   ·obtain⟨h1,h2,ha,dp,e',h3,h4⟩:=p.box b g dB hb hc;exact⟨h1,h2,ha,dp,e',h3,h4.mono le (aP.1 hb).1⟩
   ·have:h.boxes.length<K.β.length:=(aP.1 hb).1;have:=s.ki;omega
  ·have:dB=cs:=(by rw[s.ki] at hc;simp at hc;exact hc.symm);subst this;exact⟨s.size,A2,pE,cells,e,by simp,hv.mono le,by simp only[aS.oj,if_true];exact hx⟩
 ·obtain⟨h1,fn,tmps,d,h2,h3,h4⟩:=p.loop l g r hl hr;exact⟨h1,fn,tmps,d,h2,h3.mono le,h4⟩
 ·obtain⟨h1,h2,h3,dp,e',fz,h4,h5⟩:=p.tok t ht;refine⟨h1,λb hb=>?_,h3,dp,e',fz,h4,h5⟩;obtain⟨_,_,_,_,_,_,MI,_⟩:=s.tok t ht;rcases ri hb with hb|⟨_,hb⟩
  ·exact h2 b hb
  ·have:=nS MI;simp only[aS.oj] at hb;omega
def aM.whole{cs:List AV}{vs:List Value}(h:aM K cs vs):aM K cs (vs.take cs.length):=by rw[gm (by rw[h.length];exact aJ _)];exact h
def bN.ON(s:bN K G ok w0 h w){cs:List AV}{cells:Array Value}(e:TypeId)(hv:aM K cs cells.toList)(pE:cs.all AV.dN=ah):
 bN (K.box w.heap.size) G ok w0 {h with boxes:=h.boxes++[cs]} {w with heap:=w.heap.push (.cells cells e)}/\
 aT (K.box w.heap.size) (.ptr (.box h.boxes.length) 0) (.pointer (aa ⟨w.heap.size,0,aq⟩)):=s.OO e aq hv.whole pE (λ_ _ _ q=>by cases q)
structure sX(w w':World)(g:Nat)(o:Obj):Prop where
 os:w'.os=w.os
 tape:w'.tape=w.tape
 output:w'.output=w.output
 size:w'.heap.size=w.heap.size
 other:∀k,k≠g->w'.heap[k]?=w.heap[k]?
 this:w'.heap[g]?=aa o
def sX.lt{w w'}{g}{o}(c:sX w w' g o):g<w.heap.size:=c.size ▸ nS c.this
def sX.below{w w'}{g}{o}(c:sX w w' g o){B}(hB:B<=g):Below B w w':=
 ⟨c.os,c.tape,c.output,by rw[c.size];exact aJ _,λk hk=>c.other k ag⟩
def mN(fz:Nat × Nat)(j:Nat):Bool:=decide (fz.1<=j)&&decide (j<fz.2)
def yQ{w:World}{g}{cells}{e}{fz}(h:w.heap[g]?=aa (.cells cells e fz))(j):w.frozen? ⟨g,j,aq⟩=mN fz j:=by obtain⟨lo,hi⟩:=fz;simp[World.frozen?,h,mN]
def qW{w:World}{g}{cells}{e}{fz}(h:w.heap[g]?=aa (.cells cells e fz))(j):w.cell? ⟨g,j,aq⟩=cells[j]?:=by simp[World.cell?,h]
def bN.afl(s:bN K G ok w0 h w)(b:Nat):bN K G ok w0 {h with boxes:=h.boxes.set b []} w:=by
 refine⟨s.cU,s.size,s.ic,s.eD,by simp[s.ki],λb1 b2 g h1 h2=>?_,λb' g' dB gU gV=>?_,s.nA,s.pY,s.loop,s.tn,s.tok,s.oZ,s.md,s.all⟩
 ·have key:∀k,h.boxes[k]?=aa []->(h.boxes.set b [])[k]?=aa []:=λk hk=>by
   rw[lR];split
   ·rename_i e;subst e;rw[aF (aP.1 hk).1]
   ·exact hk
  rcases s.o7 _ _ _ h1 h2 with p|p|p
  ·exact .inl p
  ·exact .inr (.inl (key _ p))
  ·exact .inr (.inr (key _ p))
 ·simp only[lR] at gV;split at gV
  ·rename_i e';subst e';split at gV
   ·rename_i aA;injection gV with gV;subst gV;obtain⟨k1,k2,_,cells0,e0,k3,k4⟩:=s.box _ _ _ gU (aO aA);exact⟨k1,k2,rfl,cells0,e0,k3,.nil⟩
   ·cases gV
  ·exact s.box b' g' dB gU gV
def bN.apN{w':World}(s:bN K G ok w0 h w){b g:Nat}{cs cU:List AV}{cells:Array Value}{e:TypeId}(hb:K.β[b]?=aa g)(hold:h.boxes[b]?=aa cU)(bH:cU≠[])(hlen:cs.length=cU.length)(dH:∀c0 e0,w.heap[g]?=aa (.cells c0 e0 (0,0))->c0.size<=cells.size)
 (c:sX w w' g (.cells cells e (0,0))) (hv:aM K cs (cells.toList.take cs.length)) (pE:cs.all AV.dN=ah):bN K G ok w0 {h with boxes:=h.boxes.set b cs} w':=by
 have aA:=(aP.1 hold).1;obtain⟨k1,k2,_,cells0,e0,k3,k4⟩:=s.box b g _ hb hold;refine⟨s.cU.trans (c.below k1),by rw[c.size];exact s.size,λg' j x hx=>?_,s.eD,by simp[s.ki],λb1 b2 g h1 h2=>?_,λb' g' dB gU gV=>?_,s.nA,s.pY,λl g' r hl hr=>?_,s.tn,λt ht=>?_,s.oZ,λr hr=>?_,s.all⟩
 ·have bH:g'≠g:=by rintro rfl;rw[k2 j] at hx;cases hx
  rw[<-s.ic g' j x hx];exact World.cell?_of_block (w:=w) (c.other g' bH)
 ·have key:∀k,h.boxes[k]?=aa []->(h.boxes.set b cs)[k]?=aa []:=λk hk=>by
   rw[lR,aG]
   ·exact hk
   ·rintro rfl;rw[hold] at hk;injection hk with hk;exact bH hk
  rcases s.o7 _ _ _ h1 h2 with p|p|p
  ·exact .inl p
  ·exact .inr (.inl (key _ p))
  ·exact .inr (.inr (key _ p))
 ·simp only[lR] at gV;split at gV
  ·rename_i e';subst e';injection gV with gV;subst gV;rw[hb] at gU;injection gU with gU;subst gU;refine⟨k1,k2,pE,cells,e,c.this,hv,λN sz room q=>?_⟩;rcases k4.2 N sz room q with r|⟨r1,r2⟩
   ·exact absurd r bH
   ·exact .inr ⟨hlen.trans r1,fe r2 (dH _ _ k3)⟩
  ·rename_i I5;by_cases iF:g'=g
   ·subst iF;rcases s.o7 _ _ _ hb gU with p|p|p
    ·exact absurd p I5
    ·rw[hold] at p;injection p with p;exact absurd p bH
    ·rw[gV] at p;injection p with p;subst p;exact⟨k1,k2,rfl,cells,e,c.this,.nil⟩
   ·obtain⟨h1,h2,ha,dp,e',h3,h4⟩:=s.box b' g' dB gU gV;exact⟨h1,h2,ha,dp,e',(c.other g' iF).trans h3,h4⟩
 ·obtain⟨h1,fn,tmps,d,h2,h3⟩:=s.loop l g' r hl hr;have iF:g'≠g:=by rintro rfl;rw[h2] at k3;cases k3
  exact⟨h1,fn,tmps,d,(c.other g' iF).trans h2,h3⟩
 ·obtain⟨h1,h2,h3,dp,e',fz,h4,h5,h6⟩:=s.tok t ht;have iF:(K.tk t).1≠g:=λe=>h2 b (e ▸ hb);refine⟨h1,h2,h3,dp,e',fz,(c.other _ iF).trans h4,h5,λj hj hl=>?_⟩;rw[<-h6 j hj hl];exact World.frozen?_of_block (w:=w) (c.other _ iF)
 ·have h2:=(s.md r hr).2;have iF:r≠g:=by rintro rfl;rw[h2] at k3;cases k3
  exact⟨(s.md r hr).1,(c.other r iF).trans h2⟩
def bN.aru{w':World}(s:bN K G ok w0 h w){g:Nat}{cs:List AV}{cells:Array Value}{e:TypeId}(hg:K.base<=g)(ir:∀j,K.ic g j=aq)(MZ:∀b:Nat,K.β[b]?=aa g->h.boxes[b]?=aa [])
 (aij:∀t,alive h t=ah->(K.tk t).1≠g) {c0:Array Value} {e0:TypeId} {z0:Nat × Nat} (Bi:w.heap[g]?=aa (.cells c0 e0 z0))
 (x:Option (Nat × Nat × Nat)) (hx:∀N sz room,x=aa (N,sz,room)->cs=[]∨(cs.length=N * sz/\room<=cells.size))
 (c:sX w w' g (.cells cells e (0,0))) (hv:aM K cs (cells.toList.take cs.length)) (pE:cs.all AV.dN=ah):
 bN (K.oj g x) G ok w0 {h with boxes:=h.boxes++[cs]} w'/\(K.oj g x).β[h.boxes.length]?=aa g:=by
 have le:=K.DE g x;have kK:(K.oj g x).β[h.boxes.length]?=aa g:=by simp[aS.oj,<-s.ki]
 refine⟨⟨s.cU.trans (c.below hg),by rw[c.size];exact s.size,λg' j x hx=>?_,λg' dB hg'=>?_,by simp[aS.oj,s.ki],λb b' g' hb gU=>?_,λb g' dB hb hc=>?_,s.nA,s.pY,λl g' r hl hr=>?_,s.tn,λt ht=>?_,s.oZ,λr hr=>?_,s.all⟩,kK⟩
 ·have rD:K.ic g' j=aa x:=hx;have bH:g'≠g:=λq=>by rw[q,ir j] at rD;cases rD
  rw[<-s.ic g' j x rD];exact World.cell?_of_block (w:=w) (c.other g' bH)
 ·obtain⟨dp,h1,h2⟩:=s.eD g' dB hg';exact⟨dp,h1.mono le,h2⟩
 ·rcases ri hb with p|⟨p1,p2⟩<;>rcases ri gU with q|⟨q1,q2⟩
  ·rcases s.o7 _ _ _ p q with r|r|r
   ·exact .inl r
   ·exact .inr (.inl (uh r))
   ·exact .inr (.inr (uh r))
  ·subst q2;exact .inr (.inl (uh (MZ _ p)))
  ·subst p2;exact .inr (.inr (uh (MZ _ q)))
  ·exact .inl (by rw[p1,q1])
 ·rcases ri hb with p|⟨p1,p2⟩
  ·have js:b<h.boxes.length:=(by rw[<-s.ki];exact(aP.1 p).1);rw[qM js] at hc;by_cases iF:g'=g
   ·subst iF;have:=MZ b p;rw[hc] at this;injection this with this;subst this;exact⟨hg,ir,rfl,cells,e,c.this,.nil⟩
   ·obtain⟨h1,h2,ha,dp,e',h3,h4⟩:=s.box b g' dB p hc;exact⟨h1,h2,ha,dp,e',(c.other g' iF).trans h3,h4.mono le (aP.1 p).1⟩
  ·subst p2;have:dB=cs:=(by rw[p1,s.ki] at hc;simp at hc;exact hc.symm);subst this;exact⟨hg,ir,pE,cells,e,c.this,hv.mono le,by rw[p1];simp only[aS.oj,if_true];exact hx⟩
 ·obtain⟨h1,fn,tmps,d,h2,h3,h4⟩:=s.loop l g' r hl hr;have iF:g'≠g:=by rintro rfl;rw[h2] at Bi;cases Bi
  exact⟨h1,fn,tmps,d,(c.other g' iF).trans h2,h3.mono le,h4⟩
 ·obtain⟨h1,h2,h3,dp,e',fz,h4,h5,h6⟩:=s.tok t ht;have iF:=aij t ht;refine⟨h1,λb hb=>?_,h3,dp,e',fz,(c.other _ iF).trans h4,h5,λj hj hl=>?_⟩
  ·rcases ri hb with p|⟨-,p⟩
   ·exact h2 b p
   ·exact iF p
  ·rw[<-h6 j hj hl];exact World.frozen?_of_block (w:=w) (c.other _ iF)
 ·have h2:=(s.md r hr).2;have iF:r≠g:=by rintro rfl;rw[h2] at Bi;cases Bi
  exact⟨(s.md r hr).1,(c.other r iF).trans h2⟩
def aS.row(K:aS)(g off m size:Nat)(cells:Nat->Option Value):aS:=
 {K with ic:=λg' j=>if g'=g/\off<=j/\j<m then cells j else K.ic g' j,tn:=K.tn+1,tk:=λt=>if t=K.tn then (g,m,size) else K.tk t}
def aS.Oy{K:aS}{g off m size}{cells}(h:∀j,off<=j->K.ic g j=aq)(hb:K.base<=g):K.Le (K.row g off m size cells):=by
 refine⟨rfl,λg' j c hc=>?_,λ_ _ h=>h,λ_ _ h=>h,Nat.le_succ _,λt ht=>?_,λ_ h=>h,λ_ _=>rfl,λg' j c hc=>?_⟩
 ·simp only[aS.row];rw[aG]
  ·exact hc
  ·rintro⟨rfl,h1,_⟩;rw[h j h1] at hc;cases hc
 ·simp only[aS.row];rw[aG ag]
 ·simp only[aS.row] at hc;split at hc
  ·rename_i q;rw[q.1];exact .inr hb
  ·exact .inl hc
def bN.row{w':World}{h':ak}(s:bN K G ok w0 h w){g off m:Nat}{cells:Array Value}{e:TypeId}{fz:Nat × Nat}
 (Fw:h'.boxes=h.boxes) (U1:h'.loops=h.loops) (sJ:h'.tn=h.tn+1) (dY:∀t,alive h' t=ah->t=h.tn∨(alive h t=ah/\(K.tk t).1≠g))
 (yW:K.base<=g) (I5:∀b:Nat,K.β[b]?≠aa g) (ir:∀j,off<=j->K.ic g j=aq) (dH:w.heap.size<=w'.heap.size)
 (NL:w'.os=w.os) (N8:w'.tape=w.tape) (zi:w'.output=w.output)
 (mS:∀k o,k≠g->w.heap[k]?=aa o->w'.heap[k]?=aa o) (np:w'.heap[g]?=aa (.cells cells e fz))
 (Bi:∀o,w.heap[g]?=aa o->∃c0 e0 z0,o=.cells c0 e0 z0)
 (ahF:∀j c,K.ic g j=aa c->cells[j]?=aa c) (hom:off<=m) (_hm:m<=cells.size) (vI:∀j,m<=j->j<cells.size->mN fz j=av):
 bN (K.row g off m cells.size (λj=>cells[j]?)) G ok w0 h' w':=by
 have le:=aS.Oy (m:=m) (size:=cells.size) (cells:=λj=>cells[j]?) ir yW;refine⟨?_,fe s.size dH,λg' j x hx=>?_,λg' cs hg=>?_,by rw[Fw];exact s.ki,by rw[Fw];exact s.o7,λb g' cs hb hc=>?_,by rw[U1];exact s.nA,s.pY,λl g' r hl hr=>?_,by rw[sJ];simp[aS.row,s.tn],
  λt ht=>?_,λt t' ht F5 lI=>?_,λr hr=>?_,s.all⟩
 ·refine s.cU.trans ⟨NL,N8,zi,dH,λk hk=>?_⟩;have aA:k<w.heap.size:=mq hk s.size;have A3:w.heap[k]?=aa (w.heap[k]):=lQ aA;have zd:k<K.base:=hk;rw[A3];exact mS k _ ag A3
 ·simp only[aS.row] at hx;split at hx
  ·rename_i hc;obtain⟨rfl,_,_⟩:=hc;rw[qW np];exact hx
  ·by_cases iF:g'=g
   ·subst iF;rw[qW np];exact ahF j x hx
   ·have aA:=s.zt hx;rw[<-s.ic g' j x hx];refine World.cell?_of_block (w:=w) ?_;simp only;rw[lQ aA];exact mS g' _ iF (lQ aA)
 ·obtain⟨dp,h1,h2⟩:=s.eD g' cs hg;exact⟨dp,h1.mono le,λj c hj=>le.ic _ _ _ (h2 j c hj)⟩
 ·rw[Fw] at hc;obtain⟨h1,h2,ha,dp,e',h3,h4⟩:=s.box b g' cs hb hc;have iF:g'≠g:=λe=>I5 b (e ▸ hb);refine⟨h1,λj=>?_,ha,dp,e',mS g' _ iF h3,h4.mono le (aP.1 hb).1⟩;simp only[aS.row];rw[aG (λhh=>iF hh.1)];exact h2 j
 ·rw[U1] at hr;obtain⟨h1,fn,tmps,d,h2,h3,h4⟩:=s.loop l g' r hl hr;have iF:g'≠g:=by rintro rfl;obtain⟨_,_,_,h⟩:=Bi _ h2;cases h
  exact⟨h1,fn,tmps,d,mS g' _ iF h2,h3.mono le,h4⟩
 ·rcases dY t ht with rfl|⟨vO,uy⟩
  ·simp only[aS.row,s.tn,if_true];refine⟨yW,I5,λj hj=>?_,cells,e,fz,np,rfl,λj hj hl=>(yQ np j).trans (vI j hj hl)⟩;rw[aG ag];exact ir j ag
  ·have aii:=tX vO;have e1:(K.row g off m cells.size (λj=>cells[j]?)).tk t=K.tk t:=le.tk t (by rw[s.tn];exact aii);rw[e1];obtain⟨h1,h2,h3,dp,e',fz',h4,h5,h6⟩:=s.tok t vO;refine⟨h1,h2,λj hj=>?_,dp,e',fz',mS _ _ uy h4,h5,λj hj hl=>?_⟩
   ·simp only[aS.row];rw[aG (λhh=>uy hh.1)];exact h3 j hj
   ·rw[<-h6 j hj hl,yQ h4,yQ (mS _ _ uy h4)]
 ·rcases dY t ht with rfl|⟨vO,uy⟩<;>rcases dY t' F5 with rfl|⟨N7,aif⟩
  ·rfl
  ·exfalso;have e1:(K.row g off m cells.size (λj=>cells[j]?)).tk t'=K.tk t':=le.tk t' (by rw[s.tn];exact tX N7);rw[e1] at lI;simp[aS.row,s.tn] at lI;exact aif lI.symm
  ·exfalso;have e1:(K.row g off m cells.size (λj=>cells[j]?)).tk t=K.tk t:=le.tk t (by rw[s.tn];exact tX vO);rw[e1] at lI;simp[aS.row,s.tn] at lI;exact uy lI
  ·have e1:(K.row g off m cells.size (λj=>cells[j]?)).tk t=K.tk t:=le.tk t (by rw[s.tn];exact tX vO);have e2:(K.row g off m cells.size (λj=>cells[j]?)).tk t'=K.tk t':=le.tk t' (by rw[s.tn];exact tX N7);rw[e1,e2] at lI;exact s.oZ t t' vO N7 lI
 ·obtain⟨h1,h2⟩:=s.md r hr;have iF:r≠g:=by rintro rfl;obtain⟨_,_,_,h⟩:=Bi _ h2;cases h
  exact⟨h1,mS r _ iF h2⟩
def aS.tight(K:aS)(g:Nat)(cells:Array Value):aS:={K with ic:=λg' j=>if g'=g then cells[j]? else K.ic g' j}
def bN.aj4(s:bN K G ok w0 h w)(cells:Array Value)(e:TypeId):
 K.Le (K.tight w.heap.size cells)/\bN (K.tight w.heap.size cells) G ok w0 h {w with heap:=w.heap.push (.cells cells e)}:=by
 have A2:∀j,K.ic w.heap.size j=aq:=λj=>by
  cases hc:K.ic w.heap.size j with|none=>rfl|some c=>have:=s.zt hc;omega
 have le:K.Le (K.tight w.heap.size cells):=by
  refine⟨rfl,λg j c hc=>?_,λ_ _ h=>h,λ_ _ h=>h,aJ _,λ_ _=>rfl,λ_ h=>h,λ_ _=>rfl,λg j c hc=>by
   simp only[aS.tight] at hc;split at hc
   ·rename_i q;rw[q];exact .inr s.size
   ·exact .inl hc⟩
  simp only[aS.tight];rw[aG]
  ·exact hc
  ·rintro rfl;rw[A2] at hc;cases hc
 have p:=s.push (.cells cells e);refine⟨le,p.cU,p.size,λg j x hx=>?_,λg cs hg=>?_,p.ki,p.o7,λb g cs hb hc=>?_,p.nA,p.pY,λl g r hl hr=>?_,p.tn,λt ht=>?_,p.oZ,p.md,s.all⟩
 ·simp only[aS.tight] at hx;split at hx
  ·subst_vars;rw[qW (cells:=cells) (e:=e) (fz:=(0,0)) bh];exact hx
  ·exact p.ic g j x hx
 ·obtain⟨dp,h1,h2⟩:=s.eD g cs hg;exact⟨dp,h1.mono le,λj c hj=>le.ic _ _ _ (h2 j c hj)⟩
 ·obtain⟨h1,h2,ha,dp,e',h3,h4⟩:=p.box b g cs hb hc;refine⟨h1,λj=>?_,ha,dp,e',h3,h4.mono le (aP.1 hb).1⟩;simp only[aS.tight];obtain⟨_,_,_,_,_,h3',_⟩:=s.box b g cs hb hc;rw[aG (by have:=nS h3';omega)];exact h2 j
 ·obtain⟨h1,fn,tmps,d,h2,h3,h4⟩:=p.loop l g r hl hr;exact⟨h1,fn,tmps,d,h2,h3.mono le,h4⟩
 ·obtain⟨h1,h2,h3,dp,e',fz,h4,h5⟩:=p.tok t ht;obtain⟨_,_,_,_,_,_,MI,_⟩:=s.tok t ht;refine⟨h1,h2,λj hj=>?_,dp,e',fz,h4,h5⟩;simp only[aS.tight];have:=nS MI;have e1:(K.tight w.heap.size cells).tk t=K.tk t:=rfl;rw[aG (by show(K.tk t).1≠_;omega)];exact h3 j hj
end
section
variable {P:Program}
def db{t:TypeId}{d:TypeDesc}(h:P.underlying t=aa d)(w:World):(underlying t).run P w=.ok d w:=run_underlying h w
def qE{t:TypeId}{i:TypeInfo}(h:P.info? t=aa i)(w:World):(typeInfo t).run P w=.ok i w:=by simp[typeInfo,h]
def ap7{t:TypeId}{n:Nat}(h:dm P t=aa n):∃i,P.info? t=aa i/\i.size=n:=by simpa [dm] using h
def mX{t:TypeId}{n:Nat}(h:dm P t=aa n)(w:World):(sizeOf t).run P w=.ok n w:=by obtain⟨i,h1,h2⟩:=ap7 h;simp[sizeOf,qE h1,h2]
def Kg{t:TypeId}{b:Bool}(h:gx P t=aa b)(w:World):(isAgg t).run P w=.ok b w:=by
 unfold gx at h;unfold isAgg;cases hu:P.underlying t with
 |none=>rw[hu] at h;cases h
 |some d=>rw[hu] at h;rw[Sem.run_bind,db hu];cases d<;>(injection h with h;subst h;rfl)
def P6{t:TypeId}{z:AV}(h:iN P t=aa z)(w:World):∃v,(zeroValue t).run P w=.ok v w/\z=rG v:=by
 unfold iN at h;split at h
 ·rename_i i hi;simp only[dh] at h;obtain⟨v,hv,rfl⟩:=h;exact⟨v,by simp[zeroValue,qE hi,hv],rfl⟩
 ·cases h
def Mw{α:Type}{es:List (List α)}{sz}(hr:∀r∈es,r.length=sz):∀{i:Nat} {row:List α},es[i]?=aa row->(es.flatten.drop (i * sz)).take sz=row:=by
 induction es with
 |nil=>intro i row h;simp at h|cons r es ih=>
  have hl:r.length=sz:=hr r bh;intro i row h;cases i with|zero=>simp at h;subst h;simp[<-hl]|succ i=>have:=ih (λr fG=>hr r (by simp[fG])) (i:=i) (row:=row) (by simpa using h);rw[<-this];simp only[nX];rw[Cf,show(i+1) * sz=r.length+i * sz by rw[hl,gg];omega];rw[pc ag];simp
def Mx{α:Type}{es:List (List α)}{sz}(hr:∀r∈es,r.length=sz):∀n:Nat,(es.take n).flatten=es.flatten.take (n * sz):=by
 induction es with
 |nil=>intro n;simp|cons r es ih=>
  have hl:r.length=sz:=hr r bh;intro n;cases n with|zero=>simp|succ n=>rw[List.take_succ_cons,nX,nX,ih (λr hm=>hr r (by simp[hm])) n,show(n+1) * sz=r.length+n * sz by rw[hl,gg];omega];rw[HJ,gm (ag:r.length<=r.length+n * sz),(ag:r.length+n * sz - r.length=n * sz)]
def TC{α:Type}{es:List (List α)}{sz}(hr:∀r∈es,r.length=sz):∀n:Nat,(es.drop n).flatten=es.flatten.drop (n * sz):=by
 induction es with
 |nil=>intro n;simp|cons r es ih=>
  have hl:r.length=sz:=hr r bh;intro n;cases n with|zero=>simp|succ n=>rw[List.drop_succ_cons,nX,ih (λr hm=>hr r (by simp[hm])) n,show(n+1) * sz=r.length+n * sz by rw[hl,gg];omega];rw[Cf,pc (ag:r.length<=r.length+n * sz),(ag:r.length+n * sz - r.length=n * sz)];simp
def mM{α:Type}{es:List (List α)}{sz}(hr:∀r∈es,r.length=sz):es.flatten.length=es.length * sz:=by
 induction es with
 |nil=>simp|cons r es ih=>rw[nX,dk,ih (λr fG=>hr r (by simp[fG])),hr r bh,iW,gg];omega
end
section
variable {P:Program} {K:aS} {G:Nat->Option (List AV)} {ok:FuncId->Nat->Code->Bool} {w0 w:World} {h:ak}
def βaa{b:Nat}{g:Nat}(s:bN K G ok w0 h w)(hb:K.β[b]?=aa g):∃cs,h.boxes[b]?=aa cs:=by
 have js:b<h.boxes.length:=by rw[<-s.ki];exact(aP.1 hb).1
 exact⟨_,aO js⟩
def SJ(s:bN K G ok w0 h w){a:AV}{cs:List AV}(hc:As G h a=aa cs){ca:Value}(hv:aT K a ca):
 ∃g p dT,ca=.pointer (aa ⟨g,p,aq⟩)/\aM K cs dT/\∀(j:Nat) (c:Value),dT[j]?=aa c->w.cell? ⟨g,p+j,aq⟩=aa c:=by
 unfold As at hc;split at hc
 ·rename_i r off;simp only[dh] at hc;obtain⟨cs0,h0,rfl⟩:=hc;cases hv with
  |box b g _ hb=>
   obtain⟨_,_,_,cells,e,h3,h4⟩:=s.box b g cs0 hb h0;refine⟨g,off,(cells.toList.take cs0.length).drop off,rfl,h4.1.drop off,λj c hj=>?_⟩;rw[qW h3];simp only[nZ,nC] at hj;split at hj
   ·simpa using hj
   ·cases hj
  |eD g _=>obtain⟨cells,h1,h2⟩:=s.eD g cs0 h0;refine⟨g,off,cells.drop off,rfl,h1.drop off,λj c hj=>?_⟩;exact s.ic _ _ _ (h2 (off+j) c (by simpa using hj))
 ·rename_i sz es i off;simp only[dh] at hc;obtain⟨row,h0,rfl⟩:=hc;cases hv with
  |elem _ _ _ _ g o p cells hr fy ir hi hp ha=>
   refine⟨g,p,((cells.drop (i * sz)).take sz).drop off,rfl,?_,λj c hj=>?_⟩
   ·have:=((fy.drop (i * sz)).take sz).drop off
    rwa [Mw hr h0] at this
   ·refine s.ic _ _ _ ?_;have h1:cells[i * sz+off+j]?=aa c:=by
     simp only[nZ,nC] at hj;split at hj
     ·rw[<-hj];congr 1;omega
     ·cases hj
    have:=ir _ _ h1;rw[hp];rw[<-this];congr 1;omega
 ·cases hc
def Wh(s:bN K G ok w0 h w){t:TypeId}{a x:AV}(he:aI P G h t a=aa x){ca:Value}(hv:aT K a ca):
 ∃g p v,ca=.pointer (aa ⟨g,p,aq⟩)/\(loadVar t ⟨g,p,aq⟩).run P w=.ok v w/\aT K x v:=by
 unfold aI at he;split at he
 ·rename_i cs AN bW;obtain⟨g,p,dT,rfl,fy,pF⟩:=SJ s bW hv;split at he
  ·rename_i n hn;split at he
   ·rename_i eg;injection he with he;subst he;have hl:=run_loadCells_list (P:=P) w ⟨g,p,aq⟩ (dT.take n) (λj v hj=>by
     rw[Addr.lY];refine pF j v ?_;simp only[nC] at hj;split at hj
     ·exact hj
     ·cases hj)
    have hlen:(dT.take n).length=n:=(by rw[eP,<-fy.length];omega);rw[hlen] at hl;exact⟨g,p,.agg (dT.take n).toArray,rfl,by simp[loadVar,Kg AN,mX hn,hl],.agg _ _ (by simpa using fy.take n)⟩
   ·cases he
  ·cases he
 ·rename_i cs AN bW;obtain⟨g,p,dT,rfl,fy,pF⟩:=SJ s bW hv;cases cs with
  |nil=>simp at he|cons y cs=>
   simp at he;subst he;cases fy with|cons _ c _ dB hx hs=>have:=pF 0 c rfl;simp only[zZ] at this;exact⟨g,p,c,rfl,by simp[loadVar,Kg AN,this],hx⟩
 ·cases he
def GY{g:Nat}(off:Nat)(e:TypeId)(fz:Nat × Nat):∀(vs:List Value) (i:Nat) (cells:Array Value) (w:World),
 w.heap[g]?=aa (.cells cells e fz)->off+i+vs.length<=cells.size->(∀v∈vs,Dv v=ah)->(∀j,off+i<=j->j<off+i+vs.length->mN fz j=av)->
 ∃w' dp,(storeCells ⟨g,off,aq⟩ vs i).run P w=.ok () w'/\sX w w' g (.cells dp e fz)/\
  dp.toList=cells.toList.take (off+i)++vs++cells.toList.drop (off+i+vs.length):=by
 intro vs
 induction vs with
 |nil=>intro i cells w hg hl h1 hf;exact⟨w,cells,rfl,⟨rfl,rfl,rfl,rfl,λ_ _=>rfl,hg⟩,by simp⟩|cons v rest ih=>
  intro i cells w hg hl h1 hf;simp only[iW] at hl hf;have hi:off+i<cells.size:=by omega
  have hv:v.oneCell'=ah:=by have:=h1 v bh;cases v<;>first|rfl|simp[Dv] at this
  have bZ:(store ((⟨g,off,aq⟩:Addr).add i) v).run P w=.ok () (w.setCell ⟨g,off+i,aq⟩ v):=by rw[Addr.lY,run_store P w _ v _ hv,qW hg,yQ hg,hf (off+i) ag ag,lQ hi];simp
  have np:(w.setCell ⟨g,off+i,aq⟩ v).heap[g]?=aa (.cells (cells.setIfInBounds (off+i) v) e fz):=by simp[World.setCell,BO,hg]
  obtain⟨w',dp,hr,hc,nj⟩:=ih (i+1) _ _ np (by simp;omega) (λx hx=>h1 x (by simp[hx])) (λj hj hj'=>hf j ag ag);refine⟨w',dp,by simp only[storeCells,Sem.run_bind,bZ,Result.andThen_ok,hr],⟨hc.os,hc.tape,hc.output,by rw[hc.size];simp[World.setCell],λk hk=>?_,hc.this⟩,?_⟩
  ·rw[hc.other k hk];simp only[World.setCell,BO];rw[aG (by exactλe=>hk e.symm)]
  ·rw[nj];simp only[ZN,iW];have hlen:off+i<cells.toList.length:=(by simpa using hi);rw[zX,aF hlen];rw[(ag:off+(i+1)=off+i+1),(ag:off+i+(rest.length+1)=off+i+1+rest.length)];rw[HJ,Cf];have h1:(cells.toList.take (off+i)).length=off+i:=(by simp;omega);rw[h1];have h2:(cells.toList.take (off+i)).take (off+i+1)=cells.toList.take (off+i):=gm ag;have h3:(cells.toList.take (off+i)).drop (off+i+1+rest.length)=[]:=pc ag;rw[h2,h3];have h4:off+i+1 - (off+i)=1:=(by omega);have h5:off+i+1+rest.length - (off+i)=rest.length+1:=(by omega);rw[h4,h5];simp
def apn{g off fa aB:Nat}{e:TypeId}(qo:fa=off∨aB=0){vs:List Value}{cells:Array Value}{w:World}(hz:aB=0->vs=[])(hg:w.heap[g]?=aa (.cells cells e (0,0)))(hl:off+vs.length<=cells.size)(h1:∀v∈vs,Dv v=ah):
 ∃w' dp,(storeCells ⟨g,fa,aq⟩ vs 0).run P w=.ok () w'/\sX w w' g (.cells dp e (0,0))/\dp.toList=cells.toList.take (off+0)++vs++cells.toList.drop (off+0+vs.length):=by
 rcases qo with rfl|h0
 ·exact GY _ e (0,0) vs 0 cells w hg ag h1 (λj _ _=>by simp[mN])
 ·have:=hz h0;subst this;exact⟨w,cells,rfl,⟨rfl,rfl,rfl,rfl,λ_ _=>rfl,hg⟩,by simp⟩
def YM{cU cs:List AV}{vo vc:List Value}(off:Nat)(h1:aM K cU vo)(h2:aM K cs vc):aM K (eE cU off cs) (vo.take off++vc++vo.drop (off+vc.length)):=by unfold eE;rw[h2.length];exact((h1.take off).append h2).append (h1.drop _)
def YL{cU cs}(off)(h1:cU.all AV.dN=ah)(h2:cs.all AV.dN=ah):(eE cU off cs).all AV.dN=ah:=by
 rw[dU] at h1 h2 ⊢;intro x hx;simp only[eE,uZ] at hx;rcases hx with(hx|hx)|hx
 ·exact h1 x (oa hx)
 ·exact h2 x hx
 ·exact h1 x (Lb hx)
def Qd{α:Type}{vo vc:List α}{off}(h:off+vc.length<=vo.length):(vo.take off++vc++vo.drop (off+vc.length)).length=vo.length:=by simp only[dk,eP,gE];omega
def aqn{α:Type}{vo vc:List α}{off n}(h:off+vc.length<=n)(hn:n<=vo.length):(vo.take off++vc++vo.drop (off+vc.length)).take n=(vo.take n).take off++vc++(vo.take n).drop (off+vc.length):=by
 have e1:(vo.take n).take off=vo.take off:=by rw[List.take_take,Nat.min_eq_left ag]
 have e2:(vo.take n).drop (off+vc.length)=(vo.drop (off+vc.length)).take (n - (off+vc.length)):=by rw[List.drop_take]
 rw[e1,e2,HJ];have h1:(vo.take off++vc).length=off+vc.length:=by simp;omega
 rw[gm ag,h1]
def sX.same{w w'}{g}{o}(c:sX w w' g o)(h:w.heap[g]?=some o):w'.heap=w.heap:=by
 apply Array.ext_getElem?;intro k;by_cases hk:k=g
 ·subst hk;rw[c.this,h]
 ·exact c.other k hk
def bN.Qm{w':World}(s:bN K G ok w0 h w){b g off:Nat}{cs cU:List AV}{vs:List Value}{cells dp:Array Value}{e:TypeId}(hb:K.β[b]?=aa g)(hold:h.boxes[b]?=aa cU)(pH:off+cs.length<=cU.length)
 (np:w.heap[g]?=aa (.cells cells e (0,0))) (c:sX w w' g (.cells dp e (0,0))) (nj:dp.toList=cells.toList.take (off+0)++vs++cells.toList.drop (off+0+vs.length)) (hv:aM K cs vs) (pE:cs.all AV.dN=ah):
 bN K G ok w0 {h with boxes:=h.boxes.set b (eE cU off cs)} w':=by
 obtain⟨k1,k2,ka,cells0,e0,k3,k4⟩:=s.box b g cU hb hold;rw[np] at k3;injection k3 with k3;injection k3 with k3 k3';subst k3;simp only[zZ] at nj;have eg:cU.length<=cells.toList.length:=by have:=k4.le;simpa using this
 by_cases bH:cU=[]
 ·subst bH;have hc:cs=[]:=by cases cs with|nil=>rfl|cons _ _=>simp at pH
  subst hc;have fy:vs=[]:=by cases hv;rfl
  subst fy;have hw:dp=cells:=by apply Array.toList_inj.1;rw[nj];simp
  subst hw;have hh:=c.same np;have xC:h.boxes.set b (eE [] off [])=h.boxes:=by
   rw[show eE ([]:List AV) off []=[] by simp[eE]];apply p8;intro k;rw[lR];split
   ·rename_i e;subst e;rw[aF (aP.1 hold).1,hold]
   ·rfl
  rw[xC];exact s.same hh c.tape c.os c.output
 ·have hl:(eE cU off cs).length=cU.length:=by unfold eE;exact Qd pH
  refine s.apN hb hold bH hl (λc0 e0 q=>?_) c ?_ (YL off ka pE)
  ·rw[np] at q;injection q with q;injection q with q;subst q;have:dp.toList.length=cells.toList.length:=(by rw[nj];exact Qd (by rw[<-hv.length];omega));simp only[wG] at this;omega
  ·rw[hl,nj,aqn (by rw[<-hv.length];exact pH) eg];exact YM off k4.1 hv
def E3{cs:List AV}{vs:List Value}(h:aM K cs vs)(ha:cs.all AV.dN=ah):∀v∈vs,Dv v=ah:=by intro v hv;obtain⟨i,hi⟩:=List.getElem?_of_mem hv;obtain⟨x,hx,hr⟩:=h.get' hi;exact aiF (dU.1 ha x (de hx)) hr
def Iz(j):mN (0,0) j=av:=by simp[mN]
def aqZ(s:bN K G ok w0 h w){t:TypeId}{a x:AV}{h':ak}(he:ct P h t a x=aa h'){ca cx:Value}(hv:aT K a ca)(hx:aT K x cx):
 ∃w',(Instr.storeAt t ca cx).run P w=.ok () w'/\bN K G ok w0 h' w':=by
 unfold ct at he;split at he
 ·rename_i b off cs n bW hn;split at he
  ·rename_i cU hold;split at he
   ·rename_i hlen;injection he with he;subst he;cases hv with|box _ g _ hb=>obtain⟨k1,k2,ka,cells,e,k3,k4⟩:=s.box b g cU hb hold;obtain⟨r1,r2⟩:=Ie bW hx;have dH:cx.cells.size=n:=(by rw[<-hlen.1,r1.length];simp);have xD:cU.length<=cells.size:=k4.le;obtain⟨w',dp,q1,q2,q3⟩:=GY (P:=P) off e (0,0) cx.cells.toList 0 cells w k3 (by simp;omega) (E3 r1 r2) (λj _ _=>Iz j);refine⟨w',by simp[Instr.storeAt,Instr.sureAddr,storeVar,mX hn,dH,q1],s.Qm hb hold ag k3 q2 q3 r1 r2⟩
   ·cases he
  ·cases he
 ·cases he
end
section
variable {P:Program} {K:aS} {G:Nat->Option (List AV)} {ok:FuncId->Nat->Code->Bool} {w0 w:World} {h:ak}
def Yields(K:aS)(G:Nat->Option (List AV))(ok:FuncId->Nat->Code->Bool)(w0:World)(x:AV)(h':ak)(r:Result Next):Prop:=
 ∃K' v w',K.Le K'/\bN K' G ok w0 h' w'/\aT K' x v/\(r=.ok (.value v) w'∨(r=.ok .skip w'/\v=undef))
def Yields.mH(s:bN K G ok w0 h w){x:AV}{v:Value}(hx:aT K x v){r:Result Next}(hr:r=.ok (.value v) w):Yields K G ok w0 x h r:=
 ⟨K,v,w,.refl K,s,hx,.inl hr⟩
def aga(off):∀(l:List Value) (i:Nat) (cells:Array Value),off+i+l.length<=cells.size->
 ((l.zipIdx i).foldl (λcs p=>cs.setIfInBounds (off+p.2) p.1) cells).toList=cells.toList.take (off+i)++l++cells.toList.drop (off+i+l.length):=by
 intro l
 induction l with
 |nil=>intro i cells _;simp|cons v rest ih=>
  intro i cells hl;simp only[iW] at hl;have hi:off+i<cells.size:=by omega
  simp only[List.zipIdx_cons,wN];rw[ih (i+1) _ (by simp;omega)];simp only[ZN,iW];have hlen:off+i<cells.toList.length:=by simpa using hi
  rw[zX,aF hlen];rw[(ag:off+(i+1)=off+i+1),(ag:off+i+(rest.length+1)=off+i+1+rest.length)];rw[HJ,Cf];have h1:(cells.toList.take (off+i)).length=off+i:=by simp;omega
  rw[h1];have h2:(cells.toList.take (off+i)).take (off+i+1)=cells.toList.take (off+i):=gm ag;have h3:(cells.toList.take (off+i)).drop (off+i+1+rest.length)=[]:=pc ag;rw[h2,h3];have h4:off+i+1 - (off+i)=1:=by omega
  have h5:off+i+1+rest.length - (off+i)=rest.length+1:=by omega
  rw[h4,h5];simp
def asL(f)(vs cells:Array Value):vs.zipIdx.foldl f cells=(vs.toList.zipIdx 0).foldl f cells:=by rw[<-Array.foldl_toList,Array.toList_zipIdx]
def To{place}:∀{parts:List (Nat × AV)} {cells out:List AV},ug place cells parts=aa out->cells.all AV.dN=ah->out.all AV.dN=ah:=by
 intro parts
 induction parts with
 |nil=>intro cells out he hc;simp[ug] at he;subst he;exact hc|cons p rest ih=>
  intro cells out he hc;simp only[ug] at he;split at he
  ·rename_i off size cs hp bW;split at he
   ·refine ih he (YL off hc ?_);unfold AV.b8 at bW;split at bW
    ·split at bW
     ·injection bW with bW;subst bW;assumption
     ·cases bW
    ·cases bW
    ·cases bW
    ·rename_i h1 h2 h3;injection bW with bW;subst bW;have hx:p.2.dN=ah:=by cases hq:p.2<;>first|rfl|exact absurd hq (h1 _)|exact absurd hq (h2 _)|exact absurd hq h3
     simp[hx]
   ·cases he
  ·cases he
def It{place:Nat->Option (Nat × Nat)}:∀{parts:List (Nat × AV)} {cells out:List AV} {parts':List (Nat × Value)} {dp:Array Value},
 ug place cells parts=aa out->aM K cells dp.toList->(parts'.map (·.1)=parts.map (·.1))->aM K (parts.map (·.2)) (parts'.map (·.2))->
 ∃out',Instr.fill place dp parts'=aa out'/\aM K out out'.toList:=by
 intro parts
 induction parts with
 |nil=>
  intro cells out parts' dp he hc h1 h2;have:parts'=[]:=by simpa using h1
  subst this;simp[ug] at he;subst he;exact⟨dp,rfl,hc⟩
 |cons p rest ih=>
  obtain⟨i,x⟩:=p;intro cells out parts' dp he hc h1 h2;cases parts' with
  |nil=>simp at h1|cons p' rest'=>
   obtain⟨i',v⟩:=p';simp only[eo,List.cons.injEq] at h1;obtain⟨rfl,h1⟩:=h1;simp only[eo] at h2;cases h2 with
   |cons _ _ _ _ hx hs=>
    simp only[ug] at he;split at he
    ·rename_i off size cs hp bW;split at he
     ·rename_i hlen;obtain⟨r1,_⟩:=Ie bW hx;have dH:v.cells.size=size:=(by rw[<-hlen.1,r1.length];simp);have xD:dp.size=cells.length:=(by rw[hc.length];simp);have M8:=aga off v.cells.toList 0 dp (by simp;omega);obtain⟨out',q1,q2⟩:=ih (dp:=v.cells.zipIdx.foldl (λcs (c,j)=>cs.setIfInBounds (off+j) c) dp) he (by rw[asL,M8];simpa using YM off hc r1) h1 hs;refine⟨out',?_,q2⟩;simp only[Instr.fill,hp];rw[aG (by simp;omega)];exact q1
     ·cases he
    ·cases he
def O6{ρ:Operand->AV}{ρ':Operand->Value}(hρ:∀x,aT K (ρ x) (ρ' x))(parts:Array (Nat × Operand)):
 ((parts.map λp=>(p.1,ρ' p.2)).toList.map (·.1)=(parts.toList.map λp=>(p.1,ρ p.2)).map (·.1))/\
 aM K ((parts.toList.map λp=>(p.1,ρ p.2)).map (·.2)) ((parts.map λp=>(p.1,ρ' p.2)).toList.map (·.2)):=by
 simp only[BS,zU];exact⟨rfl,aM.map_mk λp _=>hρ p.2⟩
def BM{t:TypeId}{zero:List AV}(hz:(iN P t).bind AV.b8=aa zero)(w:World):∃v,(zeroValue t).run P w=.ok v w/\aM K zero v.cells.toList/\zero.all AV.dN=ah:=by simp only[yv] at hz;obtain⟨z,h1,h2⟩:=hz;obtain⟨v,h3,rfl⟩:=P6 h1 w;obtain⟨r1,r2⟩:=Ie h2 (JA (K:=K) v);exact⟨v,h3,r1,r2⟩
def ajM(fields:Array Field)(ec:∀f∈fields.toList,(P.info? f.type).isSome=ah)(w:World):
 ∃places:Array (Nat × Nat),(fields.mapM (m:=Sem) λ(f:Field)=>do pure (f.offset,<-sizeOf f.type)).run P w=.ok places w/\∀i,places[i]?=placesOf P fields i:=by
 have key:∀(l:List Field),(∀f∈l,(P.info? f.type).isSome=ah)->
  (l.mapM (m:=Sem) λ(f:Field)=>do pure (f.offset,<-sizeOf f.type)).run P w=.ok (l.map λf=>(f.offset,(dm P f.type).getD 0)) w:=by
  intro l
  induction l with
  |nil=>intro _;rfl|cons f l ih=>intro hl;have hf:=hl f bh;obtain⟨i,hi⟩:=aa9.1 hf;have hs:dm P f.type=aa i.size:=(by simp[dm,hi]);rw[List.mapM_cons,Sem.run_bind,Sem.run_bind,mX hs];simp only[Result.andThen_ok,Sem.run_pure,Sem.run_bind,ih (λf hf=>hl f (by simp[hf])),eo,hs,HN]
 refine⟨(fields.toList.map λf=>(f.offset,(dm P f.type).getD 0)).toArray,?_,λi=>?_⟩
 ·rw[Array.mapM_eq_mapM_toList,Sem.run_map,key fields.toList ec];rfl
 ·simp only[jc,List.getElem?_map,BP,placesOf];cases hf:fields[i]? with|none=>rfl|some f=>have hm:f∈fields.toList:=(by simpa using Array.mem_of_getElem? hf);obtain⟨i,hi⟩:=aa9.1 (ec f hm);simp[dm,hi]
def adu{t:TypeId}{parts:Array (Nat × Operand)}{ρ:Operand->AV}{ρ':Operand->Value}(hρ:∀x,aT K (ρ x) (ρ' x)){x:AV}
 (he:mw P t (parts.toList.map λp=>(p.1,ρ p.2))=aa x) (w:World):∃v,(Instr.build t (parts.map λp=>(p.1,ρ' p.2))).run P w=.ok v w/\aT K x v:=by
 obtain⟨p1,p2⟩:=O6 hρ parts;unfold mw at he;split at he
 ·rename_i fields zero hu hz;obtain⟨z,jg,gI,_⟩:=BM (K:=K) hz w;split at he
  ·rename_i ec;simp only[dh] at he;obtain⟨out,ho,rfl⟩:=he;obtain⟨places,tz,mF⟩:=ajM (P:=P) fields (λf hf=>Array.all_eq_true'.1 ec f (by simpa using hf)) w;have FW:placesOf P fields=(places[·]?):=(by funext i;exact(mF i).symm);rw[FW] at ho;obtain⟨out',q1,q2⟩:=It ho gI p1 p2;exact⟨.agg out',by simp only[Instr.build,Sem.run_bind,jg,Result.andThen_ok,db hu,tz,q1,Sem.run_pure],.agg _ _ q2⟩
  ·cases he
 ·rename_i n elem zero hu hz;obtain⟨z,jg,gI,_⟩:=BM (K:=K) hz w;split at he
  ·rename_i size hs;simp only[dh] at he;obtain⟨out,ho,rfl⟩:=he;obtain⟨out',q1,q2⟩:=It ho gI p1 p2;exact⟨.agg out',by simp only[Instr.build,Sem.run_bind,jg,Result.andThen_ok,db hu,mX hs,q1,Sem.run_pure],.agg _ _ q2⟩
  ·cases he
 ·cases he
def Tn{sz}:∀{parts:List (Nat × AV)} {ae out:List (List AV)},(∀r∈ae,r.length=sz)->CO sz ae parts=aa out->
 ug (λi=>aa (i * sz,sz)) ae.flatten parts=aa out.flatten/\(∀r∈out,r.length=sz)/\out.length=ae.length:=by
 intro parts
 induction parts with
 |nil=>intro ae out hr he;simp[CO] at he;subst he;exact⟨rfl,hr,rfl⟩|cons p rest ih=>
  obtain⟨i,x⟩:=p;intro ae out hr he;simp only[CO] at he;split at he
  ·rename_i cs bW;split at he
   ·rename_i hlen;have fG:∀r∈ae.set i cs,r.length=sz:=λr hm=>by
     rcases List.mem_or_eq_of_mem_set hm with hm|rfl
     ·exact hr r hm
     ·exact hlen.1
    obtain⟨q1,q2,q3⟩:=ih fG he;have nM:=mM hr;have eg:i * sz+sz<=ae.flatten.length:=(by rw[nM];have:(i+1) * sz<=ae.length * sz:=nF _ hlen.2;rw[gg] at this;omega);have xC:(ae.set i cs).flatten=eE ae.flatten (i * sz) cs:=by
     clear q1 q2 q3 ih he eg fG;unfold eE;rw[hlen.1]
     induction ae generalizing i with
     |nil=>simp at hlen|cons r ae ih2=>
      have cO:r.length=sz:=hr r bh;cases i with|zero=>simp[<-cO]|succ i=>have:=ih2 i (λr hm=>hr r (by simp[hm])) ⟨hlen.1,by simpa using hlen.2⟩ (mM (λr hm=>hr r (by simp[hm])));simp only[List.set_cons_succ,nX,this];rw[show(i+1) * sz=r.length+i * sz by rw[cO,gg];omega,HJ,Cf];rw[gm (ag:r.length<=r.length+i * sz),pc (ag:r.length<=r.length+i * sz+sz)];rw[(ag:r.length+i * sz - r.length=i * sz),(ag:r.length+i * sz+sz - r.length=i * sz+sz)];simp
    refine⟨?_,q2,by rw[q3];simp⟩;simp only[ug,bW];rw[aF ⟨hlen.1,eg⟩,<-xC];exact q1
   ·cases he
  ·cases he
def Gz(zero:Array Value)(n):((yi (n * zero.size)).map (zero[·%zero.size]!)).toList=(aY n zero.toList).flatten:=by
 induction n with
 |zero=>simp|succ n ih=>
  rw[List.replicate_succ',p9,<-ih];simp only[BS,Array.toList_range,gg,Nat.one_mul,List.range_add,lU,zU,nX,Q8,jH];congr 1;apply List.ext_getElem
  ·simp
  ·intro i h1 h2;have aA:i<zero.size:=(by simpa using h1);simp[Nat.mod_eq_of_lt aA,aA]
def aM.AF{zero:List AV}{z:List Value}(hz:aM K zero z):∀n:Nat,aM K (aY n zero).flatten (aY n z).flatten
 |0=>.nil
 |n+1=>by simp only[List.replicate_succ,nX];exact hz.append (aM.AF hz n)
def JN{zero}(hz:zero.all AV.dN=ah)(n):(aY n zero).flatten.all AV.dN=ah:=by rw[dU] at hz ⊢;intro x hx;simp only[List.mem_flatten,Rb] at hx;obtain⟨l,⟨_,rfl⟩,hx⟩:=hx;exact hz x hx
def adt(s:bN K G ok w0 h w){t:TypeId}{len:Nat}{parts:Array (Nat × Operand)}{ρ:Operand->AV}{ρ':Operand->Value}(hρ:∀x,aT K (ρ x) (ρ' x)){x:AV}
 (he:fC P t len (parts.toList.map λp=>(p.1,ρ p.2))=aa x):
 ∃K' v w',K.Le K'/\bN K' G ok w0 h w'/\aT K' x v/\(Instr.buildSlice t len (parts.map λp=>(p.1,ρ' p.2))).run P w=.ok v w':=by
 obtain⟨p1,p2⟩:=O6 hρ parts;unfold fC at he;split at he
 ·rename_i elem hu;split at he
  ·rename_i size zero hs hz;obtain⟨z,jg,gI,xI⟩:=BM (K:=K) hz w;split at he
   ·rename_i hc;simp only[dh] at he;obtain⟨out,ho,rfl⟩:=he;obtain⟨f1,f2,f3⟩:=Tn (λr hr=>by rw[(Rb.1 hr).2];exact hc.2.1) ho;have vP:z.cells.size=size:=(by rw[<-hc.2.1,gI.length];simp);have nj:((yi (len * size)).map (z.cells[·%z.cells.size]!)).toList=(aY len z.cells.toList).flatten:=(by rw[<-vP];exact Gz _ _);obtain⟨out',q1,q2⟩:=It (dp:=(yi (len * size)).map (z.cells[·%z.cells.size]!)) f1 (by rw[nj];exact gI.AF len) p1 p2;obtain⟨le,s'⟩:=s.aj4 out' elem;refine⟨_,.slice (aa ⟨w.heap.size,0,aq⟩) len len,_,le,s',?_,?_⟩
    ·refine .list .tight size out w.heap.size 0 len len out'.toList (by rw[f3];simp) f2 (q2.mono le) (λj c hj=>?_) ⟨aJ _,rfl⟩ (To f1 (JN xI len));simp only[aS.tight,oF,if_true];simpa using hj
    ·by_cases h0:len * size=0
     ·have MH:len=0:=by
       rcases aaY.1 h0 with h|h
       ·exact h
       ·omega
      subst MH;simp only[EU] at q1;have e1:(yi 0).map (λx=>(#[]:Array Value)[x%(#[]:Array Value).size]!)=(yi 0).map (z.cells[·%z.cells.size]!):=(by simp);simp only[Instr.buildSlice,Sem.run_bind,db hu,Result.andThen_ok,mX hs,EU];simp only[rU,gt_iff_lt,if_false,aa8,if_true,Sem.run_pure,Result.andThen_ok,e1,q1,newRow,Sem.run_bind,run_newObj]
     ·simp only[Instr.buildSlice,Sem.run_bind,db hu,Result.andThen_ok,mX hs];rw[aG ag,aG h0];simp only[Sem.run_pure,Sem.run_bind,jg,Result.andThen_ok,q1,newRow,run_newObj]
   ·cases he
  ·cases he
 ·cases he
def abW(s:bN K G ok w0 h w){t:TypeId}{cs:List AV}(hz:(iN P t).bind AV.b8=aa cs):
 ∃K' v w',K.Le K'/\bN K' G ok w0 (h.box cs).2 w'/\aT K' (h.box cs).1 v/\(Instr.alloc t ah (.tuple #[])).run P w=.ok v w':=by
 obtain⟨z,jg,gI,xI⟩:=BM (K:=K) hz w;obtain⟨q1,q2⟩:=s.ON t gI xI;exact⟨_,_,_,K.Ow _,q1,q2,by simp[Instr.alloc,jg,newVar,newRow]⟩
def adj(s:bN K G ok w0 h w){t:TypeId}{x:AV}{cs:List AV}(hc:x.b8=aa cs){c:Value}(hx:aT K x c):
 ∃K' v w',K.Le K'/\bN K' G ok w0 (h.box cs).2 w'/\aT K' (h.box cs).1 v/\(Instr.box t c).run P w=.ok v w':=by
 obtain⟨r1,r2⟩:=Ie hc hx;obtain⟨q1,q2⟩:=s.ON t r1 r2;exact⟨_,_,_,K.Ow _,q1,q2,by simp[Instr.box,newVar,newRow]⟩
def ajI(s:bN K G ok w0 h w){t:TypeId}{l c x:AV}{h':ak}(he:xS P h t l c=aa (x,h')){vl vc:Value}(hl:aT K l vl)(hc:aT K c vc):
 ∃K' v w',K.Le K'/\bN K' G ok w0 h' w'/\aT K' x v/\(Instr.makeSlice t vl vc).run P w=.ok v w':=by
 unfold xS at he;split at he
 ·rename_i elem kl l kc c hu;obtain⟨rfl,_⟩:=hl.iB;obtain⟨rfl,_⟩:=hc.iB;split at he
  ·rename_i i zero hi hz;obtain⟨z,jg,gI,xI⟩:=BM (K:=K) hz w;split at he
   ·rename_i MW;obtain⟨h1,h2,h3,h4,h5,h6⟩:=MW;injection he with he;obtain⟨rfl,rfl⟩:=il he;have hzero:i.zero=aa z:=by
     simp only[zeroValue,Sem.run_bind,qE hi,Result.andThen_ok] at jg;cases Ga:i.zero with|none=>rw[Ga] at jg;simp at jg|some v=>rw[Ga] at jg;simp at jg;rw[jg]
    have vP:z.cells.size=i.size:=(by rw[<-h6,gI.length];simp);have lL:=run_make (P:=P) w t elem i z hu hi hzero kl kc l c h1 h2 h4 ag;have nj:(madeCells z.cells (c.toNat * i.size)).toList=(aY c.toNat z.cells.toList).flatten:=(by rw[<-vP];exact Gz _ _);obtain⟨q1,q2⟩:=s.ON (cells:=madeCells z.cells (c.toNat * i.size)) elem (by rw[nj];exact gI.AF _) (JN xI _);cases q2 with|box _ _ _ hb=>exact⟨_,_,_,K.Ow _,q1,.arr _ _ _ _ _ _ _ hb ag (aJ _) (.inl rfl) (.inl rfl),lL⟩
   ·cases he
  ·cases he
 ·cases he
def qT{hi:Nat}{x:Option AV}{d n:Nat}(he:ga hi x d=aa n){x':Option Value}(hx:∀a,x=aa a->∃c,x'=aa c/\aT K a c)(hn:x=aq->x'=aq)(w:World):
 (x'=aq/\n=d/\x=aq)∨(∃c,x'=aa c/\(∀(top:Nat) (code:Go.BoundsCode),hi<=top->(Instr.sliceBound c top code).run P w=.ok n w)/\n<=hi/\x.isSome=ah):=by
 unfold ga at he;split at he
 ·injection he with he;subst he;exact .inl ⟨hn rfl,rfl,rfl⟩
 ·rename_i _ k m;split at he
  ·rename_i hc;injection he with he;subst he;obtain⟨c,rfl,hv⟩:=hx _ rfl;obtain⟨rfl,_⟩:=hv.iB;refine .inr ⟨_,rfl,λtop code ht=>?_,by omega,rfl⟩;have:m<=(top:Int):=(by omega);simp[Instr.sliceBound,asIntOf,hc.1,this]
  ·cases he
 ·cases he
def Cx{lo hi mx:Option AV}{lo' A1 mx':Option Value}(pI:∀a,lo=aa a->∃c,lo'=aa c/\aT K a c)(nlo:lo=aq->lo'=aq)
 (sD:∀a,hi=aa a->∃c,A1=aa c/\aT K a c) (nhi:hi=aq->A1=aq) (pK:∀a,mx=aa a->∃c,mx'=aa c/\aT K a c) (nmx:mx=aq->mx'=aq)
 {top aB len m hb l:Nat} (isSlice:Bool) (e1:ga top mx top=aa m) (e2:ga m hi len=aa hb) (e3:ga hb lo 0=aa l)
 (hlen:len<=aB) (VC:top<=aB) (A9:mx.isSome=ah->hi.isSome=ah) (w:World):
 ∃m',(Instr.sliceBounds isSlice len aB lo' A1 mx').run P w=.ok (l,hb,m') w/\(mx=aq->m'=aB/\m=top)/\(mx.isSome=ah->m'=m)/\l<=hb/\(hi=aq->hb=len)/\hb<=m'/\(hi.isSome=ah->hb<=m):=by
 rcases qT (P:=P) e1 pK nmx w with⟨rfl,rfl,rfl⟩|⟨c1,rfl,q1,pJ,bB⟩
 ·rcases qT (P:=P) e2 sD nhi w with⟨rfl,rfl,rfl⟩|⟨c2,rfl,q2,tx,lM⟩
  ·rcases qT (P:=P) e3 pI nlo w with⟨rfl,rfl,rfl⟩|⟨c3,rfl,q3,FK,_⟩
   ·exact⟨aB,by simp[Instr.sliceBounds],λ_=>⟨rfl,rfl⟩,bh,cr _,λ_=>rfl,hlen,by simp⟩
   ·have q3':=λcode=>q3 hb code (aJ _);exact⟨aB,by simp[Instr.sliceBounds,q3'],λ_=>⟨rfl,rfl⟩,bh,FK,λ_=>rfl,hlen,by simp⟩
  ·have q2':=λcode=>q2 aB code ag;rcases qT (P:=P) e3 pI nlo w with⟨rfl,rfl,rfl⟩|⟨c3,rfl,q3,FK,_⟩
   ·exact⟨aB,by simp[Instr.sliceBounds,q2'],λ_=>⟨rfl,rfl⟩,bh,cr _,λe=>by simp[e] at lM,by omega,λ_=>tx⟩
   ·have q3':=λcode=>q3 hb code (aJ _);exact⟨aB,by simp[Instr.sliceBounds,q2',q3'],λ_=>⟨rfl,rfl⟩,bh,FK,λe=>by simp[e] at lM,by omega,λ_=>tx⟩
 ·have lM:=A9 bB;have q1':=λcode=>q1 aB code VC;rcases qT (P:=P) e2 sD nhi w with⟨_,_,rfl⟩|⟨c2,rfl,q2,tx,_⟩
  ·simp at lM
  ·have q2':=λcode=>q2 m code (aJ _);rcases qT (P:=P) e3 pI nlo w with⟨rfl,rfl,rfl⟩|⟨c3,rfl,q3,FK,_⟩
   ·exact⟨m,by simp[Instr.sliceBounds,q1',q2'],λe=>by simp[e] at bB,λ_=>rfl,cr _,λe=>by simp[e] at lM,tx,λ_=>tx⟩
   ·have q3':=λcode=>q3 hb code (aJ _);exact⟨m,by simp[Instr.sliceBounds,q1',q2',q3'],λe=>by simp[e] at bB,λ_=>rfl,FK,λe=>by simp[e] at lM,tx,λ_=>tx⟩
def OY{ρ:Operand->AV}{ρ':Operand->Value}(hρ:∀x,aT K (ρ x) (ρ' x))(o:Option Operand):
 (∀a,o.map ρ=aa a->∃c,o.map ρ'=aa c/\aT K a c)/\(o.map ρ=aq->o.map ρ'=aq):=by
 cases o with|none=>exact⟨λa h=>(by cases h),λ_=>rfl⟩|some x=>exact⟨λa h=>⟨_,rfl,(by injection h with h;subst h;exact hρ x)⟩,λh=>(by cases h)⟩
def ajp{k:Tok}{sz:Nat}{es:List (List AV)}{g off aB size l hb m':Nat}{toEnd vV:Bool}
 (hv:aT K (.list k sz es) (.slice (aa ⟨g,off,aq⟩) es.length aB)) (dH:size=sz∨es=[]) (hl:l<=hb) (hh:hb<=es.length) (hm:hb<=m') (je:m'<=aB)
 (sw:toEnd=ah->hb=es.length/\m'=aB) (Nu:vV=ah->m'=hb):
 aT K (.list (py k toEnd vV (hb - l)) sz ((es.take hb).drop l)) (.slice (aa (if m'=l then ⟨g,off,aq⟩ else (⟨g,off,aq⟩:Addr).add (l * size))) (hb - l) (m' - l)):=by
 cases hv with
 |jb=>
  have xl:hb=0:=by simpa using hh
  subst xl;have l0:l=0:=by omega
  subst l0;have m0:m'=0:=by omega
  subst m0;refine .list _ sz [] g off 0 0 [] rfl bh .nil bh ⟨aJ _,?_⟩ rfl;unfold py;cases toEnd<;>cases vV<;>simp
 |list _ _ _ _ _ n _ cells hn hr fy ir ht ha=>
  have FJ:((es.take hb).drop l).length=hb - l:=by simp;omega
  have agY:(if m'=l then (⟨g,off,aq⟩:Addr) else (⟨g,off,aq⟩:Addr).add (l * size))=⟨g,if m'=l then off else off+l * size,aq⟩:=by
   split
   ·rfl
   ·rw[Addr.lY]
  rw[agY];have fG:∀r∈(es.take hb).drop l,r.length=sz:=λr hm=>hr r (oa (Lb hm));have nM:((es.take hb).drop l).flatten=(es.flatten.take (hb * sz)).drop (l * sz):=by rw[TC (λr hm=>hr r (oa hm)),Mx hr]
  refine .list _ sz _ g _ _ _ ((cells.take (hb * sz)).drop (l * sz)) FJ.symm fG (by rw[nM];exact(fy.take _).drop _) (λj c hj=>?_) ?_ ?_
  ·simp only[nZ,nC] at hj;split at hj
   ·rename_i aA;have bH:es≠[]:=(by rintro rfl;simp only[Q8] at fy;cases fy;simp at hj);have N6:size=sz:=dH.resolve_right bH;have qn:l<hb:=by
     rcases dI l hb with h|h
     ·exact h
     ·have:hb * sz<=l * sz:=nF _ h;omega
    rw[aG ag,N6];have:=ir _ _ hj;rw[<-this];congr 1;omega
   ·cases hj
  rotate_left
  ·rw[dU] at ha ⊢;intro x hx;rw[nM] at hx;exact ha x (oa (Lb hx))
  ·refine⟨ag,?_⟩;have Dp:=ht.2;cases k with
   |nil=>exact Dp.elim|tight=>
    simp only[py];simp only at Dp;cases toEnd with
    |true=>obtain⟨e1,e2⟩:=sw rfl;simp;omega
    |false=>
     cases vV with|true=>have:=Nu rfl;simp;omega|false=>simp
   |held=>
    simp only[py];cases vV with|true=>have:=Nu rfl;simp;omega|false=>simp
   |free t=>
    simp only[py];simp only at Dp;cases vV with
    |true=>have:=Nu rfl;simp;omega|false=>
     by_cases hc:(toEnd&&hb - l !=0)=ah
     ·simp only[jG,if_false,hc,if_true];simp only[bC,bne_iff_ne,ne_eq] at hc;obtain⟨e1,e2⟩:=sw hc.1;have bH:es≠[]:=(by rintro rfl;simp at e1;omega);have N6:size=sz:=dH.resolve_right bH;obtain⟨t1,t2,t3,t4⟩:=Dp;subst N6;rw[aG ag];refine⟨t1,t2,?_,?_⟩
      ·rw[t3,<-e1,Lt];have:l * size<=hb * size:=nF _ hl;omega
      ·rw[e2,Lt];have:l * size<=aB * size:=nF _ ag;omega
     ·simp only[jG,if_false,hc]
def aqe{t:TypeId}{x y:AV}{lo hi mx:Option Operand}{ρ:Operand->AV}{ρ':Operand->Value}(hρ:∀x,aT K (ρ x) (ρ' x))
 (he:gC P t x (lo.map ρ) (hi.map ρ) (mx.map ρ)=aa y) {c:Value} (hx:aT K x c) (w:World):
 ∃v,(Instr.sliceAt t c (lo.map ρ') (hi.map ρ') (mx.map ρ')).run P w=.ok v w/\aT K y v:=by
 obtain⟨pI,nlo⟩:=OY hρ lo;obtain⟨sD,nhi⟩:=OY hρ hi;obtain⟨pK,nmx⟩:=OY hρ mx;unfold gC at he;split at he
 ·cases he
 rename_i UP;have A9:(mx.map ρ).isSome=ah->(hi.map ρ).isSome=ah:=by
  intro h1;cases h2:hi.map ρ with|some _=>rfl|none=>rw[h1,h2] at UP;simp at UP
 split at he
 ·rename_i s hu;split at he
  ·cases he
  rename_i hmn;have ah0:mx.map ρ=aq:=by simpa using hmn
  split at he
  ·rename_i hb e2;split at he
   ·rename_i l e3;injection he with he;subst he;obtain⟨rfl,_⟩:=hx.iB;obtain⟨m',q1,q2,_⟩:=Cx (P:=P) (mx:=aq) (mx':=aq) pI nlo sD nhi bh bh av (top:=s.size) (aB:=s.size) (m:=s.size) rfl e2 e3 (aJ _) (aJ _) bh w;refine⟨_,?_,.v (.string (s.extract l hb)) rfl⟩;simp only[Instr.sliceAt,Sem.run_bind,db hu,Result.andThen_ok,Instr.slice,nmx ah0];simp[q1]
   ·cases he
  ·cases he
 ·rename_i elem k sz es hu;split at he
  ·rename_i size m hs e1;split at he
   ·rename_i hb e2;split at he
    ·rename_i l e3;split at he
     ·rename_i dH;injection he with he;subst he;have xn:hb<=es.length:=by rcases qT (P:=P) e1 pK nmx w with⟨_,rfl,_⟩|⟨_,_,_,pJ,_⟩<;>rcases qT (P:=P) e2 sD nhi w with⟨_,rfl,_⟩|⟨_,_,_,tx,_⟩<;>omega
      cases hx with
      |nil=>
       obtain⟨m',q1,q2,q3,q4,q5,q6,q7⟩:=Cx (P:=P) pI nlo sD nhi pK nmx ah (top:=0) (aB:=0) (len:=0) e1 e2 e3 (aJ _) (aJ _) A9 w;have xl:hb=0:=(by simpa using xn);subst xl;have l0:l=0:=(by omega);subst l0;have NA:m'=0:=by
        rcases qT (P:=P) e1 pK nmx w with⟨_,_,hn⟩|⟨_,_,_,pJ,bB⟩
        ·exact(q2 hn).1
        ·have:=q3 bB;simp at pJ;omega
       subst NA;refine⟨.slice aq 0 0,?_,?_⟩
       ·simp only[Instr.sliceAt,Sem.run_bind,db hu,Result.andThen_ok,Instr.slice,q1,mX hs];simp
       ·simp only[py,aaP,aaq];exact .nil _
      |jb _ a0=>
       obtain⟨m',q1,q2,q3,q4,q5,q6,q7⟩:=Cx (P:=P) pI nlo sD nhi pK nmx ah (top:=0) (aB:=0) (len:=0) e1 e2 e3 (aJ _) (aJ _) A9 w;have xl:hb=0:=(by simpa using xn);subst xl;have l0:l=0:=(by omega);subst l0;have NA:m'=0:=by
        rcases qT (P:=P) e1 pK nmx w with⟨_,_,hn⟩|⟨_,_,_,pJ,bB⟩
        ·exact(q2 hn).1
        ·have:=q3 bB;simp at pJ;omega
       subst NA;refine⟨.slice (aa a0) 0 0,?_,?_⟩
       ·simp only[Instr.sliceAt,Sem.run_bind,db hu,Result.andThen_ok,Instr.slice,q1,mX hs];simp
       ·have ahU:m=0:=by
         rcases qT (P:=P) e1 pK nmx w with⟨_,hn,_⟩|⟨_,_,_,pJ,bB⟩
         ·simpa using hn
         ·simpa using pJ
        subst ahU;have hct:∀q:Option AV,py .tight (decide (0=([]:List (List AV)).length)&&q.isNone) (q.isSome&&decide (0=0)) (0 - 0)=.tight:=(by intro q;cases q<;>rfl);rw[hct];simp only[aaP,aaq];exact .jb _ _
      |list _ _ _ g off n aB cells hn hr fy ir ht ha=>
       subst hn;obtain⟨m',q1,q2,q3,q4,q5,q6,q7⟩:=Cx (P:=P) pI nlo sD nhi pK nmx true (top:=es.length) (aB:=aB) (len:=es.length) e1 e2 e3 ht.1 ht.1 A9 w;have ahV:m'<=aB:=by
        rcases qT (P:=P) e1 pK nmx w with⟨_,_,hn⟩|⟨_,_,_,pJ,bB⟩
        ·rw[(q2 hn).1];exact aJ _
        ·have:=q3 bB;have:=ht.1;omega
       refine⟨.slice (aa (if m'=l then ⟨g,off,aq⟩ else (⟨g,off,aq⟩:Addr).add (l * size))) (hb - l) (m' - l),?_,?_⟩
       ·simp only[Instr.sliceAt,Sem.run_bind,db hu,Result.andThen_ok,Instr.slice,q1,mX hs,Sem.run_pure];congr 2;split<;>rfl
       ·refine ajp (.list _ _ _ g off _ aB cells rfl hr fy ir ht ha) dH q4 xn q6 ahV (λh=>?_) (λh=>?_)
        ·simp only[bC,decide_eq_true_eq,Option.isNone_iff_eq_none] at h;exact⟨h.1,(q2 h.2).1⟩
        ·simp only[bC,decide_eq_true_eq] at h;rw[q3 h.1];exact h.2.symm
     ·cases he
    ·cases he
   ·cases he
  ·cases he
 ·rename_i elem b off len aB hu;split at he
  ·rename_i size m hs e1;split at he
   ·rename_i hb e2;split at he
    ·rename_i l e3;cases hx with
     |arr _ g _ _ _ fa hY hβ hl oo qo lK=>
      obtain⟨m',q1,q2,q3,q4,q5,q6,q7⟩:=Cx (P:=P) pI nlo sD nhi pK nmx ah (top:=aB) (aB:=hY) (len:=len) e1 e2 e3 ag oo A9 w;have hmc:m<=aB:=(by rcases qT (P:=P) e1 pK nmx w with⟨_,q,_⟩|⟨_,_,_,q,_⟩<;>omega);have hmm:m<=m':=by
       cases hq:Cm ρ mx with|none=>have:=q2 hq;omega|some z=>have:=q3 (by rw[hq];rfl);omega
      have xn:hb<=m:=by
       cases hq:Cm ρ mx with
       |none=>
        cases qs:Cm ρ hi with|none=>have:=q5 qs;have:=q2 hq;omega|some z=>exact q7 (by rw[qs];rfl)
       |some z=>have:=q3 (by rw[hq];rfl);omega
      have lL:(Instr.sliceAt t (.slice (aa ⟨g,fa,aq⟩) len hY) (Cm ρ' lo) (Cm ρ' hi) (Cm ρ' mx)).run P w=.ok (.slice (aa ⟨g,if m'=l then fa else fa+l * size,aq⟩) (hb - l) (m' - l)) w:=by
       simp only[Instr.sliceAt,Sem.run_bind,db hu,Result.andThen_ok,Instr.slice,q1,mX hs,Sem.run_pure];congr 2;split
       ·rfl
       ·simp[Addr.lY]
      refine⟨_,lL,?_⟩;split at he
      ·cases he
      rename_i ux;split at he
      ·rename_i mE;injection he with he;subst he;have:=q3 mE.1;rw[(ag:hb - l=0),(ag:m' - l=0)];exact .jb _ _
      ·injection he with he;subst he;refine .arr _ _ _ _ _ _ _ hβ ag ag ?_ ?_
       ·rcases qo with rfl|hz
        ·by_cases mE:m=l
         ·exact .inr ag
         ·rw[aG ag,aG mE];exact .inl rfl
        ·exact .inr ag
       ·cases hq:Cm ρ mx with
        |some z=>have:=q3 (by rw[hq];rfl);exact .inl ag
        |none=>
         obtain⟨r1,r2⟩:=q2 hq;by_cases mE:m=l
         ·exact .inr (.inl ag)
         ·rw[aG mE];by_cases zf:l=0
          ·subst zf;rcases lK with r|r|r|⟨sz,room,r3,r4,r5⟩
           ·exact .inl ag
           ·exact .inr (.inl ag)
           ·exact .inr (.inr (.inl ag))
           ·exact .inr (.inr (.inr ⟨sz,room,by rw[r2];exact r3,r4,by rw[r1];exact r5⟩))
          ·exact .inr (.inr (.inl (by have:=Lp (aa4 zf) (aa4 ux);omega)))
    ·cases he
   ·cases he
  ·cases he
 ·rename_i n elem b off hu;split at he
  ·rename_i size m hs e1;split at he
   ·rename_i hb e2;split at he
    ·rename_i l e3;injection he with he;subst he;cases hx with
     |box _ g _ hβ=>
      obtain⟨m',q1,q2,q3,q4,q5,q6,q7⟩:=Cx (P:=P) pI nlo sD nhi pK nmx av (top:=n) (aB:=n) (len:=n) e1 e2 e3 (aJ _) (aJ _) A9 w;have hm:m'=m:=by
       rcases qT (P:=P) e1 pK nmx w with⟨_,_,hn⟩|⟨_,_,_,pJ,bB⟩
       ·have:=q2 hn;omega
       ·exact q3 bB
      subst hm;refine⟨.slice (aa ⟨g,if m'=l then off else off+l * size,aq⟩) (hb - l) (m' - l),?_,.arr _ _ _ _ _ _ _ hβ ag (aJ _) (.inl rfl) (.inl rfl)⟩;simp only[Instr.sliceAt,Sem.run_bind,db hu,Result.andThen_ok,Instr.sureAddr,q1,mX hs,Sem.run_pure];congr 3;split
      ·rfl
      ·simp[Addr.lY]
    ·cases he
   ·cases he
  ·cases he
 ·cases he
def Mo{f:Field}{n:Nat}(hs:dm P f.type=aa n)(hn:n≠0)(g o:Nat)(w:World):(fieldPlace ⟨g,o,aq⟩ f).run P w=.ok ⟨g,o+f.offset,aq⟩ w:=by simp[fieldPlace,mX hs,hn,Addr.lY]
def afS{t:TypeId}{x y:AV}{f:Nat}(he:gQ P t x f=aa y){c:Value}(hx:aT K x c)(w:World):
 ∃v,(Instr.fieldAt t c f).run P w=.ok v w/\aT K y v:=by
 unfold gQ at he;split at he
 ·rename_i fields hu;split at he
  ·rename_i fd hf;split at he
   ·cases he
   ·rename_i n Ba hs;have hn:n≠0:=λe=>Ba e;split at he
    ·rename_i r off;injection he with he;subst he;cases hx with|box b g _ hb=>exact⟨_,by simp[Instr.fieldAt,db hu,hf,Instr.sureAddr,Mo hs hn],.box _ _ _ hb⟩|eD g _=>exact⟨_,by simp[Instr.fieldAt,db hu,hf,Instr.sureAddr,Mo hs hn],.eD _ _⟩
    ·rename_i sz es i off;injection he with he;subst he;cases hx with|elem _ _ _ _ g o p cells hr hv hc hi hp ha=>exact⟨.pointer (aa ⟨g,p+fd.offset,aq⟩),by simp[Instr.fieldAt,db hu,hf,Instr.sureAddr,Mo hs hn],.elem _ _ _ _ g o _ cells hr hv hc hi ag ha⟩
    ·cases he
   ·cases he
  ·cases he
 ·cases he
def ais{t:TypeId}{x ix y:AV}(he:dy P t x ix=aa y){c ci:Value}(hx:aT K x c)(hi:aT K ix ci)(w:World):
 ∃v,(Instr.indexAt t c ci).run P w=.ok v w/\aT K y v:=by
 unfold dy at he;split at he
 ·rename_i elem k sz es kk i hu;obtain⟨rfl,_⟩:=hi.iB;split at he
  ·rename_i hc;injection he with he;subst he;cases hx with|nil=>simp at hc;omega|jb=>simp at hc;omega|list _ _ _ g off n aB cells hn hr hv ir ht ha=>subst hn;refine⟨.pointer (aa ⟨g,off+i.toNat * sz,aq⟩),?_,.elem _ _ _ _ g off _ cells hr hv ir ag ag ha⟩;simp[Instr.indexAt,db hu,asIntOf,hc.1,hc.2.1,mX hc.2.2,Addr.lY]
  ·cases he
 ·rename_i elem b off len aB kk i hu;obtain⟨rfl,_⟩:=hi.iB;split at he
  ·rename_i size hs;split at he
   ·rename_i hc;injection he with he;subst he;cases hx with
    |arr _ g _ _ _ fa hY hb hl oo qo lK=>
     have:fa=off:=by rcases qo with p|p<;>omega
     subst this;exact⟨_,by simp[Instr.indexAt,db hu,asIntOf,hc.1,hc.2,mX hs,Addr.lY],.box _ _ _ hb⟩
   ·cases he
  ·cases he
 ·rename_i len elem r off kk i hu;obtain⟨rfl,_⟩:=hi.iB;split at he
  ·rename_i size hs;split at he
   ·rename_i hc;injection he with he;subst he;cases hx with|box b g _ hb=>exact⟨_,by simp[Instr.indexAt,db hu,asIntOf,hc.1,hc.2,mX hs,Addr.lY,Instr.sureAddr],.box _ _ _ hb⟩|eD g _=>exact⟨_,by simp[Instr.indexAt,db hu,asIntOf,hc.1,hc.2,mX hs,Addr.lY,Instr.sureAddr],.eD _ _⟩
   ·cases he
  ·cases he
 ·rename_i len elem sz es k off kk i hu;obtain⟨rfl,_⟩:=hi.iB;split at he
  ·rename_i size hs;split at he
   ·rename_i hc;injection he with he;subst he;cases hx with|elem _ _ _ _ g o p cells hr hv ir A1 hp ha=>exact⟨.pointer (aa ⟨g,p+i.toNat * size,aq⟩),by simp[Instr.indexAt,db hu,asIntOf,hc.1,hc.2,mX hs,Addr.lY,Instr.sureAddr],.elem _ _ _ _ g o _ cells hr hv ir A1 ag ha⟩
   ·cases he
  ·cases he
 ·cases he
def WW{t:TypeId}{cs:List AV}{off:Nat}{y:AV}(he:Gq P t cs off=aa y){vs:Array Value}(hx:aM K cs vs.toList)(w:World):
 ∃v,(part t vs off).run P w=.ok v w/\aT K y v:=by
 unfold Gq at he;split at he
 ·rename_i AN;simp only[dh] at he;obtain⟨n,hs,rfl⟩:=he;refine⟨.agg (vs.extract off (off+n)),by simp[part,Kg AN,mX hs],.agg _ _ ?_⟩;have:(vs.extract off (off+n)).toList=(vs.toList.drop off).take n:=by rw[ZM,aar];congr 1;omega
  rw[this];exact(hx.drop off).take n
 ·rename_i AN;obtain⟨c,hc,hr⟩:=hx.get he;exact⟨c,by simp only[part,Sem.run_bind,Kg AN,Result.andThen_ok];simp only[jG,if_false];rw[show vs[off]?=aa c by simpa using hc];rfl,hr⟩
 ·cases he
def aiu{t:TypeId}{x ix y:AV}(he:Bo P t x ix=aa y){c ci:Value}(hx:aT K x c)(hi:aT K ix ci)(w:World):
 ∃v,(Instr.index t c ci).run P w=.ok v w/\aT K y v:=by
 unfold Bo at he;split at he
 ·rename_i s kk i hu;obtain⟨rfl,_⟩:=hi.iB;obtain⟨rfl,_⟩:=hx.iB;split at he
  ·rename_i b hb;injection he with he;subst he;split at hb
   ·rename_i h0;refine⟨.int .u8 b.toNat,?_,.v _ rfl⟩;have:s[i.toNat]?=aa b:=(by have h1:i.toNat<s.data.size:=(BN.1 hb).1;have h2:s.data[i.toNat]=b:=(BN.1 hb).2;have h3:i.toNat<s.size:=h1;rw[getElem?_pos s i.toNat h3];exact congrArg aa h2);simp only[Instr.index,Sem.run_bind,asIntOf,Sem.run_pure,Result.andThen_ok,db hu,aF h0,this]
   ·cases hb
  ·cases he
 ·rename_i len elem cs kk i hu;obtain⟨rfl,_⟩:=hi.iB;split at he
  ·rename_i size hs;split at he
   ·rename_i hc;cases hx with|agg _ vs fy=>obtain⟨v,q1,q2⟩:=WW he fy w;exact⟨v,by simp only[Instr.index,Sem.run_bind,asIntOf,Sem.run_pure,Result.andThen_ok,db hu,aF hc,mX hs,q1],q2⟩
   ·cases he
  ·cases he
 ·cases he
def Oj{t:TypeId}(he:isIface P t=aa av):∃d,P.underlying t=aa d/\∀ms,d≠ .interface ms:=by
 unfold isIface at he;split at he
 ·cases he
 ·rename_i d h1 h2;exact⟨d,h2,λms e=>h1 ms e⟩
 ·cases he
def ach{x y:AV}{xt a:TypeId}{okk:Bool}(he:wU P x a okk=aa y){c:Value}(hx:aT K x c)(w:World):
 ∃v,(Instr.typeAssert c xt a okk).run P w=.ok v w/\aT K y v:=by
 unfold wU at he;split at he
 ·rename_i t x' xq;obtain⟨d,hu,hd⟩:=Oj xq;cases hx with
  |iface _ _ c' hx=>
   split at he
   ·rename_i vO;injection he with he;subst he;subst vO;cases okk with
    |true=>refine⟨.tuple #[c',.bool ah],?_,.tuple _ _ (.cons _ _ _ _ hx (.cons _ _ _ _ (.v _ rfl) .nil))⟩;simp only[Instr.typeAssert,Sem.run_bind,db hu,Result.andThen_ok];cases d<;>first|exact absurd rfl (hd _)|simp
    |false=>refine⟨c',?_,hx⟩;simp only[Instr.typeAssert,Sem.run_bind,db hu,Result.andThen_ok];cases d<;>first|exact absurd rfl (hd _)|simp
   ·rename_i vO;split at he
    ·rename_i bA;simp only[dh] at he;obtain⟨z,hz,rfl⟩:=he;obtain⟨v,jg,rfl⟩:=P6 hz w;refine⟨.tuple #[v,.bool av],?_,.tuple _ _ (.cons _ _ _ _ (JA v) (.cons _ _ _ _ (.v _ rfl) .nil))⟩;simp only[Instr.typeAssert,Sem.run_bind,db hu,Result.andThen_ok];cases d<;>first|exact absurd rfl (hd _)|simp[vO,bA,jg]
    ·cases he
 ·rename_i xq;obtain⟨d,hu,hd⟩:=Oj xq;obtain⟨rfl,_⟩:=hx.iB;split at he
  ·rename_i bA;simp only[dh] at he;obtain⟨z,hz,rfl⟩:=he;obtain⟨v,jg,rfl⟩:=P6 hz w;refine⟨.tuple #[v,.bool av],?_,.tuple _ _ (.cons _ _ _ _ (JA v) (.cons _ _ _ _ (.v _ rfl) .nil))⟩;simp only[Instr.typeAssert,Sem.run_bind,db hu,Result.andThen_ok];cases d<;>first|exact absurd rfl (hd _)|simp[bA,jg]
  ·cases he
 ·cases he
def adi{op}{b}{x}(he:vk op b=aa x):(op=.eql/\x=.v (.bool b))∨(op=.neq/\x=.v (.bool !b)):=by
 unfold vk at he;split at he
 ·injection he with he;exact .inl ⟨rfl,he.symm⟩
 ·injection he with he;exact .inr ⟨rfl,he.symm⟩
 ·cases he
def Sd{op:BinOp}{t:TypeId}{x y:Operand}{a b r:AV}(he:HZ P op t x y a b=aa r){p q:Value}(ha:aT K a p)(hb:aT K b q)(w:World):
 ∃v,(do eqGuard op t x y p q;binOp op t p q:Sem Value).run P w=.ok v w/\aT K r v:=by
 unfold HZ at he;split at he
 ·rename_i p' q' hp hq;have e1:=Iv hp ha;have e2:=Iv hq hb;subst e1;subst e2;simp only[yv] at he;obtain⟨z,h1,h2⟩:=he;exact⟨z,Gw h1 w,G7 h2⟩
 ·cases he
def wZ{op:BinOp}{t:TypeId}{x y:Operand}{p q:Value}{b:Bool}{r:AV}(he:vk op b=aa r)(hg:∀op,eqGuard op t x y p q=pure ())(w:World)
 (ahx:∀d,(Op.equalIn (d+1) t p q).run P w=.ok b w) (h1:binOp .eql t p q=(do pure (.bool (<-Op.equal t p q)))) (h2:binOp .neq t p q=(do pure (.bool (!(<-Op.equal t p q))))):
 ∃v,(do eqGuard op t x y p q;binOp op t p q:Sem Value).run P w=.ok v w/\aT K r v:=by
 have lI:(Op.equal t p q).run P w=.ok b w:=ahx 9999;rcases adi he with⟨rfl,rfl⟩|⟨rfl,rfl⟩
 ·exact⟨.bool b,by rw[hg,h1];simp[lI],.v _ rfl⟩
 ·exact⟨.bool !b,by rw[hg,h2];simp[lI],.v _ rfl⟩
def VW{t:TypeId}(he:isIface P t=aa ah):∃ms,P.underlying t=aa (.interface ms):=by
 unfold isIface at he;split at he
 ·exact⟨_,‹_›⟩
 ·cases he
 ·cases he
def acN{op:BinOp}{t:TypeId}{x y:Operand}{a b r:AV}(he:cN P op t x y a b=aa r){p q:Value}(ha:aT K a p)(hb:aT K b q)(w:World):
 ∃v,(do eqGuard op t x y p q;binOp op t p q:Sem Value).run P w=.ok v w/\aT K r v:=by
 unfold cN at he;split at he
 ·rename_i s1 s2;have f1:=ha.iB.1;have f2:=hb.iB.1;subst f1;subst f2;split at he
  ·injection he with he;subst he;exact⟨.bool (s1.data.toList==s2.data.toList),by simp[eqGuard,binOp,Op.stringOp,ByteArray.toList_eq],.v _ rfl⟩
  ·injection he with he;subst he;exact⟨.bool !(s1.data.toList==s2.data.toList),by simp[eqGuard,binOp,Op.stringOp,ByteArray.toList_eq],.v _ rfl⟩
  ·split at he
   ·rename_i hl;injection he with he;subst he;refine⟨.string (s1++s2),?_,.v _ rfl⟩;have:¬(((s1.size+s2.size:Nat):Int)>IntKind.i64.max):=(by simp only[IntKind.max,IntKind.signed,IntKind.bits];simp;omega);simp only[eqGuard,binOp,Op.stringOp];simp only[aG this];simp
   ·cases he
  ·exact Sd he ha hb w
 ·rename_i ti xi;split at he
  ·rename_i xq;obtain⟨ms,hu⟩:=VW xq;cases ha with|iface _ _ c hx=>have f2:=hb.iB.1;subst f2;refine wZ he (λop=>by cases op<;>rfl) w (λd=>?_) rfl rfl;simp only[Op.equalIn,Sem.run_bind,db hu,Result.andThen_ok,Sem.run_pure]
  ·cases he
 ·rename_i ti xi;split at he
  ·rename_i xq;obtain⟨ms,hu⟩:=VW xq;cases hb with|iface _ _ c hx=>have f2:=ha.iB.1;subst f2;refine wZ he (λop=>by cases op<;>rfl) w (λd=>?_) rfl rfl;simp only[Op.equalIn,Sem.run_bind,db hu,Result.andThen_ok,Sem.run_pure]
  ·cases he
 ·rename_i r0 o0;split at he
  ·rename_i e hu;have f2:=hb.iB.1;subst f2;cases ha<;>(refine wZ he (λop=>by cases op<;>rfl) w (λd=>?_) rfl rfl;simp only[Op.equalIn,Sem.run_bind,db hu,Result.andThen_ok,Sem.run_pure,HO])
  ·cases he
 ·rename_i r0 o0;split at he
  ·rename_i e hu;have f2:=ha.iB.1;subst f2;cases hb<;>(refine wZ he (λop=>by cases op<;>rfl) w (λd=>?_) rfl rfl;simp only[Op.equalIn,Sem.run_bind,db hu,Result.andThen_ok,Sem.run_pure,HO])
  ·cases he
 ·split at he
  ·rename_i hu;have f2:=hb.iB.1;subst f2;cases ha<;>(refine wZ he (λop=>by cases op<;>rfl) w (λd=>?_) rfl rfl;simp only[Op.equalIn,Sem.run_bind,db hu,Result.andThen_ok,Sem.run_pure,HO])
  ·cases he
 ·split at he
  ·rename_i hu;have f2:=ha.iB.1;subst f2;cases hb<;>(refine wZ he (λop=>by cases op<;>rfl) w (λd=>?_) rfl rfl;simp only[Op.equalIn,Sem.run_bind,db hu,Result.andThen_ok,Sem.run_pure,HO])
  ·cases he
 ·rename_i k sz es sz2;split at he
  ·rename_i e hu;have f2:q=.slice aq 0 0:=by
    cases hb with|nil=>rfl|list _ _ _ _ _ _ _ _ _ _ _ _ ht _=>exact ht.2.elim
   subst f2;cases ha with
   |nil=>refine wZ he (λop=>by cases op<;>rfl) w (λd=>?_) rfl rfl;simp only[Op.equalIn,Sem.run_bind,db hu,Result.andThen_ok,Sem.run_pure,Option.isNone_none,decide_true]
   |jb=>refine wZ he (λop=>by cases op<;>rfl) w (λd=>?_) rfl rfl;simp only[Op.equalIn,Sem.run_bind,db hu,Result.andThen_ok,Sem.run_pure,HO];rfl
   |list _ _ _ g off n aB cells hn hr hv hc ht _=>have hk:k≠ .nil:=λe=>(by subst e;exact ht.2);refine wZ he (λop=>by cases op<;>rfl) w (λd=>?_) rfl rfl;simp only[Op.equalIn,Sem.run_bind,db hu,Result.andThen_ok,Sem.run_pure,hk,decide_false]
  ·cases he
 ·exact Sd he ha hb w
def arR{op:UnOp}{a r:AV}(he:BJ P op a=aa r){p:Value}(ha:aT K a p)(w:World):∃v,(Op.unary op p).run P w=.ok v w/\aT K r v:=by
 unfold BJ at he;split at he
 ·rename_i p' hp;have e1:=Iv hp ha;subst e1;simp only[yv] at he;obtain⟨z,h1,h2⟩:=he;exact⟨z,Gw h1 w,G7 h2⟩
 ·cases he
end
section
variable {P:Program} {K:aS} {G:Nat->Option (List AV)} {ok:FuncId->Nat->Code->Bool} {w0 w:World} {h:ak}
def RU{h}{d}{sz}{es}{t}(hd:∀n∈h.dead,n∈d)(ha:alive ({h with dead:=d}.fresh sz es).2 t=ah):
 t=h.tn∨(alive h t=ah/\t∉d):=by
 simp only[ak.fresh,alive,bC,decide_eq_true_eq,yk,List.contains_eq_mem,decide_eq_false_iff_not] at ha;obtain⟨vz,pD⟩:=ha;have vz:t<h.tn+1:=of_decide_eq_true vz;rcases dI t h.tn with aA|dM
 ·exact .inr ⟨by simp[alive,aA];exactλhm=>pD (hd t hm),pD⟩
 ·exact .inl ag
def bN.MC{w':World}(s:bN K G ok w0 h w){d:List Nat}(hd:∀n∈h.dead,n∈d){sz:Nat}{es:List (List AV)}{cells:Array Value}{e:TypeId}{fz:Nat × Nat}{aB:Nat}
 (hr:∀r∈es,r.length=sz) (ha:es.flatten.all AV.dN=ah) (hv:aM K es.flatten (cells.toList.take (es.length * sz)))
 (NL:w'.os=w.os) (N8:w'.tape=w.tape) (zi:w'.output=w.output) (dH:w'.heap.size=w.heap.size+1)
 (mS:∀k,k<w.heap.size->w'.heap[k]?=w.heap[k]?) (np:w'.heap[w.heap.size]?=aa (.cells cells e fz))
 (je:es.length<=aB) (pH:aB * sz<=cells.size) (vI:∀j,j<cells.size->mN fz j=av):
 ∃K',K.Le K'/\bN K' G ok w0 ({h with dead:=d}.fresh sz es).2 w'/\aT K' ({h with dead:=d}.fresh sz es).1 (.slice (aa ⟨w.heap.size,0,aq⟩) es.length aB):=by
 have A2:∀j,K.ic w.heap.size j=aq:=λj=>by
  cases hc:K.ic w.heap.size j with|none=>rfl|some c=>have:=s.zt hc;omega
 have hlen:es.length * sz<=cells.size:=fe (nF _ je) pH;have dF:=s.row (h':=({h with dead:=d}.fresh sz es).2) (w':=w') (g:=w.heap.size) (off:=0) (m:=es.length * sz) (cells:=cells) (e:=e) (fz:=fz) rfl rfl rfl
  (λt ht=>(RU hd ht).imp id λhh=>⟨hh.1,λlI=>by obtain⟨_,_,_,_,_,_,h4,_⟩:=s.tok t hh.1;have:=nS h4;omega⟩)
  s.size (λb hb=>by obtain⟨cs,bW⟩:=βaa s hb;obtain⟨_,_,_,_,_,h3,_⟩:=s.box b _ cs hb bW;have:=nS h3;omega) (λj _=>A2 j) ag NL N8 zi
  (λk o hk ho=>by rw[mS k (nS ho)];exact ho) np (λo ho=>by have:=nS ho;omega) (λj c hc=>by rw[A2] at hc;cases hc) (cr _) hlen (λj _ hl=>vI j hl)
 have le:=aS.Oy (K:=K) (g:=w.heap.size) (off:=0) (m:=es.length * sz) (size:=cells.size) (cells:=λj=>cells[j]?) (λj _=>A2 j) s.size;refine⟨_,le,dF,?_⟩;refine .list (.free h.tn) sz es w.heap.size 0 _ aB (cells.toList.take (es.length * sz)) rfl hr (hv.mono le) (λj c hj=>?_) ⟨je,?_⟩ ha
 ·simp only[nC] at hj;split at hj
  ·rename_i aA;simp only[aS.row,oF];rw[aF (by exact⟨aQ,cr _,aA⟩)];simpa using hj
  ·cases hj
 ·simp only[aS.row,s.tn,if_true];refine⟨ag,aQ,by omega,by omega⟩
def yD(l:List UInt8):∀r∈l.map jJ,r.length=1:=by intro r hr;simp only[jo] at hr;obtain⟨b,_,rfl⟩:=hr;rfl
def LZ(l:List UInt8):(l.map jJ).flatten=l.map λb=>AV.v (.int .u8 b.toNat):=by
 induction l with
 |nil=>rfl|cons b l ih=>simp[jJ,ih]
def Ss(l:List UInt8):aM K (l.map jJ).flatten (l.map λb=>Value.int .u8 b.toNat):=by rw[LZ];exact aM.map_mk λb _=>.v _ rfl
def Sr(l:List UInt8):(l.map jJ).flatten.all AV.dN=ah:=by rw[LZ,dU];intro x hx;simp only[jo] at hx;obtain⟨b,_,rfl⟩:=hx;rfl
def arK(s:bN K G ok w0 h w){e:TypeId}{str:ByteArray}:
 ∃K' v w',K.Le K'/\bN K' G ok w0 (h.fresh 1 (str.data.toList.map jJ)).2 w'/\aT K' (h.fresh 1 (str.data.toList.map jJ)).1 v/\(Conv.stringToBytes e str).run P w=.ok v w':=by
 have hq:∃aB,str.size<=aB/\(choose (.appendCap str.size 0 e)).run P w=.ok aB {w with drawn:=w.drawn+1}:=by refine⟨_,?_,by simp[Question.forced];rfl⟩;simp[Question.cut]
 obtain⟨aB,je,uq⟩:=hq
 let w1:World:={w with drawn:=w.drawn+1}
 let cells:Array Value:=str.data.map (λb=>.int .u8 b.toNat)++BQ (aB - str.size) (.int .u8 0)
 have bW:cells.size=aB:=by have:str.data.size=str.size:=rfl;simp only[cells,Array.size_append,Array.size_map,Array.size_replicate,this];try omega
 have hlen:str.data.toList.length=str.size:=rfl
 let w2:World:=({w1 with heap:=w1.heap.push (.cells cells e)}:World).freeze {block:=w1.heap.size,off:=aB} 1
 have np:w2.heap[w.heap.size]?=aa (.cells cells e (aB,aB+1)):=by simp only[w2,World.freeze,w1,Lq,if_false,BO,if_true,Array.getElem?_push_size,eJ];rfl
 have mS:∀k,k<w.heap.size->w2.heap[k]?=w.heap[k]?:=λk hk=>by simp only[w2,World.freeze,w1,BO];simp only[Lq,if_false,BO];rw[aG ag];exact AY w _ hk
 obtain⟨K',le,s',hv⟩:=s.MC (w':=w2) (d:=h.dead) (λ_ hm=>hm) (sz:=1) (es:=str.data.toList.map jJ) (cells:=cells) (e:=e) (fz:=(aB,aB+1)) (aB:=aB)
  (yD _) (Sr _) (by have:cells.toList.take ((str.data.toList.map jJ).length * 1)=str.data.toList.map λb=>Value.int .u8 b.toNat:=(by simp only[cells,BR,BS,bu,nG];rw[HK bh,gm bh]);rw[this];exact Ss _) rfl rfl rfl (by simp[w2,World.freeze,w1]) mS np (by simp only[bu,hlen];exact je) ag (λj hj=>by simp[mN];omega)
 refine⟨K',_,w2,le,s',hv,?_⟩;have jN:(str.data.toList.map jJ).length=str.size:=by simp only[bu,hlen]
 rw[jN];simp only[Conv.stringToBytes,Sem.run_bind,uq,Result.andThen_ok,newRow,run_newObj,Sem.run_pure,markStringish,run_shape];have Jc:({w1 with heap:=w1.heap.push (.cells cells e)}:World).shape? w1.heap.size=aa (e,aB):=by simp[World.shape?,bW]
 simp only[w1,cells] at Jc;simp only[Jc,run_freeze,Result.andThen_ok,Sem.run_pure,w2,w1,cells]
def adw:∀{ae:List (List AV)} {l:List UInt8},bytesOf ae=aa l->∀{vs:List Value},aM K ae.flatten vs->
 ∃ns:List Int,vs=ns.map (.int .u8 ·)/\l=ns.map λn=>UInt8.ofNat n.toNat:=by
 intro ae
 induction ae with
 |nil=>intro l h vs hv;simp[bytesOf] at h;subst h;cases hv;exact⟨[],rfl,rfl⟩
 |cons r ae ih=>
  intro l h vs hv;simp only[bytesOf] at h;split at h
  ·rename_i b l' hb hl;injection h with h;subst h;unfold byteOf at hb;split at hb
   ·rename_i n;injection hb with hb;subst hb;simp only[nX,kj,lV] at hv;cases hv with|cons _ c _ cs hx hs=>obtain⟨ns,h1,h2⟩:=ih hl hs;exact⟨n::ns,by rw[hx.iB.1,h1];rfl,by rw[h2];rfl⟩
   ·cases hb
  ·cases h
def foldl_push(ns:List Int):∀acc:ByteArray,ns.foldl (λb a=>b.push (UInt8.ofNat a.toNat)) acc=⟨acc.data++(ns.map λn=>UInt8.ofNat n.toNat).toArray⟩:=by
 induction ns with
 |nil=>intro acc;simp|cons n ns ih=>intro acc;simp only[wN,ih,eo];simp[ByteArray.push]
def GF(s:bN K G ok w0 h w){size:Nat}{x:AV}{ae:List (List AV)}(he:rowsOf h size x=aa ae){c:Value}(hv:aT K x c):
 ∃a aB dT,c=.slice a ae.length aB/\(∀r∈ae,r.length=size)/\aM K ae.flatten dT/\ae.flatten.all AV.dN=ah/\dT.length=ae.length * size/\
  (∀b,a=aa b->(loadCells b (ae.length * size)).run P w=.ok dT.toArray w)/\(a=aq->ae=[]):=by
 unfold rowsOf at he;split at he
 ·rename_i k sz es;split at he
  ·rename_i dH;injection he with he;subst he;cases hv with
   |nil=>exact⟨aq,0,[],rfl,by simp,.nil,rfl,by simp,λb hb=>(by cases hb),λ_=>rfl⟩|jb _ a0=>refine⟨aa a0,0,[],rfl,by simp,.nil,rfl,by simp,λb hb=>?_,λhb=>by cases hb⟩;have:=run_loadCells_list (P:=P) w b [] (λj v hj=>by simp at hj);simpa using this|list _ _ _ g off n aB cells hn hr fy ir ht ha=>
    subst hn;have hl:cells.length=es.length * sz:=(by rw[<-fy.length,mM hr]);have xD:es.length * sz=es.length * size:=by
     rcases dH with h|h
     ·rw[h]
     ·simp[h]
    refine⟨aa ⟨g,off,aq⟩,aB,cells,rfl,λr hm=>?_,fy,ha,by rw[hl,xD],λb hb=>?_,λhn=>by cases hn⟩
    ·rcases dH with h|h
     ·rw[<-h];exact hr r hm
     ·rw[h] at hm;simp at hm
    ·injection hb with hb;subst hb;have:=run_loadCells_list (P:=P) w ⟨g,off,aq⟩ cells (λj v hj=>by rw[Addr.lY];exact s.ic _ _ _ (ir j v hj));rw[hl,xD] at this;exact this
  ·cases he
 ·rename_i b off len aB;split at he
  ·rename_i cs bW;split at he
   ·rename_i pH;injection he with he;subst he;cases hv with
    |arr _ g _ _ _ fa hY hb hl oo qo lK=>
     obtain⟨_,_,ka,cells,e,k3,k4⟩:=s.box b g cs hb bW;have ahB:∀n,off+n * size<=cs.length->((bO n).map λi=>(cs.drop (off+i * size)).take size).flatten=(cs.drop off).take (n * size):=by
      intro n
      induction n with
      |zero=>intro _;simp|succ n ih=>intro hn;rw[ob,lU,p9,ih (by rw[gg] at hn;omega)];simp only[eo,List.map_nil,nX,Q8,jH];rw[show(n+1) * size=n * size+size by rw[gg];omega,List.take_add,List.drop_drop]
     have hf:=ahB len pH;have hk4:=(k4.1.drop off).take (len * size);have dC:cs.length<=cells.toList.length:=(by have:=k4.le;simpa using this);have oT:(((cells.toList.take cs.length).drop off).take (len * size)).length=len * size:=(by simp only[eP,gE];omega);refine⟨aa ⟨g,fa,aq⟩,hY,((cells.toList.take cs.length).drop off).take (len * size),by simp,λr hr=>?_,?_,?_,by rw[oT];simp,λb' gU=>?_,λhn=>by cases hn⟩
     ·simp only[jo,fY] at hr;obtain⟨i,hi,rfl⟩:=hr;simp only[eP,gE];have:(i+1) * size<=len * size:=nF _ hi;rw[gg] at this;omega
     ·rw[hf];exact hk4
     ·rw[hf,dU];intro x hx;exact dU.1 ka x (Lb (oa hx))
     ·injection gU with gU;subst gU;have:=run_loadCells_list (P:=P) w ⟨g,fa,aq⟩ (((cells.toList.take cs.length).drop off).take (len * size)) (λj v hj=>by
       rcases qo with rfl|hz
       ·rw[Addr.lY,qW k3];simp only[nC,nZ] at hj;split at hj
        ·split at hj
         ·simpa using hj
         ·cases hj
        ·cases hj
       ·have zf:len=0:=(by omega);subst zf;simp at hj)
      have jN:(((cells.toList.take cs.length).drop off).take (len * size)).length=((bO len).map λi=>(cs.drop (off+i * size)).take size).length * size:=(by rw[oT];simp);rw[jN] at this;exact this
   ·cases he
  ·cases he
 ·cases he
def Gj(s:bN K G ok w0 h w){size:Nat}{x:AV}{ae:List (List AV)}(he:me h size x=aa ae){c:Value}(hv:aT K x c):
 ∃dT,(Builtin.lenOf c).run P w=.ok ae.length w/\(∀r∈ae,r.length=size)/\aM K ae.flatten dT/\ae.flatten.all AV.dN=ah/\dT.length=ae.length * size/\
  (Builtin.firstCells size ae.length c).run P w=.ok dT.toArray w:=by
 unfold me at he;split at he
 ·rename_i str;split at he
  ·rename_i h1;injection he with he;subst he;subst h1;obtain⟨rfl,_⟩:=hv.iB;have hl:(str.data.toList.map jJ).length=str.size:=(by rw[bu];rfl);refine⟨str.data.toList.map λb=>.int .u8 b.toNat,by rw[hl];rfl,yD _,Ss _,Sr _,by simp,?_⟩;rw[hl];have:str.extract 0 str.size=str:=(by simp);have e2:str.data.map (λb=>Value.int .u8 b.toNat)=(str.data.toList.map λb=>Value.int .u8 b.toNat).toArray:=(by apply KL;simp);simp only[Builtin.firstCells,this,Sem.run_pure,e2]
  ·cases he
 ·obtain⟨a,aB,dT,rfl,hr,fy,ha,hlen,A6,ov⟩:=GF (P:=P) s he hv;refine⟨dT,rfl,hr,fy,ha,hlen,?_⟩;cases a with|none=>have:=ov rfl;subst this;have:dT=[]:=(by simpa using hlen);subst this;rfl|some b=>exact A6 b rfl
def YE(z)(n):(Builtin.zeroCells z n).size=n * z.size:=by simp[Builtin.zeroCells]
def agG(s:bN K G ok w0 h w){d:List Nat}(hd:∀n∈h.dead,n∈d){t0 t1 elem:TypeId}{ts:Array TypeId}{ty:TypeId}{i:TypeInfo}{d1:TypeDesc}(h0:ts[0]?=aa t0)(hu:P.underlying t0=aa (.slice elem))
 (h1:ts[1]?=aa t1) (lN:P.underlying t1=aa d1) (eL:∀k,d1≠ .int k) (hi:P.info? elem=aa i) (hz:(i.zero.map λz=>z.cells.size)=aa i.size)
 {es new:List (List AV)} {a:Option Addr} {aB:Nat} {c cx:Value} (hc:c=.slice a es.length aB) (je:aB<es.length+new.length)
 (hr:∀r∈es,r.length=i.size) (ha:es.flatten.all AV.dN=ah) {dT:List Value} (fy:aM K es.flatten dT) (hf:(Builtin.firstCells i.size es.length c).run P {w with drawn:=w.drawn+1}=.ok dT.toArray {w with drawn:=w.drawn+1})
 {nv:List Value} (Nz:(Builtin.lenOf cx).run P w=.ok new.length w) (Ja:∀r∈new,r.length=i.size) (VH:aM K new.flatten nv) (xk:new.flatten.all AV.dN=ah)
 (y6:(Builtin.firstCells i.size new.length cx).run P {w with drawn:=w.drawn+1}=.ok nv.toArray {w with drawn:=w.drawn+1})
 (hb:(es.length+new.length) * i.bytes<=140737488355328) (hm:es.length+new.length<=9223372036854775807):
 ∃K' v w',K.Le K'/\bN K' G ok w0 ({h with dead:=d}.fresh i.size (es++new)).2 w'/\aT K' ({h with dead:=d}.fresh i.size (es++new)).1 v/\(Builtin.append_ ts ty #[c,cx]).run P w=.ok v w':=by
 simp only[dh] at hz;obtain⟨z,hz,vP⟩:=hz;have hq:∃nc,es.length+new.length<=nc/\(choose (.appendCap (es.length+new.length) aB elem)).run P w=.ok nc {w with drawn:=w.drawn+1}:=by refine⟨_,?_,by simp[Question.forced];rfl⟩;simp[Question.cut]
 obtain⟨nc,FN,uq⟩:=hq
 let rest:=Builtin.zeroCells z.cells (nc - (es.length+new.length))
 let cells:Array Value:=dT.toArray++nv.toArray++rest
 let w1:World:={w with drawn:=w.drawn+1}
 let w2:World:={w1 with heap:=w1.heap.push (.cells cells elem)}
 have oO:dT.length=es.length * i.size:=by rw[<-fy.length,mM hr]
 have jN:nv.length=new.length * i.size:=by rw[<-VH.length,mM Ja]
 have hlen:(es++new).length * i.size=(dT++nv).length:=by rw[dk,dk,oO,jN,gg]
 have hzero:(zeroValue elem).run P w1=.ok z w1:=by simp[zeroValue,qE hi,hz]
 have ahA:=growslice_fits (bytes:=i.bytes) je hb;have lL:(Builtin.append_ ts ty #[c,cx]).run P w=.ok (.slice (aa ⟨w.heap.size,0,aq⟩) (es.length+new.length) nc) w2:=by
  subst hc;have e1:¬(((es.length+new.length:Nat):Int)>IntKind.i64.max):=by simp only[IntKind.max,IntKind.signed,IntKind.bits];simp;omega
  have e2:¬(Builtin.nextslicecap (es.length+new.length) aB * i.bytes>2^48):=by omega
  have e3:¬(es.length+new.length<=aB):=by omega
  cases d1<;>first|exact absurd rfl (eL _)|(simp only[Builtin.append_,h0,jc,jv,oD,Sem.run_bind,db hu,Result.andThen_ok,sizeOf,qE hi,Sem.run_pure,h1,db lN,jG,if_false,Nz,e3,e1,e2,false_and,uq,run_askRoom,hf,yl,if_true,y6,newRow,run_newObj,hzero,w1,w2,cells,rest])
 have bB:cells.size=nc * i.size:=by simp only[cells,QI,aaO,rest,YE,oO,jN,vP];rw[Lt];have:(es.length+new.length) * i.size<=nc * i.size:=nF _ FN;rw[gg] at this ⊢;omega
 have np:w2.heap[w.heap.size]?=aa (.cells cells elem (0,0)):=by simp[w2,w1]
 obtain⟨K',le,s',hv⟩:=s.MC (w':=w2) hd (sz:=i.size) (es:=es++new) (cells:=cells) (e:=elem) (fz:=(0,0)) (aB:=nc)
  (λr hm=>by rcases uZ.1 hm with hm|hm;exact hr r hm;exact Ja r hm) (by rw[p9,Ey,ha,xk];rfl) (by have:cells.toList.take ((es++new).length * i.size)=dT++nv:=(by rw[hlen];simp only[cells,BR];rw[HK bh];exact gm bh);rw[this,p9];exact fy.append VH) rfl rfl rfl (by simp[w2,w1]) (λk hk=>AY w _ hk) np (by rw[dk];exact FN) (by rw[bB];exact aJ _) (λj _=>Iz j)
 rw[dk] at hv;exact⟨K',_,w2,le,s',hv,lL⟩
def asK(s:bN K G ok w0 h w){ts:Array TypeId}{ty elem:TypeId}{kn:IntKind}{a x y:AV}{h':ak}(hu:(ts[0]?).bind P.underlying=aa (.slice elem))(lN:(ts[1]?).bind P.underlying=aa (.int kn))
 (he:KI P h ts elem a x=aa (y,h')) {c cx:Value} (ha:aT K a c) (hx:aT K x cx):
 ∃K' v w',K.Le K'/\bN K' G ok w0 h' w'/\aT K' y v/\(Builtin.append_ ts ty #[c,cx]).run P w=.ok v w':=by
 unfold KI at he;split at he
 ·rename_i sz kk n;obtain⟨rfl,_⟩:=hx.iB;split at he
  ·rename_i i zero hi hz;obtain⟨z,jg,gI,xI⟩:=BM (K:=K) hz w;split at he
   ·rename_i MW;obtain⟨h0,h1,h2,h3,h5,h6⟩:=MW;injection he with he;obtain⟨rfl,rfl⟩:=il he;have hzero:i.zero=aa z:=by
     simp only[zeroValue,Sem.run_bind,qE hi,Result.andThen_ok] at jg;cases Ga:i.zero with|none=>rw[Ga] at jg;simp at jg|some v=>rw[Ga] at jg;simp at jg;rw[jg]
    have vP:z.cells.size=i.size:=(by rw[<-h6,gI.length];simp);obtain⟨m,rfl⟩:∃m:Nat,n=m:=⟨n.toNat,by omega⟩;rw[Int.toNat_natCast];obtain⟨t0,t1,rfl⟩:∃t0 t1,ts=#[t0,t1]:=by
     obtain⟨l⟩:=ts
     match l,h0 with
     | [a,b],_=>exact⟨a,b,rfl⟩
    have hu:P.underlying t0=aa (.slice elem):=hu;have lN:P.underlying t1=aa (.int kn):=lN;have hm:m * i.bytes<=140737488355328:=(by have:((m * i.bytes:Nat):Int)<=140737488355328:=(by rw[Int.natCast_mul];exact h2);omega);have lL:=Go.Lib.run_append_nil_zeros (P:=P) w t0 t1 ty elem i z kk kn hu lN hi hzero m ag h5 ag ag;have dM:=grownCap_ge w m 0 elem;generalize grownCap w m 0 elem=gc at *
    have IJ:(Builtin.zeroCells z.cells m).toList=(aY m z.cells.toList).flatten:=Gz _ _;have oO:(aY m z.cells.toList).flatten.length=(aY m zero).flatten.length:=(gI.AF m).length.symm;have jN:(aY m zero).flatten.length=m * i.size:=mM (sz:=i.size) (es:=aY m zero) (λr hr=>by rw[HD hr];exact h6)|>.trans (by rw[lT])
    have dH:(Builtin.zeroCells z.cells m++Builtin.zeroCells z.cells (gc - m)).size=gc * i.size:=by
     rw[QI,<-wG,<-wG,IJ,oO,jN];have e2:(Builtin.zeroCells z.cells (gc - m)).toList=(aY (gc - m) z.cells.toList).flatten:=Gz _ _;rw[e2,<-(gI.AF (gc - m)).length];have e3:(aY (gc - m) zero).flatten.length=(gc - m) * i.size:=mM (sz:=i.size) (es:=aY (gc - m) zero) (λr hr=>by rw[HD hr];exact h6)|>.trans (by rw[lT])
     rw[e3,<-gg,Nat.add_sub_cancel' dM]
    obtain⟨q1,q2⟩:=(s.drew (w.drawn+1)).OO (cs:=(aY m zero).flatten) (cells:=Builtin.zeroCells z.cells m++Builtin.zeroCells z.cells (gc - m)) elem (aa (m,i.size,gc * i.size))
     (by rw[BR,IJ,HK (by rw[oO];exact aJ _),gm (by rw[oO];exact aJ _)];exact gI.AF m) (JN xI _)
     (λN sz room q=>by injection q with q;injection q with q1 q;injection q with q2 q3;subst q1 q2 q3;exact .inr ⟨jN,by rw[dH];exact aJ _⟩)
    have hlen:h.boxes.length=K.β.length:=s.ki.symm;cases ha with
    |nil=>
     cases q2 with|box _ _ _ hb=>exact⟨_,_,_,K.DE _ _,q1,.arr _ _ _ _ _ _ _ hb (aJ _) dM (.inl rfl) (.inr (.inr (.inr ⟨i.size,gc * i.size,by simp only[aS.oj,hlen,if_true],h5,aJ _⟩))),lL⟩
    |list _ _ _ _ _ _ _ _ _ _ _ _ ht _=>exact ht.2.elim
   ·cases he
  ·cases he
 ·cases he
set_option maxHeartbeats 1000000 in
def LH(s:bN K G ok w0 h w){ts:Array TypeId}{ty:TypeId}{a x y:AV}{h':ak}(he:gq P h ts a x=aa (y,h')){c cx:Value}(ha:aT K a c)(hx:aT K x cx):
 ∃K' v w',K.Le K'/\bN K' G ok w0 h' w'/\aT K' y v/\(Builtin.append_ ts ty #[c,cx]).run P w=.ok v w':=by
 unfold gq at he;split at he
 ·rename_i hu lN;exact asK s hu lN he ha hx
 ·rename_i elem d1 Df hu lN;simp only[yv] at hu lN;obtain⟨t0,h0,hu⟩:=hu;obtain⟨t1,h1,lN⟩:=lN;have eL:∀k,d1≠ .int k:=λk e=>Df k e;split at he
  ·cases he
  rename_i i hi;split at he
  ·cases he
  rename_i new kK;split at he;rotate_left
  ·cases he
  rename_i hz;obtain⟨nv,n1,n2,n3,n4,n5,n6⟩:=Gj (P:=P) s kK hx;obtain⟨nv',n1',n2',n3',n4',n5',n6'⟩:=Gj (P:=P) (s.drew (w.drawn+1)) kK hx;split at he
  ·rename_i k sz es;split at he;rotate_left
   ·cases he
   rename_i dH;have jt:rowsOf h i.size (.list k sz es)=aa es:=(by simp only[rowsOf];rw[aF dH]);obtain⟨b,aB,dT,rfl,r1,r2,r3,r4,r5,r6⟩:=GF (P:=P) (s.drew (w.drawn+1)) jt ha;have hf:(Builtin.firstCells i.size es.length (.slice b es.length aB)).run P {w with drawn:=w.drawn+1}=.ok dT.toArray {w with drawn:=w.drawn+1}:=by
    cases b with|none=>have:=r6 rfl;subst this;have:dT=[]:=(by simpa using r4);subst this;rfl|some b=>exact r5 b rfl
   split at he
   ·rename_i ov;injection he with he;obtain⟨rfl,rfl⟩:=Prod.mk.inj he;subst ov;have ND:nv=[]:=(by simpa using n5);subst ND;refine⟨K,.slice b es.length aB,w,.refl K,s,ha,?_⟩;have je:es.length<=aB:=by
     cases ha with|nil=>exact aJ _|jb=>exact aJ _|list _ _ _ _ _ _ _ _ _ _ _ _ ht _=>exact ht.1
    have n1:(Builtin.lenOf cx).run P w=.ok 0 w:=n1;have n6:(Builtin.firstCells i.size 0 cx).run P w=.ok #[] w:=n6;cases d1<;>first|exact absurd rfl (eL _)|(cases b<;>simp only[Builtin.append_,h0,jc,jv,oD,Sem.run_bind,db hu,Result.andThen_ok,sizeOf,qE hi,Sem.run_pure,h1,db lN,jG,if_false,n1,zZ,je,if_true,yl,n6,storeCells])
   ·rename_i FO;have FP:0<new.length:=by cases new with|nil=>exact absurd rfl FO|cons _ _=>simp
    split at he;rotate_left
    ·cases he
    rename_i hb;have grow:∀d:List Nat,(∀n∈h.dead,n∈d)->aB<es.length+new.length->
     ∃K' v w',K.Le K'/\bN K' G ok w0 ({h with dead:=d}.fresh i.size (es++new)).2 w'/\aT K' ({h with dead:=d}.fresh i.size (es++new)).1 v/\(Builtin.append_ ts ty #[.slice b es.length aB,cx]).run P w=.ok v w':=
     λd hd je=>agG s hd h0 hu h1 lN eL hi hz.2 rfl je r1 r3 r2 hf n1 n2 n3' n4 n6' hb.1 hb.2
    split at he
    ·injection he with he;obtain⟨rfl,rfl⟩:=il he;cases ha with|nil=>exact grow h.dead (λ_ hm=>hm) (by simpa using FP)|list _ _ _ _ _ _ _ _ _ _ _ _ ht _=>exact ht.2.elim
    ·injection he with he;obtain⟨rfl,rfl⟩:=il he;cases ha with|jb=>exact grow h.dead (λ_ hm=>hm) (by simpa using FP)|list _ _ _ _ _ _ _ _ _ _ _ _ ht _=>exact grow h.dead (λ_ hm=>hm) (by have:=ht.2;simp only at this;omega)
    ·rename_i n;split at he;rotate_left
     ·cases he
     rename_i Un;simp only[bC,decide_eq_true_eq] at Un;obtain⟨dY,hsi⟩:=Un;injection he with he;obtain⟨rfl,rfl⟩:=il he;rcases dI aB (es.length+new.length) with je|je
     ·exact grow (n::h.dead) (λ_ hm=>fi _ hm) je
     ·cases ha with
      |list _ _ _ g off n' _ cells hn hr fy ir ht pE=>
       obtain⟨t1',t2,t3,t4⟩:=ht.2;obtain⟨k1,k2,k3,bc,be,bz,k4,k5,k6⟩:=s.tok n dY;subst t2;subst hsi;have tw:bc.size=(K.tk n).2.2:=k5;have pH:off+es.length * i.size+nv.length<=bc.size:=(by have:(es.length+new.length) * i.size<=aB * i.size:=nF _ je;rw[gg] at this;omega);obtain⟨w',dp,q1,q2,q3⟩:=GY (P:=P) (off+es.length * i.size) be bz nv 0 bc w k4 ag (E3 n3 n4) (λj hj hj'=>by rw[<-yQ k4];exact k6 j ag ag);have FG:dp.size=bc.size:=(by have h1:dp.toList.length=bc.toList.length:=(by rw[q3];simp only[dk,eP,gE,wG,zZ];omega);simpa using h1);have Nb:∀j,j<off+es.length * i.size->dp[j]?=bc[j]?:=λj hj=>(by rw[<-BP,q3,<-BP,rR,qM (by simp;omega),nC,aF ag]);have ahD:∀j,j<nv.length->dp[off+es.length * i.size+j]?=nv[j]?:=λj hj=>(by have aA:(bc.toList.take (off+es.length * i.size+0)).length=off+es.length * i.size:=(by simp;omega);rw[<-BP,q3,rR,yu ag,aA,qM ag];congr 1;omega);have dF:=s.row (h':=({h with dead:=n::h.dead}.fresh i.size (es++new)).2) (w':=w') (g:=(K.tk n).1) (off:=off+es.length * i.size) (m:=off+(es.length+new.length) * i.size) (cells:=dp) (e:=be) (fz:=bz) rfl rfl rfl
        (λt ht=>(RU (λ_ hm=>fi _ hm) ht).imp id λhh=>⟨hh.1,λlI=>hh.2 (by rw[s.oZ t n hh.1 dY lI];exact fR ..)⟩)
        k1 k2 (λj hj=>k3 j ag) (by rw[q2.size];exact aJ _) q2.os q2.tape q2.output (λk o hk ho=>(q2.other k hk).trans ho) q2.this (λo ho=>by rw[k4] at ho;injection ho with ho;subst ho;exact⟨_,_,_,rfl⟩)
        (λj c hc=>by
         have hj:j<off+es.length * i.size:=by
          rcases dI j (off+es.length * i.size) with h|h
          ·exact h
          ·rw[k3 j ag] at hc;cases hc
         rw[Nb j hj,<-qW k4];exact s.ic _ _ _ hc)
        (by rw[gg];omega) (by rw[gg,FG];omega) (λj hj hl=>by rw[<-yQ k4];rw[gg] at hj;exact k6 j ag ag)
       have le:=aS.Oy (K:=K) (g:=(K.tk n).1) (off:=off+es.length * i.size) (m:=off+(es.length+new.length) * i.size) (size:=dp.size) (cells:=λj=>dp[j]?) (λj hj=>k3 j ag) k1;have dC:cells.length=es.length * i.size:=(by rw[<-fy.length,mM hr]);refine⟨_,.slice (aa ⟨(K.tk n).1,off,aq⟩) (es.length+new.length) aB,w',le,dF,?_,?_⟩
       ·refine .list (.free h.tn) i.size (es++new) (K.tk n).1 off _ aB (cells++nv) bh (λr hm=>by rcases uZ.1 hm with hm|hm;exact hr r hm;exact n2 r hm) (by rw[p9];exact(fy.append n3).mono le) (λj c hj=>?_) ⟨je,?_⟩ (by rw[p9,Ey,pE,n4];rfl)
        ·rcases dI j cells.length with aA|dM
         ·rw[qM aA] at hj;exact le.ic _ _ _ (ir j c hj)
         ·rw[yu dM] at hj;have ou:j - cells.length<nv.length:=(aP.1 hj).1;simp only[aS.row];rw[aF (by refine⟨aQ,by omega,by rw[gg];omega⟩)];have:=ahD (j - cells.length) ou;rw[hj] at this;rw[<-this];congr 1;omega
        ·simp only[aS.row,s.tn,if_true];refine⟨ag,aQ,aQ,by omega⟩
       ·have yU:(⟨(K.tk n).1,off,aq⟩:Addr).add (es.length * i.size)=⟨(K.tk n).1,off+es.length * i.size,aq⟩:=Addr.lY _ _ _;cases d1<;>first|exact absurd rfl (eL _)|(simp only[Builtin.append_,h0,jc,jv,oD,Sem.run_bind,db hu,Result.andThen_ok,sizeOf,qE hi,Sem.run_pure,h1,db lN,jG,if_false,n1,je,if_true,yl,n6,yU,q1])
    ·cases he
  ·rename_i b off len aB;split at he
   ·rename_i cs bW;split at he
    ·rename_i hc;injection he with he;obtain⟨rfl,rfl⟩:=il he;cases ha with
     |arr _ g _ _ _ fa hY hb hl oo qo lK=>
      obtain⟨k1,k2,ka,cells,e,k3,k4⟩:=s.box b g cs hb bW;have xD:cs.length<=cells.size:=k4.le;have hm:(len+new.length) * i.size<=aB * i.size:=nF _ hc.1;rw[gg] at hm;have Ux:len+new.length<=hY:=(by omega);by_cases Ji:aB=0
      ·have Ba:new=[]:=by cases new with|nil=>rfl|cons _ _=>simp at hc;omega
       subst Ba;have ND:nv=[]:=(by simpa using n5);subst ND;have n1:(Builtin.lenOf cx).run P w=.ok 0 w:=n1;have n6:(Builtin.firstCells i.size 0 cx).run P w=.ok #[] w:=n6;have xC:h.boxes.set b (eE cs (off+len * i.size) ([]:List (List AV)).flatten)=h.boxes:=by
        rw[show eE cs (off+len * i.size) ([]:List (List AV)).flatten=cs by simp[eE]];apply p8;intro k;rw[lR];split
        ·rename_i e;subst e;rw[aF (aP.1 bW).1,bW]
        ·rfl
       rw[xC];refine⟨K,.slice (aa ⟨g,fa,aq⟩) len hY,w,.refl K,s,.arr _ _ _ _ _ _ _ hb hl oo qo lK,?_⟩;have Nr:len<=hY:=(by omega);cases d1<;>first|exact absurd rfl (eL _)|(simp only[Builtin.append_,h0,jc,jv,oD,Sem.run_bind,db hu,Result.andThen_ok,sizeOf,qE hi,Sem.run_pure,h1,db lN,jG,if_false,n1,zZ,Nr,if_true,yl,n6,storeCells])
      ·have NF:fa=off:=by rcases qo with p|p<;>omega
       obtain⟨w',dp,q1,q2,q3⟩:=GY (P:=P) (off+len * i.size) e (0,0) nv 0 cells w k3 ag (E3 n3 n4) (λj _ _=>Iz j);have pM:new.flatten.length=new.length * i.size:=(by rw[n3.length,n5]);refine⟨K,.slice (aa ⟨g,fa,aq⟩) (len+new.length) hY,w',.refl K,s.Qm hb bW (by rw[pM];omega) k3 q2 q3 n3 n4,.arr _ _ _ _ _ _ _ hb hc.1 oo qo lK,?_⟩;have yU:(⟨g,off,aq⟩:Addr).add (len * i.size)=⟨g,off+len * i.size,aq⟩:=Addr.lY _ _ _;rw[NF];cases d1<;>first|exact absurd rfl (eL _)|(simp only[Builtin.append_,h0,jc,jv,oD,Sem.run_bind,db hu,Result.andThen_ok,sizeOf,qE hi,Sem.run_pure,h1,db lN,jG,if_false,n1,Ux,if_true,yl,n6,yU,q1])
    ·cases he
   ·cases he
  ·cases he
 ·cases he
def agH{t0 t1 elem:TypeId}{ts:Array TypeId}{ty:TypeId}{i:TypeInfo}{d1:TypeDesc}(h0:ts[0]?=aa t0)(hu:P.underlying t0=aa (.slice elem))
 (h1:ts[1]?=aa t1) (lN:P.underlying t1=aa d1) (eL:∀k,d1≠ .int k) (hi:P.info? elem=aa i) (hz:(i.zero.map λz=>z.cells.size)=aa i.size)
 {n m:Nat} {a:Option Addr} {aB:Nat} {cx:Value} (je:aB<n+m) {dT:List Value} (oT:dT.length=n * i.size)
 (hf:(Builtin.firstCells i.size n (.slice a n aB)).run P {w with drawn:=w.drawn+1}=.ok dT.toArray {w with drawn:=w.drawn+1})
 {nv:List Value} (Nz:(Builtin.lenOf cx).run P w=.ok m w) (pM:nv.length=m * i.size)
 (y6:(Builtin.firstCells i.size m cx).run P {w with drawn:=w.drawn+1}=.ok nv.toArray {w with drawn:=w.drawn+1})
 (hb:(n+m) * i.bytes<=140737488355328) (hm:n+m<=9223372036854775807):
 ∃nc cells,n+m<=nc/\cells.size=nc * i.size/\cells.toList.take ((n+m) * i.size)=dT++nv/\
  (Builtin.append_ ts ty #[.slice a n aB,cx]).run P w=.ok (.slice (aa ⟨w.heap.size,0,aq⟩) (n+m) nc) {w with drawn:=w.drawn+1,heap:=w.heap.push (.cells cells elem)}:=by
 simp only[dh] at hz;obtain⟨z,hz,vP⟩:=hz;have hq:∃nc,n+m<=nc/\(choose (.appendCap (n+m) aB elem)).run P w=.ok nc {w with drawn:=w.drawn+1}:=by refine⟨_,?_,by simp[Question.forced];rfl⟩;simp[Question.cut]
 obtain⟨nc,FN,uq⟩:=hq
 let rest:=Builtin.zeroCells z.cells (nc - (n+m))
 let cells:Array Value:=dT.toArray++nv.toArray++rest
 let w1:World:={w with drawn:=w.drawn+1}
 have hlen:(n+m) * i.size=(dT++nv).length:=by rw[dk,oT,pM,gg]
 have hzero:(zeroValue elem).run P w1=.ok z w1:=by simp[zeroValue,qE hi,hz]
 have ahA:=growslice_fits (bytes:=i.bytes) je hb;refine⟨nc,cells,FN,?_,?_,?_⟩
 ·simp only[cells,QI,aaO,rest,YE,oT,pM,vP];rw[Lt];have:(n+m) * i.size<=nc * i.size:=nF _ FN;rw[gg] at this ⊢;omega
 ·rw[hlen];simp only[cells,BR];rw[HK bh];exact gm bh
 ·have e1:¬(((n+m:Nat):Int)>IntKind.i64.max):=by simp only[IntKind.max,IntKind.signed,IntKind.bits];simp;omega
  have e2:¬(Builtin.nextslicecap (n+m) aB * i.bytes>2^48):=by omega
  have e3:¬(n+m<=aB):=by omega
  cases d1<;>first|exact absurd rfl (eL _)|(simp only[Builtin.append_,h0,jc,jv,oD,Sem.run_bind,db hu,Result.andThen_ok,sizeOf,qE hi,Sem.run_pure,h1,db lN,jG,if_false,Nz,e3,e1,e2,false_and,uq,run_askRoom,hf,yl,if_true,y6,newRow,run_newObj,hzero,w1,cells,rest])
set_option maxHeartbeats 2000000 in
def arC(s:bN K G ok w0 h w){ts:Array TypeId}{ty:TypeId}{a x y:AV}{h':ak}(he:qI P h ts a x=aa (y,h')){c cx:Value}(ha:aT K a c)(hx:aT K x cx):
 ∃K' v w',K.Le K'/\bN K' G ok w0 h' w'/\aT K' y v/\(Builtin.append_ ts ty #[c,cx]).run P w=.ok v w':=by
 have aD:=he;unfold qI at he;split at he
 ·cases he
 ·rename_i elem d1 Df VE VF;have hu:=VE;have lN:=VF;simp only[yv] at hu lN;obtain⟨t0,h0,hu⟩:=hu;obtain⟨t1,h1,lN⟩:=lN;have eL:∀k,d1≠ .int k:=λk e=>Df k e;split at he
  ·cases he
  rename_i i hi;split at he
  ·cases he
  rename_i new kK;split at he;rotate_left
  ·cases he
  rename_i hz;obtain⟨nv,n1,n2,n3,n4,n5,n6⟩:=Gj (P:=P) s kK hx;obtain⟨nv',n1',n2',n3',n4',n5',n6'⟩:=Gj (P:=P) (s.drew (w.drawn+1)) kK hx;have fresh:∀{h0:ak} (s0:bN K G ok w0 h0 w) {n aB:Nat} {ad:Option Addr} {cs:List AV} {dT:List Value},h0.boxes.length=h.boxes.length->aB<n+new.length->aM K cs dT->cs.all AV.dN=ah->cs.length=n * i.size->
   (Builtin.firstCells i.size n (.slice ad n aB)).run P {w with drawn:=w.drawn+1}=.ok dT.toArray {w with drawn:=w.drawn+1}->(n+new.length) * i.bytes<=140737488355328->n+new.length<=9223372036854775807->
   ∃K' v w',K.Le K'/\bN K' G ok w0 {h0 with boxes:=h0.boxes++[cs++new.flatten]} w'/\aT K' (.arr h.boxes.length 0 (n+new.length) (n+new.length)) v/\(Builtin.append_ ts ty #[.slice ad n aB,cx]).run P w=.ok v w':=by
   intro h0' s0 n aB ad cs dT js je fy pE dC hf hb hm;have pM:new.flatten.length=new.length * i.size:=mM n2';obtain⟨nc,cells,g1,g2,g3,g4⟩:=agH (ty:=ty) h0 hu h1 lN eL hi hz.2 je (by rw[<-fy.length,dC]) hf n1 n5' n6' hb hm;have CY:(cs++new.flatten).length=(n+new.length) * i.size:=(by rw[dk,dC,pM,gg]);obtain⟨q1,q2⟩:=(s0.drew (w.drawn+1)).OO (cs:=cs++new.flatten) (cells:=cells) elem (aa (n+new.length,i.size,nc * i.size)) (by rw[CY,g3];exact fy.append n3') (by rw[Ey,pE,n4'];rfl)
    (λN sz room q=>by injection q with q;injection q with q1 q;injection q with q2 q3;subst q1 q2 q3;exact .inr ⟨CY,by rw[g2];exact aJ _⟩)
   cases q2 with|box _ _ _ fk=>rw[js] at fk;refine⟨_,_,_,K.DE _ _,q1,.arr _ _ _ _ _ _ _ fk (aJ _) g1 (.inl rfl) (.inr (.inr (.inr ⟨i.size,nc * i.size,?_,hz.1,aJ _⟩))),g4⟩;have hlen:h.boxes.length=K.β.length:=(by rw[s0.ki,js]);simp only[aS.oj,hlen,if_true]
  split at he
  ·rename_i k sz es;split at he;rotate_left
   ·cases he
   rename_i dH;split at he
   ·rename_i ov;refine LH s ?_ ha hx;unfold gq;rw[VE,VF];cases d1<;>first|exact absurd rfl (eL _)|(simp only[hi,kK,aF hz,aF dH,aF ov];exact he)
   ·rename_i FO;split at he;rotate_left
    ·cases he
    rename_i hb;have jt:rowsOf h i.size (.list k sz es)=aa es:=(by simp only[rowsOf];rw[aF dH]);obtain⟨b,aB,dT,rfl,r1,r2,r3,r4,r5,r6⟩:=GF (P:=P) (s.drew (w.drawn+1)) jt ha;have hf:(Builtin.firstCells i.size es.length (.slice b es.length aB)).run P {w with drawn:=w.drawn+1}=.ok dT.toArray {w with drawn:=w.drawn+1}:=by
     cases b with|none=>have:=r6 rfl;subst this;have:dT=[]:=(by simpa using r4);subst this;rfl|some b=>exact r5 b rfl
    have FP:0<new.length:=by cases new with|nil=>exact absurd rfl FO|cons _ _=>simp
    have fin:aB<es.length+new.length->aa (AV.arr h.boxes.length 0 (es.length+new.length) (es.length+new.length),({h with boxes:=h.boxes++[(es++new).flatten]}:ak))=aa (y,h')->∃K' v w',K.Le K'/\bN K' G ok w0 h' w'/\aT K' y v/\(Builtin.append_ ts ty #[.slice b es.length aB,cx]).run P w=.ok v w':=λje hq=>(by injection hq with hq;obtain⟨rfl,rfl⟩:=il hq;rw[p9];exact fresh s rfl je r2 r3 (mM r1) hf hb.1 hb.2);split at he
    ·refine fin ?_ he;cases ha with|nil=>simpa using FP|list _ _ _ _ _ _ _ _ _ _ _ _ ht _=>exact ht.2.elim
    ·refine fin ?_ he;cases ha with|jb=>simpa using FP|list _ _ _ _ _ _ _ _ _ _ _ _ ht _=>have:=ht.2;simp only at this;omega
    ·cases he
  ·rename_i b off len aB;split at he
   ·rename_i cs bW;split at he
    ·exact LH s he ha hx
    ·rename_i FE;split at he
     ·rename_i hc;injection he with he;obtain⟨rfl,rfl⟩:=il he;obtain⟨c1,c2,c3,c4,c5,c6⟩:=hc;subst c1;subst c3;cases ha with
      |arr _ g _ _ _ fa hY hb hl oo qo lK=>
       have NF:fa=0:=by rcases qo with p|p<;>omega
       subst NF;obtain⟨k1,k2,ka,cells,e,k3,k4⟩:=s.box b g cs hb bW;have bH:cs≠[]:=λq=>(by subst q;have:=Lp c2 hz.1;simp at c4;omega);have MR:=(aP.1 bW).1;have oq:=s.afl b;have IW:(h.boxes.set b []).length=h.boxes.length:=(by simp);rcases dI hY (len+new.length) with je|je
       ·refine fresh oq IW je k4.1 ka c4.symm ?_ c5 c6;have:=run_loadCells_list (P:=P) {w with drawn:=w.drawn+1} ⟨g,0,aq⟩ (cells.toList.take cs.length) (λj v hj=>by
         rw[Addr.lY,qW (w:={w with drawn:=w.drawn+1}) k3];simp only[nC] at hj;split at hj
         ·simpa using hj
         ·cases hj)
        rw[<-k4.1.length,<-c4] at this;rw[<-c4];exact this
       ·rcases lK with r|r|r|⟨sz,room,r1,r2,r3⟩
        ·omega
        ·omega
        ·exact absurd rfl r
        ·rcases k4.2 _ _ _ r1 with q|⟨q1,q2⟩
         ·exact absurd q bH
         ·have dH:i.size=sz:=Nat.eq_of_mul_eq_mul_left c2 (c4.trans q1);subst dH;have eg:=k4.le;have pM:new.flatten.length=new.length * i.size:=mM n2;have ah6:(len+new.length) * i.size<=cells.size:=fe (nF _ je) (fe r3 q2);rw[gg] at ah6;obtain⟨w',dp,w1,w2,w3⟩:=GY (P:=P) (0+len * i.size) e (0,0) nv 0 cells w k3 ag (E3 n3 n4) (λj _ _=>Iz j);have ahm:dp.toList.length=cells.toList.length:=(by rw[w3];exact Qd (by simp only[wG];omega));obtain⟨s3,xm⟩:=oq.aru (g:=g) (cs:=cs++new.flatten) (cells:=dp) (e:=e) k1 k2
           (λb2 fk=>by
            show(h.boxes.set b [])[b2]?=aa [];rw[lR];by_cases tu:b=b2
            ·subst tu;rw[aF rfl,aF MR]
            ·rw[aG tu];rcases s.o7 _ _ _ hb fk with p|p|p
             ·exact absurd p tu
             ·rw[bW] at p;injection p with p;exact absurd p bH
             ·exact p)
           (λt ht hq=>by obtain⟨_,q,_⟩:=s.tok t ht;exact q b (by rw[hq];exact hb)) k3 (aa (len+new.length,i.size,cells.size))
           (λN sz room q=>by injection q with q;injection q with q1 q;injection q with q2 q3;subst q1 q2 q3;refine .inr ⟨by rw[dk,<-c4,pM,gg],?_⟩;simp only[wG] at ahm;omega) w2
           (by rw[dk,pM,w3];have e1:cs.length+new.length * i.size=0+len * i.size+0+nv.length:=(by omega);rw[e1,HK (by simp only[dk,eP,wG];omega),gm (by simp only[dk,eP,wG];omega)];have e2:0+len * i.size+0=cs.length:=(by omega);rw[e2];exact k4.1.append n3) (by rw[Ey,ka,n4];rfl)
          rw[IW] at xm;refine⟨_,.slice (aa ⟨g,0,aq⟩) (len+new.length) hY,w',K.DE _ _,s3,.arr _ _ _ _ _ _ _ xm (aJ _) je (.inl rfl) (.inr (.inr (.inr ⟨i.size,cells.size,?_,hz.1,fe r3 q2⟩))),?_⟩
          ·have hlen:h.boxes.length=K.β.length:=s.ki.symm;simp only[aS.oj,hlen,if_true]
          ·have yU:(⟨g,0,aq⟩:Addr).add (len * i.size)=⟨g,0+len * i.size,aq⟩:=Addr.lY _ _ _;cases d1<;>first|exact absurd rfl (eL _)|(simp only[Builtin.append_,h0,jc,jv,oD,Sem.run_bind,db hu,Result.andThen_ok,sizeOf,qE hi,Sem.run_pure,h1,db lN,jG,if_false,n1,je,if_true,yl,n6,yU,w1])
     ·cases he
   ·cases he
  ·cases he
 ·cases he
def ads(s:bN K G ok w0 h w){t:TypeId}{len:Nat}{parts:Array (Nat × Operand)}{ρ:Operand->AV}{ρ':Operand->Value}(hρ:∀x,aT K (ρ x) (ρ' x)){k:Tok}{sz:Nat}{es:List (List AV)}
 (he:fC P t len (parts.toList.map λp=>(p.1,ρ p.2))=aa (.list k sz es)):
 ∃K' v w',K.Le K'/\bN K' G ok w0 (h.fresh sz es).2 w'/\aT K' (h.fresh sz es).1 v/\(Instr.buildSlice t len (parts.map λp=>(p.1,ρ' p.2))).run P w=.ok v w':=by
 obtain⟨p1,p2⟩:=O6 hρ parts;unfold fC at he;split at he
 ·rename_i elem hu;split at he
  ·rename_i size zero hs hz;obtain⟨z,jg,gI,xI⟩:=BM (K:=K) hz w;split at he
   ·rename_i hc;simp only[dh] at he;obtain⟨out,ho,he⟩:=he;injection he with _ e1 e2;subst e1;subst e2;obtain⟨f1,f2,f3⟩:=Tn (λr hr=>by rw[(Rb.1 hr).2];exact hc.2.1) ho;have vP:z.cells.size=size:=(by rw[<-hc.2.1,gI.length];simp);have nj:((yi (len * size)).map (z.cells[·%z.cells.size]!)).toList=(aY len z.cells.toList).flatten:=(by rw[<-vP];exact Gz _ _);obtain⟨out',q1,q2⟩:=It (dp:=(yi (len * size)).map (z.cells[·%z.cells.size]!)) f1 (by rw[nj];exact gI.AF len) p1 p2;have ry:out.length=len:=(by rw[f3];simp);have xD:out'.toList.length=len * size:=(by rw[<-q2.length,mM f2,ry]);obtain⟨K',le,s',hv⟩:=s.MC (w':={w with heap:=w.heap.push (.cells out' elem)}) (d:=h.dead) (λ_ hm=>hm) (sz:=size) (es:=out) (cells:=out') (e:=elem) (fz:=(0,0)) (aB:=len)
     f2 (To f1 (JN xI len)) (by rw[gm (by rw[xD,ry];exact aJ _)];exact q2) rfl rfl rfl bh (λk hk=>AY w _ hk) bh
     ag (by rw[<-xD];simp) (λj hj=>by simp[mN])
    rw[ry] at hv;refine⟨K',.slice (aa ⟨w.heap.size,0,aq⟩) len len,_,le,s',hv,?_⟩;by_cases h0:len * size=0
    ·have MH:len=0:=by
      rcases aaY.1 h0 with h|h
      ·exact h
      ·omega
     subst MH;simp only[EU] at q1;have e1:(yi 0).map (λx=>(#[]:Array Value)[x%(#[]:Array Value).size]!)=(yi 0).map (z.cells[·%z.cells.size]!):=(by simp);simp only[Instr.buildSlice,Sem.run_bind,db hu,Result.andThen_ok,mX hs,EU];simp only[rU,gt_iff_lt,if_false,aa8,if_true,Sem.run_pure,Result.andThen_ok,e1,q1,newRow,Sem.run_bind,run_newObj]
    ·simp only[Instr.buildSlice,Sem.run_bind,db hu,Result.andThen_ok,mX hs];rw[aG ag,aG h0];simp only[Sem.run_pure,Sem.run_bind,jg,Result.andThen_ok,q1,newRow,run_newObj]
   ·cases he
  ·cases he
 ·cases he
def bN.kill(s:bN K G ok w0 h w){t:Nat}(ha:alive h t=ah)(n:Nat):bN K G ok w0 {h with dead:=t::h.dead} (w.freeze ⟨(K.tk t).1,n,aq⟩ 1):=by
 obtain⟨t1,t2,t3,c0,e0,z0,t4,t5,t6⟩:=s.tok t ha;have np:∃z,(w.freeze ⟨(K.tk t).1,n,aq⟩ 1).heap[(K.tk t).1]?=aa (.cells c0 e0 z):=by simp only[World.freeze,Lq,if_false,BO,if_true,t4,eJ];exact⟨_,rfl⟩
 obtain⟨z1,np⟩:=np;have mS:∀k,k≠(K.tk t).1->(w.freeze ⟨(K.tk t).1,n,aq⟩ 1).heap[k]?=w.heap[k]?:=λk hk=>by simp only[World.freeze,Lq,if_false,BO];rw[aG (Ne.symm hk)]
 have dH:(w.freeze ⟨(K.tk t).1,n,aq⟩ 1).heap.size=w.heap.size:=by simp[World.freeze]
 have dY:∀t',alive {h with dead:=t::h.dead} t'=ah->alive h t'=ah/\t'≠t:=λt' h'=>by unfold alive at h' ⊢;simp only[List.contains_cons,bC,yk,Bool.or_eq_false_iff,decide_eq_true_eq] at h' ⊢;exact⟨⟨h'.1,h'.2.2⟩,λq=>by rw[q] at h';simp at h'⟩
 refine⟨?_,by rw[dH];exact s.size,λg j c hc=>?_,s.eD,s.ki,s.o7,λb g cs hb bW=>?_,s.nA,s.pY,λl g r hl hr=>?_,s.tn,λt' F5=>?_,λt' u F5 hu=>s.oZ t' u (dY t' F5).1 (dY u hu).1,λr hr=>?_,s.all⟩
 ·refine s.cU.trans ⟨rfl,rfl,rfl,by rw[dH];exact aJ _,λk hk=>?_⟩;have zd:k<K.base:=hk;exact mS k ag
 ·have h1:=s.ic g j c hc;by_cases hg:g=(K.tk t).1
  ·subst hg;rw[qW t4] at h1;rw[qW np];exact h1
  ·rw[<-h1];exact World.cell?_of_block (w:=w) (mS g hg)
 ·obtain⟨h1,h2,pD,dp,e',h3,h4⟩:=s.box b g cs hb bW;exact⟨h1,h2,pD,dp,e',by rw[mS g λq=>t2 b (q ▸ hb)];exact h3,h4⟩
 ·obtain⟨h1,fn,tmps,d,h2,h3⟩:=s.loop l g r hl hr;exact⟨h1,fn,tmps,d,by rw[mS g λq=>by rw[q,t4] at h2;cases h2];exact h2,h3⟩
 ·obtain⟨Jf,bH⟩:=dY t' F5;obtain⟨h1,h2,h3,dp,e',fz',h4,h5,h6⟩:=s.tok t' Jf;have iF:(K.tk t').1≠(K.tk t).1:=λq=>bH (s.oZ t' t Jf ha q);have h7:(w.freeze ⟨(K.tk t).1,n,aq⟩ 1).heap[(K.tk t').1]?=aa (.cells dp e' fz'):=by rw[mS _ iF];exact h4
  exact⟨h1,h2,h3,dp,e',fz',h7,h5,λj hj hl=>by rw[<-h6 j hj hl,yQ h4,yQ h7]⟩
 ·obtain⟨h1,h2⟩:=s.md r hr;exact⟨h1,by rw[mS r λq=>by rw[q,t4] at h2;cases h2];exact h2⟩
def aeI(s:bN K G ok w0 h w){src dst:TypeId}{x y:AV}{h':ak}(he:mK P h src dst x=aa (y,h')){c:Value}(hx:aT K x c):
 ∃K' v w',K.Le K'/\bN K' G ok w0 h' w'/\aT K' y v/\(convert src dst c).run P w=.ok v w':=by
 unfold mK at he;split at he
 ·rename_i e str hs hd;obtain⟨rfl,_⟩:=hx.iB;split at he
  ·rename_i i hu hi;split at he
   ·injection he with he;obtain⟨rfl,rfl⟩:=il he;obtain⟨K',v,w',q1,q2,q3,q4⟩:=arK (P:=P) s (e:=e) (str:=str);exact⟨K',v,w',q1,q2,q3,by simp only[convert,Sem.run_bind,db hs,db hd,db hu,Result.andThen_ok];exact q4⟩
   ·cases he
  ·cases he
 ·rename_i e hs hd;split at he
  ·rename_i ae hu jt;simp only[dh] at he;obtain⟨l,hl,he⟩:=he;obtain⟨rfl,rfl⟩:=il he;obtain⟨a,aB,dT,rfl,hr,fy,ha,hlen,A6,ov⟩:=GF (P:=P) s jt hx;obtain⟨ns,rfl,rfl⟩:=adw hl fy;refine⟨K,.string ⟨(ns.map λn=>UInt8.ofNat n.toNat).toArray⟩,w,.refl K,s,.v _ rfl,?_⟩;cases a with|none=>have:=ov rfl;subst this;simp at hlen;subst hlen;simp only[convert,Sem.run_bind,db hs,db hd,db hu,Result.andThen_ok,Conv.bytesToString];rfl|some b=>have jN:=A6 b rfl;rw[nG] at jN;simp only[convert,Sem.run_bind,db hs,db hd,db hu,Result.andThen_ok,Conv.bytesToString,jN,List.forIn_toArray,Sem.run_pure];simp[foldl_push]
  ·cases he
 ·rename_i e e2 t sz es hs hd;split at he
  ·rename_i hu;split at he
   ·rename_i hc;obtain⟨rfl,dY⟩:=hc;injection he with he;obtain⟨rfl,rfl⟩:=il he;cases hx with|list _ _ _ g off n aB cells hn hr hv ir ht ha=>obtain⟨Jf,Dp,xE,ht4,ht5⟩:=ht;subst xE;obtain⟨t1,t2,t3,c0,e0,z0,t4,t5,t6⟩:=s.tok t dY;refine⟨K,.slice (aa ⟨(K.tk t).1,off,aq⟩) n aB,_,.refl K,s.kill dY c0.size,.list .held sz es _ off n aB cells hn hr hv ir ⟨Jf,aQ⟩ ha,?_⟩;have Jc:w.shape? (K.tk t).1=aa (e0,c0.size):=(by simp[World.shape?,t4]);rw[hs] at hd;injection hd with hd;injection hd with hd;subst hd;simp only[convert,Sem.run_bind,db hs,db hu,Result.andThen_ok,beq_self_eq_true,markStringish,run_shape,Jc,run_freeze,Sem.run_pure]
   ·cases he
  ·cases he
 ·cases he
 ·rename_i d1 d2 p hs hd _ _ _ _;simp only[dh,yv] at he;obtain⟨z,⟨q,h1,h2⟩,he⟩:=he;obtain⟨rfl,rfl⟩:=il he;obtain⟨rfl,_⟩:=hx.iB;exact⟨K,q,w,.refl K,s,G7 h2,Gw h1 w⟩
 ·cases he
end
section
variable {P:Program} {K:aS} {G:Nat->Option (List AV)} {ok:FuncId->Nat->Code->Bool} {w0 w:World} {h:ak}
def aeM(s:bN K G ok w0 h w){ts:Array TypeId}{ty:TypeId}{a x y:AV}{h':ak}(he:yI P h ts a x=aa (y,h')){c cx:Value}(ha:aT K a c)(hx:aT K x cx):
 ∃K' v w',K.Le K'/\bN K' G ok w0 h' w'/\aT K' y v/\(Builtin.copy_ ts ty #[c,cx]).run P w=.ok v w':=by
 unfold yI at he;split at he
 ·rename_i elem hu;simp only[yv] at hu;obtain⟨t0,h0,hu⟩:=hu;split at he
  ·rename_i i b off len aB hi;split at he
   ·rename_i ae cs jt bW;split at he
    ·rename_i hc;injection he with he;obtain⟨rfl,rfl⟩:=il he;obtain⟨nv,n1,n2,n3,n4,n5,n6⟩:=Gj (P:=P) s jt hx;cases ha with
     |arr _ g _ _ _ fa hY hb hl oo qo lK=>
      obtain⟨k1,k2,ka,cells,e,k3,k4⟩:=s.box b g cs hb bW;have xD:cs.length<=cells.size:=k4.le;have ahX:oc ae.length len<=ae.length:=Nat.min_le_left _ _;have ahY:oc ae.length len<=len:=Nat.min_le_right _ _;have hm:oc ae.length len * i.size<=len * i.size:=nF _ ahY;have pJ:oc ae.length len * i.size<=ae.length * i.size:=nF _ ahX;have nM:(ae.take (oc ae.length len)).flatten=ae.flatten.take (oc ae.length len * i.size):=Mx n2 _;have pP:aM K (ae.take (oc ae.length len)).flatten (nv.take (oc ae.length len * i.size)):=(by rw[nM];exact n3.take _);have gV:(ae.take (oc ae.length len)).flatten.all AV.dN=ah:=(by rw[nM,dU];intro x hx;exact dU.1 n4 x (oa hx));have hlen:(nv.take (oc ae.length len * i.size)).length=oc ae.length len * i.size:=(by simp only[eP];omega);obtain⟨w',dp,q1,q2,q3⟩:=apn (P:=P) qo (vs:=nv.take (oc ae.length len * i.size)) (λhz=>by have:oc ae.length len=0:=(by omega);rw[this];simp) k3 ag (E3 pP gV);refine⟨K,.int .i64 (oc ae.length len:Nat),w',.refl K,s.Qm hb bW (by rw[pP.length];omega) k3 q2 q3 pP gV,.v _ rfl,?_⟩
      ·-- the source's first cells, as many as are copied
       have ahz:(Builtin.firstCells i.size (oc ae.length len) cx).run P w=.ok (nv.take (oc ae.length len * i.size)).toArray w:=by
        unfold me at jt;split at jt
        ·rename_i str;split at jt
         ·rename_i h1;injection jt with jt;subst jt;obtain⟨rfl,_⟩:=hx.iB;have jN:(str.data.toList.map jJ).length=str.size:=(by rw[bu];rfl);have e2:nv=str.data.toList.map λb=>Value.int .u8 b.toNat:=(by have e3:(Builtin.firstCells i.size (str.data.toList.map jJ).length (.string str)).run P w=.ok (str.data.toList.map λb=>Value.int .u8 b.toNat).toArray w:=(by rw[jN];have:str.extract 0 str.size=str:=(by simp);have e4:str.data.map (λb=>Value.int .u8 b.toNat)=(str.data.toList.map λb=>Value.int .u8 b.toNat).toArray:=(by apply KL;simp);simp only[Builtin.firstCells,this,Sem.run_pure,e4]);rw[e3] at n6;injection n6 with n6 _;exact(Lh n6).symm);subst e2;rw[h1,nG];simp only[Builtin.firstCells,Sem.run_pure];congr 1;apply KL;simp only[ByteArray.data_extract,BS,ZM,aar,List.drop_zero,Nat.sub_zero,List.map_take]
         ·cases jt
        ·obtain⟨a,hY,dT,rfl,hr,fy,pE,FJ,A6,ov⟩:=GF (P:=P) s jt hx;cases a with
         |none=>have:=ov rfl;subst this;have:nv=[]:=(by simpa using n5);subst this;simp[Builtin.firstCells]|some ad=>
          simp only[Builtin.firstCells];have hl:=A6 ad rfl;have e5:dT=nv:=(by simp only[Builtin.firstCells] at n6;rw[hl] at n6;injection n6 with n6 _;exact Lh n6);subst e5;have pF:∀j v,dT[j]?=aa v->w.cell? (ad.add j)=aa v:=by
           unfold rowsOf at jt;split at jt
           ·rename_i k sz es _;split at jt
            ·injection jt with jt;subst jt;cases hx with
             |jb=>cases fy;intro j v hj;simp at hj
             |list _ _ _ g2 off2 n cap2 cells2 hn iS aik UQ Dp pD=>have jN:=run_loadCells_list (P:=P) w ⟨g2,off2,aq⟩ cells2 (λj v hj=>by rw[Addr.lY];exact s.ic _ _ _ (UQ j v hj));have CY:cells2.length=es.length * i.size:=(by rw[<-aik.length,fy.length,FJ]);rw[CY] at jN;rw[jN] at hl;injection hl with hl _;have:=Lh hl;subst this;intro j v hj;rw[Addr.lY];exact s.ic _ _ _ (UQ j v hj)
            ·cases jt
           ·rename_i b2 off2 ai4 cap2 _;split at jt
            ·rename_i cs2 MY;split at jt
             ·rename_i as5;injection jt with jt;cases hx with
              |arr _ g2 _ _ _ off2' cap2' fk jN Ux NK ato=>
               obtain⟨_,_,_,cells2,e2,k3',k4'⟩:=s.box b2 g2 cs2 fk MY;have dC:cs2.length<=cells2.toList.length:=(by have:=k4'.le;simpa using this);rcases NK with NK|gI;rotate_left 1
               ·intro j v hj;have cJ:ae.length=0:=(by omega);rw[cJ] at FJ;have:dT=[]:=(by simpa using FJ);subst this;simp at hj
               rw[NK] at hl ⊢;have CY:((cells2.toList.drop off2).take (ae.length * i.size)).length=ae.length * i.size:=(by simp only[eP,gE];omega);have FG:=run_loadCells_list (P:=P) w ⟨g2,off2,aq⟩ ((cells2.toList.drop off2).take (ae.length * i.size)) (λj v hj=>by
                rw[Addr.lY,qW k3'];simp only[nC,nZ] at hj;split at hj
                ·simpa using hj
                ·cases hj)
               rw[CY] at FG;rw[FG] at hl;injection hl with hl _;have:=Lh hl;subst this;intro j v hj;rw[Addr.lY,qW k3'];simp only[nC,nZ] at hj;split at hj
               ·simpa using hj
               ·cases hj
             ·cases jt
            ·cases jt
           ·cases jt
          have:=run_loadCells_list (P:=P) w ad (dT.take (oc ae.length len * i.size)) (λj v hj=>by
           simp only[nC] at hj;split at hj
           ·exact pF j v hj
           ·cases hj)
          rw[hlen] at this;exact this
       simp only[Builtin.copy_,h0,jc,jv,oD,Sem.run_bind,db hu,Result.andThen_ok,n1,sizeOf,qE hi,Sem.run_pure,ahz,q1];rfl
    ·cases he
   ·cases he
  ·cases he
 ·cases he
def ai9{ts:Array TypeId}{ty t:TypeId}(h0:ts[0]?=aa t){x y:AV}(he:ej P t x=aa y){c:Value}(hx:aT K x c)(w:World):
 ∃v,(Builtin.len_ ts ty #[c]).run P w=.ok v w/\aT K y v:=by
 unfold ej at he;split at he
 ·rename_i hu;injection he with he;subst he;obtain⟨rfl,_⟩:=hx.iB;exact⟨_,by simp only[Builtin.len_,h0,jc,jv,Sem.run_bind,db hu,Result.andThen_ok,Sem.run_pure,goInt],.v _ rfl⟩
 ·rename_i n e hu;injection he with he;subst he;exact⟨_,by simp only[Builtin.len_,h0,jc,jv,Sem.run_bind,db hu,Result.andThen_ok,Sem.run_pure,goInt],.v _ rfl⟩
 ·rename_i a hu;split at he
  ·rename_i n e N9;injection he with he;subst he;exact⟨_,by simp only[Builtin.len_,h0,jc,jv,Sem.run_bind,db hu,db N9,Result.andThen_ok,Sem.run_pure,goInt],.v _ rfl⟩
  ·cases he
 ·rename_i e k sz es hu;injection he with he;subst he;cases hx with
  |nil=>exact⟨.int .i64 0,by simp only[Builtin.len_,h0,jc,jv,Sem.run_bind,db hu,Result.andThen_ok,Sem.run_pure,goInt];rfl,.v _ rfl⟩
  |jb=>exact⟨.int .i64 0,by simp only[Builtin.len_,h0,jc,jv,Sem.run_bind,db hu,Result.andThen_ok,Sem.run_pure,goInt];rfl,.v _ rfl⟩
  |list _ _ _ g off n aB cells hn _ _ _ _ _=>subst hn;exact⟨_,by simp only[Builtin.len_,h0,jc,jv,Sem.run_bind,db hu,Result.andThen_ok,Sem.run_pure,goInt],.v _ rfl⟩
 ·rename_i e b off len aB hu;injection he with he;subst he;cases hx with|arr=>exact⟨_,by simp only[Builtin.len_,h0,jc,jv,Sem.run_bind,db hu,Result.andThen_ok,Sem.run_pure,goInt],.v _ rfl⟩
 ·cases he
def adK{ts:Array TypeId}{ty t:TypeId}(h0:ts[0]?=aa t){x y:AV}(he:CC P t x=aa y){c:Value}(hx:aT K x c)(w:World):
 ∃v,(Builtin.cap_ ts ty #[c]).run P w=.ok v w/\aT K y v:=by
 unfold CC at he;split at he
 ·rename_i e sz es hu;injection he with he;subst he;cases hx with
  |jb=>exact⟨.int .i64 0,by simp only[Builtin.cap_,h0,jc,jv,Sem.run_bind,db hu,Result.andThen_ok,Sem.run_pure,goInt];rfl,.v _ rfl⟩
  |list _ _ _ g off n aB cells hn _ _ _ ht _=>have:=ht.2;simp only at this;subst this;subst hn;exact⟨_,by simp only[Builtin.cap_,h0,jc,jv,Sem.run_bind,db hu,Result.andThen_ok,Sem.run_pure,goInt],.v _ rfl⟩
 ·rename_i e sz es hu;injection he with he;subst he;cases hx with
  |nil=>exact⟨.int .i64 0,by simp only[Builtin.cap_,h0,jc,jv,Sem.run_bind,db hu,Result.andThen_ok,Sem.run_pure,goInt];rfl,.v _ rfl⟩
  |list _ _ _ _ _ _ _ _ _ _ _ _ ht _=>exact ht.2.elim
 ·rename_i n e hu;injection he with he;subst he;exact⟨_,by simp only[Builtin.cap_,h0,jc,jv,Sem.run_bind,db hu,Result.andThen_ok,Sem.run_pure,goInt],.v _ rfl⟩
 ·cases he
def Sp(s:bN K G ok w0 h w){b:Builtin}{ts:Array TypeId}{ty:TypeId}{args:List AV}{y:AV}{h':ak}(he:ji P h b ts ty args=aa (y,h')){vs:Array Value}(hx:aM K args vs.toList)(consts:Array Bool):
 ∃K' v w',K.Le K'/\bN K' G ok w0 h' w'/\aT K' y v/\(builtin b ts ty consts vs).run P w=.ok (.value v) w':=by
 unfold ji at he;obtain⟨vs⟩:=vs;simp only at hx;split at he
 ·cases hx with|cons _ c _ _ hx hs=>cases hs with|nil=>
  split at he
  ·rename_i t h0;simp only[dh] at he;obtain⟨z,hz,he⟩:=he;obtain⟨rfl,rfl⟩:=il he;obtain⟨v,q1,q2⟩:=ai9 (ty:=ty) h0 hz hx w;exact⟨K,v,w,.refl K,s,q2,by simp only[builtin,Sem.run_bind,q1,Result.andThen_ok,Sem.run_pure]⟩
  ·cases he
 ·cases hx with|cons _ c _ _ hx hs=>cases hs with|nil=>
  split at he
  ·rename_i t h0;simp only[dh] at he;obtain⟨z,hz,he⟩:=he;obtain⟨rfl,rfl⟩:=il he;obtain⟨v,q1,q2⟩:=adK (ty:=ty) h0 hz hx w;exact⟨K,v,w,.refl K,s,q2,by simp only[builtin,Sem.run_bind,q1,Result.andThen_ok,Sem.run_pure]⟩
  ·cases he
 ·cases hx with|cons _ c _ _ hx hs=>cases hs with|cons _ c2 _ _ rD hs=>cases hs with|nil=>
  obtain⟨K',v,w',q1,q2,q3,q4⟩:=LH (ty:=ty) s he hx rD;exact⟨K',v,w',q1,q2,q3,by simp only[builtin,Sem.run_bind,q4,Result.andThen_ok,Sem.run_pure]⟩
 ·cases hx with|cons _ c _ _ hx hs=>cases hs with|cons _ c2 _ _ rD hs=>cases hs with|nil=>
  obtain⟨K',v,w',q1,q2,q3,q4⟩:=aeM (ty:=ty) s he hx rD;exact⟨K',v,w',q1,q2,q3,by simp only[builtin,Sem.run_bind,q4,Result.andThen_ok,Sem.run_pure]⟩
 ·split at he
  ·rename_i l hl;simp only[dh,yv] at he;obtain⟨z,⟨q,h1,h2⟩,he⟩:=he;obtain⟨rfl,rfl⟩:=il he;have:=Mu hl hx;subst this;exact⟨K,q,w,.refl K,s,G7 h2,by simp only[builtin,Sem.run_bind,Gw h1 w,Result.andThen_ok,Sem.run_pure]⟩
  ·cases he
 ·split at he
  ·rename_i l hl;simp only[dh,yv] at he;obtain⟨z,⟨q,h1,h2⟩,he⟩:=he;obtain⟨rfl,rfl⟩:=il he;have:=Mu hl hx;subst this;exact⟨K,q,w,.refl K,s,G7 h2,by simp only[builtin,Sem.run_bind,Gw h1 w,Result.andThen_ok,Sem.run_pure]⟩
  ·cases he
 ·cases he
def adv(s:bN K G ok w0 h w){d:Option Tmp}{b:Builtin}{ts:Array TypeId}{ty:TypeId}{args:List AV}{y:AV}{h':ak}(he:qV P G d h b ts ty args=aa (y,h')){vs:Array Value}(hx:aM K args vs.toList)(consts:Array Bool):
 ∃K' v w',K.Le K'/\bN K' G ok w0 h' w'/\aT K' y v/\(builtin b ts ty consts vs).run P w=.ok (.value v) w':=by
 unfold qV at he;split at he
 ·split at he
  ·obtain⟨vs⟩:=vs;simp only at hx;cases hx with|cons _ c _ _ hx hs=>cases hs with|cons _ c2 _ _ rD hs=>cases hs with|nil=>
   obtain⟨K',v,w',q1,q2,q3,q4⟩:=arC (ty:=ty) s he hx rD;exact⟨K',v,w',q1,q2,q3,by simp only[builtin,Sem.run_bind,q4,Result.andThen_ok,Sem.run_pure]⟩
  ·exact Sp s (b:=.append) (ts:=ts) (ty:=ty) (args:=[_,_]) (show ji P h .append ts ty [_,_]=_ from he) hx consts
 ·exact Sp s he hx consts
def ak2{c a b y:AV}(he:JH c a b=aa y){vc va vb:Value}(hc:aT K c vc)(ha:aT K a va)(hb:aT K b vb):
 ∃t v,vc=.bool t/\v=(if t then va else vb)/\aT K y v:=by
 unfold JH at he;split at he
 ·rename_i t;injection he with he;subst he;obtain⟨rfl,_⟩:=hc.iB;refine⟨t,_,rfl,rfl,?_⟩;cases t
  ·exact hb
  ·exact ha
 ·cases he
def ak3(s:bN K G ok w0 h w){ρ:Operand->AV}{ρ':Operand->Value}(hρ:∀x,aT K (ρ x) (ρ' x)){o:Oper}{x:AV}{h':ak}(he:dD P G ρ h o.op=aa (x,h')):
 Yields K G ok w0 x h' ((execOp ρ' o).run P w):=by
 unfold execOp;cases bK:o.op<;>rw[bK] at he<;>simp only[dD] at he
 case move a=>injection he with he;obtain⟨rfl,rfl⟩:=il he;exact .mH s (hρ a) rfl
 case assign a=>injection he with he;obtain⟨rfl,rfl⟩:=il he;exact .mH s (hρ a) rfl
 case pick c a b=>
  simp only[dh] at he;obtain⟨y,hy,he⟩:=he;obtain⟨rfl,rfl⟩:=il he;obtain⟨t,v,q1,rfl,q3⟩:=ak2 hy (hρ c) (hρ a) (hρ b);refine .mH s q3 ?_;simp only[q1,asBool,Sem.run_bind,Sem.run_pure,Result.andThen_ok]
 case alloc t=>
  simp only[dh] at he;obtain⟨cs,bW,he⟩:=he;obtain⟨K',v,w',q1,q2,q3,q4⟩:=abW (P:=P) s bW;rw[he] at q2 q3;exact⟨K',v,w',q1,q2,q3,.inl (by simp only[Sem.run_bind,q4,Result.andThen_ok,Sem.run_pure])⟩
 case box t a=>
  simp only[dh] at he;obtain⟨cs,bW,he⟩:=he;obtain⟨K',v,w',q1,q2,q3,q4⟩:=adj (P:=P) (t:=t) s bW (hρ a);rw[he] at q2 q3;exact⟨K',v,w',q1,q2,q3,.inl (by simp only[Sem.run_bind,q4,Result.andThen_ok,Sem.run_pure])⟩
 case build t parts=>
  simp only[dh] at he;obtain⟨y,hy,he⟩:=he;obtain⟨rfl,rfl⟩:=il he;obtain⟨v,q1,q2⟩:=adu hρ hy w;exact .mH s q2 (by simp only[Sem.run_bind,q1,Result.andThen_ok,Sem.run_pure])
 case buildSlice t len parts=>
  split at he
  ·simp only[dh] at he;obtain⟨y,hy,he⟩:=he;obtain⟨rfl,rfl⟩:=il he;obtain⟨K',v,w',q1,q2,q3,q4⟩:=adt s hρ hy;exact⟨K',v,w',q1,q2,q3,.inl (by simp only[Sem.run_bind,q4,Result.andThen_ok,Sem.run_pure])⟩
  ·split at he
   ·rename_i k sz es hy;injection he with he;obtain⟨K',v,w',q1,q2,q3,q4⟩:=ads s hρ hy;rw[he] at q2 q3;exact⟨K',v,w',q1,q2,q3,.inl (by simp only[Sem.run_bind,q4,Result.andThen_ok,Sem.run_pure])⟩
   ·cases he
 case load t a=>
  simp only[dh] at he;obtain⟨y,hy,he⟩:=he;obtain⟨rfl,rfl⟩:=il he;obtain⟨g,p,v,q1,q2,q3⟩:=Wh s hy (hρ a);exact .mH s q3 (by simp only[q1,Instr.loadAt,Instr.sureAddr,Sem.run_bind,q2,Result.andThen_ok,Sem.run_pure])
 case store t a y=>
  simp only[dh] at he;obtain⟨h2,hy,he⟩:=he;obtain⟨rfl,rfl⟩:=il he;obtain⟨w',q1,q2⟩:=aqZ s hy (hρ a) (hρ y);exact⟨K,undef,w',.refl K,q2,.tuple _ _ .nil,.inr ⟨by simp only[Sem.run_bind,q1,Result.andThen_ok,Sem.run_pure],rfl⟩⟩
 case nilCheck a=>
  simp only[dh] at he;obtain⟨y,hy,he⟩:=he;obtain⟨rfl,rfl⟩:=il he;have ha:=hρ a;generalize ρ a=xa at ha hy;generalize hq:ρ' a=ca at ha;unfold OQ at hy;split at hy
  ·injection hy with hy;subst hy;cases ha with|box _ _ _ hb=>exact .mH s (.box _ _ _ hb) (by simp only[hq,Sem.run_pure])|eD _ _=>exact .mH s (.eD _ _) (by simp only[hq,Sem.run_pure])
  ·injection hy with hy;subst hy;cases ha with|elem _ _ _ _ g o p cells hr hv hc hi hp pE=>exact .mH s (.elem _ _ _ _ g o p cells hr hv hc hi hp pE) (by simp only[hq,Sem.run_pure])
  ·injection hy with hy;subst hy;cases ha with|func _ _ _ fs cs h1 h2=>exact .mH s (.func _ _ _ fs cs h1 h2) (by simp only[hq,Sem.run_pure])
  ·injection hy with hy;subst hy;cases ha with|yield _ g hl=>exact .mH s (.yield _ g hl) (by simp only[hq,Sem.run_pure])
  ·injection hy with hy;subst hy;cases ha with|iface _ _ c hx=>exact .mH s (.iface _ _ c hx) (by simp only[hq,Sem.run_pure])
  ·cases hy
 case binOp op t a b yt=>
  simp only[dh] at he;obtain⟨y,hy,he⟩:=he;obtain⟨rfl,rfl⟩:=il he;obtain⟨v,q1,q2⟩:=acN hy (hρ a) (hρ b) w;exact .mH s q2 (by rw[Sem.run_bind,q1];rfl)
 case unOp op t a=>
  simp only[dh] at he;obtain⟨y,hy,he⟩:=he;obtain⟨rfl,rfl⟩:=il he;obtain⟨v,q1,q2⟩:=arR hy (hρ a) w;exact .mH s q2 (by simp only[Sem.run_bind,q1,Result.andThen_ok,Sem.run_pure])
 case convert sr ds a=>
  obtain⟨K',v,w',q1,q2,q3,q4⟩:=aeI s he (hρ a);exact⟨K',v,w',q1,q2,q3,.inl (by simp only[Sem.run_bind,q4,Result.andThen_ok,Sem.run_pure])⟩
 case makeInterface t a=>
  split at he
  ·rename_i xq;injection he with he;obtain⟨rfl,rfl⟩:=il he;obtain⟨d,hu,hd⟩:=Oj xq;refine .mH s (.iface t _ _ (hρ a)) ?_;simp only[Instr.makeInterface,Sem.run_bind,db hu,Result.andThen_ok];cases d<;>first|exact absurd rfl (hd _)|rfl
  ·cases he
 case makeFunc fn first aB=>
  injection he with he;obtain⟨rfl,rfl⟩:=il he;refine .mH s (.func fn _ _ _ _ (by rw[BS];exact aM.map_mk λx _=>hρ x) (by rw[BS];exact aM.map_mk λx _=>hρ x)) rfl
 case makeSlice t l c=>
  obtain⟨K',v,w',q1,q2,q3,q4⟩:=ajI s he (hρ l) (hρ c);exact⟨K',v,w',q1,q2,q3,.inl (by simp only[Sem.run_bind,q4,Result.andThen_ok,Sem.run_pure])⟩
 case slice t a lo hi mx=>
  simp only[dh] at he;obtain⟨y,hy,he⟩:=he;obtain⟨rfl,rfl⟩:=il he;obtain⟨v,q1,q2⟩:=aqe hρ hy (hρ a) w;exact .mH s q2 (by simp only[Sem.run_bind,q1,Result.andThen_ok,Sem.run_pure])
 case fieldAddr t a f=>
  simp only[dh] at he;obtain⟨y,hy,he⟩:=he;obtain⟨rfl,rfl⟩:=il he;obtain⟨v,q1,q2⟩:=afS hy (hρ a) w;exact .mH s q2 (by simp only[Sem.run_bind,q1,Result.andThen_ok,Sem.run_pure])
 case field t a f=>
  have ha:=hρ a;generalize ρ a=xa at ha he;generalize hq:ρ' a=ca at ha;split at he
  ·rename_i fields cs hu;split at he
   ·rename_i fd hf;simp only[dh] at he;obtain⟨y,hy,he⟩:=he;obtain⟨rfl,rfl⟩:=il he;cases ha with|agg _ vs fy=>obtain⟨v,q1,q2⟩:=WW hy fy w;exact .mH s q2 (by simp only[Instr.field,Sem.run_bind,db hu,Result.andThen_ok,hf,hq,asAgg,Sem.run_pure,q1])
   ·cases he
  ·cases he
 case indexAddr t a i=>
  simp only[dh] at he;obtain⟨y,hy,he⟩:=he;obtain⟨rfl,rfl⟩:=il he;obtain⟨v,q1,q2⟩:=ais hy (hρ a) (hρ i) w;exact .mH s q2 (by simp only[Sem.run_bind,q1,Result.andThen_ok,Sem.run_pure])
 case index t a i=>
  simp only[dh] at he;obtain⟨y,hy,he⟩:=he;obtain⟨rfl,rfl⟩:=il he;obtain⟨v,q1,q2⟩:=aiu hy (hρ a) (hρ i) w;exact .mH s q2 (by simp only[Sem.run_bind,q1,Result.andThen_ok,Sem.run_pure])
 case typeAssert a xt t okk=>
  simp only[dh] at he;obtain⟨y,hy,he⟩:=he;obtain⟨rfl,rfl⟩:=il he;obtain⟨v,q1,q2⟩:=ach (xt:=xt) hy (hρ a) w;exact .mH s q2 (by simp only[Sem.run_bind,q1,Result.andThen_ok,Sem.run_pure])
 case extract a i=>
  have ha:=hρ a;generalize ρ a=xa at ha he;generalize hq:ρ' a=ca at ha;split at he
  ·rename_i vs;simp only[dh] at he;obtain⟨y,hy,he⟩:=he;obtain⟨rfl,rfl⟩:=il he;cases ha with|tuple _ cvs fy=>obtain⟨c,hc,hr⟩:=fy.get hy;have:cvs[i]?=aa c:=(by simpa using hc);exact .mH s hr (by simp only[Instr.extract,hq,this,Sem.run_bind,Sem.run_pure,Result.andThen_ok])
  ·cases he
 all_goals cases he
end
def DP(n:Nat)(ops:Array Oper):Bool:=ops.all λo=>match o.dst with|some d=>decide (d<n)|none=>ah
def codeOk(n:Nat):Code->Bool
 | .region _ ops _=>DP n ops
 | .seq a b=>codeOk n a&&codeOk n b
 | .cond _ a b=>codeOk n a&&codeOk n b
 | .block _ c=>codeOk n c
 | .loop c=>codeOk n c
 | .scope c=>codeOk n c
 | .rangeFunc _ ps a b=>ps.all (λp=>decide (p<n))&&codeOk n a&&codeOk n b
 |_=>ah
def DN(P:Program)(fn:FuncId)(n:Nat)(c:Code):Bool:=codeOk n c&&(P.funcs[fn]?).isSome
inductive pZ (K:aS):List (FuncId × List AV)->List Deferred->List Nat->Prop
 |nil:pZ K [] [] []
 |call (g:FuncId) (args:List AV) (vs aB:Array Value) (ds cds ms) (hv:aM K args (vs++aB).toList) (h:pZ K ds cds ms):
  pZ K ((g,args)::ds) ({target:=.fn (.func g) aB,args:=vs}::cds) ms
 |mark (r:Nat) (ds cds ms) (hr:r∈K.md) (hn:r∉ms) (h:pZ K ds cds ms):pZ K ds ({target:=.collected r,args:=#[]}::cds) (r::ms)
def pZ.mono{K K'}(le:K.Le K'){ds cds ms}(h:pZ K ds cds ms):pZ K' ds cds ms:=by
 induction h with
 |nil=>exact .nil|call g args vs aB ds cds ms hv _ ih=>exact .call g args vs aB ds cds ms (hv.mono le) ih|mark r ds cds ms hr hn _ ih=>exact .mark r ds cds ms (le.md r hr) hn ih
structure mZ(P:Program)(K:aS)(e:Env)(a:Act)(B:Frame)(ms:List Nat):Prop where
 hD:lX K e.tmps a.tmps
 defers:pZ K e.defers a.defers ms
 round:match e.round with
  |none=>B.roundOf=aq
  |some l=>∃g,K.γ[l]?=aa g/\B.roundOf=aa g/\B.kind=.normal/\a.defers=[]/\ms=[]/\e.defers=[]
 fn:(P.funcs[B.fn]?).isSome=ah
def mZ.mono{P}{K K'}(le:K.Le K'){e}{a}{B}{ms}(h:mZ P K e a B ms):mZ P K' e a B ms:=by
 refine⟨h.hD.mono le,h.defers.mono le,?_,h.fn⟩;have:=h.round;cases hr:e.round with|none=>rw[hr] at this;exact this|some l=>rw[hr] at this;obtain⟨g,h1,h2⟩:=this;exact⟨g,le.γ _ _ h1,h2⟩
inductive CS (K:aS) (kind:CallKind) (base:List Frame):Option (AV × Bool)->List Frame->Prop
 |normal (h:kind=.normal):CS K kind base aq base
 |ret (c0:Frame) (rest:List Frame) (hk:kind=.deferred) (hb:base=c0::rest) (hm:c0.mode=.returning):CS K kind base aq base
 |cD (c0:Frame) (rest:List Frame) (x:AV) (v:Value) (r:Bool) (hk:kind=.deferred) (hb:base=c0::rest) (hx:aT K x v):
  CS K kind base (aa (x,r)) ({c0 with mode:=.panicking [{v,recovered:=r}]}::rest)
def CS.mono{K K'}(le:K.Le K'){kind base p cs}(h:CS K kind base p cs):CS K' kind base p cs:=by
 cases h with|normal h=>exact .normal h|ret c0 rest hk hb hm=>exact .ret c0 rest hk hb hm|cD c0 rest x v r hk hb hx=>exact .cD c0 rest x v r hk hb (hx.mono le)
def DH(s:oG)(d t)(x):(s.set d x).get t=if d=t then x else s.get t:=by
 simp only[oG.set,oG.get,look];by_cases h:d=t
 ·subst h;have:jq d d=ah:=Nat.beq_refl d;rw[this,aF rfl];rfl
 ·have:jq d t=av:=by
   cases hb:jq d t with|false=>rfl|true=>exact absurd (jw hb) h
  rw[this,aG h];rfl
section
variable {P:Program} {K:aS} {G:Nat->Option (List AV)} {w0 w:World} {h:ak}
def lX.set{s:oG}{tmps:Array Value}(hs:lX K s tmps){d:Nat}(hd:d<tmps.size){x:AV}{v:Value}(hx:aT K x v):lX K (s.set d x) (tmps.setIfInBounds d v):=by
 intro t;rw[DH];by_cases ht:d=t
 ·subst ht;rw[aF rfl];simp[KM,hd];exact hx
 ·rw[aG ht];have:(tmps.setIfInBounds d v).getD t undef=tmps.getD t undef:=by simp[KM,ht]
  rw[this];exact hs t
def yM{e:Env}{a:Act}(hs:lX K e.tmps a.tmps)(x:Operand):aT K (e.eval x) (a.eval x):=by
 cases x with|tmp t=>exact hs t|const v=>exact JA v|global g=>exact .eD g 0|func f=>exact .func (.func f) [] [] #[] #[] .nil .nil
def mZ.put{e:Env}{a:Act}{B:Frame}{ms:List Nat}(hf:mZ P K e a B ms){dst:Option Tmp}(hd:∀d,dst=aa d->d<a.tmps.size){x:AV}{v:Value}(hx:aT K x v):
 mZ P K (e.put dst x) (a.put dst v) B ms:=by
 cases dst with|none=>exact hf|some d=>exact⟨hf.hD.set (hd d rfl) hx,hf.defers,hf.round,hf.fn⟩
def JK(a:Act)(dst)(v):(a.put dst v).tmps.size=a.tmps.size:=by cases dst<;>simp[Act.put]
section steps
variable {B:Frame} {a:Act} {k:List Item} {cs:List Frame} {ops:Array Oper} {i:Nat} {rest:List Nat} {o:Oper} {w':World}
def Az(ho:ops[i]?=aa o)(v:Value):(B.atR a (.inRegion ops (i::rest)::k)).finish v=B.atR (a.put o.dst v) (.inRegion ops rest::k):=by rw[Frame.finish_atR,ho];rfl
def Y5(ho:ops[i]?=aa o)(hw:Region.wanted o (yielded ops a.tmps)=ah){v:Value}(hr:(o.semAt B.roundOf a.eval).run P w=.ok (.value v) w'):
 step P (lone (B.atR a (.inRegion ops (i::rest)::k)) cs w)=.next (lone (B.atR (a.put o.dst v) (.inRegion ops rest::k)) cs w'):=by
 refine step_lone_go ?_;rw[stepGR_op ho hw,<-Az ho];simp[stepG.apply,hr,Sem.runT_eq]
def aqX(ho:ops[i]?=aa o)(hw:Region.wanted o (yielded ops a.tmps)=ah)(hr:(o.semAt B.roundOf a.eval).run P w=.ok .skip w'):
 step P (lone (B.atR a (.inRegion ops (i::rest)::k)) cs w)=.next (lone (B.atR (a.put o.dst undef) (.inRegion ops rest::k)) cs w'):=by
 refine step_lone_go ?_;rw[stepGR_op ho hw,<-Az ho];simp[stepG.apply,hr,Sem.runT_eq]
def aqO(ho:ops[i]?=aa o)(hw:Region.wanted o (yielded ops a.tmps)=ah){f:FuncId}{args:Array Value}(hr:(o.semAt B.roundOf a.eval).run P w=.ok (.enter f args) w'):
 step P (lone (B.atR a (.inRegion ops (i::rest)::k)) cs w)=.next (lone (Frame.enter P f args .normal) (B.atR a (.inRegion ops (i::rest)::k)::cs) w'):=by
 refine step_lone_go ?_;rw[stepGR_op ho hw];simp[stepG.apply,hr,Sem.runT_eq,Frame.atR]
def aqV(ho:ops[i]?=aa o)(hw:Region.wanted o (yielded ops a.tmps)=ah){l:Nat}{f:FuncId}{tmps:Array Value}{assign body:Code}(hr:(o.semAt B.roundOf a.eval).run P w=.ok (.round l f tmps assign body) w'):
 step P (lone (B.atR a (.inRegion ops (i::rest)::k)) cs w)=.next (lone (Frame.round l f tmps assign body .normal) (B.atR a (.inRegion ops (i::rest)::k)::cs) w'):=by
 refine step_lone_go ?_;rw[stepGR_op ho hw];simp[stepG.apply,hr,Sem.runT_eq,Frame.atR]
def aqN(ho:ops[i]?=aa o)(hw:Region.wanted o (yielded ops a.tmps)=ah){d:Deferred}(hr:(o.semAt B.roundOf a.eval).run P w=.ok (.defer d) w'):
 step P (lone (B.atR a (.inRegion ops (i::rest)::k)) cs w)=.next (lone (B.atR ({a with defers:=d::a.defers}.put o.dst undef) (.inRegion ops rest::k)) cs w'):=by
 refine step_lone_go ?_;rw[stepGR_op ho hw,<-Az (B:=B) (k:=k) (rest:=rest) (a:={a with defers:=d::a.defers}) ho];simp[stepG.apply,hr,Sem.runT_eq,Frame.atR]
def YY(ho:ops[i]?=aa o)(hw:Region.wanted o (yielded ops a.tmps)=ah){v:Value}(hr:(o.semAt B.roundOf a.eval).run P w=.halt (.panic v) w'):
 step P (lone (B.atR a (.inRegion ops (i::rest)::k)) cs w)=.next (lone {B.atR a (.inRegion ops (i::rest)::k) with mode:=.panicking [{v,recovered:=av}]} cs w'):=by
 refine step_lone_go ?_;rw[stepGR_op ho hw,<-Frame.raise_atR];simp[stepG.apply,hr,Sem.runT_eq]
def aqT(ho:ops[i]?=aa o)(hw:Region.wanted o (yielded ops a.tmps)=ah)(jO:B.roundOf=aq)(hr:(o.semAt B.roundOf a.eval).run P w=.ok .recover w')
 (ht:tryRecover (B.atR a (.inRegion ops (i::rest)::k)) cs=aq):
 step P (lone (B.atR a (.inRegion ops (i::rest)::k)) cs w)=.next (lone (B.atR (a.put o.dst .nilIface) (.inRegion ops rest::k)) cs w'):=by
 refine step_lone_go ?_;have NX:(B.atR a (.inRegion ops (i::rest)::k)).roundOf=aq:=jO;rw[stepGR_op ho hw,<-Az ho];simp[stepG.apply,hr,Sem.runT_eq,NX,ht]
def aqU(ho:ops[i]?=aa o)(hw:Region.wanted o (yielded ops a.tmps)=ah)(jO:B.roundOf=aq)(hr:(o.semAt B.roundOf a.eval).run P w=.ok .recover w')
 {v:Value} {dB:List Frame} (ht:tryRecover (B.atR a (.inRegion ops (i::rest)::k)) cs=aa (v,dB)):
 step P (lone (B.atR a (.inRegion ops (i::rest)::k)) cs w)=.next (lone (B.atR (a.put o.dst v) (.inRegion ops rest::k)) dB w'):=by
 refine step_lone_go ?_;have NX:(B.atR a (.inRegion ops (i::rest)::k)).roundOf=aq:=jO;rw[stepGR_op ho hw,<-Az ho];simp[stepG.apply,hr,Sem.runT_eq,NX,ht]
end steps
end
abbrev jT(P:Program)(G:Nat->Option (List AV))(w0:World)(K:aS)(h:ak)(w:World):Prop:=bN K G (DN P) w0 h w
def nB(P:Program)(K:aS)(m:Machine)(B:Frame)(k:List Item)(cs:List Frame):Xt->Act->World->Prop
 | .normal,a,w=>Steps P m (lone (B.atR a k) cs w)
 | .exit id,a,w=>∃todo,exitTo id todo=exitTo id k/\Steps P m (lone (B.atR a (.code (.exit id)::todo)) cs w)
 | .ret,a,w=>∃todo,Steps P m (lone (B.atR a (.code .ret::todo)) cs w)
 | .panic x,a,w=>∃todo v,aT K x v/\Steps P m (lone {B.atR a todo with mode:=.panicking [{v,recovered:=av}]} cs w)
def nB.of_steps{P}{K}{m m'}{B}{k}{cs}{x}{a}{w}(hs:Steps P m m')(h:nB P K m' B k cs x a w):nB P K m B k cs x a w:=by
 cases x with
 |normal=>exact hs.trans h|exit id=>obtain⟨t,h1,h2⟩:=h;exact⟨t,h1,hs.trans h2⟩
 |ret=>obtain⟨t,h2⟩:=h;exact⟨t,hs.trans h2⟩
 |panic x=>obtain⟨t,v,h1,h2⟩:=h;exact⟨t,v,h1,hs.trans h2⟩
def nB.pass{P}{K}{m}{B}{it}{k}{cs}{x}{a}{w}(hp:it.plain=ah)(hn:x≠ .normal)
 (h:nB P K m B (it::k) cs x a w):nB P K m B k cs x a w:=by
 cases x with
 |normal=>exact absurd rfl hn|exit id=>obtain⟨t,h1,h2⟩:=h;refine⟨t,h1.trans ?_,h2⟩;cases it<;>first|rfl|simp[Item.plain] at hp
 |ret=>exact h|panic x=>exact h
structure Left(P:Program)(G:Nat->Option (List AV))(w0:World)(K:aS)(ms:List Nat)(B:Frame)(base:List Frame)(m:Machine)(k:List Item)(n:Nat)(out:Xt)(e':Env)(h':ak)
 (K':aS) (w':World) (a':Act) (dB:List Frame) (ms':List Nat):Prop where
 le:K.Le K'
 pW:jT P G w0 K' h' w'
 frame:mZ P K' e' a' B ms'
 cs:CS K' B.kind base e'.cD dB
 size:a'.tmps.size=n
 marks:∀r∈ms',r∈ms∨r∉K.md
 arr:nB P K' m B k dB out a' w'
def Ru(P:Program)(G:Nat->Option (List AV))(w0:World)(f:Code->Env->ak->Option (Xt × Env × ak)):Prop:=
 ∀c e h out e' h',f c e h=aa (out,e',h')->∀K w a B k base cs ms,mZ P K e a B ms->CS K B.kind base e.cD cs->jT P G w0 K h w->codeOk a.tmps.size c=ah->
  ∃K' w' a' dB ms',Left P G w0 K ms B base (lone (B.atR a (.code c::k)) cs w) k a.tmps.size out e' h' K' w' a' dB ms'
def Rr(P:Program)(K:aS)(fr:Frame)(w:World):eK->Prop
 | .ret x=>∃v,aT K x v/\fr.leaving P w (.returned v)
 | .panic x=>∃v,aT K x v/\fr.leaving P w (.panicked [{v,recovered:=av}])
def Rt(P:Program)(G:Nat->Option (List AV))(w0:World)(f:FuncId->List AV->ak->Option (eK × ak)):Prop:=
 ∀g args h r h',f g args h=aa (r,h')->(∃fn,P.funcs[g]?=aa fn/\fn.body.isSome=ah)/\∀K w eU,aM K args (eU:Array Value).toList->jT P G w0 K h w->∀cs,
  ∃K' w' fr,K.Le K'/\jT P G w0 K' h' w'/\Steps P (lone (Frame.enter P g eU .normal) cs w) (lone fr cs w')/\fr.fn=g/\Rr P K' fr w' r
def Rv(P:Program)(G:Nat->Option (List AV))(w0:World)(f:FuncId->List AV->Option (AV × Bool)->ak->Option (eK × Option (AV × Bool) × ak)):Prop:=
 ∀g args m h x m' h',f g args m h=aa (.ret x,m',h')->(∃fn,P.funcs[g]?=aa fn/\fn.body.isSome=ah)/\∀K w eU base cs,aM K args (eU:Array Value).toList->CS K .deferred base m cs->jT P G w0 K h w->
  ∃K' w' fr dB v,K.Le K'/\jT P G w0 K' h' w'/\CS K' .deferred base m' dB/\Steps P (lone (Frame.enter P g eU .deferred) cs w) (lone fr dB w')/\fr.kind=.deferred/\fr.going P w' (.returned v)
def Rw(P:Program)(G:Nat->Option (List AV))(w0:World)(f:Nat->List AV->ak->Option (eK × ak)):Prop:=
 ∀l args h r h',f l args h=aa (r,h')->∀K w eU lg,K.γ[l]?=aa lg->aM K args (eU:Array Value).toList->jT P G w0 K h w->∀rY cs,
  ∃fn tmps assign body K' w',(Instr.yield lg eU).run P w=.ok (.round lg fn tmps assign body) w/\K.Le K'/\jT P G w0 K' h' w'/\
   match r with
   | .ret x=>∃v,aT K' x v/\Steps P (lone (Frame.round lg fn tmps assign body .normal) (rY::cs) w) (lone (rY.finish v) cs w')
   | .panic x=>∃v fr,aT K' x v/\Steps P (lone (Frame.round lg fn tmps assign body .normal) (rY::cs) w) (lone fr (rY::cs) w')/\fr.leaving P w' (.panicked [{v,recovered:=av}])
structure ve(P:Program)(G:Nat->Option (List AV))(w0:World)(R:Rec):Prop where
 code:Ru P G w0 R.code
 call:Rt P G w0 R.call
 jy:Rv P G w0 R.jy
 round:Rw P G w0 R.round
section
variable {P:Program} {G:Nat->Option (List AV)} {w0:World} {R:Rec}
def Co (P : Program) : Prop := ∀ (g : FuncId) (fn : Func), P.funcs[g]? = aa fn -> (fn.name == "runtime.NumGoroutine") = av
def P2(hn:Co P){g:FuncId}{fn:Func}(hf:P.funcs[g]?=aa fn)(hb:fn.body.isSome=ah)(args:Array Value)(w:World):(callFunc g args).run P w=.ok (.enter g args) w:=by
 have h1:=hn g fn hf;have h2:fn.body.isNone=av:=by cases h:fn.body<;>simp_all
 unfold callFunc;simp only[Sem.run_bind,run_program,Result.andThen_ok,hf];rw[h1,h2];rfl
def ajQ{t:TypeId}{name:String}{f:FuncId}(he:OI P t name=aa f)(v:Value)(w:World)(n:Nat):
 (method (n+1) t v name).run P w=.ok (f,v) w:=by
 unfold OI at he;split at he
 ·rename_i i hi;split at he
  ·rename_i m hm;have key:∀(pr:Bool) (d:TypeDesc),m.path.toList=[]->m.func=aa (f,pr)->P.underlying t=aa d->(match d with| .pointer _=>pr=ah|_=>pr=av)->(method (n+1) t v name).run P w=.ok (f,v) w:=(by intro pr d hp hf hu hd;simp only[method,Sem.run_bind,qE hi,Result.andThen_ok,hm,hp,follow,Sem.run_pure,hf,receiverAt,db hu];cases d<;>simp only at hd<;>subst hd<;>simp[Place.get]);split at he
   ·rename_i f' e hp hf hu;injection he with he;subst he;exact key _ _ hp hf hu rfl
   ·cases he
   ·rename_i f' d bH hp hf hd;injection he with he;subst he;refine key _ _ hp hf hd ?_;cases d<;>first|rfl|(exact absurd rfl (bH _))
   ·cases he
  ·cases he
 ·cases he
end
section
variable {P:Program} {G:Nat->Option (List AV)} {w0:World} {R:Rec}
def WI{n}{ops}(h:DP n ops=ah){i:Nat}{o}(ho:ops[i]?=aa o):∀d,o.dst=aa d->d<n:=by intro d hd;unfold DP at h;rw[Ej] at h;obtain⟨hi,rfl⟩:=BN.1 ho;have:=h i hi;rw[hd] at this;simpa using this
def ash{K}{e}{a:Act}(hs:lX K e.tmps a.tmps){ops}(Be:DP a.tmps.size ops=ah){o}{b}(he:eY ops e o=aa b):
 Region.wanted o (yielded ops a.tmps)=b:=by
 unfold eY at he;unfold Region.wanted;cases hg:o.guard with
 |none=>rw[hg] at he;simpa using he|some gw=>
  obtain⟨j,want⟩:=gw;rw[hg] at he;simp only at he ⊢;cases hb:(ops[j]?).bind (·.dst) with
  |none=>rw[hb] at he;simp only[dA] at he;subst he;simp[yielded,hb]|some d=>
   rw[hb] at he;simp only at he;have hd:d<a.tmps.size:=by
    cases ho:ops[j]? with
    |none=>rw[ho] at hb;cases hb
    |some o'=>rw[ho] at hb;exact WI Be ho d hb
   have hv:=hs d;have Nb:a.tmps[d]?=aa (a.tmps.getD d undef):=(by simp[hd]);have hy:∀z,a.tmps.getD d undef=z->yielded ops a.tmps j=match z with| .bool b=>aa b|_=>aq:=by intro z hz;unfold yielded;rw[hb];simp only[ph];rw[Nb,hz];cases z<;>rfl
   unfold Env.get at he;generalize hx:e.tmps.get d=x at he hv;generalize hz:a.tmps.getD d undef=z at hv;have hy:=hy z hz;split at he
   ·rename_i b';obtain⟨rfl,-⟩:=hv.iB;injection he with he;rw[hy];simp[<-he]
   ·injection he with he;cases hv with|tuple cs vs h=>rw[hy];simp[<-he]
   ·cases he
def HV{K}{e:Env}{a:Act}(hs:lX K e.tmps a.tmps)(xs:Array Operand):aM K (xs.toList.map e.eval) (xs.map a.eval).toList:=by rw[BS];exact aM.map_mk λx _=>yM hs x
def Rn(P:Program)(G:Nat->Option (List AV))(w0:World)(K:aS)(ms:List Nat)(B:Frame)(base:List Frame)(m:Machine)(ops:Array Oper)(o:Oper)(rest:List Nat)(k:List Item)(n:Nat)(e':Env)(h':ak)(res:eK):Prop:=
 ∃K' w' a' dB,K.Le K'/\jT P G w0 K' h' w'/\mZ P K' e' a' B ms/\CS K' B.kind base e'.cD dB/\a'.tmps.size=n/\
  match res with
  | .ret x=>∃v,aT K' x v/\Steps P m (lone (B.atR (a'.put o.dst v) (.inRegion ops rest::k)) dB w')
  | .panic x=>∃v todo,aT K' x v/\Steps P m (lone {B.atR a' todo with mode:=.panicking [{v,recovered:=av}]} dB w')
def ajB:∃d,Made.depth=d+1:=⟨Made.depth - 1,by decide⟩
def aks(hn:Co P)(hR:ve P G w0 R){e e':Env}{a:Act}{B:Frame}{ms:List Nat}{base cs:List Frame}{K:aS}{h h':ak}{w:World}{ops:Array Oper}{i:Nat}{rest:List Nat}{o:Oper}{res:eK}
 (he:dO P G R e h o=aa (res,e',h')) (hf:mZ P K e a B ms) (bW:CS K B.kind base e.cD cs) (hs:jT P G w0 K h w) (ho:ops[i]?=aa o) (hw:Region.wanted o (yielded ops a.tmps)=ah) (k:List Item):
 Rn P G w0 K ms B base (lone (B.atR a (.inRegion ops (i::rest)::k)) cs w) ops o rest k a.tmps.size e' h' res:=by
 have jO:∀(ro:Option Nat) (x:Sem Next),(∀c,o.op≠ .defer c)->execOp a.eval o=x->(o.semAt ro a.eval)=x:=λro x bH hx=>by rw[Oper.semAt_eq ro a.eval o bH,hx]
 have xB:e.round.isSome=av->B.roundOf=aq:=by
  intro hr;have:=hf.round;cases hq:e.round with|none=>rw[hq] at this;exact this|some l=>rw[hq] at hr;cases hr
 unfold dO at he;split at he
 ·-- recover
  rename_i args argTypes bK;have pG:execOp a.eval o=(do let d <-resolve a.eval {callee:=.builtin .recover,args:=args,argTypes:=argTypes} o.type;invoke d.target d.args):=by unfold execOp;rw[bK]
  have lL:(o.semAt B.roundOf a.eval).run P w=.ok .recover w:=by rw[jO _ _ (by rw[bK];intro c;simp) pG];simp[resolve,invoke,builtin]
  split at he
  ·cases he
  ·rename_i pN;have hB:=xB (by simpa using pN);split at he
   ·rename_i x hp;simp only[dA,cX] at he;obtain⟨rfl,rfl,rfl⟩:=he;rw[hp] at bW;generalize Db:B.kind=kd at bW;generalize sH:(aa (x,av):Option (AV × Bool))=pp at bW;cases bW with
    |normal h=>cases sH
    |ret c0 rest' hk hb hm=>cases sH
    |cD c0 rest' x' v r hk hb hx=>injection sH with sH;injection sH with h1 h2;subst h1;subst h2;refine⟨K,w,a,_,.refl K,hs,⟨hf.hD,hf.defers,hf.round,hf.fn⟩,.cD c0 rest' x v ah (Db.trans hk) hb hx,rfl,v,hx,.one (aqU ho hw hB lL ?_)⟩;simp[tryRecover,Frame.atR,Db,hk]
   ·rename_i hp;simp only[dA,cX] at he;obtain⟨rfl,rfl,rfl⟩:=he;refine⟨K,w,a,cs,.refl K,hs,hf,bW,rfl,.nilIface,.v _ rfl,.one (aqT ho hw hB lL ?_)⟩;generalize Db:B.kind=kd at bW;generalize sH:e.cD=pp at bW hp;cases bW with
    |normal h=>subst h;simp[tryRecover,Frame.atR,Db]|ret c0 rest' hk hb hm=>subst hk;subst hb;simp[tryRecover,Frame.atR,Db,hm]|cD c0 rest' x' v r hk hb hx=>
     subst hk;cases r with|false=>exact absurd rfl (hp x')|true=>simp[tryRecover,Frame.atR,Db]
 ·-- the built-in panic
  rename_i args argTypes bK;have pG:execOp a.eval o=(do let d <-resolve a.eval {callee:=.builtin .panic,args:=args,argTypes:=argTypes} o.type;invoke d.target d.args):=by unfold execOp;rw[bK]
  split at he
  ·rename_i t x vA;simp only[dA,cX] at he;obtain⟨rfl,rfl,rfl⟩:=he;have hv:=HV hf.hD args;rw[vA] at hv;generalize hz:args.map a.eval=z at hv;obtain⟨z⟩:=z;simp only at hv;cases hv with
   |cons _ c _ dB h1 h2=>
    cases h2;cases h1 with|iface _ _ c hc=>refine⟨K,w,a,cs,.refl K,hs,hf,bW,rfl,.iface t c,_,.iface t x c hc,.one (YY ho hw ?_)⟩;rw[jO _ _ (by rw[bK];intro c;simp) pG];simp[resolve,invoke,builtin,hz,Instr.panic]
  ·cases he
 ·-- another built-in function
  rename_i b args argTypes jM fk bK;have pG:execOp a.eval o=(do let d <-resolve a.eval {callee:=.builtin b,args:=args,argTypes:=argTypes} o.type;invoke d.target d.args):=by unfold execOp;rw[bK]
  simp only[dh] at he;obtain⟨⟨x,h1⟩,he,hq⟩:=he;simp only[cX] at hq;obtain⟨rfl,rfl,rfl⟩:=hq;obtain⟨K',v,w',le,s',hx,lL⟩:=adv hs (ty:=o.type) he (HV hf.hD args) (args.map λ| .const _=>ah|_=>av);refine⟨K',w',a,cs,le,s',hf.mono le,bW.mono le,rfl,v,hx,.one (Y5 ho hw ?_)⟩;rw[jO _ _ (by rw[bK];intro c;simp) pG];simp only[resolve,invoke,Sem.run_bind,Sem.run_pure,Result.andThen_ok];exact lL
 ·-- a call
  rename_i c jM fk xm bK;have pG:execOp a.eval o=(do let d <-resolve a.eval c o.type;invoke d.target d.args):=by unfold execOp;rw[bK]
  simp only[dh] at he;obtain⟨⟨r,h1⟩,he,hq⟩:=he;simp only[cX] at hq;obtain⟨rfl,rfl,rfl⟩:=hq;have vA:=HV hf.hD c.args;have call:∀(g:FuncId) (xs:List AV) (vs:Array Value),R.call g xs h=aa (r,h1)->aM K xs vs.toList->((∃fn,P.funcs[g]?=aa fn/\fn.body.isSome=ah)->(execOp a.eval o).run P w=(callFunc g vs).run P w)->
   Rn P G w0 K ms B base (lone (B.atR a (.inRegion ops (i::rest)::k)) cs w) ops o rest k a.tmps.size e h1 r:=by
   intro g xs vs sn fy lL;obtain⟨⟨fn,gG,mD⟩,hc⟩:=hR.call g xs h r h1 sn;obtain⟨K',w',fr,le,s',bZ,-,hl⟩:=hc K w vs fy hs (B.atR a (.inRegion ops (i::rest)::k)::cs);have IN:=aqO (k:=k) (cs:=cs) (rest:=rest) ho hw (by rw[jO B.roundOf _ (by rw[bK];intro c;simp) rfl,lL ⟨fn,gG,mD⟩];exact P2 hn gG mD vs w);cases r with
   |ret x=>obtain⟨v,hx,hl⟩:=hl;refine⟨K',w',a,cs,le,s',hf.mono le,bW.mono le,rfl,v,hx,.head IN (bZ.trans (.one ?_))⟩;rw[step_leave_returned hl,Az ho]
   |panic x=>obtain⟨v,hx,hl⟩:=hl;refine⟨K',w',a,cs,le,s',hf.mono le,bW.mono le,rfl,v,.inRegion ops (i::rest)::k,hx,.head IN (bZ.trans (.one ?_))⟩;rw[step_leave_panicked hl,Frame.raise_atR]
  obtain⟨callee,cargs,cts⟩:=c;cases callee with
  |builtin b=>simp[lE] at he|value f=>
   simp only[lE] at he;have nq:=yM hf.hD f;generalize NR:e.eval f=qf at he nq;generalize rC:a.eval f=qv at nq;split at he
   ·rename_i g first aB
    cases nq with
    |func _ _ _ fs dB CR vw=>
     refine call g _ (fs++cargs.map a.eval++dB) he ?_ λ_=>?_
     ·simp only[BR];exact(CR.append vA).append vw
     ·rw[pG];simp[resolve,rC,Deferred.ofValue,invoke]
   ·rename_i l;cases nq with
    |yield _ lg hlg=>
     obtain⟨fn,tmps,assign,body,K',w',hy,le,s',hm⟩:=hR.round l _ h r h1 he K w (cargs.map a.eval) lg hlg vA hs (B.atR a (.inRegion ops (i::rest)::k)) cs;have IM:=aqV (k:=k) (cs:=cs) (rest:=rest) ho hw (by rw[jO B.roundOf _ (by rw[bK];intro c;simp) pG];simp only[resolve,rC,Deferred.ofValue,invoke,Sem.run_bind,Sem.run_pure,Result.andThen_ok];simpa using hy);cases r with
     |ret x=>obtain⟨v,hx,bZ⟩:=hm;refine⟨K',w',a,cs,le,s',hf.mono le,bW.mono le,rfl,v,hx,.head IM ?_⟩;rw[<-Az ho];exact bZ
     |panic x=>obtain⟨v,fr,hx,bZ,hl⟩:=hm;refine⟨K',w',a,cs,le,s',hf.mono le,bW.mono le,rfl,v,.inRegion ops (i::rest)::k,hx,.head IM (bZ.trans (.one ?_))⟩;rw[step_leave_panicked hl,Frame.raise_atR]
   ·cases he
  |invoke rcv name=>
   simp only[lE] at he;have nq:=yM hf.hD rcv;generalize NR:e.eval rcv=qf at he nq;generalize rC:a.eval rcv=qv at nq;split at he
   ·rename_i t x;split at he
    ·rename_i f hm;cases nq with
     |iface _ _ c hc=>
      refine call f _ (#[c]++cargs.map a.eval) he ?_ λ_=>?_
      ·simp only[BR];exact .cons _ _ _ _ hc vA
      ·rw[pG];obtain⟨d,hd⟩:=ajB;have ahW:=ajQ hm c w (P.types.size+d);have dH:P.types.size+Made.depth=P.types.size+d+1:=(by omega);simp only[resolve,rC,invoke,Sem.run_bind,Sem.run_pure,Result.andThen_ok,callMethod];have h0:(#[Value.iface t c]++KN a.eval cargs)[0]?=aa (.iface t c):=(by rw[Array.getElem?_append_left bh];rfl);simp only[h0,run_program,Sem.run_bind,Result.andThen_ok,dH,ahW];congr 2;have hh:(#[Value.iface t c]++KN a.eval cargs).extract 1 (#[Value.iface t c]++KN a.eval cargs).size=KN a.eval cargs:=(by apply KL;simp;rw[<-wG,<-bu (f:=a.eval),List.take_length]);rw[hh]
    ·cases he
   ·cases he
 ·-- a defer
  rename_i f args argTypes bK;split at he
  ·cases he
  ·rename_i pN;have hB:=xB (by simpa using pN);have nq:=yM hf.hD f;generalize NR:e.eval f=qf at he nq;generalize rC:a.eval f=qv at nq;split at he
   ·rename_i g first aB
    simp only[dA,cX] at he;obtain⟨rfl,rfl,rfl⟩:=he;cases nq with
    |func _ _ _ fs dB CR vw=>
     have lL:(o.semAt B.roundOf a.eval).run P w=.ok (.defer {target:=.fn (.func g) dB,args:=fs++args.map a.eval}) w:=(by rw[hB,Oper.semAt_none];unfold execOp;rw[bK];simp[resolve,rC,Deferred.ofValue]);refine⟨K,w,{a with defers:=_::a.defers},cs,.refl K,hs,⟨hf.hD,.call g _ (fs++args.map a.eval) dB _ _ _ ?_ hf.defers,?_,hf.fn⟩,bW,rfl,undef,?_,.one (aqN ho hw lL)⟩
     ·simp only[BR];exact(CR.append (HV hf.hD args)).append vw
     ·have lK:=hf.round;cases hq:e.round with|none=>simp only;exact hB|some l=>rw[hq] at pN;exact absurd rfl pN
     ·exact .tuple [] #[] .nil
   ·cases he
 ·-- a panic
  rename_i x bK;have nq:=yM hf.hD x;generalize NR:e.eval x=qf at he nq;generalize rC:a.eval x=qv at nq;split at he
  ·rename_i t x;simp only[dA,cX] at he;obtain⟨rfl,rfl,rfl⟩:=he;cases nq with|iface _ _ c hc=>refine⟨K,w,a,cs,.refl K,hs,hf,bW,rfl,.iface t c,_,.iface t x c hc,.one (YY ho hw ?_)⟩;rw[Oper.semAt_eq _ _ _ (by rw[bK];intro c;simp)];unfold execOp;rw[bK];simp[rC,Instr.panic]
  ·cases he
 ·-- any other operation
  rename_i op Vk Vm ath ati atj atk;simp only[dh] at he;obtain⟨⟨x,h1⟩,he,hq⟩:=he;simp only[cX] at hq;obtain⟨rfl,rfl,rfl⟩:=hq;have NB:∀c,o.op≠ .defer c:=by intro c hc;rw[hc] at he;simp[dD] at he
  obtain⟨K',v,w',le,s',hx,lL⟩:=ak3 hs (λx=>yM hf.hD x) he;refine⟨K',w',a,cs,le,s',hf.mono le,bW.mono le,rfl,v,hx,.one ?_⟩;rcases lL with lL|⟨lL,rfl⟩
  ·exact Y5 ho hw (by rw[Oper.semAt_eq _ _ _ NB];exact lL)
  ·exact aqX ho hw (by rw[Oper.semAt_eq _ _ _ NB];exact lL)
end
end Go.AE
end
section
namespace Go.AE
def apA{x y}(h:mj x y=ah):x=y:=by
 cases x<;>cases y<;>simp only[mj,bC,decide_eq_true_eq,jG,beq_iff_eq] at h
 case int.int=>rw[h.1,h.2]
 case bool.bool=>rw[h]
 case string.string a b=>
  obtain⟨⟨a⟩⟩:=a;obtain⟨⟨b⟩⟩:=b;simp only at h;rw[h]
 case pointer.pointer a b=>cases a<;>cases b<;>first|rfl|simp[mj] at h
 all_goals rfl
def apy{x y}(h:Kj x y=ah):x=y:=by cases x<;>cases y<;>simp only[Kj,jG] at h<;>rw[jw h]
def apz{x y}(h:wm x y=ah):x=y:=by cases x<;>cases y<;>simp only[wm,jG] at h<;>first|rfl|rw[jw h]
mutual
def P8:∀{x y:AV},eT x y=ah->x=y
 | .v x,.v y,h=>by rw[eT] at h;rw[apA h]
 | .list k sz es,.list k' sz' es',h=>by rw[eT,bC,bC] at h;rw[apz h.1.1,jw h.1.2,P9 h.2]
 | .arr b o l c,.arr b' o' l' c',h=>by rw[eT,bC,bC,bC] at h;rw[jw h.1.1.1,jw h.1.1.2,jw h.1.2,jw h.2]
 | .agg cs,.agg ds,h=>by rw[eT] at h;rw[D8 h]
 | .tuple cs,.tuple ds,h=>by rw[eT] at h;rw[D8 h]
 | .ptr r o,.ptr r' o',h=>by rw[eT,bC] at h;rw[apy h.1,jw h.2]
 | .elem sz es i o,.elem sz' es' i' o',h=>by rw[eT,bC,bC,bC] at h;rw[jw h.1.1.1,jw h.1.1.2,jw h.1.2,P9 h.2]
 | .yield l,.yield l',h=>by rw[eT] at h;rw[jw h]
 | .iface t x,.iface t' y,h=>by rw[eT,bC] at h;rw[jw h.1,P8 h.2]
 | .func (.func f) a b,.func (.func g) a' b',h=>by rw[eT,bC,bC] at h;rw[jw h.1.1,D8 h.1.2,D8 h.2]
 | .bad,y,h=>by simp[eT] at h
def D8:∀{x y:List AV},nT x y=ah->x=y
 | [],[],_=>rfl
 |x::xs,y::ys,h=>by rw[nT,bC] at h;rw[P8 h.1,D8 h.2]
 | [],y::ys,h=>by simp[nT] at h
 |x::xs,[],h=>by simp[nT] at h
def P9:∀{x y:List (List AV)},pV x y=ah->x=y
 | [],[],_=>rfl
 |x::xs,y::ys,h=>by rw[pV,bC] at h;rw[D8 h.1,P9 h.2]
 | [],y::ys,h=>by simp[pV] at h
 |x::xs,[],h=>by simp[pV] at h
end
end Go.AE
end
section
namespace Go.AE
section
variable {P:Program} {G:Nat->Option (List AV)} {R:Rec}
def OG{ρ ρ':Operand->AV}{ps:Array (Nat × Operand)}(h:∀x∈ps.map (·.2),ρ x=ρ' x):(ps.toList.map λp=>(p.1,ρ p.2))=ps.toList.map λp=>(p.1,ρ' p.2):=
 HI λp hp=>by rw[h p.2 (Array.mem_map.2 ⟨p,ZK.1 hp,rfl⟩)]
def zu{ρ ρ':Operand->AV}{ps:Array Operand}(h:∀x∈ps,ρ x=ρ' x):ps.toList.map ρ=ps.toList.map ρ':=
 HI λp hp=>h p (ZK.1 hp)
def Xf{ρ ρ':Operand->AV}{h:ak}{op:Op}(hx:∀x∈op.operands,ρ x=ρ' x):dD P G ρ h op=dD P G ρ' h op:=by
 cases op<;>simp only[Op.operands] at hx<;>simp only[dD]
 case build t ps=>rw[OG (λx hm=>hx x (by simpa using hm))]
 case buildSlice t n ps=>rw[OG (λx hm=>hx x (by simpa using hm))]
 case makeFunc fn first captured=>
  rw[zu (ps:=first) λx hm=>hx x (by simp[hm]),zu (ps:=captured) λx hm=>hx x (by simp[hm])]
 case slice t x lo hi mx=>cases lo<;>cases hi<;>cases mx<;>simp_all
 all_goals (first|rfl|(simp_all;done))
def Op.Wn{c:Call}{x}(h:x∈c.args):x∈c.operands:=by simp[Call.operands,h]
def L0{e e2:Env}{h:ak}{c:Call}(hx:∀x∈c.operands,e.eval x=e2.eval x):lE P R e h c=lE P R e2 h c:=by
 have ha:c.args.toList.map e.eval=c.args.toList.map e2.eval:=zu λx hm=>hx x (Op.Wn hm);unfold lE;simp only[ha];cases hc:c.callee with|builtin b=>rfl|value f=>have hf:e.eval f=e2.eval f:=hx f (by simp[Call.operands,hc]);simp only[hf]|invoke r m=>have hr:e.eval r=e2.eval r:=hx r (by simp[Call.operands,hc]);simp only[hr]
def Env.with(e e':Env):Env:={e with defers:=e'.defers,cD:=e'.cD}
def akr{e e':Env}{h h':ak}{o:Oper}{r:eK}(he:dO P G R e h o=aa (r,e',h')):e'=e.with e':=by
 unfold dO at he;split at he
 ·split at he
  ·cases he
  ·split at he
   ·simp only[dA,cX] at he;obtain⟨-,rfl,-⟩:=he;rfl
   ·simp only[dA,cX] at he;obtain⟨-,rfl,-⟩:=he;rfl
 ·split at he
  ·simp only[dA,cX] at he;obtain⟨-,rfl,-⟩:=he;rfl
  ·cases he
 ·simp only[dh,cX] at he;obtain⟨_,-,-,rfl,-⟩:=he;rfl
 ·simp only[dh,cX] at he;obtain⟨_,-,-,rfl,-⟩:=he;rfl
 ·split at he
  ·cases he
  ·split at he
   ·simp only[dA,cX] at he;obtain⟨-,rfl,-⟩:=he;rfl
   ·cases he
 ·split at he
  ·simp only[dA,cX] at he;obtain⟨-,rfl,-⟩:=he;rfl
  ·cases he
 ·simp only[dh,cX] at he;obtain⟨_,-,-,rfl,-⟩:=he;rfl
def akq{e e' e2:Env}{h h':ak}{o:Oper}{r:eK}(hx:∀x∈o.op.operands,e.eval x=e2.eval x)(hd:e2.defers=e.defers)(hp:e2.cD=e.cD)(hr:e2.round=e.round)
 (he:dO P G R e h o=aa (r,e',h')):dO P G R e2 h o=aa (r,e2.with e',h'):=by
 have iT:e2.with e=e2:=by cases e2;cases e;simp_all [Env.with]
 unfold dO at he ⊢;split at he
 ·rename_i args ts bK;simp only[hr,hp];split at he
  ·cases he
  ·rename_i jO;rw[aG jO];split at he
   ·rename_i x sH;simp only[dA,cX] at he;obtain⟨rfl,rfl,rfl⟩:=he;simp[Env.with,<-hd,<-hr]
   ·rename_i sH;simp only[dA,cX] at he;obtain⟨rfl,rfl,rfl⟩:=he;rw[iT]
 ·rename_i args ts bK;have ha:args.toList.map e.eval=args.toList.map e2.eval:=zu λx hm=>hx x (by rw[bK];simp[Op.operands,Call.operands,hm]);simp only[<-ha];split at he
  ·simp only[dA,cX] at he;obtain⟨rfl,rfl,rfl⟩:=he;simp only[iT]
  ·cases he
 ·rename_i b args ts jM fk bK;have ha:args.toList.map e.eval=args.toList.map e2.eval:=zu λx hm=>hx x (by rw[bK];simp[Op.operands,Call.operands,hm]);simp only[dh,cX] at he;obtain⟨q,hq,rfl,rfl,rfl⟩:=he;simp only[<-ha,hq,eJ,iT]
 ·rename_i c jM fk xm bK;simp only[dh,cX] at he;obtain⟨q,hq,rfl,rfl,rfl⟩:=he;rw[L0 (e2:=e2) (λx hm=>hx x (by rw[bK];exact hm))] at hq;simp only[hq,eJ,iT]
 ·rename_i f args ts bK;have ha:args.toList.map e.eval=args.toList.map e2.eval:=zu λx hm=>hx x (by rw[bK];simp[Op.operands,Call.operands,hm]);have hf:e.eval f=e2.eval f:=hx f (by rw[bK];simp[Op.operands,Call.operands]);simp only[hr];split at he
  ·cases he
  ·rename_i jO;rw[aG jO];simp only[<-hf,<-ha];split at he
   ·simp only[dA,cX] at he;obtain⟨rfl,rfl,rfl⟩:=he;simp only[Env.with,hd,<-hp,<-hr]
   ·cases he
 ·rename_i x bK;have hf:e.eval x=e2.eval x:=hx x (by rw[bK];simp[Op.operands]);simp only[<-hf];split at he
  ·simp only[dA,cX] at he;obtain⟨rfl,rfl,rfl⟩:=he;simp only[iT]
  ·cases he
 ·simp only[dh,cX] at he;obtain⟨q,hq,rfl,rfl,rfl⟩:=he;rw[Xf (ρ':=e2.eval) hx] at hq;simp only[hq,eJ,iT]
def alK{e e':Env}{h h':ak}{o:Oper}{r:eK}(hc:jj o.op=.pure)(he:dO P G R e h o=aa (r,e',h')):
 e'=e/\h'=h/\∀e2:Env,(∀x∈o.op.operands,e.eval x=e2.eval x)->∀h2,dO P G R e2 h2 o=aa (r,e2,h2):=by
 cases bK:o.op with
 |call c=>
  obtain⟨callee,args,ts⟩:=c;rw[bK] at hc;cases callee with
  |value f=>simp[jj] at hc|invoke r n=>simp[jj] at hc|builtin b=>
   cases b<;>simp[jj] at hc
   case len=>
    unfold dO at he ⊢;simp only[bK] at he ⊢;simp only[dh,cX] at he;obtain⟨⟨x,hh⟩,hq,rfl,rfl,rfl⟩:=he;have hT:∀(h2:ak) (l:List AV),qV P G o.dst h2 .len ts o.type l=ji P h2 .len ts o.type l:=λ_ _=>rfl;rw[hT] at hq;have key:hh=h/\∀h2:ak,ji P h2 .len ts o.type (args.toList.map e.eval)=aa (x,h2):=by
     generalize args.toList.map e.eval=l at hq ⊢;rcases l with _|⟨y,_|⟨z,l⟩⟩
     ·simp[ji] at hq
     ·simp only[ji] at hq ⊢;split at hq
      ·rename_i t ht;simp only[dh,cX] at hq;obtain⟨z,hz,rfl,rfl⟩:=hq;refine⟨rfl,λh2=>?_⟩;simp[hz]
      ·cases hq
     ·simp[ji] at hq
    obtain⟨rfl,key⟩:=key;refine⟨rfl,rfl,λe2 hx h2=>?_⟩;have ha:args.toList.map e.eval=args.toList.map e2.eval:=zu λx hm=>hx x (by simp[Op.operands,Call.operands,hm]);rw[<-ha,hT,key h2];rfl
 |buildSlice t n ps=>
  rw[bK] at hc;have Fx:vq ps=av:=by
   cases hb:vq ps with|false=>rfl|true=>simp[jj,hb] at hc
  unfold dO at he ⊢;simp only[bK] at he ⊢;simp only[dh,cX] at he;obtain⟨⟨x,hh⟩,hq,rfl,rfl,rfl⟩:=he;simp only[dD,Fx,dh,cX] at hq;obtain⟨y,hy,rfl,rfl⟩:=hq;refine⟨rfl,rfl,λe2 hx h2=>?_⟩;have hm:=OG (ρ:=e.eval) (ρ':=e2.eval) (ps:=ps) (λx hm=>hx x (by simpa [Op.operands] using hm));simp only[dD,Fx,<-hm,hy,eJ]
 |_=>
  rw[bK] at hc
  first
   |(simp[jj] at hc;done)
   |(unfold dO at he ⊢
     simp only[bK] at he ⊢;simp only[dh,cX] at he;obtain⟨⟨x,hh⟩,hq,rfl,rfl,rfl⟩:=he;have key:hh=h/\∀h2:ak,dD P G e.eval h2 o.op=aa (x,h2):=by
      rw[bK];simp only[dD] at hq ⊢
      first
       |(simp only[dA,cX] at hq;obtain⟨rfl,rfl⟩:=hq;exact⟨rfl,λ_=>rfl⟩)
       |(simp only[dh,cX] at hq;obtain⟨z,hz,rfl,rfl⟩:=hq;exact⟨rfl,λ_=>by simp only[hz,eJ]⟩)
       |(split at hq
         ·simp only[dA,cX] at hq;obtain⟨rfl,rfl⟩:=hq;exact⟨rfl,λ_=>by simp_all⟩
         ·cases hq)
       |(split at hq
         ·simp only[dh,cX] at hq;obtain⟨z,hz,rfl,rfl⟩:=hq;exact⟨rfl,λ_=>by simp_all⟩
         ·cases hq)
       |(split at hq
         ·split at hq
          ·simp only[dh,cX] at hq;obtain⟨z,hz,rfl,rfl⟩:=hq;exact⟨rfl,λ_=>by simp_all⟩
          ·cases hq
         ·cases hq)
     obtain⟨rfl,key⟩:=key;refine⟨rfl,rfl,λe2 hx h2=>?_⟩;rw[<-bK,<-Xf (P:=P) (G:=G) (ρ:=e.eval) (h:=h2) (by rw[bK];exact hx),key h2];rfl)
def ajs{e e':Env}{h h':ak}{o:Oper}{r:eK}{t:TypeId}{a:Operand}(bK:o.op=.load t a)(he:dO P G R e h o=aa (r,e',h')):
 ∃x,r=.ret x/\e'=e/\h'=h/\aI P G h t (e.eval a)=aa x/\∀e2:Env,e2.eval a=e.eval a->∀h2,aI P G h2 t (e.eval a)=aa x->dO P G R e2 h2 o=aa (.ret x,e2,h2):=by
 unfold dO at he ⊢;simp only[bK,dD] at he ⊢;simp only[dh,cX] at he;obtain⟨⟨x,hh⟩,⟨y,hy,rfl,rfl⟩,rfl,rfl,rfl⟩:=he;refine⟨_,rfl,rfl,rfl,hy,λe2 h2 rm hl=>?_⟩;rw[h2,hl];rfl
def Xz{op}(h:jj op=.reads):∃t a,op=.load t a:=by
 cases op with
 |load t a=>exact⟨t,a,rfl⟩|buildSlice t n ps=>exfalso;simp only[jj] at h;split at h<;>cases h
 |call c=>
  obtain⟨callee,args,ts⟩:=c;cases callee with
  |builtin b=>cases b<;>simp[jj] at h
  |_=>simp[jj] at h
 |_=>simp[jj] at h
end
end Go.AE
end
section
namespace Go.AE
section
variable (P:Program) (G:Nat->Option (List AV)) (R:Rec) (ops:Array Oper)
def jD(i:Nat)(e:Env)(h:ak):Option (AV × Env × ak):=
 match ops[i]? with
 |none=>aq
 |some o=>
  match eY ops e o with
  |none=>aq
  |some av=>aa (.tuple [],e,h)
  |some ah=>
   match dO P G R e h o with
   |some (.ret x,e,h)=>aa (x,e,h)
   |_=>aq
def mA(i:Nat):Option Tmp:=(ops[i]?).bind (·.dst)
def oM(i:Nat):Class:=((ops[i]?).map λo=>jj o.op).getD .pure
noncomputable def lZ(e:Env)(h:ak)(i:Nat):Class:=if my P G R ops e h i=ah then .reads else oM ops i
def cL(e:Env)(h:ak)(k:Nat):Env × ak:=
 match cV P G R ops (bO k) e h with
 |some (_,e,h)=>(e,h)
 |none=>(e,h)
def tO(e:Env)(h:ak)(k:Nat):AV × Env:=
 match jD P G R ops k (cL P G R ops e h k).1 (cL P G R ops e h k).2 with
 |some (x,e,_)=>(x,e)
 |none=>(.bad,e)
def val(e:Env)(h:ak)(S:Nat->Bool):Nat->Nat->AV
 |0,t=>e.get t
 |k+1,t=>if S k=ah/\mA ops k=aa t then (tO P G R ops e h k).1 else val e h S k t
def Alike(e e2:Env)(o:Oper):Prop:=∀t∈o.looksAt ops,e.get t=e2.get t
end
section
variable {P:Program} {G:Nat->Option (List AV)} {R:Rec} {ops:Array Oper}
def pS{i:Nat}{rest:List Nat}{e e':Env}{h h':ak}:
 cV P G R ops (i::rest) e h=aa (.normal,e',h')↔∃x e1 h1,jD P G R ops i e h=aa (x,e1,h1)/\cV P G R ops rest (e1.put (mA ops i) x) h1=aa (.normal,e',h'):=by
 simp only[cV,jD,mA];cases ho:ops[i]? with
 |none=>simp|some o=>
  simp only[ph];cases hw:eY ops e o with
  |none=>simp|some b=>
   cases b with
   |false=>simp only[dA,cX];exact⟨λhq=>⟨_,_,_,⟨rfl,rfl,rfl⟩,hq⟩,λ⟨_,_,_,⟨a,b,c⟩,hq⟩=>by subst a;subst b;subst c;exact hq⟩
   |true=>
    simp only;cases bK:dO P G R e h o with
    |none=>simp|some q=>
     obtain⟨r,e1,h1⟩:=q;cases r with|panic x=>simp|ret x=>simp only[dA,cX];exact⟨λhq=>⟨_,_,_,⟨rfl,rfl,rfl⟩,hq⟩,λ⟨_,_,_,⟨a,b,c⟩,hq⟩=>by subst a;subst b;subst c;exact hq⟩
def Gp{l1 l2:List Nat}:∀{e e':Env} {h h':ak},
 cV P G R ops (l1++l2) e h=aa (.normal,e',h')↔∃e1 h1,cV P G R ops l1 e h=aa (.normal,e1,h1)/\cV P G R ops l2 e1 h1=aa (.normal,e',h'):=by
 induction l1 with
 |nil=>intro e e' h h';simp only[lV,cV,dA,cX,true_and];exact⟨λhq=>⟨_,_,⟨rfl,rfl⟩,hq⟩,λ⟨_,_,⟨a,b⟩,hq⟩=>by subst a;subst b;exact hq⟩
 |cons i l ih=>
  intro e e' h h';rw[kj,pS];constructor
  ·rintro⟨x,e1,h1,hs,hr⟩;obtain⟨e2,h2,ha,hb⟩:=ih.1 hr;exact⟨e2,h2,pS.2 ⟨x,e1,h1,hs,ha⟩,hb⟩
  ·rintro⟨e2,h2,ha,hb⟩;obtain⟨x,e1,h1,hs,hr⟩:=pS.1 ha;exact⟨x,e1,h1,hs,ih.2 ⟨e2,h2,hr,hb⟩⟩
def trace{e e':Env}{h h':ak}:∀{n:Nat},cV P G R ops (bO n) e h=aa (.normal,e',h')->
 (e',h')=cL P G R ops e h n/\(∀k,k<=n->cV P G R ops (bO k) e h=aa (.normal,(cL P G R ops e h k).1,(cL P G R ops e h k).2))/\
 ∀k,k<n->jD P G R ops k (cL P G R ops e h k).1 (cL P G R ops e h k).2=aa ((tO P G R ops e h k).1,(tO P G R ops e h k).2,(cL P G R ops e h (k+1)).2)/\
  (cL P G R ops e h (k+1)).1=(tO P G R ops e h k).2.put (mA ops k) (tO P G R ops e h k).1:=by
 intro n
 induction n generalizing e' h' with
 |zero=>
  intro hn;have h0:(e',h')=cL P G R ops e h 0:=by unfold cL;rw[hn]
  refine⟨h0,λk hk=>?_,λk hk=>absurd hk (rU k)⟩;have:k=0:=Ll.1 hk;subst this;rw[<-h0];exact hn
 |succ n ih=>
  intro hn;have h0:(e',h')=cL P G R ops e h (n+1):=by unfold cL;rw[hn]
  have De:=hn;rw[ob,Gp] at De;obtain⟨e1,h1,ha,hb⟩:=De;obtain⟨i1,i2,i3⟩:=ih ha;obtain⟨x,e2,h2,hs,hr⟩:=pS.1 hb;simp only[cV,dA,cX,true_and] at hr;refine⟨h0,λk hk=>?_,λk hk=>?_⟩
  ·rcases dI k (n+1) with aA|dM
   ·exact i2 k (Ab.1 aA)
   ·have:k=n+1:=Aa hk dM;subst this;rw[<-h0];exact hn
  ·rcases dI k n with aA|dM
   ·exact i3 k aA
   ·have:k=n:=Aa (Ab.1 hk) dM;subst this;have bZ:jD P G R ops k (cL P G R ops e h k).1 (cL P G R ops e h k).2=aa (x,e2,h2):=(by rw[<-i1];exact hs);have hx:tO P G R ops e h k=(x,e2):=(by unfold tO;rw[bZ]);rw[hx,<-h0,bZ];obtain⟨rfl,rfl⟩:=hr;exact⟨rfl,rfl⟩
def EZ{e e2:Env}{o:Oper}(h:Alike ops e e2 o):∀x∈o.op.operands,e.eval x=e2.eval x:=by
 intro x hx;cases x with|tmp t=>refine h t ?_;unfold Oper.looksAt;exact List.mem_append_left _ (List.mem_filterMap.2 ⟨.tmp t,by simpa using hx,rfl⟩)|_=>rfl
def yz{e e2:Env}{o:Oper}(h:Alike ops e e2 o):eY ops e o=eY ops e2 o:=by
 unfold eY;cases hg:o.guard with
 |none=>rfl|some gw=>
  obtain⟨j,want⟩:=gw;simp only;cases hd:(ops[j]?).bind (·.dst) with|none=>rfl|some d=>have:e.get d=e2.get d:=h d (by unfold Oper.looksAt;rw[hg];simp[hd]);simp only[this]
def Pq(e:Env)(d)(x)(t):(e.put d x).get t=if d=aa t then x else e.get t:=by
 cases d with|none=>simp[Env.put]|some d=>simp only[Env.put,Env.get,DH,dA]
def uN(e:Env)(d)(x):(e.put d x).defers=e.defers/\(e.put d x).cD=e.cD/\(e.put d x).round=e.round:=by cases d<;>exact⟨rfl,rfl,rfl⟩
def Qj{k:Nat}{e e1 e2:Env}{h h1:ak}{x:AV}(hs:jD P G R ops k e h=aa (x,e1,h1)):
 e1=e.with e1/\((∀o,ops[k]?=aa o->Alike ops e e2 o)->e2.defers=e.defers->e2.cD=e.cD->e2.round=e.round->jD P G R ops k e2 h=aa (x,e2.with e1,h1)):=by
 unfold jD at hs ⊢;cases ho:ops[k]? with
 |none=>rw[ho] at hs;cases hs
 |some o=>
  rw[ho] at hs;simp only at hs ⊢;cases hw:eY ops e o with
  |none=>rw[hw] at hs;cases hs
  |some b=>
   rw[hw] at hs;cases b with
   |false=>simp only[dA,cX] at hs;obtain⟨rfl,rfl,rfl⟩:=hs;refine⟨rfl,λdY hd hp hr=>?_⟩;rw[<-yz (dY o rfl),hw];have:e2.with e=e2:=(by cases e2;cases e;simp_all [Env.with]);simp only[this]
   |true=>
    simp only at hs;split at hs
    ·rename_i x' e' h' bK;simp only[dA,cX] at hs;obtain⟨rfl,rfl,rfl⟩:=hs;refine⟨akr bK,λdY hd hp hr=>?_⟩;rw[<-yz (dY o rfl),hw];simp only[akq (EZ (dY o rfl)) hd hp hr bK]
    ·cases hs
def Qk{k:Nat}{e e1:Env}{h h1:ak}{x:AV}(hc:oM ops k=.pure)(hs:jD P G R ops k e h=aa (x,e1,h1)):
 e1=e/\h1=h/\∀e2 h2,(∀o,ops[k]?=aa o->Alike ops e e2 o)->jD P G R ops k e2 h2=aa (x,e2,h2):=by
 unfold jD at hs ⊢;cases ho:ops[k]? with
 |none=>rw[ho] at hs;cases hs
 |some o=>
  rw[ho] at hs;simp only at hs ⊢;have hc:jj o.op=.pure:=by simpa [oM,ho] using hc
  cases hw:eY ops e o with
  |none=>rw[hw] at hs;cases hs
  |some b=>
   rw[hw] at hs;cases b with
   |false=>simp only[dA,cX] at hs;obtain⟨rfl,rfl,rfl⟩:=hs;refine⟨rfl,rfl,λe2 h2 dY=>?_⟩;rw[<-yz (dY o rfl),hw]
   |true=>
    simp only at hs;split at hs
    ·rename_i x' e' h' bK;simp only[dA,cX] at hs;obtain⟨rfl,rfl,rfl⟩:=hs;obtain⟨rfl,rfl,ec⟩:=alK hc bK;refine⟨rfl,rfl,λe2 h2 dY=>?_⟩;rw[<-yz (dY o rfl),hw];simp only[ec e2 (EZ (dY o rfl)) h2]
    ·cases hs
def Reads(P:Program)(G:Nat->Option (List AV))(R:Rec)(ops:Array Oper)(k:Nat)(e:Env)(x:AV)(h2:ak):Prop:=
 ∀o,ops[k]?=aa o->eY ops e o=aa ah->(∀t a,o.op=.load t a->aI P G h2 t (e.eval a)=aa x)/\(yG o.op=ah->dO P G R e h2 o=aa (.ret x,e,h2))
def YZ{k:Nat}{e e1:Env}{h h1:ak}{x:AV}(hc:oM ops k=.reads)(hs:jD P G R ops k e h=aa (x,e1,h1)):
 e1=e/\h1=h/\Reads P G R ops k e x h/\∀e2 h2,(∀o,ops[k]?=aa o->Alike ops e e2 o)->Reads P G R ops k e x h2->jD P G R ops k e2 h2=aa (x,e2,h2):=by
 unfold jD at hs ⊢;unfold Reads;cases ho:ops[k]? with
 |none=>rw[ho] at hs;cases hs
 |some o=>
  rw[ho] at hs;simp only at hs ⊢;have hc:jj o.op=.reads:=by simpa [oM,ho] using hc
  obtain⟨t,a,kD⟩:=Xz hc;cases hw:eY ops e o with
  |none=>rw[hw] at hs;cases hs
  |some b=>
   rw[hw] at hs;cases b with
   |false=>
    simp only[dA,cX] at hs;obtain⟨rfl,rfl,rfl⟩:=hs;refine⟨rfl,rfl,λo' iz VK=>?_,λe2 h2 dY _=>?_⟩
    ·injection iz with iz;subst iz;rw[hw] at VK;cases VK
    ·rw[<-yz (dY o rfl),hw]
   |true=>
    simp only at hs;split at hs
    ·rename_i x' e' h' bK;simp only[dA,cX] at hs;obtain⟨rfl,rfl,rfl⟩:=hs;obtain⟨y,hy,rfl,rfl,hl,ec⟩:=ajs kD bK;injection hy with hy;subst hy;refine⟨rfl,rfl,λo' iz _=>⟨λt' a' UZ=>?_,λgV=>?_⟩,λe2 h2 dY pN=>?_⟩
     ·injection iz with iz;subst iz;rw[kD] at UZ;injection UZ with h1 h2;subst h1;subst h2;exact hl
     ·injection iz with iz;subst iz;rw[kD] at gV;cases gV
     ·rw[<-yz (dY o rfl),hw];have hax:e2.eval a=e'.eval a:=(EZ (dY o rfl) a (by rw[kD];simp[Op.operands])).symm;simp only[ec e2 hax h2 ((pN o rfl hw).1 t a kD)]
    ·cases hs
def ady{e:Env}{h h2:ak}{o:Oper}{c:Call}{x:AV}(bK:o.op=.call c)(hc:lE P R e h c=aa (.ret x,h2)):dO P G R e h o=aa (.ret x,e,h2):=by
 have hb:∀b,c.callee≠ .builtin b:=by intro b hb;unfold lE at hc;rw[hb] at hc;cases hc
 obtain⟨callee,args,ts⟩:=c;unfold dO;cases callee with|builtin b=>exact absurd rfl (hb b)|value f=>simp only[bK,hc,eJ]|invoke r n=>simp only[bK,hc,eJ]
def adG{e e2:Env}{h:ak}{o:Oper}{x:AV}(bK:yG o.op=ah)(hz:∀z∈o.op.operands,e.eval z=e2.eval z)(ho:dO P G R e h o=aa (.ret x,e,h)):dO P G R e2 h o=aa (.ret x,e2,h):=by
 unfold yG at bK;split at bK
 ·cases bK
 ·cases bK
 ·rename_i c n1 n2 hc;have Od:∀z∈c.operands,e.eval z=e2.eval z:=λz hm=>hz z (by rw[hc];exact hm);obtain⟨callee,args,ts⟩:=c;have ha:args.toList.map e.eval=args.toList.map e2.eval:=zu λx hm=>Od x (Op.Wn hm);unfold dO at ho ⊢;cases callee with
  |builtin b=>
   cases b
   case recover=>exact absurd rfl (n1 _ _)
   case panic=>exact absurd rfl (n2 _ _)
   all_goals
    simp only[hc] at ho ⊢;rw[<-ha];simp only[dh] at ho ⊢;obtain⟨⟨y,h1⟩,q1,q2⟩:=ho;injection q2 with q2 q3;injection q3 with q3 q4;injection q2 with q2;subst q2;subst q4;exact⟨_,q1,rfl⟩
  |value f=>simp only[hc] at ho ⊢;rw[<-L0 (e:=e) (e2:=e2) Od];simp only[dh] at ho ⊢;obtain⟨⟨y,h1⟩,q1,q2⟩:=ho;injection q2 with q2 q3;injection q3 with q3 q4;subst q2;subst q4;exact⟨_,q1,rfl⟩
  |invoke r n=>simp only[hc] at ho ⊢;rw[<-L0 (e:=e) (e2:=e2) Od];simp only[dh] at ho ⊢;obtain⟨⟨y,h1⟩,q1,q2⟩:=ho;injection q2 with q2 q3;injection q3 with q3 q4;subst q2;subst q4;exact⟨_,q1,rfl⟩
 ·rename_i s d y hc;have hy:e.eval y=e2.eval y:=hz y (by rw[hc];simp[Op.operands]);unfold dO at ho ⊢;simp only[hc,dD] at ho ⊢;rw[<-hy];simp only[dh] at ho ⊢;obtain⟨⟨y,h1⟩,q1,q2⟩:=ho;injection q2 with q2 q3;injection q3 with q3 q4;injection q2 with q2;subst q2;subst q4;exact⟨_,q1,rfl⟩
 ·cases bK
def YX{k:Nat}{e e1:Env}{h h1:ak}{x y:AV}{o:Oper}(ho:ops[k]?=aa o)(bK:yG o.op=ah)(hc:dO P G R e h o=aa (.ret y,e,h))(hs:jD P G R ops k e h=aa (x,e1,h1)):
 e1=e/\h1=h/\(eY ops e o=aa ah->x=y)/\∀e2 h2,(∀o,ops[k]?=aa o->Alike ops e e2 o)->Reads P G R ops k e x h2->jD P G R ops k e2 h2=aa (x,e2,h2):=by
 unfold jD at hs ⊢;rw[ho] at hs;simp only[ho] at hs ⊢;cases hw:eY ops e o with
 |none=>rw[hw] at hs;cases hs
 |some b=>
  rw[hw] at hs;cases b with
  |false=>simp only[dA,cX] at hs;obtain⟨rfl,rfl,rfl⟩:=hs;refine⟨rfl,rfl,(λq=>nomatch q),λe2 h2 dY _=>?_⟩;rw[<-yz (dY o rfl),hw]
  |true=>simp only[hc] at hs;simp only[dA,cX] at hs;obtain⟨rfl,rfl,rfl⟩:=hs;refine⟨rfl,rfl,λ_=>rfl,λe2 h2 dY pN=>?_⟩;rw[<-yz (dY o rfl),hw];have h3:=(pN o ho hw).2 bK;have h4:=adG (e2:=e2) bK (λz hz=>EZ (dY o rfl) z hz) h3;simp only[h4]
end
end Go.AE
end
section
namespace Go.AE
section
variable {P:Program} {G:Nat->Option (List AV)} {R:Rec} {ops:Array Oper}
def Ord(b:Array Nat)(i j:Nat):Prop:=(b.getD j 0).testBit i=ah
structure Fits(P:Program)(G:Nat->Option (List AV))(R:Rec)(ops:Array Oper)(e:Env)(h:ak)(b:Array Nat):Prop where
 Ik:∀(j:Nat) (o:Oper),ops[j]?=aa o->∀ed∈o.after,Region.binds .any ed=ah->ed.on<j
 bits:∀(j i:Nat) (o:Oper),ops[j]?=aa o->i<ops.size->Ord b i j->∃ed∈o.after,Region.binds .any ed=ah/\(ed.on=i∨Ord b i ed.on)
 pair:∀i j:Nat,i<j->j<ops.size->Ord b i j∨xX ops i j=ah∨lj P G R ops e h i j=ah∨(oJ ops i j=ah/\(my P G R ops e h i=ah∨my P G R ops e h j=ah))
def xc{e:Env}{h:ak}(hf:l8 P G R ops e h=ah):Fits P G R ops e h (Region.before ops):=by
 unfold l8 at hf;simp only[bC,dU,fY,tQ] at hf;obtain⟨hb,hp⟩:=hf;unfold Al at hb;simp only[dU,fY] at hb;refine⟨λj o ho ed fE mQ=>?_,λj i o ho hi lJ=>?_,λi j lJ hj=>?_⟩
 ·have hj:j<ops.size:=(BN.1 ho).1;have:=hb j hj;simp only[ho,bC,Ej] at this;obtain⟨q,hq,rfl⟩:=ZG fE;have:=this.1 q hq;simpa [mQ] using this
 ·have hj:j<ops.size:=(BN.1 ho).1;have:=hb j hj;simp only[ho,bC,dU,fY] at this;have:=this.2 i hi;unfold Ord at lJ;rw[lJ] at this;simp only[Bool.not_true,Bool.false_or,Array.any_eq_true,bC,tQ] at this;obtain⟨q,hq,h1,h2⟩:=this;exact⟨o.after[q],ZF hq,h1,h2.imp (λh=>jw h) id⟩
 ·rcases hp j hj i lJ with((h|h)|h)|h
  ·exact .inl h
  ·exact .inr (.inl h)
  ·exact .inr (.inr (.inl h))
  ·exact .inr (.inr (.inr (by simpa using h)))
variable {e:Env} {h:ak} {b:Array Nat}
def Fits.apart(F:Fits P G R ops e h b){i j:Nat}(lJ:i<j)(hj:j<ops.size)(hn:¬Ord b i j){x y:Oper}(hx:ops[i]?=aa x)(hy:ops[j]?=aa y):
 x.apart ops y=ah/\y.apart ops x=ah:=by
 rcases F.pair i j lJ hj with h|h|h|⟨h,-⟩
 ·exact absurd h hn
 ·unfold xX at h;simp only[hx,hy,bC] at h;exact⟨h.1.2,h.2⟩
 ·unfold lj oJ at h;simp only[hx,hy,bC] at h;exact h.1
 ·unfold oJ at h;simp only[hx,hy,bC] at h;exact h
def At{i:Nat}{x:Oper}(hx:ops[i]?=some x):oM ops i=jj x.op:=by simp[oM,hx]
def Ig{i:Nat}(hi:lZ P G R ops e h i=.acts):oM ops i=.acts/\my P G R ops e h i=av:=by
 unfold lZ at hi;split at hi
 ·cases hi
 ·rename_i hc;exact⟨hi,by simpa using hc⟩
def Fits.acts(F:Fits P G R ops e h b){i j:Nat}(lJ:i<j)(hj:j<ops.size)(hi:lZ P G R ops e h i=.acts)(qm:lZ P G R ops e h j=.acts):Ord b i j:=by
 have hx:ops[i]?=aa ops[i]:=lQ (oE lJ hj);have hy:ops[j]?=aa ops[j]:=lQ hj;obtain⟨hi,ci⟩:=Ig hi;obtain⟨qm,cj⟩:=Ig qm;rw[At hx] at hi;rw[At hy] at qm;rcases F.pair i j lJ hj with h|h|h|⟨-,h⟩
 ·exact h
 ·unfold xX at h;simp only[hx,hy,bC] at h;rw[hi,qm] at h;simp[Jv] at h
 ·unfold lj at h;simp only[hx,hy,bC,eJ] at h;rw[hi,qm] at h;simp at h
 ·rw[ci,cj] at h;simp at h
def Fits.aqz(F:Fits P G R ops e h b){i j:Nat}(lJ:i<j)(hj:j<ops.size)(hn:¬Ord b i j)(hi:oM ops i=.reads)(ci:my P G R ops e h i=av)(qm:lZ P G R ops e h j=.acts):oX P G R ops e h i (j+1)=ah:=by
 have hx:ops[i]?=aa ops[i]:=lQ (oE lJ hj);have hy:ops[j]?=aa ops[j]:=lQ hj;obtain⟨qm,cj⟩:=Ig qm;rw[At hx] at hi;rw[At hy] at qm;rcases F.pair i j lJ hj with h|h|h|⟨-,h⟩
 ·exact absurd h hn
 ·unfold xX at h;simp only[hx,hy,bC] at h;rw[hi,qm] at h;simp[Jv] at h
 ·unfold lj at h;simp only[hx,hy,bC,eJ] at h;rw[hi,qm] at h;exact h.2
 ·rw[ci,cj] at h;simp at h
def Fits.aqA(F:Fits P G R ops e h b){i j:Nat}(lJ:i<j)(hj:j<ops.size)(hn:¬Ord b i j)(hi:lZ P G R ops e h i=.acts)(qm:oM ops j=.reads)(cj:my P G R ops e h j=av):oX P G R ops e h j i=ah:=by
 have hx:ops[i]?=aa ops[i]:=lQ (oE lJ hj);have hy:ops[j]?=aa ops[j]:=lQ hj;obtain⟨hi,ci⟩:=Ig hi;rw[At hx] at hi;rw[At hy] at qm;rcases F.pair i j lJ hj with h|h|h|⟨-,h⟩
 ·exact absurd h hn
 ·unfold xX at h;simp only[hx,hy,bC] at h;rw[hi,qm] at h;simp[Jv] at h
 ·unfold lj at h;simp only[hx,hy,bC,eJ] at h;rw[hi,qm] at h;exact h.2
 ·rw[ci,cj] at h;simp at h
def aqE{r m n:Nat}{e':Env}{h':ak}(N:cV P G R ops (bO n) e h=aa (.normal,e',h'))(hr:r<n)(hm:m<=n)(hs:oX P G R ops e h r m=ah)(hc:oM ops r=.reads):
 Reads P G R ops r (cL P G R ops e h r).1 (tO P G R ops e h r).1 (cL P G R ops e h m).2:=by
 obtain⟨-,tr,st⟩:=trace N;obtain⟨bZ,-⟩:=st r hr;obtain⟨-,-,pN,-⟩:=YZ hc bZ;intro o ho hw;refine⟨λt a kD=>?_,λdC=>?_⟩
 ·have hold:=(pN o ho hw).1 t a kD;unfold oX at hs;rw[ho,tr r (mJ hr),tr m hm] at hs;simp only[hw,kD] at hs;rw[hold] at hs;split at hs
  ·rename_i x y hx hy;injection hx with hx;subst hx;rw[P8 hs];exact hy
  ·cases hs
 ·obtain⟨t,a,kD⟩:=Xz (show jj o.op=.reads by rw[<-At ho];exact hc);rw[kD] at dC;exact absurd dC (by simp[yG])
def adD{k:Nat}:my P G R ops e h k=ah↔yH P G R ops e h k:=by unfold my;exact @decide_eq_true_iff _ (Classical.propDecidable _)
def SA{n k:Nat}{e':Env}{h':ak}(N:cV P G R ops (bO n) e h=aa (.normal,e',h'))(hn:n=ops.size)(hk:k<n)(hc:my P G R ops e h k=ah):
 ∃o x,ops[k]?=aa o/\yG o.op=ah/\∀m,m<=n->dO P G R (cL P G R ops e h k).1 (cL P G R ops e h m).2 o=aa (.ret x,(cL P G R ops e h k).1,(cL P G R ops e h m).2):=by
 obtain⟨-,tr,-⟩:=trace N;obtain⟨o,x,er,hr,ho,bK,e1,ec⟩:=adD.1 hc;refine⟨o,x,ho,bK,λm hm=>?_⟩;obtain⟨em,A7,e2,sn⟩:=ec m ag;have q1:=tr k (mJ hk);have q2:=tr m hm;rw[e1] at q1;rw[e2] at q2;injection q1 with q1;injection q2 with q2;have a1:er=(cL P G R ops e h k).1:=by have:=congrArg (λz=>z.2.1) q1;exact this
 have a2:A7=(cL P G R ops e h m).2:=by have:=congrArg (λz=>z.2.2) q2;exact this
 rw[<-a1,<-a2];exact sn
def Y2{k:Nat}{e':Env}{h':ak}(N:cV P G R ops (bO ops.size) e h=aa (.normal,e',h'))(hk:k<ops.size)(hc:lZ P G R ops e h k=.reads){e1:Env}{h1:ak}{x:AV}
 (hs:jD P G R ops k (cL P G R ops e h k).1 (cL P G R ops e h k).2=aa (x,e1,h1)):
 e1=(cL P G R ops e h k).1/\h1=(cL P G R ops e h k).2/\Reads P G R ops k (cL P G R ops e h k).1 x (cL P G R ops e h k).2/\
  ∀e2 h2,(∀o,ops[k]?=aa o->Alike ops (cL P G R ops e h k).1 e2 o)->Reads P G R ops k (cL P G R ops e h k).1 x h2->jD P G R ops k e2 h2=aa (x,e2,h2):=by
 unfold lZ at hc;split at hc
 ·rename_i ur;obtain⟨o,y,ho,bK,ec⟩:=SA N rfl hk ur;have h0:=ec k (mJ hk);obtain⟨a1,a2,a3,a4⟩:=YX ho bK h0 hs;refine⟨a1,a2,λo' iz hw=>?_,a4⟩;rw[ho] at iz;injection iz with iz;subst iz;refine⟨λt a kD=>(by rw[kD] at bK;cases bK),λ_=>?_⟩;rw[a3 hw];exact h0
 ·exact YZ hc hs
def Y6{k m:Nat}{e':Env}{h':ak}(N:cV P G R ops (bO ops.size) e h=aa (.normal,e',h'))(hk:k<ops.size)(hm:m<=ops.size)(hc:lZ P G R ops e h k=.reads)
 (hs:oM ops k=.reads->my P G R ops e h k=av->oX P G R ops e h k m=ah):
 Reads P G R ops k (cL P G R ops e h k).1 (tO P G R ops e h k).1 (cL P G R ops e h m).2:=by
 by_cases ur:my P G R ops e h k=ah
 ·obtain⟨-,tr,st⟩:=trace N;obtain⟨bZ,-⟩:=st k hk;obtain⟨o,y,ho,bK,ec⟩:=SA N rfl hk ur;obtain⟨-,-,a3,-⟩:=YX ho bK (ec k (mJ hk)) bZ;intro o' iz hw;rw[ho] at iz;injection iz with iz;subst iz;refine⟨λt a kD=>(by rw[kD] at bK;cases bK),λ_=>?_⟩;rw[a3 hw];exact ec m hm
 ·have ur:my P G R ops e h k=av:=by simpa using ur
  have hc:oM ops k=.reads:=by unfold lZ at hc;rw[ur] at hc;simpa using hc
  exact aqE N hk hm (hs hc ur) hc
def SS{k:Nat}(hc:lZ P G R ops e h k=.pure):oM ops k=.pure:=by
 unfold lZ at hc;split at hc
 ·cases hc
 ·exact hc
structure Inv(P:Program)(G:Nat->Option (List AV))(R:Rec)(ops:Array Oper)(e:Env)(h:ak)(b:Array Nat)(S:Nat->Bool)(e1:Env)(h1:ak):Prop where
 closed:∀i j,i<ops.size->j<ops.size->S j=ah->Ord b i j->S i=ah
 hD:∀t,e1.get t=val P G R ops e h S ops.size t
 round:e1.round=e.round
 mem:∃m,m<=ops.size/\e1.defers=(cL P G R ops e h m).1.defers/\e1.cD=(cL P G R ops e h m).1.cD/\h1=(cL P G R ops e h m).2/\
  (∀a,a<m->lZ P G R ops e h a=.acts->S a=ah)/\∀a,m<=a->a<ops.size->lZ P G R ops e h a=.acts->S a=av
variable {e':Env} {h':ak}
def Qt(N:cV P G R ops (bO ops.size) e h=aa (.normal,e',h'))(t:Nat):∀k,k<=ops.size->(cL P G R ops e h k).1.get t=val P G R ops e h (λ_=>ah) k t:=by
 obtain⟨-,tr,st⟩:=trace N;intro k
 induction k with
 |zero=>intro _;have:=tr 0 (cr _);simp only[aaJ,cV,dA,cX,true_and] at this;rw[<-this.1];rfl|succ k ih=>
  intro hk;obtain⟨hs,hn⟩:=st k hk;rw[hn,Pq];simp only[val,true_and];split
  ·rfl
  ·rw[<-ih (mJ hk)];have:=(Qj (e2:=e) hs).1;rw[this];rfl
def Zr(N:cV P G R ops (bO ops.size) e h=aa (.normal,e',h')):∀k,k<=ops.size->(cL P G R ops e h k).1.round=e.round:=by
 obtain⟨-,tr,st⟩:=trace N;intro k
 induction k with
 |zero=>intro _;have:=tr 0 (cr _);simp only[aaJ,cV,dA,cX,true_and] at this;rw[<-this.1]|succ k ih=>intro hk;obtain⟨hs,hn⟩:=st k hk;rw[hn,(uN _ _ _).2.2,(Qj (e2:=e) hs).1];exact ih (mJ hk)
def adH(N:cV P G R ops (bO ops.size) e h=aa (.normal,e',h')){k:Nat}(hk:k<ops.size)(hc:lZ P G R ops e h k≠ .acts):
 (cL P G R ops e h (k+1)).1.defers=(cL P G R ops e h k).1.defers/\(cL P G R ops e h (k+1)).1.cD=(cL P G R ops e h k).1.cD/\(cL P G R ops e h (k+1)).2=(cL P G R ops e h k).2:=by
 obtain⟨-,tr,st⟩:=trace N;obtain⟨hs,hn⟩:=st k hk;have key:(tO P G R ops e h k).2=(cL P G R ops e h k).1/\(cL P G R ops e h (k+1)).2=(cL P G R ops e h k).2:=by
  cases hq:lZ P G R ops e h k with
  |pure=>obtain⟨h1,h2,-⟩:=Qk (SS hq) hs;exact⟨h1,h2⟩
  |reads=>obtain⟨h1,h2,-⟩:=Y2 N hk hq hs;exact⟨h1,h2⟩
  |acts=>exact absurd hq hc
 rw[hn,(uN _ _ _).1,(uN _ _ _).2.1,key.1];exact⟨rfl,rfl,key.2⟩
def Kh(N:cV P G R ops (bO ops.size) e h=aa (.normal,e',h')){m:Nat}:∀k,m<=k->k<=ops.size->
 ((cL P G R ops e h m).1.defers=(cL P G R ops e h k).1.defers/\(cL P G R ops e h m).1.cD=(cL P G R ops e h k).1.cD/\(cL P G R ops e h m).2=(cL P G R ops e h k).2)∨
 (∃a,m<=a/\a<k/\lZ P G R ops e h a=.acts/\(cL P G R ops e h m).2=(cL P G R ops e h a).2)/\∃a,m<=a/\a<k/\lZ P G R ops e h a=.acts/\(cL P G R ops e h (a+1)).2=(cL P G R ops e h k).2:=by
 intro k
 induction k with
 |zero=>intro hm _;have:m=0:=Ll.1 hm;subst this;exact .inl ⟨rfl,rfl,rfl⟩|succ k ih=>
  intro hm hk;rcases dI k m with aA|dM
  ·have:m=k+1:=Aa hm aA;subst this;exact .inl ⟨rfl,rfl,rfl⟩
  ·have A3:k<=ops.size:=mJ hk;by_cases hc:lZ P G R ops e h k=.acts
   ·refine .inr ⟨?_,k,dM,Lm k,hc,rfl⟩;rcases ih dM A3 with h1|⟨⟨a,h1,h2,h3,h4⟩,-⟩
    ·exact⟨k,dM,Lm k,hc,h1.2.2⟩
    ·exact⟨a,h1,u6 h2,h3,h4⟩
   ·obtain⟨c1,c2,c3⟩:=adH N hk hc;rcases ih dM A3 with h1|⟨⟨a,h1,h2,h3,h4⟩,a2,g1,g2,g3,g4⟩
    ·exact .inl ⟨h1.1.trans c1.symm,h1.2.1.trans c2.symm,h1.2.2.trans c3.symm⟩
    ·exact .inr ⟨⟨a,h1,u6 h2,h3,h4⟩,a2,g1,u6 g2,g3,g4.trans c3.symm⟩
def val_congr{S S':Nat->Bool}{t:Nat}:∀k,(∀w,w<k->mA ops w=aa t->S w=S' w)->val P G R ops e h S k t=val P G R ops e h S' k t:=by
 intro k
 induction k with
 |zero=>intro _;rfl|succ k ih=>
  intro hw;simp only[val];rw[ih λw hwk hd=>hw w (u6 hwk) hd];by_cases hd:mA ops k=aa t
  ·rw[hw k (Lm k) hd]
  ·simp[hd]
def KC{S:Nat->Bool}{t k:Nat}:∀n,k<=n->(∀w,k<=w->w<n->mA ops w=aa t->S w=av)->val P G R ops e h S n t=val P G R ops e h S k t:=by
 intro n
 induction n with
 |zero=>intro hk _;rw[Ll.1 hk]|succ n ih=>
  intro hk hw;rcases dI n k with aA|dM
  ·rw[Aa hk aA]
  ·simp only[val];rw[aG λhq=>by have:=hw n dM (Lm n) hq.2;rw[hq.1] at this;cases this];exact ih dM λw h1 h2 h3=>hw w h1 (u6 h2) h3
def Au{i:Nat}{x:Oper}(hx:ops[i]?=aa x):mA ops i=x.dst:=by simp[mA,hx]
def Fits.asw(F:Fits P G R ops e h b){i j t:Nat}(lJ:i<j)(hj:j<ops.size)(hi:mA ops i=aa t)(xv:mA ops j=aa t):Ord b i j:=by refine Classical.byContradiction λhn=>?_;have hx:ops[i]?=aa ops[i]:=lQ (oE lJ hj);have hy:ops[j]?=aa ops[j]:=lQ hj;have ha:=(Oper.apart_spec (F.apart lJ hj hn hx hy).1).2.1;rw[Au hx] at hi;rw[Au hy] at xv;exact ha t hi xv
def Fits.looks(F:Fits P G R ops e h b){i j t:Nat}(lJ:i<j)(hj:j<ops.size){x y:Oper}(hx:ops[i]?=aa x)(hy:ops[j]?=aa y)
 (hl:(x.dst=aa t/\t∈y.looksAt ops)∨(y.dst=aa t/\t∈x.looksAt ops)):Ord b i j:=by
 refine Classical.byContradiction λhn=>?_;have ha:=Oper.apart_spec (F.apart lJ hj hn hx hy).1;rcases hl with⟨h1,h2⟩|⟨h1,h2⟩
 ·exact ha.1 t h1 h2
 ·exact ha.2.2 t h1 h2
def oh(ops:Array Oper)(S:Nat->Bool)(k:Nat):Prop:=∀o,ops[k]?=aa o->∀ed∈o.after,Region.binds .any ed=ah->S ed.on=ah
def dK(S:Nat->Bool)(k:Nat):Nat->Bool:=λj=>if j=k then ah else S j
def next(N:cV P G R ops (bO ops.size) e h=aa (.normal,e',h'))(F:Fits P G R ops e h b){S:Nat->Bool}{e1:Env}{h1:ak}(I:Inv P G R ops e h b S e1 h1){k:Nat}(hk:k<ops.size)
 (hu:S k=av) (hr:oh ops S k):∃x e2 h2,jD P G R ops k e1 h1=aa (x,e2,h2)/\Inv P G R ops e h b (dK S k) (e2.put (mA ops k) x) h2:=by
 obtain⟨-,tr,st⟩:=trace N;have ho:ops[k]?=aa ops[k]:=lQ hk;have ahead:∀i,i<ops.size->Ord b i k->S i=ah:=by
  intro i hi xr;obtain⟨ed,fE,mQ,hq⟩:=F.bits k i _ ho hi xr;have hs:=hr _ ho ed fE mQ;have aA:=F.Ik k _ ho ed fE mQ;rcases hq with rfl|hq
  ·exact hs
  ·exact I.closed i ed.on hi (oE aA hk) hs hq
 have alike:∀o,ops[k]?=aa o->Alike ops (cL P G R ops e h k).1 e1 o:=by
  intro o iz t ht;rw[ho] at iz;injection iz with iz;subst iz;rw[I.hD t,Qt N t k (mJ hk),KC (k:=k) ops.size (mJ hk)]
  ·refine val_congr k λw hw hd=>?_;have hx:ops[w]?=aa ops[w]:=lQ (oE hw hk);rw[Au hx] at hd;exact(ahead w (oE hw hk) (F.looks hw hk hx ho (.inl ⟨hd,ht⟩))).symm
  ·intro w Dd hw hd;rcases dI k w with aA|dM
   ·cases hq:S w with|false=>rfl|true=>have hx:ops[w]?=aa ops[w]:=lQ hw;rw[Au hx] at hd;have:=I.closed k w hk hw hq (F.looks aA hw ho hx (.inr ⟨hd,ht⟩));rw[hu] at this;cases this
   ·rw[Aa dM Dd,hu]
 obtain⟨hs,hn⟩:=st k hk;obtain⟨m,hm,hd,hp,hh,vz,pD⟩:=I.mem;have closed':∀i j,i<ops.size->j<ops.size->dK S k j=ah->Ord b i j->dK S k i=ah:=by
  intro i j hi hj N5 lJ;unfold dK at N5 ⊢;by_cases xr:i=k
  ·rw[aF xr]
  ·rw[aG xr];by_cases y8:j=k
   ·subst y8;exact ahead i hi lJ
   ·rw[aG y8] at N5;exact I.closed i j hi hj N5 lJ
 have slots':∀(e2:Env),(∀t,e2.get t=e1.get t)->∀t,(e2.put (mA ops k) (tO P G R ops e h k).1).get t=val P G R ops e h (dK S k) ops.size t:=by
  intro e2 eV t;rw[Pq];by_cases AU:mA ops k=aa t
  ·rw[aF AU,KC (k:=k+1) ops.size hk]
   ·simp[val,dK,AU]
   ·intro w Dd hw FC;have bH:w≠k:=λhq=>absurd Dd (by rw[hq];exact aa2 k);simp only[dK,aG bH];cases hq:S w with|false=>rfl|true=>have:=I.closed k w hk hw hq (F.asw Dd hw AU FC);rw[hu] at this;cases this
  ·rw[aG AU,eV,I.hD t];refine val_congr _ λw _ FC=>?_;have bH:w≠k:=λhq=>AU (hq ▸ FC);simp only[dK,aG bH]
 by_cases hc:lZ P G R ops e h k=.acts
 ·-- it acts
  have U3:m<=k:=by
   rcases dI k m with aA|dM
   ·have:=vz k aA hc;rw[hu] at this;cases this
   ·exact dM
  have same:=Kh N k U3 (mJ hk);have same:(cL P G R ops e h m).1.defers=(cL P G R ops e h k).1.defers/\(cL P G R ops e h m).1.cD=(cL P G R ops e h k).1.cD/\(cL P G R ops e h m).2=(cL P G R ops e h k).2:=by
   rcases same with h1|⟨⟨a,g1,g2,g3,-⟩,-⟩
   ·exact h1
   ·have h1:=pD a g1 (oE g2 hk) g3;rw[ahead a (oE g2 hk) (F.acts g2 hk g3 hc)] at h1;cases h1
  have nk:=(Qj (e2:=e1) hs).2 alike (hd.trans same.1) (hp.trans same.2.1) (by rw[I.round,Zr N k (mJ hk)]);rw[<-same.2.2,<-hh] at nk;refine⟨_,_,_,nk,closed',slots' _ (λt=>rfl),?_,k+1,hk,?_,?_,rfl,?_,?_⟩
  ·rw[(uN _ _ _).2.2];exact I.round
  ·rw[(uN _ _ _).1,hn,(uN _ _ _).1];rfl
  ·rw[(uN _ _ _).2.1,hn,(uN _ _ _).2.1];rfl
  ·intro a AO yX;unfold dK;by_cases hq:a=k
   ·rw[aF hq]
   ·rw[aG hq];have aA:a<k:=aaW (Ab.1 AO) hq;exact ahead a (oE aA hk) (F.acts aA hk yX hc)
  ·intro a A4 ha yX;have hq:a≠k:=λhq=>absurd A4 (by rw[hq];exact aa2 k);unfold dK;rw[aG hq];exact pD a (fe U3 (mJ A4)) ha yX
 ·-- it does not
  have mem':∀e2:Env,e2.defers=e1.defers->e2.cD=e1.cD->∃m,m<=ops.size/\e2.defers=(cL P G R ops e h m).1.defers/\e2.cD=(cL P G R ops e h m).1.cD/\h1=(cL P G R ops e h m).2/\
   (∀a,a<m->lZ P G R ops e h a=.acts->dK S k a=ah)/\∀a,m<=a->a<ops.size->lZ P G R ops e h a=.acts->dK S k a=av:=by
   intro e2 CR vw;refine⟨m,hm,CR.trans hd,vw.trans hp,hh,λa ham yX=>?_,λa IY ha yX=>?_⟩
   ·unfold dK;by_cases hq:a=k
    ·rw[aF hq]
    ·rw[aG hq];exact vz a ham yX
   ·have hq:a≠k:=λhq=>hc (hq ▸ yX);unfold dK;rw[aG hq];exact pD a IY ha yX
  have fin:∀x,x=(tO P G R ops e h k).1->jD P G R ops k e1 h1=aa (x,e1,h1)->∃x e2 h2,jD P G R ops k e1 h1=aa (x,e2,h2)/\Inv P G R ops e h b (dK S k) (e2.put (mA ops k) x) h2:=by intro x hx nk;subst hx;refine⟨_,_,_,nk,closed',slots' _ (λt=>rfl),?_,mem' _ (uN _ _ _).1 (uN _ _ _).2.1⟩;rw[(uN _ _ _).2.2];exact I.round
  cases dC:lZ P G R ops e h k with
  |acts=>exact absurd dC hc|pure=>obtain⟨-,-,ec⟩:=Qk (SS dC) hs;exact fin _ rfl (ec e1 h1 alike)
  |reads=>
   obtain⟨-,-,pN,ec⟩:=Y2 N hk dC hs;refine fin _ rfl (ec e1 h1 alike ?_);rw[hh];rcases dI k m with aA|dM
   ·rcases Kh N (m:=k) m (mJ aA) hm with hq|⟨-,a,g1,g2,g3,g4⟩
    ·rw[<-hq.2.2];exact pN
    ·have AO:k<a:=aaW g1 λhq=>hc (hq ▸ g3);have xk:a<ops.size:=mq g2 hm;have iG:¬Ord b k a:=λhq=>(by have:=I.closed k a hk xk (vz a g2 g3) hq;rw[hu] at this;cases this);rw[<-g4];exact Y6 N hk xk dC λq1 q2=>F.aqz AO xk iG q1 q2 g3
   ·rcases Kh N (m:=m) k dM (mJ hk) with hq|⟨⟨a,g1,g2,g3,g4⟩,-⟩
    ·rw[hq.2.2];exact pN
    ·have xk:a<ops.size:=oE g2 hk;have iG:¬Ord b a k:=λhq=>(by have h1:=ahead a xk hq;rw[pD a g1 xk g3] at h1;cases h1);rw[g4];exact Y6 N hk (mJ xk) dC λq1 q2=>F.aqA g2 hk iG g3 q1 q2
def Oi(N:cV P G R ops (bO ops.size) e h=aa (.normal,e',h')):Inv P G R ops e h b (λ_=>av) e h:=by
 have h0:cL P G R ops e h 0=(e,h):=by simp[cL,cV]
 refine⟨λ_ _ _ _ h=>absurd h bh,λt=>?_,rfl,0,cr _,by rw[h0],by rw[h0],by rw[h0],λa ha=>absurd ha (rU a),λ_ _ _ _=>rfl⟩;rw[KC (k:=0) ops.size (cr _) (λ_ _ _ _=>rfl)];rfl
structure oi(e e2:Env):Prop where
 hD:∀t,e.get t=e2.get t
 defers:e.defers=e2.defers
 cD:e.cD=e2.cD
 round:e.round=e2.round
def aiz(N:cV P G R ops (bO ops.size) e h=aa (.normal,e',h')){S:Nat->Bool}{e1:Env}{h1:ak}(I:Inv P G R ops e h b S e1 h1)(ec:∀i,i<ops.size->S i=ah):oi e1 e'/\h1=h':=by
 obtain⟨t0,tr,st⟩:=trace N;have he:e'=(cL P G R ops e h ops.size).1:=by rw[<-t0]
 have hh:h'=(cL P G R ops e h ops.size).2:=by rw[<-t0]
 obtain⟨m,hm,hd,hp,oP,vz,pD⟩:=I.mem;have same:=Kh N ops.size hm (aJ _);have same:(cL P G R ops e h m).1.defers=(cL P G R ops e h ops.size).1.defers/\(cL P G R ops e h m).1.cD=(cL P G R ops e h ops.size).1.cD/\(cL P G R ops e h m).2=(cL P G R ops e h ops.size).2:=by
  rcases same with h1|⟨⟨a,g1,g2,g3,-⟩,-⟩
  ·exact h1
  ·have h1:=pD a g1 g2 g3;rw[ec a g2] at h1;cases h1
 refine⟨⟨λt=>?_,?_,?_,?_⟩,?_⟩
 ·rw[I.hD t,he,Qt N t ops.size (aJ _)];exact val_congr _ λw hw _=>ec w hw
 ·rw[hd,same.1,he]
 ·rw[hp,same.2.1,he]
 ·rw[I.round,he,Zr N ops.size (aJ _)]
 ·rw[oP,same.2.2,hh]
def aeN{α:Type}{p q}{a}:∀{l:List α},(∀x∈l,q x=true->p x=true)->a∈l->p a=true->q a=false->l.countP q<l.countP p:=by
 intro l
 induction l with
 |nil=>intro _ ha;cases ha
 |cons x l ih=>
  intro hm ha hp hq;have eg:l.countP q<=l.countP p:=List.countP_mono_left λy hy=>hm y (fi _ hy);rcases gO.1 ha with rfl|ha
  ·rw[aan (by simp[hq]),Q5 hp];exact Nat.lt_succ_of_le eg
  ·have:=ih (λy hy=>hm y (fi _ hy)) ha hp hq;by_cases NU:q x=ah
   ·rw[Q5 NU,Q5 (hm x fR NU)];exact Nat.succ_lt_succ this
   ·rw[aan NU];exact mq this (by rw[List.countP_cons];exact Nat.le_add_right _ _)
def nD(ops:Array Oper):(Nat->Bool)->List Nat->Prop
 |S,[]=>∀i,i<ops.size->S i=ah
 |S,k::L=>k<ops.size/\S k=av/\oh ops S k/\nD ops (dK S k) L
def OF(N:cV P G R ops (bO ops.size) e h=aa (.normal,e',h'))(F:Fits P G R ops e h b):∀(L:List Nat) (S:Nat->Bool) (e1:Env) (h1:ak),Inv P G R ops e h b S e1 h1->nD ops S L->
 ∃e2,cV P G R ops L e1 h1=aa (.normal,e2,h')/\oi e2 e':=by
 intro L
 induction L with
 |nil=>intro S e1 h1 I hL;obtain⟨hs,rfl⟩:=aiz N I hL;exact⟨e1,by simp[cV],hs⟩
 |cons k L ih=>
  intro S e1 h1 I hL;obtain⟨hk,hu,hr,hL⟩:=hL;obtain⟨x,e2,h2,hs,I'⟩:=next N F I hk hu hr
  obtain⟨e3,nk,iT⟩:=ih _ _ _ I' hL;exact⟨e3,pS.2 ⟨x,e2,h2,hs,nk⟩,iT⟩
def yj(ops:Array Oper):Prop:=∀(j:Nat) (o:Oper),ops[j]?=aa o->∀ed∈o.after,Region.binds .any ed=ah->ed.on<j
def aji(hB:yj ops):∀(fuel t:Nat) (iJ:Array Bool),iJ.size=ops.size->
 (bO ops.size).countP (λj=> !iJ.getD j av)<=fuel->nD ops (λj=>iJ.getD j av) (Region.linearise.go .any ops fuel t iJ []):=by
 intro fuel
 induction fuel with
 |zero=>
  intro t iJ dH MX;have ec:∀i,i<ops.size->iJ.getD i av=ah:=by intro i hi;have:=List.countP_eq_zero.1 (Ll.1 MX) i (fY.2 hi);simpa using this
  simp only[Region.linearise.go,aaL];exact ec
 |succ fuel ih=>
  intro t iJ dH MX;have UO:∀i,i<ops.size->iJ.getD i ah=iJ.getD i av:=by intro i hi;have:i<iJ.size:=(by omega);simp[this]
  simp only[Region.linearise.go];change nD ops _ (match (Region.ready .any ops iJ)[t%(Region.ready .any ops iJ).length]? with
   |some i=>Region.linearise.go .any ops fuel (t/(Region.ready .any ops iJ).length) (iJ.setIfInBounds i ah) [i]
   |none=>[].reverse)
  have ready_of:∀i,i∈Region.ready .any ops iJ↔i<ops.size/\iJ.getD i av=av/\oh ops (λj=>iJ.getD j av) i:=by
   intro i;unfold Region.ready;rw[tS,fY];constructor
   ·rintro⟨hi,hq⟩;rw[bC] at hq;obtain⟨rz,qs⟩:=hq;rw[UO i hi] at rz;refine⟨hi,by simpa using rz,λo ho ed fE mQ=>?_⟩;rw[ho] at qs;simp only[eJ,HN,Ej] at qs;obtain⟨q,hq,rfl⟩:=ZG fE;have:=qs q hq;simpa [mQ] using this
   ·rintro⟨hi,hq,hr⟩;refine⟨hi,?_⟩;rw[bC];refine⟨by rw[UO i hi];simp[hq],?_⟩;have ho:ops[i]?=aa ops[i]:=lQ hi;rw[ho];simp only[eJ,HN,Ej];intro q hq;cases hb:Region.binds .any ops[i].after[q] with|false=>rfl|true=>simpa using hr _ ho _ (ZF hq) hb
  cases hi:(Region.ready .any ops iJ)[t%(Region.ready .any ops iJ).length]? with
  |none=>
   have ov:Region.ready .any ops iJ=[]:=by
    cases hr:Region.ready .any ops iJ with|nil=>rfl|cons x xs=>rw[hr] at hi;have aA:t%(x::xs).length<(x::xs).length:=Nat.mod_lt _ bh;simp at hi;simp at aA;omega
   have ec:∀i,i<ops.size->iJ.getD i av=ah:=by
    intro i
    induction i using Nat.strongRecOn with
    |_ i ihi=>
     intro hi;cases hq:iJ.getD i av with|true=>rfl|false=>have:i∈Region.ready .any ops iJ:=(ready_of i).2 ⟨hi,hq,λo ho ed fE mQ=>by have aA:=hB i o ho ed fE mQ;exact ihi ed.on aA (oE aA hi)⟩;rw[ov] at this;cases this
   simp only[aaL];exact ec
  |some i=>
   simp only[];have oP:=(ready_of i).1 (de hi);obtain⟨iu,Bh,pN⟩:=oP;have Na:(λj=>(iJ.setIfInBounds i ah).getD j av)=dK (λj=>iJ.getD j av) i:=by
    funext j;unfold dK;have cH:i<iJ.size:=(by omega);by_cases hq:j=i
    ·subst hq;rw[aF rfl];simp[KM,cH]
    ·rw[aG hq];simp[KM,Ne.symm hq]
   have nk:=ih (t/(Region.ready .any ops iJ).length) (iJ.setIfInBounds i ah) (by simpa using dH) (by
    refine Ab.1 (mq (aeN (a:=i) (p:=λj=> !iJ.getD j av) ?_ (fY.2 iu) (by simp only[Bh];rfl) ?_) MX)
    ·intro j _ hj;have this:(iJ.setIfInBounds i ah).getD j av=dK (λj=>iJ.getD j av) i j:=congrFun Na j;rw[this] at hj;unfold dK at hj;split at hj
     ·cases hj
     ·exact hj
    ·have this:(iJ.setIfInBounds i ah).getD i av=dK (λj=>iJ.getD j av) i i:=congrFun Na i;rw[this];simp[dK])
   rw[linearise_go_acc,List.reverse_singleton,List.singleton_append];refine⟨iu,Bh,pN,?_⟩;rw[<-Na];exact nk
def amo(n):(λj=>(BQ n av).getD j av)=λ_=>av:=by funext j;rw[Array.getD_eq_getD_getElem?,Array.getElem?_replicate];split<;>rfl
def Wf(hB:yj ops)(t:Nat):nD ops (λ_=>av) (Region.linearise .any ops t):=by unfold Region.linearise;have:=aji hB ops.size t (BQ ops.size av) bh (fe List.countP_le_length bh);rw[amo] at this;exact this
def Tx{e:Env}{h:ak}(hf:l8 P G R ops e h=ah):yj ops:=λj o ho ed fE hb=>(xc hf).Ik j o ho ed fE hb
def afj(N:cV P G R ops (bO ops.size) e h=aa (.normal,e',h'))(hf:l8 P G R ops e h=ah)(t:Nat):
 ∃e2,cV P G R ops (Region.linearise .any ops t) e h=aa (.normal,e2,h')/\oi e2 e':=
 OF N (xc hf) _ _ _ _ (Oi N) (Wf (Tx hf) t)
end
end Go.AE
end
section
namespace Go.AE
open Go.RowKit (Below)
structure aS.asS(K K':aS):Prop where
 base:K'.base=K.base
 ic:∀g j c,K.ic g j=aa c->K'.ic g j=aa c
 β:∀b g:Nat,K.β[b]?=aa g->K'.β[b]?=aa g
 γ:∀l g:Nat,K.γ[l]?=aa g->K'.γ[l]?=aa g
 tn:K.tn<=K'.tn
 tk:∀t,t<K.tn->K'.tk t=K.tk t
def aS.un(K:aS)(r:Nat):aS:={K with md:=K.md.filter (· !=r)}
def vf.un{K}{r}{k}{g off sz n aB}(h:vf K k g off sz n aB):vf (K.un r) k g off sz n aB:=h
mutual
def aT.un{K:aS}{r:Nat}:∀{x:AV} {c:Value},aT K x c->aT (K.un r) x c
 |_,_,.bad c=>.bad c
 |_,_,.v x hx=>.v x hx
 |_,_,.nil sz=>.nil sz
 |_,_,.jb sz a=>.jb sz a
 |_,_,.list k sz es g off n aB cells hn hr hv hc ht ha=>.list k sz es g off n aB cells hn hr (aM.un hv) hc ht ha
 |_,_,.arr b g off len aB fa hY hb hl hc ho hr=>.arr b g off len aB fa hY hb hl hc ho hr
 |_,_,.agg cs vs hv=>.agg cs vs (aM.un hv)
 |_,_,.tuple cs vs hv=>.tuple cs vs (aM.un hv)
 |_,_,.box b g off hb=>.box b g off hb
 |_,_,.eD g off=>.eD g off
 |_,_,.elem sz es i off g o p cells hr hv hc hi hp ha=>.elem sz es i off g o p cells hr (aM.un hv) hc hi hp ha
 |_,_,.func fn first aB fs cs h1 h2=>.func fn first aB fs cs (aM.un h1) (aM.un h2)
 |_,_,.yield l g hl=>.yield l g hl
 |_,_,.iface t x c hx=>.iface t x c (aT.un hx)
def aM.un{K:aS}{r:Nat}:∀{xs:List AV} {cs:List Value},aM K xs cs->aM (K.un r) xs cs
 |_,_,.nil=>.nil
 |_,_,.cons x c xs cs hx hs=>.cons x c xs cs (aT.un hx) (aM.un hs)
end
def pZ.un{K}{r}{ds cds ms}(h:pZ K ds cds ms)(hr:r∉ms):pZ (K.un r) ds cds ms:=by
 induction h with
 |nil=>exact .nil|call g args vs aB ds cds ms hv _ ih=>exact .call g args vs aB ds cds ms (aM.un hv) (ih hr)|mark r' ds cds ms fG hn _ ih=>have bH:r'≠r:=λhq=>hr (hq ▸ fR);exact .mark r' ds cds ms (by unfold aS.un;exact tS.2 ⟨fG,by simpa using bH⟩) hn (ih λhq=>hr (fi _ hq))
def pZ.sub{K}{ds cds ms}(h:pZ K ds cds ms):∀r∈ms,r∈K.md:=by
 induction h with
 |nil=>intro r hr;cases hr
 |call g args vs aB ds cds ms hv _ ih=>exact ih|mark r' ds cds ms fG hn _ ih=>
  intro r hr;rcases gO.1 hr with rfl|hr
  ·exact fG
  ·exact ih r hr
def CS.un{K}{r}{kind base p cs}(h:CS K kind base p cs):CS (K.un r) kind base p cs:=by
 cases h with|normal h=>exact .normal h|ret c0 rest hk hb hm=>exact .ret c0 rest hk hb hm|cD c0 rest x v r hk hb hx=>exact .cD c0 rest x v r hk hb (aT.un hx)
def aiZ{K K':aS}{r}(le:K.Le K')(hr:r∉K.md):K.Le (K'.un r):=
 ⟨le.base,le.ic,le.β,le.γ,le.tn,le.tk,λr' fG=>by unfold aS.un;exact tS.2 ⟨le.md r' fG,by have:r'≠r:=λhq=>hr (hq ▸ fG);simpa using this⟩,le.lb,le.new⟩
section
variable {K:aS} {G:Nat->Option (List AV)} {ok:FuncId->Nat->Code->Bool} {w0 w:World} {h:ak}
def Xs{g:Nat}{o:Obj}(hg:g<w.heap.size):sX w (w.putObj g o) g o:=
 ⟨rfl,rfl,rfl,World.putObj_size,λ_ hk=>World.putObj_heap_other hk,World.putObj_heap_same hg⟩
def bN.drop(s:bN K G ok w0 h w){r:Nat}(hr:r∈K.md)(o:Obj)(ho:∀cells e f,o≠ .cells cells e f):bN (K.un r) G ok w0 h (w.putObj r o):=by
 obtain⟨hb,hm⟩:=s.md r hr;have aA:=nS hm;have c:=Xs (o:=o) aA;have nj:∀{g:Nat} {cells:Array Value} {e:TypeId} {f:Nat × Nat},w.heap[g]?=aa (.cells cells e f)->g≠r:=by rintro g cells e f hg rfl;rw[hm] at hg;cases hg
 refine⟨s.cU.trans (c.below hb),by rw[c.size];exact s.size,λg j x hx=>?_,λg cs hg=>?_,s.ki,s.o7,λb g cs gU hc=>?_,s.nA,s.pY,λl g rr hl lK=>?_,s.tn,λt ht=>?_,s.oZ,λr' fG=>?_,s.all⟩
 ·have pF:=s.ic g j x hx;have bH:g≠r:=by rintro rfl;simp[World.cell?,hm] at pF
  rw[<-pF];exact World.cell?_of_block (w:=w) (c.other g bH)
 ·obtain⟨cells,h1,h2⟩:=s.eD g cs hg;exact⟨cells,aM.un h1,h2⟩
 ·obtain⟨h1,h2,ha,cells,e,h3,h4⟩:=s.box b g cs gU hc;exact⟨h1,h2,ha,cells,e,(c.other g (nj h3)).trans h3,aM.un h4.1,h4.2⟩
 ·obtain⟨h1,fn,tmps,d,h2,h3,h4⟩:=s.loop l g rr hl lK;have bH:g≠r:=by rintro rfl;rw[hm] at h2;cases h2
  exact⟨h1,fn,tmps,d,(c.other g bH).trans h2,λt=>aT.un (h3 t),h4⟩
 ·obtain⟨h1,h2,h3,cells,e,fz,h4,h5,h6⟩:=s.tok t ht;refine⟨h1,h2,h3,cells,e,fz,(c.other _ (nj h4)).trans h4,h5,λj hj hl=>?_⟩;rw[<-h6 j hj hl];exact World.frozen?_of_block (w:=w) (c.other _ (nj h4))
 ·obtain⟨h1,h2⟩:=tS.1 fG;have bH:r'≠r:=by simpa using h2
  obtain⟨h3,h4⟩:=s.md r' h1;exact⟨h3,(c.other r' bH).trans h4⟩
def aS.mark(K:aS)(r:Nat):aS:={K with md:=r::K.md}
def aS.V9(K:aS)(r):K.Le (K.mark r):=
 ⟨rfl,λ_ _ _ h=>h,λ_ _ h=>h,λ_ _ h=>h,aJ _,λ_ _=>rfl,λ_ h=>fi _ h,λ_ _=>rfl,λ_ _ _ h=>.inl h⟩
def bN.aj3(s:bN K G ok w0 h w):bN (K.mark w.heap.size) G ok w0 h (w.alloc (.deferred (aa []))):=by
 have le:=K.V9 w.heap.size;have p:=s.push (.deferred (aa []));refine⟨p.cU,p.size,p.ic,λg cs hg=>?_,p.ki,p.o7,λb g cs hb hc=>?_,p.nA,p.pY,λl g r hl hr=>?_,p.tn,p.tok,p.oZ,λr hr=>?_,s.all⟩
 ·obtain⟨cells,h1,h2⟩:=s.eD g cs hg;exact⟨cells,h1.mono le,h2⟩
 ·obtain⟨h1,h2,ha,cells,e,h3,h4⟩:=p.box b g cs hb hc;exact⟨h1,h2,ha,cells,e,h3,h4.mono le (aP.1 hb).1⟩
 ·obtain⟨h1,fn,tmps,d,h2,h3,h4⟩:=p.loop l g r hl hr;exact⟨h1,fn,tmps,d,h2,h3.mono le,h4⟩
 ·rcases gO.1 hr with rfl|hr
  ·exact⟨s.size,World.alloc_heap_new w _⟩
  ·exact p.md r hr
def aS.loop(K:aS)(g:Nat):aS:={K with γ:=K.γ++[g]}
def aS.Ox(K:aS)(g):K.Le (K.loop g):=
 ⟨rfl,λ_ _ _ h=>h,λ_ _ h=>h,λ_ _ h=>uh h,aJ _,λ_ _=>rfl,λ_ h=>h,λ_ _=>rfl,λ_ _ _ h=>.inl h⟩
def bN.Wx(s:bN K G ok w0 h w){r:ij}{fn:FuncId}{tmps:Array Value}(d:Nat)(hs:lX K r.tmps tmps)(h1:ok fn tmps.size r.assign=ah)(h2:ok fn tmps.size r.body=ah)(h3:∀p∈r.params.toList,p<tmps.size):
 bN (K.loop w.heap.size) G ok w0 {h with loops:=h.loops++[r]} (w.alloc (.loop {state:=r.state,pending:=r.pending,fn,tmps,params:=r.params,assign:=r.assign,body:=r.body,defers:=d}))/\
 (K.loop w.heap.size).γ[h.loops.length]?=aa w.heap.size:=by
 have le:=K.Ox w.heap.size;have p:=s.push (.loop {state:=r.state,pending:=r.pending,fn,tmps,params:=r.params,assign:=r.assign,body:=r.body,defers:=d});have kK:(K.loop w.heap.size).γ[h.loops.length]?=aa w.heap.size:=by simp[aS.loop,<-s.nA]
 have aA:∀{l g:Nat},K.γ[l]?=aa g->g<w.heap.size:=λ{l g} hl=>by
  have eR:l<h.loops.length:=by rw[<-s.nA];exact(aP.1 hl).1
  obtain⟨_,_,_,_,h3,_⟩:=s.loop l g _ hl (aO eR);exact nS h3
 refine⟨⟨p.cU,p.size,p.ic,λg cs hg=>?_,p.ki,p.o7,λb g cs hb hc=>?_,by simp[aS.loop,s.nA],λl l' g hl rq=>?_,λl g r' hl hr=>?_,p.tn,p.tok,p.oZ,p.md,s.all⟩,kK⟩
 ·obtain⟨cells,h1,h2⟩:=s.eD g cs hg;exact⟨cells,h1.mono le,h2⟩
 ·obtain⟨h1,h2,ha,cells,e,h3,h4⟩:=p.box b g cs hb hc;exact⟨h1,h2,ha,cells,e,h3,h4.mono le (aP.1 hb).1⟩
 ·rcases ri hl with hb|⟨rfl,rfl⟩<;>rcases ri rq with gU|⟨rfl,h2⟩
  ·exact s.pY _ _ _ hb gU
  ·have:=aA hb;omega
  ·have:=aA gU;omega
  ·rfl
 ·rcases ri hl with hl|⟨rfl,rfl⟩
  ·rcases ri hr with hr|⟨rfl,rfl⟩
   ·obtain⟨h1,fn',tmps',d',h2,h3,h4⟩:=p.loop l g r' hl hr;exact⟨h1,fn',tmps',d',h2,h3.mono le,h4⟩
   ·have:h.loops.length<K.γ.length:=(aP.1 hl).1;have:=s.nA;omega
  ·have:r'=r:=(by rw[s.nA] at hr;simp at hr;exact hr.symm);subst this;exact⟨s.size,fn,tmps,d,World.alloc_heap_new w _,hs.mono le,h1,h2,h3⟩
def bN.eW(s:bN K G ok w0 h w){l g:Nat}{r:ij}(hl:K.γ[l]?=aa g)(hr:h.loops[l]?=aa r)(st:LoopState)(pe:Option Code):
 ∃m:Loop,w.heap[g]?=aa (.loop m)/\m.state=r.state/\m.pending=r.pending/\m.params=r.params/\m.assign=r.assign/\m.body=r.body/\lX K r.tmps m.tmps/\
  ok m.fn m.tmps.size r.assign=ah/\ok m.fn m.tmps.size r.body=ah/\(∀p∈r.params.toList,p<m.tmps.size)/\
  bN K G ok w0 {h with loops:=h.loops.set l {r with state:=st,pending:=pe}} (w.putObj g (.loop {m with state:=st,pending:=pe})):=by
 obtain⟨k1,fn,tmps,d,k2,k3,k4,k5,k6⟩:=s.loop l g r hl hr;have eR:l<h.loops.length:=(aP.1 hr).1;refine⟨_,k2,rfl,rfl,rfl,rfl,rfl,k3,k4,k5,k6,?_⟩;have c:=Xs (o:=.loop {state:=st,pending:=pe,fn,tmps,params:=r.params,assign:=r.assign,body:=r.body,defers:=d}) (nS k2);have nj:∀{g':Nat} {cells:Array Value} {e:TypeId} {f:Nat × Nat},w.heap[g']?=aa (.cells cells e f)->g'≠g:=by rintro g' cells e f hg rfl;rw[k2] at hg;cases hg
 refine⟨s.cU.trans (c.below k1),by rw[c.size];exact s.size,λg' j x hx=>?_,s.eD,s.ki,s.o7,λb g' cs gU hc=>?_,by simp[s.nA],s.pY,λl' g' rr rq lK=>?_,s.tn,λt ht=>?_,s.oZ,λr' fG=>?_,s.all⟩
 ·have pF:=s.ic g' j x hx;have bH:g'≠g:=by rintro rfl;simp[World.cell?,k2] at pF
  rw[<-pF];exact World.cell?_of_block (w:=w) (c.other g' bH)
 ·obtain⟨h1,h2,ha,cells,e,h3,h4⟩:=s.box b g' cs gU hc;exact⟨h1,h2,ha,cells,e,(c.other g' (nj h3)).trans h3,h4⟩
 ·simp only[lR] at lK;split at lK
  ·rename_i lI;subst lI;injection lK with lK;subst lK;rw[hl] at rq;injection rq with rq;subst rq;exact⟨k1,fn,tmps,d,c.this,k3,k4,k5,k6⟩
  ·rename_i bH;have iF:g'≠g:=(by rintro rfl;exact bH (s.pY _ _ _ hl rq));obtain⟨h1,fn',tmps',d',h2,h3,h4⟩:=s.loop l' g' rr rq lK;exact⟨h1,fn',tmps',d',(c.other g' iF).trans h2,h3,h4⟩
 ·obtain⟨h1,h2,h3,cells,e,fz,h4,h5,h6⟩:=s.tok t ht;refine⟨h1,h2,h3,cells,e,fz,(c.other _ (nj h4)).trans h4,h5,λj hj hl=>?_⟩;rw[<-h6 j hj hl];exact World.frozen?_of_block (w:=w) (c.other _ (nj h4))
 ·obtain⟨h1,h2⟩:=s.md r' fG;have bH:r'≠g:=by rintro rfl;rw[k2] at h2;cases h2
  exact⟨h1,(c.other r' bH).trans h2⟩
end
end Go.AE
end
