/-
  The engine, part 1: an evaluator of the model's Code over values in which a slice is a list. No claim is made here; part 2 and on show that what it gives the machine does.
-/
import Derived.AtR
import Derived.Recover
import Derived.Below
import Derived.Orders
import Derived.Laws.AppendOwn
import Derived.Laws.Cells
import Derived.Laws.Entries
import Derived.Laws.MakeOwn
import Derived.Laws.Strings
import Derived.Laws.Append
import Derived.Lib.AppendZeros
import Derived.Defers
import Derived.RangeFuncRecord
open True renaming intro->aY
open Bool renaming true->ah,false->aB,false_eq_true->kj,and_eq_true->bI,not_eq_true'->At,not_false->Au,or_eq_true->v8
open Go renaming Value->aT,TypeId->aP,Program->bL,FuncId->bq,Operand->bU,World->cG,Frame->fF
open Option renaming some->aa,none->av,map_eq_some_iff->dN,bind_eq_some_iff->AM,isSome_iff_exists->aeA,getD_some->Kk,map->EA,isNone_some->Kl,map_some->ft,some.injEq->eg,bind_some->qB
open Nat renaming beq->kK,min->pZ,le_refl->aL,le_trans->fG,lt_of_lt_of_le->nE,lt_or_ge->ez,add_mul->gZ,add_zero->Cf,mul_le_mul_right->pg,zero_add->qA,mul_eq_zero->aep,zero_mul->Hj,not_lt_zero->ud,reducePow->aez,zero_le->cD,sub_mul->On,mul_pos->Oj,pos_of_ne_zero->aev,one_ne_zero->Ok,mul_one->ph,eq_of_beq_eq_true->lD,le_zero->Of,lt_succ_iff->Ch,le_antisymm->Cg,lt_trans->qy,le_of_lt->nY,lt_succ_self->Og,lt_succ_of_lt->xD,not_succ_le_self->aet,lt_of_le_of_ne->aen
open List renaming replicate->br,range->bO,getElem?_eq_some_iff->aW,getElem?_eq_getElem->aU,getElem?_take->o7,getElem?_drop->pX,getElem?_set->mW,length_take->fm,getElem?_append_left->sY,take_of_length_le->gK,flatten_cons->pW,drop_append->Eu,drop_of_length_le->rh,take_append->Kg,length_append->dM,length_cons->jd,set_eq_take_append_cons_drop->Cd,all_eq_true->eK,mem_append->xA,mem_of_mem_take->pY,mem_of_mem_drop->N6,length_drop->iC,ext_getElem?->rW,mem_of_getElem?->dy,foldl_cons->v9,map_cons->eL,map_map->Ca,getElem?_toArray->jI,flatten_append->rX,map_append->mY,flatten_nil->Uu,append_nil->jC,mem_replicate->Ux,take_nil->aeg,drop_nil->adR,extract_eq_take_drop->adS,mem_map->kC,length_map->bF,take_append_of_le_length->Kh,cons_append->lO,nil_append->mh,range_succ->nD,mem_range->gf,getElem?_cons_zero->lu,getElem?_cons_succ->qw,size_toArray->aef,all_append->BZ,eq_of_mem_replicate->Kb,length_replicate->mX,mem_cons_of_mem->fM,append_assoc->ua,getElem?_append_right->AL,mem_cons_self->gq,toArray_inj->Ob,map_congr_left->Kf,range_zero->aea,mem_cons->iU,countP_cons_of_neg->adO,countP_cons_of_pos->Ur,reverse_nil->aec,mem_filter->we
open Array renaming length_toList->yS,getElem?_eq_none->yR,getElem?_eq_getElem->mV,getElem?_modify->D8,toList_setIfInBounds->ado,toList_map->Ed,getElem?_toList->D9,range->Aq,toList_extract->adn,getElem?_eq_some_iff->D7,replicate->Eb,toList_append->Ec,ext'->Nz,size_append->TZ,getElem?_setIfInBounds->NA,all_eq_true->Gy,map->NB,mem_toList_iff->adl,getElem_of_mem->adh,getElem_mem->adg
open Prod renaming mk.inj->je,mk.injEq->dF
set_option linter.unusedSimpArgs false
set_option linter.unusedVariables false
set_option linter.constructorNameAsVariable false
set_option linter.defProp false
namespace Go
def ai{p:Prop}(h:p:=by omega):p:=h
def bJ{p:Prop}(h:p:=by simp):p:=h
def aZ{p:Prop}(h:p:=by decide):p:=h
def axR{p:Prop}(h:p:=by simp;omega):p:=h
def axS{p:Prop}(h:p:=by first|exact trivial|exact rfl):p:=h
def jr{p:Prop}(h:p:=by kernel_rfl):p:=h
def aJ.{u}{c:Prop}{h:Decidable c}(q:¬c){α:Sort u}{t e:α}:ite c t e=e:=if_neg q
def aH.{u}{c:Prop}{h:Decidable c}(q:c){α:Sort u}{t e:α}:ite c t e=t:=if_pos q
def b8{p:Prop}[Decidable p](q:p):decide p=ah:=decide_eq_true q
def cS{p:Prop}[Decidable p](q:¬p):decide p=aB:=decide_eq_false q
end Go
section
namespace Go.AE
inductive Tok where
 |nil|tight|free (n:Nat)|held
 deriving DecidableEq,Inhabited
inductive Ref where
 |box (b:Nat)|fb (g:Nat)
 deriving DecidableEq,Inhabited
inductive AV where
 |bad
 |v (x:aT)
 |list (k:Tok) (sz:Nat) (es:List (List AV))
 |arr (b off len aF:Nat)
 |agg (cs:List AV)
 |tuple (vs:List AV)
 |ptr (r:Ref) (off:Nat)
 |elem (sz:Nat) (es:List (List AV)) (i off:Nat)
 |func (fn:Fn) (first aF:List AV)
 |yield (l:Nat)
 |iface (t:aP) (x:AV)
 deriving Inhabited
def gJ{α:Type}(P:bL):Sem α->Option α
 | .pure a=>aa a
 | .program k=>gJ P (k P)
 | .mark _ k=>gJ P k
 |_=>av
def scalar:aT->Bool
 | .bool _| .int .. | .float .. | .complex .. | .string _| .nilFunc| .nilIface| .pointer av| .map av| .chan av=>ah
 |_=>aB
def pQ(z:aT):Option AV:=if scalar z then aa (.v z) else av
def AV.eH:AV->Bool
 | .agg _| .tuple _| .bad=>aB
 |_=>ah
def AV.cd:AV->Option (List AV)
 | .agg cs=>if cs.all AV.eH then aa cs else av
 | .tuple _| .bad=>av
 |x=>aa [x]
def wX(x:aT):AV:=
 match x with
 | .slice av 0 0=>.list .nil 0 []
 |x=>if scalar x then .v x else .bad
def tP:aT->AV
 | .agg cs=>.agg (cs.toList.map wX)
 | .tuple vs=>if vs.size=0 then .tuple [] else .bad
 | .iface t x=>.iface t (wX x)
 |x=>wX x
def CH:List AV->Option (List aT)
 | []=>aa []
 | .v x::r=>(CH r).map (x::·)
 |_=>av
def AV.flat:AV->Option aT
 | .v x=>aa x
 | .agg cs=>(CH cs).map λl=>.agg l.toArray
 | .iface t (.v x)=>aa (.iface t x)
 | .iface t (.agg cs)=>(CH cs).map λl=>.iface t (.agg l.toArray)
 | .list .nil _ []=>aa (.slice av 0 0)
 |_=>av
def flatAll:List AV->Option (List aT)
 | []=>aa []
 |x::r=>match x.flat,flatAll r with|some v,aa l=>aa (v::l)|_,_=>av
def mU:aT->aT->Bool
 | .int k n,.int k' n'=>decide (k=k')&&decide (n=n')
 | .bool a,.bool b=>a==b
 | .string p,.string q=>p.data.toList==q.data.toList
 | .nilFunc,.nilFunc| .nilIface,.nilIface| .pointer av,.pointer av=>ah
 |_,_=>aB
def MW:Ref->Ref->Bool
 | .box a,.box b| .fb a,.fb b=>kK a b
 |_,_=>aB
def yK:Tok->Tok->Bool
 | .nil,.nil| .tight,.tight| .held,.held=>ah
 | .free a,.free b=>kK a b
 |_,_=>aB
mutual
def fA:AV->AV->Bool
 | .v x,.v y=>mU x y
 | .list k sz es,.list k' sz' es'=>yK k k'&&kK sz sz'&&rO es es'
 | .arr b o l c,.arr b' o' l' c'=>kK b b'&&kK o o'&&kK l l'&&kK c c'
 | .agg cs,.agg ds=>pP cs ds
 | .tuple cs,.tuple ds=>pP cs ds
 | .ptr r o,.ptr r' o'=>MW r r'&&kK o o'
 | .elem sz es i o,.elem sz' es' i' o'=>kK sz sz'&&kK i i'&&kK o o'&&rO es es'
 | .yield l,.yield l'=>kK l l'
 | .iface t x,.iface t' y=>kK t t'&&fA x y
 | .func (.func f) a b,.func (.func g) a' b'=>kK f g&&pP a a'&&pP b b'
 |_,_=>aB
def pP:List AV->List AV->Bool
 | [],[]=>ah
 |x::xs,y::ys=>fA x y&&pP xs ys
 |_,_=>aB
def rO:List (List AV)->List (List AV)->Bool
 | [],[]=>ah
 |x::xs,y::ys=>pP x y&&rO xs ys
 |_,_=>aB
end
structure qC where
 ch:List (Nat × AV)
 base:List AV
 deriving Inhabited
def look(base:List AV):List (Nat × AV)->Nat->AV
 | [],t=>base.getD t (.tuple [])
 |p::r,t=>bif kK p.1 t then p.2 else look base r t
def qC.get(s:qC)(t:Nat):AV:=look s.base s.ch t
def qC.set(s:qC)(t:Nat)(x:AV):qC:={s with ch:=(t,x)::s.ch}
structure iW where
 tmps:qC
 params:Array Tmp
 assign:Code
 body:Code
 state:LoopState
 pending:Option Code
 deriving Inhabited
structure ar where
 boxes:List (List AV)
 loops:List iW
 tn:Nat
 dead:List Nat
 deriving Inhabited
structure Env where
 tmps:qC
 defers:List (bq × List AV)
 dg:Option (AV × Bool)
 round:Option Nat
 deriving Inhabited
inductive Xt where
 |normal
 |exit (id:Nat)
 |ret
 |panic (x:AV)
 deriving Inhabited
inductive fg where
 |ret (x:AV)
 |panic (x:AV)
 deriving Inhabited
def Env.get(e:Env)(t:Nat):AV:=e.tmps.get t
def Env.put(e:Env)(dst:Option Tmp)(x:AV):Env:=
 match dst with
 |some d=>{e with tmps:=e.tmps.set d x}
 |none=>e
def ajA(tmps:qC):bU->AV
 | .tmp t=>tmps.get t
 | .const v=>tP v
 | .global g=>.ptr (.fb g) 0
 | .func f=>.func (.func f) [] []
def Env.eval(e:Env)(x:bU):AV:=ajA e.tmps x
section
variable (P:bL)
def dJ(t:aP):Option Nat:=(P.info? t).map (·.size)
def gY(t:aP):Option Bool:=
 match P.underlying t with
 |some (.struct _)|some (.array _ _)=>aa ah
 |some _=>aa aB
 |none=>av
def iB(t:aP):Option AV:=
 match P.info? t with
 |some i=>i.zero.map tP
 |none=>av
def I5(t:aP)(cs:List AV)(off:Nat):Option AV:=
 match gY P t with
 |some ah=>(dJ P t).map λn=>.agg ((cs.drop off).take n)
 |some aB=>cs[off]?
 |none=>av
end
def ar.box(h:ar)(cs:List AV):AV × ar:=(.ptr (.box h.boxes.length) 0,{h with boxes:=h.boxes++[cs]})
def ar.fresh(h:ar)(sz:Nat)(es:List (List AV)):AV × ar:=(.list (.free h.tn) sz es,{h with tn:=h.tn+1})
def SD(G:Nat->Option (List AV))(h:ar):Ref->Option (List AV)
 | .box b=>h.boxes[b]?
 | .fb g=>G g
def Cw(G:Nat->Option (List AV))(h:ar):AV->Option (List AV)
 | .ptr r off=>(SD G h r).map (·.drop off)
 | .elem _ es i off=>(es[i]?).map (·.drop off)
 |_=>av
def aI(P:bL)(G:Nat->Option (List AV))(h:ar)(t:aP)(a:AV):Option AV:=
 match gY P t,Cw G h a with
 |some ah,aa cs=>
  match dJ P t with
  |some n=>if n<=cs.length then aa (.agg (cs.take n)) else av
  |none=>av
 |some aB,aa cs=>cs.head?
 |_,_=>av
def fe(dw:List AV)(off:Nat)(cs:List AV):List AV:=dw.take off++cs++dw.drop (off+cs.length)
def cE(P:bL)(h:ar)(t:aP)(a x:AV):Option ar:=
 match a,x.cd,dJ P t with
 | .ptr (.box b) off,aa cs,aa n=>
  match h.boxes[b]? with
  |some dw=>if cs.length=n/\off+n<=dw.length then aa {h with boxes:=h.boxes.set b (fe dw off cs)} else av
  |none=>av
 |_,_,_=>av
def wC(place:Nat->Option (Nat × Nat))(cells:List AV):List (Nat × AV)->Option (List AV)
 | []=>aa cells
 |(i,x)::rest=>
  match place i,x.cd with
  |some (off,size),aa cs=>if cs.length=size/\off+size<=cells.length then wC place (fe cells off cs) rest else av
  |_,_=>av
def EZ(sz:Nat)(ae:List (List AV)):List (Nat × AV)->Option (List (List AV))
 | []=>aa ae
 |(i,x)::rest=>
  match x.cd with
  |some cs=>if cs.length=sz/\i<ae.length then EZ sz (ae.set i cs) rest else av
  |none=>av
def placesOf(P:bL)(fields:Array Field)(i:Nat):Option (Nat × Nat):=
 match fields[i]? with
 |some f=>(dJ P f.type).map λn=>(f.offset,n)
 |none=>av
def nH(P:bL)(t:aP)(parts:List (Nat × AV)):Option AV:=
 match P.underlying t,(iB P t).bind AV.cd with
 |some (.struct fields),aa zero=>
  if fields.all λf=>(P.info? f.type).isSome then (wC (placesOf P fields) zero parts).map .agg else av
 |some (.array _ elem),aa zero=>
  match dJ P elem with
  |some size=>(wC (λi=>aa (i * size,size)) zero parts).map .agg
  |none=>av
 |_,_=>av
def gG(P:bL)(t:aP)(len:Nat)(parts:List (Nat × AV)):Option AV:=
 match P.underlying t with
 |some (.slice elem)=>
  match dJ P elem,(iB P elem).bind AV.cd with
  |some size,aa zero=>
   if 0<size/\zero.length=size/\len * size<=16777216 then (EZ size (br len zero) parts).map (.list .tight size) else av
  |_,_=>av
 |_=>av
def Ab(P:bL)(h:ar)(t:aP)(l c:AV):Option (AV × ar):=
 match P.underlying t,l,c with
 |some (.slice elem),.v (.int _ l),.v (.int _ c)=>
  match P.info? elem,(iB P elem).bind AV.cd with
  |some i,aa zero=>
   if 0<=l/\l<=c/\c<9223372036854775808/\i.bytes * c<=281474976710656/\0<i.size/\zero.length=i.size then
    aa (.arr h.boxes.length 0 l.toNat c.toNat,{h with boxes:=h.boxes++[(br c.toNat zero).flatten]})
   else av
  |_,_=>av
 |_,_,_=>av
def rowsOf(h:ar)(size:Nat):AV->Option (List (List AV))
 | .list _ sz es=>if sz=size∨es=[] then aa es else av
 | .arr b off len _=>
  match h.boxes[b]? with
  |some cs=>if off+len * size<=cs.length then aa ((bO len).map λi=>(cs.drop (off+i * size)).take size) else av
  |none=>av
 |_=>av
def lQ(b:UInt8):List AV:=[.v (.int .u8 b.toNat)]
def byteOf:List AV->Option UInt8
 | [.v (.int .u8 n)]=>aa (UInt8.ofNat n.toNat)
 |_=>av
def bytesOf:List (List AV)->Option (List UInt8)
 | []=>aa []
 |r::rest=>match byteOf r,bytesOf rest with|some b,aa l=>aa (b::l)|_,_=>av
def np(h:ar)(size:Nat):AV->Option (List (List AV))
 | .v (.string s)=>if size=1 then aa (s.data.toList.map lQ) else av
 |x=>rowsOf h size x
def alive(h:ar)(n:Nat):Bool:=decide (n<h.tn)&& !h.dead.contains n
def Nv(P:bL)(h:ar)(ts:Array aP)(elem:aP)(s x:AV):Option (AV × ar):=
 match s,x with
 | .list .nil _ [],.v (.int _ n)=>
  match P.info? elem,(iB P elem).bind AV.cd with
  |some i,aa zero=>
   if ts.size=2/\0<n/\n * i.bytes<=140737488355328/\n<=9223372036854775807/\0<i.size/\zero.length=i.size then
    aa (.arr h.boxes.length 0 n.toNat n.toNat,{h with boxes:=h.boxes++[(br n.toNat zero).flatten]})
   else av
  |_,_=>av
 |_,_=>av
def hU(P:bL)(h:ar)(ts:Array aP)(s x:AV):Option (AV × ar):=
 match (ts[0]?).bind P.underlying,(ts[1]?).bind P.underlying with
 |some (.slice elem),aa (.int _)=>Nv P h ts elem s x
 |some (.slice elem),aa _=>
  match P.info? elem with
  |none=>av
  |some i=>
   match np h i.size x with
   |none=>av
   |some new=>
    if 0<i.size/\(i.zero.map λz=>z.cells.size)=aa i.size then
     match s with
     | .list k sz es=>
      if sz=i.size∨es=[] then
       if new=[] then aa (s,h)
       else if (es.length+new.length) * i.bytes<=140737488355328/\es.length+new.length<=9223372036854775807 then
        match k with
        | .nil| .tight=>aa (h.fresh i.size (es++new))
        | .free n=>if alive h n&&decide (sz=i.size) then aa ({h with dead:=n::h.dead}.fresh i.size (es++new)) else av
        | .held=>av
       else av
      else av
     | .arr b off len aF=>
      match h.boxes[b]? with
      |some cs=>
       if len+new.length<=aF/\off+aF * i.size<=cs.length then
        aa (.arr b off (len+new.length) aF,{h with boxes:=h.boxes.set b (fe cs (off+len * i.size) new.flatten)})
       else av
      |none=>av
     |_=>av
    else av
 |_,_=>av
def JP(G:Nat->Option (List AV))(d:Option Tmp)(t:aP):Bool:=(G (1000000+1000 * t+d.getD 0)).isSome
def sU(P:bL)(h:ar)(ts:Array aP)(s x:AV):Option (AV × ar):=
 match (ts[0]?).bind P.underlying,(ts[1]?).bind P.underlying with
 |some (.slice _),aa (.int _)=>av
 |some (.slice elem),aa _=>
  match P.info? elem with
  |none=>av
  |some i=>
   match np h i.size x with
   |none=>av
   |some new=>
    if 0<i.size/\(i.zero.map λz=>z.cells.size)=aa i.size then
     match s with
     | .list k sz es=>
      if sz=i.size∨es=[] then
       if new=[] then aa (s,h)
       else if (es.length+new.length) * i.bytes<=140737488355328/\es.length+new.length<=9223372036854775807 then
        match k with
        | .nil| .tight=>aa (.arr h.boxes.length 0 (es.length+new.length) (es.length+new.length),{h with boxes:=h.boxes++[(es++new).flatten]})
        |_=>av
       else av
      else av
     | .arr b off len aF=>
      match h.boxes[b]? with
      |some cs=>
       if len+new.length<=aF then hU P h ts s x
       else if off=0/\0<len/\len=aF/\len * i.size=cs.length/\(len+new.length) * i.bytes<=140737488355328/\len+new.length<=9223372036854775807 then
        aa (.arr h.boxes.length 0 (len+new.length) (len+new.length),{h with boxes:=h.boxes.set b []++[cs++new.flatten]})
       else av
      |none=>av
     |_=>av
    else av
 |_,_=>av
def A3(P:bL)(h:ar)(ts:Array aP)(d s:AV):Option (AV × ar):=
 match (ts[0]?).bind P.underlying with
 |some (.slice elem)=>
  match P.info? elem,d with
  |some i,.arr b off len aF=>
   match np h i.size s,h.boxes[b]? with
   |some ae,aa cs=>
    if off+len * i.size<=cs.length/\len<=aF then
     aa (.v (.int .i64 (pZ ae.length len:Nat)),{h with boxes:=h.boxes.set b (fe cs off (ae.take (pZ ae.length len)).flatten)})
    else av
   |_,_=>av
  |_,_=>av
 |_=>av
def dQ(P:bL)(t:aP)(x:AV):Option AV:=
 match P.underlying t,x with
 |some .string,.v (.string s)=>aa (.v (.int .i64 s.size))
 |some (.array n _),_=>aa (.v (.int .i64 n))
 |some (.pointer a),_=>match P.underlying a with|some (.array n _)=>aa (.v (.int .i64 n))|_=>av
 |some (.slice _),.list _ _ es=>aa (.v (.int .i64 es.length))
 |some (.slice _),.arr _ _ len _=>aa (.v (.int .i64 len))
 |_,_=>av
def EN(P:bL)(t:aP)(x:AV):Option AV:=
 match P.underlying t,x with
 |some (.slice _),.list .tight _ es=>aa (.v (.int .i64 es.length))
 |some (.slice _),.list .nil _ es=>aa (.v (.int .i64 es.length))
 |some (.array n _),_=>aa (.v (.int .i64 n))
 |_,_=>av
def hJ(hi:Nat):Option AV->Nat->Option Nat
 |none,d=>aa d
 |some (.v (.int _ n)),_=>if 0<=n/\n<=hi then aa n.toNat else av
 |_,_=>av
def xY(k:Tok)(toEnd yy:Bool)(n:Nat):Tok:=
 match k with
 | .nil=>.nil
 | .tight=>if toEnd||yy then .tight else .held
 | .free t=>if yy then .tight else if toEnd&&n !=0 then .free t else .held
 | .held=>if yy then .tight else .held
def jc(P:bL)(t:aP)(x:AV)(lo hi mx:Option AV):Option AV:=
 if mx.isSome&&hi.isNone then av else
 match P.underlying t,x with
 |some .string,.v (.string s)=>
  if mx.isSome then av else
  match hJ s.size hi s.size with
  |some h=>match hJ h lo 0 with
   |some l=>aa (.v (.string (s.extract l h)))
   |none=>av
  |none=>av
 |some (.slice elem),.list k sz es=>
  match dJ P elem,hJ es.length mx es.length with
  |some size,aa m=>match hJ m hi es.length with
   |some h=>match hJ h lo 0 with
    |some l=>
     if size=sz∨es=[] then aa (.list (xY k (decide (h=es.length)&&mx.isNone) (mx.isSome&&decide (h=m)) (h - l)) sz ((es.take h).drop l)) else av
    |none=>av
   |none=>av
  |_,_=>av
 |some (.slice elem),.arr b off len aF=>
  match dJ P elem,hJ aF mx aF with
  |some size,aa m=>match hJ m hi len with
   |some h=>match hJ h lo 0 with
    |some l=>if size=0 then av else if mx.isSome/\m=l then aa (.list .tight size []) else aa (.arr b (if m=l then off else off+l * size) (h - l) (m - l))
    |none=>av
   |none=>av
  |_,_=>av
 |some (.array n elem),.ptr (.box b) off=>
  match dJ P elem,hJ n mx n with
  |some size,aa m=>match hJ m hi n with
   |some h=>match hJ h lo 0 with
    |some l=>aa (.arr b (if m=l then off else off+l * size) (h - l) (m - l))
    |none=>av
   |none=>av
  |_,_=>av
 |_,_=>av
def gH(P:bL)(s:aP)(x:AV)(f:Nat):Option AV:=
 match P.underlying s with
 |some (.struct fields)=>
  match fields[f]? with
  |some fd=>
   match dJ P fd.type with
   |some 0=>av
   |some _=>match x with
    | .ptr r off=>aa (.ptr r (off+fd.offset))
    | .elem sz es i off=>aa (.elem sz es i (off+fd.offset))
    |_=>av
   |none=>av
  |none=>av
 |_=>av
def dS(P:bL)(t:aP)(x ix:AV):Option AV:=
 match P.underlying t,x,ix with
 |some (.slice elem),.list _ sz es,.v (.int _ i)=>if 0<=i/\i<es.length/\dJ P elem=aa sz then aa (.elem sz es i.toNat 0) else av
 |some (.slice elem),.arr b off len _,.v (.int _ i)=>
  match dJ P elem with
  |some size=>if 0<=i/\i<len then aa (.ptr (.box b) (off+i.toNat * size)) else av
  |none=>av
 |some (.array len elem),.ptr r off,.v (.int _ i)=>
  match dJ P elem with
  |some size=>if 0<=i/\i<len then aa (.ptr r (off+i.toNat * size)) else av
  |none=>av
 |some (.array len elem),.elem sz es k off,.v (.int _ i)=>
  match dJ P elem with
  |some size=>if 0<=i/\i<len then aa (.elem sz es k (off+i.toNat * size)) else av
  |none=>av
 |_,_,_=>av
def DA(P:bL)(t:aP)(x ix:AV):Option AV:=
 match P.underlying t,x,ix with
 |some .string,.v (.string s),.v (.int _ i)=>
  match (if 0<=i then s.data[i.toNat]? else av) with
  |some b=>aa (.v (.int .u8 b.toNat))
  |none=>av
 |some (.array len elem),.agg cs,.v (.int _ i)=>
  match dJ P elem with
  |some size=>if 0<=i/\i<len then I5 P elem cs (i.toNat * size) else av
  |none=>av
 |_,_,_=>av
def isIface(P:bL)(t:aP):Option Bool:=
 match P.underlying t with
 |some (.interface _)=>aa ah
 |some _=>aa aB
 |none=>av
def zq(P:bL)(x:AV)(asserted:aP)(commaOk:Bool):Option AV:=
 match isIface P asserted,x with
 |some aB,.iface t y=>if t=asserted then aa (if commaOk then .tuple [y,.v (.bool ah)] else y)
  else if commaOk then (iB P asserted).map λz=>.tuple [z,.v (.bool aB)] else av
 |some aB,.v .nilIface=>if commaOk then (iB P asserted).map λz=>.tuple [z,.v (.bool aB)] else av
 |_,_=>av
def xR(op:BinOp)(b:Bool):Option AV:=
 match op with
 | .eql=>aa (.v (.bool b))
 | .neq=>aa (.v (.bool !b))
 |_=>av
def Kw(P:bL)(op:BinOp)(t:aP)(x y:bU)(a b:AV):Option AV:=
 match a.flat,b.flat with
 |some p,aa q=>(gJ P (do eqGuard op t x y p q;binOp op t p q)).bind pQ
 |_,_=>av
def dn(P:bL)(op:BinOp)(t:aP)(x y:bU)(a b:AV):Option AV:=
 match a,b with
 | .v (.string p),.v (.string q)=>
  match op with
  | .eql=>aa (.v (.bool (p.data.toList==q.data.toList)))
  | .neq=>aa (.v (.bool !(p.data.toList==q.data.toList)))
  | .add=>if p.size+q.size<=9223372036854775807 then aa (.v (.string (p++q))) else av
  |_=>Kw P op t x y a b
 | .iface _ _,.v .nilIface=>if isIface P t=aa ah then xR op aB else av
 | .v .nilIface,.iface _ _=>if isIface P t=aa ah then xR op aB else av
 | .ptr _ _,.v (.pointer av)=>(match P.underlying t with|some (.pointer _)=>xR op aB|_=>av)
 | .v (.pointer av),.ptr _ _=>(match P.underlying t with|some (.pointer _)=>xR op aB|_=>av)
 | .func _ _ _,.v .nilFunc=>(match P.underlying t with|some (.func ..)=>xR op aB|_=>av)
 | .v .nilFunc,.func _ _ _=>(match P.underlying t with|some (.func ..)=>xR op aB|_=>av)
 | .list k _ _,.list .nil _ []=>(match P.underlying t with|some (.slice _)=>xR op (decide (k=.nil))|_=>av)
 |a,b=>Kw P op t x y a b
def D3(P:bL)(op:UnOp)(x:AV):Option AV:=
 match x.flat with
 |some p=>(gJ P (Op.unary op p)).bind pQ
 |none=>av
def oa(P:bL)(h:ar)(src dst:aP)(x:AV):Option (AV × ar):=
 match P.underlying src,P.underlying dst,x with
 |some .string,aa (.slice e),.v (.string s)=>
  match P.underlying e,P.info? e with
  |some (.int .u8),aa i=>if i.size=1 then aa (h.fresh 1 (s.data.toList.map lQ)) else av
  |_,_=>av
 |some (.slice e),aa .string,x=>
  match P.underlying e,rowsOf h 1 x with
  |some (.int .u8),aa ae=>(bytesOf ae).map λl=>(.v (.string ⟨l.toArray⟩),h)
  |_,_=>av
 |some (.slice e),aa (.slice _),.list (.free t) sz es=>
  match P.underlying e with
  |some (.int .u8)=>if src=dst/\alive h t=ah then aa (.list .held sz es,{h with dead:=t::h.dead}) else av
  |_=>av
 |some (.slice _),aa (.slice _),_=>av
 |some _,aa _,.v x=>((gJ P (convert src dst x)).bind pQ).map λz=>(z,h)
 |_,_,_=>av
def Mg(c a b:AV):Option AV:=
 match c with
 | .v (.bool t)=>aa (if t then a else b)
 |_=>av
def RV(x:AV):Option AV:=
 match x with
 | .ptr .. | .elem .. | .func (.func _) _ _| .yield _| .iface .. =>aa x
 |_=>av
def xW(parts:Array (Nat × bU)):Bool:=
 match parts.toList with
 |(_,.const (.int .u8 _))::_::_=>ah
 |_=>aB
def eo(P:bL)(G:Nat->Option (List AV))(ρ:bU->AV)(h:ar)(o:Op):Option (AV × ar):=
 match o with
 | .move x| .assign x=>aa (ρ x,h)
 | .pick c a b=>(Mg (ρ c) (ρ a) (ρ b)).map (·,h)
 | .alloc t=>((iB P t).bind AV.cd).map h.box
 | .box _ x=>((ρ x).cd).map h.box
 | .build t parts=>(nH P t (parts.toList.map λp=>(p.1,ρ p.2))).map (·,h)
 | .buildSlice t len parts=>
  match xW parts with
  |false=>(gG P t len (parts.toList.map λp=>(p.1,ρ p.2))).map (·,h)
  |true=>(match gG P t len (parts.toList.map λp=>(p.1,ρ p.2)) with|some (.list _ sz es)=>aa (h.fresh sz es)|_=>av)
 | .load t a=>(aI P G h t (ρ a)).map (·,h)
 | .store t a x=>(cE P h t (ρ a) (ρ x)).map (.tuple [],·)
 | .nilCheck x=>(RV (ρ x)).map (·,h)
 | .binOp op t x y _=>(dn P op t x y (ρ x) (ρ y)).map (·,h)
 | .unOp op _ x=>(D3 P op (ρ x)).map (·,h)
 | .convert s d x=>oa P h s d (ρ x)
 | .makeInterface t x=>if isIface P t=aa aB then aa (.iface t (ρ x),h) else av
 | .makeFunc fn first aF=>aa (.func fn (first.toList.map ρ) (aF.toList.map ρ),h)
 | .makeSlice t l c=>Ab P h t (ρ l) (ρ c)
 | .slice t x lo hi mx=>(jc P t (ρ x) (lo.map ρ) (hi.map ρ) (mx.map ρ)).map (·,h)
 | .fieldAddr s x f=>(gH P s (ρ x) f).map (·,h)
 | .field t x f=>
  match P.underlying t,ρ x with
  |some (.struct fields),.agg cs=>(match fields[f]? with|some fd=>(I5 P fd.type cs fd.offset).map (·,h)|none=>av)
  |_,_=>av
 | .indexAddr t x i=>(dS P t (ρ x) (ρ i)).map (·,h)
 | .index t x i=>(DA P t (ρ x) (ρ i)).map (·,h)
 | .typeAssert x _ asserted ok=>(zq P (ρ x) asserted ok).map (·,h)
 | .extract x i=>(match ρ x with| .tuple vs=>(vs[i]?).map (·,h)|_=>av)
 |_=>av
def jT(P:bL)(h:ar)(b:Builtin)(ts:Array aP)(ty:aP)(args:List AV):Option (AV × ar):=
 match b,args with
 | .len,[x]=>(match ts[0]? with|some t=>(dQ P t x).map (·,h)|none=>av)
 | .cap,[x]=>(match ts[0]? with|some t=>(EN P t x).map (·,h)|none=>av)
 | .append,[s,x]=>hU P h ts s x
 | .copy,[d,s]=>A3 P h ts d s
 | .min,xs=>(match flatAll xs with|some l=>((gJ P (Builtin.min_ ts ty l.toArray)).bind pQ).map (·,h)|none=>av)
 | .max,xs=>(match flatAll xs with|some l=>((gJ P (Builtin.max_ ts ty l.toArray)).bind pQ).map (·,h)|none=>av)
 |_,_=>av
def tv(P:bL)(G:Nat->Option (List AV))(d:Option Tmp)(h:ar)(b:Builtin)(ts:Array aP)(ty:aP)(args:List AV):Option (AV × ar):=
 match b,args with
 | .append,[s,x]=>if JP G d ty then sU P h ts s x else hU P h ts s x
 |b,args=>jT P h b ts ty args
structure Rec where
 code:Code->Env->ar->Option (Xt × Env × ar)
 call:bq->List AV->ar->Option (fg × ar)
 lH:bq->List AV->Option (AV × Bool)->ar->Option (fg × Option (AV × Bool) × ar)
 round:Nat->List AV->ar->Option (fg × ar)
def RM(P:bL)(t:aP)(name:String):Option bq:=
 match P.info? t with
 |some i=>
  match i.methods.find? (·.name==name) with
  |some m=>
   match m.path.toList,m.func,P.underlying t with
   | [],aa (f,ah),aa (.pointer _)=>aa f
   | [],aa (_,_),aa (.pointer _)=>av
   | [],aa (f,aB),aa _=>aa f
   |_,_,_=>av
  |none=>av
 |none=>av
def mK(P:bL)(R:Rec)(e:Env)(h:ar)(c:Call):Option (fg × ar):=
 let args:=c.args.toList.map e.eval
 match c.callee with
 | .builtin _=>av
 | .value f=>
  match e.eval f with
  | .func (.func g) first aF=>R.call g (first++args++aF) h
  | .yield l=>R.round l args h
  |_=>av
 | .invoke r name=>
  match e.eval r with
  | .iface t x=>(match RM P t name with|some f=>R.call f (x::args) h|none=>av)
  |_=>av
def eI(P:bL)(G:Nat->Option (List AV))(R:Rec)(e:Env)(h:ar)(o:Oper):Option (fg × Env × ar):=
 match o.op with
 | .call {callee:=.builtin .recover,.. }=>
  if e.round.isSome then av else
  match e.dg with
  |some (x,aB)=>aa (.ret x,{e with dg:=aa (x,ah)},h)
  |_=>aa (.ret (.v .nilIface),e,h)
 | .call {callee:=.builtin .panic,args,.. }=>
  match args.toList.map e.eval with
  | [.iface t x]=>aa (.panic (.iface t x),e,h)
  |_=>av
 | .call {callee:=.builtin b,args,argTypes}=>(tv P G o.dst h b argTypes o.type (args.toList.map e.eval)).map λ(x,h)=>(.ret x,e,h)
 | .call c=>(mK P R e h c).map λ(r,h)=>(r,e,h)
 | .defer {callee:=.value f,args,.. }=>
  if e.round.isSome then av else
  match e.eval f with
  | .func (.func g) first aF=>aa (.ret (.tuple []),{e with defers:=(g,first++args.toList.map e.eval++aF)::e.defers},h)
  |_=>av
 | .panic x=>
  match e.eval x with
  | .iface t x=>aa (.panic (.iface t x),e,h)
  |_=>av
 |op=>(eo P G e.eval h op).map λ(x,h)=>(.ret x,e,h)
def fL(ops:Array Oper)(e:Env)(o:Oper):Option Bool:=
 match o.guard with
 |none=>aa ah
 |some (j,want)=>
  match (ops[j]?).bind (·.dst) with
  |none=>aa aB
  |some d=>
   match e.get d with
   | .v (.bool b)=>aa (b==want)
   | .tuple []=>aa aB
   |_=>av
def dx(P:bL)(G:Nat->Option (List AV))(R:Rec)(ops:Array Oper):List Nat->Env->ar->Option (Xt × Env × ar)
 | [],e,h=>aa (.normal,e,h)
 |i::rest,e,h=>
  match ops[i]? with
  |none=>av
  |some o=>
   match fL ops e o with
   |none=>av
   |some aB=>dx P G R ops rest (e.put o.dst (.tuple [])) h
   |some ah=>
    match eI P G R e h o with
    |some (.ret x,e,h)=>dx P G R ops rest (e.put o.dst x) h
    |some (.panic x,e,h)=>aa (.panic x,e,h)
    |none=>av
inductive Class where
 |pure|reads|acts
 deriving DecidableEq,Inhabited
def jU:Op->Class
 | .move _| .assign _| .pick .. | .build .. | .nilCheck _| .binOp .. | .unOp .. | .makeInterface .. | .makeFunc .. | .slice .. | .fieldAddr .. | .field ..
 | .indexAddr .. | .index .. | .typeAssert .. | .extract .. =>.pure
 | .buildSlice _ _ parts=>if xW parts=ah then .acts else .pure
 | .load .. =>.reads
 | .call {callee:=.builtin .len,.. }=>.pure
 |_=>.acts
def LU(a b:Class):Bool:=
 match a,b with
 | .pure,_|_,.pure=>ah
 | .reads,.reads=>ah
 |_,_=>aB
def Cp(ops:Array Oper)(b:Array Nat):Bool:=
 (bO ops.size).all λj=>
  match ops[j]? with
  |none=>ah
  |some o=>
   (o.after.all λe=> !Region.binds .any e||decide (e.on<j))&&
   (bO ops.size).all λi=> !(b.getD j 0).testBit i||o.after.any λe=>Region.binds .any e&&(kK e.on i||(b.getD e.on 0).testBit i)
def Af(ops:Array Oper)(i j:Nat):Bool:=
 match ops[i]?,ops[j]? with
 |some x,aa y=>LU (jU x.op) (jU y.op)&&x.apart ops y&&y.apart ops x
 |_,_=>aB
def Pe(ops:Array Oper):Bool:=
 let b:=Region.before ops
 Cp ops b&&(bO ops.size).all λj=>(bO j).all λi=>(b.getD j 0).testBit i||Af ops i j
def qF(ops:Array Oper)(i j:Nat):Bool:=
 match ops[i]?,ops[j]? with
 |some x,aa y=>x.apart ops y&&y.apart ops x
 |_,_=>aB
def qV(P:bL)(G:Nat->Option (List AV))(R:Rec)(ops:Array Oper)(e:Env)(h:ar)(r m:Nat):Bool:=
 match ops[r]?,dx P G R ops (bO r) e h,dx P G R ops (bO m) e h with
 |some o,aa (.normal,er,hr),aa (.normal,_,hm)=>
  (match fL ops er o with
   |some aB=>ah
   |some ah=>
    (match o.op with
     | .load t a=>(match aI P G hr t (er.eval a),aI P G hm t (er.eval a) with|some x,aa y=>fA x y|_,_=>aB)
     |_=>aB)
   |none=>aB)
 |_,_,_=>aB
def mH(P:bL)(G:Nat->Option (List AV))(R:Rec)(ops:Array Oper)(e:Env)(h:ar)(i j:Nat):Bool:=
 qF ops i j&&
 match (ops[i]?).map λo=>jU o.op,(ops[j]?).map λo=>jU o.op with
 |some .reads,aa .acts=>qV P G R ops e h i (j+1)
 |some .acts,aa .reads=>qV P G R ops e h j i
 |_,_=>aB
def AX:Op->Bool
 | .call {callee:=.builtin .recover,.. }=>aB
 | .call {callee:=.builtin .panic,.. }=>aB
 | .call _=>ah
 | .convert .. =>ah
 |_=>aB
def AY(P:bL)(G:Nat->Option (List AV))(R:Rec)(ops:Array Oper)(e:Env)(h:ar)(k:Nat):Prop:=
 ∃o x er hr,ops[k]?=aa o/\AX o.op=ah/\dx P G R ops (bO k) e h=aa (.normal,er,hr)/\
  ∀m,m<=ops.size->∃em hm,dx P G R ops (bO m) e h=aa (.normal,em,hm)/\eI P G R er hm o=aa (.ret x,er,hm)
noncomputable def nI(P:bL)(G:Nat->Option (List AV))(R:Rec)(ops:Array Oper)(e:Env)(h:ar)(k:Nat):Bool:=@decide (AY P G R ops e h k) (Classical.propDecidable _)
noncomputable def ng(P:bL)(G:Nat->Option (List AV))(R:Rec)(ops:Array Oper)(e:Env)(h:ar):Bool:=
 let b:=Region.before ops
 Cp ops b&&(bO ops.size).all λj=>(bO j).all λi=>(b.getD j 0).testBit i||Af ops i j||mH P G R ops e h i j||(qF ops i j&&(nI P G R ops e h i||nI P G R ops e h j))
def KJ(ops:Array Oper)(k j:Nat):Bool:=
 match ops[k]? with
 |some o=>o.after.any λed=>Region.binds .any ed&&kK ed.on j
 |none=>aB
def anp(ops:Array Oper)(d m:Nat):Bool:=
 match ops[m]? with
 |some o=>(match o.op with| .load _ x=>(match x with| .tmp t=> !Nat.beq t d|_=>ah)|_=>aB)&&(o.guard.isNone&&(match o.dst with|some q=> !Nat.beq q d|none=>ah))
 |none=>aB
def ia(ops:Array Oper)(i j:Nat):Array Oper:=⟨ops.toList.mapIdx λk o=>if k=j then {o with after:=o.after.push {on:=i,ground:=.data}} else o⟩
def zV(ops:Array Oper)(k:Nat):Bool:=
 match ops[k]? with
 |some o=>(match o.op with| .store _ _ _=>ah|_=>aB)&&(o.guard.isNone&&o.dst.isNone)
 |none=>aB
def aba(ops:Array Oper)(k:Nat):Bool:=
 match ops[k]? with
 |some o=>decide (jU o.op=.pure)|none=>aB
def F2(ops:Array Oper)(i:Nat):Bool:=
 Cp ops (Region.before ops)&&(decide (i+1<ops.size)&&(zV ops i&&(zV ops (ops.size - 1)&&(bO (ops.size - 1)).all λk=>kK k i||(((Region.before ops).getD (ops.size - 1) 0).testBit k||(aba ops k&&qF ops k (ops.size - 1))))))
def sJ(ops:Array Oper)(k:Nat)(e:Env):Option Nat:=
 match ops[k]? with
 |some o=>(match o.op with| .store _ a _=>(match e.eval a with| .ptr (.box b) _=>aa b|_=>av)|_=>av)
 |none=>av
def tS(P:bL)(G:Nat->Option (List AV))(R:Rec)(ops:Array Oper)(e:Env)(h:ar)(i:Nat):Bool:=
 match dx P G R ops (bO i) e h,dx P G R ops (bO (ops.size - 1)) e h with
 |some (.normal,ei,_),aa (.normal,en,_)=>
  (match sJ ops i ei,sJ ops (ops.size - 1) en with
   |some a,aa b=> !Nat.beq a b
   |_,_=>aB)
 |_,_=>aB
noncomputable def uU(P:bL)(G:Nat->Option (List AV))(R:Rec)(ops:Array Oper)(e:Env)(h:ar):Bool:=(bO ops.size).any λi=>F2 ops i&&(tS P G R ops e h i&&ng P G R (ia ops i (ops.size - 1)) e h)
def quiet(o:Oper):Oper:={o with dst:=av,op:=.move (.const (.bool ah)),guard:=av}
def FG(ops:Array Oper)(k i:Nat):Bool:=kK i k||((Region.before ops).getD i 0).testBit k
def cut(ops:Array Oper)(k:Nat):Array Oper:=⟨ops.toList.mapIdx λi o=>if FG ops k i=ah then quiet o else o⟩
def ahh(ops:Array Oper)(i:Nat):Bool:=
 match ops[i]? with
 |some o=>decide (jU o.op≠ .acts)|none=>ah
def Xw(ops:Array Oper)(k i:Nat):Bool:=
 match ops[i]? with
 |some o=>(match o.guard with|some (j,_)=> !FG ops k j|none=>ah)
 |none=>ah
def ai7(ops:Array Oper)(k i:Nat):Option Tmp:=
 if (FG ops k i||((Region.before (cut ops k)).getD k 0).testBit i)=ah then av else (ops[i]?).bind (·.dst)
def Gp(params:List Tmp)(args:List AV)(tmps:qC):qC:=(params.zip args).foldl (λts p=>ts.set p.1 p.2) tmps
section
variable (P:bL) (G:Nat->Option (List AV)) (R:Rec)
noncomputable def fW:Code->Env->ar->Option (Xt × Env × ar)
 | .skip,e,h| .label _,e,h=>aa (.normal,e,h)
 | .region _ ops draw,e,h=>
  if draw then
   if ng P G R ops e h||uU P G R ops e h then
    match dx P G R ops (bO ops.size) e h with
    |some (.normal,e,h)=>aa (.normal,e,h)
    |_=>av
   else av
  else dx P G R ops (bO ops.size) e h
 | .seq a b,e,h=>
  match R.code a e h with
  |some (.normal,e,h)=>R.code b e h
  |r=>r
 | .cond c a b,e,h=>
  match e.eval c with
  | .v (.bool ah)=>R.code a e h
  | .v (.bool aB)=>R.code b e h
  |_=>av
 | .block id c,e,h=>
  match R.code c e h with
  |some (.exit id',e,h)=>if id'=id then aa (.normal,e,h) else aa (.exit id',e,h)
  |r=>r
 | .loop c,e,h=>
  match R.code c e h with
  |some (.normal,e,h)=>R.code (.loop c) e h
  |r=>r
 | .scope c,e,h=>R.code c e h
 | .exit id,e,h=>aa (.exit id,e,h)
 | .ret,e,h=>aa (.ret,e,h)
 | .rangeFunc f params assign body,e,h=>
  match e.eval f with
  | .func (.func g) first aF=>
   match R.call g (first++[.yield h.loops.length]++aF)
    {h with loops:=h.loops++[{tmps:=e.tmps,params,assign,body,state:=.ready,pending:=av}]} with
   |some (.ret _,h')=>
    match h'.loops[h.loops.length]? with
    |some r=>
     if r.state=.busy then av else
     match r.pending with
     |none=>aa (.normal,e,{h' with loops:=h'.loops.set h.loops.length {r with state:=.exhausted}})
     |some .ret=>aa (.ret,e,{h' with loops:=h'.loops.set h.loops.length {r with state:=.exhausted}})
     |some (.exit id)=>aa (.exit id,e,{h' with loops:=h'.loops.set h.loops.length {r with state:=.exhausted}})
     |_=>av
    |none=>av
   |some (.panic x,h')=>aa (.panic x,e,h')
   |none=>av
  |_=>av
 |_,_,_=>av
def xk(e:Env)(h:ar):List ResultVar->Option (List AV)
 | []=>aa []
 | .tmp t::r=>(xk e h r).map (e.get t::·)
 | .cell a t::r=>
  match aI P G h t (e.get a),xk e h r with
  |some x,aa l=>aa (x::l)
  |_,_=>av
def Je(fn:Func)(e:Env)(h:ar):Option AV:=
 match xk P G e h fn.results.toList with
 |some [x]=>aa x
 |some l=>aa (.tuple l)
 |none=>av
def iI(fn:Func)(e:Env):List (bq × List AV)->Option (AV × Bool)->ar->Option (fg × ar)
 | [],av,h=>(Je P G fn e h).map λx=>(.ret x,h)
 | [],aa (x,_),h=>aa (.panic x,h)
 |(g,args)::ds,m,h=>
  match R.lH g args m h with
  |some (.ret _,aa (_,ah),h)=>iI fn e ds av h
  |some (.ret _,m,h)=>iI fn e ds m h
  |_=>av
def tj(g:bq)(args:List AV)(m:Option (AV × Bool))(h:ar):Option (fg × Option (AV × Bool) × ar):=
 match P.funcs[g]? with
 |none=>av
 |some fn=>
  match fn.body with
  |none=>av
  |some body=>
   match R.code body {tmps:={ch:=[],base:=args},defers:=[],dg:=m,round:=av} h with
   |some (.normal,e,h)|some (.ret,e,h)=>(iI P G R fn e e.defers av h).map λ(r,h)=>(r,e.dg,h)
   |some (.panic x,e,h)=>(iI P G R fn e e.defers (aa (x,aB)) h).map λ(r,h)=>(r,e.dg,h)
   |_=>av
def sf(aQ:bq->Option (List AV->ar->Option (AV × ar)))(g:bq)(args:List AV)(h:ar):Option (fg × ar):=
 match aQ g with
 |some p=>(p args h).map λ(x,h)=>(.ret x,h)
 |none=>(tj P G R g args av h).map λ(r,_,h)=>(r,h)
def xl(l:Nat)(args:List AV)(h:ar):Option (fg × ar):=
 match h.loops[l]? with
 |none=>av
 |some r=>
  if r.params.size=args.length then
   match R.code r.assign {tmps:=Gp r.params.toList args r.tmps,defers:=[],dg:=av,round:=aa l} h with
   |some (.normal,e,h)=>
    match h.loops[l]? with
    |some r2=>
     if r2.state=.ready then
      match R.code r.body e {h with loops:=h.loops.set l {r2 with state:=.busy}} with
      |some (.normal,_,h)=>(h.loops[l]?).map λr=>(.ret (.v (.bool ah)),{h with loops:=h.loops.set l {r with state:=.ready,pending:=av}})
      |some (.ret,_,h)=>(h.loops[l]?).map λr=>(.ret (.v (.bool aB)),{h with loops:=h.loops.set l {r with state:=.done,pending:=aa .ret}})
      |some (.exit id,_,h)=>(h.loops[l]?).map λr=>(.ret (.v (.bool aB)),{h with loops:=h.loops.set l {r with state:=.done,pending:=aa (.exit id)}})
      |some (.panic x,_,h)=>aa (.panic x,h)
      |none=>av
     else av
    |none=>av
   |_=>av
  else av
end
noncomputable def jb(P:bL)(G:Nat->Option (List AV))(aQ:bq->Option (List AV->ar->Option (AV × ar)))(n:Nat):Rec:=
 Nat.rec (motive:=λ_=>Rec) {code:=λ_ _ _=>av,call:=λ_ _ _=>av,lH:=λ_ _ _ _=>av,round:=λ_ _ _=>av}
  (λ_ R=>{code:=fW P G R,call:=sf P G R aQ,lH:=tj P G R,round:=xl R}) n
end Go.AE
end
section
namespace Go.AE
open Go.RowKit (Below)
def Ja{α}{P}:∀{e:Sem α} {a:α},gJ P e=aa a->∀w,e.run P w=.ok a w:=by
 intro e
 induction e with
 |pure a=>intro b h w;simp[gJ] at h;subst h;rfl|program k ih=>intro b h w;simp only[gJ] at h;simp only[Sem.run];exact ih _ h w|mark m k ih=>intro b h w;simp only[gJ] at h;simp only[Sem.run];exact ih h w|_=>intro b h;simp[gJ] at h
structure a8 where
 base:Nat
 ic:Nat->Nat->Option aT
 β:List Nat
 γ:List Nat
 tn:Nat
 tk:Nat->Nat × Nat × Nat
 md:List Nat
 lb:Nat->Option (Nat × Nat × Nat)
structure a8.Le(K K':a8):Prop where
 base:K'.base=K.base
 ic:∀g j c,K.ic g j=aa c->K'.ic g j=aa c
 β:∀b g:Nat,K.β[b]?=aa g->K'.β[b]?=aa g
 γ:∀l g:Nat,K.γ[l]?=aa g->K'.γ[l]?=aa g
 tn:K.tn<=K'.tn
 tk:∀t,t<K.tn->K'.tk t=K.tk t
 md:∀r∈K.md,r∈K'.md
 lb:∀b,b<K.β.length->K'.lb b=K.lb b
 new:∀g j c,K'.ic g j=aa c->K.ic g j=aa c∨K.base<=g
def a8.Le.refl(K:a8):K.Le K:=⟨rfl,λ_ _ _ h=>h,λ_ _ h=>h,λ_ _ h=>h,aL _,λ_ _=>rfl,λ_ h=>h,λ_ _=>rfl,λ_ _ _ h=>.inl h⟩
def a8.Le.len{K K':a8}(h:K.Le K'){b}(hb:b<K.β.length):b<K'.β.length:=(aW.1 (h.β b _ (aU hb))).1
def a8.Le.trans{A B C:a8}(h:A.Le B)(k:B.Le C):A.Le C:=
 ⟨k.base.trans h.base,λg j c hc=>k.ic g j c (h.ic g j c hc),λb g hb=>k.β b g (h.β b g hb),λb g hb=>k.γ b g (h.γ b g hb),fG h.tn k.tn,
  λt ht=>(k.tk t (nE ht h.tn)).trans (h.tk t ht),λr hr=>k.md r (h.md r hr),λb hb=>(k.lb b (h.len hb)).trans (h.lb b hb),λg j c hc=>(k.new g j c hc).elim (h.new g j c) λq=>.inr (by rw[<-h.base];exact q)⟩
def xJ(K:a8)(k:Tok)(g off sz n aF:Nat):Prop:=
 n<=aF/\match k with
  | .nil=>False
  | .tight=>aF=n
  | .free t=>t<K.tn/\(K.tk t).1=g/\(K.tk t).2.1=off+n * sz/\off+aF * sz<=(K.tk t).2.2
  | .held=>True
def xJ.mono{K K'}(h:K.Le K'){k}{g off sz n aF}(ht:xJ K k g off sz n aF):xJ K' k g off sz n aF:=by
 refine⟨ht.1,?_⟩;have h2:=ht.2;cases k with|free t=>simp only at h2 ⊢;rw[h.tk t h2.1];exact⟨nE h2.1 h.tn,h2.2⟩|_=>exact h2
mutual
inductive a9 (K:a8):AV->aT->Prop
 |bad (c:aT):a9 K .bad c
 |v (x:aT) (h:scalar x=ah):a9 K (.v x) x
 |nil (sz:Nat):a9 K (.list .nil sz []) (.slice av 0 0)
 |jH (sz:Nat) (a:Addr):a9 K (.list .tight sz []) (.slice (aa a) 0 0)
 |list (k:Tok) (sz:Nat) (es:List (List AV)) (g off n aF:Nat) (cells:List aT) (hn:n=es.length) (hr:∀r∈es,r.length=sz)
  (hv:aV K es.flatten cells) (hc:∀j c,cells[j]?=aa c->K.ic g (off+j)=aa c) (ht:xJ K k g off sz n aF)
  (ha:es.flatten.all AV.eH=ah):a9 K (.list k sz es) (.slice (aa ⟨g,off,av⟩) n aF)
 |arr (b g off len aF fP iX:Nat) (hb:K.β[b]?=aa g) (hl:len<=aF) (hc:aF<=iX) (ho:fP=off∨aF=0)
  (hr:iX=aF∨aF=0∨off≠0∨∃sz room,K.lb b=aa (aF,sz,room)/\0<sz/\iX * sz<=room):a9 K (.arr b off len aF) (.slice (aa ⟨g,fP,av⟩) len iX)
 |agg (cs:List AV) (vs:Array aT) (h:aV K cs vs.toList):a9 K (.agg cs) (.agg vs)
 |tuple (cs:List AV) (vs:Array aT) (h:aV K cs vs.toList):a9 K (.tuple cs) (.tuple vs)
 |box (b g off:Nat) (hb:K.β[b]?=aa g):a9 K (.ptr (.box b) off) (.pointer (aa ⟨g,off,av⟩))
 |fb (g off:Nat):a9 K (.ptr (.fb g) off) (.pointer (aa ⟨g,off,av⟩))
 |elem (sz:Nat) (es:List (List AV)) (i off g o p:Nat) (cells:List aT) (hr:∀r∈es,r.length=sz) (hv:aV K es.flatten cells)
  (hc:∀j c,cells[j]?=aa c->K.ic g (o+j)=aa c) (hi:i<es.length) (hp:p=o+i * sz+off)
  (ha:es.flatten.all AV.eH=ah):a9 K (.elem sz es i off) (.pointer (aa ⟨g,p,av⟩))
 |func (fn:Fn) (first aF:List AV) (fs cs:Array aT) (h1:aV K first fs.toList) (h2:aV K aF cs.toList):a9 K (.func fn first aF) (.func fn fs cs)
 |yield (l g:Nat) (h:K.γ[l]?=aa g):a9 K (.yield l) (.func (.yield g) #[] #[])
 |iface (t:aP) (x:AV) (c:aT) (h:a9 K x c):a9 K (.iface t x) (.iface t c)
inductive aV (K:a8):List AV->List aT->Prop
 |nil:aV K [] []
 |cons (x:AV) (c:aT) (xs:List AV) (cs:List aT) (h:a9 K x c) (hs:aV K xs cs):aV K (x::xs) (c::cs)
end
mutual
def a9.mono{K K':a8}(h:K.Le K'):∀{x:AV} {c:aT},a9 K x c->a9 K' x c
 |_,_,.bad c=>.bad c
 |_,_,.v x hx=>.v x hx
 |_,_,.nil sz=>.nil sz
 |_,_,.jH sz a=>.jH sz a
 |_,_,.list k sz es g off n aF cells hn hr hv hc ht ha=>.list k sz es g off n aF cells hn hr (aV.mono h hv) (λj c hj=>h.ic _ _ _ (hc j c hj)) (ht.mono h) ha
 |_,_,.arr b g off len aF fP iX hb hl hc ho hr=>.arr b g off len aF fP iX (h.β _ _ hb) hl hc ho (by rw[h.lb b (aW.1 hb).1];exact hr)
 |_,_,.agg cs vs hv=>.agg cs vs (aV.mono h hv)
 |_,_,.tuple cs vs hv=>.tuple cs vs (aV.mono h hv)
 |_,_,.box b g off hb=>.box b g off (h.β _ _ hb)
 |_,_,.fb g off=>.fb g off
 |_,_,.elem sz es i off g o p cells hr hv hc hi hp ha=>.elem sz es i off g o p cells hr (aV.mono h hv) (λj c hj=>h.ic _ _ _ (hc j c hj)) hi hp ha
 |_,_,.func fn first aF fs cs h1 h2=>.func fn first aF fs cs (aV.mono h h1) (aV.mono h h2)
 |_,_,.yield l g hl=>.yield l g (h.γ _ _ hl)
 |_,_,.iface t x c hx=>.iface t x c (a9.mono h hx)
def aV.mono{K K':a8}(h:K.Le K'):∀{xs:List AV} {cs:List aT},aV K xs cs->aV K' xs cs
 |_,_,.nil=>.nil
 |_,_,.cons x c xs cs hx hs=>.cons x c xs cs (a9.mono h hx) (aV.mono h hs)
end
def FL:aT->Bool
 | .agg _| .tuple _=>aB
 |_=>ah
section
variable {K:a8}
def aV.length{xs:List AV}{cs:List aT}(h:aV K xs cs):xs.length=cs.length:=by
 induction xs generalizing cs with
 |nil=>cases h;rfl
 |cons x xs ih=>cases h with|cons _ _ _ _ _ hs=>simp[ih hs]
def aV.get{xs:List AV}{cs:List aT}(h:aV K xs cs):∀{i:Nat} {x:AV},xs[i]?=aa x->∃c,cs[i]?=aa c/\a9 K x c:=by
 induction xs generalizing cs with
 |nil=>intro i x hx;simp at hx|cons y xs ih=>
  cases h with
  |cons _ c _ cs hy hs=>
   intro i x hx;cases i with|zero=>simp at hx;subst hx;exact⟨c,rfl,hy⟩|succ i=>exact ih hs (by simpa using hx)
def aV.get'{xs:List AV}{cs:List aT}(h:aV K xs cs):∀{i:Nat} {c:aT},cs[i]?=aa c->∃x,xs[i]?=aa x/\a9 K x c:=by
 induction xs generalizing cs with
 |nil=>cases h;intro i x hx;simp at hx
 |cons y xs ih=>
  cases h with
  |cons _ c _ cs hy hs=>
   intro i x hx;cases i with|zero=>simp at hx;subst hx;exact⟨y,rfl,hy⟩|succ i=>exact ih hs (by simpa using hx)
def aV.of{xs:List AV}{cs:List aT}(hl:xs.length=cs.length)(h:∀(i:Nat) (x:AV) (c:aT),xs[i]?=aa x->cs[i]?=aa c->a9 K x c):aV K xs cs:=by
 induction xs generalizing cs with
 |nil=>cases cs with|nil=>exact .nil|cons _ _=>simp at hl
 |cons y xs ih=>
  cases cs with|nil=>simp at hl|cons c cs=>exact .cons _ _ _ _ (h 0 y c rfl rfl) (ih (by simpa using hl) λi x c hx hc=>h (i+1) x c (by simpa using hx) (by simpa using hc))
def aV.append{xs ys:List AV}{cs ds:List aT}(h:aV K xs cs)(k:aV K ys ds):aV K (xs++ys) (cs++ds):=by
 induction xs generalizing cs with
 |nil=>cases h;exact k
 |cons y xs ih=>cases h with|cons _ _ _ _ hy hs=>exact .cons _ _ _ _ hy (ih hs)
def aV.take{xs:List AV}{cs:List aT}(h:aV K xs cs)(n:Nat):aV K (xs.take n) (cs.take n):=by
 refine .of (by simp[h.length]) λi x c hx hc=>?_;simp only[o7] at hx hc;split at hx
 ·rename_i hi;rw[aH hi] at hc;obtain⟨c',iN,hr⟩:=h.get hx;rw[hc] at iN;injection iN with e;subst e;exact hr
 ·cases hx
def aV.drop{xs:List AV}{cs:List aT}(h:aV K xs cs)(n:Nat):aV K (xs.drop n) (cs.drop n):=by refine .of (by simp[h.length]) λi x c hx hc=>?_;simp only[pX] at hx hc;obtain⟨c',iN,hr⟩:=h.get hx;rw[hc] at iN;injection iN with e;subst e;exact hr
def aV.set{xs:List AV}{cs:List aT}(h:aV K xs cs)(i:Nat){x:AV}{c:aT}(hx:a9 K x c):aV K (xs.set i x) (cs.set i c):=by
 refine .of (by simp[h.length]) λj y d hy hd=>?_;simp only[mW] at hy hd;split at hy
 ·rename_i e;subst e;rw[aH rfl] at hd;split at hy
  ·rename_i aC;rw[aH (h.length ▸ aC)] at hd;injection hy with hy;injection hd with hd;subst hy;subst hd;exact hx
  ·cases hy
 ·rename_i e;rw[aJ e] at hd;obtain⟨c',iN,hr⟩:=h.get hy;rw[hd] at iN;injection iN with e;subst e;exact hr
def aV.map_mk{α:Type}{l:List α}{f:α->AV}{f':α->aT}(h:∀a∈l,a9 K (f a) (f' a)):aV K (l.map f) (l.map f'):=by
 induction l with
 |nil=>exact .nil|cons a l ih=>exact .cons _ _ _ _ (h a bJ) (ih λb hb=>h b (by simp[hb]))
def a9.jl{x:aT}{c:aT}(h:a9 K (.v x) c):c=x/\scalar x=ah:=by cases h with|v _ h=>exact⟨rfl,h⟩
def Pp:∀{cs:List AV} {l:List aT},CH cs=aa l->∀{vs:List aT},aV K cs vs->vs=l
 | [],l,h,_,hv=>by cases hv;simp[CH] at h;exact h.symm ▸ rfl
 | .v x::r,l,h,_,hv=>by
  cases hv with|cons _ c _ cs hx hs=>simp only[CH,dN] at h;obtain⟨l',tG,rfl⟩:=h;rw[(a9.jl hx).1,Pp tG hs]
 | .bad::_,_,h,_,_| .list .. ::_,_,h,_,_| .arr .. ::_,_,h,_,_| .agg _::_,_,h,_,_| .tuple _::_,_,h,_,_| .ptr .. ::_,_,h,_,_
 | .elem .. ::_,_,h,_,_| .func .. ::_,_,h,_,_| .yield _::_,_,h,_,_| .iface .. ::_,_,h,_,_=>by simp[CH] at h
def KT{x:AV}{p:Value}(h:x.flat=some p){c:Value}(hv:a9 K x c):c=p:=by
 unfold AV.flat at h;split at h
 ·injection h with h;subst h;exact(a9.jl hv).1
 ·simp only[dN] at h;obtain⟨l,hl,rfl⟩:=h;cases hv with|agg _ vs hs=>rw[<-Pp hl hs]
 ·injection h with h;subst h;cases hv with|iface _ _ _ hx=>rw[(a9.jl hx).1]
 ·simp only[dN] at h;obtain⟨l,hl,rfl⟩:=h;cases hv with|iface _ _ _ hx=>cases hx with|agg _ vs hs=>rw[<-Pp hl hs]
 ·injection h with h;subst h;cases hv with|nil=>rfl|list _ _ _ _ _ _ _ _ _ _ _ _ ht _=>exact ht.2.elim
 ·cases h
def Po:∀{xs:List AV} {l:List aT},flatAll xs=aa l->∀{vs:List aT},aV K xs vs->vs=l
 | [],l,h,_,hv=>by cases hv;simp[flatAll] at h;exact h.symm ▸ rfl
 |x::r,l,h,_,hv=>by
  cases hv with
  |cons _ c _ cs hx hs=>
   simp only[flatAll] at h;split at h
   ·rename_i v l' h1 h2;injection h with h;subst h;rw[KT h1 hx,Po h2 hs]
   ·cases h
def JD{z:aT}{x:AV}(h:pQ z=aa x):a9 K x z:=by
 unfold pQ at h;split at h
 ·injection h with h;subst h;exact .v _ ‹_›
 ·cases h
def RY(x:aT):a9 K (wX x) x:=by
 unfold wX;split
 ·exact .nil 0
 ·split
  ·exact .v _ ‹_›
  ·exact .bad _
def L0(x:aT):a9 K (tP x) x:=by
 unfold tP;split
 ·rename_i cs;refine .agg _ _ ?_;have:aV K (cs.toList.map wX) (cs.toList.map id):=aV.map_mk λa _=>RY a;simpa using this
 ·split
  ·rename_i vs h;have:vs=#[]:=(by simpa using h);subst this;exact .tuple _ _ .nil
  ·exact .bad _
 ·exact .iface _ _ _ (RY _)
 ·exact RY _
def KD{x:AV}{cs:List AV}(h:x.cd=aa cs){c:aT}(hv:a9 K x c):aV K cs c.cells.toList/\cs.all AV.eH=ah:=by
 unfold AV.cd at h;split at h
 ·split at h
  ·rename_i ha;injection h with h;subst h;cases hv with|agg _ vs hs=>exact⟨hs,ha⟩
  ·cases h
 ·cases h
 ·cases h
 ·rename_i h1 h2 h3;injection h with h;subst h;have rz:x.eH=ah:=by cases x<;>first|rfl|exact absurd rfl (h1 _)|exact absurd rfl (h2 _)|exact absurd rfl h3
  refine⟨?_,by simp[rz]⟩;have:c.cells=#[c]:=by cases hv<;>first|rfl|exact absurd rfl (h1 _)|exact absurd rfl (h2 _)|exact absurd rfl h3|(cases c<;>first|rfl|simp[scalar] at *)
  rw[this];exact .cons _ _ _ _ hv .nil
def amD{c}(h:scalar c=ah):FL c=ah:=by cases c<;>first|rfl|simp[scalar] at h
def amC{x:AV}(h:x.eH=ah){c:aT}(hv:a9 K x c):FL c=ah:=by cases hv<;>first|rfl|exact amD ‹_›|(simp[AV.eH] at h;done)
end
def Av(K:a8)(b:Nat)(cs:List AV)(cells:Array aT):Prop:=
 aV K cs (cells.toList.take cs.length)/\∀N sz room,K.lb b=aa (N,sz,room)->cs=[]∨(cs.length=N * sz/\room<=cells.size)
def Av.mono{K K'}(h:K.Le K'){b}(hb:b<K.β.length){cs}{cells}(r:Av K b cs cells):Av K' b cs cells:=
 ⟨r.1.mono h,by rw[h.lb b hb];exact r.2⟩
def Av.nil{K}{b}{cells}:Av K b [] cells:=⟨.nil,λ_ _ _ _=>.inl rfl⟩
def Av.le{K}{b}{cs}{cells}(r:Av K b cs cells):cs.length<=cells.size:=by have:=r.1.length;rw[fm] at this;simp only[yS] at this;omega
def mZ(K:a8)(s:qC)(tmps:Array aT):Prop:=∀t,a9 K (s.get t) (tmps.getD t undef)
def mZ.mono{K K'}(h:K.Le K'){s}{tmps}(hs:mZ K s tmps):mZ K' s tmps:=λt=>(hs t).mono h
structure b9(K:a8)(G:Nat->Option (List AV))(ok:bq->Nat->Code->Bool)(w0:cG)(h:ar)(w:cG):Prop where
 dw:Below K.base w0 w
 size:K.base<=w.heap.size
 ic:∀g j c,K.ic g j=aa c->w.cell? ⟨g,j,av⟩=aa c
 fb:∀g cs,G g=aa cs->∃cells,aV K cs cells/\∀(j:Nat) (c:aT),cells[j]?=aa c->K.ic g j=aa c
 my:K.β.length=h.boxes.length
 rf:∀(b b' g:Nat),K.β[b]?=aa g->K.β[b']?=aa g->b=b'∨h.boxes[b]?=aa []∨h.boxes[b']?=aa []
 box:∀(b g:Nat) (cs:List AV),K.β[b]?=aa g->h.boxes[b]?=aa cs->
  K.base<=g/\(∀j,K.ic g j=av)/\cs.all AV.eH=ah/\∃cells e,w.heap[g]?=aa (.cells cells e (0,0))/\Av K b cs cells
 o5:K.γ.length=h.loops.length
 rR:∀(b b' g:Nat),K.γ[b]?=aa g->K.γ[b']?=aa g->b=b'
 loop:∀(l g:Nat) (r:iW),K.γ[l]?=aa g->h.loops[l]?=aa r->K.base<=g/\∃fn tmps d,
  w.heap[g]?=aa (.loop {state:=r.state,pending:=r.pending,fn,tmps,params:=r.params,assign:=r.assign,body:=r.body,defers:=d})/\
  mZ K r.tmps tmps/\ok fn tmps.size r.assign=ah/\ok fn tmps.size r.body=ah/\∀p∈r.params.toList,p<tmps.size
 tn:K.tn=h.tn
 tok:∀t,alive h t=ah->K.base<=(K.tk t).1/\(∀b:Nat,K.β[b]?≠aa (K.tk t).1)/\(∀j,(K.tk t).2.1<=j->K.ic (K.tk t).1 j=av)/\
  ∃cells e fz,w.heap[(K.tk t).1]?=aa (.cells cells e fz)/\cells.size=(K.tk t).2.2/\
   ∀j,(K.tk t).2.1<=j->j<cells.size->w.frozen? ⟨(K.tk t).1,j,av⟩=aB
 qX:∀t t',alive h t=ah->alive h t'=ah->(K.tk t).1=(K.tk t').1->t=t'
 md:∀r∈K.md,K.base<=r/\w.heap[r]?=aa (.deferred (aa []))
 all:K.base=w0.heap.size
def Addr.na(g o n):(⟨g,o,av⟩:Addr).add n=⟨g,o+n,av⟩:=by
 unfold Addr.add;split
 ·subst_vars;rfl
 ·rfl
def vi{h}{t}(ha:alive h t=ah):t<h.tn:=by unfold alive at ha;simp at ha;exact ha.1
section
variable {K:a8} {G:Nat->Option (List AV)} {ok:bq->Nat->Code->Bool} {w0 w:cG} {h:ar}
def b9.BD(s:b9 K G ok w0 h w){g j:Nat}{c:aT}(hc:K.ic g j=aa c):g<w.heap.size:=by
 have:=s.ic g j c hc;unfold World.cell? at this;rcases ez g w.heap.size with aC|eF
 ·exact aC
 ·simp[yR eF] at this
def b9.same{w':cG}(s:b9 K G ok w0 h w)(hh:w'.heap=w.heap)(ht:w'.tape=w.tape)(ho:w'.os=w.os)(hp:w'.output=w.output):b9 K G ok w0 h w':=by
 have hc:∀a,w'.cell? a=w.cell? a:=λa=>by simp[World.cell?,hh]
 have hf:∀a,w'.frozen? a=w.frozen? a:=λa=>by simp[World.frozen?,hh]
 refine⟨⟨ho.trans s.dw.os,ht.trans s.dw.tape,hp.trans s.dw.output,by rw[hh];exact s.dw.size,λk hk=>by rw[hh];exact s.dw.block k hk⟩,by rw[hh];exact s.size,
  λg j c hg=>(hc _).trans (s.ic g j c hg),s.fb,s.my,s.rf,λb g cs hb hc=>by rw[hh];exact s.box b g cs hb hc,s.o5,s.rR,
  λl g r hl hr=>by rw[hh];exact s.loop l g r hl hr,s.tn,λt ht=>?_,s.qX,λr hr=>by rw[hh];exact s.md r hr,s.all⟩
 obtain⟨h1,h2,h3,cells,e,fz,h4,h5,h6⟩:=s.tok t ht;exact⟨h1,h2,h3,cells,e,fz,by rw[hh];exact h4,h5,λj hj hl=>(hf _).trans (h6 j hj hl)⟩
def b9.drew(s:b9 K G ok w0 h w)(n:Nat):b9 K G ok w0 h {w with drawn:=n}:=s.same rfl rfl rfl rfl
def C4(w:cG)(o){k}(hk:k<w.heap.size):(w.heap.push o)[k]?=w.heap[k]?:=by rw[Array.getElem?_push,aJ ai]
def pO{w:cG}{g}{o}(h:w.heap[g]?=aa o):g<w.heap.size:=by
 rcases ez g w.heap.size with aC|eF
 ·exact aC
 ·rw[yR eF] at h;cases h
def b9.push(s:b9 K G ok w0 h w)(o:Obj):b9 K G ok w0 h {w with heap:=w.heap.push o}:=by
 have hk:∀{k:Nat} {o':Obj},w.heap[k]?=aa o'->(w.heap.push o)[k]?=aa o':=λhk=>(C4 w o (pO hk)).trans hk;refine⟨⟨s.dw.os,s.dw.tape,s.dw.output,by have:=s.dw.size;simp;omega,λk hk=>(C4 w o (nE hk s.size)).trans (s.dw.block k hk)⟩,by have:=s.size;simp;omega,
  λg j c hg=>?_,s.fb,s.my,s.rf,λb g cs hb hc=>?_,s.o5,s.rR,λl g r hl hr=>?_,s.tn,λt ht=>?_,s.qX,λr hr=>?_,s.all⟩
 ·rw[<-s.ic g j c hg];exact World.cell?_of_block (w:=w) (C4 w o (s.BD hg))
 ·obtain⟨h1,h2,ha,cells,e,h3,h4⟩:=s.box b g cs hb hc;exact⟨h1,h2,ha,cells,e,hk h3,h4⟩
 ·obtain⟨h1,fn,tmps,d,h2,h3⟩:=s.loop l g r hl hr;exact⟨h1,fn,tmps,d,hk h2,h3⟩
 ·obtain⟨h1,h2,h3,cells,e,fz,h4,h5,h6⟩:=s.tok t ht;refine⟨h1,h2,h3,cells,e,fz,hk h4,h5,λj hj hl=>?_⟩;rw[<-h6 j hj hl];exact World.frozen?_of_block (w:=w) (C4 w o (pO h4))
 ·exact⟨(s.md r hr).1,hk (s.md r hr).2⟩
def wD{α:Type}{l}{x}{i:Nat}{y:α}(h:l[i]?=aa y):(l++[x])[i]?=aa y:=by rw[sY (aW.1 h).1];exact h
def tC{α:Type}{l}{x}{i}{y:α}(h:(l++[x])[i]?=aa y):l[i]?=aa y∨(i=l.length/\y=x):=by
 rcases Nat.lt_trichotomy i l.length with aC|mN|Ig
 ·rw[sY aC] at h;exact .inl h
 ·subst mN;simp at h;exact .inr ⟨rfl,h.symm⟩
 ·rw[List.getElem?_eq_none (by simp;omega)] at h;cases h
def a8.p9(K:a8)(g:Nat)(x:Option (Nat × Nat × Nat)):a8:={K with β:=K.β++[g],lb:=λb=>if b=K.β.length then x else K.lb b}
def a8.box(K:a8)(g:Nat):a8:=K.p9 g av
def a8.FQ(K:a8)(g)(x):K.Le (K.p9 g x):=
 ⟨rfl,λ_ _ _ h=>h,λ_ _ h=>wD h,λ_ _ h=>h,aL _,λ_ _=>rfl,λ_ h=>h,λb hb=>aJ ai,λ_ _ _ h=>.inl h⟩
def a8.Ry(K:a8)(g):K.Le (K.box g):=K.FQ g av
def b9.RT(s:b9 K G ok w0 h w){cs:List AV}{cells:Array aT}(e:aP)(x:Option (Nat × Nat × Nat))(hv:aV K cs (cells.toList.take cs.length))(ry:cs.all AV.eH=ah)
 (hx:∀N sz room,x=aa (N,sz,room)->cs=[]∨(cs.length=N * sz/\room<=cells.size)):
 b9 (K.p9 w.heap.size x) G ok w0 {h with boxes:=h.boxes++[cs]} {w with heap:=w.heap.push (.cells cells e)}/\
 a9 (K.p9 w.heap.size x) (.ptr (.box h.boxes.length) 0) (.pointer (aa ⟨w.heap.size,0,av⟩)):=by
 have le:=K.FQ w.heap.size x;have p:=s.push (.cells cells e);have mD:(K.p9 w.heap.size x).β[h.boxes.length]?=aa w.heap.size:=by simp[a8.p9,<-s.my]
 have aC:∀{b g:Nat},K.β[b]?=aa g->g<w.heap.size:=λ{b g} hb=>by
  have jE:b<h.boxes.length:=by rw[<-s.my];exact(aW.1 hb).1
  obtain⟨_,_,_,_,_,h3,_⟩:=s.box b g _ hb (aU jE);exact pO h3
 have C8:∀j,K.ic w.heap.size j=av:=λj=>by
  cases hc:K.ic w.heap.size j with|none=>rfl|some c=>have:=s.BD hc;omega
 refine⟨⟨p.dw,p.size,p.ic,λg cs hg=>?_,by simp[a8.p9,s.my],λb b' g hb iM=>?_,λb g ej hb hc=>?_,p.o5,p.rR,λl g r hl hr=>?_,p.tn,λt ht=>?_,p.qX,p.md,s.all⟩,.box _ _ _ mD⟩
 ·obtain⟨dT,h1,h2⟩:=s.fb g cs hg;exact⟨dT,h1.mono le,h2⟩
 ·rcases tC hb with hb|⟨rfl,rfl⟩<;>rcases tC iM with iM|⟨rfl,h2⟩
  ·rcases s.rf _ _ _ hb iM with p|p|p
   ·exact .inl p
   ·exact .inr (.inl (wD p))
   ·exact .inr (.inr (wD p))
  ·have:=aC hb;omega
  ·have:=aC iM;omega
  ·exact .inl rfl
 ·rcases tC hb with hb|⟨rfl,rfl⟩
  ·rcases tC hc with hc|⟨rfl,rfl⟩
   ·obtain⟨h1,h2,ha,dT,e',h3,h4⟩:=p.box b g ej hb hc;exact⟨h1,h2,ha,dT,e',h3,h4.mono le (aW.1 hb).1⟩
   ·have:h.boxes.length<K.β.length:=(aW.1 hb).1;have:=s.my;omega
  ·have:ej=cs:=(by rw[s.my] at hc;simp at hc;exact hc.symm);subst this;exact⟨s.size,C8,ry,cells,e,by simp,hv.mono le,by simp only[a8.p9,if_true];exact hx⟩
 ·obtain⟨h1,fn,tmps,d,h2,h3,h4⟩:=p.loop l g r hl hr;exact⟨h1,fn,tmps,d,h2,h3.mono le,h4⟩
 ·obtain⟨h1,h2,h3,dT,e',fz,h4,h5⟩:=p.tok t ht;refine⟨h1,λb hb=>?_,h3,dT,e',fz,h4,h5⟩;obtain⟨_,_,_,_,_,_,PE,_⟩:=s.tok t ht;rcases tC hb with hb|⟨_,hb⟩
  ·exact h2 b hb
  ·have:=pO PE;simp only[a8.p9] at hb;omega
def aV.whole{cs:List AV}{vs:List aT}(h:aV K cs vs):aV K cs (vs.take cs.length):=by rw[gK (by rw[h.length];exact aL _)];exact h
def b9.RS(s:b9 K G ok w0 h w){cs:List AV}{cells:Array aT}(e:aP)(hv:aV K cs cells.toList)(ry:cs.all AV.eH=ah):
 b9 (K.box w.heap.size) G ok w0 {h with boxes:=h.boxes++[cs]} {w with heap:=w.heap.push (.cells cells e)}/\
 a9 (K.box w.heap.size) (.ptr (.box h.boxes.length) 0) (.pointer (aa ⟨w.heap.size,0,av⟩)):=s.RT e av hv.whole ry (λ_ _ _ q=>by cases q)
structure uY(w w':cG)(g:Nat)(o:Obj):Prop where
 os:w'.os=w.os
 tape:w'.tape=w.tape
 output:w'.output=w.output
 size:w'.heap.size=w.heap.size
 other:∀k,k≠g->w'.heap[k]?=w.heap[k]?
 this:w'.heap[g]?=aa o
def uY.lt{w w'}{g}{o}(c:uY w w' g o):g<w.heap.size:=c.size ▸ pO c.this
def uY.below{w w'}{g}{o}(c:uY w w' g o){B}(hB:B<=g):Below B w w':=
 ⟨c.os,c.tape,c.output,by rw[c.size];exact aL _,λk hk=>c.other k ai⟩
def oi(fz:Nat × Nat)(j:Nat):Bool:=decide (fz.1<=j)&&decide (j<fz.2)
def Ba{w:cG}{g}{cells}{e}{fz}(h:w.heap[g]?=aa (.cells cells e fz))(j):w.frozen? ⟨g,j,av⟩=oi fz j:=by obtain⟨lo,hi⟩:=fz;simp[World.frozen?,h,oi]
def tw{w:cG}{g}{cells}{e}{fz}(h:w.heap[g]?=aa (.cells cells e fz))(j):w.cell? ⟨g,j,av⟩=cells[j]?:=by simp[World.cell?,h]
def b9.ajb(s:b9 K G ok w0 h w)(b:Nat):b9 K G ok w0 {h with boxes:=h.boxes.set b []} w:=by
 refine⟨s.dw,s.size,s.ic,s.fb,by simp[s.my],λb1 b2 g h1 h2=>?_,λb' g' ej iM iN=>?_,s.o5,s.rR,s.loop,s.tn,s.tok,s.qX,s.md,s.all⟩
 ·have key:∀k,h.boxes[k]?=aa []->(h.boxes.set b [])[k]?=aa []:=λk hk=>by
   rw[mW];split
   ·rename_i e;subst e;rw[aH (aW.1 hk).1]
   ·exact hk
  rcases s.rf _ _ _ h1 h2 with p|p|p
  ·exact .inl p
  ·exact .inr (.inl (key _ p))
  ·exact .inr (.inr (key _ p))
 ·simp only[mW] at iN;split at iN
  ·rename_i e';subst e';split at iN
   ·rename_i aC;injection iN with iN;subst iN;obtain⟨k1,k2,_,cells0,e0,k3,k4⟩:=s.box _ _ _ iM (aU aC);exact⟨k1,k2,rfl,cells0,e0,k3,.nil⟩
   ·cases iN
  ·exact s.box b' g' ej iM iN
def b9.at5{w':cG}(s:b9 K G ok w0 h w){b g:Nat}{cs dw:List AV}{cells:Array aT}{e:aP}(hb:K.β[b]?=aa g)(hold:h.boxes[b]?=aa dw)(bG:dw≠[])(bR:cs.length=dw.length)(dP:∀c0 e0,w.heap[g]?=aa (.cells c0 e0 (0,0))->c0.size<=cells.size)
 (c:uY w w' g (.cells cells e (0,0))) (hv:aV K cs (cells.toList.take cs.length)) (ry:cs.all AV.eH=ah):b9 K G ok w0 {h with boxes:=h.boxes.set b cs} w':=by
 have aC:=(aW.1 hold).1;obtain⟨k1,k2,_,cells0,e0,k3,k4⟩:=s.box b g _ hb hold;refine⟨s.dw.trans (c.below k1),by rw[c.size];exact s.size,λg' j x hx=>?_,s.fb,by simp[s.my],λb1 b2 g h1 h2=>?_,λb' g' ej iM iN=>?_,s.o5,s.rR,λl g' r hl hr=>?_,s.tn,λt ht=>?_,s.qX,λr hr=>?_,s.all⟩
 ·have bG:g'≠g:=by rintro rfl;rw[k2 j] at hx;cases hx
  rw[<-s.ic g' j x hx];exact World.cell?_of_block (w:=w) (c.other g' bG)
 ·have key:∀k,h.boxes[k]?=aa []->(h.boxes.set b cs)[k]?=aa []:=λk hk=>by
   rw[mW,aJ]
   ·exact hk
   ·rintro rfl;rw[hold] at hk;injection hk with hk;exact bG hk
  rcases s.rf _ _ _ h1 h2 with p|p|p
  ·exact .inl p
  ·exact .inr (.inl (key _ p))
  ·exact .inr (.inr (key _ p))
 ·simp only[mW] at iN;split at iN
  ·rename_i e';subst e';injection iN with iN;subst iN;rw[hb] at iM;injection iM with iM;subst iM;refine⟨k1,k2,ry,cells,e,c.this,hv,λN sz room q=>?_⟩;rcases k4.2 N sz room q with r|⟨r1,r2⟩
   ·exact absurd r bG
   ·exact .inr ⟨bR.trans r1,fG r2 (dP _ _ k3)⟩
  ·rename_i Lq;by_cases jo:g'=g
   ·subst jo;rcases s.rf _ _ _ hb iM with p|p|p
    ·exact absurd p Lq
    ·rw[hold] at p;injection p with p;exact absurd p bG
    ·rw[iN] at p;injection p with p;subst p;exact⟨k1,k2,rfl,cells,e,c.this,.nil⟩
   ·obtain⟨h1,h2,ha,dT,e',h3,h4⟩:=s.box b' g' ej iM iN;exact⟨h1,h2,ha,dT,e',(c.other g' jo).trans h3,h4⟩
 ·obtain⟨h1,fn,tmps,d,h2,h3⟩:=s.loop l g' r hl hr;have jo:g'≠g:=by rintro rfl;rw[h2] at k3;cases k3
  exact⟨h1,fn,tmps,d,(c.other g' jo).trans h2,h3⟩
 ·obtain⟨h1,h2,h3,dT,e',fz,h4,h5,h6⟩:=s.tok t ht;have jo:(K.tk t).1≠g:=λe=>h2 b (e ▸ hb);refine⟨h1,h2,h3,dT,e',fz,(c.other _ jo).trans h4,h5,λj hj hl=>?_⟩;rw[<-h6 j hj hl];exact World.frozen?_of_block (w:=w) (c.other _ jo)
 ·have h2:=(s.md r hr).2;have jo:r≠g:=by rintro rfl;rw[h2] at k3;cases k3
  exact⟨(s.md r hr).1,(c.other r jo).trans h2⟩
def b9.avN{w':cG}(s:b9 K G ok w0 h w){g:Nat}{cs:List AV}{cells:Array aT}{e:aP}(hg:K.base<=g)(jh:∀j,K.ic g j=av)(P5:∀b:Nat,K.β[b]?=aa g->h.boxes[b]?=aa [])
 (ame:∀t,alive h t=ah->(K.tk t).1≠g) {c0:Array aT} {e0:aP} {z0:Nat × Nat} (Dr:w.heap[g]?=aa (.cells c0 e0 z0))
 (x:Option (Nat × Nat × Nat)) (hx:∀N sz room,x=aa (N,sz,room)->cs=[]∨(cs.length=N * sz/\room<=cells.size))
 (c:uY w w' g (.cells cells e (0,0))) (hv:aV K cs (cells.toList.take cs.length)) (ry:cs.all AV.eH=ah):
 b9 (K.p9 g x) G ok w0 {h with boxes:=h.boxes++[cs]} w'/\(K.p9 g x).β[h.boxes.length]?=aa g:=by
 have le:=K.FQ g x;have mD:(K.p9 g x).β[h.boxes.length]?=aa g:=by simp[a8.p9,<-s.my]
 refine⟨⟨s.dw.trans (c.below hg),by rw[c.size];exact s.size,λg' j x hx=>?_,λg' ej hg'=>?_,by simp[a8.p9,s.my],λb b' g' hb iM=>?_,λb g' ej hb hc=>?_,s.o5,s.rR,λl g' r hl hr=>?_,s.tn,λt ht=>?_,s.qX,λr hr=>?_,s.all⟩,mD⟩
 ·have tM:K.ic g' j=aa x:=hx;have bG:g'≠g:=λq=>by rw[q,jh j] at tM;cases tM
  rw[<-s.ic g' j x tM];exact World.cell?_of_block (w:=w) (c.other g' bG)
 ·obtain⟨dT,h1,h2⟩:=s.fb g' ej hg';exact⟨dT,h1.mono le,h2⟩
 ·rcases tC hb with p|⟨p1,p2⟩<;>rcases tC iM with q|⟨q1,q2⟩
  ·rcases s.rf _ _ _ p q with r|r|r
   ·exact .inl r
   ·exact .inr (.inl (wD r))
   ·exact .inr (.inr (wD r))
  ·subst q2;exact .inr (.inl (wD (P5 _ p)))
  ·subst p2;exact .inr (.inr (wD (P5 _ q)))
  ·exact .inl (by rw[p1,q1])
 ·rcases tC hb with p|⟨p1,p2⟩
  ·have jE:b<h.boxes.length:=(by rw[<-s.my];exact(aW.1 p).1);rw[sY jE] at hc;by_cases jo:g'=g
   ·subst jo;have:=P5 b p;rw[hc] at this;injection this with this;subst this;exact⟨hg,jh,rfl,cells,e,c.this,.nil⟩
   ·obtain⟨h1,h2,ha,dT,e',h3,h4⟩:=s.box b g' ej p hc;exact⟨h1,h2,ha,dT,e',(c.other g' jo).trans h3,h4.mono le (aW.1 p).1⟩
  ·subst p2;have:ej=cs:=(by rw[p1,s.my] at hc;simp at hc;exact hc.symm);subst this;exact⟨hg,jh,ry,cells,e,c.this,hv.mono le,by rw[p1];simp only[a8.p9,if_true];exact hx⟩
 ·obtain⟨h1,fn,tmps,d,h2,h3,h4⟩:=s.loop l g' r hl hr;have jo:g'≠g:=by rintro rfl;rw[h2] at Dr;cases Dr
  exact⟨h1,fn,tmps,d,(c.other g' jo).trans h2,h3.mono le,h4⟩
 ·obtain⟨h1,h2,h3,dT,e',fz,h4,h5,h6⟩:=s.tok t ht;have jo:=ame t ht;refine⟨h1,λb hb=>?_,h3,dT,e',fz,(c.other _ jo).trans h4,h5,λj hj hl=>?_⟩
  ·rcases tC hb with p|⟨-,p⟩
   ·exact h2 b p
   ·exact jo p
  ·rw[<-h6 j hj hl];exact World.frozen?_of_block (w:=w) (c.other _ jo)
 ·have h2:=(s.md r hr).2;have jo:r≠g:=by rintro rfl;rw[h2] at Dr;cases Dr
  exact⟨(s.md r hr).1,(c.other r jo).trans h2⟩
def a8.row(K:a8)(g off m size:Nat)(cells:Nat->Option aT):a8:=
 {K with ic:=λg' j=>if g'=g/\off<=j/\j<m then cells j else K.ic g' j,tn:=K.tn+1,tk:=λt=>if t=K.tn then (g,m,size) else K.tk t}
def a8.RA{K:a8}{g off m size}{cells}(h:∀j,off<=j->K.ic g j=av)(hb:K.base<=g):K.Le (K.row g off m size cells):=by
 refine⟨rfl,λg' j c hc=>?_,λ_ _ h=>h,λ_ _ h=>h,Nat.le_succ _,λt ht=>?_,λ_ h=>h,λ_ _=>rfl,λg' j c hc=>?_⟩
 ·simp only[a8.row];rw[aJ]
  ·exact hc
  ·rintro⟨rfl,h1,_⟩;rw[h j h1] at hc;cases hc
 ·simp only[a8.row];rw[aJ ai]
 ·simp only[a8.row] at hc;split at hc
  ·rename_i q;rw[q.1];exact .inr hb
  ·exact .inl hc
def b9.row{w':cG}{h':ar}(s:b9 K G ok w0 h w){g off m:Nat}{cells:Array aT}{e:aP}{fz:Nat × Nat}
 (HX:h'.boxes=h.boxes) (YO:h'.loops=h.loops) (uI:h'.tn=h.tn+1) (eR:∀t,alive h' t=ah->t=h.tn∨(alive h t=ah/\(K.tk t).1≠g))
 (Bf:K.base<=g) (Lq:∀b:Nat,K.β[b]?≠aa g) (jh:∀j,off<=j->K.ic g j=av) (dP:w.heap.size<=w'.heap.size)
 (QM:w'.os=w.os) (Rd:w'.tape=w.tape) (Bu:w'.output=w.output)
 (oy:∀k o,k≠g->w.heap[k]?=aa o->w'.heap[k]?=aa o) (oT:w'.heap[g]?=aa (.cells cells e fz))
 (Dr:∀o,w.heap[g]?=aa o->∃c0 e0 z0,o=.cells c0 e0 z0)
 (alz:∀j c,K.ic g j=aa c->cells[j]?=aa c) (hom:off<=m) (_hm:m<=cells.size) (yl:∀j,m<=j->j<cells.size->oi fz j=aB):
 b9 (K.row g off m cells.size (λj=>cells[j]?)) G ok w0 h' w':=by
 have le:=a8.RA (m:=m) (size:=cells.size) (cells:=λj=>cells[j]?) jh Bf;refine⟨?_,fG s.size dP,λg' j x hx=>?_,λg' cs hg=>?_,by rw[HX];exact s.my,by rw[HX];exact s.rf,λb g' cs hb hc=>?_,by rw[YO];exact s.o5,s.rR,λl g' r hl hr=>?_,by rw[uI];simp[a8.row,s.tn],
  λt ht=>?_,λt t' ht IG mN=>?_,λr hr=>?_,s.all⟩
 ·refine s.dw.trans ⟨QM,Rd,Bu,dP,λk hk=>?_⟩;have aC:k<w.heap.size:=nE hk s.size;have C9:w.heap[k]?=aa (w.heap[k]):=mV aC;have vy:k<K.base:=hk;rw[C9];exact oy k _ ai C9
 ·simp only[a8.row] at hx;split at hx
  ·rename_i hc;obtain⟨rfl,_,_⟩:=hc;rw[tw oT];exact hx
  ·by_cases jo:g'=g
   ·subst jo;rw[tw oT];exact alz j x hx
   ·have aC:=s.BD hx;rw[<-s.ic g' j x hx];refine World.cell?_of_block (w:=w) ?_;simp only;rw[mV aC];exact oy g' _ jo (mV aC)
 ·obtain⟨dT,h1,h2⟩:=s.fb g' cs hg;exact⟨dT,h1.mono le,λj c hj=>le.ic _ _ _ (h2 j c hj)⟩
 ·rw[HX] at hc;obtain⟨h1,h2,ha,dT,e',h3,h4⟩:=s.box b g' cs hb hc;have jo:g'≠g:=λe=>Lq b (e ▸ hb);refine⟨h1,λj=>?_,ha,dT,e',oy g' _ jo h3,h4.mono le (aW.1 hb).1⟩;simp only[a8.row];rw[aJ (λhh=>jo hh.1)];exact h2 j
 ·rw[YO] at hr;obtain⟨h1,fn,tmps,d,h2,h3,h4⟩:=s.loop l g' r hl hr;have jo:g'≠g:=by rintro rfl;obtain⟨_,_,_,h⟩:=Dr _ h2;cases h
  exact⟨h1,fn,tmps,d,oy g' _ jo h2,h3.mono le,h4⟩
 ·rcases eR t ht with rfl|⟨yo,wR⟩
  ·simp only[a8.row,s.tn,if_true];refine⟨Bf,Lq,λj hj=>?_,cells,e,fz,oT,rfl,λj hj hl=>(Ba oT j).trans (yl j hj hl)⟩;rw[aJ ai];exact jh j ai
  ·have amd:=vi yo;have e1:(K.row g off m cells.size (λj=>cells[j]?)).tk t=K.tk t:=le.tk t (by rw[s.tn];exact amd);rw[e1];obtain⟨h1,h2,h3,dT,e',fz',h4,h5,h6⟩:=s.tok t yo;refine⟨h1,h2,λj hj=>?_,dT,e',fz',oy _ _ wR h4,h5,λj hj hl=>?_⟩
   ·simp only[a8.row];rw[aJ (λhh=>wR hh.1)];exact h3 j hj
   ·rw[<-h6 j hj hl,Ba h4,Ba (oy _ _ wR h4)]
 ·rcases eR t ht with rfl|⟨yo,wR⟩<;>rcases eR t' IG with rfl|⟨Rc,amb⟩
  ·rfl
  ·exfalso;have e1:(K.row g off m cells.size (λj=>cells[j]?)).tk t'=K.tk t':=le.tk t' (by rw[s.tn];exact vi Rc);rw[e1] at mN;simp[a8.row,s.tn] at mN;exact amb mN.symm
  ·exfalso;have e1:(K.row g off m cells.size (λj=>cells[j]?)).tk t=K.tk t:=le.tk t (by rw[s.tn];exact vi yo);rw[e1] at mN;simp[a8.row,s.tn] at mN;exact wR mN
  ·have e1:(K.row g off m cells.size (λj=>cells[j]?)).tk t=K.tk t:=le.tk t (by rw[s.tn];exact vi yo);have e2:(K.row g off m cells.size (λj=>cells[j]?)).tk t'=K.tk t':=le.tk t' (by rw[s.tn];exact vi Rc);rw[e1,e2] at mN;exact s.qX t t' yo Rc mN
 ·obtain⟨h1,h2⟩:=s.md r hr;have jo:r≠g:=by rintro rfl;obtain⟨_,_,_,h⟩:=Dr _ h2;cases h
  exact⟨h1,oy r _ jo h2⟩
def a8.tight(K:a8)(g:Nat)(cells:Array aT):a8:={K with ic:=λg' j=>if g'=g then cells[j]? else K.ic g' j}
def b9.an0(s:b9 K G ok w0 h w)(cells:Array aT)(e:aP):
 K.Le (K.tight w.heap.size cells)/\b9 (K.tight w.heap.size cells) G ok w0 h {w with heap:=w.heap.push (.cells cells e)}:=by
 have C8:∀j,K.ic w.heap.size j=av:=λj=>by
  cases hc:K.ic w.heap.size j with|none=>rfl|some c=>have:=s.BD hc;omega
 have le:K.Le (K.tight w.heap.size cells):=by
  refine⟨rfl,λg j c hc=>?_,λ_ _ h=>h,λ_ _ h=>h,aL _,λ_ _=>rfl,λ_ h=>h,λ_ _=>rfl,λg j c hc=>by
   simp only[a8.tight] at hc;split at hc
   ·rename_i q;rw[q];exact .inr s.size
   ·exact .inl hc⟩
  simp only[a8.tight];rw[aJ]
  ·exact hc
  ·rintro rfl;rw[C8] at hc;cases hc
 have p:=s.push (.cells cells e);refine⟨le,p.dw,p.size,λg j x hx=>?_,λg cs hg=>?_,p.my,p.rf,λb g cs hb hc=>?_,p.o5,p.rR,λl g r hl hr=>?_,p.tn,λt ht=>?_,p.qX,p.md,s.all⟩
 ·simp only[a8.tight] at hx;split at hx
  ·subst_vars;rw[tw (cells:=cells) (e:=e) (fz:=(0,0)) bJ];exact hx
  ·exact p.ic g j x hx
 ·obtain⟨dT,h1,h2⟩:=s.fb g cs hg;exact⟨dT,h1.mono le,λj c hj=>le.ic _ _ _ (h2 j c hj)⟩
 ·obtain⟨h1,h2,ha,dT,e',h3,h4⟩:=p.box b g cs hb hc;refine⟨h1,λj=>?_,ha,dT,e',h3,h4.mono le (aW.1 hb).1⟩;simp only[a8.tight];obtain⟨_,_,_,_,_,h3',_⟩:=s.box b g cs hb hc;rw[aJ (by have:=pO h3';omega)];exact h2 j
 ·obtain⟨h1,fn,tmps,d,h2,h3,h4⟩:=p.loop l g r hl hr;exact⟨h1,fn,tmps,d,h2,h3.mono le,h4⟩
 ·obtain⟨h1,h2,h3,dT,e',fz,h4,h5⟩:=p.tok t ht;obtain⟨_,_,_,_,_,_,PE,_⟩:=s.tok t ht;refine⟨h1,h2,λj hj=>?_,dT,e',fz,h4,h5⟩;simp only[a8.tight];have:=pO PE;have e1:(K.tight w.heap.size cells).tk t=K.tk t:=rfl;rw[aJ (by show(K.tk t).1≠_;omega)];exact h3 j hj
end
section
variable {P:bL}
def dL{t:aP}{d:TypeDesc}(h:P.underlying t=aa d)(w:cG):(underlying t).run P w=.ok d w:=run_underlying h w
def sO{t:aP}{i:TypeInfo}(h:P.info? t=aa i)(w:cG):(typeInfo t).run P w=.ok i w:=by simp[typeInfo,h]
def auo{t:aP}{n:Nat}(h:dJ P t=aa n):∃i,P.info? t=aa i/\i.size=n:=by simpa [dJ] using h
def oE{t:aP}{n:Nat}(h:dJ P t=aa n)(w:cG):(sizeOf t).run P w=.ok n w:=by obtain⟨i,h1,h2⟩:=auo h;simp[sizeOf,sO h1,h2]
def MT{t:aP}{b:Bool}(h:gY P t=aa b)(w:cG):(isAgg t).run P w=.ok b w:=by
 unfold gY at h;unfold isAgg;cases hu:P.underlying t with
 |none=>rw[hu] at h;cases h
 |some d=>rw[hu] at h;rw[Sem.run_bind,dL hu];cases d<;>(injection h with h;subst h;rfl)
def Tg{t:aP}{z:AV}(h:iB P t=aa z)(w:cG):∃v,(zeroValue t).run P w=.ok v w/\z=tP v:=by
 unfold iB at h;split at h
 ·rename_i i hi;simp only[dN] at h;obtain⟨v,hv,rfl⟩:=h;exact⟨v,by simp[zeroValue,sO hi,hv],rfl⟩
 ·cases h
def Pq{α:Type}{es:List (List α)}{sz}(hr:∀r∈es,r.length=sz):∀{i:Nat} {row:List α},es[i]?=aa row->(es.flatten.drop (i * sz)).take sz=row:=by
 induction es with
 |nil=>intro i row h;simp at h|cons r es ih=>
  have hl:r.length=sz:=hr r bJ;intro i row h;cases i with|zero=>simp at h;subst h;simp[<-hl]|succ i=>have:=ih (λr gI=>hr r (by simp[gI])) (i:=i) (row:=row) (by simpa using h);rw[<-this];simp only[pW];rw[Eu,show(i+1) * sz=r.length+i * sz by rw[hl,gZ];omega];rw[rh ai];simp
def Ps{α:Type}{es:List (List α)}{sz}(hr:∀r∈es,r.length=sz):∀n:Nat,(es.take n).flatten=es.flatten.take (n * sz):=by
 induction es with
 |nil=>intro n;simp|cons r es ih=>
  have hl:r.length=sz:=hr r bJ;intro n;cases n with|zero=>simp|succ n=>rw[List.take_succ_cons,pW,pW,ih (λr hm=>hr r (by simp[hm])) n,show(n+1) * sz=r.length+n * sz by rw[hl,gZ];omega];rw[Kg,gK (ai:r.length<=r.length+n * sz),(ai:r.length+n * sz - r.length=n * sz)]
def Xe{α:Type}{es:List (List α)}{sz}(hr:∀r∈es,r.length=sz):∀n:Nat,(es.drop n).flatten=es.flatten.drop (n * sz):=by
 induction es with
 |nil=>intro n;simp|cons r es ih=>
  have hl:r.length=sz:=hr r bJ;intro n;cases n with|zero=>simp|succ n=>rw[List.drop_succ_cons,pW,ih (λr hm=>hr r (by simp[hm])) n,show(n+1) * sz=r.length+n * sz by rw[hl,gZ];omega];rw[Eu,rh (ai:r.length<=r.length+n * sz),(ai:r.length+n * sz - r.length=n * sz)];simp
def oh{α:Type}{es:List (List α)}{sz}(hr:∀r∈es,r.length=sz):es.flatten.length=es.length * sz:=by
 induction es with
 |nil=>simp|cons r es ih=>rw[pW,dM,ih (λr gI=>hr r (by simp[gI])),hr r bJ,jd,gZ];omega
end
section
variable {P:bL} {K:a8} {G:Nat->Option (List AV)} {ok:bq->Nat->Code->Bool} {w0 w:cG} {h:ar}
def βaa{b:Nat}{g:Nat}(s:b9 K G ok w0 h w)(hb:K.β[b]?=aa g):∃cs,h.boxes[b]?=aa cs:=by
 have jE:b<h.boxes.length:=by rw[<-s.my];exact(aW.1 hb).1
 exact⟨_,aU jE⟩
def V5(s:b9 K G ok w0 h w){a:AV}{cs:List AV}(hc:Cw G h a=aa cs){ca:aT}(hv:a9 K a ca):
 ∃g p eT,ca=.pointer (aa ⟨g,p,av⟩)/\aV K cs eT/\∀(j:Nat) (c:aT),eT[j]?=aa c->w.cell? ⟨g,p+j,av⟩=aa c:=by
 unfold Cw at hc;split at hc
 ·rename_i r off;simp only[dN] at hc;obtain⟨cs0,h0,rfl⟩:=hc;cases hv with
  |box b g _ hb=>
   obtain⟨_,_,_,cells,e,h3,h4⟩:=s.box b g cs0 hb h0;refine⟨g,off,(cells.toList.take cs0.length).drop off,rfl,h4.1.drop off,λj c hj=>?_⟩;rw[tw h3];simp only[pX,o7] at hj;split at hj
   ·simpa using hj
   ·cases hj
  |fb g _=>obtain⟨cells,h1,h2⟩:=s.fb g cs0 h0;refine⟨g,off,cells.drop off,rfl,h1.drop off,λj c hj=>?_⟩;exact s.ic _ _ _ (h2 (off+j) c (by simpa using hj))
 ·rename_i sz es i off;simp only[dN] at hc;obtain⟨row,h0,rfl⟩:=hc;cases hv with
  |elem _ _ _ _ g o p cells hr gy jh hi hp ha=>
   refine⟨g,p,((cells.drop (i * sz)).take sz).drop off,rfl,?_,λj c hj=>?_⟩
   ·have:=((gy.drop (i * sz)).take sz).drop off
    rwa [Pq hr h0] at this
   ·refine s.ic _ _ _ ?_;have h1:cells[i * sz+off+j]?=aa c:=by
     simp only[pX,o7] at hj;split at hj
     ·rw[<-hj];congr 1;omega
     ·cases hj
    have:=jh _ _ h1;rw[hp];rw[<-this];congr 1;omega
 ·cases hc
def aaf(s:b9 K G ok w0 h w){t:aP}{a x:AV}(he:aI P G h t a=aa x){ca:aT}(hv:a9 K a ca):
 ∃g p v,ca=.pointer (aa ⟨g,p,av⟩)/\(loadVar t ⟨g,p,av⟩).run P w=.ok v w/\a9 K x v:=by
 unfold aI at he;split at he
 ·rename_i cs CO cI;obtain⟨g,p,eT,rfl,gy,rz⟩:=V5 s cI hv;split at he
  ·rename_i n hn;split at he
   ·rename_i eX;injection he with he;subst he;have hl:=run_loadCells_list (P:=P) w ⟨g,p,av⟩ (eT.take n) (λj v hj=>by
     rw[Addr.na];refine rz j v ?_;simp only[o7] at hj;split at hj
     ·exact hj
     ·cases hj)
    have bR:(eT.take n).length=n:=(by rw[fm,<-gy.length];omega);rw[bR] at hl;exact⟨g,p,.agg (eT.take n).toArray,rfl,by simp[loadVar,MT CO,oE hn,hl],.agg _ _ (by simpa using gy.take n)⟩
   ·cases he
  ·cases he
 ·rename_i cs CO cI;obtain⟨g,p,eT,rfl,gy,rz⟩:=V5 s cI hv;cases cs with
  |nil=>simp at he|cons y cs=>
   simp at he;subst he;cases gy with|cons _ c _ ej hx hs=>have:=rz 0 c rfl;simp only[Cf] at this;exact⟨g,p,c,rfl,by simp[loadVar,MT CO,this],hx⟩
 ·cases he
def JB{g:Nat}(off:Nat)(e:aP)(fz:Nat × Nat):∀(vs:List aT) (i:Nat) (cells:Array aT) (w:cG),
 w.heap[g]?=aa (.cells cells e fz)->off+i+vs.length<=cells.size->(∀v∈vs,FL v=ah)->(∀j,off+i<=j->j<off+i+vs.length->oi fz j=aB)->
 ∃w' dT,(storeCells ⟨g,off,av⟩ vs i).run P w=.ok () w'/\uY w w' g (.cells dT e fz)/\
  dT.toList=cells.toList.take (off+i)++vs++cells.toList.drop (off+i+vs.length):=by
 intro vs
 induction vs with
 |nil=>intro i cells w hg hl h1 hf;exact⟨w,cells,rfl,⟨rfl,rfl,rfl,rfl,λ_ _=>rfl,hg⟩,by simp⟩|cons v rest ih=>
  intro i cells w hg hl h1 hf;simp only[jd] at hl hf;have hi:off+i<cells.size:=by omega
  have hv:v.oneCell'=ah:=by have:=h1 v bJ;cases v<;>first|rfl|simp[FL] at this
  have bT:(store ((⟨g,off,av⟩:Addr).add i) v).run P w=.ok () (w.setCell ⟨g,off+i,av⟩ v):=by rw[Addr.na,run_store P w _ v _ hv,tw hg,Ba hg,hf (off+i) ai ai,mV hi];simp
  have oT:(w.setCell ⟨g,off+i,av⟩ v).heap[g]?=aa (.cells (cells.setIfInBounds (off+i) v) e fz):=by simp[World.setCell,D8,hg]
  obtain⟨w',dT,hr,hc,oN⟩:=ih (i+1) _ _ oT (by simp;omega) (λx hx=>h1 x (by simp[hx])) (λj hj hj'=>hf j ai ai);refine⟨w',dT,by simp only[storeCells,Sem.run_bind,bT,Result.andThen_ok,hr],⟨hc.os,hc.tape,hc.output,by rw[hc.size];simp[World.setCell],λk hk=>?_,hc.this⟩,?_⟩
  ·rw[hc.other k hk];simp only[World.setCell,D8];rw[aJ (by exactλe=>hk e.symm)]
  ·rw[oN];simp only[ado,jd];have bR:off+i<cells.toList.length:=(by simpa using hi);rw[Cd,aH bR];rw[(ai:off+(i+1)=off+i+1),(ai:off+i+(rest.length+1)=off+i+1+rest.length)];rw[Kg,Eu];have h1:(cells.toList.take (off+i)).length=off+i:=(by simp;omega);rw[h1];have h2:(cells.toList.take (off+i)).take (off+i+1)=cells.toList.take (off+i):=gK ai;have h3:(cells.toList.take (off+i)).drop (off+i+1+rest.length)=[]:=rh ai;rw[h2,h3];have h4:off+i+1 - (off+i)=1:=(by omega);have h5:off+i+1+rest.length - (off+i)=rest.length+1:=(by omega);rw[h4,h5];simp
def atE{g off fP aF:Nat}{e:aP}(su:fP=off∨aF=0){vs:List aT}{cells:Array aT}{w:cG}(hz:aF=0->vs=[])(hg:w.heap[g]?=aa (.cells cells e (0,0)))(hl:off+vs.length<=cells.size)(h1:∀v∈vs,FL v=ah):
 ∃w' dT,(storeCells ⟨g,fP,av⟩ vs 0).run P w=.ok () w'/\uY w w' g (.cells dT e (0,0))/\dT.toList=cells.toList.take (off+0)++vs++cells.toList.drop (off+0+vs.length):=by
 rcases su with rfl|h0
 ·exact JB _ e (0,0) vs 0 cells w hg ai h1 (λj _ _=>by simp[oi])
 ·have:=hz h0;subst this;exact⟨w,cells,rfl,⟨rfl,rfl,rfl,rfl,λ_ _=>rfl,hg⟩,by simp⟩
def acn{dw cs:List AV}{vo vc:List aT}(off:Nat)(h1:aV K dw vo)(h2:aV K cs vc):aV K (fe dw off cs) (vo.take off++vc++vo.drop (off+vc.length)):=by unfold fe;rw[h2.length];exact((h1.take off).append h2).append (h1.drop _)
def acm{dw cs}(off)(h1:dw.all AV.eH=ah)(h2:cs.all AV.eH=ah):(fe dw off cs).all AV.eH=ah:=by
 rw[eK] at h1 h2 ⊢;intro x hx;simp only[fe,xA] at hx;rcases hx with(hx|hx)|hx
 ·exact h1 x (pY hx)
 ·exact h2 x hx
 ·exact h1 x (N6 hx)
def Tp{α:Type}{vo vc:List α}{off}(h:off+vc.length<=vo.length):(vo.take off++vc++vo.drop (off+vc.length)).length=vo.length:=by simp only[dM,fm,iC];omega
def auE{α:Type}{vo vc:List α}{off n}(h:off+vc.length<=n)(hn:n<=vo.length):(vo.take off++vc++vo.drop (off+vc.length)).take n=(vo.take n).take off++vc++(vo.take n).drop (off+vc.length):=by
 have e1:(vo.take n).take off=vo.take off:=by rw[List.take_take,Nat.min_eq_left ai]
 have e2:(vo.take n).drop (off+vc.length)=(vo.drop (off+vc.length)).take (n - (off+vc.length)):=by rw[List.drop_take]
 rw[e1,e2,Kg];have h1:(vo.take off++vc).length=off+vc.length:=by simp;omega
 rw[gK ai,h1]
def uY.same{w w'}{g}{o}(c:uY w w' g o)(h:w.heap[g]?=some o):w'.heap=w.heap:=by
 apply Array.ext_getElem?;intro k;by_cases hk:k=g
 ·subst hk;rw[c.this,h]
 ·exact c.other k hk
def b9.Ty{w':cG}(s:b9 K G ok w0 h w){b g off:Nat}{cs dw:List AV}{vs:List aT}{cells dT:Array aT}{e:aP}(hb:K.β[b]?=aa g)(hold:h.boxes[b]?=aa dw)(oq:off+cs.length<=dw.length)
 (oT:w.heap[g]?=aa (.cells cells e (0,0))) (c:uY w w' g (.cells dT e (0,0))) (oN:dT.toList=cells.toList.take (off+0)++vs++cells.toList.drop (off+0+vs.length)) (hv:aV K cs vs) (ry:cs.all AV.eH=ah):
 b9 K G ok w0 {h with boxes:=h.boxes.set b (fe dw off cs)} w':=by
 obtain⟨k1,k2,ka,cells0,e0,k3,k4⟩:=s.box b g dw hb hold;rw[oT] at k3;injection k3 with k3;injection k3 with k3 k3';subst k3;simp only[Cf] at oN;have eX:dw.length<=cells.toList.length:=by have:=k4.le;simpa using this
 by_cases bG:dw=[]
 ·subst bG;have hc:cs=[]:=by cases cs with|nil=>rfl|cons _ _=>simp at oq
  subst hc;have gy:vs=[]:=by cases hv;rfl
  subst gy;have hw:dT=cells:=by apply Array.toList_inj.1;rw[oN];simp
  subst hw;have hh:=c.same oT;have zO:h.boxes.set b (fe [] off [])=h.boxes:=by
   rw[show fe ([]:List AV) off []=[] by simp[fe]];apply rW;intro k;rw[mW];split
   ·rename_i e;subst e;rw[aH (aW.1 hold).1,hold]
   ·rfl
  rw[zO];exact s.same hh c.tape c.os c.output
 ·have hl:(fe dw off cs).length=dw.length:=by unfold fe;exact Tp oq
  refine s.at5 hb hold bG hl (λc0 e0 q=>?_) c ?_ (acm off ka ry)
  ·rw[oT] at q;injection q with q;injection q with q;subst q;have:dT.toList.length=cells.toList.length:=(by rw[oN];exact Tp (by rw[<-hv.length];omega));simp only[yS] at this;omega
  ·rw[hl,oN,auE (by rw[<-hv.length];exact oq) eX];exact acn off k4.1 hv
def Hq{cs:List AV}{vs:List aT}(h:aV K cs vs)(ha:cs.all AV.eH=ah):∀v∈vs,FL v=ah:=by intro v hv;obtain⟨i,hi⟩:=List.getElem?_of_mem hv;obtain⟨x,hx,hr⟩:=h.get' hi;exact amC (eK.1 ha x (dy hx)) hr
def KX(j):oi (0,0) j=aB:=by simp[oi]
def avk(s:b9 K G ok w0 h w){t:aP}{a x:AV}{h':ar}(he:cE P h t a x=aa h'){ca cx:aT}(hv:a9 K a ca)(hx:a9 K x cx):
 ∃w',(Instr.storeAt t ca cx).run P w=.ok () w'/\b9 K G ok w0 h' w':=by
 unfold cE at he;split at he
 ·rename_i b off cs n cI hn;split at he
  ·rename_i dw hold;split at he
   ·rename_i bR;injection he with he;subst he;cases hv with|box _ g _ hb=>obtain⟨k1,k2,ka,cells,e,k3,k4⟩:=s.box b g dw hb hold;obtain⟨r1,r2⟩:=KD cI hx;have dP:cx.cells.size=n:=(by rw[<-bR.1,r1.length];simp);have zP:dw.length<=cells.size:=k4.le;obtain⟨w',dT,q1,q2,q3⟩:=JB (P:=P) off e (0,0) cx.cells.toList 0 cells w k3 (by simp;omega) (Hq r1 r2) (λj _ _=>KX j);refine⟨w',by simp[Instr.storeAt,Instr.sureAddr,storeVar,oE hn,dP,q1],s.Ty hb hold ai k3 q2 q3 r1 r2⟩
   ·cases he
  ·cases he
 ·cases he
end
section
variable {P:bL} {K:a8} {G:Nat->Option (List AV)} {ok:bq->Nat->Code->Bool} {w0 w:cG} {h:ar}
def Yields(K:a8)(G:Nat->Option (List AV))(ok:bq->Nat->Code->Bool)(w0:cG)(x:AV)(h':ar)(r:Result Next):Prop:=
 ∃K' v w',K.Le K'/\b9 K' G ok w0 h' w'/\a9 K' x v/\(r=.ok (.value v) w'∨(r=.ok .skip w'/\v=undef))
def Yields.nT(s:b9 K G ok w0 h w){x:AV}{v:aT}(hx:a9 K x v){r:Result Next}(hr:r=.ok (.value v) w):Yields K G ok w0 x h r:=
 ⟨K,v,w,.refl K,s,hx,.inl hr⟩
def aj7(off):∀(l:List aT) (i:Nat) (cells:Array aT),off+i+l.length<=cells.size->
 ((l.zipIdx i).foldl (λcs p=>cs.setIfInBounds (off+p.2) p.1) cells).toList=cells.toList.take (off+i)++l++cells.toList.drop (off+i+l.length):=by
 intro l
 induction l with
 |nil=>intro i cells _;simp|cons v rest ih=>
  intro i cells hl;simp only[jd] at hl;have hi:off+i<cells.size:=by omega
  simp only[List.zipIdx_cons,v9];rw[ih (i+1) _ (by simp;omega)];simp only[ado,jd];have bR:off+i<cells.toList.length:=by simpa using hi
  rw[Cd,aH bR];rw[(ai:off+(i+1)=off+i+1),(ai:off+i+(rest.length+1)=off+i+1+rest.length)];rw[Kg,Eu];have h1:(cells.toList.take (off+i)).length=off+i:=by simp;omega
  rw[h1];have h2:(cells.toList.take (off+i)).take (off+i+1)=cells.toList.take (off+i):=gK ai;have h3:(cells.toList.take (off+i)).drop (off+i+1+rest.length)=[]:=rh ai;rw[h2,h3];have h4:off+i+1 - (off+i)=1:=by omega
  have h5:off+i+1+rest.length - (off+i)=rest.length+1:=by omega
  rw[h4,h5];simp
def aw5(f)(vs cells:Array aT):vs.zipIdx.foldl f cells=(vs.toList.zipIdx 0).foldl f cells:=by rw[<-Array.foldl_toList,Array.toList_zipIdx]
def WS{place}:∀{parts:List (Nat × AV)} {cells out:List AV},wC place cells parts=aa out->cells.all AV.eH=ah->out.all AV.eH=ah:=by
 intro parts
 induction parts with
 |nil=>intro cells out he hc;simp[wC] at he;subst he;exact hc|cons p rest ih=>
  intro cells out he hc;simp only[wC] at he;split at he
  ·rename_i off size cs hp cI;split at he
   ·refine ih he (acm off hc ?_);unfold AV.cd at cI;split at cI
    ·split at cI
     ·injection cI with cI;subst cI;assumption
     ·cases cI
    ·cases cI
    ·cases cI
    ·rename_i h1 h2 h3;injection cI with cI;subst cI;have hx:p.2.eH=ah:=by cases hq:p.2<;>first|rfl|exact absurd hq (h1 _)|exact absurd hq (h2 _)|exact absurd hq h3
     simp[hx]
   ·cases he
  ·cases he
def KR{place:Nat->Option (Nat × Nat)}:∀{parts:List (Nat × AV)} {cells out:List AV} {parts':List (Nat × aT)} {dT:Array aT},
 wC place cells parts=aa out->aV K cells dT.toList->(parts'.map (·.1)=parts.map (·.1))->aV K (parts.map (·.2)) (parts'.map (·.2))->
 ∃out',Instr.fill place dT parts'=aa out'/\aV K out out'.toList:=by
 intro parts
 induction parts with
 |nil=>
  intro cells out parts' dT he hc h1 h2;have:parts'=[]:=by simpa using h1
  subst this;simp[wC] at he;subst he;exact⟨dT,rfl,hc⟩
 |cons p rest ih=>
  obtain⟨i,x⟩:=p;intro cells out parts' dT he hc h1 h2;cases parts' with
  |nil=>simp at h1|cons p' rest'=>
   obtain⟨i',v⟩:=p';simp only[eL,List.cons.injEq] at h1;obtain⟨rfl,h1⟩:=h1;simp only[eL] at h2;cases h2 with
   |cons _ _ _ _ hx hs=>
    simp only[wC] at he;split at he
    ·rename_i off size cs hp cI;split at he
     ·rename_i bR;obtain⟨r1,_⟩:=KD cI hx;have dP:v.cells.size=size:=(by rw[<-bR.1,r1.length];simp);have zP:dT.size=cells.length:=(by rw[hc.length];simp);have Qb:=aj7 off v.cells.toList 0 dT (by simp;omega);obtain⟨out',q1,q2⟩:=ih (dT:=v.cells.zipIdx.foldl (λcs (c,j)=>cs.setIfInBounds (off+j) c) dT) he (by rw[aw5,Qb];simpa using acn off hc r1) h1 hs;refine⟨out',?_,q2⟩;simp only[Instr.fill,hp];rw[aJ (by simp;omega)];exact q1
     ·cases he
    ·cases he
def Sg{ρ:bU->AV}{ρ':bU->aT}(hρ:∀x,a9 K (ρ x) (ρ' x))(parts:Array (Nat × bU)):
 ((parts.map λp=>(p.1,ρ' p.2)).toList.map (·.1)=(parts.toList.map λp=>(p.1,ρ p.2)).map (·.1))/\
 aV K ((parts.toList.map λp=>(p.1,ρ p.2)).map (·.2)) ((parts.map λp=>(p.1,ρ' p.2)).toList.map (·.2)):=by
 simp only[Ed,Ca];exact⟨rfl,aV.map_mk λp _=>hρ p.2⟩
def D6{t:aP}{zero:List AV}(hz:(iB P t).bind AV.cd=aa zero)(w:cG):∃v,(zeroValue t).run P w=.ok v w/\aV K zero v.cells.toList/\zero.all AV.eH=ah:=by simp only[AM] at hz;obtain⟨z,h1,h2⟩:=hz;obtain⟨v,h3,rfl⟩:=Tg h1 w;obtain⟨r1,r2⟩:=KD h2 (L0 (K:=K) v);exact⟨v,h3,r1,r2⟩
def anI(fields:Array Field)(eW:∀f∈fields.toList,(P.info? f.type).isSome=ah)(w:cG):
 ∃places:Array (Nat × Nat),(fields.mapM (m:=Sem) λ(f:Field)=>do pure (f.offset,<-sizeOf f.type)).run P w=.ok places w/\∀i,places[i]?=placesOf P fields i:=by
 have key:∀(l:List Field),(∀f∈l,(P.info? f.type).isSome=ah)->
  (l.mapM (m:=Sem) λ(f:Field)=>do pure (f.offset,<-sizeOf f.type)).run P w=.ok (l.map λf=>(f.offset,(dJ P f.type).getD 0)) w:=by
  intro l
  induction l with
  |nil=>intro _;rfl|cons f l ih=>intro hl;have hf:=hl f bJ;obtain⟨i,hi⟩:=aeA.1 hf;have hs:dJ P f.type=aa i.size:=(by simp[dJ,hi]);rw[List.mapM_cons,Sem.run_bind,Sem.run_bind,oE hs];simp only[Result.andThen_ok,Sem.run_pure,Sem.run_bind,ih (λf hf=>hl f (by simp[hf])),eL,hs,Kk]
 refine⟨(fields.toList.map λf=>(f.offset,(dJ P f.type).getD 0)).toArray,?_,λi=>?_⟩
 ·rw[Array.mapM_eq_mapM_toList,Sem.run_map,key fields.toList eW];rfl
 ·simp only[jI,List.getElem?_map,D9,placesOf];cases hf:fields[i]? with|none=>rfl|some f=>have hm:f∈fields.toList:=(by simpa using Array.mem_of_getElem? hf);obtain⟨i,hi⟩:=aeA.1 (eW f hm);simp[dJ,hi]
def aha{t:aP}{parts:Array (Nat × bU)}{ρ:bU->AV}{ρ':bU->aT}(hρ:∀x,a9 K (ρ x) (ρ' x)){x:AV}
 (he:nH P t (parts.toList.map λp=>(p.1,ρ p.2))=aa x) (w:cG):∃v,(Instr.build t (parts.map λp=>(p.1,ρ' p.2))).run P w=.ok v w/\a9 K x v:=by
 obtain⟨p1,p2⟩:=Sg hρ parts;unfold nH at he;split at he
 ·rename_i fields zero hu hz;obtain⟨z,jz,gV,_⟩:=D6 (K:=K) hz w;split at he
  ·rename_i eW;simp only[dN] at he;obtain⟨out,ho,rfl⟩:=he;obtain⟨places,pJ,oQ⟩:=anI (P:=P) fields (λf hf=>Array.all_eq_true'.1 eW f (by simpa using hf)) w;have yn:placesOf P fields=(places[·]?):=(by funext i;exact(oQ i).symm);rw[yn] at ho;obtain⟨out',q1,q2⟩:=KR ho gV p1 p2;exact⟨.agg out',by simp only[Instr.build,Sem.run_bind,jz,Result.andThen_ok,dL hu,pJ,q1,Sem.run_pure],.agg _ _ q2⟩
  ·cases he
 ·rename_i n elem zero hu hz;obtain⟨z,jz,gV,_⟩:=D6 (K:=K) hz w;split at he
  ·rename_i size hs;simp only[dN] at he;obtain⟨out,ho,rfl⟩:=he;obtain⟨out',q1,q2⟩:=KR ho gV p1 p2;exact⟨.agg out',by simp only[Instr.build,Sem.run_bind,jz,Result.andThen_ok,dL hu,oE hs,q1,Sem.run_pure],.agg _ _ q2⟩
  ·cases he
 ·cases he
def WR{sz}:∀{parts:List (Nat × AV)} {ae out:List (List AV)},(∀r∈ae,r.length=sz)->EZ sz ae parts=aa out->
 wC (λi=>aa (i * sz,sz)) ae.flatten parts=aa out.flatten/\(∀r∈out,r.length=sz)/\out.length=ae.length:=by
 intro parts
 induction parts with
 |nil=>intro ae out hr he;simp[EZ] at he;subst he;exact⟨rfl,hr,rfl⟩|cons p rest ih=>
  obtain⟨i,x⟩:=p;intro ae out hr he;simp only[EZ] at he;split at he
  ·rename_i cs cI;split at he
   ·rename_i bR;have gI:∀r∈ae.set i cs,r.length=sz:=λr hm=>by
     rcases List.mem_or_eq_of_mem_set hm with hm|rfl
     ·exact hr r hm
     ·exact bR.1
    obtain⟨q1,q2,q3⟩:=ih gI he;have ot:=oh hr;have eX:i * sz+sz<=ae.flatten.length:=(by rw[ot];have:(i+1) * sz<=ae.length * sz:=pg _ bR.2;rw[gZ] at this;omega);have zO:(ae.set i cs).flatten=fe ae.flatten (i * sz) cs:=by
     clear q1 q2 q3 ih he eX gI;unfold fe;rw[bR.1]
     induction ae generalizing i with
     |nil=>simp at bR|cons r ae ih2=>
      have cU:r.length=sz:=hr r bJ;cases i with|zero=>simp[<-cU]|succ i=>have:=ih2 i (λr hm=>hr r (by simp[hm])) ⟨bR.1,by simpa using bR.2⟩ (oh (λr hm=>hr r (by simp[hm])));simp only[List.set_cons_succ,pW,this];rw[show(i+1) * sz=r.length+i * sz by rw[cU,gZ];omega,Kg,Eu];rw[gK (ai:r.length<=r.length+i * sz),rh (ai:r.length<=r.length+i * sz+sz)];rw[(ai:r.length+i * sz - r.length=i * sz),(ai:r.length+i * sz+sz - r.length=i * sz+sz)];simp
    refine⟨?_,q2,by rw[q3];simp⟩;simp only[wC,cI];rw[aH ⟨bR.1,eX⟩,<-zO];exact q1
   ·cases he
  ·cases he
def Jd(zero:Array aT)(n):((Aq (n * zero.size)).map (zero[·%zero.size]!)).toList=(br n zero.toList).flatten:=by
 induction n with
 |zero=>simp|succ n ih=>
  rw[List.replicate_succ',rX,<-ih];simp only[Ed,Array.toList_range,gZ,Nat.one_mul,List.range_add,mY,Ca,pW,Uu,jC];congr 1;apply List.ext_getElem
  ·simp
  ·intro i h1 h2;have aC:i<zero.size:=(by simpa using h1);simp[Nat.mod_eq_of_lt aC,aC]
def aV.CI{zero:List AV}{z:List aT}(hz:aV K zero z):∀n:Nat,aV K (br n zero).flatten (br n z).flatten
 |0=>.nil
 |n+1=>by simp only[List.replicate_succ,pW];exact hz.append (aV.CI hz n)
def Mo{zero}(hz:zero.all AV.eH=ah)(n):(br n zero).flatten.all AV.eH=ah:=by rw[eK] at hz ⊢;intro x hx;simp only[List.mem_flatten,Ux] at hx;obtain⟨l,⟨_,rfl⟩,hx⟩:=hx;exact hz x hx
def ag8(s:b9 K G ok w0 h w){t:aP}{len:Nat}{parts:Array (Nat × bU)}{ρ:bU->AV}{ρ':bU->aT}(hρ:∀x,a9 K (ρ x) (ρ' x)){x:AV}
 (he:gG P t len (parts.toList.map λp=>(p.1,ρ p.2))=aa x):
 ∃K' v w',K.Le K'/\b9 K' G ok w0 h w'/\a9 K' x v/\(Instr.buildSlice t len (parts.map λp=>(p.1,ρ' p.2))).run P w=.ok v w':=by
 obtain⟨p1,p2⟩:=Sg hρ parts;unfold gG at he;split at he
 ·rename_i elem hu;split at he
  ·rename_i size zero hs hz;obtain⟨z,jz,gV,zS⟩:=D6 (K:=K) hz w;split at he
   ·rename_i hc;simp only[dN] at he;obtain⟨out,ho,rfl⟩:=he;obtain⟨f1,f2,f3⟩:=WR (λr hr=>by rw[(Ux.1 hr).2];exact hc.2.1) ho;have yp:z.cells.size=size:=(by rw[<-hc.2.1,gV.length];simp);have oN:((Aq (len * size)).map (z.cells[·%z.cells.size]!)).toList=(br len z.cells.toList).flatten:=(by rw[<-yp];exact Jd _ _);obtain⟨out',q1,q2⟩:=KR (dT:=(Aq (len * size)).map (z.cells[·%z.cells.size]!)) f1 (by rw[oN];exact gV.CI len) p1 p2;obtain⟨le,s'⟩:=s.an0 out' elem;refine⟨_,.slice (aa ⟨w.heap.size,0,av⟩) len len,_,le,s',?_,?_⟩
    ·refine .list .tight size out w.heap.size 0 len len out'.toList (by rw[f3];simp) f2 (q2.mono le) (λj c hj=>?_) ⟨aL _,rfl⟩ (WS f1 (Mo zS len));simp only[a8.tight,qA,if_true];simpa using hj
    ·by_cases h0:len * size=0
     ·have PB:len=0:=by
       rcases aep.1 h0 with h|h
       ·exact h
       ·omega
      subst PB;simp only[Hj] at q1;have e1:(Aq 0).map (λx=>(#[]:Array aT)[x%(#[]:Array aT).size]!)=(Aq 0).map (z.cells[·%z.cells.size]!):=(by simp);simp only[Instr.buildSlice,Sem.run_bind,dL hu,Result.andThen_ok,oE hs,Hj];simp only[ud,gt_iff_lt,if_false,aez,if_true,Sem.run_pure,Result.andThen_ok,e1,q1,newRow,Sem.run_bind,run_newObj]
     ·simp only[Instr.buildSlice,Sem.run_bind,dL hu,Result.andThen_ok,oE hs];rw[aJ ai,aJ h0];simp only[Sem.run_pure,Sem.run_bind,jz,Result.andThen_ok,q1,newRow,run_newObj]
   ·cases he
  ·cases he
 ·cases he
def afu(s:b9 K G ok w0 h w){t:aP}{cs:List AV}(hz:(iB P t).bind AV.cd=aa cs):
 ∃K' v w',K.Le K'/\b9 K' G ok w0 (h.box cs).2 w'/\a9 K' (h.box cs).1 v/\(Instr.alloc t ah (.tuple #[])).run P w=.ok v w':=by
 obtain⟨z,jz,gV,zS⟩:=D6 (K:=K) hz w;obtain⟨q1,q2⟩:=s.RS t gV zS;exact⟨_,_,_,K.Ry _,q1,q2,by simp[Instr.alloc,jz,newVar,newRow]⟩
def agV(s:b9 K G ok w0 h w){t:aP}{x:AV}{cs:List AV}(hc:x.cd=aa cs){c:aT}(hx:a9 K x c):
 ∃K' v w',K.Le K'/\b9 K' G ok w0 (h.box cs).2 w'/\a9 K' (h.box cs).1 v/\(Instr.box t c).run P w=.ok v w':=by
 obtain⟨r1,r2⟩:=KD hc hx;obtain⟨q1,q2⟩:=s.RS t r1 r2;exact⟨_,_,_,K.Ry _,q1,q2,by simp[Instr.box,newVar,newRow]⟩
def anE(s:b9 K G ok w0 h w){t:aP}{l c x:AV}{h':ar}(he:Ab P h t l c=aa (x,h')){vl vc:aT}(hl:a9 K l vl)(hc:a9 K c vc):
 ∃K' v w',K.Le K'/\b9 K' G ok w0 h' w'/\a9 K' x v/\(Instr.makeSlice t vl vc).run P w=.ok v w':=by
 unfold Ab at he;split at he
 ·rename_i elem kl l kc c hu;obtain⟨rfl,_⟩:=hl.jl;obtain⟨rfl,_⟩:=hc.jl;split at he
  ·rename_i i zero hi hz;obtain⟨z,jz,gV,zS⟩:=D6 (K:=K) hz w;split at he
   ·rename_i PZ;obtain⟨h1,h2,h3,h4,h5,h6⟩:=PZ;injection he with he;obtain⟨rfl,rfl⟩:=je he;have hzero:i.zero=aa z:=by
     simp only[zeroValue,Sem.run_bind,sO hi,Result.andThen_ok] at jz;cases IK:i.zero with|none=>rw[IK] at jz;simp at jz|some v=>rw[IK] at jz;simp at jz;rw[jz]
    have yp:z.cells.size=i.size:=(by rw[<-h6,gV.length];simp);have mQ:=run_make (P:=P) w t elem i z hu hi hzero kl kc l c h1 h2 h4 ai;have oN:(madeCells z.cells (c.toNat * i.size)).toList=(br c.toNat z.cells.toList).flatten:=(by rw[<-yp];exact Jd _ _);obtain⟨q1,q2⟩:=s.RS (cells:=madeCells z.cells (c.toNat * i.size)) elem (by rw[oN];exact gV.CI _) (Mo zS _);cases q2 with|box _ _ _ hb=>exact⟨_,_,_,K.Ry _,q1,.arr _ _ _ _ _ _ _ hb ai (aL _) (.inl rfl) (.inl rfl),mQ⟩
   ·cases he
  ·cases he
 ·cases he
def tq{hi:Nat}{x:Option AV}{d n:Nat}(he:hJ hi x d=aa n){x':Option aT}(hx:∀a,x=aa a->∃c,x'=aa c/\a9 K a c)(hn:x=av->x'=av)(w:cG):
 (x'=av/\n=d/\x=av)∨(∃c,x'=aa c/\(∀(top:Nat) (code:Go.BoundsCode),hi<=top->(Instr.sliceBound c top code).run P w=.ok n w)/\n<=hi/\x.isSome=ah):=by
 unfold hJ at he;split at he
 ·injection he with he;subst he;exact .inl ⟨hn rfl,rfl,rfl⟩
 ·rename_i _ k m;split at he
  ·rename_i hc;injection he with he;subst he;obtain⟨c,rfl,hv⟩:=hx _ rfl;obtain⟨rfl,_⟩:=hv.jl;refine .inr ⟨_,rfl,λtop code ht=>?_,by omega,rfl⟩;have:m<=(top:Int):=(by omega);simp[Instr.sliceBound,asIntOf,hc.1,this]
  ·cases he
 ·cases he
def EK{lo hi mx:Option AV}{lo' C7 mx':Option aT}(rB:∀a,lo=aa a->∃c,lo'=aa c/\a9 K a c)(nlo:lo=av->lo'=av)
 (uD:∀a,hi=aa a->∃c,C7=aa c/\a9 K a c) (nhi:hi=av->C7=av) (rD:∀a,mx=aa a->∃c,mx'=aa c/\a9 K a c) (nmx:mx=av->mx'=av)
 {top aF len m hb l:Nat} (isSlice:Bool) (e1:hJ top mx top=aa m) (e2:hJ m hi len=aa hb) (e3:hJ hb lo 0=aa l)
 (bR:len<=aF) (Zq:top<=aF) (Df:mx.isSome=ah->hi.isSome=ah) (w:cG):
 ∃m',(Instr.sliceBounds isSlice len aF lo' C7 mx').run P w=.ok (l,hb,m') w/\(mx=av->m'=aF/\m=top)/\(mx.isSome=ah->m'=m)/\l<=hb/\(hi=av->hb=len)/\hb<=m'/\(hi.isSome=ah->hb<=m):=by
 rcases tq (P:=P) e1 rD nmx w with⟨rfl,rfl,rfl⟩|⟨c1,rfl,q1,rC,bD⟩
 ·rcases tq (P:=P) e2 uD nhi w with⟨rfl,rfl,rfl⟩|⟨c2,rfl,q2,vA,nQ⟩
  ·rcases tq (P:=P) e3 rB nlo w with⟨rfl,rfl,rfl⟩|⟨c3,rfl,q3,Io,_⟩
   ·exact⟨aF,by simp[Instr.sliceBounds],λ_=>⟨rfl,rfl⟩,bJ,cD _,λ_=>rfl,bR,by simp⟩
   ·have q3':=λcode=>q3 hb code (aL _);exact⟨aF,by simp[Instr.sliceBounds,q3'],λ_=>⟨rfl,rfl⟩,bJ,Io,λ_=>rfl,bR,by simp⟩
  ·have q2':=λcode=>q2 aF code ai;rcases tq (P:=P) e3 rB nlo w with⟨rfl,rfl,rfl⟩|⟨c3,rfl,q3,Io,_⟩
   ·exact⟨aF,by simp[Instr.sliceBounds,q2'],λ_=>⟨rfl,rfl⟩,bJ,cD _,λe=>by simp[e] at nQ,by omega,λ_=>vA⟩
   ·have q3':=λcode=>q3 hb code (aL _);exact⟨aF,by simp[Instr.sliceBounds,q2',q3'],λ_=>⟨rfl,rfl⟩,bJ,Io,λe=>by simp[e] at nQ,by omega,λ_=>vA⟩
 ·have nQ:=Df bD;have q1':=λcode=>q1 aF code Zq;rcases tq (P:=P) e2 uD nhi w with⟨_,_,rfl⟩|⟨c2,rfl,q2,vA,_⟩
  ·simp at nQ
  ·have q2':=λcode=>q2 m code (aL _);rcases tq (P:=P) e3 rB nlo w with⟨rfl,rfl,rfl⟩|⟨c3,rfl,q3,Io,_⟩
   ·exact⟨m,by simp[Instr.sliceBounds,q1',q2'],λe=>by simp[e] at bD,λ_=>rfl,cD _,λe=>by simp[e] at nQ,vA,λ_=>vA⟩
   ·have q3':=λcode=>q3 hb code (aL _);exact⟨m,by simp[Instr.sliceBounds,q1',q2',q3'],λe=>by simp[e] at bD,λ_=>rfl,Io,λe=>by simp[e] at nQ,vA,λ_=>vA⟩
def R8{ρ:bU->AV}{ρ':bU->aT}(hρ:∀x,a9 K (ρ x) (ρ' x))(o:Option bU):
 (∀a,o.map ρ=aa a->∃c,o.map ρ'=aa c/\a9 K a c)/\(o.map ρ=av->o.map ρ'=av):=by
 cases o with|none=>exact⟨λa h=>(by cases h),λ_=>rfl⟩|some x=>exact⟨λa h=>⟨_,rfl,(by injection h with h;subst h;exact hρ x)⟩,λh=>(by cases h)⟩
def ann{k:Tok}{sz:Nat}{es:List (List AV)}{g off aF size l hb m':Nat}{toEnd yy:Bool}
 (hv:a9 K (.list k sz es) (.slice (aa ⟨g,off,av⟩) es.length aF)) (dP:size=sz∨es=[]) (hl:l<=hb) (hh:hb<=es.length) (hm:hb<=m') (jM:m'<=aF)
 (uB:toEnd=ah->hb=es.length/\m'=aF) (Qx:yy=ah->m'=hb):
 a9 K (.list (xY k toEnd yy (hb - l)) sz ((es.take hb).drop l)) (.slice (aa (if m'=l then ⟨g,off,av⟩ else (⟨g,off,av⟩:Addr).add (l * size))) (hb - l) (m' - l)):=by
 cases hv with
 |jH=>
  have zE:hb=0:=by simpa using hh
  subst zE;have l0:l=0:=by omega
  subst l0;have m0:m'=0:=by omega
  subst m0;refine .list _ sz [] g off 0 0 [] rfl bJ .nil bJ ⟨aL _,?_⟩ rfl;unfold xY;cases toEnd<;>cases yy<;>simp
 |list _ _ _ _ _ n _ cells hn hr gy jh ht ha=>
  have Im:((es.take hb).drop l).length=hb - l:=by simp;omega
  have akS:(if m'=l then (⟨g,off,av⟩:Addr) else (⟨g,off,av⟩:Addr).add (l * size))=⟨g,if m'=l then off else off+l * size,av⟩:=by
   split
   ·rfl
   ·rw[Addr.na]
  rw[akS];have gI:∀r∈(es.take hb).drop l,r.length=sz:=λr hm=>hr r (pY (N6 hm));have ot:((es.take hb).drop l).flatten=(es.flatten.take (hb * sz)).drop (l * sz):=by rw[Xe (λr hm=>hr r (pY hm)),Ps hr]
  refine .list _ sz _ g _ _ _ ((cells.take (hb * sz)).drop (l * sz)) Im.symm gI (by rw[ot];exact(gy.take _).drop _) (λj c hj=>?_) ?_ ?_
  ·simp only[pX,o7] at hj;split at hj
   ·rename_i aC;have bG:es≠[]:=(by rintro rfl;simp only[Uu] at gy;cases gy;simp at hj);have Rb:size=sz:=dP.resolve_right bG;have ss:l<hb:=by
     rcases ez l hb with h|h
     ·exact h
     ·have:hb * sz<=l * sz:=pg _ h;omega
    rw[aJ ai,Rb];have:=jh _ _ hj;rw[<-this];congr 1;omega
   ·cases hj
  rotate_left
  ·rw[eK] at ha ⊢;intro x hx;rw[ot] at hx;exact ha x (pY (N6 hx))
  ·refine⟨ai,?_⟩;have FF:=ht.2;cases k with
   |nil=>exact FF.elim|tight=>
    simp only[xY];simp only at FF;cases toEnd with
    |true=>obtain⟨e1,e2⟩:=uB rfl;simp;omega
    |false=>
     cases yy with|true=>have:=Qx rfl;simp;omega|false=>simp
   |held=>
    simp only[xY];cases yy with|true=>have:=Qx rfl;simp;omega|false=>simp
   |free t=>
    simp only[xY];simp only at FF;cases yy with
    |true=>have:=Qx rfl;simp;omega|false=>
     by_cases hc:(toEnd&&hb - l !=0)=ah
     ·simp only[kj,if_false,hc,if_true];simp only[bI,bne_iff_ne,ne_eq] at hc;obtain⟨e1,e2⟩:=uB hc.1;have bG:es≠[]:=(by rintro rfl;simp at e1;omega);have Rb:size=sz:=dP.resolve_right bG;obtain⟨t1,t2,t3,t4⟩:=FF;subst Rb;rw[aJ ai];refine⟨t1,t2,?_,?_⟩
      ·rw[t3,<-e1,On];have:l * size<=hb * size:=pg _ hl;omega
      ·rw[e2,On];have:l * size<=aF * size:=pg _ ai;omega
     ·simp only[kj,if_false,hc]
def aus{t:aP}{x y:AV}{lo hi mx:Option bU}{ρ:bU->AV}{ρ':bU->aT}(hρ:∀x,a9 K (ρ x) (ρ' x))
 (he:jc P t x (lo.map ρ) (hi.map ρ) (mx.map ρ)=aa y) {c:aT} (hx:a9 K x c) (w:cG):
 ∃v,(Instr.sliceAt t c (lo.map ρ') (hi.map ρ') (mx.map ρ')).run P w=.ok v w/\a9 K y v:=by
 obtain⟨rB,nlo⟩:=R8 hρ lo;obtain⟨uD,nhi⟩:=R8 hρ hi;obtain⟨rD,nmx⟩:=R8 hρ mx;unfold jc at he;split at he
 ·cases he
 rename_i YE;have Df:(mx.map ρ).isSome=ah->(hi.map ρ).isSome=ah:=by
  intro h1;cases h2:hi.map ρ with|some _=>rfl|none=>rw[h1,h2] at YE;simp at YE
 split at he
 ·rename_i s hu;split at he
  ·cases he
  rename_i hmn;have alV:mx.map ρ=av:=by simpa using hmn
  split at he
  ·rename_i hb e2;split at he
   ·rename_i l e3;injection he with he;subst he;obtain⟨rfl,_⟩:=hx.jl;obtain⟨m',q1,q2,_⟩:=EK (P:=P) (mx:=av) (mx':=av) rB nlo uD nhi bJ bJ aB (top:=s.size) (aF:=s.size) (m:=s.size) rfl e2 e3 (aL _) (aL _) bJ w;refine⟨_,?_,.v (.string (s.extract l hb)) rfl⟩;simp only[Instr.sliceAt,Sem.run_bind,dL hu,Result.andThen_ok,Instr.slice,nmx alV];simp[q1]
   ·cases he
  ·cases he
 ·rename_i elem k sz es hu;split at he
  ·rename_i size m hs e1;split at he
   ·rename_i hb e2;split at he
    ·rename_i l e3;split at he
     ·rename_i dP;injection he with he;subst he;have zG:hb<=es.length:=by rcases tq (P:=P) e1 rD nmx w with⟨_,rfl,_⟩|⟨_,_,_,rC,_⟩<;>rcases tq (P:=P) e2 uD nhi w with⟨_,rfl,_⟩|⟨_,_,_,vA,_⟩<;>omega
      cases hx with
      |nil=>
       obtain⟨m',q1,q2,q3,q4,q5,q6,q7⟩:=EK (P:=P) rB nlo uD nhi rD nmx ah (top:=0) (aF:=0) (len:=0) e1 e2 e3 (aL _) (aL _) Df w;have zE:hb=0:=(by simpa using zG);subst zE;have l0:l=0:=(by omega);subst l0;have QC:m'=0:=by
        rcases tq (P:=P) e1 rD nmx w with⟨_,_,hn⟩|⟨_,_,_,rC,bD⟩
        ·exact(q2 hn).1
        ·have:=q3 bD;simp at rC;omega
       subst QC;refine⟨.slice av 0 0,?_,?_⟩
       ·simp only[Instr.sliceAt,Sem.run_bind,dL hu,Result.andThen_ok,Instr.slice,q1,oE hs];simp
       ·simp only[xY,aeg,adR];exact .nil _
      |jH _ a0=>
       obtain⟨m',q1,q2,q3,q4,q5,q6,q7⟩:=EK (P:=P) rB nlo uD nhi rD nmx ah (top:=0) (aF:=0) (len:=0) e1 e2 e3 (aL _) (aL _) Df w;have zE:hb=0:=(by simpa using zG);subst zE;have l0:l=0:=(by omega);subst l0;have QC:m'=0:=by
        rcases tq (P:=P) e1 rD nmx w with⟨_,_,hn⟩|⟨_,_,_,rC,bD⟩
        ·exact(q2 hn).1
        ·have:=q3 bD;simp at rC;omega
       subst QC;refine⟨.slice (aa a0) 0 0,?_,?_⟩
       ·simp only[Instr.sliceAt,Sem.run_bind,dL hu,Result.andThen_ok,Instr.slice,q1,oE hs];simp
       ·have alP:m=0:=by
         rcases tq (P:=P) e1 rD nmx w with⟨_,hn,_⟩|⟨_,_,_,rC,bD⟩
         ·simpa using hn
         ·simpa using rC
        subst alP;have hct:∀q:Option AV,xY .tight (decide (0=([]:List (List AV)).length)&&q.isNone) (q.isSome&&decide (0=0)) (0 - 0)=.tight:=(by intro q;cases q<;>rfl);rw[hct];simp only[aeg,adR];exact .jH _ _
      |list _ _ _ g off n aF cells hn hr gy jh ht ha=>
       subst hn;obtain⟨m',q1,q2,q3,q4,q5,q6,q7⟩:=EK (P:=P) rB nlo uD nhi rD nmx true (top:=es.length) (aF:=aF) (len:=es.length) e1 e2 e3 ht.1 ht.1 Df w;have alQ:m'<=aF:=by
        rcases tq (P:=P) e1 rD nmx w with⟨_,_,hn⟩|⟨_,_,_,rC,bD⟩
        ·rw[(q2 hn).1];exact aL _
        ·have:=q3 bD;have:=ht.1;omega
       refine⟨.slice (aa (if m'=l then ⟨g,off,av⟩ else (⟨g,off,av⟩:Addr).add (l * size))) (hb - l) (m' - l),?_,?_⟩
       ·simp only[Instr.sliceAt,Sem.run_bind,dL hu,Result.andThen_ok,Instr.slice,q1,oE hs,Sem.run_pure];congr 2;split<;>rfl
       ·refine ann (.list _ _ _ g off _ aF cells rfl hr gy jh ht ha) dP q4 zG q6 alQ (λh=>?_) (λh=>?_)
        ·simp only[bI,decide_eq_true_eq,Option.isNone_iff_eq_none] at h;exact⟨h.1,(q2 h.2).1⟩
        ·simp only[bI,decide_eq_true_eq] at h;rw[q3 h.1];exact h.2.symm
     ·cases he
    ·cases he
   ·cases he
  ·cases he
 ·rename_i elem b off len aF hu;split at he
  ·rename_i size m hs e1;split at he
   ·rename_i hb e2;split at he
    ·rename_i l e3;cases hx with
     |arr _ g _ _ _ fP iX hβ hl qc su mP=>
      obtain⟨m',q1,q2,q3,q4,q5,q6,q7⟩:=EK (P:=P) rB nlo uD nhi rD nmx ah (top:=aF) (aF:=iX) (len:=len) e1 e2 e3 ai qc Df w;have hmc:m<=aF:=(by rcases tq (P:=P) e1 rD nmx w with⟨_,q,_⟩|⟨_,_,_,q,_⟩<;>omega);have hmm:m<=m':=by
       cases hq:EA ρ mx with|none=>have:=q2 hq;omega|some z=>have:=q3 (by rw[hq];rfl);omega
      have zG:hb<=m:=by
       cases hq:EA ρ mx with
       |none=>
        cases oR:EA ρ hi with|none=>have:=q5 oR;have:=q2 hq;omega|some z=>exact q7 (by rw[oR];rfl)
       |some z=>have:=q3 (by rw[hq];rfl);omega
      have mQ:(Instr.sliceAt t (.slice (aa ⟨g,fP,av⟩) len iX) (EA ρ' lo) (EA ρ' hi) (EA ρ' mx)).run P w=.ok (.slice (aa ⟨g,if m'=l then fP else fP+l * size,av⟩) (hb - l) (m' - l)) w:=by
       simp only[Instr.sliceAt,Sem.run_bind,dL hu,Result.andThen_ok,Instr.slice,q1,oE hs,Sem.run_pure];congr 2;split
       ·rfl
       ·simp[Addr.na]
      refine⟨_,mQ,?_⟩;split at he
      ·cases he
      rename_i wQ;split at he
      ·rename_i nP;injection he with he;subst he;have:=q3 nP.1;rw[(ai:hb - l=0),(ai:m' - l=0)];exact .jH _ _
      ·injection he with he;subst he;refine .arr _ _ _ _ _ _ _ hβ ai ai ?_ ?_
       ·rcases su with rfl|hz
        ·by_cases nP:m=l
         ·exact .inr ai
         ·rw[aJ ai,aJ nP];exact .inl rfl
        ·exact .inr ai
       ·cases hq:EA ρ mx with
        |some z=>have:=q3 (by rw[hq];rfl);exact .inl ai
        |none=>
         obtain⟨r1,r2⟩:=q2 hq;by_cases nP:m=l
         ·exact .inr (.inl ai)
         ·rw[aJ nP];by_cases Br:l=0
          ·subst Br;rcases mP with r|r|r|⟨sz,room,r3,r4,r5⟩
           ·exact .inl ai
           ·exact .inr (.inl ai)
           ·exact .inr (.inr (.inl ai))
           ·exact .inr (.inr (.inr ⟨sz,room,by rw[r2];exact r3,r4,by rw[r1];exact r5⟩))
          ·exact .inr (.inr (.inl (by have:=Oj (aev Br) (aev wQ);omega)))
    ·cases he
   ·cases he
  ·cases he
 ·rename_i n elem b off hu;split at he
  ·rename_i size m hs e1;split at he
   ·rename_i hb e2;split at he
    ·rename_i l e3;injection he with he;subst he;cases hx with
     |box _ g _ hβ=>
      obtain⟨m',q1,q2,q3,q4,q5,q6,q7⟩:=EK (P:=P) rB nlo uD nhi rD nmx aB (top:=n) (aF:=n) (len:=n) e1 e2 e3 (aL _) (aL _) Df w;have hm:m'=m:=by
       rcases tq (P:=P) e1 rD nmx w with⟨_,_,hn⟩|⟨_,_,_,rC,bD⟩
       ·have:=q2 hn;omega
       ·exact q3 bD
      subst hm;refine⟨.slice (aa ⟨g,if m'=l then off else off+l * size,av⟩) (hb - l) (m' - l),?_,.arr _ _ _ _ _ _ _ hβ ai (aL _) (.inl rfl) (.inl rfl)⟩;simp only[Instr.sliceAt,Sem.run_bind,dL hu,Result.andThen_ok,Instr.sureAddr,q1,oE hs,Sem.run_pure];congr 3;split
      ·rfl
      ·simp[Addr.na]
    ·cases he
   ·cases he
  ·cases he
 ·cases he
def Pg{f:Field}{n:Nat}(hs:dJ P f.type=aa n)(hn:n≠0)(g o:Nat)(w:cG):(fieldPlace ⟨g,o,av⟩ f).run P w=.ok ⟨g,o+f.offset,av⟩ w:=by simp[fieldPlace,oE hs,hn,Addr.na]
def ajK{t:aP}{x y:AV}{f:Nat}(he:gH P t x f=aa y){c:aT}(hx:a9 K x c)(w:cG):
 ∃v,(Instr.fieldAt t c f).run P w=.ok v w/\a9 K y v:=by
 unfold gH at he;split at he
 ·rename_i fields hu;split at he
  ·rename_i fd hf;split at he
   ·cases he
   ·rename_i n Dg hs;have hn:n≠0:=λe=>Dg e;split at he
    ·rename_i r off;injection he with he;subst he;cases hx with|box b g _ hb=>exact⟨_,by simp[Instr.fieldAt,dL hu,hf,Instr.sureAddr,Pg hs hn],.box _ _ _ hb⟩|fb g _=>exact⟨_,by simp[Instr.fieldAt,dL hu,hf,Instr.sureAddr,Pg hs hn],.fb _ _⟩
    ·rename_i sz es i off;injection he with he;subst he;cases hx with|elem _ _ _ _ g o p cells hr hv hc hi hp ha=>exact⟨.pointer (aa ⟨g,p+fd.offset,av⟩),by simp[Instr.fieldAt,dL hu,hf,Instr.sureAddr,Pg hs hn],.elem _ _ _ _ g o _ cells hr hv hc hi ai ha⟩
    ·cases he
   ·cases he
  ·cases he
 ·cases he
def amo{t:aP}{x ix y:AV}(he:dS P t x ix=aa y){c ci:aT}(hx:a9 K x c)(hi:a9 K ix ci)(w:cG):
 ∃v,(Instr.indexAt t c ci).run P w=.ok v w/\a9 K y v:=by
 unfold dS at he;split at he
 ·rename_i elem k sz es kk i hu;obtain⟨rfl,_⟩:=hi.jl;split at he
  ·rename_i hc;injection he with he;subst he;cases hx with|nil=>simp at hc;omega|jH=>simp at hc;omega|list _ _ _ g off n aF cells hn hr hv jh ht ha=>subst hn;refine⟨.pointer (aa ⟨g,off+i.toNat * sz,av⟩),?_,.elem _ _ _ _ g off _ cells hr hv jh ai ai ha⟩;simp[Instr.indexAt,dL hu,asIntOf,hc.1,hc.2.1,oE hc.2.2,Addr.na]
  ·cases he
 ·rename_i elem b off len aF kk i hu;obtain⟨rfl,_⟩:=hi.jl;split at he
  ·rename_i size hs;split at he
   ·rename_i hc;injection he with he;subst he;cases hx with
    |arr _ g _ _ _ fP iX hb hl qc su mP=>
     have:fP=off:=by rcases su with p|p<;>omega
     subst this;exact⟨_,by simp[Instr.indexAt,dL hu,asIntOf,hc.1,hc.2,oE hs,Addr.na],.box _ _ _ hb⟩
   ·cases he
  ·cases he
 ·rename_i len elem r off kk i hu;obtain⟨rfl,_⟩:=hi.jl;split at he
  ·rename_i size hs;split at he
   ·rename_i hc;injection he with he;subst he;cases hx with|box b g _ hb=>exact⟨_,by simp[Instr.indexAt,dL hu,asIntOf,hc.1,hc.2,oE hs,Addr.na,Instr.sureAddr],.box _ _ _ hb⟩|fb g _=>exact⟨_,by simp[Instr.indexAt,dL hu,asIntOf,hc.1,hc.2,oE hs,Addr.na,Instr.sureAddr],.fb _ _⟩
   ·cases he
  ·cases he
 ·rename_i len elem sz es k off kk i hu;obtain⟨rfl,_⟩:=hi.jl;split at he
  ·rename_i size hs;split at he
   ·rename_i hc;injection he with he;subst he;cases hx with|elem _ _ _ _ g o p cells hr hv jh C7 hp ha=>exact⟨.pointer (aa ⟨g,p+i.toNat * size,av⟩),by simp[Instr.indexAt,dL hu,asIntOf,hc.1,hc.2,oE hs,Addr.na,Instr.sureAddr],.elem _ _ _ _ g o _ cells hr hv jh C7 ai ha⟩
   ·cases he
  ·cases he
 ·cases he
def aaR{t:aP}{cs:List AV}{off:Nat}{y:AV}(he:I5 P t cs off=aa y){vs:Array aT}(hx:aV K cs vs.toList)(w:cG):
 ∃v,(part t vs off).run P w=.ok v w/\a9 K y v:=by
 unfold I5 at he;split at he
 ·rename_i CO;simp only[dN] at he;obtain⟨n,hs,rfl⟩:=he;refine⟨.agg (vs.extract off (off+n)),by simp[part,MT CO,oE hs],.agg _ _ ?_⟩;have:(vs.extract off (off+n)).toList=(vs.toList.drop off).take n:=by rw[adn,adS];congr 1;omega
  rw[this];exact(hx.drop off).take n
 ·rename_i CO;obtain⟨c,hc,hr⟩:=hx.get he;exact⟨c,by simp only[part,Sem.run_bind,MT CO,Result.andThen_ok];simp only[kj,if_false];rw[show vs[off]?=aa c by simpa using hc];rfl,hr⟩
 ·cases he
def amr{t:aP}{x ix y:AV}(he:DA P t x ix=aa y){c ci:aT}(hx:a9 K x c)(hi:a9 K ix ci)(w:cG):
 ∃v,(Instr.index t c ci).run P w=.ok v w/\a9 K y v:=by
 unfold DA at he;split at he
 ·rename_i s kk i hu;obtain⟨rfl,_⟩:=hi.jl;obtain⟨rfl,_⟩:=hx.jl;split at he
  ·rename_i b hb;injection he with he;subst he;split at hb
   ·rename_i h0;refine⟨.int .u8 b.toNat,?_,.v _ rfl⟩;have:s[i.toNat]?=aa b:=(by have h1:i.toNat<s.data.size:=(D7.1 hb).1;have h2:s.data[i.toNat]=b:=(D7.1 hb).2;have h3:i.toNat<s.size:=h1;rw[getElem?_pos s i.toNat h3];exact congrArg aa h2);simp only[Instr.index,Sem.run_bind,asIntOf,Sem.run_pure,Result.andThen_ok,dL hu,aH h0,this]
   ·cases hb
  ·cases he
 ·rename_i len elem cs kk i hu;obtain⟨rfl,_⟩:=hi.jl;split at he
  ·rename_i size hs;split at he
   ·rename_i hc;cases hx with|agg _ vs gy=>obtain⟨v,q1,q2⟩:=aaR he gy w;exact⟨v,by simp only[Instr.index,Sem.run_bind,asIntOf,Sem.run_pure,Result.andThen_ok,dL hu,aH hc,oE hs,q1],q2⟩
   ·cases he
  ·cases he
 ·cases he
def Ro{t:aP}(he:isIface P t=aa aB):∃d,P.underlying t=aa d/\∀ms,d≠ .interface ms:=by
 unfold isIface at he;split at he
 ·cases he
 ·rename_i d h1 h2;exact⟨d,h2,λms e=>h1 ms e⟩
 ·cases he
def afP{x y:AV}{xt a:aP}{okk:Bool}(he:zq P x a okk=aa y){c:aT}(hx:a9 K x c)(w:cG):
 ∃v,(Instr.typeAssert c xt a okk).run P w=.ok v w/\a9 K y v:=by
 unfold zq at he;split at he
 ·rename_i t x' zJ;obtain⟨d,hu,hd⟩:=Ro zJ;cases hx with
  |iface _ _ c' hx=>
   split at he
   ·rename_i yo;injection he with he;subst he;subst yo;cases okk with
    |true=>refine⟨.tuple #[c',.bool ah],?_,.tuple _ _ (.cons _ _ _ _ hx (.cons _ _ _ _ (.v _ rfl) .nil))⟩;simp only[Instr.typeAssert,Sem.run_bind,dL hu,Result.andThen_ok];cases d<;>first|exact absurd rfl (hd _)|simp
    |false=>refine⟨c',?_,hx⟩;simp only[Instr.typeAssert,Sem.run_bind,dL hu,Result.andThen_ok];cases d<;>first|exact absurd rfl (hd _)|simp
   ·rename_i yo;split at he
    ·rename_i bB;simp only[dN] at he;obtain⟨z,hz,rfl⟩:=he;obtain⟨v,jz,rfl⟩:=Tg hz w;refine⟨.tuple #[v,.bool aB],?_,.tuple _ _ (.cons _ _ _ _ (L0 v) (.cons _ _ _ _ (.v _ rfl) .nil))⟩;simp only[Instr.typeAssert,Sem.run_bind,dL hu,Result.andThen_ok];cases d<;>first|exact absurd rfl (hd _)|simp[yo,bB,jz]
    ·cases he
 ·rename_i zJ;obtain⟨d,hu,hd⟩:=Ro zJ;obtain⟨rfl,_⟩:=hx.jl;split at he
  ·rename_i bB;simp only[dN] at he;obtain⟨z,hz,rfl⟩:=he;obtain⟨v,jz,rfl⟩:=Tg hz w;refine⟨.tuple #[v,.bool aB],?_,.tuple _ _ (.cons _ _ _ _ (L0 v) (.cons _ _ _ _ (.v _ rfl) .nil))⟩;simp only[Instr.typeAssert,Sem.run_bind,dL hu,Result.andThen_ok];cases d<;>first|exact absurd rfl (hd _)|simp[bB,jz]
  ·cases he
 ·cases he
def agU{op}{b}{x}(he:xR op b=aa x):(op=.eql/\x=.v (.bool b))∨(op=.neq/\x=.v (.bool !b)):=by
 unfold xR at he;split at he
 ·injection he with he;exact .inl ⟨rfl,he.symm⟩
 ·injection he with he;exact .inr ⟨rfl,he.symm⟩
 ·cases he
def Vx{op:BinOp}{t:aP}{x y:bU}{a b r:AV}(he:Kw P op t x y a b=aa r){p q:aT}(ha:a9 K a p)(hb:a9 K b q)(w:cG):
 ∃v,(do eqGuard op t x y p q;binOp op t p q:Sem aT).run P w=.ok v w/\a9 K r v:=by
 unfold Kw at he;split at he
 ·rename_i p' q' hp hq;have e1:=KT hp ha;have e2:=KT hq hb;subst e1;subst e2;simp only[AM] at he;obtain⟨z,h1,h2⟩:=he;exact⟨z,Ja h1 w,JD h2⟩
 ·cases he
def zu{op:BinOp}{t:aP}{x y:bU}{p q:aT}{b:Bool}{r:AV}(he:xR op b=aa r)(hg:∀op,eqGuard op t x y p q=pure ())(w:cG)
 (alq:∀d,(Op.equalIn (d+1) t p q).run P w=.ok b w) (h1:binOp .eql t p q=(do pure (.bool (<-Op.equal t p q)))) (h2:binOp .neq t p q=(do pure (.bool (!(<-Op.equal t p q))))):
 ∃v,(do eqGuard op t x y p q;binOp op t p q:Sem aT).run P w=.ok v w/\a9 K r v:=by
 have mN:(Op.equal t p q).run P w=.ok b w:=alq 9999;rcases agU he with⟨rfl,rfl⟩|⟨rfl,rfl⟩
 ·exact⟨.bool b,by rw[hg,h1];simp[mN],.v _ rfl⟩
 ·exact⟨.bool !b,by rw[hg,h2];simp[mN],.v _ rfl⟩
def ZN{t:aP}(he:isIface P t=aa ah):∃ms,P.underlying t=aa (.interface ms):=by
 unfold isIface at he;split at he
 ·exact⟨_,‹_›⟩
 ·cases he
 ·cases he
def agl{op:BinOp}{t:aP}{x y:bU}{a b r:AV}(he:dn P op t x y a b=aa r){p q:aT}(ha:a9 K a p)(hb:a9 K b q)(w:cG):
 ∃v,(do eqGuard op t x y p q;binOp op t p q:Sem aT).run P w=.ok v w/\a9 K r v:=by
 unfold dn at he;split at he
 ·rename_i s1 s2;have f1:=ha.jl.1;have f2:=hb.jl.1;subst f1;subst f2;split at he
  ·injection he with he;subst he;exact⟨.bool (s1.data.toList==s2.data.toList),by simp[eqGuard,binOp,Op.stringOp,ByteArray.toList_eq],.v _ rfl⟩
  ·injection he with he;subst he;exact⟨.bool !(s1.data.toList==s2.data.toList),by simp[eqGuard,binOp,Op.stringOp,ByteArray.toList_eq],.v _ rfl⟩
  ·split at he
   ·rename_i hl;injection he with he;subst he;refine⟨.string (s1++s2),?_,.v _ rfl⟩;have:¬(((s1.size+s2.size:Nat):Int)>IntKind.i64.max):=(by simp only[IntKind.max,IntKind.signed,IntKind.bits];simp;omega);simp only[eqGuard,binOp,Op.stringOp];simp only[aJ this];simp
   ·cases he
  ·exact Vx he ha hb w
 ·rename_i ti xi;split at he
  ·rename_i zJ;obtain⟨ms,hu⟩:=ZN zJ;cases ha with|iface _ _ c hx=>have f2:=hb.jl.1;subst f2;refine zu he (λop=>by cases op<;>rfl) w (λd=>?_) rfl rfl;simp only[Op.equalIn,Sem.run_bind,dL hu,Result.andThen_ok,Sem.run_pure]
  ·cases he
 ·rename_i ti xi;split at he
  ·rename_i zJ;obtain⟨ms,hu⟩:=ZN zJ;cases hb with|iface _ _ c hx=>have f2:=ha.jl.1;subst f2;refine zu he (λop=>by cases op<;>rfl) w (λd=>?_) rfl rfl;simp only[Op.equalIn,Sem.run_bind,dL hu,Result.andThen_ok,Sem.run_pure]
  ·cases he
 ·rename_i r0 o0;split at he
  ·rename_i e hu;have f2:=hb.jl.1;subst f2;cases ha<;>(refine zu he (λop=>by cases op<;>rfl) w (λd=>?_) rfl rfl;simp only[Op.equalIn,Sem.run_bind,dL hu,Result.andThen_ok,Sem.run_pure,Kl])
  ·cases he
 ·rename_i r0 o0;split at he
  ·rename_i e hu;have f2:=ha.jl.1;subst f2;cases hb<;>(refine zu he (λop=>by cases op<;>rfl) w (λd=>?_) rfl rfl;simp only[Op.equalIn,Sem.run_bind,dL hu,Result.andThen_ok,Sem.run_pure,Kl])
  ·cases he
 ·split at he
  ·rename_i hu;have f2:=hb.jl.1;subst f2;cases ha<;>(refine zu he (λop=>by cases op<;>rfl) w (λd=>?_) rfl rfl;simp only[Op.equalIn,Sem.run_bind,dL hu,Result.andThen_ok,Sem.run_pure,Kl])
  ·cases he
 ·split at he
  ·rename_i hu;have f2:=ha.jl.1;subst f2;cases hb<;>(refine zu he (λop=>by cases op<;>rfl) w (λd=>?_) rfl rfl;simp only[Op.equalIn,Sem.run_bind,dL hu,Result.andThen_ok,Sem.run_pure,Kl])
  ·cases he
 ·rename_i k sz es sz2;split at he
  ·rename_i e hu;have f2:q=.slice av 0 0:=by
    cases hb with|nil=>rfl|list _ _ _ _ _ _ _ _ _ _ _ _ ht _=>exact ht.2.elim
   subst f2;cases ha with
   |nil=>refine zu he (λop=>by cases op<;>rfl) w (λd=>?_) rfl rfl;simp only[Op.equalIn,Sem.run_bind,dL hu,Result.andThen_ok,Sem.run_pure,Option.isNone_none,decide_true]
   |jH=>refine zu he (λop=>by cases op<;>rfl) w (λd=>?_) rfl rfl;simp only[Op.equalIn,Sem.run_bind,dL hu,Result.andThen_ok,Sem.run_pure,Kl];rfl
   |list _ _ _ g off n aF cells hn hr hv hc ht _=>have hk:k≠ .nil:=λe=>(by subst e;exact ht.2);refine zu he (λop=>by cases op<;>rfl) w (λd=>?_) rfl rfl;simp only[Op.equalIn,Sem.run_bind,dL hu,Result.andThen_ok,Sem.run_pure,hk,decide_false]
  ·cases he
 ·exact Vx he ha hb w
def awa{op:UnOp}{a r:AV}(he:D3 P op a=aa r){p:aT}(ha:a9 K a p)(w:cG):∃v,(Op.unary op p).run P w=.ok v w/\a9 K r v:=by
 unfold D3 at he;split at he
 ·rename_i p' hp;have e1:=KT hp ha;subst e1;simp only[AM] at he;obtain⟨z,h1,h2⟩:=he;exact⟨z,Ja h1 w,JD h2⟩
 ·cases he
end
section
variable {P:bL} {K:a8} {G:Nat->Option (List AV)} {ok:bq->Nat->Code->Bool} {w0 w:cG} {h:ar}
def Vj{h}{d}{sz}{es}{t}(hd:∀n∈h.dead,n∈d)(ha:alive ({h with dead:=d}.fresh sz es).2 t=ah):
 t=h.tn∨(alive h t=ah/\t∉d):=by
 simp only[ar.fresh,alive,bI,decide_eq_true_eq,At,List.contains_eq_mem,decide_eq_false_iff_not] at ha;obtain⟨vp,qb⟩:=ha;have vp:t<h.tn+1:=of_decide_eq_true vp;rcases ez t h.tn with aC|eF
 ·exact .inr ⟨by simp[alive,aC];exactλhm=>qb (hd t hm),qb⟩
 ·exact .inl ai
def b9.Px{w':cG}(s:b9 K G ok w0 h w){d:List Nat}(hd:∀n∈h.dead,n∈d){sz:Nat}{es:List (List AV)}{cells:Array aT}{e:aP}{fz:Nat × Nat}{aF:Nat}
 (hr:∀r∈es,r.length=sz) (ha:es.flatten.all AV.eH=ah) (hv:aV K es.flatten (cells.toList.take (es.length * sz)))
 (QM:w'.os=w.os) (Rd:w'.tape=w.tape) (Bu:w'.output=w.output) (dP:w'.heap.size=w.heap.size+1)
 (oy:∀k,k<w.heap.size->w'.heap[k]?=w.heap[k]?) (oT:w'.heap[w.heap.size]?=aa (.cells cells e fz))
 (jM:es.length<=aF) (oq:aF * sz<=cells.size) (yl:∀j,j<cells.size->oi fz j=aB):
 ∃K',K.Le K'/\b9 K' G ok w0 ({h with dead:=d}.fresh sz es).2 w'/\a9 K' ({h with dead:=d}.fresh sz es).1 (.slice (aa ⟨w.heap.size,0,av⟩) es.length aF):=by
 have C8:∀j,K.ic w.heap.size j=av:=λj=>by
  cases hc:K.ic w.heap.size j with|none=>rfl|some c=>have:=s.BD hc;omega
 have bR:es.length * sz<=cells.size:=fG (pg _ jM) oq;have dV:=s.row (h':=({h with dead:=d}.fresh sz es).2) (w':=w') (g:=w.heap.size) (off:=0) (m:=es.length * sz) (cells:=cells) (e:=e) (fz:=fz) rfl rfl rfl
  (λt ht=>(Vj hd ht).imp id λhh=>⟨hh.1,λmN=>by obtain⟨_,_,_,_,_,_,h4,_⟩:=s.tok t hh.1;have:=pO h4;omega⟩)
  s.size (λb hb=>by obtain⟨cs,cI⟩:=βaa s hb;obtain⟨_,_,_,_,_,h3,_⟩:=s.box b _ cs hb cI;have:=pO h3;omega) (λj _=>C8 j) ai QM Rd Bu
  (λk o hk ho=>by rw[oy k (pO ho)];exact ho) oT (λo ho=>by have:=pO ho;omega) (λj c hc=>by rw[C8] at hc;cases hc) (cD _) bR (λj _ hl=>yl j hl)
 have le:=a8.RA (K:=K) (g:=w.heap.size) (off:=0) (m:=es.length * sz) (size:=cells.size) (cells:=λj=>cells[j]?) (λj _=>C8 j) s.size;refine⟨_,le,dV,?_⟩;refine .list (.free h.tn) sz es w.heap.size 0 _ aF (cells.toList.take (es.length * sz)) rfl hr (hv.mono le) (λj c hj=>?_) ⟨jM,?_⟩ ha
 ·simp only[o7] at hj;split at hj
  ·rename_i aC;simp only[a8.row,qA];rw[aH (by exact⟨aY,cD _,aC⟩)];simpa using hj
  ·cases hj
 ·simp only[a8.row,s.tn,if_true];refine⟨ai,aY,by omega,by omega⟩
def AS(l:List UInt8):∀r∈l.map lQ,r.length=1:=by intro r hr;simp only[kC] at hr;obtain⟨b,_,rfl⟩:=hr;rfl
def OW(l:List UInt8):(l.map lQ).flatten=l.map λb=>AV.v (.int .u8 b.toNat):=by
 induction l with
 |nil=>rfl|cons b l ih=>simp[lQ,ih]
def VO(l:List UInt8):aV K (l.map lQ).flatten (l.map λb=>Value.int .u8 b.toNat):=by rw[OW];exact aV.map_mk λb _=>.v _ rfl
def VN(l:List UInt8):(l.map lQ).flatten.all AV.eH=ah:=by rw[OW,eK];intro x hx;simp only[kC] at hx;obtain⟨b,_,rfl⟩:=hx;rfl
def av3(s:b9 K G ok w0 h w){e:aP}{str:ByteArray}:
 ∃K' v w',K.Le K'/\b9 K' G ok w0 (h.fresh 1 (str.data.toList.map lQ)).2 w'/\a9 K' (h.fresh 1 (str.data.toList.map lQ)).1 v/\(Conv.stringToBytes e str).run P w=.ok v w':=by
 have hq:∃aF,str.size<=aF/\(choose (.appendCap str.size 0 e)).run P w=.ok aF {w with drawn:=w.drawn+1}:=by refine⟨_,?_,by simp[Question.forced];rfl⟩;simp[Question.cut]
 obtain⟨aF,jM,uy⟩:=hq
 let w1:cG:={w with drawn:=w.drawn+1}
 let cells:Array aT:=str.data.map (λb=>.int .u8 b.toNat)++Eb (aF - str.size) (.int .u8 0)
 have cI:cells.size=aF:=by have:str.data.size=str.size:=rfl;simp only[cells,Array.size_append,Array.size_map,Array.size_replicate,this];try omega
 have bR:str.data.toList.length=str.size:=rfl
 let w2:cG:=({w1 with heap:=w1.heap.push (.cells cells e)}:cG).freeze {block:=w1.heap.size,off:=aF} 1
 have oT:w2.heap[w.heap.size]?=aa (.cells cells e (aF,aF+1)):=by simp only[w2,World.freeze,w1,Ok,if_false,D8,if_true,Array.getElem?_push_size,ft];rfl
 have oy:∀k,k<w.heap.size->w2.heap[k]?=w.heap[k]?:=λk hk=>by simp only[w2,World.freeze,w1,D8];simp only[Ok,if_false,D8];rw[aJ ai];exact C4 w _ hk
 obtain⟨K',le,s',hv⟩:=s.Px (w':=w2) (d:=h.dead) (λ_ hm=>hm) (sz:=1) (es:=str.data.toList.map lQ) (cells:=cells) (e:=e) (fz:=(aF,aF+1)) (aF:=aF)
  (AS _) (VN _) (by have:cells.toList.take ((str.data.toList.map lQ).length * 1)=str.data.toList.map λb=>Value.int .u8 b.toNat:=(by simp only[cells,Ec,Ed,bF,ph];rw[Kh bJ,gK bJ]);rw[this];exact VO _) rfl rfl rfl (by simp[w2,World.freeze,w1]) oy oT (by simp only[bF,bR];exact jM) ai (λj hj=>by simp[oi];omega)
 refine⟨K',_,w2,le,s',hv,?_⟩;have kU:(str.data.toList.map lQ).length=str.size:=by simp only[bF,bR]
 rw[kU];simp only[Conv.stringToBytes,Sem.run_bind,uy,Result.andThen_ok,newRow,run_newObj,Sem.run_pure,markStringish,run_shape];have Lx:({w1 with heap:=w1.heap.push (.cells cells e)}:cG).shape? w1.heap.size=aa (e,aF):=by simp[World.shape?,cI]
 simp only[w1,cells] at Lx;simp only[Lx,run_freeze,Result.andThen_ok,Sem.run_pure,w2,w1,cells]
def ahc:∀{ae:List (List AV)} {l:List UInt8},bytesOf ae=aa l->∀{vs:List aT},aV K ae.flatten vs->
 ∃ns:List Int,vs=ns.map (.int .u8 ·)/\l=ns.map λn=>UInt8.ofNat n.toNat:=by
 intro ae
 induction ae with
 |nil=>intro l h vs hv;simp[bytesOf] at h;subst h;cases hv;exact⟨[],rfl,rfl⟩
 |cons r ae ih=>
  intro l h vs hv;simp only[bytesOf] at h;split at h
  ·rename_i b l' hb hl;injection h with h;subst h;unfold byteOf at hb;split at hb
   ·rename_i n;injection hb with hb;subst hb;simp only[pW,lO,mh] at hv;cases hv with|cons _ c _ cs hx hs=>obtain⟨ns,h1,h2⟩:=ih hl hs;exact⟨n::ns,by rw[hx.jl.1,h1];rfl,by rw[h2];rfl⟩
   ·cases hb
  ·cases h
def foldl_push(ns:List Int):∀acc:ByteArray,ns.foldl (λb a=>b.push (UInt8.ofNat a.toNat)) acc=⟨acc.data++(ns.map λn=>UInt8.ofNat n.toNat).toArray⟩:=by
 induction ns with
 |nil=>intro acc;simp|cons n ns ih=>intro acc;simp only[v9,ih,eL];simp[ByteArray.push]
def Jk(s:b9 K G ok w0 h w){size:Nat}{x:AV}{ae:List (List AV)}(he:rowsOf h size x=aa ae){c:aT}(hv:a9 K x c):
 ∃a aF eT,c=.slice a ae.length aF/\(∀r∈ae,r.length=size)/\aV K ae.flatten eT/\ae.flatten.all AV.eH=ah/\eT.length=ae.length * size/\
  (∀b,a=aa b->(loadCells b (ae.length * size)).run P w=.ok eT.toArray w)/\(a=av->ae=[]):=by
 unfold rowsOf at he;split at he
 ·rename_i k sz es;split at he
  ·rename_i dP;injection he with he;subst he;cases hv with
   |nil=>exact⟨av,0,[],rfl,by simp,.nil,rfl,by simp,λb hb=>(by cases hb),λ_=>rfl⟩|jH _ a0=>refine⟨aa a0,0,[],rfl,by simp,.nil,rfl,by simp,λb hb=>?_,λhb=>by cases hb⟩;have:=run_loadCells_list (P:=P) w b [] (λj v hj=>by simp at hj);simpa using this|list _ _ _ g off n aF cells hn hr gy jh ht ha=>
    subst hn;have hl:cells.length=es.length * sz:=(by rw[<-gy.length,oh hr]);have zP:es.length * sz=es.length * size:=by
     rcases dP with h|h
     ·rw[h]
     ·simp[h]
    refine⟨aa ⟨g,off,av⟩,aF,cells,rfl,λr hm=>?_,gy,ha,by rw[hl,zP],λb hb=>?_,λhn=>by cases hn⟩
    ·rcases dP with h|h
     ·rw[<-h];exact hr r hm
     ·rw[h] at hm;simp at hm
    ·injection hb with hb;subst hb;have:=run_loadCells_list (P:=P) w ⟨g,off,av⟩ cells (λj v hj=>by rw[Addr.na];exact s.ic _ _ _ (jh j v hj));rw[hl,zP] at this;exact this
  ·cases he
 ·rename_i b off len aF;split at he
  ·rename_i cs cI;split at he
   ·rename_i oq;injection he with he;subst he;cases hv with
    |arr _ g _ _ _ fP iX hb hl qc su mP=>
     obtain⟨_,_,ka,cells,e,k3,k4⟩:=s.box b g cs hb cI;have alv:∀n,off+n * size<=cs.length->((bO n).map λi=>(cs.drop (off+i * size)).take size).flatten=(cs.drop off).take (n * size):=by
      intro n
      induction n with
      |zero=>intro _;simp|succ n ih=>intro hn;rw[nD,mY,rX,ih (by rw[gZ] at hn;omega)];simp only[eL,List.map_nil,pW,Uu,jC];rw[show(n+1) * size=n * size+size by rw[gZ];omega,List.take_add,List.drop_drop]
     have hf:=alv len oq;have hk4:=(k4.1.drop off).take (len * size);have db:cs.length<=cells.toList.length:=(by have:=k4.le;simpa using this);have qR:(((cells.toList.take cs.length).drop off).take (len * size)).length=len * size:=(by simp only[fm,iC];omega);refine⟨aa ⟨g,fP,av⟩,iX,((cells.toList.take cs.length).drop off).take (len * size),by simp,λr hr=>?_,?_,?_,by rw[qR];simp,λb' iM=>?_,λhn=>by cases hn⟩
     ·simp only[kC,gf] at hr;obtain⟨i,hi,rfl⟩:=hr;simp only[fm,iC];have:(i+1) * size<=len * size:=pg _ hi;rw[gZ] at this;omega
     ·rw[hf];exact hk4
     ·rw[hf,eK];intro x hx;exact eK.1 ka x (N6 (pY hx))
     ·injection iM with iM;subst iM;have:=run_loadCells_list (P:=P) w ⟨g,fP,av⟩ (((cells.toList.take cs.length).drop off).take (len * size)) (λj v hj=>by
       rcases su with rfl|hz
       ·rw[Addr.na,tw k3];simp only[o7,pX] at hj;split at hj
        ·split at hj
         ·simpa using hj
         ·cases hj
        ·cases hj
       ·have Br:len=0:=(by omega);subst Br;simp at hj)
      have kU:(((cells.toList.take cs.length).drop off).take (len * size)).length=((bO len).map λi=>(cs.drop (off+i * size)).take size).length * size:=(by rw[qR];simp);rw[kU] at this;exact this
   ·cases he
  ·cases he
 ·cases he
def IX(s:b9 K G ok w0 h w){size:Nat}{x:AV}{ae:List (List AV)}(he:np h size x=aa ae){c:aT}(hv:a9 K x c):
 ∃eT,(Builtin.lenOf c).run P w=.ok ae.length w/\(∀r∈ae,r.length=size)/\aV K ae.flatten eT/\ae.flatten.all AV.eH=ah/\eT.length=ae.length * size/\
  (Builtin.firstCells size ae.length c).run P w=.ok eT.toArray w:=by
 unfold np at he;split at he
 ·rename_i str;split at he
  ·rename_i h1;injection he with he;subst he;subst h1;obtain⟨rfl,_⟩:=hv.jl;have hl:(str.data.toList.map lQ).length=str.size:=(by rw[bF];rfl);refine⟨str.data.toList.map λb=>.int .u8 b.toNat,by rw[hl];rfl,AS _,VO _,VN _,by simp,?_⟩;rw[hl];have:str.extract 0 str.size=str:=(by simp);have e2:str.data.map (λb=>Value.int .u8 b.toNat)=(str.data.toList.map λb=>Value.int .u8 b.toNat).toArray:=(by apply Nz;simp);simp only[Builtin.firstCells,this,Sem.run_pure,e2]
  ·cases he
 ·obtain⟨a,aF,eT,rfl,hr,gy,ha,bR,Dc,qi⟩:=Jk (P:=P) s he hv;refine⟨eT,rfl,hr,gy,ha,bR,?_⟩;cases a with|none=>have:=qi rfl;subst this;have:eT=[]:=(by simpa using bR);subst this;rfl|some b=>exact Dc b rfl
def ace(z)(n):(Builtin.zeroCells z n).size=n * z.size:=by simp[Builtin.zeroCells]
def akC(s:b9 K G ok w0 h w){d:List Nat}(hd:∀n∈h.dead,n∈d){t0 t1 elem:aP}{ts:Array aP}{ty:aP}{i:TypeInfo}{d1:TypeDesc}(h0:ts[0]?=aa t0)(hu:P.underlying t0=aa (.slice elem))
 (h1:ts[1]?=aa t1) (mR:P.underlying t1=aa d1) (eM:∀k,d1≠ .int k) (hi:P.info? elem=aa i) (hz:(i.zero.map λz=>z.cells.size)=aa i.size)
 {es new:List (List AV)} {a:Option Addr} {aF:Nat} {c cx:aT} (hc:c=.slice a es.length aF) (jM:aF<es.length+new.length)
 (hr:∀r∈es,r.length=i.size) (ha:es.flatten.all AV.eH=ah) {eT:List aT} (gy:aV K es.flatten eT) (hf:(Builtin.firstCells i.size es.length c).run P {w with drawn:=w.drawn+1}=.ok eT.toArray {w with drawn:=w.drawn+1})
 {nv:List aT} (QB:(Builtin.lenOf cx).run P w=.ok new.length w) (Lw:∀r∈new,r.length=i.size) (Zv:aV K new.flatten nv) (zD:new.flatten.all AV.eH=ah)
 (Bl:(Builtin.firstCells i.size new.length cx).run P {w with drawn:=w.drawn+1}=.ok nv.toArray {w with drawn:=w.drawn+1})
 (hb:(es.length+new.length) * i.bytes<=140737488355328) (hm:es.length+new.length<=9223372036854775807):
 ∃K' v w',K.Le K'/\b9 K' G ok w0 ({h with dead:=d}.fresh i.size (es++new)).2 w'/\a9 K' ({h with dead:=d}.fresh i.size (es++new)).1 v/\(Builtin.append_ ts ty #[c,cx]).run P w=.ok v w':=by
 simp only[dN] at hz;obtain⟨z,hz,yp⟩:=hz;have hq:∃nc,es.length+new.length<=nc/\(choose (.appendCap (es.length+new.length) aF elem)).run P w=.ok nc {w with drawn:=w.drawn+1}:=by refine⟨_,?_,by simp[Question.forced];rfl⟩;simp[Question.cut]
 obtain⟨nc,Is,uy⟩:=hq
 let rest:=Builtin.zeroCells z.cells (nc - (es.length+new.length))
 let cells:Array aT:=eT.toArray++nv.toArray++rest
 let w1:cG:={w with drawn:=w.drawn+1}
 let w2:cG:={w1 with heap:=w1.heap.push (.cells cells elem)}
 have pG:eT.length=es.length * i.size:=by rw[<-gy.length,oh hr]
 have kU:nv.length=new.length * i.size:=by rw[<-Zv.length,oh Lw]
 have bR:(es++new).length * i.size=(eT++nv).length:=by rw[dM,dM,pG,kU,gZ]
 have hzero:(zeroValue elem).run P w1=.ok z w1:=by simp[zeroValue,sO hi,hz]
 have alu:=growslice_fits (bytes:=i.bytes) jM hb;have mQ:(Builtin.append_ ts ty #[c,cx]).run P w=.ok (.slice (aa ⟨w.heap.size,0,av⟩) (es.length+new.length) nc) w2:=by
  subst hc;have e1:¬(((es.length+new.length:Nat):Int)>IntKind.i64.max):=by simp only[IntKind.max,IntKind.signed,IntKind.bits];simp;omega
  have e2:¬(Builtin.nextslicecap (es.length+new.length) aF * i.bytes>2^48):=by omega
  have e3:¬(es.length+new.length<=aF):=by omega
  cases d1<;>first|exact absurd rfl (eM _)|(simp only[Builtin.append_,h0,jI,lu,qw,Sem.run_bind,dL hu,Result.andThen_ok,sizeOf,sO hi,Sem.run_pure,h1,dL mR,kj,if_false,QB,e3,e1,e2,false_and,uy,run_askRoom,hf,Au,if_true,Bl,newRow,run_newObj,hzero,w1,w2,cells,rest])
 have bD:cells.size=nc * i.size:=by simp only[cells,TZ,aef,rest,ace,pG,kU,yp];rw[On];have:(es.length+new.length) * i.size<=nc * i.size:=pg _ Is;rw[gZ] at this ⊢;omega
 have oT:w2.heap[w.heap.size]?=aa (.cells cells elem (0,0)):=by simp[w2,w1]
 obtain⟨K',le,s',hv⟩:=s.Px (w':=w2) hd (sz:=i.size) (es:=es++new) (cells:=cells) (e:=elem) (fz:=(0,0)) (aF:=nc)
  (λr hm=>by rcases xA.1 hm with hm|hm;exact hr r hm;exact Lw r hm) (by rw[rX,BZ,ha,zD];rfl) (by have:cells.toList.take ((es++new).length * i.size)=eT++nv:=(by rw[bR];simp only[cells,Ec];rw[Kh bJ];exact gK bJ);rw[this,rX];exact gy.append Zv) rfl rfl rfl (by simp[w2,w1]) (λk hk=>C4 w _ hk) oT (by rw[dM];exact Is) (by rw[bD];exact aL _) (λj _=>KX j)
 rw[dM] at hv;exact⟨K',_,w2,le,s',hv,mQ⟩
def aw4(s:b9 K G ok w0 h w){ts:Array aP}{ty elem:aP}{kn:IntKind}{a x y:AV}{h':ar}(hu:(ts[0]?).bind P.underlying=aa (.slice elem))(mR:(ts[1]?).bind P.underlying=aa (.int kn))
 (he:Nv P h ts elem a x=aa (y,h')) {c cx:aT} (ha:a9 K a c) (hx:a9 K x cx):
 ∃K' v w',K.Le K'/\b9 K' G ok w0 h' w'/\a9 K' y v/\(Builtin.append_ ts ty #[c,cx]).run P w=.ok v w':=by
 unfold Nv at he;split at he
 ·rename_i sz kk n;obtain⟨rfl,_⟩:=hx.jl;split at he
  ·rename_i i zero hi hz;obtain⟨z,jz,gV,zS⟩:=D6 (K:=K) hz w;split at he
   ·rename_i PZ;obtain⟨h0,h1,h2,h3,h5,h6⟩:=PZ;injection he with he;obtain⟨rfl,rfl⟩:=je he;have hzero:i.zero=aa z:=by
     simp only[zeroValue,Sem.run_bind,sO hi,Result.andThen_ok] at jz;cases IK:i.zero with|none=>rw[IK] at jz;simp at jz|some v=>rw[IK] at jz;simp at jz;rw[jz]
    have yp:z.cells.size=i.size:=(by rw[<-h6,gV.length];simp);obtain⟨m,rfl⟩:∃m:Nat,n=m:=⟨n.toNat,by omega⟩;rw[Int.toNat_natCast];obtain⟨t0,t1,rfl⟩:∃t0 t1,ts=#[t0,t1]:=by
     obtain⟨l⟩:=ts
     match l,h0 with
     | [a,b],_=>exact⟨a,b,rfl⟩
    have hu:P.underlying t0=aa (.slice elem):=hu;have mR:P.underlying t1=aa (.int kn):=mR;have hm:m * i.bytes<=140737488355328:=(by have:((m * i.bytes:Nat):Int)<=140737488355328:=(by rw[Int.natCast_mul];exact h2);omega);have mQ:=Go.Lib.run_append_nil_zeros (P:=P) w t0 t1 ty elem i z kk kn hu mR hi hzero m ai h5 ai ai;have eF:=grownCap_ge w m 0 elem;generalize grownCap w m 0 elem=gc at *
    have Lb:(Builtin.zeroCells z.cells m).toList=(br m z.cells.toList).flatten:=Jd _ _;have pG:(br m z.cells.toList).flatten.length=(br m zero).flatten.length:=(gV.CI m).length.symm;have kU:(br m zero).flatten.length=m * i.size:=oh (sz:=i.size) (es:=br m zero) (λr hr=>by rw[Kb hr];exact h6)|>.trans (by rw[mX])
    have dP:(Builtin.zeroCells z.cells m++Builtin.zeroCells z.cells (gc - m)).size=gc * i.size:=by
     rw[TZ,<-yS,<-yS,Lb,pG,kU];have e2:(Builtin.zeroCells z.cells (gc - m)).toList=(br (gc - m) z.cells.toList).flatten:=Jd _ _;rw[e2,<-(gV.CI (gc - m)).length];have e3:(br (gc - m) zero).flatten.length=(gc - m) * i.size:=oh (sz:=i.size) (es:=br (gc - m) zero) (λr hr=>by rw[Kb hr];exact h6)|>.trans (by rw[mX])
     rw[e3,<-gZ,Nat.add_sub_cancel' eF]
    obtain⟨q1,q2⟩:=(s.drew (w.drawn+1)).RT (cs:=(br m zero).flatten) (cells:=Builtin.zeroCells z.cells m++Builtin.zeroCells z.cells (gc - m)) elem (aa (m,i.size,gc * i.size))
     (by rw[Ec,Lb,Kh (by rw[pG];exact aL _),gK (by rw[pG];exact aL _)];exact gV.CI m) (Mo zS _)
     (λN sz room q=>by injection q with q;injection q with q1 q;injection q with q2 q3;subst q1 q2 q3;exact .inr ⟨kU,by rw[dP];exact aL _⟩)
    have bR:h.boxes.length=K.β.length:=s.my.symm;cases ha with
    |nil=>
     cases q2 with|box _ _ _ hb=>exact⟨_,_,_,K.FQ _ _,q1,.arr _ _ _ _ _ _ _ hb (aL _) eF (.inl rfl) (.inr (.inr (.inr ⟨i.size,gc * i.size,by simp only[a8.p9,bR,if_true],h5,aL _⟩))),mQ⟩
    |list _ _ _ _ _ _ _ _ _ _ _ _ ht _=>exact ht.2.elim
   ·cases he
  ·cases he
 ·cases he
set_option maxHeartbeats 1000000 in
def OG(s:b9 K G ok w0 h w){ts:Array aP}{ty:aP}{a x y:AV}{h':ar}(he:hU P h ts a x=aa (y,h')){c cx:aT}(ha:a9 K a c)(hx:a9 K x cx):
 ∃K' v w',K.Le K'/\b9 K' G ok w0 h' w'/\a9 K' y v/\(Builtin.append_ ts ty #[c,cx]).run P w=.ok v w':=by
 unfold hU at he;split at he
 ·rename_i hu mR;exact aw4 s hu mR he ha hx
 ·rename_i elem d1 Ft hu mR;simp only[AM] at hu mR;obtain⟨t0,h0,hu⟩:=hu;obtain⟨t1,h1,mR⟩:=mR;have eM:∀k,d1≠ .int k:=λk e=>Ft k e;split at he
  ·cases he
  rename_i i hi;split at he
  ·cases he
  rename_i new mD;split at he;rotate_left
  ·cases he
  rename_i hz;obtain⟨nv,n1,n2,n3,n4,n5,n6⟩:=IX (P:=P) s mD hx;obtain⟨nv',n1',n2',n3',n4',n5',n6'⟩:=IX (P:=P) (s.drew (w.drawn+1)) mD hx;split at he
  ·rename_i k sz es;split at he;rotate_left
   ·cases he
   rename_i dP;have lh:rowsOf h i.size (.list k sz es)=aa es:=(by simp only[rowsOf];rw[aH dP]);obtain⟨b,aF,eT,rfl,r1,r2,r3,r4,r5,r6⟩:=Jk (P:=P) (s.drew (w.drawn+1)) lh ha;have hf:(Builtin.firstCells i.size es.length (.slice b es.length aF)).run P {w with drawn:=w.drawn+1}=.ok eT.toArray {w with drawn:=w.drawn+1}:=by
    cases b with|none=>have:=r6 rfl;subst this;have:eT=[]:=(by simpa using r4);subst this;rfl|some b=>exact r5 b rfl
   split at he
   ·rename_i qi;injection he with he;obtain⟨rfl,rfl⟩:=Prod.mk.inj he;subst qi;have QF:nv=[]:=(by simpa using n5);subst QF;refine⟨K,.slice b es.length aF,w,.refl K,s,ha,?_⟩;have jM:es.length<=aF:=by
     cases ha with|nil=>exact aL _|jH=>exact aL _|list _ _ _ _ _ _ _ _ _ _ _ _ ht _=>exact ht.1
    have n1:(Builtin.lenOf cx).run P w=.ok 0 w:=n1;have n6:(Builtin.firstCells i.size 0 cx).run P w=.ok #[] w:=n6;cases d1<;>first|exact absurd rfl (eM _)|(cases b<;>simp only[Builtin.append_,h0,jI,lu,qw,Sem.run_bind,dL hu,Result.andThen_ok,sizeOf,sO hi,Sem.run_pure,h1,dL mR,kj,if_false,n1,Cf,jM,if_true,Au,n6,storeCells])
   ·rename_i It;have Iu:0<new.length:=by cases new with|nil=>exact absurd rfl It|cons _ _=>simp
    split at he;rotate_left
    ·cases he
    rename_i hb;have grow:∀d:List Nat,(∀n∈h.dead,n∈d)->aF<es.length+new.length->
     ∃K' v w',K.Le K'/\b9 K' G ok w0 ({h with dead:=d}.fresh i.size (es++new)).2 w'/\a9 K' ({h with dead:=d}.fresh i.size (es++new)).1 v/\(Builtin.append_ ts ty #[.slice b es.length aF,cx]).run P w=.ok v w':=
     λd hd jM=>akC s hd h0 hu h1 mR eM hi hz.2 rfl jM r1 r3 r2 hf n1 n2 n3' n4 n6' hb.1 hb.2
    split at he
    ·injection he with he;obtain⟨rfl,rfl⟩:=je he;cases ha with|nil=>exact grow h.dead (λ_ hm=>hm) (by simpa using Iu)|list _ _ _ _ _ _ _ _ _ _ _ _ ht _=>exact ht.2.elim
    ·injection he with he;obtain⟨rfl,rfl⟩:=je he;cases ha with|jH=>exact grow h.dead (λ_ hm=>hm) (by simpa using Iu)|list _ _ _ _ _ _ _ _ _ _ _ _ ht _=>exact grow h.dead (λ_ hm=>hm) (by have:=ht.2;simp only at this;omega)
    ·rename_i n;split at he;rotate_left
     ·cases he
     rename_i Yc;simp only[bI,decide_eq_true_eq] at Yc;obtain⟨eR,hsi⟩:=Yc;injection he with he;obtain⟨rfl,rfl⟩:=je he;rcases ez aF (es.length+new.length) with jM|jM
     ·exact grow (n::h.dead) (λ_ hm=>fM _ hm) jM
     ·cases ha with
      |list _ _ _ g off n' _ cells hn hr gy jh ht ry=>
       obtain⟨t1',t2,t3,t4⟩:=ht.2;obtain⟨k1,k2,k3,bc,be,bz,k4,k5,k6⟩:=s.tok n eR;subst t2;subst hsi;have oo:bc.size=(K.tk n).2.2:=k5;have oq:off+es.length * i.size+nv.length<=bc.size:=(by have:(es.length+new.length) * i.size<=aF * i.size:=pg _ jM;rw[gZ] at this;omega);obtain⟨w',dT,q1,q2,q3⟩:=JB (P:=P) (off+es.length * i.size) be bz nv 0 bc w k4 ai (Hq n3 n4) (λj hj hj'=>by rw[<-Ba k4];exact k6 j ai ai);have Ij:dT.size=bc.size:=(by have h1:dT.toList.length=bc.toList.length:=(by rw[q3];simp only[dM,fm,iC,yS,Cf];omega);simpa using h1);have Qd:∀j,j<off+es.length * i.size->dT[j]?=bc[j]?:=λj hj=>(by rw[<-D9,q3,<-D9,ua,sY (by simp;omega),o7,aH ai]);have alx:∀j,j<nv.length->dT[off+es.length * i.size+j]?=nv[j]?:=λj hj=>(by have aC:(bc.toList.take (off+es.length * i.size+0)).length=off+es.length * i.size:=(by simp;omega);rw[<-D9,q3,ua,AL ai,aC,sY ai];congr 1;omega);have dV:=s.row (h':=({h with dead:=n::h.dead}.fresh i.size (es++new)).2) (w':=w') (g:=(K.tk n).1) (off:=off+es.length * i.size) (m:=off+(es.length+new.length) * i.size) (cells:=dT) (e:=be) (fz:=bz) rfl rfl rfl
        (λt ht=>(Vj (λ_ hm=>fM _ hm) ht).imp id λhh=>⟨hh.1,λmN=>hh.2 (by rw[s.qX t n hh.1 eR mN];exact gq ..)⟩)
        k1 k2 (λj hj=>k3 j ai) (by rw[q2.size];exact aL _) q2.os q2.tape q2.output (λk o hk ho=>(q2.other k hk).trans ho) q2.this (λo ho=>by rw[k4] at ho;injection ho with ho;subst ho;exact⟨_,_,_,rfl⟩)
        (λj c hc=>by
         have hj:j<off+es.length * i.size:=by
          rcases ez j (off+es.length * i.size) with h|h
          ·exact h
          ·rw[k3 j ai] at hc;cases hc
         rw[Qd j hj,<-tw k4];exact s.ic _ _ _ hc)
        (by rw[gZ];omega) (by rw[gZ,Ij];omega) (λj hj hl=>by rw[<-Ba k4];rw[gZ] at hj;exact k6 j ai ai)
       have le:=a8.RA (K:=K) (g:=(K.tk n).1) (off:=off+es.length * i.size) (m:=off+(es.length+new.length) * i.size) (size:=dT.size) (cells:=λj=>dT[j]?) (λj hj=>k3 j ai) k1;have db:cells.length=es.length * i.size:=(by rw[<-gy.length,oh hr]);refine⟨_,.slice (aa ⟨(K.tk n).1,off,av⟩) (es.length+new.length) aF,w',le,dV,?_,?_⟩
       ·refine .list (.free h.tn) i.size (es++new) (K.tk n).1 off _ aF (cells++nv) bJ (λr hm=>by rcases xA.1 hm with hm|hm;exact hr r hm;exact n2 r hm) (by rw[rX];exact(gy.append n3).mono le) (λj c hj=>?_) ⟨jM,?_⟩ (by rw[rX,BZ,ry,n4];rfl)
        ·rcases ez j cells.length with aC|eF
         ·rw[sY aC] at hj;exact le.ic _ _ _ (jh j c hj)
         ·rw[AL eF] at hj;have ov:j - cells.length<nv.length:=(aW.1 hj).1;simp only[a8.row];rw[aH (by refine⟨aY,by omega,by rw[gZ];omega⟩)];have:=alx (j - cells.length) ov;rw[hj] at this;rw[<-this];congr 1;omega
        ·simp only[a8.row,s.tn,if_true];refine⟨ai,aY,aY,by omega⟩
       ·have Bd:(⟨(K.tk n).1,off,av⟩:Addr).add (es.length * i.size)=⟨(K.tk n).1,off+es.length * i.size,av⟩:=Addr.na _ _ _;cases d1<;>first|exact absurd rfl (eM _)|(simp only[Builtin.append_,h0,jI,lu,qw,Sem.run_bind,dL hu,Result.andThen_ok,sizeOf,sO hi,Sem.run_pure,h1,dL mR,kj,if_false,n1,jM,if_true,Au,n6,Bd,q1])
    ·cases he
  ·rename_i b off len aF;split at he
   ·rename_i cs cI;split at he
    ·rename_i hc;injection he with he;obtain⟨rfl,rfl⟩:=je he;cases ha with
     |arr _ g _ _ _ fP iX hb hl qc su mP=>
      obtain⟨k1,k2,ka,cells,e,k3,k4⟩:=s.box b g cs hb cI;have zP:cs.length<=cells.size:=k4.le;have hm:(len+new.length) * i.size<=aF * i.size:=pg _ hc.1;rw[gZ] at hm;have Ym:len+new.length<=iX:=(by omega);by_cases Dt:aF=0
      ·have Dg:new=[]:=by cases new with|nil=>rfl|cons _ _=>simp at hc;omega
       subst Dg;have QF:nv=[]:=(by simpa using n5);subst QF;have n1:(Builtin.lenOf cx).run P w=.ok 0 w:=n1;have n6:(Builtin.firstCells i.size 0 cx).run P w=.ok #[] w:=n6;have zO:h.boxes.set b (fe cs (off+len * i.size) ([]:List (List AV)).flatten)=h.boxes:=by
        rw[show fe cs (off+len * i.size) ([]:List (List AV)).flatten=cs by simp[fe]];apply rW;intro k;rw[mW];split
        ·rename_i e;subst e;rw[aH (aW.1 cI).1,cI]
        ·rfl
       rw[zO];refine⟨K,.slice (aa ⟨g,fP,av⟩) len iX,w,.refl K,s,.arr _ _ _ _ _ _ _ hb hl qc su mP,?_⟩;have Qt:len<=iX:=(by omega);cases d1<;>first|exact absurd rfl (eM _)|(simp only[Builtin.append_,h0,jI,lu,qw,Sem.run_bind,dL hu,Result.andThen_ok,sizeOf,sO hi,Sem.run_pure,h1,dL mR,kj,if_false,n1,Cf,Qt,if_true,Au,n6,storeCells])
      ·have QG:fP=off:=by rcases su with p|p<;>omega
       obtain⟨w',dT,q1,q2,q3⟩:=JB (P:=P) (off+len * i.size) e (0,0) nv 0 cells w k3 ai (Hq n3 n4) (λj _ _=>KX j);have pH:new.flatten.length=new.length * i.size:=(by rw[n3.length,n5]);refine⟨K,.slice (aa ⟨g,fP,av⟩) (len+new.length) iX,w',.refl K,s.Ty hb cI (by rw[pH];omega) k3 q2 q3 n3 n4,.arr _ _ _ _ _ _ _ hb hc.1 qc su mP,?_⟩;have Bd:(⟨g,off,av⟩:Addr).add (len * i.size)=⟨g,off+len * i.size,av⟩:=Addr.na _ _ _;rw[QG];cases d1<;>first|exact absurd rfl (eM _)|(simp only[Builtin.append_,h0,jI,lu,qw,Sem.run_bind,dL hu,Result.andThen_ok,sizeOf,sO hi,Sem.run_pure,h1,dL mR,kj,if_false,n1,Ym,if_true,Au,n6,Bd,q1])
    ·cases he
   ·cases he
  ·cases he
 ·cases he
def akD{t0 t1 elem:aP}{ts:Array aP}{ty:aP}{i:TypeInfo}{d1:TypeDesc}(h0:ts[0]?=aa t0)(hu:P.underlying t0=aa (.slice elem))
 (h1:ts[1]?=aa t1) (mR:P.underlying t1=aa d1) (eM:∀k,d1≠ .int k) (hi:P.info? elem=aa i) (hz:(i.zero.map λz=>z.cells.size)=aa i.size)
 {n m:Nat} {a:Option Addr} {aF:Nat} {cx:aT} (jM:aF<n+m) {eT:List aT} (qR:eT.length=n * i.size)
 (hf:(Builtin.firstCells i.size n (.slice a n aF)).run P {w with drawn:=w.drawn+1}=.ok eT.toArray {w with drawn:=w.drawn+1})
 {nv:List aT} (QB:(Builtin.lenOf cx).run P w=.ok m w) (pH:nv.length=m * i.size)
 (Bl:(Builtin.firstCells i.size m cx).run P {w with drawn:=w.drawn+1}=.ok nv.toArray {w with drawn:=w.drawn+1})
 (hb:(n+m) * i.bytes<=140737488355328) (hm:n+m<=9223372036854775807):
 ∃nc cells,n+m<=nc/\cells.size=nc * i.size/\cells.toList.take ((n+m) * i.size)=eT++nv/\
  (Builtin.append_ ts ty #[.slice a n aF,cx]).run P w=.ok (.slice (aa ⟨w.heap.size,0,av⟩) (n+m) nc) {w with drawn:=w.drawn+1,heap:=w.heap.push (.cells cells elem)}:=by
 simp only[dN] at hz;obtain⟨z,hz,yp⟩:=hz;have hq:∃nc,n+m<=nc/\(choose (.appendCap (n+m) aF elem)).run P w=.ok nc {w with drawn:=w.drawn+1}:=by refine⟨_,?_,by simp[Question.forced];rfl⟩;simp[Question.cut]
 obtain⟨nc,Is,uy⟩:=hq
 let rest:=Builtin.zeroCells z.cells (nc - (n+m))
 let cells:Array aT:=eT.toArray++nv.toArray++rest
 let w1:cG:={w with drawn:=w.drawn+1}
 have bR:(n+m) * i.size=(eT++nv).length:=by rw[dM,qR,pH,gZ]
 have hzero:(zeroValue elem).run P w1=.ok z w1:=by simp[zeroValue,sO hi,hz]
 have alu:=growslice_fits (bytes:=i.bytes) jM hb;refine⟨nc,cells,Is,?_,?_,?_⟩
 ·simp only[cells,TZ,aef,rest,ace,qR,pH,yp];rw[On];have:(n+m) * i.size<=nc * i.size:=pg _ Is;rw[gZ] at this ⊢;omega
 ·rw[bR];simp only[cells,Ec];rw[Kh bJ];exact gK bJ
 ·have e1:¬(((n+m:Nat):Int)>IntKind.i64.max):=by simp only[IntKind.max,IntKind.signed,IntKind.bits];simp;omega
  have e2:¬(Builtin.nextslicecap (n+m) aF * i.bytes>2^48):=by omega
  have e3:¬(n+m<=aF):=by omega
  cases d1<;>first|exact absurd rfl (eM _)|(simp only[Builtin.append_,h0,jI,lu,qw,Sem.run_bind,dL hu,Result.andThen_ok,sizeOf,sO hi,Sem.run_pure,h1,dL mR,kj,if_false,QB,e3,e1,e2,false_and,uy,run_askRoom,hf,Au,if_true,Bl,newRow,run_newObj,hzero,w1,cells,rest])
set_option maxHeartbeats 2000000 in
def avV(s:b9 K G ok w0 h w){ts:Array aP}{ty:aP}{a x y:AV}{h':ar}(he:sU P h ts a x=aa (y,h')){c cx:aT}(ha:a9 K a c)(hx:a9 K x cx):
 ∃K' v w',K.Le K'/\b9 K' G ok w0 h' w'/\a9 K' y v/\(Builtin.append_ ts ty #[c,cx]).run P w=.ok v w':=by
 have aG:=he;unfold sU at he;split at he
 ·cases he
 ·rename_i elem d1 Ft Zs Zt;have hu:=Zs;have mR:=Zt;simp only[AM] at hu mR;obtain⟨t0,h0,hu⟩:=hu;obtain⟨t1,h1,mR⟩:=mR;have eM:∀k,d1≠ .int k:=λk e=>Ft k e;split at he
  ·cases he
  rename_i i hi;split at he
  ·cases he
  rename_i new mD;split at he;rotate_left
  ·cases he
  rename_i hz;obtain⟨nv,n1,n2,n3,n4,n5,n6⟩:=IX (P:=P) s mD hx;obtain⟨nv',n1',n2',n3',n4',n5',n6'⟩:=IX (P:=P) (s.drew (w.drawn+1)) mD hx;have fresh:∀{h0:ar} (s0:b9 K G ok w0 h0 w) {n aF:Nat} {ad:Option Addr} {cs:List AV} {eT:List aT},h0.boxes.length=h.boxes.length->aF<n+new.length->aV K cs eT->cs.all AV.eH=ah->cs.length=n * i.size->
   (Builtin.firstCells i.size n (.slice ad n aF)).run P {w with drawn:=w.drawn+1}=.ok eT.toArray {w with drawn:=w.drawn+1}->(n+new.length) * i.bytes<=140737488355328->n+new.length<=9223372036854775807->
   ∃K' v w',K.Le K'/\b9 K' G ok w0 {h0 with boxes:=h0.boxes++[cs++new.flatten]} w'/\a9 K' (.arr h.boxes.length 0 (n+new.length) (n+new.length)) v/\(Builtin.append_ ts ty #[.slice ad n aF,cx]).run P w=.ok v w':=by
   intro h0' s0 n aF ad cs eT jE jM gy ry db hf hb hm;have pH:new.flatten.length=new.length * i.size:=oh n2';obtain⟨nc,cells,g1,g2,g3,g4⟩:=akD (ty:=ty) h0 hu h1 mR eM hi hz.2 jM (by rw[<-gy.length,db]) hf n1 n5' n6' hb hm;have Fg:(cs++new.flatten).length=(n+new.length) * i.size:=(by rw[dM,db,pH,gZ]);obtain⟨q1,q2⟩:=(s0.drew (w.drawn+1)).RT (cs:=cs++new.flatten) (cells:=cells) elem (aa (n+new.length,i.size,nc * i.size)) (by rw[Fg,g3];exact gy.append n3') (by rw[BZ,ry,n4'];rfl)
    (λN sz room q=>by injection q with q;injection q with q1 q;injection q with q2 q3;subst q1 q2 q3;exact .inr ⟨Fg,by rw[g2];exact aL _⟩)
   cases q2 with|box _ _ _ gi=>rw[jE] at gi;refine⟨_,_,_,K.FQ _ _,q1,.arr _ _ _ _ _ _ _ gi (aL _) g1 (.inl rfl) (.inr (.inr (.inr ⟨i.size,nc * i.size,?_,hz.1,aL _⟩))),g4⟩;have bR:h.boxes.length=K.β.length:=(by rw[s0.my,jE]);simp only[a8.p9,bR,if_true]
  split at he
  ·rename_i k sz es;split at he;rotate_left
   ·cases he
   rename_i dP;split at he
   ·rename_i qi;refine OG s ?_ ha hx;unfold hU;rw[Zs,Zt];cases d1<;>first|exact absurd rfl (eM _)|(simp only[hi,mD,aH hz,aH dP,aH qi];exact he)
   ·rename_i It;split at he;rotate_left
    ·cases he
    rename_i hb;have lh:rowsOf h i.size (.list k sz es)=aa es:=(by simp only[rowsOf];rw[aH dP]);obtain⟨b,aF,eT,rfl,r1,r2,r3,r4,r5,r6⟩:=Jk (P:=P) (s.drew (w.drawn+1)) lh ha;have hf:(Builtin.firstCells i.size es.length (.slice b es.length aF)).run P {w with drawn:=w.drawn+1}=.ok eT.toArray {w with drawn:=w.drawn+1}:=by
     cases b with|none=>have:=r6 rfl;subst this;have:eT=[]:=(by simpa using r4);subst this;rfl|some b=>exact r5 b rfl
    have Iu:0<new.length:=by cases new with|nil=>exact absurd rfl It|cons _ _=>simp
    have fin:aF<es.length+new.length->aa (AV.arr h.boxes.length 0 (es.length+new.length) (es.length+new.length),({h with boxes:=h.boxes++[(es++new).flatten]}:ar))=aa (y,h')->∃K' v w',K.Le K'/\b9 K' G ok w0 h' w'/\a9 K' y v/\(Builtin.append_ ts ty #[.slice b es.length aF,cx]).run P w=.ok v w':=λjM hq=>(by injection hq with hq;obtain⟨rfl,rfl⟩:=je hq;rw[rX];exact fresh s rfl jM r2 r3 (oh r1) hf hb.1 hb.2);split at he
    ·refine fin ?_ he;cases ha with|nil=>simpa using Iu|list _ _ _ _ _ _ _ _ _ _ _ _ ht _=>exact ht.2.elim
    ·refine fin ?_ he;cases ha with|jH=>simpa using Iu|list _ _ _ _ _ _ _ _ _ _ _ _ ht _=>have:=ht.2;simp only at this;omega
    ·cases he
  ·rename_i b off len aF;split at he
   ·rename_i cs cI;split at he
    ·exact OG s he ha hx
    ·rename_i Ig;split at he
     ·rename_i hc;injection he with he;obtain⟨rfl,rfl⟩:=je he;obtain⟨c1,c2,c3,c4,c5,c6⟩:=hc;subst c1;subst c3;cases ha with
      |arr _ g _ _ _ fP iX hb hl qc su mP=>
       have QG:fP=0:=by rcases su with p|p<;>omega
       subst QG;obtain⟨k1,k2,ka,cells,e,k3,k4⟩:=s.box b g cs hb cI;have bG:cs≠[]:=λq=>(by subst q;have:=Oj c2 hz.1;simp at c4;omega);have PT:=(aW.1 cI).1;have qg:=s.ajb b;have Lk:(h.boxes.set b []).length=h.boxes.length:=(by simp);rcases ez iX (len+new.length) with jM|jM
       ·refine fresh qg Lk jM k4.1 ka c4.symm ?_ c5 c6;have:=run_loadCells_list (P:=P) {w with drawn:=w.drawn+1} ⟨g,0,av⟩ (cells.toList.take cs.length) (λj v hj=>by
         rw[Addr.na,tw (w:={w with drawn:=w.drawn+1}) k3];simp only[o7] at hj;split at hj
         ·simpa using hj
         ·cases hj)
        rw[<-k4.1.length,<-c4] at this;rw[<-c4];exact this
       ·rcases mP with r|r|r|⟨sz,room,r1,r2,r3⟩
        ·omega
        ·omega
        ·exact absurd rfl r
        ·rcases k4.2 _ _ _ r1 with q|⟨q1,q2⟩
         ·exact absurd q bG
         ·have dP:i.size=sz:=Nat.eq_of_mul_eq_mul_left c2 (c4.trans q1);subst dP;have eX:=k4.le;have pH:new.flatten.length=new.length * i.size:=oh n2;have al0:(len+new.length) * i.size<=cells.size:=fG (pg _ jM) (fG r3 q2);rw[gZ] at al0;obtain⟨w',dT,w1,w2,w3⟩:=JB (P:=P) (0+len * i.size) e (0,0) nv 0 cells w k3 ai (Hq n3 n4) (λj _ _=>KX j);have ale:dT.toList.length=cells.toList.length:=(by rw[w3];exact Tp (by simp only[yS];omega));obtain⟨s3,zF⟩:=qg.avN (g:=g) (cs:=cs++new.flatten) (cells:=dT) (e:=e) k1 k2
           (λb2 gi=>by
            show(h.boxes.set b [])[b2]?=aa [];rw[mW];by_cases vt:b=b2
            ·subst vt;rw[aH rfl,aH PT]
            ·rw[aJ vt];rcases s.rf _ _ _ hb gi with p|p|p
             ·exact absurd p vt
             ·rw[cI] at p;injection p with p;exact absurd p bG
             ·exact p)
           (λt ht hq=>by obtain⟨_,q,_⟩:=s.tok t ht;exact q b (by rw[hq];exact hb)) k3 (aa (len+new.length,i.size,cells.size))
           (λN sz room q=>by injection q with q;injection q with q1 q;injection q with q2 q3;subst q1 q2 q3;refine .inr ⟨by rw[dM,<-c4,pH,gZ],?_⟩;simp only[yS] at ale;omega) w2
           (by rw[dM,pH,w3];have e1:cs.length+new.length * i.size=0+len * i.size+0+nv.length:=(by omega);rw[e1,Kh (by simp only[dM,fm,yS];omega),gK (by simp only[dM,fm,yS];omega)];have e2:0+len * i.size+0=cs.length:=(by omega);rw[e2];exact k4.1.append n3) (by rw[BZ,ka,n4];rfl)
          rw[Lk] at zF;refine⟨_,.slice (aa ⟨g,0,av⟩) (len+new.length) iX,w',K.FQ _ _,s3,.arr _ _ _ _ _ _ _ zF (aL _) jM (.inl rfl) (.inr (.inr (.inr ⟨i.size,cells.size,?_,hz.1,fG r3 q2⟩))),?_⟩
          ·have bR:h.boxes.length=K.β.length:=s.my.symm;simp only[a8.p9,bR,if_true]
          ·have Bd:(⟨g,0,av⟩:Addr).add (len * i.size)=⟨g,0+len * i.size,av⟩:=Addr.na _ _ _;cases d1<;>first|exact absurd rfl (eM _)|(simp only[Builtin.append_,h0,jI,lu,qw,Sem.run_bind,dL hu,Result.andThen_ok,sizeOf,sO hi,Sem.run_pure,h1,dL mR,kj,if_false,n1,jM,if_true,Au,n6,Bd,w1])
     ·cases he
   ·cases he
  ·cases he
 ·cases he
def ag7(s:b9 K G ok w0 h w){t:aP}{len:Nat}{parts:Array (Nat × bU)}{ρ:bU->AV}{ρ':bU->aT}(hρ:∀x,a9 K (ρ x) (ρ' x)){k:Tok}{sz:Nat}{es:List (List AV)}
 (he:gG P t len (parts.toList.map λp=>(p.1,ρ p.2))=aa (.list k sz es)):
 ∃K' v w',K.Le K'/\b9 K' G ok w0 (h.fresh sz es).2 w'/\a9 K' (h.fresh sz es).1 v/\(Instr.buildSlice t len (parts.map λp=>(p.1,ρ' p.2))).run P w=.ok v w':=by
 obtain⟨p1,p2⟩:=Sg hρ parts;unfold gG at he;split at he
 ·rename_i elem hu;split at he
  ·rename_i size zero hs hz;obtain⟨z,jz,gV,zS⟩:=D6 (K:=K) hz w;split at he
   ·rename_i hc;simp only[dN] at he;obtain⟨out,ho,he⟩:=he;injection he with _ e1 e2;subst e1;subst e2;obtain⟨f1,f2,f3⟩:=WR (λr hr=>by rw[(Ux.1 hr).2];exact hc.2.1) ho;have yp:z.cells.size=size:=(by rw[<-hc.2.1,gV.length];simp);have oN:((Aq (len * size)).map (z.cells[·%z.cells.size]!)).toList=(br len z.cells.toList).flatten:=(by rw[<-yp];exact Jd _ _);obtain⟨out',q1,q2⟩:=KR (dT:=(Aq (len * size)).map (z.cells[·%z.cells.size]!)) f1 (by rw[oN];exact gV.CI len) p1 p2;have oP:out.length=len:=(by rw[f3];simp);have zP:out'.toList.length=len * size:=(by rw[<-q2.length,oh f2,oP]);obtain⟨K',le,s',hv⟩:=s.Px (w':={w with heap:=w.heap.push (.cells out' elem)}) (d:=h.dead) (λ_ hm=>hm) (sz:=size) (es:=out) (cells:=out') (e:=elem) (fz:=(0,0)) (aF:=len)
     f2 (WS f1 (Mo zS len)) (by rw[gK (by rw[zP,oP];exact aL _)];exact q2) rfl rfl rfl bJ (λk hk=>C4 w _ hk) bJ
     ai (by rw[<-zP];simp) (λj hj=>by simp[oi])
    rw[oP] at hv;refine⟨K',.slice (aa ⟨w.heap.size,0,av⟩) len len,_,le,s',hv,?_⟩;by_cases h0:len * size=0
    ·have PB:len=0:=by
      rcases aep.1 h0 with h|h
      ·exact h
      ·omega
     subst PB;simp only[Hj] at q1;have e1:(Aq 0).map (λx=>(#[]:Array aT)[x%(#[]:Array aT).size]!)=(Aq 0).map (z.cells[·%z.cells.size]!):=(by simp);simp only[Instr.buildSlice,Sem.run_bind,dL hu,Result.andThen_ok,oE hs,Hj];simp only[ud,gt_iff_lt,if_false,aez,if_true,Sem.run_pure,Result.andThen_ok,e1,q1,newRow,Sem.run_bind,run_newObj]
    ·simp only[Instr.buildSlice,Sem.run_bind,dL hu,Result.andThen_ok,oE hs];rw[aJ ai,aJ h0];simp only[Sem.run_pure,Sem.run_bind,jz,Result.andThen_ok,q1,newRow,run_newObj]
   ·cases he
  ·cases he
 ·cases he
def b9.kill(s:b9 K G ok w0 h w){t:Nat}(ha:alive h t=ah)(n:Nat):b9 K G ok w0 {h with dead:=t::h.dead} (w.freeze ⟨(K.tk t).1,n,av⟩ 1):=by
 obtain⟨t1,t2,t3,c0,e0,z0,t4,t5,t6⟩:=s.tok t ha;have oT:∃z,(w.freeze ⟨(K.tk t).1,n,av⟩ 1).heap[(K.tk t).1]?=aa (.cells c0 e0 z):=by simp only[World.freeze,Ok,if_false,D8,if_true,t4,ft];exact⟨_,rfl⟩
 obtain⟨z1,oT⟩:=oT;have oy:∀k,k≠(K.tk t).1->(w.freeze ⟨(K.tk t).1,n,av⟩ 1).heap[k]?=w.heap[k]?:=λk hk=>by simp only[World.freeze,Ok,if_false,D8];rw[aJ (Ne.symm hk)]
 have dP:(w.freeze ⟨(K.tk t).1,n,av⟩ 1).heap.size=w.heap.size:=by simp[World.freeze]
 have eR:∀t',alive {h with dead:=t::h.dead} t'=ah->alive h t'=ah/\t'≠t:=λt' h'=>by unfold alive at h' ⊢;simp only[List.contains_cons,bI,At,Bool.or_eq_false_iff,decide_eq_true_eq] at h' ⊢;exact⟨⟨h'.1,h'.2.2⟩,λq=>by rw[q] at h';simp at h'⟩
 refine⟨?_,by rw[dP];exact s.size,λg j c hc=>?_,s.fb,s.my,s.rf,λb g cs hb cI=>?_,s.o5,s.rR,λl g r hl hr=>?_,s.tn,λt' IG=>?_,λt' u IG hu=>s.qX t' u (eR t' IG).1 (eR u hu).1,λr hr=>?_,s.all⟩
 ·refine s.dw.trans ⟨rfl,rfl,rfl,by rw[dP];exact aL _,λk hk=>?_⟩;have vy:k<K.base:=hk;exact oy k ai
 ·have h1:=s.ic g j c hc;by_cases hg:g=(K.tk t).1
  ·subst hg;rw[tw t4] at h1;rw[tw oT];exact h1
  ·rw[<-h1];exact World.cell?_of_block (w:=w) (oy g hg)
 ·obtain⟨h1,h2,qb,dT,e',h3,h4⟩:=s.box b g cs hb cI;exact⟨h1,h2,qb,dT,e',by rw[oy g λq=>t2 b (q ▸ hb)];exact h3,h4⟩
 ·obtain⟨h1,fn,tmps,d,h2,h3⟩:=s.loop l g r hl hr;exact⟨h1,fn,tmps,d,by rw[oy g λq=>by rw[q,t4] at h2;cases h2];exact h2,h3⟩
 ·obtain⟨LB,bG⟩:=eR t' IG;obtain⟨h1,h2,h3,dT,e',fz',h4,h5,h6⟩:=s.tok t' LB;have jo:(K.tk t').1≠(K.tk t).1:=λq=>bG (s.qX t' t LB ha q);have h7:(w.freeze ⟨(K.tk t).1,n,av⟩ 1).heap[(K.tk t').1]?=aa (.cells dT e' fz'):=by rw[oy _ jo];exact h4
  exact⟨h1,h2,h3,dT,e',fz',h7,h5,λj hj hl=>by rw[<-h6 j hj hl,Ba h4,Ba h7]⟩
 ·obtain⟨h1,h2⟩:=s.md r hr;exact⟨h1,by rw[oy r λq=>by rw[q,t4] at h2;cases h2];exact h2⟩
def aiv(s:b9 K G ok w0 h w){src dst:aP}{x y:AV}{h':ar}(he:oa P h src dst x=aa (y,h')){c:aT}(hx:a9 K x c):
 ∃K' v w',K.Le K'/\b9 K' G ok w0 h' w'/\a9 K' y v/\(convert src dst c).run P w=.ok v w':=by
 unfold oa at he;split at he
 ·rename_i e str hs hd;obtain⟨rfl,_⟩:=hx.jl;split at he
  ·rename_i i hu hi;split at he
   ·injection he with he;obtain⟨rfl,rfl⟩:=je he;obtain⟨K',v,w',q1,q2,q3,q4⟩:=av3 (P:=P) s (e:=e) (str:=str);exact⟨K',v,w',q1,q2,q3,by simp only[convert,Sem.run_bind,dL hs,dL hd,dL hu,Result.andThen_ok];exact q4⟩
   ·cases he
  ·cases he
 ·rename_i e hs hd;split at he
  ·rename_i ae hu lh;simp only[dN] at he;obtain⟨l,hl,he⟩:=he;obtain⟨rfl,rfl⟩:=je he;obtain⟨a,aF,eT,rfl,hr,gy,ha,bR,Dc,qi⟩:=Jk (P:=P) s lh hx;obtain⟨ns,rfl,rfl⟩:=ahc hl gy;refine⟨K,.string ⟨(ns.map λn=>UInt8.ofNat n.toNat).toArray⟩,w,.refl K,s,.v _ rfl,?_⟩;cases a with|none=>have:=qi rfl;subst this;simp at bR;subst bR;simp only[convert,Sem.run_bind,dL hs,dL hd,dL hu,Result.andThen_ok,Conv.bytesToString];rfl|some b=>have kU:=Dc b rfl;rw[ph] at kU;simp only[convert,Sem.run_bind,dL hs,dL hd,dL hu,Result.andThen_ok,Conv.bytesToString,kU,List.forIn_toArray,Sem.run_pure];simp[foldl_push]
  ·cases he
 ·rename_i e e2 t sz es hs hd;split at he
  ·rename_i hu;split at he
   ·rename_i hc;obtain⟨rfl,eR⟩:=hc;injection he with he;obtain⟨rfl,rfl⟩:=je he;cases hx with|list _ _ _ g off n aF cells hn hr hv jh ht ha=>obtain⟨LB,FF,zQ,ht4,ht5⟩:=ht;subst zQ;obtain⟨t1,t2,t3,c0,e0,z0,t4,t5,t6⟩:=s.tok t eR;refine⟨K,.slice (aa ⟨(K.tk t).1,off,av⟩) n aF,_,.refl K,s.kill eR c0.size,.list .held sz es _ off n aF cells hn hr hv jh ⟨LB,aY⟩ ha,?_⟩;have Lx:w.shape? (K.tk t).1=aa (e0,c0.size):=(by simp[World.shape?,t4]);rw[hs] at hd;injection hd with hd;injection hd with hd;subst hd;simp only[convert,Sem.run_bind,dL hs,dL hu,Result.andThen_ok,beq_self_eq_true,markStringish,run_shape,Lx,run_freeze,Sem.run_pure]
   ·cases he
  ·cases he
 ·cases he
 ·rename_i d1 d2 p hs hd _ _ _ _;simp only[dN,AM] at he;obtain⟨z,⟨q,h1,h2⟩,he⟩:=he;obtain⟨rfl,rfl⟩:=je he;obtain⟨rfl,_⟩:=hx.jl;exact⟨K,q,w,.refl K,s,JD h2,Ja h1 w⟩
 ·cases he
end
section
variable {P:bL} {K:a8} {G:Nat->Option (List AV)} {ok:bq->Nat->Code->Bool} {w0 w:cG} {h:ar}
def aiz(s:b9 K G ok w0 h w){ts:Array aP}{ty:aP}{a x y:AV}{h':ar}(he:A3 P h ts a x=aa (y,h')){c cx:aT}(ha:a9 K a c)(hx:a9 K x cx):
 ∃K' v w',K.Le K'/\b9 K' G ok w0 h' w'/\a9 K' y v/\(Builtin.copy_ ts ty #[c,cx]).run P w=.ok v w':=by
 unfold A3 at he;split at he
 ·rename_i elem hu;simp only[AM] at hu;obtain⟨t0,h0,hu⟩:=hu;split at he
  ·rename_i i b off len aF hi;split at he
   ·rename_i ae cs lh cI;split at he
    ·rename_i hc;injection he with he;obtain⟨rfl,rfl⟩:=je he;obtain⟨nv,n1,n2,n3,n4,n5,n6⟩:=IX (P:=P) s lh hx;cases ha with
     |arr _ g _ _ _ fP iX hb hl qc su mP=>
      obtain⟨k1,k2,ka,cells,e,k3,k4⟩:=s.box b g cs hb cI;have zP:cs.length<=cells.size:=k4.le;have alS:pZ ae.length len<=ae.length:=Nat.min_le_left _ _;have alT:pZ ae.length len<=len:=Nat.min_le_right _ _;have hm:pZ ae.length len * i.size<=len * i.size:=pg _ alT;have rC:pZ ae.length len * i.size<=ae.length * i.size:=pg _ alS;have ot:(ae.take (pZ ae.length len)).flatten=ae.flatten.take (pZ ae.length len * i.size):=Ps n2 _;have rG:aV K (ae.take (pZ ae.length len)).flatten (nv.take (pZ ae.length len * i.size)):=(by rw[ot];exact n3.take _);have iN:(ae.take (pZ ae.length len)).flatten.all AV.eH=ah:=(by rw[ot,eK];intro x hx;exact eK.1 n4 x (pY hx));have bR:(nv.take (pZ ae.length len * i.size)).length=pZ ae.length len * i.size:=(by simp only[fm];omega);obtain⟨w',dT,q1,q2,q3⟩:=atE (P:=P) su (vs:=nv.take (pZ ae.length len * i.size)) (λhz=>by have:pZ ae.length len=0:=(by omega);rw[this];simp) k3 ai (Hq rG iN);refine⟨K,.int .i64 (pZ ae.length len:Nat),w',.refl K,s.Ty hb cI (by rw[rG.length];omega) k3 q2 q3 rG iN,.v _ rfl,?_⟩
      ·-- the source's first cells, as many as are copied
       have als:(Builtin.firstCells i.size (pZ ae.length len) cx).run P w=.ok (nv.take (pZ ae.length len * i.size)).toArray w:=by
        unfold np at lh;split at lh
        ·rename_i str;split at lh
         ·rename_i h1;injection lh with lh;subst lh;obtain⟨rfl,_⟩:=hx.jl;have kU:(str.data.toList.map lQ).length=str.size:=(by rw[bF];rfl);have e2:nv=str.data.toList.map λb=>Value.int .u8 b.toNat:=(by have e3:(Builtin.firstCells i.size (str.data.toList.map lQ).length (.string str)).run P w=.ok (str.data.toList.map λb=>Value.int .u8 b.toNat).toArray w:=(by rw[kU];have:str.extract 0 str.size=str:=(by simp);have e4:str.data.map (λb=>Value.int .u8 b.toNat)=(str.data.toList.map λb=>Value.int .u8 b.toNat).toArray:=(by apply Nz;simp);simp only[Builtin.firstCells,this,Sem.run_pure,e4]);rw[e3] at n6;injection n6 with n6 _;exact(Ob n6).symm);subst e2;rw[h1,ph];simp only[Builtin.firstCells,Sem.run_pure];congr 1;apply Nz;simp only[ByteArray.data_extract,Ed,adn,adS,List.drop_zero,Nat.sub_zero,List.map_take]
         ·cases lh
        ·obtain⟨a,iX,eT,rfl,hr,gy,ry,Im,Dc,qi⟩:=Jk (P:=P) s lh hx;cases a with
         |none=>have:=qi rfl;subst this;have:nv=[]:=(by simpa using n5);subst this;simp[Builtin.firstCells]|some ad=>
          simp only[Builtin.firstCells];have hl:=Dc ad rfl;have e5:eT=nv:=(by simp only[Builtin.firstCells] at n6;rw[hl] at n6;injection n6 with n6 _;exact Ob n6);subst e5;have rz:∀j v,eT[j]?=aa v->w.cell? (ad.add j)=aa v:=by
           unfold rowsOf at lh;split at lh
           ·rename_i k sz es _;split at lh
            ·injection lh with lh;subst lh;cases hx with
             |jH=>cases gy;intro j v hj;simp at hj
             |list _ _ _ g2 off2 n cap2 cells2 hn jO amf YF FF qb=>have kU:=run_loadCells_list (P:=P) w ⟨g2,off2,av⟩ cells2 (λj v hj=>by rw[Addr.na];exact s.ic _ _ _ (YF j v hj));have Fg:cells2.length=es.length * i.size:=(by rw[<-amf.length,gy.length,Im]);rw[Fg] at kU;rw[kU] at hl;injection hl with hl _;have:=Ob hl;subst this;intro j v hj;rw[Addr.na];exact s.ic _ _ _ (YF j v hj)
            ·cases lh
           ·rename_i b2 off2 am1 cap2 _;split at lh
            ·rename_i cs2 P2;split at lh
             ·rename_i axq;injection lh with lh;cases hx with
              |arr _ g2 _ _ _ off2' cap2' gi kU Ym QL axI=>
               obtain⟨_,_,_,cells2,e2,k3',k4'⟩:=s.box b2 g2 cs2 gi P2;have db:cs2.length<=cells2.toList.length:=(by have:=k4'.le;simpa using this);rcases QL with QL|gV;rotate_left 1
               ·intro j v hj;have cV:ae.length=0:=(by omega);rw[cV] at Im;have:eT=[]:=(by simpa using Im);subst this;simp at hj
               rw[QL] at hl ⊢;have Fg:((cells2.toList.drop off2).take (ae.length * i.size)).length=ae.length * i.size:=(by simp only[fm,iC];omega);have Ij:=run_loadCells_list (P:=P) w ⟨g2,off2,av⟩ ((cells2.toList.drop off2).take (ae.length * i.size)) (λj v hj=>by
                rw[Addr.na,tw k3'];simp only[o7,pX] at hj;split at hj
                ·simpa using hj
                ·cases hj)
               rw[Fg] at Ij;rw[Ij] at hl;injection hl with hl _;have:=Ob hl;subst this;intro j v hj;rw[Addr.na,tw k3'];simp only[o7,pX] at hj;split at hj
               ·simpa using hj
               ·cases hj
             ·cases lh
            ·cases lh
           ·cases lh
          have:=run_loadCells_list (P:=P) w ad (eT.take (pZ ae.length len * i.size)) (λj v hj=>by
           simp only[o7] at hj;split at hj
           ·exact rz j v hj
           ·cases hj)
          rw[bR] at this;exact this
       simp only[Builtin.copy_,h0,jI,lu,qw,Sem.run_bind,dL hu,Result.andThen_ok,n1,sizeOf,sO hi,Sem.run_pure,als,q1];rfl
    ·cases he
   ·cases he
  ·cases he
 ·cases he
def am6{ts:Array aP}{ty t:aP}(h0:ts[0]?=aa t){x y:AV}(he:dQ P t x=aa y){c:aT}(hx:a9 K x c)(w:cG):
 ∃v,(Builtin.len_ ts ty #[c]).run P w=.ok v w/\a9 K y v:=by
 unfold dQ at he;split at he
 ·rename_i hu;injection he with he;subst he;obtain⟨rfl,_⟩:=hx.jl;exact⟨_,by simp only[Builtin.len_,h0,jI,lu,Sem.run_bind,dL hu,Result.andThen_ok,Sem.run_pure,goInt],.v _ rfl⟩
 ·rename_i n e hu;injection he with he;subst he;exact⟨_,by simp only[Builtin.len_,h0,jI,lu,Sem.run_bind,dL hu,Result.andThen_ok,Sem.run_pure,goInt],.v _ rfl⟩
 ·rename_i a hu;split at he
  ·rename_i n e Re;injection he with he;subst he;exact⟨_,by simp only[Builtin.len_,h0,jI,lu,Sem.run_bind,dL hu,dL Re,Result.andThen_ok,Sem.run_pure,goInt],.v _ rfl⟩
  ·cases he
 ·rename_i e k sz es hu;injection he with he;subst he;cases hx with
  |nil=>exact⟨.int .i64 0,by simp only[Builtin.len_,h0,jI,lu,Sem.run_bind,dL hu,Result.andThen_ok,Sem.run_pure,goInt];rfl,.v _ rfl⟩
  |jH=>exact⟨.int .i64 0,by simp only[Builtin.len_,h0,jI,lu,Sem.run_bind,dL hu,Result.andThen_ok,Sem.run_pure,goInt];rfl,.v _ rfl⟩
  |list _ _ _ g off n aF cells hn _ _ _ _ _=>subst hn;exact⟨_,by simp only[Builtin.len_,h0,jI,lu,Sem.run_bind,dL hu,Result.andThen_ok,Sem.run_pure,goInt],.v _ rfl⟩
 ·rename_i e b off len aF hu;injection he with he;subst he;cases hx with|arr=>exact⟨_,by simp only[Builtin.len_,h0,jI,lu,Sem.run_bind,dL hu,Result.andThen_ok,Sem.run_pure,goInt],.v _ rfl⟩
 ·cases he
def ahp{ts:Array aP}{ty t:aP}(h0:ts[0]?=aa t){x y:AV}(he:EN P t x=aa y){c:aT}(hx:a9 K x c)(w:cG):
 ∃v,(Builtin.cap_ ts ty #[c]).run P w=.ok v w/\a9 K y v:=by
 unfold EN at he;split at he
 ·rename_i e sz es hu;injection he with he;subst he;cases hx with
  |jH=>exact⟨.int .i64 0,by simp only[Builtin.cap_,h0,jI,lu,Sem.run_bind,dL hu,Result.andThen_ok,Sem.run_pure,goInt];rfl,.v _ rfl⟩
  |list _ _ _ g off n aF cells hn _ _ _ ht _=>have:=ht.2;simp only at this;subst this;subst hn;exact⟨_,by simp only[Builtin.cap_,h0,jI,lu,Sem.run_bind,dL hu,Result.andThen_ok,Sem.run_pure,goInt],.v _ rfl⟩
 ·rename_i e sz es hu;injection he with he;subst he;cases hx with
  |nil=>exact⟨.int .i64 0,by simp only[Builtin.cap_,h0,jI,lu,Sem.run_bind,dL hu,Result.andThen_ok,Sem.run_pure,goInt];rfl,.v _ rfl⟩
  |list _ _ _ _ _ _ _ _ _ _ _ _ ht _=>exact ht.2.elim
 ·rename_i n e hu;injection he with he;subst he;exact⟨_,by simp only[Builtin.cap_,h0,jI,lu,Sem.run_bind,dL hu,Result.andThen_ok,Sem.run_pure,goInt],.v _ rfl⟩
 ·cases he
def VL(s:b9 K G ok w0 h w){b:Builtin}{ts:Array aP}{ty:aP}{args:List AV}{y:AV}{h':ar}(he:jT P h b ts ty args=aa (y,h')){vs:Array aT}(hx:aV K args vs.toList)(consts:Array Bool):
 ∃K' v w',K.Le K'/\b9 K' G ok w0 h' w'/\a9 K' y v/\(builtin b ts ty consts vs).run P w=.ok (.value v) w':=by
 unfold jT at he;obtain⟨vs⟩:=vs;simp only at hx;split at he
 ·cases hx with|cons _ c _ _ hx hs=>cases hs with|nil=>
  split at he
  ·rename_i t h0;simp only[dN] at he;obtain⟨z,hz,he⟩:=he;obtain⟨rfl,rfl⟩:=je he;obtain⟨v,q1,q2⟩:=am6 (ty:=ty) h0 hz hx w;exact⟨K,v,w,.refl K,s,q2,by simp only[builtin,Sem.run_bind,q1,Result.andThen_ok,Sem.run_pure]⟩
  ·cases he
 ·cases hx with|cons _ c _ _ hx hs=>cases hs with|nil=>
  split at he
  ·rename_i t h0;simp only[dN] at he;obtain⟨z,hz,he⟩:=he;obtain⟨rfl,rfl⟩:=je he;obtain⟨v,q1,q2⟩:=ahp (ty:=ty) h0 hz hx w;exact⟨K,v,w,.refl K,s,q2,by simp only[builtin,Sem.run_bind,q1,Result.andThen_ok,Sem.run_pure]⟩
  ·cases he
 ·cases hx with|cons _ c _ _ hx hs=>cases hs with|cons _ c2 _ _ tM hs=>cases hs with|nil=>
  obtain⟨K',v,w',q1,q2,q3,q4⟩:=OG (ty:=ty) s he hx tM;exact⟨K',v,w',q1,q2,q3,by simp only[builtin,Sem.run_bind,q4,Result.andThen_ok,Sem.run_pure]⟩
 ·cases hx with|cons _ c _ _ hx hs=>cases hs with|cons _ c2 _ _ tM hs=>cases hs with|nil=>
  obtain⟨K',v,w',q1,q2,q3,q4⟩:=aiz (ty:=ty) s he hx tM;exact⟨K',v,w',q1,q2,q3,by simp only[builtin,Sem.run_bind,q4,Result.andThen_ok,Sem.run_pure]⟩
 ·split at he
  ·rename_i l hl;simp only[dN,AM] at he;obtain⟨z,⟨q,h1,h2⟩,he⟩:=he;obtain⟨rfl,rfl⟩:=je he;have:=Po hl hx;subst this;exact⟨K,q,w,.refl K,s,JD h2,by simp only[builtin,Sem.run_bind,Ja h1 w,Result.andThen_ok,Sem.run_pure]⟩
  ·cases he
 ·split at he
  ·rename_i l hl;simp only[dN,AM] at he;obtain⟨z,⟨q,h1,h2⟩,he⟩:=he;obtain⟨rfl,rfl⟩:=je he;have:=Po hl hx;subst this;exact⟨K,q,w,.refl K,s,JD h2,by simp only[builtin,Sem.run_bind,Ja h1 w,Result.andThen_ok,Sem.run_pure]⟩
  ·cases he
 ·cases he
def ahb(s:b9 K G ok w0 h w){d:Option Tmp}{b:Builtin}{ts:Array aP}{ty:aP}{args:List AV}{y:AV}{h':ar}(he:tv P G d h b ts ty args=aa (y,h')){vs:Array aT}(hx:aV K args vs.toList)(consts:Array Bool):
 ∃K' v w',K.Le K'/\b9 K' G ok w0 h' w'/\a9 K' y v/\(builtin b ts ty consts vs).run P w=.ok (.value v) w':=by
 unfold tv at he;split at he
 ·split at he
  ·obtain⟨vs⟩:=vs;simp only at hx;cases hx with|cons _ c _ _ hx hs=>cases hs with|cons _ c2 _ _ tM hs=>cases hs with|nil=>
   obtain⟨K',v,w',q1,q2,q3,q4⟩:=avV (ty:=ty) s he hx tM;exact⟨K',v,w',q1,q2,q3,by simp only[builtin,Sem.run_bind,q4,Result.andThen_ok,Sem.run_pure]⟩
  ·exact VL s (b:=.append) (ts:=ts) (ty:=ty) (args:=[_,_]) (show jT P h .append ts ty [_,_]=_ from he) hx consts
 ·exact VL s he hx consts
def ao6{c a b y:AV}(he:Mg c a b=aa y){vc va vb:aT}(hc:a9 K c vc)(ha:a9 K a va)(hb:a9 K b vb):
 ∃t v,vc=.bool t/\v=(if t then va else vb)/\a9 K y v:=by
 unfold Mg at he;split at he
 ·rename_i t;injection he with he;subst he;obtain⟨rfl,_⟩:=hc.jl;refine⟨t,_,rfl,rfl,?_⟩;cases t
  ·exact hb
  ·exact ha
 ·cases he
def ao7(s:b9 K G ok w0 h w){ρ:bU->AV}{ρ':bU->aT}(hρ:∀x,a9 K (ρ x) (ρ' x)){o:Oper}{x:AV}{h':ar}(he:eo P G ρ h o.op=aa (x,h')):
 Yields K G ok w0 x h' ((execOp ρ' o).run P w):=by
 unfold execOp;cases bV:o.op<;>rw[bV] at he<;>simp only[eo] at he
 case move a=>injection he with he;obtain⟨rfl,rfl⟩:=je he;exact .nT s (hρ a) rfl
 case assign a=>injection he with he;obtain⟨rfl,rfl⟩:=je he;exact .nT s (hρ a) rfl
 case pick c a b=>
  simp only[dN] at he;obtain⟨y,hy,he⟩:=he;obtain⟨rfl,rfl⟩:=je he;obtain⟨t,v,q1,rfl,q3⟩:=ao6 hy (hρ c) (hρ a) (hρ b);refine .nT s q3 ?_;simp only[q1,asBool,Sem.run_bind,Sem.run_pure,Result.andThen_ok]
 case alloc t=>
  simp only[dN] at he;obtain⟨cs,cI,he⟩:=he;obtain⟨K',v,w',q1,q2,q3,q4⟩:=afu (P:=P) s cI;rw[he] at q2 q3;exact⟨K',v,w',q1,q2,q3,.inl (by simp only[Sem.run_bind,q4,Result.andThen_ok,Sem.run_pure])⟩
 case box t a=>
  simp only[dN] at he;obtain⟨cs,cI,he⟩:=he;obtain⟨K',v,w',q1,q2,q3,q4⟩:=agV (P:=P) (t:=t) s cI (hρ a);rw[he] at q2 q3;exact⟨K',v,w',q1,q2,q3,.inl (by simp only[Sem.run_bind,q4,Result.andThen_ok,Sem.run_pure])⟩
 case build t parts=>
  simp only[dN] at he;obtain⟨y,hy,he⟩:=he;obtain⟨rfl,rfl⟩:=je he;obtain⟨v,q1,q2⟩:=aha hρ hy w;exact .nT s q2 (by simp only[Sem.run_bind,q1,Result.andThen_ok,Sem.run_pure])
 case buildSlice t len parts=>
  split at he
  ·simp only[dN] at he;obtain⟨y,hy,he⟩:=he;obtain⟨rfl,rfl⟩:=je he;obtain⟨K',v,w',q1,q2,q3,q4⟩:=ag8 s hρ hy;exact⟨K',v,w',q1,q2,q3,.inl (by simp only[Sem.run_bind,q4,Result.andThen_ok,Sem.run_pure])⟩
  ·split at he
   ·rename_i k sz es hy;injection he with he;obtain⟨K',v,w',q1,q2,q3,q4⟩:=ag7 s hρ hy;rw[he] at q2 q3;exact⟨K',v,w',q1,q2,q3,.inl (by simp only[Sem.run_bind,q4,Result.andThen_ok,Sem.run_pure])⟩
   ·cases he
 case load t a=>
  simp only[dN] at he;obtain⟨y,hy,he⟩:=he;obtain⟨rfl,rfl⟩:=je he;obtain⟨g,p,v,q1,q2,q3⟩:=aaf s hy (hρ a);exact .nT s q3 (by simp only[q1,Instr.loadAt,Instr.sureAddr,Sem.run_bind,q2,Result.andThen_ok,Sem.run_pure])
 case store t a y=>
  simp only[dN] at he;obtain⟨h2,hy,he⟩:=he;obtain⟨rfl,rfl⟩:=je he;obtain⟨w',q1,q2⟩:=avk s hy (hρ a) (hρ y);exact⟨K,undef,w',.refl K,q2,.tuple _ _ .nil,.inr ⟨by simp only[Sem.run_bind,q1,Result.andThen_ok,Sem.run_pure],rfl⟩⟩
 case nilCheck a=>
  simp only[dN] at he;obtain⟨y,hy,he⟩:=he;obtain⟨rfl,rfl⟩:=je he;have ha:=hρ a;generalize ρ a=xa at ha hy;generalize hq:ρ' a=ca at ha;unfold RV at hy;split at hy
  ·injection hy with hy;subst hy;cases ha with|box _ _ _ hb=>exact .nT s (.box _ _ _ hb) (by simp only[hq,Sem.run_pure])|fb _ _=>exact .nT s (.fb _ _) (by simp only[hq,Sem.run_pure])
  ·injection hy with hy;subst hy;cases ha with|elem _ _ _ _ g o p cells hr hv hc hi hp ry=>exact .nT s (.elem _ _ _ _ g o p cells hr hv hc hi hp ry) (by simp only[hq,Sem.run_pure])
  ·injection hy with hy;subst hy;cases ha with|func _ _ _ fs cs h1 h2=>exact .nT s (.func _ _ _ fs cs h1 h2) (by simp only[hq,Sem.run_pure])
  ·injection hy with hy;subst hy;cases ha with|yield _ g hl=>exact .nT s (.yield _ g hl) (by simp only[hq,Sem.run_pure])
  ·injection hy with hy;subst hy;cases ha with|iface _ _ c hx=>exact .nT s (.iface _ _ c hx) (by simp only[hq,Sem.run_pure])
  ·cases hy
 case binOp op t a b yt=>
  simp only[dN] at he;obtain⟨y,hy,he⟩:=he;obtain⟨rfl,rfl⟩:=je he;obtain⟨v,q1,q2⟩:=agl hy (hρ a) (hρ b) w;exact .nT s q2 (by rw[Sem.run_bind,q1];rfl)
 case unOp op t a=>
  simp only[dN] at he;obtain⟨y,hy,he⟩:=he;obtain⟨rfl,rfl⟩:=je he;obtain⟨v,q1,q2⟩:=awa hy (hρ a) w;exact .nT s q2 (by simp only[Sem.run_bind,q1,Result.andThen_ok,Sem.run_pure])
 case convert sr ds a=>
  obtain⟨K',v,w',q1,q2,q3,q4⟩:=aiv s he (hρ a);exact⟨K',v,w',q1,q2,q3,.inl (by simp only[Sem.run_bind,q4,Result.andThen_ok,Sem.run_pure])⟩
 case makeInterface t a=>
  split at he
  ·rename_i zJ;injection he with he;obtain⟨rfl,rfl⟩:=je he;obtain⟨d,hu,hd⟩:=Ro zJ;refine .nT s (.iface t _ _ (hρ a)) ?_;simp only[Instr.makeInterface,Sem.run_bind,dL hu,Result.andThen_ok];cases d<;>first|exact absurd rfl (hd _)|rfl
  ·cases he
 case makeFunc fn first aF=>
  injection he with he;obtain⟨rfl,rfl⟩:=je he;refine .nT s (.func fn _ _ _ _ (by rw[Ed];exact aV.map_mk λx _=>hρ x) (by rw[Ed];exact aV.map_mk λx _=>hρ x)) rfl
 case makeSlice t l c=>
  obtain⟨K',v,w',q1,q2,q3,q4⟩:=anE s he (hρ l) (hρ c);exact⟨K',v,w',q1,q2,q3,.inl (by simp only[Sem.run_bind,q4,Result.andThen_ok,Sem.run_pure])⟩
 case slice t a lo hi mx=>
  simp only[dN] at he;obtain⟨y,hy,he⟩:=he;obtain⟨rfl,rfl⟩:=je he;obtain⟨v,q1,q2⟩:=aus hρ hy (hρ a) w;exact .nT s q2 (by simp only[Sem.run_bind,q1,Result.andThen_ok,Sem.run_pure])
 case fieldAddr t a f=>
  simp only[dN] at he;obtain⟨y,hy,he⟩:=he;obtain⟨rfl,rfl⟩:=je he;obtain⟨v,q1,q2⟩:=ajK hy (hρ a) w;exact .nT s q2 (by simp only[Sem.run_bind,q1,Result.andThen_ok,Sem.run_pure])
 case field t a f=>
  have ha:=hρ a;generalize ρ a=xa at ha he;generalize hq:ρ' a=ca at ha;split at he
  ·rename_i fields cs hu;split at he
   ·rename_i fd hf;simp only[dN] at he;obtain⟨y,hy,he⟩:=he;obtain⟨rfl,rfl⟩:=je he;cases ha with|agg _ vs gy=>obtain⟨v,q1,q2⟩:=aaR hy gy w;exact .nT s q2 (by simp only[Instr.field,Sem.run_bind,dL hu,Result.andThen_ok,hf,hq,asAgg,Sem.run_pure,q1])
   ·cases he
  ·cases he
 case indexAddr t a i=>
  simp only[dN] at he;obtain⟨y,hy,he⟩:=he;obtain⟨rfl,rfl⟩:=je he;obtain⟨v,q1,q2⟩:=amo hy (hρ a) (hρ i) w;exact .nT s q2 (by simp only[Sem.run_bind,q1,Result.andThen_ok,Sem.run_pure])
 case index t a i=>
  simp only[dN] at he;obtain⟨y,hy,he⟩:=he;obtain⟨rfl,rfl⟩:=je he;obtain⟨v,q1,q2⟩:=amr hy (hρ a) (hρ i) w;exact .nT s q2 (by simp only[Sem.run_bind,q1,Result.andThen_ok,Sem.run_pure])
 case typeAssert a xt t okk=>
  simp only[dN] at he;obtain⟨y,hy,he⟩:=he;obtain⟨rfl,rfl⟩:=je he;obtain⟨v,q1,q2⟩:=afP (xt:=xt) hy (hρ a) w;exact .nT s q2 (by simp only[Sem.run_bind,q1,Result.andThen_ok,Sem.run_pure])
 case extract a i=>
  have ha:=hρ a;generalize ρ a=xa at ha he;generalize hq:ρ' a=ca at ha;split at he
  ·rename_i vs;simp only[dN] at he;obtain⟨y,hy,he⟩:=he;obtain⟨rfl,rfl⟩:=je he;cases ha with|tuple _ cvs gy=>obtain⟨c,hc,hr⟩:=gy.get hy;have:cvs[i]?=aa c:=(by simpa using hc);exact .nT s hr (by simp only[Instr.extract,hq,this,Sem.run_bind,Sem.run_pure,Result.andThen_ok])
  ·cases he
 all_goals cases he
end
def F1(n:Nat)(ops:Array Oper):Bool:=ops.all λo=>match o.dst with|some d=>decide (d<n)|none=>ah
def codeOk(n:Nat):Code->Bool
 | .region _ ops _=>F1 n ops
 | .seq a b=>codeOk n a&&codeOk n b
 | .cond _ a b=>codeOk n a&&codeOk n b
 | .block _ c=>codeOk n c
 | .loop c=>codeOk n c
 | .scope c=>codeOk n c
 | .rangeFunc _ ps a b=>ps.all (λp=>decide (p<n))&&codeOk n a&&codeOk n b
 |_=>ah
def FY(P:bL)(fn:bq)(n:Nat)(c:Code):Bool:=codeOk n c&&(P.funcs[fn]?).isSome
inductive rU (K:a8):List (bq × List AV)->List Deferred->List Nat->Prop
 |nil:rU K [] [] []
 |call (g:bq) (args:List AV) (vs aF:Array aT) (ds cds ms) (hv:aV K args (vs++aF).toList) (h:rU K ds cds ms):
  rU K ((g,args)::ds) ({target:=.fn (.func g) aF,args:=vs}::cds) ms
 |mark (r:Nat) (ds cds ms) (hr:r∈K.md) (hn:r∉ms) (h:rU K ds cds ms):rU K ds ({target:=.collected r,args:=#[]}::cds) (r::ms)
def rU.mono{K K'}(le:K.Le K'){ds cds ms}(h:rU K ds cds ms):rU K' ds cds ms:=by
 induction h with
 |nil=>exact .nil|call g args vs aF ds cds ms hv _ ih=>exact .call g args vs aF ds cds ms (hv.mono le) ih|mark r ds cds ms hr hn _ ih=>exact .mark r ds cds ms (le.md r hr) hn ih
structure oG(P:bL)(K:a8)(e:Env)(a:Act)(B:fF)(ms:List Nat):Prop where
 iT:mZ K e.tmps a.tmps
 defers:rU K e.defers a.defers ms
 round:match e.round with
  |none=>B.roundOf=av
  |some l=>∃g,K.γ[l]?=aa g/\B.roundOf=aa g/\B.kind=.normal/\a.defers=[]/\ms=[]/\e.defers=[]
 fn:(P.funcs[B.fn]?).isSome=ah
def oG.mono{P}{K K'}(le:K.Le K'){e}{a}{B}{ms}(h:oG P K e a B ms):oG P K' e a B ms:=by
 refine⟨h.iT.mono le,h.defers.mono le,?_,h.fn⟩;have:=h.round;cases hr:e.round with|none=>rw[hr] at this;exact this|some l=>rw[hr] at this;obtain⟨g,h1,h2⟩:=this;exact⟨g,le.γ _ _ h1,h2⟩
inductive CS (K:a8) (kind:CallKind) (base:List fF):Option (AV × Bool)->List fF->Prop
 |normal (h:kind=.normal):CS K kind base av base
 |ret (c0:fF) (rest:List fF) (hk:kind=.deferred) (hb:base=c0::rest) (hm:c0.mode=.returning):CS K kind base av base
 |dg (c0:fF) (rest:List fF) (x:AV) (v:aT) (r:Bool) (hk:kind=.deferred) (hb:base=c0::rest) (hx:a9 K x v):
  CS K kind base (aa (x,r)) ({c0 with mode:=.panicking [{v,recovered:=r}]}::rest)
def CS.mono{K K'}(le:K.Le K'){kind base p cs}(h:CS K kind base p cs):CS K' kind base p cs:=by
 cases h with|normal h=>exact .normal h|ret c0 rest hk hb hm=>exact .ret c0 rest hk hb hm|dg c0 rest x v r hk hb hx=>exact .dg c0 rest x v r hk hb (hx.mono le)
def FV(s:qC)(d t)(x):(s.set d x).get t=if d=t then x else s.get t:=by
 simp only[qC.set,qC.get,look];by_cases h:d=t
 ·subst h;have:kK d d=ah:=Nat.beq_refl d;rw[this,aH rfl];rfl
 ·have:kK d t=aB:=by
   cases hb:kK d t with|false=>rfl|true=>exact absurd (lD hb) h
  rw[this,aJ h];rfl
section
variable {P:bL} {K:a8} {G:Nat->Option (List AV)} {w0 w:cG} {h:ar}
def mZ.set{s:qC}{tmps:Array aT}(hs:mZ K s tmps){d:Nat}(hd:d<tmps.size){x:AV}{v:aT}(hx:a9 K x v):mZ K (s.set d x) (tmps.setIfInBounds d v):=by
 intro t;rw[FV];by_cases ht:d=t
 ·subst ht;rw[aH rfl];simp[NA,hd];exact hx
 ·rw[aJ ht];have:(tmps.setIfInBounds d v).getD t undef=tmps.getD t undef:=by simp[NA,ht]
  rw[this];exact hs t
def A6{e:Env}{a:Act}(hs:mZ K e.tmps a.tmps)(x:bU):a9 K (e.eval x) (a.eval x):=by
 cases x with|tmp t=>exact hs t|const v=>exact L0 v|global g=>exact .fb g 0|func f=>exact .func (.func f) [] [] #[] #[] .nil .nil
def oG.put{e:Env}{a:Act}{B:fF}{ms:List Nat}(hf:oG P K e a B ms){dst:Option Tmp}(hd:∀d,dst=aa d->d<a.tmps.size){x:AV}{v:aT}(hx:a9 K x v):
 oG P K (e.put dst x) (a.put dst v) B ms:=by
 cases dst with|none=>exact hf|some d=>exact⟨hf.iT.set (hd d rfl) hx,hf.defers,hf.round,hf.fn⟩
def Ml(a:Act)(dst)(v):(a.put dst v).tmps.size=a.tmps.size:=by cases dst<;>simp[Act.put]
section steps
variable {B:fF} {a:Act} {k:List Item} {cs:List fF} {ops:Array Oper} {i:Nat} {rest:List Nat} {o:Oper} {w':cG}
def CE(ho:ops[i]?=aa o)(v:aT):(B.atR a (.inRegion ops (i::rest)::k)).finish v=B.atR (a.put o.dst v) (.inRegion ops rest::k):=by rw[Frame.finish_atR,ho];rfl
def acF(ho:ops[i]?=aa o)(hw:Region.wanted o (yielded ops a.tmps)=ah){v:aT}(hr:(o.semAt B.roundOf a.eval).run P w=.ok (.value v) w'):
 step P (lone (B.atR a (.inRegion ops (i::rest)::k)) cs w)=.next (lone (B.atR (a.put o.dst v) (.inRegion ops rest::k)) cs w'):=by
 refine step_lone_go ?_;rw[stepGR_op ho hw,<-CE ho];simp[stepG.apply,hr,Sem.runT_eq]
def avi(ho:ops[i]?=aa o)(hw:Region.wanted o (yielded ops a.tmps)=ah)(hr:(o.semAt B.roundOf a.eval).run P w=.ok .skip w'):
 step P (lone (B.atR a (.inRegion ops (i::rest)::k)) cs w)=.next (lone (B.atR (a.put o.dst undef) (.inRegion ops rest::k)) cs w'):=by
 refine step_lone_go ?_;rw[stepGR_op ho hw,<-CE ho];simp[stepG.apply,hr,Sem.runT_eq]
def au9(ho:ops[i]?=aa o)(hw:Region.wanted o (yielded ops a.tmps)=ah){f:bq}{args:Array aT}(hr:(o.semAt B.roundOf a.eval).run P w=.ok (.enter f args) w'):
 step P (lone (B.atR a (.inRegion ops (i::rest)::k)) cs w)=.next (lone (Frame.enter P f args .normal) (B.atR a (.inRegion ops (i::rest)::k)::cs) w'):=by
 refine step_lone_go ?_;rw[stepGR_op ho hw];simp[stepG.apply,hr,Sem.runT_eq,Frame.atR]
def avg(ho:ops[i]?=aa o)(hw:Region.wanted o (yielded ops a.tmps)=ah){l:Nat}{f:bq}{tmps:Array aT}{assign body:Code}(hr:(o.semAt B.roundOf a.eval).run P w=.ok (.round l f tmps assign body) w'):
 step P (lone (B.atR a (.inRegion ops (i::rest)::k)) cs w)=.next (lone (Frame.round l f tmps assign body .normal) (B.atR a (.inRegion ops (i::rest)::k)::cs) w'):=by
 refine step_lone_go ?_;rw[stepGR_op ho hw];simp[stepG.apply,hr,Sem.runT_eq,Frame.atR]
def au8(ho:ops[i]?=aa o)(hw:Region.wanted o (yielded ops a.tmps)=ah){d:Deferred}(hr:(o.semAt B.roundOf a.eval).run P w=.ok (.defer d) w'):
 step P (lone (B.atR a (.inRegion ops (i::rest)::k)) cs w)=.next (lone (B.atR ({a with defers:=d::a.defers}.put o.dst undef) (.inRegion ops rest::k)) cs w'):=by
 refine step_lone_go ?_;rw[stepGR_op ho hw,<-CE (B:=B) (k:=k) (rest:=rest) (a:={a with defers:=d::a.defers}) ho];simp[stepG.apply,hr,Sem.runT_eq,Frame.atR]
def acB(ho:ops[i]?=aa o)(hw:Region.wanted o (yielded ops a.tmps)=ah){v:aT}(hr:(o.semAt B.roundOf a.eval).run P w=.halt (.panic v) w'):
 step P (lone (B.atR a (.inRegion ops (i::rest)::k)) cs w)=.next (lone {B.atR a (.inRegion ops (i::rest)::k) with mode:=.panicking [{v,recovered:=aB}]} cs w'):=by
 refine step_lone_go ?_;rw[stepGR_op ho hw,<-Frame.raise_atR];simp[stepG.apply,hr,Sem.runT_eq]
def ave(ho:ops[i]?=aa o)(hw:Region.wanted o (yielded ops a.tmps)=ah)(l9:B.roundOf=av)(hr:(o.semAt B.roundOf a.eval).run P w=.ok .recover w')
 (ht:tryRecover (B.atR a (.inRegion ops (i::rest)::k)) cs=av):
 step P (lone (B.atR a (.inRegion ops (i::rest)::k)) cs w)=.next (lone (B.atR (a.put o.dst .nilIface) (.inRegion ops rest::k)) cs w'):=by
 refine step_lone_go ?_;have QZ:(B.atR a (.inRegion ops (i::rest)::k)).roundOf=av:=l9;rw[stepGR_op ho hw,<-CE ho];simp[stepG.apply,hr,Sem.runT_eq,QZ,ht]
def avf(ho:ops[i]?=aa o)(hw:Region.wanted o (yielded ops a.tmps)=ah)(l9:B.roundOf=av)(hr:(o.semAt B.roundOf a.eval).run P w=.ok .recover w')
 {v:aT} {ej:List fF} (ht:tryRecover (B.atR a (.inRegion ops (i::rest)::k)) cs=aa (v,ej)):
 step P (lone (B.atR a (.inRegion ops (i::rest)::k)) cs w)=.next (lone (B.atR (a.put o.dst v) (.inRegion ops rest::k)) ej w'):=by
 refine step_lone_go ?_;have QZ:(B.atR a (.inRegion ops (i::rest)::k)).roundOf=av:=l9;rw[stepGR_op ho hw,<-CE ho];simp[stepG.apply,hr,Sem.runT_eq,QZ,ht]
end steps
end
abbrev mi(P:bL)(G:Nat->Option (List AV))(w0:cG)(K:a8)(h:ar)(w:cG):Prop:=b9 K G (FY P) w0 h w
def o6(P:bL)(K:a8)(m:Machine)(B:fF)(k:List Item)(cs:List fF):Xt->Act->cG->Prop
 | .normal,a,w=>Steps P m (lone (B.atR a k) cs w)
 | .exit id,a,w=>∃todo,exitTo id todo=exitTo id k/\Steps P m (lone (B.atR a (.code (.exit id)::todo)) cs w)
 | .ret,a,w=>∃todo,Steps P m (lone (B.atR a (.code .ret::todo)) cs w)
 | .panic x,a,w=>∃todo v,a9 K x v/\Steps P m (lone {B.atR a todo with mode:=.panicking [{v,recovered:=aB}]} cs w)
def o6.of_steps{P}{K}{m m'}{B}{k}{cs}{x}{a}{w}(hs:Steps P m m')(h:o6 P K m' B k cs x a w):o6 P K m B k cs x a w:=by
 cases x with
 |normal=>exact hs.trans h|exit id=>obtain⟨t,h1,h2⟩:=h;exact⟨t,h1,hs.trans h2⟩
 |ret=>obtain⟨t,h2⟩:=h;exact⟨t,hs.trans h2⟩
 |panic x=>obtain⟨t,v,h1,h2⟩:=h;exact⟨t,v,h1,hs.trans h2⟩
def o6.pass{P}{K}{m}{B}{it}{k}{cs}{x}{a}{w}(hp:it.plain=ah)(hn:x≠ .normal)
 (h:o6 P K m B (it::k) cs x a w):o6 P K m B k cs x a w:=by
 cases x with
 |normal=>exact absurd rfl hn|exit id=>obtain⟨t,h1,h2⟩:=h;refine⟨t,h1.trans ?_,h2⟩;cases it<;>first|rfl|simp[Item.plain] at hp
 |ret=>exact h|panic x=>exact h
structure Left(P:bL)(G:Nat->Option (List AV))(w0:cG)(K:a8)(ms:List Nat)(B:fF)(base:List fF)(m:Machine)(k:List Item)(n:Nat)(out:Xt)(e':Env)(h':ar)
 (K':a8) (w':cG) (a':Act) (ej:List fF) (ms':List Nat):Prop where
 le:K.Le K'
 rP:mi P G w0 K' h' w'
 frame:oG P K' e' a' B ms'
 cs:CS K' B.kind base e'.dg ej
 size:a'.tmps.size=n
 marks:∀r∈ms',r∈ms∨r∉K.md
 arr:o6 P K' m B k ej out a' w'
def UR(P:bL)(G:Nat->Option (List AV))(w0:cG)(f:Code->Env->ar->Option (Xt × Env × ar)):Prop:=
 ∀c e h out e' h',f c e h=aa (out,e',h')->∀K w a B k base cs ms,oG P K e a B ms->CS K B.kind base e.dg cs->mi P G w0 K h w->codeOk a.tmps.size c=ah->
  ∃K' w' a' ej ms',Left P G w0 K ms B base (lone (B.atR a (.code c::k)) cs w) k a.tmps.size out e' h' K' w' a' ej ms'
def UO(P:bL)(K:a8)(fr:fF)(w:cG):fg->Prop
 | .ret x=>∃v,a9 K x v/\fr.leaving P w (.returned v)
 | .panic x=>∃v,a9 K x v/\fr.leaving P w (.panicked [{v,recovered:=aB}])
def UQ(P:bL)(G:Nat->Option (List AV))(w0:cG)(f:bq->List AV->ar->Option (fg × ar)):Prop:=
 ∀g args h r h',f g args h=aa (r,h')->(∃fn,P.funcs[g]?=aa fn/\fn.body.isSome=ah)/\∀K w fJ,aV K args (fJ:Array aT).toList->mi P G w0 K h w->∀cs,
  ∃K' w' fr,K.Le K'/\mi P G w0 K' h' w'/\Steps P (lone (Frame.enter P g fJ .normal) cs w) (lone fr cs w')/\fr.fn=g/\UO P K' fr w' r
def US(P:bL)(G:Nat->Option (List AV))(w0:cG)(f:bq->List AV->Option (AV × Bool)->ar->Option (fg × Option (AV × Bool) × ar)):Prop:=
 ∀g args m h x m' h',f g args m h=aa (.ret x,m',h')->(∃fn,P.funcs[g]?=aa fn/\fn.body.isSome=ah)/\∀K w fJ base cs,aV K args (fJ:Array aT).toList->CS K .deferred base m cs->mi P G w0 K h w->
  ∃K' w' fr ej v,K.Le K'/\mi P G w0 K' h' w'/\CS K' .deferred base m' ej/\Steps P (lone (Frame.enter P g fJ .deferred) cs w) (lone fr ej w')/\fr.kind=.deferred/\fr.going P w' (.returned v)
def UT(P:bL)(G:Nat->Option (List AV))(w0:cG)(f:Nat->List AV->ar->Option (fg × ar)):Prop:=
 ∀l args h r h',f l args h=aa (r,h')->∀K w fJ lg,K.γ[l]?=aa lg->aV K args (fJ:Array aT).toList->mi P G w0 K h w->∀ui cs,
  ∃fn tmps assign body K' w',(Instr.yield lg fJ).run P w=.ok (.round lg fn tmps assign body) w/\K.Le K'/\mi P G w0 K' h' w'/\
   match r with
   | .ret x=>∃v,a9 K' x v/\Steps P (lone (Frame.round lg fn tmps assign body .normal) (ui::cs) w) (lone (ui.finish v) cs w')
   | .panic x=>∃v fr,a9 K' x v/\Steps P (lone (Frame.round lg fn tmps assign body .normal) (ui::cs) w) (lone fr (ui::cs) w')/\fr.leaving P w' (.panicked [{v,recovered:=aB}])
structure xG(P:bL)(G:Nat->Option (List AV))(w0:cG)(R:Rec):Prop where
 code:UR P G w0 R.code
 call:UQ P G w0 R.call
 lH:US P G w0 R.lH
 round:UT P G w0 R.round
section
variable {P:bL} {G:Nat->Option (List AV)} {w0:cG} {R:Rec}
def EC (P : bL) : Prop := ∀ (g : bq) (fn : Func), P.funcs[g]? = aa fn -> (fn.name == "runtime.NumGoroutine") = aB
def Td(hn:EC P){g:bq}{fn:Func}(hf:P.funcs[g]?=aa fn)(hb:fn.body.isSome=ah)(args:Array aT)(w:cG):(callFunc g args).run P w=.ok (.enter g args) w:=by
 have h1:=hn g fn hf;have h2:fn.body.isNone=aB:=by cases h:fn.body<;>simp_all
 unfold callFunc;simp only[Sem.run_bind,run_program,Result.andThen_ok,hf];rw[h1,h2];rfl
def anM{t:aP}{name:String}{f:bq}(he:RM P t name=aa f)(v:aT)(w:cG)(n:Nat):
 (method (n+1) t v name).run P w=.ok (f,v) w:=by
 unfold RM at he;split at he
 ·rename_i i hi;split at he
  ·rename_i m hm;have key:∀(pr:Bool) (d:TypeDesc),m.path.toList=[]->m.func=aa (f,pr)->P.underlying t=aa d->(match d with| .pointer _=>pr=ah|_=>pr=aB)->(method (n+1) t v name).run P w=.ok (f,v) w:=(by intro pr d hp hf hu hd;simp only[method,Sem.run_bind,sO hi,Result.andThen_ok,hm,hp,follow,Sem.run_pure,hf,receiverAt,dL hu];cases d<;>simp only at hd<;>subst hd<;>simp[Place.get]);split at he
   ·rename_i f' e hp hf hu;injection he with he;subst he;exact key _ _ hp hf hu rfl
   ·cases he
   ·rename_i f' d bG hp hf hd;injection he with he;subst he;refine key _ _ hp hf hd ?_;cases d<;>first|rfl|(exact absurd rfl (bG _))
   ·cases he
  ·cases he
 ·cases he
end
section
variable {P:bL} {G:Nat->Option (List AV)} {w0:cG} {R:Rec}
def aaH{n}{ops}(h:F1 n ops=ah){i:Nat}{o}(ho:ops[i]?=aa o):∀d,o.dst=aa d->d<n:=by intro d hd;unfold F1 at h;rw[Gy] at h;obtain⟨hi,rfl⟩:=D7.1 ho;have:=h i hi;rw[hd] at this;simpa using this
def awA{K}{e}{a:Act}(hs:mZ K e.tmps a.tmps){ops}(Dl:F1 a.tmps.size ops=ah){o}{b}(he:fL ops e o=aa b):
 Region.wanted o (yielded ops a.tmps)=b:=by
 unfold fL at he;unfold Region.wanted;cases hg:o.guard with
 |none=>rw[hg] at he;simpa using he|some gw=>
  obtain⟨j,want⟩:=gw;rw[hg] at he;simp only at he ⊢;cases hb:(ops[j]?).bind (·.dst) with
  |none=>rw[hb] at he;simp only[eg] at he;subst he;simp[yielded,hb]|some d=>
   rw[hb] at he;simp only at he;have hd:d<a.tmps.size:=by
    cases ho:ops[j]? with
    |none=>rw[ho] at hb;cases hb
    |some o'=>rw[ho] at hb;exact aaH Dl ho d hb
   have hv:=hs d;have Qd:a.tmps[d]?=aa (a.tmps.getD d undef):=(by simp[hd]);have hy:∀z,a.tmps.getD d undef=z->yielded ops a.tmps j=match z with| .bool b=>aa b|_=>av:=by intro z hz;unfold yielded;rw[hb];simp only[qB];rw[Qd,hz];cases z<;>rfl
   unfold Env.get at he;generalize hx:e.tmps.get d=x at he hv;generalize hz:a.tmps.getD d undef=z at hv;have hy:=hy z hz;split at he
   ·rename_i b';obtain⟨rfl,-⟩:=hv.jl;injection he with he;rw[hy];simp[<-he]
   ·injection he with he;cases hv with|tuple cs vs h=>rw[hy];simp[<-he]
   ·cases he
def Ks{K}{e:Env}{a:Act}(hs:mZ K e.tmps a.tmps)(xs:Array bU):aV K (xs.toList.map e.eval) (xs.map a.eval).toList:=by rw[Ed];exact aV.map_mk λx _=>A6 hs x
def UJ(P:bL)(G:Nat->Option (List AV))(w0:cG)(K:a8)(ms:List Nat)(B:fF)(base:List fF)(m:Machine)(ops:Array Oper)(o:Oper)(rest:List Nat)(k:List Item)(n:Nat)(e':Env)(h':ar)(res:fg):Prop:=
 ∃K' w' a' ej,K.Le K'/\mi P G w0 K' h' w'/\oG P K' e' a' B ms/\CS K' B.kind base e'.dg ej/\a'.tmps.size=n/\
  match res with
  | .ret x=>∃v,a9 K' x v/\Steps P m (lone (B.atR (a'.put o.dst v) (.inRegion ops rest::k)) ej w')
  | .panic x=>∃v todo,a9 K' x v/\Steps P m (lone {B.atR a' todo with mode:=.panicking [{v,recovered:=aB}]} ej w')
def anA:∃d,Made.depth=d+1:=⟨Made.depth - 1,by decide⟩
def aou(hn:EC P)(hR:xG P G w0 R){e e':Env}{a:Act}{B:fF}{ms:List Nat}{base cs:List fF}{K:a8}{h h':ar}{w:cG}{ops:Array Oper}{i:Nat}{rest:List Nat}{o:Oper}{res:fg}
 (he:eI P G R e h o=aa (res,e',h')) (hf:oG P K e a B ms) (cI:CS K B.kind base e.dg cs) (hs:mi P G w0 K h w) (ho:ops[i]?=aa o) (hw:Region.wanted o (yielded ops a.tmps)=ah) (k:List Item):
 UJ P G w0 K ms B base (lone (B.atR a (.inRegion ops (i::rest)::k)) cs w) ops o rest k a.tmps.size e' h' res:=by
 have l9:∀(ro:Option Nat) (x:Sem Next),(∀c,o.op≠ .defer c)->execOp a.eval o=x->(o.semAt ro a.eval)=x:=λro x bG hx=>by rw[Oper.semAt_eq ro a.eval o bG,hx]
 have zN:e.round.isSome=aB->B.roundOf=av:=by
  intro hr;have:=hf.round;cases hq:e.round with|none=>rw[hq] at this;exact this|some l=>rw[hq] at hr;cases hr
 unfold eI at he;split at he
 ·-- recover
  rename_i args argTypes bV;have rA:execOp a.eval o=(do let d <-resolve a.eval {callee:=.builtin .recover,args:=args,argTypes:=argTypes} o.type;invoke d.target d.args):=by unfold execOp;rw[bV]
  have mQ:(o.semAt B.roundOf a.eval).run P w=.ok .recover w:=by rw[l9 _ _ (by rw[bV];intro c;simp) rA];simp[resolve,invoke,builtin]
  split at he
  ·cases he
  ·rename_i rE;have hB:=zN (by simpa using rE);split at he
   ·rename_i x hp;simp only[eg,dF] at he;obtain⟨rfl,rfl,rfl⟩:=he;rw[hp] at cI;generalize Fo:B.kind=kd at cI;generalize uG:(aa (x,aB):Option (AV × Bool))=pp at cI;cases cI with
    |normal h=>cases uG
    |ret c0 rest' hk hb hm=>cases uG
    |dg c0 rest' x' v r hk hb hx=>injection uG with uG;injection uG with h1 h2;subst h1;subst h2;refine⟨K,w,a,_,.refl K,hs,⟨hf.iT,hf.defers,hf.round,hf.fn⟩,.dg c0 rest' x v ah (Fo.trans hk) hb hx,rfl,v,hx,.one (avf ho hw hB mQ ?_)⟩;simp[tryRecover,Frame.atR,Fo,hk]
   ·rename_i hp;simp only[eg,dF] at he;obtain⟨rfl,rfl,rfl⟩:=he;refine⟨K,w,a,cs,.refl K,hs,hf,cI,rfl,.nilIface,.v _ rfl,.one (ave ho hw hB mQ ?_)⟩;generalize Fo:B.kind=kd at cI;generalize uG:e.dg=pp at cI hp;cases cI with
    |normal h=>subst h;simp[tryRecover,Frame.atR,Fo]|ret c0 rest' hk hb hm=>subst hk;subst hb;simp[tryRecover,Frame.atR,Fo,hm]|dg c0 rest' x' v r hk hb hx=>
     subst hk;cases r with|false=>exact absurd rfl (hp x')|true=>simp[tryRecover,Frame.atR,Fo]
 ·-- the built-in panic
  rename_i args argTypes bV;have rA:execOp a.eval o=(do let d <-resolve a.eval {callee:=.builtin .panic,args:=args,argTypes:=argTypes} o.type;invoke d.target d.args):=by unfold execOp;rw[bV]
  split at he
  ·rename_i t x yd;simp only[eg,dF] at he;obtain⟨rfl,rfl,rfl⟩:=he;have hv:=Ks hf.iT args;rw[yd] at hv;generalize hz:args.map a.eval=z at hv;obtain⟨z⟩:=z;simp only at hv;cases hv with
   |cons _ c _ ej h1 h2=>
    cases h2;cases h1 with|iface _ _ c hc=>refine⟨K,w,a,cs,.refl K,hs,hf,cI,rfl,.iface t c,_,.iface t x c hc,.one (acB ho hw ?_)⟩;rw[l9 _ _ (by rw[bV];intro c;simp) rA];simp[resolve,invoke,builtin,hz,Instr.panic]
  ·cases he
 ·-- another built-in function
  rename_i b args argTypes lY gi bV;have rA:execOp a.eval o=(do let d <-resolve a.eval {callee:=.builtin b,args:=args,argTypes:=argTypes} o.type;invoke d.target d.args):=by unfold execOp;rw[bV]
  simp only[dN] at he;obtain⟨⟨x,h1⟩,he,hq⟩:=he;simp only[dF] at hq;obtain⟨rfl,rfl,rfl⟩:=hq;obtain⟨K',v,w',le,s',hx,mQ⟩:=ahb hs (ty:=o.type) he (Ks hf.iT args) (args.map λ| .const _=>ah|_=>aB);refine⟨K',w',a,cs,le,s',hf.mono le,cI.mono le,rfl,v,hx,.one (acF ho hw ?_)⟩;rw[l9 _ _ (by rw[bV];intro c;simp) rA];simp only[resolve,invoke,Sem.run_bind,Sem.run_pure,Result.andThen_ok];exact mQ
 ·-- a call
  rename_i c lY gi zF bV;have rA:execOp a.eval o=(do let d <-resolve a.eval c o.type;invoke d.target d.args):=by unfold execOp;rw[bV]
  simp only[dN] at he;obtain⟨⟨r,h1⟩,he,hq⟩:=he;simp only[dF] at hq;obtain⟨rfl,rfl,rfl⟩:=hq;have yd:=Ks hf.iT c.args;have call:∀(g:bq) (xs:List AV) (vs:Array aT),R.call g xs h=aa (r,h1)->aV K xs vs.toList->((∃fn,P.funcs[g]?=aa fn/\fn.body.isSome=ah)->(execOp a.eval o).run P w=(callFunc g vs).run P w)->
   UJ P G w0 K ms B base (lone (B.atR a (.inRegion ops (i::rest)::k)) cs w) ops o rest k a.tmps.size e h1 r:=by
   intro g xs vs ux gy mQ;obtain⟨⟨fn,iG,nO⟩,hc⟩:=hR.call g xs h r h1 ux;obtain⟨K',w',fr,le,s',bT,-,hl⟩:=hc K w vs gy hs (B.atR a (.inRegion ops (i::rest)::k)::cs);have Ld:=au9 (k:=k) (cs:=cs) (rest:=rest) ho hw (by rw[l9 B.roundOf _ (by rw[bV];intro c;simp) rfl,mQ ⟨fn,iG,nO⟩];exact Td hn iG nO vs w);cases r with
   |ret x=>obtain⟨v,hx,hl⟩:=hl;refine⟨K',w',a,cs,le,s',hf.mono le,cI.mono le,rfl,v,hx,.head Ld (bT.trans (.one ?_))⟩;rw[step_leave_returned hl,CE ho]
   |panic x=>obtain⟨v,hx,hl⟩:=hl;refine⟨K',w',a,cs,le,s',hf.mono le,cI.mono le,rfl,v,.inRegion ops (i::rest)::k,hx,.head Ld (bT.trans (.one ?_))⟩;rw[step_leave_panicked hl,Frame.raise_atR]
  obtain⟨callee,cargs,cts⟩:=c;cases callee with
  |builtin b=>simp[mK] at he|value f=>
   simp only[mK] at he;have oU:=A6 hf.iT f;generalize QU:e.eval f=qf at he oU;generalize tK:a.eval f=qv at oU;split at he
   ·rename_i g first aF
    cases oU with
    |func _ _ _ fs ej E9 yb=>
     refine call g _ (fs++cargs.map a.eval++ej) he ?_ λ_=>?_
     ·simp only[Ec];exact(E9.append yd).append yb
     ·rw[rA];simp[resolve,tK,Deferred.ofValue,invoke]
   ·rename_i l;cases oU with
    |yield _ lg hlg=>
     obtain⟨fn,tmps,assign,body,K',w',hy,le,s',hm⟩:=hR.round l _ h r h1 he K w (cargs.map a.eval) lg hlg yd hs (B.atR a (.inRegion ops (i::rest)::k)) cs;have Lc:=avg (k:=k) (cs:=cs) (rest:=rest) ho hw (by rw[l9 B.roundOf _ (by rw[bV];intro c;simp) rA];simp only[resolve,tK,Deferred.ofValue,invoke,Sem.run_bind,Sem.run_pure,Result.andThen_ok];simpa using hy);cases r with
     |ret x=>obtain⟨v,hx,bT⟩:=hm;refine⟨K',w',a,cs,le,s',hf.mono le,cI.mono le,rfl,v,hx,.head Lc ?_⟩;rw[<-CE ho];exact bT
     |panic x=>obtain⟨v,fr,hx,bT,hl⟩:=hm;refine⟨K',w',a,cs,le,s',hf.mono le,cI.mono le,rfl,v,.inRegion ops (i::rest)::k,hx,.head Lc (bT.trans (.one ?_))⟩;rw[step_leave_panicked hl,Frame.raise_atR]
   ·cases he
  |invoke rcv name=>
   simp only[mK] at he;have oU:=A6 hf.iT rcv;generalize QU:e.eval rcv=qf at he oU;generalize tK:a.eval rcv=qv at oU;split at he
   ·rename_i t x;split at he
    ·rename_i f hm;cases oU with
     |iface _ _ c hc=>
      refine call f _ (#[c]++cargs.map a.eval) he ?_ λ_=>?_
      ·simp only[Ec];exact .cons _ _ _ _ hc yd
      ·rw[rA];obtain⟨d,hd⟩:=anA;have alR:=anM hm c w (P.types.size+d);have dP:P.types.size+Made.depth=P.types.size+d+1:=(by omega);simp only[resolve,tK,invoke,Sem.run_bind,Sem.run_pure,Result.andThen_ok,callMethod];have h0:(#[Value.iface t c]++NB a.eval cargs)[0]?=aa (.iface t c):=(by rw[Array.getElem?_append_left bJ];rfl);simp only[h0,run_program,Sem.run_bind,Result.andThen_ok,dP,alR];congr 2;have hh:(#[Value.iface t c]++NB a.eval cargs).extract 1 (#[Value.iface t c]++NB a.eval cargs).size=NB a.eval cargs:=(by apply Nz;simp;rw[<-yS,<-bF (f:=a.eval),List.take_length]);rw[hh]
    ·cases he
   ·cases he
 ·-- a defer
  rename_i f args argTypes bV;split at he
  ·cases he
  ·rename_i rE;have hB:=zN (by simpa using rE);have oU:=A6 hf.iT f;generalize QU:e.eval f=qf at he oU;generalize tK:a.eval f=qv at oU;split at he
   ·rename_i g first aF
    simp only[eg,dF] at he;obtain⟨rfl,rfl,rfl⟩:=he;cases oU with
    |func _ _ _ fs ej E9 yb=>
     have mQ:(o.semAt B.roundOf a.eval).run P w=.ok (.defer {target:=.fn (.func g) ej,args:=fs++args.map a.eval}) w:=(by rw[hB,Oper.semAt_none];unfold execOp;rw[bV];simp[resolve,tK,Deferred.ofValue]);refine⟨K,w,{a with defers:=_::a.defers},cs,.refl K,hs,⟨hf.iT,.call g _ (fs++args.map a.eval) ej _ _ _ ?_ hf.defers,?_,hf.fn⟩,cI,rfl,undef,?_,.one (au8 ho hw mQ)⟩
     ·simp only[Ec];exact(E9.append (Ks hf.iT args)).append yb
     ·have mP:=hf.round;cases hq:e.round with|none=>simp only;exact hB|some l=>rw[hq] at rE;exact absurd rfl rE
     ·exact .tuple [] #[] .nil
   ·cases he
 ·-- a panic
  rename_i x bV;have oU:=A6 hf.iT x;generalize QU:e.eval x=qf at he oU;generalize tK:a.eval x=qv at oU;split at he
  ·rename_i t x;simp only[eg,dF] at he;obtain⟨rfl,rfl,rfl⟩:=he;cases oU with|iface _ _ c hc=>refine⟨K,w,a,cs,.refl K,hs,hf,cI,rfl,.iface t c,_,.iface t x c hc,.one (acB ho hw ?_)⟩;rw[Oper.semAt_eq _ _ _ (by rw[bV];intro c;simp)];unfold execOp;rw[bV];simp[tK,Instr.panic]
  ·cases he
 ·-- any other operation
  rename_i op Y9 Za axB axC axD axE;simp only[dN] at he;obtain⟨⟨x,h1⟩,he,hq⟩:=he;simp only[dF] at hq;obtain⟨rfl,rfl,rfl⟩:=hq;have QD:∀c,o.op≠ .defer c:=by intro c hc;rw[hc] at he;simp[eo] at he
  obtain⟨K',v,w',le,s',hx,mQ⟩:=ao7 hs (λx=>A6 hf.iT x) he;refine⟨K',w',a,cs,le,s',hf.mono le,cI.mono le,rfl,v,hx,.one ?_⟩;rcases mQ with mQ|⟨mQ,rfl⟩
  ·exact acF ho hw (by rw[Oper.semAt_eq _ _ _ QD];exact mQ)
  ·exact avi ho hw (by rw[Oper.semAt_eq _ _ _ QD];exact mQ)
end
end Go.AE
end
section
namespace Go.AE
def atQ{x y}(h:mU x y=ah):x=y:=by
 cases x<;>cases y<;>simp only[mU,bI,decide_eq_true_eq,kj,beq_iff_eq] at h
 case int.int=>rw[h.1,h.2]
 case bool.bool=>rw[h]
 case string.string a b=>
  obtain⟨⟨a⟩⟩:=a;obtain⟨⟨b⟩⟩:=b;simp only at h;rw[h]
 case pointer.pointer a b=>cases a<;>cases b<;>first|rfl|simp[mU] at h
 all_goals rfl
def atO{x y}(h:MW x y=ah):x=y:=by cases x<;>cases y<;>simp only[MW,kj] at h<;>rw[lD h]
def atP{x y}(h:yK x y=ah):x=y:=by cases x<;>cases y<;>simp only[yK,kj] at h<;>first|rfl|rw[lD h]
mutual
def Ti:∀{x y:AV},fA x y=ah->x=y
 | .v x,.v y,h=>by rw[fA] at h;rw[atQ h]
 | .list k sz es,.list k' sz' es',h=>by rw[fA,bI,bI] at h;rw[atP h.1.1,lD h.1.2,Tj h.2]
 | .arr b o l c,.arr b' o' l' c',h=>by rw[fA,bI,bI,bI] at h;rw[lD h.1.1.1,lD h.1.1.2,lD h.1.2,lD h.2]
 | .agg cs,.agg ds,h=>by rw[fA] at h;rw[Gl h]
 | .tuple cs,.tuple ds,h=>by rw[fA] at h;rw[Gl h]
 | .ptr r o,.ptr r' o',h=>by rw[fA,bI] at h;rw[atO h.1,lD h.2]
 | .elem sz es i o,.elem sz' es' i' o',h=>by rw[fA,bI,bI,bI] at h;rw[lD h.1.1.1,lD h.1.1.2,lD h.1.2,Tj h.2]
 | .yield l,.yield l',h=>by rw[fA] at h;rw[lD h]
 | .iface t x,.iface t' y,h=>by rw[fA,bI] at h;rw[lD h.1,Ti h.2]
 | .func (.func f) a b,.func (.func g) a' b',h=>by rw[fA,bI,bI] at h;rw[lD h.1.1,Gl h.1.2,Gl h.2]
 | .bad,y,h=>by simp[fA] at h
def Gl:∀{x y:List AV},pP x y=ah->x=y
 | [],[],_=>rfl
 |x::xs,y::ys,h=>by rw[pP,bI] at h;rw[Ti h.1,Gl h.2]
 | [],y::ys,h=>by simp[pP] at h
 |x::xs,[],h=>by simp[pP] at h
def Tj:∀{x y:List (List AV)},rO x y=ah->x=y
 | [],[],_=>rfl
 |x::xs,y::ys,h=>by rw[rO,bI] at h;rw[Gl h.1,Tj h.2]
 | [],y::ys,h=>by simp[rO] at h
 |x::xs,[],h=>by simp[rO] at h
end
end Go.AE
end
section
namespace Go.AE
section
variable {P:bL} {G:Nat->Option (List AV)} {R:Rec}
def RJ{ρ ρ':bU->AV}{ps:Array (Nat × bU)}(h:∀x∈ps.map (·.2),ρ x=ρ' x):(ps.toList.map λp=>(p.1,ρ p.2))=ps.toList.map λp=>(p.1,ρ' p.2):=
 Kf λp hp=>by rw[h p.2 (Array.mem_map.2 ⟨p,adl.1 hp,rfl⟩)]
def BF{ρ ρ':bU->AV}{ps:Array bU}(h:∀x∈ps,ρ x=ρ' x):ps.toList.map ρ=ps.toList.map ρ':=
 Kf λp hp=>h p (adl.1 hp)
def aa1{ρ ρ':Operand->AV}{h:ar}{op:Op}(hx:∀x∈op.operands,ρ x=ρ' x):eo P G ρ h op=eo P G ρ' h op:=by
 cases op<;>simp only[Op.operands] at hx<;>simp only[eo]
 case build t ps=>rw[RJ (λx hm=>hx x (by simpa using hm))]
 case buildSlice t n ps=>rw[RJ (λx hm=>hx x (by simpa using hm))]
 case makeFunc fn first captured=>
  rw[BF (ps:=first) λx hm=>hx x (by simp[hm]),BF (ps:=captured) λx hm=>hx x (by simp[hm])]
 case slice t x lo hi mx=>cases lo<;>cases hi<;>cases mx<;>simp_all
 all_goals (first|rfl|(simp_all;done))
def Op.aal{c:Call}{x}(h:x∈c.args):x∈c.operands:=by simp[Call.operands,h]
def OX{e e2:Env}{h:ar}{c:Call}(hx:∀x∈c.operands,e.eval x=e2.eval x):mK P R e h c=mK P R e2 h c:=by
 have ha:c.args.toList.map e.eval=c.args.toList.map e2.eval:=BF λx hm=>hx x (Op.aal hm);unfold mK;simp only[ha];cases hc:c.callee with|builtin b=>rfl|value f=>have hf:e.eval f=e2.eval f:=hx f (by simp[Call.operands,hc]);simp only[hf]|invoke r m=>have hr:e.eval r=e2.eval r:=hx r (by simp[Call.operands,hc]);simp only[hr]
def Env.with(e e':Env):Env:={e with defers:=e'.defers,dg:=e'.dg}
def aot{e e':Env}{h h':ar}{o:Oper}{r:fg}(he:eI P G R e h o=aa (r,e',h')):e'=e.with e':=by
 unfold eI at he;split at he
 ·split at he
  ·cases he
  ·split at he
   ·simp only[eg,dF] at he;obtain⟨-,rfl,-⟩:=he;rfl
   ·simp only[eg,dF] at he;obtain⟨-,rfl,-⟩:=he;rfl
 ·split at he
  ·simp only[eg,dF] at he;obtain⟨-,rfl,-⟩:=he;rfl
  ·cases he
 ·simp only[dN,dF] at he;obtain⟨_,-,-,rfl,-⟩:=he;rfl
 ·simp only[dN,dF] at he;obtain⟨_,-,-,rfl,-⟩:=he;rfl
 ·split at he
  ·cases he
  ·split at he
   ·simp only[eg,dF] at he;obtain⟨-,rfl,-⟩:=he;rfl
   ·cases he
 ·split at he
  ·simp only[eg,dF] at he;obtain⟨-,rfl,-⟩:=he;rfl
  ·cases he
 ·simp only[dN,dF] at he;obtain⟨_,-,-,rfl,-⟩:=he;rfl
def aos{e e' e2:Env}{h h':ar}{o:Oper}{r:fg}(hx:∀x∈o.op.operands,e.eval x=e2.eval x)(hd:e2.defers=e.defers)(hp:e2.dg=e.dg)(hr:e2.round=e.round)
 (he:eI P G R e h o=aa (r,e',h')):eI P G R e2 h o=aa (r,e2.with e',h'):=by
 have jy:e2.with e=e2:=by cases e2;cases e;simp_all [Env.with]
 unfold eI at he ⊢;split at he
 ·rename_i args ts bV;simp only[hr,hp];split at he
  ·cases he
  ·rename_i l9;rw[aJ l9];split at he
   ·rename_i x uG;simp only[eg,dF] at he;obtain⟨rfl,rfl,rfl⟩:=he;simp[Env.with,<-hd,<-hr]
   ·rename_i uG;simp only[eg,dF] at he;obtain⟨rfl,rfl,rfl⟩:=he;rw[jy]
 ·rename_i args ts bV;have ha:args.toList.map e.eval=args.toList.map e2.eval:=BF λx hm=>hx x (by rw[bV];simp[Op.operands,Call.operands,hm]);simp only[<-ha];split at he
  ·simp only[eg,dF] at he;obtain⟨rfl,rfl,rfl⟩:=he;simp only[jy]
  ·cases he
 ·rename_i b args ts lY gi bV;have ha:args.toList.map e.eval=args.toList.map e2.eval:=BF λx hm=>hx x (by rw[bV];simp[Op.operands,Call.operands,hm]);simp only[dN,dF] at he;obtain⟨q,hq,rfl,rfl,rfl⟩:=he;simp only[<-ha,hq,ft,jy]
 ·rename_i c lY gi zF bV;simp only[dN,dF] at he;obtain⟨q,hq,rfl,rfl,rfl⟩:=he;rw[OX (e2:=e2) (λx hm=>hx x (by rw[bV];exact hm))] at hq;simp only[hq,ft,jy]
 ·rename_i f args ts bV;have ha:args.toList.map e.eval=args.toList.map e2.eval:=BF λx hm=>hx x (by rw[bV];simp[Op.operands,Call.operands,hm]);have hf:e.eval f=e2.eval f:=hx f (by rw[bV];simp[Op.operands,Call.operands]);simp only[hr];split at he
  ·cases he
  ·rename_i l9;rw[aJ l9];simp only[<-hf,<-ha];split at he
   ·simp only[eg,dF] at he;obtain⟨rfl,rfl,rfl⟩:=he;simp only[Env.with,hd,<-hp,<-hr]
   ·cases he
 ·rename_i x bV;have hf:e.eval x=e2.eval x:=hx x (by rw[bV];simp[Op.operands]);simp only[<-hf];split at he
  ·simp only[eg,dF] at he;obtain⟨rfl,rfl,rfl⟩:=he;simp only[jy]
  ·cases he
 ·simp only[dN,dF] at he;obtain⟨q,hq,rfl,rfl,rfl⟩:=he;rw[aa1 (ρ':=e2.eval) hx] at hq;simp only[hq,ft,jy]
def apS{e e':Env}{h h':ar}{o:Oper}{r:fg}(hc:jU o.op=.pure)(he:eI P G R e h o=aa (r,e',h')):
 e'=e/\h'=h/\∀e2:Env,(∀x∈o.op.operands,e.eval x=e2.eval x)->∀h2,eI P G R e2 h2 o=aa (r,e2,h2):=by
 cases bV:o.op with
 |call c=>
  obtain⟨callee,args,ts⟩:=c;rw[bV] at hc;cases callee with
  |value f=>simp[jU] at hc|invoke r n=>simp[jU] at hc|builtin b=>
   cases b<;>simp[jU] at hc
   case len=>
    unfold eI at he ⊢;simp only[bV] at he ⊢;simp only[dN,dF] at he;obtain⟨⟨x,hh⟩,hq,rfl,rfl,rfl⟩:=he;have hT:∀(h2:ar) (l:List AV),tv P G o.dst h2 .len ts o.type l=jT P h2 .len ts o.type l:=λ_ _=>rfl;rw[hT] at hq;have key:hh=h/\∀h2:ar,jT P h2 .len ts o.type (args.toList.map e.eval)=aa (x,h2):=by
     generalize args.toList.map e.eval=l at hq ⊢;rcases l with _|⟨y,_|⟨z,l⟩⟩
     ·simp[jT] at hq
     ·simp only[jT] at hq ⊢;split at hq
      ·rename_i t ht;simp only[dN,dF] at hq;obtain⟨z,hz,rfl,rfl⟩:=hq;refine⟨rfl,λh2=>?_⟩;simp[hz]
      ·cases hq
     ·simp[jT] at hq
    obtain⟨rfl,key⟩:=key;refine⟨rfl,rfl,λe2 hx h2=>?_⟩;have ha:args.toList.map e.eval=args.toList.map e2.eval:=BF λx hm=>hx x (by simp[Op.operands,Call.operands,hm]);rw[<-ha,hT,key h2];rfl
 |buildSlice t n ps=>
  rw[bV] at hc;have HY:xW ps=aB:=by
   cases hb:xW ps with|false=>rfl|true=>simp[jU,hb] at hc
  unfold eI at he ⊢;simp only[bV] at he ⊢;simp only[dN,dF] at he;obtain⟨⟨x,hh⟩,hq,rfl,rfl,rfl⟩:=he;simp only[eo,HY,dN,dF] at hq;obtain⟨y,hy,rfl,rfl⟩:=hq;refine⟨rfl,rfl,λe2 hx h2=>?_⟩;have hm:=RJ (ρ:=e.eval) (ρ':=e2.eval) (ps:=ps) (λx hm=>hx x (by simpa [Op.operands] using hm));simp only[eo,HY,<-hm,hy,ft]
 |_=>
  rw[bV] at hc
  first
   |(simp[jU] at hc;done)
   |(unfold eI at he ⊢
     simp only[bV] at he ⊢;simp only[dN,dF] at he;obtain⟨⟨x,hh⟩,hq,rfl,rfl,rfl⟩:=he;have key:hh=h/\∀h2:ar,eo P G e.eval h2 o.op=aa (x,h2):=by
      rw[bV];simp only[eo] at hq ⊢
      first
       |(simp only[eg,dF] at hq;obtain⟨rfl,rfl⟩:=hq;exact⟨rfl,λ_=>rfl⟩)
       |(simp only[dN,dF] at hq;obtain⟨z,hz,rfl,rfl⟩:=hq;exact⟨rfl,λ_=>by simp only[hz,ft]⟩)
       |(split at hq
         ·simp only[eg,dF] at hq;obtain⟨rfl,rfl⟩:=hq;exact⟨rfl,λ_=>by simp_all⟩
         ·cases hq)
       |(split at hq
         ·simp only[dN,dF] at hq;obtain⟨z,hz,rfl,rfl⟩:=hq;exact⟨rfl,λ_=>by simp_all⟩
         ·cases hq)
       |(split at hq
         ·split at hq
          ·simp only[dN,dF] at hq;obtain⟨z,hz,rfl,rfl⟩:=hq;exact⟨rfl,λ_=>by simp_all⟩
          ·cases hq
         ·cases hq)
     obtain⟨rfl,key⟩:=key;refine⟨rfl,rfl,λe2 hx h2=>?_⟩;rw[<-bV,<-aa1 (P:=P) (G:=G) (ρ:=e.eval) (h:=h2) (by rw[bV];exact hx),key h2];rfl)
def anq{e e':Env}{h h':ar}{o:Oper}{r:fg}{t:aP}{a:bU}(bV:o.op=.load t a)(he:eI P G R e h o=aa (r,e',h')):
 ∃x,r=.ret x/\e'=e/\h'=h/\aI P G h t (e.eval a)=aa x/\∀e2:Env,e2.eval a=e.eval a->∀h2,aI P G h2 t (e.eval a)=aa x->eI P G R e2 h2 o=aa (.ret x,e2,h2):=by
 unfold eI at he ⊢;simp only[bV,eo] at he ⊢;simp only[dN,dF] at he;obtain⟨⟨x,hh⟩,⟨y,hy,rfl,rfl⟩,rfl,rfl,rfl⟩:=he;refine⟨_,rfl,rfl,rfl,hy,λe2 h2 tE hl=>?_⟩;rw[h2,hl];rfl
def abh{op}(h:jU op=.reads):∃t a,op=.load t a:=by
 cases op with
 |load t a=>exact⟨t,a,rfl⟩|buildSlice t n ps=>exfalso;simp only[jU] at h;split at h<;>cases h
 |call c=>
  obtain⟨callee,args,ts⟩:=c;cases callee with
  |builtin b=>cases b<;>simp[jU] at h
  |_=>simp[jU] at h
 |_=>simp[jU] at h
end
end Go.AE
end
section
namespace Go.AE
section
variable (P:bL) (G:Nat->Option (List AV)) (R:Rec) (ops:Array Oper)
def lM(i:Nat)(e:Env)(h:ar):Option (AV × Env × ar):=
 match ops[i]? with
 |none=>av
 |some o=>
  match fL ops e o with
  |none=>av
  |some aB=>aa (.tuple [],e,h)
  |some ah=>
   match eI P G R e h o with
   |some (.ret x,e,h)=>aa (x,e,h)
   |_=>av
def nK(i:Nat):Option Tmp:=(ops[i]?).bind (·.dst)
def qI(i:Nat):Class:=((ops[i]?).map λo=>jU o.op).getD .pure
noncomputable def nf(e:Env)(h:ar)(i:Nat):Class:=if nI P G R ops e h i=ah then .reads else qI ops i
def dp(e:Env)(h:ar)(k:Nat):Env × ar:=
 match dx P G R ops (bO k) e h with
 |some (_,e,h)=>(e,h)
 |none=>(e,h)
def vY(e:Env)(h:ar)(k:Nat):AV × Env:=
 match lM P G R ops k (dp P G R ops e h k).1 (dp P G R ops e h k).2 with
 |some (x,e,_)=>(x,e)
 |none=>(.bad,e)
def val(e:Env)(h:ar)(S:Nat->Bool):Nat->Nat->AV
 |0,t=>e.get t
 |k+1,t=>if S k=ah/\nK ops k=aa t then (vY P G R ops e h k).1 else val e h S k t
def Alike(e e2:Env)(o:Oper):Prop:=∀t∈o.looksAt ops,e.get t=e2.get t
end
section
variable {P:bL} {G:Nat->Option (List AV)} {R:Rec} {ops:Array Oper}
def rK{i:Nat}{rest:List Nat}{e e':Env}{h h':ar}:
 dx P G R ops (i::rest) e h=aa (.normal,e',h')↔∃x e1 h1,lM P G R ops i e h=aa (x,e1,h1)/\dx P G R ops rest (e1.put (nK ops i) x) h1=aa (.normal,e',h'):=by
 simp only[dx,lM,nK];cases ho:ops[i]? with
 |none=>simp|some o=>
  simp only[qB];cases hw:fL ops e o with
  |none=>simp|some b=>
   cases b with
   |false=>simp only[eg,dF];exact⟨λhq=>⟨_,_,_,⟨rfl,rfl,rfl⟩,hq⟩,λ⟨_,_,_,⟨a,b,c⟩,hq⟩=>by subst a;subst b;subst c;exact hq⟩
   |true=>
    simp only;cases bV:eI P G R e h o with
    |none=>simp|some q=>
     obtain⟨r,e1,h1⟩:=q;cases r with|panic x=>simp|ret x=>simp only[eg,dF];exact⟨λhq=>⟨_,_,_,⟨rfl,rfl,rfl⟩,hq⟩,λ⟨_,_,_,⟨a,b,c⟩,hq⟩=>by subst a;subst b;subst c;exact hq⟩
def I4{l1 l2:List Nat}:∀{e e':Env} {h h':ar},
 dx P G R ops (l1++l2) e h=aa (.normal,e',h')↔∃e1 h1,dx P G R ops l1 e h=aa (.normal,e1,h1)/\dx P G R ops l2 e1 h1=aa (.normal,e',h'):=by
 induction l1 with
 |nil=>intro e e' h h';simp only[mh,dx,eg,dF,true_and];exact⟨λhq=>⟨_,_,⟨rfl,rfl⟩,hq⟩,λ⟨_,_,⟨a,b⟩,hq⟩=>by subst a;subst b;exact hq⟩
 |cons i l ih=>
  intro e e' h h';rw[lO,rK];constructor
  ·rintro⟨x,e1,h1,hs,hr⟩;obtain⟨e2,h2,ha,hb⟩:=ih.1 hr;exact⟨e2,h2,rK.2 ⟨x,e1,h1,hs,ha⟩,hb⟩
  ·rintro⟨e2,h2,ha,hb⟩;obtain⟨x,e1,h1,hs,hr⟩:=rK.1 ha;exact⟨x,e1,h1,hs,ih.2 ⟨e2,h2,hr,hb⟩⟩
def trace{e e':Env}{h h':ar}:∀{n:Nat},dx P G R ops (bO n) e h=aa (.normal,e',h')->
 (e',h')=dp P G R ops e h n/\(∀k,k<=n->dx P G R ops (bO k) e h=aa (.normal,(dp P G R ops e h k).1,(dp P G R ops e h k).2))/\
 ∀k,k<n->lM P G R ops k (dp P G R ops e h k).1 (dp P G R ops e h k).2=aa ((vY P G R ops e h k).1,(vY P G R ops e h k).2,(dp P G R ops e h (k+1)).2)/\
  (dp P G R ops e h (k+1)).1=(vY P G R ops e h k).2.put (nK ops k) (vY P G R ops e h k).1:=by
 intro n
 induction n generalizing e' h' with
 |zero=>
  intro hn;have h0:(e',h')=dp P G R ops e h 0:=by unfold dp;rw[hn]
  refine⟨h0,λk hk=>?_,λk hk=>absurd hk (ud k)⟩;have:k=0:=Of.1 hk;subst this;rw[<-h0];exact hn
 |succ n ih=>
  intro hn;have h0:(e',h')=dp P G R ops e h (n+1):=by unfold dp;rw[hn]
  have Fs:=hn;rw[nD,I4] at Fs;obtain⟨e1,h1,ha,hb⟩:=Fs;obtain⟨i1,i2,i3⟩:=ih ha;obtain⟨x,e2,h2,hs,hr⟩:=rK.1 hb;simp only[dx,eg,dF,true_and] at hr;refine⟨h0,λk hk=>?_,λk hk=>?_⟩
  ·rcases ez k (n+1) with aC|eF
   ·exact i2 k (Ch.1 aC)
   ·have:k=n+1:=Cg hk eF;subst this;rw[<-h0];exact hn
  ·rcases ez k n with aC|eF
   ·exact i3 k aC
   ·have:k=n:=Cg (Ch.1 hk) eF;subst this;have bT:lM P G R ops k (dp P G R ops e h k).1 (dp P G R ops e h k).2=aa (x,e2,h2):=(by rw[<-i1];exact hs);have hx:vY P G R ops e h k=(x,e2):=(by unfold vY;rw[bT]);rw[hx,<-h0,bT];obtain⟨rfl,rfl⟩:=hr;exact⟨rfl,rfl⟩
def Ho{e e2:Env}{o:Oper}(h:Alike ops e e2 o):∀x∈o.op.operands,e.eval x=e2.eval x:=by
 intro x hx;cases x with|tmp t=>refine h t ?_;unfold Oper.looksAt;exact List.mem_append_left _ (List.mem_filterMap.2 ⟨.tmp t,by simpa using hx,rfl⟩)|_=>rfl
def AP{e e2:Env}{o:Oper}(h:Alike ops e e2 o):fL ops e o=fL ops e2 o:=by
 unfold fL;cases hg:o.guard with
 |none=>rfl|some gw=>
  obtain⟨j,want⟩:=gw;simp only;cases hd:(ops[j]?).bind (·.dst) with|none=>rfl|some d=>have:e.get d=e2.get d:=h d (by unfold Oper.looksAt;rw[hg];simp[hd]);simp only[this]
def SA(e:Env)(d)(x)(t):(e.put d x).get t=if d=aa t then x else e.get t:=by
 cases d with|none=>simp[Env.put]|some d=>simp only[Env.put,Env.get,FV,eg]
def xj(e:Env)(d)(x):(e.put d x).defers=e.defers/\(e.put d x).dg=e.dg/\(e.put d x).round=e.round:=by cases d<;>exact⟨rfl,rfl,rfl⟩
def Tv{k:Nat}{e e1 e2:Env}{h h1:ar}{x:AV}(hs:lM P G R ops k e h=aa (x,e1,h1)):
 e1=e.with e1/\((∀o,ops[k]?=aa o->Alike ops e e2 o)->e2.defers=e.defers->e2.dg=e.dg->e2.round=e.round->lM P G R ops k e2 h=aa (x,e2.with e1,h1)):=by
 unfold lM at hs ⊢;cases ho:ops[k]? with
 |none=>rw[ho] at hs;cases hs
 |some o=>
  rw[ho] at hs;simp only at hs ⊢;cases hw:fL ops e o with
  |none=>rw[hw] at hs;cases hs
  |some b=>
   rw[hw] at hs;cases b with
   |false=>simp only[eg,dF] at hs;obtain⟨rfl,rfl,rfl⟩:=hs;refine⟨rfl,λeR hd hp hr=>?_⟩;rw[<-AP (eR o rfl),hw];have:e2.with e=e2:=(by cases e2;cases e;simp_all [Env.with]);simp only[this]
   |true=>
    simp only at hs;split at hs
    ·rename_i x' e' h' bV;simp only[eg,dF] at hs;obtain⟨rfl,rfl,rfl⟩:=hs;refine⟨aot bV,λeR hd hp hr=>?_⟩;rw[<-AP (eR o rfl),hw];simp only[aos (Ho (eR o rfl)) hd hp hr bV]
    ·cases hs
def Tw{k:Nat}{e e1:Env}{h h1:ar}{x:AV}(hc:qI ops k=.pure)(hs:lM P G R ops k e h=aa (x,e1,h1)):
 e1=e/\h1=h/\∀e2 h2,(∀o,ops[k]?=aa o->Alike ops e e2 o)->lM P G R ops k e2 h2=aa (x,e2,h2):=by
 unfold lM at hs ⊢;cases ho:ops[k]? with
 |none=>rw[ho] at hs;cases hs
 |some o=>
  rw[ho] at hs;simp only at hs ⊢;have hc:jU o.op=.pure:=by simpa [qI,ho] using hc
  cases hw:fL ops e o with
  |none=>rw[hw] at hs;cases hs
  |some b=>
   rw[hw] at hs;cases b with
   |false=>simp only[eg,dF] at hs;obtain⟨rfl,rfl,rfl⟩:=hs;refine⟨rfl,rfl,λe2 h2 eR=>?_⟩;rw[<-AP (eR o rfl),hw]
   |true=>
    simp only at hs;split at hs
    ·rename_i x' e' h' bV;simp only[eg,dF] at hs;obtain⟨rfl,rfl,rfl⟩:=hs;obtain⟨rfl,rfl,eW⟩:=apS hc bV;refine⟨rfl,rfl,λe2 h2 eR=>?_⟩;rw[<-AP (eR o rfl),hw];simp only[eW e2 (Ho (eR o rfl)) h2]
    ·cases hs
def Reads(P:bL)(G:Nat->Option (List AV))(R:Rec)(ops:Array Oper)(k:Nat)(e:Env)(x:AV)(h2:ar):Prop:=
 ∀o,ops[k]?=aa o->fL ops e o=aa ah->(∀t a,o.op=.load t a->aI P G h2 t (e.eval a)=aa x)/\(AX o.op=ah->eI P G R e h2 o=aa (.ret x,e,h2))
def acC{k:Nat}{e e1:Env}{h h1:ar}{x:AV}(hc:qI ops k=.reads)(hs:lM P G R ops k e h=aa (x,e1,h1)):
 e1=e/\h1=h/\Reads P G R ops k e x h/\∀e2 h2,(∀o,ops[k]?=aa o->Alike ops e e2 o)->Reads P G R ops k e x h2->lM P G R ops k e2 h2=aa (x,e2,h2):=by
 unfold lM at hs ⊢;unfold Reads;cases ho:ops[k]? with
 |none=>rw[ho] at hs;cases hs
 |some o=>
  rw[ho] at hs;simp only at hs ⊢;have hc:jU o.op=.reads:=by simpa [qI,ho] using hc
  obtain⟨t,a,mC⟩:=abh hc;cases hw:fL ops e o with
  |none=>rw[hw] at hs;cases hs
  |some b=>
   rw[hw] at hs;cases b with
   |false=>
    simp only[eg,dF] at hs;obtain⟨rfl,rfl,rfl⟩:=hs;refine⟨rfl,rfl,λo' ji Zz=>?_,λe2 h2 eR _=>?_⟩
    ·injection ji with ji;subst ji;rw[hw] at Zz;cases Zz
    ·rw[<-AP (eR o rfl),hw]
   |true=>
    simp only at hs;split at hs
    ·rename_i x' e' h' bV;simp only[eg,dF] at hs;obtain⟨rfl,rfl,rfl⟩:=hs;obtain⟨y,hy,rfl,rfl,hl,eW⟩:=anq mC bV;injection hy with hy;subst hy;refine⟨rfl,rfl,λo' ji _=>⟨λt' a' YL=>?_,λiN=>?_⟩,λe2 h2 eR rE=>?_⟩
     ·injection ji with ji;subst ji;rw[mC] at YL;injection YL with h1 h2;subst h1;subst h2;exact hl
     ·injection ji with ji;subst ji;rw[mC] at iN;cases iN
     ·rw[<-AP (eR o rfl),hw];have hax:e2.eval a=e'.eval a:=(Ho (eR o rfl) a (by rw[mC];simp[Op.operands])).symm;simp only[eW e2 hax h2 ((rE o rfl hw).1 t a mC)]
    ·cases hs
def ahe{e:Env}{h h2:ar}{o:Oper}{c:Call}{x:AV}(bV:o.op=.call c)(hc:mK P R e h c=aa (.ret x,h2)):eI P G R e h o=aa (.ret x,e,h2):=by
 have hb:∀b,c.callee≠ .builtin b:=by intro b hb;unfold mK at hc;rw[hb] at hc;cases hc
 obtain⟨callee,args,ts⟩:=c;unfold eI;cases callee with|builtin b=>exact absurd rfl (hb b)|value f=>simp only[bV,hc,ft]|invoke r n=>simp only[bV,hc,ft]
def ahl{e e2:Env}{h:ar}{o:Oper}{x:AV}(bV:AX o.op=ah)(hz:∀z∈o.op.operands,e.eval z=e2.eval z)(ho:eI P G R e h o=aa (.ret x,e,h)):eI P G R e2 h o=aa (.ret x,e2,h):=by
 unfold AX at bV;split at bV
 ·cases bV
 ·cases bV
 ·rename_i c n1 n2 hc;have Ri:∀z∈c.operands,e.eval z=e2.eval z:=λz hm=>hz z (by rw[hc];exact hm);obtain⟨callee,args,ts⟩:=c;have ha:args.toList.map e.eval=args.toList.map e2.eval:=BF λx hm=>Ri x (Op.aal hm);unfold eI at ho ⊢;cases callee with
  |builtin b=>
   cases b
   case recover=>exact absurd rfl (n1 _ _)
   case panic=>exact absurd rfl (n2 _ _)
   all_goals
    simp only[hc] at ho ⊢;rw[<-ha];simp only[dN] at ho ⊢;obtain⟨⟨y,h1⟩,q1,q2⟩:=ho;injection q2 with q2 q3;injection q3 with q3 q4;injection q2 with q2;subst q2;subst q4;exact⟨_,q1,rfl⟩
  |value f=>simp only[hc] at ho ⊢;rw[<-OX (e:=e) (e2:=e2) Ri];simp only[dN] at ho ⊢;obtain⟨⟨y,h1⟩,q1,q2⟩:=ho;injection q2 with q2 q3;injection q3 with q3 q4;subst q2;subst q4;exact⟨_,q1,rfl⟩
  |invoke r n=>simp only[hc] at ho ⊢;rw[<-OX (e:=e) (e2:=e2) Ri];simp only[dN] at ho ⊢;obtain⟨⟨y,h1⟩,q1,q2⟩:=ho;injection q2 with q2 q3;injection q3 with q3 q4;subst q2;subst q4;exact⟨_,q1,rfl⟩
 ·rename_i s d y hc;have hy:e.eval y=e2.eval y:=hz y (by rw[hc];simp[Op.operands]);unfold eI at ho ⊢;simp only[hc,eo] at ho ⊢;rw[<-hy];simp only[dN] at ho ⊢;obtain⟨⟨y,h1⟩,q1,q2⟩:=ho;injection q2 with q2 q3;injection q3 with q3 q4;injection q2 with q2;subst q2;subst q4;exact⟨_,q1,rfl⟩
 ·cases bV
def acA{k:Nat}{e e1:Env}{h h1:ar}{x y:AV}{o:Oper}(ho:ops[k]?=aa o)(bV:AX o.op=ah)(hc:eI P G R e h o=aa (.ret y,e,h))(hs:lM P G R ops k e h=aa (x,e1,h1)):
 e1=e/\h1=h/\(fL ops e o=aa ah->x=y)/\∀e2 h2,(∀o,ops[k]?=aa o->Alike ops e e2 o)->Reads P G R ops k e x h2->lM P G R ops k e2 h2=aa (x,e2,h2):=by
 unfold lM at hs ⊢;rw[ho] at hs;simp only[ho] at hs ⊢;cases hw:fL ops e o with
 |none=>rw[hw] at hs;cases hs
 |some b=>
  rw[hw] at hs;cases b with
  |false=>simp only[eg,dF] at hs;obtain⟨rfl,rfl,rfl⟩:=hs;refine⟨rfl,rfl,(λq=>nomatch q),λe2 h2 eR _=>?_⟩;rw[<-AP (eR o rfl),hw]
  |true=>simp only[hc] at hs;simp only[eg,dF] at hs;obtain⟨rfl,rfl,rfl⟩:=hs;refine⟨rfl,rfl,λ_=>rfl,λe2 h2 eR rE=>?_⟩;rw[<-AP (eR o rfl),hw];have h3:=(rE o ho hw).2 bV;have h4:=ahl (e2:=e2) bV (λz hz=>Ho (eR o rfl) z hz) h3;simp only[h4]
end
end Go.AE
end
section
namespace Go.AE
section
variable {P:bL} {G:Nat->Option (List AV)} {R:Rec} {ops:Array Oper}
def Ord(b:Array Nat)(i j:Nat):Prop:=(b.getD j 0).testBit i=ah
structure Fits(P:bL)(G:Nat->Option (List AV))(R:Rec)(ops:Array Oper)(e:Env)(h:ar)(b:Array Nat):Prop where
 KI:∀(j:Nat) (o:Oper),ops[j]?=aa o->∀ed∈o.after,Region.binds .any ed=ah->ed.on<j
 bits:∀(j i:Nat) (o:Oper),ops[j]?=aa o->i<ops.size->Ord b i j->∃ed∈o.after,Region.binds .any ed=ah/\(ed.on=i∨Ord b i ed.on)
 pair:∀i j:Nat,i<j->j<ops.size->Ord b i j∨Af ops i j=ah∨mH P G R ops e h i j=ah∨(qF ops i j=ah/\(nI P G R ops e h i=ah∨nI P G R ops e h j=ah))
def zw{e:Env}{h:ar}(hf:ng P G R ops e h=ah):Fits P G R ops e h (Region.before ops):=by
 unfold ng at hf;simp only[bI,eK,gf,v8] at hf;obtain⟨hb,hp⟩:=hf;unfold Cp at hb;simp only[eK,gf] at hb;refine⟨λj o ho ed fT om=>?_,λj i o ho hi mO=>?_,λi j mO hj=>?_⟩
 ·have hj:j<ops.size:=(D7.1 ho).1;have:=hb j hj;simp only[ho,bI,Gy] at this;obtain⟨q,hq,rfl⟩:=adh fT;have:=this.1 q hq;simpa [om] using this
 ·have hj:j<ops.size:=(D7.1 ho).1;have:=hb j hj;simp only[ho,bI,eK,gf] at this;have:=this.2 i hi;unfold Ord at mO;rw[mO] at this;simp only[Bool.not_true,Bool.false_or,Array.any_eq_true,bI,v8] at this;obtain⟨q,hq,h1,h2⟩:=this;exact⟨o.after[q],adg hq,h1,h2.imp (λh=>lD h) id⟩
 ·rcases hp j hj i mO with((h|h)|h)|h
  ·exact .inl h
  ·exact .inr (.inl h)
  ·exact .inr (.inr (.inl h))
  ·exact .inr (.inr (.inr (by simpa using h)))
variable {e:Env} {h:ar} {b:Array Nat}
def Fits.apart(F:Fits P G R ops e h b){i j:Nat}(mO:i<j)(hj:j<ops.size)(hn:¬Ord b i j){x y:Oper}(hx:ops[i]?=aa x)(hy:ops[j]?=aa y):
 x.apart ops y=ah/\y.apart ops x=ah:=by
 rcases F.pair i j mO hj with h|h|h|⟨h,-⟩
 ·exact absurd h hn
 ·unfold Af at h;simp only[hx,hy,bI] at h;exact⟨h.1.2,h.2⟩
 ·unfold mH qF at h;simp only[hx,hy,bI] at h;exact h.1
 ·unfold qF at h;simp only[hx,hy,bI] at h;exact h
def Cx{i:Nat}{x:Oper}(hx:ops[i]?=some x):qI ops i=jU x.op:=by simp[qI,hx]
def KE{i:Nat}(hi:nf P G R ops e h i=.acts):qI ops i=.acts/\nI P G R ops e h i=aB:=by
 unfold nf at hi;split at hi
 ·cases hi
 ·rename_i hc;exact⟨hi,by simpa using hc⟩
def Fits.acts(F:Fits P G R ops e h b){i j:Nat}(mO:i<j)(hj:j<ops.size)(hi:nf P G R ops e h i=.acts)(sn:nf P G R ops e h j=.acts):Ord b i j:=by
 have hx:ops[i]?=aa ops[i]:=mV (qy mO hj);have hy:ops[j]?=aa ops[j]:=mV hj;obtain⟨hi,ci⟩:=KE hi;obtain⟨sn,cj⟩:=KE sn;rw[Cx hx] at hi;rw[Cx hy] at sn;rcases F.pair i j mO hj with h|h|h|⟨-,h⟩
 ·exact h
 ·unfold Af at h;simp only[hx,hy,bI] at h;rw[hi,sn] at h;simp[LU] at h
 ·unfold mH at h;simp only[hx,hy,bI,ft] at h;rw[hi,sn] at h;simp at h
 ·rw[ci,cj] at h;simp at h
def Fits.auU(F:Fits P G R ops e h b){i j:Nat}(mO:i<j)(hj:j<ops.size)(hn:¬Ord b i j)(hi:qI ops i=.reads)(ci:nI P G R ops e h i=aB)(sn:nf P G R ops e h j=.acts):qV P G R ops e h i (j+1)=ah:=by
 have hx:ops[i]?=aa ops[i]:=mV (qy mO hj);have hy:ops[j]?=aa ops[j]:=mV hj;obtain⟨sn,cj⟩:=KE sn;rw[Cx hx] at hi;rw[Cx hy] at sn;rcases F.pair i j mO hj with h|h|h|⟨-,h⟩
 ·exact absurd h hn
 ·unfold Af at h;simp only[hx,hy,bI] at h;rw[hi,sn] at h;simp[LU] at h
 ·unfold mH at h;simp only[hx,hy,bI,ft] at h;rw[hi,sn] at h;exact h.2
 ·rw[ci,cj] at h;simp at h
def Fits.auV(F:Fits P G R ops e h b){i j:Nat}(mO:i<j)(hj:j<ops.size)(hn:¬Ord b i j)(hi:nf P G R ops e h i=.acts)(sn:qI ops j=.reads)(cj:nI P G R ops e h j=aB):qV P G R ops e h j i=ah:=by
 have hx:ops[i]?=aa ops[i]:=mV (qy mO hj);have hy:ops[j]?=aa ops[j]:=mV hj;obtain⟨hi,ci⟩:=KE hi;rw[Cx hx] at hi;rw[Cx hy] at sn;rcases F.pair i j mO hj with h|h|h|⟨-,h⟩
 ·exact absurd h hn
 ·unfold Af at h;simp only[hx,hy,bI] at h;rw[hi,sn] at h;simp[LU] at h
 ·unfold mH at h;simp only[hx,hy,bI,ft] at h;rw[hi,sn] at h;exact h.2
 ·rw[ci,cj] at h;simp at h
def auZ{r m n:Nat}{e':Env}{h':ar}(N:dx P G R ops (bO n) e h=aa (.normal,e',h'))(hr:r<n)(hm:m<=n)(hs:qV P G R ops e h r m=ah)(hc:qI ops r=.reads):
 Reads P G R ops r (dp P G R ops e h r).1 (vY P G R ops e h r).1 (dp P G R ops e h m).2:=by
 obtain⟨-,tr,st⟩:=trace N;obtain⟨bT,-⟩:=st r hr;obtain⟨-,-,rE,-⟩:=acC hc bT;intro o ho hw;refine⟨λt a mC=>?_,λdb=>?_⟩
 ·have hold:=(rE o ho hw).1 t a mC;unfold qV at hs;rw[ho,tr r (nY hr),tr m hm] at hs;simp only[hw,mC] at hs;rw[hold] at hs;split at hs
  ·rename_i x y hx hy;injection hx with hx;subst hx;rw[Ti hs];exact hy
  ·cases hs
 ·obtain⟨t,a,mC⟩:=abh (show jU o.op=.reads by rw[<-Cx ho];exact hc);rw[mC] at db;exact absurd db (by simp[AX])
def ahi{k:Nat}:nI P G R ops e h k=ah↔AY P G R ops e h k:=by unfold nI;exact @decide_eq_true_iff _ (Classical.propDecidable _)
def VW{n k:Nat}{e':Env}{h':ar}(N:dx P G R ops (bO n) e h=aa (.normal,e',h'))(hn:n=ops.size)(hk:k<n)(hc:nI P G R ops e h k=ah):
 ∃o x,ops[k]?=aa o/\AX o.op=ah/\∀m,m<=n->eI P G R (dp P G R ops e h k).1 (dp P G R ops e h m).2 o=aa (.ret x,(dp P G R ops e h k).1,(dp P G R ops e h m).2):=by
 obtain⟨-,tr,-⟩:=trace N;obtain⟨o,x,er,hr,ho,bV,e1,eW⟩:=ahi.1 hc;refine⟨o,x,ho,bV,λm hm=>?_⟩;obtain⟨em,Dd,e2,ux⟩:=eW m ai;have q1:=tr k (nY hk);have q2:=tr m hm;rw[e1] at q1;rw[e2] at q2;injection q1 with q1;injection q2 with q2;have a1:er=(dp P G R ops e h k).1:=by have:=congrArg (λz=>z.2.1) q1;exact this
 have a2:Dd=(dp P G R ops e h m).2:=by have:=congrArg (λz=>z.2.2) q2;exact this
 rw[<-a1,<-a2];exact ux
def acE{k:Nat}{e':Env}{h':ar}(N:dx P G R ops (bO ops.size) e h=aa (.normal,e',h'))(hk:k<ops.size)(hc:nf P G R ops e h k=.reads){e1:Env}{h1:ar}{x:AV}
 (hs:lM P G R ops k (dp P G R ops e h k).1 (dp P G R ops e h k).2=aa (x,e1,h1)):
 e1=(dp P G R ops e h k).1/\h1=(dp P G R ops e h k).2/\Reads P G R ops k (dp P G R ops e h k).1 x (dp P G R ops e h k).2/\
  ∀e2 h2,(∀o,ops[k]?=aa o->Alike ops (dp P G R ops e h k).1 e2 o)->Reads P G R ops k (dp P G R ops e h k).1 x h2->lM P G R ops k e2 h2=aa (x,e2,h2):=by
 unfold nf at hc;split at hc
 ·rename_i wL;obtain⟨o,y,ho,bV,eW⟩:=VW N rfl hk wL;have h0:=eW k (nY hk);obtain⟨a1,a2,a3,a4⟩:=acA ho bV h0 hs;refine⟨a1,a2,λo' ji hw=>?_,a4⟩;rw[ho] at ji;injection ji with ji;subst ji;refine⟨λt a mC=>(by rw[mC] at bV;cases bV),λ_=>?_⟩;rw[a3 hw];exact h0
 ·exact acC hc hs
def acG{k m:Nat}{e':Env}{h':ar}(N:dx P G R ops (bO ops.size) e h=aa (.normal,e',h'))(hk:k<ops.size)(hm:m<=ops.size)(hc:nf P G R ops e h k=.reads)
 (hs:qI ops k=.reads->nI P G R ops e h k=aB->qV P G R ops e h k m=ah):
 Reads P G R ops k (dp P G R ops e h k).1 (vY P G R ops e h k).1 (dp P G R ops e h m).2:=by
 by_cases wL:nI P G R ops e h k=ah
 ·obtain⟨-,tr,st⟩:=trace N;obtain⟨bT,-⟩:=st k hk;obtain⟨o,y,ho,bV,eW⟩:=VW N rfl hk wL;obtain⟨-,-,a3,-⟩:=acA ho bV (eW k (nY hk)) bT;intro o' ji hw;rw[ho] at ji;injection ji with ji;subst ji;refine⟨λt a mC=>(by rw[mC] at bV;cases bV),λ_=>?_⟩;rw[a3 hw];exact eW m hm
 ·have wL:nI P G R ops e h k=aB:=by simpa using wL
  have hc:qI ops k=.reads:=by unfold nf at hc;rw[wL] at hc;simpa using hc
  exact auZ N hk hm (hs hc wL) hc
def Wi{k:Nat}(hc:nf P G R ops e h k=.pure):qI ops k=.pure:=by
 unfold nf at hc;split at hc
 ·cases hc
 ·exact hc
structure Inv(P:bL)(G:Nat->Option (List AV))(R:Rec)(ops:Array Oper)(e:Env)(h:ar)(b:Array Nat)(S:Nat->Bool)(e1:Env)(h1:ar):Prop where
 closed:∀i j,i<ops.size->j<ops.size->S j=ah->Ord b i j->S i=ah
 iT:∀t,e1.get t=val P G R ops e h S ops.size t
 round:e1.round=e.round
 mem:∃m,m<=ops.size/\e1.defers=(dp P G R ops e h m).1.defers/\e1.dg=(dp P G R ops e h m).1.dg/\h1=(dp P G R ops e h m).2/\
  (∀a,a<m->nf P G R ops e h a=.acts->S a=ah)/\∀a,m<=a->a<ops.size->nf P G R ops e h a=.acts->S a=aB
variable {e':Env} {h':ar}
def TK(N:dx P G R ops (bO ops.size) e h=aa (.normal,e',h'))(t:Nat):∀k,k<=ops.size->(dp P G R ops e h k).1.get t=val P G R ops e h (λ_=>ah) k t:=by
 obtain⟨-,tr,st⟩:=trace N;intro k
 induction k with
 |zero=>intro _;have:=tr 0 (cD _);simp only[aea,dx,eg,dF,true_and] at this;rw[<-this.1];rfl|succ k ih=>
  intro hk;obtain⟨hs,hn⟩:=st k hk;rw[hn,SA];simp only[val,true_and];split
  ·rfl
  ·rw[<-ih (nY hk)];have:=(Tv (e2:=e) hs).1;rw[this];rfl
def acW(N:dx P G R ops (bO ops.size) e h=aa (.normal,e',h')):∀k,k<=ops.size->(dp P G R ops e h k).1.round=e.round:=by
 obtain⟨-,tr,st⟩:=trace N;intro k
 induction k with
 |zero=>intro _;have:=tr 0 (cD _);simp only[aea,dx,eg,dF,true_and] at this;rw[<-this.1]|succ k ih=>intro hk;obtain⟨hs,hn⟩:=st k hk;rw[hn,(xj _ _ _).2.2,(Tv (e2:=e) hs).1];exact ih (nY hk)
def ahm(N:dx P G R ops (bO ops.size) e h=aa (.normal,e',h')){k:Nat}(hk:k<ops.size)(hc:nf P G R ops e h k≠ .acts):
 (dp P G R ops e h (k+1)).1.defers=(dp P G R ops e h k).1.defers/\(dp P G R ops e h (k+1)).1.dg=(dp P G R ops e h k).1.dg/\(dp P G R ops e h (k+1)).2=(dp P G R ops e h k).2:=by
 obtain⟨-,tr,st⟩:=trace N;obtain⟨hs,hn⟩:=st k hk;have key:(vY P G R ops e h k).2=(dp P G R ops e h k).1/\(dp P G R ops e h (k+1)).2=(dp P G R ops e h k).2:=by
  cases hq:nf P G R ops e h k with
  |pure=>obtain⟨h1,h2,-⟩:=Tw (Wi hq) hs;exact⟨h1,h2⟩
  |reads=>obtain⟨h1,h2,-⟩:=acE N hk hq hs;exact⟨h1,h2⟩
  |acts=>exact absurd hq hc
 rw[hn,(xj _ _ _).1,(xj _ _ _).2.1,key.1];exact⟨rfl,rfl,key.2⟩
def MU(N:dx P G R ops (bO ops.size) e h=aa (.normal,e',h')){m:Nat}:∀k,m<=k->k<=ops.size->
 ((dp P G R ops e h m).1.defers=(dp P G R ops e h k).1.defers/\(dp P G R ops e h m).1.dg=(dp P G R ops e h k).1.dg/\(dp P G R ops e h m).2=(dp P G R ops e h k).2)∨
 (∃a,m<=a/\a<k/\nf P G R ops e h a=.acts/\(dp P G R ops e h m).2=(dp P G R ops e h a).2)/\∃a,m<=a/\a<k/\nf P G R ops e h a=.acts/\(dp P G R ops e h (a+1)).2=(dp P G R ops e h k).2:=by
 intro k
 induction k with
 |zero=>intro hm _;have:m=0:=Of.1 hm;subst this;exact .inl ⟨rfl,rfl,rfl⟩|succ k ih=>
  intro hm hk;rcases ez k m with aC|eF
  ·have:m=k+1:=Cg hm aC;subst this;exact .inl ⟨rfl,rfl,rfl⟩
  ·have C9:k<=ops.size:=nY hk;by_cases hc:nf P G R ops e h k=.acts
   ·refine .inr ⟨?_,k,eF,Og k,hc,rfl⟩;rcases ih eF C9 with h1|⟨⟨a,h1,h2,h3,h4⟩,-⟩
    ·exact⟨k,eF,Og k,hc,h1.2.2⟩
    ·exact⟨a,h1,xD h2,h3,h4⟩
   ·obtain⟨c1,c2,c3⟩:=ahm N hk hc;rcases ih eF C9 with h1|⟨⟨a,h1,h2,h3,h4⟩,a2,g1,g2,g3,g4⟩
    ·exact .inl ⟨h1.1.trans c1.symm,h1.2.1.trans c2.symm,h1.2.2.trans c3.symm⟩
    ·exact .inr ⟨⟨a,h1,xD h2,h3,h4⟩,a2,g1,xD g2,g3,g4.trans c3.symm⟩
def val_congr{S S':Nat->Bool}{t:Nat}:∀k,(∀w,w<k->nK ops w=aa t->S w=S' w)->val P G R ops e h S k t=val P G R ops e h S' k t:=by
 intro k
 induction k with
 |zero=>intro _;rfl|succ k ih=>
  intro hw;simp only[val];rw[ih λw hwk hd=>hw w (xD hwk) hd];by_cases hd:nK ops k=aa t
  ·rw[hw k (Og k) hd]
  ·simp[hd]
def Nn{S:Nat->Bool}{t k:Nat}:∀n,k<=n->(∀w,k<=w->w<n->nK ops w=aa t->S w=aB)->val P G R ops e h S n t=val P G R ops e h S k t:=by
 intro n
 induction n with
 |zero=>intro hk _;rw[Of.1 hk]|succ n ih=>
  intro hk hw;rcases ez n k with aC|eF
  ·rw[Cg hk aC]
  ·simp only[val];rw[aJ λhq=>by have:=hw n eF (Og n) hq.2;rw[hq.1] at this;cases this];exact ih eF λw h1 h2 h3=>hw w h1 (xD h2) h3
def Cy{i:Nat}{x:Oper}(hx:ops[i]?=aa x):nK ops i=x.dst:=by simp[nK,hx]
def Fits.awO(F:Fits P G R ops e h b){i j t:Nat}(mO:i<j)(hj:j<ops.size)(hi:nK ops i=aa t)(vx:nK ops j=aa t):Ord b i j:=by refine Classical.byContradiction λhn=>?_;have hx:ops[i]?=aa ops[i]:=mV (qy mO hj);have hy:ops[j]?=aa ops[j]:=mV hj;have ha:=(Oper.apart_spec (F.apart mO hj hn hx hy).1).2.1;rw[Cy hx] at hi;rw[Cy hy] at vx;exact ha t hi vx
def Fits.looks(F:Fits P G R ops e h b){i j t:Nat}(mO:i<j)(hj:j<ops.size){x y:Oper}(hx:ops[i]?=aa x)(hy:ops[j]?=aa y)
 (hl:(x.dst=aa t/\t∈y.looksAt ops)∨(y.dst=aa t/\t∈x.looksAt ops)):Ord b i j:=by
 refine Classical.byContradiction λhn=>?_;have ha:=Oper.apart_spec (F.apart mO hj hn hx hy).1;rcases hl with⟨h1,h2⟩|⟨h1,h2⟩
 ·exact ha.1 t h1 h2
 ·exact ha.2.2 t h1 h2
def p7(ops:Array Oper)(S:Nat->Bool)(k:Nat):Prop:=∀o,ops[k]?=aa o->∀ed∈o.after,Region.binds .any ed=ah->S ed.on=ah
def eD(S:Nat->Bool)(k:Nat):Nat->Bool:=λj=>if j=k then ah else S j
def next(N:dx P G R ops (bO ops.size) e h=aa (.normal,e',h'))(F:Fits P G R ops e h b){S:Nat->Bool}{e1:Env}{h1:ar}(I:Inv P G R ops e h b S e1 h1){k:Nat}(hk:k<ops.size)
 (hu:S k=aB) (hr:p7 ops S k):∃x e2 h2,lM P G R ops k e1 h1=aa (x,e2,h2)/\Inv P G R ops e h b (eD S k) (e2.put (nK ops k) x) h2:=by
 obtain⟨-,tr,st⟩:=trace N;have ho:ops[k]?=aa ops[k]:=mV hk;have ahead:∀i,i<ops.size->Ord b i k->S i=ah:=by
  intro i hi zK;obtain⟨ed,fT,om,hq⟩:=F.bits k i _ ho hi zK;have hs:=hr _ ho ed fT om;have aC:=F.KI k _ ho ed fT om;rcases hq with rfl|hq
  ·exact hs
  ·exact I.closed i ed.on hi (qy aC hk) hs hq
 have alike:∀o,ops[k]?=aa o->Alike ops (dp P G R ops e h k).1 e1 o:=by
  intro o ji t ht;rw[ho] at ji;injection ji with ji;subst ji;rw[I.iT t,TK N t k (nY hk),Nn (k:=k) ops.size (nY hk)]
  ·refine val_congr k λw hw hd=>?_;have hx:ops[w]?=aa ops[w]:=mV (qy hw hk);rw[Cy hx] at hd;exact(ahead w (qy hw hk) (F.looks hw hk hx ho (.inl ⟨hd,ht⟩))).symm
  ·intro w Fq hw hd;rcases ez k w with aC|eF
   ·cases hq:S w with|false=>rfl|true=>have hx:ops[w]?=aa ops[w]:=mV hw;rw[Cy hx] at hd;have:=I.closed k w hk hw hq (F.looks aC hw ho hx (.inr ⟨hd,ht⟩));rw[hu] at this;cases this
   ·rw[Cg eF Fq,hu]
 obtain⟨hs,hn⟩:=st k hk;obtain⟨m,hm,hd,hp,hh,vp,qb⟩:=I.mem;have closed':∀i j,i<ops.size->j<ops.size->eD S k j=ah->Ord b i j->eD S k i=ah:=by
  intro i j hi hj Q9 mO;unfold eD at Q9 ⊢;by_cases zK:i=k
  ·rw[aH zK]
  ·rw[aJ zK];by_cases Bn:j=k
   ·subst Bn;exact ahead i hi mO
   ·rw[aJ Bn] at Q9;exact I.closed i j hi hj Q9 mO
 have slots':∀(e2:Env),(∀t,e2.get t=e1.get t)->∀t,(e2.put (nK ops k) (vY P G R ops e h k).1).get t=val P G R ops e h (eD S k) ops.size t:=by
  intro e2 jN t;rw[SA];by_cases CX:nK ops k=aa t
  ·rw[aH CX,Nn (k:=k+1) ops.size hk]
   ·simp[val,eD,CX]
   ·intro w Fq hw Ie;have bG:w≠k:=λhq=>absurd Fq (by rw[hq];exact aet k);simp only[eD,aJ bG];cases hq:S w with|false=>rfl|true=>have:=I.closed k w hk hw hq (F.awO Fq hw CX Ie);rw[hu] at this;cases this
  ·rw[aJ CX,jN,I.iT t];refine val_congr _ λw _ Ie=>?_;have bG:w≠k:=λhq=>CX (hq ▸ Ie);simp only[eD,aJ bG]
 by_cases hc:nf P G R ops e h k=.acts
 ·-- it acts
  have Iq:m<=k:=by
   rcases ez k m with aC|eF
   ·have:=vp k aC hc;rw[hu] at this;cases this
   ·exact eF
  have same:=MU N k Iq (nY hk);have same:(dp P G R ops e h m).1.defers=(dp P G R ops e h k).1.defers/\(dp P G R ops e h m).1.dg=(dp P G R ops e h k).1.dg/\(dp P G R ops e h m).2=(dp P G R ops e h k).2:=by
   rcases same with h1|⟨⟨a,g1,g2,g3,-⟩,-⟩
   ·exact h1
   ·have h1:=qb a g1 (qy g2 hk) g3;rw[ahead a (qy g2 hk) (F.acts g2 hk g3 hc)] at h1;cases h1
  have oO:=(Tv (e2:=e1) hs).2 alike (hd.trans same.1) (hp.trans same.2.1) (by rw[I.round,acW N k (nY hk)]);rw[<-same.2.2,<-hh] at oO;refine⟨_,_,_,oO,closed',slots' _ (λt=>rfl),?_,k+1,hk,?_,?_,rfl,?_,?_⟩
  ·rw[(xj _ _ _).2.2];exact I.round
  ·rw[(xj _ _ _).1,hn,(xj _ _ _).1];rfl
  ·rw[(xj _ _ _).2.1,hn,(xj _ _ _).2.1];rfl
  ·intro a CP Bg;unfold eD;by_cases hq:a=k
   ·rw[aH hq]
   ·rw[aJ hq];have aC:a<k:=aen (Ch.1 CP) hq;exact ahead a (qy aC hk) (F.acts aC hk Bg hc)
  ·intro a Da ha Bg;have hq:a≠k:=λhq=>absurd Da (by rw[hq];exact aet k);unfold eD;rw[aJ hq];exact qb a (fG Iq (nY Da)) ha Bg
 ·-- it does not
  have mem':∀e2:Env,e2.defers=e1.defers->e2.dg=e1.dg->∃m,m<=ops.size/\e2.defers=(dp P G R ops e h m).1.defers/\e2.dg=(dp P G R ops e h m).1.dg/\h1=(dp P G R ops e h m).2/\
   (∀a,a<m->nf P G R ops e h a=.acts->eD S k a=ah)/\∀a,m<=a->a<ops.size->nf P G R ops e h a=.acts->eD S k a=aB:=by
   intro e2 E9 yb;refine⟨m,hm,E9.trans hd,yb.trans hp,hh,λa ham Bg=>?_,λa Lm ha Bg=>?_⟩
   ·unfold eD;by_cases hq:a=k
    ·rw[aH hq]
    ·rw[aJ hq];exact vp a ham Bg
   ·have hq:a≠k:=λhq=>hc (hq ▸ Bg);unfold eD;rw[aJ hq];exact qb a Lm ha Bg
  have fin:∀x,x=(vY P G R ops e h k).1->lM P G R ops k e1 h1=aa (x,e1,h1)->∃x e2 h2,lM P G R ops k e1 h1=aa (x,e2,h2)/\Inv P G R ops e h b (eD S k) (e2.put (nK ops k) x) h2:=by intro x hx oO;subst hx;refine⟨_,_,_,oO,closed',slots' _ (λt=>rfl),?_,mem' _ (xj _ _ _).1 (xj _ _ _).2.1⟩;rw[(xj _ _ _).2.2];exact I.round
  cases db:nf P G R ops e h k with
  |acts=>exact absurd db hc|pure=>obtain⟨-,-,eW⟩:=Tw (Wi db) hs;exact fin _ rfl (eW e1 h1 alike)
  |reads=>
   obtain⟨-,-,rE,eW⟩:=acE N hk db hs;refine fin _ rfl (eW e1 h1 alike ?_);rw[hh];rcases ez k m with aC|eF
   ·rcases MU N (m:=k) m (nY aC) hm with hq|⟨-,a,g1,g2,g3,g4⟩
    ·rw[<-hq.2.2];exact rE
    ·have CP:k<a:=aen g1 λhq=>hc (hq ▸ g3);have zD:a<ops.size:=nE g2 hm;have jq:¬Ord b k a:=λhq=>(by have:=I.closed k a hk zD (vp a g2 g3) hq;rw[hu] at this;cases this);rw[<-g4];exact acG N hk zD db λq1 q2=>F.auU CP zD jq q1 q2 g3
   ·rcases MU N (m:=m) k eF (nY hk) with hq|⟨⟨a,g1,g2,g3,g4⟩,-⟩
    ·rw[hq.2.2];exact rE
    ·have zD:a<ops.size:=qy g2 hk;have jq:¬Ord b a k:=λhq=>(by have h1:=ahead a zD hq;rw[qb a g1 zD g3] at h1;cases h1);rw[g4];exact acG N hk (nY zD) db λq1 q2=>F.auV g2 hk jq g3 q1 q2
def Rn(N:dx P G R ops (bO ops.size) e h=aa (.normal,e',h')):Inv P G R ops e h b (λ_=>aB) e h:=by
 have h0:dp P G R ops e h 0=(e,h):=by simp[dp,dx]
 refine⟨λ_ _ _ _ h=>absurd h bJ,λt=>?_,rfl,0,cD _,by rw[h0],by rw[h0],by rw[h0],λa ha=>absurd ha (ud a),λ_ _ _ _=>rfl⟩;rw[Nn (k:=0) ops.size (cD _) (λ_ _ _ _=>rfl)];rfl
structure p8(e e2:Env):Prop where
 iT:∀t,e.get t=e2.get t
 defers:e.defers=e2.defers
 dg:e.dg=e2.dg
 round:e.round=e2.round
def amw(N:dx P G R ops (bO ops.size) e h=aa (.normal,e',h')){S:Nat->Bool}{e1:Env}{h1:ar}(I:Inv P G R ops e h b S e1 h1)(eW:∀i,i<ops.size->S i=ah):p8 e1 e'/\h1=h':=by
 obtain⟨t0,tr,st⟩:=trace N;have he:e'=(dp P G R ops e h ops.size).1:=by rw[<-t0]
 have hh:h'=(dp P G R ops e h ops.size).2:=by rw[<-t0]
 obtain⟨m,hm,hd,hp,qN,vp,qb⟩:=I.mem;have same:=MU N ops.size hm (aL _);have same:(dp P G R ops e h m).1.defers=(dp P G R ops e h ops.size).1.defers/\(dp P G R ops e h m).1.dg=(dp P G R ops e h ops.size).1.dg/\(dp P G R ops e h m).2=(dp P G R ops e h ops.size).2:=by
  rcases same with h1|⟨⟨a,g1,g2,g3,-⟩,-⟩
  ·exact h1
  ·have h1:=qb a g1 g2 g3;rw[eW a g2] at h1;cases h1
 refine⟨⟨λt=>?_,?_,?_,?_⟩,?_⟩
 ·rw[I.iT t,he,TK N t ops.size (aL _)];exact val_congr _ λw hw _=>eW w hw
 ·rw[hd,same.1,he]
 ·rw[hp,same.2.1,he]
 ·rw[I.round,he,acW N ops.size (aL _)]
 ·rw[qN,same.2.2,hh]
def aiA{α:Type}{p q}{a}:∀{l:List α},(∀x∈l,q x=true->p x=true)->a∈l->p a=true->q a=false->l.countP q<l.countP p:=by
 intro l
 induction l with
 |nil=>intro _ ha;cases ha
 |cons x l ih=>
  intro hm ha hp hq;have eX:l.countP q<=l.countP p:=List.countP_mono_left λy hy=>hm y (fM _ hy);rcases iU.1 ha with rfl|ha
  ·rw[adO (by simp[hq]),Ur hp];exact Nat.lt_succ_of_le eX
  ·have:=ih (λy hy=>hm y (fM _ hy)) ha hp hq;by_cases QW:q x=ah
   ·rw[Ur QW,Ur (hm x gq QW)];exact Nat.succ_lt_succ this
   ·rw[adO QW];exact nE this (by rw[List.countP_cons];exact Nat.le_add_right _ _)
def o8(ops:Array Oper):(Nat->Bool)->List Nat->Prop
 |S,[]=>∀i,i<ops.size->S i=ah
 |S,k::L=>k<ops.size/\S k=aB/\p7 ops S k/\o8 ops (eD S k) L
def RI(N:dx P G R ops (bO ops.size) e h=aa (.normal,e',h'))(F:Fits P G R ops e h b):∀(L:List Nat) (S:Nat->Bool) (e1:Env) (h1:ar),Inv P G R ops e h b S e1 h1->o8 ops S L->
 ∃e2,dx P G R ops L e1 h1=aa (.normal,e2,h')/\p8 e2 e':=by
 intro L
 induction L with
 |nil=>intro S e1 h1 I hL;obtain⟨hs,rfl⟩:=amw N I hL;exact⟨e1,by simp[dx],hs⟩
 |cons k L ih=>
  intro S e1 h1 I hL;obtain⟨hk,hu,hr,hL⟩:=hL;obtain⟨x,e2,h2,hs,I'⟩:=next N F I hk hu hr
  obtain⟨e3,oO,jy⟩:=ih _ _ _ I' hL;exact⟨e3,rK.2 ⟨x,e2,h2,hs,oO⟩,jy⟩
def As(ops:Array Oper):Prop:=∀(j:Nat) (o:Oper),ops[j]?=aa o->∀ed∈o.after,Region.binds .any ed=ah->ed.on<j
def ang(hB:As ops):∀(fuel t:Nat) (jt:Array Bool),jt.size=ops.size->
 (bO ops.size).countP (λj=> !jt.getD j aB)<=fuel->o8 ops (λj=>jt.getD j aB) (Region.linearise.go .any ops fuel t jt []):=by
 intro fuel
 induction fuel with
 |zero=>
  intro t jt dP P1;have eW:∀i,i<ops.size->jt.getD i aB=ah:=by intro i hi;have:=List.countP_eq_zero.1 (Of.1 P1) i (gf.2 hi);simpa using this
  simp only[Region.linearise.go,aec];exact eW
 |succ fuel ih=>
  intro t jt dP P1;have YD:∀i,i<ops.size->jt.getD i ah=jt.getD i aB:=by intro i hi;have:i<jt.size:=(by omega);simp[this]
  simp only[Region.linearise.go];change o8 ops _ (match (Region.ready .any ops jt)[t%(Region.ready .any ops jt).length]? with
   |some i=>Region.linearise.go .any ops fuel (t/(Region.ready .any ops jt).length) (jt.setIfInBounds i ah) [i]
   |none=>[].reverse)
  have ready_of:∀i,i∈Region.ready .any ops jt↔i<ops.size/\jt.getD i aB=aB/\p7 ops (λj=>jt.getD j aB) i:=by
   intro i;unfold Region.ready;rw[we,gf];constructor
   ·rintro⟨hi,hq⟩;rw[bI] at hq;obtain⟨qj,oR⟩:=hq;rw[YD i hi] at qj;refine⟨hi,by simpa using qj,λo ho ed fT om=>?_⟩;rw[ho] at oR;simp only[ft,Kk,Gy] at oR;obtain⟨q,hq,rfl⟩:=adh fT;have:=oR q hq;simpa [om] using this
   ·rintro⟨hi,hq,hr⟩;refine⟨hi,?_⟩;rw[bI];refine⟨by rw[YD i hi];simp[hq],?_⟩;have ho:ops[i]?=aa ops[i]:=mV hi;rw[ho];simp only[ft,Kk,Gy];intro q hq;cases hb:Region.binds .any ops[i].after[q] with|false=>rfl|true=>simpa using hr _ ho _ (adg hq) hb
  cases hi:(Region.ready .any ops jt)[t%(Region.ready .any ops jt).length]? with
  |none=>
   have qi:Region.ready .any ops jt=[]:=by
    cases hr:Region.ready .any ops jt with|nil=>rfl|cons x xs=>rw[hr] at hi;have aC:t%(x::xs).length<(x::xs).length:=Nat.mod_lt _ bJ;simp at hi;simp at aC;omega
   have eW:∀i,i<ops.size->jt.getD i aB=ah:=by
    intro i
    induction i using Nat.strongRecOn with
    |_ i ihi=>
     intro hi;cases hq:jt.getD i aB with|true=>rfl|false=>have:i∈Region.ready .any ops jt:=(ready_of i).2 ⟨hi,hq,λo ho ed fT om=>by have aC:=hB i o ho ed fT om;exact ihi ed.on aC (qy aC hi)⟩;rw[qi] at this;cases this
   simp only[aec];exact eW
  |some i=>
   simp only[];have qN:=(ready_of i).1 (dy hi);obtain⟨iO,Dq,rE⟩:=qN;have Qc:(λj=>(jt.setIfInBounds i ah).getD j aB)=eD (λj=>jt.getD j aB) i:=by
    funext j;unfold eD;have cY:i<jt.size:=(by omega);by_cases hq:j=i
    ·subst hq;rw[aH rfl];simp[NA,cY]
    ·rw[aJ hq];simp[NA,Ne.symm hq]
   have oO:=ih (t/(Region.ready .any ops jt).length) (jt.setIfInBounds i ah) (by simpa using dP) (by
    refine Ch.1 (nE (aiA (a:=i) (p:=λj=> !jt.getD j aB) ?_ (gf.2 iO) (by simp only[Dq];rfl) ?_) P1)
    ·intro j _ hj;have this:(jt.setIfInBounds i ah).getD j aB=eD (λj=>jt.getD j aB) i j:=congrFun Qc j;rw[this] at hj;unfold eD at hj;split at hj
     ·cases hj
     ·exact hj
    ·have this:(jt.setIfInBounds i ah).getD i aB=eD (λj=>jt.getD j aB) i i:=congrFun Qc i;rw[this];simp[eD])
   rw[linearise_go_acc,List.reverse_singleton,List.singleton_append];refine⟨iO,Dq,rE,?_⟩;rw[<-Qc];exact oO
def aqw(n):(λj=>(Eb n aB).getD j aB)=λ_=>aB:=by funext j;rw[Array.getD_eq_getD_getElem?,Array.getElem?_replicate];split<;>rfl
def aad(hB:As ops)(t:Nat):o8 ops (λ_=>aB) (Region.linearise .any ops t):=by unfold Region.linearise;have:=ang hB ops.size t (Eb ops.size aB) bJ (fG List.countP_le_length bJ);rw[aqw] at this;exact this
def WZ{e:Env}{h:ar}(hf:ng P G R ops e h=ah):As ops:=λj o ho ed fT hb=>(zw hf).KI j o ho ed fT hb
def ai9(N:dx P G R ops (bO ops.size) e h=aa (.normal,e',h'))(hf:ng P G R ops e h=ah)(t:Nat):
 ∃e2,dx P G R ops (Region.linearise .any ops t) e h=aa (.normal,e2,h')/\p8 e2 e':=
 RI N (zw hf) _ _ _ _ (Rn N) (aad (WZ hf) t)
end
end Go.AE
end
section
namespace Go.AE
open Go.RowKit (Below)
structure a8.axc(K K':a8):Prop where
 base:K'.base=K.base
 ic:∀g j c,K.ic g j=aa c->K'.ic g j=aa c
 β:∀b g:Nat,K.β[b]?=aa g->K'.β[b]?=aa g
 γ:∀l g:Nat,K.γ[l]?=aa g->K'.γ[l]?=aa g
 tn:K.tn<=K'.tn
 tk:∀t,t<K.tn->K'.tk t=K.tk t
def a8.un(K:a8)(r:Nat):a8:={K with md:=K.md.filter (· !=r)}
def xJ.un{K}{r}{k}{g off sz n aF}(h:xJ K k g off sz n aF):xJ (K.un r) k g off sz n aF:=h
mutual
def a9.un{K:a8}{r:Nat}:∀{x:AV} {c:aT},a9 K x c->a9 (K.un r) x c
 |_,_,.bad c=>.bad c
 |_,_,.v x hx=>.v x hx
 |_,_,.nil sz=>.nil sz
 |_,_,.jH sz a=>.jH sz a
 |_,_,.list k sz es g off n aF cells hn hr hv hc ht ha=>.list k sz es g off n aF cells hn hr (aV.un hv) hc ht ha
 |_,_,.arr b g off len aF fP iX hb hl hc ho hr=>.arr b g off len aF fP iX hb hl hc ho hr
 |_,_,.agg cs vs hv=>.agg cs vs (aV.un hv)
 |_,_,.tuple cs vs hv=>.tuple cs vs (aV.un hv)
 |_,_,.box b g off hb=>.box b g off hb
 |_,_,.fb g off=>.fb g off
 |_,_,.elem sz es i off g o p cells hr hv hc hi hp ha=>.elem sz es i off g o p cells hr (aV.un hv) hc hi hp ha
 |_,_,.func fn first aF fs cs h1 h2=>.func fn first aF fs cs (aV.un h1) (aV.un h2)
 |_,_,.yield l g hl=>.yield l g hl
 |_,_,.iface t x c hx=>.iface t x c (a9.un hx)
def aV.un{K:a8}{r:Nat}:∀{xs:List AV} {cs:List aT},aV K xs cs->aV (K.un r) xs cs
 |_,_,.nil=>.nil
 |_,_,.cons x c xs cs hx hs=>.cons x c xs cs (a9.un hx) (aV.un hs)
end
def rU.un{K}{r}{ds cds ms}(h:rU K ds cds ms)(hr:r∉ms):rU (K.un r) ds cds ms:=by
 induction h with
 |nil=>exact .nil|call g args vs aF ds cds ms hv _ ih=>exact .call g args vs aF ds cds ms (aV.un hv) (ih hr)|mark r' ds cds ms gI hn _ ih=>have bG:r'≠r:=λhq=>hr (hq ▸ gq);exact .mark r' ds cds ms (by unfold a8.un;exact we.2 ⟨gI,by simpa using bG⟩) hn (ih λhq=>hr (fM _ hq))
def rU.sub{K}{ds cds ms}(h:rU K ds cds ms):∀r∈ms,r∈K.md:=by
 induction h with
 |nil=>intro r hr;cases hr
 |call g args vs aF ds cds ms hv _ ih=>exact ih|mark r' ds cds ms gI hn _ ih=>
  intro r hr;rcases iU.1 hr with rfl|hr
  ·exact gI
  ·exact ih r hr
def CS.un{K}{r}{kind base p cs}(h:CS K kind base p cs):CS (K.un r) kind base p cs:=by
 cases h with|normal h=>exact .normal h|ret c0 rest hk hb hm=>exact .ret c0 rest hk hb hm|dg c0 rest x v r hk hb hx=>exact .dg c0 rest x v r hk hb (a9.un hx)
def amW{K K':a8}{r}(le:K.Le K')(hr:r∉K.md):K.Le (K'.un r):=
 ⟨le.base,le.ic,le.β,le.γ,le.tn,le.tk,λr' gI=>by unfold a8.un;exact we.2 ⟨le.md r' gI,by have:r'≠r:=λhq=>hr (hq ▸ gI);simpa using this⟩,le.lb,le.new⟩
section
variable {K:a8} {G:Nat->Option (List AV)} {ok:bq->Nat->Code->Bool} {w0 w:cG} {h:ar}
def abc{g:Nat}{o:Obj}(hg:g<w.heap.size):uY w (w.putObj g o) g o:=
 ⟨rfl,rfl,rfl,World.putObj_size,λ_ hk=>World.putObj_heap_other hk,World.putObj_heap_same hg⟩
def b9.drop(s:b9 K G ok w0 h w){r:Nat}(hr:r∈K.md)(o:Obj)(ho:∀cells e f,o≠ .cells cells e f):b9 (K.un r) G ok w0 h (w.putObj r o):=by
 obtain⟨hb,hm⟩:=s.md r hr;have aC:=pO hm;have c:=abc (o:=o) aC;have oN:∀{g:Nat} {cells:Array aT} {e:aP} {f:Nat × Nat},w.heap[g]?=aa (.cells cells e f)->g≠r:=by rintro g cells e f hg rfl;rw[hm] at hg;cases hg
 refine⟨s.dw.trans (c.below hb),by rw[c.size];exact s.size,λg j x hx=>?_,λg cs hg=>?_,s.my,s.rf,λb g cs iM hc=>?_,s.o5,s.rR,λl g rr hl mP=>?_,s.tn,λt ht=>?_,s.qX,λr' gI=>?_,s.all⟩
 ·have rz:=s.ic g j x hx;have bG:g≠r:=by rintro rfl;simp[World.cell?,hm] at rz
  rw[<-rz];exact World.cell?_of_block (w:=w) (c.other g bG)
 ·obtain⟨cells,h1,h2⟩:=s.fb g cs hg;exact⟨cells,aV.un h1,h2⟩
 ·obtain⟨h1,h2,ha,cells,e,h3,h4⟩:=s.box b g cs iM hc;exact⟨h1,h2,ha,cells,e,(c.other g (oN h3)).trans h3,aV.un h4.1,h4.2⟩
 ·obtain⟨h1,fn,tmps,d,h2,h3,h4⟩:=s.loop l g rr hl mP;have bG:g≠r:=by rintro rfl;rw[hm] at h2;cases h2
  exact⟨h1,fn,tmps,d,(c.other g bG).trans h2,λt=>a9.un (h3 t),h4⟩
 ·obtain⟨h1,h2,h3,cells,e,fz,h4,h5,h6⟩:=s.tok t ht;refine⟨h1,h2,h3,cells,e,fz,(c.other _ (oN h4)).trans h4,h5,λj hj hl=>?_⟩;rw[<-h6 j hj hl];exact World.frozen?_of_block (w:=w) (c.other _ (oN h4))
 ·obtain⟨h1,h2⟩:=we.1 gI;have bG:r'≠r:=by simpa using h2
  obtain⟨h3,h4⟩:=s.md r' h1;exact⟨h3,(c.other r' bG).trans h4⟩
def a8.mark(K:a8)(r:Nat):a8:={K with md:=r::K.md}
def a8.Z7(K:a8)(r):K.Le (K.mark r):=
 ⟨rfl,λ_ _ _ h=>h,λ_ _ h=>h,λ_ _ h=>h,aL _,λ_ _=>rfl,λ_ h=>fM _ h,λ_ _=>rfl,λ_ _ _ h=>.inl h⟩
def b9.anZ(s:b9 K G ok w0 h w):b9 (K.mark w.heap.size) G ok w0 h (w.alloc (.deferred (aa []))):=by
 have le:=K.Z7 w.heap.size;have p:=s.push (.deferred (aa []));refine⟨p.dw,p.size,p.ic,λg cs hg=>?_,p.my,p.rf,λb g cs hb hc=>?_,p.o5,p.rR,λl g r hl hr=>?_,p.tn,p.tok,p.qX,λr hr=>?_,s.all⟩
 ·obtain⟨cells,h1,h2⟩:=s.fb g cs hg;exact⟨cells,h1.mono le,h2⟩
 ·obtain⟨h1,h2,ha,cells,e,h3,h4⟩:=p.box b g cs hb hc;exact⟨h1,h2,ha,cells,e,h3,h4.mono le (aW.1 hb).1⟩
 ·obtain⟨h1,fn,tmps,d,h2,h3,h4⟩:=p.loop l g r hl hr;exact⟨h1,fn,tmps,d,h2,h3.mono le,h4⟩
 ·rcases iU.1 hr with rfl|hr
  ·exact⟨s.size,World.alloc_heap_new w _⟩
  ·exact p.md r hr
def a8.loop(K:a8)(g:Nat):a8:={K with γ:=K.γ++[g]}
def a8.Rz(K:a8)(g):K.Le (K.loop g):=
 ⟨rfl,λ_ _ _ h=>h,λ_ _ h=>h,λ_ _ h=>wD h,aL _,λ_ _=>rfl,λ_ h=>h,λ_ _=>rfl,λ_ _ _ h=>.inl h⟩
def b9.aau(s:b9 K G ok w0 h w){r:iW}{fn:bq}{tmps:Array aT}(d:Nat)(hs:mZ K r.tmps tmps)(h1:ok fn tmps.size r.assign=ah)(h2:ok fn tmps.size r.body=ah)(h3:∀p∈r.params.toList,p<tmps.size):
 b9 (K.loop w.heap.size) G ok w0 {h with loops:=h.loops++[r]} (w.alloc (.loop {state:=r.state,pending:=r.pending,fn,tmps,params:=r.params,assign:=r.assign,body:=r.body,defers:=d}))/\
 (K.loop w.heap.size).γ[h.loops.length]?=aa w.heap.size:=by
 have le:=K.Rz w.heap.size;have p:=s.push (.loop {state:=r.state,pending:=r.pending,fn,tmps,params:=r.params,assign:=r.assign,body:=r.body,defers:=d});have mD:(K.loop w.heap.size).γ[h.loops.length]?=aa w.heap.size:=by simp[a8.loop,<-s.o5]
 have aC:∀{l g:Nat},K.γ[l]?=aa g->g<w.heap.size:=λ{l g} hl=>by
  have dG:l<h.loops.length:=by rw[<-s.o5];exact(aW.1 hl).1
  obtain⟨_,_,_,_,h3,_⟩:=s.loop l g _ hl (aU dG);exact pO h3
 refine⟨⟨p.dw,p.size,p.ic,λg cs hg=>?_,p.my,p.rf,λb g cs hb hc=>?_,by simp[a8.loop,s.o5],λl l' g hl tG=>?_,λl g r' hl hr=>?_,p.tn,p.tok,p.qX,p.md,s.all⟩,mD⟩
 ·obtain⟨cells,h1,h2⟩:=s.fb g cs hg;exact⟨cells,h1.mono le,h2⟩
 ·obtain⟨h1,h2,ha,cells,e,h3,h4⟩:=p.box b g cs hb hc;exact⟨h1,h2,ha,cells,e,h3,h4.mono le (aW.1 hb).1⟩
 ·rcases tC hl with hb|⟨rfl,rfl⟩<;>rcases tC tG with iM|⟨rfl,h2⟩
  ·exact s.rR _ _ _ hb iM
  ·have:=aC hb;omega
  ·have:=aC iM;omega
  ·rfl
 ·rcases tC hl with hl|⟨rfl,rfl⟩
  ·rcases tC hr with hr|⟨rfl,rfl⟩
   ·obtain⟨h1,fn',tmps',d',h2,h3,h4⟩:=p.loop l g r' hl hr;exact⟨h1,fn',tmps',d',h2,h3.mono le,h4⟩
   ·have:h.loops.length<K.γ.length:=(aW.1 hl).1;have:=s.o5;omega
  ·have:r'=r:=(by rw[s.o5] at hr;simp at hr;exact hr.symm);subst this;exact⟨s.size,fn,tmps,d,World.alloc_heap_new w _,hs.mono le,h1,h2,h3⟩
def b9.fc(s:b9 K G ok w0 h w){l g:Nat}{r:iW}(hl:K.γ[l]?=aa g)(hr:h.loops[l]?=aa r)(st:LoopState)(pe:Option Code):
 ∃m:Loop,w.heap[g]?=aa (.loop m)/\m.state=r.state/\m.pending=r.pending/\m.params=r.params/\m.assign=r.assign/\m.body=r.body/\mZ K r.tmps m.tmps/\
  ok m.fn m.tmps.size r.assign=ah/\ok m.fn m.tmps.size r.body=ah/\(∀p∈r.params.toList,p<m.tmps.size)/\
  b9 K G ok w0 {h with loops:=h.loops.set l {r with state:=st,pending:=pe}} (w.putObj g (.loop {m with state:=st,pending:=pe})):=by
 obtain⟨k1,fn,tmps,d,k2,k3,k4,k5,k6⟩:=s.loop l g r hl hr;have dG:l<h.loops.length:=(aW.1 hr).1;refine⟨_,k2,rfl,rfl,rfl,rfl,rfl,k3,k4,k5,k6,?_⟩;have c:=abc (o:=.loop {state:=st,pending:=pe,fn,tmps,params:=r.params,assign:=r.assign,body:=r.body,defers:=d}) (pO k2);have oN:∀{g':Nat} {cells:Array aT} {e:aP} {f:Nat × Nat},w.heap[g']?=aa (.cells cells e f)->g'≠g:=by rintro g' cells e f hg rfl;rw[k2] at hg;cases hg
 refine⟨s.dw.trans (c.below k1),by rw[c.size];exact s.size,λg' j x hx=>?_,s.fb,s.my,s.rf,λb g' cs iM hc=>?_,by simp[s.o5],s.rR,λl' g' rr tG mP=>?_,s.tn,λt ht=>?_,s.qX,λr' gI=>?_,s.all⟩
 ·have rz:=s.ic g' j x hx;have bG:g'≠g:=by rintro rfl;simp[World.cell?,k2] at rz
  rw[<-rz];exact World.cell?_of_block (w:=w) (c.other g' bG)
 ·obtain⟨h1,h2,ha,cells,e,h3,h4⟩:=s.box b g' cs iM hc;exact⟨h1,h2,ha,cells,e,(c.other g' (oN h3)).trans h3,h4⟩
 ·simp only[mW] at mP;split at mP
  ·rename_i mN;subst mN;injection mP with mP;subst mP;rw[hl] at tG;injection tG with tG;subst tG;exact⟨k1,fn,tmps,d,c.this,k3,k4,k5,k6⟩
  ·rename_i bG;have jo:g'≠g:=(by rintro rfl;exact bG (s.rR _ _ _ hl tG));obtain⟨h1,fn',tmps',d',h2,h3,h4⟩:=s.loop l' g' rr tG mP;exact⟨h1,fn',tmps',d',(c.other g' jo).trans h2,h3,h4⟩
 ·obtain⟨h1,h2,h3,cells,e,fz,h4,h5,h6⟩:=s.tok t ht;refine⟨h1,h2,h3,cells,e,fz,(c.other _ (oN h4)).trans h4,h5,λj hj hl=>?_⟩;rw[<-h6 j hj hl];exact World.frozen?_of_block (w:=w) (c.other _ (oN h4))
 ·obtain⟨h1,h2⟩:=s.md r' gI;have bG:r'≠g:=by rintro rfl;rw[k2] at h2;cases h2
  exact⟨h1,(c.other r' bG).trans h2⟩
end
end Go.AE
end
