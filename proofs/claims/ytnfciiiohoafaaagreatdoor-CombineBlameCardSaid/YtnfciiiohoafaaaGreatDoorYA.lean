/-
  The engine, part 1: an evaluator of the model's Code over values in which a slice is a list. No claim is made here; part 2 and on show that what it gives the machine does.
-/
import Derived.AtR
import Derived.Recover
import Derived.Below
import Derived.Orders
import Derived.Laws.AppendOwn
import Derived.Laws.Cells
import Derived.Laws.Entries
import Derived.Laws.MakeOwn
import Derived.Laws.Strings
import Derived.Laws.Append
import Derived.Lib.AppendZeros
import Derived.Defers
import Derived.RangeFuncRecord
open True renaming intro->aT
open Bool renaming true->ai,false->ay,false_eq_true->ju,and_eq_true->bA,not_eq_true'->yP,not_false->yQ,or_eq_true->uM
open Go renaming Value->aL,TypeId->aH,Program->bB,FuncId->bq,Operand->bH,World->bX,Frame->eW
open Option renaming some->aa,none->au,map_eq_some_iff->dt,bind_eq_some_iff->yY,isSome_iff_exists->aa1,getD_some->Iu,map->CX,isNone_some->Iv,map_some->eX,some.injEq->dE,bind_some->oa
open Nat renaming beq->jw,min->oO,le_refl->aJ,le_trans->fc,lt_of_lt_of_le->mD,lt_or_ge->dT,add_mul->fW,add_zero->AQ,mul_le_mul_right->nX,zero_add->nZ,mul_eq_zero->aaQ,zero_mul->Ff,not_lt_zero->sO,reducePow->aa0,zero_le->df,sub_mul->LL,mul_pos->LH,pos_of_ne_zero->aaW,one_ne_zero->LI,mul_one->nY,eq_of_beq_eq_true->jF,le_zero->LC,lt_succ_iff->AS,le_antisymm->AR,lt_trans->pj,le_of_lt->mV,lt_succ_self->LD,lt_succ_of_lt->vV,not_succ_le_self->aaU,lt_of_le_of_ne->aaO
open List renaming replicate->bm,range->bL,getElem?_eq_some_iff->aQ,getElem?_eq_getElem->a9,getElem?_take->nU,getElem?_drop->pR,getElem?_set->mU,length_take->fb,getElem?_append_left->ru,take_of_length_le->fK,flatten_cons->oK,drop_append->CN,drop_of_length_le->sK,take_append->Iq,length_append->du,length_cons->iJ,set_eq_take_append_cons_drop->AO,all_eq_true->eE,mem_append->xF,mem_of_mem_take->pS,mem_of_mem_drop->Lt,length_drop->gE,ext_getElem?->sM,mem_of_getElem?->ez,foldl_cons->xE,map_cons->ev,map_map->AL,getElem?_toArray->ja,flatten_append->qA,map_append->oM,flatten_nil->Rk,append_nil->jv,mem_replicate->Rn,take_nil->aaH,drop_nil->aal,extract_eq_take_drop->aam,mem_map->jE,length_map->bJ,take_append_of_le_length->Ir,cons_append->jO,nil_append->jZ,range_succ->oN,mem_range->fD,getElem?_cons_zero->jD,getElem?_cons_succ->pc,size_toArray->aaG,all_append->AI,eq_of_mem_replicate->Ig,length_replicate->qC,mem_cons_of_mem->fR,append_assoc->tV,getElem?_append_right->ET,mem_cons_self->ga,toArray_inj->Ly,map_congr_left->Io,range_zero->aaB,mem_cons->jm,countP_cons_of_neg->aai,countP_cons_of_pos->Rg,reverse_nil->aaD,mem_filter->xG
open Array renaming length_toList->xv,getElem?_eq_none->xu,getElem?_eq_getElem->mf,getElem?_modify->CC,toList_setIfInBounds->ZH,toList_map->CG,getElem?_toList->CD,range->yM,toList_extract->ZG,getElem?_eq_some_iff->CB,replicate->CE,toList_append->CF,ext'->K7,size_append->Q2,getElem?_setIfInBounds->K8,all_eq_true->EE,map->K9,mem_toList_iff->ZE,getElem_of_mem->ZA,getElem_mem->Zz
open Prod renaming mk.inj->ig,mk.injEq->cW
set_option linter.unusedSimpArgs false
set_option linter.unusedVariables false
set_option linter.constructorNameAsVariable false
set_option linter.defProp false
namespace Go
def ah{p:Prop}(h:p:=by omega):p:=h
def bG{p:Prop}(h:p:=by simp):p:=h
def aO{p:Prop}(h:p:=by decide):p:=h
def ase{p:Prop}(h:p:=by simp;omega):p:=h
def asf{p:Prop}(h:p:=by first|exact trivial|exact rfl):p:=h
def ah3{p:Prop}(h:p:=by kernel_rfl):p:=h
def aG.{u}{c:Prop}{h:Decidable c}(q:¬c){α:Sort u}{t e:α}:ite c t e=e:=if_neg q
def aD.{u}{c:Prop}{h:Decidable c}(q:c){α:Sort u}{t e:α}:ite c t e=t:=if_pos q
def cz{p:Prop}[Decidable p](q:p):decide p=ai:=decide_eq_true q
def cX{p:Prop}[Decidable p](q:¬p):decide p=ay:=decide_eq_false q
end Go
section
namespace Go.AE
inductive Tok where
 |nil|tight|free (n:Nat)|held
 deriving DecidableEq,Inhabited
inductive Ref where
 |box (b:Nat)|eG (g:Nat)
 deriving DecidableEq,Inhabited
inductive AV where
 |bad
 |v (x:aL)
 |list (k:Tok) (sz:Nat) (es:List (List AV))
 |arr (b off len aA:Nat)
 |agg (cs:List AV)
 |tuple (vs:List AV)
 |ptr (r:Ref) (off:Nat)
 |elem (sz:Nat) (es:List (List AV)) (i off:Nat)
 |func (fn:Fn) (first aA:List AV)
 |yield (l:Nat)
 |iface (t:aH) (x:AV)
 deriving Inhabited
def fj{α:Type}(P:bB):Sem α->Option α
 | .pure a=>aa a
 | .program k=>fj P (k P)
 | .mark _ k=>fj P k
 |_=>au
def scalar:aL->Bool
 | .bool _| .int .. | .float .. | .complex .. | .string _| .nilFunc| .nilIface| .pointer au| .map au| .chan au=>ai
 |_=>ay
def nR(z:aL):Option AV:=if scalar z then aa (.v z) else au
def AV.dW:AV->Bool
 | .agg _| .tuple _| .bad=>ay
 |_=>ai
def AV.bU:AV->Option (List AV)
 | .agg cs=>if cs.all AV.dW then aa cs else au
 | .tuple _| .bad=>au
 |x=>aa [x]
def vA(x:aL):AV:=
 match x with
 | .slice au 0 0=>.list .nil 0 []
 |x=>if scalar x then .v x else .bad
def sd:aL->AV
 | .agg cs=>.agg (cs.toList.map vA)
 | .tuple vs=>if vs.size=0 then .tuple [] else .bad
 | .iface t x=>.iface t (vA x)
 |x=>vA x
def Be:List AV->Option (List aL)
 | []=>aa []
 | .v x::r=>(Be r).map (x::·)
 |_=>au
def AV.flat:AV->Option aL
 | .v x=>aa x
 | .agg cs=>(Be cs).map λl=>.agg l.toArray
 | .iface t (.v x)=>aa (.iface t x)
 | .iface t (.agg cs)=>(Be cs).map λl=>.iface t (.agg l.toArray)
 | .list .nil _ []=>aa (.slice au 0 0)
 |_=>au
def flatAll:List AV->Option (List aL)
 | []=>aa []
 |x::r=>match x.flat,flatAll r with|some v,aa l=>aa (v::l)|_,_=>au
def me:aL->aL->Bool
 | .int k n,.int k' n'=>decide (k=k')&&decide (n=n')
 | .bool a,.bool b=>a==b
 | .string p,.string q=>p.data.toList==q.data.toList
 | .nilFunc,.nilFunc| .nilIface,.nilIface| .pointer au,.pointer au=>ai
 |_,_=>ay
def KA:Ref->Ref->Bool
 | .box a,.box b| .eG a,.eG b=>jw a b
 |_,_=>ay
def Ax:Tok->Tok->Bool
 | .nil,.nil| .tight,.tight| .held,.held=>ai
 | .free a,.free b=>jw a b
 |_,_=>ay
mutual
def fC:AV->AV->Bool
 | .v x,.v y=>me x y
 | .list k sz es,.list k' sz' es'=>Ax k k'&&jw sz sz'&&su es es'
 | .arr b o l c,.arr b' o' l' c'=>jw b b'&&jw o o'&&jw l l'&&jw c c'
 | .agg cs,.agg ds=>rm cs ds
 | .tuple cs,.tuple ds=>rm cs ds
 | .ptr r o,.ptr r' o'=>KA r r'&&jw o o'
 | .elem sz es i o,.elem sz' es' i' o'=>jw sz sz'&&jw i i'&&jw o o'&&su es es'
 | .yield l,.yield l'=>jw l l'
 | .iface t x,.iface t' y=>jw t t'&&fC x y
 | .func (.func f) a b,.func (.func g) a' b'=>jw f g&&rm a a'&&rm b b'
 |_,_=>ay
def rm:List AV->List AV->Bool
 | [],[]=>ai
 |x::xs,y::ys=>fC x y&&rm xs ys
 |_,_=>ay
def su:List (List AV)->List (List AV)->Bool
 | [],[]=>ai
 |x::xs,y::ys=>rm x y&&su xs ys
 |_,_=>ay
end
structure po where
 ch:List (Nat × AV)
 base:List AV
 deriving Inhabited
def look(base:List AV):List (Nat × AV)->Nat->AV
 | [],t=>base.getD t (.tuple [])
 |p::r,t=>bif jw p.1 t then p.2 else look base r t
def po.get(s:po)(t:Nat):AV:=look s.base s.ch t
def po.set(s:po)(t:Nat)(x:AV):po:={s with ch:=(t,x)::s.ch}
structure gZ where
 tmps:po
 params:Array Tmp
 assign:Code
 body:Code
 state:LoopState
 pending:Option Code
 deriving Inhabited
structure ao where
 boxes:List (List AV)
 loops:List gZ
 tn:Nat
 dead:List Nat
 deriving Inhabited
structure Env where
 tmps:po
 defers:List (bq × List AV)
 cO:Option (AV × Bool)
 round:Option Nat
 deriving Inhabited
inductive Xt where
 |normal
 |exit (id:Nat)
 |ret
 |panic (x:AV)
 deriving Inhabited
inductive eL where
 |ret (x:AV)
 |panic (x:AV)
 deriving Inhabited
def Env.get(e:Env)(t:Nat):AV:=e.tmps.get t
def Env.put(e:Env)(dst:Option Tmp)(x:AV):Env:=
 match dst with
 |some d=>{e with tmps:=e.tmps.set d x}
 |none=>e
def afc(tmps:po):bH->AV
 | .tmp t=>tmps.get t
 | .const v=>sd v
 | .global g=>.ptr (.eG g) 0
 | .func f=>.func (.func f) [] []
def Env.eval(e:Env)(x:bH):AV:=afc e.tmps x
section
variable (P:bB)
def dm(t:aH):Option Nat:=(P.info? t).map (·.size)
def fY(t:aH):Option Bool:=
 match P.underlying t with
 |some (.struct _)|some (.array _ _)=>aa ai
 |some _=>aa ay
 |none=>au
def gy(t:aH):Option AV:=
 match P.info? t with
 |some i=>i.zero.map sd
 |none=>au
def GU(t:aH)(cs:List AV)(off:Nat):Option AV:=
 match fY P t with
 |some ai=>(dm P t).map λn=>.agg ((cs.drop off).take n)
 |some ay=>cs[off]?
 |none=>au
end
def ao.box(h:ao)(cs:List AV):AV × ao:=(.ptr (.box h.boxes.length) 0,{h with boxes:=h.boxes++[cs]})
def ao.fresh(h:ao)(sz:Nat)(es:List (List AV)):AV × ao:=(.list (.free h.tn) sz es,{h with tn:=h.tn+1})
def PM(G:Nat->Option (List AV))(h:ao):Ref->Option (List AV)
 | .box b=>h.boxes[b]?
 | .eG g=>G g
def A4(G:Nat->Option (List AV))(h:ao):AV->Option (List AV)
 | .ptr r off=>(PM G h r).map (·.drop off)
 | .elem _ es i off=>(es[i]?).map (·.drop off)
 |_=>au
def aF(P:bB)(G:Nat->Option (List AV))(h:ao)(t:aH)(a:AV):Option AV:=
 match fY P t,A4 G h a with
 |some ai,aa cs=>
  match dm P t with
  |some n=>if n<=cs.length then aa (.agg (cs.take n)) else au
  |none=>au
 |some ay,aa cs=>cs.head?
 |_,_=>au
def eK(cZ:List AV)(off:Nat)(cs:List AV):List AV:=cZ.take off++cs++cZ.drop (off+cs.length)
def b8(P:bB)(h:ao)(t:aH)(a x:AV):Option ao:=
 match a,x.bU,dm P t with
 | .ptr (.box b) off,aa cs,aa n=>
  match h.boxes[b]? with
  |some cZ=>if cs.length=n/\off+n<=cZ.length then aa {h with boxes:=h.boxes.set b (eK cZ off cs)} else au
  |none=>au
 |_,_,_=>au
def uY(place:Nat->Option (Nat × Nat))(cells:List AV):List (Nat × AV)->Option (List AV)
 | []=>aa cells
 |(i,x)::rest=>
  match place i,x.bU with
  |some (off,size),aa cs=>if cs.length=size/\off+size<=cells.length then uY place (eK cells off cs) rest else au
  |_,_=>au
def Dk(sz:Nat)(ae:List (List AV)):List (Nat × AV)->Option (List (List AV))
 | []=>aa ae
 |(i,x)::rest=>
  match x.bU with
  |some cs=>if cs.length=sz/\i<ae.length then Dk sz (ae.set i cs) rest else au
  |none=>au
def placesOf(P:bB)(fields:Array Field)(i:Nat):Option (Nat × Nat):=
 match fields[i]? with
 |some f=>(dm P f.type).map λn=>(f.offset,n)
 |none=>au
def mF(P:bB)(t:aH)(parts:List (Nat × AV)):Option AV:=
 match P.underlying t,(gy P t).bind AV.bU with
 |some (.struct fields),aa zero=>
  if fields.all λf=>(P.info? f.type).isSome then (uY (placesOf P fields) zero parts).map .agg else au
 |some (.array _ elem),aa zero=>
  match dm P elem with
  |some size=>(uY (λi=>aa (i * size,size)) zero parts).map .agg
  |none=>au
 |_,_=>au
def gN(P:bB)(t:aH)(len:Nat)(parts:List (Nat × AV)):Option AV:=
 match P.underlying t with
 |some (.slice elem)=>
  match dm P elem,(gy P elem).bind AV.bU with
  |some size,aa zero=>
   if 0<size/\zero.length=size/\len * size<=16777216 then (Dk size (bm len zero) parts).map (.list .tight size) else au
  |_,_=>au
 |_=>au
def yz(P:bB)(h:ao)(t:aH)(l c:AV):Option (AV × ao):=
 match P.underlying t,l,c with
 |some (.slice elem),.v (.int _ l),.v (.int _ c)=>
  match P.info? elem,(gy P elem).bind AV.bU with
  |some i,aa zero=>
   if 0<=l/\l<=c/\c<9223372036854775808/\i.bytes * c<=281474976710656/\0<i.size/\zero.length=i.size then
    aa (.arr h.boxes.length 0 l.toNat c.toNat,{h with boxes:=h.boxes++[(bm c.toNat zero).flatten]})
   else au
  |_,_=>au
 |_,_,_=>au
def rowsOf(h:ao)(size:Nat):AV->Option (List (List AV))
 | .list _ sz es=>if sz=size∨es=[] then aa es else au
 | .arr b off len _=>
  match h.boxes[b]? with
  |some cs=>if off+len * size<=cs.length then aa ((bL len).map λi=>(cs.drop (off+i * size)).take size) else au
  |none=>au
 |_=>au
def jQ(b:UInt8):List AV:=[.v (.int .u8 b.toNat)]
def byteOf:List AV->Option UInt8
 | [.v (.int .u8 n)]=>aa (UInt8.ofNat n.toNat)
 |_=>au
def bytesOf:List (List AV)->Option (List UInt8)
 | []=>aa []
 |r::rest=>match byteOf r,bytesOf rest with|some b,aa l=>aa (b::l)|_,_=>au
def mw(h:ao)(size:Nat):AV->Option (List (List AV))
 | .v (.string s)=>if size=1 then aa (s.data.toList.map jQ) else au
 |x=>rowsOf h size x
def alive(h:ao)(n:Nat):Bool:=decide (n<h.tn)&& !h.dead.contains n
def K4(P:bB)(h:ao)(ts:Array aH)(elem:aH)(s x:AV):Option (AV × ao):=
 match s,x with
 | .list .nil _ [],.v (.int _ n)=>
  match P.info? elem,(gy P elem).bind AV.bU with
  |some i,aa zero=>
   if ts.size=2/\0<n/\n * i.bytes<=140737488355328/\n<=9223372036854775807/\0<i.size/\zero.length=i.size then
    aa (.arr h.boxes.length 0 n.toNat n.toNat,{h with boxes:=h.boxes++[(bm n.toNat zero).flatten]})
   else au
  |_,_=>au
 |_,_=>au
def gd(P:bB)(h:ao)(ts:Array aH)(s x:AV):Option (AV × ao):=
 match (ts[0]?).bind P.underlying,(ts[1]?).bind P.underlying with
 |some (.slice elem),aa (.int _)=>K4 P h ts elem s x
 |some (.slice elem),aa _=>
  match P.info? elem with
  |none=>au
  |some i=>
   match mw h i.size x with
   |none=>au
   |some new=>
    if 0<i.size/\(i.zero.map λz=>z.cells.size)=aa i.size then
     match s with
     | .list k sz es=>
      if sz=i.size∨es=[] then
       if new=[] then aa (s,h)
       else if (es.length+new.length) * i.bytes<=140737488355328/\es.length+new.length<=9223372036854775807 then
        match k with
        | .nil| .tight=>aa (h.fresh i.size (es++new))
        | .free n=>if alive h n&&decide (sz=i.size) then aa ({h with dead:=n::h.dead}.fresh i.size (es++new)) else au
        | .held=>au
       else au
      else au
     | .arr b off len aA=>
      match h.boxes[b]? with
      |some cs=>
       if len+new.length<=aA/\off+aA * i.size<=cs.length then
        aa (.arr b off (len+new.length) aA,{h with boxes:=h.boxes.set b (eK cs (off+len * i.size) new.flatten)})
       else au
      |none=>au
     |_=>au
    else au
 |_,_=>au
def HP(G:Nat->Option (List AV))(d:Option Tmp)(t:aH):Bool:=(G (1000000+1000 * t+d.getD 0)).isSome
def sI(P:bB)(h:ao)(ts:Array aH)(s x:AV):Option (AV × ao):=
 match (ts[0]?).bind P.underlying,(ts[1]?).bind P.underlying with
 |some (.slice _),aa (.int _)=>au
 |some (.slice elem),aa _=>
  match P.info? elem with
  |none=>au
  |some i=>
   match mw h i.size x with
   |none=>au
   |some new=>
    if 0<i.size/\(i.zero.map λz=>z.cells.size)=aa i.size then
     match s with
     | .list k sz es=>
      if sz=i.size∨es=[] then
       if new=[] then aa (s,h)
       else if (es.length+new.length) * i.bytes<=140737488355328/\es.length+new.length<=9223372036854775807 then
        match k with
        | .nil| .tight=>aa (.arr h.boxes.length 0 (es.length+new.length) (es.length+new.length),{h with boxes:=h.boxes++[(es++new).flatten]})
        |_=>au
       else au
      else au
     | .arr b off len aA=>
      match h.boxes[b]? with
      |some cs=>
       if len+new.length<=aA then gd P h ts s x
       else if off=0/\0<len/\len=aA/\len * i.size=cs.length/\(len+new.length) * i.bytes<=140737488355328/\len+new.length<=9223372036854775807 then
        aa (.arr h.boxes.length 0 (len+new.length) (len+new.length),{h with boxes:=h.boxes.set b []++[cs++new.flatten]})
       else au
      |none=>au
     |_=>au
    else au
 |_,_=>au
def zr(P:bB)(h:ao)(ts:Array aH)(d s:AV):Option (AV × ao):=
 match (ts[0]?).bind P.underlying with
 |some (.slice elem)=>
  match P.info? elem,d with
  |some i,.arr b off len aA=>
   match mw h i.size s,h.boxes[b]? with
   |some ae,aa cs=>
    if off+len * i.size<=cs.length/\len<=aA then
     aa (.v (.int .i64 (oO ae.length len:Nat)),{h with boxes:=h.boxes.set b (eK cs off (ae.take (oO ae.length len)).flatten)})
    else au
   |_,_=>au
  |_,_=>au
 |_=>au
def dN(P:bB)(t:aH)(x:AV):Option AV:=
 match P.underlying t,x with
 |some .string,.v (.string s)=>aa (.v (.int .i64 s.size))
 |some (.array n _),_=>aa (.v (.int .i64 n))
 |some (.pointer a),_=>match P.underlying a with|some (.array n _)=>aa (.v (.int .i64 n))|_=>au
 |some (.slice _),.list _ _ es=>aa (.v (.int .i64 es.length))
 |some (.slice _),.arr _ _ len _=>aa (.v (.int .i64 len))
 |_,_=>au
def Db(P:bB)(t:aH)(x:AV):Option AV:=
 match P.underlying t,x with
 |some (.slice _),.list .tight _ es=>aa (.v (.int .i64 es.length))
 |some (.slice _),.list .nil _ es=>aa (.v (.int .i64 es.length))
 |some (.array n _),_=>aa (.v (.int .i64 n))
 |_,_=>au
def fX(hi:Nat):Option AV->Nat->Option Nat
 |none,d=>aa d
 |some (.v (.int _ n)),_=>if 0<=n/\n<=hi then aa n.toNat else au
 |_,_=>au
def wx(k:Tok)(toEnd wX:Bool)(n:Nat):Tok:=
 match k with
 | .nil=>.nil
 | .tight=>if toEnd||wX then .tight else .held
 | .free t=>if wX then .tight else if toEnd&&n !=0 then .free t else .held
 | .held=>if wX then .tight else .held
def ie(P:bB)(t:aH)(x:AV)(lo hi mx:Option AV):Option AV:=
 if mx.isSome&&hi.isNone then au else
 match P.underlying t,x with
 |some .string,.v (.string s)=>
  if mx.isSome then au else
  match fX s.size hi s.size with
  |some h=>match fX h lo 0 with
   |some l=>aa (.v (.string (s.extract l h)))
   |none=>au
  |none=>au
 |some (.slice elem),.list k sz es=>
  match dm P elem,fX es.length mx es.length with
  |some size,aa m=>match fX m hi es.length with
   |some h=>match fX h lo 0 with
    |some l=>
     if size=sz∨es=[] then aa (.list (wx k (decide (h=es.length)&&mx.isNone) (mx.isSome&&decide (h=m)) (h - l)) sz ((es.take h).drop l)) else au
    |none=>au
   |none=>au
  |_,_=>au
 |some (.slice elem),.arr b off len aA=>
  match dm P elem,fX aA mx aA with
  |some size,aa m=>match fX m hi len with
   |some h=>match fX h lo 0 with
    |some l=>if size=0 then au else if mx.isSome/\m=l then aa (.list .tight size []) else aa (.arr b (if m=l then off else off+l * size) (h - l) (m - l))
    |none=>au
   |none=>au
  |_,_=>au
 |some (.array n elem),.ptr (.box b) off=>
  match dm P elem,fX n mx n with
  |some size,aa m=>match fX m hi n with
   |some h=>match fX h lo 0 with
    |some l=>aa (.arr b (if m=l then off else off+l * size) (h - l) (m - l))
    |none=>au
   |none=>au
  |_,_=>au
 |_,_=>au
def gi(P:bB)(s:aH)(x:AV)(f:Nat):Option AV:=
 match P.underlying s with
 |some (.struct fields)=>
  match fields[f]? with
  |some fd=>
   match dm P fd.type with
   |some 0=>au
   |some _=>match x with
    | .ptr r off=>aa (.ptr r (off+fd.offset))
    | .elem sz es i off=>aa (.elem sz es i (off+fd.offset))
    |_=>au
   |none=>au
  |none=>au
 |_=>au
def dx(P:bB)(t:aH)(x ix:AV):Option AV:=
 match P.underlying t,x,ix with
 |some (.slice elem),.list _ sz es,.v (.int _ i)=>if 0<=i/\i<es.length/\dm P elem=aa sz then aa (.elem sz es i.toNat 0) else au
 |some (.slice elem),.arr b off len _,.v (.int _ i)=>
  match dm P elem with
  |some size=>if 0<=i/\i<len then aa (.ptr (.box b) (off+i.toNat * size)) else au
  |none=>au
 |some (.array len elem),.ptr r off,.v (.int _ i)=>
  match dm P elem with
  |some size=>if 0<=i/\i<len then aa (.ptr r (off+i.toNat * size)) else au
  |none=>au
 |some (.array len elem),.elem sz es k off,.v (.int _ i)=>
  match dm P elem with
  |some size=>if 0<=i/\i<len then aa (.elem sz es k (off+i.toNat * size)) else au
  |none=>au
 |_,_,_=>au
def Cc(P:bB)(t:aH)(x ix:AV):Option AV:=
 match P.underlying t,x,ix with
 |some .string,.v (.string s),.v (.int _ i)=>
  match (if 0<=i then s.data[i.toNat]? else au) with
  |some b=>aa (.v (.int .u8 b.toNat))
  |none=>au
 |some (.array len elem),.agg cs,.v (.int _ i)=>
  match dm P elem with
  |some size=>if 0<=i/\i<len then GU P elem cs (i.toNat * size) else au
  |none=>au
 |_,_,_=>au
def isIface(P:bB)(t:aH):Option Bool:=
 match P.underlying t with
 |some (.interface _)=>aa ai
 |some _=>aa ay
 |none=>au
def xQ(P:bB)(x:AV)(asserted:aH)(commaOk:Bool):Option AV:=
 match isIface P asserted,x with
 |some ay,.iface t y=>if t=asserted then aa (if commaOk then .tuple [y,.v (.bool ai)] else y)
  else if commaOk then (gy P asserted).map λz=>.tuple [z,.v (.bool ay)] else au
 |some ay,.v .nilIface=>if commaOk then (gy P asserted).map λz=>.tuple [z,.v (.bool ay)] else au
 |_,_=>au
def wj(op:BinOp)(b:Bool):Option AV:=
 match op with
 | .eql=>aa (.v (.bool b))
 | .neq=>aa (.v (.bool !b))
 |_=>au
def IG(P:bB)(op:BinOp)(t:aH)(x y:bH)(a b:AV):Option AV:=
 match a.flat,b.flat with
 |some p,aa q=>(fj P (do eqGuard op t x y p q;binOp op t p q)).bind nR
 |_,_=>au
def cQ(P:bB)(op:BinOp)(t:aH)(x y:bH)(a b:AV):Option AV:=
 match a,b with
 | .v (.string p),.v (.string q)=>
  match op with
  | .eql=>aa (.v (.bool (p.data.toList==q.data.toList)))
  | .neq=>aa (.v (.bool !(p.data.toList==q.data.toList)))
  | .add=>if p.size+q.size<=9223372036854775807 then aa (.v (.string (p++q))) else au
  |_=>IG P op t x y a b
 | .iface _ _,.v .nilIface=>if isIface P t=aa ai then wj op ay else au
 | .v .nilIface,.iface _ _=>if isIface P t=aa ai then wj op ay else au
 | .ptr _ _,.v (.pointer au)=>(match P.underlying t with|some (.pointer _)=>wj op ay|_=>au)
 | .v (.pointer au),.ptr _ _=>(match P.underlying t with|some (.pointer _)=>wj op ay|_=>au)
 | .func _ _ _,.v .nilFunc=>(match P.underlying t with|some (.func ..)=>wj op ay|_=>au)
 | .v .nilFunc,.func _ _ _=>(match P.underlying t with|some (.func ..)=>wj op ay|_=>au)
 | .list k _ _,.list .nil _ []=>(match P.underlying t with|some (.slice _)=>wj op (decide (k=.nil))|_=>au)
 |a,b=>IG P op t x y a b
def Cx(P:bB)(op:UnOp)(x:AV):Option AV:=
 match x.flat with
 |some p=>(fj P (Op.unary op p)).bind nR
 |none=>au
def mY(P:bB)(h:ao)(src dst:aH)(x:AV):Option (AV × ao):=
 match P.underlying src,P.underlying dst,x with
 |some .string,aa (.slice e),.v (.string s)=>
  match P.underlying e,P.info? e with
  |some (.int .u8),aa i=>if i.size=1 then aa (h.fresh 1 (s.data.toList.map jQ)) else au
  |_,_=>au
 |some (.slice e),aa .string,x=>
  match P.underlying e,rowsOf h 1 x with
  |some (.int .u8),aa ae=>(bytesOf ae).map λl=>(.v (.string ⟨l.toArray⟩),h)
  |_,_=>au
 |some (.slice e),aa (.slice _),.list (.free t) sz es=>
  match P.underlying e with
  |some (.int .u8)=>if src=dst/\alive h t=ai then aa (.list .held sz es,{h with dead:=t::h.dead}) else au
  |_=>au
 |some (.slice _),aa (.slice _),_=>au
 |some _,aa _,.v x=>((fj P (convert src dst x)).bind nR).map λz=>(z,h)
 |_,_,_=>au
def Ka(c a b:AV):Option AV:=
 match c with
 | .v (.bool t)=>aa (if t then a else b)
 |_=>au
def Pd(x:AV):Option AV:=
 match x with
 | .ptr .. | .elem .. | .func (.func _) _ _| .yield _| .iface .. =>aa x
 |_=>au
def wu(parts:Array (Nat × bH)):Bool:=
 match parts.toList with
 |(_,.const (.int .u8 _))::_::_=>ai
 |_=>ay
def dK(P:bB)(G:Nat->Option (List AV))(ρ:bH->AV)(h:ao)(o:Op):Option (AV × ao):=
 match o with
 | .move x| .assign x=>aa (ρ x,h)
 | .pick c a b=>(Ka (ρ c) (ρ a) (ρ b)).map (·,h)
 | .alloc t=>((gy P t).bind AV.bU).map h.box
 | .box _ x=>((ρ x).bU).map h.box
 | .build t parts=>(mF P t (parts.toList.map λp=>(p.1,ρ p.2))).map (·,h)
 | .buildSlice t len parts=>
  match wu parts with
  |false=>(gN P t len (parts.toList.map λp=>(p.1,ρ p.2))).map (·,h)
  |true=>(match gN P t len (parts.toList.map λp=>(p.1,ρ p.2)) with|some (.list _ sz es)=>aa (h.fresh sz es)|_=>au)
 | .load t a=>(aF P G h t (ρ a)).map (·,h)
 | .store t a x=>(b8 P h t (ρ a) (ρ x)).map (.tuple [],·)
 | .nilCheck x=>(Pd (ρ x)).map (·,h)
 | .binOp op t x y _=>(cQ P op t x y (ρ x) (ρ y)).map (·,h)
 | .unOp op _ x=>(Cx P op (ρ x)).map (·,h)
 | .convert s d x=>mY P h s d (ρ x)
 | .makeInterface t x=>if isIface P t=aa ay then aa (.iface t (ρ x),h) else au
 | .makeFunc fn first aA=>aa (.func fn (first.toList.map ρ) (aA.toList.map ρ),h)
 | .makeSlice t l c=>yz P h t (ρ l) (ρ c)
 | .slice t x lo hi mx=>(ie P t (ρ x) (lo.map ρ) (hi.map ρ) (mx.map ρ)).map (·,h)
 | .fieldAddr s x f=>(gi P s (ρ x) f).map (·,h)
 | .field t x f=>
  match P.underlying t,ρ x with
  |some (.struct fields),.agg cs=>(match fields[f]? with|some fd=>(GU P fd.type cs fd.offset).map (·,h)|none=>au)
  |_,_=>au
 | .indexAddr t x i=>(dx P t (ρ x) (ρ i)).map (·,h)
 | .index t x i=>(Cc P t (ρ x) (ρ i)).map (·,h)
 | .typeAssert x _ asserted ok=>(xQ P (ρ x) asserted ok).map (·,h)
 | .extract x i=>(match ρ x with| .tuple vs=>(vs[i]?).map (·,h)|_=>au)
 |_=>au
def jn(P:bB)(h:ao)(b:Builtin)(ts:Array aH)(ty:aH)(args:List AV):Option (AV × ao):=
 match b,args with
 | .len,[x]=>(match ts[0]? with|some t=>(dN P t x).map (·,h)|none=>au)
 | .cap,[x]=>(match ts[0]? with|some t=>(Db P t x).map (·,h)|none=>au)
 | .append,[s,x]=>gd P h ts s x
 | .copy,[d,s]=>zr P h ts d s
 | .min,xs=>(match flatAll xs with|some l=>((fj P (Builtin.min_ ts ty l.toArray)).bind nR).map (·,h)|none=>au)
 | .max,xs=>(match flatAll xs with|some l=>((fj P (Builtin.max_ ts ty l.toArray)).bind nR).map (·,h)|none=>au)
 |_,_=>au
def rI(P:bB)(G:Nat->Option (List AV))(d:Option Tmp)(h:ao)(b:Builtin)(ts:Array aH)(ty:aH)(args:List AV):Option (AV × ao):=
 match b,args with
 | .append,[s,x]=>if HP G d ty then sI P h ts s x else gd P h ts s x
 |b,args=>jn P h b ts ty args
structure Rec where
 code:Code->Env->ao->Option (Xt × Env × ao)
 call:bq->List AV->ao->Option (eL × ao)
 jH:bq->List AV->Option (AV × Bool)->ao->Option (eL × Option (AV × Bool) × ao)
 round:Nat->List AV->ao->Option (eL × ao)
def O5(P:bB)(t:aH)(name:String):Option bq:=
 match P.info? t with
 |some i=>
  match i.methods.find? (·.name==name) with
  |some m=>
   match m.path.toList,m.func,P.underlying t with
   | [],aa (f,ai),aa (.pointer _)=>aa f
   | [],aa (_,_),aa (.pointer _)=>au
   | [],aa (f,ay),aa _=>aa f
   |_,_,_=>au
  |none=>au
 |none=>au
def lO(P:bB)(R:Rec)(e:Env)(h:ao)(c:Call):Option (eL × ao):=
 let args:=c.args.toList.map e.eval
 match c.callee with
 | .builtin _=>au
 | .value f=>
  match e.eval f with
  | .func (.func g) first aA=>R.call g (first++args++aA) h
  | .yield l=>R.round l args h
  |_=>au
 | .invoke r name=>
  match e.eval r with
  | .iface t x=>(match O5 P t name with|some f=>R.call f (x::args) h|none=>au)
  |_=>au
def dY(P:bB)(G:Nat->Option (List AV))(R:Rec)(e:Env)(h:ao)(o:Oper):Option (eL × Env × ao):=
 match o.op with
 | .call {callee:=.builtin .recover,.. }=>
  if e.round.isSome then au else
  match e.cO with
  |some (x,ay)=>aa (.ret x,{e with cO:=aa (x,ai)},h)
  |_=>aa (.ret (.v .nilIface),e,h)
 | .call {callee:=.builtin .panic,args,.. }=>
  match args.toList.map e.eval with
  | [.iface t x]=>aa (.panic (.iface t x),e,h)
  |_=>au
 | .call {callee:=.builtin b,args,argTypes}=>(rI P G o.dst h b argTypes o.type (args.toList.map e.eval)).map λ(x,h)=>(.ret x,e,h)
 | .call c=>(lO P R e h c).map λ(r,h)=>(r,e,h)
 | .defer {callee:=.value f,args,.. }=>
  if e.round.isSome then au else
  match e.eval f with
  | .func (.func g) first aA=>aa (.ret (.tuple []),{e with defers:=(g,first++args.toList.map e.eval++aA)::e.defers},h)
  |_=>au
 | .panic x=>
  match e.eval x with
  | .iface t x=>aa (.panic (.iface t x),e,h)
  |_=>au
 |op=>(dK P G e.eval h op).map λ(x,h)=>(.ret x,e,h)
def fg(ops:Array Oper)(e:Env)(o:Oper):Option Bool:=
 match o.guard with
 |none=>aa ai
 |some (j,want)=>
  match (ops[j]?).bind (·.dst) with
  |none=>aa ay
  |some d=>
   match e.get d with
   | .v (.bool b)=>aa (b==want)
   | .tuple []=>aa ay
   |_=>au
def da(P:bB)(G:Nat->Option (List AV))(R:Rec)(ops:Array Oper):List Nat->Env->ao->Option (Xt × Env × ao)
 | [],e,h=>aa (.normal,e,h)
 |i::rest,e,h=>
  match ops[i]? with
  |none=>au
  |some o=>
   match fg ops e o with
   |none=>au
   |some ay=>da P G R ops rest (e.put o.dst (.tuple [])) h
   |some ai=>
    match dY P G R e h o with
    |some (.ret x,e,h)=>da P G R ops rest (e.put o.dst x) h
    |some (.panic x,e,h)=>aa (.panic x,e,h)
    |none=>au
inductive Class where
 |pure|reads|acts
 deriving DecidableEq,Inhabited
def jo:Op->Class
 | .move _| .assign _| .pick .. | .build .. | .nilCheck _| .binOp .. | .unOp .. | .makeInterface .. | .makeFunc .. | .slice .. | .fieldAddr .. | .field ..
 | .indexAddr .. | .index .. | .typeAssert .. | .extract .. =>.pure
 | .buildSlice _ _ parts=>if wu parts=ai then .acts else .pure
 | .load .. =>.reads
 | .call {callee:=.builtin .len,.. }=>.pure
 |_=>.acts
def JW(a b:Class):Bool:=
 match a,b with
 | .pure,_|_,.pure=>ai
 | .reads,.reads=>ai
 |_,_=>ay
def AZ(ops:Array Oper)(b:Array Nat):Bool:=
 (bL ops.size).all λj=>
  match ops[j]? with
  |none=>ai
  |some o=>
   (o.after.all λe=> !Region.binds .any e||decide (e.on<j))&&
   (bL ops.size).all λi=> !(b.getD j 0).testBit i||o.after.any λe=>Region.binds .any e&&(jw e.on i||(b.getD e.on 0).testBit i)
def yB(ops:Array Oper)(i j:Nat):Bool:=
 match ops[i]?,ops[j]? with
 |some x,aa y=>JW (jo x.op) (jo y.op)&&x.apart ops y&&y.apart ops x
 |_,_=>ay
def MF(ops:Array Oper):Bool:=
 let b:=Region.before ops
 AZ ops b&&(bL ops.size).all λj=>(bL j).all λi=>(b.getD j 0).testBit i||yB ops i j
def px(ops:Array Oper)(i j:Nat):Bool:=
 match ops[i]?,ops[j]? with
 |some x,aa y=>x.apart ops y&&y.apart ops x
 |_,_=>ay
def pM(P:bB)(G:Nat->Option (List AV))(R:Rec)(ops:Array Oper)(e:Env)(h:ao)(r m:Nat):Bool:=
 match ops[r]?,da P G R ops (bL r) e h,da P G R ops (bL m) e h with
 |some o,aa (.normal,er,hr),aa (.normal,_,hm)=>
  (match fg ops er o with
   |some ay=>ai
   |some ai=>
    (match o.op with
     | .load t a=>(match aF P G hr t (er.eval a),aF P G hm t (er.eval a) with|some x,aa y=>fC x y|_,_=>ay)
     |_=>ay)
   |none=>ay)
 |_,_,_=>ay
def lJ(P:bB)(G:Nat->Option (List AV))(R:Rec)(ops:Array Oper)(e:Env)(h:ao)(i j:Nat):Bool:=
 px ops i j&&
 match (ops[i]?).map λo=>jo o.op,(ops[j]?).map λo=>jo o.op with
 |some .reads,aa .acts=>pM P G R ops e h i (j+1)
 |some .acts,aa .reads=>pM P G R ops e h j i
 |_,_=>ay
def zj:Op->Bool
 | .call {callee:=.builtin .recover,.. }=>ay
 | .call {callee:=.builtin .panic,.. }=>ay
 | .call _=>ai
 | .convert .. =>ai
 |_=>ay
def zl(P:bB)(G:Nat->Option (List AV))(R:Rec)(ops:Array Oper)(e:Env)(h:ao)(k:Nat):Prop:=
 ∃o x er hr,ops[k]?=aa o/\zj o.op=ai/\da P G R ops (bL k) e h=aa (.normal,er,hr)/\
  ∀m,m<=ops.size->∃em hm,da P G R ops (bL m) e h=aa (.normal,em,hm)/\dY P G R er hm o=aa (.ret x,er,hm)
noncomputable def mG(P:bB)(G:Nat->Option (List AV))(R:Rec)(ops:Array Oper)(e:Env)(h:ao)(k:Nat):Bool:=@decide (zl P G R ops e h k) (Classical.propDecidable _)
noncomputable def mj(P:bB)(G:Nat->Option (List AV))(R:Rec)(ops:Array Oper)(e:Env)(h:ao):Bool:=
 let b:=Region.before ops
 AZ ops b&&(bL ops.size).all λj=>(bL j).all λi=>(b.getD j 0).testBit i||yB ops i j||lJ P G R ops e h i j||(px ops i j&&(mG P G R ops e h i||mG P G R ops e h j))
def IU(ops:Array Oper)(k j:Nat):Bool:=
 match ops[k]? with
 |some o=>o.after.any λed=>Region.binds .any ed&&jw ed.on j
 |none=>ay
def aiw(ops:Array Oper)(d m:Nat):Bool:=
 match ops[m]? with
 |some o=>(match o.op with| .load _ x=>(match x with| .tmp t=> !Nat.beq t d|_=>ai)|_=>ay)&&(o.guard.isNone&&(match o.dst with|some q=> !Nat.beq q d|none=>ai))
 |none=>ay
def gh(ops:Array Oper)(i j:Nat):Array Oper:=⟨ops.toList.mapIdx λk o=>if k=j then {o with after:=o.after.push {on:=i,ground:=.data}} else o⟩
def yr(ops:Array Oper)(k:Nat):Bool:=
 match ops[k]? with
 |some o=>(match o.op with| .store _ _ _=>ai|_=>ay)&&(o.guard.isNone&&o.dst.isNone)
 |none=>ay
def Xs(ops:Array Oper)(k:Nat):Bool:=
 match ops[k]? with
 |some o=>decide (jo o.op=.pure)|none=>ay
def Ef(ops:Array Oper)(i:Nat):Bool:=
 AZ ops (Region.before ops)&&(decide (i+1<ops.size)&&(yr ops i&&(yr ops (ops.size - 1)&&(bL (ops.size - 1)).all λk=>jw k i||(((Region.before ops).getD (ops.size - 1) 0).testBit k||(Xs ops k&&px ops k (ops.size - 1))))))
def rf(ops:Array Oper)(k:Nat)(e:Env):Option Nat:=
 match ops[k]? with
 |some o=>(match o.op with| .store _ a _=>(match e.eval a with| .ptr (.box b) _=>aa b|_=>au)|_=>au)
 |none=>au
def si(P:bB)(G:Nat->Option (List AV))(R:Rec)(ops:Array Oper)(e:Env)(h:ao)(i:Nat):Bool:=
 match da P G R ops (bL i) e h,da P G R ops (bL (ops.size - 1)) e h with
 |some (.normal,ei,_),aa (.normal,en,_)=>
  (match rf ops i ei,rf ops (ops.size - 1) en with
   |some a,aa b=> !Nat.beq a b
   |_,_=>ay)
 |_,_=>ay
noncomputable def tN(P:bB)(G:Nat->Option (List AV))(R:Rec)(ops:Array Oper)(e:Env)(h:ao):Bool:=(bL ops.size).any λi=>Ef ops i&&(si P G R ops e h i&&mj P G R (gh ops i (ops.size - 1)) e h)
def quiet(o:Oper):Oper:={o with dst:=au,op:=.move (.const (.bool ai)),guard:=au}
def DW(ops:Array Oper)(k i:Nat):Bool:=jw i k||((Region.before ops).getD i 0).testBit k
def cut(ops:Array Oper)(k:Nat):Array Oper:=⟨ops.toList.mapIdx λi o=>if DW ops k i=ai then quiet o else o⟩
def adv(ops:Array Oper)(i:Nat):Bool:=
 match ops[i]? with
 |some o=>decide (jo o.op≠ .acts)|none=>ai
def Uf(ops:Array Oper)(k i:Nat):Bool:=
 match ops[i]? with
 |some o=>(match o.guard with|some (j,_)=> !DW ops k j|none=>ai)
 |none=>ai
def aeL(ops:Array Oper)(k i:Nat):Option Tmp:=
 if (DW ops k i||((Region.before (cut ops k)).getD k 0).testBit i)=ai then au else (ops[i]?).bind (·.dst)
def Ex(params:List Tmp)(args:List AV)(tmps:po):po:=(params.zip args).foldl (λts p=>ts.set p.1 p.2) tmps
section
variable (P:bB) (G:Nat->Option (List AV)) (R:Rec)
noncomputable def fy:Code->Env->ao->Option (Xt × Env × ao)
 | .skip,e,h| .label _,e,h=>aa (.normal,e,h)
 | .region _ ops draw,e,h=>
  if draw then
   if mj P G R ops e h||tN P G R ops e h then
    match da P G R ops (bL ops.size) e h with
    |some (.normal,e,h)=>aa (.normal,e,h)
    |_=>au
   else au
  else da P G R ops (bL ops.size) e h
 | .seq a b,e,h=>
  match R.code a e h with
  |some (.normal,e,h)=>R.code b e h
  |r=>r
 | .cond c a b,e,h=>
  match e.eval c with
  | .v (.bool ai)=>R.code a e h
  | .v (.bool ay)=>R.code b e h
  |_=>au
 | .block id c,e,h=>
  match R.code c e h with
  |some (.exit id',e,h)=>if id'=id then aa (.normal,e,h) else aa (.exit id',e,h)
  |r=>r
 | .loop c,e,h=>
  match R.code c e h with
  |some (.normal,e,h)=>R.code (.loop c) e h
  |r=>r
 | .scope c,e,h=>R.code c e h
 | .exit id,e,h=>aa (.exit id,e,h)
 | .ret,e,h=>aa (.ret,e,h)
 | .rangeFunc f params assign body,e,h=>
  match e.eval f with
  | .func (.func g) first aA=>
   match R.call g (first++[.yield h.loops.length]++aA)
    {h with loops:=h.loops++[{tmps:=e.tmps,params,assign,body,state:=.ready,pending:=au}]} with
   |some (.ret _,h')=>
    match h'.loops[h.loops.length]? with
    |some r=>
     if r.state=.busy then au else
     match r.pending with
     |none=>aa (.normal,e,{h' with loops:=h'.loops.set h.loops.length {r with state:=.exhausted}})
     |some .ret=>aa (.ret,e,{h' with loops:=h'.loops.set h.loops.length {r with state:=.exhausted}})
     |some (.exit id)=>aa (.exit id,e,{h' with loops:=h'.loops.set h.loops.length {r with state:=.exhausted}})
     |_=>au
    |none=>au
   |some (.panic x,h')=>aa (.panic x,e,h')
   |none=>au
  |_=>au
 |_,_,_=>au
def vJ(e:Env)(h:ao):List ResultVar->Option (List AV)
 | []=>aa []
 | .tmp t::r=>(vJ e h r).map (e.get t::·)
 | .cell a t::r=>
  match aF P G h t (e.get a),vJ e h r with
  |some x,aa l=>aa (x::l)
  |_,_=>au
def Hc(fn:Func)(e:Env)(h:ao):Option AV:=
 match vJ P G e h fn.results.toList with
 |some [x]=>aa x
 |some l=>aa (.tuple l)
 |none=>au
def gK(fn:Func)(e:Env):List (bq × List AV)->Option (AV × Bool)->ao->Option (eL × ao)
 | [],au,h=>(Hc P G fn e h).map λx=>(.ret x,h)
 | [],aa (x,_),h=>aa (.panic x,h)
 |(g,args)::ds,m,h=>
  match R.jH g args m h with
  |some (.ret _,aa (_,ai),h)=>gK fn e ds au h
  |some (.ret _,m,h)=>gK fn e ds m h
  |_=>au
def rF(g:bq)(args:List AV)(m:Option (AV × Bool))(h:ao):Option (eL × Option (AV × Bool) × ao):=
 match P.funcs[g]? with
 |none=>au
 |some fn=>
  match fn.body with
  |none=>au
  |some body=>
   match R.code body {tmps:={ch:=[],base:=args},defers:=[],cO:=m,round:=au} h with
   |some (.normal,e,h)|some (.ret,e,h)=>(gK P G R fn e e.defers au h).map λ(r,h)=>(r,e.cO,h)
   |some (.panic x,e,h)=>(gK P G R fn e e.defers (aa (x,ay)) h).map λ(r,h)=>(r,e.cO,h)
   |_=>au
def qK(aK:bq->Option (List AV->ao->Option (AV × ao)))(g:bq)(args:List AV)(h:ao):Option (eL × ao):=
 match aK g with
 |some p=>(p args h).map λ(x,h)=>(.ret x,h)
 |none=>(rF P G R g args au h).map λ(r,_,h)=>(r,h)
def vL(l:Nat)(args:List AV)(h:ao):Option (eL × ao):=
 match h.loops[l]? with
 |none=>au
 |some r=>
  if r.params.size=args.length then
   match R.code r.assign {tmps:=Ex r.params.toList args r.tmps,defers:=[],cO:=au,round:=aa l} h with
   |some (.normal,e,h)=>
    match h.loops[l]? with
    |some r2=>
     if r2.state=.ready then
      match R.code r.body e {h with loops:=h.loops.set l {r2 with state:=.busy}} with
      |some (.normal,_,h)=>(h.loops[l]?).map λr=>(.ret (.v (.bool ai)),{h with loops:=h.loops.set l {r with state:=.ready,pending:=au}})
      |some (.ret,_,h)=>(h.loops[l]?).map λr=>(.ret (.v (.bool ay)),{h with loops:=h.loops.set l {r with state:=.done,pending:=aa .ret}})
      |some (.exit id,_,h)=>(h.loops[l]?).map λr=>(.ret (.v (.bool ay)),{h with loops:=h.loops.set l {r with state:=.done,pending:=aa (.exit id)}})
      |some (.panic x,_,h)=>aa (.panic x,h)
      |none=>au
     else au
    |none=>au
   |_=>au
  else au
end
noncomputable def ia(P:bB)(G:Nat->Option (List AV))(aK:bq->Option (List AV->ao->Option (AV × ao)))(n:Nat):Rec:=
 Nat.rec (motive:=λ_=>Rec) {code:=λ_ _ _=>au,call:=λ_ _ _=>au,jH:=λ_ _ _ _=>au,round:=λ_ _ _=>au}
  (λ_ R=>{code:=fy P G R,call:=qK P G R aK,jH:=rF P G R,round:=vL R}) n
end Go.AE
end
section
namespace Go.AE
open Go.RowKit (Below)
def G7{α}{P}:∀{e:Sem α} {a:α},fj P e=aa a->∀w,e.run P w=.ok a w:=by
 intro e
 induction e with
 |pure a=>intro b h w;simp[fj] at h;subst h;rfl|program k ih=>intro b h w;simp only[fj] at h;simp only[Sem.run];exact ih _ h w|mark m k ih=>intro b h w;simp only[fj] at h;simp only[Sem.run];exact ih h w|_=>intro b h;simp[fj] at h
structure aP where
 base:Nat
 ic:Nat->Nat->Option aL
 β:List Nat
 γ:List Nat
 tn:Nat
 tk:Nat->Nat × Nat × Nat
 md:List Nat
 lb:Nat->Option (Nat × Nat × Nat)
structure aP.Le(K K':aP):Prop where
 base:K'.base=K.base
 ic:∀g j c,K.ic g j=aa c->K'.ic g j=aa c
 β:∀b g:Nat,K.β[b]?=aa g->K'.β[b]?=aa g
 γ:∀l g:Nat,K.γ[l]?=aa g->K'.γ[l]?=aa g
 tn:K.tn<=K'.tn
 tk:∀t,t<K.tn->K'.tk t=K.tk t
 md:∀r∈K.md,r∈K'.md
 lb:∀b,b<K.β.length->K'.lb b=K.lb b
 new:∀g j c,K'.ic g j=aa c->K.ic g j=aa c∨K.base<=g
def aP.Le.refl(K:aP):K.Le K:=⟨rfl,λ_ _ _ h=>h,λ_ _ h=>h,λ_ _ h=>h,aJ _,λ_ _=>rfl,λ_ h=>h,λ_ _=>rfl,λ_ _ _ h=>.inl h⟩
def aP.Le.len{K K':aP}(h:K.Le K'){b}(hb:b<K.β.length):b<K'.β.length:=(aQ.1 (h.β b _ (a9 hb))).1
def aP.Le.trans{A B C:aP}(h:A.Le B)(k:B.Le C):A.Le C:=
 ⟨k.base.trans h.base,λg j c hc=>k.ic g j c (h.ic g j c hc),λb g hb=>k.β b g (h.β b g hb),λb g hb=>k.γ b g (h.γ b g hb),fc h.tn k.tn,
  λt ht=>(k.tk t (mD ht h.tn)).trans (h.tk t ht),λr hr=>k.md r (h.md r hr),λb hb=>(k.lb b (h.len hb)).trans (h.lb b hb),λg j c hc=>(k.new g j c hc).elim (h.new g j c) λq=>.inr (by rw[<-h.base];exact q)⟩
def vZ(K:aP)(k:Tok)(g off sz n aA:Nat):Prop:=
 n<=aA/\match k with
  | .nil=>False
  | .tight=>aA=n
  | .free t=>t<K.tn/\(K.tk t).1=g/\(K.tk t).2.1=off+n * sz/\off+aA * sz<=(K.tk t).2.2
  | .held=>True
def vZ.mono{K K'}(h:K.Le K'){k}{g off sz n aA}(ht:vZ K k g off sz n aA):vZ K' k g off sz n aA:=by
 refine⟨ht.1,?_⟩;have h2:=ht.2;cases k with|free t=>simp only at h2 ⊢;rw[h.tk t h2.1];exact⟨mD h2.1 h.tn,h2.2⟩|_=>exact h2
mutual
inductive aU (K:aP):AV->aL->Prop
 |bad (c:aL):aU K .bad c
 |v (x:aL) (h:scalar x=ai):aU K (.v x) x
 |nil (sz:Nat):aU K (.list .nil sz []) (.slice au 0 0)
 |iY (sz:Nat) (a:Addr):aU K (.list .tight sz []) (.slice (aa a) 0 0)
 |list (k:Tok) (sz:Nat) (es:List (List AV)) (g off n aA:Nat) (cells:List aL) (hn:n=es.length) (hr:∀r∈es,r.length=sz)
  (hv:aM K es.flatten cells) (hc:∀j c,cells[j]?=aa c->K.ic g (off+j)=aa c) (ht:vZ K k g off sz n aA)
  (ha:es.flatten.all AV.dW=ai):aU K (.list k sz es) (.slice (aa ⟨g,off,au⟩) n aA)
 |arr (b g off len aA fi hJ:Nat) (hb:K.β[b]?=aa g) (hl:len<=aA) (hc:aA<=hJ) (ho:fi=off∨aA=0)
  (hr:hJ=aA∨aA=0∨off≠0∨∃sz room,K.lb b=aa (aA,sz,room)/\0<sz/\hJ * sz<=room):aU K (.arr b off len aA) (.slice (aa ⟨g,fi,au⟩) len hJ)
 |agg (cs:List AV) (vs:Array aL) (h:aM K cs vs.toList):aU K (.agg cs) (.agg vs)
 |tuple (cs:List AV) (vs:Array aL) (h:aM K cs vs.toList):aU K (.tuple cs) (.tuple vs)
 |box (b g off:Nat) (hb:K.β[b]?=aa g):aU K (.ptr (.box b) off) (.pointer (aa ⟨g,off,au⟩))
 |eG (g off:Nat):aU K (.ptr (.eG g) off) (.pointer (aa ⟨g,off,au⟩))
 |elem (sz:Nat) (es:List (List AV)) (i off g o p:Nat) (cells:List aL) (hr:∀r∈es,r.length=sz) (hv:aM K es.flatten cells)
  (hc:∀j c,cells[j]?=aa c->K.ic g (o+j)=aa c) (hi:i<es.length) (hp:p=o+i * sz+off)
  (ha:es.flatten.all AV.dW=ai):aU K (.elem sz es i off) (.pointer (aa ⟨g,p,au⟩))
 |func (fn:Fn) (first aA:List AV) (fs cs:Array aL) (h1:aM K first fs.toList) (h2:aM K aA cs.toList):aU K (.func fn first aA) (.func fn fs cs)
 |yield (l g:Nat) (h:K.γ[l]?=aa g):aU K (.yield l) (.func (.yield g) #[] #[])
 |iface (t:aH) (x:AV) (c:aL) (h:aU K x c):aU K (.iface t x) (.iface t c)
inductive aM (K:aP):List AV->List aL->Prop
 |nil:aM K [] []
 |cons (x:AV) (c:aL) (xs:List AV) (cs:List aL) (h:aU K x c) (hs:aM K xs cs):aM K (x::xs) (c::cs)
end
mutual
def aU.mono{K K':aP}(h:K.Le K'):∀{x:AV} {c:aL},aU K x c->aU K' x c
 |_,_,.bad c=>.bad c
 |_,_,.v x hx=>.v x hx
 |_,_,.nil sz=>.nil sz
 |_,_,.iY sz a=>.iY sz a
 |_,_,.list k sz es g off n aA cells hn hr hv hc ht ha=>.list k sz es g off n aA cells hn hr (aM.mono h hv) (λj c hj=>h.ic _ _ _ (hc j c hj)) (ht.mono h) ha
 |_,_,.arr b g off len aA fi hJ hb hl hc ho hr=>.arr b g off len aA fi hJ (h.β _ _ hb) hl hc ho (by rw[h.lb b (aQ.1 hb).1];exact hr)
 |_,_,.agg cs vs hv=>.agg cs vs (aM.mono h hv)
 |_,_,.tuple cs vs hv=>.tuple cs vs (aM.mono h hv)
 |_,_,.box b g off hb=>.box b g off (h.β _ _ hb)
 |_,_,.eG g off=>.eG g off
 |_,_,.elem sz es i off g o p cells hr hv hc hi hp ha=>.elem sz es i off g o p cells hr (aM.mono h hv) (λj c hj=>h.ic _ _ _ (hc j c hj)) hi hp ha
 |_,_,.func fn first aA fs cs h1 h2=>.func fn first aA fs cs (aM.mono h h1) (aM.mono h h2)
 |_,_,.yield l g hl=>.yield l g (h.γ _ _ hl)
 |_,_,.iface t x c hx=>.iface t x c (aU.mono h hx)
def aM.mono{K K':aP}(h:K.Le K'):∀{xs:List AV} {cs:List aL},aM K xs cs->aM K' xs cs
 |_,_,.nil=>.nil
 |_,_,.cons x c xs cs hx hs=>.cons x c xs cs (aU.mono h hx) (aM.mono h hs)
end
def DZ:aL->Bool
 | .agg _| .tuple _=>ay
 |_=>ai
section
variable {K:aP}
def aM.length{xs:List AV}{cs:List aL}(h:aM K xs cs):xs.length=cs.length:=by
 induction xs generalizing cs with
 |nil=>cases h;rfl
 |cons x xs ih=>cases h with|cons _ _ _ _ _ hs=>simp[ih hs]
def aM.get{xs:List AV}{cs:List aL}(h:aM K xs cs):∀{i:Nat} {x:AV},xs[i]?=aa x->∃c,cs[i]?=aa c/\aU K x c:=by
 induction xs generalizing cs with
 |nil=>intro i x hx;simp at hx|cons y xs ih=>
  cases h with
  |cons _ c _ cs hy hs=>
   intro i x hx;cases i with|zero=>simp at hx;subst hx;exact⟨c,rfl,hy⟩|succ i=>exact ih hs (by simpa using hx)
def aM.get'{xs:List AV}{cs:List aL}(h:aM K xs cs):∀{i:Nat} {c:aL},cs[i]?=aa c->∃x,xs[i]?=aa x/\aU K x c:=by
 induction xs generalizing cs with
 |nil=>cases h;intro i x hx;simp at hx
 |cons y xs ih=>
  cases h with
  |cons _ c _ cs hy hs=>
   intro i x hx;cases i with|zero=>simp at hx;subst hx;exact⟨y,rfl,hy⟩|succ i=>exact ih hs (by simpa using hx)
def aM.of{xs:List AV}{cs:List aL}(hl:xs.length=cs.length)(h:∀(i:Nat) (x:AV) (c:aL),xs[i]?=aa x->cs[i]?=aa c->aU K x c):aM K xs cs:=by
 induction xs generalizing cs with
 |nil=>cases cs with|nil=>exact .nil|cons _ _=>simp at hl
 |cons y xs ih=>
  cases cs with|nil=>simp at hl|cons c cs=>exact .cons _ _ _ _ (h 0 y c rfl rfl) (ih (by simpa using hl) λi x c hx hc=>h (i+1) x c (by simpa using hx) (by simpa using hc))
def aM.append{xs ys:List AV}{cs ds:List aL}(h:aM K xs cs)(k:aM K ys ds):aM K (xs++ys) (cs++ds):=by
 induction xs generalizing cs with
 |nil=>cases h;exact k
 |cons y xs ih=>cases h with|cons _ _ _ _ hy hs=>exact .cons _ _ _ _ hy (ih hs)
def aM.take{xs:List AV}{cs:List aL}(h:aM K xs cs)(n:Nat):aM K (xs.take n) (cs.take n):=by
 refine .of (by simp[h.length]) λi x c hx hc=>?_;simp only[nU] at hx hc;split at hx
 ·rename_i hi;rw[aD hi] at hc;obtain⟨c',gT,hr⟩:=h.get hx;rw[hc] at gT;injection gT with e;subst e;exact hr
 ·cases hx
def aM.drop{xs:List AV}{cs:List aL}(h:aM K xs cs)(n:Nat):aM K (xs.drop n) (cs.drop n):=by refine .of (by simp[h.length]) λi x c hx hc=>?_;simp only[pR] at hx hc;obtain⟨c',gT,hr⟩:=h.get hx;rw[hc] at gT;injection gT with e;subst e;exact hr
def aM.set{xs:List AV}{cs:List aL}(h:aM K xs cs)(i:Nat){x:AV}{c:aL}(hx:aU K x c):aM K (xs.set i x) (cs.set i c):=by
 refine .of (by simp[h.length]) λj y d hy hd=>?_;simp only[mU] at hy hd;split at hy
 ·rename_i e;subst e;rw[aD rfl] at hd;split at hy
  ·rename_i az;rw[aD (h.length ▸ az)] at hd;injection hy with hy;injection hd with hd;subst hy;subst hd;exact hx
  ·cases hy
 ·rename_i e;rw[aG e] at hd;obtain⟨c',gT,hr⟩:=h.get hy;rw[hd] at gT;injection gT with e;subst e;exact hr
def aM.map_mk{α:Type}{l:List α}{f:α->AV}{f':α->aL}(h:∀a∈l,aU K (f a) (f' a)):aM K (l.map f) (l.map f'):=by
 induction l with
 |nil=>exact .nil|cons a l ih=>exact .cons _ _ _ _ (h a bG) (ih λb hb=>h b (by simp[hb]))
def aU.iA{x:aL}{c:aL}(h:aU K (.v x) c):c=x/\scalar x=ai:=by cases h with|v _ h=>exact⟨rfl,h⟩
def MN:∀{cs:List AV} {l:List aL},Be cs=aa l->∀{vs:List aL},aM K cs vs->vs=l
 | [],l,h,_,hv=>by cases hv;simp[Be] at h;exact h.symm ▸ rfl
 | .v x::r,l,h,_,hv=>by
  cases hv with|cons _ c _ cs hx hs=>simp only[Be,dt] at h;obtain⟨l',rR,rfl⟩:=h;rw[(aU.iA hx).1,MN rR hs]
 | .bad::_,_,h,_,_| .list .. ::_,_,h,_,_| .arr .. ::_,_,h,_,_| .agg _::_,_,h,_,_| .tuple _::_,_,h,_,_| .ptr .. ::_,_,h,_,_
 | .elem .. ::_,_,h,_,_| .func .. ::_,_,h,_,_| .yield _::_,_,h,_,_| .iface .. ::_,_,h,_,_=>by simp[Be] at h
def I6{x:AV}{p:Value}(h:x.flat=some p){c:Value}(hv:aU K x c):c=p:=by
 unfold AV.flat at h;split at h
 ·injection h with h;subst h;exact(aU.iA hv).1
 ·simp only[dt] at h;obtain⟨l,hl,rfl⟩:=h;cases hv with|agg _ vs hs=>rw[<-MN hl hs]
 ·injection h with h;subst h;cases hv with|iface _ _ _ hx=>rw[(aU.iA hx).1]
 ·simp only[dt] at h;obtain⟨l,hl,rfl⟩:=h;cases hv with|iface _ _ _ hx=>cases hx with|agg _ vs hs=>rw[<-MN hl hs]
 ·injection h with h;subst h;cases hv with|nil=>rfl|list _ _ _ _ _ _ _ _ _ _ _ _ ht _=>exact ht.2.elim
 ·cases h
def MM:∀{xs:List AV} {l:List aL},flatAll xs=aa l->∀{vs:List aL},aM K xs vs->vs=l
 | [],l,h,_,hv=>by cases hv;simp[flatAll] at h;exact h.symm ▸ rfl
 |x::r,l,h,_,hv=>by
  cases hv with
  |cons _ c _ cs hx hs=>
   simp only[flatAll] at h;split at h
   ·rename_i v l' h1 h2;injection h with h;subst h;rw[I6 h1 hx,MM h2 hs]
   ·cases h
def Hz{z:aL}{x:AV}(h:nR z=aa x):aU K x z:=by
 unfold nR at h;split at h
 ·injection h with h;subst h;exact .v _ ‹_›
 ·cases h
def Ph(x:aL):aU K (vA x) x:=by
 unfold vA;split
 ·exact .nil 0
 ·split
  ·exact .v _ ‹_›
  ·exact .bad _
def J3(x:aL):aU K (sd x) x:=by
 unfold sd;split
 ·rename_i cs;refine .agg _ _ ?_;have:aM K (cs.toList.map vA) (cs.toList.map id):=aM.map_mk λa _=>Ph a;simpa using this
 ·split
  ·rename_i vs h;have:vs=#[]:=(by simpa using h);subst this;exact .tuple _ _ .nil
  ·exact .bad _
 ·exact .iface _ _ _ (Ph _)
 ·exact Ph _
def IM{x:AV}{cs:List AV}(h:x.bU=aa cs){c:aL}(hv:aU K x c):aM K cs c.cells.toList/\cs.all AV.dW=ai:=by
 unfold AV.bU at h;split at h
 ·split at h
  ·rename_i ha;injection h with h;subst h;cases hv with|agg _ vs hs=>exact⟨hs,ha⟩
  ·cases h
 ·cases h
 ·cases h
 ·rename_i h1 h2 h3;injection h with h;subst h;have p7:x.dW=ai:=by cases x<;>first|rfl|exact absurd rfl (h1 _)|exact absurd rfl (h2 _)|exact absurd rfl h3
  refine⟨?_,by simp[p7]⟩;have:c.cells=#[c]:=by cases hv<;>first|rfl|exact absurd rfl (h1 _)|exact absurd rfl (h2 _)|exact absurd rfl h3|(cases c<;>first|rfl|simp[scalar] at *)
  rw[this];exact .cons _ _ _ _ hv .nil
def ahY{c}(h:scalar c=ai):DZ c=ai:=by cases c<;>first|rfl|simp[scalar] at h
def ahX{x:AV}(h:x.dW=ai){c:aL}(hv:aU K x c):DZ c=ai:=by cases hv<;>first|rfl|exact ahY ‹_›|(simp[AV.dW] at h;done)
end
def yR(K:aP)(b:Nat)(cs:List AV)(cells:Array aL):Prop:=
 aM K cs (cells.toList.take cs.length)/\∀N sz room,K.lb b=aa (N,sz,room)->cs=[]∨(cs.length=N * sz/\room<=cells.size)
def yR.mono{K K'}(h:K.Le K'){b}(hb:b<K.β.length){cs}{cells}(r:yR K b cs cells):yR K' b cs cells:=
 ⟨r.1.mono h,by rw[h.lb b hb];exact r.2⟩
def yR.nil{K}{b}{cells}:yR K b [] cells:=⟨.nil,λ_ _ _ _=>.inl rfl⟩
def yR.le{K}{b}{cs}{cells}(r:yR K b cs cells):cs.length<=cells.size:=by have:=r.1.length;rw[fb] at this;simp only[xv] at this;omega
def mg(K:aP)(s:po)(tmps:Array aL):Prop:=∀t,aU K (s.get t) (tmps.getD t undef)
def mg.mono{K K'}(h:K.Le K'){s}{tmps}(hs:mg K s tmps):mg K' s tmps:=λt=>(hs t).mono h
structure bN(K:aP)(G:Nat->Option (List AV))(ok:bq->Nat->Code->Bool)(w0:bX)(h:ao)(w:bX):Prop where
 cZ:Below K.base w0 w
 size:K.base<=w.heap.size
 ic:∀g j c,K.ic g j=aa c->w.cell? ⟨g,j,au⟩=aa c
 eG:∀g cs,G g=aa cs->∃cells,aM K cs cells/\∀(j:Nat) (c:aL),cells[j]?=aa c->K.ic g j=aa c
 lj:K.β.length=h.boxes.length
 pQ:∀(b b' g:Nat),K.β[b]?=aa g->K.β[b']?=aa g->b=b'∨h.boxes[b]?=aa []∨h.boxes[b']?=aa []
 box:∀(b g:Nat) (cs:List AV),K.β[b]?=aa g->h.boxes[b]?=aa cs->
  K.base<=g/\(∀j,K.ic g j=au)/\cs.all AV.dW=ai/\∃cells e,w.heap[g]?=aa (.cells cells e (0,0))/\yR K b cs cells
 nS:K.γ.length=h.loops.length
 qw:∀(b b' g:Nat),K.γ[b]?=aa g->K.γ[b']?=aa g->b=b'
 loop:∀(l g:Nat) (r:gZ),K.γ[l]?=aa g->h.loops[l]?=aa r->K.base<=g/\∃fn tmps d,
  w.heap[g]?=aa (.loop {state:=r.state,pending:=r.pending,fn,tmps,params:=r.params,assign:=r.assign,body:=r.body,defers:=d})/\
  mg K r.tmps tmps/\ok fn tmps.size r.assign=ai/\ok fn tmps.size r.body=ai/\∀p∈r.params.toList,p<tmps.size
 tn:K.tn=h.tn
 tok:∀t,alive h t=ai->K.base<=(K.tk t).1/\(∀b:Nat,K.β[b]?≠aa (K.tk t).1)/\(∀j,(K.tk t).2.1<=j->K.ic (K.tk t).1 j=au)/\
  ∃cells e fz,w.heap[(K.tk t).1]?=aa (.cells cells e fz)/\cells.size=(K.tk t).2.2/\
   ∀j,(K.tk t).2.1<=j->j<cells.size->w.frozen? ⟨(K.tk t).1,j,au⟩=ay
 pN:∀t t',alive h t=ai->alive h t'=ai->(K.tk t).1=(K.tk t').1->t=t'
 md:∀r∈K.md,K.base<=r/\w.heap[r]?=aa (.deferred (aa []))
 all:K.base=w0.heap.size
def Addr.mh(g o n):(⟨g,o,au⟩:Addr).add n=⟨g,o+n,au⟩:=by
 unfold Addr.add;split
 ·subst_vars;rfl
 ·rfl
def uP{h}{t}(ha:alive h t=ai):t<h.tn:=by unfold alive at ha;simp at ha;exact ha.1
section
variable {K:aP} {G:Nat->Option (List AV)} {ok:bq->Nat->Code->Bool} {w0 w:bX} {h:ao}
def bN.Aj(s:bN K G ok w0 h w){g j:Nat}{c:aL}(hc:K.ic g j=aa c):g<w.heap.size:=by
 have:=s.ic g j c hc;unfold World.cell? at this;rcases dT g w.heap.size with az|eo
 ·exact az
 ·simp[xu eo] at this
def bN.same{w':bX}(s:bN K G ok w0 h w)(hh:w'.heap=w.heap)(ht:w'.tape=w.tape)(ho:w'.os=w.os)(hp:w'.output=w.output):bN K G ok w0 h w':=by
 have hc:∀a,w'.cell? a=w.cell? a:=λa=>by simp[World.cell?,hh]
 have hf:∀a,w'.frozen? a=w.frozen? a:=λa=>by simp[World.frozen?,hh]
 refine⟨⟨ho.trans s.cZ.os,ht.trans s.cZ.tape,hp.trans s.cZ.output,by rw[hh];exact s.cZ.size,λk hk=>by rw[hh];exact s.cZ.block k hk⟩,by rw[hh];exact s.size,
  λg j c hg=>(hc _).trans (s.ic g j c hg),s.eG,s.lj,s.pQ,λb g cs hb hc=>by rw[hh];exact s.box b g cs hb hc,s.nS,s.qw,
  λl g r hl hr=>by rw[hh];exact s.loop l g r hl hr,s.tn,λt ht=>?_,s.pN,λr hr=>by rw[hh];exact s.md r hr,s.all⟩
 obtain⟨h1,h2,h3,cells,e,fz,h4,h5,h6⟩:=s.tok t ht;exact⟨h1,h2,h3,cells,e,fz,by rw[hh];exact h4,h5,λj hj hl=>(hf _).trans (h6 j hj hl)⟩
def bN.drew(s:bN K G ok w0 h w)(n:Nat):bN K G ok w0 h {w with drawn:=n}:=s.same rfl rfl rfl rfl
def Bt(w:bX)(o){k}(hk:k<w.heap.size):(w.heap.push o)[k]?=w.heap[k]?:=by rw[Array.getElem?_push,aG ah]
def oF{w:bX}{g}{o}(h:w.heap[g]?=aa o):g<w.heap.size:=by
 rcases dT g w.heap.size with az|eo
 ·exact az
 ·rw[xu eo] at h;cases h
def bN.push(s:bN K G ok w0 h w)(o:Obj):bN K G ok w0 h {w with heap:=w.heap.push o}:=by
 have hk:∀{k:Nat} {o':Obj},w.heap[k]?=aa o'->(w.heap.push o)[k]?=aa o':=λhk=>(Bt w o (oF hk)).trans hk;refine⟨⟨s.cZ.os,s.cZ.tape,s.cZ.output,by have:=s.cZ.size;simp;omega,λk hk=>(Bt w o (mD hk s.size)).trans (s.cZ.block k hk)⟩,by have:=s.size;simp;omega,
  λg j c hg=>?_,s.eG,s.lj,s.pQ,λb g cs hb hc=>?_,s.nS,s.qw,λl g r hl hr=>?_,s.tn,λt ht=>?_,s.pN,λr hr=>?_,s.all⟩
 ·rw[<-s.ic g j c hg];exact World.cell?_of_block (w:=w) (Bt w o (s.Aj hg))
 ·obtain⟨h1,h2,ha,cells,e,h3,h4⟩:=s.box b g cs hb hc;exact⟨h1,h2,ha,cells,e,hk h3,h4⟩
 ·obtain⟨h1,fn,tmps,d,h2,h3⟩:=s.loop l g r hl hr;exact⟨h1,fn,tmps,d,hk h2,h3⟩
 ·obtain⟨h1,h2,h3,cells,e,fz,h4,h5,h6⟩:=s.tok t ht;refine⟨h1,h2,h3,cells,e,fz,hk h4,h5,λj hj hl=>?_⟩;rw[<-h6 j hj hl];exact World.frozen?_of_block (w:=w) (Bt w o (oF h4))
 ·exact⟨(s.md r hr).1,hk (s.md r hr).2⟩
def uZ{α:Type}{l}{x}{i:Nat}{y:α}(h:l[i]?=aa y):(l++[x])[i]?=aa y:=by rw[ru (aQ.1 h).1];exact h
def rM{α:Type}{l}{x}{i}{y:α}(h:(l++[x])[i]?=aa y):l[i]?=aa y∨(i=l.length/\y=x):=by
 rcases Nat.lt_trichotomy i l.length with az|lQ|F9
 ·rw[ru az] at h;exact .inl h
 ·subst lQ;simp at h;exact .inr ⟨rfl,h.symm⟩
 ·rw[List.getElem?_eq_none (by simp;omega)] at h;cases h
def aP.oS(K:aP)(g:Nat)(x:Option (Nat × Nat × Nat)):aP:={K with β:=K.β++[g],lb:=λb=>if b=K.β.length then x else K.lb b}
def aP.box(K:aP)(g:Nat):aP:=K.oS g au
def aP.D4(K:aP)(g)(x):K.Le (K.oS g x):=
 ⟨rfl,λ_ _ _ h=>h,λ_ _ h=>uZ h,λ_ _ h=>h,aJ _,λ_ _=>rfl,λ_ h=>h,λb hb=>aG ah,λ_ _ _ h=>.inl h⟩
def aP.OS(K:aP)(g):K.Le (K.box g):=K.D4 g au
def bN.Pb(s:bN K G ok w0 h w){cs:List AV}{cells:Array aL}(e:aH)(x:Option (Nat × Nat × Nat))(hv:aM K cs (cells.toList.take cs.length))(pZ:cs.all AV.dW=ai)
 (hx:∀N sz room,x=aa (N,sz,room)->cs=[]∨(cs.length=N * sz/\room<=cells.size)):
 bN (K.oS w.heap.size x) G ok w0 {h with boxes:=h.boxes++[cs]} {w with heap:=w.heap.push (.cells cells e)}/\
 aU (K.oS w.heap.size x) (.ptr (.box h.boxes.length) 0) (.pointer (aa ⟨w.heap.size,0,au⟩)):=by
 have le:=K.D4 w.heap.size x;have p:=s.push (.cells cells e);have lv:(K.oS w.heap.size x).β[h.boxes.length]?=aa w.heap.size:=by simp[aP.oS,<-s.lj]
 have az:∀{b g:Nat},K.β[b]?=aa g->g<w.heap.size:=λ{b g} hb=>by
  have jr:b<h.boxes.length:=by rw[<-s.lj];exact(aQ.1 hb).1
  obtain⟨_,_,_,_,_,h3,_⟩:=s.box b g _ hb (a9 jr);exact oF h3
 have By:∀j,K.ic w.heap.size j=au:=λj=>by
  cases hc:K.ic w.heap.size j with|none=>rfl|some c=>have:=s.Aj hc;omega
 refine⟨⟨p.cZ,p.size,p.ic,λg cs hg=>?_,by simp[aP.oS,s.lj],λb b' g hb gQ=>?_,λb g dF hb hc=>?_,p.nS,p.qw,λl g r hl hr=>?_,p.tn,λt ht=>?_,p.pN,p.md,s.all⟩,.box _ _ _ lv⟩
 ·obtain⟨dw,h1,h2⟩:=s.eG g cs hg;exact⟨dw,h1.mono le,h2⟩
 ·rcases rM hb with hb|⟨rfl,rfl⟩<;>rcases rM gQ with gQ|⟨rfl,h2⟩
  ·rcases s.pQ _ _ _ hb gQ with p|p|p
   ·exact .inl p
   ·exact .inr (.inl (uZ p))
   ·exact .inr (.inr (uZ p))
  ·have:=az hb;omega
  ·have:=az gQ;omega
  ·exact .inl rfl
 ·rcases rM hb with hb|⟨rfl,rfl⟩
  ·rcases rM hc with hc|⟨rfl,rfl⟩
   ·obtain⟨h1,h2,ha,dw,e',h3,h4⟩:=p.box b g dF hb hc;exact⟨h1,h2,ha,dw,e',h3,h4.mono le (aQ.1 hb).1⟩
   ·have:h.boxes.length<K.β.length:=(aQ.1 hb).1;have:=s.lj;omega
  ·have:dF=cs:=(by rw[s.lj] at hc;simp at hc;exact hc.symm);subst this;exact⟨s.size,By,pZ,cells,e,by simp,hv.mono le,by simp only[aP.oS,if_true];exact hx⟩
 ·obtain⟨h1,fn,tmps,d,h2,h3,h4⟩:=p.loop l g r hl hr;exact⟨h1,fn,tmps,d,h2,h3.mono le,h4⟩
 ·obtain⟨h1,h2,h3,dw,e',fz,h4,h5⟩:=p.tok t ht;refine⟨h1,λb hb=>?_,h3,dw,e',fz,h4,h5⟩;obtain⟨_,_,_,_,_,_,M6,_⟩:=s.tok t ht;rcases rM hb with hb|⟨_,hb⟩
  ·exact h2 b hb
  ·have:=oF M6;simp only[aP.oS] at hb;omega
def aM.whole{cs:List AV}{vs:List aL}(h:aM K cs vs):aM K cs (vs.take cs.length):=by rw[fK (by rw[h.length];exact aJ _)];exact h
def bN.Pa(s:bN K G ok w0 h w){cs:List AV}{cells:Array aL}(e:aH)(hv:aM K cs cells.toList)(pZ:cs.all AV.dW=ai):
 bN (K.box w.heap.size) G ok w0 {h with boxes:=h.boxes++[cs]} {w with heap:=w.heap.push (.cells cells e)}/\
 aU (K.box w.heap.size) (.ptr (.box h.boxes.length) 0) (.pointer (aa ⟨w.heap.size,0,au⟩)):=s.Pb e au hv.whole pZ (λ_ _ _ q=>by cases q)
structure tR(w w':bX)(g:Nat)(o:Obj):Prop where
 os:w'.os=w.os
 tape:w'.tape=w.tape
 output:w'.output=w.output
 size:w'.heap.size=w.heap.size
 other:∀k,k≠g->w'.heap[k]?=w.heap[k]?
 this:w'.heap[g]?=aa o
def tR.lt{w w'}{g}{o}(c:tR w w' g o):g<w.heap.size:=c.size ▸ oF c.this
def tR.below{w w'}{g}{o}(c:tR w w' g o){B}(hB:B<=g):Below B w w':=
 ⟨c.os,c.tape,c.output,by rw[c.size];exact aJ _,λk hk=>c.other k ah⟩
def nb(fz:Nat × Nat)(j:Nat):Bool:=decide (fz.1<=j)&&decide (j<fz.2)
def zC{w:bX}{g}{cells}{e}{fz}(h:w.heap[g]?=aa (.cells cells e fz))(j):w.frozen? ⟨g,j,au⟩=nb fz j:=by obtain⟨lo,hi⟩:=fz;simp[World.frozen?,h,nb]
def rJ{w:bX}{g}{cells}{e}{fz}(h:w.heap[g]?=aa (.cells cells e fz))(j):w.cell? ⟨g,j,au⟩=cells[j]?:=by simp[World.cell?,h]
def bN.aeP(s:bN K G ok w0 h w)(b:Nat):bN K G ok w0 {h with boxes:=h.boxes.set b []} w:=by
 refine⟨s.cZ,s.size,s.ic,s.eG,by simp[s.lj],λb1 b2 g h1 h2=>?_,λb' g' dF gQ gT=>?_,s.nS,s.qw,s.loop,s.tn,s.tok,s.pN,s.md,s.all⟩
 ·have key:∀k,h.boxes[k]?=aa []->(h.boxes.set b [])[k]?=aa []:=λk hk=>by
   rw[mU];split
   ·rename_i e;subst e;rw[aD (aQ.1 hk).1]
   ·exact hk
  rcases s.pQ _ _ _ h1 h2 with p|p|p
  ·exact .inl p
  ·exact .inr (.inl (key _ p))
  ·exact .inr (.inr (key _ p))
 ·simp only[mU] at gT;split at gT
  ·rename_i e';subst e';split at gT
   ·rename_i az;injection gT with gT;subst gT;obtain⟨k1,k2,_,cells0,e0,k3,k4⟩:=s.box _ _ _ gQ (a9 az);exact⟨k1,k2,rfl,cells0,e0,k3,.nil⟩
   ·cases gT
  ·exact s.box b' g' dF gQ gT
def bN.aoA{w':bX}(s:bN K G ok w0 h w){b g:Nat}{cs cZ:List AV}{cells:Array aL}{e:aH}(hb:K.β[b]?=aa g)(hold:h.boxes[b]?=aa cZ)(bE:cZ≠[])(bO:cs.length=cZ.length)(dV:∀c0 e0,w.heap[g]?=aa (.cells c0 e0 (0,0))->c0.size<=cells.size)
 (c:tR w w' g (.cells cells e (0,0))) (hv:aM K cs (cells.toList.take cs.length)) (pZ:cs.all AV.dW=ai):bN K G ok w0 {h with boxes:=h.boxes.set b cs} w':=by
 have az:=(aQ.1 hold).1;obtain⟨k1,k2,_,cells0,e0,k3,k4⟩:=s.box b g _ hb hold;refine⟨s.cZ.trans (c.below k1),by rw[c.size];exact s.size,λg' j x hx=>?_,s.eG,by simp[s.lj],λb1 b2 g h1 h2=>?_,λb' g' dF gQ gT=>?_,s.nS,s.qw,λl g' r hl hr=>?_,s.tn,λt ht=>?_,s.pN,λr hr=>?_,s.all⟩
 ·have bE:g'≠g:=by rintro rfl;rw[k2 j] at hx;cases hx
  rw[<-s.ic g' j x hx];exact World.cell?_of_block (w:=w) (c.other g' bE)
 ·have key:∀k,h.boxes[k]?=aa []->(h.boxes.set b cs)[k]?=aa []:=λk hk=>by
   rw[mU,aG]
   ·exact hk
   ·rintro rfl;rw[hold] at hk;injection hk with hk;exact bE hk
  rcases s.pQ _ _ _ h1 h2 with p|p|p
  ·exact .inl p
  ·exact .inr (.inl (key _ p))
  ·exact .inr (.inr (key _ p))
 ·simp only[mU] at gT;split at gT
  ·rename_i e';subst e';injection gT with gT;subst gT;rw[hb] at gQ;injection gQ with gQ;subst gQ;refine⟨k1,k2,pZ,cells,e,c.this,hv,λN sz room q=>?_⟩;rcases k4.2 N sz room q with r|⟨r1,r2⟩
   ·exact absurd r bE
   ·exact .inr ⟨bO.trans r1,fc r2 (dV _ _ k3)⟩
  ·rename_i Jy;by_cases iD:g'=g
   ·subst iD;rcases s.pQ _ _ _ hb gQ with p|p|p
    ·exact absurd p Jy
    ·rw[hold] at p;injection p with p;exact absurd p bE
    ·rw[gT] at p;injection p with p;subst p;exact⟨k1,k2,rfl,cells,e,c.this,.nil⟩
   ·obtain⟨h1,h2,ha,dw,e',h3,h4⟩:=s.box b' g' dF gQ gT;exact⟨h1,h2,ha,dw,e',(c.other g' iD).trans h3,h4⟩
 ·obtain⟨h1,fn,tmps,d,h2,h3⟩:=s.loop l g' r hl hr;have iD:g'≠g:=by rintro rfl;rw[h2] at k3;cases k3
  exact⟨h1,fn,tmps,d,(c.other g' iD).trans h2,h3⟩
 ·obtain⟨h1,h2,h3,dw,e',fz,h4,h5,h6⟩:=s.tok t ht;have iD:(K.tk t).1≠g:=λe=>h2 b (e ▸ hb);refine⟨h1,h2,h3,dw,e',fz,(c.other _ iD).trans h4,h5,λj hj hl=>?_⟩;rw[<-h6 j hj hl];exact World.frozen?_of_block (w:=w) (c.other _ iD)
 ·have h2:=(s.md r hr).2;have iD:r≠g:=by rintro rfl;rw[h2] at k3;cases k3
  exact⟨(s.md r hr).1,(c.other r iD).trans h2⟩
def bN.aqf{w':bX}(s:bN K G ok w0 h w){g:Nat}{cs:List AV}{cells:Array aL}{e:aH}(hg:K.base<=g)(iq:∀j,K.ic g j=au)(Nv:∀b:Nat,K.β[b]?=aa g->h.boxes[b]?=aa [])
 (ahD:∀t,alive h t=ai->(K.tk t).1≠g) {c0:Array aL} {e0:aH} {z0:Nat × Nat} (BY:w.heap[g]?=aa (.cells c0 e0 z0))
 (x:Option (Nat × Nat × Nat)) (hx:∀N sz room,x=aa (N,sz,room)->cs=[]∨(cs.length=N * sz/\room<=cells.size))
 (c:tR w w' g (.cells cells e (0,0))) (hv:aM K cs (cells.toList.take cs.length)) (pZ:cs.all AV.dW=ai):
 bN (K.oS g x) G ok w0 {h with boxes:=h.boxes++[cs]} w'/\(K.oS g x).β[h.boxes.length]?=aa g:=by
 have le:=K.D4 g x;have lv:(K.oS g x).β[h.boxes.length]?=aa g:=by simp[aP.oS,<-s.lj]
 refine⟨⟨s.cZ.trans (c.below hg),by rw[c.size];exact s.size,λg' j x hx=>?_,λg' dF hg'=>?_,by simp[aP.oS,s.lj],λb b' g' hb gQ=>?_,λb g' dF hb hc=>?_,s.nS,s.qw,λl g' r hl hr=>?_,s.tn,λt ht=>?_,s.pN,λr hr=>?_,s.all⟩,lv⟩
 ·have rY:K.ic g' j=aa x:=hx;have bE:g'≠g:=λq=>by rw[q,iq j] at rY;cases rY
  rw[<-s.ic g' j x rY];exact World.cell?_of_block (w:=w) (c.other g' bE)
 ·obtain⟨dw,h1,h2⟩:=s.eG g' dF hg';exact⟨dw,h1.mono le,h2⟩
 ·rcases rM hb with p|⟨p1,p2⟩<;>rcases rM gQ with q|⟨q1,q2⟩
  ·rcases s.pQ _ _ _ p q with r|r|r
   ·exact .inl r
   ·exact .inr (.inl (uZ r))
   ·exact .inr (.inr (uZ r))
  ·subst q2;exact .inr (.inl (uZ (Nv _ p)))
  ·subst p2;exact .inr (.inr (uZ (Nv _ q)))
  ·exact .inl (by rw[p1,q1])
 ·rcases rM hb with p|⟨p1,p2⟩
  ·have jr:b<h.boxes.length:=(by rw[<-s.lj];exact(aQ.1 p).1);rw[ru jr] at hc;by_cases iD:g'=g
   ·subst iD;have:=Nv b p;rw[hc] at this;injection this with this;subst this;exact⟨hg,iq,rfl,cells,e,c.this,.nil⟩
   ·obtain⟨h1,h2,ha,dw,e',h3,h4⟩:=s.box b g' dF p hc;exact⟨h1,h2,ha,dw,e',(c.other g' iD).trans h3,h4.mono le (aQ.1 p).1⟩
  ·subst p2;have:dF=cs:=(by rw[p1,s.lj] at hc;simp at hc;exact hc.symm);subst this;exact⟨hg,iq,pZ,cells,e,c.this,hv.mono le,by rw[p1];simp only[aP.oS,if_true];exact hx⟩
 ·obtain⟨h1,fn,tmps,d,h2,h3,h4⟩:=s.loop l g' r hl hr;have iD:g'≠g:=by rintro rfl;rw[h2] at BY;cases BY
  exact⟨h1,fn,tmps,d,(c.other g' iD).trans h2,h3.mono le,h4⟩
 ·obtain⟨h1,h2,h3,dw,e',fz,h4,h5,h6⟩:=s.tok t ht;have iD:=ahD t ht;refine⟨h1,λb hb=>?_,h3,dw,e',fz,(c.other _ iD).trans h4,h5,λj hj hl=>?_⟩
  ·rcases rM hb with p|⟨-,p⟩
   ·exact h2 b p
   ·exact iD p
  ·rw[<-h6 j hj hl];exact World.frozen?_of_block (w:=w) (c.other _ iD)
 ·have h2:=(s.md r hr).2;have iD:r≠g:=by rintro rfl;rw[h2] at BY;cases BY
  exact⟨(s.md r hr).1,(c.other r iD).trans h2⟩
def aP.row(K:aP)(g off m size:Nat)(cells:Nat->Option aL):aP:=
 {K with ic:=λg' j=>if g'=g/\off<=j/\j<m then cells j else K.ic g' j,tn:=K.tn+1,tk:=λt=>if t=K.tn then (g,m,size) else K.tk t}
def aP.OU{K:aP}{g off m size}{cells}(h:∀j,off<=j->K.ic g j=au)(hb:K.base<=g):K.Le (K.row g off m size cells):=by
 refine⟨rfl,λg' j c hc=>?_,λ_ _ h=>h,λ_ _ h=>h,Nat.le_succ _,λt ht=>?_,λ_ h=>h,λ_ _=>rfl,λg' j c hc=>?_⟩
 ·simp only[aP.row];rw[aG]
  ·exact hc
  ·rintro⟨rfl,h1,_⟩;rw[h j h1] at hc;cases hc
 ·simp only[aP.row];rw[aG ah]
 ·simp only[aP.row] at hc;split at hc
  ·rename_i q;rw[q.1];exact .inr hb
  ·exact .inl hc
def bN.row{w':bX}{h':ao}(s:bN K G ok w0 h w){g off m:Nat}{cells:Array aL}{e:aH}{fz:Nat × Nat}
 (FZ:h'.boxes=h.boxes) (Vd:h'.loops=h.loops) (tI:h'.tn=h.tn+1) (fM:∀t,alive h' t=ai->t=h.tn∨(alive h t=ai/\(K.tk t).1≠g))
 (zH:K.base<=g) (Jy:∀b:Nat,K.β[b]?≠aa g) (iq:∀j,off<=j->K.ic g j=au) (dV:w.heap.size<=w'.heap.size)
 (Ob:w'.os=w.os) (Ov:w'.tape=w.tape) (zX:w'.output=w.output)
 (np:∀k o,k≠g->w.heap[k]?=aa o->w'.heap[k]?=aa o) (nN:w'.heap[g]?=aa (.cells cells e fz))
 (BY:∀o,w.heap[g]?=aa o->∃c0 e0 z0,o=.cells c0 e0 z0)
 (agU:∀j c,K.ic g j=aa c->cells[j]?=aa c) (hom:off<=m) (_hm:m<=cells.size) (Bv:∀j,m<=j->j<cells.size->nb fz j=ay):
 bN (K.row g off m cells.size (λj=>cells[j]?)) G ok w0 h' w':=by
 have le:=aP.OU (m:=m) (size:=cells.size) (cells:=λj=>cells[j]?) iq zH;refine⟨?_,fc s.size dV,λg' j x hx=>?_,λg' cs hg=>?_,by rw[FZ];exact s.lj,by rw[FZ];exact s.pQ,λb g' cs hb hc=>?_,by rw[Vd];exact s.nS,s.qw,λl g' r hl hr=>?_,by rw[tI];simp[aP.row,s.tn],
  λt ht=>?_,λt t' ht Gy lQ=>?_,λr hr=>?_,s.all⟩
 ·refine s.cZ.trans ⟨Ob,Ov,zX,dV,λk hk=>?_⟩;have az:k<w.heap.size:=mD hk s.size;have BA:w.heap[k]?=aa (w.heap[k]):=mf az;have zT:k<K.base:=hk;rw[BA];exact np k _ ah BA
 ·simp only[aP.row] at hx;split at hx
  ·rename_i hc;obtain⟨rfl,_,_⟩:=hc;rw[rJ nN];exact hx
  ·by_cases iD:g'=g
   ·subst iD;rw[rJ nN];exact agU j x hx
   ·have az:=s.Aj hx;rw[<-s.ic g' j x hx];refine World.cell?_of_block (w:=w) ?_;simp only;rw[mf az];exact np g' _ iD (mf az)
 ·obtain⟨dw,h1,h2⟩:=s.eG g' cs hg;exact⟨dw,h1.mono le,λj c hj=>le.ic _ _ _ (h2 j c hj)⟩
 ·rw[FZ] at hc;obtain⟨h1,h2,ha,dw,e',h3,h4⟩:=s.box b g' cs hb hc;have iD:g'≠g:=λe=>Jy b (e ▸ hb);refine⟨h1,λj=>?_,ha,dw,e',np g' _ iD h3,h4.mono le (aQ.1 hb).1⟩;simp only[aP.row];rw[aG (λhh=>iD hh.1)];exact h2 j
 ·rw[Vd] at hr;obtain⟨h1,fn,tmps,d,h2,h3,h4⟩:=s.loop l g' r hl hr;have iD:g'≠g:=by rintro rfl;obtain⟨_,_,_,h⟩:=BY _ h2;cases h
  exact⟨h1,fn,tmps,d,np g' _ iD h2,h3.mono le,h4⟩
 ·rcases fM t ht with rfl|⟨wT,Ad⟩
  ·simp only[aP.row,s.tn,if_true];refine⟨zH,Jy,λj hj=>?_,cells,e,fz,nN,rfl,λj hj hl=>(zC nN j).trans (Bv j hj hl)⟩;rw[aG ah];exact iq j ah
  ·have ahC:=uP wT;have e1:(K.row g off m cells.size (λj=>cells[j]?)).tk t=K.tk t:=le.tk t (by rw[s.tn];exact ahC);rw[e1];obtain⟨h1,h2,h3,dw,e',fz',h4,h5,h6⟩:=s.tok t wT;refine⟨h1,h2,λj hj=>?_,dw,e',fz',np _ _ Ad h4,h5,λj hj hl=>?_⟩
   ·simp only[aP.row];rw[aG (λhh=>Ad hh.1)];exact h3 j hj
   ·rw[<-h6 j hj hl,zC h4,zC (np _ _ Ad h4)]
 ·rcases fM t ht with rfl|⟨wT,Ad⟩<;>rcases fM t' Gy with rfl|⟨Ou,ahA⟩
  ·rfl
  ·exfalso;have e1:(K.row g off m cells.size (λj=>cells[j]?)).tk t'=K.tk t':=le.tk t' (by rw[s.tn];exact uP Ou);rw[e1] at lQ;simp[aP.row,s.tn] at lQ;exact ahA lQ.symm
  ·exfalso;have e1:(K.row g off m cells.size (λj=>cells[j]?)).tk t=K.tk t:=le.tk t (by rw[s.tn];exact uP wT);rw[e1] at lQ;simp[aP.row,s.tn] at lQ;exact Ad lQ
  ·have e1:(K.row g off m cells.size (λj=>cells[j]?)).tk t=K.tk t:=le.tk t (by rw[s.tn];exact uP wT);have e2:(K.row g off m cells.size (λj=>cells[j]?)).tk t'=K.tk t':=le.tk t' (by rw[s.tn];exact uP Ou);rw[e1,e2] at lQ;exact s.pN t t' wT Ou lQ
 ·obtain⟨h1,h2⟩:=s.md r hr;have iD:r≠g:=by rintro rfl;obtain⟨_,_,_,h⟩:=BY _ h2;cases h
  exact⟨h1,np r _ iD h2⟩
def aP.tight(K:aP)(g:Nat)(cells:Array aL):aP:={K with ic:=λg' j=>if g'=g then cells[j]? else K.ic g' j}
def bN.ai4(s:bN K G ok w0 h w)(cells:Array aL)(e:aH):
 K.Le (K.tight w.heap.size cells)/\bN (K.tight w.heap.size cells) G ok w0 h {w with heap:=w.heap.push (.cells cells e)}:=by
 have By:∀j,K.ic w.heap.size j=au:=λj=>by
  cases hc:K.ic w.heap.size j with|none=>rfl|some c=>have:=s.Aj hc;omega
 have le:K.Le (K.tight w.heap.size cells):=by
  refine⟨rfl,λg j c hc=>?_,λ_ _ h=>h,λ_ _ h=>h,aJ _,λ_ _=>rfl,λ_ h=>h,λ_ _=>rfl,λg j c hc=>by
   simp only[aP.tight] at hc;split at hc
   ·rename_i q;rw[q];exact .inr s.size
   ·exact .inl hc⟩
  simp only[aP.tight];rw[aG]
  ·exact hc
  ·rintro rfl;rw[By] at hc;cases hc
 have p:=s.push (.cells cells e);refine⟨le,p.cZ,p.size,λg j x hx=>?_,λg cs hg=>?_,p.lj,p.pQ,λb g cs hb hc=>?_,p.nS,p.qw,λl g r hl hr=>?_,p.tn,λt ht=>?_,p.pN,p.md,s.all⟩
 ·simp only[aP.tight] at hx;split at hx
  ·subst_vars;rw[rJ (cells:=cells) (e:=e) (fz:=(0,0)) bG];exact hx
  ·exact p.ic g j x hx
 ·obtain⟨dw,h1,h2⟩:=s.eG g cs hg;exact⟨dw,h1.mono le,λj c hj=>le.ic _ _ _ (h2 j c hj)⟩
 ·obtain⟨h1,h2,ha,dw,e',h3,h4⟩:=p.box b g cs hb hc;refine⟨h1,λj=>?_,ha,dw,e',h3,h4.mono le (aQ.1 hb).1⟩;simp only[aP.tight];obtain⟨_,_,_,_,_,h3',_⟩:=s.box b g cs hb hc;rw[aG (by have:=oF h3';omega)];exact h2 j
 ·obtain⟨h1,fn,tmps,d,h2,h3,h4⟩:=p.loop l g r hl hr;exact⟨h1,fn,tmps,d,h2,h3.mono le,h4⟩
 ·obtain⟨h1,h2,h3,dw,e',fz,h4,h5⟩:=p.tok t ht;obtain⟨_,_,_,_,_,_,M6,_⟩:=s.tok t ht;refine⟨h1,h2,λj hj=>?_,dw,e',fz,h4,h5⟩;simp only[aP.tight];have:=oF M6;have e1:(K.tight w.heap.size cells).tk t=K.tk t:=rfl;rw[aG (by show(K.tk t).1≠_;omega)];exact h3 j hj
end
section
variable {P:bB}
def dk{t:aH}{d:TypeDesc}(h:P.underlying t=aa d)(w:bX):(underlying t).run P w=.ok d w:=run_underlying h w
def rk{t:aH}{i:TypeInfo}(h:P.info? t=aa i)(w:bX):(typeInfo t).run P w=.ok i w:=by simp[typeInfo,h]
def aoO{t:aH}{n:Nat}(h:dm P t=aa n):∃i,P.info? t=aa i/\i.size=n:=by simpa [dm] using h
def nx{t:aH}{n:Nat}(h:dm P t=aa n)(w:bX):(sizeOf t).run P w=.ok n w:=by obtain⟨i,h1,h2⟩:=aoO h;simp[sizeOf,rk h1,h2]
def Kw{t:aH}{b:Bool}(h:fY P t=aa b)(w:bX):(isAgg t).run P w=.ok b w:=by
 unfold fY at h;unfold isAgg;cases hu:P.underlying t with
 |none=>rw[hu] at h;cases h
 |some d=>rw[hu] at h;rw[Sem.run_bind,dk hu];cases d<;>(injection h with h;subst h;rfl)
def Qn{t:aH}{z:AV}(h:gy P t=aa z)(w:bX):∃v,(zeroValue t).run P w=.ok v w/\z=sd v:=by
 unfold gy at h;split at h
 ·rename_i i hi;simp only[dt] at h;obtain⟨v,hv,rfl⟩:=h;exact⟨v,by simp[zeroValue,rk hi,hv],rfl⟩
 ·cases h
def MO{α:Type}{es:List (List α)}{sz}(hr:∀r∈es,r.length=sz):∀{i:Nat} {row:List α},es[i]?=aa row->(es.flatten.drop (i * sz)).take sz=row:=by
 induction es with
 |nil=>intro i row h;simp at h|cons r es ih=>
  have hl:r.length=sz:=hr r bG;intro i row h;cases i with|zero=>simp at h;subst h;simp[<-hl]|succ i=>have:=ih (λr fN=>hr r (by simp[fN])) (i:=i) (row:=row) (by simpa using h);rw[<-this];simp only[oK];rw[CN,show(i+1) * sz=r.length+i * sz by rw[hl,fW];omega];rw[sK ah];simp
def MP{α:Type}{es:List (List α)}{sz}(hr:∀r∈es,r.length=sz):∀n:Nat,(es.take n).flatten=es.flatten.take (n * sz):=by
 induction es with
 |nil=>intro n;simp|cons r es ih=>
  have hl:r.length=sz:=hr r bG;intro n;cases n with|zero=>simp|succ n=>rw[List.take_succ_cons,oK,oK,ih (λr hm=>hr r (by simp[hm])) n,show(n+1) * sz=r.length+n * sz by rw[hl,fW];omega];rw[Iq,fK (ah:r.length<=r.length+n * sz),(ah:r.length+n * sz - r.length=n * sz)]
def TR{α:Type}{es:List (List α)}{sz}(hr:∀r∈es,r.length=sz):∀n:Nat,(es.drop n).flatten=es.flatten.drop (n * sz):=by
 induction es with
 |nil=>intro n;simp|cons r es ih=>
  have hl:r.length=sz:=hr r bG;intro n;cases n with|zero=>simp|succ n=>rw[List.drop_succ_cons,oK,ih (λr hm=>hr r (by simp[hm])) n,show(n+1) * sz=r.length+n * sz by rw[hl,fW];omega];rw[CN,sK (ah:r.length<=r.length+n * sz),(ah:r.length+n * sz - r.length=n * sz)];simp
def na{α:Type}{es:List (List α)}{sz}(hr:∀r∈es,r.length=sz):es.flatten.length=es.length * sz:=by
 induction es with
 |nil=>simp|cons r es ih=>rw[oK,du,ih (λr fN=>hr r (by simp[fN])),hr r bG,iJ,fW];omega
end
section
variable {P:bB} {K:aP} {G:Nat->Option (List AV)} {ok:bq->Nat->Code->Bool} {w0 w:bX} {h:ao}
def βaa{b:Nat}{g:Nat}(s:bN K G ok w0 h w)(hb:K.β[b]?=aa g):∃cs,h.boxes[b]?=aa cs:=by
 have jr:b<h.boxes.length:=by rw[<-s.lj];exact(aQ.1 hb).1
 exact⟨_,a9 jr⟩
def SY(s:bN K G ok w0 h w){a:AV}{cs:List AV}(hc:A4 G h a=aa cs){ca:aL}(hv:aU K a ca):
 ∃g p eu,ca=.pointer (aa ⟨g,p,au⟩)/\aM K cs eu/\∀(j:Nat) (c:aL),eu[j]?=aa c->w.cell? ⟨g,p+j,au⟩=aa c:=by
 unfold A4 at hc;split at hc
 ·rename_i r off;simp only[dt] at hc;obtain⟨cs0,h0,rfl⟩:=hc;cases hv with
  |box b g _ hb=>
   obtain⟨_,_,_,cells,e,h3,h4⟩:=s.box b g cs0 hb h0;refine⟨g,off,(cells.toList.take cs0.length).drop off,rfl,h4.1.drop off,λj c hj=>?_⟩;rw[rJ h3];simp only[pR,nU] at hj;split at hj
   ·simpa using hj
   ·cases hj
  |eG g _=>obtain⟨cells,h1,h2⟩:=s.eG g cs0 h0;refine⟨g,off,cells.drop off,rfl,h1.drop off,λj c hj=>?_⟩;exact s.ic _ _ _ (h2 (off+j) c (by simpa using hj))
 ·rename_i sz es i off;simp only[dt] at hc;obtain⟨row,h0,rfl⟩:=hc;cases hv with
  |elem _ _ _ _ g o p cells hr fH iq hi hp ha=>
   refine⟨g,p,((cells.drop (i * sz)).take sz).drop off,rfl,?_,λj c hj=>?_⟩
   ·have:=((fH.drop (i * sz)).take sz).drop off
    rwa [MO hr h0] at this
   ·refine s.ic _ _ _ ?_;have h1:cells[i * sz+off+j]?=aa c:=by
     simp only[pR,nU] at hj;split at hj
     ·rw[<-hj];congr 1;omega
     ·cases hj
    have:=iq _ _ h1;rw[hp];rw[<-this];congr 1;omega
 ·cases hc
def Wu(s:bN K G ok w0 h w){t:aH}{a x:AV}(he:aF P G h t a=aa x){ca:aL}(hv:aU K a ca):
 ∃g p v,ca=.pointer (aa ⟨g,p,au⟩)/\(loadVar t ⟨g,p,au⟩).run P w=.ok v w/\aU K x v:=by
 unfold aF at he;split at he
 ·rename_i cs Bk bZ;obtain⟨g,p,eu,rfl,fH,p7⟩:=SY s bZ hv;split at he
  ·rename_i n hn;split at he
   ·rename_i eC;injection he with he;subst he;have hl:=run_loadCells_list (P:=P) w ⟨g,p,au⟩ (eu.take n) (λj v hj=>by
     rw[Addr.mh];refine p7 j v ?_;simp only[nU] at hj;split at hj
     ·exact hj
     ·cases hj)
    have bO:(eu.take n).length=n:=(by rw[fb,<-fH.length];omega);rw[bO] at hl;exact⟨g,p,.agg (eu.take n).toArray,rfl,by simp[loadVar,Kw Bk,nx hn,hl],.agg _ _ (by simpa using fH.take n)⟩
   ·cases he
  ·cases he
 ·rename_i cs Bk bZ;obtain⟨g,p,eu,rfl,fH,p7⟩:=SY s bZ hv;cases cs with
  |nil=>simp at he|cons y cs=>
   simp at he;subst he;cases fH with|cons _ c _ dF hx hs=>have:=p7 0 c rfl;simp only[AQ] at this;exact⟨g,p,c,rfl,by simp[loadVar,Kw Bk,this],hx⟩
 ·cases he
def Hy{g:Nat}(off:Nat)(e:aH)(fz:Nat × Nat):∀(vs:List aL) (i:Nat) (cells:Array aL) (w:bX),
 w.heap[g]?=aa (.cells cells e fz)->off+i+vs.length<=cells.size->(∀v∈vs,DZ v=ai)->(∀j,off+i<=j->j<off+i+vs.length->nb fz j=ay)->
 ∃w' dw,(storeCells ⟨g,off,au⟩ vs i).run P w=.ok () w'/\tR w w' g (.cells dw e fz)/\
  dw.toList=cells.toList.take (off+i)++vs++cells.toList.drop (off+i+vs.length):=by
 intro vs
 induction vs with
 |nil=>intro i cells w hg hl h1 hf;exact⟨w,cells,rfl,⟨rfl,rfl,rfl,rfl,λ_ _=>rfl,hg⟩,by simp⟩|cons v rest ih=>
  intro i cells w hg hl h1 hf;simp only[iJ] at hl hf;have hi:off+i<cells.size:=by omega
  have hv:v.oneCell'=ai:=by have:=h1 v bG;cases v<;>first|rfl|simp[DZ] at this
  have cd:(store ((⟨g,off,au⟩:Addr).add i) v).run P w=.ok () (w.setCell ⟨g,off+i,au⟩ v):=by rw[Addr.mh,run_store P w _ v _ hv,rJ hg,zC hg,hf (off+i) ah ah,mf hi];simp
  have nN:(w.setCell ⟨g,off+i,au⟩ v).heap[g]?=aa (.cells (cells.setIfInBounds (off+i) v) e fz):=by simp[World.setCell,CC,hg]
  obtain⟨w',dw,hr,hc,nJ⟩:=ih (i+1) _ _ nN (by simp;omega) (λx hx=>h1 x (by simp[hx])) (λj hj hj'=>hf j ah ah);refine⟨w',dw,by simp only[storeCells,Sem.run_bind,cd,Result.andThen_ok,hr],⟨hc.os,hc.tape,hc.output,by rw[hc.size];simp[World.setCell],λk hk=>?_,hc.this⟩,?_⟩
  ·rw[hc.other k hk];simp only[World.setCell,CC];rw[aG (by exactλe=>hk e.symm)]
  ·rw[nJ];simp only[ZH,iJ];have bO:off+i<cells.toList.length:=(by simpa using hi);rw[AO,aD bO];rw[(ah:off+(i+1)=off+i+1),(ah:off+i+(rest.length+1)=off+i+1+rest.length)];rw[Iq,CN];have h1:(cells.toList.take (off+i)).length=off+i:=(by simp;omega);rw[h1];have h2:(cells.toList.take (off+i)).take (off+i+1)=cells.toList.take (off+i):=fK ah;have h3:(cells.toList.take (off+i)).drop (off+i+1+rest.length)=[]:=sK ah;rw[h2,h3];have h4:off+i+1 - (off+i)=1:=(by omega);have h5:off+i+1+rest.length - (off+i)=rest.length+1:=(by omega);rw[h4,h5];simp
def an8{g off fi aA:Nat}{e:aH}(qQ:fi=off∨aA=0){vs:List aL}{cells:Array aL}{w:bX}(hz:aA=0->vs=[])(hg:w.heap[g]?=aa (.cells cells e (0,0)))(hl:off+vs.length<=cells.size)(h1:∀v∈vs,DZ v=ai):
 ∃w' dw,(storeCells ⟨g,fi,au⟩ vs 0).run P w=.ok () w'/\tR w w' g (.cells dw e (0,0))/\dw.toList=cells.toList.take (off+0)++vs++cells.toList.drop (off+0+vs.length):=by
 rcases qQ with rfl|h0
 ·exact Hy _ e (0,0) vs 0 cells w hg ah h1 (λj _ _=>by simp[nb])
 ·have:=hz h0;subst this;exact⟨w,cells,rfl,⟨rfl,rfl,rfl,rfl,λ_ _=>rfl,hg⟩,by simp⟩
def YC{cZ cs:List AV}{vo vc:List aL}(off:Nat)(h1:aM K cZ vo)(h2:aM K cs vc):aM K (eK cZ off cs) (vo.take off++vc++vo.drop (off+vc.length)):=by unfold eK;rw[h2.length];exact((h1.take off).append h2).append (h1.drop _)
def YB{cZ cs}(off)(h1:cZ.all AV.dW=ai)(h2:cs.all AV.dW=ai):(eK cZ off cs).all AV.dW=ai:=by
 rw[eE] at h1 h2 ⊢;intro x hx;simp only[eK,xF] at hx;rcases hx with(hx|hx)|hx
 ·exact h1 x (pS hx)
 ·exact h2 x hx
 ·exact h1 x (Lt hx)
def Qv{α:Type}{vo vc:List α}{off}(h:off+vc.length<=vo.length):(vo.take off++vc++vo.drop (off+vc.length)).length=vo.length:=by simp only[du,fb,gE];omega
def ao3{α:Type}{vo vc:List α}{off n}(h:off+vc.length<=n)(hn:n<=vo.length):(vo.take off++vc++vo.drop (off+vc.length)).take n=(vo.take n).take off++vc++(vo.take n).drop (off+vc.length):=by
 have e1:(vo.take n).take off=vo.take off:=by rw[List.take_take,Nat.min_eq_left ah]
 have e2:(vo.take n).drop (off+vc.length)=(vo.drop (off+vc.length)).take (n - (off+vc.length)):=by rw[List.drop_take]
 rw[e1,e2,Iq];have h1:(vo.take off++vc).length=off+vc.length:=by simp;omega
 rw[fK ah,h1]
def tR.same{w w'}{g}{o}(c:tR w w' g o)(h:w.heap[g]?=some o):w'.heap=w.heap:=by
 apply Array.ext_getElem?;intro k;by_cases hk:k=g
 ·subst hk;rw[c.this,h]
 ·exact c.other k hk
def bN.QE{w':bX}(s:bN K G ok w0 h w){b g off:Nat}{cs cZ:List AV}{vs:List aL}{cells dw:Array aL}{e:aH}(hb:K.β[b]?=aa g)(hold:h.boxes[b]?=aa cZ)(nk:off+cs.length<=cZ.length)
 (nN:w.heap[g]?=aa (.cells cells e (0,0))) (c:tR w w' g (.cells dw e (0,0))) (nJ:dw.toList=cells.toList.take (off+0)++vs++cells.toList.drop (off+0+vs.length)) (hv:aM K cs vs) (pZ:cs.all AV.dW=ai):
 bN K G ok w0 {h with boxes:=h.boxes.set b (eK cZ off cs)} w':=by
 obtain⟨k1,k2,ka,cells0,e0,k3,k4⟩:=s.box b g cZ hb hold;rw[nN] at k3;injection k3 with k3;injection k3 with k3 k3';subst k3;simp only[AQ] at nJ;have eC:cZ.length<=cells.toList.length:=by have:=k4.le;simpa using this
 by_cases bE:cZ=[]
 ·subst bE;have hc:cs=[]:=by cases cs with|nil=>rfl|cons _ _=>simp at nk
  subst hc;have fH:vs=[]:=by cases hv;rfl
  subst fH;have hw:dw=cells:=by apply Array.toList_inj.1;rw[nJ];simp
  subst hw;have hh:=c.same nN;have BV:h.boxes.set b (eK [] off [])=h.boxes:=by
   rw[show eK ([]:List AV) off []=[] by simp[eK]];apply sM;intro k;rw[mU];split
   ·rename_i e;subst e;rw[aD (aQ.1 hold).1,hold]
   ·rfl
  rw[BV];exact s.same hh c.tape c.os c.output
 ·have hl:(eK cZ off cs).length=cZ.length:=by unfold eK;exact Qv nk
  refine s.aoA hb hold bE hl (λc0 e0 q=>?_) c ?_ (YB off ka pZ)
  ·rw[nN] at q;injection q with q;injection q with q;subst q;have:dw.toList.length=cells.toList.length:=(by rw[nJ];exact Qv (by rw[<-hv.length];omega));simp only[xv] at this;omega
  ·rw[hl,nJ,ao3 (by rw[<-hv.length];exact nk) eC];exact YC off k4.1 hv
def Fl{cs:List AV}{vs:List aL}(h:aM K cs vs)(ha:cs.all AV.dW=ai):∀v∈vs,DZ v=ai:=by intro v hv;obtain⟨i,hi⟩:=List.getElem?_of_mem hv;obtain⟨x,hx,hr⟩:=h.get' hi;exact ahX (eE.1 ha x (ez hx)) hr
def Jb(j):nb (0,0) j=ay:=by simp[nb]
def apL(s:bN K G ok w0 h w){t:aH}{a x:AV}{h':ao}(he:b8 P h t a x=aa h'){ca cx:aL}(hv:aU K a ca)(hx:aU K x cx):
 ∃w',(Instr.storeAt t ca cx).run P w=.ok () w'/\bN K G ok w0 h' w':=by
 unfold b8 at he;split at he
 ·rename_i b off cs n bZ hn;split at he
  ·rename_i cZ hold;split at he
   ·rename_i bO;injection he with he;subst he;cases hv with|box _ g _ hb=>obtain⟨k1,k2,ka,cells,e,k3,k4⟩:=s.box b g cZ hb hold;obtain⟨r1,r2⟩:=IM bZ hx;have dV:cx.cells.size=n:=(by rw[<-bO.1,r1.length];simp);have ym:cZ.length<=cells.size:=k4.le;obtain⟨w',dw,q1,q2,q3⟩:=Hy (P:=P) off e (0,0) cx.cells.toList 0 cells w k3 (by simp;omega) (Fl r1 r2) (λj _ _=>Jb j);refine⟨w',by simp[Instr.storeAt,Instr.sureAddr,storeVar,nx hn,dV,q1],s.QE hb hold ah k3 q2 q3 r1 r2⟩
   ·cases he
  ·cases he
 ·cases he
end
section
variable {P:bB} {K:aP} {G:Nat->Option (List AV)} {ok:bq->Nat->Code->Bool} {w0 w:bX} {h:ao}
def Yields(K:aP)(G:Nat->Option (List AV))(ok:bq->Nat->Code->Bool)(w0:bX)(x:AV)(h':ao)(r:Result Next):Prop:=
 ∃K' v w',K.Le K'/\bN K' G ok w0 h' w'/\aU K' x v/\(r=.ok (.value v) w'∨(r=.ok .skip w'/\v=undef))
def Yields.mQ(s:bN K G ok w0 h w){x:AV}{v:aL}(hx:aU K x v){r:Result Next}(hr:r=.ok (.value v) w):Yields K G ok w0 x h r:=
 ⟨K,v,w,.refl K,s,hx,.inl hr⟩
def afA(off):∀(l:List aL) (i:Nat) (cells:Array aL),off+i+l.length<=cells.size->
 ((l.zipIdx i).foldl (λcs p=>cs.setIfInBounds (off+p.2) p.1) cells).toList=cells.toList.take (off+i)++l++cells.toList.drop (off+i+l.length):=by
 intro l
 induction l with
 |nil=>intro i cells _;simp|cons v rest ih=>
  intro i cells hl;simp only[iJ] at hl;have hi:off+i<cells.size:=by omega
  simp only[List.zipIdx_cons,xE];rw[ih (i+1) _ (by simp;omega)];simp only[ZH,iJ];have bO:off+i<cells.toList.length:=by simpa using hi
  rw[AO,aD bO];rw[(ah:off+(i+1)=off+i+1),(ah:off+i+(rest.length+1)=off+i+1+rest.length)];rw[Iq,CN];have h1:(cells.toList.take (off+i)).length=off+i:=by simp;omega
  rw[h1];have h2:(cells.toList.take (off+i)).take (off+i+1)=cells.toList.take (off+i):=fK ah;have h3:(cells.toList.take (off+i)).drop (off+i+1+rest.length)=[]:=sK ah;rw[h2,h3];have h4:off+i+1 - (off+i)=1:=by omega
  have h5:off+i+1+rest.length - (off+i)=rest.length+1:=by omega
  rw[h4,h5];simp
def aro(f)(vs cells:Array aL):vs.zipIdx.foldl f cells=(vs.toList.zipIdx 0).foldl f cells:=by rw[<-Array.foldl_toList,Array.toList_zipIdx]
def TE{place}:∀{parts:List (Nat × AV)} {cells out:List AV},uY place cells parts=aa out->cells.all AV.dW=ai->out.all AV.dW=ai:=by
 intro parts
 induction parts with
 |nil=>intro cells out he hc;simp[uY] at he;subst he;exact hc|cons p rest ih=>
  intro cells out he hc;simp only[uY] at he;split at he
  ·rename_i off size cs hp bZ;split at he
   ·refine ih he (YB off hc ?_);unfold AV.bU at bZ;split at bZ
    ·split at bZ
     ·injection bZ with bZ;subst bZ;assumption
     ·cases bZ
    ·cases bZ
    ·cases bZ
    ·rename_i h1 h2 h3;injection bZ with bZ;subst bZ;have hx:p.2.dW=ai:=by cases hq:p.2<;>first|rfl|exact absurd hq (h1 _)|exact absurd hq (h2 _)|exact absurd hq h3
     simp[hx]
   ·cases he
  ·cases he
def I5{place:Nat->Option (Nat × Nat)}:∀{parts:List (Nat × AV)} {cells out:List AV} {parts':List (Nat × aL)} {dw:Array aL},
 uY place cells parts=aa out->aM K cells dw.toList->(parts'.map (·.1)=parts.map (·.1))->aM K (parts.map (·.2)) (parts'.map (·.2))->
 ∃out',Instr.fill place dw parts'=aa out'/\aM K out out'.toList:=by
 intro parts
 induction parts with
 |nil=>
  intro cells out parts' dw he hc h1 h2;have:parts'=[]:=by simpa using h1
  subst this;simp[uY] at he;subst he;exact⟨dw,rfl,hc⟩
 |cons p rest ih=>
  obtain⟨i,x⟩:=p;intro cells out parts' dw he hc h1 h2;cases parts' with
  |nil=>simp at h1|cons p' rest'=>
   obtain⟨i',v⟩:=p';simp only[ev,List.cons.injEq] at h1;obtain⟨rfl,h1⟩:=h1;simp only[ev] at h2;cases h2 with
   |cons _ _ _ _ hx hs=>
    simp only[uY] at he;split at he
    ·rename_i off size cs hp bZ;split at he
     ·rename_i bO;obtain⟨r1,_⟩:=IM bZ hx;have dV:v.cells.size=size:=(by rw[<-bO.1,r1.length];simp);have ym:dw.size=cells.length:=(by rw[hc.length];simp);have ND:=afA off v.cells.toList 0 dw (by simp;omega);obtain⟨out',q1,q2⟩:=ih (dw:=v.cells.zipIdx.foldl (λcs (c,j)=>cs.setIfInBounds (off+j) c) dw) he (by rw[aro,ND];simpa using YC off hc r1) h1 hs;refine⟨out',?_,q2⟩;simp only[Instr.fill,hp];rw[aG (by simp;omega)];exact q1
     ·cases he
    ·cases he
def Pv{ρ:bH->AV}{ρ':bH->aL}(hρ:∀x,aU K (ρ x) (ρ' x))(parts:Array (Nat × bH)):
 ((parts.map λp=>(p.1,ρ' p.2)).toList.map (·.1)=(parts.toList.map λp=>(p.1,ρ p.2)).map (·.1))/\
 aM K ((parts.toList.map λp=>(p.1,ρ p.2)).map (·.2)) ((parts.map λp=>(p.1,ρ' p.2)).toList.map (·.2)):=by
 simp only[CG,AL];exact⟨rfl,aM.map_mk λp _=>hρ p.2⟩
def CA{t:aH}{zero:List AV}(hz:(gy P t).bind AV.bU=aa zero)(w:bX):∃v,(zeroValue t).run P w=.ok v w/\aM K zero v.cells.toList/\zero.all AV.dW=ai:=by simp only[yY] at hz;obtain⟨z,h1,h2⟩:=hz;obtain⟨v,h3,rfl⟩:=Qn h1 w;obtain⟨r1,r2⟩:=IM h2 (J3 (K:=K) v);exact⟨v,h3,r1,r2⟩
def aiO(fields:Array Field)(eI:∀f∈fields.toList,(P.info? f.type).isSome=ai)(w:bX):
 ∃places:Array (Nat × Nat),(fields.mapM (m:=Sem) λ(f:Field)=>do pure (f.offset,<-sizeOf f.type)).run P w=.ok places w/\∀i,places[i]?=placesOf P fields i:=by
 have key:∀(l:List Field),(∀f∈l,(P.info? f.type).isSome=ai)->
  (l.mapM (m:=Sem) λ(f:Field)=>do pure (f.offset,<-sizeOf f.type)).run P w=.ok (l.map λf=>(f.offset,(dm P f.type).getD 0)) w:=by
  intro l
  induction l with
  |nil=>intro _;rfl|cons f l ih=>intro hl;have hf:=hl f bG;obtain⟨i,hi⟩:=aa1.1 hf;have hs:dm P f.type=aa i.size:=(by simp[dm,hi]);rw[List.mapM_cons,Sem.run_bind,Sem.run_bind,nx hs];simp only[Result.andThen_ok,Sem.run_pure,Sem.run_bind,ih (λf hf=>hl f (by simp[hf])),ev,hs,Iu]
 refine⟨(fields.toList.map λf=>(f.offset,(dm P f.type).getD 0)).toArray,?_,λi=>?_⟩
 ·rw[Array.mapM_eq_mapM_toList,Sem.run_map,key fields.toList eI];rfl
 ·simp only[ja,List.getElem?_map,CD,placesOf];cases hf:fields[i]? with|none=>rfl|some f=>have hm:f∈fields.toList:=(by simpa using Array.mem_of_getElem? hf);obtain⟨i,hi⟩:=aa1.1 (eI f hm);simp[dm,hi]
def ado{t:aH}{parts:Array (Nat × bH)}{ρ:bH->AV}{ρ':bH->aL}(hρ:∀x,aU K (ρ x) (ρ' x)){x:AV}
 (he:mF P t (parts.toList.map λp=>(p.1,ρ p.2))=aa x) (w:bX):∃v,(Instr.build t (parts.map λp=>(p.1,ρ' p.2))).run P w=.ok v w/\aU K x v:=by
 obtain⟨p1,p2⟩:=Pv hρ parts;unfold mF at he;split at he
 ·rename_i fields zero hu hz;obtain⟨z,iF,fO,_⟩:=CA (K:=K) hz w;split at he
  ·rename_i eI;simp only[dt] at he;obtain⟨out,ho,rfl⟩:=he;obtain⟨places,oz,nM⟩:=aiO (P:=P) fields (λf hf=>Array.all_eq_true'.1 eI f (by simpa using hf)) w;have Oe:placesOf P fields=(places[·]?):=(by funext i;exact(nM i).symm);rw[Oe] at ho;obtain⟨out',q1,q2⟩:=I5 ho fO p1 p2;exact⟨.agg out',by simp only[Instr.build,Sem.run_bind,iF,Result.andThen_ok,dk hu,oz,q1,Sem.run_pure],.agg _ _ q2⟩
  ·cases he
 ·rename_i n elem zero hu hz;obtain⟨z,iF,fO,_⟩:=CA (K:=K) hz w;split at he
  ·rename_i size hs;simp only[dt] at he;obtain⟨out,ho,rfl⟩:=he;obtain⟨out',q1,q2⟩:=I5 ho fO p1 p2;exact⟨.agg out',by simp only[Instr.build,Sem.run_bind,iF,Result.andThen_ok,dk hu,nx hs,q1,Sem.run_pure],.agg _ _ q2⟩
  ·cases he
 ·cases he
def TD{sz}:∀{parts:List (Nat × AV)} {ae out:List (List AV)},(∀r∈ae,r.length=sz)->Dk sz ae parts=aa out->
 uY (λi=>aa (i * sz,sz)) ae.flatten parts=aa out.flatten/\(∀r∈out,r.length=sz)/\out.length=ae.length:=by
 intro parts
 induction parts with
 |nil=>intro ae out hr he;simp[Dk] at he;subst he;exact⟨rfl,hr,rfl⟩|cons p rest ih=>
  obtain⟨i,x⟩:=p;intro ae out hr he;simp only[Dk] at he;split at he
  ·rename_i cs bZ;split at he
   ·rename_i bO;have fN:∀r∈ae.set i cs,r.length=sz:=λr hm=>by
     rcases List.mem_or_eq_of_mem_set hm with hm|rfl
     ·exact hr r hm
     ·exact bO.1
    obtain⟨q1,q2,q3⟩:=ih fN he;have ou:=na hr;have eC:i * sz+sz<=ae.flatten.length:=(by rw[ou];have:(i+1) * sz<=ae.length * sz:=nX _ bO.2;rw[fW] at this;omega);have BV:(ae.set i cs).flatten=eK ae.flatten (i * sz) cs:=by
     clear q1 q2 q3 ih he eC fN;unfold eK;rw[bO.1]
     induction ae generalizing i with
     |nil=>simp at bO|cons r ae ih2=>
      have ej:r.length=sz:=hr r bG;cases i with|zero=>simp[<-ej]|succ i=>have:=ih2 i (λr hm=>hr r (by simp[hm])) ⟨bO.1,by simpa using bO.2⟩ (na (λr hm=>hr r (by simp[hm])));simp only[List.set_cons_succ,oK,this];rw[show(i+1) * sz=r.length+i * sz by rw[ej,fW];omega,Iq,CN];rw[fK (ah:r.length<=r.length+i * sz),sK (ah:r.length<=r.length+i * sz+sz)];rw[(ah:r.length+i * sz - r.length=i * sz),(ah:r.length+i * sz+sz - r.length=i * sz+sz)];simp
    refine⟨?_,q2,by rw[q3];simp⟩;simp only[uY,bZ];rw[aD ⟨bO.1,eC⟩,<-BV];exact q1
   ·cases he
  ·cases he
def G9(zero:Array aL)(n):((yM (n * zero.size)).map (zero[·%zero.size]!)).toList=(bm n zero.toList).flatten:=by
 induction n with
 |zero=>simp|succ n ih=>
  rw[List.replicate_succ',qA,<-ih];simp only[CG,Array.toList_range,fW,Nat.one_mul,List.range_add,oM,AL,oK,Rk,jv];congr 1;apply List.ext_getElem
  ·simp
  ·intro i h1 h2;have az:i<zero.size:=(by simpa using h1);simp[Nat.mod_eq_of_lt az,az]
def aM.Bf{zero:List AV}{z:List aL}(hz:aM K zero z):∀n:Nat,aM K (bm n zero).flatten (bm n z).flatten
 |0=>.nil
 |n+1=>by simp only[List.replicate_succ,oK];exact hz.append (aM.Bf hz n)
def Kg{zero}(hz:zero.all AV.dW=ai)(n):(bm n zero).flatten.all AV.dW=ai:=by rw[eE] at hz ⊢;intro x hx;simp only[List.mem_flatten,Rn] at hx;obtain⟨l,⟨_,rfl⟩,hx⟩:=hx;exact hz x hx
def adn(s:bN K G ok w0 h w){t:aH}{len:Nat}{parts:Array (Nat × bH)}{ρ:bH->AV}{ρ':bH->aL}(hρ:∀x,aU K (ρ x) (ρ' x)){x:AV}
 (he:gN P t len (parts.toList.map λp=>(p.1,ρ p.2))=aa x):
 ∃K' v w',K.Le K'/\bN K' G ok w0 h w'/\aU K' x v/\(Instr.buildSlice t len (parts.map λp=>(p.1,ρ' p.2))).run P w=.ok v w':=by
 obtain⟨p1,p2⟩:=Pv hρ parts;unfold gN at he;split at he
 ·rename_i elem hu;split at he
  ·rename_i size zero hs hz;obtain⟨z,iF,fO,yp⟩:=CA (K:=K) hz w;split at he
   ·rename_i hc;simp only[dt] at he;obtain⟨out,ho,rfl⟩:=he;obtain⟨f1,f2,f3⟩:=TD (λr hr=>by rw[(Rn.1 hr).2];exact hc.2.1) ho;have wU:z.cells.size=size:=(by rw[<-hc.2.1,fO.length];simp);have nJ:((yM (len * size)).map (z.cells[·%z.cells.size]!)).toList=(bm len z.cells.toList).flatten:=(by rw[<-wU];exact G9 _ _);obtain⟨out',q1,q2⟩:=I5 (dw:=(yM (len * size)).map (z.cells[·%z.cells.size]!)) f1 (by rw[nJ];exact fO.Bf len) p1 p2;obtain⟨le,s'⟩:=s.ai4 out' elem;refine⟨_,.slice (aa ⟨w.heap.size,0,au⟩) len len,_,le,s',?_,?_⟩
    ·refine .list .tight size out w.heap.size 0 len len out'.toList (by rw[f3];simp) f2 (q2.mono le) (λj c hj=>?_) ⟨aJ _,rfl⟩ (TE f1 (Kg yp len));simp only[aP.tight,nZ,if_true];simpa using hj
    ·by_cases h0:len * size=0
     ·have M3:len=0:=by
       rcases aaQ.1 h0 with h|h
       ·exact h
       ·omega
      subst M3;simp only[Ff] at q1;have e1:(yM 0).map (λx=>(#[]:Array aL)[x%(#[]:Array aL).size]!)=(yM 0).map (z.cells[·%z.cells.size]!):=(by simp);simp only[Instr.buildSlice,Sem.run_bind,dk hu,Result.andThen_ok,nx hs,Ff];simp only[sO,gt_iff_lt,if_false,aa0,if_true,Sem.run_pure,Result.andThen_ok,e1,q1,newRow,Sem.run_bind,run_newObj]
     ·simp only[Instr.buildSlice,Sem.run_bind,dk hu,Result.andThen_ok,nx hs];rw[aG ah,aG h0];simp only[Sem.run_pure,Sem.run_bind,iF,Result.andThen_ok,q1,newRow,run_newObj]
   ·cases he
  ·cases he
 ·cases he
def abO(s:bN K G ok w0 h w){t:aH}{cs:List AV}(hz:(gy P t).bind AV.bU=aa cs):
 ∃K' v w',K.Le K'/\bN K' G ok w0 (h.box cs).2 w'/\aU K' (h.box cs).1 v/\(Instr.alloc t ai (.tuple #[])).run P w=.ok v w':=by
 obtain⟨z,iF,fO,yp⟩:=CA (K:=K) hz w;obtain⟨q1,q2⟩:=s.Pa t fO yp;exact⟨_,_,_,K.OS _,q1,q2,by simp[Instr.alloc,iF,newVar,newRow]⟩
def adb(s:bN K G ok w0 h w){t:aH}{x:AV}{cs:List AV}(hc:x.bU=aa cs){c:aL}(hx:aU K x c):
 ∃K' v w',K.Le K'/\bN K' G ok w0 (h.box cs).2 w'/\aU K' (h.box cs).1 v/\(Instr.box t c).run P w=.ok v w':=by
 obtain⟨r1,r2⟩:=IM hc hx;obtain⟨q1,q2⟩:=s.Pa t r1 r2;exact⟨_,_,_,K.OS _,q1,q2,by simp[Instr.box,newVar,newRow]⟩
def aiK(s:bN K G ok w0 h w){t:aH}{l c x:AV}{h':ao}(he:yz P h t l c=aa (x,h')){vl vc:aL}(hl:aU K l vl)(hc:aU K c vc):
 ∃K' v w',K.Le K'/\bN K' G ok w0 h' w'/\aU K' x v/\(Instr.makeSlice t vl vc).run P w=.ok v w':=by
 unfold yz at he;split at he
 ·rename_i elem kl l kc c hu;obtain⟨rfl,_⟩:=hl.iA;obtain⟨rfl,_⟩:=hc.iA;split at he
  ·rename_i i zero hi hz;obtain⟨z,iF,fO,yp⟩:=CA (K:=K) hz w;split at he
   ·rename_i Nr;obtain⟨h1,h2,h3,h4,h5,h6⟩:=Nr;injection he with he;obtain⟨rfl,rfl⟩:=ig he;have hzero:i.zero=aa z:=by
     simp only[zeroValue,Sem.run_bind,rk hi,Result.andThen_ok] at iF;cases GC:i.zero with|none=>rw[GC] at iF;simp at iF|some v=>rw[GC] at iF;simp at iF;rw[iF]
    have wU:z.cells.size=i.size:=(by rw[<-h6,fO.length];simp);have lV:=run_make (P:=P) w t elem i z hu hi hzero kl kc l c h1 h2 h4 ah;have nJ:(madeCells z.cells (c.toNat * i.size)).toList=(bm c.toNat z.cells.toList).flatten:=(by rw[<-wU];exact G9 _ _);obtain⟨q1,q2⟩:=s.Pa (cells:=madeCells z.cells (c.toNat * i.size)) elem (by rw[nJ];exact fO.Bf _) (Kg yp _);cases q2 with|box _ _ _ hb=>exact⟨_,_,_,K.OS _,q1,.arr _ _ _ _ _ _ _ hb ah (aJ _) (.inl rfl) (.inl rfl),lV⟩
   ·cases he
  ·cases he
 ·cases he
def rG{hi:Nat}{x:Option AV}{d n:Nat}(he:fX hi x d=aa n){x':Option aL}(hx:∀a,x=aa a->∃c,x'=aa c/\aU K a c)(hn:x=au->x'=au)(w:bX):
 (x'=au/\n=d/\x=au)∨(∃c,x'=aa c/\(∀(top:Nat) (code:Go.BoundsCode),hi<=top->(Instr.sliceBound c top code).run P w=.ok n w)/\n<=hi/\x.isSome=ai):=by
 unfold fX at he;split at he
 ·injection he with he;subst he;exact .inl ⟨hn rfl,rfl,rfl⟩
 ·rename_i _ k m;split at he
  ·rename_i hc;injection he with he;subst he;obtain⟨c,rfl,hv⟩:=hx _ rfl;obtain⟨rfl,_⟩:=hv.iA;refine .inr ⟨_,rfl,λtop code ht=>?_,by omega,rfl⟩;have:m<=(top:Int):=(by omega);simp[Instr.sliceBound,asIntOf,hc.1,this]
  ·cases he
 ·cases he
def C7{lo hi mx:Option AV}{lo' Bx mx':Option aL}(p9:∀a,lo=aa a->∃c,lo'=aa c/\aU K a c)(nlo:lo=au->lo'=au)
 (tB:∀a,hi=aa a->∃c,Bx=aa c/\aU K a c) (nhi:hi=au->Bx=au) (qb:∀a,mx=aa a->∃c,mx'=aa c/\aU K a c) (nmx:mx=au->mx'=au)
 {top aA len m hb l:Nat} (isSlice:Bool) (e1:fX top mx top=aa m) (e2:fX m hi len=aa hb) (e3:fX hb lo 0=aa l)
 (bO:len<=aA) (VM:top<=aA) (BG:mx.isSome=ai->hi.isSome=ai) (w:bX):
 ∃m',(Instr.sliceBounds isSlice len aA lo' Bx mx').run P w=.ok (l,hb,m') w/\(mx=au->m'=aA/\m=top)/\(mx.isSome=ai->m'=m)/\l<=hb/\(hi=au->hb=len)/\hb<=m'/\(hi.isSome=ai->hb<=m):=by
 rcases rG (P:=P) e1 qb nmx w with⟨rfl,rfl,rfl⟩|⟨c1,rfl,q1,qa,cK⟩
 ·rcases rG (P:=P) e2 tB nhi w with⟨rfl,rfl,rfl⟩|⟨c2,rfl,q2,uj,oB⟩
  ·rcases rG (P:=P) e3 p9 nlo w with⟨rfl,rfl,rfl⟩|⟨c3,rfl,q3,Gf,_⟩
   ·exact⟨aA,by simp[Instr.sliceBounds],λ_=>⟨rfl,rfl⟩,bG,df _,λ_=>rfl,bO,by simp⟩
   ·have q3':=λcode=>q3 hb code (aJ _);exact⟨aA,by simp[Instr.sliceBounds,q3'],λ_=>⟨rfl,rfl⟩,bG,Gf,λ_=>rfl,bO,by simp⟩
  ·have q2':=λcode=>q2 aA code ah;rcases rG (P:=P) e3 p9 nlo w with⟨rfl,rfl,rfl⟩|⟨c3,rfl,q3,Gf,_⟩
   ·exact⟨aA,by simp[Instr.sliceBounds,q2'],λ_=>⟨rfl,rfl⟩,bG,df _,λe=>by simp[e] at oB,by omega,λ_=>uj⟩
   ·have q3':=λcode=>q3 hb code (aJ _);exact⟨aA,by simp[Instr.sliceBounds,q2',q3'],λ_=>⟨rfl,rfl⟩,bG,Gf,λe=>by simp[e] at oB,by omega,λ_=>uj⟩
 ·have oB:=BG cK;have q1':=λcode=>q1 aA code VM;rcases rG (P:=P) e2 tB nhi w with⟨_,_,rfl⟩|⟨c2,rfl,q2,uj,_⟩
  ·simp at oB
  ·have q2':=λcode=>q2 m code (aJ _);rcases rG (P:=P) e3 p9 nlo w with⟨rfl,rfl,rfl⟩|⟨c3,rfl,q3,Gf,_⟩
   ·exact⟨m,by simp[Instr.sliceBounds,q1',q2'],λe=>by simp[e] at cK,λ_=>rfl,df _,λe=>by simp[e] at oB,uj,λ_=>uj⟩
   ·have q3':=λcode=>q3 hb code (aJ _);exact⟨m,by simp[Instr.sliceBounds,q1',q2',q3'],λe=>by simp[e] at cK,λ_=>rfl,Gf,λe=>by simp[e] at oB,uj,λ_=>uj⟩
def Po{ρ:bH->AV}{ρ':bH->aL}(hρ:∀x,aU K (ρ x) (ρ' x))(o:Option bH):
 (∀a,o.map ρ=aa a->∃c,o.map ρ'=aa c/\aU K a c)/\(o.map ρ=au->o.map ρ'=au):=by
 cases o with|none=>exact⟨λa h=>(by cases h),λ_=>rfl⟩|some x=>exact⟨λa h=>⟨_,rfl,(by injection h with h;subst h;exact hρ x)⟩,λh=>(by cases h)⟩
def aiu{k:Tok}{sz:Nat}{es:List (List AV)}{g off aA size l hb m':Nat}{toEnd wX:Bool}
 (hv:aU K (.list k sz es) (.slice (aa ⟨g,off,au⟩) es.length aA)) (dV:size=sz∨es=[]) (hl:l<=hb) (hh:hb<=es.length) (hm:hb<=m') (je:m'<=aA)
 (tx:toEnd=ai->hb=es.length/\m'=aA) (N1:wX=ai->m'=hb):
 aU K (.list (wx k toEnd wX (hb - l)) sz ((es.take hb).drop l)) (.slice (aa (if m'=l then ⟨g,off,au⟩ else (⟨g,off,au⟩:Addr).add (l * size))) (hb - l) (m' - l)):=by
 cases hv with
 |iY=>
  have uf:hb=0:=by simpa using hh
  subst uf;have l0:l=0:=by omega
  subst l0;have m0:m'=0:=by omega
  subst m0;refine .list _ sz [] g off 0 0 [] rfl bG .nil bG ⟨aJ _,?_⟩ rfl;unfold wx;cases toEnd<;>cases wX<;>simp
 |list _ _ _ _ _ n _ cells hn hr fH iq ht ha=>
  have Ge:((es.take hb).drop l).length=hb - l:=by simp;omega
  have agl:(if m'=l then (⟨g,off,au⟩:Addr) else (⟨g,off,au⟩:Addr).add (l * size))=⟨g,if m'=l then off else off+l * size,au⟩:=by
   split
   ·rfl
   ·rw[Addr.mh]
  rw[agl];have fN:∀r∈(es.take hb).drop l,r.length=sz:=λr hm=>hr r (pS (Lt hm));have ou:((es.take hb).drop l).flatten=(es.flatten.take (hb * sz)).drop (l * sz):=by rw[TR (λr hm=>hr r (pS hm)),MP hr]
  refine .list _ sz _ g _ _ _ ((cells.take (hb * sz)).drop (l * sz)) Ge.symm fN (by rw[ou];exact(fH.take _).drop _) (λj c hj=>?_) ?_ ?_
  ·simp only[pR,nU] at hj;split at hj
   ·rename_i az;have bE:es≠[]:=(by rintro rfl;simp only[Rk] at fH;cases fH;simp at hj);have Ot:size=sz:=dV.resolve_right bE;have qO:l<hb:=by
     rcases dT l hb with h|h
     ·exact h
     ·have:hb * sz<=l * sz:=nX _ h;omega
    rw[aG ah,Ot];have:=iq _ _ hj;rw[<-this];congr 1;omega
   ·cases hj
  rotate_left
  ·rw[eE] at ha ⊢;intro x hx;rw[ou] at hx;exact ha x (pS (Lt hx))
  ·refine⟨ah,?_⟩;have DV:=ht.2;cases k with
   |nil=>exact DV.elim|tight=>
    simp only[wx];simp only at DV;cases toEnd with
    |true=>obtain⟨e1,e2⟩:=tx rfl;simp;omega
    |false=>
     cases wX with|true=>have:=N1 rfl;simp;omega|false=>simp
   |held=>
    simp only[wx];cases wX with|true=>have:=N1 rfl;simp;omega|false=>simp
   |free t=>
    simp only[wx];simp only at DV;cases wX with
    |true=>have:=N1 rfl;simp;omega|false=>
     by_cases hc:(toEnd&&hb - l !=0)=ai
     ·simp only[ju,if_false,hc,if_true];simp only[bA,bne_iff_ne,ne_eq] at hc;obtain⟨e1,e2⟩:=tx hc.1;have bE:es≠[]:=(by rintro rfl;simp at e1;omega);have Ot:size=sz:=dV.resolve_right bE;obtain⟨t1,t2,t3,t4⟩:=DV;subst Ot;rw[aG ah];refine⟨t1,t2,?_,?_⟩
      ·rw[t3,<-e1,LL];have:l * size<=hb * size:=nX _ hl;omega
      ·rw[e2,LL];have:l * size<=aA * size:=nX _ ah;omega
     ·simp only[ju,if_false,hc]
def aoS{t:aH}{x y:AV}{lo hi mx:Option bH}{ρ:bH->AV}{ρ':bH->aL}(hρ:∀x,aU K (ρ x) (ρ' x))
 (he:ie P t x (lo.map ρ) (hi.map ρ) (mx.map ρ)=aa y) {c:aL} (hx:aU K x c) (w:bX):
 ∃v,(Instr.sliceAt t c (lo.map ρ') (hi.map ρ') (mx.map ρ')).run P w=.ok v w/\aU K y v:=by
 obtain⟨p9,nlo⟩:=Po hρ lo;obtain⟨tB,nhi⟩:=Po hρ hi;obtain⟨qb,nmx⟩:=Po hρ mx;unfold ie at he;split at he
 ·cases he
 rename_i U4;have BG:(mx.map ρ).isSome=ai->(hi.map ρ).isSome=ai:=by
  intro h1;cases h2:hi.map ρ with|some _=>rfl|none=>rw[h1,h2] at U4;simp at U4
 split at he
 ·rename_i s hu;split at he
  ·cases he
  rename_i hmn;have ahi:mx.map ρ=au:=by simpa using hmn
  split at he
  ·rename_i hb e2;split at he
   ·rename_i l e3;injection he with he;subst he;obtain⟨rfl,_⟩:=hx.iA;obtain⟨m',q1,q2,_⟩:=C7 (P:=P) (mx:=au) (mx':=au) p9 nlo tB nhi bG bG ay (top:=s.size) (aA:=s.size) (m:=s.size) rfl e2 e3 (aJ _) (aJ _) bG w;refine⟨_,?_,.v (.string (s.extract l hb)) rfl⟩;simp only[Instr.sliceAt,Sem.run_bind,dk hu,Result.andThen_ok,Instr.slice,nmx ahi];simp[q1]
   ·cases he
  ·cases he
 ·rename_i elem k sz es hu;split at he
  ·rename_i size m hs e1;split at he
   ·rename_i hb e2;split at he
    ·rename_i l e3;split at he
     ·rename_i dV;injection he with he;subst he;have yf:hb<=es.length:=by rcases rG (P:=P) e1 qb nmx w with⟨_,rfl,_⟩|⟨_,_,_,qa,_⟩<;>rcases rG (P:=P) e2 tB nhi w with⟨_,rfl,_⟩|⟨_,_,_,uj,_⟩<;>omega
      cases hx with
      |nil=>
       obtain⟨m',q1,q2,q3,q4,q5,q6,q7⟩:=C7 (P:=P) p9 nlo tB nhi qb nmx ai (top:=0) (aA:=0) (len:=0) e1 e2 e3 (aJ _) (aJ _) BG w;have uf:hb=0:=(by simpa using yf);subst uf;have l0:l=0:=(by omega);subst l0;have N5:m'=0:=by
        rcases rG (P:=P) e1 qb nmx w with⟨_,_,hn⟩|⟨_,_,_,qa,cK⟩
        ·exact(q2 hn).1
        ·have:=q3 cK;simp at qa;omega
       subst N5;refine⟨.slice au 0 0,?_,?_⟩
       ·simp only[Instr.sliceAt,Sem.run_bind,dk hu,Result.andThen_ok,Instr.slice,q1,nx hs];simp
       ·simp only[wx,aaH,aal];exact .nil _
      |iY _ a0=>
       obtain⟨m',q1,q2,q3,q4,q5,q6,q7⟩:=C7 (P:=P) p9 nlo tB nhi qb nmx ai (top:=0) (aA:=0) (len:=0) e1 e2 e3 (aJ _) (aJ _) BG w;have uf:hb=0:=(by simpa using yf);subst uf;have l0:l=0:=(by omega);subst l0;have N5:m'=0:=by
        rcases rG (P:=P) e1 qb nmx w with⟨_,_,hn⟩|⟨_,_,_,qa,cK⟩
        ·exact(q2 hn).1
        ·have:=q3 cK;simp at qa;omega
       subst N5;refine⟨.slice (aa a0) 0 0,?_,?_⟩
       ·simp only[Instr.sliceAt,Sem.run_bind,dk hu,Result.andThen_ok,Instr.slice,q1,nx hs];simp
       ·have ahc:m=0:=by
         rcases rG (P:=P) e1 qb nmx w with⟨_,hn,_⟩|⟨_,_,_,qa,cK⟩
         ·simpa using hn
         ·simpa using qa
        subst ahc;have hct:∀q:Option AV,wx .tight (decide (0=([]:List (List AV)).length)&&q.isNone) (q.isSome&&decide (0=0)) (0 - 0)=.tight:=(by intro q;cases q<;>rfl);rw[hct];simp only[aaH,aal];exact .iY _ _
      |list _ _ _ g off n aA cells hn hr fH iq ht ha=>
       subst hn;obtain⟨m',q1,q2,q3,q4,q5,q6,q7⟩:=C7 (P:=P) p9 nlo tB nhi qb nmx true (top:=es.length) (aA:=aA) (len:=es.length) e1 e2 e3 ht.1 ht.1 BG w;have ahd:m'<=aA:=by
        rcases rG (P:=P) e1 qb nmx w with⟨_,_,hn⟩|⟨_,_,_,qa,cK⟩
        ·rw[(q2 hn).1];exact aJ _
        ·have:=q3 cK;have:=ht.1;omega
       refine⟨.slice (aa (if m'=l then ⟨g,off,au⟩ else (⟨g,off,au⟩:Addr).add (l * size))) (hb - l) (m' - l),?_,?_⟩
       ·simp only[Instr.sliceAt,Sem.run_bind,dk hu,Result.andThen_ok,Instr.slice,q1,nx hs,Sem.run_pure];congr 2;split<;>rfl
       ·refine aiu (.list _ _ _ g off _ aA cells rfl hr fH iq ht ha) dV q4 yf q6 ahd (λh=>?_) (λh=>?_)
        ·simp only[bA,decide_eq_true_eq,Option.isNone_iff_eq_none] at h;exact⟨h.1,(q2 h.2).1⟩
        ·simp only[bA,decide_eq_true_eq] at h;rw[q3 h.1];exact h.2.symm
     ·cases he
    ·cases he
   ·cases he
  ·cases he
 ·rename_i elem b off len aA hu;split at he
  ·rename_i size m hs e1;split at he
   ·rename_i hb e2;split at he
    ·rename_i l e3;cases hx with
     |arr _ g _ _ _ fi hJ hβ hl oV qQ kL=>
      obtain⟨m',q1,q2,q3,q4,q5,q6,q7⟩:=C7 (P:=P) p9 nlo tB nhi qb nmx ai (top:=aA) (aA:=hJ) (len:=len) e1 e2 e3 ah oV BG w;have hmc:m<=aA:=(by rcases rG (P:=P) e1 qb nmx w with⟨_,q,_⟩|⟨_,_,_,q,_⟩<;>omega);have hmm:m<=m':=by
       cases hq:CX ρ mx with|none=>have:=q2 hq;omega|some z=>have:=q3 (by rw[hq];rfl);omega
      have yf:hb<=m:=by
       cases hq:CX ρ mx with
       |none=>
        cases qT:CX ρ hi with|none=>have:=q5 qT;have:=q2 hq;omega|some z=>exact q7 (by rw[qT];rfl)
       |some z=>have:=q3 (by rw[hq];rfl);omega
      have lV:(Instr.sliceAt t (.slice (aa ⟨g,fi,au⟩) len hJ) (CX ρ' lo) (CX ρ' hi) (CX ρ' mx)).run P w=.ok (.slice (aa ⟨g,if m'=l then fi else fi+l * size,au⟩) (hb - l) (m' - l)) w:=by
       simp only[Instr.sliceAt,Sem.run_bind,dk hu,Result.andThen_ok,Instr.slice,q1,nx hs,Sem.run_pure];congr 2;split
       ·rfl
       ·simp[Addr.mh]
      refine⟨_,lV,?_⟩;split at he
      ·cases he
      rename_i yl;split at he
      ·rename_i mL;injection he with he;subst he;have:=q3 mL.1;rw[(ah:hb - l=0),(ah:m' - l=0)];exact .iY _ _
      ·injection he with he;subst he;refine .arr _ _ _ _ _ _ _ hβ ah ah ?_ ?_
       ·rcases qQ with rfl|hz
        ·by_cases mL:m=l
         ·exact .inr ah
         ·rw[aG ah,aG mL];exact .inl rfl
        ·exact .inr ah
       ·cases hq:CX ρ mx with
        |some z=>have:=q3 (by rw[hq];rfl);exact .inl ah
        |none=>
         obtain⟨r1,r2⟩:=q2 hq;by_cases mL:m=l
         ·exact .inr (.inl ah)
         ·rw[aG mL];by_cases DF:l=0
          ·subst DF;rcases kL with r|r|r|⟨sz,room,r3,r4,r5⟩
           ·exact .inl ah
           ·exact .inr (.inl ah)
           ·exact .inr (.inr (.inl ah))
           ·exact .inr (.inr (.inr ⟨sz,room,by rw[r2];exact r3,r4,by rw[r1];exact r5⟩))
          ·exact .inr (.inr (.inl (by have:=LH (aaW DF) (aaW yl);omega)))
    ·cases he
   ·cases he
  ·cases he
 ·rename_i n elem b off hu;split at he
  ·rename_i size m hs e1;split at he
   ·rename_i hb e2;split at he
    ·rename_i l e3;injection he with he;subst he;cases hx with
     |box _ g _ hβ=>
      obtain⟨m',q1,q2,q3,q4,q5,q6,q7⟩:=C7 (P:=P) p9 nlo tB nhi qb nmx ay (top:=n) (aA:=n) (len:=n) e1 e2 e3 (aJ _) (aJ _) BG w;have hm:m'=m:=by
       rcases rG (P:=P) e1 qb nmx w with⟨_,_,hn⟩|⟨_,_,_,qa,cK⟩
       ·have:=q2 hn;omega
       ·exact q3 cK
      subst hm;refine⟨.slice (aa ⟨g,if m'=l then off else off+l * size,au⟩) (hb - l) (m' - l),?_,.arr _ _ _ _ _ _ _ hβ ah (aJ _) (.inl rfl) (.inl rfl)⟩;simp only[Instr.sliceAt,Sem.run_bind,dk hu,Result.andThen_ok,Instr.sureAddr,q1,nx hs,Sem.run_pure];congr 3;split
      ·rfl
      ·simp[Addr.mh]
    ·cases he
   ·cases he
  ·cases he
 ·cases he
def MG{f:Field}{n:Nat}(hs:dm P f.type=aa n)(hn:n≠0)(g o:Nat)(w:bX):(fieldPlace ⟨g,o,au⟩ f).run P w=.ok ⟨g,o+f.offset,au⟩ w:=by simp[fieldPlace,nx hs,hn,Addr.mh]
def afh{t:aH}{x y:AV}{f:Nat}(he:gi P t x f=aa y){c:aL}(hx:aU K x c)(w:bX):
 ∃v,(Instr.fieldAt t c f).run P w=.ok v w/\aU K y v:=by
 unfold gi at he;split at he
 ·rename_i fields hu;split at he
  ·rename_i fd hf;split at he
   ·cases he
   ·rename_i n BH hs;have hn:n≠0:=λe=>BH e;split at he
    ·rename_i r off;injection he with he;subst he;cases hx with|box b g _ hb=>exact⟨_,by simp[Instr.fieldAt,dk hu,hf,Instr.sureAddr,MG hs hn],.box _ _ _ hb⟩|eG g _=>exact⟨_,by simp[Instr.fieldAt,dk hu,hf,Instr.sureAddr,MG hs hn],.eG _ _⟩
    ·rename_i sz es i off;injection he with he;subst he;cases hx with|elem _ _ _ _ g o p cells hr hv hc hi hp ha=>exact⟨.pointer (aa ⟨g,p+fd.offset,au⟩),by simp[Instr.fieldAt,dk hu,hf,Instr.sureAddr,MG hs hn],.elem _ _ _ _ g o _ cells hr hv hc hi ah ha⟩
    ·cases he
   ·cases he
  ·cases he
 ·cases he
def ahN{t:aH}{x ix y:AV}(he:dx P t x ix=aa y){c ci:aL}(hx:aU K x c)(hi:aU K ix ci)(w:bX):
 ∃v,(Instr.indexAt t c ci).run P w=.ok v w/\aU K y v:=by
 unfold dx at he;split at he
 ·rename_i elem k sz es kk i hu;obtain⟨rfl,_⟩:=hi.iA;split at he
  ·rename_i hc;injection he with he;subst he;cases hx with|nil=>simp at hc;omega|iY=>simp at hc;omega|list _ _ _ g off n aA cells hn hr hv iq ht ha=>subst hn;refine⟨.pointer (aa ⟨g,off+i.toNat * sz,au⟩),?_,.elem _ _ _ _ g off _ cells hr hv iq ah ah ha⟩;simp[Instr.indexAt,dk hu,asIntOf,hc.1,hc.2.1,nx hc.2.2,Addr.mh]
  ·cases he
 ·rename_i elem b off len aA kk i hu;obtain⟨rfl,_⟩:=hi.iA;split at he
  ·rename_i size hs;split at he
   ·rename_i hc;injection he with he;subst he;cases hx with
    |arr _ g _ _ _ fi hJ hb hl oV qQ kL=>
     have:fi=off:=by rcases qQ with p|p<;>omega
     subst this;exact⟨_,by simp[Instr.indexAt,dk hu,asIntOf,hc.1,hc.2,nx hs,Addr.mh],.box _ _ _ hb⟩
   ·cases he
  ·cases he
 ·rename_i len elem r off kk i hu;obtain⟨rfl,_⟩:=hi.iA;split at he
  ·rename_i size hs;split at he
   ·rename_i hc;injection he with he;subst he;cases hx with|box b g _ hb=>exact⟨_,by simp[Instr.indexAt,dk hu,asIntOf,hc.1,hc.2,nx hs,Addr.mh,Instr.sureAddr],.box _ _ _ hb⟩|eG g _=>exact⟨_,by simp[Instr.indexAt,dk hu,asIntOf,hc.1,hc.2,nx hs,Addr.mh,Instr.sureAddr],.eG _ _⟩
   ·cases he
  ·cases he
 ·rename_i len elem sz es k off kk i hu;obtain⟨rfl,_⟩:=hi.iA;split at he
  ·rename_i size hs;split at he
   ·rename_i hc;injection he with he;subst he;cases hx with|elem _ _ _ _ g o p cells hr hv iq Bx hp ha=>exact⟨.pointer (aa ⟨g,p+i.toNat * size,au⟩),by simp[Instr.indexAt,dk hu,asIntOf,hc.1,hc.2,nx hs,Addr.mh,Instr.sureAddr],.elem _ _ _ _ g o _ cells hr hv iq Bx ah ha⟩
   ·cases he
  ·cases he
 ·cases he
def Xe{t:aH}{cs:List AV}{off:Nat}{y:AV}(he:GU P t cs off=aa y){vs:Array aL}(hx:aM K cs vs.toList)(w:bX):
 ∃v,(part t vs off).run P w=.ok v w/\aU K y v:=by
 unfold GU at he;split at he
 ·rename_i Bk;simp only[dt] at he;obtain⟨n,hs,rfl⟩:=he;refine⟨.agg (vs.extract off (off+n)),by simp[part,Kw Bk,nx hs],.agg _ _ ?_⟩;have:(vs.extract off (off+n)).toList=(vs.toList.drop off).take n:=by rw[ZG,aam];congr 1;omega
  rw[this];exact(hx.drop off).take n
 ·rename_i Bk;obtain⟨c,hc,hr⟩:=hx.get he;exact⟨c,by simp only[part,Sem.run_bind,Kw Bk,Result.andThen_ok];simp only[ju,if_false];rw[show vs[off]?=aa c by simpa using hc];rfl,hr⟩
 ·cases he
def ahQ{t:aH}{x ix y:AV}(he:Cc P t x ix=aa y){c ci:aL}(hx:aU K x c)(hi:aU K ix ci)(w:bX):
 ∃v,(Instr.index t c ci).run P w=.ok v w/\aU K y v:=by
 unfold Cc at he;split at he
 ·rename_i s kk i hu;obtain⟨rfl,_⟩:=hi.iA;obtain⟨rfl,_⟩:=hx.iA;split at he
  ·rename_i b hb;injection he with he;subst he;split at hb
   ·rename_i h0;refine⟨.int .u8 b.toNat,?_,.v _ rfl⟩;have:s[i.toNat]?=aa b:=(by have h1:i.toNat<s.data.size:=(CB.1 hb).1;have h2:s.data[i.toNat]=b:=(CB.1 hb).2;have h3:i.toNat<s.size:=h1;rw[getElem?_pos s i.toNat h3];exact congrArg aa h2);simp only[Instr.index,Sem.run_bind,asIntOf,Sem.run_pure,Result.andThen_ok,dk hu,aD h0,this]
   ·cases hb
  ·cases he
 ·rename_i len elem cs kk i hu;obtain⟨rfl,_⟩:=hi.iA;split at he
  ·rename_i size hs;split at he
   ·rename_i hc;cases hx with|agg _ vs fH=>obtain⟨v,q1,q2⟩:=Xe he fH w;exact⟨v,by simp only[Instr.index,Sem.run_bind,asIntOf,Sem.run_pure,Result.andThen_ok,dk hu,aD hc,nx hs,q1],q2⟩
   ·cases he
  ·cases he
 ·cases he
def OI{t:aH}(he:isIface P t=aa ay):∃d,P.underlying t=aa d/\∀ms,d≠ .interface ms:=by
 unfold isIface at he;split at he
 ·cases he
 ·rename_i d h1 h2;exact⟨d,h2,λms e=>h1 ms e⟩
 ·cases he
def aca{x y:AV}{xt a:aH}{okk:Bool}(he:xQ P x a okk=aa y){c:aL}(hx:aU K x c)(w:bX):
 ∃v,(Instr.typeAssert c xt a okk).run P w=.ok v w/\aU K y v:=by
 unfold xQ at he;split at he
 ·rename_i t x' yh;obtain⟨d,hu,hd⟩:=OI yh;cases hx with
  |iface _ _ c' hx=>
   split at he
   ·rename_i wT;injection he with he;subst he;subst wT;cases okk with
    |true=>refine⟨.tuple #[c',.bool ai],?_,.tuple _ _ (.cons _ _ _ _ hx (.cons _ _ _ _ (.v _ rfl) .nil))⟩;simp only[Instr.typeAssert,Sem.run_bind,dk hu,Result.andThen_ok];cases d<;>first|exact absurd rfl (hd _)|simp
    |false=>refine⟨c',?_,hx⟩;simp only[Instr.typeAssert,Sem.run_bind,dk hu,Result.andThen_ok];cases d<;>first|exact absurd rfl (hd _)|simp
   ·rename_i wT;split at he
    ·rename_i bD;simp only[dt] at he;obtain⟨z,hz,rfl⟩:=he;obtain⟨v,iF,rfl⟩:=Qn hz w;refine⟨.tuple #[v,.bool ay],?_,.tuple _ _ (.cons _ _ _ _ (J3 v) (.cons _ _ _ _ (.v _ rfl) .nil))⟩;simp only[Instr.typeAssert,Sem.run_bind,dk hu,Result.andThen_ok];cases d<;>first|exact absurd rfl (hd _)|simp[wT,bD,iF]
    ·cases he
 ·rename_i yh;obtain⟨d,hu,hd⟩:=OI yh;obtain⟨rfl,_⟩:=hx.iA;split at he
  ·rename_i bD;simp only[dt] at he;obtain⟨z,hz,rfl⟩:=he;obtain⟨v,iF,rfl⟩:=Qn hz w;refine⟨.tuple #[v,.bool ay],?_,.tuple _ _ (.cons _ _ _ _ (J3 v) (.cons _ _ _ _ (.v _ rfl) .nil))⟩;simp only[Instr.typeAssert,Sem.run_bind,dk hu,Result.andThen_ok];cases d<;>first|exact absurd rfl (hd _)|simp[bD,iF]
  ·cases he
 ·cases he
def ada{op}{b}{x}(he:wj op b=aa x):(op=.eql/\x=.v (.bool b))∨(op=.neq/\x=.v (.bool !b)):=by
 unfold wj at he;split at he
 ·injection he with he;exact .inl ⟨rfl,he.symm⟩
 ·injection he with he;exact .inr ⟨rfl,he.symm⟩
 ·cases he
def Sp{op:BinOp}{t:aH}{x y:bH}{a b r:AV}(he:IG P op t x y a b=aa r){p q:aL}(ha:aU K a p)(hb:aU K b q)(w:bX):
 ∃v,(do eqGuard op t x y p q;binOp op t p q:Sem aL).run P w=.ok v w/\aU K r v:=by
 unfold IG at he;split at he
 ·rename_i p' q' hp hq;have e1:=I6 hp ha;have e2:=I6 hq hb;subst e1;subst e2;simp only[yY] at he;obtain⟨z,h1,h2⟩:=he;exact⟨z,G7 h1 w,Hz h2⟩
 ·cases he
def xV{op:BinOp}{t:aH}{x y:bH}{p q:aL}{b:Bool}{r:AV}(he:wj op b=aa r)(hg:∀op,eqGuard op t x y p q=pure ())(w:bX)
 (agN:∀d,(Op.equalIn (d+1) t p q).run P w=.ok b w) (h1:binOp .eql t p q=(do pure (.bool (<-Op.equal t p q)))) (h2:binOp .neq t p q=(do pure (.bool (!(<-Op.equal t p q))))):
 ∃v,(do eqGuard op t x y p q;binOp op t p q:Sem aL).run P w=.ok v w/\aU K r v:=by
 have lQ:(Op.equal t p q).run P w=.ok b w:=agN 9999;rcases ada he with⟨rfl,rfl⟩|⟨rfl,rfl⟩
 ·exact⟨.bool b,by rw[hg,h1];simp[lQ],.v _ rfl⟩
 ·exact⟨.bool !b,by rw[hg,h2];simp[lQ],.v _ rfl⟩
def V4{t:aH}(he:isIface P t=aa ai):∃ms,P.underlying t=aa (.interface ms):=by
 unfold isIface at he;split at he
 ·exact⟨_,‹_›⟩
 ·cases he
 ·cases he
def acH{op:BinOp}{t:aH}{x y:bH}{a b r:AV}(he:cQ P op t x y a b=aa r){p q:aL}(ha:aU K a p)(hb:aU K b q)(w:bX):
 ∃v,(do eqGuard op t x y p q;binOp op t p q:Sem aL).run P w=.ok v w/\aU K r v:=by
 unfold cQ at he;split at he
 ·rename_i s1 s2;have f1:=ha.iA.1;have f2:=hb.iA.1;subst f1;subst f2;split at he
  ·injection he with he;subst he;exact⟨.bool (s1.data.toList==s2.data.toList),by simp[eqGuard,binOp,Op.stringOp,ByteArray.toList_eq],.v _ rfl⟩
  ·injection he with he;subst he;exact⟨.bool !(s1.data.toList==s2.data.toList),by simp[eqGuard,binOp,Op.stringOp,ByteArray.toList_eq],.v _ rfl⟩
  ·split at he
   ·rename_i hl;injection he with he;subst he;refine⟨.string (s1++s2),?_,.v _ rfl⟩;have:¬(((s1.size+s2.size:Nat):Int)>IntKind.i64.max):=(by simp only[IntKind.max,IntKind.signed,IntKind.bits];simp;omega);simp only[eqGuard,binOp,Op.stringOp];simp only[aG this];simp
   ·cases he
  ·exact Sp he ha hb w
 ·rename_i ti xi;split at he
  ·rename_i yh;obtain⟨ms,hu⟩:=V4 yh;cases ha with|iface _ _ c hx=>have f2:=hb.iA.1;subst f2;refine xV he (λop=>by cases op<;>rfl) w (λd=>?_) rfl rfl;simp only[Op.equalIn,Sem.run_bind,dk hu,Result.andThen_ok,Sem.run_pure]
  ·cases he
 ·rename_i ti xi;split at he
  ·rename_i yh;obtain⟨ms,hu⟩:=V4 yh;cases hb with|iface _ _ c hx=>have f2:=ha.iA.1;subst f2;refine xV he (λop=>by cases op<;>rfl) w (λd=>?_) rfl rfl;simp only[Op.equalIn,Sem.run_bind,dk hu,Result.andThen_ok,Sem.run_pure]
  ·cases he
 ·rename_i r0 o0;split at he
  ·rename_i e hu;have f2:=hb.iA.1;subst f2;cases ha<;>(refine xV he (λop=>by cases op<;>rfl) w (λd=>?_) rfl rfl;simp only[Op.equalIn,Sem.run_bind,dk hu,Result.andThen_ok,Sem.run_pure,Iv])
  ·cases he
 ·rename_i r0 o0;split at he
  ·rename_i e hu;have f2:=ha.iA.1;subst f2;cases hb<;>(refine xV he (λop=>by cases op<;>rfl) w (λd=>?_) rfl rfl;simp only[Op.equalIn,Sem.run_bind,dk hu,Result.andThen_ok,Sem.run_pure,Iv])
  ·cases he
 ·split at he
  ·rename_i hu;have f2:=hb.iA.1;subst f2;cases ha<;>(refine xV he (λop=>by cases op<;>rfl) w (λd=>?_) rfl rfl;simp only[Op.equalIn,Sem.run_bind,dk hu,Result.andThen_ok,Sem.run_pure,Iv])
  ·cases he
 ·split at he
  ·rename_i hu;have f2:=ha.iA.1;subst f2;cases hb<;>(refine xV he (λop=>by cases op<;>rfl) w (λd=>?_) rfl rfl;simp only[Op.equalIn,Sem.run_bind,dk hu,Result.andThen_ok,Sem.run_pure,Iv])
  ·cases he
 ·rename_i k sz es sz2;split at he
  ·rename_i e hu;have f2:q=.slice au 0 0:=by
    cases hb with|nil=>rfl|list _ _ _ _ _ _ _ _ _ _ _ _ ht _=>exact ht.2.elim
   subst f2;cases ha with
   |nil=>refine xV he (λop=>by cases op<;>rfl) w (λd=>?_) rfl rfl;simp only[Op.equalIn,Sem.run_bind,dk hu,Result.andThen_ok,Sem.run_pure,Option.isNone_none,decide_true]
   |iY=>refine xV he (λop=>by cases op<;>rfl) w (λd=>?_) rfl rfl;simp only[Op.equalIn,Sem.run_bind,dk hu,Result.andThen_ok,Sem.run_pure,Iv];rfl
   |list _ _ _ g off n aA cells hn hr hv hc ht _=>have hk:k≠ .nil:=λe=>(by subst e;exact ht.2);refine xV he (λop=>by cases op<;>rfl) w (λd=>?_) rfl rfl;simp only[Op.equalIn,Sem.run_bind,dk hu,Result.andThen_ok,Sem.run_pure,hk,decide_false]
  ·cases he
 ·exact Sp he ha hb w
def aqu{op:UnOp}{a r:AV}(he:Cx P op a=aa r){p:aL}(ha:aU K a p)(w:bX):∃v,(Op.unary op p).run P w=.ok v w/\aU K r v:=by
 unfold Cx at he;split at he
 ·rename_i p' hp;have e1:=I6 hp ha;subst e1;simp only[yY] at he;obtain⟨z,h1,h2⟩:=he;exact⟨z,G7 h1 w,Hz h2⟩
 ·cases he
end
section
variable {P:bB} {K:aP} {G:Nat->Option (List AV)} {ok:bq->Nat->Code->Bool} {w0 w:bX} {h:ao}
def Sd{h}{d}{sz}{es}{t}(hd:∀n∈h.dead,n∈d)(ha:alive ({h with dead:=d}.fresh sz es).2 t=ai):
 t=h.tn∨(alive h t=ai/\t∉d):=by
 simp only[ao.fresh,alive,bA,decide_eq_true_eq,yP,List.contains_eq_mem,decide_eq_false_iff_not] at ha;obtain⟨wF,oU⟩:=ha;have wF:t<h.tn+1:=of_decide_eq_true wF;rcases dT t h.tn with az|eo
 ·exact .inr ⟨by simp[alive,az];exactλhm=>oU (hd t hm),oU⟩
 ·exact .inl ah
def bN.MV{w':bX}(s:bN K G ok w0 h w){d:List Nat}(hd:∀n∈h.dead,n∈d){sz:Nat}{es:List (List AV)}{cells:Array aL}{e:aH}{fz:Nat × Nat}{aA:Nat}
 (hr:∀r∈es,r.length=sz) (ha:es.flatten.all AV.dW=ai) (hv:aM K es.flatten (cells.toList.take (es.length * sz)))
 (Ob:w'.os=w.os) (Ov:w'.tape=w.tape) (zX:w'.output=w.output) (dV:w'.heap.size=w.heap.size+1)
 (np:∀k,k<w.heap.size->w'.heap[k]?=w.heap[k]?) (nN:w'.heap[w.heap.size]?=aa (.cells cells e fz))
 (je:es.length<=aA) (nk:aA * sz<=cells.size) (Bv:∀j,j<cells.size->nb fz j=ay):
 ∃K',K.Le K'/\bN K' G ok w0 ({h with dead:=d}.fresh sz es).2 w'/\aU K' ({h with dead:=d}.fresh sz es).1 (.slice (aa ⟨w.heap.size,0,au⟩) es.length aA):=by
 have By:∀j,K.ic w.heap.size j=au:=λj=>by
  cases hc:K.ic w.heap.size j with|none=>rfl|some c=>have:=s.Aj hc;omega
 have bO:es.length * sz<=cells.size:=fc (nX _ je) nk;have dU:=s.row (h':=({h with dead:=d}.fresh sz es).2) (w':=w') (g:=w.heap.size) (off:=0) (m:=es.length * sz) (cells:=cells) (e:=e) (fz:=fz) rfl rfl rfl
  (λt ht=>(Sd hd ht).imp id λhh=>⟨hh.1,λlQ=>by obtain⟨_,_,_,_,_,_,h4,_⟩:=s.tok t hh.1;have:=oF h4;omega⟩)
  s.size (λb hb=>by obtain⟨cs,bZ⟩:=βaa s hb;obtain⟨_,_,_,_,_,h3,_⟩:=s.box b _ cs hb bZ;have:=oF h3;omega) (λj _=>By j) ah Ob Ov zX
  (λk o hk ho=>by rw[np k (oF ho)];exact ho) nN (λo ho=>by have:=oF ho;omega) (λj c hc=>by rw[By] at hc;cases hc) (df _) bO (λj _ hl=>Bv j hl)
 have le:=aP.OU (K:=K) (g:=w.heap.size) (off:=0) (m:=es.length * sz) (size:=cells.size) (cells:=λj=>cells[j]?) (λj _=>By j) s.size;refine⟨_,le,dU,?_⟩;refine .list (.free h.tn) sz es w.heap.size 0 _ aA (cells.toList.take (es.length * sz)) rfl hr (hv.mono le) (λj c hj=>?_) ⟨je,?_⟩ ha
 ·simp only[nU] at hj;split at hj
  ·rename_i az;simp only[aP.row,nZ];rw[aD (by exact⟨aT,df _,az⟩)];simpa using hj
  ·cases hj
 ·simp only[aP.row,s.tn,if_true];refine⟨ah,aT,by omega,by omega⟩
def ze(l:List UInt8):∀r∈l.map jQ,r.length=1:=by intro r hr;simp only[jE] at hr;obtain⟨b,_,rfl⟩:=hr;rfl
def Mr(l:List UInt8):(l.map jQ).flatten=l.map λb=>AV.v (.int .u8 b.toNat):=by
 induction l with
 |nil=>rfl|cons b l ih=>simp[jQ,ih]
def SI(l:List UInt8):aM K (l.map jQ).flatten (l.map λb=>Value.int .u8 b.toNat):=by rw[Mr];exact aM.map_mk λb _=>.v _ rfl
def SH(l:List UInt8):(l.map jQ).flatten.all AV.dW=ai:=by rw[Mr,eE];intro x hx;simp only[jE] at hx;obtain⟨b,_,rfl⟩:=hx;rfl
def aqo(s:bN K G ok w0 h w){e:aH}{str:ByteArray}:
 ∃K' v w',K.Le K'/\bN K' G ok w0 (h.fresh 1 (str.data.toList.map jQ)).2 w'/\aU K' (h.fresh 1 (str.data.toList.map jQ)).1 v/\(Conv.stringToBytes e str).run P w=.ok v w':=by
 have hq:∃aA,str.size<=aA/\(choose (.appendCap str.size 0 e)).run P w=.ok aA {w with drawn:=w.drawn+1}:=by refine⟨_,?_,by simp[Question.forced];rfl⟩;simp[Question.cut]
 obtain⟨aA,je,uh⟩:=hq
 let w1:bX:={w with drawn:=w.drawn+1}
 let cells:Array aL:=str.data.map (λb=>.int .u8 b.toNat)++CE (aA - str.size) (.int .u8 0)
 have bZ:cells.size=aA:=by have:str.data.size=str.size:=rfl;simp only[cells,Array.size_append,Array.size_map,Array.size_replicate,this];try omega
 have bO:str.data.toList.length=str.size:=rfl
 let w2:bX:=({w1 with heap:=w1.heap.push (.cells cells e)}:bX).freeze {block:=w1.heap.size,off:=aA} 1
 have nN:w2.heap[w.heap.size]?=aa (.cells cells e (aA,aA+1)):=by simp only[w2,World.freeze,w1,LI,if_false,CC,if_true,Array.getElem?_push_size,eX];rfl
 have np:∀k,k<w.heap.size->w2.heap[k]?=w.heap[k]?:=λk hk=>by simp only[w2,World.freeze,w1,CC];simp only[LI,if_false,CC];rw[aG ah];exact Bt w _ hk
 obtain⟨K',le,s',hv⟩:=s.MV (w':=w2) (d:=h.dead) (λ_ hm=>hm) (sz:=1) (es:=str.data.toList.map jQ) (cells:=cells) (e:=e) (fz:=(aA,aA+1)) (aA:=aA)
  (ze _) (SH _) (by have:cells.toList.take ((str.data.toList.map jQ).length * 1)=str.data.toList.map λb=>Value.int .u8 b.toNat:=(by simp only[cells,CF,CG,bJ,nY];rw[Ir bG,fK bG]);rw[this];exact SI _) rfl rfl rfl (by simp[w2,World.freeze,w1]) np nN (by simp only[bJ,bO];exact je) ah (λj hj=>by simp[nb];omega)
 refine⟨K',_,w2,le,s',hv,?_⟩;have jK:(str.data.toList.map jQ).length=str.size:=by simp only[bJ,bO]
 rw[jK];simp only[Conv.stringToBytes,Sem.run_bind,uh,Result.andThen_ok,newRow,run_newObj,Sem.run_pure,markStringish,run_shape];have JE:({w1 with heap:=w1.heap.push (.cells cells e)}:bX).shape? w1.heap.size=aa (e,aA):=by simp[World.shape?,bZ]
 simp only[w1,cells] at JE;simp only[JE,run_freeze,Result.andThen_ok,Sem.run_pure,w2,w1,cells]
def adq:∀{ae:List (List AV)} {l:List UInt8},bytesOf ae=aa l->∀{vs:List aL},aM K ae.flatten vs->
 ∃ns:List Int,vs=ns.map (.int .u8 ·)/\l=ns.map λn=>UInt8.ofNat n.toNat:=by
 intro ae
 induction ae with
 |nil=>intro l h vs hv;simp[bytesOf] at h;subst h;cases hv;exact⟨[],rfl,rfl⟩
 |cons r ae ih=>
  intro l h vs hv;simp only[bytesOf] at h;split at h
  ·rename_i b l' hb hl;injection h with h;subst h;unfold byteOf at hb;split at hb
   ·rename_i n;injection hb with hb;subst hb;simp only[oK,jO,jZ] at hv;cases hv with|cons _ c _ cs hx hs=>obtain⟨ns,h1,h2⟩:=ih hl hs;exact⟨n::ns,by rw[hx.iA.1,h1];rfl,by rw[h2];rfl⟩
   ·cases hb
  ·cases h
def foldl_push(ns:List Int):∀acc:ByteArray,ns.foldl (λb a=>b.push (UInt8.ofNat a.toNat)) acc=⟨acc.data++(ns.map λn=>UInt8.ofNat n.toNat).toArray⟩:=by
 induction ns with
 |nil=>intro acc;simp|cons n ns ih=>intro acc;simp only[xE,ih,ev];simp[ByteArray.push]
def Hi(s:bN K G ok w0 h w){size:Nat}{x:AV}{ae:List (List AV)}(he:rowsOf h size x=aa ae){c:aL}(hv:aU K x c):
 ∃a aA eu,c=.slice a ae.length aA/\(∀r∈ae,r.length=size)/\aM K ae.flatten eu/\ae.flatten.all AV.dW=ai/\eu.length=ae.length * size/\
  (∀b,a=aa b->(loadCells b (ae.length * size)).run P w=.ok eu.toArray w)/\(a=au->ae=[]):=by
 unfold rowsOf at he;split at he
 ·rename_i k sz es;split at he
  ·rename_i dV;injection he with he;subst he;cases hv with
   |nil=>exact⟨au,0,[],rfl,by simp,.nil,rfl,by simp,λb hb=>(by cases hb),λ_=>rfl⟩|iY _ a0=>refine⟨aa a0,0,[],rfl,by simp,.nil,rfl,by simp,λb hb=>?_,λhb=>by cases hb⟩;have:=run_loadCells_list (P:=P) w b [] (λj v hj=>by simp at hj);simpa using this|list _ _ _ g off n aA cells hn hr fH iq ht ha=>
    subst hn;have hl:cells.length=es.length * sz:=(by rw[<-fH.length,na hr]);have ym:es.length * sz=es.length * size:=by
     rcases dV with h|h
     ·rw[h]
     ·simp[h]
    refine⟨aa ⟨g,off,au⟩,aA,cells,rfl,λr hm=>?_,fH,ha,by rw[hl,ym],λb hb=>?_,λhn=>by cases hn⟩
    ·rcases dV with h|h
     ·rw[<-h];exact hr r hm
     ·rw[h] at hm;simp at hm
    ·injection hb with hb;subst hb;have:=run_loadCells_list (P:=P) w ⟨g,off,au⟩ cells (λj v hj=>by rw[Addr.mh];exact s.ic _ _ _ (iq j v hj));rw[hl,ym] at this;exact this
  ·cases he
 ·rename_i b off len aA;split at he
  ·rename_i cs bZ;split at he
   ·rename_i nk;injection he with he;subst he;cases hv with
    |arr _ g _ _ _ fi hJ hb hl oV qQ kL=>
     obtain⟨_,_,ka,cells,e,k3,k4⟩:=s.box b g cs hb bZ;have agR:∀n,off+n * size<=cs.length->((bL n).map λi=>(cs.drop (off+i * size)).take size).flatten=(cs.drop off).take (n * size):=by
      intro n
      induction n with
      |zero=>intro _;simp|succ n ih=>intro hn;rw[oN,oM,qA,ih (by rw[fW] at hn;omega)];simp only[ev,List.map_nil,oK,Rk,jv];rw[show(n+1) * size=n * size+size by rw[fW];omega,List.take_add,List.drop_drop]
     have hf:=agR len nk;have hk4:=(k4.1.drop off).take (len * size);have cV:cs.length<=cells.toList.length:=(by have:=k4.le;simpa using this);have pH:(((cells.toList.take cs.length).drop off).take (len * size)).length=len * size:=(by simp only[fb,gE];omega);refine⟨aa ⟨g,fi,au⟩,hJ,((cells.toList.take cs.length).drop off).take (len * size),by simp,λr hr=>?_,?_,?_,by rw[pH];simp,λb' gQ=>?_,λhn=>by cases hn⟩
     ·simp only[jE,fD] at hr;obtain⟨i,hi,rfl⟩:=hr;simp only[fb,gE];have:(i+1) * size<=len * size:=nX _ hi;rw[fW] at this;omega
     ·rw[hf];exact hk4
     ·rw[hf,eE];intro x hx;exact eE.1 ka x (Lt (pS hx))
     ·injection gQ with gQ;subst gQ;have:=run_loadCells_list (P:=P) w ⟨g,fi,au⟩ (((cells.toList.take cs.length).drop off).take (len * size)) (λj v hj=>by
       rcases qQ with rfl|hz
       ·rw[Addr.mh,rJ k3];simp only[nU,pR] at hj;split at hj
        ·split at hj
         ·simpa using hj
         ·cases hj
        ·cases hj
       ·have DF:len=0:=(by omega);subst DF;simp at hj)
      have jK:(((cells.toList.take cs.length).drop off).take (len * size)).length=((bL len).map λi=>(cs.drop (off+i * size)).take size).length * size:=(by rw[pH];simp);rw[jK] at this;exact this
   ·cases he
  ·cases he
 ·cases he
def GN(s:bN K G ok w0 h w){size:Nat}{x:AV}{ae:List (List AV)}(he:mw h size x=aa ae){c:aL}(hv:aU K x c):
 ∃eu,(Builtin.lenOf c).run P w=.ok ae.length w/\(∀r∈ae,r.length=size)/\aM K ae.flatten eu/\ae.flatten.all AV.dW=ai/\eu.length=ae.length * size/\
  (Builtin.firstCells size ae.length c).run P w=.ok eu.toArray w:=by
 unfold mw at he;split at he
 ·rename_i str;split at he
  ·rename_i h1;injection he with he;subst he;subst h1;obtain⟨rfl,_⟩:=hv.iA;have hl:(str.data.toList.map jQ).length=str.size:=(by rw[bJ];rfl);refine⟨str.data.toList.map λb=>.int .u8 b.toNat,by rw[hl];rfl,ze _,SI _,SH _,by simp,?_⟩;rw[hl];have:str.extract 0 str.size=str:=(by simp);have e2:str.data.map (λb=>Value.int .u8 b.toNat)=(str.data.toList.map λb=>Value.int .u8 b.toNat).toArray:=(by apply K7;simp);simp only[Builtin.firstCells,this,Sem.run_pure,e2]
  ·cases he
 ·obtain⟨a,aA,eu,rfl,hr,fH,ha,bO,BD,nL⟩:=Hi (P:=P) s he hv;refine⟨eu,rfl,hr,fH,ha,bO,?_⟩;cases a with|none=>have:=nL rfl;subst this;have:eu=[]:=(by simpa using bO);subst this;rfl|some b=>exact BD b rfl
def Yu(z)(n):(Builtin.zeroCells z n).size=n * z.size:=by simp[Builtin.zeroCells]
def af5(s:bN K G ok w0 h w){d:List Nat}(hd:∀n∈h.dead,n∈d){t0 t1 elem:aH}{ts:Array aH}{ty:aH}{i:TypeInfo}{d1:TypeDesc}(h0:ts[0]?=aa t0)(hu:P.underlying t0=aa (.slice elem))
 (h1:ts[1]?=aa t1) (lW:P.underlying t1=aa d1) (hU:∀k,d1≠ .int k) (hi:P.info? elem=aa i) (hz:(i.zero.map λz=>z.cells.size)=aa i.size)
 {es new:List (List AV)} {a:Option Addr} {aA:Nat} {c cx:aL} (hc:c=.slice a es.length aA) (je:aA<es.length+new.length)
 (hr:∀r∈es,r.length=i.size) (ha:es.flatten.all AV.dW=ai) {eu:List aL} (fH:aM K es.flatten eu) (hf:(Builtin.firstCells i.size es.length c).run P {w with drawn:=w.drawn+1}=.ok eu.toArray {w with drawn:=w.drawn+1})
 {nv:List aL} (N4:(Builtin.lenOf cx).run P w=.ok new.length w) (JD:∀r∈new,r.length=i.size) (VQ:aM K new.flatten nv) (yd:new.flatten.all AV.dW=ai)
 (zO:(Builtin.firstCells i.size new.length cx).run P {w with drawn:=w.drawn+1}=.ok nv.toArray {w with drawn:=w.drawn+1})
 (hb:(es.length+new.length) * i.bytes<=140737488355328) (hm:es.length+new.length<=9223372036854775807):
 ∃K' v w',K.Le K'/\bN K' G ok w0 ({h with dead:=d}.fresh i.size (es++new)).2 w'/\aU K' ({h with dead:=d}.fresh i.size (es++new)).1 v/\(Builtin.append_ ts ty #[c,cx]).run P w=.ok v w':=by
 simp only[dt] at hz;obtain⟨z,hz,wU⟩:=hz;have hq:∃nc,es.length+new.length<=nc/\(choose (.appendCap (es.length+new.length) aA elem)).run P w=.ok nc {w with drawn:=w.drawn+1}:=by refine⟨_,?_,by simp[Question.forced];rfl⟩;simp[Question.cut]
 obtain⟨nc,Gj,uh⟩:=hq
 let rest:=Builtin.zeroCells z.cells (nc - (es.length+new.length))
 let cells:Array aL:=eu.toArray++nv.toArray++rest
 let w1:bX:={w with drawn:=w.drawn+1}
 let w2:bX:={w1 with heap:=w1.heap.push (.cells cells elem)}
 have tE:eu.length=es.length * i.size:=by rw[<-fH.length,na hr]
 have jK:nv.length=new.length * i.size:=by rw[<-VQ.length,na JD]
 have bO:(es++new).length * i.size=(eu++nv).length:=by rw[du,du,tE,jK,fW]
 have hzero:(zeroValue elem).run P w1=.ok z w1:=by simp[zeroValue,rk hi,hz]
 have agQ:=growslice_fits (bytes:=i.bytes) je hb;have lV:(Builtin.append_ ts ty #[c,cx]).run P w=.ok (.slice (aa ⟨w.heap.size,0,au⟩) (es.length+new.length) nc) w2:=by
  subst hc;have e1:¬(((es.length+new.length:Nat):Int)>IntKind.i64.max):=by simp only[IntKind.max,IntKind.signed,IntKind.bits];simp;omega
  have e2:¬(Builtin.nextslicecap (es.length+new.length) aA * i.bytes>2^48):=by omega
  have e3:¬(es.length+new.length<=aA):=by omega
  cases d1<;>first|exact absurd rfl (hU _)|(simp only[Builtin.append_,h0,ja,jD,pc,Sem.run_bind,dk hu,Result.andThen_ok,sizeOf,rk hi,Sem.run_pure,h1,dk lW,ju,if_false,N4,e3,e1,e2,false_and,uh,run_askRoom,hf,yQ,if_true,zO,newRow,run_newObj,hzero,w1,w2,cells,rest])
 have cK:cells.size=nc * i.size:=by simp only[cells,Q2,aaG,rest,Yu,tE,jK,wU];rw[LL];have:(es.length+new.length) * i.size<=nc * i.size:=nX _ Gj;rw[fW] at this ⊢;omega
 have nN:w2.heap[w.heap.size]?=aa (.cells cells elem (0,0)):=by simp[w2,w1]
 obtain⟨K',le,s',hv⟩:=s.MV (w':=w2) hd (sz:=i.size) (es:=es++new) (cells:=cells) (e:=elem) (fz:=(0,0)) (aA:=nc)
  (λr hm=>by rcases xF.1 hm with hm|hm;exact hr r hm;exact JD r hm) (by rw[qA,AI,ha,yd];rfl) (by have:cells.toList.take ((es++new).length * i.size)=eu++nv:=(by rw[bO];simp only[cells,CF];rw[Ir bG];exact fK bG);rw[this,qA];exact fH.append VQ) rfl rfl rfl (by simp[w2,w1]) (λk hk=>Bt w _ hk) nN (by rw[du];exact Gj) (by rw[cK];exact aJ _) (λj _=>Jb j)
 rw[du] at hv;exact⟨K',_,w2,le,s',hv,lV⟩
def arn(s:bN K G ok w0 h w){ts:Array aH}{ty elem:aH}{kn:IntKind}{a x y:AV}{h':ao}(hu:(ts[0]?).bind P.underlying=aa (.slice elem))(lW:(ts[1]?).bind P.underlying=aa (.int kn))
 (he:K4 P h ts elem a x=aa (y,h')) {c cx:aL} (ha:aU K a c) (hx:aU K x cx):
 ∃K' v w',K.Le K'/\bN K' G ok w0 h' w'/\aU K' y v/\(Builtin.append_ ts ty #[c,cx]).run P w=.ok v w':=by
 unfold K4 at he;split at he
 ·rename_i sz kk n;obtain⟨rfl,_⟩:=hx.iA;split at he
  ·rename_i i zero hi hz;obtain⟨z,iF,fO,yp⟩:=CA (K:=K) hz w;split at he
   ·rename_i Nr;obtain⟨h0,h1,h2,h3,h5,h6⟩:=Nr;injection he with he;obtain⟨rfl,rfl⟩:=ig he;have hzero:i.zero=aa z:=by
     simp only[zeroValue,Sem.run_bind,rk hi,Result.andThen_ok] at iF;cases GC:i.zero with|none=>rw[GC] at iF;simp at iF|some v=>rw[GC] at iF;simp at iF;rw[iF]
    have wU:z.cells.size=i.size:=(by rw[<-h6,fO.length];simp);obtain⟨m,rfl⟩:∃m:Nat,n=m:=⟨n.toNat,by omega⟩;rw[Int.toNat_natCast];obtain⟨t0,t1,rfl⟩:∃t0 t1,ts=#[t0,t1]:=by
     obtain⟨l⟩:=ts
     match l,h0 with
     | [a,b],_=>exact⟨a,b,rfl⟩
    have hu:P.underlying t0=aa (.slice elem):=hu;have lW:P.underlying t1=aa (.int kn):=lW;have hm:m * i.bytes<=140737488355328:=(by have:((m * i.bytes:Nat):Int)<=140737488355328:=(by rw[Int.natCast_mul];exact h2);omega);have lV:=Go.Lib.run_append_nil_zeros (P:=P) w t0 t1 ty elem i z kk kn hu lW hi hzero m ah h5 ah ah;have eo:=grownCap_ge w m 0 elem;generalize grownCap w m 0 elem=gc at *
    have Jk:(Builtin.zeroCells z.cells m).toList=(bm m z.cells.toList).flatten:=G9 _ _;have tE:(bm m z.cells.toList).flatten.length=(bm m zero).flatten.length:=(fO.Bf m).length.symm;have jK:(bm m zero).flatten.length=m * i.size:=na (sz:=i.size) (es:=bm m zero) (λr hr=>by rw[Ig hr];exact h6)|>.trans (by rw[qC])
    have dV:(Builtin.zeroCells z.cells m++Builtin.zeroCells z.cells (gc - m)).size=gc * i.size:=by
     rw[Q2,<-xv,<-xv,Jk,tE,jK];have e2:(Builtin.zeroCells z.cells (gc - m)).toList=(bm (gc - m) z.cells.toList).flatten:=G9 _ _;rw[e2,<-(fO.Bf (gc - m)).length];have e3:(bm (gc - m) zero).flatten.length=(gc - m) * i.size:=na (sz:=i.size) (es:=bm (gc - m) zero) (λr hr=>by rw[Ig hr];exact h6)|>.trans (by rw[qC])
     rw[e3,<-fW,Nat.add_sub_cancel' eo]
    obtain⟨q1,q2⟩:=(s.drew (w.drawn+1)).Pb (cs:=(bm m zero).flatten) (cells:=Builtin.zeroCells z.cells m++Builtin.zeroCells z.cells (gc - m)) elem (aa (m,i.size,gc * i.size))
     (by rw[CF,Jk,Ir (by rw[tE];exact aJ _),fK (by rw[tE];exact aJ _)];exact fO.Bf m) (Kg yp _)
     (λN sz room q=>by injection q with q;injection q with q1 q;injection q with q2 q3;subst q1 q2 q3;exact .inr ⟨jK,by rw[dV];exact aJ _⟩)
    have bO:h.boxes.length=K.β.length:=s.lj.symm;cases ha with
    |nil=>
     cases q2 with|box _ _ _ hb=>exact⟨_,_,_,K.D4 _ _,q1,.arr _ _ _ _ _ _ _ hb (aJ _) eo (.inl rfl) (.inr (.inr (.inr ⟨i.size,gc * i.size,by simp only[aP.oS,bO,if_true],h5,aJ _⟩))),lV⟩
    |list _ _ _ _ _ _ _ _ _ _ _ _ ht _=>exact ht.2.elim
   ·cases he
  ·cases he
 ·cases he
set_option maxHeartbeats 1000000 in
def Md(s:bN K G ok w0 h w){ts:Array aH}{ty:aH}{a x y:AV}{h':ao}(he:gd P h ts a x=aa (y,h')){c cx:aL}(ha:aU K a c)(hx:aU K x cx):
 ∃K' v w',K.Le K'/\bN K' G ok w0 h' w'/\aU K' y v/\(Builtin.append_ ts ty #[c,cx]).run P w=.ok v w':=by
 unfold gd at he;split at he
 ·rename_i hu lW;exact arn s hu lW he ha hx
 ·rename_i elem d1 DI hu lW;simp only[yY] at hu lW;obtain⟨t0,h0,hu⟩:=hu;obtain⟨t1,h1,lW⟩:=lW;have hU:∀k,d1≠ .int k:=λk e=>DI k e;split at he
  ·cases he
  rename_i i hi;split at he
  ·cases he
  rename_i new lv;split at he;rotate_left
  ·cases he
  rename_i hz;obtain⟨nv,n1,n2,n3,n4,n5,n6⟩:=GN (P:=P) s lv hx;obtain⟨nv',n1',n2',n3',n4',n5',n6'⟩:=GN (P:=P) (s.drew (w.drawn+1)) lv hx;split at he
  ·rename_i k sz es;split at he;rotate_left
   ·cases he
   rename_i dV;have jA:rowsOf h i.size (.list k sz es)=aa es:=(by simp only[rowsOf];rw[aD dV]);obtain⟨b,aA,eu,rfl,r1,r2,r3,r4,r5,r6⟩:=Hi (P:=P) (s.drew (w.drawn+1)) jA ha;have hf:(Builtin.firstCells i.size es.length (.slice b es.length aA)).run P {w with drawn:=w.drawn+1}=.ok eu.toArray {w with drawn:=w.drawn+1}:=by
    cases b with|none=>have:=r6 rfl;subst this;have:eu=[]:=(by simpa using r4);subst this;rfl|some b=>exact r5 b rfl
   split at he
   ·rename_i nL;injection he with he;obtain⟨rfl,rfl⟩:=Prod.mk.inj he;subst nL;have N7:nv=[]:=(by simpa using n5);subst N7;refine⟨K,.slice b es.length aA,w,.refl K,s,ha,?_⟩;have je:es.length<=aA:=by
     cases ha with|nil=>exact aJ _|iY=>exact aJ _|list _ _ _ _ _ _ _ _ _ _ _ _ ht _=>exact ht.1
    have n1:(Builtin.lenOf cx).run P w=.ok 0 w:=n1;have n6:(Builtin.firstCells i.size 0 cx).run P w=.ok #[] w:=n6;cases d1<;>first|exact absurd rfl (hU _)|(cases b<;>simp only[Builtin.append_,h0,ja,jD,pc,Sem.run_bind,dk hu,Result.andThen_ok,sizeOf,rk hi,Sem.run_pure,h1,dk lW,ju,if_false,n1,AQ,je,if_true,yQ,n6,storeCells])
   ·rename_i BJ;have Gk:0<new.length:=by cases new with|nil=>exact absurd rfl BJ|cons _ _=>simp
    split at he;rotate_left
    ·cases he
    rename_i hb;have grow:∀d:List Nat,(∀n∈h.dead,n∈d)->aA<es.length+new.length->
     ∃K' v w',K.Le K'/\bN K' G ok w0 ({h with dead:=d}.fresh i.size (es++new)).2 w'/\aU K' ({h with dead:=d}.fresh i.size (es++new)).1 v/\(Builtin.append_ ts ty #[.slice b es.length aA,cx]).run P w=.ok v w':=
     λd hd je=>af5 s hd h0 hu h1 lW hU hi hz.2 rfl je r1 r3 r2 hf n1 n2 n3' n4 n6' hb.1 hb.2
    split at he
    ·injection he with he;obtain⟨rfl,rfl⟩:=ig he;cases ha with|nil=>exact grow h.dead (λ_ hm=>hm) (by simpa using Gk)|list _ _ _ _ _ _ _ _ _ _ _ _ ht _=>exact ht.2.elim
    ·injection he with he;obtain⟨rfl,rfl⟩:=ig he;cases ha with|iY=>exact grow h.dead (λ_ hm=>hm) (by simpa using Gk)|list _ _ _ _ _ _ _ _ _ _ _ _ ht _=>exact grow h.dead (λ_ hm=>hm) (by have:=ht.2;simp only at this;omega)
    ·rename_i n;split at he;rotate_left
     ·cases he
     rename_i UE;simp only[bA,decide_eq_true_eq] at UE;obtain⟨fM,hsi⟩:=UE;injection he with he;obtain⟨rfl,rfl⟩:=ig he;rcases dT aA (es.length+new.length) with je|je
     ·exact grow (n::h.dead) (λ_ hm=>fR _ hm) je
     ·cases ha with
      |list _ _ _ g off n' _ cells hn hr fH iq ht pZ=>
       obtain⟨t1',t2,t3,t4⟩:=ht.2;obtain⟨k1,k2,k3,bc,be,bz,k4,k5,k6⟩:=s.tok n fM;subst t2;subst hsi;have nj:bc.size=(K.tk n).2.2:=k5;have nk:off+es.length * i.size+nv.length<=bc.size:=(by have:(es.length+new.length) * i.size<=aA * i.size:=nX _ je;rw[fW] at this;omega);obtain⟨w',dw,q1,q2,q3⟩:=Hy (P:=P) (off+es.length * i.size) be bz nv 0 bc w k4 ah (Fl n3 n4) (λj hj hj'=>by rw[<-zC k4];exact k6 j ah ah);have Gb:dw.size=bc.size:=(by have h1:dw.toList.length=bc.toList.length:=(by rw[q3];simp only[du,fb,gE,xv,AQ];omega);simpa using h1);have NH:∀j,j<off+es.length * i.size->dw[j]?=bc[j]?:=λj hj=>(by rw[<-CD,q3,<-CD,tV,ru (by simp;omega),nU,aD ah]);have agT:∀j,j<nv.length->dw[off+es.length * i.size+j]?=nv[j]?:=λj hj=>(by have az:(bc.toList.take (off+es.length * i.size+0)).length=off+es.length * i.size:=(by simp;omega);rw[<-CD,q3,tV,ET ah,az,ru ah];congr 1;omega);have dU:=s.row (h':=({h with dead:=n::h.dead}.fresh i.size (es++new)).2) (w':=w') (g:=(K.tk n).1) (off:=off+es.length * i.size) (m:=off+(es.length+new.length) * i.size) (cells:=dw) (e:=be) (fz:=bz) rfl rfl rfl
        (λt ht=>(Sd (λ_ hm=>fR _ hm) ht).imp id λhh=>⟨hh.1,λlQ=>hh.2 (by rw[s.pN t n hh.1 fM lQ];exact ga ..)⟩)
        k1 k2 (λj hj=>k3 j ah) (by rw[q2.size];exact aJ _) q2.os q2.tape q2.output (λk o hk ho=>(q2.other k hk).trans ho) q2.this (λo ho=>by rw[k4] at ho;injection ho with ho;subst ho;exact⟨_,_,_,rfl⟩)
        (λj c hc=>by
         have hj:j<off+es.length * i.size:=by
          rcases dT j (off+es.length * i.size) with h|h
          ·exact h
          ·rw[k3 j ah] at hc;cases hc
         rw[NH j hj,<-rJ k4];exact s.ic _ _ _ hc)
        (by rw[fW];omega) (by rw[fW,Gb];omega) (λj hj hl=>by rw[<-zC k4];rw[fW] at hj;exact k6 j ah ah)
       have le:=aP.OU (K:=K) (g:=(K.tk n).1) (off:=off+es.length * i.size) (m:=off+(es.length+new.length) * i.size) (size:=dw.size) (cells:=λj=>dw[j]?) (λj hj=>k3 j ah) k1;have cV:cells.length=es.length * i.size:=(by rw[<-fH.length,na hr]);refine⟨_,.slice (aa ⟨(K.tk n).1,off,au⟩) (es.length+new.length) aA,w',le,dU,?_,?_⟩
       ·refine .list (.free h.tn) i.size (es++new) (K.tk n).1 off _ aA (cells++nv) bG (λr hm=>by rcases xF.1 hm with hm|hm;exact hr r hm;exact n2 r hm) (by rw[qA];exact(fH.append n3).mono le) (λj c hj=>?_) ⟨je,?_⟩ (by rw[qA,AI,pZ,n4];rfl)
        ·rcases dT j cells.length with az|eo
         ·rw[ru az] at hj;exact le.ic _ _ _ (iq j c hj)
         ·rw[ET eo] at hj;have oW:j - cells.length<nv.length:=(aQ.1 hj).1;simp only[aP.row];rw[aD (by refine⟨aT,by omega,by rw[fW];omega⟩)];have:=agT (j - cells.length) oW;rw[hj] at this;rw[<-this];congr 1;omega
        ·simp only[aP.row,s.tn,if_true];refine⟨ah,aT,aT,by omega⟩
       ·have zF:(⟨(K.tk n).1,off,au⟩:Addr).add (es.length * i.size)=⟨(K.tk n).1,off+es.length * i.size,au⟩:=Addr.mh _ _ _;cases d1<;>first|exact absurd rfl (hU _)|(simp only[Builtin.append_,h0,ja,jD,pc,Sem.run_bind,dk hu,Result.andThen_ok,sizeOf,rk hi,Sem.run_pure,h1,dk lW,ju,if_false,n1,je,if_true,yQ,n6,zF,q1])
    ·cases he
  ·rename_i b off len aA;split at he
   ·rename_i cs bZ;split at he
    ·rename_i hc;injection he with he;obtain⟨rfl,rfl⟩:=ig he;cases ha with
     |arr _ g _ _ _ fi hJ hb hl oV qQ kL=>
      obtain⟨k1,k2,ka,cells,e,k3,k4⟩:=s.box b g cs hb bZ;have ym:cs.length<=cells.size:=k4.le;have hm:(len+new.length) * i.size<=aA * i.size:=nX _ hc.1;rw[fW] at hm;have UP:len+new.length<=hJ:=(by omega);by_cases B1:aA=0
      ·have BH:new=[]:=by cases new with|nil=>rfl|cons _ _=>simp at hc;omega
       subst BH;have N7:nv=[]:=(by simpa using n5);subst N7;have n1:(Builtin.lenOf cx).run P w=.ok 0 w:=n1;have n6:(Builtin.firstCells i.size 0 cx).run P w=.ok #[] w:=n6;have BV:h.boxes.set b (eK cs (off+len * i.size) ([]:List (List AV)).flatten)=h.boxes:=by
        rw[show eK cs (off+len * i.size) ([]:List (List AV)).flatten=cs by simp[eK]];apply sM;intro k;rw[mU];split
        ·rename_i e;subst e;rw[aD (aQ.1 bZ).1,bZ]
        ·rfl
       rw[BV];refine⟨K,.slice (aa ⟨g,fi,au⟩) len hJ,w,.refl K,s,.arr _ _ _ _ _ _ _ hb hl oV qQ kL,?_⟩;have NX:len<=hJ:=(by omega);cases d1<;>first|exact absurd rfl (hU _)|(simp only[Builtin.append_,h0,ja,jD,pc,Sem.run_bind,dk hu,Result.andThen_ok,sizeOf,rk hi,Sem.run_pure,h1,dk lW,ju,if_false,n1,AQ,NX,if_true,yQ,n6,storeCells])
      ·have N8:fi=off:=by rcases qQ with p|p<;>omega
       obtain⟨w',dw,q1,q2,q3⟩:=Hy (P:=P) (off+len * i.size) e (0,0) nv 0 cells w k3 ah (Fl n3 n4) (λj _ _=>Jb j);have pE:new.flatten.length=new.length * i.size:=(by rw[n3.length,n5]);refine⟨K,.slice (aa ⟨g,fi,au⟩) (len+new.length) hJ,w',.refl K,s.QE hb bZ (by rw[pE];omega) k3 q2 q3 n3 n4,.arr _ _ _ _ _ _ _ hb hc.1 oV qQ kL,?_⟩;have zF:(⟨g,off,au⟩:Addr).add (len * i.size)=⟨g,off+len * i.size,au⟩:=Addr.mh _ _ _;rw[N8];cases d1<;>first|exact absurd rfl (hU _)|(simp only[Builtin.append_,h0,ja,jD,pc,Sem.run_bind,dk hu,Result.andThen_ok,sizeOf,rk hi,Sem.run_pure,h1,dk lW,ju,if_false,n1,UP,if_true,yQ,n6,zF,q1])
    ·cases he
   ·cases he
  ·cases he
 ·cases he
def af6{t0 t1 elem:aH}{ts:Array aH}{ty:aH}{i:TypeInfo}{d1:TypeDesc}(h0:ts[0]?=aa t0)(hu:P.underlying t0=aa (.slice elem))
 (h1:ts[1]?=aa t1) (lW:P.underlying t1=aa d1) (hU:∀k,d1≠ .int k) (hi:P.info? elem=aa i) (hz:(i.zero.map λz=>z.cells.size)=aa i.size)
 {n m:Nat} {a:Option Addr} {aA:Nat} {cx:aL} (je:aA<n+m) {eu:List aL} (pH:eu.length=n * i.size)
 (hf:(Builtin.firstCells i.size n (.slice a n aA)).run P {w with drawn:=w.drawn+1}=.ok eu.toArray {w with drawn:=w.drawn+1})
 {nv:List aL} (N4:(Builtin.lenOf cx).run P w=.ok m w) (pE:nv.length=m * i.size)
 (zO:(Builtin.firstCells i.size m cx).run P {w with drawn:=w.drawn+1}=.ok nv.toArray {w with drawn:=w.drawn+1})
 (hb:(n+m) * i.bytes<=140737488355328) (hm:n+m<=9223372036854775807):
 ∃nc cells,n+m<=nc/\cells.size=nc * i.size/\cells.toList.take ((n+m) * i.size)=eu++nv/\
  (Builtin.append_ ts ty #[.slice a n aA,cx]).run P w=.ok (.slice (aa ⟨w.heap.size,0,au⟩) (n+m) nc) {w with drawn:=w.drawn+1,heap:=w.heap.push (.cells cells elem)}:=by
 simp only[dt] at hz;obtain⟨z,hz,wU⟩:=hz;have hq:∃nc,n+m<=nc/\(choose (.appendCap (n+m) aA elem)).run P w=.ok nc {w with drawn:=w.drawn+1}:=by refine⟨_,?_,by simp[Question.forced];rfl⟩;simp[Question.cut]
 obtain⟨nc,Gj,uh⟩:=hq
 let rest:=Builtin.zeroCells z.cells (nc - (n+m))
 let cells:Array aL:=eu.toArray++nv.toArray++rest
 let w1:bX:={w with drawn:=w.drawn+1}
 have bO:(n+m) * i.size=(eu++nv).length:=by rw[du,pH,pE,fW]
 have hzero:(zeroValue elem).run P w1=.ok z w1:=by simp[zeroValue,rk hi,hz]
 have agQ:=growslice_fits (bytes:=i.bytes) je hb;refine⟨nc,cells,Gj,?_,?_,?_⟩
 ·simp only[cells,Q2,aaG,rest,Yu,pH,pE,wU];rw[LL];have:(n+m) * i.size<=nc * i.size:=nX _ Gj;rw[fW] at this ⊢;omega
 ·rw[bO];simp only[cells,CF];rw[Ir bG];exact fK bG
 ·have e1:¬(((n+m:Nat):Int)>IntKind.i64.max):=by simp only[IntKind.max,IntKind.signed,IntKind.bits];simp;omega
  have e2:¬(Builtin.nextslicecap (n+m) aA * i.bytes>2^48):=by omega
  have e3:¬(n+m<=aA):=by omega
  cases d1<;>first|exact absurd rfl (hU _)|(simp only[Builtin.append_,h0,ja,jD,pc,Sem.run_bind,dk hu,Result.andThen_ok,sizeOf,rk hi,Sem.run_pure,h1,dk lW,ju,if_false,N4,e3,e1,e2,false_and,uh,run_askRoom,hf,yQ,if_true,zO,newRow,run_newObj,hzero,w1,cells,rest])
set_option maxHeartbeats 2000000 in
def aqk(s:bN K G ok w0 h w){ts:Array aH}{ty:aH}{a x y:AV}{h':ao}(he:sI P h ts a x=aa (y,h')){c cx:aL}(ha:aU K a c)(hx:aU K x cx):
 ∃K' v w',K.Le K'/\bN K' G ok w0 h' w'/\aU K' y v/\(Builtin.append_ ts ty #[c,cx]).run P w=.ok v w':=by
 have aV:=he;unfold sI at he;split at he
 ·cases he
 ·rename_i elem d1 DI VN VO;have hu:=VN;have lW:=VO;simp only[yY] at hu lW;obtain⟨t0,h0,hu⟩:=hu;obtain⟨t1,h1,lW⟩:=lW;have hU:∀k,d1≠ .int k:=λk e=>DI k e;split at he
  ·cases he
  rename_i i hi;split at he
  ·cases he
  rename_i new lv;split at he;rotate_left
  ·cases he
  rename_i hz;obtain⟨nv,n1,n2,n3,n4,n5,n6⟩:=GN (P:=P) s lv hx;obtain⟨nv',n1',n2',n3',n4',n5',n6'⟩:=GN (P:=P) (s.drew (w.drawn+1)) lv hx;have fresh:∀{h0:ao} (s0:bN K G ok w0 h0 w) {n aA:Nat} {ad:Option Addr} {cs:List AV} {eu:List aL},h0.boxes.length=h.boxes.length->aA<n+new.length->aM K cs eu->cs.all AV.dW=ai->cs.length=n * i.size->
   (Builtin.firstCells i.size n (.slice ad n aA)).run P {w with drawn:=w.drawn+1}=.ok eu.toArray {w with drawn:=w.drawn+1}->(n+new.length) * i.bytes<=140737488355328->n+new.length<=9223372036854775807->
   ∃K' v w',K.Le K'/\bN K' G ok w0 {h0 with boxes:=h0.boxes++[cs++new.flatten]} w'/\aU K' (.arr h.boxes.length 0 (n+new.length) (n+new.length)) v/\(Builtin.append_ ts ty #[.slice ad n aA,cx]).run P w=.ok v w':=by
   intro h0' s0 n aA ad cs eu jr je fH pZ cV hf hb hm;have pE:new.flatten.length=new.length * i.size:=na n2';obtain⟨nc,cells,g1,g2,g3,g4⟩:=af6 (ty:=ty) h0 hu h1 lW hU hi hz.2 je (by rw[<-fH.length,cV]) hf n1 n5' n6' hb hm;have Dx:(cs++new.flatten).length=(n+new.length) * i.size:=(by rw[du,cV,pE,fW]);obtain⟨q1,q2⟩:=(s0.drew (w.drawn+1)).Pb (cs:=cs++new.flatten) (cells:=cells) elem (aa (n+new.length,i.size,nc * i.size)) (by rw[Dx,g3];exact fH.append n3') (by rw[AI,pZ,n4'];rfl)
    (λN sz room q=>by injection q with q;injection q with q1 q;injection q with q2 q3;subst q1 q2 q3;exact .inr ⟨Dx,by rw[g2];exact aJ _⟩)
   cases q2 with|box _ _ _ fG=>rw[jr] at fG;refine⟨_,_,_,K.D4 _ _,q1,.arr _ _ _ _ _ _ _ fG (aJ _) g1 (.inl rfl) (.inr (.inr (.inr ⟨i.size,nc * i.size,?_,hz.1,aJ _⟩))),g4⟩;have bO:h.boxes.length=K.β.length:=(by rw[s0.lj,jr]);simp only[aP.oS,bO,if_true]
  split at he
  ·rename_i k sz es;split at he;rotate_left
   ·cases he
   rename_i dV;split at he
   ·rename_i nL;refine Md s ?_ ha hx;unfold gd;rw[VN,VO];cases d1<;>first|exact absurd rfl (hU _)|(simp only[hi,lv,aD hz,aD dV,aD nL];exact he)
   ·rename_i BJ;split at he;rotate_left
    ·cases he
    rename_i hb;have jA:rowsOf h i.size (.list k sz es)=aa es:=(by simp only[rowsOf];rw[aD dV]);obtain⟨b,aA,eu,rfl,r1,r2,r3,r4,r5,r6⟩:=Hi (P:=P) (s.drew (w.drawn+1)) jA ha;have hf:(Builtin.firstCells i.size es.length (.slice b es.length aA)).run P {w with drawn:=w.drawn+1}=.ok eu.toArray {w with drawn:=w.drawn+1}:=by
     cases b with|none=>have:=r6 rfl;subst this;have:eu=[]:=(by simpa using r4);subst this;rfl|some b=>exact r5 b rfl
    have Gk:0<new.length:=by cases new with|nil=>exact absurd rfl BJ|cons _ _=>simp
    have fin:aA<es.length+new.length->aa (AV.arr h.boxes.length 0 (es.length+new.length) (es.length+new.length),({h with boxes:=h.boxes++[(es++new).flatten]}:ao))=aa (y,h')->∃K' v w',K.Le K'/\bN K' G ok w0 h' w'/\aU K' y v/\(Builtin.append_ ts ty #[.slice b es.length aA,cx]).run P w=.ok v w':=λje hq=>(by injection hq with hq;obtain⟨rfl,rfl⟩:=ig hq;rw[qA];exact fresh s rfl je r2 r3 (na r1) hf hb.1 hb.2);split at he
    ·refine fin ?_ he;cases ha with|nil=>simpa using Gk|list _ _ _ _ _ _ _ _ _ _ _ _ ht _=>exact ht.2.elim
    ·refine fin ?_ he;cases ha with|iY=>simpa using Gk|list _ _ _ _ _ _ _ _ _ _ _ _ ht _=>have:=ht.2;simp only at this;omega
    ·cases he
  ·rename_i b off len aA;split at he
   ·rename_i cs bZ;split at he
    ·exact Md s he ha hx
    ·rename_i F9;split at he
     ·rename_i hc;injection he with he;obtain⟨rfl,rfl⟩:=ig he;obtain⟨c1,c2,c3,c4,c5,c6⟩:=hc;subst c1;subst c3;cases ha with
      |arr _ g _ _ _ fi hJ hb hl oV qQ kL=>
       have N8:fi=0:=by rcases qQ with p|p<;>omega
       subst N8;obtain⟨k1,k2,ka,cells,e,k3,k4⟩:=s.box b g cs hb bZ;have bE:cs≠[]:=λq=>(by subst q;have:=LH c2 hz.1;simp at c4;omega);have Nl:=(aQ.1 bZ).1;have tw:=s.aeP b;have Js:(h.boxes.set b []).length=h.boxes.length:=(by simp);rcases dT hJ (len+new.length) with je|je
       ·refine fresh tw Js je k4.1 ka c4.symm ?_ c5 c6;have:=run_loadCells_list (P:=P) {w with drawn:=w.drawn+1} ⟨g,0,au⟩ (cells.toList.take cs.length) (λj v hj=>by
         rw[Addr.mh,rJ (w:={w with drawn:=w.drawn+1}) k3];simp only[nU] at hj;split at hj
         ·simpa using hj
         ·cases hj)
        rw[<-k4.1.length,<-c4] at this;rw[<-c4];exact this
       ·rcases kL with r|r|r|⟨sz,room,r1,r2,r3⟩
        ·omega
        ·omega
        ·exact absurd rfl r
        ·rcases k4.2 _ _ _ r1 with q|⟨q1,q2⟩
         ·exact absurd q bE
         ·have dV:i.size=sz:=Nat.eq_of_mul_eq_mul_left c2 (c4.trans q1);subst dV;have eC:=k4.le;have pE:new.flatten.length=new.length * i.size:=na n2;have ahq:(len+new.length) * i.size<=cells.size:=fc (nX _ je) (fc r3 q2);rw[fW] at ahq;obtain⟨w',dw,w1,w2,w3⟩:=Hy (P:=P) (0+len * i.size) e (0,0) nv 0 cells w k3 ah (Fl n3 n4) (λj _ _=>Jb j);have agC:dw.toList.length=cells.toList.length:=(by rw[w3];exact Qv (by simp only[xv];omega));obtain⟨s3,ye⟩:=tw.aqf (g:=g) (cs:=cs++new.flatten) (cells:=dw) (e:=e) k1 k2
           (λb2 fG=>by
            show(h.boxes.set b [])[b2]?=aa [];rw[mU];by_cases vg:b=b2
            ·subst vg;rw[aD rfl,aD Nl]
            ·rw[aG vg];rcases s.pQ _ _ _ hb fG with p|p|p
             ·exact absurd p vg
             ·rw[bZ] at p;injection p with p;exact absurd p bE
             ·exact p)
           (λt ht hq=>by obtain⟨_,q,_⟩:=s.tok t ht;exact q b (by rw[hq];exact hb)) k3 (aa (len+new.length,i.size,cells.size))
           (λN sz room q=>by injection q with q;injection q with q1 q;injection q with q2 q3;subst q1 q2 q3;refine .inr ⟨by rw[du,<-c4,pE,fW],?_⟩;simp only[xv] at agC;omega) w2
           (by rw[du,pE,w3];have e1:cs.length+new.length * i.size=0+len * i.size+0+nv.length:=(by omega);rw[e1,Ir (by simp only[du,fb,xv];omega),fK (by simp only[du,fb,xv];omega)];have e2:0+len * i.size+0=cs.length:=(by omega);rw[e2];exact k4.1.append n3) (by rw[AI,ka,n4];rfl)
          rw[Js] at ye;refine⟨_,.slice (aa ⟨g,0,au⟩) (len+new.length) hJ,w',K.D4 _ _,s3,.arr _ _ _ _ _ _ _ ye (aJ _) je (.inl rfl) (.inr (.inr (.inr ⟨i.size,cells.size,?_,hz.1,fc r3 q2⟩))),?_⟩
          ·have bO:h.boxes.length=K.β.length:=s.lj.symm;simp only[aP.oS,bO,if_true]
          ·have zF:(⟨g,0,au⟩:Addr).add (len * i.size)=⟨g,0+len * i.size,au⟩:=Addr.mh _ _ _;cases d1<;>first|exact absurd rfl (hU _)|(simp only[Builtin.append_,h0,ja,jD,pc,Sem.run_bind,dk hu,Result.andThen_ok,sizeOf,rk hi,Sem.run_pure,h1,dk lW,ju,if_false,n1,je,if_true,yQ,n6,zF,w1])
     ·cases he
   ·cases he
  ·cases he
 ·cases he
def adm(s:bN K G ok w0 h w){t:aH}{len:Nat}{parts:Array (Nat × bH)}{ρ:bH->AV}{ρ':bH->aL}(hρ:∀x,aU K (ρ x) (ρ' x)){k:Tok}{sz:Nat}{es:List (List AV)}
 (he:gN P t len (parts.toList.map λp=>(p.1,ρ p.2))=aa (.list k sz es)):
 ∃K' v w',K.Le K'/\bN K' G ok w0 (h.fresh sz es).2 w'/\aU K' (h.fresh sz es).1 v/\(Instr.buildSlice t len (parts.map λp=>(p.1,ρ' p.2))).run P w=.ok v w':=by
 obtain⟨p1,p2⟩:=Pv hρ parts;unfold gN at he;split at he
 ·rename_i elem hu;split at he
  ·rename_i size zero hs hz;obtain⟨z,iF,fO,yp⟩:=CA (K:=K) hz w;split at he
   ·rename_i hc;simp only[dt] at he;obtain⟨out,ho,he⟩:=he;injection he with _ e1 e2;subst e1;subst e2;obtain⟨f1,f2,f3⟩:=TD (λr hr=>by rw[(Rn.1 hr).2];exact hc.2.1) ho;have wU:z.cells.size=size:=(by rw[<-hc.2.1,fO.length];simp);have nJ:((yM (len * size)).map (z.cells[·%z.cells.size]!)).toList=(bm len z.cells.toList).flatten:=(by rw[<-wU];exact G9 _ _);obtain⟨out',q1,q2⟩:=I5 (dw:=(yM (len * size)).map (z.cells[·%z.cells.size]!)) f1 (by rw[nJ];exact fO.Bf len) p1 p2;have tG:out.length=len:=(by rw[f3];simp);have ym:out'.toList.length=len * size:=(by rw[<-q2.length,na f2,tG]);obtain⟨K',le,s',hv⟩:=s.MV (w':={w with heap:=w.heap.push (.cells out' elem)}) (d:=h.dead) (λ_ hm=>hm) (sz:=size) (es:=out) (cells:=out') (e:=elem) (fz:=(0,0)) (aA:=len)
     f2 (TE f1 (Kg yp len)) (by rw[fK (by rw[ym,tG];exact aJ _)];exact q2) rfl rfl rfl bG (λk hk=>Bt w _ hk) bG
     ah (by rw[<-ym];simp) (λj hj=>by simp[nb])
    rw[tG] at hv;refine⟨K',.slice (aa ⟨w.heap.size,0,au⟩) len len,_,le,s',hv,?_⟩;by_cases h0:len * size=0
    ·have M3:len=0:=by
      rcases aaQ.1 h0 with h|h
      ·exact h
      ·omega
     subst M3;simp only[Ff] at q1;have e1:(yM 0).map (λx=>(#[]:Array aL)[x%(#[]:Array aL).size]!)=(yM 0).map (z.cells[·%z.cells.size]!):=(by simp);simp only[Instr.buildSlice,Sem.run_bind,dk hu,Result.andThen_ok,nx hs,Ff];simp only[sO,gt_iff_lt,if_false,aa0,if_true,Sem.run_pure,Result.andThen_ok,e1,q1,newRow,Sem.run_bind,run_newObj]
    ·simp only[Instr.buildSlice,Sem.run_bind,dk hu,Result.andThen_ok,nx hs];rw[aG ah,aG h0];simp only[Sem.run_pure,Sem.run_bind,iF,Result.andThen_ok,q1,newRow,run_newObj]
   ·cases he
  ·cases he
 ·cases he
def bN.kill(s:bN K G ok w0 h w){t:Nat}(ha:alive h t=ai)(n:Nat):bN K G ok w0 {h with dead:=t::h.dead} (w.freeze ⟨(K.tk t).1,n,au⟩ 1):=by
 obtain⟨t1,t2,t3,c0,e0,z0,t4,t5,t6⟩:=s.tok t ha;have nN:∃z,(w.freeze ⟨(K.tk t).1,n,au⟩ 1).heap[(K.tk t).1]?=aa (.cells c0 e0 z):=by simp only[World.freeze,LI,if_false,CC,if_true,t4,eX];exact⟨_,rfl⟩
 obtain⟨z1,nN⟩:=nN;have np:∀k,k≠(K.tk t).1->(w.freeze ⟨(K.tk t).1,n,au⟩ 1).heap[k]?=w.heap[k]?:=λk hk=>by simp only[World.freeze,LI,if_false,CC];rw[aG (Ne.symm hk)]
 have dV:(w.freeze ⟨(K.tk t).1,n,au⟩ 1).heap.size=w.heap.size:=by simp[World.freeze]
 have fM:∀t',alive {h with dead:=t::h.dead} t'=ai->alive h t'=ai/\t'≠t:=λt' h'=>by unfold alive at h' ⊢;simp only[List.contains_cons,bA,yP,Bool.or_eq_false_iff,decide_eq_true_eq] at h' ⊢;exact⟨⟨h'.1,h'.2.2⟩,λq=>by rw[q] at h';simp at h'⟩
 refine⟨?_,by rw[dV];exact s.size,λg j c hc=>?_,s.eG,s.lj,s.pQ,λb g cs hb bZ=>?_,s.nS,s.qw,λl g r hl hr=>?_,s.tn,λt' Gy=>?_,λt' u Gy hu=>s.pN t' u (fM t' Gy).1 (fM u hu).1,λr hr=>?_,s.all⟩
 ·refine s.cZ.trans ⟨rfl,rfl,rfl,by rw[dV];exact aJ _,λk hk=>?_⟩;have zT:k<K.base:=hk;exact np k ah
 ·have h1:=s.ic g j c hc;by_cases hg:g=(K.tk t).1
  ·subst hg;rw[rJ t4] at h1;rw[rJ nN];exact h1
  ·rw[<-h1];exact World.cell?_of_block (w:=w) (np g hg)
 ·obtain⟨h1,h2,oU,dw,e',h3,h4⟩:=s.box b g cs hb bZ;exact⟨h1,h2,oU,dw,e',by rw[np g λq=>t2 b (q ▸ hb)];exact h3,h4⟩
 ·obtain⟨h1,fn,tmps,d,h2,h3⟩:=s.loop l g r hl hr;exact⟨h1,fn,tmps,d,by rw[np g λq=>by rw[q,t4] at h2;cases h2];exact h2,h3⟩
 ·obtain⟨JI,bE⟩:=fM t' Gy;obtain⟨h1,h2,h3,dw,e',fz',h4,h5,h6⟩:=s.tok t' JI;have iD:(K.tk t').1≠(K.tk t).1:=λq=>bE (s.pN t' t JI ha q);have h7:(w.freeze ⟨(K.tk t).1,n,au⟩ 1).heap[(K.tk t').1]?=aa (.cells dw e' fz'):=by rw[np _ iD];exact h4
  exact⟨h1,h2,h3,dw,e',fz',h7,h5,λj hj hl=>by rw[<-h6 j hj hl,zC h4,zC h7]⟩
 ·obtain⟨h1,h2⟩:=s.md r hr;exact⟨h1,by rw[np r λq=>by rw[q,t4] at h2;cases h2];exact h2⟩
def aei(s:bN K G ok w0 h w){src dst:aH}{x y:AV}{h':ao}(he:mY P h src dst x=aa (y,h')){c:aL}(hx:aU K x c):
 ∃K' v w',K.Le K'/\bN K' G ok w0 h' w'/\aU K' y v/\(convert src dst c).run P w=.ok v w':=by
 unfold mY at he;split at he
 ·rename_i e str hs hd;obtain⟨rfl,_⟩:=hx.iA;split at he
  ·rename_i i hu hi;split at he
   ·injection he with he;obtain⟨rfl,rfl⟩:=ig he;obtain⟨K',v,w',q1,q2,q3,q4⟩:=aqo (P:=P) s (e:=e) (str:=str);exact⟨K',v,w',q1,q2,q3,by simp only[convert,Sem.run_bind,dk hs,dk hd,dk hu,Result.andThen_ok];exact q4⟩
   ·cases he
  ·cases he
 ·rename_i e hs hd;split at he
  ·rename_i ae hu jA;simp only[dt] at he;obtain⟨l,hl,he⟩:=he;obtain⟨rfl,rfl⟩:=ig he;obtain⟨a,aA,eu,rfl,hr,fH,ha,bO,BD,nL⟩:=Hi (P:=P) s jA hx;obtain⟨ns,rfl,rfl⟩:=adq hl fH;refine⟨K,.string ⟨(ns.map λn=>UInt8.ofNat n.toNat).toArray⟩,w,.refl K,s,.v _ rfl,?_⟩;cases a with|none=>have:=nL rfl;subst this;simp at bO;subst bO;simp only[convert,Sem.run_bind,dk hs,dk hd,dk hu,Result.andThen_ok,Conv.bytesToString];rfl|some b=>have jK:=BD b rfl;rw[nY] at jK;simp only[convert,Sem.run_bind,dk hs,dk hd,dk hu,Result.andThen_ok,Conv.bytesToString,jK,List.forIn_toArray,Sem.run_pure];simp[foldl_push]
  ·cases he
 ·rename_i e e2 t sz es hs hd;split at he
  ·rename_i hu;split at he
   ·rename_i hc;obtain⟨rfl,fM⟩:=hc;injection he with he;obtain⟨rfl,rfl⟩:=ig he;cases hx with|list _ _ _ g off n aA cells hn hr hv iq ht ha=>obtain⟨JI,DV,yn,ht4,ht5⟩:=ht;subst yn;obtain⟨t1,t2,t3,c0,e0,z0,t4,t5,t6⟩:=s.tok t fM;refine⟨K,.slice (aa ⟨(K.tk t).1,off,au⟩) n aA,_,.refl K,s.kill fM c0.size,.list .held sz es _ off n aA cells hn hr hv iq ⟨JI,aT⟩ ha,?_⟩;have JE:w.shape? (K.tk t).1=aa (e0,c0.size):=(by simp[World.shape?,t4]);rw[hs] at hd;injection hd with hd;injection hd with hd;subst hd;simp only[convert,Sem.run_bind,dk hs,dk hu,Result.andThen_ok,beq_self_eq_true,markStringish,run_shape,JE,run_freeze,Sem.run_pure]
   ·cases he
  ·cases he
 ·cases he
 ·rename_i d1 d2 p hs hd _ _ _ _;simp only[dt,yY] at he;obtain⟨z,⟨q,h1,h2⟩,he⟩:=he;obtain⟨rfl,rfl⟩:=ig he;obtain⟨rfl,_⟩:=hx.iA;exact⟨K,q,w,.refl K,s,Hz h2,G7 h1 w⟩
 ·cases he
end
section
variable {P:bB} {K:aP} {G:Nat->Option (List AV)} {ok:bq->Nat->Code->Bool} {w0 w:bX} {h:ao}
def aem(s:bN K G ok w0 h w){ts:Array aH}{ty:aH}{a x y:AV}{h':ao}(he:zr P h ts a x=aa (y,h')){c cx:aL}(ha:aU K a c)(hx:aU K x cx):
 ∃K' v w',K.Le K'/\bN K' G ok w0 h' w'/\aU K' y v/\(Builtin.copy_ ts ty #[c,cx]).run P w=.ok v w':=by
 unfold zr at he;split at he
 ·rename_i elem hu;simp only[yY] at hu;obtain⟨t0,h0,hu⟩:=hu;split at he
  ·rename_i i b off len aA hi;split at he
   ·rename_i ae cs jA bZ;split at he
    ·rename_i hc;injection he with he;obtain⟨rfl,rfl⟩:=ig he;obtain⟨nv,n1,n2,n3,n4,n5,n6⟩:=GN (P:=P) s jA hx;cases ha with
     |arr _ g _ _ _ fi hJ hb hl oV qQ kL=>
      obtain⟨k1,k2,ka,cells,e,k3,k4⟩:=s.box b g cs hb bZ;have ym:cs.length<=cells.size:=k4.le;have ahf:oO ae.length len<=ae.length:=Nat.min_le_left _ _;have ahg:oO ae.length len<=len:=Nat.min_le_right _ _;have hm:oO ae.length len * i.size<=len * i.size:=nX _ ahg;have qa:oO ae.length len * i.size<=ae.length * i.size:=nX _ ahf;have ou:(ae.take (oO ae.length len)).flatten=ae.flatten.take (oO ae.length len * i.size):=MP n2 _;have qi:aM K (ae.take (oO ae.length len)).flatten (nv.take (oO ae.length len * i.size)):=(by rw[ou];exact n3.take _);have gT:(ae.take (oO ae.length len)).flatten.all AV.dW=ai:=(by rw[ou,eE];intro x hx;exact eE.1 n4 x (pS hx));have bO:(nv.take (oO ae.length len * i.size)).length=oO ae.length len * i.size:=(by simp only[fb];omega);obtain⟨w',dw,q1,q2,q3⟩:=an8 (P:=P) qQ (vs:=nv.take (oO ae.length len * i.size)) (λhz=>by have:oO ae.length len=0:=(by omega);rw[this];simp) k3 ah (Fl qi gT);refine⟨K,.int .i64 (oO ae.length len:Nat),w',.refl K,s.QE hb bZ (by rw[qi.length];omega) k3 q2 q3 qi gT,.v _ rfl,?_⟩
      ·-- the source's first cells, as many as are copied
       have agP:(Builtin.firstCells i.size (oO ae.length len) cx).run P w=.ok (nv.take (oO ae.length len * i.size)).toArray w:=by
        unfold mw at jA;split at jA
        ·rename_i str;split at jA
         ·rename_i h1;injection jA with jA;subst jA;obtain⟨rfl,_⟩:=hx.iA;have jK:(str.data.toList.map jQ).length=str.size:=(by rw[bJ];rfl);have e2:nv=str.data.toList.map λb=>Value.int .u8 b.toNat:=(by have e3:(Builtin.firstCells i.size (str.data.toList.map jQ).length (.string str)).run P w=.ok (str.data.toList.map λb=>Value.int .u8 b.toNat).toArray w:=(by rw[jK];have:str.extract 0 str.size=str:=(by simp);have e4:str.data.map (λb=>Value.int .u8 b.toNat)=(str.data.toList.map λb=>Value.int .u8 b.toNat).toArray:=(by apply K7;simp);simp only[Builtin.firstCells,this,Sem.run_pure,e4]);rw[e3] at n6;injection n6 with n6 _;exact(Ly n6).symm);subst e2;rw[h1,nY];simp only[Builtin.firstCells,Sem.run_pure];congr 1;apply K7;simp only[ByteArray.data_extract,CG,ZG,aam,List.drop_zero,Nat.sub_zero,List.map_take]
         ·cases jA
        ·obtain⟨a,hJ,eu,rfl,hr,fH,pZ,Ge,BD,nL⟩:=Hi (P:=P) s jA hx;cases a with
         |none=>have:=nL rfl;subst this;have:nv=[]:=(by simpa using n5);subst this;simp[Builtin.firstCells]|some ad=>
          simp only[Builtin.firstCells];have hl:=BD ad rfl;have e5:eu=nv:=(by simp only[Builtin.firstCells] at n6;rw[hl] at n6;injection n6 with n6 _;exact Ly n6);subst e5;have p7:∀j v,eu[j]?=aa v->w.cell? (ad.add j)=aa v:=by
           unfold rowsOf at jA;split at jA
           ·rename_i k sz es _;split at jA
            ·injection jA with jA;subst jA;cases hx with
             |iY=>cases fH;intro j v hj;simp at hj
             |list _ _ _ g2 off2 n cap2 cells2 hn jg ahE U5 DV oU=>have jK:=run_loadCells_list (P:=P) w ⟨g2,off2,au⟩ cells2 (λj v hj=>by rw[Addr.mh];exact s.ic _ _ _ (U5 j v hj));have Dx:cells2.length=es.length * i.size:=(by rw[<-ahE.length,fH.length,Ge]);rw[Dx] at jK;rw[jK] at hl;injection hl with hl _;have:=Ly hl;subst this;intro j v hj;rw[Addr.mh];exact s.ic _ _ _ (U5 j v hj)
            ·cases jA
           ·rename_i b2 off2 Wn cap2 _;split at jA
            ·rename_i cs2 Nt;split at jA
             ·rename_i arK;injection jA with jA;cases hx with
              |arr _ g2 _ _ _ off2' cap2' fG jK UP Oa ar6=>
               obtain⟨_,_,_,cells2,e2,k3',k4'⟩:=s.box b2 g2 cs2 fG Nt;have cV:cs2.length<=cells2.toList.length:=(by have:=k4'.le;simpa using this);rcases Oa with Oa|fO;rotate_left 1
               ·intro j v hj;have eO:ae.length=0:=(by omega);rw[eO] at Ge;have:eu=[]:=(by simpa using Ge);subst this;simp at hj
               rw[Oa] at hl ⊢;have Dx:((cells2.toList.drop off2).take (ae.length * i.size)).length=ae.length * i.size:=(by simp only[fb,gE];omega);have Gb:=run_loadCells_list (P:=P) w ⟨g2,off2,au⟩ ((cells2.toList.drop off2).take (ae.length * i.size)) (λj v hj=>by
                rw[Addr.mh,rJ k3'];simp only[nU,pR] at hj;split at hj
                ·simpa using hj
                ·cases hj)
               rw[Dx] at Gb;rw[Gb] at hl;injection hl with hl _;have:=Ly hl;subst this;intro j v hj;rw[Addr.mh,rJ k3'];simp only[nU,pR] at hj;split at hj
               ·simpa using hj
               ·cases hj
             ·cases jA
            ·cases jA
           ·cases jA
          have:=run_loadCells_list (P:=P) w ad (eu.take (oO ae.length len * i.size)) (λj v hj=>by
           simp only[nU] at hj;split at hj
           ·exact p7 j v hj
           ·cases hj)
          rw[bO] at this;exact this
       simp only[Builtin.copy_,h0,ja,jD,pc,Sem.run_bind,dk hu,Result.andThen_ok,n1,sizeOf,rk hi,Sem.run_pure,agP,q1];rfl
    ·cases he
   ·cases he
  ·cases he
 ·cases he
def aim{ts:Array aH}{ty t:aH}(h0:ts[0]?=aa t){x y:AV}(he:dN P t x=aa y){c:aL}(hx:aU K x c)(w:bX):
 ∃v,(Builtin.len_ ts ty #[c]).run P w=.ok v w/\aU K y v:=by
 unfold dN at he;split at he
 ·rename_i hu;injection he with he;subst he;obtain⟨rfl,_⟩:=hx.iA;exact⟨_,by simp only[Builtin.len_,h0,ja,jD,Sem.run_bind,dk hu,Result.andThen_ok,Sem.run_pure,goInt],.v _ rfl⟩
 ·rename_i n e hu;injection he with he;subst he;exact⟨_,by simp only[Builtin.len_,h0,ja,jD,Sem.run_bind,dk hu,Result.andThen_ok,Sem.run_pure,goInt],.v _ rfl⟩
 ·rename_i a hu;split at he
  ·rename_i n e Ow;injection he with he;subst he;exact⟨_,by simp only[Builtin.len_,h0,ja,jD,Sem.run_bind,dk hu,dk Ow,Result.andThen_ok,Sem.run_pure,goInt],.v _ rfl⟩
  ·cases he
 ·rename_i e k sz es hu;injection he with he;subst he;cases hx with
  |nil=>exact⟨.int .i64 0,by simp only[Builtin.len_,h0,ja,jD,Sem.run_bind,dk hu,Result.andThen_ok,Sem.run_pure,goInt];rfl,.v _ rfl⟩
  |iY=>exact⟨.int .i64 0,by simp only[Builtin.len_,h0,ja,jD,Sem.run_bind,dk hu,Result.andThen_ok,Sem.run_pure,goInt];rfl,.v _ rfl⟩
  |list _ _ _ g off n aA cells hn _ _ _ _ _=>subst hn;exact⟨_,by simp only[Builtin.len_,h0,ja,jD,Sem.run_bind,dk hu,Result.andThen_ok,Sem.run_pure,goInt],.v _ rfl⟩
 ·rename_i e b off len aA hu;injection he with he;subst he;cases hx with|arr=>exact⟨_,by simp only[Builtin.len_,h0,ja,jD,Sem.run_bind,dk hu,Result.andThen_ok,Sem.run_pure,goInt],.v _ rfl⟩
 ·cases he
def adD{ts:Array aH}{ty t:aH}(h0:ts[0]?=aa t){x y:AV}(he:Db P t x=aa y){c:aL}(hx:aU K x c)(w:bX):
 ∃v,(Builtin.cap_ ts ty #[c]).run P w=.ok v w/\aU K y v:=by
 unfold Db at he;split at he
 ·rename_i e sz es hu;injection he with he;subst he;cases hx with
  |iY=>exact⟨.int .i64 0,by simp only[Builtin.cap_,h0,ja,jD,Sem.run_bind,dk hu,Result.andThen_ok,Sem.run_pure,goInt];rfl,.v _ rfl⟩
  |list _ _ _ g off n aA cells hn _ _ _ ht _=>have:=ht.2;simp only at this;subst this;subst hn;exact⟨_,by simp only[Builtin.cap_,h0,ja,jD,Sem.run_bind,dk hu,Result.andThen_ok,Sem.run_pure,goInt],.v _ rfl⟩
 ·rename_i e sz es hu;injection he with he;subst he;cases hx with
  |nil=>exact⟨.int .i64 0,by simp only[Builtin.cap_,h0,ja,jD,Sem.run_bind,dk hu,Result.andThen_ok,Sem.run_pure,goInt];rfl,.v _ rfl⟩
  |list _ _ _ _ _ _ _ _ _ _ _ _ ht _=>exact ht.2.elim
 ·rename_i n e hu;injection he with he;subst he;exact⟨_,by simp only[Builtin.cap_,h0,ja,jD,Sem.run_bind,dk hu,Result.andThen_ok,Sem.run_pure,goInt],.v _ rfl⟩
 ·cases he
def SF(s:bN K G ok w0 h w){b:Builtin}{ts:Array aH}{ty:aH}{args:List AV}{y:AV}{h':ao}(he:jn P h b ts ty args=aa (y,h')){vs:Array aL}(hx:aM K args vs.toList)(consts:Array Bool):
 ∃K' v w',K.Le K'/\bN K' G ok w0 h' w'/\aU K' y v/\(builtin b ts ty consts vs).run P w=.ok (.value v) w':=by
 unfold jn at he;obtain⟨vs⟩:=vs;simp only at hx;split at he
 ·cases hx with|cons _ c _ _ hx hs=>cases hs with|nil=>
  split at he
  ·rename_i t h0;simp only[dt] at he;obtain⟨z,hz,he⟩:=he;obtain⟨rfl,rfl⟩:=ig he;obtain⟨v,q1,q2⟩:=aim (ty:=ty) h0 hz hx w;exact⟨K,v,w,.refl K,s,q2,by simp only[builtin,Sem.run_bind,q1,Result.andThen_ok,Sem.run_pure]⟩
  ·cases he
 ·cases hx with|cons _ c _ _ hx hs=>cases hs with|nil=>
  split at he
  ·rename_i t h0;simp only[dt] at he;obtain⟨z,hz,he⟩:=he;obtain⟨rfl,rfl⟩:=ig he;obtain⟨v,q1,q2⟩:=adD (ty:=ty) h0 hz hx w;exact⟨K,v,w,.refl K,s,q2,by simp only[builtin,Sem.run_bind,q1,Result.andThen_ok,Sem.run_pure]⟩
  ·cases he
 ·cases hx with|cons _ c _ _ hx hs=>cases hs with|cons _ c2 _ _ rY hs=>cases hs with|nil=>
  obtain⟨K',v,w',q1,q2,q3,q4⟩:=Md (ty:=ty) s he hx rY;exact⟨K',v,w',q1,q2,q3,by simp only[builtin,Sem.run_bind,q4,Result.andThen_ok,Sem.run_pure]⟩
 ·cases hx with|cons _ c _ _ hx hs=>cases hs with|cons _ c2 _ _ rY hs=>cases hs with|nil=>
  obtain⟨K',v,w',q1,q2,q3,q4⟩:=aem (ty:=ty) s he hx rY;exact⟨K',v,w',q1,q2,q3,by simp only[builtin,Sem.run_bind,q4,Result.andThen_ok,Sem.run_pure]⟩
 ·split at he
  ·rename_i l hl;simp only[dt,yY] at he;obtain⟨z,⟨q,h1,h2⟩,he⟩:=he;obtain⟨rfl,rfl⟩:=ig he;have:=MM hl hx;subst this;exact⟨K,q,w,.refl K,s,Hz h2,by simp only[builtin,Sem.run_bind,G7 h1 w,Result.andThen_ok,Sem.run_pure]⟩
  ·cases he
 ·split at he
  ·rename_i l hl;simp only[dt,yY] at he;obtain⟨z,⟨q,h1,h2⟩,he⟩:=he;obtain⟨rfl,rfl⟩:=ig he;have:=MM hl hx;subst this;exact⟨K,q,w,.refl K,s,Hz h2,by simp only[builtin,Sem.run_bind,G7 h1 w,Result.andThen_ok,Sem.run_pure]⟩
  ·cases he
 ·cases he
def adp(s:bN K G ok w0 h w){d:Option Tmp}{b:Builtin}{ts:Array aH}{ty:aH}{args:List AV}{y:AV}{h':ao}(he:rI P G d h b ts ty args=aa (y,h')){vs:Array aL}(hx:aM K args vs.toList)(consts:Array Bool):
 ∃K' v w',K.Le K'/\bN K' G ok w0 h' w'/\aU K' y v/\(builtin b ts ty consts vs).run P w=.ok (.value v) w':=by
 unfold rI at he;split at he
 ·split at he
  ·obtain⟨vs⟩:=vs;simp only at hx;cases hx with|cons _ c _ _ hx hs=>cases hs with|cons _ c2 _ _ rY hs=>cases hs with|nil=>
   obtain⟨K',v,w',q1,q2,q3,q4⟩:=aqk (ty:=ty) s he hx rY;exact⟨K',v,w',q1,q2,q3,by simp only[builtin,Sem.run_bind,q4,Result.andThen_ok,Sem.run_pure]⟩
  ·exact SF s (b:=.append) (ts:=ts) (ty:=ty) (args:=[_,_]) (show jn P h .append ts ty [_,_]=_ from he) hx consts
 ·exact SF s he hx consts
def aj9{c a b y:AV}(he:Ka c a b=aa y){vc va vb:aL}(hc:aU K c vc)(ha:aU K a va)(hb:aU K b vb):
 ∃t v,vc=.bool t/\v=(if t then va else vb)/\aU K y v:=by
 unfold Ka at he;split at he
 ·rename_i t;injection he with he;subst he;obtain⟨rfl,_⟩:=hc.iA;refine⟨t,_,rfl,rfl,?_⟩;cases t
  ·exact hb
  ·exact ha
 ·cases he
def aka(s:bN K G ok w0 h w){ρ:bH->AV}{ρ':bH->aL}(hρ:∀x,aU K (ρ x) (ρ' x)){o:Oper}{x:AV}{h':ao}(he:dK P G ρ h o.op=aa (x,h')):
 Yields K G ok w0 x h' ((execOp ρ' o).run P w):=by
 unfold execOp;cases bI:o.op<;>rw[bI] at he<;>simp only[dK] at he
 case move a=>injection he with he;obtain⟨rfl,rfl⟩:=ig he;exact .mQ s (hρ a) rfl
 case assign a=>injection he with he;obtain⟨rfl,rfl⟩:=ig he;exact .mQ s (hρ a) rfl
 case pick c a b=>
  simp only[dt] at he;obtain⟨y,hy,he⟩:=he;obtain⟨rfl,rfl⟩:=ig he;obtain⟨t,v,q1,rfl,q3⟩:=aj9 hy (hρ c) (hρ a) (hρ b);refine .mQ s q3 ?_;simp only[q1,asBool,Sem.run_bind,Sem.run_pure,Result.andThen_ok]
 case alloc t=>
  simp only[dt] at he;obtain⟨cs,bZ,he⟩:=he;obtain⟨K',v,w',q1,q2,q3,q4⟩:=abO (P:=P) s bZ;rw[he] at q2 q3;exact⟨K',v,w',q1,q2,q3,.inl (by simp only[Sem.run_bind,q4,Result.andThen_ok,Sem.run_pure])⟩
 case box t a=>
  simp only[dt] at he;obtain⟨cs,bZ,he⟩:=he;obtain⟨K',v,w',q1,q2,q3,q4⟩:=adb (P:=P) (t:=t) s bZ (hρ a);rw[he] at q2 q3;exact⟨K',v,w',q1,q2,q3,.inl (by simp only[Sem.run_bind,q4,Result.andThen_ok,Sem.run_pure])⟩
 case build t parts=>
  simp only[dt] at he;obtain⟨y,hy,he⟩:=he;obtain⟨rfl,rfl⟩:=ig he;obtain⟨v,q1,q2⟩:=ado hρ hy w;exact .mQ s q2 (by simp only[Sem.run_bind,q1,Result.andThen_ok,Sem.run_pure])
 case buildSlice t len parts=>
  split at he
  ·simp only[dt] at he;obtain⟨y,hy,he⟩:=he;obtain⟨rfl,rfl⟩:=ig he;obtain⟨K',v,w',q1,q2,q3,q4⟩:=adn s hρ hy;exact⟨K',v,w',q1,q2,q3,.inl (by simp only[Sem.run_bind,q4,Result.andThen_ok,Sem.run_pure])⟩
  ·split at he
   ·rename_i k sz es hy;injection he with he;obtain⟨K',v,w',q1,q2,q3,q4⟩:=adm s hρ hy;rw[he] at q2 q3;exact⟨K',v,w',q1,q2,q3,.inl (by simp only[Sem.run_bind,q4,Result.andThen_ok,Sem.run_pure])⟩
   ·cases he
 case load t a=>
  simp only[dt] at he;obtain⟨y,hy,he⟩:=he;obtain⟨rfl,rfl⟩:=ig he;obtain⟨g,p,v,q1,q2,q3⟩:=Wu s hy (hρ a);exact .mQ s q3 (by simp only[q1,Instr.loadAt,Instr.sureAddr,Sem.run_bind,q2,Result.andThen_ok,Sem.run_pure])
 case store t a y=>
  simp only[dt] at he;obtain⟨h2,hy,he⟩:=he;obtain⟨rfl,rfl⟩:=ig he;obtain⟨w',q1,q2⟩:=apL s hy (hρ a) (hρ y);exact⟨K,undef,w',.refl K,q2,.tuple _ _ .nil,.inr ⟨by simp only[Sem.run_bind,q1,Result.andThen_ok,Sem.run_pure],rfl⟩⟩
 case nilCheck a=>
  simp only[dt] at he;obtain⟨y,hy,he⟩:=he;obtain⟨rfl,rfl⟩:=ig he;have ha:=hρ a;generalize ρ a=xa at ha hy;generalize hq:ρ' a=ca at ha;unfold Pd at hy;split at hy
  ·injection hy with hy;subst hy;cases ha with|box _ _ _ hb=>exact .mQ s (.box _ _ _ hb) (by simp only[hq,Sem.run_pure])|eG _ _=>exact .mQ s (.eG _ _) (by simp only[hq,Sem.run_pure])
  ·injection hy with hy;subst hy;cases ha with|elem _ _ _ _ g o p cells hr hv hc hi hp pZ=>exact .mQ s (.elem _ _ _ _ g o p cells hr hv hc hi hp pZ) (by simp only[hq,Sem.run_pure])
  ·injection hy with hy;subst hy;cases ha with|func _ _ _ fs cs h1 h2=>exact .mQ s (.func _ _ _ fs cs h1 h2) (by simp only[hq,Sem.run_pure])
  ·injection hy with hy;subst hy;cases ha with|yield _ g hl=>exact .mQ s (.yield _ g hl) (by simp only[hq,Sem.run_pure])
  ·injection hy with hy;subst hy;cases ha with|iface _ _ c hx=>exact .mQ s (.iface _ _ c hx) (by simp only[hq,Sem.run_pure])
  ·cases hy
 case binOp op t a b yt=>
  simp only[dt] at he;obtain⟨y,hy,he⟩:=he;obtain⟨rfl,rfl⟩:=ig he;obtain⟨v,q1,q2⟩:=acH hy (hρ a) (hρ b) w;exact .mQ s q2 (by rw[Sem.run_bind,q1];rfl)
 case unOp op t a=>
  simp only[dt] at he;obtain⟨y,hy,he⟩:=he;obtain⟨rfl,rfl⟩:=ig he;obtain⟨v,q1,q2⟩:=aqu hy (hρ a) w;exact .mQ s q2 (by simp only[Sem.run_bind,q1,Result.andThen_ok,Sem.run_pure])
 case convert sr ds a=>
  obtain⟨K',v,w',q1,q2,q3,q4⟩:=aei s he (hρ a);exact⟨K',v,w',q1,q2,q3,.inl (by simp only[Sem.run_bind,q4,Result.andThen_ok,Sem.run_pure])⟩
 case makeInterface t a=>
  split at he
  ·rename_i yh;injection he with he;obtain⟨rfl,rfl⟩:=ig he;obtain⟨d,hu,hd⟩:=OI yh;refine .mQ s (.iface t _ _ (hρ a)) ?_;simp only[Instr.makeInterface,Sem.run_bind,dk hu,Result.andThen_ok];cases d<;>first|exact absurd rfl (hd _)|rfl
  ·cases he
 case makeFunc fn first aA=>
  injection he with he;obtain⟨rfl,rfl⟩:=ig he;refine .mQ s (.func fn _ _ _ _ (by rw[CG];exact aM.map_mk λx _=>hρ x) (by rw[CG];exact aM.map_mk λx _=>hρ x)) rfl
 case makeSlice t l c=>
  obtain⟨K',v,w',q1,q2,q3,q4⟩:=aiK s he (hρ l) (hρ c);exact⟨K',v,w',q1,q2,q3,.inl (by simp only[Sem.run_bind,q4,Result.andThen_ok,Sem.run_pure])⟩
 case slice t a lo hi mx=>
  simp only[dt] at he;obtain⟨y,hy,he⟩:=he;obtain⟨rfl,rfl⟩:=ig he;obtain⟨v,q1,q2⟩:=aoS hρ hy (hρ a) w;exact .mQ s q2 (by simp only[Sem.run_bind,q1,Result.andThen_ok,Sem.run_pure])
 case fieldAddr t a f=>
  simp only[dt] at he;obtain⟨y,hy,he⟩:=he;obtain⟨rfl,rfl⟩:=ig he;obtain⟨v,q1,q2⟩:=afh hy (hρ a) w;exact .mQ s q2 (by simp only[Sem.run_bind,q1,Result.andThen_ok,Sem.run_pure])
 case field t a f=>
  have ha:=hρ a;generalize ρ a=xa at ha he;generalize hq:ρ' a=ca at ha;split at he
  ·rename_i fields cs hu;split at he
   ·rename_i fd hf;simp only[dt] at he;obtain⟨y,hy,he⟩:=he;obtain⟨rfl,rfl⟩:=ig he;cases ha with|agg _ vs fH=>obtain⟨v,q1,q2⟩:=Xe hy fH w;exact .mQ s q2 (by simp only[Instr.field,Sem.run_bind,dk hu,Result.andThen_ok,hf,hq,asAgg,Sem.run_pure,q1])
   ·cases he
  ·cases he
 case indexAddr t a i=>
  simp only[dt] at he;obtain⟨y,hy,he⟩:=he;obtain⟨rfl,rfl⟩:=ig he;obtain⟨v,q1,q2⟩:=ahN hy (hρ a) (hρ i) w;exact .mQ s q2 (by simp only[Sem.run_bind,q1,Result.andThen_ok,Sem.run_pure])
 case index t a i=>
  simp only[dt] at he;obtain⟨y,hy,he⟩:=he;obtain⟨rfl,rfl⟩:=ig he;obtain⟨v,q1,q2⟩:=ahQ hy (hρ a) (hρ i) w;exact .mQ s q2 (by simp only[Sem.run_bind,q1,Result.andThen_ok,Sem.run_pure])
 case typeAssert a xt t okk=>
  simp only[dt] at he;obtain⟨y,hy,he⟩:=he;obtain⟨rfl,rfl⟩:=ig he;obtain⟨v,q1,q2⟩:=aca (xt:=xt) hy (hρ a) w;exact .mQ s q2 (by simp only[Sem.run_bind,q1,Result.andThen_ok,Sem.run_pure])
 case extract a i=>
  have ha:=hρ a;generalize ρ a=xa at ha he;generalize hq:ρ' a=ca at ha;split at he
  ·rename_i vs;simp only[dt] at he;obtain⟨y,hy,he⟩:=he;obtain⟨rfl,rfl⟩:=ig he;cases ha with|tuple _ cvs fH=>obtain⟨c,hc,hr⟩:=fH.get hy;have:cvs[i]?=aa c:=(by simpa using hc);exact .mQ s hr (by simp only[Instr.extract,hq,this,Sem.run_bind,Sem.run_pure,Result.andThen_ok])
  ·cases he
 all_goals cases he
end
def Ee(n:Nat)(ops:Array Oper):Bool:=ops.all λo=>match o.dst with|some d=>decide (d<n)|none=>ai
def codeOk(n:Nat):Code->Bool
 | .region _ ops _=>Ee n ops
 | .seq a b=>codeOk n a&&codeOk n b
 | .cond _ a b=>codeOk n a&&codeOk n b
 | .block _ c=>codeOk n c
 | .loop c=>codeOk n c
 | .scope c=>codeOk n c
 | .rangeFunc _ ps a b=>ps.all (λp=>decide (p<n))&&codeOk n a&&codeOk n b
 |_=>ai
def Ec(P:bB)(fn:bq)(n:Nat)(c:Code):Bool:=codeOk n c&&(P.funcs[fn]?).isSome
inductive qx (K:aP):List (bq × List AV)->List Deferred->List Nat->Prop
 |nil:qx K [] [] []
 |call (g:bq) (args:List AV) (vs aA:Array aL) (ds cds ms) (hv:aM K args (vs++aA).toList) (h:qx K ds cds ms):
  qx K ((g,args)::ds) ({target:=.fn (.func g) aA,args:=vs}::cds) ms
 |mark (r:Nat) (ds cds ms) (hr:r∈K.md) (hn:r∉ms) (h:qx K ds cds ms):qx K ds ({target:=.collected r,args:=#[]}::cds) (r::ms)
def qx.mono{K K'}(le:K.Le K'){ds cds ms}(h:qx K ds cds ms):qx K' ds cds ms:=by
 induction h with
 |nil=>exact .nil|call g args vs aA ds cds ms hv _ ih=>exact .call g args vs aA ds cds ms (hv.mono le) ih|mark r ds cds ms hr hn _ ih=>exact .mark r ds cds ms (le.md r hr) hn ih
structure nC(P:bB)(K:aP)(e:Env)(a:Act)(B:eW)(ms:List Nat):Prop where
 gX:mg K e.tmps a.tmps
 defers:qx K e.defers a.defers ms
 round:match e.round with
  |none=>B.roundOf=au
  |some l=>∃g,K.γ[l]?=aa g/\B.roundOf=aa g/\B.kind=.normal/\a.defers=[]/\ms=[]/\e.defers=[]
 fn:(P.funcs[B.fn]?).isSome=ai
def nC.mono{P}{K K'}(le:K.Le K'){e}{a}{B}{ms}(h:nC P K e a B ms):nC P K' e a B ms:=by
 refine⟨h.gX.mono le,h.defers.mono le,?_,h.fn⟩;have:=h.round;cases hr:e.round with|none=>rw[hr] at this;exact this|some l=>rw[hr] at this;obtain⟨g,h1,h2⟩:=this;exact⟨g,le.γ _ _ h1,h2⟩
inductive CS (K:aP) (kind:CallKind) (base:List eW):Option (AV × Bool)->List eW->Prop
 |normal (h:kind=.normal):CS K kind base au base
 |ret (c0:eW) (rest:List eW) (hk:kind=.deferred) (hb:base=c0::rest) (hm:c0.mode=.returning):CS K kind base au base
 |cO (c0:eW) (rest:List eW) (x:AV) (v:aL) (r:Bool) (hk:kind=.deferred) (hb:base=c0::rest) (hx:aU K x v):
  CS K kind base (aa (x,r)) ({c0 with mode:=.panicking [{v,recovered:=r}]}::rest)
def CS.mono{K K'}(le:K.Le K'){kind base p cs}(h:CS K kind base p cs):CS K' kind base p cs:=by
 cases h with|normal h=>exact .normal h|ret c0 rest hk hb hm=>exact .ret c0 rest hk hb hm|cO c0 rest x v r hk hb hx=>exact .cO c0 rest x v r hk hb (hx.mono le)
def D7(s:po)(d t)(x):(s.set d x).get t=if d=t then x else s.get t:=by
 simp only[po.set,po.get,look];by_cases h:d=t
 ·subst h;have:jw d d=ai:=Nat.beq_refl d;rw[this,aD rfl];rfl
 ·have:jw d t=ay:=by
   cases hb:jw d t with|false=>rfl|true=>exact absurd (jF hb) h
  rw[this,aG h];rfl
section
variable {P:bB} {K:aP} {G:Nat->Option (List AV)} {w0 w:bX} {h:ao}
def mg.set{s:po}{tmps:Array aL}(hs:mg K s tmps){d:Nat}(hd:d<tmps.size){x:AV}{v:aL}(hx:aU K x v):mg K (s.set d x) (tmps.setIfInBounds d v):=by
 intro t;rw[D7];by_cases ht:d=t
 ·subst ht;rw[aD rfl];simp[K8,hd];exact hx
 ·rw[aG ht];have:(tmps.setIfInBounds d v).getD t undef=tmps.getD t undef:=by simp[K8,ht]
  rw[this];exact hs t
def zv{e:Env}{a:Act}(hs:mg K e.tmps a.tmps)(x:bH):aU K (e.eval x) (a.eval x):=by
 cases x with|tmp t=>exact hs t|const v=>exact J3 v|global g=>exact .eG g 0|func f=>exact .func (.func f) [] [] #[] #[] .nil .nil
def nC.put{e:Env}{a:Act}{B:eW}{ms:List Nat}(hf:nC P K e a B ms){dst:Option Tmp}(hd:∀d,dst=aa d->d<a.tmps.size){x:AV}{v:aL}(hx:aU K x v):
 nC P K (e.put dst x) (a.put dst v) B ms:=by
 cases dst with|none=>exact hf|some d=>exact⟨hf.gX.set (hd d rfl) hx,hf.defers,hf.round,hf.fn⟩
def Kd(a:Act)(dst)(v):(a.put dst v).tmps.size=a.tmps.size:=by cases dst<;>simp[Act.put]
section steps
variable {B:eW} {a:Act} {k:List Item} {cs:List eW} {ops:Array Oper} {i:Nat} {rest:List Nat} {o:Oper} {w':bX}
def Bc(ho:ops[i]?=aa o)(v:aL):(B.atR a (.inRegion ops (i::rest)::k)).finish v=B.atR (a.put o.dst v) (.inRegion ops rest::k):=by rw[Frame.finish_atR,ho];rfl
def YU(ho:ops[i]?=aa o)(hw:Region.wanted o (yielded ops a.tmps)=ai){v:aL}(hr:(o.semAt B.roundOf a.eval).run P w=.ok (.value v) w'):
 step P (lone (B.atR a (.inRegion ops (i::rest)::k)) cs w)=.next (lone (B.atR (a.put o.dst v) (.inRegion ops rest::k)) cs w'):=by
 refine step_lone_go ?_;rw[stepGR_op ho hw,<-Bc ho];simp[stepG.apply,hr,Sem.runT_eq]
def apJ(ho:ops[i]?=aa o)(hw:Region.wanted o (yielded ops a.tmps)=ai)(hr:(o.semAt B.roundOf a.eval).run P w=.ok .skip w'):
 step P (lone (B.atR a (.inRegion ops (i::rest)::k)) cs w)=.next (lone (B.atR (a.put o.dst undef) (.inRegion ops rest::k)) cs w'):=by
 refine step_lone_go ?_;rw[stepGR_op ho hw,<-Bc ho];simp[stepG.apply,hr,Sem.runT_eq]
def apA(ho:ops[i]?=aa o)(hw:Region.wanted o (yielded ops a.tmps)=ai){f:bq}{args:Array aL}(hr:(o.semAt B.roundOf a.eval).run P w=.ok (.enter f args) w'):
 step P (lone (B.atR a (.inRegion ops (i::rest)::k)) cs w)=.next (lone (Frame.enter P f args .normal) (B.atR a (.inRegion ops (i::rest)::k)::cs) w'):=by
 refine step_lone_go ?_;rw[stepGR_op ho hw];simp[stepG.apply,hr,Sem.runT_eq,Frame.atR]
def apH(ho:ops[i]?=aa o)(hw:Region.wanted o (yielded ops a.tmps)=ai){l:Nat}{f:bq}{tmps:Array aL}{assign body:Code}(hr:(o.semAt B.roundOf a.eval).run P w=.ok (.round l f tmps assign body) w'):
 step P (lone (B.atR a (.inRegion ops (i::rest)::k)) cs w)=.next (lone (Frame.round l f tmps assign body .normal) (B.atR a (.inRegion ops (i::rest)::k)::cs) w'):=by
 refine step_lone_go ?_;rw[stepGR_op ho hw];simp[stepG.apply,hr,Sem.runT_eq,Frame.atR]
def apz(ho:ops[i]?=aa o)(hw:Region.wanted o (yielded ops a.tmps)=ai){d:Deferred}(hr:(o.semAt B.roundOf a.eval).run P w=.ok (.defer d) w'):
 step P (lone (B.atR a (.inRegion ops (i::rest)::k)) cs w)=.next (lone (B.atR ({a with defers:=d::a.defers}.put o.dst undef) (.inRegion ops rest::k)) cs w'):=by
 refine step_lone_go ?_;rw[stepGR_op ho hw,<-Bc (B:=B) (k:=k) (rest:=rest) (a:={a with defers:=d::a.defers}) ho];simp[stepG.apply,hr,Sem.runT_eq,Frame.atR]
def YQ(ho:ops[i]?=aa o)(hw:Region.wanted o (yielded ops a.tmps)=ai){v:aL}(hr:(o.semAt B.roundOf a.eval).run P w=.halt (.panic v) w'):
 step P (lone (B.atR a (.inRegion ops (i::rest)::k)) cs w)=.next (lone {B.atR a (.inRegion ops (i::rest)::k) with mode:=.panicking [{v,recovered:=ay}]} cs w'):=by
 refine step_lone_go ?_;rw[stepGR_op ho hw,<-Frame.raise_atR];simp[stepG.apply,hr,Sem.runT_eq]
def apF(ho:ops[i]?=aa o)(hw:Region.wanted o (yielded ops a.tmps)=ai)(mM:B.roundOf=au)(hr:(o.semAt B.roundOf a.eval).run P w=.ok .recover w')
 (ht:tryRecover (B.atR a (.inRegion ops (i::rest)::k)) cs=au):
 step P (lone (B.atR a (.inRegion ops (i::rest)::k)) cs w)=.next (lone (B.atR (a.put o.dst .nilIface) (.inRegion ops rest::k)) cs w'):=by
 refine step_lone_go ?_;have Oj:(B.atR a (.inRegion ops (i::rest)::k)).roundOf=au:=mM;rw[stepGR_op ho hw,<-Bc ho];simp[stepG.apply,hr,Sem.runT_eq,Oj,ht]
def apG(ho:ops[i]?=aa o)(hw:Region.wanted o (yielded ops a.tmps)=ai)(mM:B.roundOf=au)(hr:(o.semAt B.roundOf a.eval).run P w=.ok .recover w')
 {v:aL} {dF:List eW} (ht:tryRecover (B.atR a (.inRegion ops (i::rest)::k)) cs=aa (v,dF)):
 step P (lone (B.atR a (.inRegion ops (i::rest)::k)) cs w)=.next (lone (B.atR (a.put o.dst v) (.inRegion ops rest::k)) dF w'):=by
 refine step_lone_go ?_;have Oj:(B.atR a (.inRegion ops (i::rest)::k)).roundOf=au:=mM;rw[stepGR_op ho hw,<-Bc ho];simp[stepG.apply,hr,Sem.runT_eq,Oj,ht]
end steps
end
abbrev ki(P:bB)(G:Nat->Option (List AV))(w0:bX)(K:aP)(h:ao)(w:bX):Prop:=bN K G (Ec P) w0 h w
def nT(P:bB)(K:aP)(m:Machine)(B:eW)(k:List Item)(cs:List eW):Xt->Act->bX->Prop
 | .normal,a,w=>Steps P m (lone (B.atR a k) cs w)
 | .exit id,a,w=>∃todo,exitTo id todo=exitTo id k/\Steps P m (lone (B.atR a (.code (.exit id)::todo)) cs w)
 | .ret,a,w=>∃todo,Steps P m (lone (B.atR a (.code .ret::todo)) cs w)
 | .panic x,a,w=>∃todo v,aU K x v/\Steps P m (lone {B.atR a todo with mode:=.panicking [{v,recovered:=ay}]} cs w)
def nT.of_steps{P}{K}{m m'}{B}{k}{cs}{x}{a}{w}(hs:Steps P m m')(h:nT P K m' B k cs x a w):nT P K m B k cs x a w:=by
 cases x with
 |normal=>exact hs.trans h|exit id=>obtain⟨t,h1,h2⟩:=h;exact⟨t,h1,hs.trans h2⟩
 |ret=>obtain⟨t,h2⟩:=h;exact⟨t,hs.trans h2⟩
 |panic x=>obtain⟨t,v,h1,h2⟩:=h;exact⟨t,v,h1,hs.trans h2⟩
def nT.pass{P}{K}{m}{B}{it}{k}{cs}{x}{a}{w}(hp:it.plain=ai)(hn:x≠ .normal)
 (h:nT P K m B (it::k) cs x a w):nT P K m B k cs x a w:=by
 cases x with
 |normal=>exact absurd rfl hn|exit id=>obtain⟨t,h1,h2⟩:=h;refine⟨t,h1.trans ?_,h2⟩;cases it<;>first|rfl|simp[Item.plain] at hp
 |ret=>exact h|panic x=>exact h
structure Left(P:bB)(G:Nat->Option (List AV))(w0:bX)(K:aP)(ms:List Nat)(B:eW)(base:List eW)(m:Machine)(k:List Item)(n:Nat)(out:Xt)(e':Env)(h':ao)
 (K':aP) (w':bX) (a':Act) (dF:List eW) (ms':List Nat):Prop where
 le:K.Le K'
 qs:ki P G w0 K' h' w'
 frame:nC P K' e' a' B ms'
 cs:CS K' B.kind base e'.cO dF
 size:a'.tmps.size=n
 marks:∀r∈ms',r∈ms∨r∉K.md
 arr:nT P K' m B k dF out a' w'
def RJ(P:bB)(G:Nat->Option (List AV))(w0:bX)(f:Code->Env->ao->Option (Xt × Env × ao)):Prop:=
 ∀c e h out e' h',f c e h=aa (out,e',h')->∀K w a B k base cs ms,nC P K e a B ms->CS K B.kind base e.cO cs->ki P G w0 K h w->codeOk a.tmps.size c=ai->
  ∃K' w' a' dF ms',Left P G w0 K ms B base (lone (B.atR a (.code c::k)) cs w) k a.tmps.size out e' h' K' w' a' dF ms'
def RG(P:bB)(K:aP)(fr:eW)(w:bX):eL->Prop
 | .ret x=>∃v,aU K x v/\fr.leaving P w (.returned v)
 | .panic x=>∃v,aU K x v/\fr.leaving P w (.panicked [{v,recovered:=ay}])
def RI(P:bB)(G:Nat->Option (List AV))(w0:bX)(f:bq->List AV->ao->Option (eL × ao)):Prop:=
 ∀g args h r h',f g args h=aa (r,h')->(∃fn,P.funcs[g]?=aa fn/\fn.body.isSome=ai)/\∀K w fa,aM K args (fa:Array aL).toList->ki P G w0 K h w->∀cs,
  ∃K' w' fr,K.Le K'/\ki P G w0 K' h' w'/\Steps P (lone (Frame.enter P g fa .normal) cs w) (lone fr cs w')/\fr.fn=g/\RG P K' fr w' r
def RK(P:bB)(G:Nat->Option (List AV))(w0:bX)(f:bq->List AV->Option (AV × Bool)->ao->Option (eL × Option (AV × Bool) × ao)):Prop:=
 ∀g args m h x m' h',f g args m h=aa (.ret x,m',h')->(∃fn,P.funcs[g]?=aa fn/\fn.body.isSome=ai)/\∀K w fa base cs,aM K args (fa:Array aL).toList->CS K .deferred base m cs->ki P G w0 K h w->
  ∃K' w' fr dF v,K.Le K'/\ki P G w0 K' h' w'/\CS K' .deferred base m' dF/\Steps P (lone (Frame.enter P g fa .deferred) cs w) (lone fr dF w')/\fr.kind=.deferred/\fr.going P w' (.returned v)
def RM(P:bB)(G:Nat->Option (List AV))(w0:bX)(f:Nat->List AV->ao->Option (eL × ao)):Prop:=
 ∀l args h r h',f l args h=aa (r,h')->∀K w fa lg,K.γ[l]?=aa lg->aM K args (fa:Array aL).toList->ki P G w0 K h w->∀sT cs,
  ∃fn tmps assign body K' w',(Instr.yield lg fa).run P w=.ok (.round lg fn tmps assign body) w/\K.Le K'/\ki P G w0 K' h' w'/\
   match r with
   | .ret x=>∃v,aU K' x v/\Steps P (lone (Frame.round lg fn tmps assign body .normal) (sT::cs) w) (lone (sT.finish v) cs w')
   | .panic x=>∃v fr,aU K' x v/\Steps P (lone (Frame.round lg fn tmps assign body .normal) (sT::cs) w) (lone fr (sT::cs) w')/\fr.leaving P w' (.panicked [{v,recovered:=ay}])
structure vX(P:bB)(G:Nat->Option (List AV))(w0:bX)(R:Rec):Prop where
 code:RJ P G w0 R.code
 call:RI P G w0 R.call
 jH:RK P G w0 R.jH
 round:RM P G w0 R.round
section
variable {P:bB} {G:Nat->Option (List AV)} {w0:bX} {R:Rec}
def CY (P : bB) : Prop := ∀ (g : bq) (fn : Func), P.funcs[g]? = aa fn -> (fn.name == "runtime.NumGoroutine") = ay
def Qk(hn:CY P){g:bq}{fn:Func}(hf:P.funcs[g]?=aa fn)(hb:fn.body.isSome=ai)(args:Array aL)(w:bX):(callFunc g args).run P w=.ok (.enter g args) w:=by
 have h1:=hn g fn hf;have h2:fn.body.isNone=ay:=by cases h:fn.body<;>simp_all
 unfold callFunc;simp only[Sem.run_bind,run_program,Result.andThen_ok,hf];rw[h1,h2];rfl
def aiS{t:aH}{name:String}{f:bq}(he:O5 P t name=aa f)(v:aL)(w:bX)(n:Nat):
 (method (n+1) t v name).run P w=.ok (f,v) w:=by
 unfold O5 at he;split at he
 ·rename_i i hi;split at he
  ·rename_i m hm;have key:∀(pr:Bool) (d:TypeDesc),m.path.toList=[]->m.func=aa (f,pr)->P.underlying t=aa d->(match d with| .pointer _=>pr=ai|_=>pr=ay)->(method (n+1) t v name).run P w=.ok (f,v) w:=(by intro pr d hp hf hu hd;simp only[method,Sem.run_bind,rk hi,Result.andThen_ok,hm,hp,follow,Sem.run_pure,hf,receiverAt,dk hu];cases d<;>simp only at hd<;>subst hd<;>simp[Place.get]);split at he
   ·rename_i f' e hp hf hu;injection he with he;subst he;exact key _ _ hp hf hu rfl
   ·cases he
   ·rename_i f' d bE hp hf hd;injection he with he;subst he;refine key _ _ hp hf hd ?_;cases d<;>first|rfl|(exact absurd rfl (bE _))
   ·cases he
  ·cases he
 ·cases he
end
section
variable {P:bB} {G:Nat->Option (List AV)} {w0:bX} {R:Rec}
def WV{n}{ops}(h:Ee n ops=ai){i:Nat}{o}(ho:ops[i]?=aa o):∀d,o.dst=aa d->d<n:=by intro d hd;unfold Ee at h;rw[EE] at h;obtain⟨hi,rfl⟩:=CB.1 ho;have:=h i hi;rw[hd] at this;simpa using this
def aqQ{K}{e}{a:Act}(hs:mg K e.tmps a.tmps){ops}(BO:Ee a.tmps.size ops=ai){o}{b}(he:fg ops e o=aa b):
 Region.wanted o (yielded ops a.tmps)=b:=by
 unfold fg at he;unfold Region.wanted;cases hg:o.guard with
 |none=>rw[hg] at he;simpa using he|some gw=>
  obtain⟨j,want⟩:=gw;rw[hg] at he;simp only at he ⊢;cases hb:(ops[j]?).bind (·.dst) with
  |none=>rw[hb] at he;simp only[dE] at he;subst he;simp[yielded,hb]|some d=>
   rw[hb] at he;simp only at he;have hd:d<a.tmps.size:=by
    cases ho:ops[j]? with
    |none=>rw[ho] at hb;cases hb
    |some o'=>rw[ho] at hb;exact WV BO ho d hb
   have hv:=hs d;have NH:a.tmps[d]?=aa (a.tmps.getD d undef):=(by simp[hd]);have hy:∀z,a.tmps.getD d undef=z->yielded ops a.tmps j=match z with| .bool b=>aa b|_=>au:=by intro z hz;unfold yielded;rw[hb];simp only[oa];rw[NH,hz];cases z<;>rfl
   unfold Env.get at he;generalize hx:e.tmps.get d=x at he hv;generalize hz:a.tmps.getD d undef=z at hv;have hy:=hy z hz;split at he
   ·rename_i b';obtain⟨rfl,-⟩:=hv.iA;injection he with he;rw[hy];simp[<-he]
   ·injection he with he;cases hv with|tuple cs vs h=>rw[hy];simp[<-he]
   ·cases he
def ID{K}{e:Env}{a:Act}(hs:mg K e.tmps a.tmps)(xs:Array bH):aM K (xs.toList.map e.eval) (xs.map a.eval).toList:=by rw[CG];exact aM.map_mk λx _=>zv hs x
def RC(P:bB)(G:Nat->Option (List AV))(w0:bX)(K:aP)(ms:List Nat)(B:eW)(base:List eW)(m:Machine)(ops:Array Oper)(o:Oper)(rest:List Nat)(k:List Item)(n:Nat)(e':Env)(h':ao)(res:eL):Prop:=
 ∃K' w' a' dF,K.Le K'/\ki P G w0 K' h' w'/\nC P K' e' a' B ms/\CS K' B.kind base e'.cO dF/\a'.tmps.size=n/\
  match res with
  | .ret x=>∃v,aU K' x v/\Steps P m (lone (B.atR (a'.put o.dst v) (.inRegion ops rest::k)) dF w')
  | .panic x=>∃v todo,aU K' x v/\Steps P m (lone {B.atR a' todo with mode:=.panicking [{v,recovered:=ay}]} dF w')
def aiG:∃d,Made.depth=d+1:=⟨Made.depth - 1,by decide⟩
def ajx(hn:CY P)(hR:vX P G w0 R){e e':Env}{a:Act}{B:eW}{ms:List Nat}{base cs:List eW}{K:aP}{h h':ao}{w:bX}{ops:Array Oper}{i:Nat}{rest:List Nat}{o:Oper}{res:eL}
 (he:dY P G R e h o=aa (res,e',h')) (hf:nC P K e a B ms) (bZ:CS K B.kind base e.cO cs) (hs:ki P G w0 K h w) (ho:ops[i]?=aa o) (hw:Region.wanted o (yielded ops a.tmps)=ai) (k:List Item):
 RC P G w0 K ms B base (lone (B.atR a (.inRegion ops (i::rest)::k)) cs w) ops o rest k a.tmps.size e' h' res:=by
 have mM:∀(ro:Option Nat) (x:Sem Next),(∀c,o.op≠ .defer c)->execOp a.eval o=x->(o.semAt ro a.eval)=x:=λro x bE hx=>by rw[Oper.semAt_eq ro a.eval o bE,hx]
 have yk:e.round.isSome=ay->B.roundOf=au:=by
  intro hr;have:=hf.round;cases hq:e.round with|none=>rw[hq] at this;exact this|some l=>rw[hq] at hr;cases hr
 unfold dY at he;split at he
 ·-- recover
  rename_i args argTypes bI;have p8:execOp a.eval o=(do let d <-resolve a.eval {callee:=.builtin .recover,args:=args,argTypes:=argTypes} o.type;invoke d.target d.args):=by unfold execOp;rw[bI]
  have lV:(o.semAt B.roundOf a.eval).run P w=.ok .recover w:=by rw[mM _ _ (by rw[bI];intro c;simp) p8];simp[resolve,invoke,builtin]
  split at he
  ·cases he
  ·rename_i qg;have hB:=yk (by simpa using qg);split at he
   ·rename_i x hp;simp only[dE,cW] at he;obtain⟨rfl,rfl,rfl⟩:=he;rw[hp] at bZ;generalize DC:B.kind=kd at bZ;generalize tH:(aa (x,ay):Option (AV × Bool))=pp at bZ;cases bZ with
    |normal h=>cases tH
    |ret c0 rest' hk hb hm=>cases tH
    |cO c0 rest' x' v r hk hb hx=>injection tH with tH;injection tH with h1 h2;subst h1;subst h2;refine⟨K,w,a,_,.refl K,hs,⟨hf.gX,hf.defers,hf.round,hf.fn⟩,.cO c0 rest' x v ai (DC.trans hk) hb hx,rfl,v,hx,.one (apG ho hw hB lV ?_)⟩;simp[tryRecover,Frame.atR,DC,hk]
   ·rename_i hp;simp only[dE,cW] at he;obtain⟨rfl,rfl,rfl⟩:=he;refine⟨K,w,a,cs,.refl K,hs,hf,bZ,rfl,.nilIface,.v _ rfl,.one (apF ho hw hB lV ?_)⟩;generalize DC:B.kind=kd at bZ;generalize tH:e.cO=pp at bZ hp;cases bZ with
    |normal h=>subst h;simp[tryRecover,Frame.atR,DC]|ret c0 rest' hk hb hm=>subst hk;subst hb;simp[tryRecover,Frame.atR,DC,hm]|cO c0 rest' x' v r hk hb hx=>
     subst hk;cases r with|false=>exact absurd rfl (hp x')|true=>simp[tryRecover,Frame.atR,DC]
 ·-- the built-in panic
  rename_i args argTypes bI;have p8:execOp a.eval o=(do let d <-resolve a.eval {callee:=.builtin .panic,args:=args,argTypes:=argTypes} o.type;invoke d.target d.args):=by unfold execOp;rw[bI]
  split at he
  ·rename_i t x wG;simp only[dE,cW] at he;obtain⟨rfl,rfl,rfl⟩:=he;have hv:=ID hf.gX args;rw[wG] at hv;generalize hz:args.map a.eval=z at hv;obtain⟨z⟩:=z;simp only at hv;cases hv with
   |cons _ c _ dF h1 h2=>
    cases h2;cases h1 with|iface _ _ c hc=>refine⟨K,w,a,cs,.refl K,hs,hf,bZ,rfl,.iface t c,_,.iface t x c hc,.one (YQ ho hw ?_)⟩;rw[mM _ _ (by rw[bI];intro c;simp) p8];simp[resolve,invoke,builtin,hz,Instr.panic]
  ·cases he
 ·-- another built-in function
  rename_i b args argTypes jI fG bI;have p8:execOp a.eval o=(do let d <-resolve a.eval {callee:=.builtin b,args:=args,argTypes:=argTypes} o.type;invoke d.target d.args):=by unfold execOp;rw[bI]
  simp only[dt] at he;obtain⟨⟨x,h1⟩,he,hq⟩:=he;simp only[cW] at hq;obtain⟨rfl,rfl,rfl⟩:=hq;obtain⟨K',v,w',le,s',hx,lV⟩:=adp hs (ty:=o.type) he (ID hf.gX args) (args.map λ| .const _=>ai|_=>ay);refine⟨K',w',a,cs,le,s',hf.mono le,bZ.mono le,rfl,v,hx,.one (YU ho hw ?_)⟩;rw[mM _ _ (by rw[bI];intro c;simp) p8];simp only[resolve,invoke,Sem.run_bind,Sem.run_pure,Result.andThen_ok];exact lV
 ·-- a call
  rename_i c jI fG ye bI;have p8:execOp a.eval o=(do let d <-resolve a.eval c o.type;invoke d.target d.args):=by unfold execOp;rw[bI]
  simp only[dt] at he;obtain⟨⟨r,h1⟩,he,hq⟩:=he;simp only[cW] at hq;obtain⟨rfl,rfl,rfl⟩:=hq;have wG:=ID hf.gX c.args;have call:∀(g:bq) (xs:List AV) (vs:Array aL),R.call g xs h=aa (r,h1)->aM K xs vs.toList->((∃fn,P.funcs[g]?=aa fn/\fn.body.isSome=ai)->(execOp a.eval o).run P w=(callFunc g vs).run P w)->
   RC P G w0 K ms B base (lone (B.atR a (.inRegion ops (i::rest)::k)) cs w) ops o rest k a.tmps.size e h1 r:=by
   intro g xs vs tu fH lV;obtain⟨⟨fn,gG,mK⟩,hc⟩:=hR.call g xs h r h1 tu;obtain⟨K',w',fr,le,s',cd,-,hl⟩:=hc K w vs fH hs (B.atR a (.inRegion ops (i::rest)::k)::cs);have Jn:=apA (k:=k) (cs:=cs) (rest:=rest) ho hw (by rw[mM B.roundOf _ (by rw[bI];intro c;simp) rfl,lV ⟨fn,gG,mK⟩];exact Qk hn gG mK vs w);cases r with
   |ret x=>obtain⟨v,hx,hl⟩:=hl;refine⟨K',w',a,cs,le,s',hf.mono le,bZ.mono le,rfl,v,hx,.head Jn (cd.trans (.one ?_))⟩;rw[step_leave_returned hl,Bc ho]
   |panic x=>obtain⟨v,hx,hl⟩:=hl;refine⟨K',w',a,cs,le,s',hf.mono le,bZ.mono le,rfl,v,.inRegion ops (i::rest)::k,hx,.head Jn (cd.trans (.one ?_))⟩;rw[step_leave_panicked hl,Frame.raise_atR]
  obtain⟨callee,cargs,cts⟩:=c;cases callee with
  |builtin b=>simp[lO] at he|value f=>
   simp only[lO] at he;have nO:=zv hf.gX f;generalize Og:e.eval f=qf at he nO;generalize wS:a.eval f=qv at nO;split at he
   ·rename_i g first aA
    cases nO with
    |func _ _ _ fs dF Dr wD=>
     refine call g _ (fs++cargs.map a.eval++dF) he ?_ λ_=>?_
     ·simp only[CF];exact(Dr.append wG).append wD
     ·rw[p8];simp[resolve,wS,Deferred.ofValue,invoke]
   ·rename_i l;cases nO with
    |yield _ lg hlg=>
     obtain⟨fn,tmps,assign,body,K',w',hy,le,s',hm⟩:=hR.round l _ h r h1 he K w (cargs.map a.eval) lg hlg wG hs (B.atR a (.inRegion ops (i::rest)::k)) cs;have Jm:=apH (k:=k) (cs:=cs) (rest:=rest) ho hw (by rw[mM B.roundOf _ (by rw[bI];intro c;simp) p8];simp only[resolve,wS,Deferred.ofValue,invoke,Sem.run_bind,Sem.run_pure,Result.andThen_ok];simpa using hy);cases r with
     |ret x=>obtain⟨v,hx,cd⟩:=hm;refine⟨K',w',a,cs,le,s',hf.mono le,bZ.mono le,rfl,v,hx,.head Jm ?_⟩;rw[<-Bc ho];exact cd
     |panic x=>obtain⟨v,fr,hx,cd,hl⟩:=hm;refine⟨K',w',a,cs,le,s',hf.mono le,bZ.mono le,rfl,v,.inRegion ops (i::rest)::k,hx,.head Jm (cd.trans (.one ?_))⟩;rw[step_leave_panicked hl,Frame.raise_atR]
   ·cases he
  |invoke rcv name=>
   simp only[lO] at he;have nO:=zv hf.gX rcv;generalize Og:e.eval rcv=qf at he nO;generalize wS:a.eval rcv=qv at nO;split at he
   ·rename_i t x;split at he
    ·rename_i f hm;cases nO with
     |iface _ _ c hc=>
      refine call f _ (#[c]++cargs.map a.eval) he ?_ λ_=>?_
      ·simp only[CF];exact .cons _ _ _ _ hc wG
      ·rw[p8];obtain⟨d,hd⟩:=aiG;have ahe:=aiS hm c w (P.types.size+d);have dV:P.types.size+Made.depth=P.types.size+d+1:=(by omega);simp only[resolve,wS,invoke,Sem.run_bind,Sem.run_pure,Result.andThen_ok,callMethod];have h0:(#[Value.iface t c]++K9 a.eval cargs)[0]?=aa (.iface t c):=(by rw[Array.getElem?_append_left bG];rfl);simp only[h0,run_program,Sem.run_bind,Result.andThen_ok,dV,ahe];congr 2;have hh:(#[Value.iface t c]++K9 a.eval cargs).extract 1 (#[Value.iface t c]++K9 a.eval cargs).size=K9 a.eval cargs:=(by apply K7;simp;rw[<-xv,<-bJ (f:=a.eval),List.take_length]);rw[hh]
    ·cases he
   ·cases he
 ·-- a defer
  rename_i f args argTypes bI;split at he
  ·cases he
  ·rename_i qg;have hB:=yk (by simpa using qg);have nO:=zv hf.gX f;generalize Og:e.eval f=qf at he nO;generalize wS:a.eval f=qv at nO;split at he
   ·rename_i g first aA
    simp only[dE,cW] at he;obtain⟨rfl,rfl,rfl⟩:=he;cases nO with
    |func _ _ _ fs dF Dr wD=>
     have lV:(o.semAt B.roundOf a.eval).run P w=.ok (.defer {target:=.fn (.func g) dF,args:=fs++args.map a.eval}) w:=(by rw[hB,Oper.semAt_none];unfold execOp;rw[bI];simp[resolve,wS,Deferred.ofValue]);refine⟨K,w,{a with defers:=_::a.defers},cs,.refl K,hs,⟨hf.gX,.call g _ (fs++args.map a.eval) dF _ _ _ ?_ hf.defers,?_,hf.fn⟩,bZ,rfl,undef,?_,.one (apz ho hw lV)⟩
     ·simp only[CF];exact(Dr.append (ID hf.gX args)).append wD
     ·have kL:=hf.round;cases hq:e.round with|none=>simp only;exact hB|some l=>rw[hq] at qg;exact absurd rfl qg
     ·exact .tuple [] #[] .nil
   ·cases he
 ·-- a panic
  rename_i x bI;have nO:=zv hf.gX x;generalize Og:e.eval x=qf at he nO;generalize wS:a.eval x=qv at nO;split at he
  ·rename_i t x;simp only[dE,cW] at he;obtain⟨rfl,rfl,rfl⟩:=he;cases nO with|iface _ _ c hc=>refine⟨K,w,a,cs,.refl K,hs,hf,bZ,rfl,.iface t c,_,.iface t x c hc,.one (YQ ho hw ?_)⟩;rw[Oper.semAt_eq _ _ _ (by rw[bI];intro c;simp)];unfold execOp;rw[bI];simp[wS,Instr.panic]
  ·cases he
 ·-- any other operation
  rename_i op Vx Vy arY arZ ar0 ar1;simp only[dt] at he;obtain⟨⟨x,h1⟩,he,hq⟩:=he;simp only[cW] at hq;obtain⟨rfl,rfl,rfl⟩:=hq;have N6:∀c,o.op≠ .defer c:=by intro c hc;rw[hc] at he;simp[dK] at he
  obtain⟨K',v,w',le,s',hx,lV⟩:=aka hs (λx=>zv hf.gX x) he;refine⟨K',w',a,cs,le,s',hf.mono le,bZ.mono le,rfl,v,hx,.one ?_⟩;rcases lV with lV|⟨lV,rfl⟩
  ·exact YU ho hw (by rw[Oper.semAt_eq _ _ _ N6];exact lV)
  ·exact apJ ho hw (by rw[Oper.semAt_eq _ _ _ N6];exact lV)
end
end Go.AE
end
section
namespace Go.AE
def aon{x y}(h:me x y=ai):x=y:=by
 cases x<;>cases y<;>simp only[me,bA,decide_eq_true_eq,ju,beq_iff_eq] at h
 case int.int=>rw[h.1,h.2]
 case bool.bool=>rw[h]
 case string.string a b=>
  obtain⟨⟨a⟩⟩:=a;obtain⟨⟨b⟩⟩:=b;simp only at h;rw[h]
 case pointer.pointer a b=>cases a<;>cases b<;>first|rfl|simp[me] at h
 all_goals rfl
def aol{x y}(h:KA x y=ai):x=y:=by cases x<;>cases y<;>simp only[KA,ju] at h<;>rw[jF h]
def aom{x y}(h:Ax x y=ai):x=y:=by cases x<;>cases y<;>simp only[Ax,ju] at h<;>first|rfl|rw[jF h]
mutual
def Qo:∀{x y:AV},fC x y=ai->x=y
 | .v x,.v y,h=>by rw[fC] at h;rw[aon h]
 | .list k sz es,.list k' sz' es',h=>by rw[fC,bA,bA] at h;rw[aom h.1.1,jF h.1.2,Qp h.2]
 | .arr b o l c,.arr b' o' l' c',h=>by rw[fC,bA,bA,bA] at h;rw[jF h.1.1.1,jF h.1.1.2,jF h.1.2,jF h.2]
 | .agg cs,.agg ds,h=>by rw[fC] at h;rw[Ev h]
 | .tuple cs,.tuple ds,h=>by rw[fC] at h;rw[Ev h]
 | .ptr r o,.ptr r' o',h=>by rw[fC,bA] at h;rw[aol h.1,jF h.2]
 | .elem sz es i o,.elem sz' es' i' o',h=>by rw[fC,bA,bA,bA] at h;rw[jF h.1.1.1,jF h.1.1.2,jF h.1.2,Qp h.2]
 | .yield l,.yield l',h=>by rw[fC] at h;rw[jF h]
 | .iface t x,.iface t' y,h=>by rw[fC,bA] at h;rw[jF h.1,Qo h.2]
 | .func (.func f) a b,.func (.func g) a' b',h=>by rw[fC,bA,bA] at h;rw[jF h.1.1,Ev h.1.2,Ev h.2]
 | .bad,y,h=>by simp[fC] at h
def Ev:∀{x y:List AV},rm x y=ai->x=y
 | [],[],_=>rfl
 |x::xs,y::ys,h=>by rw[rm,bA] at h;rw[Qo h.1,Ev h.2]
 | [],y::ys,h=>by simp[rm] at h
 |x::xs,[],h=>by simp[rm] at h
def Qp:∀{x y:List (List AV)},su x y=ai->x=y
 | [],[],_=>rfl
 |x::xs,y::ys,h=>by rw[su,bA] at h;rw[Ev h.1,Qp h.2]
 | [],y::ys,h=>by simp[su] at h
 |x::xs,[],h=>by simp[su] at h
end
end Go.AE
end
section
namespace Go.AE
section
variable {P:bB} {G:Nat->Option (List AV)} {R:Rec}
def O0{ρ ρ':bH->AV}{ps:Array (Nat × bH)}(h:∀x∈ps.map (·.2),ρ x=ρ' x):(ps.toList.map λp=>(p.1,ρ p.2))=ps.toList.map λp=>(p.1,ρ' p.2):=
 Io λp hp=>by rw[h p.2 (Array.mem_map.2 ⟨p,ZE.1 hp,rfl⟩)]
def Al{ρ ρ':bH->AV}{ps:Array bH}(h:∀x∈ps,ρ x=ρ' x):ps.toList.map ρ=ps.toList.map ρ':=
 Io λp hp=>h p (ZE.1 hp)
def Xj{ρ ρ':Operand->AV}{h:ao}{op:Op}(hx:∀x∈op.operands,ρ x=ρ' x):dK P G ρ h op=dK P G ρ' h op:=by
 cases op<;>simp only[Op.operands] at hx<;>simp only[dK]
 case build t ps=>rw[O0 (λx hm=>hx x (by simpa using hm))]
 case buildSlice t n ps=>rw[O0 (λx hm=>hx x (by simpa using hm))]
 case makeFunc fn first captured=>
  rw[Al (ps:=first) λx hm=>hx x (by simp[hm]),Al (ps:=captured) λx hm=>hx x (by simp[hm])]
 case slice t x lo hi mx=>cases lo<;>cases hi<;>cases mx<;>simp_all
 all_goals (first|rfl|(simp_all;done))
def Op.WA{c:Call}{x}(h:x∈c.args):x∈c.operands:=by simp[Call.operands,h]
def Ms{e e2:Env}{h:ao}{c:Call}(hx:∀x∈c.operands,e.eval x=e2.eval x):lO P R e h c=lO P R e2 h c:=by
 have ha:c.args.toList.map e.eval=c.args.toList.map e2.eval:=Al λx hm=>hx x (Op.WA hm);unfold lO;simp only[ha];cases hc:c.callee with|builtin b=>rfl|value f=>have hf:e.eval f=e2.eval f:=hx f (by simp[Call.operands,hc]);simp only[hf]|invoke r m=>have hr:e.eval r=e2.eval r:=hx r (by simp[Call.operands,hc]);simp only[hr]
def Env.with(e e':Env):Env:={e with defers:=e'.defers,cO:=e'.cO}
def ajw{e e':Env}{h h':ao}{o:Oper}{r:eL}(he:dY P G R e h o=aa (r,e',h')):e'=e.with e':=by
 unfold dY at he;split at he
 ·split at he
  ·cases he
  ·split at he
   ·simp only[dE,cW] at he;obtain⟨-,rfl,-⟩:=he;rfl
   ·simp only[dE,cW] at he;obtain⟨-,rfl,-⟩:=he;rfl
 ·split at he
  ·simp only[dE,cW] at he;obtain⟨-,rfl,-⟩:=he;rfl
  ·cases he
 ·simp only[dt,cW] at he;obtain⟨_,-,-,rfl,-⟩:=he;rfl
 ·simp only[dt,cW] at he;obtain⟨_,-,-,rfl,-⟩:=he;rfl
 ·split at he
  ·cases he
  ·split at he
   ·simp only[dE,cW] at he;obtain⟨-,rfl,-⟩:=he;rfl
   ·cases he
 ·split at he
  ·simp only[dE,cW] at he;obtain⟨-,rfl,-⟩:=he;rfl
  ·cases he
 ·simp only[dt,cW] at he;obtain⟨_,-,-,rfl,-⟩:=he;rfl
def ajv{e e' e2:Env}{h h':ao}{o:Oper}{r:eL}(hx:∀x∈o.op.operands,e.eval x=e2.eval x)(hd:e2.defers=e.defers)(hp:e2.cO=e.cO)(hr:e2.round=e.round)
 (he:dY P G R e h o=aa (r,e',h')):dY P G R e2 h o=aa (r,e2.with e',h'):=by
 have iM:e2.with e=e2:=by cases e2;cases e;simp_all [Env.with]
 unfold dY at he ⊢;split at he
 ·rename_i args ts bI;simp only[hr,hp];split at he
  ·cases he
  ·rename_i mM;rw[aG mM];split at he
   ·rename_i x tH;simp only[dE,cW] at he;obtain⟨rfl,rfl,rfl⟩:=he;simp[Env.with,<-hd,<-hr]
   ·rename_i tH;simp only[dE,cW] at he;obtain⟨rfl,rfl,rfl⟩:=he;rw[iM]
 ·rename_i args ts bI;have ha:args.toList.map e.eval=args.toList.map e2.eval:=Al λx hm=>hx x (by rw[bI];simp[Op.operands,Call.operands,hm]);simp only[<-ha];split at he
  ·simp only[dE,cW] at he;obtain⟨rfl,rfl,rfl⟩:=he;simp only[iM]
  ·cases he
 ·rename_i b args ts jI fG bI;have ha:args.toList.map e.eval=args.toList.map e2.eval:=Al λx hm=>hx x (by rw[bI];simp[Op.operands,Call.operands,hm]);simp only[dt,cW] at he;obtain⟨q,hq,rfl,rfl,rfl⟩:=he;simp only[<-ha,hq,eX,iM]
 ·rename_i c jI fG ye bI;simp only[dt,cW] at he;obtain⟨q,hq,rfl,rfl,rfl⟩:=he;rw[Ms (e2:=e2) (λx hm=>hx x (by rw[bI];exact hm))] at hq;simp only[hq,eX,iM]
 ·rename_i f args ts bI;have ha:args.toList.map e.eval=args.toList.map e2.eval:=Al λx hm=>hx x (by rw[bI];simp[Op.operands,Call.operands,hm]);have hf:e.eval f=e2.eval f:=hx f (by rw[bI];simp[Op.operands,Call.operands]);simp only[hr];split at he
  ·cases he
  ·rename_i mM;rw[aG mM];simp only[<-hf,<-ha];split at he
   ·simp only[dE,cW] at he;obtain⟨rfl,rfl,rfl⟩:=he;simp only[Env.with,hd,<-hp,<-hr]
   ·cases he
 ·rename_i x bI;have hf:e.eval x=e2.eval x:=hx x (by rw[bI];simp[Op.operands]);simp only[<-hf];split at he
  ·simp only[dE,cW] at he;obtain⟨rfl,rfl,rfl⟩:=he;simp only[iM]
  ·cases he
 ·simp only[dt,cW] at he;obtain⟨q,hq,rfl,rfl,rfl⟩:=he;rw[Xj (ρ':=e2.eval) hx] at hq;simp only[hq,eX,iM]
def akI{e e':Env}{h h':ao}{o:Oper}{r:eL}(hc:jo o.op=.pure)(he:dY P G R e h o=aa (r,e',h')):
 e'=e/\h'=h/\∀e2:Env,(∀x∈o.op.operands,e.eval x=e2.eval x)->∀h2,dY P G R e2 h2 o=aa (r,e2,h2):=by
 cases bI:o.op with
 |call c=>
  obtain⟨callee,args,ts⟩:=c;rw[bI] at hc;cases callee with
  |value f=>simp[jo] at hc|invoke r n=>simp[jo] at hc|builtin b=>
   cases b<;>simp[jo] at hc
   case len=>
    unfold dY at he ⊢;simp only[bI] at he ⊢;simp only[dt,cW] at he;obtain⟨⟨x,hh⟩,hq,rfl,rfl,rfl⟩:=he;have hT:∀(h2:ao) (l:List AV),rI P G o.dst h2 .len ts o.type l=jn P h2 .len ts o.type l:=λ_ _=>rfl;rw[hT] at hq;have key:hh=h/\∀h2:ao,jn P h2 .len ts o.type (args.toList.map e.eval)=aa (x,h2):=by
     generalize args.toList.map e.eval=l at hq ⊢;rcases l with _|⟨y,_|⟨z,l⟩⟩
     ·simp[jn] at hq
     ·simp only[jn] at hq ⊢;split at hq
      ·rename_i t ht;simp only[dt,cW] at hq;obtain⟨z,hz,rfl,rfl⟩:=hq;refine⟨rfl,λh2=>?_⟩;simp[hz]
      ·cases hq
     ·simp[jn] at hq
    obtain⟨rfl,key⟩:=key;refine⟨rfl,rfl,λe2 hx h2=>?_⟩;have ha:args.toList.map e.eval=args.toList.map e2.eval:=Al λx hm=>hx x (by simp[Op.operands,Call.operands,hm]);rw[<-ha,hT,key h2];rfl
 |buildSlice t n ps=>
  rw[bI] at hc;have F2:wu ps=ay:=by
   cases hb:wu ps with|false=>rfl|true=>simp[jo,hb] at hc
  unfold dY at he ⊢;simp only[bI] at he ⊢;simp only[dt,cW] at he;obtain⟨⟨x,hh⟩,hq,rfl,rfl,rfl⟩:=he;simp only[dK,F2,dt,cW] at hq;obtain⟨y,hy,rfl,rfl⟩:=hq;refine⟨rfl,rfl,λe2 hx h2=>?_⟩;have hm:=O0 (ρ:=e.eval) (ρ':=e2.eval) (ps:=ps) (λx hm=>hx x (by simpa [Op.operands] using hm));simp only[dK,F2,<-hm,hy,eX]
 |_=>
  rw[bI] at hc
  first
   |(simp[jo] at hc;done)
   |(unfold dY at he ⊢
     simp only[bI] at he ⊢;simp only[dt,cW] at he;obtain⟨⟨x,hh⟩,hq,rfl,rfl,rfl⟩:=he;have key:hh=h/\∀h2:ao,dK P G e.eval h2 o.op=aa (x,h2):=by
      rw[bI];simp only[dK] at hq ⊢
      first
       |(simp only[dE,cW] at hq;obtain⟨rfl,rfl⟩:=hq;exact⟨rfl,λ_=>rfl⟩)
       |(simp only[dt,cW] at hq;obtain⟨z,hz,rfl,rfl⟩:=hq;exact⟨rfl,λ_=>by simp only[hz,eX]⟩)
       |(split at hq
         ·simp only[dE,cW] at hq;obtain⟨rfl,rfl⟩:=hq;exact⟨rfl,λ_=>by simp_all⟩
         ·cases hq)
       |(split at hq
         ·simp only[dt,cW] at hq;obtain⟨z,hz,rfl,rfl⟩:=hq;exact⟨rfl,λ_=>by simp_all⟩
         ·cases hq)
       |(split at hq
         ·split at hq
          ·simp only[dt,cW] at hq;obtain⟨z,hz,rfl,rfl⟩:=hq;exact⟨rfl,λ_=>by simp_all⟩
          ·cases hq
         ·cases hq)
     obtain⟨rfl,key⟩:=key;refine⟨rfl,rfl,λe2 hx h2=>?_⟩;rw[<-bI,<-Xj (P:=P) (G:=G) (ρ:=e.eval) (h:=h2) (by rw[bI];exact hx),key h2];rfl)
def aix{e e':Env}{h h':ao}{o:Oper}{r:eL}{t:aH}{a:bH}(bI:o.op=.load t a)(he:dY P G R e h o=aa (r,e',h')):
 ∃x,r=.ret x/\e'=e/\h'=h/\aF P G h t (e.eval a)=aa x/\∀e2:Env,e2.eval a=e.eval a->∀h2,aF P G h2 t (e.eval a)=aa x->dY P G R e2 h2 o=aa (.ret x,e2,h2):=by
 unfold dY at he ⊢;simp only[bI,dK] at he ⊢;simp only[dt,cW] at he;obtain⟨⟨x,hh⟩,⟨y,hy,rfl,rfl⟩,rfl,rfl,rfl⟩:=he;refine⟨_,rfl,rfl,rfl,hy,λe2 h2 vi hl=>?_⟩;rw[h2,hl];rfl
def Xx{op}(h:jo op=.reads):∃t a,op=.load t a:=by
 cases op with
 |load t a=>exact⟨t,a,rfl⟩|buildSlice t n ps=>exfalso;simp only[jo] at h;split at h<;>cases h
 |call c=>
  obtain⟨callee,args,ts⟩:=c;cases callee with
  |builtin b=>cases b<;>simp[jo] at h
  |_=>simp[jo] at h
 |_=>simp[jo] at h
end
end Go.AE
end
section
namespace Go.AE
section
variable (P:bB) (G:Nat->Option (List AV)) (R:Rec) (ops:Array Oper)
def jM(i:Nat)(e:Env)(h:ao):Option (AV × Env × ao):=
 match ops[i]? with
 |none=>au
 |some o=>
  match fg ops e o with
  |none=>au
  |some ay=>aa (.tuple [],e,h)
  |some ai=>
   match dY P G R e h o with
   |some (.ret x,e,h)=>aa (x,e,h)
   |_=>au
def mI(i:Nat):Option Tmp:=(ops[i]?).bind (·.dst)
def py(i:Nat):Class:=((ops[i]?).map λo=>jo o.op).getD .pure
noncomputable def mi(e:Env)(h:ao)(i:Nat):Class:=if mG P G R ops e h i=ai then .reads else py ops i
def cR(e:Env)(h:ao)(k:Nat):Env × ao:=
 match da P G R ops (bL k) e h with
 |some (_,e,h)=>(e,h)
 |none=>(e,h)
def uK(e:Env)(h:ao)(k:Nat):AV × Env:=
 match jM P G R ops k (cR P G R ops e h k).1 (cR P G R ops e h k).2 with
 |some (x,e,_)=>(x,e)
 |none=>(.bad,e)
def val(e:Env)(h:ao)(S:Nat->Bool):Nat->Nat->AV
 |0,t=>e.get t
 |k+1,t=>if S k=ai/\mI ops k=aa t then (uK P G R ops e h k).1 else val e h S k t
def Alike(e e2:Env)(o:Oper):Prop:=∀t∈o.looksAt ops,e.get t=e2.get t
end
section
variable {P:bB} {G:Nat->Option (List AV)} {R:Rec} {ops:Array Oper}
def qn{i:Nat}{rest:List Nat}{e e':Env}{h h':ao}:
 da P G R ops (i::rest) e h=aa (.normal,e',h')↔∃x e1 h1,jM P G R ops i e h=aa (x,e1,h1)/\da P G R ops rest (e1.put (mI ops i) x) h1=aa (.normal,e',h'):=by
 simp only[da,jM,mI];cases ho:ops[i]? with
 |none=>simp|some o=>
  simp only[oa];cases hw:fg ops e o with
  |none=>simp|some b=>
   cases b with
   |false=>simp only[dE,cW];exact⟨λhq=>⟨_,_,_,⟨rfl,rfl,rfl⟩,hq⟩,λ⟨_,_,_,⟨a,b,c⟩,hq⟩=>by subst a;subst b;subst c;exact hq⟩
   |true=>
    simp only;cases bI:dY P G R e h o with
    |none=>simp|some q=>
     obtain⟨r,e1,h1⟩:=q;cases r with|panic x=>simp|ret x=>simp only[dE,cW];exact⟨λhq=>⟨_,_,_,⟨rfl,rfl,rfl⟩,hq⟩,λ⟨_,_,_,⟨a,b,c⟩,hq⟩=>by subst a;subst b;subst c;exact hq⟩
def GR{l1 l2:List Nat}:∀{e e':Env} {h h':ao},
 da P G R ops (l1++l2) e h=aa (.normal,e',h')↔∃e1 h1,da P G R ops l1 e h=aa (.normal,e1,h1)/\da P G R ops l2 e1 h1=aa (.normal,e',h'):=by
 induction l1 with
 |nil=>intro e e' h h';simp only[jZ,da,dE,cW,true_and];exact⟨λhq=>⟨_,_,⟨rfl,rfl⟩,hq⟩,λ⟨_,_,⟨a,b⟩,hq⟩=>by subst a;subst b;exact hq⟩
 |cons i l ih=>
  intro e e' h h';rw[jO,qn];constructor
  ·rintro⟨x,e1,h1,hs,hr⟩;obtain⟨e2,h2,ha,hb⟩:=ih.1 hr;exact⟨e2,h2,qn.2 ⟨x,e1,h1,hs,ha⟩,hb⟩
  ·rintro⟨e2,h2,ha,hb⟩;obtain⟨x,e1,h1,hs,hr⟩:=qn.1 ha;exact⟨x,e1,h1,hs,ih.2 ⟨e2,h2,hr,hb⟩⟩
def trace{e e':Env}{h h':ao}:∀{n:Nat},da P G R ops (bL n) e h=aa (.normal,e',h')->
 (e',h')=cR P G R ops e h n/\(∀k,k<=n->da P G R ops (bL k) e h=aa (.normal,(cR P G R ops e h k).1,(cR P G R ops e h k).2))/\
 ∀k,k<n->jM P G R ops k (cR P G R ops e h k).1 (cR P G R ops e h k).2=aa ((uK P G R ops e h k).1,(uK P G R ops e h k).2,(cR P G R ops e h (k+1)).2)/\
  (cR P G R ops e h (k+1)).1=(uK P G R ops e h k).2.put (mI ops k) (uK P G R ops e h k).1:=by
 intro n
 induction n generalizing e' h' with
 |zero=>
  intro hn;have h0:(e',h')=cR P G R ops e h 0:=by unfold cR;rw[hn]
  refine⟨h0,λk hk=>?_,λk hk=>absurd hk (sO k)⟩;have:k=0:=LC.1 hk;subst this;rw[<-h0];exact hn
 |succ n ih=>
  intro hn;have h0:(e',h')=cR P G R ops e h (n+1):=by unfold cR;rw[hn]
  have DH:=hn;rw[oN,GR] at DH;obtain⟨e1,h1,ha,hb⟩:=DH;obtain⟨i1,i2,i3⟩:=ih ha;obtain⟨x,e2,h2,hs,hr⟩:=qn.1 hb;simp only[da,dE,cW,true_and] at hr;refine⟨h0,λk hk=>?_,λk hk=>?_⟩
  ·rcases dT k (n+1) with az|eo
   ·exact i2 k (AS.1 az)
   ·have:k=n+1:=AR hk eo;subst this;rw[<-h0];exact hn
  ·rcases dT k n with az|eo
   ·exact i3 k az
   ·have:k=n:=AR (AS.1 hk) eo;subst this;have cd:jM P G R ops k (cR P G R ops e h k).1 (cR P G R ops e h k).2=aa (x,e2,h2):=(by rw[<-i1];exact hs);have hx:uK P G R ops e h k=(x,e2):=(by unfold uK;rw[cd]);rw[hx,<-h0,cd];obtain⟨rfl,rfl⟩:=hr;exact⟨rfl,rfl⟩
def Fk{e e2:Env}{o:Oper}(h:Alike ops e e2 o):∀x∈o.op.operands,e.eval x=e2.eval x:=by
 intro x hx;cases x with|tmp t=>refine h t ?_;unfold Oper.looksAt;exact List.mem_append_left _ (List.mem_filterMap.2 ⟨.tmp t,by simpa using hx,rfl⟩)|_=>rfl
def y6{e e2:Env}{o:Oper}(h:Alike ops e e2 o):fg ops e o=fg ops e2 o:=by
 unfold fg;cases hg:o.guard with
 |none=>rfl|some gw=>
  obtain⟨j,want⟩:=gw;simp only;cases hd:(ops[j]?).bind (·.dst) with|none=>rfl|some d=>have:e.get d=e2.get d:=h d (by unfold Oper.looksAt;rw[hg];simp[hd]);simp only[this]
def PK(e:Env)(d)(x)(t):(e.put d x).get t=if d=aa t then x else e.get t:=by
 cases d with|none=>simp[Env.put]|some d=>simp only[Env.put,Env.get,D7,dE]
def vI(e:Env)(d)(x):(e.put d x).defers=e.defers/\(e.put d x).cO=e.cO/\(e.put d x).round=e.round:=by cases d<;>exact⟨rfl,rfl,rfl⟩
def QA{k:Nat}{e e1 e2:Env}{h h1:ao}{x:AV}(hs:jM P G R ops k e h=aa (x,e1,h1)):
 e1=e.with e1/\((∀o,ops[k]?=aa o->Alike ops e e2 o)->e2.defers=e.defers->e2.cO=e.cO->e2.round=e.round->jM P G R ops k e2 h=aa (x,e2.with e1,h1)):=by
 unfold jM at hs ⊢;cases ho:ops[k]? with
 |none=>rw[ho] at hs;cases hs
 |some o=>
  rw[ho] at hs;simp only at hs ⊢;cases hw:fg ops e o with
  |none=>rw[hw] at hs;cases hs
  |some b=>
   rw[hw] at hs;cases b with
   |false=>simp only[dE,cW] at hs;obtain⟨rfl,rfl,rfl⟩:=hs;refine⟨rfl,λfM hd hp hr=>?_⟩;rw[<-y6 (fM o rfl),hw];have:e2.with e=e2:=(by cases e2;cases e;simp_all [Env.with]);simp only[this]
   |true=>
    simp only at hs;split at hs
    ·rename_i x' e' h' bI;simp only[dE,cW] at hs;obtain⟨rfl,rfl,rfl⟩:=hs;refine⟨ajw bI,λfM hd hp hr=>?_⟩;rw[<-y6 (fM o rfl),hw];simp only[ajv (Fk (fM o rfl)) hd hp hr bI]
    ·cases hs
def QB{k:Nat}{e e1:Env}{h h1:ao}{x:AV}(hc:py ops k=.pure)(hs:jM P G R ops k e h=aa (x,e1,h1)):
 e1=e/\h1=h/\∀e2 h2,(∀o,ops[k]?=aa o->Alike ops e e2 o)->jM P G R ops k e2 h2=aa (x,e2,h2):=by
 unfold jM at hs ⊢;cases ho:ops[k]? with
 |none=>rw[ho] at hs;cases hs
 |some o=>
  rw[ho] at hs;simp only at hs ⊢;have hc:jo o.op=.pure:=by simpa [py,ho] using hc
  cases hw:fg ops e o with
  |none=>rw[hw] at hs;cases hs
  |some b=>
   rw[hw] at hs;cases b with
   |false=>simp only[dE,cW] at hs;obtain⟨rfl,rfl,rfl⟩:=hs;refine⟨rfl,rfl,λe2 h2 fM=>?_⟩;rw[<-y6 (fM o rfl),hw]
   |true=>
    simp only at hs;split at hs
    ·rename_i x' e' h' bI;simp only[dE,cW] at hs;obtain⟨rfl,rfl,rfl⟩:=hs;obtain⟨rfl,rfl,eI⟩:=akI hc bI;refine⟨rfl,rfl,λe2 h2 fM=>?_⟩;rw[<-y6 (fM o rfl),hw];simp only[eI e2 (Fk (fM o rfl)) h2]
    ·cases hs
def Reads(P:bB)(G:Nat->Option (List AV))(R:Rec)(ops:Array Oper)(k:Nat)(e:Env)(x:AV)(h2:ao):Prop:=
 ∀o,ops[k]?=aa o->fg ops e o=aa ai->(∀t a,o.op=.load t a->aF P G h2 t (e.eval a)=aa x)/\(zj o.op=ai->dY P G R e h2 o=aa (.ret x,e,h2))
def YR{k:Nat}{e e1:Env}{h h1:ao}{x:AV}(hc:py ops k=.reads)(hs:jM P G R ops k e h=aa (x,e1,h1)):
 e1=e/\h1=h/\Reads P G R ops k e x h/\∀e2 h2,(∀o,ops[k]?=aa o->Alike ops e e2 o)->Reads P G R ops k e x h2->jM P G R ops k e2 h2=aa (x,e2,h2):=by
 unfold jM at hs ⊢;unfold Reads;cases ho:ops[k]? with
 |none=>rw[ho] at hs;cases hs
 |some o=>
  rw[ho] at hs;simp only at hs ⊢;have hc:jo o.op=.reads:=by simpa [py,ho] using hc
  obtain⟨t,a,ox⟩:=Xx hc;cases hw:fg ops e o with
  |none=>rw[hw] at hs;cases hs
  |some b=>
   rw[hw] at hs;cases b with
   |false=>
    simp only[dE,cW] at hs;obtain⟨rfl,rfl,rfl⟩:=hs;refine⟨rfl,rfl,λo' iu VT=>?_,λe2 h2 fM _=>?_⟩
    ·injection iu with iu;subst iu;rw[hw] at VT;cases VT
    ·rw[<-y6 (fM o rfl),hw]
   |true=>
    simp only at hs;split at hs
    ·rename_i x' e' h' bI;simp only[dE,cW] at hs;obtain⟨rfl,rfl,rfl⟩:=hs;obtain⟨y,hy,rfl,rfl,hl,eI⟩:=aix ox bI;injection hy with hy;subst hy;refine⟨rfl,rfl,λo' iu _=>⟨λt' a' Vb=>?_,λgT=>?_⟩,λe2 h2 fM qg=>?_⟩
     ·injection iu with iu;subst iu;rw[ox] at Vb;injection Vb with h1 h2;subst h1;subst h2;exact hl
     ·injection iu with iu;subst iu;rw[ox] at gT;cases gT
     ·rw[<-y6 (fM o rfl),hw];have hax:e2.eval a=e'.eval a:=(Fk (fM o rfl) a (by rw[ox];simp[Op.operands])).symm;simp only[eI e2 hax h2 ((qg o rfl hw).1 t a ox)]
    ·cases hs
def ads{e:Env}{h h2:ao}{o:Oper}{c:Call}{x:AV}(bI:o.op=.call c)(hc:lO P R e h c=aa (.ret x,h2)):dY P G R e h o=aa (.ret x,e,h2):=by
 have hb:∀b,c.callee≠ .builtin b:=by intro b hb;unfold lO at hc;rw[hb] at hc;cases hc
 obtain⟨callee,args,ts⟩:=c;unfold dY;cases callee with|builtin b=>exact absurd rfl (hb b)|value f=>simp only[bI,hc,eX]|invoke r n=>simp only[bI,hc,eX]
def adz{e e2:Env}{h:ao}{o:Oper}{x:AV}(bI:zj o.op=ai)(hz:∀z∈o.op.operands,e.eval z=e2.eval z)(ho:dY P G R e h o=aa (.ret x,e,h)):dY P G R e2 h o=aa (.ret x,e2,h):=by
 unfold zj at bI;split at bI
 ·cases bI
 ·cases bI
 ·rename_i c n1 n2 hc;have OA:∀z∈c.operands,e.eval z=e2.eval z:=λz hm=>hz z (by rw[hc];exact hm);obtain⟨callee,args,ts⟩:=c;have ha:args.toList.map e.eval=args.toList.map e2.eval:=Al λx hm=>OA x (Op.WA hm);unfold dY at ho ⊢;cases callee with
  |builtin b=>
   cases b
   case recover=>exact absurd rfl (n1 _ _)
   case panic=>exact absurd rfl (n2 _ _)
   all_goals
    simp only[hc] at ho ⊢;rw[<-ha];simp only[dt] at ho ⊢;obtain⟨⟨y,h1⟩,q1,q2⟩:=ho;injection q2 with q2 q3;injection q3 with q3 q4;injection q2 with q2;subst q2;subst q4;exact⟨_,q1,rfl⟩
  |value f=>simp only[hc] at ho ⊢;rw[<-Ms (e:=e) (e2:=e2) OA];simp only[dt] at ho ⊢;obtain⟨⟨y,h1⟩,q1,q2⟩:=ho;injection q2 with q2 q3;injection q3 with q3 q4;subst q2;subst q4;exact⟨_,q1,rfl⟩
  |invoke r n=>simp only[hc] at ho ⊢;rw[<-Ms (e:=e) (e2:=e2) OA];simp only[dt] at ho ⊢;obtain⟨⟨y,h1⟩,q1,q2⟩:=ho;injection q2 with q2 q3;injection q3 with q3 q4;subst q2;subst q4;exact⟨_,q1,rfl⟩
 ·rename_i s d y hc;have hy:e.eval y=e2.eval y:=hz y (by rw[hc];simp[Op.operands]);unfold dY at ho ⊢;simp only[hc,dK] at ho ⊢;rw[<-hy];simp only[dt] at ho ⊢;obtain⟨⟨y,h1⟩,q1,q2⟩:=ho;injection q2 with q2 q3;injection q3 with q3 q4;injection q2 with q2;subst q2;subst q4;exact⟨_,q1,rfl⟩
 ·cases bI
def YP{k:Nat}{e e1:Env}{h h1:ao}{x y:AV}{o:Oper}(ho:ops[k]?=aa o)(bI:zj o.op=ai)(hc:dY P G R e h o=aa (.ret y,e,h))(hs:jM P G R ops k e h=aa (x,e1,h1)):
 e1=e/\h1=h/\(fg ops e o=aa ai->x=y)/\∀e2 h2,(∀o,ops[k]?=aa o->Alike ops e e2 o)->Reads P G R ops k e x h2->jM P G R ops k e2 h2=aa (x,e2,h2):=by
 unfold jM at hs ⊢;rw[ho] at hs;simp only[ho] at hs ⊢;cases hw:fg ops e o with
 |none=>rw[hw] at hs;cases hs
 |some b=>
  rw[hw] at hs;cases b with
  |false=>simp only[dE,cW] at hs;obtain⟨rfl,rfl,rfl⟩:=hs;refine⟨rfl,rfl,(λq=>nomatch q),λe2 h2 fM _=>?_⟩;rw[<-y6 (fM o rfl),hw]
  |true=>simp only[hc] at hs;simp only[dE,cW] at hs;obtain⟨rfl,rfl,rfl⟩:=hs;refine⟨rfl,rfl,λ_=>rfl,λe2 h2 fM qg=>?_⟩;rw[<-y6 (fM o rfl),hw];have h3:=(qg o ho hw).2 bI;have h4:=adz (e2:=e2) bI (λz hz=>Fk (fM o rfl) z hz) h3;simp only[h4]
end
end Go.AE
end
section
namespace Go.AE
section
variable {P:bB} {G:Nat->Option (List AV)} {R:Rec} {ops:Array Oper}
def Ord(b:Array Nat)(i j:Nat):Prop:=(b.getD j 0).testBit i=ai
structure Fits(P:bB)(G:Nat->Option (List AV))(R:Rec)(ops:Array Oper)(e:Env)(h:ao)(b:Array Nat):Prop where
 IT:∀(j:Nat) (o:Oper),ops[j]?=aa o->∀ed∈o.after,Region.binds .any ed=ai->ed.on<j
 bits:∀(j i:Nat) (o:Oper),ops[j]?=aa o->i<ops.size->Ord b i j->∃ed∈o.after,Region.binds .any ed=ai/\(ed.on=i∨Ord b i ed.on)
 pair:∀i j:Nat,i<j->j<ops.size->Ord b i j∨yB ops i j=ai∨lJ P G R ops e h i j=ai∨(px ops i j=ai/\(mG P G R ops e h i=ai∨mG P G R ops e h j=ai))
def xX{e:Env}{h:ao}(hf:mj P G R ops e h=ai):Fits P G R ops e h (Region.before ops):=by
 unfold mj at hf;simp only[bA,eE,fD,uM] at hf;obtain⟨hb,hp⟩:=hf;unfold AZ at hb;simp only[eE,fD] at hb;refine⟨λj o ho ed gj ni=>?_,λj i o ho hi lT=>?_,λi j lT hj=>?_⟩
 ·have hj:j<ops.size:=(CB.1 ho).1;have:=hb j hj;simp only[ho,bA,EE] at this;obtain⟨q,hq,rfl⟩:=ZA gj;have:=this.1 q hq;simpa [ni] using this
 ·have hj:j<ops.size:=(CB.1 ho).1;have:=hb j hj;simp only[ho,bA,eE,fD] at this;have:=this.2 i hi;unfold Ord at lT;rw[lT] at this;simp only[Bool.not_true,Bool.false_or,Array.any_eq_true,bA,uM] at this;obtain⟨q,hq,h1,h2⟩:=this;exact⟨o.after[q],Zz hq,h1,h2.imp (λh=>jF h) id⟩
 ·rcases hp j hj i lT with((h|h)|h)|h
  ·exact .inl h
  ·exact .inr (.inl h)
  ·exact .inr (.inr (.inl h))
  ·exact .inr (.inr (.inr (by simpa using h)))
variable {e:Env} {h:ao} {b:Array Nat}
def Fits.apart(F:Fits P G R ops e h b){i j:Nat}(lT:i<j)(hj:j<ops.size)(hn:¬Ord b i j){x y:Oper}(hx:ops[i]?=aa x)(hy:ops[j]?=aa y):
 x.apart ops y=ai/\y.apart ops x=ai:=by
 rcases F.pair i j lT hj with h|h|h|⟨h,-⟩
 ·exact absurd h hn
 ·unfold yB at h;simp only[hx,hy,bA] at h;exact⟨h.1.2,h.2⟩
 ·unfold lJ px at h;simp only[hx,hy,bA] at h;exact h.1
 ·unfold px at h;simp only[hx,hy,bA] at h;exact h
def A5{i:Nat}{x:Oper}(hx:ops[i]?=some x):py ops i=jo x.op:=by simp[py,hx]
def IN{i:Nat}(hi:mi P G R ops e h i=.acts):py ops i=.acts/\mG P G R ops e h i=ay:=by
 unfold mi at hi;split at hi
 ·cases hi
 ·rename_i hc;exact⟨hi,by simpa using hc⟩
def Fits.acts(F:Fits P G R ops e h b){i j:Nat}(lT:i<j)(hj:j<ops.size)(hi:mi P G R ops e h i=.acts)(qN:mi P G R ops e h j=.acts):Ord b i j:=by
 have hx:ops[i]?=aa ops[i]:=mf (pj lT hj);have hy:ops[j]?=aa ops[j]:=mf hj;obtain⟨hi,ci⟩:=IN hi;obtain⟨qN,cj⟩:=IN qN;rw[A5 hx] at hi;rw[A5 hy] at qN;rcases F.pair i j lT hj with h|h|h|⟨-,h⟩
 ·exact h
 ·unfold yB at h;simp only[hx,hy,bA] at h;rw[hi,qN] at h;simp[JW] at h
 ·unfold lJ at h;simp only[hx,hy,bA,eX] at h;rw[hi,qN] at h;simp at h
 ·rw[ci,cj] at h;simp at h
def Fits.apl(F:Fits P G R ops e h b){i j:Nat}(lT:i<j)(hj:j<ops.size)(hn:¬Ord b i j)(hi:py ops i=.reads)(ci:mG P G R ops e h i=ay)(qN:mi P G R ops e h j=.acts):pM P G R ops e h i (j+1)=ai:=by
 have hx:ops[i]?=aa ops[i]:=mf (pj lT hj);have hy:ops[j]?=aa ops[j]:=mf hj;obtain⟨qN,cj⟩:=IN qN;rw[A5 hx] at hi;rw[A5 hy] at qN;rcases F.pair i j lT hj with h|h|h|⟨-,h⟩
 ·exact absurd h hn
 ·unfold yB at h;simp only[hx,hy,bA] at h;rw[hi,qN] at h;simp[JW] at h
 ·unfold lJ at h;simp only[hx,hy,bA,eX] at h;rw[hi,qN] at h;exact h.2
 ·rw[ci,cj] at h;simp at h
def Fits.apm(F:Fits P G R ops e h b){i j:Nat}(lT:i<j)(hj:j<ops.size)(hn:¬Ord b i j)(hi:mi P G R ops e h i=.acts)(qN:py ops j=.reads)(cj:mG P G R ops e h j=ay):pM P G R ops e h j i=ai:=by
 have hx:ops[i]?=aa ops[i]:=mf (pj lT hj);have hy:ops[j]?=aa ops[j]:=mf hj;obtain⟨hi,ci⟩:=IN hi;rw[A5 hx] at hi;rw[A5 hy] at qN;rcases F.pair i j lT hj with h|h|h|⟨-,h⟩
 ·exact absurd h hn
 ·unfold yB at h;simp only[hx,hy,bA] at h;rw[hi,qN] at h;simp[JW] at h
 ·unfold lJ at h;simp only[hx,hy,bA,eX] at h;rw[hi,qN] at h;exact h.2
 ·rw[ci,cj] at h;simp at h
def apr{r m n:Nat}{e':Env}{h':ao}(N:da P G R ops (bL n) e h=aa (.normal,e',h'))(hr:r<n)(hm:m<=n)(hs:pM P G R ops e h r m=ai)(hc:py ops r=.reads):
 Reads P G R ops r (cR P G R ops e h r).1 (uK P G R ops e h r).1 (cR P G R ops e h m).2:=by
 obtain⟨-,tr,st⟩:=trace N;obtain⟨cd,-⟩:=st r hr;obtain⟨-,-,qg,-⟩:=YR hc cd;intro o ho hw;refine⟨λt a ox=>?_,λcV=>?_⟩
 ·have hold:=(qg o ho hw).1 t a ox;unfold pM at hs;rw[ho,tr r (mV hr),tr m hm] at hs;simp only[hw,ox] at hs;rw[hold] at hs;split at hs
  ·rename_i x y hx hy;injection hx with hx;subst hx;rw[Qo hs];exact hy
  ·cases hs
 ·obtain⟨t,a,ox⟩:=Xx (show jo o.op=.reads by rw[<-A5 ho];exact hc);rw[ox] at cV;exact absurd cV (by simp[zj])
def adw{k:Nat}:mG P G R ops e h k=ai↔zl P G R ops e h k:=by unfold mG;exact @decide_eq_true_iff _ (Classical.propDecidable _)
def SN{n k:Nat}{e':Env}{h':ao}(N:da P G R ops (bL n) e h=aa (.normal,e',h'))(hn:n=ops.size)(hk:k<n)(hc:mG P G R ops e h k=ai):
 ∃o x,ops[k]?=aa o/\zj o.op=ai/\∀m,m<=n->dY P G R (cR P G R ops e h k).1 (cR P G R ops e h m).2 o=aa (.ret x,(cR P G R ops e h k).1,(cR P G R ops e h m).2):=by
 obtain⟨-,tr,-⟩:=trace N;obtain⟨o,x,er,hr,ho,bI,e1,eI⟩:=adw.1 hc;refine⟨o,x,ho,bI,λm hm=>?_⟩;obtain⟨em,BE,e2,tu⟩:=eI m ah;have q1:=tr k (mV hk);have q2:=tr m hm;rw[e1] at q1;rw[e2] at q2;injection q1 with q1;injection q2 with q2;have a1:er=(cR P G R ops e h k).1:=by have:=congrArg (λz=>z.2.1) q1;exact this
 have a2:BE=(cR P G R ops e h m).2:=by have:=congrArg (λz=>z.2.2) q2;exact this
 rw[<-a1,<-a2];exact tu
def YT{k:Nat}{e':Env}{h':ao}(N:da P G R ops (bL ops.size) e h=aa (.normal,e',h'))(hk:k<ops.size)(hc:mi P G R ops e h k=.reads){e1:Env}{h1:ao}{x:AV}
 (hs:jM P G R ops k (cR P G R ops e h k).1 (cR P G R ops e h k).2=aa (x,e1,h1)):
 e1=(cR P G R ops e h k).1/\h1=(cR P G R ops e h k).2/\Reads P G R ops k (cR P G R ops e h k).1 x (cR P G R ops e h k).2/\
  ∀e2 h2,(∀o,ops[k]?=aa o->Alike ops (cR P G R ops e h k).1 e2 o)->Reads P G R ops k (cR P G R ops e h k).1 x h2->jM P G R ops k e2 h2=aa (x,e2,h2):=by
 unfold mi at hc;split at hc
 ·rename_i wJ;obtain⟨o,y,ho,bI,eI⟩:=SN N rfl hk wJ;have h0:=eI k (mV hk);obtain⟨a1,a2,a3,a4⟩:=YP ho bI h0 hs;refine⟨a1,a2,λo' iu hw=>?_,a4⟩;rw[ho] at iu;injection iu with iu;subst iu;refine⟨λt a ox=>(by rw[ox] at bI;cases bI),λ_=>?_⟩;rw[a3 hw];exact h0
 ·exact YR hc hs
def YV{k m:Nat}{e':Env}{h':ao}(N:da P G R ops (bL ops.size) e h=aa (.normal,e',h'))(hk:k<ops.size)(hm:m<=ops.size)(hc:mi P G R ops e h k=.reads)
 (hs:py ops k=.reads->mG P G R ops e h k=ay->pM P G R ops e h k m=ai):
 Reads P G R ops k (cR P G R ops e h k).1 (uK P G R ops e h k).1 (cR P G R ops e h m).2:=by
 by_cases wJ:mG P G R ops e h k=ai
 ·obtain⟨-,tr,st⟩:=trace N;obtain⟨cd,-⟩:=st k hk;obtain⟨o,y,ho,bI,eI⟩:=SN N rfl hk wJ;obtain⟨-,-,a3,-⟩:=YP ho bI (eI k (mV hk)) cd;intro o' iu hw;rw[ho] at iu;injection iu with iu;subst iu;refine⟨λt a ox=>(by rw[ox] at bI;cases bI),λ_=>?_⟩;rw[a3 hw];exact eI m hm
 ·have wJ:mG P G R ops e h k=ay:=by simpa using wJ
  have hc:py ops k=.reads:=by unfold mi at hc;rw[wJ] at hc;simpa using hc
  exact apr N hk hm (hs hc wJ) hc
def S9{k:Nat}(hc:mi P G R ops e h k=.pure):py ops k=.pure:=by
 unfold mi at hc;split at hc
 ·cases hc
 ·exact hc
structure Inv(P:bB)(G:Nat->Option (List AV))(R:Rec)(ops:Array Oper)(e:Env)(h:ao)(b:Array Nat)(S:Nat->Bool)(e1:Env)(h1:ao):Prop where
 closed:∀i j,i<ops.size->j<ops.size->S j=ai->Ord b i j->S i=ai
 gX:∀t,e1.get t=val P G R ops e h S ops.size t
 round:e1.round=e.round
 mem:∃m,m<=ops.size/\e1.defers=(cR P G R ops e h m).1.defers/\e1.cO=(cR P G R ops e h m).1.cO/\h1=(cR P G R ops e h m).2/\
  (∀a,a<m->mi P G R ops e h a=.acts->S a=ai)/\∀a,m<=a->a<ops.size->mi P G R ops e h a=.acts->S a=ay
variable {e':Env} {h':ao}
def QL(N:da P G R ops (bL ops.size) e h=aa (.normal,e',h'))(t:Nat):∀k,k<=ops.size->(cR P G R ops e h k).1.get t=val P G R ops e h (λ_=>ai) k t:=by
 obtain⟨-,tr,st⟩:=trace N;intro k
 induction k with
 |zero=>intro _;have:=tr 0 (df _);simp only[aaB,da,dE,cW,true_and] at this;rw[<-this.1];rfl|succ k ih=>
  intro hk;obtain⟨hs,hn⟩:=st k hk;rw[hn,PK];simp only[val,true_and];split
  ·rfl
  ·rw[<-ih (mV hk)];have:=(QA (e2:=e) hs).1;rw[this];rfl
def Zg(N:da P G R ops (bL ops.size) e h=aa (.normal,e',h')):∀k,k<=ops.size->(cR P G R ops e h k).1.round=e.round:=by
 obtain⟨-,tr,st⟩:=trace N;intro k
 induction k with
 |zero=>intro _;have:=tr 0 (df _);simp only[aaB,da,dE,cW,true_and] at this;rw[<-this.1]|succ k ih=>intro hk;obtain⟨hs,hn⟩:=st k hk;rw[hn,(vI _ _ _).2.2,(QA (e2:=e) hs).1];exact ih (mV hk)
def adA(N:da P G R ops (bL ops.size) e h=aa (.normal,e',h')){k:Nat}(hk:k<ops.size)(hc:mi P G R ops e h k≠ .acts):
 (cR P G R ops e h (k+1)).1.defers=(cR P G R ops e h k).1.defers/\(cR P G R ops e h (k+1)).1.cO=(cR P G R ops e h k).1.cO/\(cR P G R ops e h (k+1)).2=(cR P G R ops e h k).2:=by
 obtain⟨-,tr,st⟩:=trace N;obtain⟨hs,hn⟩:=st k hk;have key:(uK P G R ops e h k).2=(cR P G R ops e h k).1/\(cR P G R ops e h (k+1)).2=(cR P G R ops e h k).2:=by
  cases hq:mi P G R ops e h k with
  |pure=>obtain⟨h1,h2,-⟩:=QB (S9 hq) hs;exact⟨h1,h2⟩
  |reads=>obtain⟨h1,h2,-⟩:=YT N hk hq hs;exact⟨h1,h2⟩
  |acts=>exact absurd hq hc
 rw[hn,(vI _ _ _).1,(vI _ _ _).2.1,key.1];exact⟨rfl,rfl,key.2⟩
def Kx(N:da P G R ops (bL ops.size) e h=aa (.normal,e',h')){m:Nat}:∀k,m<=k->k<=ops.size->
 ((cR P G R ops e h m).1.defers=(cR P G R ops e h k).1.defers/\(cR P G R ops e h m).1.cO=(cR P G R ops e h k).1.cO/\(cR P G R ops e h m).2=(cR P G R ops e h k).2)∨
 (∃a,m<=a/\a<k/\mi P G R ops e h a=.acts/\(cR P G R ops e h m).2=(cR P G R ops e h a).2)/\∃a,m<=a/\a<k/\mi P G R ops e h a=.acts/\(cR P G R ops e h (a+1)).2=(cR P G R ops e h k).2:=by
 intro k
 induction k with
 |zero=>intro hm _;have:m=0:=LC.1 hm;subst this;exact .inl ⟨rfl,rfl,rfl⟩|succ k ih=>
  intro hm hk;rcases dT k m with az|eo
  ·have:m=k+1:=AR hm az;subst this;exact .inl ⟨rfl,rfl,rfl⟩
  ·have BA:k<=ops.size:=mV hk;by_cases hc:mi P G R ops e h k=.acts
   ·refine .inr ⟨?_,k,eo,LD k,hc,rfl⟩;rcases ih eo BA with h1|⟨⟨a,h1,h2,h3,h4⟩,-⟩
    ·exact⟨k,eo,LD k,hc,h1.2.2⟩
    ·exact⟨a,h1,vV h2,h3,h4⟩
   ·obtain⟨c1,c2,c3⟩:=adA N hk hc;rcases ih eo BA with h1|⟨⟨a,h1,h2,h3,h4⟩,a2,g1,g2,g3,g4⟩
    ·exact .inl ⟨h1.1.trans c1.symm,h1.2.1.trans c2.symm,h1.2.2.trans c3.symm⟩
    ·exact .inr ⟨⟨a,h1,vV h2,h3,h4⟩,a2,g1,vV g2,g3,g4.trans c3.symm⟩
def val_congr{S S':Nat->Bool}{t:Nat}:∀k,(∀w,w<k->mI ops w=aa t->S w=S' w)->val P G R ops e h S k t=val P G R ops e h S' k t:=by
 intro k
 induction k with
 |zero=>intro _;rfl|succ k ih=>
  intro hw;simp only[val];rw[ih λw hwk hd=>hw w (vV hwk) hd];by_cases hd:mI ops k=aa t
  ·rw[hw k (LD k) hd]
  ·simp[hd]
def KU{S:Nat->Bool}{t k:Nat}:∀n,k<=n->(∀w,k<=w->w<n->mI ops w=aa t->S w=ay)->val P G R ops e h S n t=val P G R ops e h S k t:=by
 intro n
 induction n with
 |zero=>intro hk _;rw[LC.1 hk]|succ n ih=>
  intro hk hw;rcases dT n k with az|eo
  ·rw[AR hk az]
  ·simp only[val];rw[aG λhq=>by have:=hw n eo (LD n) hq.2;rw[hq.1] at this;cases this];exact ih eo λw h1 h2 h3=>hw w h1 (vV h2) h3
def A6{i:Nat}{x:Oper}(hx:ops[i]?=aa x):mI ops i=x.dst:=by simp[mI,hx]
def Fits.aq4(F:Fits P G R ops e h b){i j t:Nat}(lT:i<j)(hj:j<ops.size)(hi:mI ops i=aa t)(Ga:mI ops j=aa t):Ord b i j:=by refine Classical.byContradiction λhn=>?_;have hx:ops[i]?=aa ops[i]:=mf (pj lT hj);have hy:ops[j]?=aa ops[j]:=mf hj;have ha:=(Oper.apart_spec (F.apart lT hj hn hx hy).1).2.1;rw[A6 hx] at hi;rw[A6 hy] at Ga;exact ha t hi Ga
def Fits.looks(F:Fits P G R ops e h b){i j t:Nat}(lT:i<j)(hj:j<ops.size){x y:Oper}(hx:ops[i]?=aa x)(hy:ops[j]?=aa y)
 (hl:(x.dst=aa t/\t∈y.looksAt ops)∨(y.dst=aa t/\t∈x.looksAt ops)):Ord b i j:=by
 refine Classical.byContradiction λhn=>?_;have ha:=Oper.apart_spec (F.apart lT hj hn hx hy).1;rcases hl with⟨h1,h2⟩|⟨h1,h2⟩
 ·exact ha.1 t h1 h2
 ·exact ha.2.2 t h1 h2
def oP(ops:Array Oper)(S:Nat->Bool)(k:Nat):Prop:=∀o,ops[k]?=aa o->∀ed∈o.after,Region.binds .any ed=ai->S ed.on=ai
def dP(S:Nat->Bool)(k:Nat):Nat->Bool:=λj=>if j=k then ai else S j
def next(N:da P G R ops (bL ops.size) e h=aa (.normal,e',h'))(F:Fits P G R ops e h b){S:Nat->Bool}{e1:Env}{h1:ao}(I:Inv P G R ops e h b S e1 h1){k:Nat}(hk:k<ops.size)
 (hu:S k=ay) (hr:oP ops S k):∃x e2 h2,jM P G R ops k e1 h1=aa (x,e2,h2)/\Inv P G R ops e h b (dP S k) (e2.put (mI ops k) x) h2:=by
 obtain⟨-,tr,st⟩:=trace N;have ho:ops[k]?=aa ops[k]:=mf hk;have ahead:∀i,i<ops.size->Ord b i k->S i=ai:=by
  intro i hi yi;obtain⟨ed,gj,ni,hq⟩:=F.bits k i _ ho hi yi;have hs:=hr _ ho ed gj ni;have az:=F.IT k _ ho ed gj ni;rcases hq with rfl|hq
  ·exact hs
  ·exact I.closed i ed.on hi (pj az hk) hs hq
 have alike:∀o,ops[k]?=aa o->Alike ops (cR P G R ops e h k).1 e1 o:=by
  intro o iu t ht;rw[ho] at iu;injection iu with iu;subst iu;rw[I.gX t,QL N t k (mV hk),KU (k:=k) ops.size (mV hk)]
  ·refine val_congr k λw hw hd=>?_;have hx:ops[w]?=aa ops[w]:=mf (pj hw hk);rw[A6 hx] at hd;exact(ahead w (pj hw hk) (F.looks hw hk hx ho (.inl ⟨hd,ht⟩))).symm
  ·intro w DE hw hd;rcases dT k w with az|eo
   ·cases hq:S w with|false=>rfl|true=>have hx:ops[w]?=aa ops[w]:=mf hw;rw[A6 hx] at hd;have:=I.closed k w hk hw hq (F.looks az hw ho hx (.inr ⟨hd,ht⟩));rw[hu] at this;cases this
   ·rw[AR eo DE,hu]
 obtain⟨hs,hn⟩:=st k hk;obtain⟨m,hm,hd,hp,hh,wF,oU⟩:=I.mem;have closed':∀i j,i<ops.size->j<ops.size->dP S k j=ai->Ord b i j->dP S k i=ai:=by
  intro i j hi hj Oq lT;unfold dP at Oq ⊢;by_cases yi:i=k
  ·rw[aD yi]
  ·rw[aG yi];by_cases zQ:j=k
   ·subst zQ;exact ahead i hi lT
   ·rw[aG zQ] at Oq;exact I.closed i j hi hj Oq lT
 have slots':∀(e2:Env),(∀t,e2.get t=e1.get t)->∀t,(e2.put (mI ops k) (uK P G R ops e h k).1).get t=val P G R ops e h (dP S k) ops.size t:=by
  intro e2 jf t;rw[PK];by_cases Bq:mI ops k=aa t
  ·rw[aD Bq,KU (k:=k+1) ops.size hk]
   ·simp[val,dP,Bq]
   ·intro w DE hw Nw;have bE:w≠k:=λhq=>absurd DE (by rw[hq];exact aaU k);simp only[dP,aG bE];cases hq:S w with|false=>rfl|true=>have:=I.closed k w hk hw hq (F.aq4 DE hw Bq Nw);rw[hu] at this;cases this
  ·rw[aG Bq,jf,I.gX t];refine val_congr _ λw _ Nw=>?_;have bE:w≠k:=λhq=>Bq (hq ▸ Nw);simp only[dP,aG bE]
 by_cases hc:mi P G R ops e h k=.acts
 ·-- it acts
  have Gh:m<=k:=by
   rcases dT k m with az|eo
   ·have:=wF k az hc;rw[hu] at this;cases this
   ·exact eo
  have same:=Kx N k Gh (mV hk);have same:(cR P G R ops e h m).1.defers=(cR P G R ops e h k).1.defers/\(cR P G R ops e h m).1.cO=(cR P G R ops e h k).1.cO/\(cR P G R ops e h m).2=(cR P G R ops e h k).2:=by
   rcases same with h1|⟨⟨a,g1,g2,g3,-⟩,-⟩
   ·exact h1
   ·have h1:=oU a g1 (pj g2 hk) g3;rw[ahead a (pj g2 hk) (F.acts g2 hk g3 hc)] at h1;cases h1
  have nK:=(QA (e2:=e1) hs).2 alike (hd.trans same.1) (hp.trans same.2.1) (by rw[I.round,Zg N k (mV hk)]);rw[<-same.2.2,<-hh] at nK;refine⟨_,_,_,nK,closed',slots' _ (λt=>rfl),?_,k+1,hk,?_,?_,rfl,?_,?_⟩
  ·rw[(vI _ _ _).2.2];exact I.round
  ·rw[(vI _ _ _).1,hn,(vI _ _ _).1];rfl
  ·rw[(vI _ _ _).2.1,hn,(vI _ _ _).2.1];rfl
  ·intro a Bl zK;unfold dP;by_cases hq:a=k
   ·rw[aD hq]
   ·rw[aG hq];have az:a<k:=aaO (AS.1 Bl) hq;exact ahead a (pj az hk) (F.acts az hk zK hc)
  ·intro a BB ha zK;have hq:a≠k:=λhq=>absurd BB (by rw[hq];exact aaU k);unfold dP;rw[aG hq];exact oU a (fc Gh (mV BB)) ha zK
 ·-- it does not
  have mem':∀e2:Env,e2.defers=e1.defers->e2.cO=e1.cO->∃m,m<=ops.size/\e2.defers=(cR P G R ops e h m).1.defers/\e2.cO=(cR P G R ops e h m).1.cO/\h1=(cR P G R ops e h m).2/\
   (∀a,a<m->mi P G R ops e h a=.acts->dP S k a=ai)/\∀a,m<=a->a<ops.size->mi P G R ops e h a=.acts->dP S k a=ay:=by
   intro e2 Dr wD;refine⟨m,hm,Dr.trans hd,wD.trans hp,hh,λa ham zK=>?_,λa Ju ha zK=>?_⟩
   ·unfold dP;by_cases hq:a=k
    ·rw[aD hq]
    ·rw[aG hq];exact wF a ham zK
   ·have hq:a≠k:=λhq=>hc (hq ▸ zK);unfold dP;rw[aG hq];exact oU a Ju ha zK
  have fin:∀x,x=(uK P G R ops e h k).1->jM P G R ops k e1 h1=aa (x,e1,h1)->∃x e2 h2,jM P G R ops k e1 h1=aa (x,e2,h2)/\Inv P G R ops e h b (dP S k) (e2.put (mI ops k) x) h2:=by intro x hx nK;subst hx;refine⟨_,_,_,nK,closed',slots' _ (λt=>rfl),?_,mem' _ (vI _ _ _).1 (vI _ _ _).2.1⟩;rw[(vI _ _ _).2.2];exact I.round
  cases cV:mi P G R ops e h k with
  |acts=>exact absurd cV hc|pure=>obtain⟨-,-,eI⟩:=QB (S9 cV) hs;exact fin _ rfl (eI e1 h1 alike)
  |reads=>
   obtain⟨-,-,qg,eI⟩:=YT N hk cV hs;refine fin _ rfl (eI e1 h1 alike ?_);rw[hh];rcases dT k m with az|eo
   ·rcases Kx N (m:=k) m (mV az) hm with hq|⟨-,a,g1,g2,g3,g4⟩
    ·rw[<-hq.2.2];exact qg
    ·have Bl:k<a:=aaO g1 λhq=>hc (hq ▸ g3);have yd:a<ops.size:=mD g2 hm;have iE:¬Ord b k a:=λhq=>(by have:=I.closed k a hk yd (wF a g2 g3) hq;rw[hu] at this;cases this);rw[<-g4];exact YV N hk yd cV λq1 q2=>F.apl Bl yd iE q1 q2 g3
   ·rcases Kx N (m:=m) k eo (mV hk) with hq|⟨⟨a,g1,g2,g3,g4⟩,-⟩
    ·rw[hq.2.2];exact qg
    ·have yd:a<ops.size:=pj g2 hk;have iE:¬Ord b a k:=λhq=>(by have h1:=ahead a yd hq;rw[oU a g1 yd g3] at h1;cases h1);rw[g4];exact YV N hk (mV yd) cV λq1 q2=>F.apm g2 hk iE g3 q1 q2
def OH(N:da P G R ops (bL ops.size) e h=aa (.normal,e',h')):Inv P G R ops e h b (λ_=>ay) e h:=by
 have h0:cR P G R ops e h 0=(e,h):=by simp[cR,da]
 refine⟨λ_ _ _ _ h=>absurd h bG,λt=>?_,rfl,0,df _,by rw[h0],by rw[h0],by rw[h0],λa ha=>absurd ha (sO a),λ_ _ _ _=>rfl⟩;rw[KU (k:=0) ops.size (df _) (λ_ _ _ _=>rfl)];rfl
structure oQ(e e2:Env):Prop where
 gX:∀t,e.get t=e2.get t
 defers:e.defers=e2.defers
 cO:e.cO=e2.cO
 round:e.round=e2.round
def ahS(N:da P G R ops (bL ops.size) e h=aa (.normal,e',h')){S:Nat->Bool}{e1:Env}{h1:ao}(I:Inv P G R ops e h b S e1 h1)(eI:∀i,i<ops.size->S i=ai):oQ e1 e'/\h1=h':=by
 obtain⟨t0,tr,st⟩:=trace N;have he:e'=(cR P G R ops e h ops.size).1:=by rw[<-t0]
 have hh:h'=(cR P G R ops e h ops.size).2:=by rw[<-t0]
 obtain⟨m,hm,hd,hp,wQ,wF,oU⟩:=I.mem;have same:=Kx N ops.size hm (aJ _);have same:(cR P G R ops e h m).1.defers=(cR P G R ops e h ops.size).1.defers/\(cR P G R ops e h m).1.cO=(cR P G R ops e h ops.size).1.cO/\(cR P G R ops e h m).2=(cR P G R ops e h ops.size).2:=by
  rcases same with h1|⟨⟨a,g1,g2,g3,-⟩,-⟩
  ·exact h1
  ·have h1:=oU a g1 g2 g3;rw[eI a g2] at h1;cases h1
 refine⟨⟨λt=>?_,?_,?_,?_⟩,?_⟩
 ·rw[I.gX t,he,QL N t ops.size (aJ _)];exact val_congr _ λw hw _=>eI w hw
 ·rw[hd,same.1,he]
 ·rw[hp,same.2.1,he]
 ·rw[I.round,he,Zg N ops.size (aJ _)]
 ·rw[wQ,same.2.2,hh]
def aen{α:Type}{p q}{a}:∀{l:List α},(∀x∈l,q x=true->p x=true)->a∈l->p a=true->q a=false->l.countP q<l.countP p:=by
 intro l
 induction l with
 |nil=>intro _ ha;cases ha
 |cons x l ih=>
  intro hm ha hp hq;have eC:l.countP q<=l.countP p:=List.countP_mono_left λy hy=>hm y (fR _ hy);rcases jm.1 ha with rfl|ha
  ·rw[aai (by simp[hq]),Rg hp];exact Nat.lt_succ_of_le eC
  ·have:=ih (λy hy=>hm y (fR _ hy)) ha hp hq;by_cases Oh:q x=ai
   ·rw[Rg Oh,Rg (hm x ga Oh)];exact Nat.succ_lt_succ this
   ·rw[aai Oh];exact mD this (by rw[List.countP_cons];exact Nat.le_add_right _ _)
def nV(ops:Array Oper):(Nat->Bool)->List Nat->Prop
 |S,[]=>∀i,i<ops.size->S i=ai
 |S,k::L=>k<ops.size/\S k=ay/\oP ops S k/\nV ops (dP S k) L
def OZ(N:da P G R ops (bL ops.size) e h=aa (.normal,e',h'))(F:Fits P G R ops e h b):∀(L:List Nat) (S:Nat->Bool) (e1:Env) (h1:ao),Inv P G R ops e h b S e1 h1->nV ops S L->
 ∃e2,da P G R ops L e1 h1=aa (.normal,e2,h')/\oQ e2 e':=by
 intro L
 induction L with
 |nil=>intro S e1 h1 I hL;obtain⟨hs,rfl⟩:=ahS N I hL;exact⟨e1,by simp[da],hs⟩
 |cons k L ih=>
  intro S e1 h1 I hL;obtain⟨hk,hu,hr,hL⟩:=hL;obtain⟨x,e2,h2,hs,I'⟩:=next N F I hk hu hr
  obtain⟨e3,nK,iM⟩:=ih _ _ _ I' hL;exact⟨e3,qn.2 ⟨x,e2,h2,hs,nK⟩,iM⟩
def yO(ops:Array Oper):Prop:=∀(j:Nat) (o:Oper),ops[j]?=aa o->∀ed∈o.after,Region.binds .any ed=ai->ed.on<j
def aip(hB:yO ops):∀(fuel t:Nat) (iG:Array Bool),iG.size=ops.size->
 (bL ops.size).countP (λj=> !iG.getD j ay)<=fuel->nV ops (λj=>iG.getD j ay) (Region.linearise.go .any ops fuel t iG []):=by
 intro fuel
 induction fuel with
 |zero=>
  intro t iG dV Ns;have eI:∀i,i<ops.size->iG.getD i ay=ai:=by intro i hi;have:=List.countP_eq_zero.1 (LC.1 Ns) i (fD.2 hi);simpa using this
  simp only[Region.linearise.go,aaD];exact eI
 |succ fuel ih=>
  intro t iG dV Ns;have U3:∀i,i<ops.size->iG.getD i ai=iG.getD i ay:=by intro i hi;have:i<iG.size:=(by omega);simp[this]
  simp only[Region.linearise.go];change nV ops _ (match (Region.ready .any ops iG)[t%(Region.ready .any ops iG).length]? with
   |some i=>Region.linearise.go .any ops fuel (t/(Region.ready .any ops iG).length) (iG.setIfInBounds i ai) [i]
   |none=>[].reverse)
  have ready_of:∀i,i∈Region.ready .any ops iG↔i<ops.size/\iG.getD i ay=ay/\oP ops (λj=>iG.getD j ay) i:=by
   intro i;unfold Region.ready;rw[xG,fD];constructor
   ·rintro⟨hi,hq⟩;rw[bA] at hq;obtain⟨rV,qT⟩:=hq;rw[U3 i hi] at rV;refine⟨hi,by simpa using rV,λo ho ed gj ni=>?_⟩;rw[ho] at qT;simp only[eX,Iu,EE] at qT;obtain⟨q,hq,rfl⟩:=ZA gj;have:=qT q hq;simpa [ni] using this
   ·rintro⟨hi,hq,hr⟩;refine⟨hi,?_⟩;rw[bA];refine⟨by rw[U3 i hi];simp[hq],?_⟩;have ho:ops[i]?=aa ops[i]:=mf hi;rw[ho];simp only[eX,Iu,EE];intro q hq;cases hb:Region.binds .any ops[i].after[q] with|false=>rfl|true=>simpa using hr _ ho _ (Zz hq) hb
  cases hi:(Region.ready .any ops iG)[t%(Region.ready .any ops iG).length]? with
  |none=>
   have nL:Region.ready .any ops iG=[]:=by
    cases hr:Region.ready .any ops iG with|nil=>rfl|cons x xs=>rw[hr] at hi;have az:t%(x::xs).length<(x::xs).length:=Nat.mod_lt _ bG;simp at hi;simp at az;omega
   have eI:∀i,i<ops.size->iG.getD i ay=ai:=by
    intro i
    induction i using Nat.strongRecOn with
    |_ i ihi=>
     intro hi;cases hq:iG.getD i ay with|true=>rfl|false=>have:i∈Region.ready .any ops iG:=(ready_of i).2 ⟨hi,hq,λo ho ed gj ni=>by have az:=hB i o ho ed gj ni;exact ihi ed.on az (pj az hi)⟩;rw[nL] at this;cases this
   simp only[aaD];exact eI
  |some i=>
   simp only[];have wQ:=(ready_of i).1 (ez hi);obtain⟨lU,BX,qg⟩:=wQ;have NF:(λj=>(iG.setIfInBounds i ai).getD j ay)=dP (λj=>iG.getD j ay) i:=by
    funext j;unfold dP;have dG:i<iG.size:=(by omega);by_cases hq:j=i
    ·subst hq;rw[aD rfl];simp[K8,dG]
    ·rw[aG hq];simp[K8,Ne.symm hq]
   have nK:=ih (t/(Region.ready .any ops iG).length) (iG.setIfInBounds i ai) (by simpa using dV) (by
    refine AS.1 (mD (aen (a:=i) (p:=λj=> !iG.getD j ay) ?_ (fD.2 lU) (by simp only[BX];rfl) ?_) Ns)
    ·intro j _ hj;have this:(iG.setIfInBounds i ai).getD j ay=dP (λj=>iG.getD j ay) i j:=congrFun NF j;rw[this] at hj;unfold dP at hj;split at hj
     ·cases hj
     ·exact hj
    ·have this:(iG.setIfInBounds i ai).getD i ay=dP (λj=>iG.getD j ay) i i:=congrFun NF i;rw[this];simp[dP])
   rw[linearise_go_acc,List.reverse_singleton,List.singleton_append];refine⟨lU,BX,qg,?_⟩;rw[<-NF];exact nK
def ali(n):(λj=>(CE n ay).getD j ay)=λ_=>ay:=by funext j;rw[Array.getD_eq_getD_getElem?,Array.getElem?_replicate];split<;>rfl
def Wr(hB:yO ops)(t:Nat):nV ops (λ_=>ay) (Region.linearise .any ops t):=by unfold Region.linearise;have:=aip hB ops.size t (CE ops.size ay) bG (fc List.countP_le_length bG);rw[ali] at this;exact this
def TN{e:Env}{h:ao}(hf:mj P G R ops e h=ai):yO ops:=λj o ho ed gj hb=>(xX hf).IT j o ho ed gj hb
def aeN(N:da P G R ops (bL ops.size) e h=aa (.normal,e',h'))(hf:mj P G R ops e h=ai)(t:Nat):
 ∃e2,da P G R ops (Region.linearise .any ops t) e h=aa (.normal,e2,h')/\oQ e2 e':=
 OZ N (xX hf) _ _ _ _ (OH N) (Wr (TN hf) t)
end
end Go.AE
end
section
namespace Go.AE
open Go.RowKit (Below)
structure aP.arw(K K':aP):Prop where
 base:K'.base=K.base
 ic:∀g j c,K.ic g j=aa c->K'.ic g j=aa c
 β:∀b g:Nat,K.β[b]?=aa g->K'.β[b]?=aa g
 γ:∀l g:Nat,K.γ[l]?=aa g->K'.γ[l]?=aa g
 tn:K.tn<=K'.tn
 tk:∀t,t<K.tn->K'.tk t=K.tk t
def aP.un(K:aP)(r:Nat):aP:={K with md:=K.md.filter (· !=r)}
def vZ.un{K}{r}{k}{g off sz n aA}(h:vZ K k g off sz n aA):vZ (K.un r) k g off sz n aA:=h
mutual
def aU.un{K:aP}{r:Nat}:∀{x:AV} {c:aL},aU K x c->aU (K.un r) x c
 |_,_,.bad c=>.bad c
 |_,_,.v x hx=>.v x hx
 |_,_,.nil sz=>.nil sz
 |_,_,.iY sz a=>.iY sz a
 |_,_,.list k sz es g off n aA cells hn hr hv hc ht ha=>.list k sz es g off n aA cells hn hr (aM.un hv) hc ht ha
 |_,_,.arr b g off len aA fi hJ hb hl hc ho hr=>.arr b g off len aA fi hJ hb hl hc ho hr
 |_,_,.agg cs vs hv=>.agg cs vs (aM.un hv)
 |_,_,.tuple cs vs hv=>.tuple cs vs (aM.un hv)
 |_,_,.box b g off hb=>.box b g off hb
 |_,_,.eG g off=>.eG g off
 |_,_,.elem sz es i off g o p cells hr hv hc hi hp ha=>.elem sz es i off g o p cells hr (aM.un hv) hc hi hp ha
 |_,_,.func fn first aA fs cs h1 h2=>.func fn first aA fs cs (aM.un h1) (aM.un h2)
 |_,_,.yield l g hl=>.yield l g hl
 |_,_,.iface t x c hx=>.iface t x c (aU.un hx)
def aM.un{K:aP}{r:Nat}:∀{xs:List AV} {cs:List aL},aM K xs cs->aM (K.un r) xs cs
 |_,_,.nil=>.nil
 |_,_,.cons x c xs cs hx hs=>.cons x c xs cs (aU.un hx) (aM.un hs)
end
def qx.un{K}{r}{ds cds ms}(h:qx K ds cds ms)(hr:r∉ms):qx (K.un r) ds cds ms:=by
 induction h with
 |nil=>exact .nil|call g args vs aA ds cds ms hv _ ih=>exact .call g args vs aA ds cds ms (aM.un hv) (ih hr)|mark r' ds cds ms fN hn _ ih=>have bE:r'≠r:=λhq=>hr (hq ▸ ga);exact .mark r' ds cds ms (by unfold aP.un;exact xG.2 ⟨fN,by simpa using bE⟩) hn (ih λhq=>hr (fR _ hq))
def qx.sub{K}{ds cds ms}(h:qx K ds cds ms):∀r∈ms,r∈K.md:=by
 induction h with
 |nil=>intro r hr;cases hr
 |call g args vs aA ds cds ms hv _ ih=>exact ih|mark r' ds cds ms fN hn _ ih=>
  intro r hr;rcases jm.1 hr with rfl|hr
  ·exact fN
  ·exact ih r hr
def CS.un{K}{r}{kind base p cs}(h:CS K kind base p cs):CS (K.un r) kind base p cs:=by
 cases h with|normal h=>exact .normal h|ret c0 rest hk hb hm=>exact .ret c0 rest hk hb hm|cO c0 rest x v r hk hb hx=>exact .cO c0 rest x v r hk hb (aU.un hx)
def aic{K K':aP}{r}(le:K.Le K')(hr:r∉K.md):K.Le (K'.un r):=
 ⟨le.base,le.ic,le.β,le.γ,le.tn,le.tk,λr' fN=>by unfold aP.un;exact xG.2 ⟨le.md r' fN,by have:r'≠r:=λhq=>hr (hq ▸ fN);simpa using this⟩,le.lb,le.new⟩
section
variable {K:aP} {G:Nat->Option (List AV)} {ok:bq->Nat->Code->Bool} {w0 w:bX} {h:ao}
def Xu{g:Nat}{o:Obj}(hg:g<w.heap.size):tR w (w.putObj g o) g o:=
 ⟨rfl,rfl,rfl,World.putObj_size,λ_ hk=>World.putObj_heap_other hk,World.putObj_heap_same hg⟩
def bN.drop(s:bN K G ok w0 h w){r:Nat}(hr:r∈K.md)(o:Obj)(ho:∀cells e f,o≠ .cells cells e f):bN (K.un r) G ok w0 h (w.putObj r o):=by
 obtain⟨hb,hm⟩:=s.md r hr;have az:=oF hm;have c:=Xu (o:=o) az;have nJ:∀{g:Nat} {cells:Array aL} {e:aH} {f:Nat × Nat},w.heap[g]?=aa (.cells cells e f)->g≠r:=by rintro g cells e f hg rfl;rw[hm] at hg;cases hg
 refine⟨s.cZ.trans (c.below hb),by rw[c.size];exact s.size,λg j x hx=>?_,λg cs hg=>?_,s.lj,s.pQ,λb g cs gQ hc=>?_,s.nS,s.qw,λl g rr hl kL=>?_,s.tn,λt ht=>?_,s.pN,λr' fN=>?_,s.all⟩
 ·have p7:=s.ic g j x hx;have bE:g≠r:=by rintro rfl;simp[World.cell?,hm] at p7
  rw[<-p7];exact World.cell?_of_block (w:=w) (c.other g bE)
 ·obtain⟨cells,h1,h2⟩:=s.eG g cs hg;exact⟨cells,aM.un h1,h2⟩
 ·obtain⟨h1,h2,ha,cells,e,h3,h4⟩:=s.box b g cs gQ hc;exact⟨h1,h2,ha,cells,e,(c.other g (nJ h3)).trans h3,aM.un h4.1,h4.2⟩
 ·obtain⟨h1,fn,tmps,d,h2,h3,h4⟩:=s.loop l g rr hl kL;have bE:g≠r:=by rintro rfl;rw[hm] at h2;cases h2
  exact⟨h1,fn,tmps,d,(c.other g bE).trans h2,λt=>aU.un (h3 t),h4⟩
 ·obtain⟨h1,h2,h3,cells,e,fz,h4,h5,h6⟩:=s.tok t ht;refine⟨h1,h2,h3,cells,e,fz,(c.other _ (nJ h4)).trans h4,h5,λj hj hl=>?_⟩;rw[<-h6 j hj hl];exact World.frozen?_of_block (w:=w) (c.other _ (nJ h4))
 ·obtain⟨h1,h2⟩:=xG.1 fN;have bE:r'≠r:=by simpa using h2
  obtain⟨h3,h4⟩:=s.md r' h1;exact⟨h3,(c.other r' bE).trans h4⟩
def aP.mark(K:aP)(r:Nat):aP:={K with md:=r::K.md}
def aP.Wl(K:aP)(r):K.Le (K.mark r):=
 ⟨rfl,λ_ _ _ h=>h,λ_ _ h=>h,λ_ _ h=>h,aJ _,λ_ _=>rfl,λ_ h=>fR _ h,λ_ _=>rfl,λ_ _ _ h=>.inl h⟩
def bN.ai3(s:bN K G ok w0 h w):bN (K.mark w.heap.size) G ok w0 h (w.alloc (.deferred (aa []))):=by
 have le:=K.Wl w.heap.size;have p:=s.push (.deferred (aa []));refine⟨p.cZ,p.size,p.ic,λg cs hg=>?_,p.lj,p.pQ,λb g cs hb hc=>?_,p.nS,p.qw,λl g r hl hr=>?_,p.tn,p.tok,p.pN,λr hr=>?_,s.all⟩
 ·obtain⟨cells,h1,h2⟩:=s.eG g cs hg;exact⟨cells,h1.mono le,h2⟩
 ·obtain⟨h1,h2,ha,cells,e,h3,h4⟩:=p.box b g cs hb hc;exact⟨h1,h2,ha,cells,e,h3,h4.mono le (aQ.1 hb).1⟩
 ·obtain⟨h1,fn,tmps,d,h2,h3,h4⟩:=p.loop l g r hl hr;exact⟨h1,fn,tmps,d,h2,h3.mono le,h4⟩
 ·rcases jm.1 hr with rfl|hr
  ·exact⟨s.size,World.alloc_heap_new w _⟩
  ·exact p.md r hr
def aP.loop(K:aP)(g:Nat):aP:={K with γ:=K.γ++[g]}
def aP.OT(K:aP)(g):K.Le (K.loop g):=
 ⟨rfl,λ_ _ _ h=>h,λ_ _ h=>h,λ_ _ h=>uZ h,aJ _,λ_ _=>rfl,λ_ h=>h,λ_ _=>rfl,λ_ _ _ h=>.inl h⟩
def bN.WJ(s:bN K G ok w0 h w){r:gZ}{fn:bq}{tmps:Array aL}(d:Nat)(hs:mg K r.tmps tmps)(h1:ok fn tmps.size r.assign=ai)(h2:ok fn tmps.size r.body=ai)(h3:∀p∈r.params.toList,p<tmps.size):
 bN (K.loop w.heap.size) G ok w0 {h with loops:=h.loops++[r]} (w.alloc (.loop {state:=r.state,pending:=r.pending,fn,tmps,params:=r.params,assign:=r.assign,body:=r.body,defers:=d}))/\
 (K.loop w.heap.size).γ[h.loops.length]?=aa w.heap.size:=by
 have le:=K.OT w.heap.size;have p:=s.push (.loop {state:=r.state,pending:=r.pending,fn,tmps,params:=r.params,assign:=r.assign,body:=r.body,defers:=d});have lv:(K.loop w.heap.size).γ[h.loops.length]?=aa w.heap.size:=by simp[aP.loop,<-s.nS]
 have az:∀{l g:Nat},K.γ[l]?=aa g->g<w.heap.size:=λ{l g} hl=>by
  have dy:l<h.loops.length:=by rw[<-s.nS];exact(aQ.1 hl).1
  obtain⟨_,_,_,_,h3,_⟩:=s.loop l g _ hl (a9 dy);exact oF h3
 refine⟨⟨p.cZ,p.size,p.ic,λg cs hg=>?_,p.lj,p.pQ,λb g cs hb hc=>?_,by simp[aP.loop,s.nS],λl l' g hl rR=>?_,λl g r' hl hr=>?_,p.tn,p.tok,p.pN,p.md,s.all⟩,lv⟩
 ·obtain⟨cells,h1,h2⟩:=s.eG g cs hg;exact⟨cells,h1.mono le,h2⟩
 ·obtain⟨h1,h2,ha,cells,e,h3,h4⟩:=p.box b g cs hb hc;exact⟨h1,h2,ha,cells,e,h3,h4.mono le (aQ.1 hb).1⟩
 ·rcases rM hl with hb|⟨rfl,rfl⟩<;>rcases rM rR with gQ|⟨rfl,h2⟩
  ·exact s.qw _ _ _ hb gQ
  ·have:=az hb;omega
  ·have:=az gQ;omega
  ·rfl
 ·rcases rM hl with hl|⟨rfl,rfl⟩
  ·rcases rM hr with hr|⟨rfl,rfl⟩
   ·obtain⟨h1,fn',tmps',d',h2,h3,h4⟩:=p.loop l g r' hl hr;exact⟨h1,fn',tmps',d',h2,h3.mono le,h4⟩
   ·have:h.loops.length<K.γ.length:=(aQ.1 hl).1;have:=s.nS;omega
  ·have:r'=r:=(by rw[s.nS] at hr;simp at hr;exact hr.symm);subst this;exact⟨s.size,fn,tmps,d,World.alloc_heap_new w _,hs.mono le,h1,h2,h3⟩
def bN.eH(s:bN K G ok w0 h w){l g:Nat}{r:gZ}(hl:K.γ[l]?=aa g)(hr:h.loops[l]?=aa r)(st:LoopState)(pe:Option Code):
 ∃m:Loop,w.heap[g]?=aa (.loop m)/\m.state=r.state/\m.pending=r.pending/\m.params=r.params/\m.assign=r.assign/\m.body=r.body/\mg K r.tmps m.tmps/\
  ok m.fn m.tmps.size r.assign=ai/\ok m.fn m.tmps.size r.body=ai/\(∀p∈r.params.toList,p<m.tmps.size)/\
  bN K G ok w0 {h with loops:=h.loops.set l {r with state:=st,pending:=pe}} (w.putObj g (.loop {m with state:=st,pending:=pe})):=by
 obtain⟨k1,fn,tmps,d,k2,k3,k4,k5,k6⟩:=s.loop l g r hl hr;have dy:l<h.loops.length:=(aQ.1 hr).1;refine⟨_,k2,rfl,rfl,rfl,rfl,rfl,k3,k4,k5,k6,?_⟩;have c:=Xu (o:=.loop {state:=st,pending:=pe,fn,tmps,params:=r.params,assign:=r.assign,body:=r.body,defers:=d}) (oF k2);have nJ:∀{g':Nat} {cells:Array aL} {e:aH} {f:Nat × Nat},w.heap[g']?=aa (.cells cells e f)->g'≠g:=by rintro g' cells e f hg rfl;rw[k2] at hg;cases hg
 refine⟨s.cZ.trans (c.below k1),by rw[c.size];exact s.size,λg' j x hx=>?_,s.eG,s.lj,s.pQ,λb g' cs gQ hc=>?_,by simp[s.nS],s.qw,λl' g' rr rR kL=>?_,s.tn,λt ht=>?_,s.pN,λr' fN=>?_,s.all⟩
 ·have p7:=s.ic g' j x hx;have bE:g'≠g:=by rintro rfl;simp[World.cell?,k2] at p7
  rw[<-p7];exact World.cell?_of_block (w:=w) (c.other g' bE)
 ·obtain⟨h1,h2,ha,cells,e,h3,h4⟩:=s.box b g' cs gQ hc;exact⟨h1,h2,ha,cells,e,(c.other g' (nJ h3)).trans h3,h4⟩
 ·simp only[mU] at kL;split at kL
  ·rename_i lQ;subst lQ;injection kL with kL;subst kL;rw[hl] at rR;injection rR with rR;subst rR;exact⟨k1,fn,tmps,d,c.this,k3,k4,k5,k6⟩
  ·rename_i bE;have iD:g'≠g:=(by rintro rfl;exact bE (s.qw _ _ _ hl rR));obtain⟨h1,fn',tmps',d',h2,h3,h4⟩:=s.loop l' g' rr rR kL;exact⟨h1,fn',tmps',d',(c.other g' iD).trans h2,h3,h4⟩
 ·obtain⟨h1,h2,h3,cells,e,fz,h4,h5,h6⟩:=s.tok t ht;refine⟨h1,h2,h3,cells,e,fz,(c.other _ (nJ h4)).trans h4,h5,λj hj hl=>?_⟩;rw[<-h6 j hj hl];exact World.frozen?_of_block (w:=w) (c.other _ (nJ h4))
 ·obtain⟨h1,h2⟩:=s.md r' fN;have bE:r'≠g:=by rintro rfl;rw[k2] at h2;cases h2
  exact⟨h1,(c.other r' bE).trans h2⟩
end
end Go.AE
end
