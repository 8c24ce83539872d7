/-
  The engine, part 1: an evaluator of the model's Code over values in which a slice is a list. No claim is made here; part 2 and on show that what it gives the machine does.
-/
import Derived.AtR
import Derived.Recover
import Derived.Below
import Derived.Orders
import Derived.Laws.AppendOwn
import Derived.Laws.Cells
import Derived.Laws.Entries
import Derived.Laws.MakeOwn
import Derived.Laws.Strings
import Derived.Laws.Append
import Derived.Lib.AppendZeros
import Derived.Defers
import Derived.RangeFuncRecord
open True renaming intro->aX
open Bool renaming true->ai,false->az,false_eq_true->jW,and_eq_true->bL,not_eq_true'->zj,not_false->zk,or_eq_true->uH
open Go renaming Value->aR,TypeId->aK,Program->bK,FuncId->bm,Operand->bT,World->cB,Frame->fh
open Option renaming some->aa,none->ar,map_eq_some_iff->dy,bind_eq_some_iff->zD,isSome_iff_exists->acI,getD_some->I6,map->Dg,isNone_some->I7,map_some->eW,some.injEq->dM,bind_some->pq
open Nat renaming beq->jG,min->oP,le_refl->aM,le_trans->fJ,lt_of_lt_of_le->mU,lt_or_ge->dV,add_mul->gI,add_zero->A4,mul_le_mul_right->om,zero_add->po,mul_eq_zero->acx,zero_mul->FZ,not_lt_zero->qO,reducePow->acH,zero_le->cG,sub_mul->MM,mul_pos->MI,pos_of_ne_zero->acD,one_ne_zero->MJ,mul_one->oo,eq_of_beq_eq_true->jP,le_zero->ME,lt_succ_iff->A6,le_antisymm->A5,lt_trans->pk,le_of_lt->nk,lt_succ_self->MF,lt_succ_of_lt->vZ,not_succ_le_self->acB,lt_of_le_of_ne->acv
open List renaming replicate->bg,range->bR,getElem?_eq_some_iff->aV,getElem?_eq_getElem->aT,getElem?_take->oh,getElem?_drop->oN,getElem?_set->mA,length_take->fj,getElem?_append_left->rK,take_of_length_le->gO,flatten_cons->oL,drop_append->Da,drop_of_length_le->pZ,take_append->IZ,length_append->dE,length_cons->jn,set_eq_take_append_cons_drop->A2,all_eq_true->ej,mem_append->vX,mem_of_mem_take->oO,mem_of_mem_drop->Mv,length_drop->hD,ext_getElem?->qL,mem_of_getElem?->dn,foldl_cons->uJ,map_cons->eK,map_map->AZ,getElem?_toArray->jt,flatten_append->qM,map_append->mT,flatten_nil->Su,append_nil->jX,mem_replicate->Sx,take_nil->acn,drop_nil->abW,extract_eq_take_drop->abX,mem_map->ju,length_map->bE,take_append_of_le_length->I0,cons_append->lN,nil_append->mC,range_succ->nH,mem_range->gB,getElem?_cons_zero->jO,getElem?_cons_succ->pj,size_toArray->acm,all_append->AW,eq_of_mem_replicate->IU,length_replicate->mB,mem_cons_of_mem->fN,append_assoc->sR,getElem?_append_right->zC,mem_cons_self->gj,toArray_inj->MA,map_congr_left->IY,range_zero->acg,mem_cons->iq,countP_cons_of_neg->abT,countP_cons_of_pos->Sq,reverse_nil->aci,mem_filter->uL
open Array renaming length_toList->xF,getElem?_eq_none->xE,getElem?_eq_getElem->mz,getElem?_modify->CJ,toList_setIfInBounds->abp,toList_map->CN,getElem?_toList->CK,range->zh,toList_extract->abo,getElem?_eq_some_iff->CI,replicate->CL,toList_append->CM,ext'->L0,size_append->R1,getElem?_setIfInBounds->Ma,all_eq_true->Fj,map->Mb,mem_toList_iff->abm,getElem_of_mem->abi,getElem_mem->abh
open Prod renaming mk.inj->iO,mk.injEq->dj
set_option linter.unusedSimpArgs false
set_option linter.unusedVariables false
set_option linter.constructorNameAsVariable false
set_option linter.defProp false
namespace Go
def ah{p:Prop}(h:p:=by omega):p:=h
def bH{p:Prop}(h:p:=by simp):p:=h
def aO{p:Prop}(h:p:=by decide):p:=h
def avx{p:Prop}(h:p:=by simp;omega):p:=h
def avy{p:Prop}(h:p:=by first|exact trivial|exact rfl):p:=h
def fg{p:Prop}(h:p:=by kernel_rfl):p:=h
def aH.{u}{c:Prop}{h:Decidable c}(q:¬c){α:Sort u}{t e:α}:ite c t e=e:=if_neg q
def aG.{u}{c:Prop}{h:Decidable c}(q:c){α:Sort u}{t e:α}:ite c t e=t:=if_pos q
def cz{p:Prop}[Decidable p](q:p):decide p=ai:=decide_eq_true q
def cT{p:Prop}[Decidable p](q:¬p):decide p=az:=decide_eq_false q
end Go
section
namespace Go.AE
inductive Tok where
 |nil|tight|free (n:Nat)|held
 deriving DecidableEq,Inhabited
inductive Ref where
 |box (b:Nat)|eR (g:Nat)
 deriving DecidableEq,Inhabited
inductive AV where
 |bad
 |v (x:aR)
 |list (k:Tok) (sz:Nat) (es:List (List AV))
 |arr (b off len aC:Nat)
 |agg (cs:List AV)
 |tuple (vs:List AV)
 |ptr (r:Ref) (off:Nat)
 |elem (sz:Nat) (es:List (List AV)) (i off:Nat)
 |func (fn:Fn) (first aC:List AV)
 |yield (l:Nat)
 |iface (t:aK) (x:AV)
 deriving Inhabited
def fZ{α:Type}(P:bK):Sem α->Option α
 | .pure a=>aa a
 | .program k=>fZ P (k P)
 | .mark _ k=>fZ P k
 |_=>ar
def scalar:aR->Bool
 | .bool _| .int .. | .float .. | .complex .. | .string _| .nilFunc| .nilIface| .pointer ar| .map ar| .chan ar=>ai
 |_=>az
def oG(z:aR):Option AV:=if scalar z then aa (.v z) else ar
def AV.ek:AV->Bool
 | .agg _| .tuple _| .bad=>az
 |_=>ai
def AV.cD:AV->Option (List AV)
 | .agg cs=>if cs.all AV.ek then aa cs else ar
 | .tuple _| .bad=>ar
 |x=>aa [x]
def vA(x:aR):AV:=
 match x with
 | .slice ar 0 0=>.list .nil 0 []
 |x=>if scalar x then .v x else .bad
def sH:aR->AV
 | .agg cs=>.agg (cs.toList.map vA)
 | .tuple vs=>if vs.size=0 then .tuple [] else .bad
 | .iface t x=>.iface t (vA x)
 |x=>vA x
def Bv:List AV->Option (List aR)
 | []=>aa []
 | .v x::r=>(Bv r).map (x::·)
 |_=>ar
def AV.flat:AV->Option aR
 | .v x=>aa x
 | .agg cs=>(Bv cs).map λl=>.agg l.toArray
 | .iface t (.v x)=>aa (.iface t x)
 | .iface t (.agg cs)=>(Bv cs).map λl=>.iface t (.agg l.toArray)
 | .list .nil _ []=>aa (.slice ar 0 0)
 |_=>ar
def flatAll:List AV->Option (List aR)
 | []=>aa []
 |x::r=>match x.flat,flatAll r with|some v,aa l=>aa (v::l)|_,_=>ar
def lY:aR->aR->Bool
 | .int k n,.int k' n'=>decide (k=k')&&decide (n=n')
 | .bool a,.bool b=>a==b
 | .string p,.string q=>p.data.toList==q.data.toList
 | .nilFunc,.nilFunc| .nilIface,.nilIface| .pointer ar,.pointer ar=>ai
 |_,_=>az
def Lu:Ref->Ref->Bool
 | .box a,.box b| .eR a,.eR b=>jG a b
 |_,_=>az
def xv:Tok->Tok->Bool
 | .nil,.nil| .tight,.tight| .held,.held=>ai
 | .free a,.free b=>jG a b
 |_,_=>az
mutual
def fe:AV->AV->Bool
 | .v x,.v y=>lY x y
 | .list k sz es,.list k' sz' es'=>xv k k'&&jG sz sz'&&qF es es'
 | .arr b o l c,.arr b' o' l' c'=>jG b b'&&jG o o'&&jG l l'&&jG c c'
 | .agg cs,.agg ds=>oF cs ds
 | .tuple cs,.tuple ds=>oF cs ds
 | .ptr r o,.ptr r' o'=>Lu r r'&&jG o o'
 | .elem sz es i o,.elem sz' es' i' o'=>jG sz sz'&&jG i i'&&jG o o'&&qF es es'
 | .yield l,.yield l'=>jG l l'
 | .iface t x,.iface t' y=>jG t t'&&fe x y
 | .func (.func f) a b,.func (.func g) a' b'=>jG f g&&oF a a'&&oF b b'
 |_,_=>az
def oF:List AV->List AV->Bool
 | [],[]=>ai
 |x::xs,y::ys=>fe x y&&oF xs ys
 |_,_=>az
def qF:List (List AV)->List (List AV)->Bool
 | [],[]=>ai
 |x::xs,y::ys=>oF x y&&qF xs ys
 |_,_=>az
end
structure px where
 ch:List (Nat × AV)
 base:List AV
 deriving Inhabited
def look(base:List AV):List (Nat × AV)->Nat->AV
 | [],t=>base.getD t (.tuple [])
 |p::r,t=>bif jG p.1 t then p.2 else look base r t
def px.get(s:px)(t:Nat):AV:=look s.base s.ch t
def px.set(s:px)(t:Nat)(x:AV):px:={s with ch:=(t,x)::s.ch}
structure iN where
 tmps:px
 params:Array Tmp
 assign:Code
 body:Code
 state:LoopState
 pending:Option Code
 deriving Inhabited
structure ao where
 boxes:List (List AV)
 loops:List iN
 tn:Nat
 dead:List Nat
 deriving Inhabited
structure Env where
 tmps:px
 defers:List (bm × List AV)
 cV:Option (AV × Bool)
 round:Option Nat
 deriving Inhabited
inductive Xt where
 |normal
 |exit (id:Nat)
 |ret
 |panic (x:AV)
 deriving Inhabited
inductive eX where
 |ret (x:AV)
 |panic (x:AV)
 deriving Inhabited
def Env.get(e:Env)(t:Nat):AV:=e.tmps.get t
def Env.put(e:Env)(dst:Option Tmp)(x:AV):Env:=
 match dst with
 |some d=>{e with tmps:=e.tmps.set d x}
 |none=>e
def ahq(tmps:px):bT->AV
 | .tmp t=>tmps.get t
 | .const v=>sH v
 | .global g=>.ptr (.eR g) 0
 | .func f=>.func (.func f) [] []
def Env.eval(e:Env)(x:bT):AV:=ahq e.tmps x
section
variable (P:bK)
def dC(t:aK):Option Nat:=(P.info? t).map (·.size)
def gU(t:aK):Option Bool:=
 match P.underlying t with
 |some (.struct _)|some (.array _ _)=>aa ai
 |some _=>aa az
 |none=>ar
def jf(t:aK):Option AV:=
 match P.info? t with
 |some i=>i.zero.map sH
 |none=>ar
def HH(t:aK)(cs:List AV)(off:Nat):Option AV:=
 match gU P t with
 |some ai=>(dC P t).map λn=>.agg ((cs.drop off).take n)
 |some az=>cs[off]?
 |none=>ar
end
def ao.box(h:ao)(cs:List AV):AV × ao:=(.ptr (.box h.boxes.length) 0,{h with boxes:=h.boxes++[cs]})
def ao.fresh(h:ao)(sz:Nat)(es:List (List AV)):AV × ao:=(.list (.free h.tn) sz es,{h with tn:=h.tn+1})
def QL(G:Nat->Option (List AV))(h:ao):Ref->Option (List AV)
 | .box b=>h.boxes[b]?
 | .eR g=>G g
def Bl(G:Nat->Option (List AV))(h:ao):AV->Option (List AV)
 | .ptr r off=>(QL G h r).map (·.drop off)
 | .elem _ es i off=>(es[i]?).map (·.drop off)
 |_=>ar
def aI(P:bK)(G:Nat->Option (List AV))(h:ao)(t:aK)(a:AV):Option AV:=
 match gU P t,Bl G h a with
 |some ai,aa cs=>
  match dC P t with
  |some n=>if n<=cs.length then aa (.agg (cs.take n)) else ar
  |none=>ar
 |some az,aa cs=>cs.head?
 |_,_=>ar
def eT(dh:List AV)(off:Nat)(cs:List AV):List AV:=dh.take off++cs++dh.drop (off+cs.length)
def cI(P:bK)(h:ao)(t:aK)(a x:AV):Option ao:=
 match a,x.cD,dC P t with
 | .ptr (.box b) off,aa cs,aa n=>
  match h.boxes[b]? with
  |some dh=>if cs.length=n/\off+n<=dh.length then aa {h with boxes:=h.boxes.set b (eT dh off cs)} else ar
  |none=>ar
 |_,_,_=>ar
def uZ(place:Nat->Option (Nat × Nat))(cells:List AV):List (Nat × AV)->Option (List AV)
 | []=>aa cells
 |(i,x)::rest=>
  match place i,x.cD with
  |some (off,size),aa cs=>if cs.length=size/\off+size<=cells.length then uZ place (eT cells off cs) rest else ar
  |_,_=>ar
def DM(sz:Nat)(ae:List (List AV)):List (Nat × AV)->Option (List (List AV))
 | []=>aa ae
 |(i,x)::rest=>
  match x.cD with
  |some cs=>if cs.length=sz/\i<ae.length then DM sz (ae.set i cs) rest else ar
  |none=>ar
def placesOf(P:bK)(fields:Array Field)(i:Nat):Option (Nat × Nat):=
 match fields[i]? with
 |some f=>(dC P f.type).map λn=>(f.offset,n)
 |none=>ar
def mW(P:bK)(t:aK)(parts:List (Nat × AV)):Option AV:=
 match P.underlying t,(jf P t).bind AV.cD with
 |some (.struct fields),aa zero=>
  if fields.all λf=>(P.info? f.type).isSome then (uZ (placesOf P fields) zero parts).map .agg else ar
 |some (.array _ elem),aa zero=>
  match dC P elem with
  |some size=>(uZ (λi=>aa (i * size,size)) zero parts).map .agg
  |none=>ar
 |_,_=>ar
def fX(P:bK)(t:aK)(len:Nat)(parts:List (Nat × AV)):Option AV:=
 match P.underlying t with
 |some (.slice elem)=>
  match dC P elem,(jf P elem).bind AV.cD with
  |some size,aa zero=>
   if 0<size/\zero.length=size/\len * size<=16777216 then (DM size (bg len zero) parts).map (.list .tight size) else ar
  |_,_=>ar
 |_=>ar
def yS(P:bK)(h:ao)(t:aK)(l c:AV):Option (AV × ao):=
 match P.underlying t,l,c with
 |some (.slice elem),.v (.int _ l),.v (.int _ c)=>
  match P.info? elem,(jf P elem).bind AV.cD with
  |some i,aa zero=>
   if 0<=l/\l<=c/\c<9223372036854775808/\i.bytes * c<=281474976710656/\0<i.size/\zero.length=i.size then
    aa (.arr h.boxes.length 0 l.toNat c.toNat,{h with boxes:=h.boxes++[(bg c.toNat zero).flatten]})
   else ar
  |_,_=>ar
 |_,_,_=>ar
def rowsOf(h:ao)(size:Nat):AV->Option (List (List AV))
 | .list _ sz es=>if sz=size∨es=[] then aa es else ar
 | .arr b off len _=>
  match h.boxes[b]? with
  |some cs=>if off+len * size<=cs.length then aa ((bR len).map λi=>(cs.drop (off+i * size)).take size) else ar
  |none=>ar
 |_=>ar
def j8(b:UInt8):List AV:=[.v (.int .u8 b.toNat)]
def byteOf:List AV->Option UInt8
 | [.v (.int .u8 n)]=>aa (UInt8.ofNat n.toNat)
 |_=>ar
def bytesOf:List (List AV)->Option (List UInt8)
 | []=>aa []
 |r::rest=>match byteOf r,bytesOf rest with|some b,aa l=>aa (b::l)|_,_=>ar
def mM(h:ao)(size:Nat):AV->Option (List (List AV))
 | .v (.string s)=>if size=1 then aa (s.data.toList.map j8) else ar
 |x=>rowsOf h size x
def alive(h:ao)(n:Nat):Bool:=decide (n<h.tn)&& !h.dead.contains n
def LX(P:bK)(h:ao)(ts:Array aK)(elem:aK)(s x:AV):Option (AV × ao):=
 match s,x with
 | .list .nil _ [],.v (.int _ n)=>
  match P.info? elem,(jf P elem).bind AV.cD with
  |some i,aa zero=>
   if ts.size=2/\0<n/\n * i.bytes<=140737488355328/\n<=9223372036854775807/\0<i.size/\zero.length=i.size then
    aa (.arr h.boxes.length 0 n.toNat n.toNat,{h with boxes:=h.boxes++[(bg n.toNat zero).flatten]})
   else ar
  |_,_=>ar
 |_,_=>ar
def gP(P:bK)(h:ao)(ts:Array aK)(s x:AV):Option (AV × ao):=
 match (ts[0]?).bind P.underlying,(ts[1]?).bind P.underlying with
 |some (.slice elem),aa (.int _)=>LX P h ts elem s x
 |some (.slice elem),aa _=>
  match P.info? elem with
  |none=>ar
  |some i=>
   match mM h i.size x with
   |none=>ar
   |some new=>
    if 0<i.size/\(i.zero.map λz=>z.cells.size)=aa i.size then
     match s with
     | .list k sz es=>
      if sz=i.size∨es=[] then
       if new=[] then aa (s,h)
       else if (es.length+new.length) * i.bytes<=140737488355328/\es.length+new.length<=9223372036854775807 then
        match k with
        | .nil| .tight=>aa (h.fresh i.size (es++new))
        | .free n=>if alive h n&&decide (sz=i.size) then aa ({h with dead:=n::h.dead}.fresh i.size (es++new)) else ar
        | .held=>ar
       else ar
      else ar
     | .arr b off len aC=>
      match h.boxes[b]? with
      |some cs=>
       if len+new.length<=aC/\off+aC * i.size<=cs.length then
        aa (.arr b off (len+new.length) aC,{h with boxes:=h.boxes.set b (eT cs (off+len * i.size) new.flatten)})
       else ar
      |none=>ar
     |_=>ar
    else ar
 |_,_=>ar
def Iz(G:Nat->Option (List AV))(d:Option Tmp)(t:aK):Bool:=(G (1000000+1000 * t+d.getD 0)).isSome
def rF(P:bK)(h:ao)(ts:Array aK)(s x:AV):Option (AV × ao):=
 match (ts[0]?).bind P.underlying,(ts[1]?).bind P.underlying with
 |some (.slice _),aa (.int _)=>ar
 |some (.slice elem),aa _=>
  match P.info? elem with
  |none=>ar
  |some i=>
   match mM h i.size x with
   |none=>ar
   |some new=>
    if 0<i.size/\(i.zero.map λz=>z.cells.size)=aa i.size then
     match s with
     | .list k sz es=>
      if sz=i.size∨es=[] then
       if new=[] then aa (s,h)
       else if (es.length+new.length) * i.bytes<=140737488355328/\es.length+new.length<=9223372036854775807 then
        match k with
        | .nil| .tight=>aa (.arr h.boxes.length 0 (es.length+new.length) (es.length+new.length),{h with boxes:=h.boxes++[(es++new).flatten]})
        |_=>ar
       else ar
      else ar
     | .arr b off len aC=>
      match h.boxes[b]? with
      |some cs=>
       if len+new.length<=aC then gP P h ts s x
       else if off=0/\0<len/\len=aC/\len * i.size=cs.length/\(len+new.length) * i.bytes<=140737488355328/\len+new.length<=9223372036854775807 then
        aa (.arr h.boxes.length 0 (len+new.length) (len+new.length),{h with boxes:=h.boxes.set b []++[cs++new.flatten]})
       else ar
      |none=>ar
     |_=>ar
    else ar
 |_,_=>ar
def zQ(P:bK)(h:ao)(ts:Array aK)(d s:AV):Option (AV × ao):=
 match (ts[0]?).bind P.underlying with
 |some (.slice elem)=>
  match P.info? elem,d with
  |some i,.arr b off len aC=>
   match mM h i.size s,h.boxes[b]? with
   |some ae,aa cs=>
    if off+len * i.size<=cs.length/\len<=aC then
     aa (.v (.int .i64 (oP ae.length len:Nat)),{h with boxes:=h.boxes.set b (eT cs off (ae.take (oP ae.length len)).flatten)})
    else ar
   |_,_=>ar
  |_,_=>ar
 |_=>ar
def dW(P:bK)(t:aK)(x:AV):Option AV:=
 match P.underlying t,x with
 |some .string,.v (.string s)=>aa (.v (.int .i64 s.size))
 |some (.array n _),_=>aa (.v (.int .i64 n))
 |some (.pointer a),_=>match P.underlying a with|some (.array n _)=>aa (.v (.int .i64 n))|_=>ar
 |some (.slice _),.list _ _ es=>aa (.v (.int .i64 es.length))
 |some (.slice _),.arr _ _ len _=>aa (.v (.int .i64 len))
 |_,_=>ar
def DA(P:bK)(t:aK)(x:AV):Option AV:=
 match P.underlying t,x with
 |some (.slice _),.list .tight _ es=>aa (.v (.int .i64 es.length))
 |some (.slice _),.list .nil _ es=>aa (.v (.int .i64 es.length))
 |some (.array n _),_=>aa (.v (.int .i64 n))
 |_,_=>ar
def gE(hi:Nat):Option AV->Nat->Option Nat
 |none,d=>aa d
 |some (.v (.int _ n)),_=>if 0<=n/\n<=hi then aa n.toNat else ar
 |_,_=>ar
def qg(k:Tok)(toEnd w9:Bool)(n:Nat):Tok:=
 match k with
 | .nil=>.nil
 | .tight=>if toEnd||w9 then .tight else .held
 | .free t=>if w9 then .tight else if toEnd&&n !=0 then .free t else .held
 | .held=>if w9 then .tight else .held
def gY(P:bK)(t:aK)(x:AV)(lo hi mx:Option AV):Option AV:=
 if mx.isSome&&hi.isNone then ar else
 match P.underlying t,x with
 |some .string,.v (.string s)=>
  if mx.isSome then ar else
  match gE s.size hi s.size with
  |some h=>match gE h lo 0 with
   |some l=>aa (.v (.string (s.extract l h)))
   |none=>ar
  |none=>ar
 |some (.slice elem),.list k sz es=>
  match dC P elem,gE es.length mx es.length with
  |some size,aa m=>match gE m hi es.length with
   |some h=>match gE h lo 0 with
    |some l=>
     if size=sz∨es=[] then aa (.list (qg k (decide (h=es.length)&&mx.isNone) (mx.isSome&&decide (h=m)) (h - l)) sz ((es.take h).drop l)) else ar
    |none=>ar
   |none=>ar
  |_,_=>ar
 |some (.slice elem),.arr b off len aC=>
  match dC P elem,gE aC mx aC with
  |some size,aa m=>match gE m hi len with
   |some h=>match gE h lo 0 with
    |some l=>if size=0 then ar else if mx.isSome/\m=l then aa (.list .tight size []) else aa (.arr b (if m=l then off else off+l * size) (h - l) (m - l))
    |none=>ar
   |none=>ar
  |_,_=>ar
 |some (.array n elem),.ptr (.box b) off=>
  match dC P elem,gE n mx n with
  |some size,aa m=>match gE m hi n with
   |some h=>match gE h lo 0 with
    |some l=>aa (.arr b (if m=l then off else off+l * size) (h - l) (m - l))
    |none=>ar
   |none=>ar
  |_,_=>ar
 |_,_=>ar
def iy(P:bK)(s:aK)(x:AV)(f:Nat):Option AV:=
 match P.underlying s with
 |some (.struct fields)=>
  match fields[f]? with
  |some fd=>
   match dC P fd.type with
   |some 0=>ar
   |some _=>match x with
    | .ptr r off=>aa (.ptr r (off+fd.offset))
    | .elem sz es i off=>aa (.elem sz es i (off+fd.offset))
    |_=>ar
   |none=>ar
  |none=>ar
 |_=>ar
def dG(P:bK)(t:aK)(x ix:AV):Option AV:=
 match P.underlying t,x,ix with
 |some (.slice elem),.list _ sz es,.v (.int _ i)=>if 0<=i/\i<es.length/\dC P elem=aa sz then aa (.elem sz es i.toNat 0) else ar
 |some (.slice elem),.arr b off len _,.v (.int _ i)=>
  match dC P elem with
  |some size=>if 0<=i/\i<len then aa (.ptr (.box b) (off+i.toNat * size)) else ar
  |none=>ar
 |some (.array len elem),.ptr r off,.v (.int _ i)=>
  match dC P elem with
  |some size=>if 0<=i/\i<len then aa (.ptr r (off+i.toNat * size)) else ar
  |none=>ar
 |some (.array len elem),.elem sz es k off,.v (.int _ i)=>
  match dC P elem with
  |some size=>if 0<=i/\i<len then aa (.elem sz es k (off+i.toNat * size)) else ar
  |none=>ar
 |_,_,_=>ar
def Ck(P:bK)(t:aK)(x ix:AV):Option AV:=
 match P.underlying t,x,ix with
 |some .string,.v (.string s),.v (.int _ i)=>
  match (if 0<=i then s.data[i.toNat]? else ar) with
  |some b=>aa (.v (.int .u8 b.toNat))
  |none=>ar
 |some (.array len elem),.agg cs,.v (.int _ i)=>
  match dC P elem with
  |some size=>if 0<=i/\i<len then HH P elem cs (i.toNat * size) else ar
  |none=>ar
 |_,_,_=>ar
def isIface(P:bK)(t:aK):Option Bool:=
 match P.underlying t with
 |some (.interface _)=>aa ai
 |some _=>aa az
 |none=>ar
def xU(P:bK)(x:AV)(asserted:aK)(commaOk:Bool):Option AV:=
 match isIface P asserted,x with
 |some az,.iface t y=>if t=asserted then aa (if commaOk then .tuple [y,.v (.bool ai)] else y)
  else if commaOk then (jf P asserted).map λz=>.tuple [z,.v (.bool az)] else ar
 |some az,.v .nilIface=>if commaOk then (jf P asserted).map λz=>.tuple [z,.v (.bool az)] else ar
 |_,_=>ar
def wq(op:BinOp)(b:Bool):Option AV:=
 match op with
 | .eql=>aa (.v (.bool b))
 | .neq=>aa (.v (.bool !b))
 |_=>ar
def Jh(P:bK)(op:BinOp)(t:aK)(x y:bT)(a b:AV):Option AV:=
 match a.flat,b.flat with
 |some p,aa q=>(fZ P (do eqGuard op t x y p q;binOp op t p q)).bind oG
 |_,_=>ar
def cZ(P:bK)(op:BinOp)(t:aK)(x y:bT)(a b:AV):Option AV:=
 match a,b with
 | .v (.string p),.v (.string q)=>
  match op with
  | .eql=>aa (.v (.bool (p.data.toList==q.data.toList)))
  | .neq=>aa (.v (.bool !(p.data.toList==q.data.toList)))
  | .add=>if p.size+q.size<=9223372036854775807 then aa (.v (.string (p++q))) else ar
  |_=>Jh P op t x y a b
 | .iface _ _,.v .nilIface=>if isIface P t=aa ai then wq op az else ar
 | .v .nilIface,.iface _ _=>if isIface P t=aa ai then wq op az else ar
 | .ptr _ _,.v (.pointer ar)=>(match P.underlying t with|some (.pointer _)=>wq op az|_=>ar)
 | .v (.pointer ar),.ptr _ _=>(match P.underlying t with|some (.pointer _)=>wq op az|_=>ar)
 | .func _ _ _,.v .nilFunc=>(match P.underlying t with|some (.func ..)=>wq op az|_=>ar)
 | .v .nilFunc,.func _ _ _=>(match P.underlying t with|some (.func ..)=>wq op az|_=>ar)
 | .list k _ _,.list .nil _ []=>(match P.underlying t with|some (.slice _)=>wq op (decide (k=.nil))|_=>ar)
 |a,b=>Jh P op t x y a b
def CF(P:bK)(op:UnOp)(x:AV):Option AV:=
 match x.flat with
 |some p=>(fZ P (Op.unary op p)).bind oG
 |none=>ar
def nm(P:bK)(h:ao)(src dst:aK)(x:AV):Option (AV × ao):=
 match P.underlying src,P.underlying dst,x with
 |some .string,aa (.slice e),.v (.string s)=>
  match P.underlying e,P.info? e with
  |some (.int .u8),aa i=>if i.size=1 then aa (h.fresh 1 (s.data.toList.map j8)) else ar
  |_,_=>ar
 |some (.slice e),aa .string,x=>
  match P.underlying e,rowsOf h 1 x with
  |some (.int .u8),aa ae=>(bytesOf ae).map λl=>(.v (.string ⟨l.toArray⟩),h)
  |_,_=>ar
 |some (.slice e),aa (.slice _),.list (.free t) sz es=>
  match P.underlying e with
  |some (.int .u8)=>if src=dst/\alive h t=ai then aa (.list .held sz es,{h with dead:=t::h.dead}) else ar
  |_=>ar
 |some (.slice _),aa (.slice _),_=>ar
 |some _,aa _,.v x=>((fZ P (convert src dst x)).bind oG).map λz=>(z,h)
 |_,_,_=>ar
def KO(c a b:AV):Option AV:=
 match c with
 | .v (.bool t)=>aa (if t then a else b)
 |_=>ar
def Qd(x:AV):Option AV:=
 match x with
 | .ptr .. | .elem .. | .func (.func _) _ _| .yield _| .iface .. =>aa x
 |_=>ar
def wB(parts:Array (Nat × bT)):Bool:=
 match parts.toList with
 |(_,.const (.int .u8 _))::_::_=>ai
 |_=>az
def dP(P:bK)(G:Nat->Option (List AV))(ρ:bT->AV)(h:ao)(o:Op):Option (AV × ao):=
 match o with
 | .move x| .assign x=>aa (ρ x,h)
 | .pick c a b=>(KO (ρ c) (ρ a) (ρ b)).map (·,h)
 | .alloc t=>((jf P t).bind AV.cD).map h.box
 | .box _ x=>((ρ x).cD).map h.box
 | .build t parts=>(mW P t (parts.toList.map λp=>(p.1,ρ p.2))).map (·,h)
 | .buildSlice t len parts=>
  match wB parts with
  |false=>(fX P t len (parts.toList.map λp=>(p.1,ρ p.2))).map (·,h)
  |true=>(match fX P t len (parts.toList.map λp=>(p.1,ρ p.2)) with|some (.list _ sz es)=>aa (h.fresh sz es)|_=>ar)
 | .load t a=>(aI P G h t (ρ a)).map (·,h)
 | .store t a x=>(cI P h t (ρ a) (ρ x)).map (.tuple [],·)
 | .nilCheck x=>(Qd (ρ x)).map (·,h)
 | .binOp op t x y _=>(cZ P op t x y (ρ x) (ρ y)).map (·,h)
 | .unOp op _ x=>(CF P op (ρ x)).map (·,h)
 | .convert s d x=>nm P h s d (ρ x)
 | .makeInterface t x=>if isIface P t=aa az then aa (.iface t (ρ x),h) else ar
 | .makeFunc fn first aC=>aa (.func fn (first.toList.map ρ) (aC.toList.map ρ),h)
 | .makeSlice t l c=>yS P h t (ρ l) (ρ c)
 | .slice t x lo hi mx=>(gY P t (ρ x) (lo.map ρ) (hi.map ρ) (mx.map ρ)).map (·,h)
 | .fieldAddr s x f=>(iy P s (ρ x) f).map (·,h)
 | .field t x f=>
  match P.underlying t,ρ x with
  |some (.struct fields),.agg cs=>(match fields[f]? with|some fd=>(HH P fd.type cs fd.offset).map (·,h)|none=>ar)
  |_,_=>ar
 | .indexAddr t x i=>(dG P t (ρ x) (ρ i)).map (·,h)
 | .index t x i=>(Ck P t (ρ x) (ρ i)).map (·,h)
 | .typeAssert x _ asserted ok=>(xU P (ρ x) asserted ok).map (·,h)
 | .extract x i=>(match ρ x with| .tuple vs=>(vs[i]?).map (·,h)|_=>ar)
 |_=>ar
def jC(P:bK)(h:ao)(b:Builtin)(ts:Array aK)(ty:aK)(args:List AV):Option (AV × ao):=
 match b,args with
 | .len,[x]=>(match ts[0]? with|some t=>(dW P t x).map (·,h)|none=>ar)
 | .cap,[x]=>(match ts[0]? with|some t=>(DA P t x).map (·,h)|none=>ar)
 | .append,[s,x]=>gP P h ts s x
 | .copy,[d,s]=>zQ P h ts d s
 | .min,xs=>(match flatAll xs with|some l=>((fZ P (Builtin.min_ ts ty l.toArray)).bind oG).map (·,h)|none=>ar)
 | .max,xs=>(match flatAll xs with|some l=>((fZ P (Builtin.max_ ts ty l.toArray)).bind oG).map (·,h)|none=>ar)
 |_,_=>ar
def rV(P:bK)(G:Nat->Option (List AV))(d:Option Tmp)(h:ao)(b:Builtin)(ts:Array aK)(ty:aK)(args:List AV):Option (AV × ao):=
 match b,args with
 | .append,[s,x]=>if Iz G d ty then rF P h ts s x else gP P h ts s x
 |b,args=>jC P h b ts ty args
structure Rec where
 code:Code->Env->ao->Option (Xt × Env × ao)
 call:bm->List AV->ao->Option (eX × ao)
 jR:bm->List AV->Option (AV × Bool)->ao->Option (eX × Option (AV × Bool) × ao)
 round:Nat->List AV->ao->Option (eX × ao)
def P4(P:bK)(t:aK)(name:String):Option bm:=
 match P.info? t with
 |some i=>
  match i.methods.find? (·.name==name) with
  |some m=>
   match m.path.toList,m.func,P.underlying t with
   | [],aa (f,ai),aa (.pointer _)=>aa f
   | [],aa (_,_),aa (.pointer _)=>ar
   | [],aa (f,az),aa _=>aa f
   |_,_,_=>ar
  |none=>ar
 |none=>ar
def mb(P:bK)(R:Rec)(e:Env)(h:ao)(c:Call):Option (eX × ao):=
 let args:=c.args.toList.map e.eval
 match c.callee with
 | .builtin _=>ar
 | .value f=>
  match e.eval f with
  | .func (.func g) first aC=>R.call g (first++args++aC) h
  | .yield l=>R.round l args h
  |_=>ar
 | .invoke r name=>
  match e.eval r with
  | .iface t x=>(match P4 P t name with|some f=>R.call f (x::args) h|none=>ar)
  |_=>ar
def eo(P:bK)(G:Nat->Option (List AV))(R:Rec)(e:Env)(h:ao)(o:Oper):Option (eX × Env × ao):=
 match o.op with
 | .call {callee:=.builtin .recover,.. }=>
  if e.round.isSome then ar else
  match e.cV with
  |some (x,az)=>aa (.ret x,{e with cV:=aa (x,ai)},h)
  |_=>aa (.ret (.v .nilIface),e,h)
 | .call {callee:=.builtin .panic,args,.. }=>
  match args.toList.map e.eval with
  | [.iface t x]=>aa (.panic (.iface t x),e,h)
  |_=>ar
 | .call {callee:=.builtin b,args,argTypes}=>(rV P G o.dst h b argTypes o.type (args.toList.map e.eval)).map λ(x,h)=>(.ret x,e,h)
 | .call c=>(mb P R e h c).map λ(r,h)=>(r,e,h)
 | .defer {callee:=.value f,args,.. }=>
  if e.round.isSome then ar else
  match e.eval f with
  | .func (.func g) first aC=>aa (.ret (.tuple []),{e with defers:=(g,first++args.toList.map e.eval++aC)::e.defers},h)
  |_=>ar
 | .panic x=>
  match e.eval x with
  | .iface t x=>aa (.panic (.iface t x),e,h)
  |_=>ar
 |op=>(dP P G e.eval h op).map λ(x,h)=>(.ret x,e,h)
def ff(ops:Array Oper)(e:Env)(o:Oper):Option Bool:=
 match o.guard with
 |none=>aa ai
 |some (j,want)=>
  match (ops[j]?).bind (·.dst) with
  |none=>aa az
  |some d=>
   match e.get d with
   | .v (.bool b)=>aa (b==want)
   | .tuple []=>aa az
   |_=>ar
def di(P:bK)(G:Nat->Option (List AV))(R:Rec)(ops:Array Oper):List Nat->Env->ao->Option (Xt × Env × ao)
 | [],e,h=>aa (.normal,e,h)
 |i::rest,e,h=>
  match ops[i]? with
  |none=>ar
  |some o=>
   match ff ops e o with
   |none=>ar
   |some az=>di P G R ops rest (e.put o.dst (.tuple [])) h
   |some ai=>
    match eo P G R e h o with
    |some (.ret x,e,h)=>di P G R ops rest (e.put o.dst x) h
    |some (.panic x,e,h)=>aa (.panic x,e,h)
    |none=>ar
inductive Class where
 |pure|reads|acts
 deriving DecidableEq,Inhabited
def jD:Op->Class
 | .move _| .assign _| .pick .. | .build .. | .nilCheck _| .binOp .. | .unOp .. | .makeInterface .. | .makeFunc .. | .slice .. | .fieldAddr .. | .field ..
 | .indexAddr .. | .index .. | .typeAssert .. | .extract .. =>.pure
 | .buildSlice _ _ parts=>if wB parts=ai then .acts else .pure
 | .load .. =>.reads
 | .call {callee:=.builtin .len,.. }=>.pure
 |_=>.acts
def KB(a b:Class):Bool:=
 match a,b with
 | .pure,_|_,.pure=>ai
 | .reads,.reads=>ai
 |_,_=>az
def Bf(ops:Array Oper)(b:Array Nat):Bool:=
 (bR ops.size).all λj=>
  match ops[j]? with
  |none=>ai
  |some o=>
   (o.after.all λe=> !Region.binds .any e||decide (e.on<j))&&
   (bR ops.size).all λi=> !(b.getD j 0).testBit i||o.after.any λe=>Region.binds .any e&&(jG e.on i||(b.getD e.on 0).testBit i)
def yW(ops:Array Oper)(i j:Nat):Bool:=
 match ops[i]?,ops[j]? with
 |some x,aa y=>KB (jD x.op) (jD y.op)&&x.apart ops y&&y.apart ops x
 |_,_=>az
def ND(ops:Array Oper):Bool:=
 let b:=Region.before ops
 Bf ops b&&(bR ops.size).all λj=>(bR j).all λi=>(b.getD j 0).testBit i||yW ops i j
def pD(ops:Array Oper)(i j:Nat):Bool:=
 match ops[i]?,ops[j]? with
 |some x,aa y=>x.apart ops y&&y.apart ops x
 |_,_=>az
def pR(P:bK)(G:Nat->Option (List AV))(R:Rec)(ops:Array Oper)(e:Env)(h:ao)(r m:Nat):Bool:=
 match ops[r]?,di P G R ops (bR r) e h,di P G R ops (bR m) e h with
 |some o,aa (.normal,er,hr),aa (.normal,_,hm)=>
  (match ff ops er o with
   |some az=>ai
   |some ai=>
    (match o.op with
     | .load t a=>(match aI P G hr t (er.eval a),aI P G hm t (er.eval a) with|some x,aa y=>fe x y|_,_=>az)
     |_=>az)
   |none=>az)
 |_,_,_=>az
def l8(P:bK)(G:Nat->Option (List AV))(R:Rec)(ops:Array Oper)(e:Env)(h:ao)(i j:Nat):Bool:=
 pD ops i j&&
 match (ops[i]?).map λo=>jD o.op,(ops[j]?).map λo=>jD o.op with
 |some .reads,aa .acts=>pR P G R ops e h i (j+1)
 |some .acts,aa .reads=>pR P G R ops e h j i
 |_,_=>az
def zO:Op->Bool
 | .call {callee:=.builtin .recover,.. }=>az
 | .call {callee:=.builtin .panic,.. }=>az
 | .call _=>ai
 | .convert .. =>ai
 |_=>az
def zP(P:bK)(G:Nat->Option (List AV))(R:Rec)(ops:Array Oper)(e:Env)(h:ao)(k:Nat):Prop:=
 ∃o x er hr,ops[k]?=aa o/\zO o.op=ai/\di P G R ops (bR k) e h=aa (.normal,er,hr)/\
  ∀m,m<=ops.size->∃em hm,di P G R ops (bR m) e h=aa (.normal,em,hm)/\eo P G R er hm o=aa (.ret x,er,hm)
noncomputable def mX(P:bK)(G:Nat->Option (List AV))(R:Rec)(ops:Array Oper)(e:Env)(h:ao)(k:Nat):Bool:=@decide (zP P G R ops e h k) (Classical.propDecidable _)
noncomputable def mH(P:bK)(G:Nat->Option (List AV))(R:Rec)(ops:Array Oper)(e:Env)(h:ao):Bool:=
 let b:=Region.before ops
 Bf ops b&&(bR ops.size).all λj=>(bR j).all λi=>(b.getD j 0).testBit i||yW ops i j||l8 P G R ops e h i j||(pD ops i j&&(mX P G R ops e h i||mX P G R ops e h j))
def Jv(ops:Array Oper)(k j:Nat):Bool:=
 match ops[k]? with
 |some o=>o.after.any λed=>Region.binds .any ed&&jG ed.on j
 |none=>az
def ak5(ops:Array Oper)(d m:Nat):Bool:=
 match ops[m]? with
 |some o=>(match o.op with| .load _ x=>(match x with| .tmp t=> !Nat.beq t d|_=>ai)|_=>az)&&(o.guard.isNone&&(match o.dst with|some q=> !Nat.beq q d|none=>ai))
 |none=>az
def gK(ops:Array Oper)(i j:Nat):Array Oper:=⟨ops.toList.mapIdx λk o=>if k=j then {o with after:=o.after.push {on:=i,ground:=.data}} else o⟩
def yN(ops:Array Oper)(k:Nat):Bool:=
 match ops[k]? with
 |some o=>(match o.op with| .store _ _ _=>ai|_=>az)&&(o.guard.isNone&&o.dst.isNone)
 |none=>az
def Zd(ops:Array Oper)(k:Nat):Bool:=
 match ops[k]? with
 |some o=>decide (jD o.op=.pure)|none=>az
def EI(ops:Array Oper)(i:Nat):Bool:=
 Bf ops (Region.before ops)&&(decide (i+1<ops.size)&&(yN ops i&&(yN ops (ops.size - 1)&&(bR (ops.size - 1)).all λk=>jG k i||(((Region.before ops).getD (ops.size - 1) 0).testBit k||(Zd ops k&&pD ops k (ops.size - 1))))))
def rn(ops:Array Oper)(k:Nat)(e:Env):Option Nat:=
 match ops[k]? with
 |some o=>(match o.op with| .store _ a _=>(match e.eval a with| .ptr (.box b) _=>aa b|_=>ar)|_=>ar)
 |none=>ar
def sK(P:bK)(G:Nat->Option (List AV))(R:Rec)(ops:Array Oper)(e:Env)(h:ao)(i:Nat):Bool:=
 match di P G R ops (bR i) e h,di P G R ops (bR (ops.size - 1)) e h with
 |some (.normal,ei,_),aa (.normal,en,_)=>
  (match rn ops i ei,rn ops (ops.size - 1) en with
   |some a,aa b=> !Nat.beq a b
   |_,_=>az)
 |_,_=>az
noncomputable def tL(P:bK)(G:Nat->Option (List AV))(R:Rec)(ops:Array Oper)(e:Env)(h:ao):Bool:=(bR ops.size).any λi=>EI ops i&&(sK P G R ops e h i&&mH P G R (gK ops i (ops.size - 1)) e h)
def quiet(o:Oper):Oper:={o with dst:=ar,op:=.move (.const (.bool ai)),guard:=ar}
def El(ops:Array Oper)(k i:Nat):Bool:=jG i k||((Region.before ops).getD i 0).testBit k
def cut(ops:Array Oper)(k:Nat):Array Oper:=⟨ops.toList.mapIdx λi o=>if El ops k i=ai then quiet o else o⟩
def afe(ops:Array Oper)(i:Nat):Bool:=
 match ops[i]? with
 |some o=>decide (jD o.op≠ .acts)|none=>ai
def Vr(ops:Array Oper)(k i:Nat):Bool:=
 match ops[i]? with
 |some o=>(match o.guard with|some (j,_)=> !El ops k j|none=>ai)
 |none=>ai
def agU(ops:Array Oper)(k i:Nat):Option Tmp:=
 if (El ops k i||((Region.before (cut ops k)).getD k 0).testBit i)=ai then ar else (ops[i]?).bind (·.dst)
def E9(params:List Tmp)(args:List AV)(tmps:px):px:=(params.zip args).foldl (λts p=>ts.set p.1 p.2) tmps
section
variable (P:bK) (G:Nat->Option (List AV)) (R:Rec)
noncomputable def fK:Code->Env->ao->Option (Xt × Env × ao)
 | .skip,e,h| .label _,e,h=>aa (.normal,e,h)
 | .region _ ops draw,e,h=>
  if draw then
   if mH P G R ops e h||tL P G R ops e h then
    match di P G R ops (bR ops.size) e h with
    |some (.normal,e,h)=>aa (.normal,e,h)
    |_=>ar
   else ar
  else di P G R ops (bR ops.size) e h
 | .seq a b,e,h=>
  match R.code a e h with
  |some (.normal,e,h)=>R.code b e h
  |r=>r
 | .cond c a b,e,h=>
  match e.eval c with
  | .v (.bool ai)=>R.code a e h
  | .v (.bool az)=>R.code b e h
  |_=>ar
 | .block id c,e,h=>
  match R.code c e h with
  |some (.exit id',e,h)=>if id'=id then aa (.normal,e,h) else aa (.exit id',e,h)
  |r=>r
 | .loop c,e,h=>
  match R.code c e h with
  |some (.normal,e,h)=>R.code (.loop c) e h
  |r=>r
 | .scope c,e,h=>R.code c e h
 | .exit id,e,h=>aa (.exit id,e,h)
 | .ret,e,h=>aa (.ret,e,h)
 | .rangeFunc f params assign body,e,h=>
  match e.eval f with
  | .func (.func g) first aC=>
   match R.call g (first++[.yield h.loops.length]++aC)
    {h with loops:=h.loops++[{tmps:=e.tmps,params,assign,body,state:=.ready,pending:=ar}]} with
   |some (.ret _,h')=>
    match h'.loops[h.loops.length]? with
    |some r=>
     if r.state=.busy then ar else
     match r.pending with
     |none=>aa (.normal,e,{h' with loops:=h'.loops.set h.loops.length {r with state:=.exhausted}})
     |some .ret=>aa (.ret,e,{h' with loops:=h'.loops.set h.loops.length {r with state:=.exhausted}})
     |some (.exit id)=>aa (.exit id,e,{h' with loops:=h'.loops.set h.loops.length {r with state:=.exhausted}})
     |_=>ar
    |none=>ar
   |some (.panic x,h')=>aa (.panic x,e,h')
   |none=>ar
  |_=>ar
 |_,_,_=>ar
def vM(e:Env)(h:ao):List ResultVar->Option (List AV)
 | []=>aa []
 | .tmp t::r=>(vM e h r).map (e.get t::·)
 | .cell a t::r=>
  match aI P G h t (e.get a),vM e h r with
  |some x,aa l=>aa (x::l)
  |_,_=>ar
def HQ(fn:Func)(e:Env)(h:ao):Option AV:=
 match vM P G e h fn.results.toList with
 |some [x]=>aa x
 |some l=>aa (.tuple l)
 |none=>ar
def ij(fn:Func)(e:Env):List (bm × List AV)->Option (AV × Bool)->ao->Option (eX × ao)
 | [],ar,h=>(HQ P G fn e h).map λx=>(.ret x,h)
 | [],aa (x,_),h=>aa (.panic x,h)
 |(g,args)::ds,m,h=>
  match R.jR g args m h with
  |some (.ret _,aa (_,ai),h)=>ij fn e ds ar h
  |some (.ret _,m,h)=>ij fn e ds m h
  |_=>ar
def rR(g:bm)(args:List AV)(m:Option (AV × Bool))(h:ao):Option (eX × Option (AV × Bool) × ao):=
 match P.funcs[g]? with
 |none=>ar
 |some fn=>
  match fn.body with
  |none=>ar
  |some body=>
   match R.code body {tmps:={ch:=[],base:=args},defers:=[],cV:=m,round:=ar} h with
   |some (.normal,e,h)|some (.ret,e,h)=>(ij P G R fn e e.defers ar h).map λ(r,h)=>(r,e.cV,h)
   |some (.panic x,e,h)=>(ij P G R fn e e.defers (aa (x,az)) h).map λ(r,h)=>(r,e.cV,h)
   |_=>ar
def qU(aN:bm->Option (List AV->ao->Option (AV × ao)))(g:bm)(args:List AV)(h:ao):Option (eX × ao):=
 match aN g with
 |some p=>(p args h).map λ(x,h)=>(.ret x,h)
 |none=>(rR P G R g args ar h).map λ(r,_,h)=>(r,h)
def vN(l:Nat)(args:List AV)(h:ao):Option (eX × ao):=
 match h.loops[l]? with
 |none=>ar
 |some r=>
  if r.params.size=args.length then
   match R.code r.assign {tmps:=E9 r.params.toList args r.tmps,defers:=[],cV:=ar,round:=aa l} h with
   |some (.normal,e,h)=>
    match h.loops[l]? with
    |some r2=>
     if r2.state=.ready then
      match R.code r.body e {h with loops:=h.loops.set l {r2 with state:=.busy}} with
      |some (.normal,_,h)=>(h.loops[l]?).map λr=>(.ret (.v (.bool ai)),{h with loops:=h.loops.set l {r with state:=.ready,pending:=ar}})
      |some (.ret,_,h)=>(h.loops[l]?).map λr=>(.ret (.v (.bool az)),{h with loops:=h.loops.set l {r with state:=.done,pending:=aa .ret}})
      |some (.exit id,_,h)=>(h.loops[l]?).map λr=>(.ret (.v (.bool az)),{h with loops:=h.loops.set l {r with state:=.done,pending:=aa (.exit id)}})
      |some (.panic x,_,h)=>aa (.panic x,h)
      |none=>ar
     else ar
    |none=>ar
   |_=>ar
  else ar
end
noncomputable def iM(P:bK)(G:Nat->Option (List AV))(aN:bm->Option (List AV->ao->Option (AV × ao)))(n:Nat):Rec:=
 Nat.rec (motive:=λ_=>Rec) {code:=λ_ _ _=>ar,call:=λ_ _ _=>ar,jR:=λ_ _ _ _=>ar,round:=λ_ _ _=>ar}
  (λ_ R=>{code:=fK P G R,call:=qU P G R aN,jR:=rR P G R,round:=vN R}) n
end Go.AE
end
section
namespace Go.AE
open Go.RowKit (Below)
def HM{α}{P}:∀{e:Sem α} {a:α},fZ P e=aa a->∀w,e.run P w=.ok a w:=by
 intro e
 induction e with
 |pure a=>intro b h w;simp[fZ] at h;subst h;rfl|program k ih=>intro b h w;simp only[fZ] at h;simp only[Sem.run];exact ih _ h w|mark m k ih=>intro b h w;simp only[fZ] at h;simp only[Sem.run];exact ih h w|_=>intro b h;simp[fZ] at h
structure aY where
 base:Nat
 ic:Nat->Nat->Option aR
 β:List Nat
 γ:List Nat
 tn:Nat
 tk:Nat->Nat × Nat × Nat
 md:List Nat
 lb:Nat->Option (Nat × Nat × Nat)
structure aY.Le(K K':aY):Prop where
 base:K'.base=K.base
 ic:∀g j c,K.ic g j=aa c->K'.ic g j=aa c
 β:∀b g:Nat,K.β[b]?=aa g->K'.β[b]?=aa g
 γ:∀l g:Nat,K.γ[l]?=aa g->K'.γ[l]?=aa g
 tn:K.tn<=K'.tn
 tk:∀t,t<K.tn->K'.tk t=K.tk t
 md:∀r∈K.md,r∈K'.md
 lb:∀b,b<K.β.length->K'.lb b=K.lb b
 new:∀g j c,K'.ic g j=aa c->K.ic g j=aa c∨K.base<=g
def aY.Le.refl(K:aY):K.Le K:=⟨rfl,λ_ _ _ h=>h,λ_ _ h=>h,λ_ _ h=>h,aM _,λ_ _=>rfl,λ_ h=>h,λ_ _=>rfl,λ_ _ _ h=>.inl h⟩
def aY.Le.len{K K':aY}(h:K.Le K'){b}(hb:b<K.β.length):b<K'.β.length:=(aV.1 (h.β b _ (aT hb))).1
def aY.Le.trans{A B C:aY}(h:A.Le B)(k:B.Le C):A.Le C:=
 ⟨k.base.trans h.base,λg j c hc=>k.ic g j c (h.ic g j c hc),λb g hb=>k.β b g (h.β b g hb),λb g hb=>k.γ b g (h.γ b g hb),fJ h.tn k.tn,
  λt ht=>(k.tk t (mU ht h.tn)).trans (h.tk t ht),λr hr=>k.md r (h.md r hr),λb hb=>(k.lb b (h.len hb)).trans (h.lb b hb),λg j c hc=>(k.new g j c hc).elim (h.new g j c) λq=>.inr (by rw[<-h.base];exact q)⟩
def we(K:aY)(k:Tok)(g off sz n aC:Nat):Prop:=
 n<=aC/\match k with
  | .nil=>False
  | .tight=>aC=n
  | .free t=>t<K.tn/\(K.tk t).1=g/\(K.tk t).2.1=off+n * sz/\off+aC * sz<=(K.tk t).2.2
  | .held=>True
def we.mono{K K'}(h:K.Le K'){k}{g off sz n aC}(ht:we K k g off sz n aC):we K' k g off sz n aC:=by
 refine⟨ht.1,?_⟩;have h2:=ht.2;cases k with|free t=>simp only at h2 ⊢;rw[h.tk t h2.1];exact⟨mU h2.1 h.tn,h2.2⟩|_=>exact h2
mutual
inductive a8 (K:aY):AV->aR->Prop
 |bad (c:aR):a8 K .bad c
 |v (x:aR) (h:scalar x=ai):a8 K (.v x) x
 |nil (sz:Nat):a8 K (.list .nil sz []) (.slice ar 0 0)
 |js (sz:Nat) (a:Addr):a8 K (.list .tight sz []) (.slice (aa a) 0 0)
 |list (k:Tok) (sz:Nat) (es:List (List AV)) (g off n aC:Nat) (cells:List aR) (hn:n=es.length) (hr:∀r∈es,r.length=sz)
  (hv:aS K es.flatten cells) (hc:∀j c,cells[j]?=aa c->K.ic g (off+j)=aa c) (ht:we K k g off sz n aC)
  (ha:es.flatten.all AV.ek=ai):a8 K (.list k sz es) (.slice (aa ⟨g,off,ar⟩) n aC)
 |arr (b g off len aC fC iH:Nat) (hb:K.β[b]?=aa g) (hl:len<=aC) (hc:aC<=iH) (ho:fC=off∨aC=0)
  (hr:iH=aC∨aC=0∨off≠0∨∃sz room,K.lb b=aa (aC,sz,room)/\0<sz/\iH * sz<=room):a8 K (.arr b off len aC) (.slice (aa ⟨g,fC,ar⟩) len iH)
 |agg (cs:List AV) (vs:Array aR) (h:aS K cs vs.toList):a8 K (.agg cs) (.agg vs)
 |tuple (cs:List AV) (vs:Array aR) (h:aS K cs vs.toList):a8 K (.tuple cs) (.tuple vs)
 |box (b g off:Nat) (hb:K.β[b]?=aa g):a8 K (.ptr (.box b) off) (.pointer (aa ⟨g,off,ar⟩))
 |eR (g off:Nat):a8 K (.ptr (.eR g) off) (.pointer (aa ⟨g,off,ar⟩))
 |elem (sz:Nat) (es:List (List AV)) (i off g o p:Nat) (cells:List aR) (hr:∀r∈es,r.length=sz) (hv:aS K es.flatten cells)
  (hc:∀j c,cells[j]?=aa c->K.ic g (o+j)=aa c) (hi:i<es.length) (hp:p=o+i * sz+off)
  (ha:es.flatten.all AV.ek=ai):a8 K (.elem sz es i off) (.pointer (aa ⟨g,p,ar⟩))
 |func (fn:Fn) (first aC:List AV) (fs cs:Array aR) (h1:aS K first fs.toList) (h2:aS K aC cs.toList):a8 K (.func fn first aC) (.func fn fs cs)
 |yield (l g:Nat) (h:K.γ[l]?=aa g):a8 K (.yield l) (.func (.yield g) #[] #[])
 |iface (t:aK) (x:AV) (c:aR) (h:a8 K x c):a8 K (.iface t x) (.iface t c)
inductive aS (K:aY):List AV->List aR->Prop
 |nil:aS K [] []
 |cons (x:AV) (c:aR) (xs:List AV) (cs:List aR) (h:a8 K x c) (hs:aS K xs cs):aS K (x::xs) (c::cs)
end
mutual
def a8.mono{K K':aY}(h:K.Le K'):∀{x:AV} {c:aR},a8 K x c->a8 K' x c
 |_,_,.bad c=>.bad c
 |_,_,.v x hx=>.v x hx
 |_,_,.nil sz=>.nil sz
 |_,_,.js sz a=>.js sz a
 |_,_,.list k sz es g off n aC cells hn hr hv hc ht ha=>.list k sz es g off n aC cells hn hr (aS.mono h hv) (λj c hj=>h.ic _ _ _ (hc j c hj)) (ht.mono h) ha
 |_,_,.arr b g off len aC fC iH hb hl hc ho hr=>.arr b g off len aC fC iH (h.β _ _ hb) hl hc ho (by rw[h.lb b (aV.1 hb).1];exact hr)
 |_,_,.agg cs vs hv=>.agg cs vs (aS.mono h hv)
 |_,_,.tuple cs vs hv=>.tuple cs vs (aS.mono h hv)
 |_,_,.box b g off hb=>.box b g off (h.β _ _ hb)
 |_,_,.eR g off=>.eR g off
 |_,_,.elem sz es i off g o p cells hr hv hc hi hp ha=>.elem sz es i off g o p cells hr (aS.mono h hv) (λj c hj=>h.ic _ _ _ (hc j c hj)) hi hp ha
 |_,_,.func fn first aC fs cs h1 h2=>.func fn first aC fs cs (aS.mono h h1) (aS.mono h h2)
 |_,_,.yield l g hl=>.yield l g (h.γ _ _ hl)
 |_,_,.iface t x c hx=>.iface t x c (a8.mono h hx)
def aS.mono{K K':aY}(h:K.Le K'):∀{xs:List AV} {cs:List aR},aS K xs cs->aS K' xs cs
 |_,_,.nil=>.nil
 |_,_,.cons x c xs cs hx hs=>.cons x c xs cs (a8.mono h hx) (aS.mono h hs)
end
def Er:aR->Bool
 | .agg _| .tuple _=>az
 |_=>ai
section
variable {K:aY}
def aS.length{xs:List AV}{cs:List aR}(h:aS K xs cs):xs.length=cs.length:=by
 induction xs generalizing cs with
 |nil=>cases h;rfl
 |cons x xs ih=>cases h with|cons _ _ _ _ _ hs=>simp[ih hs]
def aS.get{xs:List AV}{cs:List aR}(h:aS K xs cs):∀{i:Nat} {x:AV},xs[i]?=aa x->∃c,cs[i]?=aa c/\a8 K x c:=by
 induction xs generalizing cs with
 |nil=>intro i x hx;simp at hx|cons y xs ih=>
  cases h with
  |cons _ c _ cs hy hs=>
   intro i x hx;cases i with|zero=>simp at hx;subst hx;exact⟨c,rfl,hy⟩|succ i=>exact ih hs (by simpa using hx)
def aS.get'{xs:List AV}{cs:List aR}(h:aS K xs cs):∀{i:Nat} {c:aR},cs[i]?=aa c->∃x,xs[i]?=aa x/\a8 K x c:=by
 induction xs generalizing cs with
 |nil=>cases h;intro i x hx;simp at hx
 |cons y xs ih=>
  cases h with
  |cons _ c _ cs hy hs=>
   intro i x hx;cases i with|zero=>simp at hx;subst hx;exact⟨y,rfl,hy⟩|succ i=>exact ih hs (by simpa using hx)
def aS.of{xs:List AV}{cs:List aR}(hl:xs.length=cs.length)(h:∀(i:Nat) (x:AV) (c:aR),xs[i]?=aa x->cs[i]?=aa c->a8 K x c):aS K xs cs:=by
 induction xs generalizing cs with
 |nil=>cases cs with|nil=>exact .nil|cons _ _=>simp at hl
 |cons y xs ih=>
  cases cs with|nil=>simp at hl|cons c cs=>exact .cons _ _ _ _ (h 0 y c rfl rfl) (ih (by simpa using hl) λi x c hx hc=>h (i+1) x c (by simpa using hx) (by simpa using hc))
def aS.append{xs ys:List AV}{cs ds:List aR}(h:aS K xs cs)(k:aS K ys ds):aS K (xs++ys) (cs++ds):=by
 induction xs generalizing cs with
 |nil=>cases h;exact k
 |cons y xs ih=>cases h with|cons _ _ _ _ hy hs=>exact .cons _ _ _ _ hy (ih hs)
def aS.take{xs:List AV}{cs:List aR}(h:aS K xs cs)(n:Nat):aS K (xs.take n) (cs.take n):=by
 refine .of (by simp[h.length]) λi x c hx hc=>?_;simp only[oh] at hx hc;split at hx
 ·rename_i hi;rw[aG hi] at hc;obtain⟨c',iB,hr⟩:=h.get hx;rw[hc] at iB;injection iB with e;subst e;exact hr
 ·cases hx
def aS.drop{xs:List AV}{cs:List aR}(h:aS K xs cs)(n:Nat):aS K (xs.drop n) (cs.drop n):=by refine .of (by simp[h.length]) λi x c hx hc=>?_;simp only[oN] at hx hc;obtain⟨c',iB,hr⟩:=h.get hx;rw[hc] at iB;injection iB with e;subst e;exact hr
def aS.set{xs:List AV}{cs:List aR}(h:aS K xs cs)(i:Nat){x:AV}{c:aR}(hx:a8 K x c):aS K (xs.set i x) (cs.set i c):=by
 refine .of (by simp[h.length]) λj y d hy hd=>?_;simp only[mA] at hy hd;split at hy
 ·rename_i e;subst e;rw[aG rfl] at hd;split at hy
  ·rename_i aB;rw[aG (h.length ▸ aB)] at hd;injection hy with hy;injection hd with hd;subst hy;subst hd;exact hx
  ·cases hy
 ·rename_i e;rw[aH e] at hd;obtain⟨c',iB,hr⟩:=h.get hy;rw[hd] at iB;injection iB with e;subst e;exact hr
def aS.map_mk{α:Type}{l:List α}{f:α->AV}{f':α->aR}(h:∀a∈l,a8 K (f a) (f' a)):aS K (l.map f) (l.map f'):=by
 induction l with
 |nil=>exact .nil|cons a l ih=>exact .cons _ _ _ _ (h a bH) (ih λb hb=>h b (by simp[hb]))
def a8.iV{x:aR}{c:aR}(h:a8 K (.v x) c):c=x/\scalar x=ai:=by cases h with|v _ h=>exact⟨rfl,h⟩
def NO:∀{cs:List AV} {l:List aR},Bv cs=aa l->∀{vs:List aR},aS K cs vs->vs=l
 | [],l,h,_,hv=>by cases hv;simp[Bv] at h;exact h.symm ▸ rfl
 | .v x::r,l,h,_,hv=>by
  cases hv with|cons _ c _ cs hx hs=>simp only[Bv,dy] at h;obtain⟨l',ss,rfl⟩:=h;rw[(a8.iV hx).1,NO ss hs]
 | .bad::_,_,h,_,_| .list .. ::_,_,h,_,_| .arr .. ::_,_,h,_,_| .agg _::_,_,h,_,_| .tuple _::_,_,h,_,_| .ptr .. ::_,_,h,_,_
 | .elem .. ::_,_,h,_,_| .func .. ::_,_,h,_,_| .yield _::_,_,h,_,_| .iface .. ::_,_,h,_,_=>by simp[Bv] at h
def JD{x:AV}{p:Value}(h:x.flat=some p){c:Value}(hv:a8 K x c):c=p:=by
 unfold AV.flat at h;split at h
 ·injection h with h;subst h;exact(a8.iV hv).1
 ·simp only[dy] at h;obtain⟨l,hl,rfl⟩:=h;cases hv with|agg _ vs hs=>rw[<-NO hl hs]
 ·injection h with h;subst h;cases hv with|iface _ _ _ hx=>rw[(a8.iV hx).1]
 ·simp only[dy] at h;obtain⟨l,hl,rfl⟩:=h;cases hv with|iface _ _ _ hx=>cases hx with|agg _ vs hs=>rw[<-NO hl hs]
 ·injection h with h;subst h;cases hv with|nil=>rfl|list _ _ _ _ _ _ _ _ _ _ _ _ ht _=>exact ht.2.elim
 ·cases h
def NN:∀{xs:List AV} {l:List aR},flatAll xs=aa l->∀{vs:List aR},aS K xs vs->vs=l
 | [],l,h,_,hv=>by cases hv;simp[flatAll] at h;exact h.symm ▸ rfl
 |x::r,l,h,_,hv=>by
  cases hv with
  |cons _ c _ cs hx hs=>
   simp only[flatAll] at h;split at h
   ·rename_i v l' h1 h2;injection h with h;subst h;rw[JD h1 hx,NN h2 hs]
   ·cases h
def Io{z:aR}{x:AV}(h:oG z=aa x):a8 K x z:=by
 unfold oG at h;split at h
 ·injection h with h;subst h;exact .v _ ‹_›
 ·cases h
def Qg(x:aR):a8 K (vA x) x:=by
 unfold vA;split
 ·exact .nil 0
 ·split
  ·exact .v _ ‹_›
  ·exact .bad _
def KG(x:aR):a8 K (sH x) x:=by
 unfold sH;split
 ·rename_i cs;refine .agg _ _ ?_;have:aS K (cs.toList.map vA) (cs.toList.map id):=aS.map_mk λa _=>Qg a;simpa using this
 ·split
  ·rename_i vs h;have:vs=#[]:=(by simpa using h);subst this;exact .tuple _ _ .nil
  ·exact .bad _
 ·exact .iface _ _ _ (Qg _)
 ·exact Qg _
def Jp{x:AV}{cs:List AV}(h:x.cD=aa cs){c:aR}(hv:a8 K x c):aS K cs c.cells.toList/\cs.all AV.ek=ai:=by
 unfold AV.cD at h;split at h
 ·split at h
  ·rename_i ha;injection h with h;subst h;cases hv with|agg _ vs hs=>exact⟨hs,ha⟩
  ·cases h
 ·cases h
 ·cases h
 ·rename_i h1 h2 h3;injection h with h;subst h;have ql:x.ek=ai:=by cases x<;>first|rfl|exact absurd rfl (h1 _)|exact absurd rfl (h2 _)|exact absurd rfl h3
  refine⟨?_,by simp[ql]⟩;have:c.cells=#[c]:=by cases hv<;>first|rfl|exact absurd rfl (h1 _)|exact absurd rfl (h2 _)|exact absurd rfl h3|(cases c<;>first|rfl|simp[scalar] at *)
  rw[this];exact .cons _ _ _ _ hv .nil
def ako{c}(h:scalar c=ai):Er c=ai:=by cases c<;>first|rfl|simp[scalar] at h
def akn{x:AV}(h:x.ek=ai){c:aR}(hv:a8 K x c):Er c=ai:=by cases hv<;>first|rfl|exact ako ‹_›|(simp[AV.ek] at h;done)
end
def zl(K:aY)(b:Nat)(cs:List AV)(cells:Array aR):Prop:=
 aS K cs (cells.toList.take cs.length)/\∀N sz room,K.lb b=aa (N,sz,room)->cs=[]∨(cs.length=N * sz/\room<=cells.size)
def zl.mono{K K'}(h:K.Le K'){b}(hb:b<K.β.length){cs}{cells}(r:zl K b cs cells):zl K' b cs cells:=
 ⟨r.1.mono h,by rw[h.lb b hb];exact r.2⟩
def zl.nil{K}{b}{cells}:zl K b [] cells:=⟨.nil,λ_ _ _ _=>.inl rfl⟩
def zl.le{K}{b}{cs}{cells}(r:zl K b cs cells):cs.length<=cells.size:=by have:=r.1.length;rw[fj] at this;simp only[xF] at this;omega
def mD(K:aY)(s:px)(tmps:Array aR):Prop:=∀t,a8 K (s.get t) (tmps.getD t undef)
def mD.mono{K K'}(h:K.Le K'){s}{tmps}(hs:mD K s tmps):mD K' s tmps:=λt=>(hs t).mono h
structure bW(K:aY)(G:Nat->Option (List AV))(ok:bm->Nat->Code->Bool)(w0:cB)(h:ao)(w:cB):Prop where
 dh:Below K.base w0 w
 size:K.base<=w.heap.size
 ic:∀g j c,K.ic g j=aa c->w.cell? ⟨g,j,ar⟩=aa c
 eR:∀g cs,G g=aa cs->∃cells,aS K cs cells/\∀(j:Nat) (c:aR),cells[j]?=aa c->K.ic g j=aa c
 lL:K.β.length=h.boxes.length
 pW:∀(b b' g:Nat),K.β[b]?=aa g->K.β[b']?=aa g->b=b'∨h.boxes[b]?=aa []∨h.boxes[b']?=aa []
 box:∀(b g:Nat) (cs:List AV),K.β[b]?=aa g->h.boxes[b]?=aa cs->
  K.base<=g/\(∀j,K.ic g j=ar)/\cs.all AV.ek=ai/\∃cells e,w.heap[g]?=aa (.cells cells e (0,0))/\zl K b cs cells
 oa:K.γ.length=h.loops.length
 qI:∀(b b' g:Nat),K.γ[b]?=aa g->K.γ[b']?=aa g->b=b'
 loop:∀(l g:Nat) (r:iN),K.γ[l]?=aa g->h.loops[l]?=aa r->K.base<=g/\∃fn tmps d,
  w.heap[g]?=aa (.loop {state:=r.state,pending:=r.pending,fn,tmps,params:=r.params,assign:=r.assign,body:=r.body,defers:=d})/\
  mD K r.tmps tmps/\ok fn tmps.size r.assign=ai/\ok fn tmps.size r.body=ai/\∀p∈r.params.toList,p<tmps.size
 tn:K.tn=h.tn
 tok:∀t,alive h t=ai->K.base<=(K.tk t).1/\(∀b:Nat,K.β[b]?≠aa (K.tk t).1)/\(∀j,(K.tk t).2.1<=j->K.ic (K.tk t).1 j=ar)/\
  ∃cells e fz,w.heap[(K.tk t).1]?=aa (.cells cells e fz)/\cells.size=(K.tk t).2.2/\
   ∀j,(K.tk t).2.1<=j->j<cells.size->w.frozen? ⟨(K.tk t).1,j,ar⟩=az
 pT:∀t t',alive h t=ai->alive h t'=ai->(K.tk t).1=(K.tk t').1->t=t'
 md:∀r∈K.md,K.base<=r/\w.heap[r]?=aa (.deferred (aa []))
 all:K.base=w0.heap.size
def Addr.mF(g o n):(⟨g,o,ar⟩:Addr).add n=⟨g,o+n,ar⟩:=by
 unfold Addr.add;split
 ·subst_vars;rfl
 ·rfl
def uQ{h}{t}(ha:alive h t=ai):t<h.tn:=by unfold alive at ha;simp at ha;exact ha.1
section
variable {K:aY} {G:Nat->Option (List AV)} {ok:bm->Nat->Code->Bool} {w0 w:cB} {h:ao}
def bW.Ay(s:bW K G ok w0 h w){g j:Nat}{c:aR}(hc:K.ic g j=aa c):g<w.heap.size:=by
 have:=s.ic g j c hc;unfold World.cell? at this;rcases dV g w.heap.size with aB|ec
 ·exact aB
 ·simp[xE ec] at this
def bW.same{w':cB}(s:bW K G ok w0 h w)(hh:w'.heap=w.heap)(ht:w'.tape=w.tape)(ho:w'.os=w.os)(hp:w'.output=w.output):bW K G ok w0 h w':=by
 have hc:∀a,w'.cell? a=w.cell? a:=λa=>by simp[World.cell?,hh]
 have hf:∀a,w'.frozen? a=w.frozen? a:=λa=>by simp[World.frozen?,hh]
 refine⟨⟨ho.trans s.dh.os,ht.trans s.dh.tape,hp.trans s.dh.output,by rw[hh];exact s.dh.size,λk hk=>by rw[hh];exact s.dh.block k hk⟩,by rw[hh];exact s.size,
  λg j c hg=>(hc _).trans (s.ic g j c hg),s.eR,s.lL,s.pW,λb g cs hb hc=>by rw[hh];exact s.box b g cs hb hc,s.oa,s.qI,
  λl g r hl hr=>by rw[hh];exact s.loop l g r hl hr,s.tn,λt ht=>?_,s.pT,λr hr=>by rw[hh];exact s.md r hr,s.all⟩
 obtain⟨h1,h2,h3,cells,e,fz,h4,h5,h6⟩:=s.tok t ht;exact⟨h1,h2,h3,cells,e,fz,by rw[hh];exact h4,h5,λj hj hl=>(hf _).trans (h6 j hj hl)⟩
def bW.drew(s:bW K G ok w0 h w)(n:Nat):bW K G ok w0 h {w with drawn:=n}:=s.same rfl rfl rfl rfl
def BP(w:cB)(o){k}(hk:k<w.heap.size):(w.heap.push o)[k]?=w.heap[k]?:=by rw[Array.getElem?_push,aH ah]
def oE{w:cB}{g}{o}(h:w.heap[g]?=aa o):g<w.heap.size:=by
 rcases dV g w.heap.size with aB|ec
 ·exact aB
 ·rw[xE ec] at h;cases h
def bW.push(s:bW K G ok w0 h w)(o:Obj):bW K G ok w0 h {w with heap:=w.heap.push o}:=by
 have hk:∀{k:Nat} {o':Obj},w.heap[k]?=aa o'->(w.heap.push o)[k]?=aa o':=λhk=>(BP w o (oE hk)).trans hk;refine⟨⟨s.dh.os,s.dh.tape,s.dh.output,by have:=s.dh.size;simp;omega,λk hk=>(BP w o (mU hk s.size)).trans (s.dh.block k hk)⟩,by have:=s.size;simp;omega,
  λg j c hg=>?_,s.eR,s.lL,s.pW,λb g cs hb hc=>?_,s.oa,s.qI,λl g r hl hr=>?_,s.tn,λt ht=>?_,s.pT,λr hr=>?_,s.all⟩
 ·rw[<-s.ic g j c hg];exact World.cell?_of_block (w:=w) (BP w o (s.Ay hg))
 ·obtain⟨h1,h2,ha,cells,e,h3,h4⟩:=s.box b g cs hb hc;exact⟨h1,h2,ha,cells,e,hk h3,h4⟩
 ·obtain⟨h1,fn,tmps,d,h2,h3⟩:=s.loop l g r hl hr;exact⟨h1,fn,tmps,d,hk h2,h3⟩
 ·obtain⟨h1,h2,h3,cells,e,fz,h4,h5,h6⟩:=s.tok t ht;refine⟨h1,h2,h3,cells,e,fz,hk h4,h5,λj hj hl=>?_⟩;rw[<-h6 j hj hl];exact World.frozen?_of_block (w:=w) (BP w o (oE h4))
 ·exact⟨(s.md r hr).1,hk (s.md r hr).2⟩
def u0{α:Type}{l}{x}{i:Nat}{y:α}(h:l[i]?=aa y):(l++[x])[i]?=aa y:=by rw[rK (aV.1 h).1];exact h
def sf{α:Type}{l}{x}{i}{y:α}(h:(l++[x])[i]?=aa y):l[i]?=aa y∨(i=l.length/\y=x):=by
 rcases Nat.lt_trichotomy i l.length with aB|mi|GG
 ·rw[rK aB] at h;exact .inl h
 ·subst mi;simp at h;exact .inr ⟨rfl,h.symm⟩
 ·rw[List.getElem?_eq_none (by simp;omega)] at h;cases h
def aY.oS(K:aY)(g:Nat)(x:Option (Nat × Nat × Nat)):aY:={K with β:=K.β++[g],lb:=λb=>if b=K.β.length then x else K.lb b}
def aY.box(K:aY)(g:Nat):aY:=K.oS g ar
def aY.Ex(K:aY)(g)(x):K.Le (K.oS g x):=
 ⟨rfl,λ_ _ _ h=>h,λ_ _ h=>u0 h,λ_ _ h=>h,aM _,λ_ _=>rfl,λ_ h=>h,λb hb=>aH ah,λ_ _ _ h=>.inl h⟩
def aY.PO(K:aY)(g):K.Le (K.box g):=K.Ex g ar
def bW.Qb(s:bW K G ok w0 h w){cs:List AV}{cells:Array aR}(e:aK)(x:Option (Nat × Nat × Nat))(hv:aS K cs (cells.toList.take cs.length))(qk:cs.all AV.ek=ai)
 (hx:∀N sz room,x=aa (N,sz,room)->cs=[]∨(cs.length=N * sz/\room<=cells.size)):
 bW (K.oS w.heap.size x) G ok w0 {h with boxes:=h.boxes++[cs]} {w with heap:=w.heap.push (.cells cells e)}/\
 a8 (K.oS w.heap.size x) (.ptr (.box h.boxes.length) 0) (.pointer (aa ⟨w.heap.size,0,ar⟩)):=by
 have le:=K.Ex w.heap.size x;have p:=s.push (.cells cells e);have lT:(K.oS w.heap.size x).β[h.boxes.length]?=aa w.heap.size:=by simp[aY.oS,<-s.lL]
 have aB:∀{b g:Nat},K.β[b]?=aa g->g<w.heap.size:=λ{b g} hb=>by
  have mh:b<h.boxes.length:=by rw[<-s.lL];exact(aV.1 hb).1
  obtain⟨_,_,_,_,_,h3,_⟩:=s.box b g _ hb (aT mh);exact oE h3
 have BT:∀j,K.ic w.heap.size j=ar:=λj=>by
  cases hc:K.ic w.heap.size j with|none=>rfl|some c=>have:=s.Ay hc;omega
 refine⟨⟨p.dh,p.size,p.ic,λg cs hg=>?_,by simp[aY.oS,s.lL],λb b' g hb iA=>?_,λb g dO hb hc=>?_,p.oa,p.qI,λl g r hl hr=>?_,p.tn,λt ht=>?_,p.pT,p.md,s.all⟩,.box _ _ _ lT⟩
 ·obtain⟨dH,h1,h2⟩:=s.eR g cs hg;exact⟨dH,h1.mono le,h2⟩
 ·rcases sf hb with hb|⟨rfl,rfl⟩<;>rcases sf iA with iA|⟨rfl,h2⟩
  ·rcases s.pW _ _ _ hb iA with p|p|p
   ·exact .inl p
   ·exact .inr (.inl (u0 p))
   ·exact .inr (.inr (u0 p))
  ·have:=aB hb;omega
  ·have:=aB iA;omega
  ·exact .inl rfl
 ·rcases sf hb with hb|⟨rfl,rfl⟩
  ·rcases sf hc with hc|⟨rfl,rfl⟩
   ·obtain⟨h1,h2,ha,dH,e',h3,h4⟩:=p.box b g dO hb hc;exact⟨h1,h2,ha,dH,e',h3,h4.mono le (aV.1 hb).1⟩
   ·have:h.boxes.length<K.β.length:=(aV.1 hb).1;have:=s.lL;omega
  ·have:dO=cs:=(by rw[s.lL] at hc;simp at hc;exact hc.symm);subst this;exact⟨s.size,BT,qk,cells,e,by simp,hv.mono le,by simp only[aY.oS,if_true];exact hx⟩
 ·obtain⟨h1,fn,tmps,d,h2,h3,h4⟩:=p.loop l g r hl hr;exact⟨h1,fn,tmps,d,h2,h3.mono le,h4⟩
 ·obtain⟨h1,h2,h3,dH,e',fz,h4,h5⟩:=p.tok t ht;refine⟨h1,λb hb=>?_,h3,dH,e',fz,h4,h5⟩;obtain⟨_,_,_,_,_,_,N2,_⟩:=s.tok t ht;rcases sf hb with hb|⟨_,hb⟩
  ·exact h2 b hb
  ·have:=oE N2;simp only[aY.oS] at hb;omega
def aS.whole{cs:List AV}{vs:List aR}(h:aS K cs vs):aS K cs (vs.take cs.length):=by rw[gO (by rw[h.length];exact aM _)];exact h
def bW.Qa(s:bW K G ok w0 h w){cs:List AV}{cells:Array aR}(e:aK)(hv:aS K cs cells.toList)(qk:cs.all AV.ek=ai):
 bW (K.box w.heap.size) G ok w0 {h with boxes:=h.boxes++[cs]} {w with heap:=w.heap.push (.cells cells e)}/\
 a8 (K.box w.heap.size) (.ptr (.box h.boxes.length) 0) (.pointer (aa ⟨w.heap.size,0,ar⟩)):=s.Qb e ar hv.whole qk (λ_ _ _ q=>by cases q)
structure tP(w w':cB)(g:Nat)(o:Obj):Prop where
 os:w'.os=w.os
 tape:w'.tape=w.tape
 output:w'.output=w.output
 size:w'.heap.size=w.heap.size
 other:∀k,k≠g->w'.heap[k]?=w.heap[k]?
 this:w'.heap[g]?=aa o
def tP.lt{w w'}{g}{o}(c:tP w w' g o):g<w.heap.size:=c.size ▸ oE c.this
def tP.below{w w'}{g}{o}(c:tP w w' g o){B}(hB:B<=g):Below B w w':=
 ⟨c.os,c.tape,c.output,by rw[c.size];exact aM _,λk hk=>c.other k ah⟩
def nt(fz:Nat × Nat)(j:Nat):Bool:=decide (fz.1<=j)&&decide (j<fz.2)
def zV{w:cB}{g}{cells}{e}{fz}(h:w.heap[g]?=aa (.cells cells e fz))(j):w.frozen? ⟨g,j,ar⟩=nt fz j:=by obtain⟨lo,hi⟩:=fz;simp[World.frozen?,h,nt]
def rW{w:cB}{g}{cells}{e}{fz}(h:w.heap[g]?=aa (.cells cells e fz))(j):w.cell? ⟨g,j,ar⟩=cells[j]?:=by simp[World.cell?,h]
def bW.agY(s:bW K G ok w0 h w)(b:Nat):bW K G ok w0 {h with boxes:=h.boxes.set b []} w:=by
 refine⟨s.dh,s.size,s.ic,s.eR,by simp[s.lL],λb1 b2 g h1 h2=>?_,λb' g' dO iA iB=>?_,s.oa,s.qI,s.loop,s.tn,s.tok,s.pT,s.md,s.all⟩
 ·have key:∀k,h.boxes[k]?=aa []->(h.boxes.set b [])[k]?=aa []:=λk hk=>by
   rw[mA];split
   ·rename_i e;subst e;rw[aG (aV.1 hk).1]
   ·exact hk
  rcases s.pW _ _ _ h1 h2 with p|p|p
  ·exact .inl p
  ·exact .inr (.inl (key _ p))
  ·exact .inr (.inr (key _ p))
 ·simp only[mA] at iB;split at iB
  ·rename_i e';subst e';split at iB
   ·rename_i aB;injection iB with iB;subst iB;obtain⟨k1,k2,_,cells0,e0,k3,k4⟩:=s.box _ _ _ iA (aT aB);exact⟨k1,k2,rfl,cells0,e0,k3,.nil⟩
   ·cases iB
  ·exact s.box b' g' dO iA iB
def bW.arK{w':cB}(s:bW K G ok w0 h w){b g:Nat}{cs dh:List AV}{cells:Array aR}{e:aK}(hb:K.β[b]?=aa g)(hold:h.boxes[b]?=aa dh)(bO:dh≠[])(bZ:cs.length=dh.length)(dm:∀c0 e0,w.heap[g]?=aa (.cells c0 e0 (0,0))->c0.size<=cells.size)
 (c:tP w w' g (.cells cells e (0,0))) (hv:aS K cs (cells.toList.take cs.length)) (qk:cs.all AV.ek=ai):bW K G ok w0 {h with boxes:=h.boxes.set b cs} w':=by
 have aB:=(aV.1 hold).1;obtain⟨k1,k2,_,cells0,e0,k3,k4⟩:=s.box b g _ hb hold;refine⟨s.dh.trans (c.below k1),by rw[c.size];exact s.size,λg' j x hx=>?_,s.eR,by simp[s.lL],λb1 b2 g h1 h2=>?_,λb' g' dO iA iB=>?_,s.oa,s.qI,λl g' r hl hr=>?_,s.tn,λt ht=>?_,s.pT,λr hr=>?_,s.all⟩
 ·have bO:g'≠g:=by rintro rfl;rw[k2 j] at hx;cases hx
  rw[<-s.ic g' j x hx];exact World.cell?_of_block (w:=w) (c.other g' bO)
 ·have key:∀k,h.boxes[k]?=aa []->(h.boxes.set b cs)[k]?=aa []:=λk hk=>by
   rw[mA,aH]
   ·exact hk
   ·rintro rfl;rw[hold] at hk;injection hk with hk;exact bO hk
  rcases s.pW _ _ _ h1 h2 with p|p|p
  ·exact .inl p
  ·exact .inr (.inl (key _ p))
  ·exact .inr (.inr (key _ p))
 ·simp only[mA] at iB;split at iB
  ·rename_i e';subst e';injection iB with iB;subst iB;rw[hb] at iA;injection iA with iA;subst iA;refine⟨k1,k2,qk,cells,e,c.this,hv,λN sz room q=>?_⟩;rcases k4.2 N sz room q with r|⟨r1,r2⟩
   ·exact absurd r bO
   ·exact .inr ⟨bZ.trans r1,fJ r2 (dm _ _ k3)⟩
  ·rename_i Kb;by_cases iZ:g'=g
   ·subst iZ;rcases s.pW _ _ _ hb iA with p|p|p
    ·exact absurd p Kb
    ·rw[hold] at p;injection p with p;exact absurd p bO
    ·rw[iB] at p;injection p with p;subst p;exact⟨k1,k2,rfl,cells,e,c.this,.nil⟩
   ·obtain⟨h1,h2,ha,dH,e',h3,h4⟩:=s.box b' g' dO iA iB;exact⟨h1,h2,ha,dH,e',(c.other g' iZ).trans h3,h4⟩
 ·obtain⟨h1,fn,tmps,d,h2,h3⟩:=s.loop l g' r hl hr;have iZ:g'≠g:=by rintro rfl;rw[h2] at k3;cases k3
  exact⟨h1,fn,tmps,d,(c.other g' iZ).trans h2,h3⟩
 ·obtain⟨h1,h2,h3,dH,e',fz,h4,h5,h6⟩:=s.tok t ht;have iZ:(K.tk t).1≠g:=λe=>h2 b (e ▸ hb);refine⟨h1,h2,h3,dH,e',fz,(c.other _ iZ).trans h4,h5,λj hj hl=>?_⟩;rw[<-h6 j hj hl];exact World.frozen?_of_block (w:=w) (c.other _ iZ)
 ·have h2:=(s.md r hr).2;have iZ:r≠g:=by rintro rfl;rw[h2] at k3;cases k3
  exact⟨(s.md r hr).1,(c.other r iZ).trans h2⟩
def bW.atq{w':cB}(s:bW K G ok w0 h w){g:Nat}{cs:List AV}{cells:Array aR}{e:aK}(hg:K.base<=g)(iQ:∀j,K.ic g j=ar)(Ok:∀b:Nat,K.β[b]?=aa g->h.boxes[b]?=aa [])
 (aj0:∀t,alive h t=ai->(K.tk t).1≠g) {c0:Array aR} {e0:aK} {z0:Nat × Nat} (Ce:w.heap[g]?=aa (.cells c0 e0 z0))
 (x:Option (Nat × Nat × Nat)) (hx:∀N sz room,x=aa (N,sz,room)->cs=[]∨(cs.length=N * sz/\room<=cells.size))
 (c:tP w w' g (.cells cells e (0,0))) (hv:aS K cs (cells.toList.take cs.length)) (qk:cs.all AV.ek=ai):
 bW (K.oS g x) G ok w0 {h with boxes:=h.boxes++[cs]} w'/\(K.oS g x).β[h.boxes.length]?=aa g:=by
 have le:=K.Ex g x;have lT:(K.oS g x).β[h.boxes.length]?=aa g:=by simp[aY.oS,<-s.lL]
 refine⟨⟨s.dh.trans (c.below hg),by rw[c.size];exact s.size,λg' j x hx=>?_,λg' dO hg'=>?_,by simp[aY.oS,s.lL],λb b' g' hb iA=>?_,λb g' dO hb hc=>?_,s.oa,s.qI,λl g' r hl hr=>?_,s.tn,λt ht=>?_,s.pT,λr hr=>?_,s.all⟩,lT⟩
 ·have sD:K.ic g' j=aa x:=hx;have bO:g'≠g:=λq=>by rw[q,iQ j] at sD;cases sD
  rw[<-s.ic g' j x sD];exact World.cell?_of_block (w:=w) (c.other g' bO)
 ·obtain⟨dH,h1,h2⟩:=s.eR g' dO hg';exact⟨dH,h1.mono le,h2⟩
 ·rcases sf hb with p|⟨p1,p2⟩<;>rcases sf iA with q|⟨q1,q2⟩
  ·rcases s.pW _ _ _ p q with r|r|r
   ·exact .inl r
   ·exact .inr (.inl (u0 r))
   ·exact .inr (.inr (u0 r))
  ·subst q2;exact .inr (.inl (u0 (Ok _ p)))
  ·subst p2;exact .inr (.inr (u0 (Ok _ q)))
  ·exact .inl (by rw[p1,q1])
 ·rcases sf hb with p|⟨p1,p2⟩
  ·have mh:b<h.boxes.length:=(by rw[<-s.lL];exact(aV.1 p).1);rw[rK mh] at hc;by_cases iZ:g'=g
   ·subst iZ;have:=Ok b p;rw[hc] at this;injection this with this;subst this;exact⟨hg,iQ,rfl,cells,e,c.this,.nil⟩
   ·obtain⟨h1,h2,ha,dH,e',h3,h4⟩:=s.box b g' dO p hc;exact⟨h1,h2,ha,dH,e',(c.other g' iZ).trans h3,h4.mono le (aV.1 p).1⟩
  ·subst p2;have:dO=cs:=(by rw[p1,s.lL] at hc;simp at hc;exact hc.symm);subst this;exact⟨hg,iQ,qk,cells,e,c.this,hv.mono le,by rw[p1];simp only[aY.oS,if_true];exact hx⟩
 ·obtain⟨h1,fn,tmps,d,h2,h3,h4⟩:=s.loop l g' r hl hr;have iZ:g'≠g:=by rintro rfl;rw[h2] at Ce;cases Ce
  exact⟨h1,fn,tmps,d,(c.other g' iZ).trans h2,h3.mono le,h4⟩
 ·obtain⟨h1,h2,h3,dH,e',fz,h4,h5,h6⟩:=s.tok t ht;have iZ:=aj0 t ht;refine⟨h1,λb hb=>?_,h3,dH,e',fz,(c.other _ iZ).trans h4,h5,λj hj hl=>?_⟩
  ·rcases sf hb with p|⟨-,p⟩
   ·exact h2 b p
   ·exact iZ p
  ·rw[<-h6 j hj hl];exact World.frozen?_of_block (w:=w) (c.other _ iZ)
 ·have h2:=(s.md r hr).2;have iZ:r≠g:=by rintro rfl;rw[h2] at Ce;cases Ce
  exact⟨(s.md r hr).1,(c.other r iZ).trans h2⟩
def aY.row(K:aY)(g off m size:Nat)(cells:Nat->Option aR):aY:=
 {K with ic:=λg' j=>if g'=g/\off<=j/\j<m then cells j else K.ic g' j,tn:=K.tn+1,tk:=λt=>if t=K.tn then (g,m,size) else K.tk t}
def aY.PS{K:aY}{g off m size}{cells}(h:∀j,off<=j->K.ic g j=ar)(hb:K.base<=g):K.Le (K.row g off m size cells):=by
 refine⟨rfl,λg' j c hc=>?_,λ_ _ h=>h,λ_ _ h=>h,Nat.le_succ _,λt ht=>?_,λ_ h=>h,λ_ _=>rfl,λg' j c hc=>?_⟩
 ·simp only[aY.row];rw[aH]
  ·exact hc
  ·rintro⟨rfl,h1,_⟩;rw[h j h1] at hc;cases hc
 ·simp only[aY.row];rw[aH ah]
 ·simp only[aY.row] at hc;split at hc
  ·rename_i q;rw[q.1];exact .inr hb
  ·exact .inl hc
def bW.row{w':cB}{h':ao}(s:bW K G ok w0 h w){g off m:Nat}{cells:Array aR}{e:aK}{fz:Nat × Nat}
 (Gy:h'.boxes=h.boxes) (Wn:h'.loops=h.loops) (tC:h'.tn=h.tn+1) (eM:∀t,alive h' t=ai->t=h.tn∨(alive h t=ai/\(K.tk t).1≠g))
 (Aa:K.base<=g) (Kb:∀b:Nat,K.β[b]?≠aa g) (iQ:∀j,off<=j->K.ic g j=ar) (dm:w.heap.size<=w'.heap.size)
 (O0:w'.os=w.os) (Ps:w'.tape=w.tape) (Ap:w'.output=w.output)
 (ny:∀k o,k≠g->w.heap[k]?=aa o->w'.heap[k]?=aa o) (nS:w'.heap[g]?=aa (.cells cells e fz))
 (Ce:∀o,w.heap[g]?=aa o->∃c0 e0 z0,o=.cells c0 e0 z0)
 (ajn:∀j c,K.ic g j=aa c->cells[j]?=aa c) (hom:off<=m) (_hm:m<=cells.size) (wQ:∀j,m<=j->j<cells.size->nt fz j=az):
 bW (K.row g off m cells.size (λj=>cells[j]?)) G ok w0 h' w':=by
 have le:=aY.PS (m:=m) (size:=cells.size) (cells:=λj=>cells[j]?) iQ Aa;refine⟨?_,fJ s.size dm,λg' j x hx=>?_,λg' cs hg=>?_,by rw[Gy];exact s.lL,by rw[Gy];exact s.pW,λb g' cs hb hc=>?_,by rw[Wn];exact s.oa,s.qI,λl g' r hl hr=>?_,by rw[tC];simp[aY.row,s.tn],
  λt ht=>?_,λt t' ht Hi mi=>?_,λr hr=>?_,s.all⟩
 ·refine s.dh.trans ⟨O0,Ps,Ap,dm,λk hk=>?_⟩;have aB:k<w.heap.size:=mU hk s.size;have BU:w.heap[k]?=aa (w.heap[k]):=mz aB;have ug:k<K.base:=hk;rw[BU];exact ny k _ ah BU
 ·simp only[aY.row] at hx;split at hx
  ·rename_i hc;obtain⟨rfl,_,_⟩:=hc;rw[rW nS];exact hx
  ·by_cases iZ:g'=g
   ·subst iZ;rw[rW nS];exact ajn j x hx
   ·have aB:=s.Ay hx;rw[<-s.ic g' j x hx];refine World.cell?_of_block (w:=w) ?_;simp only;rw[mz aB];exact ny g' _ iZ (mz aB)
 ·obtain⟨dH,h1,h2⟩:=s.eR g' cs hg;exact⟨dH,h1.mono le,λj c hj=>le.ic _ _ _ (h2 j c hj)⟩
 ·rw[Gy] at hc;obtain⟨h1,h2,ha,dH,e',h3,h4⟩:=s.box b g' cs hb hc;have iZ:g'≠g:=λe=>Kb b (e ▸ hb);refine⟨h1,λj=>?_,ha,dH,e',ny g' _ iZ h3,h4.mono le (aV.1 hb).1⟩;simp only[aY.row];rw[aH (λhh=>iZ hh.1)];exact h2 j
 ·rw[Wn] at hr;obtain⟨h1,fn,tmps,d,h2,h3,h4⟩:=s.loop l g' r hl hr;have iZ:g'≠g:=by rintro rfl;obtain⟨_,_,_,h⟩:=Ce _ h2;cases h
  exact⟨h1,fn,tmps,d,ny g' _ iZ h2,h3.mono le,h4⟩
 ·rcases eM t ht with rfl|⟨wV,vt⟩
  ·simp only[aY.row,s.tn,if_true];refine⟨Aa,Kb,λj hj=>?_,cells,e,fz,nS,rfl,λj hj hl=>(zV nS j).trans (wQ j hj hl)⟩;rw[aH ah];exact iQ j ah
  ·have ajZ:=uQ wV;have e1:(K.row g off m cells.size (λj=>cells[j]?)).tk t=K.tk t:=le.tk t (by rw[s.tn];exact ajZ);rw[e1];obtain⟨h1,h2,h3,dH,e',fz',h4,h5,h6⟩:=s.tok t wV;refine⟨h1,h2,λj hj=>?_,dH,e',fz',ny _ _ vt h4,h5,λj hj hl=>?_⟩
   ·simp only[aY.row];rw[aH (λhh=>vt hh.1)];exact h3 j hj
   ·rw[<-h6 j hj hl,zV h4,zV (ny _ _ vt h4)]
 ·rcases eM t ht with rfl|⟨wV,vt⟩<;>rcases eM t' Hi with rfl|⟨Pq,ajX⟩
  ·rfl
  ·exfalso;have e1:(K.row g off m cells.size (λj=>cells[j]?)).tk t'=K.tk t':=le.tk t' (by rw[s.tn];exact uQ Pq);rw[e1] at mi;simp[aY.row,s.tn] at mi;exact ajX mi.symm
  ·exfalso;have e1:(K.row g off m cells.size (λj=>cells[j]?)).tk t=K.tk t:=le.tk t (by rw[s.tn];exact uQ wV);rw[e1] at mi;simp[aY.row,s.tn] at mi;exact vt mi
  ·have e1:(K.row g off m cells.size (λj=>cells[j]?)).tk t=K.tk t:=le.tk t (by rw[s.tn];exact uQ wV);have e2:(K.row g off m cells.size (λj=>cells[j]?)).tk t'=K.tk t':=le.tk t' (by rw[s.tn];exact uQ Pq);rw[e1,e2] at mi;exact s.pT t t' wV Pq mi
 ·obtain⟨h1,h2⟩:=s.md r hr;have iZ:r≠g:=by rintro rfl;obtain⟨_,_,_,h⟩:=Ce _ h2;cases h
  exact⟨h1,ny r _ iZ h2⟩
def aY.tight(K:aY)(g:Nat)(cells:Array aR):aY:={K with ic:=λg' j=>if g'=g then cells[j]? else K.ic g' j}
def bW.alI(s:bW K G ok w0 h w)(cells:Array aR)(e:aK):
 K.Le (K.tight w.heap.size cells)/\bW (K.tight w.heap.size cells) G ok w0 h {w with heap:=w.heap.push (.cells cells e)}:=by
 have BT:∀j,K.ic w.heap.size j=ar:=λj=>by
  cases hc:K.ic w.heap.size j with|none=>rfl|some c=>have:=s.Ay hc;omega
 have le:K.Le (K.tight w.heap.size cells):=by
  refine⟨rfl,λg j c hc=>?_,λ_ _ h=>h,λ_ _ h=>h,aM _,λ_ _=>rfl,λ_ h=>h,λ_ _=>rfl,λg j c hc=>by
   simp only[aY.tight] at hc;split at hc
   ·rename_i q;rw[q];exact .inr s.size
   ·exact .inl hc⟩
  simp only[aY.tight];rw[aH]
  ·exact hc
  ·rintro rfl;rw[BT] at hc;cases hc
 have p:=s.push (.cells cells e);refine⟨le,p.dh,p.size,λg j x hx=>?_,λg cs hg=>?_,p.lL,p.pW,λb g cs hb hc=>?_,p.oa,p.qI,λl g r hl hr=>?_,p.tn,λt ht=>?_,p.pT,p.md,s.all⟩
 ·simp only[aY.tight] at hx;split at hx
  ·subst_vars;rw[rW (cells:=cells) (e:=e) (fz:=(0,0)) bH];exact hx
  ·exact p.ic g j x hx
 ·obtain⟨dH,h1,h2⟩:=s.eR g cs hg;exact⟨dH,h1.mono le,λj c hj=>le.ic _ _ _ (h2 j c hj)⟩
 ·obtain⟨h1,h2,ha,dH,e',h3,h4⟩:=p.box b g cs hb hc;refine⟨h1,λj=>?_,ha,dH,e',h3,h4.mono le (aV.1 hb).1⟩;simp only[aY.tight];obtain⟨_,_,_,_,_,h3',_⟩:=s.box b g cs hb hc;rw[aH (by have:=oE h3';omega)];exact h2 j
 ·obtain⟨h1,fn,tmps,d,h2,h3,h4⟩:=p.loop l g r hl hr;exact⟨h1,fn,tmps,d,h2,h3.mono le,h4⟩
 ·obtain⟨h1,h2,h3,dH,e',fz,h4,h5⟩:=p.tok t ht;obtain⟨_,_,_,_,_,_,N2,_⟩:=s.tok t ht;refine⟨h1,h2,λj hj=>?_,dH,e',fz,h4,h5⟩;simp only[aY.tight];have:=oE N2;have e1:(K.tight w.heap.size cells).tk t=K.tk t:=rfl;rw[aH (by show(K.tk t).1≠_;omega)];exact h3 j hj
end
section
variable {P:bK}
def du{t:aK}{d:TypeDesc}(h:P.underlying t=aa d)(w:cB):(underlying t).run P w=.ok d w:=run_underlying h w
def ry{t:aK}{i:TypeInfo}(h:P.info? t=aa i)(w:cB):(typeInfo t).run P w=.ok i w:=by simp[typeInfo,h]
def ar6{t:aK}{n:Nat}(h:dC P t=aa n):∃i,P.info? t=aa i/\i.size=n:=by simpa [dC] using h
def nD{t:aK}{n:Nat}(h:dC P t=aa n)(w:cB):(sizeOf t).run P w=.ok n w:=by obtain⟨i,h1,h2⟩:=ar6 h;simp[sizeOf,ry h1,h2]
def Lr{t:aK}{b:Bool}(h:gU P t=aa b)(w:cB):(isAgg t).run P w=.ok b w:=by
 unfold gU at h;unfold isAgg;cases hu:P.underlying t with
 |none=>rw[hu] at h;cases h
 |some d=>rw[hu] at h;rw[Sem.run_bind,du hu];cases d<;>(injection h with h;subst h;rfl)
def Rm{t:aK}{z:AV}(h:jf P t=aa z)(w:cB):∃v,(zeroValue t).run P w=.ok v w/\z=sH v:=by
 unfold jf at h;split at h
 ·rename_i i hi;simp only[dy] at h;obtain⟨v,hv,rfl⟩:=h;exact⟨v,by simp[zeroValue,ry hi,hv],rfl⟩
 ·cases h
def NP{α:Type}{es:List (List α)}{sz}(hr:∀r∈es,r.length=sz):∀{i:Nat} {row:List α},es[i]?=aa row->(es.flatten.drop (i * sz)).take sz=row:=by
 induction es with
 |nil=>intro i row h;simp at h|cons r es ih=>
  have hl:r.length=sz:=hr r bH;intro i row h;cases i with|zero=>simp at h;subst h;simp[<-hl]|succ i=>have:=ih (λr fY=>hr r (by simp[fY])) (i:=i) (row:=row) (by simpa using h);rw[<-this];simp only[oL];rw[Da,show(i+1) * sz=r.length+i * sz by rw[hl,gI];omega];rw[pZ ah];simp
def NQ{α:Type}{es:List (List α)}{sz}(hr:∀r∈es,r.length=sz):∀n:Nat,(es.take n).flatten=es.flatten.take (n * sz):=by
 induction es with
 |nil=>intro n;simp|cons r es ih=>
  have hl:r.length=sz:=hr r bH;intro n;cases n with|zero=>simp|succ n=>rw[List.take_succ_cons,oL,oL,ih (λr hm=>hr r (by simp[hm])) n,show(n+1) * sz=r.length+n * sz by rw[hl,gI];omega];rw[IZ,gO (ah:r.length<=r.length+n * sz),(ah:r.length+n * sz - r.length=n * sz)]
def Va{α:Type}{es:List (List α)}{sz}(hr:∀r∈es,r.length=sz):∀n:Nat,(es.drop n).flatten=es.flatten.drop (n * sz):=by
 induction es with
 |nil=>intro n;simp|cons r es ih=>
  have hl:r.length=sz:=hr r bH;intro n;cases n with|zero=>simp|succ n=>rw[List.drop_succ_cons,oL,ih (λr hm=>hr r (by simp[hm])) n,show(n+1) * sz=r.length+n * sz by rw[hl,gI];omega];rw[Da,pZ (ah:r.length<=r.length+n * sz),(ah:r.length+n * sz - r.length=n * sz)];simp
def nq{α:Type}{es:List (List α)}{sz}(hr:∀r∈es,r.length=sz):es.flatten.length=es.length * sz:=by
 induction es with
 |nil=>simp|cons r es ih=>rw[oL,dE,ih (λr fY=>hr r (by simp[fY])),hr r bH,jn,gI];omega
end
section
variable {P:bK} {K:aY} {G:Nat->Option (List AV)} {ok:bm->Nat->Code->Bool} {w0 w:cB} {h:ao}
def βaa{b:Nat}{g:Nat}(s:bW K G ok w0 h w)(hb:K.β[b]?=aa g):∃cs,h.boxes[b]?=aa cs:=by
 have mh:b<h.boxes.length:=by rw[<-s.lL];exact(aV.1 hb).1
 exact⟨_,aT mh⟩
def Ue(s:bW K G ok w0 h w){a:AV}{cs:List AV}(hc:Bl G h a=aa cs){ca:aR}(hv:a8 K a ca):
 ∃g p eC,ca=.pointer (aa ⟨g,p,ar⟩)/\aS K cs eC/\∀(j:Nat) (c:aR),eC[j]?=aa c->w.cell? ⟨g,p+j,ar⟩=aa c:=by
 unfold Bl at hc;split at hc
 ·rename_i r off;simp only[dy] at hc;obtain⟨cs0,h0,rfl⟩:=hc;cases hv with
  |box b g _ hb=>
   obtain⟨_,_,_,cells,e,h3,h4⟩:=s.box b g cs0 hb h0;refine⟨g,off,(cells.toList.take cs0.length).drop off,rfl,h4.1.drop off,λj c hj=>?_⟩;rw[rW h3];simp only[oN,oh] at hj;split at hj
   ·simpa using hj
   ·cases hj
  |eR g _=>obtain⟨cells,h1,h2⟩:=s.eR g cs0 h0;refine⟨g,off,cells.drop off,rfl,h1.drop off,λj c hj=>?_⟩;exact s.ic _ _ _ (h2 (off+j) c (by simpa using hj))
 ·rename_i sz es i off;simp only[dy] at hc;obtain⟨row,h0,rfl⟩:=hc;cases hv with
  |elem _ _ _ _ g o p cells hr fU iQ hi hp ha=>
   refine⟨g,p,((cells.drop (i * sz)).take sz).drop off,rfl,?_,λj c hj=>?_⟩
   ·have:=((fU.drop (i * sz)).take sz).drop off
    rwa [NP hr h0] at this
   ·refine s.ic _ _ _ ?_;have h1:cells[i * sz+off+j]?=aa c:=by
     simp only[oN,oh] at hj;split at hj
     ·rw[<-hj];congr 1;omega
     ·cases hj
    have:=iQ _ _ h1;rw[hp];rw[<-this];congr 1;omega
 ·cases hc
def X7(s:bW K G ok w0 h w){t:aK}{a x:AV}(he:aI P G h t a=aa x){ca:aR}(hv:a8 K a ca):
 ∃g p v,ca=.pointer (aa ⟨g,p,ar⟩)/\(loadVar t ⟨g,p,ar⟩).run P w=.ok v w/\a8 K x v:=by
 unfold aI at he;split at he
 ·rename_i cs BD cC;obtain⟨g,p,eC,rfl,fU,ql⟩:=Ue s cC hv;split at he
  ·rename_i n hn;split at he
   ·rename_i eI;injection he with he;subst he;have hl:=run_loadCells_list (P:=P) w ⟨g,p,ar⟩ (eC.take n) (λj v hj=>by
     rw[Addr.mF];refine ql j v ?_;simp only[oh] at hj;split at hj
     ·exact hj
     ·cases hj)
    have bZ:(eC.take n).length=n:=(by rw[fj,<-fU.length];omega);rw[bZ] at hl;exact⟨g,p,.agg (eC.take n).toArray,rfl,by simp[loadVar,Lr BD,nD hn,hl],.agg _ _ (by simpa using fU.take n)⟩
   ·cases he
  ·cases he
 ·rename_i cs BD cC;obtain⟨g,p,eC,rfl,fU,ql⟩:=Ue s cC hv;cases cs with
  |nil=>simp at he|cons y cs=>
   simp at he;subst he;cases fU with|cons _ c _ dO hx hs=>have:=ql 0 c rfl;simp only[A4] at this;exact⟨g,p,c,rfl,by simp[loadVar,Lr BD,this],hx⟩
 ·cases he
def Il{g:Nat}(off:Nat)(e:aK)(fz:Nat × Nat):∀(vs:List aR) (i:Nat) (cells:Array aR) (w:cB),
 w.heap[g]?=aa (.cells cells e fz)->off+i+vs.length<=cells.size->(∀v∈vs,Er v=ai)->(∀j,off+i<=j->j<off+i+vs.length->nt fz j=az)->
 ∃w' dH,(storeCells ⟨g,off,ar⟩ vs i).run P w=.ok () w'/\tP w w' g (.cells dH e fz)/\
  dH.toList=cells.toList.take (off+i)++vs++cells.toList.drop (off+i+vs.length):=by
 intro vs
 induction vs with
 |nil=>intro i cells w hg hl h1 hf;exact⟨w,cells,rfl,⟨rfl,rfl,rfl,rfl,λ_ _=>rfl,hg⟩,by simp⟩|cons v rest ih=>
  intro i cells w hg hl h1 hf;simp only[jn] at hl hf;have hi:off+i<cells.size:=by omega
  have hv:v.oneCell'=ai:=by have:=h1 v bH;cases v<;>first|rfl|simp[Er] at this
  have ct:(store ((⟨g,off,ar⟩:Addr).add i) v).run P w=.ok () (w.setCell ⟨g,off+i,ar⟩ v):=by rw[Addr.mF,run_store P w _ v _ hv,rW hg,zV hg,hf (off+i) ah ah,mz hi];simp
  have nS:(w.setCell ⟨g,off+i,ar⟩ v).heap[g]?=aa (.cells (cells.setIfInBounds (off+i) v) e fz):=by simp[World.setCell,CJ,hg]
  obtain⟨w',dH,hr,hc,nN⟩:=ih (i+1) _ _ nS (by simp;omega) (λx hx=>h1 x (by simp[hx])) (λj hj hj'=>hf j ah ah);refine⟨w',dH,by simp only[storeCells,Sem.run_bind,ct,Result.andThen_ok,hr],⟨hc.os,hc.tape,hc.output,by rw[hc.size];simp[World.setCell],λk hk=>?_,hc.this⟩,?_⟩
  ·rw[hc.other k hk];simp only[World.setCell,CJ];rw[aH (by exactλe=>hk e.symm)]
  ·rw[nN];simp only[abp,jn];have bZ:off+i<cells.toList.length:=(by simpa using hi);rw[A2,aG bZ];rw[(ah:off+(i+1)=off+i+1),(ah:off+i+(rest.length+1)=off+i+1+rest.length)];rw[IZ,Da];have h1:(cells.toList.take (off+i)).length=off+i:=(by simp;omega);rw[h1];have h2:(cells.toList.take (off+i)).take (off+i+1)=cells.toList.take (off+i):=gO ah;have h3:(cells.toList.take (off+i)).drop (off+i+1+rest.length)=[]:=pZ ah;rw[h2,h3];have h4:off+i+1 - (off+i)=1:=(by omega);have h5:off+i+1+rest.length - (off+i)=rest.length+1:=(by omega);rw[h4,h5];simp
def ark{g off fC aC:Nat}{e:aK}(qY:fC=off∨aC=0){vs:List aR}{cells:Array aR}{w:cB}(hz:aC=0->vs=[])(hg:w.heap[g]?=aa (.cells cells e (0,0)))(hl:off+vs.length<=cells.size)(h1:∀v∈vs,Er v=ai):
 ∃w' dH,(storeCells ⟨g,fC,ar⟩ vs 0).run P w=.ok () w'/\tP w w' g (.cells dH e (0,0))/\dH.toList=cells.toList.take (off+0)++vs++cells.toList.drop (off+0+vs.length):=by
 rcases qY with rfl|h0
 ·exact Il _ e (0,0) vs 0 cells w hg ah h1 (λj _ _=>by simp[nt])
 ·have:=hz h0;subst this;exact⟨w,cells,rfl,⟨rfl,rfl,rfl,rfl,λ_ _=>rfl,hg⟩,by simp⟩
def aau{dh cs:List AV}{vo vc:List aR}(off:Nat)(h1:aS K dh vo)(h2:aS K cs vc):aS K (eT dh off cs) (vo.take off++vc++vo.drop (off+vc.length)):=by unfold eT;rw[h2.length];exact((h1.take off).append h2).append (h1.drop _)
def aat{dh cs}(off)(h1:dh.all AV.ek=ai)(h2:cs.all AV.ek=ai):(eT dh off cs).all AV.ek=ai:=by
 rw[ej] at h1 h2 ⊢;intro x hx;simp only[eT,vX] at hx;rcases hx with(hx|hx)|hx
 ·exact h1 x (oO hx)
 ·exact h2 x hx
 ·exact h1 x (Mv hx)
def Rt{α:Type}{vo vc:List α}{off}(h:off+vc.length<=vo.length):(vo.take off++vc++vo.drop (off+vc.length)).length=vo.length:=by simp only[dE,fj,hD];omega
def asn{α:Type}{vo vc:List α}{off n}(h:off+vc.length<=n)(hn:n<=vo.length):(vo.take off++vc++vo.drop (off+vc.length)).take n=(vo.take n).take off++vc++(vo.take n).drop (off+vc.length):=by
 have e1:(vo.take n).take off=vo.take off:=by rw[List.take_take,Nat.min_eq_left ah]
 have e2:(vo.take n).drop (off+vc.length)=(vo.drop (off+vc.length)).take (n - (off+vc.length)):=by rw[List.drop_take]
 rw[e1,e2,IZ];have h1:(vo.take off++vc).length=off+vc.length:=by simp;omega
 rw[gO ah,h1]
def tP.same{w w'}{g}{o}(c:tP w w' g o)(h:w.heap[g]?=some o):w'.heap=w.heap:=by
 apply Array.ext_getElem?;intro k;by_cases hk:k=g
 ·subst hk;rw[c.this,h]
 ·exact c.other k hk
def bW.RC{w':cB}(s:bW K G ok w0 h w){b g off:Nat}{cs dh:List AV}{vs:List aR}{cells dH:Array aR}{e:aK}(hb:K.β[b]?=aa g)(hold:h.boxes[b]?=aa dh)(qn:off+cs.length<=dh.length)
 (nS:w.heap[g]?=aa (.cells cells e (0,0))) (c:tP w w' g (.cells dH e (0,0))) (nN:dH.toList=cells.toList.take (off+0)++vs++cells.toList.drop (off+0+vs.length)) (hv:aS K cs vs) (qk:cs.all AV.ek=ai):
 bW K G ok w0 {h with boxes:=h.boxes.set b (eT dh off cs)} w':=by
 obtain⟨k1,k2,ka,cells0,e0,k3,k4⟩:=s.box b g dh hb hold;rw[nS] at k3;injection k3 with k3;injection k3 with k3 k3';subst k3;simp only[A4] at nN;have eI:dh.length<=cells.toList.length:=by have:=k4.le;simpa using this
 by_cases bO:dh=[]
 ·subst bO;have hc:cs=[]:=by cases cs with|nil=>rfl|cons _ _=>simp at qn
  subst hc;have fU:vs=[]:=by cases hv;rfl
  subst fU;have hw:dH=cells:=by apply Array.toList_inj.1;rw[nN];simp
  subst hw;have hh:=c.same nS;have yE:h.boxes.set b (eT [] off [])=h.boxes:=by
   rw[show eT ([]:List AV) off []=[] by simp[eT]];apply qL;intro k;rw[mA];split
   ·rename_i e;subst e;rw[aG (aV.1 hold).1,hold]
   ·rfl
  rw[yE];exact s.same hh c.tape c.os c.output
 ·have hl:(eT dh off cs).length=dh.length:=by unfold eT;exact Rt qn
  refine s.arK hb hold bO hl (λc0 e0 q=>?_) c ?_ (aat off ka qk)
  ·rw[nS] at q;injection q with q;injection q with q;subst q;have:dH.toList.length=cells.toList.length:=(by rw[nN];exact Rt (by rw[<-hv.length];omega));simp only[xF] at this;omega
  ·rw[hl,nN,asn (by rw[<-hv.length];exact qn) eI];exact aau off k4.1 hv
def F5{cs:List AV}{vs:List aR}(h:aS K cs vs)(ha:cs.all AV.ek=ai):∀v∈vs,Er v=ai:=by intro v hv;obtain⟨i,hi⟩:=List.getElem?_of_mem hv;obtain⟨x,hx,hr⟩:=h.get' hi;exact akn (ej.1 ha x (dn hx)) hr
def JH(j):nt (0,0) j=az:=by simp[nt]
def asY(s:bW K G ok w0 h w){t:aK}{a x:AV}{h':ao}(he:cI P h t a x=aa h'){ca cx:aR}(hv:a8 K a ca)(hx:a8 K x cx):
 ∃w',(Instr.storeAt t ca cx).run P w=.ok () w'/\bW K G ok w0 h' w':=by
 unfold cI at he;split at he
 ·rename_i b off cs n cC hn;split at he
  ·rename_i dh hold;split at he
   ·rename_i bZ;injection he with he;subst he;cases hv with|box _ g _ hb=>obtain⟨k1,k2,ka,cells,e,k3,k4⟩:=s.box b g dh hb hold;obtain⟨r1,r2⟩:=Jp cC hx;have dm:cx.cells.size=n:=(by rw[<-bZ.1,r1.length];simp);have yF:dh.length<=cells.size:=k4.le;obtain⟨w',dH,q1,q2,q3⟩:=Il (P:=P) off e (0,0) cx.cells.toList 0 cells w k3 (by simp;omega) (F5 r1 r2) (λj _ _=>JH j);refine⟨w',by simp[Instr.storeAt,Instr.sureAddr,storeVar,nD hn,dm,q1],s.RC hb hold ah k3 q2 q3 r1 r2⟩
   ·cases he
  ·cases he
 ·cases he
end
section
variable {P:bK} {K:aY} {G:Nat->Option (List AV)} {ok:bm->Nat->Code->Bool} {w0 w:cB} {h:ao}
def Yields(K:aY)(G:Nat->Option (List AV))(ok:bm->Nat->Code->Bool)(w0:cB)(x:AV)(h':ao)(r:Result Next):Prop:=
 ∃K' v w',K.Le K'/\bW K' G ok w0 h' w'/\a8 K' x v/\(r=.ok (.value v) w'∨(r=.ok .skip w'/\v=undef))
def Yields.nj(s:bW K G ok w0 h w){x:AV}{v:aR}(hx:a8 K x v){r:Result Next}(hr:r=.ok (.value v) w):Yields K G ok w0 x h r:=
 ⟨K,v,w,.refl K,s,hx,.inl hr⟩
def ahV(off):∀(l:List aR) (i:Nat) (cells:Array aR),off+i+l.length<=cells.size->
 ((l.zipIdx i).foldl (λcs p=>cs.setIfInBounds (off+p.2) p.1) cells).toList=cells.toList.take (off+i)++l++cells.toList.drop (off+i+l.length):=by
 intro l
 induction l with
 |nil=>intro i cells _;simp|cons v rest ih=>
  intro i cells hl;simp only[jn] at hl;have hi:off+i<cells.size:=by omega
  simp only[List.zipIdx_cons,uJ];rw[ih (i+1) _ (by simp;omega)];simp only[abp,jn];have bZ:off+i<cells.toList.length:=by simpa using hi
  rw[A2,aG bZ];rw[(ah:off+(i+1)=off+i+1),(ah:off+i+(rest.length+1)=off+i+1+rest.length)];rw[IZ,Da];have h1:(cells.toList.take (off+i)).length=off+i:=by simp;omega
  rw[h1];have h2:(cells.toList.take (off+i)).take (off+i+1)=cells.toList.take (off+i):=gO ah;have h3:(cells.toList.take (off+i)).drop (off+i+1+rest.length)=[]:=pZ ah;rw[h2,h3];have h4:off+i+1 - (off+i)=1:=by omega
  have h5:off+i+1+rest.length - (off+i)=rest.length+1:=by omega
  rw[h4,h5];simp
def auM(f)(vs cells:Array aR):vs.zipIdx.foldl f cells=(vs.toList.zipIdx 0).foldl f cells:=by rw[<-Array.foldl_toList,Array.toList_zipIdx]
def UW{place}:∀{parts:List (Nat × AV)} {cells out:List AV},uZ place cells parts=aa out->cells.all AV.ek=ai->out.all AV.ek=ai:=by
 intro parts
 induction parts with
 |nil=>intro cells out he hc;simp[uZ] at he;subst he;exact hc|cons p rest ih=>
  intro cells out he hc;simp only[uZ] at he;split at he
  ·rename_i off size cs hp cC;split at he
   ·refine ih he (aat off hc ?_);unfold AV.cD at cC;split at cC
    ·split at cC
     ·injection cC with cC;subst cC;assumption
     ·cases cC
    ·cases cC
    ·cases cC
    ·rename_i h1 h2 h3;injection cC with cC;subst cC;have hx:p.2.ek=ai:=by cases hq:p.2<;>first|rfl|exact absurd hq (h1 _)|exact absurd hq (h2 _)|exact absurd hq h3
     simp[hx]
   ·cases he
  ·cases he
def JB{place:Nat->Option (Nat × Nat)}:∀{parts:List (Nat × AV)} {cells out:List AV} {parts':List (Nat × aR)} {dH:Array aR},
 uZ place cells parts=aa out->aS K cells dH.toList->(parts'.map (·.1)=parts.map (·.1))->aS K (parts.map (·.2)) (parts'.map (·.2))->
 ∃out',Instr.fill place dH parts'=aa out'/\aS K out out'.toList:=by
 intro parts
 induction parts with
 |nil=>
  intro cells out parts' dH he hc h1 h2;have:parts'=[]:=by simpa using h1
  subst this;simp[uZ] at he;subst he;exact⟨dH,rfl,hc⟩
 |cons p rest ih=>
  obtain⟨i,x⟩:=p;intro cells out parts' dH he hc h1 h2;cases parts' with
  |nil=>simp at h1|cons p' rest'=>
   obtain⟨i',v⟩:=p';simp only[eK,List.cons.injEq] at h1;obtain⟨rfl,h1⟩:=h1;simp only[eK] at h2;cases h2 with
   |cons _ _ _ _ hx hs=>
    simp only[uZ] at he;split at he
    ·rename_i off size cs hp cC;split at he
     ·rename_i bZ;obtain⟨r1,_⟩:=Jp cC hx;have dm:v.cells.size=size:=(by rw[<-bZ.1,r1.length];simp);have yF:dH.size=cells.length:=(by rw[hc.length];simp);have Ot:=ahV off v.cells.toList 0 dH (by simp;omega);obtain⟨out',q1,q2⟩:=ih (dH:=v.cells.zipIdx.foldl (λcs (c,j)=>cs.setIfInBounds (off+j) c) dH) he (by rw[auM,Ot];simpa using aau off hc r1) h1 hs;refine⟨out',?_,q2⟩;simp only[Instr.fill,hp];rw[aH (by simp;omega)];exact q1
     ·cases he
    ·cases he
def Qr{ρ:bT->AV}{ρ':bT->aR}(hρ:∀x,a8 K (ρ x) (ρ' x))(parts:Array (Nat × bT)):
 ((parts.map λp=>(p.1,ρ' p.2)).toList.map (·.1)=(parts.toList.map λp=>(p.1,ρ p.2)).map (·.1))/\
 aS K ((parts.toList.map λp=>(p.1,ρ p.2)).map (·.2)) ((parts.map λp=>(p.1,ρ' p.2)).toList.map (·.2)):=by
 simp only[CN,AZ];exact⟨rfl,aS.map_mk λp _=>hρ p.2⟩
def CH{t:aK}{zero:List AV}(hz:(jf P t).bind AV.cD=aa zero)(w:cB):∃v,(zeroValue t).run P w=.ok v w/\aS K zero v.cells.toList/\zero.all AV.ek=ai:=by simp only[zD] at hz;obtain⟨z,h1,h2⟩:=hz;obtain⟨v,h3,rfl⟩:=Rm h1 w;obtain⟨r1,r2⟩:=Jp h2 (KG (K:=K) v);exact⟨v,h3,r1,r2⟩
def alp(fields:Array Field)(eH:∀f∈fields.toList,(P.info? f.type).isSome=ai)(w:cB):
 ∃places:Array (Nat × Nat),(fields.mapM (m:=Sem) λ(f:Field)=>do pure (f.offset,<-sizeOf f.type)).run P w=.ok places w/\∀i,places[i]?=placesOf P fields i:=by
 have key:∀(l:List Field),(∀f∈l,(P.info? f.type).isSome=ai)->
  (l.mapM (m:=Sem) λ(f:Field)=>do pure (f.offset,<-sizeOf f.type)).run P w=.ok (l.map λf=>(f.offset,(dC P f.type).getD 0)) w:=by
  intro l
  induction l with
  |nil=>intro _;rfl|cons f l ih=>intro hl;have hf:=hl f bH;obtain⟨i,hi⟩:=acI.1 hf;have hs:dC P f.type=aa i.size:=(by simp[dC,hi]);rw[List.mapM_cons,Sem.run_bind,Sem.run_bind,nD hs];simp only[Result.andThen_ok,Sem.run_pure,Sem.run_bind,ih (λf hf=>hl f (by simp[hf])),eK,hs,I6]
 refine⟨(fields.toList.map λf=>(f.offset,(dC P f.type).getD 0)).toArray,?_,λi=>?_⟩
 ·rw[Array.mapM_eq_mapM_toList,Sem.run_map,key fields.toList eH];rfl
 ·simp only[jt,List.getElem?_map,CK,placesOf];cases hf:fields[i]? with|none=>rfl|some f=>have hm:f∈fields.toList:=(by simpa using Array.mem_of_getElem? hf);obtain⟨i,hi⟩:=acI.1 (eH f hm);simp[dC,hi]
def ae5{t:aK}{parts:Array (Nat × bT)}{ρ:bT->AV}{ρ':bT->aR}(hρ:∀x,a8 K (ρ x) (ρ' x)){x:AV}
 (he:mW P t (parts.toList.map λp=>(p.1,ρ p.2))=aa x) (w:cB):∃v,(Instr.build t (parts.map λp=>(p.1,ρ' p.2))).run P w=.ok v w/\a8 K x v:=by
 obtain⟨p1,p2⟩:=Qr hρ parts;unfold mW at he;split at he
 ·rename_i fields zero hu hz;obtain⟨z,jk,ia,_⟩:=CH (K:=K) hz w;split at he
  ·rename_i eH;simp only[dy] at he;obtain⟨out,ho,rfl⟩:=he;obtain⟨places,ui,ni⟩:=alp (P:=P) fields (λf hf=>Array.all_eq_true'.1 eH f (by simpa using hf)) w;have wU:placesOf P fields=(places[·]?):=(by funext i;exact(ni i).symm);rw[wU] at ho;obtain⟨out',q1,q2⟩:=JB ho ia p1 p2;exact⟨.agg out',by simp only[Instr.build,Sem.run_bind,jk,Result.andThen_ok,du hu,ui,q1,Sem.run_pure],.agg _ _ q2⟩
  ·cases he
 ·rename_i n elem zero hu hz;obtain⟨z,jk,ia,_⟩:=CH (K:=K) hz w;split at he
  ·rename_i size hs;simp only[dy] at he;obtain⟨out,ho,rfl⟩:=he;obtain⟨out',q1,q2⟩:=JB ho ia p1 p2;exact⟨.agg out',by simp only[Instr.build,Sem.run_bind,jk,Result.andThen_ok,du hu,nD hs,q1,Sem.run_pure],.agg _ _ q2⟩
  ·cases he
 ·cases he
def UU{sz}:∀{parts:List (Nat × AV)} {ae out:List (List AV)},(∀r∈ae,r.length=sz)->DM sz ae parts=aa out->
 uZ (λi=>aa (i * sz,sz)) ae.flatten parts=aa out.flatten/\(∀r∈out,r.length=sz)/\out.length=ae.length:=by
 intro parts
 induction parts with
 |nil=>intro ae out hr he;simp[DM] at he;subst he;exact⟨rfl,hr,rfl⟩|cons p rest ih=>
  obtain⟨i,x⟩:=p;intro ae out hr he;simp only[DM] at he;split at he
  ·rename_i cs cC;split at he
   ·rename_i bZ;have fY:∀r∈ae.set i cs,r.length=sz:=λr hm=>by
     rcases List.mem_or_eq_of_mem_set hm with hm|rfl
     ·exact hr r hm
     ·exact bZ.1
    obtain⟨q1,q2,q3⟩:=ih fY he;have nw:=nq hr;have eI:i * sz+sz<=ae.flatten.length:=(by rw[nw];have:(i+1) * sz<=ae.length * sz:=om _ bZ.2;rw[gI] at this;omega);have yE:(ae.set i cs).flatten=eT ae.flatten (i * sz) cs:=by
     clear q1 q2 q3 ih he eI fY;unfold eT;rw[bZ.1]
     induction ae generalizing i with
     |nil=>simp at bZ|cons r ae ih2=>
      have cS:r.length=sz:=hr r bH;cases i with|zero=>simp[<-cS]|succ i=>have:=ih2 i (λr hm=>hr r (by simp[hm])) ⟨bZ.1,by simpa using bZ.2⟩ (nq (λr hm=>hr r (by simp[hm])));simp only[List.set_cons_succ,oL,this];rw[show(i+1) * sz=r.length+i * sz by rw[cS,gI];omega,IZ,Da];rw[gO (ah:r.length<=r.length+i * sz),pZ (ah:r.length<=r.length+i * sz+sz)];rw[(ah:r.length+i * sz - r.length=i * sz),(ah:r.length+i * sz+sz - r.length=i * sz+sz)];simp
    refine⟨?_,q2,by rw[q3];simp⟩;simp only[uZ,cC];rw[aG ⟨bZ.1,eI⟩,<-yE];exact q1
   ·cases he
  ·cases he
def HP(zero:Array aR)(n):((zh (n * zero.size)).map (zero[·%zero.size]!)).toList=(bg n zero.toList).flatten:=by
 induction n with
 |zero=>simp|succ n ih=>
  rw[List.replicate_succ',qM,<-ih];simp only[CN,Array.toList_range,gI,Nat.one_mul,List.range_add,mT,AZ,oL,Su,jX];congr 1;apply List.ext_getElem
  ·simp
  ·intro i h1 h2;have aB:i<zero.size:=(by simpa using h1);simp[Nat.mod_eq_of_lt aB,aB]
def aS.Bw{zero:List AV}{z:List aR}(hz:aS K zero z):∀n:Nat,aS K (bg n zero).flatten (bg n z).flatten
 |0=>.nil
 |n+1=>by simp only[List.replicate_succ,oL];exact hz.append (aS.Bw hz n)
def KU{zero}(hz:zero.all AV.ek=ai)(n):(bg n zero).flatten.all AV.ek=ai:=by rw[ej] at hz ⊢;intro x hx;simp only[List.mem_flatten,Sx] at hx;obtain⟨l,⟨_,rfl⟩,hx⟩:=hx;exact hz x hx
def ae4(s:bW K G ok w0 h w){t:aK}{len:Nat}{parts:Array (Nat × bT)}{ρ:bT->AV}{ρ':bT->aR}(hρ:∀x,a8 K (ρ x) (ρ' x)){x:AV}
 (he:fX P t len (parts.toList.map λp=>(p.1,ρ p.2))=aa x):
 ∃K' v w',K.Le K'/\bW K' G ok w0 h w'/\a8 K' x v/\(Instr.buildSlice t len (parts.map λp=>(p.1,ρ' p.2))).run P w=.ok v w':=by
 obtain⟨p1,p2⟩:=Qr hρ parts;unfold fX at he;split at he
 ·rename_i elem hu;split at he
  ·rename_i size zero hs hz;obtain⟨z,jk,ia,yJ⟩:=CH (K:=K) hz w;split at he
   ·rename_i hc;simp only[dy] at he;obtain⟨out,ho,rfl⟩:=he;obtain⟨f1,f2,f3⟩:=UU (λr hr=>by rw[(Sx.1 hr).2];exact hc.2.1) ho;have wW:z.cells.size=size:=(by rw[<-hc.2.1,ia.length];simp);have nN:((zh (len * size)).map (z.cells[·%z.cells.size]!)).toList=(bg len z.cells.toList).flatten:=(by rw[<-wW];exact HP _ _);obtain⟨out',q1,q2⟩:=JB (dH:=(zh (len * size)).map (z.cells[·%z.cells.size]!)) f1 (by rw[nN];exact ia.Bw len) p1 p2;obtain⟨le,s'⟩:=s.alI out' elem;refine⟨_,.slice (aa ⟨w.heap.size,0,ar⟩) len len,_,le,s',?_,?_⟩
    ·refine .list .tight size out w.heap.size 0 len len out'.toList (by rw[f3];simp) f2 (q2.mono le) (λj c hj=>?_) ⟨aM _,rfl⟩ (UW f1 (KU yJ len));simp only[aY.tight,po,if_true];simpa using hj
    ·by_cases h0:len * size=0
     ·have N1:len=0:=by
       rcases acx.1 h0 with h|h
       ·exact h
       ·omega
      subst N1;simp only[FZ] at q1;have e1:(zh 0).map (λx=>(#[]:Array aR)[x%(#[]:Array aR).size]!)=(zh 0).map (z.cells[·%z.cells.size]!):=(by simp);simp only[Instr.buildSlice,Sem.run_bind,du hu,Result.andThen_ok,nD hs,FZ];simp only[qO,gt_iff_lt,if_false,acH,if_true,Sem.run_pure,Result.andThen_ok,e1,q1,newRow,Sem.run_bind,run_newObj]
     ·simp only[Instr.buildSlice,Sem.run_bind,du hu,Result.andThen_ok,nD hs];rw[aH ah,aH h0];simp only[Sem.run_pure,Sem.run_bind,jk,Result.andThen_ok,q1,newRow,run_newObj]
   ·cases he
  ·cases he
 ·cases he
def adB(s:bW K G ok w0 h w){t:aK}{cs:List AV}(hz:(jf P t).bind AV.cD=aa cs):
 ∃K' v w',K.Le K'/\bW K' G ok w0 (h.box cs).2 w'/\a8 K' (h.box cs).1 v/\(Instr.alloc t ai (.tuple #[])).run P w=.ok v w':=by
 obtain⟨z,jk,ia,yJ⟩:=CH (K:=K) hz w;obtain⟨q1,q2⟩:=s.Qa t ia yJ;exact⟨_,_,_,K.PO _,q1,q2,by simp[Instr.alloc,jk,newVar,newRow]⟩
def aeU(s:bW K G ok w0 h w){t:aK}{x:AV}{cs:List AV}(hc:x.cD=aa cs){c:aR}(hx:a8 K x c):
 ∃K' v w',K.Le K'/\bW K' G ok w0 (h.box cs).2 w'/\a8 K' (h.box cs).1 v/\(Instr.box t c).run P w=.ok v w':=by
 obtain⟨r1,r2⟩:=Jp hc hx;obtain⟨q1,q2⟩:=s.Qa t r1 r2;exact⟨_,_,_,K.PO _,q1,q2,by simp[Instr.box,newVar,newRow]⟩
def aln(s:bW K G ok w0 h w){t:aK}{l c x:AV}{h':ao}(he:yS P h t l c=aa (x,h')){vl vc:aR}(hl:a8 K l vl)(hc:a8 K c vc):
 ∃K' v w',K.Le K'/\bW K' G ok w0 h' w'/\a8 K' x v/\(Instr.makeSlice t vl vc).run P w=.ok v w':=by
 unfold yS at he;split at he
 ·rename_i elem kl l kc c hu;obtain⟨rfl,_⟩:=hl.iV;obtain⟨rfl,_⟩:=hc.iV;split at he
  ·rename_i i zero hi hz;obtain⟨z,jk,ia,yJ⟩:=CH (K:=K) hz w;split at he
   ·rename_i Oh;obtain⟨h1,h2,h3,h4,h5,h6⟩:=Oh;injection he with he;obtain⟨rfl,rfl⟩:=iO he;have hzero:i.zero=aa z:=by
     simp only[zeroValue,Sem.run_bind,ry hi,Result.andThen_ok] at jk;cases Hm:i.zero with|none=>rw[Hm] at jk;simp at jk|some v=>rw[Hm] at jk;simp at jk;rw[jk]
    have wW:z.cells.size=i.size:=(by rw[<-h6,ia.length];simp);have mo:=run_make (P:=P) w t elem i z hu hi hzero kl kc l c h1 h2 h4 ah;have nN:(madeCells z.cells (c.toNat * i.size)).toList=(bg c.toNat z.cells.toList).flatten:=(by rw[<-wW];exact HP _ _);obtain⟨q1,q2⟩:=s.Qa (cells:=madeCells z.cells (c.toNat * i.size)) elem (by rw[nN];exact ia.Bw _) (KU yJ _);cases q2 with|box _ _ _ hb=>exact⟨_,_,_,K.PO _,q1,.arr _ _ _ _ _ _ _ hb ah (aM _) (.inl rfl) (.inl rfl),mo⟩
   ·cases he
  ·cases he
 ·cases he
def rT{hi:Nat}{x:Option AV}{d n:Nat}(he:gE hi x d=aa n){x':Option aR}(hx:∀a,x=aa a->∃c,x'=aa c/\a8 K a c)(hn:x=ar->x'=ar)(w:cB):
 (x'=ar/\n=d/\x=ar)∨(∃c,x'=aa c/\(∀(top:Nat) (code:Go.BoundsCode),hi<=top->(Instr.sliceBound c top code).run P w=.ok n w)/\n<=hi/\x.isSome=ai):=by
 unfold gE at he;split at he
 ·injection he with he;subst he;exact .inl ⟨hn rfl,rfl,rfl⟩
 ·rename_i _ k m;split at he
  ·rename_i hc;injection he with he;subst he;obtain⟨c,rfl,hv⟩:=hx _ rfl;obtain⟨rfl,_⟩:=hv.iV;refine .inr ⟨_,rfl,λtop code ht=>?_,by omega,rfl⟩;have:m<=(top:Int):=(by omega);simp[Instr.sliceBound,asIntOf,hc.1,this]
  ·cases he
 ·cases he
def Du{lo hi mx:Option AV}{lo' BS mx':Option aR}(qo:∀a,lo=aa a->∃c,lo'=aa c/\a8 K a c)(nlo:lo=ar->lo'=ar)
 (tv:∀a,hi=aa a->∃c,BS=aa c/\a8 K a c) (nhi:hi=ar->BS=ar) (qs:∀a,mx=aa a->∃c,mx'=aa c/\a8 K a c) (nmx:mx=ar->mx'=ar)
 {top aC len m hb l:Nat} (isSlice:Bool) (e1:gE top mx top=aa m) (e2:gE m hi len=aa hb) (e3:gE hb lo 0=aa l)
 (bZ:len<=aC) (Xc:top<=aC) (B1:mx.isSome=ai->hi.isSome=ai) (w:cB):
 ∃m',(Instr.sliceBounds isSlice len aC lo' BS mx').run P w=.ok (l,hb,m') w/\(mx=ar->m'=aC/\m=top)/\(mx.isSome=ai->m'=m)/\l<=hb/\(hi=ar->hb=len)/\hb<=m'/\(hi.isSome=ai->hb<=m):=by
 rcases rT (P:=P) e1 qs nmx w with⟨rfl,rfl,rfl⟩|⟨c1,rfl,q1,qp,bF⟩
 ·rcases rT (P:=P) e2 tv nhi w with⟨rfl,rfl,rfl⟩|⟨c2,rfl,q2,uh,jr⟩
  ·rcases rT (P:=P) e3 qo nlo w with⟨rfl,rfl,rfl⟩|⟨c3,rfl,q3,GP,_⟩
   ·exact⟨aC,by simp[Instr.sliceBounds],λ_=>⟨rfl,rfl⟩,bH,cG _,λ_=>rfl,bZ,by simp⟩
   ·have q3':=λcode=>q3 hb code (aM _);exact⟨aC,by simp[Instr.sliceBounds,q3'],λ_=>⟨rfl,rfl⟩,bH,GP,λ_=>rfl,bZ,by simp⟩
  ·have q2':=λcode=>q2 aC code ah;rcases rT (P:=P) e3 qo nlo w with⟨rfl,rfl,rfl⟩|⟨c3,rfl,q3,GP,_⟩
   ·exact⟨aC,by simp[Instr.sliceBounds,q2'],λ_=>⟨rfl,rfl⟩,bH,cG _,λe=>by simp[e] at jr,by omega,λ_=>uh⟩
   ·have q3':=λcode=>q3 hb code (aM _);exact⟨aC,by simp[Instr.sliceBounds,q2',q3'],λ_=>⟨rfl,rfl⟩,bH,GP,λe=>by simp[e] at jr,by omega,λ_=>uh⟩
 ·have jr:=B1 bF;have q1':=λcode=>q1 aC code Xc;rcases rT (P:=P) e2 tv nhi w with⟨_,_,rfl⟩|⟨c2,rfl,q2,uh,_⟩
  ·simp at jr
  ·have q2':=λcode=>q2 m code (aM _);rcases rT (P:=P) e3 qo nlo w with⟨rfl,rfl,rfl⟩|⟨c3,rfl,q3,GP,_⟩
   ·exact⟨m,by simp[Instr.sliceBounds,q1',q2'],λe=>by simp[e] at bF,λ_=>rfl,cG _,λe=>by simp[e] at jr,uh,λ_=>uh⟩
   ·have q3':=λcode=>q3 hb code (aM _);exact⟨m,by simp[Instr.sliceBounds,q1',q2',q3'],λe=>by simp[e] at bF,λ_=>rfl,GP,λe=>by simp[e] at jr,uh,λ_=>uh⟩
def Qm{ρ:bT->AV}{ρ':bT->aR}(hρ:∀x,a8 K (ρ x) (ρ' x))(o:Option bT):
 (∀a,o.map ρ=aa a->∃c,o.map ρ'=aa c/\a8 K a c)/\(o.map ρ=ar->o.map ρ'=ar):=by
 cases o with|none=>exact⟨λa h=>(by cases h),λ_=>rfl⟩|some x=>exact⟨λa h=>⟨_,rfl,(by injection h with h;subst h;exact hρ x)⟩,λh=>(by cases h)⟩
def ak3{k:Tok}{sz:Nat}{es:List (List AV)}{g off aC size l hb m':Nat}{toEnd w9:Bool}
 (hv:a8 K (.list k sz es) (.slice (aa ⟨g,off,ar⟩) es.length aC)) (dm:size=sz∨es=[]) (hl:l<=hb) (hh:hb<=es.length) (hm:hb<=m') (jy:m'<=aC)
 (tq:toEnd=ai->hb=es.length/\m'=aC) (OL:w9=ai->m'=hb):
 a8 K (.list (qg k toEnd w9 (hb - l)) sz ((es.take hb).drop l)) (.slice (aa (if m'=l then ⟨g,off,ar⟩ else (⟨g,off,ar⟩:Addr).add (l * size))) (hb - l) (m' - l)):=by
 cases hv with
 |js=>
  have ym:hb=0:=by simpa using hh
  subst ym;have l0:l=0:=by omega
  subst l0;have m0:m'=0:=by omega
  subst m0;refine .list _ sz [] g off 0 0 [] rfl bH .nil bH ⟨aM _,?_⟩ rfl;unfold qg;cases toEnd<;>cases w9<;>simp
 |list _ _ _ _ _ n _ cells hn hr fU iQ ht ha=>
  have GO:((es.take hb).drop l).length=hb - l:=by simp;omega
  have aiJ:(if m'=l then (⟨g,off,ar⟩:Addr) else (⟨g,off,ar⟩:Addr).add (l * size))=⟨g,if m'=l then off else off+l * size,ar⟩:=by
   split
   ·rfl
   ·rw[Addr.mF]
  rw[aiJ];have fY:∀r∈(es.take hb).drop l,r.length=sz:=λr hm=>hr r (oO (Mv hm));have nw:((es.take hb).drop l).flatten=(es.flatten.take (hb * sz)).drop (l * sz):=by rw[Va (λr hm=>hr r (oO hm)),NQ hr]
  refine .list _ sz _ g _ _ _ ((cells.take (hb * sz)).drop (l * sz)) GO.symm fY (by rw[nw];exact(fU.take _).drop _) (λj c hj=>?_) ?_ ?_
  ·simp only[oN,oh] at hj;split at hj
   ·rename_i aB;have bO:es≠[]:=(by rintro rfl;simp only[Su] at fU;cases fU;simp at hj);have Pp:size=sz:=dm.resolve_right bO;have qX:l<hb:=by
     rcases dV l hb with h|h
     ·exact h
     ·have:hb * sz<=l * sz:=om _ h;omega
    rw[aH ah,Pp];have:=iQ _ _ hj;rw[<-this];congr 1;omega
   ·cases hj
  rotate_left
  ·rw[ej] at ha ⊢;intro x hx;rw[nw] at hx;exact ha x (oO (Mv hx))
  ·refine⟨ah,?_⟩;have Ek:=ht.2;cases k with
   |nil=>exact Ek.elim|tight=>
    simp only[qg];simp only at Ek;cases toEnd with
    |true=>obtain⟨e1,e2⟩:=tq rfl;simp;omega
    |false=>
     cases w9 with|true=>have:=OL rfl;simp;omega|false=>simp
   |held=>
    simp only[qg];cases w9 with|true=>have:=OL rfl;simp;omega|false=>simp
   |free t=>
    simp only[qg];simp only at Ek;cases w9 with
    |true=>have:=OL rfl;simp;omega|false=>
     by_cases hc:(toEnd&&hb - l !=0)=ai
     ·simp only[jW,if_false,hc,if_true];simp only[bL,bne_iff_ne,ne_eq] at hc;obtain⟨e1,e2⟩:=tq hc.1;have bO:es≠[]:=(by rintro rfl;simp at e1;omega);have Pp:size=sz:=dm.resolve_right bO;obtain⟨t1,t2,t3,t4⟩:=Ek;subst Pp;rw[aH ah];refine⟨t1,t2,?_,?_⟩
      ·rw[t3,<-e1,MM];have:l * size<=hb * size:=om _ hl;omega
      ·rw[e2,MM];have:l * size<=aC * size:=om _ ah;omega
     ·simp only[jW,if_false,hc]
def asd{t:aK}{x y:AV}{lo hi mx:Option bT}{ρ:bT->AV}{ρ':bT->aR}(hρ:∀x,a8 K (ρ x) (ρ' x))
 (he:gY P t x (lo.map ρ) (hi.map ρ) (mx.map ρ)=aa y) {c:aR} (hx:a8 K x c) (w:cB):
 ∃v,(Instr.sliceAt t c (lo.map ρ') (hi.map ρ') (mx.map ρ')).run P w=.ok v w/\a8 K y v:=by
 obtain⟨qo,nlo⟩:=Qm hρ lo;obtain⟨tv,nhi⟩:=Qm hρ hi;obtain⟨qs,nmx⟩:=Qm hρ mx;unfold gY at he;split at he
 ·cases he
 rename_i We;have B1:(mx.map ρ).isSome=ai->(hi.map ρ).isSome=ai:=by
  intro h1;cases h2:hi.map ρ with|some _=>rfl|none=>rw[h1,h2] at We;simp at We
 split at he
 ·rename_i s hu;split at he
  ·cases he
  rename_i hmn;have ajI:mx.map ρ=ar:=by simpa using hmn
  split at he
  ·rename_i hb e2;split at he
   ·rename_i l e3;injection he with he;subst he;obtain⟨rfl,_⟩:=hx.iV;obtain⟨m',q1,q2,_⟩:=Du (P:=P) (mx:=ar) (mx':=ar) qo nlo tv nhi bH bH az (top:=s.size) (aC:=s.size) (m:=s.size) rfl e2 e3 (aM _) (aM _) bH w;refine⟨_,?_,.v (.string (s.extract l hb)) rfl⟩;simp only[Instr.sliceAt,Sem.run_bind,du hu,Result.andThen_ok,Instr.slice,nmx ajI];simp[q1]
   ·cases he
  ·cases he
 ·rename_i elem k sz es hu;split at he
  ·rename_i size m hs e1;split at he
   ·rename_i hb e2;split at he
    ·rename_i l e3;split at he
     ·rename_i dm;injection he with he;subst he;have yo:hb<=es.length:=by rcases rT (P:=P) e1 qs nmx w with⟨_,rfl,_⟩|⟨_,_,_,qp,_⟩<;>rcases rT (P:=P) e2 tv nhi w with⟨_,rfl,_⟩|⟨_,_,_,uh,_⟩<;>omega
      cases hx with
      |nil=>
       obtain⟨m',q1,q2,q3,q4,q5,q6,q7⟩:=Du (P:=P) qo nlo tv nhi qs nmx ai (top:=0) (aC:=0) (len:=0) e1 e2 e3 (aM _) (aM _) B1 w;have ym:hb=0:=(by simpa using yo);subst ym;have l0:l=0:=(by omega);subst l0;have OQ:m'=0:=by
        rcases rT (P:=P) e1 qs nmx w with⟨_,_,hn⟩|⟨_,_,_,qp,bF⟩
        ·exact(q2 hn).1
        ·have:=q3 bF;simp at qp;omega
       subst OQ;refine⟨.slice ar 0 0,?_,?_⟩
       ·simp only[Instr.sliceAt,Sem.run_bind,du hu,Result.andThen_ok,Instr.slice,q1,nD hs];simp
       ·simp only[qg,acn,abW];exact .nil _
      |js _ a0=>
       obtain⟨m',q1,q2,q3,q4,q5,q6,q7⟩:=Du (P:=P) qo nlo tv nhi qs nmx ai (top:=0) (aC:=0) (len:=0) e1 e2 e3 (aM _) (aM _) B1 w;have ym:hb=0:=(by simpa using yo);subst ym;have l0:l=0:=(by omega);subst l0;have OQ:m'=0:=by
        rcases rT (P:=P) e1 qs nmx w with⟨_,_,hn⟩|⟨_,_,_,qp,bF⟩
        ·exact(q2 hn).1
        ·have:=q3 bF;simp at qp;omega
       subst OQ;refine⟨.slice (aa a0) 0 0,?_,?_⟩
       ·simp only[Instr.sliceAt,Sem.run_bind,du hu,Result.andThen_ok,Instr.slice,q1,nD hs];simp
       ·have ajC:m=0:=by
         rcases rT (P:=P) e1 qs nmx w with⟨_,hn,_⟩|⟨_,_,_,qp,bF⟩
         ·simpa using hn
         ·simpa using qp
        subst ajC;have hct:∀q:Option AV,qg .tight (decide (0=([]:List (List AV)).length)&&q.isNone) (q.isSome&&decide (0=0)) (0 - 0)=.tight:=(by intro q;cases q<;>rfl);rw[hct];simp only[acn,abW];exact .js _ _
      |list _ _ _ g off n aC cells hn hr fU iQ ht ha=>
       subst hn;obtain⟨m',q1,q2,q3,q4,q5,q6,q7⟩:=Du (P:=P) qo nlo tv nhi qs nmx true (top:=es.length) (aC:=aC) (len:=es.length) e1 e2 e3 ht.1 ht.1 B1 w;have ajD:m'<=aC:=by
        rcases rT (P:=P) e1 qs nmx w with⟨_,_,hn⟩|⟨_,_,_,qp,bF⟩
        ·rw[(q2 hn).1];exact aM _
        ·have:=q3 bF;have:=ht.1;omega
       refine⟨.slice (aa (if m'=l then ⟨g,off,ar⟩ else (⟨g,off,ar⟩:Addr).add (l * size))) (hb - l) (m' - l),?_,?_⟩
       ·simp only[Instr.sliceAt,Sem.run_bind,du hu,Result.andThen_ok,Instr.slice,q1,nD hs,Sem.run_pure];congr 2;split<;>rfl
       ·refine ak3 (.list _ _ _ g off _ aC cells rfl hr fU iQ ht ha) dm q4 yo q6 ajD (λh=>?_) (λh=>?_)
        ·simp only[bL,decide_eq_true_eq,Option.isNone_iff_eq_none] at h;exact⟨h.1,(q2 h.2).1⟩
        ·simp only[bL,decide_eq_true_eq] at h;rw[q3 h.1];exact h.2.symm
     ·cases he
    ·cases he
   ·cases he
  ·cases he
 ·rename_i elem b off len aC hu;split at he
  ·rename_i size m hs e1;split at he
   ·rename_i hb e2;split at he
    ·rename_i l e3;cases hx with
     |arr _ g _ _ _ fC iH hβ hl oU qY mn=>
      obtain⟨m',q1,q2,q3,q4,q5,q6,q7⟩:=Du (P:=P) qo nlo tv nhi qs nmx ai (top:=aC) (aC:=iH) (len:=len) e1 e2 e3 ah oU B1 w;have hmc:m<=aC:=(by rcases rT (P:=P) e1 qs nmx w with⟨_,q,_⟩|⟨_,_,_,q,_⟩<;>omega);have hmm:m<=m':=by
       cases hq:Dg ρ mx with|none=>have:=q2 hq;omega|some z=>have:=q3 (by rw[hq];rfl);omega
      have yo:hb<=m:=by
       cases hq:Dg ρ mx with
       |none=>
        cases nQ:Dg ρ hi with|none=>have:=q5 nQ;have:=q2 hq;omega|some z=>exact q7 (by rw[nQ];rfl)
       |some z=>have:=q3 (by rw[hq];rfl);omega
      have mo:(Instr.sliceAt t (.slice (aa ⟨g,fC,ar⟩) len iH) (Dg ρ' lo) (Dg ρ' hi) (Dg ρ' mx)).run P w=.ok (.slice (aa ⟨g,if m'=l then fC else fC+l * size,ar⟩) (hb - l) (m' - l)) w:=by
       simp only[Instr.sliceAt,Sem.run_bind,du hu,Result.andThen_ok,Instr.slice,q1,nD hs,Sem.run_pure];congr 2;split
       ·rfl
       ·simp[Addr.mF]
      refine⟨_,mo,?_⟩;split at he
      ·cases he
      rename_i vp;split at he
      ·rename_i nh;injection he with he;subst he;have:=q3 nh.1;rw[(ah:hb - l=0),(ah:m' - l=0)];exact .js _ _
      ·injection he with he;subst he;refine .arr _ _ _ _ _ _ _ hβ ah ah ?_ ?_
       ·rcases qY with rfl|hz
        ·by_cases nh:m=l
         ·exact .inr ah
         ·rw[aH ah,aH nh];exact .inl rfl
        ·exact .inr ah
       ·cases hq:Dg ρ mx with
        |some z=>have:=q3 (by rw[hq];rfl);exact .inl ah
        |none=>
         obtain⟨r1,r2⟩:=q2 hq;by_cases nh:m=l
         ·exact .inr (.inl ah)
         ·rw[aH nh];by_cases Am:l=0
          ·subst Am;rcases mn with r|r|r|⟨sz,room,r3,r4,r5⟩
           ·exact .inl ah
           ·exact .inr (.inl ah)
           ·exact .inr (.inr (.inl ah))
           ·exact .inr (.inr (.inr ⟨sz,room,by rw[r2];exact r3,r4,by rw[r1];exact r5⟩))
          ·exact .inr (.inr (.inl (by have:=MI (acD Am) (acD vp);omega)))
    ·cases he
   ·cases he
  ·cases he
 ·rename_i n elem b off hu;split at he
  ·rename_i size m hs e1;split at he
   ·rename_i hb e2;split at he
    ·rename_i l e3;injection he with he;subst he;cases hx with
     |box _ g _ hβ=>
      obtain⟨m',q1,q2,q3,q4,q5,q6,q7⟩:=Du (P:=P) qo nlo tv nhi qs nmx az (top:=n) (aC:=n) (len:=n) e1 e2 e3 (aM _) (aM _) B1 w;have hm:m'=m:=by
       rcases rT (P:=P) e1 qs nmx w with⟨_,_,hn⟩|⟨_,_,_,qp,bF⟩
       ·have:=q2 hn;omega
       ·exact q3 bF
      subst hm;refine⟨.slice (aa ⟨g,if m'=l then off else off+l * size,ar⟩) (hb - l) (m' - l),?_,.arr _ _ _ _ _ _ _ hβ ah (aM _) (.inl rfl) (.inl rfl)⟩;simp only[Instr.sliceAt,Sem.run_bind,du hu,Result.andThen_ok,Instr.sureAddr,q1,nD hs,Sem.run_pure];congr 3;split
      ·rfl
      ·simp[Addr.mF]
    ·cases he
   ·cases he
  ·cases he
 ·cases he
def NG{f:Field}{n:Nat}(hs:dC P f.type=aa n)(hn:n≠0)(g o:Nat)(w:cB):(fieldPlace ⟨g,o,ar⟩ f).run P w=.ok ⟨g,o+f.offset,ar⟩ w:=by simp[fieldPlace,nD hs,hn,Addr.mF]
def ahz{t:aK}{x y:AV}{f:Nat}(he:iy P t x f=aa y){c:aR}(hx:a8 K x c)(w:cB):
 ∃v,(Instr.fieldAt t c f).run P w=.ok v w/\a8 K y v:=by
 unfold iy at he;split at he
 ·rename_i fields hu;split at he
  ·rename_i fd hf;split at he
   ·cases he
   ·rename_i n B2 hs;have hn:n≠0:=λe=>B2 e;split at he
    ·rename_i r off;injection he with he;subst he;cases hx with|box b g _ hb=>exact⟨_,by simp[Instr.fieldAt,du hu,hf,Instr.sureAddr,NG hs hn],.box _ _ _ hb⟩|eR g _=>exact⟨_,by simp[Instr.fieldAt,du hu,hf,Instr.sureAddr,NG hs hn],.eR _ _⟩
    ·rename_i sz es i off;injection he with he;subst he;cases hx with|elem _ _ _ _ g o p cells hr hv hc hi hp ha=>exact⟨.pointer (aa ⟨g,p+fd.offset,ar⟩),by simp[Instr.fieldAt,du hu,hf,Instr.sureAddr,NG hs hn],.elem _ _ _ _ g o _ cells hr hv hc hi ah ha⟩
    ·cases he
   ·cases he
  ·cases he
 ·cases he
def aka{t:aK}{x ix y:AV}(he:dG P t x ix=aa y){c ci:aR}(hx:a8 K x c)(hi:a8 K ix ci)(w:cB):
 ∃v,(Instr.indexAt t c ci).run P w=.ok v w/\a8 K y v:=by
 unfold dG at he;split at he
 ·rename_i elem k sz es kk i hu;obtain⟨rfl,_⟩:=hi.iV;split at he
  ·rename_i hc;injection he with he;subst he;cases hx with|nil=>simp at hc;omega|js=>simp at hc;omega|list _ _ _ g off n aC cells hn hr hv iQ ht ha=>subst hn;refine⟨.pointer (aa ⟨g,off+i.toNat * sz,ar⟩),?_,.elem _ _ _ _ g off _ cells hr hv iQ ah ah ha⟩;simp[Instr.indexAt,du hu,asIntOf,hc.1,hc.2.1,nD hc.2.2,Addr.mF]
  ·cases he
 ·rename_i elem b off len aC kk i hu;obtain⟨rfl,_⟩:=hi.iV;split at he
  ·rename_i size hs;split at he
   ·rename_i hc;injection he with he;subst he;cases hx with
    |arr _ g _ _ _ fC iH hb hl oU qY mn=>
     have:fC=off:=by rcases qY with p|p<;>omega
     subst this;exact⟨_,by simp[Instr.indexAt,du hu,asIntOf,hc.1,hc.2,nD hs,Addr.mF],.box _ _ _ hb⟩
   ·cases he
  ·cases he
 ·rename_i len elem r off kk i hu;obtain⟨rfl,_⟩:=hi.iV;split at he
  ·rename_i size hs;split at he
   ·rename_i hc;injection he with he;subst he;cases hx with|box b g _ hb=>exact⟨_,by simp[Instr.indexAt,du hu,asIntOf,hc.1,hc.2,nD hs,Addr.mF,Instr.sureAddr],.box _ _ _ hb⟩|eR g _=>exact⟨_,by simp[Instr.indexAt,du hu,asIntOf,hc.1,hc.2,nD hs,Addr.mF,Instr.sureAddr],.eR _ _⟩
   ·cases he
  ·cases he
 ·rename_i len elem sz es k off kk i hu;obtain⟨rfl,_⟩:=hi.iV;split at he
  ·rename_i size hs;split at he
   ·rename_i hc;injection he with he;subst he;cases hx with|elem _ _ _ _ g o p cells hr hv iQ BS hp ha=>exact⟨.pointer (aa ⟨g,p+i.toNat * size,ar⟩),by simp[Instr.indexAt,du hu,asIntOf,hc.1,hc.2,nD hs,Addr.mF,Instr.sureAddr],.elem _ _ _ _ g o _ cells hr hv iQ BS ah ha⟩
   ·cases he
  ·cases he
 ·cases he
def YN{t:aK}{cs:List AV}{off:Nat}{y:AV}(he:HH P t cs off=aa y){vs:Array aR}(hx:aS K cs vs.toList)(w:cB):
 ∃v,(part t vs off).run P w=.ok v w/\a8 K y v:=by
 unfold HH at he;split at he
 ·rename_i BD;simp only[dy] at he;obtain⟨n,hs,rfl⟩:=he;refine⟨.agg (vs.extract off (off+n)),by simp[part,Lr BD,nD hs],.agg _ _ ?_⟩;have:(vs.extract off (off+n)).toList=(vs.toList.drop off).take n:=by rw[abo,abX];congr 1;omega
  rw[this];exact(hx.drop off).take n
 ·rename_i BD;obtain⟨c,hc,hr⟩:=hx.get he;exact⟨c,by simp only[part,Sem.run_bind,Lr BD,Result.andThen_ok];simp only[jW,if_false];rw[show vs[off]?=aa c by simpa using hc];rfl,hr⟩
 ·cases he
def akc{t:aK}{x ix y:AV}(he:Ck P t x ix=aa y){c ci:aR}(hx:a8 K x c)(hi:a8 K ix ci)(w:cB):
 ∃v,(Instr.index t c ci).run P w=.ok v w/\a8 K y v:=by
 unfold Ck at he;split at he
 ·rename_i s kk i hu;obtain⟨rfl,_⟩:=hi.iV;obtain⟨rfl,_⟩:=hx.iV;split at he
  ·rename_i b hb;injection he with he;subst he;split at hb
   ·rename_i h0;refine⟨.int .u8 b.toNat,?_,.v _ rfl⟩;have:s[i.toNat]?=aa b:=(by have h1:i.toNat<s.data.size:=(CI.1 hb).1;have h2:s.data[i.toNat]=b:=(CI.1 hb).2;have h3:i.toNat<s.size:=h1;rw[getElem?_pos s i.toNat h3];exact congrArg aa h2);simp only[Instr.index,Sem.run_bind,asIntOf,Sem.run_pure,Result.andThen_ok,du hu,aG h0,this]
   ·cases hb
  ·cases he
 ·rename_i len elem cs kk i hu;obtain⟨rfl,_⟩:=hi.iV;split at he
  ·rename_i size hs;split at he
   ·rename_i hc;cases hx with|agg _ vs fU=>obtain⟨v,q1,q2⟩:=YN he fU w;exact⟨v,by simp only[Instr.index,Sem.run_bind,asIntOf,Sem.run_pure,Result.andThen_ok,du hu,aG hc,nD hs,q1],q2⟩
   ·cases he
  ·cases he
 ·cases he
def PE{t:aK}(he:isIface P t=aa az):∃d,P.underlying t=aa d/\∀ms,d≠ .interface ms:=by
 unfold isIface at he;split at he
 ·cases he
 ·rename_i d h1 h2;exact⟨d,h2,λms e=>h1 ms e⟩
 ·cases he
def adV{x y:AV}{xt a:aK}{okk:Bool}(he:xU P x a okk=aa y){c:aR}(hx:a8 K x c)(w:cB):
 ∃v,(Instr.typeAssert c xt a okk).run P w=.ok v w/\a8 K y v:=by
 unfold xU at he;split at he
 ·rename_i t x' yu;obtain⟨d,hu,hd⟩:=PE yu;cases hx with
  |iface _ _ c' hx=>
   split at he
   ·rename_i wV;injection he with he;subst he;subst wV;cases okk with
    |true=>refine⟨.tuple #[c',.bool ai],?_,.tuple _ _ (.cons _ _ _ _ hx (.cons _ _ _ _ (.v _ rfl) .nil))⟩;simp only[Instr.typeAssert,Sem.run_bind,du hu,Result.andThen_ok];cases d<;>first|exact absurd rfl (hd _)|simp
    |false=>refine⟨c',?_,hx⟩;simp only[Instr.typeAssert,Sem.run_bind,du hu,Result.andThen_ok];cases d<;>first|exact absurd rfl (hd _)|simp
   ·rename_i wV;split at he
    ·rename_i bJ;simp only[dy] at he;obtain⟨z,hz,rfl⟩:=he;obtain⟨v,jk,rfl⟩:=Rm hz w;refine⟨.tuple #[v,.bool az],?_,.tuple _ _ (.cons _ _ _ _ (KG v) (.cons _ _ _ _ (.v _ rfl) .nil))⟩;simp only[Instr.typeAssert,Sem.run_bind,du hu,Result.andThen_ok];cases d<;>first|exact absurd rfl (hd _)|simp[wV,bJ,jk]
    ·cases he
 ·rename_i yu;obtain⟨d,hu,hd⟩:=PE yu;obtain⟨rfl,_⟩:=hx.iV;split at he
  ·rename_i bJ;simp only[dy] at he;obtain⟨z,hz,rfl⟩:=he;obtain⟨v,jk,rfl⟩:=Rm hz w;refine⟨.tuple #[v,.bool az],?_,.tuple _ _ (.cons _ _ _ _ (KG v) (.cons _ _ _ _ (.v _ rfl) .nil))⟩;simp only[Instr.typeAssert,Sem.run_bind,du hu,Result.andThen_ok];cases d<;>first|exact absurd rfl (hd _)|simp[bJ,jk]
  ·cases he
 ·cases he
def aeT{op}{b}{x}(he:wq op b=aa x):(op=.eql/\x=.v (.bool b))∨(op=.neq/\x=.v (.bool !b)):=by
 unfold wq at he;split at he
 ·injection he with he;exact .inl ⟨rfl,he.symm⟩
 ·injection he with he;exact .inr ⟨rfl,he.symm⟩
 ·cases he
def Tx{op:BinOp}{t:aK}{x y:bT}{a b r:AV}(he:Jh P op t x y a b=aa r){p q:aR}(ha:a8 K a p)(hb:a8 K b q)(w:cB):
 ∃v,(do eqGuard op t x y p q;binOp op t p q:Sem aR).run P w=.ok v w/\a8 K r v:=by
 unfold Jh at he;split at he
 ·rename_i p' q' hp hq;have e1:=JD hp ha;have e2:=JD hq hb;subst e1;subst e2;simp only[zD] at he;obtain⟨z,h1,h2⟩:=he;exact⟨z,HM h1 w,Io h2⟩
 ·cases he
def ya{op:BinOp}{t:aK}{x y:bT}{p q:aR}{b:Bool}{r:AV}(he:wq op b=aa r)(hg:∀op,eqGuard op t x y p q=pure ())(w:cB)
 (ajf:∀d,(Op.equalIn (d+1) t p q).run P w=.ok b w) (h1:binOp .eql t p q=(do pure (.bool (<-Op.equal t p q)))) (h2:binOp .neq t p q=(do pure (.bool (!(<-Op.equal t p q))))):
 ∃v,(do eqGuard op t x y p q;binOp op t p q:Sem aR).run P w=.ok v w/\a8 K r v:=by
 have mi:(Op.equal t p q).run P w=.ok b w:=ajf 9999;rcases aeT he with⟨rfl,rfl⟩|⟨rfl,rfl⟩
 ·exact⟨.bool b,by rw[hg,h1];simp[mi],.v _ rfl⟩
 ·exact⟨.bool !b,by rw[hg,h2];simp[mi],.v _ rfl⟩
def Xz{t:aK}(he:isIface P t=aa ai):∃ms,P.underlying t=aa (.interface ms):=by
 unfold isIface at he;split at he
 ·exact⟨_,‹_›⟩
 ·cases he
 ·cases he
def aeq{op:BinOp}{t:aK}{x y:bT}{a b r:AV}(he:cZ P op t x y a b=aa r){p q:aR}(ha:a8 K a p)(hb:a8 K b q)(w:cB):
 ∃v,(do eqGuard op t x y p q;binOp op t p q:Sem aR).run P w=.ok v w/\a8 K r v:=by
 unfold cZ at he;split at he
 ·rename_i s1 s2;have f1:=ha.iV.1;have f2:=hb.iV.1;subst f1;subst f2;split at he
  ·injection he with he;subst he;exact⟨.bool (s1.data.toList==s2.data.toList),by simp[eqGuard,binOp,Op.stringOp,ByteArray.toList_eq],.v _ rfl⟩
  ·injection he with he;subst he;exact⟨.bool !(s1.data.toList==s2.data.toList),by simp[eqGuard,binOp,Op.stringOp,ByteArray.toList_eq],.v _ rfl⟩
  ·split at he
   ·rename_i hl;injection he with he;subst he;refine⟨.string (s1++s2),?_,.v _ rfl⟩;have:¬(((s1.size+s2.size:Nat):Int)>IntKind.i64.max):=(by simp only[IntKind.max,IntKind.signed,IntKind.bits];simp;omega);simp only[eqGuard,binOp,Op.stringOp];simp only[aH this];simp
   ·cases he
  ·exact Tx he ha hb w
 ·rename_i ti xi;split at he
  ·rename_i yu;obtain⟨ms,hu⟩:=Xz yu;cases ha with|iface _ _ c hx=>have f2:=hb.iV.1;subst f2;refine ya he (λop=>by cases op<;>rfl) w (λd=>?_) rfl rfl;simp only[Op.equalIn,Sem.run_bind,du hu,Result.andThen_ok,Sem.run_pure]
  ·cases he
 ·rename_i ti xi;split at he
  ·rename_i yu;obtain⟨ms,hu⟩:=Xz yu;cases hb with|iface _ _ c hx=>have f2:=ha.iV.1;subst f2;refine ya he (λop=>by cases op<;>rfl) w (λd=>?_) rfl rfl;simp only[Op.equalIn,Sem.run_bind,du hu,Result.andThen_ok,Sem.run_pure]
  ·cases he
 ·rename_i r0 o0;split at he
  ·rename_i e hu;have f2:=hb.iV.1;subst f2;cases ha<;>(refine ya he (λop=>by cases op<;>rfl) w (λd=>?_) rfl rfl;simp only[Op.equalIn,Sem.run_bind,du hu,Result.andThen_ok,Sem.run_pure,I7])
  ·cases he
 ·rename_i r0 o0;split at he
  ·rename_i e hu;have f2:=ha.iV.1;subst f2;cases hb<;>(refine ya he (λop=>by cases op<;>rfl) w (λd=>?_) rfl rfl;simp only[Op.equalIn,Sem.run_bind,du hu,Result.andThen_ok,Sem.run_pure,I7])
  ·cases he
 ·split at he
  ·rename_i hu;have f2:=hb.iV.1;subst f2;cases ha<;>(refine ya he (λop=>by cases op<;>rfl) w (λd=>?_) rfl rfl;simp only[Op.equalIn,Sem.run_bind,du hu,Result.andThen_ok,Sem.run_pure,I7])
  ·cases he
 ·split at he
  ·rename_i hu;have f2:=ha.iV.1;subst f2;cases hb<;>(refine ya he (λop=>by cases op<;>rfl) w (λd=>?_) rfl rfl;simp only[Op.equalIn,Sem.run_bind,du hu,Result.andThen_ok,Sem.run_pure,I7])
  ·cases he
 ·rename_i k sz es sz2;split at he
  ·rename_i e hu;have f2:q=.slice ar 0 0:=by
    cases hb with|nil=>rfl|list _ _ _ _ _ _ _ _ _ _ _ _ ht _=>exact ht.2.elim
   subst f2;cases ha with
   |nil=>refine ya he (λop=>by cases op<;>rfl) w (λd=>?_) rfl rfl;simp only[Op.equalIn,Sem.run_bind,du hu,Result.andThen_ok,Sem.run_pure,Option.isNone_none,decide_true]
   |js=>refine ya he (λop=>by cases op<;>rfl) w (λd=>?_) rfl rfl;simp only[Op.equalIn,Sem.run_bind,du hu,Result.andThen_ok,Sem.run_pure,I7];rfl
   |list _ _ _ g off n aC cells hn hr hv hc ht _=>have hk:k≠ .nil:=λe=>(by subst e;exact ht.2);refine ya he (λop=>by cases op<;>rfl) w (λd=>?_) rfl rfl;simp only[Op.equalIn,Sem.run_bind,du hu,Result.andThen_ok,Sem.run_pure,hk,decide_false]
  ·cases he
 ·exact Tx he ha hb w
def atN{op:UnOp}{a r:AV}(he:CF P op a=aa r){p:aR}(ha:a8 K a p)(w:cB):∃v,(Op.unary op p).run P w=.ok v w/\a8 K r v:=by
 unfold CF at he;split at he
 ·rename_i p' hp;have e1:=JD hp ha;subst e1;simp only[zD] at he;obtain⟨z,h1,h2⟩:=he;exact⟨z,HM h1 w,Io h2⟩
 ·cases he
end
section
variable {P:bK} {K:aY} {G:Nat->Option (List AV)} {ok:bm->Nat->Code->Bool} {w0 w:cB} {h:ao}
def Ti{h}{d}{sz}{es}{t}(hd:∀n∈h.dead,n∈d)(ha:alive ({h with dead:=d}.fresh sz es).2 t=ai):
 t=h.tn∨(alive h t=ai/\t∉d):=by
 simp only[ao.fresh,alive,bL,decide_eq_true_eq,zj,List.contains_eq_mem,decide_eq_false_iff_not] at ha;obtain⟨uc,qj⟩:=ha;have uc:t<h.tn+1:=of_decide_eq_true uc;rcases dV t h.tn with aB|ec
 ·exact .inr ⟨by simp[alive,aB];exactλhm=>qj (hd t hm),qj⟩
 ·exact .inl ah
def bW.NX{w':cB}(s:bW K G ok w0 h w){d:List Nat}(hd:∀n∈h.dead,n∈d){sz:Nat}{es:List (List AV)}{cells:Array aR}{e:aK}{fz:Nat × Nat}{aC:Nat}
 (hr:∀r∈es,r.length=sz) (ha:es.flatten.all AV.ek=ai) (hv:aS K es.flatten (cells.toList.take (es.length * sz)))
 (O0:w'.os=w.os) (Ps:w'.tape=w.tape) (Ap:w'.output=w.output) (dm:w'.heap.size=w.heap.size+1)
 (ny:∀k,k<w.heap.size->w'.heap[k]?=w.heap[k]?) (nS:w'.heap[w.heap.size]?=aa (.cells cells e fz))
 (jy:es.length<=aC) (qn:aC * sz<=cells.size) (wQ:∀j,j<cells.size->nt fz j=az):
 ∃K',K.Le K'/\bW K' G ok w0 ({h with dead:=d}.fresh sz es).2 w'/\a8 K' ({h with dead:=d}.fresh sz es).1 (.slice (aa ⟨w.heap.size,0,ar⟩) es.length aC):=by
 have BT:∀j,K.ic w.heap.size j=ar:=λj=>by
  cases hc:K.ic w.heap.size j with|none=>rfl|some c=>have:=s.Ay hc;omega
 have bZ:es.length * sz<=cells.size:=fJ (om _ jy) qn;have dJ:=s.row (h':=({h with dead:=d}.fresh sz es).2) (w':=w') (g:=w.heap.size) (off:=0) (m:=es.length * sz) (cells:=cells) (e:=e) (fz:=fz) rfl rfl rfl
  (λt ht=>(Ti hd ht).imp id λhh=>⟨hh.1,λmi=>by obtain⟨_,_,_,_,_,_,h4,_⟩:=s.tok t hh.1;have:=oE h4;omega⟩)
  s.size (λb hb=>by obtain⟨cs,cC⟩:=βaa s hb;obtain⟨_,_,_,_,_,h3,_⟩:=s.box b _ cs hb cC;have:=oE h3;omega) (λj _=>BT j) ah O0 Ps Ap
  (λk o hk ho=>by rw[ny k (oE ho)];exact ho) nS (λo ho=>by have:=oE ho;omega) (λj c hc=>by rw[BT] at hc;cases hc) (cG _) bZ (λj _ hl=>wQ j hl)
 have le:=aY.PS (K:=K) (g:=w.heap.size) (off:=0) (m:=es.length * sz) (size:=cells.size) (cells:=λj=>cells[j]?) (λj _=>BT j) s.size;refine⟨_,le,dJ,?_⟩;refine .list (.free h.tn) sz es w.heap.size 0 _ aC (cells.toList.take (es.length * sz)) rfl hr (hv.mono le) (λj c hj=>?_) ⟨jy,?_⟩ ha
 ·simp only[oh] at hj;split at hj
  ·rename_i aB;simp only[aY.row,po];rw[aG (by exact⟨aX,cG _,aB⟩)];simpa using hj
  ·cases hj
 ·simp only[aY.row,s.tn,if_true];refine⟨ah,aX,by omega,by omega⟩
def zL(l:List UInt8):∀r∈l.map j8,r.length=1:=by intro r hr;simp only[ju] at hr;obtain⟨b,_,rfl⟩:=hr;rfl
def Nl(l:List UInt8):(l.map j8).flatten=l.map λb=>AV.v (.int .u8 b.toNat):=by
 induction l with
 |nil=>rfl|cons b l ih=>simp[j8,ih]
def TO(l:List UInt8):aS K (l.map j8).flatten (l.map λb=>Value.int .u8 b.toNat):=by rw[Nl];exact aS.map_mk λb _=>.v _ rfl
def TN(l:List UInt8):(l.map j8).flatten.all AV.ek=ai:=by rw[Nl,ej];intro x hx;simp only[ju] at hx;obtain⟨b,_,rfl⟩:=hx;rfl
def atG(s:bW K G ok w0 h w){e:aK}{str:ByteArray}:
 ∃K' v w',K.Le K'/\bW K' G ok w0 (h.fresh 1 (str.data.toList.map j8)).2 w'/\a8 K' (h.fresh 1 (str.data.toList.map j8)).1 v/\(Conv.stringToBytes e str).run P w=.ok v w':=by
 have hq:∃aC,str.size<=aC/\(choose (.appendCap str.size 0 e)).run P w=.ok aC {w with drawn:=w.drawn+1}:=by refine⟨_,?_,by simp[Question.forced];rfl⟩;simp[Question.cut]
 obtain⟨aC,jy,vh⟩:=hq
 let w1:cB:={w with drawn:=w.drawn+1}
 let cells:Array aR:=str.data.map (λb=>.int .u8 b.toNat)++CL (aC - str.size) (.int .u8 0)
 have cC:cells.size=aC:=by have:str.data.size=str.size:=rfl;simp only[cells,Array.size_append,Array.size_map,Array.size_replicate,this];try omega
 have bZ:str.data.toList.length=str.size:=rfl
 let w2:cB:=({w1 with heap:=w1.heap.push (.cells cells e)}:cB).freeze {block:=w1.heap.size,off:=aC} 1
 have nS:w2.heap[w.heap.size]?=aa (.cells cells e (aC,aC+1)):=by simp only[w2,World.freeze,w1,MJ,if_false,CJ,if_true,Array.getElem?_push_size,eW];rfl
 have ny:∀k,k<w.heap.size->w2.heap[k]?=w.heap[k]?:=λk hk=>by simp only[w2,World.freeze,w1,CJ];simp only[MJ,if_false,CJ];rw[aH ah];exact BP w _ hk
 obtain⟨K',le,s',hv⟩:=s.NX (w':=w2) (d:=h.dead) (λ_ hm=>hm) (sz:=1) (es:=str.data.toList.map j8) (cells:=cells) (e:=e) (fz:=(aC,aC+1)) (aC:=aC)
  (zL _) (TN _) (by have:cells.toList.take ((str.data.toList.map j8).length * 1)=str.data.toList.map λb=>Value.int .u8 b.toNat:=(by simp only[cells,CM,CN,bE,oo];rw[I0 bH,gO bH]);rw[this];exact TO _) rfl rfl rfl (by simp[w2,World.freeze,w1]) ny nS (by simp only[bE,bZ];exact jy) ah (λj hj=>by simp[nt];omega)
 refine⟨K',_,w2,le,s',hv,?_⟩;have ku:(str.data.toList.map j8).length=str.size:=by simp only[bE,bZ]
 rw[ku];simp only[Conv.stringToBytes,Sem.run_bind,vh,Result.andThen_ok,newRow,run_newObj,Sem.run_pure,markStringish,run_shape];have Kh:({w1 with heap:=w1.heap.push (.cells cells e)}:cB).shape? w1.heap.size=aa (e,aC):=by simp[World.shape?,cC]
 simp only[w1,cells] at Kh;simp only[Kh,run_freeze,Result.andThen_ok,Sem.run_pure,w2,w1,cells]
def ae7:∀{ae:List (List AV)} {l:List UInt8},bytesOf ae=aa l->∀{vs:List aR},aS K ae.flatten vs->
 ∃ns:List Int,vs=ns.map (.int .u8 ·)/\l=ns.map λn=>UInt8.ofNat n.toNat:=by
 intro ae
 induction ae with
 |nil=>intro l h vs hv;simp[bytesOf] at h;subst h;cases hv;exact⟨[],rfl,rfl⟩
 |cons r ae ih=>
  intro l h vs hv;simp only[bytesOf] at h;split at h
  ·rename_i b l' hb hl;injection h with h;subst h;unfold byteOf at hb;split at hb
   ·rename_i n;injection hb with hb;subst hb;simp only[oL,lN,mC] at hv;cases hv with|cons _ c _ cs hx hs=>obtain⟨ns,h1,h2⟩:=ih hl hs;exact⟨n::ns,by rw[hx.iV.1,h1];rfl,by rw[h2];rfl⟩
   ·cases hb
  ·cases h
def foldl_push(ns:List Int):∀acc:ByteArray,ns.foldl (λb a=>b.push (UInt8.ofNat a.toNat)) acc=⟨acc.data++(ns.map λn=>UInt8.ofNat n.toNat).toArray⟩:=by
 induction ns with
 |nil=>intro acc;simp|cons n ns ih=>intro acc;simp only[uJ,ih,eK];simp[ByteArray.push]
def HU(s:bW K G ok w0 h w){size:Nat}{x:AV}{ae:List (List AV)}(he:rowsOf h size x=aa ae){c:aR}(hv:a8 K x c):
 ∃a aC eC,c=.slice a ae.length aC/\(∀r∈ae,r.length=size)/\aS K ae.flatten eC/\ae.flatten.all AV.ek=ai/\eC.length=ae.length * size/\
  (∀b,a=aa b->(loadCells b (ae.length * size)).run P w=.ok eC.toArray w)/\(a=ar->ae=[]):=by
 unfold rowsOf at he;split at he
 ·rename_i k sz es;split at he
  ·rename_i dm;injection he with he;subst he;cases hv with
   |nil=>exact⟨ar,0,[],rfl,by simp,.nil,rfl,by simp,λb hb=>(by cases hb),λ_=>rfl⟩|js _ a0=>refine⟨aa a0,0,[],rfl,by simp,.nil,rfl,by simp,λb hb=>?_,λhb=>by cases hb⟩;have:=run_loadCells_list (P:=P) w b [] (λj v hj=>by simp at hj);simpa using this|list _ _ _ g off n aC cells hn hr fU iQ ht ha=>
    subst hn;have hl:cells.length=es.length * sz:=(by rw[<-fU.length,nq hr]);have yF:es.length * sz=es.length * size:=by
     rcases dm with h|h
     ·rw[h]
     ·simp[h]
    refine⟨aa ⟨g,off,ar⟩,aC,cells,rfl,λr hm=>?_,fU,ha,by rw[hl,yF],λb hb=>?_,λhn=>by cases hn⟩
    ·rcases dm with h|h
     ·rw[<-h];exact hr r hm
     ·rw[h] at hm;simp at hm
    ·injection hb with hb;subst hb;have:=run_loadCells_list (P:=P) w ⟨g,off,ar⟩ cells (λj v hj=>by rw[Addr.mF];exact s.ic _ _ _ (iQ j v hj));rw[hl,yF] at this;exact this
  ·cases he
 ·rename_i b off len aC;split at he
  ·rename_i cs cC;split at he
   ·rename_i qn;injection he with he;subst he;cases hv with
    |arr _ g _ _ _ fC iH hb hl oU qY mn=>
     obtain⟨_,_,ka,cells,e,k3,k4⟩:=s.box b g cs hb cC;have ajj:∀n,off+n * size<=cs.length->((bR n).map λi=>(cs.drop (off+i * size)).take size).flatten=(cs.drop off).take (n * size):=by
      intro n
      induction n with
      |zero=>intro _;simp|succ n ih=>intro hn;rw[nH,mT,qM,ih (by rw[gI] at hn;omega)];simp only[eK,List.map_nil,oL,Su,jX];rw[show(n+1) * size=n * size+size by rw[gI];omega,List.take_add,List.drop_drop]
     have hf:=ajj len qn;have hk4:=(k4.1.drop off).take (len * size);have dF:cs.length<=cells.toList.length:=(by have:=k4.le;simpa using this);have pN:(((cells.toList.take cs.length).drop off).take (len * size)).length=len * size:=(by simp only[fj,hD];omega);refine⟨aa ⟨g,fC,ar⟩,iH,((cells.toList.take cs.length).drop off).take (len * size),by simp,λr hr=>?_,?_,?_,by rw[pN];simp,λb' iA=>?_,λhn=>by cases hn⟩
     ·simp only[ju,gB] at hr;obtain⟨i,hi,rfl⟩:=hr;simp only[fj,hD];have:(i+1) * size<=len * size:=om _ hi;rw[gI] at this;omega
     ·rw[hf];exact hk4
     ·rw[hf,ej];intro x hx;exact ej.1 ka x (Mv (oO hx))
     ·injection iA with iA;subst iA;have:=run_loadCells_list (P:=P) w ⟨g,fC,ar⟩ (((cells.toList.take cs.length).drop off).take (len * size)) (λj v hj=>by
       rcases qY with rfl|hz
       ·rw[Addr.mF,rW k3];simp only[oh,oN] at hj;split at hj
        ·split at hj
         ·simpa using hj
         ·cases hj
        ·cases hj
       ·have Am:len=0:=(by omega);subst Am;simp at hj)
      have ku:(((cells.toList.take cs.length).drop off).take (len * size)).length=((bR len).map λi=>(cs.drop (off+i * size)).take size).length * size:=(by rw[pN];simp);rw[ku] at this;exact this
   ·cases he
  ·cases he
 ·cases he
def HB(s:bW K G ok w0 h w){size:Nat}{x:AV}{ae:List (List AV)}(he:mM h size x=aa ae){c:aR}(hv:a8 K x c):
 ∃eC,(Builtin.lenOf c).run P w=.ok ae.length w/\(∀r∈ae,r.length=size)/\aS K ae.flatten eC/\ae.flatten.all AV.ek=ai/\eC.length=ae.length * size/\
  (Builtin.firstCells size ae.length c).run P w=.ok eC.toArray w:=by
 unfold mM at he;split at he
 ·rename_i str;split at he
  ·rename_i h1;injection he with he;subst he;subst h1;obtain⟨rfl,_⟩:=hv.iV;have hl:(str.data.toList.map j8).length=str.size:=(by rw[bE];rfl);refine⟨str.data.toList.map λb=>.int .u8 b.toNat,by rw[hl];rfl,zL _,TO _,TN _,by simp,?_⟩;rw[hl];have:str.extract 0 str.size=str:=(by simp);have e2:str.data.map (λb=>Value.int .u8 b.toNat)=(str.data.toList.map λb=>Value.int .u8 b.toNat).toArray:=(by apply L0;simp);simp only[Builtin.firstCells,this,Sem.run_pure,e2]
  ·cases he
 ·obtain⟨a,aC,eC,rfl,hr,fU,ha,bZ,BX,oX⟩:=HU (P:=P) s he hv;refine⟨eC,rfl,hr,fU,ha,bZ,?_⟩;cases a with|none=>have:=oX rfl;subst this;have:eC=[]:=(by simpa using bZ);subst this;rfl|some b=>exact BX b rfl
def aam(z)(n):(Builtin.zeroCells z n).size=n * z.size:=by simp[Builtin.zeroCells]
def air(s:bW K G ok w0 h w){d:List Nat}(hd:∀n∈h.dead,n∈d){t0 t1 elem:aK}{ts:Array aK}{ty:aK}{i:TypeInfo}{d1:TypeDesc}(h0:ts[0]?=aa t0)(hu:P.underlying t0=aa (.slice elem))
 (h1:ts[1]?=aa t1) (mq:P.underlying t1=aa d1) (dU:∀k,d1≠ .int k) (hi:P.info? elem=aa i) (hz:(i.zero.map λz=>z.cells.size)=aa i.size)
 {es new:List (List AV)} {a:Option Addr} {aC:Nat} {c cx:aR} (hc:c=.slice a es.length aC) (jy:aC<es.length+new.length)
 (hr:∀r∈es,r.length=i.size) (ha:es.flatten.all AV.ek=ai) {eC:List aR} (fU:aS K es.flatten eC) (hf:(Builtin.firstCells i.size es.length c).run P {w with drawn:=w.drawn+1}=.ok eC.toArray {w with drawn:=w.drawn+1})
 {nv:List aR} (OP:(Builtin.lenOf cx).run P w=.ok new.length w) (Kf:∀r∈new,r.length=i.size) (Xh:aS K new.flatten nv) (yl:new.flatten.all AV.ek=ai)
 (Ah:(Builtin.firstCells i.size new.length cx).run P {w with drawn:=w.drawn+1}=.ok nv.toArray {w with drawn:=w.drawn+1})
 (hb:(es.length+new.length) * i.bytes<=140737488355328) (hm:es.length+new.length<=9223372036854775807):
 ∃K' v w',K.Le K'/\bW K' G ok w0 ({h with dead:=d}.fresh i.size (es++new)).2 w'/\a8 K' ({h with dead:=d}.fresh i.size (es++new)).1 v/\(Builtin.append_ ts ty #[c,cx]).run P w=.ok v w':=by
 simp only[dy] at hz;obtain⟨z,hz,wW⟩:=hz;have hq:∃nc,es.length+new.length<=nc/\(choose (.appendCap (es.length+new.length) aC elem)).run P w=.ok nc {w with drawn:=w.drawn+1}:=by refine⟨_,?_,by simp[Question.forced];rfl⟩;simp[Question.cut]
 obtain⟨nc,GS,vh⟩:=hq
 let rest:=Builtin.zeroCells z.cells (nc - (es.length+new.length))
 let cells:Array aR:=eC.toArray++nv.toArray++rest
 let w1:cB:={w with drawn:=w.drawn+1}
 let w2:cB:={w1 with heap:=w1.heap.push (.cells cells elem)}
 have pH:eC.length=es.length * i.size:=by rw[<-fU.length,nq hr]
 have ku:nv.length=new.length * i.size:=by rw[<-Xh.length,nq Kf]
 have bZ:(es++new).length * i.size=(eC++nv).length:=by rw[dE,dE,pH,ku,gI]
 have hzero:(zeroValue elem).run P w1=.ok z w1:=by simp[zeroValue,ry hi,hz]
 have aji:=growslice_fits (bytes:=i.bytes) jy hb;have mo:(Builtin.append_ ts ty #[c,cx]).run P w=.ok (.slice (aa ⟨w.heap.size,0,ar⟩) (es.length+new.length) nc) w2:=by
  subst hc;have e1:¬(((es.length+new.length:Nat):Int)>IntKind.i64.max):=by simp only[IntKind.max,IntKind.signed,IntKind.bits];simp;omega
  have e2:¬(Builtin.nextslicecap (es.length+new.length) aC * i.bytes>2^48):=by omega
  have e3:¬(es.length+new.length<=aC):=by omega
  cases d1<;>first|exact absurd rfl (dU _)|(simp only[Builtin.append_,h0,jt,jO,pj,Sem.run_bind,du hu,Result.andThen_ok,sizeOf,ry hi,Sem.run_pure,h1,du mq,jW,if_false,OP,e3,e1,e2,false_and,vh,run_askRoom,hf,zk,if_true,Ah,newRow,run_newObj,hzero,w1,w2,cells,rest])
 have bF:cells.size=nc * i.size:=by simp only[cells,R1,acm,rest,aam,pH,ku,wW];rw[MM];have:(es.length+new.length) * i.size<=nc * i.size:=om _ GS;rw[gI] at this ⊢;omega
 have nS:w2.heap[w.heap.size]?=aa (.cells cells elem (0,0)):=by simp[w2,w1]
 obtain⟨K',le,s',hv⟩:=s.NX (w':=w2) hd (sz:=i.size) (es:=es++new) (cells:=cells) (e:=elem) (fz:=(0,0)) (aC:=nc)
  (λr hm=>by rcases vX.1 hm with hm|hm;exact hr r hm;exact Kf r hm) (by rw[qM,AW,ha,yl];rfl) (by have:cells.toList.take ((es++new).length * i.size)=eC++nv:=(by rw[bZ];simp only[cells,CM];rw[I0 bH];exact gO bH);rw[this,qM];exact fU.append Xh) rfl rfl rfl (by simp[w2,w1]) (λk hk=>BP w _ hk) nS (by rw[dE];exact GS) (by rw[bF];exact aM _) (λj _=>JH j)
 rw[dE] at hv;exact⟨K',_,w2,le,s',hv,mo⟩
def auL(s:bW K G ok w0 h w){ts:Array aK}{ty elem:aK}{kn:IntKind}{a x y:AV}{h':ao}(hu:(ts[0]?).bind P.underlying=aa (.slice elem))(mq:(ts[1]?).bind P.underlying=aa (.int kn))
 (he:LX P h ts elem a x=aa (y,h')) {c cx:aR} (ha:a8 K a c) (hx:a8 K x cx):
 ∃K' v w',K.Le K'/\bW K' G ok w0 h' w'/\a8 K' y v/\(Builtin.append_ ts ty #[c,cx]).run P w=.ok v w':=by
 unfold LX at he;split at he
 ·rename_i sz kk n;obtain⟨rfl,_⟩:=hx.iV;split at he
  ·rename_i i zero hi hz;obtain⟨z,jk,ia,yJ⟩:=CH (K:=K) hz w;split at he
   ·rename_i Oh;obtain⟨h0,h1,h2,h3,h5,h6⟩:=Oh;injection he with he;obtain⟨rfl,rfl⟩:=iO he;have hzero:i.zero=aa z:=by
     simp only[zeroValue,Sem.run_bind,ry hi,Result.andThen_ok] at jk;cases Hm:i.zero with|none=>rw[Hm] at jk;simp at jk|some v=>rw[Hm] at jk;simp at jk;rw[jk]
    have wW:z.cells.size=i.size:=(by rw[<-h6,ia.length];simp);obtain⟨m,rfl⟩:∃m:Nat,n=m:=⟨n.toNat,by omega⟩;rw[Int.toNat_natCast];obtain⟨t0,t1,rfl⟩:∃t0 t1,ts=#[t0,t1]:=by
     obtain⟨l⟩:=ts
     match l,h0 with
     | [a,b],_=>exact⟨a,b,rfl⟩
    have hu:P.underlying t0=aa (.slice elem):=hu;have mq:P.underlying t1=aa (.int kn):=mq;have hm:m * i.bytes<=140737488355328:=(by have:((m * i.bytes:Nat):Int)<=140737488355328:=(by rw[Int.natCast_mul];exact h2);omega);have mo:=Go.Lib.run_append_nil_zeros (P:=P) w t0 t1 ty elem i z kk kn hu mq hi hzero m ah h5 ah ah;have ec:=grownCap_ge w m 0 elem;generalize grownCap w m 0 elem=gc at *
    have JS:(Builtin.zeroCells z.cells m).toList=(bg m z.cells.toList).flatten:=HP _ _;have pH:(bg m z.cells.toList).flatten.length=(bg m zero).flatten.length:=(ia.Bw m).length.symm;have ku:(bg m zero).flatten.length=m * i.size:=nq (sz:=i.size) (es:=bg m zero) (λr hr=>by rw[IU hr];exact h6)|>.trans (by rw[mB])
    have dm:(Builtin.zeroCells z.cells m++Builtin.zeroCells z.cells (gc - m)).size=gc * i.size:=by
     rw[R1,<-xF,<-xF,JS,pH,ku];have e2:(Builtin.zeroCells z.cells (gc - m)).toList=(bg (gc - m) z.cells.toList).flatten:=HP _ _;rw[e2,<-(ia.Bw (gc - m)).length];have e3:(bg (gc - m) zero).flatten.length=(gc - m) * i.size:=nq (sz:=i.size) (es:=bg (gc - m) zero) (λr hr=>by rw[IU hr];exact h6)|>.trans (by rw[mB])
     rw[e3,<-gI,Nat.add_sub_cancel' ec]
    obtain⟨q1,q2⟩:=(s.drew (w.drawn+1)).Qb (cs:=(bg m zero).flatten) (cells:=Builtin.zeroCells z.cells m++Builtin.zeroCells z.cells (gc - m)) elem (aa (m,i.size,gc * i.size))
     (by rw[CM,JS,I0 (by rw[pH];exact aM _),gO (by rw[pH];exact aM _)];exact ia.Bw m) (KU yJ _)
     (λN sz room q=>by injection q with q;injection q with q1 q;injection q with q2 q3;subst q1 q2 q3;exact .inr ⟨ku,by rw[dm];exact aM _⟩)
    have bZ:h.boxes.length=K.β.length:=s.lL.symm;cases ha with
    |nil=>
     cases q2 with|box _ _ _ hb=>exact⟨_,_,_,K.Ex _ _,q1,.arr _ _ _ _ _ _ _ hb (aM _) ec (.inl rfl) (.inr (.inr (.inr ⟨i.size,gc * i.size,by simp only[aY.oS,bZ,if_true],h5,aM _⟩))),mo⟩
    |list _ _ _ _ _ _ _ _ _ _ _ _ ht _=>exact ht.2.elim
   ·cases he
  ·cases he
 ·cases he
set_option maxHeartbeats 1000000 in
def MZ(s:bW K G ok w0 h w){ts:Array aK}{ty:aK}{a x y:AV}{h':ao}(he:gP P h ts a x=aa (y,h')){c cx:aR}(ha:a8 K a c)(hx:a8 K x cx):
 ∃K' v w',K.Le K'/\bW K' G ok w0 h' w'/\a8 K' y v/\(Builtin.append_ ts ty #[c,cx]).run P w=.ok v w':=by
 unfold gP at he;split at he
 ·rename_i hu mq;exact auL s hu mq he ha hx
 ·rename_i elem d1 D9 hu mq;simp only[zD] at hu mq;obtain⟨t0,h0,hu⟩:=hu;obtain⟨t1,h1,mq⟩:=mq;have dU:∀k,d1≠ .int k:=λk e=>D9 k e;split at he
  ·cases he
  rename_i i hi;split at he
  ·cases he
  rename_i new lT;split at he;rotate_left
  ·cases he
  rename_i hz;obtain⟨nv,n1,n2,n3,n4,n5,n6⟩:=HB (P:=P) s lT hx;obtain⟨nv',n1',n2',n3',n4',n5',n6'⟩:=HB (P:=P) (s.drew (w.drawn+1)) lT hx;split at he
  ·rename_i k sz es;split at he;rotate_left
   ·cases he
   rename_i dm;have jK:rowsOf h i.size (.list k sz es)=aa es:=(by simp only[rowsOf];rw[aG dm]);obtain⟨b,aC,eC,rfl,r1,r2,r3,r4,r5,r6⟩:=HU (P:=P) (s.drew (w.drawn+1)) jK ha;have hf:(Builtin.firstCells i.size es.length (.slice b es.length aC)).run P {w with drawn:=w.drawn+1}=.ok eC.toArray {w with drawn:=w.drawn+1}:=by
    cases b with|none=>have:=r6 rfl;subst this;have:eC=[]:=(by simpa using r4);subst this;rfl|some b=>exact r5 b rfl
   split at he
   ·rename_i oX;injection he with he;obtain⟨rfl,rfl⟩:=Prod.mk.inj he;subst oX;have OT:nv=[]:=(by simpa using n5);subst OT;refine⟨K,.slice b es.length aC,w,.refl K,s,ha,?_⟩;have jy:es.length<=aC:=by
     cases ha with|nil=>exact aM _|js=>exact aM _|list _ _ _ _ _ _ _ _ _ _ _ _ ht _=>exact ht.1
    have n1:(Builtin.lenOf cx).run P w=.ok 0 w:=n1;have n6:(Builtin.firstCells i.size 0 cx).run P w=.ok #[] w:=n6;cases d1<;>first|exact absurd rfl (dU _)|(cases b<;>simp only[Builtin.append_,h0,jt,jO,pj,Sem.run_bind,du hu,Result.andThen_ok,sizeOf,ry hi,Sem.run_pure,h1,du mq,jW,if_false,n1,A4,jy,if_true,zk,n6,storeCells])
   ·rename_i GU;have GV:0<new.length:=by cases new with|nil=>exact absurd rfl GU|cons _ _=>simp
    split at he;rotate_left
    ·cases he
    rename_i hb;have grow:∀d:List Nat,(∀n∈h.dead,n∈d)->aC<es.length+new.length->
     ∃K' v w',K.Le K'/\bW K' G ok w0 ({h with dead:=d}.fresh i.size (es++new)).2 w'/\a8 K' ({h with dead:=d}.fresh i.size (es++new)).1 v/\(Builtin.append_ ts ty #[.slice b es.length aC,cx]).run P w=.ok v w':=
     λd hd jy=>air s hd h0 hu h1 mq dU hi hz.2 rfl jy r1 r3 r2 hf n1 n2 n3' n4 n6' hb.1 hb.2
    split at he
    ·injection he with he;obtain⟨rfl,rfl⟩:=iO he;cases ha with|nil=>exact grow h.dead (λ_ hm=>hm) (by simpa using GV)|list _ _ _ _ _ _ _ _ _ _ _ _ ht _=>exact ht.2.elim
    ·injection he with he;obtain⟨rfl,rfl⟩:=iO he;cases ha with|js=>exact grow h.dead (λ_ hm=>hm) (by simpa using GV)|list _ _ _ _ _ _ _ _ _ _ _ _ ht _=>exact grow h.dead (λ_ hm=>hm) (by have:=ht.2;simp only at this;omega)
    ·rename_i n;split at he;rotate_left
     ·cases he
     rename_i VN;simp only[bL,decide_eq_true_eq] at VN;obtain⟨eM,hsi⟩:=VN;injection he with he;obtain⟨rfl,rfl⟩:=iO he;rcases dV aC (es.length+new.length) with jy|jy
     ·exact grow (n::h.dead) (λ_ hm=>fN _ hm) jy
     ·cases ha with
      |list _ _ _ g off n' _ cells hn hr fU iQ ht qk=>
       obtain⟨t1',t2,t3,t4⟩:=ht.2;obtain⟨k1,k2,k3,bc,be,bz,k4,k5,k6⟩:=s.tok n eM;subst t2;subst hsi;have wL:bc.size=(K.tk n).2.2:=k5;have qn:off+es.length * i.size+nv.length<=bc.size:=(by have:(es.length+new.length) * i.size<=aC * i.size:=om _ jy;rw[gI] at this;omega);obtain⟨w',dH,q1,q2,q3⟩:=Il (P:=P) (off+es.length * i.size) be bz nv 0 bc w k4 ah (F5 n3 n4) (λj hj hj'=>by rw[<-zV k4];exact k6 j ah ah);have GK:dH.size=bc.size:=(by have h1:dH.toList.length=bc.toList.length:=(by rw[q3];simp only[dE,fj,hD,xF,A4];omega);simpa using h1);have Ov:∀j,j<off+es.length * i.size->dH[j]?=bc[j]?:=λj hj=>(by rw[<-CK,q3,<-CK,sR,rK (by simp;omega),oh,aG ah]);have ajl:∀j,j<nv.length->dH[off+es.length * i.size+j]?=nv[j]?:=λj hj=>(by have aB:(bc.toList.take (off+es.length * i.size+0)).length=off+es.length * i.size:=(by simp;omega);rw[<-CK,q3,sR,zC ah,aB,rK ah];congr 1;omega);have dJ:=s.row (h':=({h with dead:=n::h.dead}.fresh i.size (es++new)).2) (w':=w') (g:=(K.tk n).1) (off:=off+es.length * i.size) (m:=off+(es.length+new.length) * i.size) (cells:=dH) (e:=be) (fz:=bz) rfl rfl rfl
        (λt ht=>(Ti (λ_ hm=>fN _ hm) ht).imp id λhh=>⟨hh.1,λmi=>hh.2 (by rw[s.pT t n hh.1 eM mi];exact gj ..)⟩)
        k1 k2 (λj hj=>k3 j ah) (by rw[q2.size];exact aM _) q2.os q2.tape q2.output (λk o hk ho=>(q2.other k hk).trans ho) q2.this (λo ho=>by rw[k4] at ho;injection ho with ho;subst ho;exact⟨_,_,_,rfl⟩)
        (λj c hc=>by
         have hj:j<off+es.length * i.size:=by
          rcases dV j (off+es.length * i.size) with h|h
          ·exact h
          ·rw[k3 j ah] at hc;cases hc
         rw[Ov j hj,<-rW k4];exact s.ic _ _ _ hc)
        (by rw[gI];omega) (by rw[gI,GK];omega) (λj hj hl=>by rw[<-zV k4];rw[gI] at hj;exact k6 j ah ah)
       have le:=aY.PS (K:=K) (g:=(K.tk n).1) (off:=off+es.length * i.size) (m:=off+(es.length+new.length) * i.size) (size:=dH.size) (cells:=λj=>dH[j]?) (λj hj=>k3 j ah) k1;have dF:cells.length=es.length * i.size:=(by rw[<-fU.length,nq hr]);refine⟨_,.slice (aa ⟨(K.tk n).1,off,ar⟩) (es.length+new.length) aC,w',le,dJ,?_,?_⟩
       ·refine .list (.free h.tn) i.size (es++new) (K.tk n).1 off _ aC (cells++nv) bH (λr hm=>by rcases vX.1 hm with hm|hm;exact hr r hm;exact n2 r hm) (by rw[qM];exact(fU.append n3).mono le) (λj c hj=>?_) ⟨jy,?_⟩ (by rw[qM,AW,qk,n4];rfl)
        ·rcases dV j cells.length with aB|ec
         ·rw[rK aB] at hj;exact le.ic _ _ _ (iQ j c hj)
         ·rw[zC ec] at hj;have lF:j - cells.length<nv.length:=(aV.1 hj).1;simp only[aY.row];rw[aG (by refine⟨aX,by omega,by rw[gI];omega⟩)];have:=ajl (j - cells.length) lF;rw[hj] at this;rw[<-this];congr 1;omega
        ·simp only[aY.row,s.tn,if_true];refine⟨ah,aX,aX,by omega⟩
       ·have zY:(⟨(K.tk n).1,off,ar⟩:Addr).add (es.length * i.size)=⟨(K.tk n).1,off+es.length * i.size,ar⟩:=Addr.mF _ _ _;cases d1<;>first|exact absurd rfl (dU _)|(simp only[Builtin.append_,h0,jt,jO,pj,Sem.run_bind,du hu,Result.andThen_ok,sizeOf,ry hi,Sem.run_pure,h1,du mq,jW,if_false,n1,jy,if_true,zk,n6,zY,q1])
    ·cases he
  ·rename_i b off len aC;split at he
   ·rename_i cs cC;split at he
    ·rename_i hc;injection he with he;obtain⟨rfl,rfl⟩:=iO he;cases ha with
     |arr _ g _ _ _ fC iH hb hl oU qY mn=>
      obtain⟨k1,k2,ka,cells,e,k3,k4⟩:=s.box b g cs hb cC;have yF:cs.length<=cells.size:=k4.le;have hm:(len+new.length) * i.size<=aC * i.size:=om _ hc.1;rw[gI] at hm;have VX:len+new.length<=iH:=(by omega);by_cases Kn:aC=0
      ·have B2:new=[]:=by cases new with|nil=>rfl|cons _ _=>simp at hc;omega
       subst B2;have OT:nv=[]:=(by simpa using n5);subst OT;have n1:(Builtin.lenOf cx).run P w=.ok 0 w:=n1;have n6:(Builtin.firstCells i.size 0 cx).run P w=.ok #[] w:=n6;have yE:h.boxes.set b (eT cs (off+len * i.size) ([]:List (List AV)).flatten)=h.boxes:=by
        rw[show eT cs (off+len * i.size) ([]:List (List AV)).flatten=cs by simp[eT]];apply qL;intro k;rw[mA];split
        ·rename_i e;subst e;rw[aG (aV.1 cC).1,cC]
        ·rfl
       rw[yE];refine⟨K,.slice (aa ⟨g,fC,ar⟩) len iH,w,.refl K,s,.arr _ _ _ _ _ _ _ hb hl oU qY mn,?_⟩;have OI:len<=iH:=(by omega);cases d1<;>first|exact absurd rfl (dU _)|(simp only[Builtin.append_,h0,jt,jO,pj,Sem.run_bind,du hu,Result.andThen_ok,sizeOf,ry hi,Sem.run_pure,h1,du mq,jW,if_false,n1,A4,OI,if_true,zk,n6,storeCells])
      ·have OU:fC=off:=by rcases qY with p|p<;>omega
       obtain⟨w',dH,q1,q2,q3⟩:=Il (P:=P) (off+len * i.size) e (0,0) nv 0 cells w k3 ah (F5 n3 n4) (λj _ _=>JH j);have qt:new.flatten.length=new.length * i.size:=(by rw[n3.length,n5]);refine⟨K,.slice (aa ⟨g,fC,ar⟩) (len+new.length) iH,w',.refl K,s.RC hb cC (by rw[qt];omega) k3 q2 q3 n3 n4,.arr _ _ _ _ _ _ _ hb hc.1 oU qY mn,?_⟩;have zY:(⟨g,off,ar⟩:Addr).add (len * i.size)=⟨g,off+len * i.size,ar⟩:=Addr.mF _ _ _;rw[OU];cases d1<;>first|exact absurd rfl (dU _)|(simp only[Builtin.append_,h0,jt,jO,pj,Sem.run_bind,du hu,Result.andThen_ok,sizeOf,ry hi,Sem.run_pure,h1,du mq,jW,if_false,n1,VX,if_true,zk,n6,zY,q1])
    ·cases he
   ·cases he
  ·cases he
 ·cases he
def ais{t0 t1 elem:aK}{ts:Array aK}{ty:aK}{i:TypeInfo}{d1:TypeDesc}(h0:ts[0]?=aa t0)(hu:P.underlying t0=aa (.slice elem))
 (h1:ts[1]?=aa t1) (mq:P.underlying t1=aa d1) (dU:∀k,d1≠ .int k) (hi:P.info? elem=aa i) (hz:(i.zero.map λz=>z.cells.size)=aa i.size)
 {n m:Nat} {a:Option Addr} {aC:Nat} {cx:aR} (jy:aC<n+m) {eC:List aR} (pN:eC.length=n * i.size)
 (hf:(Builtin.firstCells i.size n (.slice a n aC)).run P {w with drawn:=w.drawn+1}=.ok eC.toArray {w with drawn:=w.drawn+1})
 {nv:List aR} (OP:(Builtin.lenOf cx).run P w=.ok m w) (qt:nv.length=m * i.size)
 (Ah:(Builtin.firstCells i.size m cx).run P {w with drawn:=w.drawn+1}=.ok nv.toArray {w with drawn:=w.drawn+1})
 (hb:(n+m) * i.bytes<=140737488355328) (hm:n+m<=9223372036854775807):
 ∃nc cells,n+m<=nc/\cells.size=nc * i.size/\cells.toList.take ((n+m) * i.size)=eC++nv/\
  (Builtin.append_ ts ty #[.slice a n aC,cx]).run P w=.ok (.slice (aa ⟨w.heap.size,0,ar⟩) (n+m) nc) {w with drawn:=w.drawn+1,heap:=w.heap.push (.cells cells elem)}:=by
 simp only[dy] at hz;obtain⟨z,hz,wW⟩:=hz;have hq:∃nc,n+m<=nc/\(choose (.appendCap (n+m) aC elem)).run P w=.ok nc {w with drawn:=w.drawn+1}:=by refine⟨_,?_,by simp[Question.forced];rfl⟩;simp[Question.cut]
 obtain⟨nc,GS,vh⟩:=hq
 let rest:=Builtin.zeroCells z.cells (nc - (n+m))
 let cells:Array aR:=eC.toArray++nv.toArray++rest
 let w1:cB:={w with drawn:=w.drawn+1}
 have bZ:(n+m) * i.size=(eC++nv).length:=by rw[dE,pN,qt,gI]
 have hzero:(zeroValue elem).run P w1=.ok z w1:=by simp[zeroValue,ry hi,hz]
 have aji:=growslice_fits (bytes:=i.bytes) jy hb;refine⟨nc,cells,GS,?_,?_,?_⟩
 ·simp only[cells,R1,acm,rest,aam,pN,qt,wW];rw[MM];have:(n+m) * i.size<=nc * i.size:=om _ GS;rw[gI] at this ⊢;omega
 ·rw[bZ];simp only[cells,CM];rw[I0 bH];exact gO bH
 ·have e1:¬(((n+m:Nat):Int)>IntKind.i64.max):=by simp only[IntKind.max,IntKind.signed,IntKind.bits];simp;omega
  have e2:¬(Builtin.nextslicecap (n+m) aC * i.bytes>2^48):=by omega
  have e3:¬(n+m<=aC):=by omega
  cases d1<;>first|exact absurd rfl (dU _)|(simp only[Builtin.append_,h0,jt,jO,pj,Sem.run_bind,du hu,Result.andThen_ok,sizeOf,ry hi,Sem.run_pure,h1,du mq,jW,if_false,OP,e3,e1,e2,false_and,vh,run_askRoom,hf,zk,if_true,Ah,newRow,run_newObj,hzero,w1,cells,rest])
set_option maxHeartbeats 2000000 in
def aty(s:bW K G ok w0 h w){ts:Array aK}{ty:aK}{a x y:AV}{h':ao}(he:rF P h ts a x=aa (y,h')){c cx:aR}(ha:a8 K a c)(hx:a8 K x cx):
 ∃K' v w',K.Le K'/\bW K' G ok w0 h' w'/\a8 K' y v/\(Builtin.append_ ts ty #[c,cx]).run P w=.ok v w':=by
 have aF:=he;unfold rF at he;split at he
 ·cases he
 ·rename_i elem d1 D9 Xe Xf;have hu:=Xe;have mq:=Xf;simp only[zD] at hu mq;obtain⟨t0,h0,hu⟩:=hu;obtain⟨t1,h1,mq⟩:=mq;have dU:∀k,d1≠ .int k:=λk e=>D9 k e;split at he
  ·cases he
  rename_i i hi;split at he
  ·cases he
  rename_i new lT;split at he;rotate_left
  ·cases he
  rename_i hz;obtain⟨nv,n1,n2,n3,n4,n5,n6⟩:=HB (P:=P) s lT hx;obtain⟨nv',n1',n2',n3',n4',n5',n6'⟩:=HB (P:=P) (s.drew (w.drawn+1)) lT hx;have fresh:∀{h0:ao} (s0:bW K G ok w0 h0 w) {n aC:Nat} {ad:Option Addr} {cs:List AV} {eC:List aR},h0.boxes.length=h.boxes.length->aC<n+new.length->aS K cs eC->cs.all AV.ek=ai->cs.length=n * i.size->
   (Builtin.firstCells i.size n (.slice ad n aC)).run P {w with drawn:=w.drawn+1}=.ok eC.toArray {w with drawn:=w.drawn+1}->(n+new.length) * i.bytes<=140737488355328->n+new.length<=9223372036854775807->
   ∃K' v w',K.Le K'/\bW K' G ok w0 {h0 with boxes:=h0.boxes++[cs++new.flatten]} w'/\a8 K' (.arr h.boxes.length 0 (n+new.length) (n+new.length)) v/\(Builtin.append_ ts ty #[.slice ad n aC,cx]).run P w=.ok v w':=by
   intro h0' s0 n aC ad cs eC mh jy fU qk dF hf hb hm;have qt:new.flatten.length=new.length * i.size:=nq n2';obtain⟨nc,cells,g1,g2,g3,g4⟩:=ais (ty:=ty) h0 hu h1 mq dU hi hz.2 jy (by rw[<-fU.length,dF]) hf n1 n5' n6' hb hm;have DV:(cs++new.flatten).length=(n+new.length) * i.size:=(by rw[dE,dF,qt,gI]);obtain⟨q1,q2⟩:=(s0.drew (w.drawn+1)).Qb (cs:=cs++new.flatten) (cells:=cells) elem (aa (n+new.length,i.size,nc * i.size)) (by rw[DV,g3];exact fU.append n3') (by rw[AW,qk,n4'];rfl)
    (λN sz room q=>by injection q with q;injection q with q1 q;injection q with q2 q3;subst q1 q2 q3;exact .inr ⟨DV,by rw[g2];exact aM _⟩)
   cases q2 with|box _ _ _ fP=>rw[mh] at fP;refine⟨_,_,_,K.Ex _ _,q1,.arr _ _ _ _ _ _ _ fP (aM _) g1 (.inl rfl) (.inr (.inr (.inr ⟨i.size,nc * i.size,?_,hz.1,aM _⟩))),g4⟩;have bZ:h.boxes.length=K.β.length:=(by rw[s0.lL,mh]);simp only[aY.oS,bZ,if_true]
  split at he
  ·rename_i k sz es;split at he;rotate_left
   ·cases he
   rename_i dm;split at he
   ·rename_i oX;refine MZ s ?_ ha hx;unfold gP;rw[Xe,Xf];cases d1<;>first|exact absurd rfl (dU _)|(simp only[hi,lT,aG hz,aG dm,aG oX];exact he)
   ·rename_i GU;split at he;rotate_left
    ·cases he
    rename_i hb;have jK:rowsOf h i.size (.list k sz es)=aa es:=(by simp only[rowsOf];rw[aG dm]);obtain⟨b,aC,eC,rfl,r1,r2,r3,r4,r5,r6⟩:=HU (P:=P) (s.drew (w.drawn+1)) jK ha;have hf:(Builtin.firstCells i.size es.length (.slice b es.length aC)).run P {w with drawn:=w.drawn+1}=.ok eC.toArray {w with drawn:=w.drawn+1}:=by
     cases b with|none=>have:=r6 rfl;subst this;have:eC=[]:=(by simpa using r4);subst this;rfl|some b=>exact r5 b rfl
    have GV:0<new.length:=by cases new with|nil=>exact absurd rfl GU|cons _ _=>simp
    have fin:aC<es.length+new.length->aa (AV.arr h.boxes.length 0 (es.length+new.length) (es.length+new.length),({h with boxes:=h.boxes++[(es++new).flatten]}:ao))=aa (y,h')->∃K' v w',K.Le K'/\bW K' G ok w0 h' w'/\a8 K' y v/\(Builtin.append_ ts ty #[.slice b es.length aC,cx]).run P w=.ok v w':=λjy hq=>(by injection hq with hq;obtain⟨rfl,rfl⟩:=iO hq;rw[qM];exact fresh s rfl jy r2 r3 (nq r1) hf hb.1 hb.2);split at he
    ·refine fin ?_ he;cases ha with|nil=>simpa using GV|list _ _ _ _ _ _ _ _ _ _ _ _ ht _=>exact ht.2.elim
    ·refine fin ?_ he;cases ha with|js=>simpa using GV|list _ _ _ _ _ _ _ _ _ _ _ _ ht _=>have:=ht.2;simp only at this;omega
    ·cases he
  ·rename_i b off len aC;split at he
   ·rename_i cs cC;split at he
    ·exact MZ s he ha hx
    ·rename_i GG;split at he
     ·rename_i hc;injection he with he;obtain⟨rfl,rfl⟩:=iO he;obtain⟨c1,c2,c3,c4,c5,c6⟩:=hc;subst c1;subst c3;cases ha with
      |arr _ g _ _ _ fC iH hb hl oU qY mn=>
       have OU:fC=0:=by rcases qY with p|p<;>omega
       subst OU;obtain⟨k1,k2,ka,cells,e,k3,k4⟩:=s.box b g cs hb cC;have bO:cs≠[]:=λq=>(by subst q;have:=MI c2 hz.1;simp at c4;omega);have Oc:=(aV.1 cC).1;have oV:=s.agY b;have J2:(h.boxes.set b []).length=h.boxes.length:=(by simp);rcases dV iH (len+new.length) with jy|jy
       ·refine fresh oV J2 jy k4.1 ka c4.symm ?_ c5 c6;have:=run_loadCells_list (P:=P) {w with drawn:=w.drawn+1} ⟨g,0,ar⟩ (cells.toList.take cs.length) (λj v hj=>by
         rw[Addr.mF,rW (w:={w with drawn:=w.drawn+1}) k3];simp only[oh] at hj;split at hj
         ·simpa using hj
         ·cases hj)
        rw[<-k4.1.length,<-c4] at this;rw[<-c4];exact this
       ·rcases mn with r|r|r|⟨sz,room,r1,r2,r3⟩
        ·omega
        ·omega
        ·exact absurd rfl r
        ·rcases k4.2 _ _ _ r1 with q|⟨q1,q2⟩
         ·exact absurd q bO
         ·have dm:i.size=sz:=Nat.eq_of_mul_eq_mul_left c2 (c4.trans q1);subst dm;have eI:=k4.le;have qt:new.flatten.length=new.length * i.size:=nq n2;have ajO:(len+new.length) * i.size<=cells.size:=fJ (om _ jy) (fJ r3 q2);rw[gI] at ajO;obtain⟨w',dH,w1,w2,w3⟩:=Il (P:=P) (0+len * i.size) e (0,0) nv 0 cells w k3 ah (F5 n3 n4) (λj _ _=>JH j);have ai4:dH.toList.length=cells.toList.length:=(by rw[w3];exact Rt (by simp only[xF];omega));obtain⟨s3,yn⟩:=oV.atq (g:=g) (cs:=cs++new.flatten) (cells:=dH) (e:=e) k1 k2
           (λb2 fP=>by
            show(h.boxes.set b [])[b2]?=aa [];rw[mA];by_cases ue:b=b2
            ·subst ue;rw[aG rfl,aG Oc]
            ·rw[aH ue];rcases s.pW _ _ _ hb fP with p|p|p
             ·exact absurd p ue
             ·rw[cC] at p;injection p with p;exact absurd p bO
             ·exact p)
           (λt ht hq=>by obtain⟨_,q,_⟩:=s.tok t ht;exact q b (by rw[hq];exact hb)) k3 (aa (len+new.length,i.size,cells.size))
           (λN sz room q=>by injection q with q;injection q with q1 q;injection q with q2 q3;subst q1 q2 q3;refine .inr ⟨by rw[dE,<-c4,qt,gI],?_⟩;simp only[xF] at ai4;omega) w2
           (by rw[dE,qt,w3];have e1:cs.length+new.length * i.size=0+len * i.size+0+nv.length:=(by omega);rw[e1,I0 (by simp only[dE,fj,xF];omega),gO (by simp only[dE,fj,xF];omega)];have e2:0+len * i.size+0=cs.length:=(by omega);rw[e2];exact k4.1.append n3) (by rw[AW,ka,n4];rfl)
          rw[J2] at yn;refine⟨_,.slice (aa ⟨g,0,ar⟩) (len+new.length) iH,w',K.Ex _ _,s3,.arr _ _ _ _ _ _ _ yn (aM _) jy (.inl rfl) (.inr (.inr (.inr ⟨i.size,cells.size,?_,hz.1,fJ r3 q2⟩))),?_⟩
          ·have bZ:h.boxes.length=K.β.length:=s.lL.symm;simp only[aY.oS,bZ,if_true]
          ·have zY:(⟨g,0,ar⟩:Addr).add (len * i.size)=⟨g,0+len * i.size,ar⟩:=Addr.mF _ _ _;cases d1<;>first|exact absurd rfl (dU _)|(simp only[Builtin.append_,h0,jt,jO,pj,Sem.run_bind,du hu,Result.andThen_ok,sizeOf,ry hi,Sem.run_pure,h1,du mq,jW,if_false,n1,jy,if_true,zk,n6,zY,w1])
     ·cases he
   ·cases he
  ·cases he
 ·cases he
def ae3(s:bW K G ok w0 h w){t:aK}{len:Nat}{parts:Array (Nat × bT)}{ρ:bT->AV}{ρ':bT->aR}(hρ:∀x,a8 K (ρ x) (ρ' x)){k:Tok}{sz:Nat}{es:List (List AV)}
 (he:fX P t len (parts.toList.map λp=>(p.1,ρ p.2))=aa (.list k sz es)):
 ∃K' v w',K.Le K'/\bW K' G ok w0 (h.fresh sz es).2 w'/\a8 K' (h.fresh sz es).1 v/\(Instr.buildSlice t len (parts.map λp=>(p.1,ρ' p.2))).run P w=.ok v w':=by
 obtain⟨p1,p2⟩:=Qr hρ parts;unfold fX at he;split at he
 ·rename_i elem hu;split at he
  ·rename_i size zero hs hz;obtain⟨z,jk,ia,yJ⟩:=CH (K:=K) hz w;split at he
   ·rename_i hc;simp only[dy] at he;obtain⟨out,ho,he⟩:=he;injection he with _ e1 e2;subst e1;subst e2;obtain⟨f1,f2,f3⟩:=UU (λr hr=>by rw[(Sx.1 hr).2];exact hc.2.1) ho;have wW:z.cells.size=size:=(by rw[<-hc.2.1,ia.length];simp);have nN:((zh (len * size)).map (z.cells[·%z.cells.size]!)).toList=(bg len z.cells.toList).flatten:=(by rw[<-wW];exact HP _ _);obtain⟨out',q1,q2⟩:=JB (dH:=(zh (len * size)).map (z.cells[·%z.cells.size]!)) f1 (by rw[nN];exact ia.Bw len) p1 p2;have oY:out.length=len:=(by rw[f3];simp);have yF:out'.toList.length=len * size:=(by rw[<-q2.length,nq f2,oY]);obtain⟨K',le,s',hv⟩:=s.NX (w':={w with heap:=w.heap.push (.cells out' elem)}) (d:=h.dead) (λ_ hm=>hm) (sz:=size) (es:=out) (cells:=out') (e:=elem) (fz:=(0,0)) (aC:=len)
     f2 (UW f1 (KU yJ len)) (by rw[gO (by rw[yF,oY];exact aM _)];exact q2) rfl rfl rfl bH (λk hk=>BP w _ hk) bH
     ah (by rw[<-yF];simp) (λj hj=>by simp[nt])
    rw[oY] at hv;refine⟨K',.slice (aa ⟨w.heap.size,0,ar⟩) len len,_,le,s',hv,?_⟩;by_cases h0:len * size=0
    ·have N1:len=0:=by
      rcases acx.1 h0 with h|h
      ·exact h
      ·omega
     subst N1;simp only[FZ] at q1;have e1:(zh 0).map (λx=>(#[]:Array aR)[x%(#[]:Array aR).size]!)=(zh 0).map (z.cells[·%z.cells.size]!):=(by simp);simp only[Instr.buildSlice,Sem.run_bind,du hu,Result.andThen_ok,nD hs,FZ];simp only[qO,gt_iff_lt,if_false,acH,if_true,Sem.run_pure,Result.andThen_ok,e1,q1,newRow,Sem.run_bind,run_newObj]
    ·simp only[Instr.buildSlice,Sem.run_bind,du hu,Result.andThen_ok,nD hs];rw[aH ah,aH h0];simp only[Sem.run_pure,Sem.run_bind,jk,Result.andThen_ok,q1,newRow,run_newObj]
   ·cases he
  ·cases he
 ·cases he
def bW.kill(s:bW K G ok w0 h w){t:Nat}(ha:alive h t=ai)(n:Nat):bW K G ok w0 {h with dead:=t::h.dead} (w.freeze ⟨(K.tk t).1,n,ar⟩ 1):=by
 obtain⟨t1,t2,t3,c0,e0,z0,t4,t5,t6⟩:=s.tok t ha;have nS:∃z,(w.freeze ⟨(K.tk t).1,n,ar⟩ 1).heap[(K.tk t).1]?=aa (.cells c0 e0 z):=by simp only[World.freeze,MJ,if_false,CJ,if_true,t4,eW];exact⟨_,rfl⟩
 obtain⟨z1,nS⟩:=nS;have ny:∀k,k≠(K.tk t).1->(w.freeze ⟨(K.tk t).1,n,ar⟩ 1).heap[k]?=w.heap[k]?:=λk hk=>by simp only[World.freeze,MJ,if_false,CJ];rw[aH (Ne.symm hk)]
 have dm:(w.freeze ⟨(K.tk t).1,n,ar⟩ 1).heap.size=w.heap.size:=by simp[World.freeze]
 have eM:∀t',alive {h with dead:=t::h.dead} t'=ai->alive h t'=ai/\t'≠t:=λt' h'=>by unfold alive at h' ⊢;simp only[List.contains_cons,bL,zj,Bool.or_eq_false_iff,decide_eq_true_eq] at h' ⊢;exact⟨⟨h'.1,h'.2.2⟩,λq=>by rw[q] at h';simp at h'⟩
 refine⟨?_,by rw[dm];exact s.size,λg j c hc=>?_,s.eR,s.lL,s.pW,λb g cs hb cC=>?_,s.oa,s.qI,λl g r hl hr=>?_,s.tn,λt' Hi=>?_,λt' u Hi hu=>s.pT t' u (eM t' Hi).1 (eM u hu).1,λr hr=>?_,s.all⟩
 ·refine s.dh.trans ⟨rfl,rfl,rfl,by rw[dm];exact aM _,λk hk=>?_⟩;have ug:k<K.base:=hk;exact ny k ah
 ·have h1:=s.ic g j c hc;by_cases hg:g=(K.tk t).1
  ·subst hg;rw[rW t4] at h1;rw[rW nS];exact h1
  ·rw[<-h1];exact World.cell?_of_block (w:=w) (ny g hg)
 ·obtain⟨h1,h2,qj,dH,e',h3,h4⟩:=s.box b g cs hb cC;exact⟨h1,h2,qj,dH,e',by rw[ny g λq=>t2 b (q ▸ hb)];exact h3,h4⟩
 ·obtain⟨h1,fn,tmps,d,h2,h3⟩:=s.loop l g r hl hr;exact⟨h1,fn,tmps,d,by rw[ny g λq=>by rw[q,t4] at h2;cases h2];exact h2,h3⟩
 ·obtain⟨Kk,bO⟩:=eM t' Hi;obtain⟨h1,h2,h3,dH,e',fz',h4,h5,h6⟩:=s.tok t' Kk;have iZ:(K.tk t').1≠(K.tk t).1:=λq=>bO (s.pT t' t Kk ha q);have h7:(w.freeze ⟨(K.tk t).1,n,ar⟩ 1).heap[(K.tk t').1]?=aa (.cells dH e' fz'):=by rw[ny _ iZ];exact h4
  exact⟨h1,h2,h3,dH,e',fz',h7,h5,λj hj hl=>by rw[<-h6 j hj hl,zV h4,zV h7]⟩
 ·obtain⟨h1,h2⟩:=s.md r hr;exact⟨h1,by rw[ny r λq=>by rw[q,t4] at h2;cases h2];exact h2⟩
def agk(s:bW K G ok w0 h w){src dst:aK}{x y:AV}{h':ao}(he:nm P h src dst x=aa (y,h')){c:aR}(hx:a8 K x c):
 ∃K' v w',K.Le K'/\bW K' G ok w0 h' w'/\a8 K' y v/\(convert src dst c).run P w=.ok v w':=by
 unfold nm at he;split at he
 ·rename_i e str hs hd;obtain⟨rfl,_⟩:=hx.iV;split at he
  ·rename_i i hu hi;split at he
   ·injection he with he;obtain⟨rfl,rfl⟩:=iO he;obtain⟨K',v,w',q1,q2,q3,q4⟩:=atG (P:=P) s (e:=e) (str:=str);exact⟨K',v,w',q1,q2,q3,by simp only[convert,Sem.run_bind,du hs,du hd,du hu,Result.andThen_ok];exact q4⟩
   ·cases he
  ·cases he
 ·rename_i e hs hd;split at he
  ·rename_i ae hu jK;simp only[dy] at he;obtain⟨l,hl,he⟩:=he;obtain⟨rfl,rfl⟩:=iO he;obtain⟨a,aC,eC,rfl,hr,fU,ha,bZ,BX,oX⟩:=HU (P:=P) s jK hx;obtain⟨ns,rfl,rfl⟩:=ae7 hl fU;refine⟨K,.string ⟨(ns.map λn=>UInt8.ofNat n.toNat).toArray⟩,w,.refl K,s,.v _ rfl,?_⟩;cases a with|none=>have:=oX rfl;subst this;simp at bZ;subst bZ;simp only[convert,Sem.run_bind,du hs,du hd,du hu,Result.andThen_ok,Conv.bytesToString];rfl|some b=>have ku:=BX b rfl;rw[oo] at ku;simp only[convert,Sem.run_bind,du hs,du hd,du hu,Result.andThen_ok,Conv.bytesToString,ku,List.forIn_toArray,Sem.run_pure];simp[foldl_push]
  ·cases he
 ·rename_i e e2 t sz es hs hd;split at he
  ·rename_i hu;split at he
   ·rename_i hc;obtain⟨rfl,eM⟩:=hc;injection he with he;obtain⟨rfl,rfl⟩:=iO he;cases hx with|list _ _ _ g off n aC cells hn hr hv iQ ht ha=>obtain⟨Kk,Ek,yG,ht4,ht5⟩:=ht;subst yG;obtain⟨t1,t2,t3,c0,e0,z0,t4,t5,t6⟩:=s.tok t eM;refine⟨K,.slice (aa ⟨(K.tk t).1,off,ar⟩) n aC,_,.refl K,s.kill eM c0.size,.list .held sz es _ off n aC cells hn hr hv iQ ⟨Kk,aX⟩ ha,?_⟩;have Kh:w.shape? (K.tk t).1=aa (e0,c0.size):=(by simp[World.shape?,t4]);rw[hs] at hd;injection hd with hd;injection hd with hd;subst hd;simp only[convert,Sem.run_bind,du hs,du hu,Result.andThen_ok,beq_self_eq_true,markStringish,run_shape,Kh,run_freeze,Sem.run_pure]
   ·cases he
  ·cases he
 ·cases he
 ·rename_i d1 d2 p hs hd _ _ _ _;simp only[dy,zD] at he;obtain⟨z,⟨q,h1,h2⟩,he⟩:=he;obtain⟨rfl,rfl⟩:=iO he;obtain⟨rfl,_⟩:=hx.iV;exact⟨K,q,w,.refl K,s,Io h2,HM h1 w⟩
 ·cases he
end
section
variable {P:bK} {K:aY} {G:Nat->Option (List AV)} {ok:bm->Nat->Code->Bool} {w0 w:cB} {h:ao}
def ago(s:bW K G ok w0 h w){ts:Array aK}{ty:aK}{a x y:AV}{h':ao}(he:zQ P h ts a x=aa (y,h')){c cx:aR}(ha:a8 K a c)(hx:a8 K x cx):
 ∃K' v w',K.Le K'/\bW K' G ok w0 h' w'/\a8 K' y v/\(Builtin.copy_ ts ty #[c,cx]).run P w=.ok v w':=by
 unfold zQ at he;split at he
 ·rename_i elem hu;simp only[zD] at hu;obtain⟨t0,h0,hu⟩:=hu;split at he
  ·rename_i i b off len aC hi;split at he
   ·rename_i ae cs jK cC;split at he
    ·rename_i hc;injection he with he;obtain⟨rfl,rfl⟩:=iO he;obtain⟨nv,n1,n2,n3,n4,n5,n6⟩:=HB (P:=P) s jK hx;cases ha with
     |arr _ g _ _ _ fC iH hb hl oU qY mn=>
      obtain⟨k1,k2,ka,cells,e,k3,k4⟩:=s.box b g cs hb cC;have yF:cs.length<=cells.size:=k4.le;have ajF:oP ae.length len<=ae.length:=Nat.min_le_left _ _;have ajG:oP ae.length len<=len:=Nat.min_le_right _ _;have hm:oP ae.length len * i.size<=len * i.size:=om _ ajG;have qp:oP ae.length len * i.size<=ae.length * i.size:=om _ ajF;have nw:(ae.take (oP ae.length len)).flatten=ae.flatten.take (oP ae.length len * i.size):=NQ n2 _;have qx:aS K (ae.take (oP ae.length len)).flatten (nv.take (oP ae.length len * i.size)):=(by rw[nw];exact n3.take _);have iB:(ae.take (oP ae.length len)).flatten.all AV.ek=ai:=(by rw[nw,ej];intro x hx;exact ej.1 n4 x (oO hx));have bZ:(nv.take (oP ae.length len * i.size)).length=oP ae.length len * i.size:=(by simp only[fj];omega);obtain⟨w',dH,q1,q2,q3⟩:=ark (P:=P) qY (vs:=nv.take (oP ae.length len * i.size)) (λhz=>by have:oP ae.length len=0:=(by omega);rw[this];simp) k3 ah (F5 qx iB);refine⟨K,.int .i64 (oP ae.length len:Nat),w',.refl K,s.RC hb cC (by rw[qx.length];omega) k3 q2 q3 qx iB,.v _ rfl,?_⟩
      ·-- the source's first cells, as many as are copied
       have ajh:(Builtin.firstCells i.size (oP ae.length len) cx).run P w=.ok (nv.take (oP ae.length len * i.size)).toArray w:=by
        unfold mM at jK;split at jK
        ·rename_i str;split at jK
         ·rename_i h1;injection jK with jK;subst jK;obtain⟨rfl,_⟩:=hx.iV;have ku:(str.data.toList.map j8).length=str.size:=(by rw[bE];rfl);have e2:nv=str.data.toList.map λb=>Value.int .u8 b.toNat:=(by have e3:(Builtin.firstCells i.size (str.data.toList.map j8).length (.string str)).run P w=.ok (str.data.toList.map λb=>Value.int .u8 b.toNat).toArray w:=(by rw[ku];have:str.extract 0 str.size=str:=(by simp);have e4:str.data.map (λb=>Value.int .u8 b.toNat)=(str.data.toList.map λb=>Value.int .u8 b.toNat).toArray:=(by apply L0;simp);simp only[Builtin.firstCells,this,Sem.run_pure,e4]);rw[e3] at n6;injection n6 with n6 _;exact(MA n6).symm);subst e2;rw[h1,oo];simp only[Builtin.firstCells,Sem.run_pure];congr 1;apply L0;simp only[ByteArray.data_extract,CN,abo,abX,List.drop_zero,Nat.sub_zero,List.map_take]
         ·cases jK
        ·obtain⟨a,iH,eC,rfl,hr,fU,qk,GO,BX,oX⟩:=HU (P:=P) s jK hx;cases a with
         |none=>have:=oX rfl;subst this;have:nv=[]:=(by simpa using n5);subst this;simp[Builtin.firstCells]|some ad=>
          simp only[Builtin.firstCells];have hl:=BX ad rfl;have e5:eC=nv:=(by simp only[Builtin.firstCells] at n6;rw[hl] at n6;injection n6 with n6 _;exact MA n6);subst e5;have ql:∀j v,eC[j]?=aa v->w.cell? (ad.add j)=aa v:=by
           unfold rowsOf at jK;split at jK
           ·rename_i k sz es _;split at jK
            ·injection jK with jK;subst jK;cases hx with
             |js=>cases fU;intro j v hj;simp at hj
             |list _ _ _ g2 off2 n cap2 cells2 hn jj aj1 Wf Ek qj=>have ku:=run_loadCells_list (P:=P) w ⟨g2,off2,ar⟩ cells2 (λj v hj=>by rw[Addr.mF];exact s.ic _ _ _ (Wf j v hj));have DV:cells2.length=es.length * i.size:=(by rw[<-aj1.length,fU.length,GO]);rw[DV] at ku;rw[ku] at hl;injection hl with hl _;have:=MA hl;subst this;intro j v hj;rw[Addr.mF];exact s.ic _ _ _ (Wf j v hj)
            ·cases jK
           ·rename_i b2 off2 akI cap2 _;split at jK
            ·rename_i cs2 Oj;split at jK
             ·rename_i au6;injection jK with jK;cases hx with
              |arr _ g2 _ _ _ off2' cap2' fP ku VX OZ avo=>
               obtain⟨_,_,_,cells2,e2,k3',k4'⟩:=s.box b2 g2 cs2 fP Oj;have dF:cs2.length<=cells2.toList.length:=(by have:=k4'.le;simpa using this);rcases OZ with OZ|ia;rotate_left 1
               ·intro j v hj;have cH:ae.length=0:=(by omega);rw[cH] at GO;have:eC=[]:=(by simpa using GO);subst this;simp at hj
               rw[OZ] at hl ⊢;have DV:((cells2.toList.drop off2).take (ae.length * i.size)).length=ae.length * i.size:=(by simp only[fj,hD];omega);have GK:=run_loadCells_list (P:=P) w ⟨g2,off2,ar⟩ ((cells2.toList.drop off2).take (ae.length * i.size)) (λj v hj=>by
                rw[Addr.mF,rW k3'];simp only[oh,oN] at hj;split at hj
                ·simpa using hj
                ·cases hj)
               rw[DV] at GK;rw[GK] at hl;injection hl with hl _;have:=MA hl;subst this;intro j v hj;rw[Addr.mF,rW k3'];simp only[oh,oN] at hj;split at hj
               ·simpa using hj
               ·cases hj
             ·cases jK
            ·cases jK
           ·cases jK
          have:=run_loadCells_list (P:=P) w ad (eC.take (oP ae.length len * i.size)) (λj v hj=>by
           simp only[oh] at hj;split at hj
           ·exact ql j v hj
           ·cases hj)
          rw[bZ] at this;exact this
       simp only[Builtin.copy_,h0,jt,jO,pj,Sem.run_bind,du hu,Result.andThen_ok,n1,sizeOf,ry hi,Sem.run_pure,ajh,q1];rfl
    ·cases he
   ·cases he
  ·cases he
 ·cases he
def akN{ts:Array aK}{ty t:aK}(h0:ts[0]?=aa t){x y:AV}(he:dW P t x=aa y){c:aR}(hx:a8 K x c)(w:cB):
 ∃v,(Builtin.len_ ts ty #[c]).run P w=.ok v w/\a8 K y v:=by
 unfold dW at he;split at he
 ·rename_i hu;injection he with he;subst he;obtain⟨rfl,_⟩:=hx.iV;exact⟨_,by simp only[Builtin.len_,h0,jt,jO,Sem.run_bind,du hu,Result.andThen_ok,Sem.run_pure,goInt],.v _ rfl⟩
 ·rename_i n e hu;injection he with he;subst he;exact⟨_,by simp only[Builtin.len_,h0,jt,jO,Sem.run_bind,du hu,Result.andThen_ok,Sem.run_pure,goInt],.v _ rfl⟩
 ·rename_i a hu;split at he
  ·rename_i n e Pt;injection he with he;subst he;exact⟨_,by simp only[Builtin.len_,h0,jt,jO,Sem.run_bind,du hu,du Pt,Result.andThen_ok,Sem.run_pure,goInt],.v _ rfl⟩
  ·cases he
 ·rename_i e k sz es hu;injection he with he;subst he;cases hx with
  |nil=>exact⟨.int .i64 0,by simp only[Builtin.len_,h0,jt,jO,Sem.run_bind,du hu,Result.andThen_ok,Sem.run_pure,goInt];rfl,.v _ rfl⟩
  |js=>exact⟨.int .i64 0,by simp only[Builtin.len_,h0,jt,jO,Sem.run_bind,du hu,Result.andThen_ok,Sem.run_pure,goInt];rfl,.v _ rfl⟩
  |list _ _ _ g off n aC cells hn _ _ _ _ _=>subst hn;exact⟨_,by simp only[Builtin.len_,h0,jt,jO,Sem.run_bind,du hu,Result.andThen_ok,Sem.run_pure,goInt],.v _ rfl⟩
 ·rename_i e b off len aC hu;injection he with he;subst he;cases hx with|arr=>exact⟨_,by simp only[Builtin.len_,h0,jt,jO,Sem.run_bind,du hu,Result.andThen_ok,Sem.run_pure,goInt],.v _ rfl⟩
 ·cases he
def afm{ts:Array aK}{ty t:aK}(h0:ts[0]?=aa t){x y:AV}(he:DA P t x=aa y){c:aR}(hx:a8 K x c)(w:cB):
 ∃v,(Builtin.cap_ ts ty #[c]).run P w=.ok v w/\a8 K y v:=by
 unfold DA at he;split at he
 ·rename_i e sz es hu;injection he with he;subst he;cases hx with
  |js=>exact⟨.int .i64 0,by simp only[Builtin.cap_,h0,jt,jO,Sem.run_bind,du hu,Result.andThen_ok,Sem.run_pure,goInt];rfl,.v _ rfl⟩
  |list _ _ _ g off n aC cells hn _ _ _ ht _=>have:=ht.2;simp only at this;subst this;subst hn;exact⟨_,by simp only[Builtin.cap_,h0,jt,jO,Sem.run_bind,du hu,Result.andThen_ok,Sem.run_pure,goInt],.v _ rfl⟩
 ·rename_i e sz es hu;injection he with he;subst he;cases hx with
  |nil=>exact⟨.int .i64 0,by simp only[Builtin.cap_,h0,jt,jO,Sem.run_bind,du hu,Result.andThen_ok,Sem.run_pure,goInt];rfl,.v _ rfl⟩
  |list _ _ _ _ _ _ _ _ _ _ _ _ ht _=>exact ht.2.elim
 ·rename_i n e hu;injection he with he;subst he;exact⟨_,by simp only[Builtin.cap_,h0,jt,jO,Sem.run_bind,du hu,Result.andThen_ok,Sem.run_pure,goInt],.v _ rfl⟩
 ·cases he
def TL(s:bW K G ok w0 h w){b:Builtin}{ts:Array aK}{ty:aK}{args:List AV}{y:AV}{h':ao}(he:jC P h b ts ty args=aa (y,h')){vs:Array aR}(hx:aS K args vs.toList)(consts:Array Bool):
 ∃K' v w',K.Le K'/\bW K' G ok w0 h' w'/\a8 K' y v/\(builtin b ts ty consts vs).run P w=.ok (.value v) w':=by
 unfold jC at he;obtain⟨vs⟩:=vs;simp only at hx;split at he
 ·cases hx with|cons _ c _ _ hx hs=>cases hs with|nil=>
  split at he
  ·rename_i t h0;simp only[dy] at he;obtain⟨z,hz,he⟩:=he;obtain⟨rfl,rfl⟩:=iO he;obtain⟨v,q1,q2⟩:=akN (ty:=ty) h0 hz hx w;exact⟨K,v,w,.refl K,s,q2,by simp only[builtin,Sem.run_bind,q1,Result.andThen_ok,Sem.run_pure]⟩
  ·cases he
 ·cases hx with|cons _ c _ _ hx hs=>cases hs with|nil=>
  split at he
  ·rename_i t h0;simp only[dy] at he;obtain⟨z,hz,he⟩:=he;obtain⟨rfl,rfl⟩:=iO he;obtain⟨v,q1,q2⟩:=afm (ty:=ty) h0 hz hx w;exact⟨K,v,w,.refl K,s,q2,by simp only[builtin,Sem.run_bind,q1,Result.andThen_ok,Sem.run_pure]⟩
  ·cases he
 ·cases hx with|cons _ c _ _ hx hs=>cases hs with|cons _ c2 _ _ sD hs=>cases hs with|nil=>
  obtain⟨K',v,w',q1,q2,q3,q4⟩:=MZ (ty:=ty) s he hx sD;exact⟨K',v,w',q1,q2,q3,by simp only[builtin,Sem.run_bind,q4,Result.andThen_ok,Sem.run_pure]⟩
 ·cases hx with|cons _ c _ _ hx hs=>cases hs with|cons _ c2 _ _ sD hs=>cases hs with|nil=>
  obtain⟨K',v,w',q1,q2,q3,q4⟩:=ago (ty:=ty) s he hx sD;exact⟨K',v,w',q1,q2,q3,by simp only[builtin,Sem.run_bind,q4,Result.andThen_ok,Sem.run_pure]⟩
 ·split at he
  ·rename_i l hl;simp only[dy,zD] at he;obtain⟨z,⟨q,h1,h2⟩,he⟩:=he;obtain⟨rfl,rfl⟩:=iO he;have:=NN hl hx;subst this;exact⟨K,q,w,.refl K,s,Io h2,by simp only[builtin,Sem.run_bind,HM h1 w,Result.andThen_ok,Sem.run_pure]⟩
  ·cases he
 ·split at he
  ·rename_i l hl;simp only[dy,zD] at he;obtain⟨z,⟨q,h1,h2⟩,he⟩:=he;obtain⟨rfl,rfl⟩:=iO he;have:=NN hl hx;subst this;exact⟨K,q,w,.refl K,s,Io h2,by simp only[builtin,Sem.run_bind,HM h1 w,Result.andThen_ok,Sem.run_pure]⟩
  ·cases he
 ·cases he
def ae6(s:bW K G ok w0 h w){d:Option Tmp}{b:Builtin}{ts:Array aK}{ty:aK}{args:List AV}{y:AV}{h':ao}(he:rV P G d h b ts ty args=aa (y,h')){vs:Array aR}(hx:aS K args vs.toList)(consts:Array Bool):
 ∃K' v w',K.Le K'/\bW K' G ok w0 h' w'/\a8 K' y v/\(builtin b ts ty consts vs).run P w=.ok (.value v) w':=by
 unfold rV at he;split at he
 ·split at he
  ·obtain⟨vs⟩:=vs;simp only at hx;cases hx with|cons _ c _ _ hx hs=>cases hs with|cons _ c2 _ _ sD hs=>cases hs with|nil=>
   obtain⟨K',v,w',q1,q2,q3,q4⟩:=aty (ty:=ty) s he hx sD;exact⟨K',v,w',q1,q2,q3,by simp only[builtin,Sem.run_bind,q4,Result.andThen_ok,Sem.run_pure]⟩
  ·exact TL s (b:=.append) (ts:=ts) (ty:=ty) (args:=[_,_]) (show jC P h .append ts ty [_,_]=_ from he) hx consts
 ·exact TL s he hx consts
def amN{c a b y:AV}(he:KO c a b=aa y){vc va vb:aR}(hc:a8 K c vc)(ha:a8 K a va)(hb:a8 K b vb):
 ∃t v,vc=.bool t/\v=(if t then va else vb)/\a8 K y v:=by
 unfold KO at he;split at he
 ·rename_i t;injection he with he;subst he;obtain⟨rfl,_⟩:=hc.iV;refine⟨t,_,rfl,rfl,?_⟩;cases t
  ·exact hb
  ·exact ha
 ·cases he
def amO(s:bW K G ok w0 h w){ρ:bT->AV}{ρ':bT->aR}(hρ:∀x,a8 K (ρ x) (ρ' x)){o:Oper}{x:AV}{h':ao}(he:dP P G ρ h o.op=aa (x,h')):
 Yields K G ok w0 x h' ((execOp ρ' o).run P w):=by
 unfold execOp;cases bU:o.op<;>rw[bU] at he<;>simp only[dP] at he
 case move a=>injection he with he;obtain⟨rfl,rfl⟩:=iO he;exact .nj s (hρ a) rfl
 case assign a=>injection he with he;obtain⟨rfl,rfl⟩:=iO he;exact .nj s (hρ a) rfl
 case pick c a b=>
  simp only[dy] at he;obtain⟨y,hy,he⟩:=he;obtain⟨rfl,rfl⟩:=iO he;obtain⟨t,v,q1,rfl,q3⟩:=amN hy (hρ c) (hρ a) (hρ b);refine .nj s q3 ?_;simp only[q1,asBool,Sem.run_bind,Sem.run_pure,Result.andThen_ok]
 case alloc t=>
  simp only[dy] at he;obtain⟨cs,cC,he⟩:=he;obtain⟨K',v,w',q1,q2,q3,q4⟩:=adB (P:=P) s cC;rw[he] at q2 q3;exact⟨K',v,w',q1,q2,q3,.inl (by simp only[Sem.run_bind,q4,Result.andThen_ok,Sem.run_pure])⟩
 case box t a=>
  simp only[dy] at he;obtain⟨cs,cC,he⟩:=he;obtain⟨K',v,w',q1,q2,q3,q4⟩:=aeU (P:=P) (t:=t) s cC (hρ a);rw[he] at q2 q3;exact⟨K',v,w',q1,q2,q3,.inl (by simp only[Sem.run_bind,q4,Result.andThen_ok,Sem.run_pure])⟩
 case build t parts=>
  simp only[dy] at he;obtain⟨y,hy,he⟩:=he;obtain⟨rfl,rfl⟩:=iO he;obtain⟨v,q1,q2⟩:=ae5 hρ hy w;exact .nj s q2 (by simp only[Sem.run_bind,q1,Result.andThen_ok,Sem.run_pure])
 case buildSlice t len parts=>
  split at he
  ·simp only[dy] at he;obtain⟨y,hy,he⟩:=he;obtain⟨rfl,rfl⟩:=iO he;obtain⟨K',v,w',q1,q2,q3,q4⟩:=ae4 s hρ hy;exact⟨K',v,w',q1,q2,q3,.inl (by simp only[Sem.run_bind,q4,Result.andThen_ok,Sem.run_pure])⟩
  ·split at he
   ·rename_i k sz es hy;injection he with he;obtain⟨K',v,w',q1,q2,q3,q4⟩:=ae3 s hρ hy;rw[he] at q2 q3;exact⟨K',v,w',q1,q2,q3,.inl (by simp only[Sem.run_bind,q4,Result.andThen_ok,Sem.run_pure])⟩
   ·cases he
 case load t a=>
  simp only[dy] at he;obtain⟨y,hy,he⟩:=he;obtain⟨rfl,rfl⟩:=iO he;obtain⟨g,p,v,q1,q2,q3⟩:=X7 s hy (hρ a);exact .nj s q3 (by simp only[q1,Instr.loadAt,Instr.sureAddr,Sem.run_bind,q2,Result.andThen_ok,Sem.run_pure])
 case store t a y=>
  simp only[dy] at he;obtain⟨h2,hy,he⟩:=he;obtain⟨rfl,rfl⟩:=iO he;obtain⟨w',q1,q2⟩:=asY s hy (hρ a) (hρ y);exact⟨K,undef,w',.refl K,q2,.tuple _ _ .nil,.inr ⟨by simp only[Sem.run_bind,q1,Result.andThen_ok,Sem.run_pure],rfl⟩⟩
 case nilCheck a=>
  simp only[dy] at he;obtain⟨y,hy,he⟩:=he;obtain⟨rfl,rfl⟩:=iO he;have ha:=hρ a;generalize ρ a=xa at ha hy;generalize hq:ρ' a=ca at ha;unfold Qd at hy;split at hy
  ·injection hy with hy;subst hy;cases ha with|box _ _ _ hb=>exact .nj s (.box _ _ _ hb) (by simp only[hq,Sem.run_pure])|eR _ _=>exact .nj s (.eR _ _) (by simp only[hq,Sem.run_pure])
  ·injection hy with hy;subst hy;cases ha with|elem _ _ _ _ g o p cells hr hv hc hi hp qk=>exact .nj s (.elem _ _ _ _ g o p cells hr hv hc hi hp qk) (by simp only[hq,Sem.run_pure])
  ·injection hy with hy;subst hy;cases ha with|func _ _ _ fs cs h1 h2=>exact .nj s (.func _ _ _ fs cs h1 h2) (by simp only[hq,Sem.run_pure])
  ·injection hy with hy;subst hy;cases ha with|yield _ g hl=>exact .nj s (.yield _ g hl) (by simp only[hq,Sem.run_pure])
  ·injection hy with hy;subst hy;cases ha with|iface _ _ c hx=>exact .nj s (.iface _ _ c hx) (by simp only[hq,Sem.run_pure])
  ·cases hy
 case binOp op t a b yt=>
  simp only[dy] at he;obtain⟨y,hy,he⟩:=he;obtain⟨rfl,rfl⟩:=iO he;obtain⟨v,q1,q2⟩:=aeq hy (hρ a) (hρ b) w;exact .nj s q2 (by rw[Sem.run_bind,q1];rfl)
 case unOp op t a=>
  simp only[dy] at he;obtain⟨y,hy,he⟩:=he;obtain⟨rfl,rfl⟩:=iO he;obtain⟨v,q1,q2⟩:=atN hy (hρ a) w;exact .nj s q2 (by simp only[Sem.run_bind,q1,Result.andThen_ok,Sem.run_pure])
 case convert sr ds a=>
  obtain⟨K',v,w',q1,q2,q3,q4⟩:=agk s he (hρ a);exact⟨K',v,w',q1,q2,q3,.inl (by simp only[Sem.run_bind,q4,Result.andThen_ok,Sem.run_pure])⟩
 case makeInterface t a=>
  split at he
  ·rename_i yu;injection he with he;obtain⟨rfl,rfl⟩:=iO he;obtain⟨d,hu,hd⟩:=PE yu;refine .nj s (.iface t _ _ (hρ a)) ?_;simp only[Instr.makeInterface,Sem.run_bind,du hu,Result.andThen_ok];cases d<;>first|exact absurd rfl (hd _)|rfl
  ·cases he
 case makeFunc fn first aC=>
  injection he with he;obtain⟨rfl,rfl⟩:=iO he;refine .nj s (.func fn _ _ _ _ (by rw[CN];exact aS.map_mk λx _=>hρ x) (by rw[CN];exact aS.map_mk λx _=>hρ x)) rfl
 case makeSlice t l c=>
  obtain⟨K',v,w',q1,q2,q3,q4⟩:=aln s he (hρ l) (hρ c);exact⟨K',v,w',q1,q2,q3,.inl (by simp only[Sem.run_bind,q4,Result.andThen_ok,Sem.run_pure])⟩
 case slice t a lo hi mx=>
  simp only[dy] at he;obtain⟨y,hy,he⟩:=he;obtain⟨rfl,rfl⟩:=iO he;obtain⟨v,q1,q2⟩:=asd hρ hy (hρ a) w;exact .nj s q2 (by simp only[Sem.run_bind,q1,Result.andThen_ok,Sem.run_pure])
 case fieldAddr t a f=>
  simp only[dy] at he;obtain⟨y,hy,he⟩:=he;obtain⟨rfl,rfl⟩:=iO he;obtain⟨v,q1,q2⟩:=ahz hy (hρ a) w;exact .nj s q2 (by simp only[Sem.run_bind,q1,Result.andThen_ok,Sem.run_pure])
 case field t a f=>
  have ha:=hρ a;generalize ρ a=xa at ha he;generalize hq:ρ' a=ca at ha;split at he
  ·rename_i fields cs hu;split at he
   ·rename_i fd hf;simp only[dy] at he;obtain⟨y,hy,he⟩:=he;obtain⟨rfl,rfl⟩:=iO he;cases ha with|agg _ vs fU=>obtain⟨v,q1,q2⟩:=YN hy fU w;exact .nj s q2 (by simp only[Instr.field,Sem.run_bind,du hu,Result.andThen_ok,hf,hq,asAgg,Sem.run_pure,q1])
   ·cases he
  ·cases he
 case indexAddr t a i=>
  simp only[dy] at he;obtain⟨y,hy,he⟩:=he;obtain⟨rfl,rfl⟩:=iO he;obtain⟨v,q1,q2⟩:=aka hy (hρ a) (hρ i) w;exact .nj s q2 (by simp only[Sem.run_bind,q1,Result.andThen_ok,Sem.run_pure])
 case index t a i=>
  simp only[dy] at he;obtain⟨y,hy,he⟩:=he;obtain⟨rfl,rfl⟩:=iO he;obtain⟨v,q1,q2⟩:=akc hy (hρ a) (hρ i) w;exact .nj s q2 (by simp only[Sem.run_bind,q1,Result.andThen_ok,Sem.run_pure])
 case typeAssert a xt t okk=>
  simp only[dy] at he;obtain⟨y,hy,he⟩:=he;obtain⟨rfl,rfl⟩:=iO he;obtain⟨v,q1,q2⟩:=adV (xt:=xt) hy (hρ a) w;exact .nj s q2 (by simp only[Sem.run_bind,q1,Result.andThen_ok,Sem.run_pure])
 case extract a i=>
  have ha:=hρ a;generalize ρ a=xa at ha he;generalize hq:ρ' a=ca at ha;split at he
  ·rename_i vs;simp only[dy] at he;obtain⟨y,hy,he⟩:=he;obtain⟨rfl,rfl⟩:=iO he;cases ha with|tuple _ cvs fU=>obtain⟨c,hc,hr⟩:=fU.get hy;have:cvs[i]?=aa c:=(by simpa using hc);exact .nj s hr (by simp only[Instr.extract,hq,this,Sem.run_bind,Sem.run_pure,Result.andThen_ok])
  ·cases he
 all_goals cases he
end
def EH(n:Nat)(ops:Array Oper):Bool:=ops.all λo=>match o.dst with|some d=>decide (d<n)|none=>ai
def codeOk(n:Nat):Code->Bool
 | .region _ ops _=>EH n ops
 | .seq a b=>codeOk n a&&codeOk n b
 | .cond _ a b=>codeOk n a&&codeOk n b
 | .block _ c=>codeOk n c
 | .loop c=>codeOk n c
 | .scope c=>codeOk n c
 | .rangeFunc _ ps a b=>ps.all (λp=>decide (p<n))&&codeOk n a&&codeOk n b
 |_=>ai
def EF(P:bK)(fn:bm)(n:Nat)(c:Code):Bool:=codeOk n c&&(P.funcs[fn]?).isSome
inductive qJ (K:aY):List (bm × List AV)->List Deferred->List Nat->Prop
 |nil:qJ K [] [] []
 |call (g:bm) (args:List AV) (vs aC:Array aR) (ds cds ms) (hv:aS K args (vs++aC).toList) (h:qJ K ds cds ms):
  qJ K ((g,args)::ds) ({target:=.fn (.func g) aC,args:=vs}::cds) ms
 |mark (r:Nat) (ds cds ms) (hr:r∈K.md) (hn:r∉ms) (h:qJ K ds cds ms):qJ K ds ({target:=.collected r,args:=#[]}::cds) (r::ms)
def qJ.mono{K K'}(le:K.Le K'){ds cds ms}(h:qJ K ds cds ms):qJ K' ds cds ms:=by
 induction h with
 |nil=>exact .nil|call g args vs aC ds cds ms hv _ ih=>exact .call g args vs aC ds cds ms (hv.mono le) ih|mark r ds cds ms hr hn _ ih=>exact .mark r ds cds ms (le.md r hr) hn ih
structure nF(P:bK)(K:aY)(e:Env)(a:Act)(B:fh)(ms:List Nat):Prop where
 iF:mD K e.tmps a.tmps
 defers:qJ K e.defers a.defers ms
 round:match e.round with
  |none=>B.roundOf=ar
  |some l=>∃g,K.γ[l]?=aa g/\B.roundOf=aa g/\B.kind=.normal/\a.defers=[]/\ms=[]/\e.defers=[]
 fn:(P.funcs[B.fn]?).isSome=ai
def nF.mono{P}{K K'}(le:K.Le K'){e}{a}{B}{ms}(h:nF P K e a B ms):nF P K' e a B ms:=by
 refine⟨h.iF.mono le,h.defers.mono le,?_,h.fn⟩;have:=h.round;cases hr:e.round with|none=>rw[hr] at this;exact this|some l=>rw[hr] at this;obtain⟨g,h1,h2⟩:=this;exact⟨g,le.γ _ _ h1,h2⟩
inductive CS (K:aY) (kind:CallKind) (base:List fh):Option (AV × Bool)->List fh->Prop
 |normal (h:kind=.normal):CS K kind base ar base
 |ret (c0:fh) (rest:List fh) (hk:kind=.deferred) (hb:base=c0::rest) (hm:c0.mode=.returning):CS K kind base ar base
 |cV (c0:fh) (rest:List fh) (x:AV) (v:aR) (r:Bool) (hk:kind=.deferred) (hb:base=c0::rest) (hx:a8 K x v):
  CS K kind base (aa (x,r)) ({c0 with mode:=.panicking [{v,recovered:=r}]}::rest)
def CS.mono{K K'}(le:K.Le K'){kind base p cs}(h:CS K kind base p cs):CS K' kind base p cs:=by
 cases h with|normal h=>exact .normal h|ret c0 rest hk hb hm=>exact .ret c0 rest hk hb hm|cV c0 rest x v r hk hb hx=>exact .cV c0 rest x v r hk hb (hx.mono le)
def EA(s:px)(d t)(x):(s.set d x).get t=if d=t then x else s.get t:=by
 simp only[px.set,px.get,look];by_cases h:d=t
 ·subst h;have:jG d d=ai:=Nat.beq_refl d;rw[this,aG rfl];rfl
 ·have:jG d t=az:=by
   cases hb:jG d t with|false=>rfl|true=>exact absurd (jP hb) h
  rw[this,aH h];rfl
section
variable {P:bK} {K:aY} {G:Nat->Option (List AV)} {w0 w:cB} {h:ao}
def mD.set{s:px}{tmps:Array aR}(hs:mD K s tmps){d:Nat}(hd:d<tmps.size){x:AV}{v:aR}(hx:a8 K x v):mD K (s.set d x) (tmps.setIfInBounds d v):=by
 intro t;rw[EA];by_cases ht:d=t
 ·subst ht;rw[aG rfl];simp[Ma,hd];exact hx
 ·rw[aH ht];have:(tmps.setIfInBounds d v).getD t undef=tmps.getD t undef:=by simp[Ma,ht]
  rw[this];exact hs t
def zT{e:Env}{a:Act}(hs:mD K e.tmps a.tmps)(x:bT):a8 K (e.eval x) (a.eval x):=by
 cases x with|tmp t=>exact hs t|const v=>exact KG v|global g=>exact .eR g 0|func f=>exact .func (.func f) [] [] #[] #[] .nil .nil
def nF.put{e:Env}{a:Act}{B:fh}{ms:List Nat}(hf:nF P K e a B ms){dst:Option Tmp}(hd:∀d,dst=aa d->d<a.tmps.size){x:AV}{v:aR}(hx:a8 K x v):
 nF P K (e.put dst x) (a.put dst v) B ms:=by
 cases dst with|none=>exact hf|some d=>exact⟨hf.iF.set (hd d rfl) hx,hf.defers,hf.round,hf.fn⟩
def KR(a:Act)(dst)(v):(a.put dst v).tmps.size=a.tmps.size:=by cases dst<;>simp[Act.put]
section steps
variable {B:fh} {a:Act} {k:List Item} {cs:List fh} {ops:Array Oper} {i:Nat} {rest:List Nat} {o:Oper} {w':cB}
def Bs(ho:ops[i]?=aa o)(v:aR):(B.atR a (.inRegion ops (i::rest)::k)).finish v=B.atR (a.put o.dst v) (.inRegion ops rest::k):=by rw[Frame.finish_atR,ho];rfl
def aaK(ho:ops[i]?=aa o)(hw:Region.wanted o (yielded ops a.tmps)=ai){v:aR}(hr:(o.semAt B.roundOf a.eval).run P w=.ok (.value v) w'):
 step P (lone (B.atR a (.inRegion ops (i::rest)::k)) cs w)=.next (lone (B.atR (a.put o.dst v) (.inRegion ops rest::k)) cs w'):=by
 refine step_lone_go ?_;rw[stepGR_op ho hw,<-Bs ho];simp[stepG.apply,hr,Sem.runT_eq]
def asW(ho:ops[i]?=aa o)(hw:Region.wanted o (yielded ops a.tmps)=ai)(hr:(o.semAt B.roundOf a.eval).run P w=.ok .skip w'):
 step P (lone (B.atR a (.inRegion ops (i::rest)::k)) cs w)=.next (lone (B.atR (a.put o.dst undef) (.inRegion ops rest::k)) cs w'):=by
 refine step_lone_go ?_;rw[stepGR_op ho hw,<-Bs ho];simp[stepG.apply,hr,Sem.runT_eq]
def asN(ho:ops[i]?=aa o)(hw:Region.wanted o (yielded ops a.tmps)=ai){f:bm}{args:Array aR}(hr:(o.semAt B.roundOf a.eval).run P w=.ok (.enter f args) w'):
 step P (lone (B.atR a (.inRegion ops (i::rest)::k)) cs w)=.next (lone (Frame.enter P f args .normal) (B.atR a (.inRegion ops (i::rest)::k)::cs) w'):=by
 refine step_lone_go ?_;rw[stepGR_op ho hw];simp[stepG.apply,hr,Sem.runT_eq,Frame.atR]
def asU(ho:ops[i]?=aa o)(hw:Region.wanted o (yielded ops a.tmps)=ai){l:Nat}{f:bm}{tmps:Array aR}{assign body:Code}(hr:(o.semAt B.roundOf a.eval).run P w=.ok (.round l f tmps assign body) w'):
 step P (lone (B.atR a (.inRegion ops (i::rest)::k)) cs w)=.next (lone (Frame.round l f tmps assign body .normal) (B.atR a (.inRegion ops (i::rest)::k)::cs) w'):=by
 refine step_lone_go ?_;rw[stepGR_op ho hw];simp[stepG.apply,hr,Sem.runT_eq,Frame.atR]
def asM(ho:ops[i]?=aa o)(hw:Region.wanted o (yielded ops a.tmps)=ai){d:Deferred}(hr:(o.semAt B.roundOf a.eval).run P w=.ok (.defer d) w'):
 step P (lone (B.atR a (.inRegion ops (i::rest)::k)) cs w)=.next (lone (B.atR ({a with defers:=d::a.defers}.put o.dst undef) (.inRegion ops rest::k)) cs w'):=by
 refine step_lone_go ?_;rw[stepGR_op ho hw,<-Bs (B:=B) (k:=k) (rest:=rest) (a:={a with defers:=d::a.defers}) ho];simp[stepG.apply,hr,Sem.runT_eq,Frame.atR]
def aaG(ho:ops[i]?=aa o)(hw:Region.wanted o (yielded ops a.tmps)=ai){v:aR}(hr:(o.semAt B.roundOf a.eval).run P w=.halt (.panic v) w'):
 step P (lone (B.atR a (.inRegion ops (i::rest)::k)) cs w)=.next (lone {B.atR a (.inRegion ops (i::rest)::k) with mode:=.panicking [{v,recovered:=az}]} cs w'):=by
 refine step_lone_go ?_;rw[stepGR_op ho hw,<-Frame.raise_atR];simp[stepG.apply,hr,Sem.runT_eq]
def asS(ho:ops[i]?=aa o)(hw:Region.wanted o (yielded ops a.tmps)=ai)(kC:B.roundOf=ar)(hr:(o.semAt B.roundOf a.eval).run P w=.ok .recover w')
 (ht:tryRecover (B.atR a (.inRegion ops (i::rest)::k)) cs=ar):
 step P (lone (B.atR a (.inRegion ops (i::rest)::k)) cs w)=.next (lone (B.atR (a.put o.dst .nilIface) (.inRegion ops rest::k)) cs w'):=by
 refine step_lone_go ?_;have Pf:(B.atR a (.inRegion ops (i::rest)::k)).roundOf=ar:=kC;rw[stepGR_op ho hw,<-Bs ho];simp[stepG.apply,hr,Sem.runT_eq,Pf,ht]
def asT(ho:ops[i]?=aa o)(hw:Region.wanted o (yielded ops a.tmps)=ai)(kC:B.roundOf=ar)(hr:(o.semAt B.roundOf a.eval).run P w=.ok .recover w')
 {v:aR} {dO:List fh} (ht:tryRecover (B.atR a (.inRegion ops (i::rest)::k)) cs=aa (v,dO)):
 step P (lone (B.atR a (.inRegion ops (i::rest)::k)) cs w)=.next (lone (B.atR (a.put o.dst v) (.inRegion ops rest::k)) dO w'):=by
 refine step_lone_go ?_;have Pf:(B.atR a (.inRegion ops (i::rest)::k)).roundOf=ar:=kC;rw[stepGR_op ho hw,<-Bs ho];simp[stepG.apply,hr,Sem.runT_eq,Pf,ht]
end steps
end
abbrev lD(P:bK)(G:Nat->Option (List AV))(w0:cB)(K:aY)(h:ao)(w:cB):Prop:=bW K G (EF P) w0 h w
def ob(P:bK)(K:aY)(m:Machine)(B:fh)(k:List Item)(cs:List fh):Xt->Act->cB->Prop
 | .normal,a,w=>Steps P m (lone (B.atR a k) cs w)
 | .exit id,a,w=>∃todo,exitTo id todo=exitTo id k/\Steps P m (lone (B.atR a (.code (.exit id)::todo)) cs w)
 | .ret,a,w=>∃todo,Steps P m (lone (B.atR a (.code .ret::todo)) cs w)
 | .panic x,a,w=>∃todo v,a8 K x v/\Steps P m (lone {B.atR a todo with mode:=.panicking [{v,recovered:=az}]} cs w)
def ob.of_steps{P}{K}{m m'}{B}{k}{cs}{x}{a}{w}(hs:Steps P m m')(h:ob P K m' B k cs x a w):ob P K m B k cs x a w:=by
 cases x with
 |normal=>exact hs.trans h|exit id=>obtain⟨t,h1,h2⟩:=h;exact⟨t,h1,hs.trans h2⟩
 |ret=>obtain⟨t,h2⟩:=h;exact⟨t,hs.trans h2⟩
 |panic x=>obtain⟨t,v,h1,h2⟩:=h;exact⟨t,v,h1,hs.trans h2⟩
def ob.pass{P}{K}{m}{B}{it}{k}{cs}{x}{a}{w}(hp:it.plain=ai)(hn:x≠ .normal)
 (h:ob P K m B (it::k) cs x a w):ob P K m B k cs x a w:=by
 cases x with
 |normal=>exact absurd rfl hn|exit id=>obtain⟨t,h1,h2⟩:=h;refine⟨t,h1.trans ?_,h2⟩;cases it<;>first|rfl|simp[Item.plain] at hp
 |ret=>exact h|panic x=>exact h
structure Left(P:bK)(G:Nat->Option (List AV))(w0:cB)(K:aY)(ms:List Nat)(B:fh)(base:List fh)(m:Machine)(k:List Item)(n:Nat)(out:Xt)(e':Env)(h':ao)
 (K':aY) (w':cB) (a':Act) (dO:List fh) (ms':List Nat):Prop where
 le:K.Le K'
 qG:lD P G w0 K' h' w'
 frame:nF P K' e' a' B ms'
 cs:CS K' B.kind base e'.cV dO
 size:a'.tmps.size=n
 marks:∀r∈ms',r∈ms∨r∉K.md
 arr:ob P K' m B k dO out a' w'
def SR(P:bK)(G:Nat->Option (List AV))(w0:cB)(f:Code->Env->ao->Option (Xt × Env × ao)):Prop:=
 ∀c e h out e' h',f c e h=aa (out,e',h')->∀K w a B k base cs ms,nF P K e a B ms->CS K B.kind base e.cV cs->lD P G w0 K h w->codeOk a.tmps.size c=ai->
  ∃K' w' a' dO ms',Left P G w0 K ms B base (lone (B.atR a (.code c::k)) cs w) k a.tmps.size out e' h' K' w' a' dO ms'
def SO(P:bK)(K:aY)(fr:fh)(w:cB):eX->Prop
 | .ret x=>∃v,a8 K x v/\fr.leaving P w (.returned v)
 | .panic x=>∃v,a8 K x v/\fr.leaving P w (.panicked [{v,recovered:=az}])
def SQ(P:bK)(G:Nat->Option (List AV))(w0:cB)(f:bm->List AV->ao->Option (eX × ao)):Prop:=
 ∀g args h r h',f g args h=aa (r,h')->(∃fn,P.funcs[g]?=aa fn/\fn.body.isSome=ai)/\∀K w fk,aS K args (fk:Array aR).toList->lD P G w0 K h w->∀cs,
  ∃K' w' fr,K.Le K'/\lD P G w0 K' h' w'/\Steps P (lone (Frame.enter P g fk .normal) cs w) (lone fr cs w')/\fr.fn=g/\SO P K' fr w' r
def SS(P:bK)(G:Nat->Option (List AV))(w0:cB)(f:bm->List AV->Option (AV × Bool)->ao->Option (eX × Option (AV × Bool) × ao)):Prop:=
 ∀g args m h x m' h',f g args m h=aa (.ret x,m',h')->(∃fn,P.funcs[g]?=aa fn/\fn.body.isSome=ai)/\∀K w fk base cs,aS K args (fk:Array aR).toList->CS K .deferred base m cs->lD P G w0 K h w->
  ∃K' w' fr dO v,K.Le K'/\lD P G w0 K' h' w'/\CS K' .deferred base m' dO/\Steps P (lone (Frame.enter P g fk .deferred) cs w) (lone fr dO w')/\fr.kind=.deferred/\fr.going P w' (.returned v)
def SU(P:bK)(G:Nat->Option (List AV))(w0:cB)(f:Nat->List AV->ao->Option (eX × ao)):Prop:=
 ∀l args h r h',f l args h=aa (r,h')->∀K w fk lg,K.γ[l]?=aa lg->aS K args (fk:Array aR).toList->lD P G w0 K h w->∀sY cs,
  ∃fn tmps assign body K' w',(Instr.yield lg fk).run P w=.ok (.round lg fn tmps assign body) w/\K.Le K'/\lD P G w0 K' h' w'/\
   match r with
   | .ret x=>∃v,a8 K' x v/\Steps P (lone (Frame.round lg fn tmps assign body .normal) (sY::cs) w) (lone (sY.finish v) cs w')
   | .panic x=>∃v fr,a8 K' x v/\Steps P (lone (Frame.round lg fn tmps assign body .normal) (sY::cs) w) (lone fr (sY::cs) w')/\fr.leaving P w' (.panicked [{v,recovered:=az}])
structure wc(P:bK)(G:Nat->Option (List AV))(w0:cB)(R:Rec):Prop where
 code:SR P G w0 R.code
 call:SQ P G w0 R.call
 jR:SS P G w0 R.jR
 round:SU P G w0 R.round
section
variable {P:bK} {G:Nat->Option (List AV)} {w0:cB} {R:Rec}
def Di (P : bK) : Prop := ∀ (g : bm) (fn : Func), P.funcs[g]? = aa fn -> (fn.name == "runtime.NumGoroutine") = az
def Rj(hn:Di P){g:bm}{fn:Func}(hf:P.funcs[g]?=aa fn)(hb:fn.body.isSome=ai)(args:Array aR)(w:cB):(callFunc g args).run P w=.ok (.enter g args) w:=by
 have h1:=hn g fn hf;have h2:fn.body.isNone=az:=by cases h:fn.body<;>simp_all
 unfold callFunc;simp only[Sem.run_bind,run_program,Result.andThen_ok,hf];rw[h1,h2];rfl
def alu{t:aK}{name:String}{f:bm}(he:P4 P t name=aa f)(v:aR)(w:cB)(n:Nat):
 (method (n+1) t v name).run P w=.ok (f,v) w:=by
 unfold P4 at he;split at he
 ·rename_i i hi;split at he
  ·rename_i m hm;have key:∀(pr:Bool) (d:TypeDesc),m.path.toList=[]->m.func=aa (f,pr)->P.underlying t=aa d->(match d with| .pointer _=>pr=ai|_=>pr=az)->(method (n+1) t v name).run P w=.ok (f,v) w:=(by intro pr d hp hf hu hd;simp only[method,Sem.run_bind,ry hi,Result.andThen_ok,hm,hp,follow,Sem.run_pure,hf,receiverAt,du hu];cases d<;>simp only at hd<;>subst hd<;>simp[Place.get]);split at he
   ·rename_i f' e hp hf hu;injection he with he;subst he;exact key _ _ hp hf hu rfl
   ·cases he
   ·rename_i f' d bO hp hf hd;injection he with he;subst he;refine key _ _ hp hf hd ?_;cases d<;>first|rfl|(exact absurd rfl (bO _))
   ·cases he
  ·cases he
 ·cases he
end
section
variable {P:bK} {G:Nat->Option (List AV)} {w0:cB} {R:Rec}
def YA{n}{ops}(h:EH n ops=ai){i:Nat}{o}(ho:ops[i]?=aa o):∀d,o.dst=aa d->d<n:=by intro d hd;unfold EH at h;rw[Fj] at h;obtain⟨hi,rfl⟩:=CI.1 ho;have:=h i hi;rw[hd] at this;simpa using this
def auj{K}{e}{a:Act}(hs:mD K e.tmps a.tmps){ops}(Ca:EH a.tmps.size ops=ai){o}{b}(he:ff ops e o=aa b):
 Region.wanted o (yielded ops a.tmps)=b:=by
 unfold ff at he;unfold Region.wanted;cases hg:o.guard with
 |none=>rw[hg] at he;simpa using he|some gw=>
  obtain⟨j,want⟩:=gw;rw[hg] at he;simp only at he ⊢;cases hb:(ops[j]?).bind (·.dst) with
  |none=>rw[hb] at he;simp only[dM] at he;subst he;simp[yielded,hb]|some d=>
   rw[hb] at he;simp only at he;have hd:d<a.tmps.size:=by
    cases ho:ops[j]? with
    |none=>rw[ho] at hb;cases hb
    |some o'=>rw[ho] at hb;exact YA Ca ho d hb
   have hv:=hs d;have Ov:a.tmps[d]?=aa (a.tmps.getD d undef):=(by simp[hd]);have hy:∀z,a.tmps.getD d undef=z->yielded ops a.tmps j=match z with| .bool b=>aa b|_=>ar:=by intro z hz;unfold yielded;rw[hb];simp only[pq];rw[Ov,hz];cases z<;>rfl
   unfold Env.get at he;generalize hx:e.tmps.get d=x at he hv;generalize hz:a.tmps.getD d undef=z at hv;have hy:=hy z hz;split at he
   ·rename_i b';obtain⟨rfl,-⟩:=hv.iV;injection he with he;rw[hy];simp[<-he]
   ·injection he with he;cases hv with|tuple cs vs h=>rw[hy];simp[<-he]
   ·cases he
def Je{K}{e:Env}{a:Act}(hs:mD K e.tmps a.tmps)(xs:Array bT):aS K (xs.toList.map e.eval) (xs.map a.eval).toList:=by rw[CN];exact aS.map_mk λx _=>zT hs x
def SJ(P:bK)(G:Nat->Option (List AV))(w0:cB)(K:aY)(ms:List Nat)(B:fh)(base:List fh)(m:Machine)(ops:Array Oper)(o:Oper)(rest:List Nat)(k:List Item)(n:Nat)(e':Env)(h':ao)(res:eX):Prop:=
 ∃K' w' a' dO,K.Le K'/\lD P G w0 K' h' w'/\nF P K' e' a' B ms/\CS K' B.kind base e'.cV dO/\a'.tmps.size=n/\
  match res with
  | .ret x=>∃v,a8 K' x v/\Steps P m (lone (B.atR (a'.put o.dst v) (.inRegion ops rest::k)) dO w')
  | .panic x=>∃v todo,a8 K' x v/\Steps P m (lone {B.atR a' todo with mode:=.panicking [{v,recovered:=az}]} dO w')
def alf:∃d,Made.depth=d+1:=⟨Made.depth - 1,by decide⟩
def amb(hn:Di P)(hR:wc P G w0 R){e e':Env}{a:Act}{B:fh}{ms:List Nat}{base cs:List fh}{K:aY}{h h':ao}{w:cB}{ops:Array Oper}{i:Nat}{rest:List Nat}{o:Oper}{res:eX}
 (he:eo P G R e h o=aa (res,e',h')) (hf:nF P K e a B ms) (cC:CS K B.kind base e.cV cs) (hs:lD P G w0 K h w) (ho:ops[i]?=aa o) (hw:Region.wanted o (yielded ops a.tmps)=ai) (k:List Item):
 SJ P G w0 K ms B base (lone (B.atR a (.inRegion ops (i::rest)::k)) cs w) ops o rest k a.tmps.size e' h' res:=by
 have kC:∀(ro:Option Nat) (x:Sem Next),(∀c,o.op≠ .defer c)->execOp a.eval o=x->(o.semAt ro a.eval)=x:=λro x bO hx=>by rw[Oper.semAt_eq ro a.eval o bO,hx]
 have yD:e.round.isSome=az->B.roundOf=ar:=by
  intro hr;have:=hf.round;cases hq:e.round with|none=>rw[hq] at this;exact this|some l=>rw[hq] at hr;cases hr
 unfold eo at he;split at he
 ·-- recover
  rename_i args argTypes bU;have qm:execOp a.eval o=(do let d <-resolve a.eval {callee:=.builtin .recover,args:=args,argTypes:=argTypes} o.type;invoke d.target d.args):=by unfold execOp;rw[bU]
  have mo:(o.semAt B.roundOf a.eval).run P w=.ok .recover w:=by rw[kC _ _ (by rw[bU];intro c;simp) qm];simp[resolve,invoke,builtin]
  split at he
  ·cases he
  ·rename_i qu;have hB:=yD (by simpa using qu);split at he
   ·rename_i x hp;simp only[dM,dj] at he;obtain⟨rfl,rfl,rfl⟩:=he;rw[hp] at cC;generalize D5:B.kind=kd at cC;generalize tA:(aa (x,az):Option (AV × Bool))=pp at cC;cases cC with
    |normal h=>cases tA
    |ret c0 rest' hk hb hm=>cases tA
    |cV c0 rest' x' v r hk hb hx=>injection tA with tA;injection tA with h1 h2;subst h1;subst h2;refine⟨K,w,a,_,.refl K,hs,⟨hf.iF,hf.defers,hf.round,hf.fn⟩,.cV c0 rest' x v ai (D5.trans hk) hb hx,rfl,v,hx,.one (asT ho hw hB mo ?_)⟩;simp[tryRecover,Frame.atR,D5,hk]
   ·rename_i hp;simp only[dM,dj] at he;obtain⟨rfl,rfl,rfl⟩:=he;refine⟨K,w,a,cs,.refl K,hs,hf,cC,rfl,.nilIface,.v _ rfl,.one (asS ho hw hB mo ?_)⟩;generalize D5:B.kind=kd at cC;generalize tA:e.cV=pp at cC hp;cases cC with
    |normal h=>subst h;simp[tryRecover,Frame.atR,D5]|ret c0 rest' hk hb hm=>subst hk;subst hb;simp[tryRecover,Frame.atR,D5,hm]|cV c0 rest' x' v r hk hb hx=>
     subst hk;cases r with|false=>exact absurd rfl (hp x')|true=>simp[tryRecover,Frame.atR,D5]
 ·-- the built-in panic
  rename_i args argTypes bU;have qm:execOp a.eval o=(do let d <-resolve a.eval {callee:=.builtin .panic,args:=args,argTypes:=argTypes} o.type;invoke d.target d.args):=by unfold execOp;rw[bU]
  split at he
  ·rename_i t x wI;simp only[dM,dj] at he;obtain⟨rfl,rfl,rfl⟩:=he;have hv:=Je hf.iF args;rw[wI] at hv;generalize hz:args.map a.eval=z at hv;obtain⟨z⟩:=z;simp only at hv;cases hv with
   |cons _ c _ dO h1 h2=>
    cases h2;cases h1 with|iface _ _ c hc=>refine⟨K,w,a,cs,.refl K,hs,hf,cC,rfl,.iface t c,_,.iface t x c hc,.one (aaG ho hw ?_)⟩;rw[kC _ _ (by rw[bU];intro c;simp) qm];simp[resolve,invoke,builtin,hz,Instr.panic]
  ·cases he
 ·-- another built-in function
  rename_i b args argTypes kj fP bU;have qm:execOp a.eval o=(do let d <-resolve a.eval {callee:=.builtin b,args:=args,argTypes:=argTypes} o.type;invoke d.target d.args):=by unfold execOp;rw[bU]
  simp only[dy] at he;obtain⟨⟨x,h1⟩,he,hq⟩:=he;simp only[dj] at hq;obtain⟨rfl,rfl,rfl⟩:=hq;obtain⟨K',v,w',le,s',hx,mo⟩:=ae6 hs (ty:=o.type) he (Je hf.iF args) (args.map λ| .const _=>ai|_=>az);refine⟨K',w',a,cs,le,s',hf.mono le,cC.mono le,rfl,v,hx,.one (aaK ho hw ?_)⟩;rw[kC _ _ (by rw[bU];intro c;simp) qm];simp only[resolve,invoke,Sem.run_bind,Sem.run_pure,Result.andThen_ok];exact mo
 ·-- a call
  rename_i c kj fP yn bU;have qm:execOp a.eval o=(do let d <-resolve a.eval c o.type;invoke d.target d.args):=by unfold execOp;rw[bU]
  simp only[dy] at he;obtain⟨⟨r,h1⟩,he,hq⟩:=he;simp only[dj] at hq;obtain⟨rfl,rfl,rfl⟩:=hq;have wI:=Je hf.iF c.args;have call:∀(g:bm) (xs:List AV) (vs:Array aR),R.call g xs h=aa (r,h1)->aS K xs vs.toList->((∃fn,P.funcs[g]?=aa fn/\fn.body.isSome=ai)->(execOp a.eval o).run P w=(callFunc g vs).run P w)->
   SJ P G w0 K ms B base (lone (B.atR a (.inRegion ops (i::rest)::k)) cs w) ops o rest k a.tmps.size e h1 r:=by
   intro g xs vs th fU mo;obtain⟨⟨fn,hY,ng⟩,hc⟩:=hR.call g xs h r h1 th;obtain⟨K',w',fr,le,s',ct,-,hl⟩:=hc K w vs fU hs (B.atR a (.inRegion ops (i::rest)::k)::cs);have JU:=asN (k:=k) (cs:=cs) (rest:=rest) ho hw (by rw[kC B.roundOf _ (by rw[bU];intro c;simp) rfl,mo ⟨fn,hY,ng⟩];exact Rj hn hY ng vs w);cases r with
   |ret x=>obtain⟨v,hx,hl⟩:=hl;refine⟨K',w',a,cs,le,s',hf.mono le,cC.mono le,rfl,v,hx,.head JU (ct.trans (.one ?_))⟩;rw[step_leave_returned hl,Bs ho]
   |panic x=>obtain⟨v,hx,hl⟩:=hl;refine⟨K',w',a,cs,le,s',hf.mono le,cC.mono le,rfl,v,.inRegion ops (i::rest)::k,hx,.head JU (ct.trans (.one ?_))⟩;rw[step_leave_panicked hl,Frame.raise_atR]
  obtain⟨callee,cargs,cts⟩:=c;cases callee with
  |builtin b=>simp[mb] at he|value f=>
   simp only[mb] at he;have nT:=zT hf.iF f;generalize Pa:e.eval f=qf at he nT;generalize o5:a.eval f=qv at nT;split at he
   ·rename_i g first aC
    cases nT with
    |func _ _ _ fs dO DP wF=>
     refine call g _ (fs++cargs.map a.eval++dO) he ?_ λ_=>?_
     ·simp only[CM];exact(DP.append wI).append wF
     ·rw[qm];simp[resolve,o5,Deferred.ofValue,invoke]
   ·rename_i l;cases nT with
    |yield _ lg hlg=>
     obtain⟨fn,tmps,assign,body,K',w',hy,le,s',hm⟩:=hR.round l _ h r h1 he K w (cargs.map a.eval) lg hlg wI hs (B.atR a (.inRegion ops (i::rest)::k)) cs;have JT:=asU (k:=k) (cs:=cs) (rest:=rest) ho hw (by rw[kC B.roundOf _ (by rw[bU];intro c;simp) qm];simp only[resolve,o5,Deferred.ofValue,invoke,Sem.run_bind,Sem.run_pure,Result.andThen_ok];simpa using hy);cases r with
     |ret x=>obtain⟨v,hx,ct⟩:=hm;refine⟨K',w',a,cs,le,s',hf.mono le,cC.mono le,rfl,v,hx,.head JT ?_⟩;rw[<-Bs ho];exact ct
     |panic x=>obtain⟨v,fr,hx,ct,hl⟩:=hm;refine⟨K',w',a,cs,le,s',hf.mono le,cC.mono le,rfl,v,.inRegion ops (i::rest)::k,hx,.head JT (ct.trans (.one ?_))⟩;rw[step_leave_panicked hl,Frame.raise_atR]
   ·cases he
  |invoke rcv name=>
   simp only[mb] at he;have nT:=zT hf.iF rcv;generalize Pa:e.eval rcv=qf at he nT;generalize o5:a.eval rcv=qv at nT;split at he
   ·rename_i t x;split at he
    ·rename_i f hm;cases nT with
     |iface _ _ c hc=>
      refine call f _ (#[c]++cargs.map a.eval) he ?_ λ_=>?_
      ·simp only[CM];exact .cons _ _ _ _ hc wI
      ·rw[qm];obtain⟨d,hd⟩:=alf;have ajE:=alu hm c w (P.types.size+d);have dm:P.types.size+Made.depth=P.types.size+d+1:=(by omega);simp only[resolve,o5,invoke,Sem.run_bind,Sem.run_pure,Result.andThen_ok,callMethod];have h0:(#[Value.iface t c]++Mb a.eval cargs)[0]?=aa (.iface t c):=(by rw[Array.getElem?_append_left bH];rfl);simp only[h0,run_program,Sem.run_bind,Result.andThen_ok,dm,ajE];congr 2;have hh:(#[Value.iface t c]++Mb a.eval cargs).extract 1 (#[Value.iface t c]++Mb a.eval cargs).size=Mb a.eval cargs:=(by apply L0;simp;rw[<-xF,<-bE (f:=a.eval),List.take_length]);rw[hh]
    ·cases he
   ·cases he
 ·-- a defer
  rename_i f args argTypes bU;split at he
  ·cases he
  ·rename_i qu;have hB:=yD (by simpa using qu);have nT:=zT hf.iF f;generalize Pa:e.eval f=qf at he nT;generalize o5:a.eval f=qv at nT;split at he
   ·rename_i g first aC
    simp only[dM,dj] at he;obtain⟨rfl,rfl,rfl⟩:=he;cases nT with
    |func _ _ _ fs dO DP wF=>
     have mo:(o.semAt B.roundOf a.eval).run P w=.ok (.defer {target:=.fn (.func g) dO,args:=fs++args.map a.eval}) w:=(by rw[hB,Oper.semAt_none];unfold execOp;rw[bU];simp[resolve,o5,Deferred.ofValue]);refine⟨K,w,{a with defers:=_::a.defers},cs,.refl K,hs,⟨hf.iF,.call g _ (fs++args.map a.eval) dO _ _ _ ?_ hf.defers,?_,hf.fn⟩,cC,rfl,undef,?_,.one (asM ho hw mo)⟩
     ·simp only[CM];exact(DP.append (Je hf.iF args)).append wF
     ·have mn:=hf.round;cases hq:e.round with|none=>simp only;exact hB|some l=>rw[hq] at qu;exact absurd rfl qu
     ·exact .tuple [] #[] .nil
   ·cases he
 ·-- a panic
  rename_i x bU;have nT:=zT hf.iF x;generalize Pa:e.eval x=qf at he nT;generalize o5:a.eval x=qv at nT;split at he
  ·rename_i t x;simp only[dM,dj] at he;obtain⟨rfl,rfl,rfl⟩:=he;cases nT with|iface _ _ c hc=>refine⟨K,w,a,cs,.refl K,hs,hf,cC,rfl,.iface t c,_,.iface t x c hc,.one (aaG ho hw ?_)⟩;rw[Oper.semAt_eq _ _ _ (by rw[bU];intro c;simp)];unfold execOp;rw[bU];simp[o5,Instr.panic]
  ·cases he
 ·-- any other operation
  rename_i op WK WL avi avj avk avl;simp only[dy] at he;obtain⟨⟨x,h1⟩,he,hq⟩:=he;simp only[dj] at hq;obtain⟨rfl,rfl,rfl⟩:=hq;have OR:∀c,o.op≠ .defer c:=by intro c hc;rw[hc] at he;simp[dP] at he
  obtain⟨K',v,w',le,s',hx,mo⟩:=amO hs (λx=>zT hf.iF x) he;refine⟨K',w',a,cs,le,s',hf.mono le,cC.mono le,rfl,v,hx,.one ?_⟩;rcases mo with mo|⟨mo,rfl⟩
  ·exact aaK ho hw (by rw[Oper.semAt_eq _ _ _ OR];exact mo)
  ·exact asW ho hw (by rw[Oper.semAt_eq _ _ _ OR];exact mo)
end
end Go.AE
end
section
namespace Go.AE
def arx{x y}(h:lY x y=ai):x=y:=by
 cases x<;>cases y<;>simp only[lY,bL,decide_eq_true_eq,jW,beq_iff_eq] at h
 case int.int=>rw[h.1,h.2]
 case bool.bool=>rw[h]
 case string.string a b=>
  obtain⟨⟨a⟩⟩:=a;obtain⟨⟨b⟩⟩:=b;simp only at h;rw[h]
 case pointer.pointer a b=>cases a<;>cases b<;>first|rfl|simp[lY] at h
 all_goals rfl
def arv{x y}(h:Lu x y=ai):x=y:=by cases x<;>cases y<;>simp only[Lu,jW] at h<;>rw[jP h]
def arw{x y}(h:xv x y=ai):x=y:=by cases x<;>cases y<;>simp only[xv,jW] at h<;>first|rfl|rw[jP h]
mutual
def Ro:∀{x y:AV},fe x y=ai->x=y
 | .v x,.v y,h=>by rw[fe] at h;rw[arx h]
 | .list k sz es,.list k' sz' es',h=>by rw[fe,bL,bL] at h;rw[arw h.1.1,jP h.1.2,Rp h.2]
 | .arr b o l c,.arr b' o' l' c',h=>by rw[fe,bL,bL,bL] at h;rw[jP h.1.1.1,jP h.1.1.2,jP h.1.2,jP h.2]
 | .agg cs,.agg ds,h=>by rw[fe] at h;rw[E6 h]
 | .tuple cs,.tuple ds,h=>by rw[fe] at h;rw[E6 h]
 | .ptr r o,.ptr r' o',h=>by rw[fe,bL] at h;rw[arv h.1,jP h.2]
 | .elem sz es i o,.elem sz' es' i' o',h=>by rw[fe,bL,bL,bL] at h;rw[jP h.1.1.1,jP h.1.1.2,jP h.1.2,Rp h.2]
 | .yield l,.yield l',h=>by rw[fe] at h;rw[jP h]
 | .iface t x,.iface t' y,h=>by rw[fe,bL] at h;rw[jP h.1,Ro h.2]
 | .func (.func f) a b,.func (.func g) a' b',h=>by rw[fe,bL,bL] at h;rw[jP h.1.1,E6 h.1.2,E6 h.2]
 | .bad,y,h=>by simp[fe] at h
def E6:∀{x y:List AV},oF x y=ai->x=y
 | [],[],_=>rfl
 |x::xs,y::ys,h=>by rw[oF,bL] at h;rw[Ro h.1,E6 h.2]
 | [],y::ys,h=>by simp[oF] at h
 |x::xs,[],h=>by simp[oF] at h
def Rp:∀{x y:List (List AV)},qF x y=ai->x=y
 | [],[],_=>rfl
 |x::xs,y::ys,h=>by rw[qF,bL] at h;rw[E6 h.1,Rp h.2]
 | [],y::ys,h=>by simp[qF] at h
 |x::xs,[],h=>by simp[qF] at h
end
end Go.AE
end
section
namespace Go.AE
section
variable {P:bK} {G:Nat->Option (List AV)} {R:Rec}
def P1{ρ ρ':bT->AV}{ps:Array (Nat × bT)}(h:∀x∈ps.map (·.2),ρ x=ρ' x):(ps.toList.map λp=>(p.1,ρ p.2))=ps.toList.map λp=>(p.1,ρ' p.2):=
 IY λp hp=>by rw[h p.2 (Array.mem_map.2 ⟨p,abm.1 hp,rfl⟩)]
def Az{ρ ρ':bT->AV}{ps:Array bT}(h:∀x∈ps,ρ x=ρ' x):ps.toList.map ρ=ps.toList.map ρ':=
 IY λp hp=>h p (abm.1 hp)
def YW{ρ ρ':Operand->AV}{h:ao}{op:Op}(hx:∀x∈op.operands,ρ x=ρ' x):dP P G ρ h op=dP P G ρ' h op:=by
 cases op<;>simp only[Op.operands] at hx<;>simp only[dP]
 case build t ps=>rw[P1 (λx hm=>hx x (by simpa using hm))]
 case buildSlice t n ps=>rw[P1 (λx hm=>hx x (by simpa using hm))]
 case makeFunc fn first captured=>
  rw[Az (ps:=first) λx hm=>hx x (by simp[hm]),Az (ps:=captured) λx hm=>hx x (by simp[hm])]
 case slice t x lo hi mx=>cases lo<;>cases hi<;>cases mx<;>simp_all
 all_goals (first|rfl|(simp_all;done))
def Op.Yg{c:Call}{x}(h:x∈c.args):x∈c.operands:=by simp[Call.operands,h]
def Nn{e e2:Env}{h:ao}{c:Call}(hx:∀x∈c.operands,e.eval x=e2.eval x):mb P R e h c=mb P R e2 h c:=by
 have ha:c.args.toList.map e.eval=c.args.toList.map e2.eval:=Az λx hm=>hx x (Op.Yg hm);unfold mb;simp only[ha];cases hc:c.callee with|builtin b=>rfl|value f=>have hf:e.eval f=e2.eval f:=hx f (by simp[Call.operands,hc]);simp only[hf]|invoke r m=>have hr:e.eval r=e2.eval r:=hx r (by simp[Call.operands,hc]);simp only[hr]
def Env.with(e e':Env):Env:={e with defers:=e'.defers,cV:=e'.cV}
def ama{e e':Env}{h h':ao}{o:Oper}{r:eX}(he:eo P G R e h o=aa (r,e',h')):e'=e.with e':=by
 unfold eo at he;split at he
 ·split at he
  ·cases he
  ·split at he
   ·simp only[dM,dj] at he;obtain⟨-,rfl,-⟩:=he;rfl
   ·simp only[dM,dj] at he;obtain⟨-,rfl,-⟩:=he;rfl
 ·split at he
  ·simp only[dM,dj] at he;obtain⟨-,rfl,-⟩:=he;rfl
  ·cases he
 ·simp only[dy,dj] at he;obtain⟨_,-,-,rfl,-⟩:=he;rfl
 ·simp only[dy,dj] at he;obtain⟨_,-,-,rfl,-⟩:=he;rfl
 ·split at he
  ·cases he
  ·split at he
   ·simp only[dM,dj] at he;obtain⟨-,rfl,-⟩:=he;rfl
   ·cases he
 ·split at he
  ·simp only[dM,dj] at he;obtain⟨-,rfl,-⟩:=he;rfl
  ·cases he
 ·simp only[dy,dj] at he;obtain⟨_,-,-,rfl,-⟩:=he;rfl
def al9{e e' e2:Env}{h h':ao}{o:Oper}{r:eX}(hx:∀x∈o.op.operands,e.eval x=e2.eval x)(hd:e2.defers=e.defers)(hp:e2.cV=e.cV)(hr:e2.round=e.round)
 (he:eo P G R e h o=aa (r,e',h')):eo P G R e2 h o=aa (r,e2.with e',h'):=by
 have iJ:e2.with e=e2:=by cases e2;cases e;simp_all [Env.with]
 unfold eo at he ⊢;split at he
 ·rename_i args ts bU;simp only[hr,hp];split at he
  ·cases he
  ·rename_i kC;rw[aH kC];split at he
   ·rename_i x tA;simp only[dM,dj] at he;obtain⟨rfl,rfl,rfl⟩:=he;simp[Env.with,<-hd,<-hr]
   ·rename_i tA;simp only[dM,dj] at he;obtain⟨rfl,rfl,rfl⟩:=he;rw[iJ]
 ·rename_i args ts bU;have ha:args.toList.map e.eval=args.toList.map e2.eval:=Az λx hm=>hx x (by rw[bU];simp[Op.operands,Call.operands,hm]);simp only[<-ha];split at he
  ·simp only[dM,dj] at he;obtain⟨rfl,rfl,rfl⟩:=he;simp only[iJ]
  ·cases he
 ·rename_i b args ts kj fP bU;have ha:args.toList.map e.eval=args.toList.map e2.eval:=Az λx hm=>hx x (by rw[bU];simp[Op.operands,Call.operands,hm]);simp only[dy,dj] at he;obtain⟨q,hq,rfl,rfl,rfl⟩:=he;simp only[<-ha,hq,eW,iJ]
 ·rename_i c kj fP yn bU;simp only[dy,dj] at he;obtain⟨q,hq,rfl,rfl,rfl⟩:=he;rw[Nn (e2:=e2) (λx hm=>hx x (by rw[bU];exact hm))] at hq;simp only[hq,eW,iJ]
 ·rename_i f args ts bU;have ha:args.toList.map e.eval=args.toList.map e2.eval:=Az λx hm=>hx x (by rw[bU];simp[Op.operands,Call.operands,hm]);have hf:e.eval f=e2.eval f:=hx f (by rw[bU];simp[Op.operands,Call.operands]);simp only[hr];split at he
  ·cases he
  ·rename_i kC;rw[aH kC];simp only[<-hf,<-ha];split at he
   ·simp only[dM,dj] at he;obtain⟨rfl,rfl,rfl⟩:=he;simp only[Env.with,hd,<-hp,<-hr]
   ·cases he
 ·rename_i x bU;have hf:e.eval x=e2.eval x:=hx x (by rw[bU];simp[Op.operands]);simp only[<-hf];split at he
  ·simp only[dM,dj] at he;obtain⟨rfl,rfl,rfl⟩:=he;simp only[iJ]
  ·cases he
 ·simp only[dy,dj] at he;obtain⟨q,hq,rfl,rfl,rfl⟩:=he;rw[YW (ρ':=e2.eval) hx] at hq;simp only[hq,eW,iJ]
def anz{e e':Env}{h h':ao}{o:Oper}{r:eX}(hc:jD o.op=.pure)(he:eo P G R e h o=aa (r,e',h')):
 e'=e/\h'=h/\∀e2:Env,(∀x∈o.op.operands,e.eval x=e2.eval x)->∀h2,eo P G R e2 h2 o=aa (r,e2,h2):=by
 cases bU:o.op with
 |call c=>
  obtain⟨callee,args,ts⟩:=c;rw[bU] at hc;cases callee with
  |value f=>simp[jD] at hc|invoke r n=>simp[jD] at hc|builtin b=>
   cases b<;>simp[jD] at hc
   case len=>
    unfold eo at he ⊢;simp only[bU] at he ⊢;simp only[dy,dj] at he;obtain⟨⟨x,hh⟩,hq,rfl,rfl,rfl⟩:=he;have hT:∀(h2:ao) (l:List AV),rV P G o.dst h2 .len ts o.type l=jC P h2 .len ts o.type l:=λ_ _=>rfl;rw[hT] at hq;have key:hh=h/\∀h2:ao,jC P h2 .len ts o.type (args.toList.map e.eval)=aa (x,h2):=by
     generalize args.toList.map e.eval=l at hq ⊢;rcases l with _|⟨y,_|⟨z,l⟩⟩
     ·simp[jC] at hq
     ·simp only[jC] at hq ⊢;split at hq
      ·rename_i t ht;simp only[dy,dj] at hq;obtain⟨z,hz,rfl,rfl⟩:=hq;refine⟨rfl,λh2=>?_⟩;simp[hz]
      ·cases hq
     ·simp[jC] at hq
    obtain⟨rfl,key⟩:=key;refine⟨rfl,rfl,λe2 hx h2=>?_⟩;have ha:args.toList.map e.eval=args.toList.map e2.eval:=Az λx hm=>hx x (by simp[Op.operands,Call.operands,hm]);rw[<-ha,hT,key h2];rfl
 |buildSlice t n ps=>
  rw[bU] at hc;have Gz:wB ps=az:=by
   cases hb:wB ps with|false=>rfl|true=>simp[jD,hb] at hc
  unfold eo at he ⊢;simp only[bU] at he ⊢;simp only[dy,dj] at he;obtain⟨⟨x,hh⟩,hq,rfl,rfl,rfl⟩:=he;simp only[dP,Gz,dy,dj] at hq;obtain⟨y,hy,rfl,rfl⟩:=hq;refine⟨rfl,rfl,λe2 hx h2=>?_⟩;have hm:=P1 (ρ:=e.eval) (ρ':=e2.eval) (ps:=ps) (λx hm=>hx x (by simpa [Op.operands] using hm));simp only[dP,Gz,<-hm,hy,eW]
 |_=>
  rw[bU] at hc
  first
   |(simp[jD] at hc;done)
   |(unfold eo at he ⊢
     simp only[bU] at he ⊢;simp only[dy,dj] at he;obtain⟨⟨x,hh⟩,hq,rfl,rfl,rfl⟩:=he;have key:hh=h/\∀h2:ao,dP P G e.eval h2 o.op=aa (x,h2):=by
      rw[bU];simp only[dP] at hq ⊢
      first
       |(simp only[dM,dj] at hq;obtain⟨rfl,rfl⟩:=hq;exact⟨rfl,λ_=>rfl⟩)
       |(simp only[dy,dj] at hq;obtain⟨z,hz,rfl,rfl⟩:=hq;exact⟨rfl,λ_=>by simp only[hz,eW]⟩)
       |(split at hq
         ·simp only[dM,dj] at hq;obtain⟨rfl,rfl⟩:=hq;exact⟨rfl,λ_=>by simp_all⟩
         ·cases hq)
       |(split at hq
         ·simp only[dy,dj] at hq;obtain⟨z,hz,rfl,rfl⟩:=hq;exact⟨rfl,λ_=>by simp_all⟩
         ·cases hq)
       |(split at hq
         ·split at hq
          ·simp only[dy,dj] at hq;obtain⟨z,hz,rfl,rfl⟩:=hq;exact⟨rfl,λ_=>by simp_all⟩
          ·cases hq
         ·cases hq)
     obtain⟨rfl,key⟩:=key;refine⟨rfl,rfl,λe2 hx h2=>?_⟩;rw[<-bU,<-YW (P:=P) (G:=G) (ρ:=e.eval) (h:=h2) (by rw[bU];exact hx),key h2];rfl)
def ak6{e e':Env}{h h':ao}{o:Oper}{r:eX}{t:aK}{a:bT}(bU:o.op=.load t a)(he:eo P G R e h o=aa (r,e',h')):
 ∃x,r=.ret x/\e'=e/\h'=h/\aI P G h t (e.eval a)=aa x/\∀e2:Env,e2.eval a=e.eval a->∀h2,aI P G h2 t (e.eval a)=aa x->eo P G R e2 h2 o=aa (.ret x,e2,h2):=by
 unfold eo at he ⊢;simp only[bU,dP] at he ⊢;simp only[dy,dj] at he;obtain⟨⟨x,hh⟩,⟨y,hy,rfl,rfl⟩,rfl,rfl,rfl⟩:=he;refine⟨_,rfl,rfl,rfl,hy,λe2 h2 si hl=>?_⟩;rw[h2,hl];rfl
def Zm{op}(h:jD op=.reads):∃t a,op=.load t a:=by
 cases op with
 |load t a=>exact⟨t,a,rfl⟩|buildSlice t n ps=>exfalso;simp only[jD] at h;split at h<;>cases h
 |call c=>
  obtain⟨callee,args,ts⟩:=c;cases callee with
  |builtin b=>cases b<;>simp[jD] at h
  |_=>simp[jD] at h
 |_=>simp[jD] at h
end
end Go.AE
end
section
namespace Go.AE
section
variable (P:bK) (G:Nat->Option (List AV)) (R:Rec) (ops:Array Oper)
def jU(i:Nat)(e:Env)(h:ao):Option (AV × Env × ao):=
 match ops[i]? with
 |none=>ar
 |some o=>
  match ff ops e o with
  |none=>ar
  |some az=>aa (.tuple [],e,h)
  |some ai=>
   match eo P G R e h o with
   |some (.ret x,e,h)=>aa (x,e,h)
   |_=>ar
def mZ(i:Nat):Option Tmp:=(ops[i]?).bind (·.dst)
def pF(i:Nat):Class:=((ops[i]?).map λo=>jD o.op).getD .pure
noncomputable def mG(e:Env)(h:ao)(i:Nat):Class:=if mX P G R ops e h i=ai then .reads else pF ops i
def db(e:Env)(h:ao)(k:Nat):Env × ao:=
 match di P G R ops (bR k) e h with
 |some (_,e,h)=>(e,h)
 |none=>(e,h)
def uF(e:Env)(h:ao)(k:Nat):AV × Env:=
 match jU P G R ops k (db P G R ops e h k).1 (db P G R ops e h k).2 with
 |some (x,e,_)=>(x,e)
 |none=>(.bad,e)
def val(e:Env)(h:ao)(S:Nat->Bool):Nat->Nat->AV
 |0,t=>e.get t
 |k+1,t=>if S k=ai/\mZ ops k=aa t then (uF P G R ops e h k).1 else val e h S k t
def Alike(e e2:Env)(o:Oper):Prop:=∀t∈o.looksAt ops,e.get t=e2.get t
end
section
variable {P:bK} {G:Nat->Option (List AV)} {R:Rec} {ops:Array Oper}
def qB{i:Nat}{rest:List Nat}{e e':Env}{h h':ao}:
 di P G R ops (i::rest) e h=aa (.normal,e',h')↔∃x e1 h1,jU P G R ops i e h=aa (x,e1,h1)/\di P G R ops rest (e1.put (mZ ops i) x) h1=aa (.normal,e',h'):=by
 simp only[di,jU,mZ];cases ho:ops[i]? with
 |none=>simp|some o=>
  simp only[pq];cases hw:ff ops e o with
  |none=>simp|some b=>
   cases b with
   |false=>simp only[dM,dj];exact⟨λhq=>⟨_,_,_,⟨rfl,rfl,rfl⟩,hq⟩,λ⟨_,_,_,⟨a,b,c⟩,hq⟩=>by subst a;subst b;subst c;exact hq⟩
   |true=>
    simp only;cases bU:eo P G R e h o with
    |none=>simp|some q=>
     obtain⟨r,e1,h1⟩:=q;cases r with|panic x=>simp|ret x=>simp only[dM,dj];exact⟨λhq=>⟨_,_,_,⟨rfl,rfl,rfl⟩,hq⟩,λ⟨_,_,_,⟨a,b,c⟩,hq⟩=>by subst a;subst b;subst c;exact hq⟩
def HG{l1 l2:List Nat}:∀{e e':Env} {h h':ao},
 di P G R ops (l1++l2) e h=aa (.normal,e',h')↔∃e1 h1,di P G R ops l1 e h=aa (.normal,e1,h1)/\di P G R ops l2 e1 h1=aa (.normal,e',h'):=by
 induction l1 with
 |nil=>intro e e' h h';simp only[mC,di,dM,dj,true_and];exact⟨λhq=>⟨_,_,⟨rfl,rfl⟩,hq⟩,λ⟨_,_,⟨a,b⟩,hq⟩=>by subst a;subst b;exact hq⟩
 |cons i l ih=>
  intro e e' h h';rw[lN,qB];constructor
  ·rintro⟨x,e1,h1,hs,hr⟩;obtain⟨e2,h2,ha,hb⟩:=ih.1 hr;exact⟨e2,h2,qB.2 ⟨x,e1,h1,hs,ha⟩,hb⟩
  ·rintro⟨e2,h2,ha,hb⟩;obtain⟨x,e1,h1,hs,hr⟩:=qB.1 ha;exact⟨x,e1,h1,hs,ih.2 ⟨e2,h2,hr,hb⟩⟩
def trace{e e':Env}{h h':ao}:∀{n:Nat},di P G R ops (bR n) e h=aa (.normal,e',h')->
 (e',h')=db P G R ops e h n/\(∀k,k<=n->di P G R ops (bR k) e h=aa (.normal,(db P G R ops e h k).1,(db P G R ops e h k).2))/\
 ∀k,k<n->jU P G R ops k (db P G R ops e h k).1 (db P G R ops e h k).2=aa ((uF P G R ops e h k).1,(uF P G R ops e h k).2,(db P G R ops e h (k+1)).2)/\
  (db P G R ops e h (k+1)).1=(uF P G R ops e h k).2.put (mZ ops k) (uF P G R ops e h k).1:=by
 intro n
 induction n generalizing e' h' with
 |zero=>
  intro hn;have h0:(e',h')=db P G R ops e h 0:=by unfold db;rw[hn]
  refine⟨h0,λk hk=>?_,λk hk=>absurd hk (qO k)⟩;have:k=0:=ME.1 hk;subst this;rw[<-h0];exact hn
 |succ n ih=>
  intro hn;have h0:(e',h')=db P G R ops e h (n+1):=by unfold db;rw[hn]
  have D8:=hn;rw[nH,HG] at D8;obtain⟨e1,h1,ha,hb⟩:=D8;obtain⟨i1,i2,i3⟩:=ih ha;obtain⟨x,e2,h2,hs,hr⟩:=qB.1 hb;simp only[di,dM,dj,true_and] at hr;refine⟨h0,λk hk=>?_,λk hk=>?_⟩
  ·rcases dV k (n+1) with aB|ec
   ·exact i2 k (A6.1 aB)
   ·have:k=n+1:=A5 hk ec;subst this;rw[<-h0];exact hn
  ·rcases dV k n with aB|ec
   ·exact i3 k aB
   ·have:k=n:=A5 (A6.1 hk) ec;subst this;have ct:jU P G R ops k (db P G R ops e h k).1 (db P G R ops e h k).2=aa (x,e2,h2):=(by rw[<-i1];exact hs);have hx:uF P G R ops e h k=(x,e2):=(by unfold uF;rw[ct]);rw[hx,<-h0,ct];obtain⟨rfl,rfl⟩:=hr;exact⟨rfl,rfl⟩
def F4{e e2:Env}{o:Oper}(h:Alike ops e e2 o):∀x∈o.op.operands,e.eval x=e2.eval x:=by
 intro x hx;cases x with|tmp t=>refine h t ?_;unfold Oper.looksAt;exact List.mem_append_left _ (List.mem_filterMap.2 ⟨.tmp t,by simpa using hx,rfl⟩)|_=>rfl
def zH{e e2:Env}{o:Oper}(h:Alike ops e e2 o):ff ops e o=ff ops e2 o:=by
 unfold ff;cases hg:o.guard with
 |none=>rfl|some gw=>
  obtain⟨j,want⟩:=gw;simp only;cases hd:(ops[j]?).bind (·.dst) with|none=>rfl|some d=>have:e.get d=e2.get d:=h d (by unfold Oper.looksAt;rw[hg];simp[hd]);simp only[this]
def QJ(e:Env)(d)(x)(t):(e.put d x).get t=if d=aa t then x else e.get t:=by
 cases d with|none=>simp[Env.put]|some d=>simp only[Env.put,Env.get,EA,dM]
def vL(e:Env)(d)(x):(e.put d x).defers=e.defers/\(e.put d x).cV=e.cV/\(e.put d x).round=e.round:=by cases d<;>exact⟨rfl,rfl,rfl⟩
def Ry{k:Nat}{e e1 e2:Env}{h h1:ao}{x:AV}(hs:jU P G R ops k e h=aa (x,e1,h1)):
 e1=e.with e1/\((∀o,ops[k]?=aa o->Alike ops e e2 o)->e2.defers=e.defers->e2.cV=e.cV->e2.round=e.round->jU P G R ops k e2 h=aa (x,e2.with e1,h1)):=by
 unfold jU at hs ⊢;cases ho:ops[k]? with
 |none=>rw[ho] at hs;cases hs
 |some o=>
  rw[ho] at hs;simp only at hs ⊢;cases hw:ff ops e o with
  |none=>rw[hw] at hs;cases hs
  |some b=>
   rw[hw] at hs;cases b with
   |false=>simp only[dM,dj] at hs;obtain⟨rfl,rfl,rfl⟩:=hs;refine⟨rfl,λeM hd hp hr=>?_⟩;rw[<-zH (eM o rfl),hw];have:e2.with e=e2:=(by cases e2;cases e;simp_all [Env.with]);simp only[this]
   |true=>
    simp only at hs;split at hs
    ·rename_i x' e' h' bU;simp only[dM,dj] at hs;obtain⟨rfl,rfl,rfl⟩:=hs;refine⟨ama bU,λeM hd hp hr=>?_⟩;rw[<-zH (eM o rfl),hw];simp only[al9 (F4 (eM o rfl)) hd hp hr bU]
    ·cases hs
def Rz{k:Nat}{e e1:Env}{h h1:ao}{x:AV}(hc:pF ops k=.pure)(hs:jU P G R ops k e h=aa (x,e1,h1)):
 e1=e/\h1=h/\∀e2 h2,(∀o,ops[k]?=aa o->Alike ops e e2 o)->jU P G R ops k e2 h2=aa (x,e2,h2):=by
 unfold jU at hs ⊢;cases ho:ops[k]? with
 |none=>rw[ho] at hs;cases hs
 |some o=>
  rw[ho] at hs;simp only at hs ⊢;have hc:jD o.op=.pure:=by simpa [pF,ho] using hc
  cases hw:ff ops e o with
  |none=>rw[hw] at hs;cases hs
  |some b=>
   rw[hw] at hs;cases b with
   |false=>simp only[dM,dj] at hs;obtain⟨rfl,rfl,rfl⟩:=hs;refine⟨rfl,rfl,λe2 h2 eM=>?_⟩;rw[<-zH (eM o rfl),hw]
   |true=>
    simp only at hs;split at hs
    ·rename_i x' e' h' bU;simp only[dM,dj] at hs;obtain⟨rfl,rfl,rfl⟩:=hs;obtain⟨rfl,rfl,eH⟩:=anz hc bU;refine⟨rfl,rfl,λe2 h2 eM=>?_⟩;rw[<-zH (eM o rfl),hw];simp only[eH e2 (F4 (eM o rfl)) h2]
    ·cases hs
def Reads(P:bK)(G:Nat->Option (List AV))(R:Rec)(ops:Array Oper)(k:Nat)(e:Env)(x:AV)(h2:ao):Prop:=
 ∀o,ops[k]?=aa o->ff ops e o=aa ai->(∀t a,o.op=.load t a->aI P G h2 t (e.eval a)=aa x)/\(zO o.op=ai->eo P G R e h2 o=aa (.ret x,e,h2))
def aaH{k:Nat}{e e1:Env}{h h1:ao}{x:AV}(hc:pF ops k=.reads)(hs:jU P G R ops k e h=aa (x,e1,h1)):
 e1=e/\h1=h/\Reads P G R ops k e x h/\∀e2 h2,(∀o,ops[k]?=aa o->Alike ops e e2 o)->Reads P G R ops k e x h2->jU P G R ops k e2 h2=aa (x,e2,h2):=by
 unfold jU at hs ⊢;unfold Reads;cases ho:ops[k]? with
 |none=>rw[ho] at hs;cases hs
 |some o=>
  rw[ho] at hs;simp only at hs ⊢;have hc:jD o.op=.reads:=by simpa [pF,ho] using hc
  obtain⟨t,a,lR⟩:=Zm hc;cases hw:ff ops e o with
  |none=>rw[hw] at hs;cases hs
  |some b=>
   rw[hw] at hs;cases b with
   |false=>
    simp only[dM,dj] at hs;obtain⟨rfl,rfl,rfl⟩:=hs;refine⟨rfl,rfl,λo' iS Xm=>?_,λe2 h2 eM _=>?_⟩
    ·injection iS with iS;subst iS;rw[hw] at Xm;cases Xm
    ·rw[<-zH (eM o rfl),hw]
   |true=>
    simp only at hs;split at hs
    ·rename_i x' e' h' bU;simp only[dM,dj] at hs;obtain⟨rfl,rfl,rfl⟩:=hs;obtain⟨y,hy,rfl,rfl,hl,eH⟩:=ak6 lR bU;injection hy with hy;subst hy;refine⟨rfl,rfl,λo' iS _=>⟨λt' a' Wl=>?_,λiB=>?_⟩,λe2 h2 eM qu=>?_⟩
     ·injection iS with iS;subst iS;rw[lR] at Wl;injection Wl with h1 h2;subst h1;subst h2;exact hl
     ·injection iS with iS;subst iS;rw[lR] at iB;cases iB
     ·rw[<-zH (eM o rfl),hw];have hax:e2.eval a=e'.eval a:=(F4 (eM o rfl) a (by rw[lR];simp[Op.operands])).symm;simp only[eH e2 hax h2 ((qu o rfl hw).1 t a lR)]
    ·cases hs
def afb{e:Env}{h h2:ao}{o:Oper}{c:Call}{x:AV}(bU:o.op=.call c)(hc:mb P R e h c=aa (.ret x,h2)):eo P G R e h o=aa (.ret x,e,h2):=by
 have hb:∀b,c.callee≠ .builtin b:=by intro b hb;unfold mb at hc;rw[hb] at hc;cases hc
 obtain⟨callee,args,ts⟩:=c;unfold eo;cases callee with|builtin b=>exact absurd rfl (hb b)|value f=>simp only[bU,hc,eW]|invoke r n=>simp only[bU,hc,eW]
def afi{e e2:Env}{h:ao}{o:Oper}{x:AV}(bU:zO o.op=ai)(hz:∀z∈o.op.operands,e.eval z=e2.eval z)(ho:eo P G R e h o=aa (.ret x,e,h)):eo P G R e2 h o=aa (.ret x,e2,h):=by
 unfold zO at bU;split at bU
 ·cases bU
 ·cases bU
 ·rename_i c n1 n2 hc;have Pz:∀z∈c.operands,e.eval z=e2.eval z:=λz hm=>hz z (by rw[hc];exact hm);obtain⟨callee,args,ts⟩:=c;have ha:args.toList.map e.eval=args.toList.map e2.eval:=Az λx hm=>Pz x (Op.Yg hm);unfold eo at ho ⊢;cases callee with
  |builtin b=>
   cases b
   case recover=>exact absurd rfl (n1 _ _)
   case panic=>exact absurd rfl (n2 _ _)
   all_goals
    simp only[hc] at ho ⊢;rw[<-ha];simp only[dy] at ho ⊢;obtain⟨⟨y,h1⟩,q1,q2⟩:=ho;injection q2 with q2 q3;injection q3 with q3 q4;injection q2 with q2;subst q2;subst q4;exact⟨_,q1,rfl⟩
  |value f=>simp only[hc] at ho ⊢;rw[<-Nn (e:=e) (e2:=e2) Pz];simp only[dy] at ho ⊢;obtain⟨⟨y,h1⟩,q1,q2⟩:=ho;injection q2 with q2 q3;injection q3 with q3 q4;subst q2;subst q4;exact⟨_,q1,rfl⟩
  |invoke r n=>simp only[hc] at ho ⊢;rw[<-Nn (e:=e) (e2:=e2) Pz];simp only[dy] at ho ⊢;obtain⟨⟨y,h1⟩,q1,q2⟩:=ho;injection q2 with q2 q3;injection q3 with q3 q4;subst q2;subst q4;exact⟨_,q1,rfl⟩
 ·rename_i s d y hc;have hy:e.eval y=e2.eval y:=hz y (by rw[hc];simp[Op.operands]);unfold eo at ho ⊢;simp only[hc,dP] at ho ⊢;rw[<-hy];simp only[dy] at ho ⊢;obtain⟨⟨y,h1⟩,q1,q2⟩:=ho;injection q2 with q2 q3;injection q3 with q3 q4;injection q2 with q2;subst q2;subst q4;exact⟨_,q1,rfl⟩
 ·cases bU
def aaF{k:Nat}{e e1:Env}{h h1:ao}{x y:AV}{o:Oper}(ho:ops[k]?=aa o)(bU:zO o.op=ai)(hc:eo P G R e h o=aa (.ret y,e,h))(hs:jU P G R ops k e h=aa (x,e1,h1)):
 e1=e/\h1=h/\(ff ops e o=aa ai->x=y)/\∀e2 h2,(∀o,ops[k]?=aa o->Alike ops e e2 o)->Reads P G R ops k e x h2->jU P G R ops k e2 h2=aa (x,e2,h2):=by
 unfold jU at hs ⊢;rw[ho] at hs;simp only[ho] at hs ⊢;cases hw:ff ops e o with
 |none=>rw[hw] at hs;cases hs
 |some b=>
  rw[hw] at hs;cases b with
  |false=>simp only[dM,dj] at hs;obtain⟨rfl,rfl,rfl⟩:=hs;refine⟨rfl,rfl,(λq=>nomatch q),λe2 h2 eM _=>?_⟩;rw[<-zH (eM o rfl),hw]
  |true=>simp only[hc] at hs;simp only[dM,dj] at hs;obtain⟨rfl,rfl,rfl⟩:=hs;refine⟨rfl,rfl,λ_=>rfl,λe2 h2 eM qu=>?_⟩;rw[<-zH (eM o rfl),hw];have h3:=(qu o ho hw).2 bU;have h4:=afi (e2:=e2) bU (λz hz=>F4 (eM o rfl) z hz) h3;simp only[h4]
end
end Go.AE
end
section
namespace Go.AE
section
variable {P:bK} {G:Nat->Option (List AV)} {R:Rec} {ops:Array Oper}
def Ord(b:Array Nat)(i j:Nat):Prop:=(b.getD j 0).testBit i=ai
structure Fits(P:bK)(G:Nat->Option (List AV))(R:Rec)(ops:Array Oper)(e:Env)(h:ao)(b:Array Nat):Prop where
 Ju:∀(j:Nat) (o:Oper),ops[j]?=aa o->∀ed∈o.after,Region.binds .any ed=ai->ed.on<j
 bits:∀(j i:Nat) (o:Oper),ops[j]?=aa o->i<ops.size->Ord b i j->∃ed∈o.after,Region.binds .any ed=ai/\(ed.on=i∨Ord b i ed.on)
 pair:∀i j:Nat,i<j->j<ops.size->Ord b i j∨yW ops i j=ai∨l8 P G R ops e h i j=ai∨(pD ops i j=ai/\(mX P G R ops e h i=ai∨mX P G R ops e h j=ai))
def yf{e:Env}{h:ao}(hf:mH P G R ops e h=ai):Fits P G R ops e h (Region.before ops):=by
 unfold mH at hf;simp only[bL,ej,gB,uH] at hf;obtain⟨hb,hp⟩:=hf;unfold Bf at hb;simp only[ej,gB] at hb;refine⟨λj o ho ed fF nu=>?_,λj i o ho hi mj=>?_,λi j mj hj=>?_⟩
 ·have hj:j<ops.size:=(CI.1 ho).1;have:=hb j hj;simp only[ho,bL,Fj] at this;obtain⟨q,hq,rfl⟩:=abi fF;have:=this.1 q hq;simpa [nu] using this
 ·have hj:j<ops.size:=(CI.1 ho).1;have:=hb j hj;simp only[ho,bL,ej,gB] at this;have:=this.2 i hi;unfold Ord at mj;rw[mj] at this;simp only[Bool.not_true,Bool.false_or,Array.any_eq_true,bL,uH] at this;obtain⟨q,hq,h1,h2⟩:=this;exact⟨o.after[q],abh hq,h1,h2.imp (λh=>jP h) id⟩
 ·rcases hp j hj i mj with((h|h)|h)|h
  ·exact .inl h
  ·exact .inr (.inl h)
  ·exact .inr (.inr (.inl h))
  ·exact .inr (.inr (.inr (by simpa using h)))
variable {e:Env} {h:ao} {b:Array Nat}
def Fits.apart(F:Fits P G R ops e h b){i j:Nat}(mj:i<j)(hj:j<ops.size)(hn:¬Ord b i j){x y:Oper}(hx:ops[i]?=aa x)(hy:ops[j]?=aa y):
 x.apart ops y=ai/\y.apart ops x=ai:=by
 rcases F.pair i j mj hj with h|h|h|⟨h,-⟩
 ·exact absurd h hn
 ·unfold yW at h;simp only[hx,hy,bL] at h;exact⟨h.1.2,h.2⟩
 ·unfold l8 pD at h;simp only[hx,hy,bL] at h;exact h.1
 ·unfold pD at h;simp only[hx,hy,bL] at h;exact h
def Bm{i:Nat}{x:Oper}(hx:ops[i]?=some x):pF ops i=jD x.op:=by simp[pF,hx]
def Jq{i:Nat}(hi:mG P G R ops e h i=.acts):pF ops i=.acts/\mX P G R ops e h i=az:=by
 unfold mG at hi;split at hi
 ·cases hi
 ·rename_i hc;exact⟨hi,by simpa using hc⟩
def Fits.acts(F:Fits P G R ops e h b){i j:Nat}(mj:i<j)(hj:j<ops.size)(hi:mG P G R ops e h i=.acts)(qW:mG P G R ops e h j=.acts):Ord b i j:=by
 have hx:ops[i]?=aa ops[i]:=mz (pk mj hj);have hy:ops[j]?=aa ops[j]:=mz hj;obtain⟨hi,ci⟩:=Jq hi;obtain⟨qW,cj⟩:=Jq qW;rw[Bm hx] at hi;rw[Bm hy] at qW;rcases F.pair i j mj hj with h|h|h|⟨-,h⟩
 ·exact h
 ·unfold yW at h;simp only[hx,hy,bL] at h;rw[hi,qW] at h;simp[KB] at h
 ·unfold l8 at h;simp only[hx,hy,bL,eW] at h;rw[hi,qW] at h;simp at h
 ·rw[ci,cj] at h;simp at h
def Fits.asz(F:Fits P G R ops e h b){i j:Nat}(mj:i<j)(hj:j<ops.size)(hn:¬Ord b i j)(hi:pF ops i=.reads)(ci:mX P G R ops e h i=az)(qW:mG P G R ops e h j=.acts):pR P G R ops e h i (j+1)=ai:=by
 have hx:ops[i]?=aa ops[i]:=mz (pk mj hj);have hy:ops[j]?=aa ops[j]:=mz hj;obtain⟨qW,cj⟩:=Jq qW;rw[Bm hx] at hi;rw[Bm hy] at qW;rcases F.pair i j mj hj with h|h|h|⟨-,h⟩
 ·exact absurd h hn
 ·unfold yW at h;simp only[hx,hy,bL] at h;rw[hi,qW] at h;simp[KB] at h
 ·unfold l8 at h;simp only[hx,hy,bL,eW] at h;rw[hi,qW] at h;exact h.2
 ·rw[ci,cj] at h;simp at h
def Fits.asA(F:Fits P G R ops e h b){i j:Nat}(mj:i<j)(hj:j<ops.size)(hn:¬Ord b i j)(hi:mG P G R ops e h i=.acts)(qW:pF ops j=.reads)(cj:mX P G R ops e h j=az):pR P G R ops e h j i=ai:=by
 have hx:ops[i]?=aa ops[i]:=mz (pk mj hj);have hy:ops[j]?=aa ops[j]:=mz hj;obtain⟨hi,ci⟩:=Jq hi;rw[Bm hx] at hi;rw[Bm hy] at qW;rcases F.pair i j mj hj with h|h|h|⟨-,h⟩
 ·exact absurd h hn
 ·unfold yW at h;simp only[hx,hy,bL] at h;rw[hi,qW] at h;simp[KB] at h
 ·unfold l8 at h;simp only[hx,hy,bL,eW] at h;rw[hi,qW] at h;exact h.2
 ·rw[ci,cj] at h;simp at h
def asD{r m n:Nat}{e':Env}{h':ao}(N:di P G R ops (bR n) e h=aa (.normal,e',h'))(hr:r<n)(hm:m<=n)(hs:pR P G R ops e h r m=ai)(hc:pF ops r=.reads):
 Reads P G R ops r (db P G R ops e h r).1 (uF P G R ops e h r).1 (db P G R ops e h m).2:=by
 obtain⟨-,tr,st⟩:=trace N;obtain⟨ct,-⟩:=st r hr;obtain⟨-,-,qu,-⟩:=aaH hc ct;intro o ho hw;refine⟨λt a lR=>?_,λdF=>?_⟩
 ·have hold:=(qu o ho hw).1 t a lR;unfold pR at hs;rw[ho,tr r (nk hr),tr m hm] at hs;simp only[hw,lR] at hs;rw[hold] at hs;split at hs
  ·rename_i x y hx hy;injection hx with hx;subst hx;rw[Ro hs];exact hy
  ·cases hs
 ·obtain⟨t,a,lR⟩:=Zm (show jD o.op=.reads by rw[<-Bm ho];exact hc);rw[lR] at dF;exact absurd dF (by simp[zO])
def aff{k:Nat}:mX P G R ops e h k=ai↔zP P G R ops e h k:=by unfold mX;exact @decide_eq_true_iff _ (Classical.propDecidable _)
def TT{n k:Nat}{e':Env}{h':ao}(N:di P G R ops (bR n) e h=aa (.normal,e',h'))(hn:n=ops.size)(hk:k<n)(hc:mX P G R ops e h k=ai):
 ∃o x,ops[k]?=aa o/\zO o.op=ai/\∀m,m<=n->eo P G R (db P G R ops e h k).1 (db P G R ops e h m).2 o=aa (.ret x,(db P G R ops e h k).1,(db P G R ops e h m).2):=by
 obtain⟨-,tr,-⟩:=trace N;obtain⟨o,x,er,hr,ho,bU,e1,eH⟩:=aff.1 hc;refine⟨o,x,ho,bU,λm hm=>?_⟩;obtain⟨em,BY,e2,th⟩:=eH m ah;have q1:=tr k (nk hk);have q2:=tr m hm;rw[e1] at q1;rw[e2] at q2;injection q1 with q1;injection q2 with q2;have a1:er=(db P G R ops e h k).1:=by have:=congrArg (λz=>z.2.1) q1;exact this
 have a2:BY=(db P G R ops e h m).2:=by have:=congrArg (λz=>z.2.2) q2;exact this
 rw[<-a1,<-a2];exact th
def aaJ{k:Nat}{e':Env}{h':ao}(N:di P G R ops (bR ops.size) e h=aa (.normal,e',h'))(hk:k<ops.size)(hc:mG P G R ops e h k=.reads){e1:Env}{h1:ao}{x:AV}
 (hs:jU P G R ops k (db P G R ops e h k).1 (db P G R ops e h k).2=aa (x,e1,h1)):
 e1=(db P G R ops e h k).1/\h1=(db P G R ops e h k).2/\Reads P G R ops k (db P G R ops e h k).1 x (db P G R ops e h k).2/\
  ∀e2 h2,(∀o,ops[k]?=aa o->Alike ops (db P G R ops e h k).1 e2 o)->Reads P G R ops k (db P G R ops e h k).1 x h2->jU P G R ops k e2 h2=aa (x,e2,h2):=by
 unfold mG at hc;split at hc
 ·rename_i vi;obtain⟨o,y,ho,bU,eH⟩:=TT N rfl hk vi;have h0:=eH k (nk hk);obtain⟨a1,a2,a3,a4⟩:=aaF ho bU h0 hs;refine⟨a1,a2,λo' iS hw=>?_,a4⟩;rw[ho] at iS;injection iS with iS;subst iS;refine⟨λt a lR=>(by rw[lR] at bU;cases bU),λ_=>?_⟩;rw[a3 hw];exact h0
 ·exact aaH hc hs
def aaL{k m:Nat}{e':Env}{h':ao}(N:di P G R ops (bR ops.size) e h=aa (.normal,e',h'))(hk:k<ops.size)(hm:m<=ops.size)(hc:mG P G R ops e h k=.reads)
 (hs:pF ops k=.reads->mX P G R ops e h k=az->pR P G R ops e h k m=ai):
 Reads P G R ops k (db P G R ops e h k).1 (uF P G R ops e h k).1 (db P G R ops e h m).2:=by
 by_cases vi:mX P G R ops e h k=ai
 ·obtain⟨-,tr,st⟩:=trace N;obtain⟨ct,-⟩:=st k hk;obtain⟨o,y,ho,bU,eH⟩:=TT N rfl hk vi;obtain⟨-,-,a3,-⟩:=aaF ho bU (eH k (nk hk)) ct;intro o' iS hw;rw[ho] at iS;injection iS with iS;subst iS;refine⟨λt a lR=>(by rw[lR] at bU;cases bU),λ_=>?_⟩;rw[a3 hw];exact eH m hm
 ·have vi:mX P G R ops e h k=az:=by simpa using vi
  have hc:pF ops k=.reads:=by unfold mG at hc;rw[vi] at hc;simpa using hc
  exact asD N hk hm (hs hc vi) hc
def Uo{k:Nat}(hc:mG P G R ops e h k=.pure):pF ops k=.pure:=by
 unfold mG at hc;split at hc
 ·cases hc
 ·exact hc
structure Inv(P:bK)(G:Nat->Option (List AV))(R:Rec)(ops:Array Oper)(e:Env)(h:ao)(b:Array Nat)(S:Nat->Bool)(e1:Env)(h1:ao):Prop where
 closed:∀i j,i<ops.size->j<ops.size->S j=ai->Ord b i j->S i=ai
 iF:∀t,e1.get t=val P G R ops e h S ops.size t
 round:e1.round=e.round
 mem:∃m,m<=ops.size/\e1.defers=(db P G R ops e h m).1.defers/\e1.cV=(db P G R ops e h m).1.cV/\h1=(db P G R ops e h m).2/\
  (∀a,a<m->mG P G R ops e h a=.acts->S a=ai)/\∀a,m<=a->a<ops.size->mG P G R ops e h a=.acts->S a=az
variable {e':Env} {h':ao}
def RJ(N:di P G R ops (bR ops.size) e h=aa (.normal,e',h'))(t:Nat):∀k,k<=ops.size->(db P G R ops e h k).1.get t=val P G R ops e h (λ_=>ai) k t:=by
 obtain⟨-,tr,st⟩:=trace N;intro k
 induction k with
 |zero=>intro _;have:=tr 0 (cG _);simp only[acg,di,dM,dj,true_and] at this;rw[<-this.1];rfl|succ k ih=>
  intro hk;obtain⟨hs,hn⟩:=st k hk;rw[hn,QJ];simp only[val,true_and];split
  ·rfl
  ·rw[<-ih (nk hk)];have:=(Ry (e2:=e) hs).1;rw[this];rfl
def aa3(N:di P G R ops (bR ops.size) e h=aa (.normal,e',h')):∀k,k<=ops.size->(db P G R ops e h k).1.round=e.round:=by
 obtain⟨-,tr,st⟩:=trace N;intro k
 induction k with
 |zero=>intro _;have:=tr 0 (cG _);simp only[acg,di,dM,dj,true_and] at this;rw[<-this.1]|succ k ih=>intro hk;obtain⟨hs,hn⟩:=st k hk;rw[hn,(vL _ _ _).2.2,(Ry (e2:=e) hs).1];exact ih (nk hk)
def afj(N:di P G R ops (bR ops.size) e h=aa (.normal,e',h')){k:Nat}(hk:k<ops.size)(hc:mG P G R ops e h k≠ .acts):
 (db P G R ops e h (k+1)).1.defers=(db P G R ops e h k).1.defers/\(db P G R ops e h (k+1)).1.cV=(db P G R ops e h k).1.cV/\(db P G R ops e h (k+1)).2=(db P G R ops e h k).2:=by
 obtain⟨-,tr,st⟩:=trace N;obtain⟨hs,hn⟩:=st k hk;have key:(uF P G R ops e h k).2=(db P G R ops e h k).1/\(db P G R ops e h (k+1)).2=(db P G R ops e h k).2:=by
  cases hq:mG P G R ops e h k with
  |pure=>obtain⟨h1,h2,-⟩:=Rz (Uo hq) hs;exact⟨h1,h2⟩
  |reads=>obtain⟨h1,h2,-⟩:=aaJ N hk hq hs;exact⟨h1,h2⟩
  |acts=>exact absurd hq hc
 rw[hn,(vL _ _ _).1,(vL _ _ _).2.1,key.1];exact⟨rfl,rfl,key.2⟩
def Ls(N:di P G R ops (bR ops.size) e h=aa (.normal,e',h')){m:Nat}:∀k,m<=k->k<=ops.size->
 ((db P G R ops e h m).1.defers=(db P G R ops e h k).1.defers/\(db P G R ops e h m).1.cV=(db P G R ops e h k).1.cV/\(db P G R ops e h m).2=(db P G R ops e h k).2)∨
 (∃a,m<=a/\a<k/\mG P G R ops e h a=.acts/\(db P G R ops e h m).2=(db P G R ops e h a).2)/\∃a,m<=a/\a<k/\mG P G R ops e h a=.acts/\(db P G R ops e h (a+1)).2=(db P G R ops e h k).2:=by
 intro k
 induction k with
 |zero=>intro hm _;have:m=0:=ME.1 hm;subst this;exact .inl ⟨rfl,rfl,rfl⟩|succ k ih=>
  intro hm hk;rcases dV k m with aB|ec
  ·have:m=k+1:=A5 hm aB;subst this;exact .inl ⟨rfl,rfl,rfl⟩
  ·have BU:k<=ops.size:=nk hk;by_cases hc:mG P G R ops e h k=.acts
   ·refine .inr ⟨?_,k,ec,MF k,hc,rfl⟩;rcases ih ec BU with h1|⟨⟨a,h1,h2,h3,h4⟩,-⟩
    ·exact⟨k,ec,MF k,hc,h1.2.2⟩
    ·exact⟨a,h1,vZ h2,h3,h4⟩
   ·obtain⟨c1,c2,c3⟩:=afj N hk hc;rcases ih ec BU with h1|⟨⟨a,h1,h2,h3,h4⟩,a2,g1,g2,g3,g4⟩
    ·exact .inl ⟨h1.1.trans c1.symm,h1.2.1.trans c2.symm,h1.2.2.trans c3.symm⟩
    ·exact .inr ⟨⟨a,h1,vZ h2,h3,h4⟩,a2,g1,vZ g2,g3,g4.trans c3.symm⟩
def val_congr{S S':Nat->Bool}{t:Nat}:∀k,(∀w,w<k->mZ ops w=aa t->S w=S' w)->val P G R ops e h S k t=val P G R ops e h S' k t:=by
 intro k
 induction k with
 |zero=>intro _;rfl|succ k ih=>
  intro hw;simp only[val];rw[ih λw hwk hd=>hw w (vZ hwk) hd];by_cases hd:mZ ops k=aa t
  ·rw[hw k (MF k) hd]
  ·simp[hd]
def LO{S:Nat->Bool}{t k:Nat}:∀n,k<=n->(∀w,k<=w->w<n->mZ ops w=aa t->S w=az)->val P G R ops e h S n t=val P G R ops e h S k t:=by
 intro n
 induction n with
 |zero=>intro hk _;rw[ME.1 hk]|succ n ih=>
  intro hk hw;rcases dV n k with aB|ec
  ·rw[A5 hk aB]
  ·simp only[val];rw[aH λhq=>by have:=hw n ec (MF n) hq.2;rw[hq.1] at this;cases this];exact ih ec λw h1 h2 h3=>hw w h1 (vZ h2) h3
def Bn{i:Nat}{x:Oper}(hx:ops[i]?=aa x):mZ ops i=x.dst:=by simp[mZ,hx]
def Fits.auy(F:Fits P G R ops e h b){i j t:Nat}(mj:i<j)(hj:j<ops.size)(hi:mZ ops i=aa t)(yy:mZ ops j=aa t):Ord b i j:=by refine Classical.byContradiction λhn=>?_;have hx:ops[i]?=aa ops[i]:=mz (pk mj hj);have hy:ops[j]?=aa ops[j]:=mz hj;have ha:=(Oper.apart_spec (F.apart mj hj hn hx hy).1).2.1;rw[Bn hx] at hi;rw[Bn hy] at yy;exact ha t hi yy
def Fits.looks(F:Fits P G R ops e h b){i j t:Nat}(mj:i<j)(hj:j<ops.size){x y:Oper}(hx:ops[i]?=aa x)(hy:ops[j]?=aa y)
 (hl:(x.dst=aa t/\t∈y.looksAt ops)∨(y.dst=aa t/\t∈x.looksAt ops)):Ord b i j:=by
 refine Classical.byContradiction λhn=>?_;have ha:=Oper.apart_spec (F.apart mj hj hn hx hy).1;rcases hl with⟨h1,h2⟩|⟨h1,h2⟩
 ·exact ha.1 t h1 h2
 ·exact ha.2.2 t h1 h2
def oQ(ops:Array Oper)(S:Nat->Bool)(k:Nat):Prop:=∀o,ops[k]?=aa o->∀ed∈o.after,Region.binds .any ed=ai->S ed.on=ai
def dY(S:Nat->Bool)(k:Nat):Nat->Bool:=λj=>if j=k then ai else S j
def next(N:di P G R ops (bR ops.size) e h=aa (.normal,e',h'))(F:Fits P G R ops e h b){S:Nat->Bool}{e1:Env}{h1:ao}(I:Inv P G R ops e h b S e1 h1){k:Nat}(hk:k<ops.size)
 (hu:S k=az) (hr:oQ ops S k):∃x e2 h2,jU P G R ops k e1 h1=aa (x,e2,h2)/\Inv P G R ops e h b (dY S k) (e2.put (mZ ops k) x) h2:=by
 obtain⟨-,tr,st⟩:=trace N;have ho:ops[k]?=aa ops[k]:=mz hk;have ahead:∀i,i<ops.size->Ord b i k->S i=ai:=by
  intro i hi yx;obtain⟨ed,fF,nu,hq⟩:=F.bits k i _ ho hi yx;have hs:=hr _ ho ed fF nu;have aB:=F.Ju k _ ho ed fF nu;rcases hq with rfl|hq
  ·exact hs
  ·exact I.closed i ed.on hi (pk aB hk) hs hq
 have alike:∀o,ops[k]?=aa o->Alike ops (db P G R ops e h k).1 e1 o:=by
  intro o iS t ht;rw[ho] at iS;injection iS with iS;subst iS;rw[I.iF t,RJ N t k (nk hk),LO (k:=k) ops.size (nk hk)]
  ·refine val_congr k λw hw hd=>?_;have hx:ops[w]?=aa ops[w]:=mz (pk hw hk);rw[Bn hx] at hd;exact(ahead w (pk hw hk) (F.looks hw hk hx ho (.inl ⟨hd,ht⟩))).symm
  ·intro w D7 hw hd;rcases dV k w with aB|ec
   ·cases hq:S w with|false=>rfl|true=>have hx:ops[w]?=aa ops[w]:=mz hw;rw[Bn hx] at hd;have:=I.closed k w hk hw hq (F.looks aB hw ho hx (.inr ⟨hd,ht⟩));rw[hu] at this;cases this
   ·rw[A5 ec D7,hu]
 obtain⟨hs,hn⟩:=st k hk;obtain⟨m,hm,hd,hp,hh,uc,qj⟩:=I.mem;have closed':∀i j,i<ops.size->j<ops.size->dY S k j=ai->Ord b i j->dY S k i=ai:=by
  intro i j hi hj Po mj;unfold dY at Po ⊢;by_cases yx:i=k
  ·rw[aG yx]
  ·rw[aH yx];by_cases Aj:j=k
   ·subst Aj;exact ahead i hi mj
   ·rw[aH Aj] at Po;exact I.closed i j hi hj Po mj
 have slots':∀(e2:Env),(∀t,e2.get t=e1.get t)->∀t,(e2.put (mZ ops k) (uF P G R ops e h k).1).get t=val P G R ops e h (dY S k) ops.size t:=by
  intro e2 fw t;rw[QJ];by_cases BM:mZ ops k=aa t
  ·rw[aG BM,LO (k:=k+1) ops.size hk]
   ·simp[val,dY,BM]
   ·intro w D7 hw GF;have bO:w≠k:=λhq=>absurd D7 (by rw[hq];exact acB k);simp only[dY,aH bO];cases hq:S w with|false=>rfl|true=>have:=I.closed k w hk hw hq (F.auy D7 hw BM GF);rw[hu] at this;cases this
  ·rw[aH BM,fw,I.iF t];refine val_congr _ λw _ GF=>?_;have bO:w≠k:=λhq=>BM (hq ▸ GF);simp only[dY,aH bO]
 by_cases hc:mG P G R ops e h k=.acts
 ·-- it acts
  have Wr:m<=k:=by
   rcases dV k m with aB|ec
   ·have:=uc k aB hc;rw[hu] at this;cases this
   ·exact ec
  have same:=Ls N k Wr (nk hk);have same:(db P G R ops e h m).1.defers=(db P G R ops e h k).1.defers/\(db P G R ops e h m).1.cV=(db P G R ops e h k).1.cV/\(db P G R ops e h m).2=(db P G R ops e h k).2:=by
   rcases same with h1|⟨⟨a,g1,g2,g3,-⟩,-⟩
   ·exact h1
   ·have h1:=qj a g1 (pk g2 hk) g3;rw[ahead a (pk g2 hk) (F.acts g2 hk g3 hc)] at h1;cases h1
  have nO:=(Ry (e2:=e1) hs).2 alike (hd.trans same.1) (hp.trans same.2.1) (by rw[I.round,aa3 N k (nk hk)]);rw[<-same.2.2,<-hh] at nO;refine⟨_,_,_,nO,closed',slots' _ (λt=>rfl),?_,k+1,hk,?_,?_,rfl,?_,?_⟩
  ·rw[(vL _ _ _).2.2];exact I.round
  ·rw[(vL _ _ _).1,hn,(vL _ _ _).1];rfl
  ·rw[(vL _ _ _).2.1,hn,(vL _ _ _).2.1];rfl
  ·intro a BE Ab;unfold dY;by_cases hq:a=k
   ·rw[aG hq]
   ·rw[aH hq];have aB:a<k:=acv (A6.1 BE) hq;exact ahead a (pk aB hk) (F.acts aB hk Ab hc)
  ·intro a BV ha Ab;have hq:a≠k:=λhq=>absurd BV (by rw[hq];exact acB k);unfold dY;rw[aH hq];exact qj a (fJ Wr (nk BV)) ha Ab
 ·-- it does not
  have mem':∀e2:Env,e2.defers=e1.defers->e2.cV=e1.cV->∃m,m<=ops.size/\e2.defers=(db P G R ops e h m).1.defers/\e2.cV=(db P G R ops e h m).1.cV/\h1=(db P G R ops e h m).2/\
   (∀a,a<m->mG P G R ops e h a=.acts->dY S k a=ai)/\∀a,m<=a->a<ops.size->mG P G R ops e h a=.acts->dY S k a=az:=by
   intro e2 DP wF;refine⟨m,hm,DP.trans hd,wF.trans hp,hh,λa ham Ab=>?_,λa J6 ha Ab=>?_⟩
   ·unfold dY;by_cases hq:a=k
    ·rw[aG hq]
    ·rw[aH hq];exact uc a ham Ab
   ·have hq:a≠k:=λhq=>hc (hq ▸ Ab);unfold dY;rw[aH hq];exact qj a J6 ha Ab
  have fin:∀x,x=(uF P G R ops e h k).1->jU P G R ops k e1 h1=aa (x,e1,h1)->∃x e2 h2,jU P G R ops k e1 h1=aa (x,e2,h2)/\Inv P G R ops e h b (dY S k) (e2.put (mZ ops k) x) h2:=by intro x hx nO;subst hx;refine⟨_,_,_,nO,closed',slots' _ (λt=>rfl),?_,mem' _ (vL _ _ _).1 (vL _ _ _).2.1⟩;rw[(vL _ _ _).2.2];exact I.round
  cases dF:mG P G R ops e h k with
  |acts=>exact absurd dF hc|pure=>obtain⟨-,-,eH⟩:=Rz (Uo dF) hs;exact fin _ rfl (eH e1 h1 alike)
  |reads=>
   obtain⟨-,-,qu,eH⟩:=aaJ N hk dF hs;refine fin _ rfl (eH e1 h1 alike ?_);rw[hh];rcases dV k m with aB|ec
   ·rcases Ls N (m:=k) m (nk aB) hm with hq|⟨-,a,g1,g2,g3,g4⟩
    ·rw[<-hq.2.2];exact qu
    ·have BE:k<a:=acv g1 λhq=>hc (hq ▸ g3);have yl:a<ops.size:=mU g2 hm;have ja:¬Ord b k a:=λhq=>(by have:=I.closed k a hk yl (uc a g2 g3) hq;rw[hu] at this;cases this);rw[<-g4];exact aaL N hk yl dF λq1 q2=>F.asz BE yl ja q1 q2 g3
   ·rcases Ls N (m:=m) k ec (nk hk) with hq|⟨⟨a,g1,g2,g3,g4⟩,-⟩
    ·rw[hq.2.2];exact qu
    ·have yl:a<ops.size:=pk g2 hk;have ja:¬Ord b a k:=λhq=>(by have h1:=ahead a yl hq;rw[qj a g1 yl g3] at h1;cases h1);rw[g4];exact aaL N hk (nk yl) dF λq1 q2=>F.asA g2 hk ja g3 q1 q2
def PD(N:di P G R ops (bR ops.size) e h=aa (.normal,e',h')):Inv P G R ops e h b (λ_=>az) e h:=by
 have h0:db P G R ops e h 0=(e,h):=by simp[db,di]
 refine⟨λ_ _ _ _ h=>absurd h bH,λt=>?_,rfl,0,cG _,by rw[h0],by rw[h0],by rw[h0],λa ha=>absurd ha (qO a),λ_ _ _ _=>rfl⟩;rw[LO (k:=0) ops.size (cG _) (λ_ _ _ _=>rfl)];rfl
structure oR(e e2:Env):Prop where
 iF:∀t,e.get t=e2.get t
 defers:e.defers=e2.defers
 cV:e.cV=e2.cV
 round:e.round=e2.round
def akh(N:di P G R ops (bR ops.size) e h=aa (.normal,e',h')){S:Nat->Bool}{e1:Env}{h1:ao}(I:Inv P G R ops e h b S e1 h1)(eH:∀i,i<ops.size->S i=ai):oR e1 e'/\h1=h':=by
 obtain⟨t0,tr,st⟩:=trace N;have he:e'=(db P G R ops e h ops.size).1:=by rw[<-t0]
 have hh:h'=(db P G R ops e h ops.size).2:=by rw[<-t0]
 obtain⟨m,hm,hd,hp,pI,uc,qj⟩:=I.mem;have same:=Ls N ops.size hm (aM _);have same:(db P G R ops e h m).1.defers=(db P G R ops e h ops.size).1.defers/\(db P G R ops e h m).1.cV=(db P G R ops e h ops.size).1.cV/\(db P G R ops e h m).2=(db P G R ops e h ops.size).2:=by
  rcases same with h1|⟨⟨a,g1,g2,g3,-⟩,-⟩
  ·exact h1
  ·have h1:=qj a g1 g2 g3;rw[eH a g2] at h1;cases h1
 refine⟨⟨λt=>?_,?_,?_,?_⟩,?_⟩
 ·rw[I.iF t,he,RJ N t ops.size (aM _)];exact val_congr _ λw hw _=>eH w hw
 ·rw[hd,same.1,he]
 ·rw[hp,same.2.1,he]
 ·rw[I.round,he,aa3 N ops.size (aM _)]
 ·rw[pI,same.2.2,hh]
def agp{α:Type}{p q}{a}:∀{l:List α},(∀x∈l,q x=true->p x=true)->a∈l->p a=true->q a=false->l.countP q<l.countP p:=by
 intro l
 induction l with
 |nil=>intro _ ha;cases ha
 |cons x l ih=>
  intro hm ha hp hq;have eI:l.countP q<=l.countP p:=List.countP_mono_left λy hy=>hm y (fN _ hy);rcases iq.1 ha with rfl|ha
  ·rw[abT (by simp[hq]),Sq hp];exact Nat.lt_succ_of_le eI
  ·have:=ih (λy hy=>hm y (fN _ hy)) ha hp hq;by_cases Pc:q x=ai
   ·rw[Sq Pc,Sq (hm x gj Pc)];exact Nat.succ_lt_succ this
   ·rw[abT Pc];exact mU this (by rw[List.countP_cons];exact Nat.le_add_right _ _)
def oi(ops:Array Oper):(Nat->Bool)->List Nat->Prop
 |S,[]=>∀i,i<ops.size->S i=ai
 |S,k::L=>k<ops.size/\S k=az/\oQ ops S k/\oi ops (dY S k) L
def PZ(N:di P G R ops (bR ops.size) e h=aa (.normal,e',h'))(F:Fits P G R ops e h b):∀(L:List Nat) (S:Nat->Bool) (e1:Env) (h1:ao),Inv P G R ops e h b S e1 h1->oi ops S L->
 ∃e2,di P G R ops L e1 h1=aa (.normal,e2,h')/\oR e2 e':=by
 intro L
 induction L with
 |nil=>intro S e1 h1 I hL;obtain⟨hs,rfl⟩:=akh N I hL;exact⟨e1,by simp[di],hs⟩
 |cons k L ih=>
  intro S e1 h1 I hL;obtain⟨hk,hu,hr,hL⟩:=hL;obtain⟨x,e2,h2,hs,I'⟩:=next N F I hk hu hr
  obtain⟨e3,nO,iJ⟩:=ih _ _ _ I' hL;exact⟨e3,qB.2 ⟨x,e2,h2,hs,nO⟩,iJ⟩
def zi(ops:Array Oper):Prop:=∀(j:Nat) (o:Oper),ops[j]?=aa o->∀ed∈o.after,Region.binds .any ed=ai->ed.on<j
def akW(hB:zi ops):∀(fuel t:Nat) (jc:Array Bool),jc.size=ops.size->
 (bR ops.size).countP (λj=> !jc.getD j az)<=fuel->oi ops (λj=>jc.getD j az) (Region.linearise.go .any ops fuel t jc []):=by
 intro fuel
 induction fuel with
 |zero=>
  intro t jc dm Oi;have eH:∀i,i<ops.size->jc.getD i az=ai:=by intro i hi;have:=List.countP_eq_zero.1 (ME.1 Oi) i (gB.2 hi);simpa using this
  simp only[Region.linearise.go,aci];exact eH
 |succ fuel ih=>
  intro t jc dm Oi;have Wd:∀i,i<ops.size->jc.getD i ai=jc.getD i az:=by intro i hi;have:i<jc.size:=(by omega);simp[this]
  simp only[Region.linearise.go];change oi ops _ (match (Region.ready .any ops jc)[t%(Region.ready .any ops jc).length]? with
   |some i=>Region.linearise.go .any ops fuel (t/(Region.ready .any ops jc).length) (jc.setIfInBounds i ai) [i]
   |none=>[].reverse)
  have ready_of:∀i,i∈Region.ready .any ops jc↔i<ops.size/\jc.getD i az=az/\oQ ops (λj=>jc.getD j az) i:=by
   intro i;unfold Region.ready;rw[uL,gB];constructor
   ·rintro⟨hi,hq⟩;rw[bL] at hq;obtain⟨oZ,nQ⟩:=hq;rw[Wd i hi] at oZ;refine⟨hi,by simpa using oZ,λo ho ed fF nu=>?_⟩;rw[ho] at nQ;simp only[eW,I6,Fj] at nQ;obtain⟨q,hq,rfl⟩:=abi fF;have:=nQ q hq;simpa [nu] using this
   ·rintro⟨hi,hq,hr⟩;refine⟨hi,?_⟩;rw[bL];refine⟨by rw[Wd i hi];simp[hq],?_⟩;have ho:ops[i]?=aa ops[i]:=mz hi;rw[ho];simp only[eW,I6,Fj];intro q hq;cases hb:Region.binds .any ops[i].after[q] with|false=>rfl|true=>simpa using hr _ ho _ (abh hq) hb
  cases hi:(Region.ready .any ops jc)[t%(Region.ready .any ops jc).length]? with
  |none=>
   have oX:Region.ready .any ops jc=[]:=by
    cases hr:Region.ready .any ops jc with|nil=>rfl|cons x xs=>rw[hr] at hi;have aB:t%(x::xs).length<(x::xs).length:=Nat.mod_lt _ bH;simp at hi;simp at aB;omega
   have eH:∀i,i<ops.size->jc.getD i az=ai:=by
    intro i
    induction i using Nat.strongRecOn with
    |_ i ihi=>
     intro hi;cases hq:jc.getD i az with|true=>rfl|false=>have:i∈Region.ready .any ops jc:=(ready_of i).2 ⟨hi,hq,λo ho ed fF nu=>by have aB:=hB i o ho ed fF nu;exact ihi ed.on aB (pk aB hi)⟩;rw[oX] at this;cases this
   simp only[aci];exact eH
  |some i=>
   simp only[];have pI:=(ready_of i).1 (dn hi);obtain⟨iR,Cd,qu⟩:=pI;have Ou:(λj=>(jc.setIfInBounds i ai).getD j az)=dY (λj=>jc.getD j az) i:=by
    funext j;unfold dY;have cK:i<jc.size:=(by omega);by_cases hq:j=i
    ·subst hq;rw[aG rfl];simp[Ma,cK]
    ·rw[aH hq];simp[Ma,Ne.symm hq]
   have nO:=ih (t/(Region.ready .any ops jc).length) (jc.setIfInBounds i ai) (by simpa using dm) (by
    refine A6.1 (mU (agp (a:=i) (p:=λj=> !jc.getD j az) ?_ (gB.2 iR) (by simp only[Cd];rfl) ?_) Oi)
    ·intro j _ hj;have this:(jc.setIfInBounds i ai).getD j az=dY (λj=>jc.getD j az) i j:=congrFun Ou j;rw[this] at hj;unfold dY at hj;split at hj
     ·cases hj
     ·exact hj
    ·have this:(jc.setIfInBounds i ai).getD i az=dY (λj=>jc.getD j az) i i:=congrFun Ou i;rw[this];simp[dY])
   rw[linearise_go_acc,List.reverse_singleton,List.singleton_append];refine⟨iR,Cd,qu,?_⟩;rw[<-Ou];exact nO
def aob(n):(λj=>(CL n az).getD j az)=λ_=>az:=by funext j;rw[Array.getD_eq_getD_getElem?,Array.getElem?_replicate];split<;>rfl
def XY(hB:zi ops)(t:Nat):oi ops (λ_=>az) (Region.linearise .any ops t):=by unfold Region.linearise;have:=akW hB ops.size t (CL ops.size az) bH (fJ List.countP_le_length bH);rw[aob] at this;exact this
def U5{e:Env}{h:ao}(hf:mH P G R ops e h=ai):zi ops:=λj o ho ed fF hb=>(yf hf).Ju j o ho ed fF hb
def agW(N:di P G R ops (bR ops.size) e h=aa (.normal,e',h'))(hf:mH P G R ops e h=ai)(t:Nat):
 ∃e2,di P G R ops (Region.linearise .any ops t) e h=aa (.normal,e2,h')/\oR e2 e':=
 PZ N (yf hf) _ _ _ _ (PD N) (XY (U5 hf) t)
end
end Go.AE
end
section
namespace Go.AE
open Go.RowKit (Below)
structure aY.auT(K K':aY):Prop where
 base:K'.base=K.base
 ic:∀g j c,K.ic g j=aa c->K'.ic g j=aa c
 β:∀b g:Nat,K.β[b]?=aa g->K'.β[b]?=aa g
 γ:∀l g:Nat,K.γ[l]?=aa g->K'.γ[l]?=aa g
 tn:K.tn<=K'.tn
 tk:∀t,t<K.tn->K'.tk t=K.tk t
def aY.un(K:aY)(r:Nat):aY:={K with md:=K.md.filter (· !=r)}
def we.un{K}{r}{k}{g off sz n aC}(h:we K k g off sz n aC):we (K.un r) k g off sz n aC:=h
mutual
def a8.un{K:aY}{r:Nat}:∀{x:AV} {c:aR},a8 K x c->a8 (K.un r) x c
 |_,_,.bad c=>.bad c
 |_,_,.v x hx=>.v x hx
 |_,_,.nil sz=>.nil sz
 |_,_,.js sz a=>.js sz a
 |_,_,.list k sz es g off n aC cells hn hr hv hc ht ha=>.list k sz es g off n aC cells hn hr (aS.un hv) hc ht ha
 |_,_,.arr b g off len aC fC iH hb hl hc ho hr=>.arr b g off len aC fC iH hb hl hc ho hr
 |_,_,.agg cs vs hv=>.agg cs vs (aS.un hv)
 |_,_,.tuple cs vs hv=>.tuple cs vs (aS.un hv)
 |_,_,.box b g off hb=>.box b g off hb
 |_,_,.eR g off=>.eR g off
 |_,_,.elem sz es i off g o p cells hr hv hc hi hp ha=>.elem sz es i off g o p cells hr (aS.un hv) hc hi hp ha
 |_,_,.func fn first aC fs cs h1 h2=>.func fn first aC fs cs (aS.un h1) (aS.un h2)
 |_,_,.yield l g hl=>.yield l g hl
 |_,_,.iface t x c hx=>.iface t x c (a8.un hx)
def aS.un{K:aY}{r:Nat}:∀{xs:List AV} {cs:List aR},aS K xs cs->aS (K.un r) xs cs
 |_,_,.nil=>.nil
 |_,_,.cons x c xs cs hx hs=>.cons x c xs cs (a8.un hx) (aS.un hs)
end
def qJ.un{K}{r}{ds cds ms}(h:qJ K ds cds ms)(hr:r∉ms):qJ (K.un r) ds cds ms:=by
 induction h with
 |nil=>exact .nil|call g args vs aC ds cds ms hv _ ih=>exact .call g args vs aC ds cds ms (aS.un hv) (ih hr)|mark r' ds cds ms fY hn _ ih=>have bO:r'≠r:=λhq=>hr (hq ▸ gj);exact .mark r' ds cds ms (by unfold aY.un;exact uL.2 ⟨fY,by simpa using bO⟩) hn (ih λhq=>hr (fN _ hq))
def qJ.sub{K}{ds cds ms}(h:qJ K ds cds ms):∀r∈ms,r∈K.md:=by
 induction h with
 |nil=>intro r hr;cases hr
 |call g args vs aC ds cds ms hv _ ih=>exact ih|mark r' ds cds ms fY hn _ ih=>
  intro r hr;rcases iq.1 hr with rfl|hr
  ·exact fY
  ·exact ih r hr
def CS.un{K}{r}{kind base p cs}(h:CS K kind base p cs):CS (K.un r) kind base p cs:=by
 cases h with|normal h=>exact .normal h|ret c0 rest hk hb hm=>exact .ret c0 rest hk hb hm|cV c0 rest x v r hk hb hx=>exact .cV c0 rest x v r hk hb (a8.un hx)
def akD{K K':aY}{r}(le:K.Le K')(hr:r∉K.md):K.Le (K'.un r):=
 ⟨le.base,le.ic,le.β,le.γ,le.tn,le.tk,λr' fY=>by unfold aY.un;exact uL.2 ⟨le.md r' fY,by have:r'≠r:=λhq=>hr (hq ▸ fY);simpa using this⟩,le.lb,le.new⟩
section
variable {K:aY} {G:Nat->Option (List AV)} {ok:bm->Nat->Code->Bool} {w0 w:cB} {h:ao}
def Zf{g:Nat}{o:Obj}(hg:g<w.heap.size):tP w (w.putObj g o) g o:=
 ⟨rfl,rfl,rfl,World.putObj_size,λ_ hk=>World.putObj_heap_other hk,World.putObj_heap_same hg⟩
def bW.drop(s:bW K G ok w0 h w){r:Nat}(hr:r∈K.md)(o:Obj)(ho:∀cells e f,o≠ .cells cells e f):bW (K.un r) G ok w0 h (w.putObj r o):=by
 obtain⟨hb,hm⟩:=s.md r hr;have aB:=oE hm;have c:=Zf (o:=o) aB;have nN:∀{g:Nat} {cells:Array aR} {e:aK} {f:Nat × Nat},w.heap[g]?=aa (.cells cells e f)->g≠r:=by rintro g cells e f hg rfl;rw[hm] at hg;cases hg
 refine⟨s.dh.trans (c.below hb),by rw[c.size];exact s.size,λg j x hx=>?_,λg cs hg=>?_,s.lL,s.pW,λb g cs iA hc=>?_,s.oa,s.qI,λl g rr hl mn=>?_,s.tn,λt ht=>?_,s.pT,λr' fY=>?_,s.all⟩
 ·have ql:=s.ic g j x hx;have bO:g≠r:=by rintro rfl;simp[World.cell?,hm] at ql
  rw[<-ql];exact World.cell?_of_block (w:=w) (c.other g bO)
 ·obtain⟨cells,h1,h2⟩:=s.eR g cs hg;exact⟨cells,aS.un h1,h2⟩
 ·obtain⟨h1,h2,ha,cells,e,h3,h4⟩:=s.box b g cs iA hc;exact⟨h1,h2,ha,cells,e,(c.other g (nN h3)).trans h3,aS.un h4.1,h4.2⟩
 ·obtain⟨h1,fn,tmps,d,h2,h3,h4⟩:=s.loop l g rr hl mn;have bO:g≠r:=by rintro rfl;rw[hm] at h2;cases h2
  exact⟨h1,fn,tmps,d,(c.other g bO).trans h2,λt=>a8.un (h3 t),h4⟩
 ·obtain⟨h1,h2,h3,cells,e,fz,h4,h5,h6⟩:=s.tok t ht;refine⟨h1,h2,h3,cells,e,fz,(c.other _ (nN h4)).trans h4,h5,λj hj hl=>?_⟩;rw[<-h6 j hj hl];exact World.frozen?_of_block (w:=w) (c.other _ (nN h4))
 ·obtain⟨h1,h2⟩:=uL.1 fY;have bO:r'≠r:=by simpa using h2
  obtain⟨h3,h4⟩:=s.md r' h1;exact⟨h3,(c.other r' bO).trans h4⟩
def aY.mark(K:aY)(r:Nat):aY:={K with md:=r::K.md}
def aY.XS(K:aY)(r):K.Le (K.mark r):=
 ⟨rfl,λ_ _ _ h=>h,λ_ _ h=>h,λ_ _ h=>h,aM _,λ_ _=>rfl,λ_ h=>fN _ h,λ_ _=>rfl,λ_ _ _ h=>.inl h⟩
def bW.alH(s:bW K G ok w0 h w):bW (K.mark w.heap.size) G ok w0 h (w.alloc (.deferred (aa []))):=by
 have le:=K.XS w.heap.size;have p:=s.push (.deferred (aa []));refine⟨p.dh,p.size,p.ic,λg cs hg=>?_,p.lL,p.pW,λb g cs hb hc=>?_,p.oa,p.qI,λl g r hl hr=>?_,p.tn,p.tok,p.pT,λr hr=>?_,s.all⟩
 ·obtain⟨cells,h1,h2⟩:=s.eR g cs hg;exact⟨cells,h1.mono le,h2⟩
 ·obtain⟨h1,h2,ha,cells,e,h3,h4⟩:=p.box b g cs hb hc;exact⟨h1,h2,ha,cells,e,h3,h4.mono le (aV.1 hb).1⟩
 ·obtain⟨h1,fn,tmps,d,h2,h3,h4⟩:=p.loop l g r hl hr;exact⟨h1,fn,tmps,d,h2,h3.mono le,h4⟩
 ·rcases iq.1 hr with rfl|hr
  ·exact⟨s.size,World.alloc_heap_new w _⟩
  ·exact p.md r hr
def aY.loop(K:aY)(g:Nat):aY:={K with γ:=K.γ++[g]}
def aY.PQ(K:aY)(g):K.Le (K.loop g):=
 ⟨rfl,λ_ _ _ h=>h,λ_ _ h=>h,λ_ _ h=>u0 h,aM _,λ_ _=>rfl,λ_ h=>h,λ_ _=>rfl,λ_ _ _ h=>.inl h⟩
def bW.Yp(s:bW K G ok w0 h w){r:iN}{fn:bm}{tmps:Array aR}(d:Nat)(hs:mD K r.tmps tmps)(h1:ok fn tmps.size r.assign=ai)(h2:ok fn tmps.size r.body=ai)(h3:∀p∈r.params.toList,p<tmps.size):
 bW (K.loop w.heap.size) G ok w0 {h with loops:=h.loops++[r]} (w.alloc (.loop {state:=r.state,pending:=r.pending,fn,tmps,params:=r.params,assign:=r.assign,body:=r.body,defers:=d}))/\
 (K.loop w.heap.size).γ[h.loops.length]?=aa w.heap.size:=by
 have le:=K.PQ w.heap.size;have p:=s.push (.loop {state:=r.state,pending:=r.pending,fn,tmps,params:=r.params,assign:=r.assign,body:=r.body,defers:=d});have lT:(K.loop w.heap.size).γ[h.loops.length]?=aa w.heap.size:=by simp[aY.loop,<-s.oa]
 have aB:∀{l g:Nat},K.γ[l]?=aa g->g<w.heap.size:=λ{l g} hl=>by
  have eO:l<h.loops.length:=by rw[<-s.oa];exact(aV.1 hl).1
  obtain⟨_,_,_,_,h3,_⟩:=s.loop l g _ hl (aT eO);exact oE h3
 refine⟨⟨p.dh,p.size,p.ic,λg cs hg=>?_,p.lL,p.pW,λb g cs hb hc=>?_,by simp[aY.loop,s.oa],λl l' g hl ss=>?_,λl g r' hl hr=>?_,p.tn,p.tok,p.pT,p.md,s.all⟩,lT⟩
 ·obtain⟨cells,h1,h2⟩:=s.eR g cs hg;exact⟨cells,h1.mono le,h2⟩
 ·obtain⟨h1,h2,ha,cells,e,h3,h4⟩:=p.box b g cs hb hc;exact⟨h1,h2,ha,cells,e,h3,h4.mono le (aV.1 hb).1⟩
 ·rcases sf hl with hb|⟨rfl,rfl⟩<;>rcases sf ss with iA|⟨rfl,h2⟩
  ·exact s.qI _ _ _ hb iA
  ·have:=aB hb;omega
  ·have:=aB iA;omega
  ·rfl
 ·rcases sf hl with hl|⟨rfl,rfl⟩
  ·rcases sf hr with hr|⟨rfl,rfl⟩
   ·obtain⟨h1,fn',tmps',d',h2,h3,h4⟩:=p.loop l g r' hl hr;exact⟨h1,fn',tmps',d',h2,h3.mono le,h4⟩
   ·have:h.loops.length<K.γ.length:=(aV.1 hl).1;have:=s.oa;omega
  ·have:r'=r:=(by rw[s.oa] at hr;simp at hr;exact hr.symm);subst this;exact⟨s.size,fn,tmps,d,World.alloc_heap_new w _,hs.mono le,h1,h2,h3⟩
def bW.fx(s:bW K G ok w0 h w){l g:Nat}{r:iN}(hl:K.γ[l]?=aa g)(hr:h.loops[l]?=aa r)(st:LoopState)(pe:Option Code):
 ∃m:Loop,w.heap[g]?=aa (.loop m)/\m.state=r.state/\m.pending=r.pending/\m.params=r.params/\m.assign=r.assign/\m.body=r.body/\mD K r.tmps m.tmps/\
  ok m.fn m.tmps.size r.assign=ai/\ok m.fn m.tmps.size r.body=ai/\(∀p∈r.params.toList,p<m.tmps.size)/\
  bW K G ok w0 {h with loops:=h.loops.set l {r with state:=st,pending:=pe}} (w.putObj g (.loop {m with state:=st,pending:=pe})):=by
 obtain⟨k1,fn,tmps,d,k2,k3,k4,k5,k6⟩:=s.loop l g r hl hr;have eO:l<h.loops.length:=(aV.1 hr).1;refine⟨_,k2,rfl,rfl,rfl,rfl,rfl,k3,k4,k5,k6,?_⟩;have c:=Zf (o:=.loop {state:=st,pending:=pe,fn,tmps,params:=r.params,assign:=r.assign,body:=r.body,defers:=d}) (oE k2);have nN:∀{g':Nat} {cells:Array aR} {e:aK} {f:Nat × Nat},w.heap[g']?=aa (.cells cells e f)->g'≠g:=by rintro g' cells e f hg rfl;rw[k2] at hg;cases hg
 refine⟨s.dh.trans (c.below k1),by rw[c.size];exact s.size,λg' j x hx=>?_,s.eR,s.lL,s.pW,λb g' cs iA hc=>?_,by simp[s.oa],s.qI,λl' g' rr ss mn=>?_,s.tn,λt ht=>?_,s.pT,λr' fY=>?_,s.all⟩
 ·have ql:=s.ic g' j x hx;have bO:g'≠g:=by rintro rfl;simp[World.cell?,k2] at ql
  rw[<-ql];exact World.cell?_of_block (w:=w) (c.other g' bO)
 ·obtain⟨h1,h2,ha,cells,e,h3,h4⟩:=s.box b g' cs iA hc;exact⟨h1,h2,ha,cells,e,(c.other g' (nN h3)).trans h3,h4⟩
 ·simp only[mA] at mn;split at mn
  ·rename_i mi;subst mi;injection mn with mn;subst mn;rw[hl] at ss;injection ss with ss;subst ss;exact⟨k1,fn,tmps,d,c.this,k3,k4,k5,k6⟩
  ·rename_i bO;have iZ:g'≠g:=(by rintro rfl;exact bO (s.qI _ _ _ hl ss));obtain⟨h1,fn',tmps',d',h2,h3,h4⟩:=s.loop l' g' rr ss mn;exact⟨h1,fn',tmps',d',(c.other g' iZ).trans h2,h3,h4⟩
 ·obtain⟨h1,h2,h3,cells,e,fz,h4,h5,h6⟩:=s.tok t ht;refine⟨h1,h2,h3,cells,e,fz,(c.other _ (nN h4)).trans h4,h5,λj hj hl=>?_⟩;rw[<-h6 j hj hl];exact World.frozen?_of_block (w:=w) (c.other _ (nN h4))
 ·obtain⟨h1,h2⟩:=s.md r' fY;have bO:r'≠g:=by rintro rfl;rw[k2] at h2;cases h2
  exact⟨h1,(c.other r' bO).trans h2⟩
end
end Go.AE
end
