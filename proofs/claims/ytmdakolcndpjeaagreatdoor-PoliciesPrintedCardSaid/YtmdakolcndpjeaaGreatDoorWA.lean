/-
  The engine, part 1: an evaluator of the model's Code over values in which a slice is a list. No claim is made here; part 2 and on show that what it gives the machine does.
-/
import Derived.AtR
import Derived.Recover
import Derived.Below
import Derived.Orders
import Derived.Laws.AppendOwn
import Derived.Laws.Cells
import Derived.Laws.Entries
import Derived.Laws.MakeOwn
import Derived.Laws.Strings
import Derived.Laws.Append
import Derived.Lib.AppendZeros
import Derived.Defers
open True renaming intro->ev
open Bool renaming true->ab,false->ak,false_eq_true->dP,and_eq_true->aL,not_eq_true'->wM,not_false->uU
open Go renaming Value->aC,TypeId->aE,Program->aQ,FuncId->bF,Operand->bI,World->aT,Frame->cW
open Option renaming some->aa,none->ah,map_eq_some_iff->cn,bind_eq_some_iff->ve,isSome_iff_exists->SA,map->yy,isNone_some->Dd,map_some->cy,some.injEq->aY,bind_some->qZ
open Nat renaming beq->ij,min->l9,le_refl->aK,le_trans->cY,lt_of_lt_of_le->lY,lt_or_ge->dp,add_mul->ig,add_zero->gD,mul_le_mul_right->oy,zero_add->gL,mul_eq_zero->Ss,zero_mul->Gp,not_lt_zero->ik,reducePow->Sz,zero_le->cz,sub_mul->Gn,mul_pos->Sv,pos_of_ne_zero->Sx,one_ne_zero->Gm,mul_one->qj,eq_of_beq_eq_true->iK,lt_succ_iff->tI,le_antisymm->fF
open List renaming replicate->gC,range->bt,getElem?_eq_some_iff->aF,getElem?_eq_getElem->cv,getElem?_take->nU,getElem?_drop->yu,getElem?_set->tG,length_take->ng,getElem?_append_left->qh,take_of_length_le->o5,flatten_cons->oW,drop_append->C5,drop_of_length_le->C6,take_append->Da,length_append->cO,length_cons->dD,set_eq_take_append_cons_drop->Sl,all_eq_true->dn,mem_append->oZ,mem_of_mem_take->Au,mem_of_mem_drop->Gj,length_drop->C8,ext_getElem?->uY,foldl_cons->RZ,map_cons->gB,map_map->Sd,getElem?_toArray->iB,flatten_append->yr,map_append->Ar,flatten_nil->KU,append_nil->dI,mem_replicate->KW,take_nil->So,drop_nil->RU,extract_eq_take_drop->RW,mem_map->wO,length_map->jj,take_append_of_le_length->yw,cons_append->bR,nil_append->bT,range_succ->u0,getElem?_cons_zero->j5,getElem?_cons_succ->tD,size_toArray->Sm,all_append->yq,eq_of_mem_replicate->RV,length_replicate->R9,mem_cons_of_mem->dG,append_assoc->lz,getElem?_append_right->uZ,toArray_inj->Gl,map_congr_left->Sb
open Array renaming length_toList->tC,getElem?_eq_none->tB,getElem?_eq_getElem->fW,getElem?_modify->yl,toList_setIfInBounds->Rr,toList_map->yn,getElem?_toList->sd,range->uR,toList_extract->Rq,getElem?_eq_some_iff->wK,toList_append->ym,ext'->F7,size_append->KC,getElem?_setIfInBounds->r9,map->Ga,mem_toList_iff->Ro
open Prod renaming mk.inj->fG,mk.injEq->aW
set_option linter.unusedSimpArgs false
set_option linter.unusedVariables false
set_option linter.constructorNameAsVariable false
set_option linter.defProp false
namespace Go
def aj{p:Prop}(h:p:=by omega):p:=h
def bh{p:Prop}(h:p:=by simp):p:=h
def bq{p:Prop}(h:p:=by decide):p:=h
def agR{p:Prop}(h:p:=by simp;omega):p:=h
def agS{p:Prop}(h:p:=by first|exact trivial|exact rfl):p:=h
def iS{p:Prop}(h:p:=by kernel_rfl):p:=h
def ax.{u}{c:Prop}{h:Decidable c}(q:¬c){α:Sort u}{t e:α}:ite c t e=e:=if_neg q
def aB.{u}{c:Prop}{h:Decidable c}(q:c){α:Sort u}{t e:α}:ite c t e=t:=if_pos q
def fJ{p:Prop}[Decidable p](q:p):decide p=ab:=decide_eq_true q
def mH{p:Prop}[Decidable p](q:¬p):decide p=ak:=decide_eq_false q
end Go
section
namespace Go.AE
inductive Tok where
 |nil|tight|free (n:Nat)|held
 deriving DecidableEq,Inhabited
inductive Ref where
 |box (b:Nat)|dj (g:Nat)
 deriving DecidableEq,Inhabited
inductive AV where
 |bad
 |v (x:aC)
 |list (k:Tok) (sz:Nat) (es:List (List AV))
 |arr (b off len az:Nat)
 |agg (cs:List AV)
 |tuple (vs:List AV)
 |ptr (r:Ref) (off:Nat)
 |elem (sz:Nat) (es:List (List AV)) (i off:Nat)
 |func (fn:Fn) (first az:List AV)
 |yield (l:Nat)
 |iface (t:aE) (x:AV)
 deriving Inhabited
def fD{α:Type}(P:aQ):Sem α->Option α
 | .pure a=>aa a
 | .program k=>fD P (k P)
 | .mark _ k=>fD P k
 |_=>ah
def scalar:aC->Bool
 | .bool _| .int .. | .float .. | .complex .. | .string _| .nilFunc| .nilIface| .pointer ah| .map ah| .chan ah=>ab
 |_=>ak
def pZ(z:aC):Option AV:=if scalar z then aa (.v z) else ah
def AV.eM:AV->Bool
 | .agg _| .tuple _| .bad=>ak
 |_=>ab
def AV.cF:AV->Option (List AV)
 | .agg cs=>if cs.all AV.eM then aa cs else ah
 | .tuple _| .bad=>ah
 |x=>aa [x]
def xU(x:aC):AV:=
 match x with
 | .slice ah 0 0=>.list .nil 0 []
 |x=>if scalar x then .v x else .bad
def nK:aC->AV
 | .agg cs=>.agg (cs.toList.map xU)
 | .tuple vs=>if vs.size=0 then .tuple [] else .bad
 | .iface t x=>.iface t (xU x)
 |x=>xU x
def xh:List AV->Option (List aC)
 | []=>aa []
 | .v x::r=>(xh r).map (x::·)
 |_=>ah
def AV.flat:AV->Option aC
 | .v x=>aa x
 | .agg cs=>(xh cs).map λl=>.agg l.toArray
 | .iface t (.v x)=>aa (.iface t x)
 | .iface t (.agg cs)=>(xh cs).map λl=>.iface t (.agg l.toArray)
 | .list .nil _ []=>aa (.slice ah 0 0)
 |_=>ah
def flatAll:List AV->Option (List aC)
 | []=>aa []
 |x::r=>match x.flat,flatAll r with|some v,aa l=>aa (v::l)|_,_=>ah
def pY:aC->aC->Bool
 | .int k n,.int k' n'=>decide (k=k')&&decide (n=n')
 | .bool a,.bool b=>a==b
 | .string p,.string q=>p.data.toList==q.data.toList
 | .nilFunc,.nilFunc| .nilIface,.nilIface| .pointer ah,.pointer ah=>ab
 |_,_=>ak
def FB:Ref->Ref->Bool
 | .box a,.box b| .dj a,.dj b=>ij a b
 |_,_=>ak
def CA:Tok->Tok->Bool
 | .nil,.nil| .tight,.tight| .held,.held=>ab
 | .free a,.free b=>ij a b
 |_,_=>ak
mutual
def fN:AV->AV->Bool
 | .v x,.v y=>pY x y
 | .list k sz es,.list k' sz' es'=>CA k k'&&ij sz sz'&&pX es es'
 | .arr b o l c,.arr b' o' l' c'=>ij b b'&&ij o o'&&ij l l'&&ij c c'
 | .agg cs,.agg ds=>oR cs ds
 | .tuple cs,.tuple ds=>oR cs ds
 | .ptr r o,.ptr r' o'=>FB r r'&&ij o o'
 | .elem sz es i o,.elem sz' es' i' o'=>ij sz sz'&&ij i i'&&ij o o'&&pX es es'
 | .yield l,.yield l'=>ij l l'
 | .iface t x,.iface t' y=>ij t t'&&fN x y
 | .func (.func f) a b,.func (.func g) a' b'=>ij f g&&oR a a'&&oR b b'
 |_,_=>ak
def oR:List AV->List AV->Bool
 | [],[]=>ab
 |x::xs,y::ys=>fN x y&&oR xs ys
 |_,_=>ak
def pX:List (List AV)->List (List AV)->Bool
 | [],[]=>ab
 |x::xs,y::ys=>oR x y&&pX xs ys
 |_,_=>ak
end
structure kO where
 ch:List (Nat × AV)
 base:List AV
 deriving Inhabited
def look(base:List AV):List (Nat × AV)->Nat->AV
 | [],t=>base.getD t (.tuple [])
 |p::r,t=>bif ij p.1 t then p.2 else look base r t
def kO.get(s:kO)(t:Nat):AV:=look s.base s.ch t
def kO.set(s:kO)(t:Nat)(x:AV):kO:={s with ch:=(t,x)::s.ch}
structure ff where
 tmps:kO
 params:Array Tmp
 assign:Code
 body:Code
 state:LoopState
 pending:Option Code
 deriving Inhabited
structure ae where
 boxes:List (List AV)
 loops:List ff
 tn:Nat
 dead:List Nat
 deriving Inhabited
structure Env where
 tmps:kO
 defers:List (bF × List AV)
 aX:Option (AV × Bool)
 round:Option Nat
 deriving Inhabited
inductive Xt where
 |normal
 |exit (id:Nat)
 |ret
 |panic (x:AV)
 deriving Inhabited
inductive bw where
 |ret (x:AV)
 |panic (x:AV)
 deriving Inhabited
def Env.get(e:Env)(t:Nat):AV:=e.tmps.get t
def Env.put(e:Env)(dst:Option Tmp)(x:AV):Env:=
 match dst with
 |some d=>{e with tmps:=e.tmps.set d x}
 |none=>e
def V5(tmps:kO):bI->AV
 | .tmp t=>tmps.get t
 | .const v=>nK v
 | .global g=>.ptr (.dj g) 0
 | .func f=>.func (.func f) [] []
def Env.eval(e:Env)(x:bI):AV:=V5 e.tmps x
section
variable (P:aQ)
def cU(t:aE):Option Nat:=(P.info? t).map (·.size)
def fZ(t:aE):Option Bool:=
 match P.underlying t with
 |some (.struct _)|some (.array _ _)=>aa ab
 |some _=>aa ak
 |none=>ah
def fa(t:aE):Option AV:=
 match P.info? t with
 |some i=>i.zero.map nK
 |none=>ah
def EZ(t:aE)(cs:List AV)(off:Nat):Option AV:=
 match fZ P t with
 |some ab=>(cU P t).map λn=>.agg ((cs.drop off).take n)
 |some ak=>cs[off]?
 |none=>ah
end
def ae.box(h:ae)(cs:List AV):AV × ae:=(.ptr (.box h.boxes.length) 0,{h with boxes:=h.boxes++[cs]})
def ae.fresh(h:ae)(sz:Nat)(es:List (List AV)):AV × ae:=(.list (.free h.tn) sz es,{h with tn:=h.tn+1})
def JE(G:Nat->Option (List AV))(h:ae):Ref->Option (List AV)
 | .box b=>h.boxes[b]?
 | .dj g=>G g
def w9(G:Nat->Option (List AV))(h:ae):AV->Option (List AV)
 | .ptr r off=>(JE G h r).map (·.drop off)
 | .elem _ es i off=>(es[i]?).map (·.drop off)
 |_=>ah
def dz(P:aQ)(G:Nat->Option (List AV))(h:ae)(t:aE)(a:AV):Option AV:=
 match fZ P t,w9 G h a with
 |some ab,aa cs=>
  match cU P t with
  |some n=>if n<=cs.length then aa (.agg (cs.take n)) else ah
  |none=>ah
 |some ak,aa cs=>cs.head?
 |_,_=>ah
def dO(cr:List AV)(off:Nat)(cs:List AV):List AV:=cr.take off++cs++cr.drop (off+cs.length)
def dh(P:aQ)(h:ae)(t:aE)(a x:AV):Option ae:=
 match a,x.cF,cU P t with
 | .ptr (.box b) off,aa cs,aa n=>
  match h.boxes[b]? with
  |some cr=>if cs.length=n/\off+n<=cr.length then aa {h with boxes:=h.boxes.set b (dO cr off cs)} else ah
  |none=>ah
 |_,_,_=>ah
def rh(place:Nat->Option (Nat × Nat))(cells:List AV):List (Nat × AV)->Option (List AV)
 | []=>aa cells
 |(i,x)::rest=>
  match place i,x.cF with
  |some (off,size),aa cs=>if cs.length=size/\off+size<=cells.length then rh place (dO cells off cs) rest else ah
  |_,_=>ah
def AR(sz:Nat)(rows:List (List AV)):List (Nat × AV)->Option (List (List AV))
 | []=>aa rows
 |(i,x)::rest=>
  match x.cF with
  |some cs=>if cs.length=sz/\i<rows.length then AR sz (rows.set i cs) rest else ah
  |none=>ah
def placesOf(P:aQ)(fields:Array Field)(i:Nat):Option (Nat × Nat):=
 match fields[i]? with
 |some f=>(cU P f.type).map λn=>(f.offset,n)
 |none=>ah
def gb(P:aQ)(t:aE)(parts:List (Nat × AV)):Option AV:=
 match P.underlying t,(fa P t).bind AV.cF with
 |some (.struct fields),aa zero=>
  if fields.all λf=>(P.info? f.type).isSome then (rh (placesOf P fields) zero parts).map .agg else ah
 |some (.array _ elem),aa zero=>
  match cU P elem with
  |some size=>(rh (λi=>aa (i * size,size)) zero parts).map .agg
  |none=>ah
 |_,_=>ah
def gl(P:aQ)(t:aE)(len:Nat)(parts:List (Nat × AV)):Option AV:=
 match P.underlying t with
 |some (.slice elem)=>
  match cU P elem,(fa P elem).bind AV.cF with
  |some size,aa zero=>
   if 0<size/\zero.length=size/\len * size<=16777216 then (AR size (gC len zero) parts).map (.list .tight size) else ah
  |_,_=>ah
 |_=>ah
def zm(P:aQ)(h:ae)(t:aE)(l c:AV):Option (AV × ae):=
 match P.underlying t,l,c with
 |some (.slice elem),.v (.int _ l),.v (.int _ c)=>
  match P.info? elem,(fa P elem).bind AV.cF with
  |some i,aa zero=>
   if 0<=l/\l<=c/\c<9223372036854775808/\i.bytes * c<=281474976710656/\0<i.size/\zero.length=i.size then
    aa (.arr h.boxes.length 0 l.toNat c.toNat,{h with boxes:=h.boxes++[(gC c.toNat zero).flatten]})
   else ah
  |_,_=>ah
 |_,_,_=>ah
def rowsOf(h:ae)(size:Nat):AV->Option (List (List AV))
 | .list _ sz es=>if sz=size∨es=[] then aa es else ah
 | .arr b off len _=>
  match h.boxes[b]? with
  |some cs=>if off+len * size<=cs.length then aa ((bt len).map λi=>(cs.drop (off+i * size)).take size) else ah
  |none=>ah
 |_=>ah
def nX(b:UInt8):List AV:=[.v (.int .u8 b.toNat)]
def byteOf:List AV->Option UInt8
 | [.v (.int .u8 n)]=>aa (UInt8.ofNat n.toNat)
 |_=>ah
def bytesOf:List (List AV)->Option (List UInt8)
 | []=>aa []
 |r::rest=>match byteOf r,bytesOf rest with|some b,aa l=>aa (b::l)|_,_=>ah
def s6(h:ae)(size:Nat):AV->Option (List (List AV))
 | .v (.string s)=>if size=1 then aa (s.data.toList.map nX) else ah
 |x=>rowsOf h size x
def alive(h:ae)(n:Nat):Bool:=decide (n<h.tn)&& !h.dead.contains n
def KA(P:aQ)(h:ae)(ts:Array aE)(elem:aE)(s x:AV):Option (AV × ae):=
 match s,x with
 | .list .nil _ [],.v (.int _ n)=>
  match P.info? elem,(fa P elem).bind AV.cF with
  |some i,aa zero=>
   if ts.size=2/\0<n/\n * i.bytes<=140737488355328/\n<=9223372036854775807/\0<i.size/\zero.length=i.size then
    aa (.arr h.boxes.length 0 n.toNat n.toNat,{h with boxes:=h.boxes++[(gC n.toNat zero).flatten]})
   else ah
  |_,_=>ah
 |_,_=>ah
def iM(P:aQ)(h:ae)(ts:Array aE)(s x:AV):Option (AV × ae):=
 match (ts[0]?).bind P.underlying,(ts[1]?).bind P.underlying with
 |some (.slice elem),aa (.int _)=>KA P h ts elem s x
 |some (.slice elem),aa _=>
  match P.info? elem with
  |none=>ah
  |some i=>
   match s6 h i.size x with
   |none=>ah
   |some new=>
    if 0<i.size/\(i.zero.map λz=>z.cells.size)=aa i.size then
     match s with
     | .list k sz es=>
      if sz=i.size∨es=[] then
       if new=[] then aa (s,h)
       else if (es.length+new.length) * i.bytes<=140737488355328/\es.length+new.length<=9223372036854775807 then
        match k with
        | .nil| .tight=>aa (h.fresh i.size (es++new))
        | .free n=>if alive h n&&decide (sz=i.size) then aa ({h with dead:=n::h.dead}.fresh i.size (es++new)) else ah
        | .held=>ah
       else ah
      else ah
     | .arr b off len az=>
      match h.boxes[b]? with
      |some cs=>
       if len+new.length<=az/\off+az * i.size<=cs.length then
        aa (.arr b off (len+new.length) az,{h with boxes:=h.boxes.set b (dO cs (off+len * i.size) new.flatten)})
       else ah
      |none=>ah
     |_=>ah
    else ah
 |_,_=>ah
def Kp(G:Nat->Option (List AV))(d:Option Tmp)(t:aE):Bool:=(G (1000000+1000 * t+d.getD 0)).isSome
def CN(P:aQ)(h:ae)(ts:Array aE)(s x:AV):Option (AV × ae):=
 match (ts[0]?).bind P.underlying,(ts[1]?).bind P.underlying with
 |some (.slice _),aa (.int _)=>ah
 |some (.slice elem),aa _=>
  match P.info? elem with
  |none=>ah
  |some i=>
   match s6 h i.size x with
   |none=>ah
   |some new=>
    if 0<i.size/\(i.zero.map λz=>z.cells.size)=aa i.size then
     match s with
     | .list k sz es=>
      if sz=i.size∨es=[] then
       if new=[] then aa (s,h)
       else if (es.length+new.length) * i.bytes<=140737488355328/\es.length+new.length<=9223372036854775807 then
        match k with
        | .nil| .tight=>aa (.arr h.boxes.length 0 (es.length+new.length) (es.length+new.length),{h with boxes:=h.boxes++[(es++new).flatten]})
        |_=>ah
       else ah
      else ah
     | .arr b off len az=>
      match h.boxes[b]? with
      |some cs=>
       if len+new.length<=az then iM P h ts s x
       else if off=0/\0<len/\len=az/\len * i.size=cs.length/\(len+new.length) * i.bytes<=140737488355328/\len+new.length<=9223372036854775807 then
        aa (.arr h.boxes.length 0 (len+new.length) (len+new.length),{h with boxes:=h.boxes.set b []++[cs++new.flatten]})
       else ah
      |none=>ah
     |_=>ah
    else ah
 |_,_=>ah
def DE(P:aQ)(h:ae)(ts:Array aE)(d s:AV):Option (AV × ae):=
 match (ts[0]?).bind P.underlying with
 |some (.slice elem)=>
  match P.info? elem,d with
  |some i,.arr b off len az=>
   match s6 h i.size s,h.boxes[b]? with
   |some rows,aa cs=>
    if off+len * i.size<=cs.length/\len<=az then
     aa (.v (.int .i64 (l9 rows.length len:Nat)),{h with boxes:=h.boxes.set b (dO cs off (rows.take (l9 rows.length len)).flatten)})
    else ah
   |_,_=>ah
  |_,_=>ah
 |_=>ah
def sY(P:aQ)(t:aE)(x:AV):Option AV:=
 match P.underlying t,x with
 |some .string,.v (.string s)=>aa (.v (.int .i64 s.size))
 |some (.array n _),_=>aa (.v (.int .i64 n))
 |some (.pointer a),_=>match P.underlying a with|some (.array n _)=>aa (.v (.int .i64 n))|_=>ah
 |some (.slice _),.list _ _ es=>aa (.v (.int .i64 es.length))
 |some (.slice _),.arr _ _ len _=>aa (.v (.int .i64 len))
 |_,_=>ah
def DB(P:aQ)(t:aE)(x:AV):Option AV:=
 match P.underlying t,x with
 |some (.slice _),.list .tight _ es=>aa (.v (.int .i64 es.length))
 |some (.slice _),.list .nil _ es=>aa (.v (.int .i64 es.length))
 |some (.array n _),_=>aa (.v (.int .i64 n))
 |_,_=>ah
def gM(hi:Nat):Option AV->Nat->Option Nat
 |none,d=>aa d
 |some (.v (.int _ n)),_=>if 0<=n/\n<=hi then aa n.toNat else ah
 |_,_=>ah
def jq(k:Tok)(toEnd sZ:Bool)(n:Nat):Tok:=
 match k with
 | .nil=>.nil
 | .tight=>if toEnd||sZ then .tight else .held
 | .free t=>if sZ then .tight else if toEnd&&n !=0 then .free t else .held
 | .held=>if sZ then .tight else .held
def qS(P:aQ)(t:aE)(x:AV)(lo hi mx:Option AV):Option AV:=
 if mx.isSome&&hi.isNone then ah else
 match P.underlying t,x with
 |some .string,.v (.string s)=>
  if mx.isSome then ah else
  match gM s.size hi s.size with
  |some h=>match gM h lo 0 with
   |some l=>aa (.v (.string (s.extract l h)))
   |none=>ah
  |none=>ah
 |some (.slice elem),.list k sz es=>
  match cU P elem,gM es.length mx es.length with
  |some size,aa m=>match gM m hi es.length with
   |some h=>match gM h lo 0 with
    |some l=>
     if size=sz∨es=[] then aa (.list (jq k (decide (h=es.length)&&mx.isNone) (mx.isSome&&decide (h=m)) (h - l)) sz ((es.take h).drop l)) else ah
    |none=>ah
   |none=>ah
  |_,_=>ah
 |some (.slice elem),.arr b off len az=>
  match cU P elem,gM az mx az with
  |some size,aa m=>match gM m hi len with
   |some h=>match gM h lo 0 with
    |some l=>if size=0 then ah else if mx.isSome/\m=l then aa (.list .tight size []) else aa (.arr b (if m=l then off else off+l * size) (h - l) (m - l))
    |none=>ah
   |none=>ah
  |_,_=>ah
 |some (.array n elem),.ptr (.box b) off=>
  match cU P elem,gM n mx n with
  |some size,aa m=>match gM m hi n with
   |some h=>match gM h lo 0 with
    |some l=>aa (.arr b (if m=l then off else off+l * size) (h - l) (m - l))
    |none=>ah
   |none=>ah
  |_,_=>ah
 |_,_=>ah
def cN(P:aQ)(s:aE)(x:AV)(f:Nat):Option AV:=
 match P.underlying s with
 |some (.struct fields)=>
  match fields[f]? with
  |some fd=>
   match cU P fd.type with
   |some 0=>ah
   |some _=>match x with
    | .ptr r off=>aa (.ptr r (off+fd.offset))
    | .elem sz es i off=>aa (.elem sz es i (off+fd.offset))
    |_=>ah
   |none=>ah
  |none=>ah
 |_=>ah
def oN(P:aQ)(t:aE)(x ix:AV):Option AV:=
 match P.underlying t,x,ix with
 |some (.slice elem),.list _ sz es,.v (.int _ i)=>if 0<=i/\i<es.length/\cU P elem=aa sz then aa (.elem sz es i.toNat 0) else ah
 |some (.slice elem),.arr b off len _,.v (.int _ i)=>
  match cU P elem with
  |some size=>if 0<=i/\i<len then aa (.ptr (.box b) (off+i.toNat * size)) else ah
  |none=>ah
 |some (.array len elem),.ptr r off,.v (.int _ i)=>
  match cU P elem with
  |some size=>if 0<=i/\i<len then aa (.ptr r (off+i.toNat * size)) else ah
  |none=>ah
 |some (.array len elem),.elem sz es k off,.v (.int _ i)=>
  match cU P elem with
  |some size=>if 0<=i/\i<len then aa (.elem sz es k (off+i.toNat * size)) else ah
  |none=>ah
 |_,_,_=>ah
def BH(P:aQ)(t:aE)(x ix:AV):Option AV:=
 match P.underlying t,x,ix with
 |some .string,.v (.string s),.v (.int _ i)=>
  match (if 0<=i then s.data[i.toNat]? else ah) with
  |some b=>aa (.v (.int .u8 b.toNat))
  |none=>ah
 |some (.array len elem),.agg cs,.v (.int _ i)=>
  match cU P elem with
  |some size=>if 0<=i/\i<len then EZ P elem cs (i.toNat * size) else ah
  |none=>ah
 |_,_,_=>ah
def isIface(P:aQ)(t:aE):Option Bool:=
 match P.underlying t with
 |some (.interface _)=>aa ab
 |some _=>aa ak
 |none=>ah
def nr(P:aQ)(x:AV)(asserted:aE)(commaOk:Bool):Option AV:=
 match isIface P asserted,x with
 |some ak,.iface t y=>if t=asserted then aa (if commaOk then .tuple [y,.v (.bool ab)] else y)
  else if commaOk then (fa P asserted).map λz=>.tuple [z,.v (.bool ak)] else ah
 |some ak,.v .nilIface=>if commaOk then (fa P asserted).map λz=>.tuple [z,.v (.bool ak)] else ah
 |_,_=>ah
def re(op:BinOp)(b:Bool):Option AV:=
 match op with
 | .eql=>aa (.v (.bool b))
 | .neq=>aa (.v (.bool !b))
 |_=>ah
def Dq(P:aQ)(op:BinOp)(t:aE)(x y:bI)(a b:AV):Option AV:=
 match a.flat,b.flat with
 |some p,aa q=>(fD P (do eqGuard op t x y p q;binOp op t p q)).bind pZ
 |_,_=>ah
def jo(P:aQ)(op:BinOp)(t:aE)(x y:bI)(a b:AV):Option AV:=
 match a,b with
 | .v (.string p),.v (.string q)=>
  match op with
  | .eql=>aa (.v (.bool (p.data.toList==q.data.toList)))
  | .neq=>aa (.v (.bool !(p.data.toList==q.data.toList)))
  | .add=>if p.size+q.size<=9223372036854775807 then aa (.v (.string (p++q))) else ah
  |_=>Dq P op t x y a b
 | .iface _ _,.v .nilIface=>if isIface P t=aa ab then re op ak else ah
 | .v .nilIface,.iface _ _=>if isIface P t=aa ab then re op ak else ah
 | .ptr _ _,.v (.pointer ah)=>(match P.underlying t with|some (.pointer _)=>re op ak|_=>ah)
 | .v (.pointer ah),.ptr _ _=>(match P.underlying t with|some (.pointer _)=>re op ak|_=>ah)
 | .func _ _ _,.v .nilFunc=>(match P.underlying t with|some (.func ..)=>re op ak|_=>ah)
 | .v .nilFunc,.func _ _ _=>(match P.underlying t with|some (.func ..)=>re op ak|_=>ah)
 | .list k _ _,.list .nil _ []=>(match P.underlying t with|some (.slice _)=>re op (decide (k=.nil))|_=>ah)
 |a,b=>Dq P op t x y a b
def CP(P:aQ)(op:UnOp)(x:AV):Option AV:=
 match x.flat with
 |some p=>(fD P (Op.unary op p)).bind pZ
 |none=>ah
def G8(P:aQ)(h:ae)(src dst:aE)(x:AV):Option (AV × ae):=
 match P.underlying src,P.underlying dst,x with
 |some .string,aa (.slice e),.v (.string s)=>
  match P.underlying e,P.info? e with
  |some (.int .u8),aa i=>if i.size=1 then aa (h.fresh 1 (s.data.toList.map nX)) else ah
  |_,_=>ah
 |some (.slice e),aa .string,x=>
  match P.underlying e,rowsOf h 1 x with
  |some (.int .u8),aa rows=>(bytesOf rows).map λl=>(.v (.string ⟨l.toArray⟩),h)
  |_,_=>ah
 |some (.slice e),aa (.slice _),.list (.free t) sz es=>
  match P.underlying e with
  |some (.int .u8)=>if src=dst/\alive h t=ab then aa (.list .held sz es,{h with dead:=t::h.dead}) else ah
  |_=>ah
 |some (.slice _),aa (.slice _),_=>ah
 |some _,aa _,.v x=>((fD P (convert src dst x)).bind pZ).map λz=>(z,h)
 |_,_,_=>ah
def E0(c a b:AV):Option AV:=
 match c with
 | .v (.bool t)=>aa (if t then a else b)
 |_=>ah
def Jm(x:AV):Option AV:=
 match x with
 | .ptr .. | .elem .. | .func (.func _) _ _| .yield _| .iface .. =>aa x
 |_=>ah
def sw(parts:Array (Nat × bI)):Bool:=
 match parts.toList with
 |(_,.const (.int .u8 _))::_::_=>ab
 |_=>ak
def cB(P:aQ)(G:Nat->Option (List AV))(ρ:bI->AV)(h:ae)(o:Op):Option (AV × ae):=
 match o with
 | .move x| .assign x=>aa (ρ x,h)
 | .pick c a b=>(E0 (ρ c) (ρ a) (ρ b)).map (·,h)
 | .alloc t=>((fa P t).bind AV.cF).map h.box
 | .box _ x=>((ρ x).cF).map h.box
 | .build t parts=>(gb P t (parts.toList.map λp=>(p.1,ρ p.2))).map (·,h)
 | .buildSlice t len parts=>
  match sw parts with
  |false=>(gl P t len (parts.toList.map λp=>(p.1,ρ p.2))).map (·,h)
  |true=>(match gl P t len (parts.toList.map λp=>(p.1,ρ p.2)) with|some (.list _ sz es)=>aa (h.fresh sz es)|_=>ah)
 | .load t a=>(dz P G h t (ρ a)).map (·,h)
 | .store t a x=>(dh P h t (ρ a) (ρ x)).map (.tuple [],·)
 | .nilCheck x=>(Jm (ρ x)).map (·,h)
 | .binOp op t x y _=>(jo P op t x y (ρ x) (ρ y)).map (·,h)
 | .unOp op _ x=>(CP P op (ρ x)).map (·,h)
 | .convert s d x=>G8 P h s d (ρ x)
 | .makeInterface t x=>if isIface P t=aa ak then aa (.iface t (ρ x),h) else ah
 | .makeFunc fn first az=>aa (.func fn (first.toList.map ρ) (az.toList.map ρ),h)
 | .makeSlice t l c=>zm P h t (ρ l) (ρ c)
 | .slice t x lo hi mx=>(qS P t (ρ x) (lo.map ρ) (hi.map ρ) (mx.map ρ)).map (·,h)
 | .fieldAddr s x f=>(cN P s (ρ x) f).map (·,h)
 | .field t x f=>
  match P.underlying t,ρ x with
  |some (.struct fields),.agg cs=>(match fields[f]? with|some fd=>(EZ P fd.type cs fd.offset).map (·,h)|none=>ah)
  |_,_=>ah
 | .indexAddr t x i=>(oN P t (ρ x) (ρ i)).map (·,h)
 | .index t x i=>(BH P t (ρ x) (ρ i)).map (·,h)
 | .typeAssert x _ asserted ok=>(nr P (ρ x) asserted ok).map (·,h)
 | .extract x i=>(match ρ x with| .tuple vs=>(vs[i]?).map (·,h)|_=>ah)
 |_=>ah
def iX(P:aQ)(h:ae)(b:Builtin)(ts:Array aE)(ty:aE)(args:List AV):Option (AV × ae):=
 match b,args with
 | .len,[x]=>(match ts[0]? with|some t=>(sY P t x).map (·,h)|none=>ah)
 | .cap,[x]=>(match ts[0]? with|some t=>(DB P t x).map (·,h)|none=>ah)
 | .append,[s,x]=>iM P h ts s x
 | .copy,[d,s]=>DE P h ts d s
 | .min,xs=>(match flatAll xs with|some l=>((fD P (Builtin.min_ ts ty l.toArray)).bind pZ).map (·,h)|none=>ah)
 | .max,xs=>(match flatAll xs with|some l=>((fD P (Builtin.max_ ts ty l.toArray)).bind pZ).map (·,h)|none=>ah)
 |_,_=>ah
def oE(P:aQ)(G:Nat->Option (List AV))(d:Option Tmp)(h:ae)(b:Builtin)(ts:Array aE)(ty:aE)(args:List AV):Option (AV × ae):=
 match b,args with
 | .append,[s,x]=>if Kp G d ty then CN P h ts s x else iM P h ts s x
 |b,args=>iX P h b ts ty args
structure Rec where
 code:Code->Env->ae->Option (Xt × Env × ae)
 call:bF->List AV->ae->Option (bw × ae)
 fS:bF->List AV->Option (AV × Bool)->ae->Option (bw × Option (AV × Bool) × ae)
 round:Nat->List AV->ae->Option (bw × ae)
def I6(P:aQ)(t:aE)(name:String):Option bF:=
 match P.info? t with
 |some i=>
  match i.methods.find? (·.name==name) with
  |some m=>
   match m.path.toList,m.func,P.underlying t with
   | [],aa (f,ab),aa (.pointer _)=>aa f
   | [],aa (_,_),aa (.pointer _)=>ah
   | [],aa (f,ak),aa _=>aa f
   |_,_,_=>ah
  |none=>ah
 |none=>ah
def mc(P:aQ)(R:Rec)(e:Env)(h:ae)(c:Call):Option (bw × ae):=
 let args:=c.args.toList.map e.eval
 match c.callee with
 | .builtin _=>ah
 | .value f=>
  match e.eval f with
  | .func (.func g) first az=>R.call g (first++args++az) h
  | .yield l=>R.round l args h
  |_=>ah
 | .invoke r name=>
  match e.eval r with
  | .iface t x=>(match I6 P t name with|some f=>R.call f (x::args) h|none=>ah)
  |_=>ah
def cA(P:aQ)(G:Nat->Option (List AV))(R:Rec)(e:Env)(h:ae)(o:Oper):Option (bw × Env × ae):=
 match o.op with
 | .call {callee:=.builtin .recover,.. }=>
  if e.round.isSome then ah else
  match e.aX with
  |some (x,ak)=>aa (.ret x,{e with aX:=aa (x,ab)},h)
  |_=>aa (.ret (.v .nilIface),e,h)
 | .call {callee:=.builtin .panic,args,.. }=>
  match args.toList.map e.eval with
  | [.iface t x]=>aa (.panic (.iface t x),e,h)
  |_=>ah
 | .call {callee:=.builtin b,args,argTypes}=>(oE P G o.dst h b argTypes o.type (args.toList.map e.eval)).map λ(x,h)=>(.ret x,e,h)
 | .call c=>(mc P R e h c).map λ(r,h)=>(r,e,h)
 | .defer {callee:=.value f,args,.. }=>
  if e.round.isSome then ah else
  match e.eval f with
  | .func (.func g) first az=>aa (.ret (.tuple []),{e with defers:=(g,first++args.toList.map e.eval++az)::e.defers},h)
  |_=>ah
 | .panic x=>
  match e.eval x with
  | .iface t x=>aa (.panic (.iface t x),e,h)
  |_=>ah
 |op=>(cB P G e.eval h op).map λ(x,h)=>(.ret x,e,h)
def cd(ops:Array Oper)(e:Env)(o:Oper):Option Bool:=
 match o.guard with
 |none=>aa ab
 |some (j,want)=>
  match (ops[j]?).bind (·.dst) with
  |none=>aa ak
  |some d=>
   match e.get d with
   | .v (.bool b)=>aa (b==want)
   | .tuple []=>aa ak
   |_=>ah
def aG(P:aQ)(G:Nat->Option (List AV))(R:Rec)(ops:Array Oper):List Nat->Env->ae->Option (Xt × Env × ae)
 | [],e,h=>aa (.normal,e,h)
 |i::rest,e,h=>
  match ops[i]? with
  |none=>ah
  |some o=>
   match cd ops e o with
   |none=>ah
   |some ak=>aG P G R ops rest (e.put o.dst (.tuple [])) h
   |some ab=>
    match cA P G R e h o with
    |some (.ret x,e,h)=>aG P G R ops rest (e.put o.dst x) h
    |some (.panic x,e,h)=>aa (.panic x,e,h)
    |none=>ah
inductive Class where
 |pure|reads|fp
 deriving DecidableEq,Inhabited
def gG:Op->Class
 | .move _| .assign _| .pick .. | .build .. | .nilCheck _| .binOp .. | .unOp .. | .makeInterface .. | .makeFunc .. | .slice .. | .fieldAddr .. | .field ..
 | .indexAddr .. | .index .. | .typeAssert .. | .extract .. =>.pure
 | .buildSlice _ _ parts=>if sw parts=ab then .fp else .pure
 | .load .. =>.reads
 | .call {callee:=.builtin .len,.. }=>.pure
 |_=>.fp
def ED(a b:Class):Bool:=
 match a,b with
 | .pure,_|_,.pure=>ab
 | .reads,.reads=>ab
 |_,_=>ak
def wW(ops:Array Oper)(b:Array Nat):Bool:=
 (bt ops.size).all λj=>
  match ops[j]? with
  |none=>ab
  |some o=>
   (o.after.all λe=> !Region.binds .any e||decide (e.on<j))&&
   (bt ops.size).all λi=> !(b.getD j 0).testBit i||o.after.any λe=>Region.binds .any e&&(ij e.on i||(b.getD e.on 0).testBit i)
def uE(ops:Array Oper)(i j:Nat):Bool:=
 match ops[i]?,ops[j]? with
 |some x,aa y=>ED (gG x.op) (gG y.op)&&x.apart ops y&&y.apart ops x
 |_,_=>ak
def yJ(ops:Array Oper):Bool:=
 let b:=Region.before ops
 wW ops b&&(bt ops.size).all λj=>(bt j).all λi=>(b.getD j 0).testBit i||uE ops i j
def kQ(ops:Array Oper)(i j:Nat):Bool:=
 match ops[i]?,ops[j]? with
 |some x,aa y=>x.apart ops y&&y.apart ops x
 |_,_=>ak
def lq(P:aQ)(G:Nat->Option (List AV))(R:Rec)(ops:Array Oper)(e:Env)(h:ae)(r m:Nat):Bool:=
 match ops[r]?,aG P G R ops (bt r) e h,aG P G R ops (bt m) e h with
 |some o,aa (.normal,er,hr),aa (.normal,_,hm)=>
  (match cd ops er o with
   |some ak=>ab
   |some ab=>
    (match o.op with
     | .load t a=>(match dz P G hr t (er.eval a),dz P G hm t (er.eval a) with|some x,aa y=>fN x y|_,_=>ak)
     |_=>ak)
   |none=>ak)
 |_,_,_=>ak
def hZ(P:aQ)(G:Nat->Option (List AV))(R:Rec)(ops:Array Oper)(e:Env)(h:ae)(i j:Nat):Bool:=
 kQ ops i j&&
 match (ops[i]?).map λo=>gG o.op,(ops[j]?).map λo=>gG o.op with
 |some .reads,aa .fp=>lq P G R ops e h i (j+1)
 |some .fp,aa .reads=>lq P G R ops e h j i
 |_,_=>ak
def w8:Op->Bool
 | .call {callee:=.builtin .recover,.. }=>ak
 | .call {callee:=.builtin .panic,.. }=>ak
 | .call _=>ab
 | .convert .. =>ab
 |_=>ak
def G2(P:aQ)(G:Nat->Option (List AV))(R:Rec)(ops:Array Oper)(e:Env)(h:ae)(k:Nat):Prop:=
 ∃o x er hr,ops[k]?=aa o/\w8 o.op=ab/\aG P G R ops (bt k) e h=aa (.normal,er,hr)/\
  ∀m,m<=ops.size->∃em hm,aG P G R ops (bt m) e h=aa (.normal,em,hm)/\cA P G R er hm o=aa (.ret x,er,hm)
noncomputable def jJ(P:aQ)(G:Nat->Option (List AV))(R:Rec)(ops:Array Oper)(e:Env)(h:ae)(k:Nat):Bool:=@decide (G2 P G R ops e h k) (Classical.propDecidable _)
noncomputable def gN(P:aQ)(G:Nat->Option (List AV))(R:Rec)(ops:Array Oper)(e:Env)(h:ae):Bool:=
 let b:=Region.before ops
 wW ops b&&(bt ops.size).all λj=>(bt j).all λi=>(b.getD j 0).testBit i||uE ops i j||hZ P G R ops e h i j||(kQ ops i j&&(jJ P G R ops e h i||jJ P G R ops e h j))
def oe(r:Option (Xt × Env × ae)):Bool:=
 match r with
 |some (.normal,_,_)=>ab
 |_=>ak
def j8(ops:Array Oper)(i:Nat):Array Oper:=⟨ops.toList.mapIdx λk o=>if k=i+1 then {o with after:=o.after.push {on:=i,ground:=.data}} else o⟩
def pk(ops:Array Oper)(k j:Nat):Bool:=
 match ops[k]? with
 |some o=>o.after.any λed=>Region.binds .any ed&&ij ed.on j
 |none=>ak
def Ez(ops:Array Oper)(d m:Nat):Bool:=
 match ops[m]? with
 |some o=>(match o.op with| .load _ x=>(match x with| .tmp t=> !Nat.beq t d|_=>ab)|_=>ak)&&(o.guard.isNone&&(match o.dst with|some q=> !Nat.beq q d|none=>ab))
 |none=>ak
def Ai(ops:Array Oper)(i:Nat):Bool:=
 (match ops[i]?,ops[i+1]? with
  |some o1,aa o2=>(match o1.op,o2.op with| .alloc _,.alloc _=>ab|_,_=>ak)&&(o1.guard.isNone&&(o2.guard.isNone&&
   (match o1.dst,o2.dst with
    |some d1,aa d2=> !Nat.beq d1 d2&&(!pk ops i (i+1)&&(bt ops.size).all λk=>ij k i||ij k (i+1)||pk ops (i+1) k||pk ops k i||(Ez ops d2 k&& !pk ops k (i+1)))
    |_,_=>ak)))
  |_,_=>ak)
def fq(ops:Array Oper)(i j:Nat):Array Oper:=⟨ops.toList.mapIdx λk o=>if k=j then {o with after:=o.after.push {on:=i,ground:=.data}} else o⟩
def uu(ops:Array Oper)(k:Nat):Bool:=
 match ops[k]? with
 |some o=>(match o.op with| .store _ _ _=>ab|_=>ak)&&(o.guard.isNone&&o.dst.isNone)
 |none=>ak
def Pj(ops:Array Oper)(k:Nat):Bool:=
 match ops[k]? with
 |some o=>decide (gG o.op=.pure)|none=>ak
def B4(ops:Array Oper)(i:Nat):Bool:=
 wW ops (Region.before ops)&&(decide (i+1<ops.size)&&(uu ops i&&(uu ops (ops.size - 1)&&(bt (ops.size - 1)).all λk=>ij k i||(((Region.before ops).getD (ops.size - 1) 0).testBit k||(Pj ops k&&kQ ops k (ops.size - 1))))))
def rP(ops:Array Oper)(k:Nat)(e:Env):Option Nat:=
 match ops[k]? with
 |some o=>(match o.op with| .store _ a _=>(match e.eval a with| .ptr (.box b) _=>aa b|_=>ah)|_=>ah)
 |none=>ah
def rL(P:aQ)(G:Nat->Option (List AV))(R:Rec)(ops:Array Oper)(e:Env)(h:ae)(i:Nat):Bool:=
 match aG P G R ops (bt i) e h,aG P G R ops (bt (ops.size - 1)) e h with
 |some (.normal,ei,_),aa (.normal,en,_)=>
  (match rP ops i ei,rP ops (ops.size - 1) en with
   |some a,aa b=> !Nat.beq a b
   |_,_=>ak)
 |_,_=>ak
noncomputable def Kg(P:aQ)(G:Nat->Option (List AV))(R:Rec)(ops:Array Oper)(e:Env)(h:ae):Bool:=(bt ops.size).any λi=>B4 ops i&&(rL P G R ops e h i&&gN P G R (fq ops i (ops.size - 1)) e h)
noncomputable def rV(P:aQ)(G:Nat->Option (List AV))(R:Rec)(ops:Array Oper)(e:Env)(h:ae):Bool:=((bt ops.size).any λi=>Ai ops i&&gN P G R (j8 ops i) e h)||Kg P G R ops e h
def quiet(o:Oper):Oper:={o with dst:=ah,op:=.move (.const (.bool ab)),guard:=ah}
def sS:List Oper->List Oper
 | []=>[]
 | [o]=>[quiet o]
 |o::p::r=>o::sS (p::r)
def eg(ops:Array Oper):Array Oper:=⟨sS ops.toList⟩
def pP(ops:Array Oper):Bool:=
 let b:=Region.before (eg ops)
 (bt (ops.size - 1)).all λi=>(b.getD (ops.size - 1) 0).testBit i&&
  match ops[i]? with
  |some o=>(match o.guard with|some (j,_)=> !Nat.beq j (ops.size - 1)|none=>ab)
  |none=>ab
def BI(r:Option (Xt × Env × ae)):Bool:=
 match r with
 |some (.panic _,_,_)=>ab
 |_=>ak
def gv(ops:Array Oper)(k i:Nat):Bool:=ij i k||((Region.before ops).getD i 0).testBit k
def cut(ops:Array Oper)(k:Nat):Array Oper:=⟨ops.toList.mapIdx λi o=>if gv ops k i=ab then quiet o else o⟩
def Dz(ops:Array Oper)(i:Nat):Bool:=
 match ops[i]? with
 |some o=>decide (gG o.op≠ .fp)|none=>ab
def rj(ops:Array Oper)(k i:Nat):Bool:=
 match ops[i]? with
 |some o=>(match o.guard with|some (j,_)=> !gv ops k j|none=>ab)
 |none=>ab
def sx(ops:Array Oper)(k:Nat):Bool:=
 let b:=Region.before (cut ops k)
 decide (k+1<ops.size)&&(bt ops.size).all λi=>
  ij i k||
  (!gv ops k i&&rj ops k i&&((decide (i<k)&&(b.getD k 0).testBit i)||(Dz ops i&&(kQ ops i k&&kQ ops k i))))||
  (decide (k<i)&&(gv ops k i&&(b.getD i 0).testBit k))
def AP(ops:Array Oper)(k i:Nat):Option Tmp:=
 if (gv ops k i||((Region.before (cut ops k)).getD k 0).testBit i)=ab then ah else (ops[i]?).bind (·.dst)
def AO(f:Nat->Option Tmp):List Nat->kO->kO
 | [],s=>s
 |i::r,s=>AO f r (match f i with|some t=>s.set t .bad|none=>s)
def qm(ops:Array Oper)(k:Nat)(e:Env):Env:={e with tmps:=AO (AP ops k) (bt ops.size) e.tmps}
noncomputable def iU(P:aQ)(G:Nat->Option (List AV))(R:Rec)(ops:Array Oper)(e:Env)(h:ae)(k:Nat):Bool:=
 sx ops k&&(gN P G R (cut ops k) e h&&(oe (aG P G R (cut ops k) (bt (cut ops k).size) e h)&&(oe (aG P G R ops (bt k) e h)&&BI (aG P G R ops (bt (k+1)) e h))))
noncomputable def oO(P:aQ)(G:Nat->Option (List AV))(R:Rec)(ops:Array Oper)(e:Env)(h:ae):Option (Xt × Env × ae):=
 match (bt ops.size).find? (iU P G R ops e h) with
 |some k=>
  (match aG P G R ops (bt (k+1)) e h with
   |some (.panic x,e1,h1)=>aa (.panic x,qm ops k e1,h1)
   |_=>ah)
 |none=>ah
def zY(params:List Tmp)(args:List AV)(tmps:kO):kO:=(params.zip args).foldl (λts p=>ts.set p.1 p.2) tmps
section
variable (P:aQ) (G:Nat->Option (List AV)) (R:Rec)
noncomputable def dB:Code->Env->ae->Option (Xt × Env × ae)
 | .skip,e,h| .label _,e,h=>aa (.normal,e,h)
 | .region _ ops draw,e,h=>
  if draw then
   if gN P G R ops e h then
    match aG P G R ops (bt ops.size) e h with
    |some (.normal,e,h)=>aa (.normal,e,h)
    |some (.panic x,e1,h1)=>
     if pP ops&&(gN P G R (eg ops) e h&&oe (aG P G R (eg ops) (bt (eg ops).size) e h)) then aa (.panic x,e1,h1) else oO P G R ops e h
    |_=>ah
   else if rV P G R ops e h then
    match aG P G R ops (bt ops.size) e h with
    |some (.normal,e,h)=>aa (.normal,e,h)
    |_=>oO P G R ops e h
   else oO P G R ops e h
  else aG P G R ops (bt ops.size) e h
 | .seq a b,e,h=>
  match R.code a e h with
  |some (.normal,e,h)=>R.code b e h
  |r=>r
 | .cond c a b,e,h=>
  match e.eval c with
  | .v (.bool ab)=>R.code a e h
  | .v (.bool ak)=>R.code b e h
  |_=>ah
 | .block id c,e,h=>
  match R.code c e h with
  |some (.exit id',e,h)=>if id'=id then aa (.normal,e,h) else aa (.exit id',e,h)
  |r=>r
 | .loop c,e,h=>
  match R.code c e h with
  |some (.normal,e,h)=>R.code (.loop c) e h
  |r=>r
 | .scope c,e,h=>R.code c e h
 | .exit id,e,h=>aa (.exit id,e,h)
 | .ret,e,h=>aa (.ret,e,h)
 | .rangeFunc f params assign body,e,h=>
  match e.eval f with
  | .func (.func g) first az=>
   match R.call g (first++[.yield h.loops.length]++az)
    {h with loops:=h.loops++[{tmps:=e.tmps,params,assign,body,state:=.ready,pending:=ah}]} with
   |some (.ret _,h')=>
    match h'.loops[h.loops.length]? with
    |some r=>
     if r.state=.busy then ah else
     match r.pending with
     |none=>aa (.normal,e,{h' with loops:=h'.loops.set h.loops.length {r with state:=.exhausted}})
     |some .ret=>aa (.ret,e,{h' with loops:=h'.loops.set h.loops.length {r with state:=.exhausted}})
     |some (.exit id)=>aa (.exit id,e,{h' with loops:=h'.loops.set h.loops.length {r with state:=.exhausted}})
     |_=>ah
    |none=>ah
   |some (.panic x,h')=>aa (.panic x,e,h')
   |none=>ah
  |_=>ah
 |_,_,_=>ah
def rQ(e:Env)(h:ae):List ResultVar->Option (List AV)
 | []=>aa []
 | .tmp t::r=>(rQ e h r).map (e.get t::·)
 | .cell a t::r=>
  match dz P G h t (e.get a),rQ e h r with
  |some x,aa l=>aa (x::l)
  |_,_=>ah
def Ck(fn:Func)(e:Env)(h:ae):Option AV:=
 match rQ P G e h fn.results.toList with
 |some [x]=>aa x
 |some l=>aa (.tuple l)
 |none=>ah
def eZ(fn:Func)(e:Env):List (bF × List AV)->Option (AV × Bool)->ae->Option (bw × ae)
 | [],ah,h=>(Ck P G fn e h).map λx=>(.ret x,h)
 | [],aa (x,_),h=>aa (.panic x,h)
 |(g,args)::ds,m,h=>
  match R.fS g args m h with
  |some (.ret _,aa (_,ab),h)=>eZ fn e ds ah h
  |some (.ret _,m,h)=>eZ fn e ds m h
  |_=>ah
def oB(g:bF)(args:List AV)(m:Option (AV × Bool))(h:ae):Option (bw × Option (AV × Bool) × ae):=
 match P.funcs[g]? with
 |none=>ah
 |some fn=>
  match fn.body with
  |none=>ah
  |some body=>
   match R.code body {tmps:={ch:=[],base:=args},defers:=[],aX:=m,round:=ah} h with
   |some (.normal,e,h)|some (.ret,e,h)=>(eZ P G R fn e e.defers ah h).map λ(r,h)=>(r,e.aX,h)
   |some (.panic x,e,h)=>(eZ P G R fn e e.defers (aa (x,ak)) h).map λ(r,h)=>(r,e.aX,h)
   |_=>ah
def ri(aD:bF->Option (List AV->ae->Option (AV × ae)))(g:bF)(args:List AV)(h:ae):Option (bw × ae):=
 match aD g with
 |some p=>(p args h).map λ(x,h)=>(.ret x,h)
 |none=>(oB P G R g args ah h).map λ(r,_,h)=>(r,h)
def rR(l:Nat)(args:List AV)(h:ae):Option (bw × ae):=
 match h.loops[l]? with
 |none=>ah
 |some r=>
  if r.params.size=args.length then
   match R.code r.assign {tmps:=zY r.params.toList args r.tmps,defers:=[],aX:=ah,round:=aa l} h with
   |some (.normal,e,h)=>
    match h.loops[l]? with
    |some r2=>
     if r2.state=.ready then
      match R.code r.body e {h with loops:=h.loops.set l {r2 with state:=.busy}} with
      |some (.normal,_,h)=>(h.loops[l]?).map λr=>(.ret (.v (.bool ab)),{h with loops:=h.loops.set l {r with state:=.ready,pending:=ah}})
      |some (.ret,_,h)=>(h.loops[l]?).map λr=>(.ret (.v (.bool ak)),{h with loops:=h.loops.set l {r with state:=.done,pending:=aa .ret}})
      |some (.exit id,_,h)=>(h.loops[l]?).map λr=>(.ret (.v (.bool ak)),{h with loops:=h.loops.set l {r with state:=.done,pending:=aa (.exit id)}})
      |some (.panic x,_,h)=>aa (.panic x,h)
      |none=>ah
     else ah
    |none=>ah
   |_=>ah
  else ah
end
noncomputable def fk(P:aQ)(G:Nat->Option (List AV))(aD:bF->Option (List AV->ae->Option (AV × ae)))(n:Nat):Rec:=
 Nat.rec (motive:=λ_=>Rec) {code:=λ_ _ _=>ah,call:=λ_ _ _=>ah,fS:=λ_ _ _ _=>ah,round:=λ_ _ _=>ah}
  (λ_ R=>{code:=dB P G R,call:=ri P G R aD,fS:=oB P G R,round:=rR R}) n
end Go.AE
end
section
namespace Go.AE
open Go.RowKit (Below)
def B7{α}{P}:∀{e:Sem α} {a:α},fD P e=aa a->∀w,e.run P w=.ok a w:=by
 intro e
 induction e with
 |pure a=>intro b h w;simp[fD] at h;subst h;rfl|program k ih=>intro b h w;simp only[fD] at h;simp only[Sem.run];exact ih _ h w|mark m k ih=>intro b h w;simp only[fD] at h;simp only[Sem.run];exact ih h w|_=>intro b h;simp[fD] at h
structure aH where
 base:Nat
 ic:Nat->Nat->Option aC
 β:List Nat
 γ:List Nat
 tn:Nat
 tk:Nat->Nat × Nat × Nat
 md:List Nat
 lb:Nat->Option (Nat × Nat × Nat)
structure aH.Le(K K':aH):Prop where
 base:K'.base=K.base
 ic:∀g j c,K.ic g j=aa c->K'.ic g j=aa c
 β:∀b g:Nat,K.β[b]?=aa g->K'.β[b]?=aa g
 γ:∀l g:Nat,K.γ[l]?=aa g->K'.γ[l]?=aa g
 tn:K.tn<=K'.tn
 tk:∀t,t<K.tn->K'.tk t=K.tk t
 md:∀r∈K.md,r∈K'.md
 lb:∀b,b<K.β.length->K'.lb b=K.lb b
 new:∀g j c,K'.ic g j=aa c->K.ic g j=aa c∨K.base<=g
def aH.Le.refl(K:aH):K.Le K:=⟨rfl,λ_ _ _ h=>h,λ_ _ h=>h,λ_ _ h=>h,aK _,λ_ _=>rfl,λ_ h=>h,λ_ _=>rfl,λ_ _ _ h=>.inl h⟩
def aH.Le.len{K K':aH}(h:K.Le K'){b}(hb:b<K.β.length):b<K'.β.length:=(aF.1 (h.β b _ (cv hb))).1
def aH.Le.trans{A B C:aH}(h:A.Le B)(k:B.Le C):A.Le C:=
 ⟨k.base.trans h.base,λg j c hc=>k.ic g j c (h.ic g j c hc),λb g hb=>k.β b g (h.β b g hb),λb g hb=>k.γ b g (h.γ b g hb),cY h.tn k.tn,
  λt ht=>(k.tk t (lY ht h.tn)).trans (h.tk t ht),λr hr=>k.md r (h.md r hr),λb hb=>(k.lb b (h.len hb)).trans (h.lb b hb),λg j c hc=>(k.new g j c hc).elim (h.new g j c) λq=>.inr (by rw[<-h.base];exact q)⟩
def sj(K:aH)(k:Tok)(g off sz n az:Nat):Prop:=
 n<=az/\match k with
  | .nil=>False
  | .tight=>az=n
  | .free t=>t<K.tn/\(K.tk t).1=g/\(K.tk t).2.1=off+n * sz/\off+az * sz<=(K.tk t).2.2
  | .held=>True
def sj.mono{K K'}(h:K.Le K'){k}{g off sz n az}(ht:sj K k g off sz n az):sj K' k g off sz n az:=by
 refine⟨ht.1,?_⟩;have h2:=ht.2;cases k with|free t=>simp only at h2 ⊢;rw[h.tk t h2.1];exact⟨lY h2.1 h.tn,h2.2⟩|_=>exact h2
mutual
inductive aI (K:aH):AV->aC->Prop
 |bad (c:aC):aI K .bad c
 |v (x:aC) (h:scalar x=ab):aI K (.v x) x
 |nil (sz:Nat):aI K (.list .nil sz []) (.slice ah 0 0)
 |jV (sz:Nat) (a:Addr):aI K (.list .tight sz []) (.slice (aa a) 0 0)
 |list (k:Tok) (sz:Nat) (es:List (List AV)) (g off n az:Nat) (cells:List aC) (hn:n=es.length) (hr:∀r∈es,r.length=sz)
  (hv:aM K es.flatten cells) (hc:∀j c,cells[j]?=aa c->K.ic g (off+j)=aa c) (ht:sj K k g off sz n az)
  (ha:es.flatten.all AV.eM=ab):aI K (.list k sz es) (.slice (aa ⟨g,off,ah⟩) n az)
 |arr (b g off len az fy ir:Nat) (hb:K.β[b]?=aa g) (hl:len<=az) (hc:az<=ir) (ho:fy=off∨az=0)
  (hr:ir=az∨az=0∨off≠0∨∃sz room,K.lb b=aa (az,sz,room)/\0<sz/\ir * sz<=room):aI K (.arr b off len az) (.slice (aa ⟨g,fy,ah⟩) len ir)
 |agg (cs:List AV) (vs:Array aC) (h:aM K cs vs.toList):aI K (.agg cs) (.agg vs)
 |tuple (cs:List AV) (vs:Array aC) (h:aM K cs vs.toList):aI K (.tuple cs) (.tuple vs)
 |box (b g off:Nat) (hb:K.β[b]?=aa g):aI K (.ptr (.box b) off) (.pointer (aa ⟨g,off,ah⟩))
 |dj (g off:Nat):aI K (.ptr (.dj g) off) (.pointer (aa ⟨g,off,ah⟩))
 |elem (sz:Nat) (es:List (List AV)) (i off g o p:Nat) (cells:List aC) (hr:∀r∈es,r.length=sz) (hv:aM K es.flatten cells)
  (hc:∀j c,cells[j]?=aa c->K.ic g (o+j)=aa c) (hi:i<es.length) (hp:p=o+i * sz+off)
  (ha:es.flatten.all AV.eM=ab):aI K (.elem sz es i off) (.pointer (aa ⟨g,p,ah⟩))
 |func (fn:Fn) (first az:List AV) (fs cs:Array aC) (h1:aM K first fs.toList) (h2:aM K az cs.toList):aI K (.func fn first az) (.func fn fs cs)
 |yield (l g:Nat) (h:K.γ[l]?=aa g):aI K (.yield l) (.func (.yield g) #[] #[])
 |iface (t:aE) (x:AV) (c:aC) (h:aI K x c):aI K (.iface t x) (.iface t c)
inductive aM (K:aH):List AV->List aC->Prop
 |nil:aM K [] []
 |cons (x:AV) (c:aC) (xs:List AV) (cs:List aC) (h:aI K x c) (hs:aM K xs cs):aM K (x::xs) (c::cs)
end
mutual
def aI.mono{K K':aH}(h:K.Le K'):∀{x:AV} {c:aC},aI K x c->aI K' x c
 |_,_,.bad c=>.bad c
 |_,_,.v x hx=>.v x hx
 |_,_,.nil sz=>.nil sz
 |_,_,.jV sz a=>.jV sz a
 |_,_,.list k sz es g off n az cells hn hr hv hc ht ha=>.list k sz es g off n az cells hn hr (aM.mono h hv) (λj c hj=>h.ic _ _ _ (hc j c hj)) (ht.mono h) ha
 |_,_,.arr b g off len az fy ir hb hl hc ho hr=>.arr b g off len az fy ir (h.β _ _ hb) hl hc ho (by rw[h.lb b (aF.1 hb).1];exact hr)
 |_,_,.agg cs vs hv=>.agg cs vs (aM.mono h hv)
 |_,_,.tuple cs vs hv=>.tuple cs vs (aM.mono h hv)
 |_,_,.box b g off hb=>.box b g off (h.β _ _ hb)
 |_,_,.dj g off=>.dj g off
 |_,_,.elem sz es i off g o p cells hr hv hc hi hp ha=>.elem sz es i off g o p cells hr (aM.mono h hv) (λj c hj=>h.ic _ _ _ (hc j c hj)) hi hp ha
 |_,_,.func fn first az fs cs h1 h2=>.func fn first az fs cs (aM.mono h h1) (aM.mono h h2)
 |_,_,.yield l g hl=>.yield l g (h.γ _ _ hl)
 |_,_,.iface t x c hx=>.iface t x c (aI.mono h hx)
def aM.mono{K K':aH}(h:K.Le K'):∀{xs:List AV} {cs:List aC},aM K xs cs->aM K' xs cs
 |_,_,.nil=>.nil
 |_,_,.cons x c xs cs hx hs=>.cons x c xs cs (aI.mono h hx) (aM.mono h hs)
end
def ze:aC->Bool
 | .agg _| .tuple _=>ak
 |_=>ab
section
variable {K:aH}
def aM.length{xs:List AV}{cs:List aC}(h:aM K xs cs):xs.length=cs.length:=by
 induction xs generalizing cs with
 |nil=>cases h;rfl
 |cons x xs ih=>cases h with|cons _ _ _ _ _ hs=>simp[ih hs]
def aM.get{xs:List AV}{cs:List aC}(h:aM K xs cs):∀{i:Nat} {x:AV},xs[i]?=aa x->∃c,cs[i]?=aa c/\aI K x c:=by
 induction xs generalizing cs with
 |nil=>intro i x hx;simp at hx|cons y xs ih=>
  cases h with
  |cons _ c _ cs hy hs=>
   intro i x hx;cases i with|zero=>simp at hx;subst hx;exact⟨c,rfl,hy⟩|succ i=>exact ih hs (by simpa using hx)
def aM.get'{xs:List AV}{cs:List aC}(h:aM K xs cs):∀{i:Nat} {c:aC},cs[i]?=aa c->∃x,xs[i]?=aa x/\aI K x c:=by
 induction xs generalizing cs with
 |nil=>cases h;intro i x hx;simp at hx
 |cons y xs ih=>
  cases h with
  |cons _ c _ cs hy hs=>
   intro i x hx;cases i with|zero=>simp at hx;subst hx;exact⟨y,rfl,hy⟩|succ i=>exact ih hs (by simpa using hx)
def aM.of{xs:List AV}{cs:List aC}(hl:xs.length=cs.length)(h:∀(i:Nat) (x:AV) (c:aC),xs[i]?=aa x->cs[i]?=aa c->aI K x c):aM K xs cs:=by
 induction xs generalizing cs with
 |nil=>cases cs with|nil=>exact .nil|cons _ _=>simp at hl
 |cons y xs ih=>
  cases cs with|nil=>simp at hl|cons c cs=>exact .cons _ _ _ _ (h 0 y c rfl rfl) (ih (by simpa using hl) λi x c hx hc=>h (i+1) x c (by simpa using hx) (by simpa using hc))
def aM.append{xs ys:List AV}{cs ds:List aC}(h:aM K xs cs)(k:aM K ys ds):aM K (xs++ys) (cs++ds):=by
 induction xs generalizing cs with
 |nil=>cases h;exact k
 |cons y xs ih=>cases h with|cons _ _ _ _ hy hs=>exact .cons _ _ _ _ hy (ih hs)
def aM.take{xs:List AV}{cs:List aC}(h:aM K xs cs)(n:Nat):aM K (xs.take n) (cs.take n):=by
 refine .of (by simp[h.length]) λi x c hx hc=>?_;simp only[nU] at hx hc;split at hx
 ·rename_i hi;rw[aB hi] at hc;obtain⟨c',fh,hr⟩:=h.get hx;rw[hc] at fh;injection fh with e;subst e;exact hr
 ·cases hx
def aM.drop{xs:List AV}{cs:List aC}(h:aM K xs cs)(n:Nat):aM K (xs.drop n) (cs.drop n):=by refine .of (by simp[h.length]) λi x c hx hc=>?_;simp only[yu] at hx hc;obtain⟨c',fh,hr⟩:=h.get hx;rw[hc] at fh;injection fh with e;subst e;exact hr
def aM.set{xs:List AV}{cs:List aC}(h:aM K xs cs)(i:Nat){x:AV}{c:aC}(hx:aI K x c):aM K (xs.set i x) (cs.set i c):=by
 refine .of (by simp[h.length]) λj y d hy hd=>?_;simp only[tG] at hy hd;split at hy
 ·rename_i e;subst e;rw[aB rfl] at hd;split at hy
  ·rename_i ay;rw[aB (h.length ▸ ay)] at hd;injection hy with hy;injection hd with hd;subst hy;subst hd;exact hx
  ·cases hy
 ·rename_i e;rw[ax e] at hd;obtain⟨c',fh,hr⟩:=h.get hy;rw[hd] at fh;injection fh with e;subst e;exact hr
def aM.map_mk{α:Type}{l:List α}{f:α->AV}{f':α->aC}(h:∀a∈l,aI K (f a) (f' a)):aM K (l.map f) (l.map f'):=by
 induction l with
 |nil=>exact .nil|cons a l ih=>exact .cons _ _ _ _ (h a bh) (ih λb hb=>h b (by simp[hb]))
def aI.dF{x:aC}{c:aC}(h:aI K (.v x) c):c=x/\scalar x=ab:=by cases h with|v _ h=>exact⟨rfl,h⟩
def Hp:∀{cs:List AV} {l:List aC},xh cs=aa l->∀{vs:List aC},aM K cs vs->vs=l
 | [],l,h,_,hv=>by cases hv;simp[xh] at h;exact h.symm ▸ rfl
 | .v x::r,l,h,_,hv=>by
  cases hv with|cons _ c _ cs hx hs=>simp only[xh,cn] at h;obtain⟨l',kv,rfl⟩:=h;rw[(aI.dF hx).1,Hp kv hs]
 | .bad::_,_,h,_,_| .list .. ::_,_,h,_,_| .arr .. ::_,_,h,_,_| .agg _::_,_,h,_,_| .tuple _::_,_,h,_,_| .ptr .. ::_,_,h,_,_
 | .elem .. ::_,_,h,_,_| .func .. ::_,_,h,_,_| .yield _::_,_,h,_,_| .iface .. ::_,_,h,_,_=>by simp[xh] at h
def DY{x:AV}{p:Value}(h:x.flat=some p){c:Value}(hv:aI K x c):c=p:=by
 unfold AV.flat at h;split at h
 ·injection h with h;subst h;exact(aI.dF hv).1
 ·simp only[cn] at h;obtain⟨l,hl,rfl⟩:=h;cases hv with|agg _ vs hs=>rw[<-Hp hl hs]
 ·injection h with h;subst h;cases hv with|iface _ _ _ hx=>rw[(aI.dF hx).1]
 ·simp only[cn] at h;obtain⟨l,hl,rfl⟩:=h;cases hv with|iface _ _ _ hx=>cases hx with|agg _ vs hs=>rw[<-Hp hl hs]
 ·injection h with h;subst h;cases hv with|nil=>rfl|list _ _ _ _ _ _ _ _ _ _ _ _ ht _=>exact ht.2.elim
 ·cases h
def Ho:∀{xs:List AV} {l:List aC},flatAll xs=aa l->∀{vs:List aC},aM K xs vs->vs=l
 | [],l,h,_,hv=>by cases hv;simp[flatAll] at h;exact h.symm ▸ rfl
 |x::r,l,h,_,hv=>by
  cases hv with
  |cons _ c _ cs hx hs=>
   simp only[flatAll] at h;split at h
   ·rename_i v l' h1 h2;injection h with h;subst h;rw[DY h1 hx,Ho h2 hs]
   ·cases h
def CC{z:aC}{x:AV}(h:pZ z=aa x):aI K x z:=by
 unfold pZ at h;split at h
 ·injection h with h;subst h;exact .v _ ‹_›
 ·cases h
def Jo(x:aC):aI K (xU x) x:=by
 unfold xU;split
 ·exact .nil 0
 ·split
  ·exact .v _ ‹_›
  ·exact .bad _
def EP(x:aC):aI K (nK x) x:=by
 unfold nK;split
 ·rename_i cs;refine .agg _ _ ?_;have:aM K (cs.toList.map xU) (cs.toList.map id):=aM.map_mk λa _=>Jo a;simpa using this
 ·split
  ·rename_i vs h;have:vs=#[]:=(by simpa using h);subst this;exact .tuple _ _ .nil
  ·exact .bad _
 ·exact .iface _ _ _ (Jo _)
 ·exact Jo _
def DD{x:AV}{cs:List AV}(h:x.cF=aa cs){c:aC}(hv:aI K x c):aM K cs c.cells.toList/\cs.all AV.eM=ab:=by
 unfold AV.cF at h;split at h
 ·split at h
  ·rename_i ha;injection h with h;subst h;cases hv with|agg _ vs hs=>exact⟨hs,ha⟩
  ·cases h
 ·cases h
 ·cases h
 ·rename_i h1 h2 h3;injection h with h;subst h;have lF:x.eM=ab:=by cases x<;>first|rfl|exact absurd rfl (h1 _)|exact absurd rfl (h2 _)|exact absurd rfl h3
  refine⟨?_,by simp[lF]⟩;have:c.cells=#[c]:=by cases hv<;>first|rfl|exact absurd rfl (h1 _)|exact absurd rfl (h2 _)|exact absurd rfl h3|(cases c<;>first|rfl|simp[scalar] at *)
  rw[this];exact .cons _ _ _ _ hv .nil
def ZI{c}(h:scalar c=ab):ze c=ab:=by cases c<;>first|rfl|simp[scalar] at h
def ZH{x:AV}(h:x.eM=ab){c:aC}(hv:aI K x c):ze c=ab:=by cases hv<;>first|rfl|exact ZI ‹_›|(simp[AV.eM] at h;done)
end
def uW(K:aH)(b:Nat)(cs:List AV)(cells:Array aC):Prop:=
 aM K cs (cells.toList.take cs.length)/\∀N sz room,K.lb b=aa (N,sz,room)->cs=[]∨(cs.length=N * sz/\room<=cells.size)
def uW.mono{K K'}(h:K.Le K'){b}(hb:b<K.β.length){cs}{cells}(r:uW K b cs cells):uW K' b cs cells:=
 ⟨r.1.mono h,by rw[h.lb b hb];exact r.2⟩
def uW.nil{K}{b}{cells}:uW K b [] cells:=⟨.nil,λ_ _ _ _=>.inl rfl⟩
def uW.le{K}{b}{cs}{cells}(r:uW K b cs cells):cs.length<=cells.size:=by have:=r.1.length;rw[ng] at this;simp only[tC] at this;omega
def jl(K:aH)(s:kO)(tmps:Array aC):Prop:=∀t,aI K (s.get t) (tmps.getD t undef)
def jl.mono{K K'}(h:K.Le K'){s}{tmps}(hs:jl K s tmps):jl K' s tmps:=λt=>(hs t).mono h
structure bg(K:aH)(G:Nat->Option (List AV))(ok:bF->Nat->Code->Bool)(w0:aT)(h:ae)(w:aT):Prop where
 cr:Below K.base w0 w
 size:K.base<=w.heap.size
 ic:∀g j c,K.ic g j=aa c->w.cell? ⟨g,j,ah⟩=aa c
 dj:∀g cs,G g=aa cs->∃cells,aM K cs cells/\∀(j:Nat) (c:aC),cells[j]?=aa c->K.ic g j=aa c
 ga:K.β.length=h.boxes.length
 mF:∀(b b' g:Nat),K.β[b]?=aa g->K.β[b']?=aa g->b=b'∨h.boxes[b]?=aa []∨h.boxes[b']?=aa []
 box:∀(b g:Nat) (cs:List AV),K.β[b]?=aa g->h.boxes[b]?=aa cs->
  K.base<=g/\(∀j,K.ic g j=ah)/\cs.all AV.eM=ab/\∃cells e,w.heap[g]?=aa (.cells cells e (0,0))/\uW K b cs cells
 j4:K.γ.length=h.loops.length
 na:∀(b b' g:Nat),K.γ[b]?=aa g->K.γ[b']?=aa g->b=b'
 loop:∀(l g:Nat) (r:ff),K.γ[l]?=aa g->h.loops[l]?=aa r->K.base<=g/\∃fn tmps d,
  w.heap[g]?=aa (.loop {state:=r.state,pending:=r.pending,fn,tmps,params:=r.params,assign:=r.assign,body:=r.body,defers:=d})/\
  jl K r.tmps tmps/\ok fn tmps.size r.assign=ab/\ok fn tmps.size r.body=ab/\∀p∈r.params.toList,p<tmps.size
 tn:K.tn=h.tn
 tok:∀t,alive h t=ab->K.base<=(K.tk t).1/\(∀b:Nat,K.β[b]?≠aa (K.tk t).1)/\(∀j,(K.tk t).2.1<=j->K.ic (K.tk t).1 j=ah)/\
  ∃cells e fz,w.heap[(K.tk t).1]?=aa (.cells cells e fz)/\cells.size=(K.tk t).2.2/\
   ∀j,(K.tk t).2.1<=j->j<cells.size->w.frozen? ⟨(K.tk t).1,j,ah⟩=ak
 mD:∀t t',alive h t=ab->alive h t'=ab->(K.tk t).1=(K.tk t').1->t=t'
 md:∀r∈K.md,K.base<=r/\w.heap[r]?=aa (.deferred (aa []))
 all:K.base=w0.heap.size
def Addr.im(g o n):(⟨g,o,ah⟩:Addr).add n=⟨g,o+n,ah⟩:=by
 unfold Addr.add;split
 ·subst_vars;rfl
 ·rfl
def AD{h}{t}(ha:alive h t=ab):t<h.tn:=by unfold alive at ha;simp at ha;exact ha.1
section
variable {K:aH} {G:Nat->Option (List AV)} {ok:bF->Nat->Code->Bool} {w0 w:aT} {h:ae}
def bg.lt_of_cell(s:bg K G ok w0 h w){g j:Nat}{c:aC}(hc:K.ic g j=aa c):g<w.heap.size:=by
 have:=s.ic g j c hc;unfold World.cell? at this;rcases dp g w.heap.size with ay|dy
 ·exact ay
 ·simp[tB dy] at this
def bg.same{w':aT}(s:bg K G ok w0 h w)(hh:w'.heap=w.heap)(ht:w'.tape=w.tape)(ho:w'.os=w.os)(hp:w'.output=w.output):bg K G ok w0 h w':=by
 have hc:∀a,w'.cell? a=w.cell? a:=λa=>by simp[World.cell?,hh]
 have hf:∀a,w'.frozen? a=w.frozen? a:=λa=>by simp[World.frozen?,hh]
 refine⟨⟨ho.trans s.cr.os,ht.trans s.cr.tape,hp.trans s.cr.output,by rw[hh];exact s.cr.size,λk hk=>by rw[hh];exact s.cr.block k hk⟩,by rw[hh];exact s.size,
  λg j c hg=>(hc _).trans (s.ic g j c hg),s.dj,s.ga,s.mF,λb g cs hb hc=>by rw[hh];exact s.box b g cs hb hc,s.j4,s.na,
  λl g r hl hr=>by rw[hh];exact s.loop l g r hl hr,s.tn,λt ht=>?_,s.mD,λr hr=>by rw[hh];exact s.md r hr,s.all⟩
 obtain⟨h1,h2,h3,cells,e,fz,h4,h5,h6⟩:=s.tok t ht;exact⟨h1,h2,h3,cells,e,fz,by rw[hh];exact h4,h5,λj hj hl=>(hf _).trans (h6 j hj hl)⟩
def bg.drew(s:bg K G ok w0 h w)(n:Nat):bg K G ok w0 h {w with drawn:=n}:=s.same rfl rfl rfl rfl
def xo(w:aT)(o){k}(hk:k<w.heap.size):(w.heap.push o)[k]?=w.heap[k]?:=by rw[Array.getElem?_push,ax aj]
def lt_of_heap{w:aT}{g}{o}(h:w.heap[g]?=aa o):g<w.heap.size:=by
 rcases dp g w.heap.size with ay|dy
 ·exact ay
 ·rw[tB dy] at h;cases h
def bg.push(s:bg K G ok w0 h w)(o:Obj):bg K G ok w0 h {w with heap:=w.heap.push o}:=by
 have hk:∀{k:Nat} {o':Obj},w.heap[k]?=aa o'->(w.heap.push o)[k]?=aa o':=λhk=>(xo w o (lt_of_heap hk)).trans hk;refine⟨⟨s.cr.os,s.cr.tape,s.cr.output,by have:=s.cr.size;simp;omega,λk hk=>(xo w o (lY hk s.size)).trans (s.cr.block k hk)⟩,by have:=s.size;simp;omega,
  λg j c hg=>?_,s.dj,s.ga,s.mF,λb g cs hb hc=>?_,s.j4,s.na,λl g r hl hr=>?_,s.tn,λt ht=>?_,s.mD,λr hr=>?_,s.all⟩
 ·rw[<-s.ic g j c hg];exact World.cell?_of_block (w:=w) (xo w o (s.lt_of_cell hg))
 ·obtain⟨h1,h2,ha,cells,e,h3,h4⟩:=s.box b g cs hb hc;exact⟨h1,h2,ha,cells,e,hk h3,h4⟩
 ·obtain⟨h1,fn,tmps,d,h2,h3⟩:=s.loop l g r hl hr;exact⟨h1,fn,tmps,d,hk h2,h3⟩
 ·obtain⟨h1,h2,h3,cells,e,fz,h4,h5,h6⟩:=s.tok t ht;refine⟨h1,h2,h3,cells,e,fz,hk h4,h5,λj hj hl=>?_⟩;rw[<-h6 j hj hl];exact World.frozen?_of_block (w:=w) (xo w o (lt_of_heap h4))
 ·exact⟨(s.md r hr).1,hk (s.md r hr).2⟩
def pz{α:Type}{l}{x}{i:Nat}{y:α}(h:l[i]?=aa y):(l++[x])[i]?=aa y:=by rw[qh (aF.1 h).1];exact h
def kS{α:Type}{l}{x}{i}{y:α}(h:(l++[x])[i]?=aa y):l[i]?=aa y∨(i=l.length/\y=x):=by
 rcases Nat.lt_trichotomy i l.length with ay|gP|Yq
 ·rw[qh ay] at h;exact .inl h
 ·subst gP;simp at h;exact .inr ⟨rfl,h.symm⟩
 ·rw[List.getElem?_eq_none (by simp;omega)] at h;cases h
def aH.kR(K:aH)(g:Nat)(x:Option (Nat × Nat × Nat)):aH:={K with β:=K.β++[g],lb:=λb=>if b=K.β.length then x else K.lb b}
def aH.box(K:aH)(g:Nat):aH:=K.kR g ah
def aH.zg(K:aH)(g)(x):K.Le (K.kR g x):=
 ⟨rfl,λ_ _ _ h=>h,λ_ _ h=>pz h,λ_ _ h=>h,aK _,λ_ _=>rfl,λ_ h=>h,λb hb=>ax aj,λ_ _ _ h=>.inl h⟩
def aH.zf(K:aH)(g):K.Le (K.box g):=K.zg g ah
def bg.Jj(s:bg K G ok w0 h w){cs:List AV}{cells:Array aC}(e:aE)(x:Option (Nat × Nat × Nat))(hv:aM K cs (cells.toList.take cs.length))(mg:cs.all AV.eM=ab)
 (hx:∀N sz room,x=aa (N,sz,room)->cs=[]∨(cs.length=N * sz/\room<=cells.size)):
 bg (K.kR w.heap.size x) G ok w0 {h with boxes:=h.boxes++[cs]} {w with heap:=w.heap.push (.cells cells e)}/\
 aI (K.kR w.heap.size x) (.ptr (.box h.boxes.length) 0) (.pointer (aa ⟨w.heap.size,0,ah⟩)):=by
 have le:=K.zg w.heap.size x;have p:=s.push (.cells cells e);have kX:(K.kR w.heap.size x).β[h.boxes.length]?=aa w.heap.size:=by simp[aH.kR,<-s.ga]
 have ay:∀{b g:Nat},K.β[b]?=aa g->g<w.heap.size:=λ{b g} hb=>by
  have pB:b<h.boxes.length:=by rw[<-s.ga];exact(aF.1 hb).1
  obtain⟨_,_,_,_,_,h3,_⟩:=s.box b g _ hb (cv pB);exact lt_of_heap h3
 have xr:∀j,K.ic w.heap.size j=ah:=λj=>by
  cases hc:K.ic w.heap.size j with|none=>rfl|some c=>have:=s.lt_of_cell hc;omega
 refine⟨⟨p.cr,p.size,p.ic,λg cs hg=>?_,by simp[aH.kR,s.ga],λb b' g hb eJ=>?_,λb g bu hb hc=>?_,p.j4,p.na,λl g r hl hr=>?_,p.tn,λt ht=>?_,p.mD,p.md,s.all⟩,.box _ _ _ kX⟩
 ·obtain⟨bY,h1,h2⟩:=s.dj g cs hg;exact⟨bY,h1.mono le,h2⟩
 ·rcases kS hb with hb|⟨rfl,rfl⟩<;>rcases kS eJ with eJ|⟨rfl,h2⟩
  ·rcases s.mF _ _ _ hb eJ with p|p|p
   ·exact .inl p
   ·exact .inr (.inl (pz p))
   ·exact .inr (.inr (pz p))
  ·have:=ay hb;omega
  ·have:=ay eJ;omega
  ·exact .inl rfl
 ·rcases kS hb with hb|⟨rfl,rfl⟩
  ·rcases kS hc with hc|⟨rfl,rfl⟩
   ·obtain⟨h1,h2,ha,bY,e',h3,h4⟩:=p.box b g bu hb hc;exact⟨h1,h2,ha,bY,e',h3,h4.mono le (aF.1 hb).1⟩
   ·have:h.boxes.length<K.β.length:=(aF.1 hb).1;have:=s.ga;omega
  ·have:bu=cs:=(by rw[s.ga] at hc;simp at hc;exact hc.symm);subst this;exact⟨s.size,xr,mg,cells,e,by simp,hv.mono le,by simp only[aH.kR,if_true];exact hx⟩
 ·obtain⟨h1,fn,tmps,d,h2,h3,h4⟩:=p.loop l g r hl hr;exact⟨h1,fn,tmps,d,h2,h3.mono le,h4⟩
 ·obtain⟨h1,h2,h3,bY,e',fz,h4,h5⟩:=p.tok t ht;refine⟨h1,λb hb=>?_,h3,bY,e',fz,h4,h5⟩;obtain⟨_,_,_,_,_,_,AX,_⟩:=s.tok t ht;rcases kS hb with hb|⟨_,hb⟩
  ·exact h2 b hb
  ·have:=lt_of_heap AX;simp only[aH.kR] at hb;omega
def aM.whole{cs:List AV}{vs:List aC}(h:aM K cs vs):aM K cs (vs.take cs.length):=by rw[o5 (by rw[h.length];exact aK _)];exact h
def bg.EG(s:bg K G ok w0 h w){cs:List AV}{cells:Array aC}(e:aE)(hv:aM K cs cells.toList)(mg:cs.all AV.eM=ab):
 bg (K.box w.heap.size) G ok w0 {h with boxes:=h.boxes++[cs]} {w with heap:=w.heap.push (.cells cells e)}/\
 aI (K.box w.heap.size) (.ptr (.box h.boxes.length) 0) (.pointer (aa ⟨w.heap.size,0,ah⟩)):=s.Jj e ah hv.whole mg (λ_ _ _ q=>by cases q)
structure qc(w w':aT)(g:Nat)(o:Obj):Prop where
 os:w'.os=w.os
 tape:w'.tape=w.tape
 output:w'.output=w.output
 size:w'.heap.size=w.heap.size
 other:∀k,k≠g->w'.heap[k]?=w.heap[k]?
 this:w'.heap[g]?=aa o
def qc.lt{w w'}{g}{o}(c:qc w w' g o):g<w.heap.size:=c.size ▸ lt_of_heap c.this
def qc.below{w w'}{g}{o}(c:qc w w' g o){B}(hB:B<=g):Below B w w':=
 ⟨c.os,c.tape,c.output,by rw[c.size];exact aK _,λk hk=>c.other k aj⟩
def sF(fz:Nat × Nat)(j:Nat):Bool:=decide (fz.1<=j)&&decide (j<fz.2)
def vm{w:aT}{g}{cells}{e}{fz}(h:w.heap[g]?=aa (.cells cells e fz))(j):w.frozen? ⟨g,j,ah⟩=sF fz j:=by obtain⟨lo,hi⟩:=fz;simp[World.frozen?,h,sF]
def cell_of{w:aT}{g}{cells}{e}{fz}(h:w.heap[g]?=aa (.cells cells e fz))(j):w.cell? ⟨g,j,ah⟩=cells[j]?:=by simp[World.cell?,h]
def bg.VK(s:bg K G ok w0 h w)(b:Nat):bg K G ok w0 {h with boxes:=h.boxes.set b []} w:=by
 refine⟨s.cr,s.size,s.ic,s.dj,by simp[s.ga],λb1 b2 g h1 h2=>?_,λb' g' bu eJ fh=>?_,s.j4,s.na,s.loop,s.tn,s.tok,s.mD,s.md,s.all⟩
 ·have key:∀k,h.boxes[k]?=aa []->(h.boxes.set b [])[k]?=aa []:=λk hk=>by
   rw[tG];split
   ·rename_i e;subst e;rw[aB (aF.1 hk).1]
   ·exact hk
  rcases s.mF _ _ _ h1 h2 with p|p|p
  ·exact .inl p
  ·exact .inr (.inl (key _ p))
  ·exact .inr (.inr (key _ p))
 ·simp only[tG] at fh;split at fh
  ·rename_i e';subst e';split at fh
   ·rename_i ay;injection fh with fh;subst fh;obtain⟨k1,k2,_,cells0,e0,k3,k4⟩:=s.box _ _ _ eJ (cv ay);exact⟨k1,k2,rfl,cells0,e0,k3,.nil⟩
   ·cases fh
  ·exact s.box b' g' bu eJ fh
def bg.aeo{w':aT}(s:bg K G ok w0 h w){b g:Nat}{cs cr:List AV}{cells:Array aC}{e:aE}(hb:K.β[b]?=aa g)(hold:h.boxes[b]?=aa cr)(bL:cr≠[])(aP:cs.length=cr.length)(bG:∀c0 e0,w.heap[g]?=aa (.cells c0 e0 (0,0))->c0.size<=cells.size)
 (c:qc w w' g (.cells cells e (0,0))) (hv:aM K cs (cells.toList.take cs.length)) (mg:cs.all AV.eM=ab):bg K G ok w0 {h with boxes:=h.boxes.set b cs} w':=by
 have ay:=(aF.1 hold).1;obtain⟨k1,k2,_,cells0,e0,k3,k4⟩:=s.box b g _ hb hold;refine⟨s.cr.trans (c.below k1),by rw[c.size];exact s.size,λg' j x hx=>?_,s.dj,by simp[s.ga],λb1 b2 g h1 h2=>?_,λb' g' bu eJ fh=>?_,s.j4,s.na,λl g' r hl hr=>?_,s.tn,λt ht=>?_,s.mD,λr hr=>?_,s.all⟩
 ·have bL:g'≠g:=by rintro rfl;rw[k2 j] at hx;cases hx
  rw[<-s.ic g' j x hx];exact World.cell?_of_block (w:=w) (c.other g' bL)
 ·have key:∀k,h.boxes[k]?=aa []->(h.boxes.set b cs)[k]?=aa []:=λk hk=>by
   rw[tG,ax]
   ·exact hk
   ·rintro rfl;rw[hold] at hk;injection hk with hk;exact bL hk
  rcases s.mF _ _ _ h1 h2 with p|p|p
  ·exact .inl p
  ·exact .inr (.inl (key _ p))
  ·exact .inr (.inr (key _ p))
 ·simp only[tG] at fh;split at fh
  ·rename_i e';subst e';injection fh with fh;subst fh;rw[hb] at eJ;injection eJ with eJ;subst eJ;refine⟨k1,k2,mg,cells,e,c.this,hv,λN sz room q=>?_⟩;rcases k4.2 N sz room q with r|⟨r1,r2⟩
   ·exact absurd r bL
   ·exact .inr ⟨aP.trans r1,cY r2 (bG _ _ k3)⟩
  ·rename_i Ee;by_cases fT:g'=g
   ·subst fT;rcases s.mF _ _ _ hb eJ with p|p|p
    ·exact absurd p Ee
    ·rw[hold] at p;injection p with p;exact absurd p bL
    ·rw[fh] at p;injection p with p;subst p;exact⟨k1,k2,rfl,cells,e,c.this,.nil⟩
   ·obtain⟨h1,h2,ha,bY,e',h3,h4⟩:=s.box b' g' bu eJ fh;exact⟨h1,h2,ha,bY,e',(c.other g' fT).trans h3,h4⟩
 ·obtain⟨h1,fn,tmps,d,h2,h3⟩:=s.loop l g' r hl hr;have fT:g'≠g:=by rintro rfl;rw[h2] at k3;cases k3
  exact⟨h1,fn,tmps,d,(c.other g' fT).trans h2,h3⟩
 ·obtain⟨h1,h2,h3,bY,e',fz,h4,h5,h6⟩:=s.tok t ht;have fT:(K.tk t).1≠g:=λe=>h2 b (e ▸ hb);refine⟨h1,h2,h3,bY,e',fz,(c.other _ fT).trans h4,h5,λj hj hl=>?_⟩;rw[<-h6 j hj hl];exact World.frozen?_of_block (w:=w) (c.other _ fT)
 ·have h2:=(s.md r hr).2;have fT:r≠g:=by rintro rfl;rw[h2] at k3;cases k3
  exact⟨(s.md r hr).1,(c.other r fT).trans h2⟩
def bg.afA{w':aT}(s:bg K G ok w0 h w){g:Nat}{cs:List AV}{cells:Array aC}{e:aE}(hg:K.base<=g)(iu:∀j,K.ic g j=ah)(HH:∀b:Nat,K.β[b]?=aa g->h.boxes[b]?=aa [])
 (zc:∀t,alive h t=ab->(K.tk t).1≠g) {c0:Array aC} {e0:aE} {z0:Nat × Nat} (xL:w.heap[g]?=aa (.cells c0 e0 z0))
 (x:Option (Nat × Nat × Nat)) (hx:∀N sz room,x=aa (N,sz,room)->cs=[]∨(cs.length=N * sz/\room<=cells.size))
 (c:qc w w' g (.cells cells e (0,0))) (hv:aM K cs (cells.toList.take cs.length)) (mg:cs.all AV.eM=ab):
 bg (K.kR g x) G ok w0 {h with boxes:=h.boxes++[cs]} w'/\(K.kR g x).β[h.boxes.length]?=aa g:=by
 have le:=K.zg g x;have kX:(K.kR g x).β[h.boxes.length]?=aa g:=by simp[aH.kR,<-s.ga]
 refine⟨⟨s.cr.trans (c.below hg),by rw[c.size];exact s.size,λg' j x hx=>?_,λg' bu HR=>?_,by simp[aH.kR,s.ga],λb b' g' hb eJ=>?_,λb g' bu hb hc=>?_,s.j4,s.na,λl g' r hl hr=>?_,s.tn,λt ht=>?_,s.mD,λr hr=>?_,s.all⟩,kX⟩
 ·have dk:K.ic g' j=aa x:=hx;have bL:g'≠g:=λq=>by rw[q,iu j] at dk;cases dk
  rw[<-s.ic g' j x dk];exact World.cell?_of_block (w:=w) (c.other g' bL)
 ·obtain⟨bY,h1,h2⟩:=s.dj g' bu HR;exact⟨bY,h1.mono le,h2⟩
 ·rcases kS hb with p|⟨p1,p2⟩<;>rcases kS eJ with q|⟨q1,q2⟩
  ·rcases s.mF _ _ _ p q with r|r|r
   ·exact .inl r
   ·exact .inr (.inl (pz r))
   ·exact .inr (.inr (pz r))
  ·subst q2;exact .inr (.inl (pz (HH _ p)))
  ·subst p2;exact .inr (.inr (pz (HH _ q)))
  ·exact .inl (by rw[p1,q1])
 ·rcases kS hb with p|⟨p1,p2⟩
  ·have pB:b<h.boxes.length:=(by rw[<-s.ga];exact(aF.1 p).1);rw[qh pB] at hc;by_cases fT:g'=g
   ·subst fT;have:=HH b p;rw[hc] at this;injection this with this;subst this;exact⟨hg,iu,rfl,cells,e,c.this,.nil⟩
   ·obtain⟨h1,h2,ha,bY,e',h3,h4⟩:=s.box b g' bu p hc;exact⟨h1,h2,ha,bY,e',(c.other g' fT).trans h3,h4.mono le (aF.1 p).1⟩
  ·subst p2;have:bu=cs:=(by rw[p1,s.ga] at hc;simp at hc;exact hc.symm);subst this;exact⟨hg,iu,mg,cells,e,c.this,hv.mono le,by rw[p1];simp only[aH.kR,if_true];exact hx⟩
 ·obtain⟨h1,fn,tmps,d,h2,h3,h4⟩:=s.loop l g' r hl hr;have fT:g'≠g:=by rintro rfl;rw[h2] at xL;cases xL
  exact⟨h1,fn,tmps,d,(c.other g' fT).trans h2,h3.mono le,h4⟩
 ·obtain⟨h1,h2,h3,bY,e',fz,h4,h5,h6⟩:=s.tok t ht;have fT:=zc t ht;refine⟨h1,λb hb=>?_,h3,bY,e',fz,(c.other _ fT).trans h4,h5,λj hj hl=>?_⟩
  ·rcases kS hb with p|⟨-,p⟩
   ·exact h2 b p
   ·exact fT p
  ·rw[<-h6 j hj hl];exact World.frozen?_of_block (w:=w) (c.other _ fT)
 ·have h2:=(s.md r hr).2;have fT:r≠g:=by rintro rfl;rw[h2] at xL;cases xL
  exact⟨(s.md r hr).1,(c.other r fT).trans h2⟩
def aH.row(K:aH)(g off m size:Nat)(cells:Nat->Option aC):aH:=
 {K with ic:=λg' j=>if g'=g/\off<=j/\j<m then cells j else K.ic g' j,tn:=K.tn+1,tk:=λt=>if t=K.tn then (g,m,size) else K.tk t}
def aH.IQ{K:aH}{g off m size}{cells}(h:∀j,off<=j->K.ic g j=ah)(hb:K.base<=g):K.Le (K.row g off m size cells):=by
 refine⟨rfl,λg' j c hc=>?_,λ_ _ h=>h,λ_ _ h=>h,Nat.le_succ _,λt ht=>?_,λ_ h=>h,λ_ _=>rfl,λg' j c hc=>?_⟩
 ·simp only[aH.row];rw[ax]
  ·exact hc
  ·rintro⟨rfl,h1,_⟩;rw[h j h1] at hc;cases hc
 ·simp only[aH.row];rw[ax aj]
 ·simp only[aH.row] at hc;split at hc
  ·rename_i q;rw[q.1];exact .inr hb
  ·exact .inl hc
def bg.row{w':aT}{h':ae}(s:bg K G ok w0 h w){g off m:Nat}{cells:Array aC}{e:aE}{fz:Nat × Nat}
 (HB:h'.boxes=h.boxes) (Nu:h'.loops=h.loops) (xJ:h'.tn=h.tn+1) (eE:∀t,alive h' t=ab->t=h.tn∨(alive h t=ab/\(K.tk t).1≠g))
 (yQ:K.base<=g) (Ee:∀b:Nat,K.β[b]?≠aa g) (iu:∀j,off<=j->K.ic g j=ah) (bG:w.heap.size<=w'.heap.size)
 (Ig:w'.os=w.os) (Ir:w'.tape=w.tape) (Bq:w'.output=w.output)
 (mj:∀k o,k≠g->w.heap[k]?=aa o->w'.heap[k]?=aa o) (kY:w'.heap[g]?=aa (.cells cells e fz))
 (xL:∀o,w.heap[g]?=aa o->∃c0 e0 z0,o=.cells c0 e0 z0)
 (Yy:∀j c,K.ic g j=aa c->cells[j]?=aa c) (hom:off<=m) (_hm:m<=cells.size) (D9:∀j,m<=j->j<cells.size->sF fz j=ak):
 bg (K.row g off m cells.size (λj=>cells[j]?)) G ok w0 h' w':=by
 have le:=aH.IQ (m:=m) (size:=cells.size) (cells:=λj=>cells[j]?) iu yQ;refine⟨?_,cY s.size bG,λg' j x hx=>?_,λg' cs hg=>?_,by rw[HB];exact s.ga,by rw[HB];exact s.mF,λb g' cs hb hc=>?_,by rw[Nu];exact s.j4,s.na,λl g' r hl hr=>?_,by rw[xJ];simp[aH.row,s.tn],
  λt ht=>?_,λt t' ht Bx gP=>?_,λr hr=>?_,s.all⟩
 ·refine s.cr.trans ⟨Ig,Ir,Bq,bG,λk hk=>?_⟩;have ay:k<w.heap.size:=lY hk s.size;have qB:w.heap[k]?=aa (w.heap[k]):=fW ay;have Yx:k<K.base:=hk;rw[qB];exact mj k _ aj qB
 ·simp only[aH.row] at hx;split at hx
  ·rename_i hc;obtain⟨rfl,_,_⟩:=hc;rw[cell_of kY];exact hx
  ·by_cases fT:g'=g
   ·subst fT;rw[cell_of kY];exact Yy j x hx
   ·have ay:=s.lt_of_cell hx;rw[<-s.ic g' j x hx];refine World.cell?_of_block (w:=w) ?_;simp only;rw[fW ay];exact mj g' _ fT (fW ay)
 ·obtain⟨bY,h1,h2⟩:=s.dj g' cs hg;exact⟨bY,h1.mono le,λj c hj=>le.ic _ _ _ (h2 j c hj)⟩
 ·rw[HB] at hc;obtain⟨h1,h2,ha,bY,e',h3,h4⟩:=s.box b g' cs hb hc;have fT:g'≠g:=λe=>Ee b (e ▸ hb);refine⟨h1,λj=>?_,ha,bY,e',mj g' _ fT h3,h4.mono le (aF.1 hb).1⟩;simp only[aH.row];rw[ax (λhh=>fT hh.1)];exact h2 j
 ·rw[Nu] at hr;obtain⟨h1,fn,tmps,d,h2,h3,h4⟩:=s.loop l g' r hl hr;have fT:g'≠g:=by rintro rfl;obtain⟨_,_,_,h⟩:=xL _ h2;cases h
  exact⟨h1,fn,tmps,d,mj g' _ fT h2,h3.mono le,h4⟩
 ·rcases eE t ht with rfl|⟨sQ,By⟩
  ·simp only[aH.row,s.tn,if_true];refine⟨yQ,Ee,λj hj=>?_,cells,e,fz,kY,rfl,λj hj hl=>(vm kY j).trans (D9 j hj hl)⟩;rw[ax aj];exact iu j aj
  ·have Zg:=AD sQ;have e1:(K.row g off m cells.size (λj=>cells[j]?)).tk t=K.tk t:=le.tk t (by rw[s.tn];exact Zg);rw[e1];obtain⟨h1,h2,h3,bY,e',fz',h4,h5,h6⟩:=s.tok t sQ;refine⟨h1,h2,λj hj=>?_,bY,e',fz',mj _ _ By h4,h5,λj hj hl=>?_⟩
   ·simp only[aH.row];rw[ax (λhh=>By hh.1)];exact h3 j hj
   ·rw[<-h6 j hj hl,vm h4,vm (mj _ _ By h4)]
 ·rcases eE t ht with rfl|⟨sQ,By⟩<;>rcases eE t' Bx with rfl|⟨Iq,Ze⟩
  ·rfl
  ·exfalso;have e1:(K.row g off m cells.size (λj=>cells[j]?)).tk t'=K.tk t':=le.tk t' (by rw[s.tn];exact AD Iq);rw[e1] at gP;simp[aH.row,s.tn] at gP;exact Ze gP.symm
  ·exfalso;have e1:(K.row g off m cells.size (λj=>cells[j]?)).tk t=K.tk t:=le.tk t (by rw[s.tn];exact AD sQ);rw[e1] at gP;simp[aH.row,s.tn] at gP;exact By gP
  ·have e1:(K.row g off m cells.size (λj=>cells[j]?)).tk t=K.tk t:=le.tk t (by rw[s.tn];exact AD sQ);have e2:(K.row g off m cells.size (λj=>cells[j]?)).tk t'=K.tk t':=le.tk t' (by rw[s.tn];exact AD Iq);rw[e1,e2] at gP;exact s.mD t t' sQ Iq gP
 ·obtain⟨h1,h2⟩:=s.md r hr;have fT:r≠g:=by rintro rfl;obtain⟨_,_,_,h⟩:=xL _ h2;cases h
  exact⟨h1,mj r _ fT h2⟩
def aH.tight(K:aH)(g:Nat)(cells:Array aC):aH:={K with ic:=λg' j=>if g'=g then cells[j]? else K.ic g' j}
def bg.aa1(s:bg K G ok w0 h w)(cells:Array aC)(e:aE):
 K.Le (K.tight w.heap.size cells)/\bg (K.tight w.heap.size cells) G ok w0 h {w with heap:=w.heap.push (.cells cells e)}:=by
 have xr:∀j,K.ic w.heap.size j=ah:=λj=>by
  cases hc:K.ic w.heap.size j with|none=>rfl|some c=>have:=s.lt_of_cell hc;omega
 have le:K.Le (K.tight w.heap.size cells):=by
  refine⟨rfl,λg j c hc=>?_,λ_ _ h=>h,λ_ _ h=>h,aK _,λ_ _=>rfl,λ_ h=>h,λ_ _=>rfl,λg j c hc=>by
   simp only[aH.tight] at hc;split at hc
   ·rename_i q;rw[q];exact .inr s.size
   ·exact .inl hc⟩
  simp only[aH.tight];rw[ax]
  ·exact hc
  ·rintro rfl;rw[xr] at hc;cases hc
 have p:=s.push (.cells cells e);refine⟨le,p.cr,p.size,λg j x hx=>?_,λg cs hg=>?_,p.ga,p.mF,λb g cs hb hc=>?_,p.j4,p.na,λl g r hl hr=>?_,p.tn,λt ht=>?_,p.mD,p.md,s.all⟩
 ·simp only[aH.tight] at hx;split at hx
  ·subst_vars;rw[cell_of (cells:=cells) (e:=e) (fz:=(0,0)) bh];exact hx
  ·exact p.ic g j x hx
 ·obtain⟨bY,h1,h2⟩:=s.dj g cs hg;exact⟨bY,h1.mono le,λj c hj=>le.ic _ _ _ (h2 j c hj)⟩
 ·obtain⟨h1,h2,ha,bY,e',h3,h4⟩:=p.box b g cs hb hc;refine⟨h1,λj=>?_,ha,bY,e',h3,h4.mono le (aF.1 hb).1⟩;simp only[aH.tight];obtain⟨_,_,_,_,_,XB,_⟩:=s.box b g cs hb hc;rw[ax (by have:=lt_of_heap XB;omega)];exact h2 j
 ·obtain⟨h1,fn,tmps,d,h2,h3,h4⟩:=p.loop l g r hl hr;exact⟨h1,fn,tmps,d,h2,h3.mono le,h4⟩
 ·obtain⟨h1,h2,h3,bY,e',fz,h4,h5⟩:=p.tok t ht;obtain⟨_,_,_,_,_,_,AX,_⟩:=s.tok t ht;refine⟨h1,h2,λj hj=>?_,bY,e',fz,h4,h5⟩;simp only[aH.tight];have:=lt_of_heap AX;have e1:(K.tight w.heap.size cells).tk t=K.tk t:=rfl;rw[ax (by show(K.tk t).1≠_;omega)];exact h3 j hj
end
section
variable {P:aQ}
def cb{t:aE}{d:TypeDesc}(h:P.underlying t=aa d)(w:aT):(underlying t).run P w=.ok d w:=run_underlying h w
def oj{t:aE}{i:TypeInfo}(h:P.info? t=aa i)(w:aT):(typeInfo t).run P w=.ok i w:=by simp[typeInfo,h]
def aet{t:aE}{n:Nat}(h:cU P t=aa n):∃i,P.info? t=aa i/\i.size=n:=by simpa [cU] using h
def kJ{t:aE}{n:Nat}(h:cU P t=aa n)(w:aT):(sizeOf t).run P w=.ok n w:=by obtain⟨i,h1,h2⟩:=aet h;simp[sizeOf,oj h1,h2]
def Fy{t:aE}{b:Bool}(h:fZ P t=aa b)(w:aT):(isAgg t).run P w=.ok b w:=by
 unfold fZ at h;unfold isAgg;cases hu:P.underlying t with
 |none=>rw[hu] at h;cases h
 |some d=>rw[hu] at h;rw[Sem.run_bind,cb hu];cases d<;>(injection h with h;subst h;rfl)
def JV{t:aE}{z:AV}(h:fa P t=aa z)(w:aT):∃v,(zeroValue t).run P w=.ok v w/\z=nK v:=by
 unfold fa at h;split at h
 ·rename_i i hi;simp only[cn] at h;obtain⟨v,hv,rfl⟩:=h;exact⟨v,by simp[zeroValue,oj hi,hv],rfl⟩
 ·cases h
def WM{α:Type}{es:List (List α)}{sz}(hr:∀r∈es,r.length=sz):∀{i:Nat} {row:List α},es[i]?=aa row->(es.flatten.drop (i * sz)).take sz=row:=by
 induction es with
 |nil=>intro i row h;simp at h|cons r es ih=>
  have hl:r.length=sz:=hr r bh;intro i row h;cases i with|zero=>simp at h;subst h;simp[<-hl]|succ i=>have:=ih (λr gg=>hr r (by simp[gg])) (i:=i) (row:=row) (by simpa using h);rw[<-this];simp only[oW];rw[C5,show(i+1) * sz=r.length+i * sz by rw[hl,ig];omega];rw[C6 aj];simp
def ML{α:Type}{es:List (List α)}{sz}(hr:∀r∈es,r.length=sz):∀n:Nat,(es.take n).flatten=es.flatten.take (n * sz):=by
 induction es with
 |nil=>intro n;simp|cons r es ih=>
  have hl:r.length=sz:=hr r bh;intro n;cases n with|zero=>simp|succ n=>rw[List.take_succ_cons,oW,oW,ih (λr hm=>hr r (by simp[hm])) n,show(n+1) * sz=r.length+n * sz by rw[hl,ig];omega];rw[Da,o5 (aj:r.length<=r.length+n * sz),(aj:r.length+n * sz - r.length=n * sz)]
def WL{α:Type}{es:List (List α)}{sz}(hr:∀r∈es,r.length=sz):∀n:Nat,(es.drop n).flatten=es.flatten.drop (n * sz):=by
 induction es with
 |nil=>intro n;simp|cons r es ih=>
  have hl:r.length=sz:=hr r bh;intro n;cases n with|zero=>simp|succ n=>rw[List.drop_succ_cons,oW,ih (λr hm=>hr r (by simp[hm])) n,show(n+1) * sz=r.length+n * sz by rw[hl,ig];omega];rw[C5,C6 (aj:r.length<=r.length+n * sz),(aj:r.length+n * sz - r.length=n * sz)];simp
def px{α:Type}{es:List (List α)}{sz}(hr:∀r∈es,r.length=sz):es.flatten.length=es.length * sz:=by
 induction es with
 |nil=>simp|cons r es ih=>rw[oW,cO,ih (λr gg=>hr r (by simp[gg])),hr r bh,dD,ig];omega
end
section
variable {P:aQ} {K:aH} {G:Nat->Option (List AV)} {ok:bF->Nat->Code->Bool} {w0 w:aT} {h:ae}
def βaa{b:Nat}{g:Nat}(s:bg K G ok w0 h w)(hb:K.β[b]?=aa g):∃cs,h.boxes[b]?=aa cs:=by
 have pB:b<h.boxes.length:=by rw[<-s.ga];exact(aF.1 hb).1
 exact⟨_,cv pB⟩
def L0(s:bg K G ok w0 h w){a:AV}{cs:List AV}(hc:w9 G h a=aa cs){ca:aC}(hv:aI K a ca):
 ∃g p vals,ca=.pointer (aa ⟨g,p,ah⟩)/\aM K cs vals/\∀(j:Nat) (c:aC),vals[j]?=aa c->w.cell? ⟨g,p+j,ah⟩=aa c:=by
 unfold w9 at hc;split at hc
 ·rename_i r off;simp only[cn] at hc;obtain⟨cs0,h0,rfl⟩:=hc;cases hv with
  |box b g _ hb=>
   obtain⟨_,_,_,cells,e,h3,h4⟩:=s.box b g cs0 hb h0;refine⟨g,off,(cells.toList.take cs0.length).drop off,rfl,h4.1.drop off,λj c hj=>?_⟩;rw[cell_of h3];simp only[yu,nU] at hj;split at hj
   ·simpa using hj
   ·cases hj
  |dj g _=>obtain⟨cells,h1,h2⟩:=s.dj g cs0 h0;refine⟨g,off,cells.drop off,rfl,h1.drop off,λj c hj=>?_⟩;exact s.ic _ _ _ (h2 (off+j) c (by simpa using hj))
 ·rename_i sz es i off;simp only[cn] at hc;obtain⟨row,h0,rfl⟩:=hc;cases hv with
  |elem _ _ _ _ g o p cells hr dJ iu hi hp ha=>
   refine⟨g,p,((cells.drop (i * sz)).take sz).drop off,rfl,?_,λj c hj=>?_⟩
   ·have:=((dJ.drop (i * sz)).take sz).drop off
    rwa [WM hr h0] at this
   ·refine s.ic _ _ _ ?_;have h1:cells[i * sz+off+j]?=aa c:=by
     simp only[yu,nU] at hj;split at hj
     ·rw[<-hj];congr 1;omega
     ·cases hj
    have:=iu _ _ h1;rw[hp];rw[<-this];congr 1;omega
 ·cases hc
def IZ(s:bg K G ok w0 h w){t:aE}{a x:AV}(he:dz P G h t a=aa x){ca:aC}(hv:aI K a ca):
 ∃g p v,ca=.pointer (aa ⟨g,p,ah⟩)/\(loadVar t ⟨g,p,ah⟩).run P w=.ok v w/\aI K x v:=by
 unfold dz at he;split at he
 ·rename_i cs xk aZ;obtain⟨g,p,vals,rfl,dJ,lF⟩:=L0 s aZ hv;split at he
  ·rename_i n hn;split at he
   ·rename_i dS;injection he with he;subst he;have hl:=run_loadCells_list (P:=P) w ⟨g,p,ah⟩ (vals.take n) (λj v hj=>by
     rw[Addr.im];refine lF j v ?_;simp only[nU] at hj;split at hj
     ·exact hj
     ·cases hj)
    have aP:(vals.take n).length=n:=(by rw[ng,<-dJ.length];omega);rw[aP] at hl;exact⟨g,p,.agg (vals.take n).toArray,rfl,by simp[loadVar,Fy xk,kJ hn,hl],.agg _ _ (by simpa using dJ.take n)⟩
   ·cases he
  ·cases he
 ·rename_i cs xk aZ;obtain⟨g,p,vals,rfl,dJ,lF⟩:=L0 s aZ hv;cases cs with
  |nil=>simp at he|cons y cs=>
   simp at he;subst he;cases dJ with|cons _ c _ bu hx hs=>have:=lF 0 c rfl;simp only[gD] at this;exact⟨g,p,c,rfl,by simp[loadVar,Fy xk,this],hx⟩
 ·cases he
def Cw{g:Nat}(off:Nat)(e:aE)(fz:Nat × Nat):∀(vs:List aC) (i:Nat) (cells:Array aC) (w:aT),
 w.heap[g]?=aa (.cells cells e fz)->off+i+vs.length<=cells.size->(∀v∈vs,ze v=ab)->(∀j,off+i<=j->j<off+i+vs.length->sF fz j=ak)->
 ∃w' bY,(storeCells ⟨g,off,ah⟩ vs i).run P w=.ok () w'/\qc w w' g (.cells bY e fz)/\
  bY.toList=cells.toList.take (off+i)++vs++cells.toList.drop (off+i+vs.length):=by
 intro vs
 induction vs with
 |nil=>intro i cells w hg hl h1 hf;exact⟨w,cells,rfl,⟨rfl,rfl,rfl,rfl,λ_ _=>rfl,hg⟩,by simp⟩|cons v rest ih=>
  intro i cells w hg hl h1 hf;simp only[dD] at hl hf;have hi:off+i<cells.size:=by omega
  have hv:v.oneCell'=ab:=by have:=h1 v bh;cases v<;>first|rfl|simp[ze] at this
  have bC:(store ((⟨g,off,ah⟩:Addr).add i) v).run P w=.ok () (w.setCell ⟨g,off+i,ah⟩ v):=by rw[Addr.im,run_store P w _ v _ hv,cell_of hg,vm hg,hf (off+i) aj aj,fW hi];simp
  have kY:(w.setCell ⟨g,off+i,ah⟩ v).heap[g]?=aa (.cells (cells.setIfInBounds (off+i) v) e fz):=by simp[World.setCell,yl,hg]
  obtain⟨w',bY,hr,hc,kT⟩:=ih (i+1) _ _ kY (by simp;omega) (λx hx=>h1 x (by simp[hx])) (λj hj Yu=>hf j aj aj);refine⟨w',bY,by simp only[storeCells,Sem.run_bind,bC,Result.andThen_ok,hr],⟨hc.os,hc.tape,hc.output,by rw[hc.size];simp[World.setCell],λk hk=>?_,hc.this⟩,?_⟩
  ·rw[hc.other k hk];simp only[World.setCell,yl];rw[ax (by exactλe=>hk e.symm)]
  ·rw[kT];simp only[Rr,dD];have aP:off+i<cells.toList.length:=(by simpa using hi);rw[Sl,aB aP];rw[(aj:off+(i+1)=off+i+1),(aj:off+i+(rest.length+1)=off+i+1+rest.length)];rw[Da,C5];have h1:(cells.toList.take (off+i)).length=off+i:=(by simp;omega);rw[h1];have h2:(cells.toList.take (off+i)).take (off+i+1)=cells.toList.take (off+i):=o5 aj;have h3:(cells.toList.take (off+i)).drop (off+i+1+rest.length)=[]:=C6 aj;rw[h2,h3];have h4:off+i+1 - (off+i)=1:=(by omega);have h5:off+i+1+rest.length - (off+i)=rest.length+1:=(by omega);rw[h4,h5];simp
def ad4{g off fy az:Nat}{e:aE}(mN:fy=off∨az=0){vs:List aC}{cells:Array aC}{w:aT}(hz:az=0->vs=[])(hg:w.heap[g]?=aa (.cells cells e (0,0)))(hl:off+vs.length<=cells.size)(h1:∀v∈vs,ze v=ab):
 ∃w' bY,(storeCells ⟨g,fy,ah⟩ vs 0).run P w=.ok () w'/\qc w w' g (.cells bY e (0,0))/\bY.toList=cells.toList.take (off+0)++vs++cells.toList.drop (off+0+vs.length):=by
 rcases mN with rfl|h0
 ·exact Cw _ e (0,0) vs 0 cells w hg aj h1 (λj _ _=>by simp[sF])
 ·have:=hz h0;subst this;exact⟨w,cells,rfl,⟨rfl,rfl,rfl,rfl,λ_ _=>rfl,hg⟩,by simp⟩
def Qt{cr cs:List AV}{vo vc:List aC}(off:Nat)(h1:aM K cr vo)(h2:aM K cs vc):aM K (dO cr off cs) (vo.take off++vc++vo.drop (off+vc.length)):=by unfold dO;rw[h2.length];exact((h1.take off).append h2).append (h1.drop _)
def Qs{cr cs}(off)(h1:cr.all AV.eM=ab)(h2:cs.all AV.eM=ab):(dO cr off cs).all AV.eM=ab:=by
 rw[dn] at h1 h2 ⊢;intro x hx;simp only[dO,oZ] at hx;rcases hx with(hx|hx)|hx
 ·exact h1 x (Au hx)
 ·exact h2 x hx
 ·exact h1 x (Gj hx)
def J4{α:Type}{vo vc:List α}{off}(h:off+vc.length<=vo.length):(vo.take off++vc++vo.drop (off+vc.length)).length=vo.length:=by simp only[cO,ng,C8];omega
def aeJ{α:Type}{vo vc:List α}{off n}(h:off+vc.length<=n)(hn:n<=vo.length):(vo.take off++vc++vo.drop (off+vc.length)).take n=(vo.take n).take off++vc++(vo.take n).drop (off+vc.length):=by
 have e1:(vo.take n).take off=vo.take off:=by rw[List.take_take,Nat.min_eq_left aj]
 have e2:(vo.take n).drop (off+vc.length)=(vo.drop (off+vc.length)).take (n - (off+vc.length)):=by rw[List.drop_take]
 rw[e1,e2,Da];have h1:(vo.take off++vc).length=off+vc.length:=by simp;omega
 rw[o5 aj,h1]
def qc.same{w w'}{g}{o}(c:qc w w' g o)(h:w.heap[g]?=some o):w'.heap=w.heap:=by
 apply Array.ext_getElem?;intro k;by_cases hk:k=g
 ·subst hk;rw[c.this,h]
 ·exact c.other k hk
def bg.Ke{w':aT}(s:bg K G ok w0 h w){b g off:Nat}{cs cr:List AV}{vs:List aC}{cells bY:Array aC}{e:aE}(hb:K.β[b]?=aa g)(hold:h.boxes[b]?=aa cr)(qx:off+cs.length<=cr.length)
 (kY:w.heap[g]?=aa (.cells cells e (0,0))) (c:qc w w' g (.cells bY e (0,0))) (kT:bY.toList=cells.toList.take (off+0)++vs++cells.toList.drop (off+0+vs.length)) (hv:aM K cs vs) (mg:cs.all AV.eM=ab):
 bg K G ok w0 {h with boxes:=h.boxes.set b (dO cr off cs)} w':=by
 obtain⟨k1,k2,ka,cells0,e0,k3,k4⟩:=s.box b g cr hb hold;rw[kY] at k3;injection k3 with k3;injection k3 with k3 k3';subst k3;simp only[gD] at kT;have dS:cr.length<=cells.toList.length:=by have:=k4.le;simpa using this
 by_cases bL:cr=[]
 ·subst bL;have hc:cs=[]:=by cases cs with|nil=>rfl|cons _ _=>simp at qx
  subst hc;have dJ:vs=[]:=by cases hv;rfl
  subst dJ;have hw:bY=cells:=by apply Array.toList_inj.1;rw[kT];simp
  subst hw;have hh:=c.same kY;have Bw:h.boxes.set b (dO [] off [])=h.boxes:=by
   rw[show dO ([]:List AV) off []=[] by simp[dO]];apply uY;intro k;rw[tG];split
   ·rename_i e;subst e;rw[aB (aF.1 hold).1,hold]
   ·rfl
  rw[Bw];exact s.same hh c.tape c.os c.output
 ·have hl:(dO cr off cs).length=cr.length:=by unfold dO;exact J4 qx
  refine s.aeo hb hold bL hl (λc0 e0 q=>?_) c ?_ (Qs off ka mg)
  ·rw[kY] at q;injection q with q;injection q with q;subst q;have:bY.toList.length=cells.toList.length:=(by rw[kT];exact J4 (by rw[<-hv.length];omega));simp only[tC] at this;omega
  ·rw[hl,kT,aeJ (by rw[<-hv.length];exact qx) dS];exact Qt off k4.1 hv
def AF{cs:List AV}{vs:List aC}(h:aM K cs vs)(ha:cs.all AV.eM=ab):∀v∈vs,ze v=ab:=by intro v hv;obtain⟨i,hi⟩:=List.getElem?_of_mem hv;obtain⟨x,hx,hr⟩:=h.get' hi;exact ZH (dn.1 ha x (List.mem_of_getElem? hx)) hr
def DZ(j):sF (0,0) j=ak:=by simp[sF]
def aff(s:bg K G ok w0 h w){t:aE}{a x:AV}{h':ae}(he:dh P h t a x=aa h'){ca cx:aC}(hv:aI K a ca)(hx:aI K x cx):
 ∃w',(Instr.storeAt t ca cx).run P w=.ok () w'/\bg K G ok w0 h' w':=by
 unfold dh at he;split at he
 ·rename_i b off cs n aZ hn;split at he
  ·rename_i cr hold;split at he
   ·rename_i aP;injection he with he;subst he;cases hv with|box _ g _ hb=>obtain⟨k1,k2,ka,cells,e,k3,k4⟩:=s.box b g cr hb hold;obtain⟨r1,r2⟩:=DD aZ hx;have bG:cx.cells.size=n:=(by rw[<-aP.1,r1.length];simp);have um:cr.length<=cells.size:=k4.le;obtain⟨w',bY,q1,q2,q3⟩:=Cw (P:=P) off e (0,0) cx.cells.toList 0 cells w k3 (by simp;omega) (AF r1 r2) (λj _ _=>DZ j);refine⟨w',by simp[Instr.storeAt,Instr.sureAddr,storeVar,kJ hn,bG,q1],s.Ke hb hold aj k3 q2 q3 r1 r2⟩
   ·cases he
  ·cases he
 ·cases he
end
section
variable {P:aQ} {K:aH} {G:Nat->Option (List AV)} {ok:bF->Nat->Code->Bool} {w0 w:aT} {h:ae}
def Yields(K:aH)(G:Nat->Option (List AV))(ok:bF->Nat->Code->Bool)(w0:aT)(x:AV)(h':ae)(r:Result Next):Prop:=
 ∃K' v w',K.Le K'/\bg K' G ok w0 h' w'/\aI K' x v/\(r=.ok (.value v) w'∨(r=.ok .skip w'/\v=undef))
def Yields.jW(s:bg K G ok w0 h w){x:AV}{v:aC}(hx:aI K x v){r:Result Next}(hr:r=.ok (.value v) w):Yields K G ok w0 x h r:=
 ⟨K,v,w,.refl K,s,hx,.inl hr⟩
def WS(off):∀(l:List aC) (i:Nat) (cells:Array aC),off+i+l.length<=cells.size->
 ((l.zipIdx i).foldl (λcs p=>cs.setIfInBounds (off+p.2) p.1) cells).toList=cells.toList.take (off+i)++l++cells.toList.drop (off+i+l.length):=by
 intro l
 induction l with
 |nil=>intro i cells _;simp|cons v rest ih=>
  intro i cells hl;simp only[dD] at hl;have hi:off+i<cells.size:=by omega
  simp only[List.zipIdx_cons,RZ];rw[ih (i+1) _ (by simp;omega)];simp only[Rr,dD];have aP:off+i<cells.toList.length:=by simpa using hi
  rw[Sl,aB aP];rw[(aj:off+(i+1)=off+i+1),(aj:off+i+(rest.length+1)=off+i+1+rest.length)];rw[Da,C5];have h1:(cells.toList.take (off+i)).length=off+i:=by simp;omega
  rw[h1];have h2:(cells.toList.take (off+i)).take (off+i+1)=cells.toList.take (off+i):=o5 aj;have h3:(cells.toList.take (off+i)).drop (off+i+1+rest.length)=[]:=C6 aj;rw[h2,h3];have h4:off+i+1 - (off+i)=1:=by omega
  have h5:off+i+1+rest.length - (off+i)=rest.length+1:=by omega
  rw[h4,h5];simp
def agv(f)(vs cells:Array aC):vs.zipIdx.foldl f cells=(vs.toList.zipIdx 0).foldl f cells:=by rw[<-Array.foldl_toList,Array.toList_zipIdx]
def MI{place}:∀{parts:List (Nat × AV)} {cells out:List AV},rh place cells parts=aa out->cells.all AV.eM=ab->out.all AV.eM=ab:=by
 intro parts
 induction parts with
 |nil=>intro cells out he hc;simp[rh] at he;subst he;exact hc|cons p rest ih=>
  intro cells out he hc;simp only[rh] at he;split at he
  ·rename_i off size cs hp aZ;split at he
   ·refine ih he (Qs off hc ?_);unfold AV.cF at aZ;split at aZ
    ·split at aZ
     ·injection aZ with aZ;subst aZ;assumption
     ·cases aZ
    ·cases aZ
    ·cases aZ
    ·rename_i h1 h2 h3;injection aZ with aZ;subst aZ;have hx:p.2.eM=ab:=by cases hq:p.2<;>first|rfl|exact absurd hq (h1 _)|exact absurd hq (h2 _)|exact absurd hq h3
     simp[hx]
   ·cases he
  ·cases he
def DW{place:Nat->Option (Nat × Nat)}:∀{parts:List (Nat × AV)} {cells out:List AV} {parts':List (Nat × aC)} {bY:Array aC},
 rh place cells parts=aa out->aM K cells bY.toList->(parts'.map (·.1)=parts.map (·.1))->aM K (parts.map (·.2)) (parts'.map (·.2))->
 ∃out',Instr.fill place bY parts'=aa out'/\aM K out out'.toList:=by
 intro parts
 induction parts with
 |nil=>
  intro cells out parts' bY he hc h1 h2;have:parts'=[]:=by simpa using h1
  subst this;simp[rh] at he;subst he;exact⟨bY,rfl,hc⟩
 |cons p rest ih=>
  obtain⟨i,x⟩:=p;intro cells out parts' bY he hc h1 h2;cases parts' with
  |nil=>simp at h1|cons p' rest'=>
   obtain⟨i',v⟩:=p';simp only[gB,List.cons.injEq] at h1;obtain⟨rfl,h1⟩:=h1;simp only[gB] at h2;cases h2 with
   |cons _ _ _ _ hx hs=>
    simp only[rh] at he;split at he
    ·rename_i off size cs hp aZ;split at he
     ·rename_i aP;obtain⟨r1,_⟩:=DD aZ hx;have bG:v.cells.size=size:=(by rw[<-aP.1,r1.length];simp);have um:bY.size=cells.length:=(by rw[hc.length];simp);have HM:=WS off v.cells.toList 0 bY (by simp;omega);obtain⟨out',q1,q2⟩:=ih (bY:=v.cells.zipIdx.foldl (λcs (c,j)=>cs.setIfInBounds (off+j) c) bY) he (by rw[agv,HM];simpa using Qt off hc r1) h1 hs;refine⟨out',?_,q2⟩;simp only[Instr.fill,hp];rw[ax (by simp;omega)];exact q1
     ·cases he
    ·cases he
def Jz{ρ:bI->AV}{ρ':bI->aC}(hρ:∀x,aI K (ρ x) (ρ' x))(parts:Array (Nat × bI)):
 ((parts.map λp=>(p.1,ρ' p.2)).toList.map (·.1)=(parts.toList.map λp=>(p.1,ρ p.2)).map (·.1))/\
 aM K ((parts.toList.map λp=>(p.1,ρ p.2)).map (·.2)) ((parts.map λp=>(p.1,ρ' p.2)).toList.map (·.2)):=by
 simp only[yn,Sd];exact⟨rfl,aM.map_mk λp _=>hρ p.2⟩
def wJ{t:aE}{zero:List AV}(hz:(fa P t).bind AV.cF=aa zero)(w:aT):∃v,(zeroValue t).run P w=.ok v w/\aM K zero v.cells.toList/\zero.all AV.eM=ab:=by simp only[ve] at hz;obtain⟨z,h1,h2⟩:=hz;obtain⟨v,h3,rfl⟩:=JV h1 w;obtain⟨r1,r2⟩:=DD h2 (EP (K:=K) v);exact⟨v,h3,r1,r2⟩
def aaz(fields:Array Field)(cH:∀f∈fields.toList,(P.info? f.type).isSome=ab)(w:aT):
 ∃places:Array (Nat × Nat),(fields.mapM (m:=Sem) λ(f:Field)=>do pure (f.offset,<-sizeOf f.type)).run P w=.ok places w/\∀i,places[i]?=placesOf P fields i:=by
 have key:∀(l:List Field),(∀f∈l,(P.info? f.type).isSome=ab)->
  (l.mapM (m:=Sem) λ(f:Field)=>do pure (f.offset,<-sizeOf f.type)).run P w=.ok (l.map λf=>(f.offset,(cU P f.type).getD 0)) w:=by
  intro l
  induction l with
  |nil=>intro _;rfl|cons f l ih=>intro hl;have hf:=hl f bh;obtain⟨i,hi⟩:=SA.1 hf;have hs:cU P f.type=aa i.size:=(by simp[cU,hi]);rw[List.mapM_cons,Sem.run_bind,Sem.run_bind,kJ hs];simp only[Result.andThen_ok,Sem.run_pure,Sem.run_bind,ih (λf hf=>hl f (by simp[hf])),gB,hs,Option.getD_some]
 refine⟨(fields.toList.map λf=>(f.offset,(cU P f.type).getD 0)).toArray,?_,λi=>?_⟩
 ·rw[Array.mapM_eq_mapM_toList,Sem.run_map,key fields.toList cH];rfl
 ·simp only[iB,List.getElem?_map,sd,placesOf];cases hf:fields[i]? with|none=>rfl|some f=>have hm:f∈fields.toList:=(by simpa using Array.mem_of_getElem? hf);obtain⟨i,hi⟩:=SA.1 (cH f hm);simp[cU,hi]
def Ux{t:aE}{parts:Array (Nat × bI)}{ρ:bI->AV}{ρ':bI->aC}(hρ:∀x,aI K (ρ x) (ρ' x)){x:AV}
 (he:gb P t (parts.toList.map λp=>(p.1,ρ p.2))=aa x) (w:aT):∃v,(Instr.build t (parts.map λp=>(p.1,ρ' p.2))).run P w=.ok v w/\aI K x v:=by
 obtain⟨p1,p2⟩:=Jz hρ parts;unfold gb at he;split at he
 ·rename_i fields zero hu hz;obtain⟨z,fY,gI,_⟩:=wJ (K:=K) hz w;split at he
  ·rename_i cH;simp only[cn] at he;obtain⟨out,ho,rfl⟩:=he;obtain⟨places,Eg,Br⟩:=aaz (P:=P) fields (λf hf=>Array.all_eq_true'.1 cH f (by simpa using hf)) w;have Bs:placesOf P fields=(places[·]?):=(by funext i;exact(Br i).symm);rw[Bs] at ho;obtain⟨out',q1,q2⟩:=DW ho gI p1 p2;exact⟨.agg out',by simp only[Instr.build,Sem.run_bind,fY,Result.andThen_ok,cb hu,Eg,q1,Sem.run_pure],.agg _ _ q2⟩
  ·cases he
 ·rename_i n elem zero hu hz;obtain⟨z,fY,gI,_⟩:=wJ (K:=K) hz w;split at he
  ·rename_i size hs;simp only[cn] at he;obtain⟨out,ho,rfl⟩:=he;obtain⟨out',q1,q2⟩:=DW ho gI p1 p2;exact⟨.agg out',by simp only[Instr.build,Sem.run_bind,fY,Result.andThen_ok,cb hu,kJ hs,q1,Sem.run_pure],.agg _ _ q2⟩
  ·cases he
 ·cases he
def MH{sz}:∀{parts:List (Nat × AV)} {rows out:List (List AV)},(∀r∈rows,r.length=sz)->AR sz rows parts=aa out->
 rh (λi=>aa (i * sz,sz)) rows.flatten parts=aa out.flatten/\(∀r∈out,r.length=sz)/\out.length=rows.length:=by
 intro parts
 induction parts with
 |nil=>intro rows out hr he;simp[AR] at he;subst he;exact⟨rfl,hr,rfl⟩|cons p rest ih=>
  obtain⟨i,x⟩:=p;intro rows out hr he;simp only[AR] at he;split at he
  ·rename_i cs aZ;split at he
   ·rename_i aP;have gg:∀r∈rows.set i cs,r.length=sz:=λr hm=>by
     rcases List.mem_or_eq_of_mem_set hm with hm|rfl
     ·exact hr r hm
     ·exact aP.1
    obtain⟨q1,q2,q3⟩:=ih gg he;have mM:=px hr;have dS:i * sz+sz<=rows.flatten.length:=(by rw[mM];have:(i+1) * sz<=rows.length * sz:=oy _ aP.2;rw[ig] at this;omega);have Bw:(rows.set i cs).flatten=dO rows.flatten (i * sz) cs:=by
     clear q1 q2 q3 ih he dS gg;unfold dO;rw[aP.1]
     induction rows generalizing i with
     |nil=>simp at aP|cons r rows ih2=>
      have gh:r.length=sz:=hr r bh;cases i with|zero=>simp[<-gh]|succ i=>have:=ih2 i (λr hm=>hr r (by simp[hm])) ⟨aP.1,by simpa using aP.2⟩ (px (λr hm=>hr r (by simp[hm])));simp only[List.set_cons_succ,oW,this];rw[show(i+1) * sz=r.length+i * sz by rw[gh,ig];omega,Da,C5];rw[o5 (aj:r.length<=r.length+i * sz),C6 (aj:r.length<=r.length+i * sz+sz)];rw[(aj:r.length+i * sz - r.length=i * sz),(aj:r.length+i * sz+sz - r.length=i * sz+sz)];simp
    refine⟨?_,q2,by rw[q3];simp⟩;simp only[rh,aZ];rw[aB ⟨aP.1,dS⟩,<-Bw];exact q1
   ·cases he
  ·cases he
def Ca(zero:Array aC)(n):((uR (n * zero.size)).map (zero[·%zero.size]!)).toList=(gC n zero.toList).flatten:=by
 induction n with
 |zero=>simp|succ n ih=>
  rw[List.replicate_succ',yr,<-ih];simp only[yn,Array.toList_range,ig,Nat.one_mul,List.range_add,Ar,Sd,oW,KU,dI];congr 1;apply List.ext_getElem
  ·simp
  ·intro i h1 h2;have ay:i<zero.size:=(by simpa using h1);simp[Nat.mod_eq_of_lt ay,ay]
def aM.xj{zero:List AV}{z:List aC}(hz:aM K zero z):∀n:Nat,aM K (gC n zero).flatten (gC n z).flatten
 |0=>.nil
 |n+1=>by simp only[List.replicate_succ,oW];exact hz.append (aM.xj hz n)
def E7{zero}(hz:zero.all AV.eM=ab)(n):(gC n zero).flatten.all AV.eM=ab:=by rw[dn] at hz ⊢;intro x hx;simp only[List.mem_flatten,KW] at hx;obtain⟨l,⟨_,rfl⟩,hx⟩:=hx;exact hz x hx
def Uw(s:bg K G ok w0 h w){t:aE}{len:Nat}{parts:Array (Nat × bI)}{ρ:bI->AV}{ρ':bI->aC}(hρ:∀x,aI K (ρ x) (ρ' x)){x:AV}
 (he:gl P t len (parts.toList.map λp=>(p.1,ρ p.2))=aa x):
 ∃K' v w',K.Le K'/\bg K' G ok w0 h w'/\aI K' x v/\(Instr.buildSlice t len (parts.map λp=>(p.1,ρ' p.2))).run P w=.ok v w':=by
 obtain⟨p1,p2⟩:=Jz hρ parts;unfold gl at he;split at he
 ·rename_i elem hu;split at he
  ·rename_i size zero hs hz;obtain⟨z,fY,gI,rH⟩:=wJ (K:=K) hz w;split at he
   ·rename_i hc;simp only[cn] at he;obtain⟨out,ho,rfl⟩:=he;obtain⟨f1,f2,f3⟩:=MH (λr hr=>by rw[(KW.1 hr).2];exact hc.2.1) ho;have sU:z.cells.size=size:=(by rw[<-hc.2.1,gI.length];simp);have kT:((uR (len * size)).map (z.cells[·%z.cells.size]!)).toList=(gC len z.cells.toList).flatten:=(by rw[<-sU];exact Ca _ _);obtain⟨out',q1,q2⟩:=DW (bY:=(uR (len * size)).map (z.cells[·%z.cells.size]!)) f1 (by rw[kT];exact gI.xj len) p1 p2;obtain⟨le,s'⟩:=s.aa1 out' elem;refine⟨_,.slice (aa ⟨w.heap.size,0,ah⟩) len len,_,le,s',?_,?_⟩
    ·refine .list .tight size out w.heap.size 0 len len out'.toList (by rw[f3];simp) f2 (q2.mono le) (λj c hj=>?_) ⟨aK _,rfl⟩ (MI f1 (E7 rH len));simp only[aH.tight,gL,if_true];simpa using hj
    ·by_cases h0:len * size=0
     ·have Hv:len=0:=by
       rcases Ss.1 h0 with h|h
       ·exact h
       ·omega
      subst Hv;simp only[Gp] at q1;have e1:(uR 0).map (λx=>(#[]:Array aC)[x%(#[]:Array aC).size]!)=(uR 0).map (z.cells[·%z.cells.size]!):=(by simp);simp only[Instr.buildSlice,Sem.run_bind,cb hu,Result.andThen_ok,kJ hs,Gp];simp only[ik,gt_iff_lt,if_false,Sz,if_true,Sem.run_pure,Result.andThen_ok,e1,q1,newRow,Sem.run_bind,run_newObj]
     ·simp only[Instr.buildSlice,Sem.run_bind,cb hu,Result.andThen_ok,kJ hs];rw[ax aj,ax h0];simp only[Sem.run_pure,Sem.run_bind,fY,Result.andThen_ok,q1,newRow,run_newObj]
   ·cases he
  ·cases he
 ·cases he
def S6(s:bg K G ok w0 h w){t:aE}{cs:List AV}(hz:(fa P t).bind AV.cF=aa cs):
 ∃K' v w',K.Le K'/\bg K' G ok w0 (h.box cs).2 w'/\aI K' (h.box cs).1 v/\(Instr.alloc t ab (.tuple #[])).run P w=.ok v w':=by
 obtain⟨z,fY,gI,rH⟩:=wJ (K:=K) hz w;obtain⟨q1,q2⟩:=s.EG t gI rH;exact⟨_,_,_,K.zf _,q1,q2,by simp[Instr.alloc,fY,newVar,newRow]⟩
def Ui(s:bg K G ok w0 h w){t:aE}{x:AV}{cs:List AV}(hc:x.cF=aa cs){c:aC}(hx:aI K x c):
 ∃K' v w',K.Le K'/\bg K' G ok w0 (h.box cs).2 w'/\aI K' (h.box cs).1 v/\(Instr.box t c).run P w=.ok v w':=by
 obtain⟨r1,r2⟩:=DD hc hx;obtain⟨q1,q2⟩:=s.EG t r1 r2;exact⟨_,_,_,K.zf _,q1,q2,by simp[Instr.box,newVar,newRow]⟩
def aay(s:bg K G ok w0 h w){t:aE}{l c x:AV}{h':ae}(he:zm P h t l c=aa (x,h')){vl vc:aC}(hl:aI K l vl)(hc:aI K c vc):
 ∃K' v w',K.Le K'/\bg K' G ok w0 h' w'/\aI K' x v/\(Instr.makeSlice t vl vc).run P w=.ok v w':=by
 unfold zm at he;split at he
 ·rename_i elem kl l kc c hu;obtain⟨rfl,_⟩:=hl.dF;obtain⟨rfl,_⟩:=hc.dF;split at he
  ·rename_i i zero hi hz;obtain⟨z,fY,gI,rH⟩:=wJ (K:=K) hz w;split at he
   ·rename_i HE;obtain⟨h1,h2,h3,h4,h5,h6⟩:=HE;injection he with he;obtain⟨rfl,rfl⟩:=fG he;have hzero:i.zero=aa z:=by
     simp only[zeroValue,Sem.run_bind,oj hi,Result.andThen_ok] at fY;cases BG:i.zero with|none=>rw[BG] at fY;simp at fY|some v=>rw[BG] at fY;simp at fY;rw[fY]
    have sU:z.cells.size=i.size:=(by rw[<-h6,gI.length];simp);have iG:=run_make (P:=P) w t elem i z hu hi hzero kl kc l c h1 h2 h4 aj;have kT:(madeCells z.cells (c.toNat * i.size)).toList=(gC c.toNat z.cells.toList).flatten:=(by rw[<-sU];exact Ca _ _);obtain⟨q1,q2⟩:=s.EG (cells:=madeCells z.cells (c.toNat * i.size)) elem (by rw[kT];exact gI.xj _) (E7 rH _);cases q2 with|box _ _ _ hb=>exact⟨_,_,_,K.zf _,q1,.arr _ _ _ _ _ _ _ hb aj (aK _) (.inl rfl) (.inl rfl),iG⟩
   ·cases he
  ·cases he
 ·cases he
def oC{hi:Nat}{x:Option AV}{d n:Nat}(he:gM hi x d=aa n){x':Option aC}(hx:∀a,x=aa a->∃c,x'=aa c/\aI K a c)(hn:x=ah->x'=ah)(w:aT):
 (x'=ah/\n=d/\x=ah)∨(∃c,x'=aa c/\(∀(top:Nat) (code:Go.BoundsCode),hi<=top->(Instr.sliceBound c top code).run P w=.ok n w)/\n<=hi/\x.isSome=ab):=by
 unfold gM at he;split at he
 ·injection he with he;subst he;exact .inl ⟨hn rfl,rfl,rfl⟩
 ·rename_i _ k m;split at he
  ·rename_i hc;injection he with he;subst he;obtain⟨c,rfl,hv⟩:=hx _ rfl;obtain⟨rfl,_⟩:=hv.dF;refine .inr ⟨_,rfl,λtop code ht=>?_,by omega,rfl⟩;have:m<=(top:Int):=(by omega);simp[Instr.sliceBound,asIntOf,hc.1,this]
  ·cases he
 ·cases he
def yF{lo hi mx:Option AV}{lo' qA mx':Option aC}(sL:∀a,lo=aa a->∃c,lo'=aa c/\aI K a c)(nlo:lo=ah->lo'=ah)
 (sJ:∀a,hi=aa a->∃c,qA=aa c/\aI K a c) (nhi:hi=ah->qA=ah) (oM:∀a,mx=aa a->∃c,mx'=aa c/\aI K a c) (nmx:mx=ah->mx'=ah)
 {top az len m hb l:Nat} (isSlice:Bool) (e1:gM top mx top=aa m) (e2:gM m hi len=aa hb) (e3:gM hb lo 0=aa l)
 (aP:len<=az) (Zh:top<=az) (xA:mx.isSome=ab->hi.isSome=ab) (w:aT):
 ∃m',(Instr.sliceBounds isSlice len az lo' qA mx').run P w=.ok (l,hb,m') w/\(mx=ah->m'=az/\m=top)/\(mx.isSome=ab->m'=m)/\l<=hb/\(hi=ah->hb=len)/\hb<=m'/\(hi.isSome=ab->hb<=m):=by
 rcases oC (P:=P) e1 oM nmx w with⟨rfl,rfl,rfl⟩|⟨c1,rfl,q1,jN,hO⟩
 ·rcases oC (P:=P) e2 sJ nhi w with⟨rfl,rfl,rfl⟩|⟨c2,rfl,q2,kA,iZ⟩
  ·rcases oC (P:=P) e3 sL nlo w with⟨rfl,rfl,rfl⟩|⟨c3,rfl,q3,Bi,_⟩
   ·exact⟨az,by simp[Instr.sliceBounds],λ_=>⟨rfl,rfl⟩,bh,cz _,λ_=>rfl,aP,by simp⟩
   ·have q3':=λcode=>q3 hb code (aK _);exact⟨az,by simp[Instr.sliceBounds,q3'],λ_=>⟨rfl,rfl⟩,bh,Bi,λ_=>rfl,aP,by simp⟩
  ·have q2':=λcode=>q2 az code aj;rcases oC (P:=P) e3 sL nlo w with⟨rfl,rfl,rfl⟩|⟨c3,rfl,q3,Bi,_⟩
   ·exact⟨az,by simp[Instr.sliceBounds,q2'],λ_=>⟨rfl,rfl⟩,bh,cz _,λe=>by simp[e] at iZ,by omega,λ_=>kA⟩
   ·have q3':=λcode=>q3 hb code (aK _);exact⟨az,by simp[Instr.sliceBounds,q2',q3'],λ_=>⟨rfl,rfl⟩,bh,Bi,λe=>by simp[e] at iZ,by omega,λ_=>kA⟩
 ·have iZ:=xA hO;have q1':=λcode=>q1 az code Zh;rcases oC (P:=P) e2 sJ nhi w with⟨_,_,rfl⟩|⟨c2,rfl,q2,kA,_⟩
  ·simp at iZ
  ·have q2':=λcode=>q2 m code (aK _);rcases oC (P:=P) e3 sL nlo w with⟨rfl,rfl,rfl⟩|⟨c3,rfl,q3,Bi,_⟩
   ·exact⟨m,by simp[Instr.sliceBounds,q1',q2'],λe=>by simp[e] at hO,λ_=>rfl,cz _,λe=>by simp[e] at iZ,kA,λ_=>kA⟩
   ·have q3':=λcode=>q3 hb code (aK _);exact⟨m,by simp[Instr.sliceBounds,q1',q2',q3'],λe=>by simp[e] at hO,λ_=>rfl,Bi,λe=>by simp[e] at iZ,kA,λ_=>kA⟩
def Jv{ρ:bI->AV}{ρ':bI->aC}(hρ:∀x,aI K (ρ x) (ρ' x))(o:Option bI):
 (∀a,o.map ρ=aa a->∃c,o.map ρ'=aa c/\aI K a c)/\(o.map ρ=ah->o.map ρ'=ah):=by
 cases o with|none=>exact⟨λa h=>(by cases h),λ_=>rfl⟩|some x=>exact⟨λa h=>⟨_,rfl,(by injection h with h;subst h;exact hρ x)⟩,λh=>(by cases h)⟩
def aag{k:Tok}{sz:Nat}{es:List (List AV)}{g off az size l hb m':Nat}{toEnd sZ:Bool}
 (hv:aI K (.list k sz es) (.slice (aa ⟨g,off,ah⟩) es.length az)) (bG:size=sz∨es=[]) (hl:l<=hb) (hh:hb<=es.length) (hm:hb<=m') (gu:m'<=az)
 (eU:toEnd=ab->hb=es.length/\m'=az) (Ea:sZ=ab->m'=hb):
 aI K (.list (jq k toEnd sZ (hb - l)) sz ((es.take hb).drop l)) (.slice (aa (if m'=l then ⟨g,off,ah⟩ else (⟨g,off,ah⟩:Addr).add (l * size))) (hb - l) (m' - l)):=by
 cases hv with
 |jV=>
  have nZ:hb=0:=by simpa using hh
  subst nZ;have l0:l=0:=by omega
  subst l0;have m0:m'=0:=by omega
  subst m0;refine .list _ sz [] g off 0 0 [] rfl bh .nil bh ⟨aK _,?_⟩ rfl;unfold jq;cases toEnd<;>cases sZ<;>simp
 |list _ _ _ _ _ n _ cells hn hr dJ iu ht ha=>
  have Bh:((es.take hb).drop l).length=hb - l:=by simp;omega
  have XJ:(if m'=l then (⟨g,off,ah⟩:Addr) else (⟨g,off,ah⟩:Addr).add (l * size))=⟨g,if m'=l then off else off+l * size,ah⟩:=by
   split
   ·rfl
   ·rw[Addr.im]
  rw[XJ];have gg:∀r∈(es.take hb).drop l,r.length=sz:=λr hm=>hr r (Au (Gj hm));have mM:((es.take hb).drop l).flatten=(es.flatten.take (hb * sz)).drop (l * sz):=by rw[WL (λr hm=>hr r (Au hm)),ML hr]
  refine .list _ sz _ g _ _ _ ((cells.take (hb * sz)).drop (l * sz)) Bh.symm gg (by rw[mM];exact(dJ.take _).drop _) (λj c hj=>?_) ?_ ?_
  ·simp only[yu,nU] at hj;split at hj
   ·rename_i ay;have bL:es≠[]:=(by rintro rfl;simp only[KU] at dJ;cases dJ;simp at hj);have xI:size=sz:=bG.resolve_right bL;have H5:l<hb:=by
     rcases dp l hb with h|h
     ·exact h
     ·have:hb * sz<=l * sz:=oy _ h;omega
    rw[ax aj,xI];have:=iu _ _ hj;rw[<-this];congr 1;omega
   ·cases hj
  rotate_left
  ·rw[dn] at ha ⊢;intro x hx;rw[mM] at hx;exact ha x (Au (Gj hx))
  ·refine⟨aj,?_⟩;have zb:=ht.2;cases k with
   |nil=>exact zb.elim|tight=>
    simp only[jq];simp only at zb;cases toEnd with
    |true=>obtain⟨e1,e2⟩:=eU rfl;simp;omega
    |false=>
     cases sZ with|true=>have:=Ea rfl;simp;omega|false=>simp
   |held=>
    simp only[jq];cases sZ with|true=>have:=Ea rfl;simp;omega|false=>simp
   |free t=>
    simp only[jq];simp only at zb;cases sZ with
    |true=>have:=Ea rfl;simp;omega|false=>
     by_cases hc:(toEnd&&hb - l !=0)=ab
     ·simp only[dP,if_false,hc,if_true];simp only[aL,bne_iff_ne,ne_eq] at hc;obtain⟨e1,e2⟩:=eU hc.1;have bL:es≠[]:=(by rintro rfl;simp at e1;omega);have xI:size=sz:=bG.resolve_right bL;obtain⟨t1,t2,t3,t4⟩:=zb;subst xI;rw[ax aj];refine⟨t1,t2,?_,?_⟩
      ·rw[t3,<-e1,Gn];have:l * size<=hb * size:=oy _ hl;omega
      ·rw[e2,Gn];have:l * size<=az * size:=oy _ aj;omega
     ·simp only[dP,if_false,hc]
def aew{t:aE}{x y:AV}{lo hi mx:Option bI}{ρ:bI->AV}{ρ':bI->aC}(hρ:∀x,aI K (ρ x) (ρ' x))
 (he:qS P t x (lo.map ρ) (hi.map ρ) (mx.map ρ)=aa y) {c:aC} (hx:aI K x c) (w:aT):
 ∃v,(Instr.sliceAt t c (lo.map ρ') (hi.map ρ') (mx.map ρ')).run P w=.ok v w/\aI K y v:=by
 obtain⟨sL,nlo⟩:=Jv hρ lo;obtain⟨sJ,nhi⟩:=Jv hρ hi;obtain⟨oM,nmx⟩:=Jv hρ mx;unfold qS at he;split at he
 ·cases he
 rename_i Nh;have xA:(mx.map ρ).isSome=ab->(hi.map ρ).isSome=ab:=by
  intro h1;cases h2:hi.map ρ with|some _=>rfl|none=>rw[h1,h2] at Nh;simp at Nh
 split at he
 ·rename_i s hu;split at he
  ·cases he
  rename_i YL;have YM:mx.map ρ=ah:=by simpa using YL
  split at he
  ·rename_i hb e2;split at he
   ·rename_i l e3;injection he with he;subst he;obtain⟨rfl,_⟩:=hx.dF;obtain⟨m',q1,q2,_⟩:=yF (P:=P) (mx:=ah) (mx':=ah) sL nlo sJ nhi bh bh ak (top:=s.size) (az:=s.size) (m:=s.size) rfl e2 e3 (aK _) (aK _) bh w;refine⟨_,?_,.v (.string (s.extract l hb)) rfl⟩;simp only[Instr.sliceAt,Sem.run_bind,cb hu,Result.andThen_ok,Instr.slice,nmx YM];simp[q1]
   ·cases he
  ·cases he
 ·rename_i elem k sz es hu;split at he
  ·rename_i size m hs e1;split at he
   ·rename_i hb e2;split at he
    ·rename_i l e3;split at he
     ·rename_i bG;injection he with he;subst he;have vp:hb<=es.length:=by rcases oC (P:=P) e1 oM nmx w with⟨_,rfl,_⟩|⟨_,_,_,jN,_⟩<;>rcases oC (P:=P) e2 sJ nhi w with⟨_,rfl,_⟩|⟨_,_,_,kA,_⟩<;>omega
      cases hx with
      |nil=>
       obtain⟨m',q1,q2,q3,q4,q5,q6,q7⟩:=yF (P:=P) sL nlo sJ nhi oM nmx ab (top:=0) (az:=0) (len:=0) e1 e2 e3 (aK _) (aK _) xA w;have nZ:hb=0:=(by simpa using vp);subst nZ;have l0:l=0:=(by omega);subst l0;have vB:m'=0:=by
        rcases oC (P:=P) e1 oM nmx w with⟨_,_,hn⟩|⟨_,_,_,jN,hO⟩
        ·exact(q2 hn).1
        ·have:=q3 hO;simp at jN;omega
       subst vB;refine⟨.slice ah 0 0,?_,?_⟩
       ·simp only[Instr.sliceAt,Sem.run_bind,cb hu,Result.andThen_ok,Instr.slice,q1,kJ hs];simp
       ·simp only[jq,So,RU];exact .nil _
      |jV _ a0=>
       obtain⟨m',q1,q2,q3,q4,q5,q6,q7⟩:=yF (P:=P) sL nlo sJ nhi oM nmx ab (top:=0) (az:=0) (len:=0) e1 e2 e3 (aK _) (aK _) xA w;have nZ:hb=0:=(by simpa using vp);subst nZ;have l0:l=0:=(by omega);subst l0;have vB:m'=0:=by
        rcases oC (P:=P) e1 oM nmx w with⟨_,_,hn⟩|⟨_,_,_,jN,hO⟩
        ·exact(q2 hn).1
        ·have:=q3 hO;simp at jN;omega
       subst vB;refine⟨.slice (aa a0) 0 0,?_,?_⟩
       ·simp only[Instr.sliceAt,Sem.run_bind,cb hu,Result.andThen_ok,Instr.slice,q1,kJ hs];simp
       ·have YE:m=0:=by
         rcases oC (P:=P) e1 oM nmx w with⟨_,hn,_⟩|⟨_,_,_,jN,hO⟩
         ·simpa using hn
         ·simpa using jN
        subst YE;have X5:∀q:Option AV,jq .tight (decide (0=([]:List (List AV)).length)&&q.isNone) (q.isSome&&decide (0=0)) (0 - 0)=.tight:=(by intro q;cases q<;>rfl);rw[X5];simp only[So,RU];exact .jV _ _
      |list _ _ _ g off n az cells hn hr dJ iu ht ha=>
       subst hn;obtain⟨m',q1,q2,q3,q4,q5,q6,q7⟩:=yF (P:=P) sL nlo sJ nhi oM nmx true (top:=es.length) (az:=az) (len:=es.length) e1 e2 e3 ht.1 ht.1 xA w;have YG:m'<=az:=by
        rcases oC (P:=P) e1 oM nmx w with⟨_,_,hn⟩|⟨_,_,_,jN,hO⟩
        ·rw[(q2 hn).1];exact aK _
        ·have:=q3 hO;have:=ht.1;omega
       refine⟨.slice (aa (if m'=l then ⟨g,off,ah⟩ else (⟨g,off,ah⟩:Addr).add (l * size))) (hb - l) (m' - l),?_,?_⟩
       ·simp only[Instr.sliceAt,Sem.run_bind,cb hu,Result.andThen_ok,Instr.slice,q1,kJ hs,Sem.run_pure];congr 2;split<;>rfl
       ·refine aag (.list _ _ _ g off _ az cells rfl hr dJ iu ht ha) bG q4 vp q6 YG (λh=>?_) (λh=>?_)
        ·simp only[aL,decide_eq_true_eq,Option.isNone_iff_eq_none] at h;exact⟨h.1,(q2 h.2).1⟩
        ·simp only[aL,decide_eq_true_eq] at h;rw[q3 h.1];exact h.2.symm
     ·cases he
    ·cases he
   ·cases he
  ·cases he
 ·rename_i elem b off len az hu;split at he
  ·rename_i size m hs e1;split at he
   ·rename_i hb e2;split at he
    ·rename_i l e3;cases hx with
     |arr _ g _ _ _ fy ir hβ hl mJ mN da=>
      obtain⟨m',q1,q2,q3,q4,q5,q6,q7⟩:=yF (P:=P) sL nlo sJ nhi oM nmx ab (top:=az) (az:=ir) (len:=len) e1 e2 e3 aj mJ xA w;have hmc:m<=az:=(by rcases oC (P:=P) e1 oM nmx w with⟨_,q,_⟩|⟨_,_,_,q,_⟩<;>omega);have hmm:m<=m':=by
       cases hq:yy ρ mx with|none=>have:=q2 hq;omega|some z=>have:=q3 (by rw[hq];rfl);omega
      have vp:hb<=m:=by
       cases hq:yy ρ mx with
       |none=>
        cases jP:yy ρ hi with|none=>have:=q5 jP;have:=q2 hq;omega|some z=>exact q7 (by rw[jP];rfl)
       |some z=>have:=q3 (by rw[hq];rfl);omega
      have iG:(Instr.sliceAt t (.slice (aa ⟨g,fy,ah⟩) len ir) (yy ρ' lo) (yy ρ' hi) (yy ρ' mx)).run P w=.ok (.slice (aa ⟨g,if m'=l then fy else fy+l * size,ah⟩) (hb - l) (m' - l)) w:=by
       simp only[Instr.sliceAt,Sem.run_bind,cb hu,Result.andThen_ok,Instr.slice,q1,kJ hs,Sem.run_pure];congr 2;split
       ·rfl
       ·simp[Addr.im]
      refine⟨_,iG,?_⟩;split at he
      ·cases he
      rename_i y9;split at he
      ·rename_i xB;injection he with he;subst he;have:=q3 xB.1;rw[(aj:hb - l=0),(aj:m' - l=0)];exact .jV _ _
      ·injection he with he;subst he;refine .arr _ _ _ _ _ _ _ hβ aj aj ?_ ?_
       ·rcases mN with rfl|hz
        ·by_cases xB:m=l
         ·exact .inr aj
         ·rw[ax aj,ax xB];exact .inl rfl
        ·exact .inr aj
       ·cases hq:yy ρ mx with
        |some z=>have:=q3 (by rw[hq];rfl);exact .inl aj
        |none=>
         obtain⟨r1,r2⟩:=q2 hq;by_cases xB:m=l
         ·exact .inr (.inl aj)
         ·rw[ax xB];by_cases vA:l=0
          ·subst vA;rcases da with r|r|r|⟨sz,room,r3,r4,r5⟩
           ·exact .inl aj
           ·exact .inr (.inl aj)
           ·exact .inr (.inr (.inl aj))
           ·exact .inr (.inr (.inr ⟨sz,room,by rw[r2];exact r3,r4,by rw[r1];exact r5⟩))
          ·exact .inr (.inr (.inl (by have:=Sv (Sx vA) (Sx y9);omega)))
    ·cases he
   ·cases he
  ·cases he
 ·rename_i n elem b off hu;split at he
  ·rename_i size m hs e1;split at he
   ·rename_i hb e2;split at he
    ·rename_i l e3;injection he with he;subst he;cases hx with
     |box _ g _ hβ=>
      obtain⟨m',q1,q2,q3,q4,q5,q6,q7⟩:=yF (P:=P) sL nlo sJ nhi oM nmx ak (top:=n) (az:=n) (len:=n) e1 e2 e3 (aK _) (aK _) xA w;have hm:m'=m:=by
       rcases oC (P:=P) e1 oM nmx w with⟨_,_,hn⟩|⟨_,_,_,jN,hO⟩
       ·have:=q2 hn;omega
       ·exact q3 hO
      subst hm;refine⟨.slice (aa ⟨g,if m'=l then off else off+l * size,ah⟩) (hb - l) (m' - l),?_,.arr _ _ _ _ _ _ _ hβ aj (aK _) (.inl rfl) (.inl rfl)⟩;simp only[Instr.sliceAt,Sem.run_bind,cb hu,Result.andThen_ok,Instr.sureAddr,q1,kJ hs,Sem.run_pure];congr 3;split
      ·rfl
      ·simp[Addr.im]
    ·cases he
   ·cases he
  ·cases he
 ·cases he
def Hm{f:Field}{n:Nat}(hs:cU P f.type=aa n)(hn:n≠0)(g o:Nat)(w:aT):(fieldPlace ⟨g,o,ah⟩ f).run P w=.ok ⟨g,o+f.offset,ah⟩ w:=by simp[fieldPlace,kJ hs,hn,Addr.im]
def WI{t:aE}{x y:AV}{f:Nat}(he:cN P t x f=aa y){c:aC}(hx:aI K x c)(w:aT):
 ∃v,(Instr.fieldAt t c f).run P w=.ok v w/\aI K y v:=by
 unfold cN at he;split at he
 ·rename_i fields hu;split at he
  ·rename_i fd hf;split at he
   ·cases he
   ·rename_i n uf hs;have hn:n≠0:=λe=>uf e;split at he
    ·rename_i r off;injection he with he;subst he;cases hx with|box b g _ hb=>exact⟨_,by simp[Instr.fieldAt,cb hu,hf,Instr.sureAddr,Hm hs hn],.box _ _ _ hb⟩|dj g _=>exact⟨_,by simp[Instr.fieldAt,cb hu,hf,Instr.sureAddr,Hm hs hn],.dj _ _⟩
    ·rename_i sz es i off;injection he with he;subst he;cases hx with|elem _ _ _ _ g o p cells hr hv hc hi hp ha=>exact⟨.pointer (aa ⟨g,p+fd.offset,ah⟩),by simp[Instr.fieldAt,cb hu,hf,Instr.sureAddr,Hm hs hn],.elem _ _ _ _ g o _ cells hr hv hc hi aj ha⟩
    ·cases he
   ·cases he
  ·cases he
 ·cases he
def Zx{t:aE}{x ix y:AV}(he:oN P t x ix=aa y){c ci:aC}(hx:aI K x c)(hi:aI K ix ci)(w:aT):
 ∃v,(Instr.indexAt t c ci).run P w=.ok v w/\aI K y v:=by
 unfold oN at he;split at he
 ·rename_i elem k sz es kk i hu;obtain⟨rfl,_⟩:=hi.dF;split at he
  ·rename_i hc;injection he with he;subst he;cases hx with|nil=>simp at hc;omega|jV=>simp at hc;omega|list _ _ _ g off n az cells hn hr hv iu ht ha=>subst hn;refine⟨.pointer (aa ⟨g,off+i.toNat * sz,ah⟩),?_,.elem _ _ _ _ g off _ cells hr hv iu aj aj ha⟩;simp[Instr.indexAt,cb hu,asIntOf,hc.1,hc.2.1,kJ hc.2.2,Addr.im]
  ·cases he
 ·rename_i elem b off len az kk i hu;obtain⟨rfl,_⟩:=hi.dF;split at he
  ·rename_i size hs;split at he
   ·rename_i hc;injection he with he;subst he;cases hx with
    |arr _ g _ _ _ fy ir hb hl mJ mN da=>
     have:fy=off:=by rcases mN with p|p<;>omega
     subst this;exact⟨_,by simp[Instr.indexAt,cb hu,asIntOf,hc.1,hc.2,kJ hs,Addr.im],.box _ _ _ hb⟩
   ·cases he
  ·cases he
 ·rename_i len elem r off kk i hu;obtain⟨rfl,_⟩:=hi.dF;split at he
  ·rename_i size hs;split at he
   ·rename_i hc;injection he with he;subst he;cases hx with|box b g _ hb=>exact⟨_,by simp[Instr.indexAt,cb hu,asIntOf,hc.1,hc.2,kJ hs,Addr.im,Instr.sureAddr],.box _ _ _ hb⟩|dj g _=>exact⟨_,by simp[Instr.indexAt,cb hu,asIntOf,hc.1,hc.2,kJ hs,Addr.im,Instr.sureAddr],.dj _ _⟩
   ·cases he
  ·cases he
 ·rename_i len elem sz es k off kk i hu;obtain⟨rfl,_⟩:=hi.dF;split at he
  ·rename_i size hs;split at he
   ·rename_i hc;injection he with he;subst he;cases hx with|elem _ _ _ _ g o p cells hr hv iu qA hp ha=>exact⟨.pointer (aa ⟨g,p+i.toNat * size,ah⟩),by simp[Instr.indexAt,cb hu,asIntOf,hc.1,hc.2,kJ hs,Addr.im,Instr.sureAddr],.elem _ _ _ _ g o _ cells hr hv iu qA aj ha⟩
   ·cases he
  ·cases he
 ·cases he
def O8{t:aE}{cs:List AV}{off:Nat}{y:AV}(he:EZ P t cs off=aa y){vs:Array aC}(hx:aM K cs vs.toList)(w:aT):
 ∃v,(part t vs off).run P w=.ok v w/\aI K y v:=by
 unfold EZ at he;split at he
 ·rename_i xk;simp only[cn] at he;obtain⟨n,hs,rfl⟩:=he;refine⟨.agg (vs.extract off (off+n)),by simp[part,Fy xk,kJ hs],.agg _ _ ?_⟩;have:(vs.extract off (off+n)).toList=(vs.toList.drop off).take n:=by rw[Rq,RW];congr 1;omega
  rw[this];exact(hx.drop off).take n
 ·rename_i xk;obtain⟨c,hc,hr⟩:=hx.get he;exact⟨c,by simp only[part,Sem.run_bind,Fy xk,Result.andThen_ok];simp only[dP,if_false];rw[show vs[off]?=aa c by simpa using hc];rfl,hr⟩
 ·cases he
def Zz{t:aE}{x ix y:AV}(he:BH P t x ix=aa y){c ci:aC}(hx:aI K x c)(hi:aI K ix ci)(w:aT):
 ∃v,(Instr.index t c ci).run P w=.ok v w/\aI K y v:=by
 unfold BH at he;split at he
 ·rename_i s kk i hu;obtain⟨rfl,_⟩:=hi.dF;obtain⟨rfl,_⟩:=hx.dF;split at he
  ·rename_i b hb;injection he with he;subst he;split at hb
   ·rename_i h0;refine⟨.int .u8 b.toNat,?_,.v _ rfl⟩;have:s[i.toNat]?=aa b:=(by have h1:i.toNat<s.data.size:=(wK.1 hb).1;have h2:s.data[i.toNat]=b:=(wK.1 hb).2;have h3:i.toNat<s.size:=h1;rw[getElem?_pos s i.toNat h3];exact congrArg aa h2);simp only[Instr.index,Sem.run_bind,asIntOf,Sem.run_pure,Result.andThen_ok,cb hu,aB h0,this]
   ·cases hb
  ·cases he
 ·rename_i len elem cs kk i hu;obtain⟨rfl,_⟩:=hi.dF;split at he
  ·rename_i size hs;split at he
   ·rename_i hc;cases hx with|agg _ vs dJ=>obtain⟨v,q1,q2⟩:=O8 he dJ w;exact⟨v,by simp only[Instr.index,Sem.run_bind,asIntOf,Sem.run_pure,Result.andThen_ok,cb hu,aB hc,kJ hs,q1],q2⟩
   ·cases he
  ·cases he
 ·cases he
def IG{t:aE}(he:isIface P t=aa ak):∃d,P.underlying t=aa d/\∀ms,d≠ .interface ms:=by
 unfold isIface at he;split at he
 ·cases he
 ·rename_i d h1 h2;exact⟨d,h2,λms e=>h1 ms e⟩
 ·cases he
def Tz{x y:AV}{xt a:aE}{okk:Bool}(he:nr P x a okk=aa y){c:aC}(hx:aI K x c)(w:aT):
 ∃v,(Instr.typeAssert c xt a okk).run P w=.ok v w/\aI K y v:=by
 unfold nr at he;split at he
 ·rename_i t x' ud;obtain⟨d,hu,hd⟩:=IG ud;cases hx with
  |iface _ _ c' hx=>
   split at he
   ·rename_i sQ;injection he with he;subst he;subst sQ;cases okk with
    |true=>refine⟨.tuple #[c',.bool ab],?_,.tuple _ _ (.cons _ _ _ _ hx (.cons _ _ _ _ (.v _ rfl) .nil))⟩;simp only[Instr.typeAssert,Sem.run_bind,cb hu,Result.andThen_ok];cases d<;>first|exact absurd rfl (hd _)|simp
    |false=>refine⟨c',?_,hx⟩;simp only[Instr.typeAssert,Sem.run_bind,cb hu,Result.andThen_ok];cases d<;>first|exact absurd rfl (hd _)|simp
   ·rename_i sQ;split at he
    ·rename_i aU;simp only[cn] at he;obtain⟨z,hz,rfl⟩:=he;obtain⟨v,fY,rfl⟩:=JV hz w;refine⟨.tuple #[v,.bool ak],?_,.tuple _ _ (.cons _ _ _ _ (EP v) (.cons _ _ _ _ (.v _ rfl) .nil))⟩;simp only[Instr.typeAssert,Sem.run_bind,cb hu,Result.andThen_ok];cases d<;>first|exact absurd rfl (hd _)|simp[sQ,aU,fY]
    ·cases he
 ·rename_i ud;obtain⟨d,hu,hd⟩:=IG ud;obtain⟨rfl,_⟩:=hx.dF;split at he
  ·rename_i aU;simp only[cn] at he;obtain⟨z,hz,rfl⟩:=he;obtain⟨v,fY,rfl⟩:=JV hz w;refine⟨.tuple #[v,.bool ak],?_,.tuple _ _ (.cons _ _ _ _ (EP v) (.cons _ _ _ _ (.v _ rfl) .nil))⟩;simp only[Instr.typeAssert,Sem.run_bind,cb hu,Result.andThen_ok];cases d<;>first|exact absurd rfl (hd _)|simp[aU,fY]
  ·cases he
 ·cases he
def Uh{op}{b}{x}(he:re op b=aa x):(op=.eql/\x=.v (.bool b))∨(op=.neq/\x=.v (.bool !b)):=by
 unfold re at he;split at he
 ·injection he with he;exact .inl ⟨rfl,he.symm⟩
 ·injection he with he;exact .inr ⟨rfl,he.symm⟩
 ·cases he
def LI{op:BinOp}{t:aE}{x y:bI}{a b r:AV}(he:Dq P op t x y a b=aa r){p q:aC}(ha:aI K a p)(hb:aI K b q)(w:aT):
 ∃v,(do eqGuard op t x y p q;binOp op t p q:Sem aC).run P w=.ok v w/\aI K r v:=by
 unfold Dq at he;split at he
 ·rename_i p' q' hp hq;have e1:=DY hp ha;have e2:=DY hq hb;subst e1;subst e2;simp only[ve] at he;obtain⟨z,h1,h2⟩:=he;exact⟨z,B7 h1 w,CC h2⟩
 ·cases he
def tV{op:BinOp}{t:aE}{x y:bI}{p q:aC}{b:Bool}{r:AV}(he:re op b=aa r)(hg:∀op,eqGuard op t x y p q=pure ())(w:aT)
 (Yh:∀d,(Op.equalIn (d+1) t p q).run P w=.ok b w) (h1:binOp .eql t p q=(do pure (.bool (<-Op.equal t p q)))) (h2:binOp .neq t p q=(do pure (.bool (!(<-Op.equal t p q))))):
 ∃v,(do eqGuard op t x y p q;binOp op t p q:Sem aC).run P w=.ok v w/\aI K r v:=by
 have gP:(Op.equal t p q).run P w=.ok b w:=Yh 9999;rcases Uh he with⟨rfl,rfl⟩|⟨rfl,rfl⟩
 ·exact⟨.bool b,by rw[hg,h1];simp[gP],.v _ rfl⟩
 ·exact⟨.bool !b,by rw[hg,h2];simp[gP],.v _ rfl⟩
def Oe{t:aE}(he:isIface P t=aa ab):∃ms,P.underlying t=aa (.interface ms):=by
 unfold isIface at he;split at he
 ·exact⟨_,‹_›⟩
 ·cases he
 ·cases he
def T7{op:BinOp}{t:aE}{x y:bI}{a b r:AV}(he:jo P op t x y a b=aa r){p q:aC}(ha:aI K a p)(hb:aI K b q)(w:aT):
 ∃v,(do eqGuard op t x y p q;binOp op t p q:Sem aC).run P w=.ok v w/\aI K r v:=by
 unfold jo at he;split at he
 ·rename_i s1 s2;have f1:=ha.dF.1;have f2:=hb.dF.1;subst f1;subst f2;split at he
  ·injection he with he;subst he;exact⟨.bool (s1.data.toList==s2.data.toList),by simp[eqGuard,binOp,Op.stringOp,ByteArray.toList_eq],.v _ rfl⟩
  ·injection he with he;subst he;exact⟨.bool !(s1.data.toList==s2.data.toList),by simp[eqGuard,binOp,Op.stringOp,ByteArray.toList_eq],.v _ rfl⟩
  ·split at he
   ·rename_i hl;injection he with he;subst he;refine⟨.string (s1++s2),?_,.v _ rfl⟩;have:¬(((s1.size+s2.size:Nat):Int)>IntKind.i64.max):=(by simp only[IntKind.max,IntKind.signed,IntKind.bits];simp;omega);simp only[eqGuard,binOp,Op.stringOp];simp only[ax this];simp
   ·cases he
  ·exact LI he ha hb w
 ·rename_i ti xi;split at he
  ·rename_i ud;obtain⟨ms,hu⟩:=Oe ud;cases ha with|iface _ _ c hx=>have f2:=hb.dF.1;subst f2;refine tV he (λop=>by cases op<;>rfl) w (λd=>?_) rfl rfl;simp only[Op.equalIn,Sem.run_bind,cb hu,Result.andThen_ok,Sem.run_pure]
  ·cases he
 ·rename_i ti xi;split at he
  ·rename_i ud;obtain⟨ms,hu⟩:=Oe ud;cases hb with|iface _ _ c hx=>have f2:=ha.dF.1;subst f2;refine tV he (λop=>by cases op<;>rfl) w (λd=>?_) rfl rfl;simp only[Op.equalIn,Sem.run_bind,cb hu,Result.andThen_ok,Sem.run_pure]
  ·cases he
 ·rename_i r0 o0;split at he
  ·rename_i e hu;have f2:=hb.dF.1;subst f2;cases ha<;>(refine tV he (λop=>by cases op<;>rfl) w (λd=>?_) rfl rfl;simp only[Op.equalIn,Sem.run_bind,cb hu,Result.andThen_ok,Sem.run_pure,Dd])
  ·cases he
 ·rename_i r0 o0;split at he
  ·rename_i e hu;have f2:=ha.dF.1;subst f2;cases hb<;>(refine tV he (λop=>by cases op<;>rfl) w (λd=>?_) rfl rfl;simp only[Op.equalIn,Sem.run_bind,cb hu,Result.andThen_ok,Sem.run_pure,Dd])
  ·cases he
 ·split at he
  ·rename_i hu;have f2:=hb.dF.1;subst f2;cases ha<;>(refine tV he (λop=>by cases op<;>rfl) w (λd=>?_) rfl rfl;simp only[Op.equalIn,Sem.run_bind,cb hu,Result.andThen_ok,Sem.run_pure,Dd])
  ·cases he
 ·split at he
  ·rename_i hu;have f2:=ha.dF.1;subst f2;cases hb<;>(refine tV he (λop=>by cases op<;>rfl) w (λd=>?_) rfl rfl;simp only[Op.equalIn,Sem.run_bind,cb hu,Result.andThen_ok,Sem.run_pure,Dd])
  ·cases he
 ·rename_i k sz es sz2;split at he
  ·rename_i e hu;have f2:q=.slice ah 0 0:=by
    cases hb with|nil=>rfl|list _ _ _ _ _ _ _ _ _ _ _ _ ht _=>exact ht.2.elim
   subst f2;cases ha with
   |nil=>refine tV he (λop=>by cases op<;>rfl) w (λd=>?_) rfl rfl;simp only[Op.equalIn,Sem.run_bind,cb hu,Result.andThen_ok,Sem.run_pure,Option.isNone_none,decide_true]
   |jV=>refine tV he (λop=>by cases op<;>rfl) w (λd=>?_) rfl rfl;simp only[Op.equalIn,Sem.run_bind,cb hu,Result.andThen_ok,Sem.run_pure,Dd];rfl
   |list _ _ _ g off n az cells hn hr hv hc ht _=>have hk:k≠ .nil:=λe=>(by subst e;exact ht.2);refine tV he (λop=>by cases op<;>rfl) w (λd=>?_) rfl rfl;simp only[Op.equalIn,Sem.run_bind,cb hu,Result.andThen_ok,Sem.run_pure,hk,decide_false]
  ·cases he
 ·exact LI he ha hb w
def afU{op:UnOp}{a r:AV}(he:CP P op a=aa r){p:aC}(ha:aI K a p)(w:aT):∃v,(Op.unary op p).run P w=.ok v w/\aI K r v:=by
 unfold CP at he;split at he
 ·rename_i p' hp;have e1:=DY hp ha;subst e1;simp only[ve] at he;obtain⟨z,h1,h2⟩:=he;exact⟨z,B7 h1 w,CC h2⟩
 ·cases he
end
section
variable {P:aQ} {K:aH} {G:Nat->Option (List AV)} {ok:bF->Nat->Code->Bool} {w0 w:aT} {h:ae}
def Ls{h}{d}{sz}{es}{t}(hd:∀n∈h.dead,n∈d)(ha:alive ({h with dead:=d}.fresh sz es).2 t=ab):
 t=h.tn∨(alive h t=ab/\t∉d):=by
 simp only[ae.fresh,alive,aL,decide_eq_true_eq,wM,List.contains_eq_mem,decide_eq_false_iff_not] at ha;obtain⟨vn,oG⟩:=ha;have vn:t<h.tn+1:=of_decide_eq_true vn;rcases dp t h.tn with ay|dy
 ·exact .inr ⟨by simp[alive,ay];exactλhm=>oG (hd t hm),oG⟩
 ·exact .inl aj
def bg.Hu{w':aT}(s:bg K G ok w0 h w){d:List Nat}(hd:∀n∈h.dead,n∈d){sz:Nat}{es:List (List AV)}{cells:Array aC}{e:aE}{fz:Nat × Nat}{az:Nat}
 (hr:∀r∈es,r.length=sz) (ha:es.flatten.all AV.eM=ab) (hv:aM K es.flatten (cells.toList.take (es.length * sz)))
 (Ig:w'.os=w.os) (Ir:w'.tape=w.tape) (Bq:w'.output=w.output) (bG:w'.heap.size=w.heap.size+1)
 (mj:∀k,k<w.heap.size->w'.heap[k]?=w.heap[k]?) (kY:w'.heap[w.heap.size]?=aa (.cells cells e fz))
 (gu:es.length<=az) (qx:az * sz<=cells.size) (D9:∀j,j<cells.size->sF fz j=ak):
 ∃K',K.Le K'/\bg K' G ok w0 ({h with dead:=d}.fresh sz es).2 w'/\aI K' ({h with dead:=d}.fresh sz es).1 (.slice (aa ⟨w.heap.size,0,ah⟩) es.length az):=by
 have xr:∀j,K.ic w.heap.size j=ah:=λj=>by
  cases hc:K.ic w.heap.size j with|none=>rfl|some c=>have:=s.lt_of_cell hc;omega
 have aP:es.length * sz<=cells.size:=cY (oy _ gu) qx;have et:=s.row (h':=({h with dead:=d}.fresh sz es).2) (w':=w') (g:=w.heap.size) (off:=0) (m:=es.length * sz) (cells:=cells) (e:=e) (fz:=fz) rfl rfl rfl
  (λt ht=>(Ls hd ht).imp id λhh=>⟨hh.1,λgP=>by obtain⟨_,_,_,_,_,_,h4,_⟩:=s.tok t hh.1;have:=lt_of_heap h4;omega⟩)
  s.size (λb hb=>by obtain⟨cs,aZ⟩:=βaa s hb;obtain⟨_,_,_,_,_,h3,_⟩:=s.box b _ cs hb aZ;have:=lt_of_heap h3;omega) (λj _=>xr j) aj Ig Ir Bq
  (λk o hk ho=>by rw[mj k (lt_of_heap ho)];exact ho) kY (λo ho=>by have:=lt_of_heap ho;omega) (λj c hc=>by rw[xr] at hc;cases hc) (cz _) aP (λj _ hl=>D9 j hl)
 have le:=aH.IQ (K:=K) (g:=w.heap.size) (off:=0) (m:=es.length * sz) (size:=cells.size) (cells:=λj=>cells[j]?) (λj _=>xr j) s.size;refine⟨_,le,et,?_⟩;refine .list (.free h.tn) sz es w.heap.size 0 _ az (cells.toList.take (es.length * sz)) rfl hr (hv.mono le) (λj c hj=>?_) ⟨gu,?_⟩ ha
 ·simp only[nU] at hj;split at hj
  ·rename_i ay;simp only[aH.row,gL];rw[aB (by exact⟨ev,cz _,ay⟩)];simpa using hj
  ·cases hj
 ·simp only[aH.row,s.tn,if_true];refine⟨aj,ev,by omega,by omega⟩
def LU(l:List UInt8):∀r∈l.map nX,r.length=1:=by intro r hr;simp only[wO] at hr;obtain⟨b,_,rfl⟩:=hr;rfl
def LS(l:List UInt8):(l.map nX).flatten=l.map λb=>AV.v (.int .u8 b.toNat):=by
 induction l with
 |nil=>rfl|cons b l ih=>simp[nX,ih]
def LV(l:List UInt8):aM K (l.map nX).flatten (l.map λb=>Value.int .u8 b.toNat):=by rw[LS];exact aM.map_mk λb _=>.v _ rfl
def LR(l:List UInt8):(l.map nX).flatten.all AV.eM=ab:=by rw[LS,dn];intro x hx;simp only[wO] at hx;obtain⟨b,_,rfl⟩:=hx;rfl
def afF(s:bg K G ok w0 h w){e:aE}{str:ByteArray}:
 ∃K' v w',K.Le K'/\bg K' G ok w0 (h.fresh 1 (str.data.toList.map nX)).2 w'/\aI K' (h.fresh 1 (str.data.toList.map nX)).1 v/\(Conv.stringToBytes e str).run P w=.ok v w':=by
 have hq:∃az,str.size<=az/\(choose (.appendCap str.size 0 e)).run P w=.ok az {w with drawn:=w.drawn+1}:=by refine⟨_,?_,by simp[Question.forced];rfl⟩;simp[Question.cut]
 obtain⟨az,gu,Bd⟩:=hq
 let w1:aT:={w with drawn:=w.drawn+1}
 let cells:Array aC:=str.data.map (λb=>.int .u8 b.toNat)++Array.replicate (az - str.size) (.int .u8 0)
 have aZ:cells.size=az:=by have:str.data.size=str.size:=rfl;simp only[cells,Array.size_append,Array.size_map,Array.size_replicate,this];try omega
 have aP:str.data.toList.length=str.size:=rfl
 let w2:aT:=({w1 with heap:=w1.heap.push (.cells cells e)}:aT).freeze {block:=w1.heap.size,off:=az} 1
 have kY:w2.heap[w.heap.size]?=aa (.cells cells e (az,az+1)):=by simp only[w2,World.freeze,w1,Gm,if_false,yl,if_true,Array.getElem?_push_size,cy];rfl
 have mj:∀k,k<w.heap.size->w2.heap[k]?=w.heap[k]?:=λk hk=>by simp only[w2,World.freeze,w1,yl];simp only[Gm,if_false,yl];rw[ax aj];exact xo w _ hk
 obtain⟨K',le,s',hv⟩:=s.Hu (w':=w2) (d:=h.dead) (λ_ hm=>hm) (sz:=1) (es:=str.data.toList.map nX) (cells:=cells) (e:=e) (fz:=(az,az+1)) (az:=az)
  (LU _) (LR _) (by have:cells.toList.take ((str.data.toList.map nX).length * 1)=str.data.toList.map λb=>Value.int .u8 b.toNat:=(by simp only[cells,ym,yn,jj,qj];rw[yw bh,o5 bh]);rw[this];exact LV _) rfl rfl rfl (by simp[w2,World.freeze,w1]) mj kY (by simp only[jj,aP];exact gu) aj (λj hj=>by simp[sF];omega)
 refine⟨K',_,w2,le,s',hv,?_⟩;have eQ:(str.data.toList.map nX).length=str.size:=by simp only[jj,aP]
 rw[eQ];simp only[Conv.stringToBytes,Sem.run_bind,Bd,Result.andThen_ok,newRow,run_newObj,Sem.run_pure,markStringish,run_shape];have El:({w1 with heap:=w1.heap.push (.cells cells e)}:aT).shape? w1.heap.size=aa (e,az):=by simp[World.shape?,aZ]
 simp only[w1,cells] at El;simp only[El,run_freeze,Result.andThen_ok,Sem.run_pure,w2,w1,cells]
def UB:∀{rows:List (List AV)} {l:List UInt8},bytesOf rows=aa l->∀{vs:List aC},aM K rows.flatten vs->
 ∃ns:List Int,vs=ns.map (.int .u8 ·)/\l=ns.map λn=>UInt8.ofNat n.toNat:=by
 intro rows
 induction rows with
 |nil=>intro l h vs hv;simp[bytesOf] at h;subst h;cases hv;exact⟨[],rfl,rfl⟩
 |cons r rows ih=>
  intro l h vs hv;simp only[bytesOf] at h;split at h
  ·rename_i b l' hb hl;injection h with h;subst h;unfold byteOf at hb;split at hb
   ·rename_i n;injection hb with hb;subst hb;simp only[oW,bR,bT] at hv;cases hv with|cons _ c _ cs hx hs=>obtain⟨ns,h1,h2⟩:=ih hl hs;exact⟨n::ns,by rw[hx.dF.1,h1];rfl,by rw[h2];rfl⟩
   ·cases hb
  ·cases h
def foldl_push(ns:List Int):∀acc:ByteArray,ns.foldl (λb a=>b.push (UInt8.ofNat a.toNat)) acc=⟨acc.data++(ns.map λn=>UInt8.ofNat n.toNat).toArray⟩:=by
 induction ns with
 |nil=>intro acc;simp|cons n ns ih=>intro acc;simp only[RZ,ih,gB];simp[ByteArray.push]
def zO(s:bg K G ok w0 h w){size:Nat}{x:AV}{rows:List (List AV)}(he:rowsOf h size x=aa rows){c:aC}(hv:aI K x c):
 ∃a az vals,c=.slice a rows.length az/\(∀r∈rows,r.length=size)/\aM K rows.flatten vals/\rows.flatten.all AV.eM=ab/\vals.length=rows.length * size/\
  (∀b,a=aa b->(loadCells b (rows.length * size)).run P w=.ok vals.toArray w)/\(a=ah->rows=[]):=by
 unfold rowsOf at he;split at he
 ·rename_i k sz es;split at he
  ·rename_i bG;injection he with he;subst he;cases hv with
   |nil=>exact⟨ah,0,[],rfl,by simp,.nil,rfl,by simp,λb hb=>(by cases hb),λ_=>rfl⟩|jV _ a0=>refine⟨aa a0,0,[],rfl,by simp,.nil,rfl,by simp,λb hb=>?_,λhb=>by cases hb⟩;have:=run_loadCells_list (P:=P) w b [] (λj v hj=>by simp at hj);simpa using this|list _ _ _ g off n az cells hn hr dJ iu ht ha=>
    subst hn;have hl:cells.length=es.length * sz:=(by rw[<-dJ.length,px hr]);have um:es.length * sz=es.length * size:=by
     rcases bG with h|h
     ·rw[h]
     ·simp[h]
    refine⟨aa ⟨g,off,ah⟩,az,cells,rfl,λr hm=>?_,dJ,ha,by rw[hl,um],λb hb=>?_,λhn=>by cases hn⟩
    ·rcases bG with h|h
     ·rw[<-h];exact hr r hm
     ·rw[h] at hm;simp at hm
    ·injection hb with hb;subst hb;have:=run_loadCells_list (P:=P) w ⟨g,off,ah⟩ cells (λj v hj=>by rw[Addr.im];exact s.ic _ _ _ (iu j v hj));rw[hl,um] at this;exact this
  ·cases he
 ·rename_i b off len az;split at he
  ·rename_i cs aZ;split at he
   ·rename_i qx;injection he with he;subst he;cases hv with
    |arr _ g _ _ _ fy ir hb hl mJ mN da=>
     obtain⟨_,_,ka,cells,e,k3,k4⟩:=s.box b g cs hb aZ;have Ym:∀n,off+n * size<=cs.length->((bt n).map λi=>(cs.drop (off+i * size)).take size).flatten=(cs.drop off).take (n * size):=by
      intro n
      induction n with
      |zero=>intro _;simp|succ n ih=>intro hn;rw[u0,Ar,yr,ih (by rw[ig] at hn;omega)];simp only[gB,List.map_nil,oW,KU,dI];rw[show(n+1) * size=n * size+size by rw[ig];omega,List.take_add,List.drop_drop]
     have hf:=Ym len qx;have xu:=(k4.1.drop off).take (len * size);have ey:cs.length<=cells.toList.length:=(by have:=k4.le;simpa using this);have vE:(((cells.toList.take cs.length).drop off).take (len * size)).length=len * size:=(by simp only[ng,C8];omega);refine⟨aa ⟨g,fy,ah⟩,ir,((cells.toList.take cs.length).drop off).take (len * size),by simp,λr hr=>?_,?_,?_,by rw[vE];simp,λb' eJ=>?_,λhn=>by cases hn⟩
     ·simp only[wO,List.mem_range] at hr;obtain⟨i,hi,rfl⟩:=hr;simp only[ng,C8];have:(i+1) * size<=len * size:=oy _ hi;rw[ig] at this;omega
     ·rw[hf];exact xu
     ·rw[hf,dn];intro x hx;exact dn.1 ka x (Gj (Au hx))
     ·injection eJ with eJ;subst eJ;have:=run_loadCells_list (P:=P) w ⟨g,fy,ah⟩ (((cells.toList.take cs.length).drop off).take (len * size)) (λj v hj=>by
       rcases mN with rfl|hz
       ·rw[Addr.im,cell_of k3];simp only[nU,yu] at hj;split at hj
        ·split at hj
         ·simpa using hj
         ·cases hj
        ·cases hj
       ·have vA:len=0:=(by omega);subst vA;simp at hj)
      have eQ:(((cells.toList.take cs.length).drop off).take (len * size)).length=((bt len).map λi=>(cs.drop (off+i * size)).take size).length * size:=(by rw[vE];simp);rw[eQ] at this;exact this
   ·cases he
  ·cases he
 ·cases he
def BV(s:bg K G ok w0 h w){size:Nat}{x:AV}{rows:List (List AV)}(he:s6 h size x=aa rows){c:aC}(hv:aI K x c):
 ∃vals,(Builtin.lenOf c).run P w=.ok rows.length w/\(∀r∈rows,r.length=size)/\aM K rows.flatten vals/\rows.flatten.all AV.eM=ab/\vals.length=rows.length * size/\
  (Builtin.firstCells size rows.length c).run P w=.ok vals.toArray w:=by
 unfold s6 at he;split at he
 ·rename_i str;split at he
  ·rename_i h1;injection he with he;subst he;subst h1;obtain⟨rfl,_⟩:=hv.dF;have hl:(str.data.toList.map nX).length=str.size:=(by rw[jj];rfl);refine⟨str.data.toList.map λb=>.int .u8 b.toNat,by rw[hl];rfl,LU _,LV _,LR _,by simp,?_⟩;rw[hl];have:str.extract 0 str.size=str:=(by simp);have e2:str.data.map (λb=>Value.int .u8 b.toNat)=(str.data.toList.map λb=>Value.int .u8 b.toNat).toArray:=(by apply F7;simp);simp only[Builtin.firstCells,this,Sem.run_pure,e2]
  ·cases he
 ·obtain⟨a,az,vals,rfl,hr,dJ,ha,aP,xy,jO⟩:=zO (P:=P) s he hv;refine⟨vals,rfl,hr,dJ,ha,aP,?_⟩;cases a with|none=>have:=jO rfl;subst this;have:vals=[]:=(by simpa using aP);subst this;rfl|some b=>exact xy b rfl
def Qo(z)(n):(Builtin.zeroCells z n).size=n * z.size:=by simp[Builtin.zeroCells]
def Xh(s:bg K G ok w0 h w){d:List Nat}(hd:∀n∈h.dead,n∈d){t0 t1 elem:aE}{ts:Array aE}{ty:aE}{i:TypeInfo}{d1:TypeDesc}(h0:ts[0]?=aa t0)(hu:P.underlying t0=aa (.slice elem))
 (h1:ts[1]?=aa t1) (ja:P.underlying t1=aa d1) (iR:∀k,d1≠ .int k) (hi:P.info? elem=aa i) (hz:(i.zero.map λz=>z.cells.size)=aa i.size)
 {es new:List (List AV)} {a:Option Addr} {az:Nat} {c cx:aC} (hc:c=.slice a es.length az) (gu:az<es.length+new.length)
 (hr:∀r∈es,r.length=i.size) (ha:es.flatten.all AV.eM=ab) {vals:List aC} (dJ:aM K es.flatten vals) (hf:(Builtin.firstCells i.size es.length c).run P {w with drawn:=w.drawn+1}=.ok vals.toArray {w with drawn:=w.drawn+1})
 {nv:List aC} (H6:(Builtin.lenOf cx).run P w=.ok new.length w) (Ek:∀r∈new,r.length=i.size) (NS:aM K new.flatten nv) (tY:new.flatten.all AV.eM=ab)
 (HP:(Builtin.firstCells i.size new.length cx).run P {w with drawn:=w.drawn+1}=.ok nv.toArray {w with drawn:=w.drawn+1})
 (hb:(es.length+new.length) * i.bytes<=140737488355328) (hm:es.length+new.length<=9223372036854775807):
 ∃K' v w',K.Le K'/\bg K' G ok w0 ({h with dead:=d}.fresh i.size (es++new)).2 w'/\aI K' ({h with dead:=d}.fresh i.size (es++new)).1 v/\(Builtin.append_ ts ty #[c,cx]).run P w=.ok v w':=by
 simp only[cn] at hz;obtain⟨z,hz,sU⟩:=hz;have hq:∃nc,es.length+new.length<=nc/\(choose (.appendCap (es.length+new.length) az elem)).run P w=.ok nc {w with drawn:=w.drawn+1}:=by refine⟨_,?_,by simp[Question.forced];rfl⟩;simp[Question.cut]
 obtain⟨nc,Bl,Bd⟩:=hq
 let rest:=Builtin.zeroCells z.cells (nc - (es.length+new.length))
 let cells:Array aC:=vals.toArray++nv.toArray++rest
 let w1:aT:={w with drawn:=w.drawn+1}
 let w2:aT:={w1 with heap:=w1.heap.push (.cells cells elem)}
 have lG:vals.length=es.length * i.size:=by rw[<-dJ.length,px hr]
 have eQ:nv.length=new.length * i.size:=by rw[<-NS.length,px Ek]
 have aP:(es++new).length * i.size=(vals++nv).length:=by rw[cO,cO,lG,eQ,ig]
 have hzero:(zeroValue elem).run P w1=.ok z w1:=by simp[zeroValue,oj hi,hz]
 have Yl:=growslice_fits (bytes:=i.bytes) gu hb;have iG:(Builtin.append_ ts ty #[c,cx]).run P w=.ok (.slice (aa ⟨w.heap.size,0,ah⟩) (es.length+new.length) nc) w2:=by
  subst hc;have e1:¬(((es.length+new.length:Nat):Int)>IntKind.i64.max):=by simp only[IntKind.max,IntKind.signed,IntKind.bits];simp;omega
  have e2:¬(Builtin.nextslicecap (es.length+new.length) az * i.bytes>2^48):=by omega
  have e3:¬(es.length+new.length<=az):=by omega
  cases d1<;>first|exact absurd rfl (iR _)|(simp only[Builtin.append_,h0,iB,j5,tD,Sem.run_bind,cb hu,Result.andThen_ok,sizeOf,oj hi,Sem.run_pure,h1,cb ja,dP,if_false,H6,e3,e1,e2,false_and,Bd,run_askRoom,hf,uU,if_true,HP,newRow,run_newObj,hzero,w1,w2,cells,rest])
 have hO:cells.size=nc * i.size:=by simp only[cells,KC,Sm,rest,Qo,lG,eQ,sU];rw[Gn];have:(es.length+new.length) * i.size<=nc * i.size:=oy _ Bl;rw[ig] at this ⊢;omega
 have kY:w2.heap[w.heap.size]?=aa (.cells cells elem (0,0)):=by simp[w2,w1]
 obtain⟨K',le,s',hv⟩:=s.Hu (w':=w2) hd (sz:=i.size) (es:=es++new) (cells:=cells) (e:=elem) (fz:=(0,0)) (az:=nc)
  (λr hm=>by rcases oZ.1 hm with hm|hm;exact hr r hm;exact Ek r hm) (by rw[yr,yq,ha,tY];rfl) (by have:cells.toList.take ((es++new).length * i.size)=vals++nv:=(by rw[aP];simp only[cells,ym];rw[yw bh];exact o5 bh);rw[this,yr];exact dJ.append NS) rfl rfl rfl (by simp[w2,w1]) (λk hk=>xo w _ hk) kY (by rw[cO];exact Bl) (by rw[hO];exact aK _) (λj _=>DZ j)
 rw[cO] at hv;exact⟨K',_,w2,le,s',hv,iG⟩
def agu(s:bg K G ok w0 h w){ts:Array aE}{ty elem:aE}{kn:IntKind}{a x y:AV}{h':ae}(hu:(ts[0]?).bind P.underlying=aa (.slice elem))(ja:(ts[1]?).bind P.underlying=aa (.int kn))
 (he:KA P h ts elem a x=aa (y,h')) {c cx:aC} (ha:aI K a c) (hx:aI K x cx):
 ∃K' v w',K.Le K'/\bg K' G ok w0 h' w'/\aI K' y v/\(Builtin.append_ ts ty #[c,cx]).run P w=.ok v w':=by
 unfold KA at he;split at he
 ·rename_i sz kk n;obtain⟨rfl,_⟩:=hx.dF;split at he
  ·rename_i i zero hi hz;obtain⟨z,fY,gI,rH⟩:=wJ (K:=K) hz w;split at he
   ·rename_i HE;obtain⟨h0,h1,h2,h3,h5,h6⟩:=HE;injection he with he;obtain⟨rfl,rfl⟩:=fG he;have hzero:i.zero=aa z:=by
     simp only[zeroValue,Sem.run_bind,oj hi,Result.andThen_ok] at fY;cases BG:i.zero with|none=>rw[BG] at fY;simp at fY|some v=>rw[BG] at fY;simp at fY;rw[fY]
    have sU:z.cells.size=i.size:=(by rw[<-h6,gI.length];simp);obtain⟨m,rfl⟩:∃m:Nat,n=m:=⟨n.toNat,by omega⟩;rw[Int.toNat_natCast];obtain⟨t0,t1,rfl⟩:∃t0 t1,ts=#[t0,t1]:=by
     obtain⟨l⟩:=ts
     match l,h0 with
     | [a,b],_=>exact⟨a,b,rfl⟩
    have hu:P.underlying t0=aa (.slice elem):=hu;have ja:P.underlying t1=aa (.int kn):=ja;have hm:m * i.bytes<=140737488355328:=(by have:((m * i.bytes:Nat):Int)<=140737488355328:=(by rw[Int.natCast_mul];exact h2);omega);have iG:=Go.Lib.run_append_nil_zeros (P:=P) w t0 t1 ty elem i z kk kn hu ja hi hzero m aj h5 aj aj;have dy:=grownCap_ge w m 0 elem;generalize grownCap w m 0 elem=gc at *
    have pC:(Builtin.zeroCells z.cells m).toList=(gC m z.cells.toList).flatten:=Ca _ _;have lG:(gC m z.cells.toList).flatten.length=(gC m zero).flatten.length:=(gI.xj m).length.symm;have eQ:(gC m zero).flatten.length=m * i.size:=px (sz:=i.size) (es:=gC m zero) (λr hr=>by rw[RV hr];exact h6)|>.trans (by rw[R9])
    have bG:(Builtin.zeroCells z.cells m++Builtin.zeroCells z.cells (gc - m)).size=gc * i.size:=by
     rw[KC,<-tC,<-tC,pC,lG,eQ];have e2:(Builtin.zeroCells z.cells (gc - m)).toList=(gC (gc - m) z.cells.toList).flatten:=Ca _ _;rw[e2,<-(gI.xj (gc - m)).length];have e3:(gC (gc - m) zero).flatten.length=(gc - m) * i.size:=px (sz:=i.size) (es:=gC (gc - m) zero) (λr hr=>by rw[RV hr];exact h6)|>.trans (by rw[R9])
     rw[e3,<-ig,Nat.add_sub_cancel' dy]
    obtain⟨q1,q2⟩:=(s.drew (w.drawn+1)).Jj (cs:=(gC m zero).flatten) (cells:=Builtin.zeroCells z.cells m++Builtin.zeroCells z.cells (gc - m)) elem (aa (m,i.size,gc * i.size))
     (by rw[ym,pC,yw (by rw[lG];exact aK _),o5 (by rw[lG];exact aK _)];exact gI.xj m) (E7 rH _)
     (λN sz room q=>by injection q with q;injection q with q1 q;injection q with q2 q3;subst q1 q2 q3;exact .inr ⟨eQ,by rw[bG];exact aK _⟩)
    have aP:h.boxes.length=K.β.length:=s.ga.symm;cases ha with
    |nil=>
     cases q2 with|box _ _ _ hb=>exact⟨_,_,_,K.zg _ _,q1,.arr _ _ _ _ _ _ _ hb (aK _) dy (.inl rfl) (.inr (.inr (.inr ⟨i.size,gc * i.size,by simp only[aH.kR,aP,if_true],h5,aK _⟩))),iG⟩
    |list _ _ _ _ _ _ _ _ _ _ _ _ ht _=>exact ht.2.elim
   ·cases he
  ·cases he
 ·cases he
set_option maxHeartbeats 1000000 in
def GP(s:bg K G ok w0 h w){ts:Array aE}{ty:aE}{a x y:AV}{h':ae}(he:iM P h ts a x=aa (y,h')){c cx:aC}(ha:aI K a c)(hx:aI K x cx):
 ∃K' v w',K.Le K'/\bg K' G ok w0 h' w'/\aI K' y v/\(Builtin.append_ ts ty #[c,cx]).run P w=.ok v w':=by
 unfold iM at he;split at he
 ·rename_i hu ja;exact agu s hu ja he ha hx
 ·rename_i elem d1 y7 hu ja;simp only[ve] at hu ja;obtain⟨t0,h0,hu⟩:=hu;obtain⟨t1,h1,ja⟩:=ja;have iR:∀k,d1≠ .int k:=λk e=>y7 k e;split at he
  ·cases he
  rename_i i hi;split at he
  ·cases he
  rename_i new kX;split at he;rotate_left
  ·cases he
  rename_i hz;obtain⟨nv,n1,n2,n3,n4,n5,n6⟩:=BV (P:=P) s kX hx;obtain⟨nv',n1',n2',n3',n4',n5',n6'⟩:=BV (P:=P) (s.drew (w.drawn+1)) kX hx;split at he
  ·rename_i k sz es;split at he;rotate_left
   ·cases he
   rename_i bG;have cu:rowsOf h i.size (.list k sz es)=aa es:=(by simp only[rowsOf];rw[aB bG]);obtain⟨b,az,vals,rfl,r1,r2,r3,r4,r5,r6⟩:=zO (P:=P) (s.drew (w.drawn+1)) cu ha;have hf:(Builtin.firstCells i.size es.length (.slice b es.length az)).run P {w with drawn:=w.drawn+1}=.ok vals.toArray {w with drawn:=w.drawn+1}:=by
    cases b with|none=>have:=r6 rfl;subst this;have:vals=[]:=(by simpa using r4);subst this;rfl|some b=>exact r5 b rfl
   split at he
   ·rename_i jO;injection he with he;obtain⟨rfl,rfl⟩:=Prod.mk.inj he;subst jO;have Ia:nv=[]:=(by simpa using n5);subst Ia;refine⟨K,.slice b es.length az,w,.refl K,s,ha,?_⟩;have gu:es.length<=az:=by
     cases ha with|nil=>exact aK _|jV=>exact aK _|list _ _ _ _ _ _ _ _ _ _ _ _ ht _=>exact ht.1
    have n1:(Builtin.lenOf cx).run P w=.ok 0 w:=n1;have n6:(Builtin.firstCells i.size 0 cx).run P w=.ok #[] w:=n6;cases d1<;>first|exact absurd rfl (iR _)|(cases b<;>simp only[Builtin.append_,h0,iB,j5,tD,Sem.run_bind,cb hu,Result.andThen_ok,sizeOf,oj hi,Sem.run_pure,h1,cb ja,dP,if_false,n1,gD,gu,if_true,uU,n6,storeCells])
   ·rename_i H9;have Bm:0<new.length:=by cases new with|nil=>exact absurd rfl H9|cons _ _=>simp
    split at he;rotate_left
    ·cases he
    rename_i hb;have grow:∀d:List Nat,(∀n∈h.dead,n∈d)->az<es.length+new.length->
     ∃K' v w',K.Le K'/\bg K' G ok w0 ({h with dead:=d}.fresh i.size (es++new)).2 w'/\aI K' ({h with dead:=d}.fresh i.size (es++new)).1 v/\(Builtin.append_ ts ty #[.slice b es.length az,cx]).run P w=.ok v w':=
     λd hd gu=>Xh s hd h0 hu h1 ja iR hi hz.2 rfl gu r1 r3 r2 hf n1 n2 n3' n4 n6' hb.1 hb.2
    split at he
    ·injection he with he;obtain⟨rfl,rfl⟩:=fG he;cases ha with|nil=>exact grow h.dead (λ_ hm=>hm) (by simpa using Bm)|list _ _ _ _ _ _ _ _ _ _ _ _ ht _=>exact ht.2.elim
    ·injection he with he;obtain⟨rfl,rfl⟩:=fG he;cases ha with|jV=>exact grow h.dead (λ_ hm=>hm) (by simpa using Bm)|list _ _ _ _ _ _ _ _ _ _ _ _ ht _=>exact grow h.dead (λ_ hm=>hm) (by have:=ht.2;simp only at this;omega)
    ·rename_i n;split at he;rotate_left
     ·cases he
     rename_i MU;simp only[aL,decide_eq_true_eq] at MU;obtain⟨eE,Y4⟩:=MU;injection he with he;obtain⟨rfl,rfl⟩:=fG he;rcases dp az (es.length+new.length) with gu|gu
     ·exact grow (n::h.dead) (λ_ hm=>dG _ hm) gu
     ·cases ha with
      |list _ _ _ g off n' _ cells hn hr dJ iu ht mg=>
       obtain⟨t1',t2,t3,t4⟩:=ht.2;obtain⟨k1,k2,k3,bc,be,bz,k4,k5,k6⟩:=s.tok n eE;subst t2;subst Y4;have Bc:bc.size=(K.tk n).2.2:=k5;have qx:off+es.length * i.size+nv.length<=bc.size:=(by have:(es.length+new.length) * i.size<=az * i.size:=oy _ gu;rw[ig] at this;omega);obtain⟨w',bY,q1,q2,q3⟩:=Cw (P:=P) (off+es.length * i.size) be bz nv 0 bc w k4 aj (AF n3 n4) (λj hj Yu=>by rw[<-vm k4];exact k6 j aj aj);have xw:bY.size=bc.size:=(by have h1:bY.toList.length=bc.toList.length:=(by rw[q3];simp only[cO,ng,C8,tC,gD];omega);simpa using h1);have HT:∀j,j<off+es.length * i.size->bY[j]?=bc[j]?:=λj hj=>(by rw[<-sd,q3,<-sd,lz,qh (by simp;omega),nU,aB aj]);have Yp:∀j,j<nv.length->bY[off+es.length * i.size+j]?=nv[j]?:=λj hj=>(by have ay:(bc.toList.take (off+es.length * i.size+0)).length=off+es.length * i.size:=(by simp;omega);rw[<-sd,q3,lz,uZ aj,ay,qh aj];congr 1;omega);have et:=s.row (h':=({h with dead:=n::h.dead}.fresh i.size (es++new)).2) (w':=w') (g:=(K.tk n).1) (off:=off+es.length * i.size) (m:=off+(es.length+new.length) * i.size) (cells:=bY) (e:=be) (fz:=bz) rfl rfl rfl
        (λt ht=>(Ls (λ_ hm=>dG _ hm) ht).imp id λhh=>⟨hh.1,λgP=>hh.2 (by rw[s.mD t n hh.1 eE gP];exact List.mem_cons_self ..)⟩)
        k1 k2 (λj hj=>k3 j aj) (by rw[q2.size];exact aK _) q2.os q2.tape q2.output (λk o hk ho=>(q2.other k hk).trans ho) q2.this (λo ho=>by rw[k4] at ho;injection ho with ho;subst ho;exact⟨_,_,_,rfl⟩)
        (λj c hc=>by
         have hj:j<off+es.length * i.size:=by
          rcases dp j (off+es.length * i.size) with h|h
          ·exact h
          ·rw[k3 j aj] at hc;cases hc
         rw[HT j hj,<-cell_of k4];exact s.ic _ _ _ hc)
        (by rw[ig];omega) (by rw[ig,xw];omega) (λj hj hl=>by rw[<-vm k4];rw[ig] at hj;exact k6 j aj aj)
       have le:=aH.IQ (K:=K) (g:=(K.tk n).1) (off:=off+es.length * i.size) (m:=off+(es.length+new.length) * i.size) (size:=bY.size) (cells:=λj=>bY[j]?) (λj hj=>k3 j aj) k1;have ey:cells.length=es.length * i.size:=(by rw[<-dJ.length,px hr]);refine⟨_,.slice (aa ⟨(K.tk n).1,off,ah⟩) (es.length+new.length) az,w',le,et,?_,?_⟩
       ·refine .list (.free h.tn) i.size (es++new) (K.tk n).1 off _ az (cells++nv) bh (λr hm=>by rcases oZ.1 hm with hm|hm;exact hr r hm;exact n2 r hm) (by rw[yr];exact(dJ.append n3).mono le) (λj c hj=>?_) ⟨gu,?_⟩ (by rw[yr,yq,mg,n4];rfl)
        ·rcases dp j cells.length with ay|dy
         ·rw[qh ay] at hj;exact le.ic _ _ _ (iu j c hj)
         ·rw[uZ dy] at hj;have HX:j - cells.length<nv.length:=(aF.1 hj).1;simp only[aH.row];rw[aB (by refine⟨ev,by omega,by rw[ig];omega⟩)];have:=Yp (j - cells.length) HX;rw[hj] at this;rw[<-this];congr 1;omega
        ·simp only[aH.row,s.tn,if_true];refine⟨aj,ev,ev,by omega⟩
       ·have Ba:(⟨(K.tk n).1,off,ah⟩:Addr).add (es.length * i.size)=⟨(K.tk n).1,off+es.length * i.size,ah⟩:=Addr.im _ _ _;cases d1<;>first|exact absurd rfl (iR _)|(simp only[Builtin.append_,h0,iB,j5,tD,Sem.run_bind,cb hu,Result.andThen_ok,sizeOf,oj hi,Sem.run_pure,h1,cb ja,dP,if_false,n1,gu,if_true,uU,n6,Ba,q1])
    ·cases he
  ·rename_i b off len az;split at he
   ·rename_i cs aZ;split at he
    ·rename_i hc;injection he with he;obtain⟨rfl,rfl⟩:=fG he;cases ha with
     |arr _ g _ _ _ fy ir hb hl mJ mN da=>
      obtain⟨k1,k2,ka,cells,e,k3,k4⟩:=s.box b g cs hb aZ;have um:cs.length<=cells.size:=k4.le;have hm:(len+new.length) * i.size<=az * i.size:=oy _ hc.1;rw[ig] at hm;have M8:len+new.length<=ir:=(by omega);by_cases hz0:az=0
      ·have uf:new=[]:=by cases new with|nil=>rfl|cons _ _=>simp at hc;omega
       subst uf;have Ia:nv=[]:=(by simpa using n5);subst Ia;have n1:(Builtin.lenOf cx).run P w=.ok 0 w:=n1;have n6:(Builtin.firstCells i.size 0 cx).run P w=.ok #[] w:=n6;have Bw:h.boxes.set b (dO cs (off+len * i.size) ([]:List (List AV)).flatten)=h.boxes:=by
        rw[show dO cs (off+len * i.size) ([]:List (List AV)).flatten=cs by simp[dO]];apply uY;intro k;rw[tG];split
        ·rename_i e;subst e;rw[aB (aF.1 aZ).1,aZ]
        ·rfl
       rw[Bw];refine⟨K,.slice (aa ⟨g,fy,ah⟩) len ir,w,.refl K,s,.arr _ _ _ _ _ _ _ hb hl mJ mN da,?_⟩;have H2:len<=ir:=(by omega);cases d1<;>first|exact absurd rfl (iR _)|(simp only[Builtin.append_,h0,iB,j5,tD,Sem.run_bind,cb hu,Result.andThen_ok,sizeOf,oj hi,Sem.run_pure,h1,cb ja,dP,if_false,n1,gD,H2,if_true,uU,n6,storeCells])
      ·have Bn:fy=off:=by rcases mN with p|p<;>omega
       obtain⟨w',bY,q1,q2,q3⟩:=Cw (P:=P) (off+len * i.size) e (0,0) nv 0 cells w k3 aj (AF n3 n4) (λj _ _=>DZ j);have rA:new.flatten.length=new.length * i.size:=(by rw[n3.length,n5]);refine⟨K,.slice (aa ⟨g,fy,ah⟩) (len+new.length) ir,w',.refl K,s.Ke hb aZ (by rw[rA];omega) k3 q2 q3 n3 n4,.arr _ _ _ _ _ _ _ hb hc.1 mJ mN da,?_⟩;have Ba:(⟨g,off,ah⟩:Addr).add (len * i.size)=⟨g,off+len * i.size,ah⟩:=Addr.im _ _ _;rw[Bn];cases d1<;>first|exact absurd rfl (iR _)|(simp only[Builtin.append_,h0,iB,j5,tD,Sem.run_bind,cb hu,Result.andThen_ok,sizeOf,oj hi,Sem.run_pure,h1,cb ja,dP,if_false,n1,M8,if_true,uU,n6,Ba,q1])
    ·cases he
   ·cases he
  ·cases he
 ·cases he
def Xi{t0 t1 elem:aE}{ts:Array aE}{ty:aE}{i:TypeInfo}{d1:TypeDesc}(h0:ts[0]?=aa t0)(hu:P.underlying t0=aa (.slice elem))
 (h1:ts[1]?=aa t1) (ja:P.underlying t1=aa d1) (iR:∀k,d1≠ .int k) (hi:P.info? elem=aa i) (hz:(i.zero.map λz=>z.cells.size)=aa i.size)
 {n m:Nat} {a:Option Addr} {az:Nat} {cx:aC} (gu:az<n+m) {vals:List aC} (vE:vals.length=n * i.size)
 (hf:(Builtin.firstCells i.size n (.slice a n az)).run P {w with drawn:=w.drawn+1}=.ok vals.toArray {w with drawn:=w.drawn+1})
 {nv:List aC} (H6:(Builtin.lenOf cx).run P w=.ok m w) (rA:nv.length=m * i.size)
 (HP:(Builtin.firstCells i.size m cx).run P {w with drawn:=w.drawn+1}=.ok nv.toArray {w with drawn:=w.drawn+1})
 (hb:(n+m) * i.bytes<=140737488355328) (hm:n+m<=9223372036854775807):
 ∃nc cells,n+m<=nc/\cells.size=nc * i.size/\cells.toList.take ((n+m) * i.size)=vals++nv/\
  (Builtin.append_ ts ty #[.slice a n az,cx]).run P w=.ok (.slice (aa ⟨w.heap.size,0,ah⟩) (n+m) nc) {w with drawn:=w.drawn+1,heap:=w.heap.push (.cells cells elem)}:=by
 simp only[cn] at hz;obtain⟨z,hz,sU⟩:=hz;have hq:∃nc,n+m<=nc/\(choose (.appendCap (n+m) az elem)).run P w=.ok nc {w with drawn:=w.drawn+1}:=by refine⟨_,?_,by simp[Question.forced];rfl⟩;simp[Question.cut]
 obtain⟨nc,Bl,Bd⟩:=hq
 let rest:=Builtin.zeroCells z.cells (nc - (n+m))
 let cells:Array aC:=vals.toArray++nv.toArray++rest
 let w1:aT:={w with drawn:=w.drawn+1}
 have aP:(n+m) * i.size=(vals++nv).length:=by rw[cO,vE,rA,ig]
 have hzero:(zeroValue elem).run P w1=.ok z w1:=by simp[zeroValue,oj hi,hz]
 have Yl:=growslice_fits (bytes:=i.bytes) gu hb;refine⟨nc,cells,Bl,?_,?_,?_⟩
 ·simp only[cells,KC,Sm,rest,Qo,vE,rA,sU];rw[Gn];have:(n+m) * i.size<=nc * i.size:=oy _ Bl;rw[ig] at this ⊢;omega
 ·rw[aP];simp only[cells,ym];rw[yw bh];exact o5 bh
 ·have e1:¬(((n+m:Nat):Int)>IntKind.i64.max):=by simp only[IntKind.max,IntKind.signed,IntKind.bits];simp;omega
  have e2:¬(Builtin.nextslicecap (n+m) az * i.bytes>2^48):=by omega
  have e3:¬(n+m<=az):=by omega
  cases d1<;>first|exact absurd rfl (iR _)|(simp only[Builtin.append_,h0,iB,j5,tD,Sem.run_bind,cb hu,Result.andThen_ok,sizeOf,oj hi,Sem.run_pure,h1,cb ja,dP,if_false,H6,e3,e1,e2,false_and,Bd,run_askRoom,hf,uU,if_true,HP,newRow,run_newObj,hzero,w1,cells,rest])
set_option maxHeartbeats 2000000 in
def afE(s:bg K G ok w0 h w){ts:Array aE}{ty:aE}{a x y:AV}{h':ae}(he:CN P h ts a x=aa (y,h')){c cx:aC}(ha:aI K a c)(hx:aI K x cx):
 ∃K' v w',K.Le K'/\bg K' G ok w0 h' w'/\aI K' y v/\(Builtin.append_ ts ty #[c,cx]).run P w=.ok v w':=by
 have he0:=he;unfold CN at he;split at he
 ·cases he
 ·rename_i elem d1 y7 NN NO;have hu:=NN;have ja:=NO;simp only[ve] at hu ja;obtain⟨t0,h0,hu⟩:=hu;obtain⟨t1,h1,ja⟩:=ja;have iR:∀k,d1≠ .int k:=λk e=>y7 k e;split at he
  ·cases he
  rename_i i hi;split at he
  ·cases he
  rename_i new kX;split at he;rotate_left
  ·cases he
  rename_i hz;obtain⟨nv,n1,n2,n3,n4,n5,n6⟩:=BV (P:=P) s kX hx;obtain⟨nv',n1',n2',n3',n4',n5',n6'⟩:=BV (P:=P) (s.drew (w.drawn+1)) kX hx;have fresh:∀{h0:ae} (s0:bg K G ok w0 h0 w) {n az:Nat} {ad:Option Addr} {cs:List AV} {vals:List aC},h0.boxes.length=h.boxes.length->az<n+new.length->aM K cs vals->cs.all AV.eM=ab->cs.length=n * i.size->
   (Builtin.firstCells i.size n (.slice ad n az)).run P {w with drawn:=w.drawn+1}=.ok vals.toArray {w with drawn:=w.drawn+1}->(n+new.length) * i.bytes<=140737488355328->n+new.length<=9223372036854775807->
   ∃K' v w',K.Le K'/\bg K' G ok w0 {h0 with boxes:=h0.boxes++[cs++new.flatten]} w'/\aI K' (.arr h.boxes.length 0 (n+new.length) (n+new.length)) v/\(Builtin.append_ ts ty #[.slice ad n az,cx]).run P w=.ok v w':=by
   intro qp s0 n az ad cs vals pB gu dJ mg ey hf hb hm;have rA:new.flatten.length=new.length * i.size:=px n2';obtain⟨nc,cells,g1,g2,g3,g4⟩:=Xi (ty:=ty) h0 hu h1 ja iR hi hz.2 gu (by rw[<-dJ.length,ey]) hf n1 n5' n6' hb hm;have yS:(cs++new.flatten).length=(n+new.length) * i.size:=(by rw[cO,ey,rA,ig]);obtain⟨q1,q2⟩:=(s0.drew (w.drawn+1)).Jj (cs:=cs++new.flatten) (cells:=cells) elem (aa (n+new.length,i.size,nc * i.size)) (by rw[yS,g3];exact dJ.append n3') (by rw[yq,mg,n4'];rfl)
    (λN sz room q=>by injection q with q;injection q with q1 q;injection q with q2 q3;subst q1 q2 q3;exact .inr ⟨yS,by rw[g2];exact aK _⟩)
   cases q2 with|box _ _ _ ew=>rw[pB] at ew;refine⟨_,_,_,K.zg _ _,q1,.arr _ _ _ _ _ _ _ ew (aK _) g1 (.inl rfl) (.inr (.inr (.inr ⟨i.size,nc * i.size,?_,hz.1,aK _⟩))),g4⟩;have aP:h.boxes.length=K.β.length:=(by rw[s0.ga,pB]);simp only[aH.kR,aP,if_true]
  split at he
  ·rename_i k sz es;split at he;rotate_left
   ·cases he
   rename_i bG;split at he
   ·rename_i jO;refine GP s ?_ ha hx;unfold iM;rw[NN,NO];cases d1<;>first|exact absurd rfl (iR _)|(simp only[hi,kX,aB hz,aB bG,aB jO];exact he)
   ·rename_i H9;split at he;rotate_left
    ·cases he
    rename_i hb;have cu:rowsOf h i.size (.list k sz es)=aa es:=(by simp only[rowsOf];rw[aB bG]);obtain⟨b,az,vals,rfl,r1,r2,r3,r4,r5,r6⟩:=zO (P:=P) (s.drew (w.drawn+1)) cu ha;have hf:(Builtin.firstCells i.size es.length (.slice b es.length az)).run P {w with drawn:=w.drawn+1}=.ok vals.toArray {w with drawn:=w.drawn+1}:=by
     cases b with|none=>have:=r6 rfl;subst this;have:vals=[]:=(by simpa using r4);subst this;rfl|some b=>exact r5 b rfl
    have Bm:0<new.length:=by cases new with|nil=>exact absurd rfl H9|cons _ _=>simp
    have fin:az<es.length+new.length->aa (AV.arr h.boxes.length 0 (es.length+new.length) (es.length+new.length),({h with boxes:=h.boxes++[(es++new).flatten]}:ae))=aa (y,h')->∃K' v w',K.Le K'/\bg K' G ok w0 h' w'/\aI K' y v/\(Builtin.append_ ts ty #[.slice b es.length az,cx]).run P w=.ok v w':=λgu hq=>(by injection hq with hq;obtain⟨rfl,rfl⟩:=fG hq;rw[yr];exact fresh s rfl gu r2 r3 (px r1) hf hb.1 hb.2);split at he
    ·refine fin ?_ he;cases ha with|nil=>simpa using Bm|list _ _ _ _ _ _ _ _ _ _ _ _ ht _=>exact ht.2.elim
    ·refine fin ?_ he;cases ha with|jV=>simpa using Bm|list _ _ _ _ _ _ _ _ _ _ _ _ ht _=>have:=ht.2;simp only at this;omega
    ·cases he
  ·rename_i b off len az;split at he
   ·rename_i cs aZ;split at he
    ·exact GP s he ha hx
    ·rename_i Yq;split at he
     ·rename_i hc;injection he with he;obtain⟨rfl,rfl⟩:=fG he;obtain⟨c1,c2,c3,c4,c5,c6⟩:=hc;subst c1;subst c3;cases ha with
      |arr _ g _ _ _ fy ir hb hl mJ mN da=>
       have Bn:fy=0:=by rcases mN with p|p<;>omega
       subst Bn;obtain⟨k1,k2,ka,cells,e,k3,k4⟩:=s.box b g cs hb aZ;have bL:cs≠[]:=λq=>(by subst q;have:=Sv c2 hz.1;simp at c4;omega);have XV:=(aF.1 aZ).1;have Na:=s.VK b;have oc:(h.boxes.set b []).length=h.boxes.length:=(by simp);rcases dp ir (len+new.length) with gu|gu
       ·refine fresh Na oc gu k4.1 ka c4.symm ?_ c5 c6;have:=run_loadCells_list (P:=P) {w with drawn:=w.drawn+1} ⟨g,0,ah⟩ (cells.toList.take cs.length) (λj v hj=>by
         rw[Addr.im,cell_of (w:={w with drawn:=w.drawn+1}) k3];simp only[nU] at hj;split at hj
         ·simpa using hj
         ·cases hj)
        rw[<-k4.1.length,<-c4] at this;rw[<-c4];exact this
       ·rcases da with r|r|r|⟨sz,room,r1,r2,r3⟩
        ·omega
        ·omega
        ·exact absurd rfl r
        ·rcases k4.2 _ _ _ r1 with q|⟨q1,q2⟩
         ·exact absurd q bL
         ·have bG:i.size=sz:=Nat.eq_of_mul_eq_mul_left c2 (c4.trans q1);subst bG;have dS:=k4.le;have rA:new.flatten.length=new.length * i.size:=px n2;have Y2:(len+new.length) * i.size<=cells.size:=cY (oy _ gu) (cY r3 q2);rw[ig] at Y2;obtain⟨w',bY,w1,w2,w3⟩:=Cw (P:=P) (0+len * i.size) e (0,0) nv 0 cells w k3 aj (AF n3 n4) (λj _ _=>DZ j);have X1:bY.toList.length=cells.toList.length:=(by rw[w3];exact J4 (by simp only[tC];omega));obtain⟨s3,gO⟩:=Na.afA (g:=g) (cs:=cs++new.flatten) (cells:=bY) (e:=e) k1 k2
           (λb2 ew=>by
            show(h.boxes.set b [])[b2]?=aa [];rw[tG];by_cases Bb:b=b2
            ·subst Bb;rw[aB rfl,aB XV]
            ·rw[ax Bb];rcases s.mF _ _ _ hb ew with p|p|p
             ·exact absurd p Bb
             ·rw[aZ] at p;injection p with p;exact absurd p bL
             ·exact p)
           (λt ht hq=>by obtain⟨_,q,_⟩:=s.tok t ht;exact q b (by rw[hq];exact hb)) k3 (aa (len+new.length,i.size,cells.size))
           (λN sz room q=>by injection q with q;injection q with q1 q;injection q with q2 q3;subst q1 q2 q3;refine .inr ⟨by rw[cO,<-c4,rA,ig],?_⟩;simp only[tC] at X1;omega) w2
           (by rw[cO,rA,w3];have e1:cs.length+new.length * i.size=0+len * i.size+0+nv.length:=(by omega);rw[e1,yw (by simp only[cO,ng,tC];omega),o5 (by simp only[cO,ng,tC];omega)];have e2:0+len * i.size+0=cs.length:=(by omega);rw[e2];exact k4.1.append n3) (by rw[yq,ka,n4];rfl)
          rw[oc] at gO;refine⟨_,.slice (aa ⟨g,0,ah⟩) (len+new.length) ir,w',K.zg _ _,s3,.arr _ _ _ _ _ _ _ gO (aK _) gu (.inl rfl) (.inr (.inr (.inr ⟨i.size,cells.size,?_,hz.1,cY r3 q2⟩))),?_⟩
          ·have aP:h.boxes.length=K.β.length:=s.ga.symm;simp only[aH.kR,aP,if_true]
          ·have Ba:(⟨g,0,ah⟩:Addr).add (len * i.size)=⟨g,0+len * i.size,ah⟩:=Addr.im _ _ _;cases d1<;>first|exact absurd rfl (iR _)|(simp only[Builtin.append_,h0,iB,j5,tD,Sem.run_bind,cb hu,Result.andThen_ok,sizeOf,oj hi,Sem.run_pure,h1,cb ja,dP,if_false,n1,gu,if_true,uU,n6,Ba,w1])
     ·cases he
   ·cases he
  ·cases he
 ·cases he
def Uv(s:bg K G ok w0 h w){t:aE}{len:Nat}{parts:Array (Nat × bI)}{ρ:bI->AV}{ρ':bI->aC}(hρ:∀x,aI K (ρ x) (ρ' x)){k:Tok}{sz:Nat}{es:List (List AV)}
 (he:gl P t len (parts.toList.map λp=>(p.1,ρ p.2))=aa (.list k sz es)):
 ∃K' v w',K.Le K'/\bg K' G ok w0 (h.fresh sz es).2 w'/\aI K' (h.fresh sz es).1 v/\(Instr.buildSlice t len (parts.map λp=>(p.1,ρ' p.2))).run P w=.ok v w':=by
 obtain⟨p1,p2⟩:=Jz hρ parts;unfold gl at he;split at he
 ·rename_i elem hu;split at he
  ·rename_i size zero hs hz;obtain⟨z,fY,gI,rH⟩:=wJ (K:=K) hz w;split at he
   ·rename_i hc;simp only[cn] at he;obtain⟨out,ho,he⟩:=he;injection he with _ e1 e2;subst e1;subst e2;obtain⟨f1,f2,f3⟩:=MH (λr hr=>by rw[(KW.1 hr).2];exact hc.2.1) ho;have sU:z.cells.size=size:=(by rw[<-hc.2.1,gI.length];simp);have kT:((uR (len * size)).map (z.cells[·%z.cells.size]!)).toList=(gC len z.cells.toList).flatten:=(by rw[<-sU];exact Ca _ _);obtain⟨out',q1,q2⟩:=DW (bY:=(uR (len * size)).map (z.cells[·%z.cells.size]!)) f1 (by rw[kT];exact gI.xj len) p1 p2;have Bp:out.length=len:=(by rw[f3];simp);have um:out'.toList.length=len * size:=(by rw[<-q2.length,px f2,Bp]);obtain⟨K',le,s',hv⟩:=s.Hu (w':={w with heap:=w.heap.push (.cells out' elem)}) (d:=h.dead) (λ_ hm=>hm) (sz:=size) (es:=out) (cells:=out') (e:=elem) (fz:=(0,0)) (az:=len)
     f2 (MI f1 (E7 rH len)) (by rw[o5 (by rw[um,Bp];exact aK _)];exact q2) rfl rfl rfl bh (λk hk=>xo w _ hk) bh
     aj (by rw[<-um];simp) (λj hj=>by simp[sF])
    rw[Bp] at hv;refine⟨K',.slice (aa ⟨w.heap.size,0,ah⟩) len len,_,le,s',hv,?_⟩;by_cases h0:len * size=0
    ·have Hv:len=0:=by
      rcases Ss.1 h0 with h|h
      ·exact h
      ·omega
     subst Hv;simp only[Gp] at q1;have e1:(uR 0).map (λx=>(#[]:Array aC)[x%(#[]:Array aC).size]!)=(uR 0).map (z.cells[·%z.cells.size]!):=(by simp);simp only[Instr.buildSlice,Sem.run_bind,cb hu,Result.andThen_ok,kJ hs,Gp];simp only[ik,gt_iff_lt,if_false,Sz,if_true,Sem.run_pure,Result.andThen_ok,e1,q1,newRow,Sem.run_bind,run_newObj]
    ·simp only[Instr.buildSlice,Sem.run_bind,cb hu,Result.andThen_ok,kJ hs];rw[ax aj,ax h0];simp only[Sem.run_pure,Sem.run_bind,fY,Result.andThen_ok,q1,newRow,run_newObj]
   ·cases he
  ·cases he
 ·cases he
def bg.kill(s:bg K G ok w0 h w){t:Nat}(ha:alive h t=ab)(n:Nat):bg K G ok w0 {h with dead:=t::h.dead} (w.freeze ⟨(K.tk t).1,n,ah⟩ 1):=by
 obtain⟨t1,t2,t3,c0,e0,z0,t4,t5,t6⟩:=s.tok t ha;have kY:∃z,(w.freeze ⟨(K.tk t).1,n,ah⟩ 1).heap[(K.tk t).1]?=aa (.cells c0 e0 z):=by simp only[World.freeze,Gm,if_false,yl,if_true,t4,cy];exact⟨_,rfl⟩
 obtain⟨z1,kY⟩:=kY;have mj:∀k,k≠(K.tk t).1->(w.freeze ⟨(K.tk t).1,n,ah⟩ 1).heap[k]?=w.heap[k]?:=λk hk=>by simp only[World.freeze,Gm,if_false,yl];rw[ax (Ne.symm hk)]
 have bG:(w.freeze ⟨(K.tk t).1,n,ah⟩ 1).heap.size=w.heap.size:=by simp[World.freeze]
 have eE:∀t',alive {h with dead:=t::h.dead} t'=ab->alive h t'=ab/\t'≠t:=λt' h'=>by unfold alive at h' ⊢;simp only[List.contains_cons,aL,wM,Bool.or_eq_false_iff,decide_eq_true_eq] at h' ⊢;exact⟨⟨h'.1,h'.2.2⟩,λq=>by rw[q] at h';simp at h'⟩
 refine⟨?_,by rw[bG];exact s.size,λg j c hc=>?_,s.dj,s.ga,s.mF,λb g cs hb aZ=>?_,s.j4,s.na,λl g r hl hr=>?_,s.tn,λt' Bx=>?_,λt' u Bx hu=>s.mD t' u (eE t' Bx).1 (eE u hu).1,λr hr=>?_,s.all⟩
 ·refine s.cr.trans ⟨rfl,rfl,rfl,by rw[bG];exact aK _,λk hk=>?_⟩;have Yx:k<K.base:=hk;exact mj k aj
 ·have h1:=s.ic g j c hc;by_cases hg:g=(K.tk t).1
  ·subst hg;rw[cell_of t4] at h1;rw[cell_of kY];exact h1
  ·rw[<-h1];exact World.cell?_of_block (w:=w) (mj g hg)
 ·obtain⟨h1,h2,oG,bY,e',h3,h4⟩:=s.box b g cs hb aZ;exact⟨h1,h2,oG,bY,e',by rw[mj g λq=>t2 b (q ▸ hb)];exact h3,h4⟩
 ·obtain⟨h1,fn,tmps,d,h2,h3⟩:=s.loop l g r hl hr;exact⟨h1,fn,tmps,d,by rw[mj g λq=>by rw[q,t4] at h2;cases h2];exact h2,h3⟩
 ·obtain⟨En,bL⟩:=eE t' Bx;obtain⟨h1,h2,h3,bY,e',fz',h4,h5,h6⟩:=s.tok t' En;have fT:(K.tk t').1≠(K.tk t).1:=λq=>bL (s.mD t' t En ha q);have h7:(w.freeze ⟨(K.tk t).1,n,ah⟩ 1).heap[(K.tk t').1]?=aa (.cells bY e' fz'):=by rw[mj _ fT];exact h4
  exact⟨h1,h2,h3,bY,e',fz',h7,h5,λj hj hl=>by rw[<-h6 j hj hl,vm h4,vm h7]⟩
 ·obtain⟨h1,h2⟩:=s.md r hr;exact⟨h1,by rw[mj r λq=>by rw[q,t4] at h2;cases h2];exact h2⟩
def Vm(s:bg K G ok w0 h w){src dst:aE}{x y:AV}{h':ae}(he:G8 P h src dst x=aa (y,h')){c:aC}(hx:aI K x c):
 ∃K' v w',K.Le K'/\bg K' G ok w0 h' w'/\aI K' y v/\(convert src dst c).run P w=.ok v w':=by
 unfold G8 at he;split at he
 ·rename_i e str hs hd;obtain⟨rfl,_⟩:=hx.dF;split at he
  ·rename_i i hu hi;split at he
   ·injection he with he;obtain⟨rfl,rfl⟩:=fG he;obtain⟨K',v,w',q1,q2,q3,q4⟩:=afF (P:=P) s (e:=e) (str:=str);exact⟨K',v,w',q1,q2,q3,by simp only[convert,Sem.run_bind,cb hs,cb hd,cb hu,Result.andThen_ok];exact q4⟩
   ·cases he
  ·cases he
 ·rename_i e hs hd;split at he
  ·rename_i rows hu cu;simp only[cn] at he;obtain⟨l,hl,he⟩:=he;obtain⟨rfl,rfl⟩:=fG he;obtain⟨a,az,vals,rfl,hr,dJ,ha,aP,xy,jO⟩:=zO (P:=P) s cu hx;obtain⟨ns,rfl,rfl⟩:=UB hl dJ;refine⟨K,.string ⟨(ns.map λn=>UInt8.ofNat n.toNat).toArray⟩,w,.refl K,s,.v _ rfl,?_⟩;cases a with|none=>have:=jO rfl;subst this;simp at aP;subst aP;simp only[convert,Sem.run_bind,cb hs,cb hd,cb hu,Result.andThen_ok,Conv.bytesToString];rfl|some b=>have eQ:=xy b rfl;rw[qj] at eQ;simp only[convert,Sem.run_bind,cb hs,cb hd,cb hu,Result.andThen_ok,Conv.bytesToString,eQ,List.forIn_toArray,Sem.run_pure];simp[foldl_push]
  ·cases he
 ·rename_i e e2 t sz es hs hd;split at he
  ·rename_i hu;split at he
   ·rename_i hc;obtain⟨rfl,eE⟩:=hc;injection he with he;obtain⟨rfl,rfl⟩:=fG he;cases hx with|list _ _ _ g off n az cells hn hr hv iu ht ha=>obtain⟨En,zb,Zc,ht4,NM⟩:=ht;subst Zc;obtain⟨t1,t2,t3,c0,e0,z0,t4,t5,t6⟩:=s.tok t eE;refine⟨K,.slice (aa ⟨(K.tk t).1,off,ah⟩) n az,_,.refl K,s.kill eE c0.size,.list .held sz es _ off n az cells hn hr hv iu ⟨En,ev⟩ ha,?_⟩;have El:w.shape? (K.tk t).1=aa (e0,c0.size):=(by simp[World.shape?,t4]);rw[hs] at hd;injection hd with hd;injection hd with hd;subst hd;simp only[convert,Sem.run_bind,cb hs,cb hu,Result.andThen_ok,beq_self_eq_true,markStringish,run_shape,El,run_freeze,Sem.run_pure]
   ·cases he
  ·cases he
 ·cases he
 ·rename_i d1 d2 p hs hd _ _ _ _;simp only[cn,ve] at he;obtain⟨z,⟨q,h1,h2⟩,he⟩:=he;obtain⟨rfl,rfl⟩:=fG he;obtain⟨rfl,_⟩:=hx.dF;exact⟨K,q,w,.refl K,s,CC h2,B7 h1 w⟩
 ·cases he
end
section
variable {P:aQ} {K:aH} {G:Nat->Option (List AV)} {ok:bF->Nat->Code->Bool} {w0 w:aT} {h:ae}
def Vn(s:bg K G ok w0 h w){ts:Array aE}{ty:aE}{a x y:AV}{h':ae}(he:DE P h ts a x=aa (y,h')){c cx:aC}(ha:aI K a c)(hx:aI K x cx):
 ∃K' v w',K.Le K'/\bg K' G ok w0 h' w'/\aI K' y v/\(Builtin.copy_ ts ty #[c,cx]).run P w=.ok v w':=by
 unfold DE at he;split at he
 ·rename_i elem hu;simp only[ve] at hu;obtain⟨t0,h0,hu⟩:=hu;split at he
  ·rename_i i b off len az hi;split at he
   ·rename_i rows cs cu aZ;split at he
    ·rename_i hc;injection he with he;obtain⟨rfl,rfl⟩:=fG he;obtain⟨nv,n1,n2,n3,n4,n5,n6⟩:=BV (P:=P) s cu hx;cases ha with
     |arr _ g _ _ _ fy ir hb hl mJ mN da=>
      obtain⟨k1,k2,ka,cells,e,k3,k4⟩:=s.box b g cs hb aZ;have um:cs.length<=cells.size:=k4.le;have YJ:l9 rows.length len<=rows.length:=Nat.min_le_left _ _;have YK:l9 rows.length len<=len:=Nat.min_le_right _ _;have hm:l9 rows.length len * i.size<=len * i.size:=oy _ YK;have jN:l9 rows.length len * i.size<=rows.length * i.size:=oy _ YJ;have mM:(rows.take (l9 rows.length len)).flatten=rows.flatten.take (l9 rows.length len * i.size):=ML n2 _;have xK:aM K (rows.take (l9 rows.length len)).flatten (nv.take (l9 rows.length len * i.size)):=(by rw[mM];exact n3.take _);have fh:(rows.take (l9 rows.length len)).flatten.all AV.eM=ab:=(by rw[mM,dn];intro x hx;exact dn.1 n4 x (Au hx));have aP:(nv.take (l9 rows.length len * i.size)).length=l9 rows.length len * i.size:=(by simp only[ng];omega);obtain⟨w',bY,q1,q2,q3⟩:=ad4 (P:=P) mN (vs:=nv.take (l9 rows.length len * i.size)) (λhz=>by have:l9 rows.length len=0:=(by omega);rw[this];simp) k3 aj (AF xK fh);refine⟨K,.int .i64 (l9 rows.length len:Nat),w',.refl K,s.Ke hb aZ (by rw[xK.length];omega) k3 q2 q3 xK fh,.v _ rfl,?_⟩
      ·-- the source's first cells, as many as are copied
       have Yk:(Builtin.firstCells i.size (l9 rows.length len) cx).run P w=.ok (nv.take (l9 rows.length len * i.size)).toArray w:=by
        unfold s6 at cu;split at cu
        ·rename_i str;split at cu
         ·rename_i h1;injection cu with cu;subst cu;obtain⟨rfl,_⟩:=hx.dF;have eQ:(str.data.toList.map nX).length=str.size:=(by rw[jj];rfl);have e2:nv=str.data.toList.map λb=>Value.int .u8 b.toNat:=(by have e3:(Builtin.firstCells i.size (str.data.toList.map nX).length (.string str)).run P w=.ok (str.data.toList.map λb=>Value.int .u8 b.toNat).toArray w:=(by rw[eQ];have:str.extract 0 str.size=str:=(by simp);have e4:str.data.map (λb=>Value.int .u8 b.toNat)=(str.data.toList.map λb=>Value.int .u8 b.toNat).toArray:=(by apply F7;simp);simp only[Builtin.firstCells,this,Sem.run_pure,e4]);rw[e3] at n6;injection n6 with n6 _;exact(Gl n6).symm);subst e2;rw[h1,qj];simp only[Builtin.firstCells,Sem.run_pure];congr 1;apply F7;simp only[ByteArray.data_extract,yn,Rq,RW,List.drop_zero,Nat.sub_zero,List.map_take]
         ·cases cu
        ·obtain⟨a,ir,vals,rfl,hr,dJ,mg,Bh,xy,jO⟩:=zO (P:=P) s cu hx;cases a with
         |none=>have:=jO rfl;subst this;have:nv=[]:=(by simpa using n5);subst this;simp[Builtin.firstCells]|some ad=>
          simp only[Builtin.firstCells];have hl:=xy ad rfl;have e5:vals=nv:=(by simp only[Builtin.firstCells] at n6;rw[hl] at n6;injection n6 with n6 _;exact Gl n6);subst e5;have lF:∀j v,vals[j]?=aa v->w.cell? (ad.add j)=aa v:=by
           unfold rowsOf at cu;split at cu
           ·rename_i k sz es _;split at cu
            ·injection cu with cu;subst cu;cases hx with
             |jV=>cases dJ;intro j v hj;simp at hj
             |list _ _ _ g2 off2 n cap2 cells2 hn gQ Zn Nk zb oG=>have eQ:=run_loadCells_list (P:=P) w ⟨g2,off2,ah⟩ cells2 (λj v hj=>by rw[Addr.im];exact s.ic _ _ _ (Nk j v hj));have yS:cells2.length=es.length * i.size:=(by rw[<-Zn.length,dJ.length,Bh]);rw[yS] at eQ;rw[eQ] at hl;injection hl with hl _;have:=Gl hl;subst this;intro j v hj;rw[Addr.im];exact s.ic _ _ _ (Nk j v hj)
            ·cases cu
           ·rename_i b2 off2 Om cap2 _;split at cu
            ·rename_i cs2 HF;split at cu
             ·rename_i agC;injection cu with cu;cases hx with
              |arr _ g2 _ _ _ off2' cap2' ew eQ M8 Ic NI=>
               obtain⟨_,_,_,cells2,e2,k3',k4'⟩:=s.box b2 g2 cs2 ew HF;have ey:cs2.length<=cells2.toList.length:=(by have:=k4'.le;simpa using this);rcases Ic with Ic|gI;rotate_left 1
               ·intro j v hj;have xE:rows.length=0:=(by omega);rw[xE] at Bh;have:vals=[]:=(by simpa using Bh);subst this;simp at hj
               rw[Ic] at hl ⊢;have yS:((cells2.toList.drop off2).take (rows.length * i.size)).length=rows.length * i.size:=(by simp only[ng,C8];omega);have xw:=run_loadCells_list (P:=P) w ⟨g2,off2,ah⟩ ((cells2.toList.drop off2).take (rows.length * i.size)) (λj v hj=>by
                rw[Addr.im,cell_of k3'];simp only[nU,yu] at hj;split at hj
                ·simpa using hj
                ·cases hj)
               rw[yS] at xw;rw[xw] at hl;injection hl with hl _;have:=Gl hl;subst this;intro j v hj;rw[Addr.im,cell_of k3'];simp only[nU,yu] at hj;split at hj
               ·simpa using hj
               ·cases hj
             ·cases cu
            ·cases cu
           ·cases cu
          have:=run_loadCells_list (P:=P) w ad (vals.take (l9 rows.length len * i.size)) (λj v hj=>by
           simp only[nU] at hj;split at hj
           ·exact lF j v hj
           ·cases hj)
          rw[aP] at this;exact this
       simp only[Builtin.copy_,h0,iB,j5,tD,Sem.run_bind,cb hu,Result.andThen_ok,n1,sizeOf,oj hi,Sem.run_pure,Yk,q1];rfl
    ·cases he
   ·cases he
  ·cases he
 ·cases he
def Z2{ts:Array aE}{ty t:aE}(h0:ts[0]?=aa t){x y:AV}(he:sY P t x=aa y){c:aC}(hx:aI K x c)(w:aT):
 ∃v,(Builtin.len_ ts ty #[c]).run P w=.ok v w/\aI K y v:=by
 unfold sY at he;split at he
 ·rename_i hu;injection he with he;subst he;obtain⟨rfl,_⟩:=hx.dF;exact⟨_,by simp only[Builtin.len_,h0,iB,j5,Sem.run_bind,cb hu,Result.andThen_ok,Sem.run_pure,goInt],.v _ rfl⟩
 ·rename_i n e hu;injection he with he;subst he;exact⟨_,by simp only[Builtin.len_,h0,iB,j5,Sem.run_bind,cb hu,Result.andThen_ok,Sem.run_pure,goInt],.v _ rfl⟩
 ·rename_i a hu;split at he
  ·rename_i n e Is;injection he with he;subst he;exact⟨_,by simp only[Builtin.len_,h0,iB,j5,Sem.run_bind,cb hu,cb Is,Result.andThen_ok,Sem.run_pure,goInt],.v _ rfl⟩
  ·cases he
 ·rename_i e k sz es hu;injection he with he;subst he;cases hx with
  |nil=>exact⟨.int .i64 0,by simp only[Builtin.len_,h0,iB,j5,Sem.run_bind,cb hu,Result.andThen_ok,Sem.run_pure,goInt];rfl,.v _ rfl⟩
  |jV=>exact⟨.int .i64 0,by simp only[Builtin.len_,h0,iB,j5,Sem.run_bind,cb hu,Result.andThen_ok,Sem.run_pure,goInt];rfl,.v _ rfl⟩
  |list _ _ _ g off n az cells hn _ _ _ _ _=>subst hn;exact⟨_,by simp only[Builtin.len_,h0,iB,j5,Sem.run_bind,cb hu,Result.andThen_ok,Sem.run_pure,goInt],.v _ rfl⟩
 ·rename_i e b off len az hu;injection he with he;subst he;cases hx with|arr=>exact⟨_,by simp only[Builtin.len_,h0,iB,j5,Sem.run_bind,cb hu,Result.andThen_ok,Sem.run_pure,goInt],.v _ rfl⟩
 ·cases he
def UR{ts:Array aE}{ty t:aE}(h0:ts[0]?=aa t){x y:AV}(he:DB P t x=aa y){c:aC}(hx:aI K x c)(w:aT):
 ∃v,(Builtin.cap_ ts ty #[c]).run P w=.ok v w/\aI K y v:=by
 unfold DB at he;split at he
 ·rename_i e sz es hu;injection he with he;subst he;cases hx with
  |jV=>exact⟨.int .i64 0,by simp only[Builtin.cap_,h0,iB,j5,Sem.run_bind,cb hu,Result.andThen_ok,Sem.run_pure,goInt];rfl,.v _ rfl⟩
  |list _ _ _ g off n az cells hn _ _ _ ht _=>have:=ht.2;simp only at this;subst this;subst hn;exact⟨_,by simp only[Builtin.cap_,h0,iB,j5,Sem.run_bind,cb hu,Result.andThen_ok,Sem.run_pure,goInt],.v _ rfl⟩
 ·rename_i e sz es hu;injection he with he;subst he;cases hx with
  |nil=>exact⟨.int .i64 0,by simp only[Builtin.cap_,h0,iB,j5,Sem.run_bind,cb hu,Result.andThen_ok,Sem.run_pure,goInt];rfl,.v _ rfl⟩
  |list _ _ _ _ _ _ _ _ _ _ _ _ ht _=>exact ht.2.elim
 ·rename_i n e hu;injection he with he;subst he;exact⟨_,by simp only[Builtin.cap_,h0,iB,j5,Sem.run_bind,cb hu,Result.andThen_ok,Sem.run_pure,goInt],.v _ rfl⟩
 ·cases he
def LQ(s:bg K G ok w0 h w){b:Builtin}{ts:Array aE}{ty:aE}{args:List AV}{y:AV}{h':ae}(he:iX P h b ts ty args=aa (y,h')){vs:Array aC}(hx:aM K args vs.toList)(consts:Array Bool):
 ∃K' v w',K.Le K'/\bg K' G ok w0 h' w'/\aI K' y v/\(builtin b ts ty consts vs).run P w=.ok (.value v) w':=by
 unfold iX at he;obtain⟨vs⟩:=vs;simp only at hx;split at he
 ·cases hx with|cons _ c _ _ hx hs=>cases hs with|nil=>
  split at he
  ·rename_i t h0;simp only[cn] at he;obtain⟨z,hz,he⟩:=he;obtain⟨rfl,rfl⟩:=fG he;obtain⟨v,q1,q2⟩:=Z2 (ty:=ty) h0 hz hx w;exact⟨K,v,w,.refl K,s,q2,by simp only[builtin,Sem.run_bind,q1,Result.andThen_ok,Sem.run_pure]⟩
  ·cases he
 ·cases hx with|cons _ c _ _ hx hs=>cases hs with|nil=>
  split at he
  ·rename_i t h0;simp only[cn] at he;obtain⟨z,hz,he⟩:=he;obtain⟨rfl,rfl⟩:=fG he;obtain⟨v,q1,q2⟩:=UR (ty:=ty) h0 hz hx w;exact⟨K,v,w,.refl K,s,q2,by simp only[builtin,Sem.run_bind,q1,Result.andThen_ok,Sem.run_pure]⟩
  ·cases he
 ·cases hx with|cons _ c _ _ hx hs=>cases hs with|cons _ c2 _ _ dk hs=>cases hs with|nil=>
  obtain⟨K',v,w',q1,q2,q3,q4⟩:=GP (ty:=ty) s he hx dk;exact⟨K',v,w',q1,q2,q3,by simp only[builtin,Sem.run_bind,q4,Result.andThen_ok,Sem.run_pure]⟩
 ·cases hx with|cons _ c _ _ hx hs=>cases hs with|cons _ c2 _ _ dk hs=>cases hs with|nil=>
  obtain⟨K',v,w',q1,q2,q3,q4⟩:=Vn (ty:=ty) s he hx dk;exact⟨K',v,w',q1,q2,q3,by simp only[builtin,Sem.run_bind,q4,Result.andThen_ok,Sem.run_pure]⟩
 ·split at he
  ·rename_i l hl;simp only[cn,ve] at he;obtain⟨z,⟨q,h1,h2⟩,he⟩:=he;obtain⟨rfl,rfl⟩:=fG he;have:=Ho hl hx;subst this;exact⟨K,q,w,.refl K,s,CC h2,by simp only[builtin,Sem.run_bind,B7 h1 w,Result.andThen_ok,Sem.run_pure]⟩
  ·cases he
 ·split at he
  ·rename_i l hl;simp only[cn,ve] at he;obtain⟨z,⟨q,h1,h2⟩,he⟩:=he;obtain⟨rfl,rfl⟩:=fG he;have:=Ho hl hx;subst this;exact⟨K,q,w,.refl K,s,CC h2,by simp only[builtin,Sem.run_bind,B7 h1 w,Result.andThen_ok,Sem.run_pure]⟩
  ·cases he
 ·cases he
def Uz(s:bg K G ok w0 h w){d:Option Tmp}{b:Builtin}{ts:Array aE}{ty:aE}{args:List AV}{y:AV}{h':ae}(he:oE P G d h b ts ty args=aa (y,h')){vs:Array aC}(hx:aM K args vs.toList)(consts:Array Bool):
 ∃K' v w',K.Le K'/\bg K' G ok w0 h' w'/\aI K' y v/\(builtin b ts ty consts vs).run P w=.ok (.value v) w':=by
 unfold oE at he;split at he
 ·split at he
  ·obtain⟨vs⟩:=vs;simp only at hx;cases hx with|cons _ c _ _ hx hs=>cases hs with|cons _ c2 _ _ dk hs=>cases hs with|nil=>
   obtain⟨K',v,w',q1,q2,q3,q4⟩:=afE (ty:=ty) s he hx dk;exact⟨K',v,w',q1,q2,q3,by simp only[builtin,Sem.run_bind,q4,Result.andThen_ok,Sem.run_pure]⟩
  ·exact LQ s (b:=.append) (ts:=ts) (ty:=ty) (args:=[_,_]) (show iX P h .append ts ty [_,_]=_ from he) hx consts
 ·exact LQ s he hx consts
def abN{c a b y:AV}(he:E0 c a b=aa y){vc va vb:aC}(hc:aI K c vc)(ha:aI K a va)(hb:aI K b vb):
 ∃t v,vc=.bool t/\v=(if t then va else vb)/\aI K y v:=by
 unfold E0 at he;split at he
 ·rename_i t;injection he with he;subst he;obtain⟨rfl,_⟩:=hc.dF;refine⟨t,_,rfl,rfl,?_⟩;cases t
  ·exact hb
  ·exact ha
 ·cases he
def abO(s:bg K G ok w0 h w){ρ:bI->AV}{ρ':bI->aC}(hρ:∀x,aI K (ρ x) (ρ' x)){o:Oper}{x:AV}{h':ae}(he:cB P G ρ h o.op=aa (x,h')):
 Yields K G ok w0 x h' ((execOp ρ' o).run P w):=by
 unfold execOp;cases aR:o.op<;>rw[aR] at he<;>simp only[cB] at he
 case move a=>injection he with he;obtain⟨rfl,rfl⟩:=fG he;exact .jW s (hρ a) rfl
 case assign a=>injection he with he;obtain⟨rfl,rfl⟩:=fG he;exact .jW s (hρ a) rfl
 case pick c a b=>
  simp only[cn] at he;obtain⟨y,hy,he⟩:=he;obtain⟨rfl,rfl⟩:=fG he;obtain⟨t,v,q1,rfl,q3⟩:=abN hy (hρ c) (hρ a) (hρ b);refine .jW s q3 ?_;simp only[q1,asBool,Sem.run_bind,Sem.run_pure,Result.andThen_ok]
 case alloc t=>
  simp only[cn] at he;obtain⟨cs,aZ,he⟩:=he;obtain⟨K',v,w',q1,q2,q3,q4⟩:=S6 (P:=P) s aZ;rw[he] at q2 q3;exact⟨K',v,w',q1,q2,q3,.inl (by simp only[Sem.run_bind,q4,Result.andThen_ok,Sem.run_pure])⟩
 case box t a=>
  simp only[cn] at he;obtain⟨cs,aZ,he⟩:=he;obtain⟨K',v,w',q1,q2,q3,q4⟩:=Ui (P:=P) (t:=t) s aZ (hρ a);rw[he] at q2 q3;exact⟨K',v,w',q1,q2,q3,.inl (by simp only[Sem.run_bind,q4,Result.andThen_ok,Sem.run_pure])⟩
 case build t parts=>
  simp only[cn] at he;obtain⟨y,hy,he⟩:=he;obtain⟨rfl,rfl⟩:=fG he;obtain⟨v,q1,q2⟩:=Ux hρ hy w;exact .jW s q2 (by simp only[Sem.run_bind,q1,Result.andThen_ok,Sem.run_pure])
 case buildSlice t len parts=>
  split at he
  ·simp only[cn] at he;obtain⟨y,hy,he⟩:=he;obtain⟨rfl,rfl⟩:=fG he;obtain⟨K',v,w',q1,q2,q3,q4⟩:=Uw s hρ hy;exact⟨K',v,w',q1,q2,q3,.inl (by simp only[Sem.run_bind,q4,Result.andThen_ok,Sem.run_pure])⟩
  ·split at he
   ·rename_i k sz es hy;injection he with he;obtain⟨K',v,w',q1,q2,q3,q4⟩:=Uv s hρ hy;rw[he] at q2 q3;exact⟨K',v,w',q1,q2,q3,.inl (by simp only[Sem.run_bind,q4,Result.andThen_ok,Sem.run_pure])⟩
   ·cases he
 case load t a=>
  simp only[cn] at he;obtain⟨y,hy,he⟩:=he;obtain⟨rfl,rfl⟩:=fG he;obtain⟨g,p,v,q1,q2,q3⟩:=IZ s hy (hρ a);exact .jW s q3 (by simp only[q1,Instr.loadAt,Instr.sureAddr,Sem.run_bind,q2,Result.andThen_ok,Sem.run_pure])
 case store t a y=>
  simp only[cn] at he;obtain⟨h2,hy,he⟩:=he;obtain⟨rfl,rfl⟩:=fG he;obtain⟨w',q1,q2⟩:=aff s hy (hρ a) (hρ y);exact⟨K,undef,w',.refl K,q2,.tuple _ _ .nil,.inr ⟨by simp only[Sem.run_bind,q1,Result.andThen_ok,Sem.run_pure],rfl⟩⟩
 case nilCheck a=>
  simp only[cn] at he;obtain⟨y,hy,he⟩:=he;obtain⟨rfl,rfl⟩:=fG he;have ha:=hρ a;generalize ρ a=xa at ha hy;generalize hq:ρ' a=ca at ha;unfold Jm at hy;split at hy
  ·injection hy with hy;subst hy;cases ha with|box _ _ _ hb=>exact .jW s (.box _ _ _ hb) (by simp only[hq,Sem.run_pure])|dj _ _=>exact .jW s (.dj _ _) (by simp only[hq,Sem.run_pure])
  ·injection hy with hy;subst hy;cases ha with|elem _ _ _ _ g o p cells hr hv hc hi hp mg=>exact .jW s (.elem _ _ _ _ g o p cells hr hv hc hi hp mg) (by simp only[hq,Sem.run_pure])
  ·injection hy with hy;subst hy;cases ha with|func _ _ _ fs cs h1 h2=>exact .jW s (.func _ _ _ fs cs h1 h2) (by simp only[hq,Sem.run_pure])
  ·injection hy with hy;subst hy;cases ha with|yield _ g hl=>exact .jW s (.yield _ g hl) (by simp only[hq,Sem.run_pure])
  ·injection hy with hy;subst hy;cases ha with|iface _ _ c hx=>exact .jW s (.iface _ _ c hx) (by simp only[hq,Sem.run_pure])
  ·cases hy
 case binOp op t a b yt=>
  simp only[cn] at he;obtain⟨y,hy,he⟩:=he;obtain⟨rfl,rfl⟩:=fG he;obtain⟨v,q1,q2⟩:=T7 hy (hρ a) (hρ b) w;exact .jW s q2 (by rw[Sem.run_bind,q1];rfl)
 case unOp op t a=>
  simp only[cn] at he;obtain⟨y,hy,he⟩:=he;obtain⟨rfl,rfl⟩:=fG he;obtain⟨v,q1,q2⟩:=afU hy (hρ a) w;exact .jW s q2 (by simp only[Sem.run_bind,q1,Result.andThen_ok,Sem.run_pure])
 case convert sr ds a=>
  obtain⟨K',v,w',q1,q2,q3,q4⟩:=Vm s he (hρ a);exact⟨K',v,w',q1,q2,q3,.inl (by simp only[Sem.run_bind,q4,Result.andThen_ok,Sem.run_pure])⟩
 case makeInterface t a=>
  split at he
  ·rename_i ud;injection he with he;obtain⟨rfl,rfl⟩:=fG he;obtain⟨d,hu,hd⟩:=IG ud;refine .jW s (.iface t _ _ (hρ a)) ?_;simp only[Instr.makeInterface,Sem.run_bind,cb hu,Result.andThen_ok];cases d<;>first|exact absurd rfl (hd _)|rfl
  ·cases he
 case makeFunc fn first az=>
  injection he with he;obtain⟨rfl,rfl⟩:=fG he;refine .jW s (.func fn _ _ _ _ (by rw[yn];exact aM.map_mk λx _=>hρ x) (by rw[yn];exact aM.map_mk λx _=>hρ x)) rfl
 case makeSlice t l c=>
  obtain⟨K',v,w',q1,q2,q3,q4⟩:=aay s he (hρ l) (hρ c);exact⟨K',v,w',q1,q2,q3,.inl (by simp only[Sem.run_bind,q4,Result.andThen_ok,Sem.run_pure])⟩
 case slice t a lo hi mx=>
  simp only[cn] at he;obtain⟨y,hy,he⟩:=he;obtain⟨rfl,rfl⟩:=fG he;obtain⟨v,q1,q2⟩:=aew hρ hy (hρ a) w;exact .jW s q2 (by simp only[Sem.run_bind,q1,Result.andThen_ok,Sem.run_pure])
 case fieldAddr t a f=>
  simp only[cn] at he;obtain⟨y,hy,he⟩:=he;obtain⟨rfl,rfl⟩:=fG he;obtain⟨v,q1,q2⟩:=WI hy (hρ a) w;exact .jW s q2 (by simp only[Sem.run_bind,q1,Result.andThen_ok,Sem.run_pure])
 case field t a f=>
  have ha:=hρ a;generalize ρ a=xa at ha he;generalize hq:ρ' a=ca at ha;split at he
  ·rename_i fields cs hu;split at he
   ·rename_i fd hf;simp only[cn] at he;obtain⟨y,hy,he⟩:=he;obtain⟨rfl,rfl⟩:=fG he;cases ha with|agg _ vs dJ=>obtain⟨v,q1,q2⟩:=O8 hy dJ w;exact .jW s q2 (by simp only[Instr.field,Sem.run_bind,cb hu,Result.andThen_ok,hf,hq,asAgg,Sem.run_pure,q1])
   ·cases he
  ·cases he
 case indexAddr t a i=>
  simp only[cn] at he;obtain⟨y,hy,he⟩:=he;obtain⟨rfl,rfl⟩:=fG he;obtain⟨v,q1,q2⟩:=Zx hy (hρ a) (hρ i) w;exact .jW s q2 (by simp only[Sem.run_bind,q1,Result.andThen_ok,Sem.run_pure])
 case index t a i=>
  simp only[cn] at he;obtain⟨y,hy,he⟩:=he;obtain⟨rfl,rfl⟩:=fG he;obtain⟨v,q1,q2⟩:=Zz hy (hρ a) (hρ i) w;exact .jW s q2 (by simp only[Sem.run_bind,q1,Result.andThen_ok,Sem.run_pure])
 case typeAssert a xt t okk=>
  simp only[cn] at he;obtain⟨y,hy,he⟩:=he;obtain⟨rfl,rfl⟩:=fG he;obtain⟨v,q1,q2⟩:=Tz (xt:=xt) hy (hρ a) w;exact .jW s q2 (by simp only[Sem.run_bind,q1,Result.andThen_ok,Sem.run_pure])
 case extract a i=>
  have ha:=hρ a;generalize ρ a=xa at ha he;generalize hq:ρ' a=ca at ha;split at he
  ·rename_i vs;simp only[cn] at he;obtain⟨y,hy,he⟩:=he;obtain⟨rfl,rfl⟩:=fG he;cases ha with|tuple _ cvs dJ=>obtain⟨c,hc,hr⟩:=dJ.get hy;have:cvs[i]?=aa c:=(by simpa using hc);exact .jW s hr (by simp only[Instr.extract,hq,this,Sem.run_bind,Sem.run_pure,Result.andThen_ok])
  ·cases he
 all_goals cases he
end
def pT(n:Nat)(ops:Array Oper):Bool:=ops.all λo=>match o.dst with|some d=>decide (d<n)|none=>ab
def codeOk(n:Nat):Code->Bool
 | .region _ ops _=>pT n ops
 | .seq a b=>codeOk n a&&codeOk n b
 | .cond _ a b=>codeOk n a&&codeOk n b
 | .block _ c=>codeOk n c
 | .loop c=>codeOk n c
 | .scope c=>codeOk n c
 | .rangeFunc _ ps a b=>ps.all (λp=>decide (p<n))&&codeOk n a&&codeOk n b
 |_=>ab
def zw(P:aQ)(fn:bF)(n:Nat)(c:Code):Bool:=codeOk n c&&(P.funcs[fn]?).isSome
inductive nf (K:aH):List (bF × List AV)->List Deferred->List Nat->Prop
 |nil:nf K [] [] []
 |call (g:bF) (args:List AV) (vs az:Array aC) (ds cds ms) (hv:aM K args (vs++az).toList) (h:nf K ds cds ms):
  nf K ((g,args)::ds) ({target:=.fn (.func g) az,args:=vs}::cds) ms
 |mark (r:Nat) (ds cds ms) (hr:r∈K.md) (hn:r∉ms) (h:nf K ds cds ms):nf K ds ({target:=.collected r,args:=#[]}::cds) (r::ms)
def nf.mono{K K'}(le:K.Le K'){ds cds ms}(h:nf K ds cds ms):nf K' ds cds ms:=by
 induction h with
 |nil=>exact .nil|call g args vs az ds cds ms hv _ ih=>exact .call g args vs az ds cds ms (hv.mono le) ih|mark r ds cds ms hr hn _ ih=>exact .mark r ds cds ms (le.md r hr) hn ih
structure gk(P:aQ)(K:aH)(e:Env)(a:Act)(B:cW)(ms:List Nat):Prop where
 dN:jl K e.tmps a.tmps
 defers:nf K e.defers a.defers ms
 round:match e.round with
  |none=>B.roundOf=ah
  |some l=>∃g,K.γ[l]?=aa g/\B.roundOf=aa g/\B.kind=.normal/\a.defers=[]/\ms=[]/\e.defers=[]
 fn:(P.funcs[B.fn]?).isSome=ab
def gk.mono{P}{K K'}(le:K.Le K'){e}{a}{B}{ms}(h:gk P K e a B ms):gk P K' e a B ms:=by
 refine⟨h.dN.mono le,h.defers.mono le,?_,h.fn⟩;have:=h.round;cases hr:e.round with|none=>rw[hr] at this;exact this|some l=>rw[hr] at this;obtain⟨g,h1,h2⟩:=this;exact⟨g,le.γ _ _ h1,h2⟩
inductive CS (K:aH) (kind:CallKind) (base:List cW):Option (AV × Bool)->List cW->Prop
 |normal (h:kind=.normal):CS K kind base ah base
 |ret (c0:cW) (rest:List cW) (hk:kind=.deferred) (hb:base=c0::rest) (hm:c0.mode=.returning):CS K kind base ah base
 |aX (c0:cW) (rest:List cW) (x:AV) (v:aC) (r:Bool) (hk:kind=.deferred) (hb:base=c0::rest) (hx:aI K x v):
  CS K kind base (aa (x,r)) ({c0 with mode:=.panicking [{v,recovered:=r}]}::rest)
def CS.mono{K K'}(le:K.Le K'){kind base p cs}(h:CS K kind base p cs):CS K' kind base p cs:=by
 cases h with|normal h=>exact .normal h|ret c0 rest hk hb hm=>exact .ret c0 rest hk hb hm|aX c0 rest x v r hk hb hx=>exact .aX c0 rest x v r hk hb (hx.mono le)
def zl(s:kO)(d t)(x):(s.set d x).get t=if d=t then x else s.get t:=by
 simp only[kO.set,kO.get,look];by_cases h:d=t
 ·subst h;have:ij d d=ab:=Nat.beq_refl d;rw[this,aB rfl];rfl
 ·have:ij d t=ak:=by
   cases hb:ij d t with|false=>rfl|true=>exact absurd (iK hb) h
  rw[this,ax h];rfl
section
variable {P:aQ} {K:aH} {G:Nat->Option (List AV)} {w0 w:aT} {h:ae}
def jl.set{s:kO}{tmps:Array aC}(hs:jl K s tmps){d:Nat}(hd:d<tmps.size){x:AV}{v:aC}(hx:aI K x v):jl K (s.set d x) (tmps.setIfInBounds d v):=by
 intro t;rw[zl];by_cases ht:d=t
 ·subst ht;rw[aB rfl];simp[r9,hd];exact hx
 ·rw[ax ht];have:(tmps.setIfInBounds d v).getD t undef=tmps.getD t undef:=by simp[r9,ht]
  rw[this];exact hs t
def tW{e:Env}{a:Act}(hs:jl K e.tmps a.tmps)(x:bI):aI K (e.eval x) (a.eval x):=by
 cases x with|tmp t=>exact hs t|const v=>exact EP v|global g=>exact .dj g 0|func f=>exact .func (.func f) [] [] #[] #[] .nil .nil
def gk.put{e:Env}{a:Act}{B:cW}{ms:List Nat}(hf:gk P K e a B ms){dst:Option Tmp}(hd:∀d,dst=aa d->d<a.tmps.size){x:AV}{v:aC}(hx:aI K x v):
 gk P K (e.put dst x) (a.put dst v) B ms:=by
 cases dst with|none=>exact hf|some d=>exact⟨hf.dN.set (hd d rfl) hx,hf.defers,hf.round,hf.fn⟩
def oi(a:Act)(dst)(v):(a.put dst v).tmps.size=a.tmps.size:=by cases dst<;>simp[Act.put]
section steps
variable {B:cW} {a:Act} {k:List Item} {cs:List cW} {ops:Array Oper} {i:Nat} {rest:List Nat} {o:Oper} {w':aT}
def xg(ho:ops[i]?=aa o)(v:aC):(B.atR a (.inRegion ops (i::rest)::k)).finish v=B.atR (a.put o.dst v) (.inRegion ops rest::k):=by rw[Frame.finish_atR,ho];rfl
def CF(ho:ops[i]?=aa o)(hw:Region.wanted o (yielded ops a.tmps)=ab){v:aC}(hr:(o.semAt B.roundOf a.eval).run P w=.ok (.value v) w'):
 step P (lone (B.atR a (.inRegion ops (i::rest)::k)) cs w)=.next (lone (B.atR (a.put o.dst v) (.inRegion ops rest::k)) cs w'):=by
 refine step_lone_go ?_;rw[stepGR_op ho hw,<-xg ho];simp[stepG.apply,hr,Sem.runT_eq]
def ae5(ho:ops[i]?=aa o)(hw:Region.wanted o (yielded ops a.tmps)=ab)(hr:(o.semAt B.roundOf a.eval).run P w=.ok .skip w'):
 step P (lone (B.atR a (.inRegion ops (i::rest)::k)) cs w)=.next (lone (B.atR (a.put o.dst undef) (.inRegion ops rest::k)) cs w'):=by
 refine step_lone_go ?_;rw[stepGR_op ho hw,<-xg ho];simp[stepG.apply,hr,Sem.runT_eq]
def ae0(ho:ops[i]?=aa o)(hw:Region.wanted o (yielded ops a.tmps)=ab){f:bF}{args:Array aC}(hr:(o.semAt B.roundOf a.eval).run P w=.ok (.enter f args) w'):
 step P (lone (B.atR a (.inRegion ops (i::rest)::k)) cs w)=.next (lone (Frame.enter P f args .normal) (B.atR a (.inRegion ops (i::rest)::k)::cs) w'):=by
 refine step_lone_go ?_;rw[stepGR_op ho hw];simp[stepG.apply,hr,Sem.runT_eq,Frame.atR]
def ae4(ho:ops[i]?=aa o)(hw:Region.wanted o (yielded ops a.tmps)=ab){l:Nat}{f:bF}{tmps:Array aC}{assign body:Code}(hr:(o.semAt B.roundOf a.eval).run P w=.ok (.round l f tmps assign body) w'):
 step P (lone (B.atR a (.inRegion ops (i::rest)::k)) cs w)=.next (lone (Frame.round l f tmps assign body .normal) (B.atR a (.inRegion ops (i::rest)::k)::cs) w'):=by
 refine step_lone_go ?_;rw[stepGR_op ho hw];simp[stepG.apply,hr,Sem.runT_eq,Frame.atR]
def aeZ(ho:ops[i]?=aa o)(hw:Region.wanted o (yielded ops a.tmps)=ab){d:Deferred}(hr:(o.semAt B.roundOf a.eval).run P w=.ok (.defer d) w'):
 step P (lone (B.atR a (.inRegion ops (i::rest)::k)) cs w)=.next (lone (B.atR ({a with defers:=d::a.defers}.put o.dst undef) (.inRegion ops rest::k)) cs w'):=by
 refine step_lone_go ?_;rw[stepGR_op ho hw,<-xg (B:=B) (k:=k) (rest:=rest) (a:={a with defers:=d::a.defers}) ho];simp[stepG.apply,hr,Sem.runT_eq,Frame.atR]
def Qy(ho:ops[i]?=aa o)(hw:Region.wanted o (yielded ops a.tmps)=ab){v:aC}(hr:(o.semAt B.roundOf a.eval).run P w=.halt (.panic v) w'):
 step P (lone (B.atR a (.inRegion ops (i::rest)::k)) cs w)=.next (lone {B.atR a (.inRegion ops (i::rest)::k) with mode:=.panicking [{v,recovered:=ak}]} cs w'):=by
 refine step_lone_go ?_;rw[stepGR_op ho hw,<-Frame.raise_atR];simp[stepG.apply,hr,Sem.runT_eq]
def ae2(ho:ops[i]?=aa o)(hw:Region.wanted o (yielded ops a.tmps)=ab)(ml:B.roundOf=ah)(hr:(o.semAt B.roundOf a.eval).run P w=.ok .recover w')
 (ht:tryRecover (B.atR a (.inRegion ops (i::rest)::k)) cs=ah):
 step P (lone (B.atR a (.inRegion ops (i::rest)::k)) cs w)=.next (lone (B.atR (a.put o.dst .nilIface) (.inRegion ops rest::k)) cs w'):=by
 refine step_lone_go ?_;have Il:(B.atR a (.inRegion ops (i::rest)::k)).roundOf=ah:=ml;rw[stepGR_op ho hw,<-xg ho];simp[stepG.apply,hr,Sem.runT_eq,Il,ht]
def ae3(ho:ops[i]?=aa o)(hw:Region.wanted o (yielded ops a.tmps)=ab)(ml:B.roundOf=ah)(hr:(o.semAt B.roundOf a.eval).run P w=.ok .recover w')
 {v:aC} {bu:List cW} (ht:tryRecover (B.atR a (.inRegion ops (i::rest)::k)) cs=aa (v,bu)):
 step P (lone (B.atR a (.inRegion ops (i::rest)::k)) cs w)=.next (lone (B.atR (a.put o.dst v) (.inRegion ops rest::k)) bu w'):=by
 refine step_lone_go ?_;have Il:(B.atR a (.inRegion ops (i::rest)::k)).roundOf=ah:=ml;rw[stepGR_op ho hw,<-xg ho];simp[stepG.apply,hr,Sem.runT_eq,Il,ht]
end steps
end
abbrev fQ(P:aQ)(G:Nat->Option (List AV))(w0:aT)(K:aH)(h:ae)(w:aT):Prop:=bg K G (zw P) w0 h w
def lv(P:aQ)(K:aH)(m:Machine)(B:cW)(k:List Item)(cs:List cW):Xt->Act->aT->Prop
 | .normal,a,w=>Steps P m (lone (B.atR a k) cs w)
 | .exit id,a,w=>∃todo,exitTo id todo=exitTo id k/\Steps P m (lone (B.atR a (.code (.exit id)::todo)) cs w)
 | .ret,a,w=>∃todo,Steps P m (lone (B.atR a (.code .ret::todo)) cs w)
 | .panic x,a,w=>∃todo v,aI K x v/\Steps P m (lone {B.atR a todo with mode:=.panicking [{v,recovered:=ak}]} cs w)
def lv.of_steps{P}{K}{m m'}{B}{k}{cs}{x}{a}{w}(hs:Steps P m m')(h:lv P K m' B k cs x a w):lv P K m B k cs x a w:=by
 cases x with
 |normal=>exact hs.trans h|exit id=>obtain⟨t,h1,h2⟩:=h;exact⟨t,h1,hs.trans h2⟩
 |ret=>obtain⟨t,h2⟩:=h;exact⟨t,hs.trans h2⟩
 |panic x=>obtain⟨t,v,h1,h2⟩:=h;exact⟨t,v,h1,hs.trans h2⟩
def lv.pass{P}{K}{m}{B}{it}{k}{cs}{x}{a}{w}(hp:it.plain=ab)(hn:x≠ .normal)
 (h:lv P K m B (it::k) cs x a w):lv P K m B k cs x a w:=by
 cases x with
 |normal=>exact absurd rfl hn|exit id=>obtain⟨t,h1,h2⟩:=h;refine⟨t,h1.trans ?_,h2⟩;cases it<;>first|rfl|simp[Item.plain] at hp
 |ret=>exact h|panic x=>exact h
structure Left(P:aQ)(G:Nat->Option (List AV))(w0:aT)(K:aH)(ms:List Nat)(B:cW)(base:List cW)(m:Machine)(k:List Item)(n:Nat)(out:Xt)(e':Env)(h':ae)
 (K':aH) (w':aT) (a':Act) (bu:List cW) (ms':List Nat):Prop where
 le:K.Le K'
 jY:fQ P G w0 K' h' w'
 frame:gk P K' e' a' B ms'
 cs:CS K' B.kind base e'.aX bu
 size:a'.tmps.size=n
 marks:∀r∈ms',r∈ms∨r∉K.md
 arr:lv P K' m B k bu out a' w'
def Lb(P:aQ)(G:Nat->Option (List AV))(w0:aT)(f:Code->Env->ae->Option (Xt × Env × ae)):Prop:=
 ∀c e h out e' h',f c e h=aa (out,e',h')->∀K w a B k base cs ms,gk P K e a B ms->CS K B.kind base e.aX cs->fQ P G w0 K h w->codeOk a.tmps.size c=ab->
  ∃K' w' a' bu ms',Left P G w0 K ms B base (lone (B.atR a (.code c::k)) cs w) k a.tmps.size out e' h' K' w' a' bu ms'
def K9(P:aQ)(K:aH)(fr:cW)(w:aT):bw->Prop
 | .ret x=>∃v,aI K x v/\fr.leaving P w (.returned v)
 | .panic x=>∃v,aI K x v/\fr.leaving P w (.panicked [{v,recovered:=ak}])
def La(P:aQ)(G:Nat->Option (List AV))(w0:aT)(f:bF->List AV->ae->Option (bw × ae)):Prop:=
 ∀g args h r h',f g args h=aa (r,h')->(∃fn,P.funcs[g]?=aa fn/\fn.body.isSome=ab)/\∀K w bS,aM K args (bS:Array aC).toList->fQ P G w0 K h w->∀cs,
  ∃K' w' fr,K.Le K'/\fQ P G w0 K' h' w'/\Steps P (lone (Frame.enter P g bS .normal) cs w) (lone fr cs w')/\fr.fn=g/\K9 P K' fr w' r
def Lc(P:aQ)(G:Nat->Option (List AV))(w0:aT)(f:bF->List AV->Option (AV × Bool)->ae->Option (bw × Option (AV × Bool) × ae)):Prop:=
 ∀g args m h x m' h',f g args m h=aa (.ret x,m',h')->(∃fn,P.funcs[g]?=aa fn/\fn.body.isSome=ab)/\∀K w bS base cs,aM K args (bS:Array aC).toList->CS K .deferred base m cs->fQ P G w0 K h w->
  ∃K' w' fr bu v,K.Le K'/\fQ P G w0 K' h' w'/\CS K' .deferred base m' bu/\Steps P (lone (Frame.enter P g bS .deferred) cs w) (lone fr bu w')/\fr.kind=.deferred/\fr.going P w' (.returned v)
def Ld(P:aQ)(G:Nat->Option (List AV))(w0:aT)(f:Nat->List AV->ae->Option (bw × ae)):Prop:=
 ∀l args h r h',f l args h=aa (r,h')->∀K w bS lg,K.γ[l]?=aa lg->aM K args (bS:Array aC).toList->fQ P G w0 K h w->∀pg cs,
  ∃fn tmps assign body K' w',(Instr.yield lg bS).run P w=.ok (.round lg fn tmps assign body) w/\K.Le K'/\fQ P G w0 K' h' w'/\
   match r with
   | .ret x=>∃v,aI K' x v/\Steps P (lone (Frame.round lg fn tmps assign body .normal) (pg::cs) w) (lone (pg.finish v) cs w')
   | .panic x=>∃v fr,aI K' x v/\Steps P (lone (Frame.round lg fn tmps assign body .normal) (pg::cs) w) (lone fr (pg::cs) w')/\fr.leaving P w' (.panicked [{v,recovered:=ak}])
structure o7(P:aQ)(G:Nat->Option (List AV))(w0:aT)(R:Rec):Prop where
 code:Lb P G w0 R.code
 call:La P G w0 R.call
 fS:Lc P G w0 R.fS
 round:Ld P G w0 R.round
section
variable {P:aQ} {G:Nat->Option (List AV)} {w0:aT} {R:Rec}
def tK (P : aQ) : Prop := ∀ (g : bF) (fn : Func), P.funcs[g]? = aa fn -> (fn.name == "runtime.NumGoroutine") = ak
def JT(hn:tK P){g:bF}{fn:Func}(hf:P.funcs[g]?=aa fn)(hb:fn.body.isSome=ab)(args:Array aC)(w:aT):(callFunc g args).run P w=.ok (.enter g args) w:=by
 have h1:=hn g fn hf;have h2:fn.body.isNone=ak:=by cases h:fn.body<;>simp_all
 unfold callFunc;simp only[Sem.run_bind,run_program,Result.andThen_ok,hf];rw[h1,h2];rfl
def aaC{t:aE}{name:String}{f:bF}(he:I6 P t name=aa f)(v:aC)(w:aT)(n:Nat):
 (method (n+1) t v name).run P w=.ok (f,v) w:=by
 unfold I6 at he;split at he
 ·rename_i i hi;split at he
  ·rename_i m hm;have key:∀(pr:Bool) (d:TypeDesc),m.path.toList=[]->m.func=aa (f,pr)->P.underlying t=aa d->(match d with| .pointer _=>pr=ab|_=>pr=ak)->(method (n+1) t v name).run P w=.ok (f,v) w:=(by intro pr d hp hf hu hd;simp only[method,Sem.run_bind,oj hi,Result.andThen_ok,hm,hp,follow,Sem.run_pure,hf,receiverAt,cb hu];cases d<;>simp only at hd<;>subst hd<;>simp[Place.get]);split at he
   ·rename_i f' e hp hf hu;injection he with he;subst he;exact key _ _ hp hf hu rfl
   ·cases he
   ·rename_i f' d bL hp hf hd;injection he with he;subst he;refine key _ _ hp hf hd ?_;cases d<;>first|rfl|(exact absurd rfl (bL _))
   ·cases he
  ·cases he
 ·cases he
end
section
variable {P:aQ} {G:Nat->Option (List AV)} {w0:aT} {R:Rec}
def zz{n}{ops}(h:pT n ops=ab){i:Nat}{o}(ho:ops[i]?=aa o):∀d,o.dst=aa d->d<n:=by intro d hd;unfold pT at h;rw[Array.all_eq_true] at h;obtain⟨hi,rfl⟩:=wK.1 ho;have:=h i hi;rw[hd] at this;simpa using this
def QY{K}{e}{a:Act}(hs:jl K e.tmps a.tmps){ops}(jw:pT a.tmps.size ops=ab){o}{b}(he:cd ops e o=aa b):
 Region.wanted o (yielded ops a.tmps)=b:=by
 unfold cd at he;unfold Region.wanted;cases hg:o.guard with
 |none=>rw[hg] at he;simpa using he|some gw=>
  obtain⟨j,want⟩:=gw;rw[hg] at he;simp only at he ⊢;cases hb:(ops[j]?).bind (·.dst) with
  |none=>rw[hb] at he;simp only[aY] at he;subst he;simp[yielded,hb]|some d=>
   rw[hb] at he;simp only at he;have hd:d<a.tmps.size:=by
    cases ho:ops[j]? with
    |none=>rw[ho] at hb;cases hb
    |some o'=>rw[ho] at hb;exact zz jw ho d hb
   have hv:=hs d;have HT:a.tmps[d]?=aa (a.tmps.getD d undef):=(by simp[hd]);have hy:∀z,a.tmps.getD d undef=z->yielded ops a.tmps j=match z with| .bool b=>aa b|_=>ah:=by intro z hz;unfold yielded;rw[hb];simp only[qZ];rw[HT,hz];cases z<;>rfl
   unfold Env.get at he;generalize hx:e.tmps.get d=x at he hv;generalize hz:a.tmps.getD d undef=z at hv;have hy:=hy z hz;split at he
   ·rename_i b';obtain⟨rfl,-⟩:=hv.dF;injection he with he;rw[hy];simp[<-he]
   ·injection he with he;cases hv with|tuple cs vs h=>rw[hy];simp[<-he]
   ·cases he
def Dn{K}{e:Env}{a:Act}(hs:jl K e.tmps a.tmps)(xs:Array bI):aM K (xs.toList.map e.eval) (xs.map a.eval).toList:=by rw[yn];exact aM.map_mk λx _=>tW hs x
def K7(P:aQ)(G:Nat->Option (List AV))(w0:aT)(K:aH)(ms:List Nat)(B:cW)(base:List cW)(m:Machine)(ops:Array Oper)(o:Oper)(rest:List Nat)(k:List Item)(n:Nat)(e':Env)(h':ae)(res:bw):Prop:=
 ∃K' w' a' bu,K.Le K'/\fQ P G w0 K' h' w'/\gk P K' e' a' B ms/\CS K' B.kind base e'.aX bu/\a'.tmps.size=n/\
  match res with
  | .ret x=>∃v,aI K' x v/\Steps P m (lone (B.atR (a'.put o.dst v) (.inRegion ops rest::k)) bu w')
  | .panic x=>∃v todo,aI K' x v/\Steps P m (lone {B.atR a' todo with mode:=.panicking [{v,recovered:=ak}]} bu w')
def aav:∃d,Made.depth=d+1:=⟨Made.depth - 1,by decide⟩
def O2(hn:tK P)(hR:o7 P G w0 R){e e':Env}{a:Act}{B:cW}{ms:List Nat}{base cs:List cW}{K:aH}{h h':ae}{w:aT}{ops:Array Oper}{i:Nat}{rest:List Nat}{o:Oper}{res:bw}
 (he:cA P G R e h o=aa (res,e',h')) (hf:gk P K e a B ms) (aZ:CS K B.kind base e.aX cs) (hs:fQ P G w0 K h w) (ho:ops[i]?=aa o) (hw:Region.wanted o (yielded ops a.tmps)=ab) (k:List Item):
 K7 P G w0 K ms B base (lone (B.atR a (.inRegion ops (i::rest)::k)) cs w) ops o rest k a.tmps.size e' h' res:=by
 have ml:∀(ro:Option Nat) (x:Sem Next),(∀c,o.op≠ .defer c)->execOp a.eval o=x->(o.semAt ro a.eval)=x:=λro x bL hx=>by rw[Oper.semAt_eq ro a.eval o bL,hx]
 have rD:e.round.isSome=ak->B.roundOf=ah:=by
  intro hr;have:=hf.round;cases hq:e.round with|none=>rw[hq] at this;exact this|some l=>rw[hq] at hr;cases hr
 unfold cA at he;split at he
 ·-- recover
  rename_i args argTypes aR;have ny:execOp a.eval o=(do let d <-resolve a.eval {callee:=.builtin .recover,args:=args,argTypes:=argTypes} o.type;invoke d.target d.args):=by unfold execOp;rw[aR]
  have iG:(o.semAt B.roundOf a.eval).run P w=.ok .recover w:=by rw[ml _ _ (by rw[aR];intro c;simp) ny];simp[resolve,invoke,builtin]
  split at he
  ·cases he
  ·rename_i jx;have hB:=rD (by simpa using jx);split at he
   ·rename_i x hp;simp only[aY,aW] at he;obtain⟨rfl,rfl,rfl⟩:=he;rw[hp] at aZ;generalize yV:B.kind=kd at aZ;generalize pI:(aa (x,ak):Option (AV × Bool))=pp at aZ;cases aZ with
    |normal h=>cases pI
    |ret c0 rest' hk hb hm=>cases pI
    |aX c0 rest' x' v r hk hb hx=>injection pI with pI;injection pI with h1 h2;subst h1;subst h2;refine⟨K,w,a,_,.refl K,hs,⟨hf.dN,hf.defers,hf.round,hf.fn⟩,.aX c0 rest' x v ab (yV.trans hk) hb hx,rfl,v,hx,.one (ae3 ho hw hB iG ?_)⟩;simp[tryRecover,Frame.atR,yV,hk]
   ·rename_i hp;simp only[aY,aW] at he;obtain⟨rfl,rfl,rfl⟩:=he;refine⟨K,w,a,cs,.refl K,hs,hf,aZ,rfl,.nilIface,.v _ rfl,.one (ae2 ho hw hB iG ?_)⟩;generalize yV:B.kind=kd at aZ;generalize pI:e.aX=pp at aZ hp;cases aZ with
    |normal h=>subst h;simp[tryRecover,Frame.atR,yV]|ret c0 rest' hk hb hm=>subst hk;subst hb;simp[tryRecover,Frame.atR,yV,hm]|aX c0 rest' x' v r hk hb hx=>
     subst hk;cases r with|false=>exact absurd rfl (hp x')|true=>simp[tryRecover,Frame.atR,yV]
 ·-- the built-in panic
  rename_i args argTypes aR;have ny:execOp a.eval o=(do let d <-resolve a.eval {callee:=.builtin .panic,args:=args,argTypes:=argTypes} o.type;invoke d.target d.args):=by unfold execOp;rw[aR]
  split at he
  ·rename_i t x sG;simp only[aY,aW] at he;obtain⟨rfl,rfl,rfl⟩:=he;have hv:=Dn hf.dN args;rw[sG] at hv;generalize hz:args.map a.eval=z at hv;obtain⟨z⟩:=z;simp only at hv;cases hv with
   |cons _ c _ bu h1 h2=>
    cases h2;cases h1 with|iface _ _ c hc=>refine⟨K,w,a,cs,.refl K,hs,hf,aZ,rfl,.iface t c,_,.iface t x c hc,.one (Qy ho hw ?_)⟩;rw[ml _ _ (by rw[aR];intro c;simp) ny];simp[resolve,invoke,builtin,hz,Instr.panic]
  ·cases he
 ·-- another built-in function
  rename_i b args argTypes gf ew aR;have ny:execOp a.eval o=(do let d <-resolve a.eval {callee:=.builtin b,args:=args,argTypes:=argTypes} o.type;invoke d.target d.args):=by unfold execOp;rw[aR]
  simp only[cn] at he;obtain⟨⟨x,h1⟩,he,hq⟩:=he;simp only[aW] at hq;obtain⟨rfl,rfl,rfl⟩:=hq;obtain⟨K',v,w',le,s',hx,iG⟩:=Uz hs (ty:=o.type) he (Dn hf.dN args) (args.map λ| .const _=>ab|_=>ak);refine⟨K',w',a,cs,le,s',hf.mono le,aZ.mono le,rfl,v,hx,.one (CF ho hw ?_)⟩;rw[ml _ _ (by rw[aR];intro c;simp) ny];simp only[resolve,invoke,Sem.run_bind,Sem.run_pure,Result.andThen_ok];exact iG
 ·-- a call
  rename_i c gf ew gO aR;have ny:execOp a.eval o=(do let d <-resolve a.eval c o.type;invoke d.target d.args):=by unfold execOp;rw[aR]
  simp only[cn] at he;obtain⟨⟨r,h1⟩,he,hq⟩:=he;simp only[aW] at hq;obtain⟨rfl,rfl,rfl⟩:=hq;have sG:=Dn hf.dN c.args;have call:∀(g:bF) (xs:List AV) (vs:Array aC),R.call g xs h=aa (r,h1)->aM K xs vs.toList->((∃fn,P.funcs[g]?=aa fn/\fn.body.isSome=ab)->(execOp a.eval o).run P w=(callFunc g vs).run P w)->
   K7 P G w0 K ms B base (lone (B.atR a (.inRegion ops (i::rest)::k)) cs w) ops o rest k a.tmps.size e h1 r:=by
   intro g xs vs oa dJ iG;obtain⟨⟨fn,fw,jM⟩,hc⟩:=hR.call g xs h r h1 oa;obtain⟨K',w',fr,le,s',bC,-,hl⟩:=hc K w vs dJ hs (B.atR a (.inRegion ops (i::rest)::k)::cs);have D6:=ae0 (k:=k) (cs:=cs) (rest:=rest) ho hw (by rw[ml B.roundOf _ (by rw[aR];intro c;simp) rfl,iG ⟨fn,fw,jM⟩];exact JT hn fw jM vs w);cases r with
   |ret x=>obtain⟨v,hx,hl⟩:=hl;refine⟨K',w',a,cs,le,s',hf.mono le,aZ.mono le,rfl,v,hx,.head D6 (bC.trans (.one ?_))⟩;rw[step_leave_returned hl,xg ho]
   |panic x=>obtain⟨v,hx,hl⟩:=hl;refine⟨K',w',a,cs,le,s',hf.mono le,aZ.mono le,rfl,v,.inRegion ops (i::rest)::k,hx,.head D6 (bC.trans (.one ?_))⟩;rw[step_leave_panicked hl,Frame.raise_atR]
  obtain⟨callee,cargs,cts⟩:=c;cases callee with
  |builtin b=>simp[mc] at he|value f=>
   simp only[mc] at he;have kZ:=tW hf.dN f;generalize Ii:e.eval f=qf at he kZ;generalize sN:a.eval f=qv at kZ;split at he
   ·rename_i g first az
    cases kZ with
    |func _ _ _ fs bu AU pA=>
     refine call g _ (fs++cargs.map a.eval++bu) he ?_ λ_=>?_
     ·simp only[ym];exact(AU.append sG).append pA
     ·rw[ny];simp[resolve,sN,Deferred.ofValue,invoke]
   ·rename_i l;cases kZ with
    |yield _ lg oJ=>
     obtain⟨fn,tmps,assign,body,K',w',hy,le,s',hm⟩:=hR.round l _ h r h1 he K w (cargs.map a.eval) lg oJ sG hs (B.atR a (.inRegion ops (i::rest)::k)) cs;have D5:=ae4 (k:=k) (cs:=cs) (rest:=rest) ho hw (by rw[ml B.roundOf _ (by rw[aR];intro c;simp) ny];simp only[resolve,sN,Deferred.ofValue,invoke,Sem.run_bind,Sem.run_pure,Result.andThen_ok];simpa using hy);cases r with
     |ret x=>obtain⟨v,hx,bC⟩:=hm;refine⟨K',w',a,cs,le,s',hf.mono le,aZ.mono le,rfl,v,hx,.head D5 ?_⟩;rw[<-xg ho];exact bC
     |panic x=>obtain⟨v,fr,hx,bC,hl⟩:=hm;refine⟨K',w',a,cs,le,s',hf.mono le,aZ.mono le,rfl,v,.inRegion ops (i::rest)::k,hx,.head D5 (bC.trans (.one ?_))⟩;rw[step_leave_panicked hl,Frame.raise_atR]
   ·cases he
  |invoke rcv name=>
   simp only[mc] at he;have kZ:=tW hf.dN rcv;generalize Ii:e.eval rcv=qf at he kZ;generalize sN:a.eval rcv=qv at kZ;split at he
   ·rename_i t x;split at he
    ·rename_i f hm;cases kZ with
     |iface _ _ c hc=>
      refine call f _ (#[c]++cargs.map a.eval) he ?_ λ_=>?_
      ·simp only[ym];exact .cons _ _ _ _ hc sG
      ·rw[ny];obtain⟨d,hd⟩:=aav;have YI:=aaC hm c w (P.types.size+d);have bG:P.types.size+Made.depth=P.types.size+d+1:=(by omega);simp only[resolve,sN,invoke,Sem.run_bind,Sem.run_pure,Result.andThen_ok,callMethod];have h0:(#[Value.iface t c]++Ga a.eval cargs)[0]?=aa (.iface t c):=(by rw[Array.getElem?_append_left bh];rfl);simp only[h0,run_program,Sem.run_bind,Result.andThen_ok,bG,YI];congr 2;have hh:(#[Value.iface t c]++Ga a.eval cargs).extract 1 (#[Value.iface t c]++Ga a.eval cargs).size=Ga a.eval cargs:=(by apply F7;simp;rw[<-tC,<-jj (f:=a.eval),List.take_length]);rw[hh]
    ·cases he
   ·cases he
 ·-- a defer
  rename_i f args argTypes aR;split at he
  ·cases he
  ·rename_i jx;have hB:=rD (by simpa using jx);have kZ:=tW hf.dN f;generalize Ii:e.eval f=qf at he kZ;generalize sN:a.eval f=qv at kZ;split at he
   ·rename_i g first az
    simp only[aY,aW] at he;obtain⟨rfl,rfl,rfl⟩:=he;cases kZ with
    |func _ _ _ fs bu AU pA=>
     have iG:(o.semAt B.roundOf a.eval).run P w=.ok (.defer {target:=.fn (.func g) bu,args:=fs++args.map a.eval}) w:=(by rw[hB,Oper.semAt_none];unfold execOp;rw[aR];simp[resolve,sN,Deferred.ofValue]);refine⟨K,w,{a with defers:=_::a.defers},cs,.refl K,hs,⟨hf.dN,.call g _ (fs++args.map a.eval) bu _ _ _ ?_ hf.defers,?_,hf.fn⟩,aZ,rfl,undef,?_,.one (aeZ ho hw iG)⟩
     ·simp only[ym];exact(AU.append (Dn hf.dN args)).append pA
     ·have da:=hf.round;cases hq:e.round with|none=>simp only;exact hB|some l=>rw[hq] at jx;exact absurd rfl jx
     ·exact .tuple [] #[] .nil
   ·cases he
 ·-- a panic
  rename_i x aR;have kZ:=tW hf.dN x;generalize Ii:e.eval x=qf at he kZ;generalize sN:a.eval x=qv at kZ;split at he
  ·rename_i t x;simp only[aY,aW] at he;obtain⟨rfl,rfl,rfl⟩:=he;cases kZ with|iface _ _ c hc=>refine⟨K,w,a,cs,.refl K,hs,hf,aZ,rfl,.iface t c,_,.iface t x c hc,.one (Qy ho hw ?_)⟩;rw[Oper.semAt_eq _ _ _ (by rw[aR];intro c;simp)];unfold execOp;rw[aR];simp[sN,Instr.panic]
  ·cases he
 ·-- any other operation
  rename_i op agK agL agM agN agO agP;simp only[cn] at he;obtain⟨⟨x,h1⟩,he,hq⟩:=he;simp only[aW] at hq;obtain⟨rfl,rfl,rfl⟩:=hq;have H8:∀c,o.op≠ .defer c:=by intro c hc;rw[hc] at he;simp[cB] at he
  obtain⟨K',v,w',le,s',hx,iG⟩:=abO hs (λx=>tW hf.dN x) he;refine⟨K',w',a,cs,le,s',hf.mono le,aZ.mono le,rfl,v,hx,.one ?_⟩;rcases iG with iG|⟨iG,rfl⟩
  ·exact CF ho hw (by rw[Oper.semAt_eq _ _ _ H8];exact iG)
  ·exact ae5 ho hw (by rw[Oper.semAt_eq _ _ _ H8];exact iG)
end
end Go.AE
end
section
namespace Go.AE
def aed{x y}(h:pY x y=ab):x=y:=by
 cases x<;>cases y<;>simp only[pY,aL,decide_eq_true_eq,dP,beq_iff_eq] at h
 case int.int=>rw[h.1,h.2]
 case bool.bool=>rw[h]
 case string.string a b=>
  obtain⟨⟨a⟩⟩:=a;obtain⟨⟨b⟩⟩:=b;simp only at h;rw[h]
 case pointer.pointer a b=>cases a<;>cases b<;>first|rfl|simp[pY] at h
 all_goals rfl
def aeb{x y}(h:FB x y=ab):x=y:=by cases x<;>cases y<;>simp only[FB,dP] at h<;>rw[iK h]
def aec{x y}(h:CA x y=ab):x=y:=by cases x<;>cases y<;>simp only[CA,dP] at h<;>first|rfl|rw[iK h]
mutual
def JX:∀{x y:AV},fN x y=ab->x=y
 | .v x,.v y,h=>by rw[fN] at h;rw[aed h]
 | .list k sz es,.list k' sz' es',h=>by rw[fN,aL,aL] at h;rw[aec h.1.1,iK h.1.2,J0 h.2]
 | .arr b o l c,.arr b' o' l' c',h=>by rw[fN,aL,aL,aL] at h;rw[iK h.1.1.1,iK h.1.1.2,iK h.1.2,iK h.2]
 | .agg cs,.agg ds,h=>by rw[fN] at h;rw[zW h]
 | .tuple cs,.tuple ds,h=>by rw[fN] at h;rw[zW h]
 | .ptr r o,.ptr r' o',h=>by rw[fN,aL] at h;rw[aeb h.1,iK h.2]
 | .elem sz es i o,.elem sz' es' i' o',h=>by rw[fN,aL,aL,aL] at h;rw[iK h.1.1.1,iK h.1.1.2,iK h.1.2,J0 h.2]
 | .yield l,.yield l',h=>by rw[fN] at h;rw[iK h]
 | .iface t x,.iface t' y,h=>by rw[fN,aL] at h;rw[iK h.1,JX h.2]
 | .func (.func f) a b,.func (.func g) a' b',h=>by rw[fN,aL,aL] at h;rw[iK h.1.1,zW h.1.2,zW h.2]
 | .bad,y,h=>by simp[fN] at h
def zW:∀{x y:List AV},oR x y=ab->x=y
 | [],[],_=>rfl
 |x::xs,y::ys,h=>by rw[oR,aL] at h;rw[JX h.1,zW h.2]
 | [],y::ys,h=>by simp[oR] at h
 |x::xs,[],h=>by simp[oR] at h
def J0:∀{x y:List (List AV)},pX x y=ab->x=y
 | [],[],_=>rfl
 |x::xs,y::ys,h=>by rw[pX,aL] at h;rw[zW h.1,J0 h.2]
 | [],y::ys,h=>by simp[pX] at h
 |x::xs,[],h=>by simp[pX] at h
end
end Go.AE
end
section
namespace Go.AE
section
variable {P:aQ} {G:Nat->Option (List AV)} {R:Rec}
def I5{ρ ρ':bI->AV}{ps:Array (Nat × bI)}(h:∀x∈ps.map (·.2),ρ x=ρ' x):(ps.toList.map λp=>(p.1,ρ p.2))=ps.toList.map λp=>(p.1,ρ' p.2):=
 Sb λp hp=>by rw[h p.2 (Array.mem_map.2 ⟨p,Ro.1 hp,rfl⟩)]
def vM{ρ ρ':bI->AV}{ps:Array bI}(h:∀x∈ps,ρ x=ρ' x):ps.toList.map ρ=ps.toList.map ρ':=
 Sb λp hp=>h p (Ro.1 hp)
def Pb{ρ ρ':Operand->AV}{h:ae}{op:Op}(hx:∀x∈op.operands,ρ x=ρ' x):cB P G ρ h op=cB P G ρ' h op:=by
 cases op<;>simp only[Op.operands] at hx<;>simp only[cB]
 case build t ps=>rw[I5 (λx hm=>hx x (by simpa using hm))]
 case buildSlice t n ps=>rw[I5 (λx hm=>hx x (by simpa using hm))]
 case makeFunc fn first captured=>
  rw[vM (ps:=first) λx hm=>hx x (by simp[hm]),vM (ps:=captured) λx hm=>hx x (by simp[hm])]
 case slice t x lo hi mx=>cases lo<;>cases hi<;>cases mx<;>simp_all
 all_goals (first|rfl|(simp_all;done))
def Op.OG{c:Call}{x}(h:x∈c.args):x∈c.operands:=by simp[Call.operands,h]
def G0{e e2:Env}{h:ae}{c:Call}(hx:∀x∈c.operands,e.eval x=e2.eval x):mc P R e h c=mc P R e2 h c:=by
 have ha:c.args.toList.map e.eval=c.args.toList.map e2.eval:=vM λx hm=>hx x (Op.OG hm);unfold mc;simp only[ha];cases hc:c.callee with|builtin b=>rfl|value f=>have hf:e.eval f=e2.eval f:=hx f (by simp[Call.operands,hc]);simp only[hf]|invoke r m=>have hr:e.eval r=e2.eval r:=hx r (by simp[Call.operands,hc]);simp only[hr]
def Env.with(e e':Env):Env:={e with defers:=e'.defers,aX:=e'.aX}
def Jr{e e':Env}{h h':ae}{o:Oper}{r:bw}(he:cA P G R e h o=aa (r,e',h')):e'=e.with e':=by
 unfold cA at he;split at he
 ·split at he
  ·cases he
  ·split at he
   ·simp only[aY,aW] at he;obtain⟨-,rfl,-⟩:=he;rfl
   ·simp only[aY,aW] at he;obtain⟨-,rfl,-⟩:=he;rfl
 ·split at he
  ·simp only[aY,aW] at he;obtain⟨-,rfl,-⟩:=he;rfl
  ·cases he
 ·simp only[cn,aW] at he;obtain⟨_,-,-,rfl,-⟩:=he;rfl
 ·simp only[cn,aW] at he;obtain⟨_,-,-,rfl,-⟩:=he;rfl
 ·split at he
  ·cases he
  ·split at he
   ·simp only[aY,aW] at he;obtain⟨-,rfl,-⟩:=he;rfl
   ·cases he
 ·split at he
  ·simp only[aY,aW] at he;obtain⟨-,rfl,-⟩:=he;rfl
  ·cases he
 ·simp only[cn,aW] at he;obtain⟨_,-,-,rfl,-⟩:=he;rfl
def Jq{e e' e2:Env}{h h':ae}{o:Oper}{r:bw}(hx:∀x∈o.op.operands,e.eval x=e2.eval x)(hd:e2.defers=e.defers)(hp:e2.aX=e.aX)(hr:e2.round=e.round)
 (he:cA P G R e h o=aa (r,e',h')):cA P G R e2 h o=aa (r,e2.with e',h'):=by
 have eK:e2.with e=e2:=by cases e2;cases e;simp_all [Env.with]
 unfold cA at he ⊢;split at he
 ·rename_i args ts aR;simp only[hr,hp];split at he
  ·cases he
  ·rename_i ml;rw[ax ml];split at he
   ·rename_i x pI;simp only[aY,aW] at he;obtain⟨rfl,rfl,rfl⟩:=he;simp[Env.with,<-hd,<-hr]
   ·rename_i pI;simp only[aY,aW] at he;obtain⟨rfl,rfl,rfl⟩:=he;rw[eK]
 ·rename_i args ts aR;have ha:args.toList.map e.eval=args.toList.map e2.eval:=vM λx hm=>hx x (by rw[aR];simp[Op.operands,Call.operands,hm]);simp only[<-ha];split at he
  ·simp only[aY,aW] at he;obtain⟨rfl,rfl,rfl⟩:=he;simp only[eK]
  ·cases he
 ·rename_i b args ts gf ew aR;have ha:args.toList.map e.eval=args.toList.map e2.eval:=vM λx hm=>hx x (by rw[aR];simp[Op.operands,Call.operands,hm]);simp only[cn,aW] at he;obtain⟨q,hq,rfl,rfl,rfl⟩:=he;simp only[<-ha,hq,cy,eK]
 ·rename_i c gf ew gO aR;simp only[cn,aW] at he;obtain⟨q,hq,rfl,rfl,rfl⟩:=he;rw[G0 (e2:=e2) (λx hm=>hx x (by rw[aR];exact hm))] at hq;simp only[hq,cy,eK]
 ·rename_i f args ts aR;have ha:args.toList.map e.eval=args.toList.map e2.eval:=vM λx hm=>hx x (by rw[aR];simp[Op.operands,Call.operands,hm]);have hf:e.eval f=e2.eval f:=hx f (by rw[aR];simp[Op.operands,Call.operands]);simp only[hr];split at he
  ·cases he
  ·rename_i ml;rw[ax ml];simp only[<-hf,<-ha];split at he
   ·simp only[aY,aW] at he;obtain⟨rfl,rfl,rfl⟩:=he;simp only[Env.with,hd,<-hp,<-hr]
   ·cases he
 ·rename_i x aR;have hf:e.eval x=e2.eval x:=hx x (by rw[aR];simp[Op.operands]);simp only[<-hf];split at he
  ·simp only[aY,aW] at he;obtain⟨rfl,rfl,rfl⟩:=he;simp only[eK]
  ·cases he
 ·simp only[cn,aW] at he;obtain⟨q,hq,rfl,rfl,rfl⟩:=he;rw[Pb (ρ':=e2.eval) hx] at hq;simp only[hq,cy,eK]
def ab7{e e':Env}{h h':ae}{o:Oper}{r:bw}(hc:gG o.op=.pure)(he:cA P G R e h o=aa (r,e',h')):
 e'=e/\h'=h/\∀e2:Env,(∀x∈o.op.operands,e.eval x=e2.eval x)->∀h2,cA P G R e2 h2 o=aa (r,e2,h2):=by
 cases aR:o.op with
 |call c=>
  obtain⟨callee,args,ts⟩:=c;rw[aR] at hc;cases callee with
  |value f=>simp[gG] at hc|invoke r n=>simp[gG] at hc|builtin b=>
   cases b<;>simp[gG] at hc
   case len=>
    unfold cA at he ⊢;simp only[aR] at he ⊢;simp only[cn,aW] at he;obtain⟨⟨x,hh⟩,hq,rfl,rfl,rfl⟩:=he;have hT:∀(h2:ae) (l:List AV),oE P G o.dst h2 .len ts o.type l=iX P h2 .len ts o.type l:=λ_ _=>rfl;rw[hT] at hq;have key:hh=h/\∀h2:ae,iX P h2 .len ts o.type (args.toList.map e.eval)=aa (x,h2):=by
     generalize args.toList.map e.eval=l at hq ⊢;rcases l with _|⟨y,_|⟨z,l⟩⟩
     ·simp[iX] at hq
     ·simp only[iX] at hq ⊢;split at hq
      ·rename_i t ht;simp only[cn,aW] at hq;obtain⟨z,hz,rfl,rfl⟩:=hq;refine⟨rfl,λh2=>?_⟩;simp[hz]
      ·cases hq
     ·simp[iX] at hq
    obtain⟨rfl,key⟩:=key;refine⟨rfl,rfl,λe2 hx h2=>?_⟩;have ha:args.toList.map e.eval=args.toList.map e2.eval:=vM λx hm=>hx x (by simp[Op.operands,Call.operands,hm]);rw[<-ha,hT,key h2];rfl
 |buildSlice t n ps=>
  rw[aR] at hc;have pD:sw ps=ak:=by
   cases hb:sw ps with|false=>rfl|true=>simp[gG,hb] at hc
  unfold cA at he ⊢;simp only[aR] at he ⊢;simp only[cn,aW] at he;obtain⟨⟨x,hh⟩,hq,rfl,rfl,rfl⟩:=he;simp only[cB,pD,cn,aW] at hq;obtain⟨y,hy,rfl,rfl⟩:=hq;refine⟨rfl,rfl,λe2 hx h2=>?_⟩;have hm:=I5 (ρ:=e.eval) (ρ':=e2.eval) (ps:=ps) (λx hm=>hx x (by simpa [Op.operands] using hm));simp only[cB,pD,<-hm,hy,cy]
 |_=>
  rw[aR] at hc
  first
   |(simp[gG] at hc;done)
   |(unfold cA at he ⊢
     simp only[aR] at he ⊢;simp only[cn,aW] at he;obtain⟨⟨x,hh⟩,hq,rfl,rfl,rfl⟩:=he;have key:hh=h/\∀h2:ae,cB P G e.eval h2 o.op=aa (x,h2):=by
      rw[aR];simp only[cB] at hq ⊢
      first
       |(simp only[aY,aW] at hq;obtain⟨rfl,rfl⟩:=hq;exact⟨rfl,λ_=>rfl⟩)
       |(simp only[cn,aW] at hq;obtain⟨z,hz,rfl,rfl⟩:=hq;exact⟨rfl,λ_=>by simp only[hz,cy]⟩)
       |(split at hq
         ·simp only[aY,aW] at hq;obtain⟨rfl,rfl⟩:=hq;exact⟨rfl,λ_=>by simp_all⟩
         ·cases hq)
       |(split at hq
         ·simp only[cn,aW] at hq;obtain⟨z,hz,rfl,rfl⟩:=hq;exact⟨rfl,λ_=>by simp_all⟩
         ·cases hq)
       |(split at hq
         ·split at hq
          ·simp only[cn,aW] at hq;obtain⟨z,hz,rfl,rfl⟩:=hq;exact⟨rfl,λ_=>by simp_all⟩
          ·cases hq
         ·cases hq)
     obtain⟨rfl,key⟩:=key;refine⟨rfl,rfl,λe2 hx h2=>?_⟩;rw[<-aR,<-Pb (P:=P) (G:=G) (ρ:=e.eval) (h:=h2) (by rw[aR];exact hx),key h2];rfl)
def aaj{e e':Env}{h h':ae}{o:Oper}{r:bw}{t:aE}{a:bI}(aR:o.op=.load t a)(he:cA P G R e h o=aa (r,e',h')):
 ∃x,r=.ret x/\e'=e/\h'=h/\dz P G h t (e.eval a)=aa x/\∀e2:Env,e2.eval a=e.eval a->∀h2,dz P G h2 t (e.eval a)=aa x->cA P G R e2 h2 o=aa (.ret x,e2,h2):=by
 unfold cA at he ⊢;simp only[aR,cB] at he ⊢;simp only[cn,aW] at he;obtain⟨⟨x,hh⟩,⟨y,hy,rfl,rfl⟩,rfl,rfl,rfl⟩:=he;refine⟨_,rfl,rfl,rfl,hy,λe2 h2 Yr hl=>?_⟩;rw[h2,hl];rfl
def Pv{op}(h:gG op=.reads):∃t a,op=.load t a:=by
 cases op with
 |load t a=>exact⟨t,a,rfl⟩|buildSlice t n ps=>exfalso;simp only[gG] at h;split at h<;>cases h
 |call c=>
  obtain⟨callee,args,ts⟩:=c;cases callee with
  |builtin b=>cases b<;>simp[gG] at h
  |_=>simp[gG] at h
 |_=>simp[gG] at h
end
end Go.AE
end
section
namespace Go.AE
section
variable (P:aQ) (G:Nat->Option (List AV)) (R:Rec) (ops:Array Oper)
def eR(i:Nat)(e:Env)(h:ae):Option (AV × Env × ae):=
 match ops[i]? with
 |none=>ah
 |some o=>
  match cd ops e o with
  |none=>ah
  |some ak=>aa (.tuple [],e,h)
  |some ab=>
   match cA P G R e h o with
   |some (.ret x,e,h)=>aa (x,e,h)
   |_=>ah
def eT(i:Nat):Option Tmp:=(ops[i]?).bind (·.dst)
def lE(i:Nat):Class:=((ops[i]?).map λo=>gG o.op).getD .pure
noncomputable def iN(e:Env)(h:ae)(i:Nat):Class:=if jJ P G R ops e h i=ab then .reads else lE ops i
def bJ(e:Env)(h:ae)(k:Nat):Env × ae:=
 match aG P G R ops (bt k) e h with
 |some (_,e,h)=>(e,h)
 |none=>(e,h)
def qW(e:Env)(h:ae)(k:Nat):AV × Env:=
 match eR P G R ops k (bJ P G R ops e h k).1 (bJ P G R ops e h k).2 with
 |some (x,e,_)=>(x,e)
 |none=>(.bad,e)
def val(e:Env)(h:ae)(S:Nat->Bool):Nat->Nat->AV
 |0,t=>e.get t
 |k+1,t=>if S k=ab/\eT ops k=aa t then (qW P G R ops e h k).1 else val e h S k t
def Alike(e e2:Env)(o:Oper):Prop:=∀t∈o.looksAt ops,e.get t=e2.get t
end
section
variable {P:aQ} {G:Nat->Option (List AV)} {R:Rec} {ops:Array Oper}
def my{i:Nat}{rest:List Nat}{e e':Env}{h h':ae}:
 aG P G R ops (i::rest) e h=aa (.normal,e',h')↔∃x e1 h1,eR P G R ops i e h=aa (x,e1,h1)/\aG P G R ops rest (e1.put (eT ops i) x) h1=aa (.normal,e',h'):=by
 simp only[aG,eR,eT];cases ho:ops[i]? with
 |none=>simp|some o=>
  simp only[qZ];cases hw:cd ops e o with
  |none=>simp|some b=>
   cases b with
   |false=>simp only[aY,aW];exact⟨λhq=>⟨_,_,_,⟨rfl,rfl,rfl⟩,hq⟩,λ⟨_,_,_,⟨a,b,c⟩,hq⟩=>by subst a;subst b;subst c;exact hq⟩
   |true=>
    simp only;cases aR:cA P G R e h o with
    |none=>simp|some q=>
     obtain⟨r,e1,h1⟩:=q;cases r with|panic x=>simp|ret x=>simp only[aY,aW];exact⟨λhq=>⟨_,_,_,⟨rfl,rfl,rfl⟩,hq⟩,λ⟨_,_,_,⟨a,b,c⟩,hq⟩=>by subst a;subst b;subst c;exact hq⟩
def uB{l1 l2:List Nat}:∀{e e':Env} {h h':ae},
 aG P G R ops (l1++l2) e h=aa (.normal,e',h')↔∃e1 h1,aG P G R ops l1 e h=aa (.normal,e1,h1)/\aG P G R ops l2 e1 h1=aa (.normal,e',h'):=by
 induction l1 with
 |nil=>intro e e' h h';simp only[bT,aG,aY,aW,true_and];exact⟨λhq=>⟨_,_,⟨rfl,rfl⟩,hq⟩,λ⟨_,_,⟨a,b⟩,hq⟩=>by subst a;subst b;exact hq⟩
 |cons i l ih=>
  intro e e' h h';rw[bR,my];constructor
  ·rintro⟨x,e1,h1,hs,hr⟩;obtain⟨e2,h2,ha,hb⟩:=ih.1 hr;exact⟨e2,h2,my.2 ⟨x,e1,h1,hs,ha⟩,hb⟩
  ·rintro⟨e2,h2,ha,hb⟩;obtain⟨x,e1,h1,hs,hr⟩:=my.1 ha;exact⟨x,e1,h1,hs,ih.2 ⟨e2,h2,hr,hb⟩⟩
def trace{e e':Env}{h h':ae}:∀{n:Nat},aG P G R ops (bt n) e h=aa (.normal,e',h')->
 (e',h')=bJ P G R ops e h n/\(∀k,k<=n->aG P G R ops (bt k) e h=aa (.normal,(bJ P G R ops e h k).1,(bJ P G R ops e h k).2))/\
 ∀k,k<n->eR P G R ops k (bJ P G R ops e h k).1 (bJ P G R ops e h k).2=aa ((qW P G R ops e h k).1,(qW P G R ops e h k).2,(bJ P G R ops e h (k+1)).2)/\
  (bJ P G R ops e h (k+1)).1=(qW P G R ops e h k).2.put (eT ops k) (qW P G R ops e h k).1:=by
 intro n
 induction n generalizing e' h' with
 |zero=>
  intro hn;have h0:(e',h')=bJ P G R ops e h 0:=by unfold bJ;rw[hn]
  refine⟨h0,λk hk=>?_,λk hk=>absurd hk (ik k)⟩;have:k=0:=Nat.le_zero.1 hk;subst this;rw[<-h0];exact hn
 |succ n ih=>
  intro hn;have h0:(e',h')=bJ P G R ops e h (n+1):=by unfold bJ;rw[hn]
  have Nz:=hn;rw[u0,uB] at Nz;obtain⟨e1,h1,ha,hb⟩:=Nz;obtain⟨i1,i2,i3⟩:=ih ha;obtain⟨x,e2,h2,hs,hr⟩:=my.1 hb;simp only[aG,aY,aW,true_and] at hr;refine⟨h0,λk hk=>?_,λk hk=>?_⟩
  ·rcases dp k (n+1) with ay|dy
   ·exact i2 k (tI.1 ay)
   ·have:k=n+1:=fF hk dy;subst this;rw[<-h0];exact hn
  ·rcases dp k n with ay|dy
   ·exact i3 k ay
   ·have:k=n:=fF (tI.1 hk) dy;subst this;have bC:eR P G R ops k (bJ P G R ops e h k).1 (bJ P G R ops e h k).2=aa (x,e2,h2):=(by rw[<-i1];exact hs);have hx:qW P G R ops e h k=(x,e2):=(by unfold qW;rw[bC]);rw[hx,<-h0,bC];obtain⟨rfl,rfl⟩:=hr;exact⟨rfl,rfl⟩
def yB{e e2:Env}{o:Oper}(h:Alike ops e e2 o):∀x∈o.op.operands,e.eval x=e2.eval x:=by
 intro x hx;cases x with|tmp t=>refine h t ?_;unfold Oper.looksAt;exact List.mem_append_left _ (List.mem_filterMap.2 ⟨.tmp t,by simpa using hx,rfl⟩)|_=>rfl
def tM{e e2:Env}{o:Oper}(h:Alike ops e e2 o):cd ops e o=cd ops e2 o:=by
 unfold cd;cases hg:o.guard with
 |none=>rfl|some gw=>
  obtain⟨j,want⟩:=gw;simp only;cases hd:(ops[j]?).bind (·.dst) with|none=>rfl|some d=>have:e.get d=e2.get d:=h d (by unfold Oper.looksAt;rw[hg];simp[hd]);simp only[this]
def tc(e:Env)(d)(x)(t):(e.put d x).get t=if d=aa t then x else e.get t:=by
 cases d with|none=>simp[Env.put]|some d=>simp only[Env.put,Env.get,zl,aY]
def rO(e:Env)(d)(x):(e.put d x).defers=e.defers/\(e.put d x).aX=e.aX/\(e.put d x).round=e.round:=by cases d<;>exact⟨rfl,rfl,rfl⟩
def J9{k:Nat}{e e1 e2:Env}{h h1:ae}{x:AV}(hs:eR P G R ops k e h=aa (x,e1,h1)):
 e1=e.with e1/\((∀o,ops[k]?=aa o->Alike ops e e2 o)->e2.defers=e.defers->e2.aX=e.aX->e2.round=e.round->eR P G R ops k e2 h=aa (x,e2.with e1,h1)):=by
 unfold eR at hs ⊢;cases ho:ops[k]? with
 |none=>rw[ho] at hs;cases hs
 |some o=>
  rw[ho] at hs;simp only at hs ⊢;cases hw:cd ops e o with
  |none=>rw[hw] at hs;cases hs
  |some b=>
   rw[hw] at hs;cases b with
   |false=>simp only[aY,aW] at hs;obtain⟨rfl,rfl,rfl⟩:=hs;refine⟨rfl,λeE hd hp hr=>?_⟩;rw[<-tM (eE o rfl),hw];have:e2.with e=e2:=(by cases e2;cases e;simp_all [Env.with]);simp only[this]
   |true=>
    simp only at hs;split at hs
    ·rename_i x' e' h' aR;simp only[aY,aW] at hs;obtain⟨rfl,rfl,rfl⟩:=hs;refine⟨Jr aR,λeE hd hp hr=>?_⟩;rw[<-tM (eE o rfl),hw];simp only[Jq (yB (eE o rfl)) hd hp hr aR]
    ·cases hs
def Ka{k:Nat}{e e1:Env}{h h1:ae}{x:AV}(hc:lE ops k=.pure)(hs:eR P G R ops k e h=aa (x,e1,h1)):
 e1=e/\h1=h/\∀e2 h2,(∀o,ops[k]?=aa o->Alike ops e e2 o)->eR P G R ops k e2 h2=aa (x,e2,h2):=by
 unfold eR at hs ⊢;cases ho:ops[k]? with
 |none=>rw[ho] at hs;cases hs
 |some o=>
  rw[ho] at hs;simp only at hs ⊢;have hc:gG o.op=.pure:=by simpa [lE,ho] using hc
  cases hw:cd ops e o with
  |none=>rw[hw] at hs;cases hs
  |some b=>
   rw[hw] at hs;cases b with
   |false=>simp only[aY,aW] at hs;obtain⟨rfl,rfl,rfl⟩:=hs;refine⟨rfl,rfl,λe2 h2 eE=>?_⟩;rw[<-tM (eE o rfl),hw]
   |true=>
    simp only at hs;split at hs
    ·rename_i x' e' h' aR;simp only[aY,aW] at hs;obtain⟨rfl,rfl,rfl⟩:=hs;obtain⟨rfl,rfl,cH⟩:=ab7 hc aR;refine⟨rfl,rfl,λe2 h2 eE=>?_⟩;rw[<-tM (eE o rfl),hw];simp only[cH e2 (yB (eE o rfl)) h2]
    ·cases hs
def Reads(P:aQ)(G:Nat->Option (List AV))(R:Rec)(ops:Array Oper)(k:Nat)(e:Env)(x:AV)(h2:ae):Prop:=
 ∀o,ops[k]?=aa o->cd ops e o=aa ab->(∀t a,o.op=.load t a->dz P G h2 t (e.eval a)=aa x)/\(w8 o.op=ab->cA P G R e h2 o=aa (.ret x,e,h2))
def Qz{k:Nat}{e e1:Env}{h h1:ae}{x:AV}(hc:lE ops k=.reads)(hs:eR P G R ops k e h=aa (x,e1,h1)):
 e1=e/\h1=h/\Reads P G R ops k e x h/\∀e2 h2,(∀o,ops[k]?=aa o->Alike ops e e2 o)->Reads P G R ops k e x h2->eR P G R ops k e2 h2=aa (x,e2,h2):=by
 unfold eR at hs ⊢;unfold Reads;cases ho:ops[k]? with
 |none=>rw[ho] at hs;cases hs
 |some o=>
  rw[ho] at hs;simp only at hs ⊢;have hc:gG o.op=.reads:=by simpa [lE,ho] using hc
  obtain⟨t,a,kU⟩:=Pv hc;cases hw:cd ops e o with
  |none=>rw[hw] at hs;cases hs
  |some b=>
   rw[hw] at hs;cases b with
   |false=>
    simp only[aY,aW] at hs;obtain⟨rfl,rfl,rfl⟩:=hs;refine⟨rfl,rfl,λo' fK NU=>?_,λe2 h2 eE _=>?_⟩
    ·injection fK with fK;subst fK;rw[hw] at NU;cases NU
    ·rw[<-tM (eE o rfl),hw]
   |true=>
    simp only at hs;split at hs
    ·rename_i x' e' h' aR;simp only[aY,aW] at hs;obtain⟨rfl,rfl,rfl⟩:=hs;obtain⟨y,hy,rfl,rfl,hl,cH⟩:=aaj kU aR;injection hy with hy;subst hy;refine⟨rfl,rfl,λo' fK _=>⟨λt' a' Nr=>?_,λfh=>?_⟩,λe2 h2 eE jx=>?_⟩
     ·injection fK with fK;subst fK;rw[kU] at Nr;injection Nr with h1 h2;subst h1;subst h2;exact hl
     ·injection fK with fK;subst fK;rw[kU] at fh;cases fh
     ·rw[<-tM (eE o rfl),hw];have XQ:e2.eval a=e'.eval a:=(yB (eE o rfl) a (by rw[kU];simp[Op.operands])).symm;simp only[cH e2 XQ h2 ((jx o rfl hw).1 t a kU)]
    ·cases hs
def UL{e e2:Env}{h:ae}{o:Oper}{x:AV}(aR:w8 o.op=ab)(hz:∀z∈o.op.operands,e.eval z=e2.eval z)(ho:cA P G R e h o=aa (.ret x,e,h)):cA P G R e2 h o=aa (.ret x,e2,h):=by
 unfold w8 at aR;split at aR
 ·cases aR
 ·cases aR
 ·rename_i c n1 n2 hc;have ur:∀z∈c.operands,e.eval z=e2.eval z:=λz hm=>hz z (by rw[hc];exact hm);obtain⟨callee,args,ts⟩:=c;have ha:args.toList.map e.eval=args.toList.map e2.eval:=vM λx hm=>ur x (Op.OG hm);unfold cA at ho ⊢;cases callee with
  |builtin b=>
   cases b
   case recover=>exact absurd rfl (n1 _ _)
   case panic=>exact absurd rfl (n2 _ _)
   all_goals
    simp only[hc] at ho ⊢;rw[<-ha];simp only[cn] at ho ⊢;obtain⟨⟨y,h1⟩,q1,q2⟩:=ho;injection q2 with q2 q3;injection q3 with q3 q4;injection q2 with q2;subst q2;subst q4;exact⟨_,q1,rfl⟩
  |value f=>simp only[hc] at ho ⊢;rw[<-G0 (e:=e) (e2:=e2) ur];simp only[cn] at ho ⊢;obtain⟨⟨y,h1⟩,q1,q2⟩:=ho;injection q2 with q2 q3;injection q3 with q3 q4;subst q2;subst q4;exact⟨_,q1,rfl⟩
  |invoke r n=>simp only[hc] at ho ⊢;rw[<-G0 (e:=e) (e2:=e2) ur];simp only[cn] at ho ⊢;obtain⟨⟨y,h1⟩,q1,q2⟩:=ho;injection q2 with q2 q3;injection q3 with q3 q4;subst q2;subst q4;exact⟨_,q1,rfl⟩
 ·rename_i s d y hc;have hy:e.eval y=e2.eval y:=hz y (by rw[hc];simp[Op.operands]);unfold cA at ho ⊢;simp only[hc,cB] at ho ⊢;rw[<-hy];simp only[cn] at ho ⊢;obtain⟨⟨y,h1⟩,q1,q2⟩:=ho;injection q2 with q2 q3;injection q3 with q3 q4;injection q2 with q2;subst q2;subst q4;exact⟨_,q1,rfl⟩
 ·cases aR
def Qx{k:Nat}{e e1:Env}{h h1:ae}{x y:AV}{o:Oper}(ho:ops[k]?=aa o)(aR:w8 o.op=ab)(hc:cA P G R e h o=aa (.ret y,e,h))(hs:eR P G R ops k e h=aa (x,e1,h1)):
 e1=e/\h1=h/\(cd ops e o=aa ab->x=y)/\∀e2 h2,(∀o,ops[k]?=aa o->Alike ops e e2 o)->Reads P G R ops k e x h2->eR P G R ops k e2 h2=aa (x,e2,h2):=by
 unfold eR at hs ⊢;rw[ho] at hs;simp only[ho] at hs ⊢;cases hw:cd ops e o with
 |none=>rw[hw] at hs;cases hs
 |some b=>
  rw[hw] at hs;cases b with
  |false=>simp only[aY,aW] at hs;obtain⟨rfl,rfl,rfl⟩:=hs;refine⟨rfl,rfl,(λq=>nomatch q),λe2 h2 eE _=>?_⟩;rw[<-tM (eE o rfl),hw]
  |true=>simp only[hc] at hs;simp only[aY,aW] at hs;obtain⟨rfl,rfl,rfl⟩:=hs;refine⟨rfl,rfl,λ_=>rfl,λe2 h2 eE jx=>?_⟩;rw[<-tM (eE o rfl),hw];have h3:=(jx o ho hw).2 aR;have h4:=UL (e2:=e2) aR (λz hz=>yB (eE o rfl) z hz) h3;simp only[h4]
end
end Go.AE
end
