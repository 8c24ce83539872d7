/-
  The engine, part 12: a region that draws. In whatever order the machine takes it, it gives what it gives in the order of its text.
-/
import Derived.Test.YtnfciiiohoafaaaGreatDoorPA
import Derived.RangeFuncRecord
open List renaming range→aby,cons_append→ab3,mem_append_left→aeH,mem_filterMap→agj,all_eq_true→abE,mem_range→abQ,range_zero→agD,mem_cons_of_mem→abH,mem_cons→acd,countP_cons_of_neg→afT,countP_cons_of_pos→aeY,mem_cons_self→abM,reverse_nil→agz,mem_filter→ac7,getElem?_eq_some_iff→abm,getElem?_eq_getElem→abo,getElem?_set→aci,cons.injEq→aeM,any_eq_true→adJ,mapM_cons→afZ
open Option renaming bind_some→acu,some.injEq→abA,map_some→abJ,map_eq_some_iff→abv,getD_some→aee
open Prod renaming mk.injEq→abC
open Nat renaming not_lt_zero→acH,le_zero→afv,lt_or_ge→abL,lt_succ_iff→adQ,le_antisymm→adF,eq_of_beq_eq_true→abR,lt_trans→acO,le_of_lt→acz,zero_le→abG,lt_succ_self→adI,lt_succ_of_lt→ac1,not_succ_le_self→af9,lt_of_le_of_ne→agk,le_trans→abT,lt_of_lt_of_le→ab8,le_refl→abq,strongRecOn→aff,le_max_left→aer,le_max_right→ad2
open Bool renaming and_eq_true→abr,or_eq_true→acS,not_true→aeJ,false_or→aem,false_eq_true→abW,or_true→agl
open Array renaming getElem?_eq_some_iff→acD,all_eq_true→ad9,getElem_of_mem→af8,getElem_mem→afF,getElem?_eq_getElem→abV,getElem?_setIfInBounds→ad1,replicate→ad8,getD_eq_getD_getElem?→aeF,getElem?_replicate→afL,all_eq_true'→aep,getElem?_toList→adq,mem_push→agG,size→agZ
set_option linter.unusedSimpArgs false
set_option linter.unusedVariables false
set_option linter.constructorNameAsVariable false
section
namespace Go.AE
section
variable (P:Program) (G:Nat->Option (List AV)) (R:Rec) (ops:Array Oper)
def dR(i:Nat)(e:Env)(h:ae):Option (AV × Env × ae):=
 match ops[i]? with
 |none=>none
 |some o=>
  match bg ops e o with
  |none=>none
  |some false=>some (.tuple [],e,h)
  |some true=>
   match dC P G R e h o with
   |some (.ret x,e,h)=>some (x,e,h)
   |_=>none
def gE(i:Nat):Option Tmp:=(ops[i]?).bind (·.dst)
def jw(i:Nat):Class:=((ops[i]?).map fun o=>cY o.op).getD .pure
noncomputable def lh(e:Env)(h:ae)(i:Nat):Class:=if gC P G R ops e h i=true then .reads else jw ops i
def cK(e:Env)(h:ae)(k:Nat):Env × ae:=
 match br P G R ops (aby k) e h with
 |some (_,e,h)=>(e,h)
 |none=>(e,h)
def xAt(e:Env)(h:ae)(k:Nat):AV × Env:=
 match dR P G R ops k (cK P G R ops e h k).1 (cK P G R ops e h k).2 with
 |some (x,e,_)=>(x,e)
 |none=>(.bad,e)
def val(e:Env)(h:ae)(S:Nat->Bool):Nat->Nat->AV
 |0,t=>e.get t
 |k+1,t=>if S k=true/\gE ops k=some t then (xAt P G R ops e h k).1 else val e h S k t
def Alike(e e2:Env)(o:Oper):Prop:=∀t∈o.looksAt ops,e.get t=e2.get t
end
section
variable {P:Program} {G:Nat->Option (List AV)} {R:Rec} {ops:Array Oper}
theorem dn{i:Nat}{rest:List Nat}{e e':Env}{h h':ae}:
 br P G R ops (i::rest) e h=some (.normal,e',h')↔∃x e1 h1,dR P G R ops i e h=some (x,e1,h1)/\br P G R ops rest (e1.put (gE ops i) x) h1=some (.normal,e',h'):=by
 simp only[br,dR,gE]
 cases ho:ops[i]? with
 |none=>simp
 |some o=>
  simp only[acu]
  cases hw:bg ops e o with
  |none=>simp
  |some b=>
   cases b with
   |false=>
    simp only[abA,abC]
    exact⟨fun hq=>⟨_,_,_,⟨rfl,rfl,rfl⟩,hq⟩,fun⟨_,_,_,⟨a,b,c⟩,hq⟩=>by subst a;subst b;subst c;exact hq⟩
   |true=>
    simp only
    cases hop:dC P G R e h o with
    |none=>simp
    |some q=>
     obtain⟨r,e1,h1⟩:=q
     cases r with
     |panic x=>simp
     |ret x=>
      simp only[abA,abC]
      exact⟨fun hq=>⟨_,_,_,⟨rfl,rfl,rfl⟩,hq⟩,fun⟨_,_,_,⟨a,b,c⟩,hq⟩=>by subst a;subst b;subst c;exact hq⟩
theorem iE{l1 l2:List Nat}:∀{e e':Env} {h h':ae},
 br P G R ops (l1++l2) e h=some (.normal,e',h')↔∃e1 h1,br P G R ops l1 e h=some (.normal,e1,h1)/\br P G R ops l2 e1 h1=some (.normal,e',h'):=by
 induction l1 with
 |nil=>
  intro e e' h h'
  simp only[List.nil_append,br,abA,abC,true_and]
  exact⟨fun hq=>⟨_,_,⟨rfl,rfl⟩,hq⟩,fun⟨_,_,⟨a,b⟩,hq⟩=>by subst a;subst b;exact hq⟩
 |cons i l ih=>
  intro e e' h h'
  rw[ab3,dn]
  constructor
  ·rintro⟨x,e1,h1,hs,hr⟩
   obtain⟨e2,h2,ha,hb⟩:=ih.1 hr
   exact⟨e2,h2,dn.2 ⟨x,e1,h1,hs,ha⟩,hb⟩
  ·rintro⟨e2,h2,ha,hb⟩
   obtain⟨x,e1,h1,hs,hr⟩:=dn.1 ha
   exact⟨x,e1,h1,hs,ih.2 ⟨e2,h2,hr,hb⟩⟩
theorem trace{e e':Env}{h h':ae}:∀{n:Nat},br P G R ops (aby n) e h=some (.normal,e',h')->
 (e',h')=cK P G R ops e h n/\(∀k,k<=n->br P G R ops (aby k) e h=some (.normal,(cK P G R ops e h k).1,(cK P G R ops e h k).2))/\
 ∀k,k<n->dR P G R ops k (cK P G R ops e h k).1 (cK P G R ops e h k).2=some ((xAt P G R ops e h k).1,(xAt P G R ops e h k).2,(cK P G R ops e h (k+1)).2)/\
  (cK P G R ops e h (k+1)).1=(xAt P G R ops e h k).2.put (gE ops k) (xAt P G R ops e h k).1:=by
 intro n
 induction n generalizing e' h' with
 |zero=>
  intro hn
  have h0:(e',h')=cK P G R ops e h 0:=by unfold cK;rw[hn]
  refine⟨h0,fun k hk=>?_,fun k hk=>absurd hk (acH k)⟩
  have:k=0:=afv.1 hk
  subst this
  rw[<-h0];exact hn
 |succ n ih=>
  intro hn
  have h0:(e',h')=cK P G R ops e h (n+1):=by unfold cK;rw[hn]
  have hn':=hn
  rw[List.range_succ,iE] at hn'
  obtain⟨e1,h1,ha,hb⟩:=hn'
  obtain⟨i1,i2,i3⟩:=ih ha
  obtain⟨x,e2,h2,hs,hr⟩:=dn.1 hb
  simp only[br,abA,abC,true_and] at hr
  refine⟨h0,fun k hk=>?_,fun k hk=>?_⟩
  ·rcases abL k (n+1) with hlt|hge
   ·exact i2 k (adQ.1 hlt)
   ·have:k=n+1:=adF hk hge
    subst this
    rw[<-h0];exact hn
  ·rcases abL k n with hlt|hge
   ·exact i3 k hlt
   ·have:k=n:=adF (adQ.1 hk) hge
    subst this
    have hst:dR P G R ops k (cK P G R ops e h k).1 (cK P G R ops e h k).2=some (x,e2,h2):=by rw[<-i1];exact hs
    have hx:xAt P G R ops e h k=(x,e2):=by unfold xAt;rw[hst]
    rw[hx,<-h0,hst]
    obtain⟨rfl,rfl⟩:=hr
    exact⟨rfl,rfl⟩
theorem lj{e e2:Env}{o:Oper}(h:Alike ops e e2 o):∀x∈o.op.operands,e.eval x=e2.eval x:=by
 intro x hx
 cases x with
 |tmp t=>
  refine h t ?_
  unfold Oper.looksAt
  exact aeH _ (agj.2 ⟨.tmp t,by simpa using hx,rfl⟩)
 |_=>rfl
theorem eX{e e2:Env}{o:Oper}(h:Alike ops e e2 o):bg ops e o=bg ops e2 o:=by
 unfold bg
 cases hg:o.guard with
 |none=>rfl
 |some gw=>
  obtain⟨j,want⟩:=gw
  simp only
  cases hd:(ops[j]?).bind (·.dst) with
  |none=>rfl
  |some d=>
   have:e.get d=e2.get d:=h d (by unfold Oper.looksAt;rw[hg];simp[hd])
   simp only[this]
theorem yo(e:Env)(d:Option Tmp)(x:AV)(t:Nat):(e.put d x).get t=if d=some t then x else e.get t:=by
 cases d with
 |none=>simp[Env.put]
 |some d=>
  simp only[Env.put,Env.get,mB,abA]
theorem gd(e:Env)(d:Option Tmp)(x:AV):(e.put d x).defers=e.defers/\(e.put d x).pan=e.pan/\(e.put d x).round=e.round:=by
 cases d<;>exact⟨rfl,rfl,rfl⟩
theorem uE{k:Nat}{e e1 e2:Env}{h h1:ae}{x:AV}(hs:dR P G R ops k e h=some (x,e1,h1)):
 e1=e.with e1/\((∀o,ops[k]?=some o->Alike ops e e2 o)->e2.defers=e.defers->e2.pan=e.pan->e2.round=e.round->dR P G R ops k e2 h=some (x,e2.with e1,h1)):=by
 unfold dR at hs ⊢
 cases ho:ops[k]? with
 |none=>rw[ho] at hs;cases hs
 |some o=>
  rw[ho] at hs
  simp only at hs ⊢
  cases hw:bg ops e o with
  |none=>rw[hw] at hs;cases hs
  |some b=>
   rw[hw] at hs
   cases b with
   |false=>
    simp only[abA,abC] at hs
    obtain⟨rfl,rfl,rfl⟩:=hs
    refine⟨rfl,fun hal hd hp hr=>?_⟩
    rw[<-eX (hal o rfl),hw]
    have:e2.with e=e2:=by cases e2;cases e;simp_all [Env.with]
    simp only[this]
   |true=>
    simp only at hs
    split at hs
    ·rename_i x' e' h' hop
     simp only[abA,abC] at hs
     obtain⟨rfl,rfl,rfl⟩:=hs
     refine⟨N9 hop,fun hal hd hp hr=>?_⟩
     rw[<-eX (hal o rfl),hw]
     simp only[H9 (lj (hal o rfl)) hd hp hr hop]
    ·cases hs
theorem sf{k:Nat}{e e1:Env}{h h1:ae}{x:AV}(hc:jw ops k=.pure)(hs:dR P G R ops k e h=some (x,e1,h1)):
 e1=e/\h1=h/\∀e2 h2,(∀o,ops[k]?=some o->Alike ops e e2 o)->dR P G R ops k e2 h2=some (x,e2,h2):=by
 unfold dR at hs ⊢
 cases ho:ops[k]? with
 |none=>rw[ho] at hs;cases hs
 |some o=>
  rw[ho] at hs
  simp only at hs ⊢
  have hc:cY o.op=.pure:=by simpa [jw,ho] using hc
  cases hw:bg ops e o with
  |none=>rw[hw] at hs;cases hs
  |some b=>
   rw[hw] at hs
   cases b with
   |false=>
    simp only[abA,abC] at hs
    obtain⟨rfl,rfl,rfl⟩:=hs
    refine⟨rfl,rfl,fun e2 h2 hal=>?_⟩
    rw[<-eX (hal o rfl),hw]
   |true=>
    simp only at hs
    split at hs
    ·rename_i x' e' h' hop
     simp only[abA,abC] at hs
     obtain⟨rfl,rfl,rfl⟩:=hs
     obtain⟨rfl,rfl,hall⟩:=Lx hc hop
     refine⟨rfl,rfl,fun e2 h2 hal=>?_⟩
     rw[<-eX (hal o rfl),hw]
     simp only[hall e2 (lj (hal o rfl)) h2]
    ·cases hs
def Reads(P:Program)(G:Nat->Option (List AV))(R:Rec)(ops:Array Oper)(k:Nat)(e:Env)(x:AV)(h2:ae):Prop:=
 ∀o,ops[k]?=some o->bg ops e o=some true->(∀t a,o.op=.load t a->ai P G h2 t (e.eval a)=some x)/\(oj o.op=true->dC P G R e h2 o=some (.ret x,e,h2))
theorem uF{k:Nat}{e e1:Env}{h h1:ae}{x:AV}(hc:jw ops k=.reads)(hs:dR P G R ops k e h=some (x,e1,h1)):
 e1=e/\h1=h/\Reads P G R ops k e x h/\∀e2 h2,(∀o,ops[k]?=some o->Alike ops e e2 o)->Reads P G R ops k e x h2->dR P G R ops k e2 h2=some (x,e2,h2):=by
 unfold dR at hs ⊢
 unfold Reads
 cases ho:ops[k]? with
 |none=>rw[ho] at hs;cases hs
 |some o=>
  rw[ho] at hs
  simp only at hs ⊢
  have hc:cY o.op=.reads:=by simpa [jw,ho] using hc
  obtain⟨t,a,hla⟩:=pV hc
  cases hw:bg ops e o with
  |none=>rw[hw] at hs;cases hs
  |some b=>
   rw[hw] at hs
   cases b with
   |false=>
    simp only[abA,abC] at hs
    obtain⟨rfl,rfl,rfl⟩:=hs
    refine⟨rfl,rfl,fun o' ho' hwo=>?_,fun e2 h2 hal _=>?_⟩
    ·injection ho' with ho';subst ho';rw[hw] at hwo;cases hwo
    ·rw[<-eX (hal o rfl),hw]
   |true=>
    simp only at hs
    split at hs
    ·rename_i x' e' h' hop
     simp only[abA,abC] at hs
     obtain⟨rfl,rfl,rfl⟩:=hs
     obtain⟨y,hy,rfl,rfl,hl,hall⟩:=Ly hla hop
     injection hy with hy;subst hy
     refine⟨rfl,rfl,fun o' ho' _=>⟨fun t' a' hla'=>?_,fun hc'=>?_⟩,fun e2 h2 hal hrd=>?_⟩
     ·injection ho' with ho';subst ho'
      rw[hla] at hla';injection hla' with h1 h2;subst h1;subst h2;exact hl
     ·injection ho' with ho';subst ho'
      rw[hla] at hc';cases hc'
     ·rw[<-eX (hal o rfl),hw]
      have hax:e2.eval a=e'.eval a:=(lj (hal o rfl) a (by rw[hla];simp[Op.operands])).symm
      simp only[hall e2 hax h2 ((hrd o rfl hw).1 t a hla)]
    ·cases hs
theorem Ct{e:Env}{h h2:ae}{o:Oper}{c:Call}{x:AV}(hop:o.op=.call c)(hc:eI P R e h c=some (.ret x,h2)):dC P G R e h o=some (.ret x,e,h2):=by
 have hb:∀b,c.callee≠ .builtin b:=by
  intro b hb
  unfold eI at hc
  rw[hb] at hc
  cases hc
 obtain⟨callee,args,ts⟩:=c
 unfold dC
 cases callee with
 |builtin b=>exact absurd rfl (hb b)
 |value f=>simp only[hop,hc,abJ]
 |invoke r n=>simp only[hop,hc,abJ]
theorem Cu{e e2:Env}{h:ae}{o:Oper}{x:AV}(hop:oj o.op=true)(hz:∀z∈o.op.operands,e.eval z=e2.eval z)(ho:dC P G R e h o=some (.ret x,e,h)):dC P G R e2 h o=some (.ret x,e2,h):=by
 unfold oj at hop
 split at hop
 ·cases hop
 ·cases hop
 ·rename_i c n1 n2 hc
  have hz':∀z∈c.operands,e.eval z=e2.eval z:=fun z hm=>hz z (by rw[hc];exact hm)
  obtain⟨callee,args,ts⟩:=c
  have ha:args.toList.map e.eval=args.toList.map e2.eval:=lZ fun x hm=>hz' x (Op.ox hm)
  unfold dC at ho ⊢
  cases callee with
  |builtin b=>
   cases b
   case recover=>exact absurd rfl (n1 _ _)
   case panic=>exact absurd rfl (n2 _ _)
   all_goals
    simp only[hc] at ho ⊢
    rw[<-ha]
    simp only[abv] at ho ⊢
    obtain⟨⟨y,h1⟩,q1,q2⟩:=ho
    injection q2 with q2 q3
    injection q3 with q3 q4
    injection q2 with q2
    subst q2;subst q4
    exact⟨_,q1,rfl⟩
  |value f=>
   simp only[hc] at ho ⊢
   rw[<-qp (e:=e) (e2:=e2) hz']
   simp only[abv] at ho ⊢
   obtain⟨⟨y,h1⟩,q1,q2⟩:=ho
   injection q2 with q2 q3
   injection q3 with q3 q4
   subst q2;subst q4
   exact⟨_,q1,rfl⟩
  |invoke r n=>
   simp only[hc] at ho ⊢
   rw[<-qp (e:=e) (e2:=e2) hz']
   simp only[abv] at ho ⊢
   obtain⟨⟨y,h1⟩,q1,q2⟩:=ho
   injection q2 with q2 q3
   injection q3 with q3 q4
   subst q2;subst q4
   exact⟨_,q1,rfl⟩
 ·rename_i s d y hc
  have hy:e.eval y=e2.eval y:=hz y (by rw[hc];simp[Op.operands])
  unfold dC at ho ⊢
  simp only[hc,aO] at ho ⊢
  rw[<-hy]
  simp only[abv] at ho ⊢
  obtain⟨⟨y,h1⟩,q1,q2⟩:=ho
  injection q2 with q2 q3
  injection q3 with q3 q4
  injection q2 with q2
  subst q2;subst q4
  exact⟨_,q1,rfl⟩
 ·cases hop
theorem wV{k:Nat}{e e1:Env}{h h1:ae}{x y:AV}{o:Oper}(ho:ops[k]?=some o)(hop:oj o.op=true)(hc:dC P G R e h o=some (.ret y,e,h))(hs:dR P G R ops k e h=some (x,e1,h1)):
 e1=e/\h1=h/\(bg ops e o=some true->x=y)/\∀e2 h2,(∀o,ops[k]?=some o->Alike ops e e2 o)->Reads P G R ops k e x h2->dR P G R ops k e2 h2=some (x,e2,h2):=by
 unfold dR at hs ⊢
 rw[ho] at hs
 simp only[ho] at hs ⊢
 cases hw:bg ops e o with
 |none=>rw[hw] at hs;cases hs
 |some b=>
  rw[hw] at hs
  cases b with
  |false=>
   simp only[abA,abC] at hs
   obtain⟨rfl,rfl,rfl⟩:=hs
   refine⟨rfl,rfl,(fun q=>nomatch q),fun e2 h2 hal _=>?_⟩
   rw[<-eX (hal o rfl),hw]
  |true=>
   simp only[hc] at hs
   simp only[abA,abC] at hs
   obtain⟨rfl,rfl,rfl⟩:=hs
   refine⟨rfl,rfl,fun _=>rfl,fun e2 h2 hal hrd=>?_⟩
   rw[<-eX (hal o rfl),hw]
   have h3:=(hrd o ho hw).2 hop
   have h4:=Cu (e2:=e2) hop (fun z hz=>lj (hal o rfl) z hz) h3
   simp only[h4]
end
end Go.AE
end
section
namespace Go.AE
section
variable {P:Program} {G:Nat->Option (List AV)} {R:Rec} {ops:Array Oper}
def Ord(b:Array Nat)(i j:Nat):Prop:=(b.getD j 0).testBit i=true
structure Fits(P:Program)(G:Nat->Option (List AV))(R:Rec)(ops:Array Oper)(e:Env)(h:ae)(b:Array Nat):Prop where
 Lz:∀(j:Nat) (o:Oper),ops[j]?=some o->∀ed∈o.after,Region.binds .any ed=true->ed.on<j
 bits:∀(j i:Nat) (o:Oper),ops[j]?=some o->i<ops.size->Ord b i j->∃ed∈o.after,Region.binds .any ed=true/\(ed.on=i∨Ord b i ed.on)
 pair:∀i j:Nat,i<j->j<ops.size->Ord b i j∨ng ops i j=true∨cX P G R ops e h i j=true∨(eW ops i j=true/\(gC P G R ops e h i=true∨gC P G R ops e h j=true))
theorem jS{e:Env}{h:ae}(hf:df P G R ops e h=true):Fits P G R ops e h (Region.before ops):=by
 unfold df at hf
 simp only[abr,abE,abQ,acS] at hf
 obtain⟨hb,hp⟩:=hf
 unfold kQ at hb
 simp only[abE,abQ] at hb
 refine⟨fun j o ho ed hed hbd=>?_,fun j i o ho hi hij=>?_,fun i j hij hj=>?_⟩
 ·have hj:j<ops.size:=(acD.1 ho).1
  have:=hb j hj
  simp only[ho,abr,ad9] at this
  obtain⟨q,hq,rfl⟩:=af8 hed
  have:=this.1 q hq
  simpa [hbd] using this
 ·have hj:j<ops.size:=(acD.1 ho).1
  have:=hb j hj
  simp only[ho,abr,abE,abQ] at this
  have:=this.2 i hi
  unfold Ord at hij
  rw[hij] at this
  simp only[aeJ,aem,Array.any_eq_true,abr,acS] at this
  obtain⟨q,hq,h1,h2⟩:=this
  exact⟨o.after[q],afF hq,h1,h2.imp (fun h=>abR h) id⟩
 ·rcases hp j hj i hij with((h|h)|h)|h
  ·exact .inl h
  ·exact .inr (.inl h)
  ·exact .inr (.inr (.inl h))
  ·exact .inr (.inr (.inr (by simpa using h)))
variable {e:Env} {h:ae} {b:Array Nat}
theorem Fits.apart(F:Fits P G R ops e h b){i j:Nat}(hij:i<j)(hj:j<ops.size)(hn:¬Ord b i j){x y:Oper}(hx:ops[i]?=some x)(hy:ops[j]?=some y):
 x.apart ops y=true/\y.apart ops x=true:=by
 rcases F.pair i j hij hj with h|h|h|⟨h,-⟩
 ·exact absurd h hn
 ·unfold ng at h
  simp only[hx,hy,abr] at h
  exact⟨h.1.2,h.2⟩
 ·unfold cX eW at h
  simp only[hx,hy,abr] at h
  exact h.1
 ·unfold eW at h
  simp only[hx,hy,abr] at h
  exact h
theorem lq{i:Nat}{x:Oper}(hx:ops[i]?=some x):jw ops i=cY x.op:=by simp[jw,hx]
theorem o7{i:Nat}(hi:lh P G R ops e h i=.U2):jw ops i=.U2/\gC P G R ops e h i=false:=by
 unfold lh at hi
 split at hi
 ·cases hi
 ·rename_i hc
  exact⟨hi,by simpa using hc⟩
theorem Fits.U2(F:Fits P G R ops e h b){i j:Nat}(hij:i<j)(hj:j<ops.size)(hi:lh P G R ops e h i=.U2)(hja:lh P G R ops e h j=.U2):Ord b i j:=by
 have hx:ops[i]?=some ops[i]:=abV (acO hij hj)
 have hy:ops[j]?=some ops[j]:=abV hj
 obtain⟨hi,ci⟩:=o7 hi
 obtain⟨hja,cj⟩:=o7 hja
 rw[lq hx] at hi
 rw[lq hy] at hja
 rcases F.pair i j hij hj with h|h|h|⟨-,h⟩
 ·exact h
 ·unfold ng at h
  simp only[hx,hy,abr] at h
  rw[hi,hja] at h
  simp[uc] at h
 ·unfold cX at h
  simp only[hx,hy,abr,abJ] at h
  rw[hi,hja] at h
  simp at h
 ·rw[ci,cj] at h
  simp at h
theorem Fits.LA(F:Fits P G R ops e h b){i j:Nat}(hij:i<j)(hj:j<ops.size)(hn:¬Ord b i j)(hi:jw ops i=.reads)(ci:gC P G R ops e h i=false)(hja:lh P G R ops e h j=.U2):fX P G R ops e h i (j+1)=true:=by
 have hx:ops[i]?=some ops[i]:=abV (acO hij hj)
 have hy:ops[j]?=some ops[j]:=abV hj
 obtain⟨hja,cj⟩:=o7 hja
 rw[lq hx] at hi
 rw[lq hy] at hja
 rcases F.pair i j hij hj with h|h|h|⟨-,h⟩
 ·exact absurd h hn
 ·unfold ng at h
  simp only[hx,hy,abr] at h
  rw[hi,hja] at h
  simp[uc] at h
 ·unfold cX at h
  simp only[hx,hy,abr,abJ] at h
  rw[hi,hja] at h
  exact h.2
 ·rw[ci,cj] at h
  simp at h
theorem Fits.LB(F:Fits P G R ops e h b){i j:Nat}(hij:i<j)(hj:j<ops.size)(hn:¬Ord b i j)(hi:lh P G R ops e h i=.U2)(hja:jw ops j=.reads)(cj:gC P G R ops e h j=false):fX P G R ops e h j i=true:=by
 have hx:ops[i]?=some ops[i]:=abV (acO hij hj)
 have hy:ops[j]?=some ops[j]:=abV hj
 obtain⟨hi,ci⟩:=o7 hi
 rw[lq hx] at hi
 rw[lq hy] at hja
 rcases F.pair i j hij hj with h|h|h|⟨-,h⟩
 ·exact absurd h hn
 ·unfold ng at h
  simp only[hx,hy,abr] at h
  rw[hi,hja] at h
  simp[uc] at h
 ·unfold cX at h
  simp only[hx,hy,abr,abJ] at h
  rw[hi,hja] at h
  exact h.2
 ·rw[ci,cj] at h
  simp at h
theorem yp{r m n:Nat}{e':Env}{h':ae}(N:br P G R ops (aby n) e h=some (.normal,e',h'))(hr:r<n)(hm:m<=n)(hs:fX P G R ops e h r m=true)(hc:jw ops r=.reads):
 Reads P G R ops r (cK P G R ops e h r).1 (xAt P G R ops e h r).1 (cK P G R ops e h m).2:=by
 obtain⟨-,tr,st⟩:=trace N
 obtain⟨hst,-⟩:=st r hr
 obtain⟨-,-,hrd,-⟩:=uF hc hst
 intro o ho hw
 refine⟨fun t a hla=>?_,fun hcl=>?_⟩
 ·have hold:=(hrd o ho hw).1 t a hla
  unfold fX at hs
  rw[ho,tr r (acz hr),tr m hm] at hs
  simp only[hw,hla] at hs
  rw[hold] at hs
  split at hs
  ·rename_i x y hx hy
   injection hx with hx;subst hx
   rw[r9 hs];exact hy
  ·cases hs
 ·obtain⟨t,a,hla⟩:=pV (show cY o.op=.reads by rw[<-lq ho];exact hc)
  rw[hla] at hcl;exact absurd hcl (by simp[oj])
theorem Fl{k:Nat}:gC P G R ops e h k=true↔sY P G R ops e h k:=by unfold gC;exact @decide_eq_true_iff _ (Classical.propDecidable _)
theorem D9{n k:Nat}{e':Env}{h':ae}(N:br P G R ops (aby n) e h=some (.normal,e',h'))(hn:n=ops.size)(hk:k<n)(hc:gC P G R ops e h k=true):
 ∃o x,ops[k]?=some o/\oj o.op=true/\∀m,m<=n->dC P G R (cK P G R ops e h k).1 (cK P G R ops e h m).2 o=some (.ret x,(cK P G R ops e h k).1,(cK P G R ops e h m).2):=by
 obtain⟨-,tr,-⟩:=trace N
 obtain⟨o,x,er,hr,ho,hop,e1,hall⟩:=Fl.1 hc
 refine⟨o,x,ho,hop,fun m hm=>?_⟩
 obtain⟨em,hm',e2,hcall⟩:=hall m (by omega)
 have q1:=tr k (acz hk)
 have q2:=tr m hm
 rw[e1] at q1
 rw[e2] at q2
 injection q1 with q1
 injection q2 with q2
 have a1:er=(cK P G R ops e h k).1:=by have:=congrArg (fun z=>z.2.1) q1;exact this
 have a2:hm'=(cK P G R ops e h m).2:=by have:=congrArg (fun z=>z.2.2) q2;exact this
 rw[<-a1,<-a2]
 exact hcall
theorem uG{k:Nat}{e':Env}{h':ae}(N:br P G R ops (aby ops.size) e h=some (.normal,e',h'))(hk:k<ops.size)(hc:lh P G R ops e h k=.reads){e1:Env}{h1:ae}{x:AV}
 (hs:dR P G R ops k (cK P G R ops e h k).1 (cK P G R ops e h k).2=some (x,e1,h1)):
 e1=(cK P G R ops e h k).1/\h1=(cK P G R ops e h k).2/\Reads P G R ops k (cK P G R ops e h k).1 x (cK P G R ops e h k).2/\
  ∀e2 h2,(∀o,ops[k]?=some o->Alike ops (cK P G R ops e h k).1 e2 o)->Reads P G R ops k (cK P G R ops e h k).1 x h2->dR P G R ops k e2 h2=some (x,e2,h2):=by
 unfold lh at hc
 split at hc
 ·rename_i hcm
  obtain⟨o,y,ho,hop,hall⟩:=D9 N rfl hk hcm
  have h0:=hall k (acz hk)
  obtain⟨a1,a2,a3,a4⟩:=wV ho hop h0 hs
  refine⟨a1,a2,fun o' ho' hw=>?_,a4⟩
  rw[ho] at ho';injection ho' with ho';subst ho'
  refine⟨fun t a hla=>(by rw[hla] at hop;cases hop),fun _=>?_⟩
  rw[a3 hw];exact h0
 ·exact uF hc hs
theorem th{k m:Nat}{e':Env}{h':ae}(N:br P G R ops (aby ops.size) e h=some (.normal,e',h'))(hk:k<ops.size)(hm:m<=ops.size)(hc:lh P G R ops e h k=.reads)
 (hs:jw ops k=.reads->gC P G R ops e h k=false->fX P G R ops e h k m=true):
 Reads P G R ops k (cK P G R ops e h k).1 (xAt P G R ops e h k).1 (cK P G R ops e h m).2:=by
 by_cases hcm:gC P G R ops e h k=true
 ·obtain⟨-,tr,st⟩:=trace N
  obtain⟨hst,-⟩:=st k hk
  obtain⟨o,y,ho,hop,hall⟩:=D9 N rfl hk hcm
  obtain⟨-,-,a3,-⟩:=wV ho hop (hall k (acz hk)) hst
  intro o' ho' hw
  rw[ho] at ho';injection ho' with ho';subst ho'
  refine⟨fun t a hla=>(by rw[hla] at hop;cases hop),fun _=>?_⟩
  rw[a3 hw];exact hall m hm
 ·have hcm:gC P G R ops e h k=false:=by simpa using hcm
  have hc:jw ops k=.reads:=by unfold lh at hc;rw[hcm] at hc;simpa using hc
  exact yp N hk hm (hs hc hcm) hc
theorem wW{k:Nat}(hc:lh P G R ops e h k=.pure):jw ops k=.pure:=by
 unfold lh at hc
 split at hc
 ·cases hc
 ·exact hc
structure Inv(P:Program)(G:Nat->Option (List AV))(R:Rec)(ops:Array Oper)(e:Env)(h:ae)(b:Array Nat)(S:Nat->Bool)(e1:Env)(h1:ae):Prop where
 closed:∀i j,i<ops.size->j<ops.size->S j=true->Ord b i j->S i=true
 dY:∀t,e1.get t=val P G R ops e h S ops.size t
 round:e1.round=e.round
 mem:∃m,m<=ops.size/\e1.defers=(cK P G R ops e h m).1.defers/\e1.pan=(cK P G R ops e h m).1.pan/\h1=(cK P G R ops e h m).2/\
  (∀a,a<m->lh P G R ops e h a=.U2->S a=true)/\∀a,m<=a->a<ops.size->lh P G R ops e h a=.U2->S a=false
variable {e':Env} {h':ae}
theorem uH(N:br P G R ops (aby ops.size) e h=some (.normal,e',h'))(t:Nat):∀k,k<=ops.size->(cK P G R ops e h k).1.get t=val P G R ops e h (fun _=>true) k t:=by
 obtain⟨-,tr,st⟩:=trace N
 intro k
 induction k with
 |zero=>
  intro _
  have:=tr 0 (abG _)
  simp only[agD,br,abA,abC,true_and] at this
  rw[<-this.1];rfl
 |succ k ih=>
  intro hk
  obtain⟨hs,hn⟩:=st k hk
  rw[hn,yo]
  simp only[val,true_and]
  split
  ·rfl
  ·rw[<-ih (acz hk)]
   have:=(uE (e2:=e) hs).1
   rw[this];rfl
theorem uI(N:br P G R ops (aby ops.size) e h=some (.normal,e',h')):∀k,k<=ops.size->(cK P G R ops e h k).1.round=e.round:=by
 obtain⟨-,tr,st⟩:=trace N
 intro k
 induction k with
 |zero=>
  intro _
  have:=tr 0 (abG _)
  simp only[agD,br,abA,abC,true_and] at this
  rw[<-this.1]
 |succ k ih=>
  intro hk
  obtain⟨hs,hn⟩:=st k hk
  rw[hn,(gd _ _ _).2.2,(uE (e2:=e) hs).1]
  exact ih (acz hk)
theorem Fm(N:br P G R ops (aby ops.size) e h=some (.normal,e',h')){k:Nat}(hk:k<ops.size)(hc:lh P G R ops e h k≠ .U2):
 (cK P G R ops e h (k+1)).1.defers=(cK P G R ops e h k).1.defers/\(cK P G R ops e h (k+1)).1.pan=(cK P G R ops e h k).1.pan/\(cK P G R ops e h (k+1)).2=(cK P G R ops e h k).2:=by
 obtain⟨-,tr,st⟩:=trace N
 obtain⟨hs,hn⟩:=st k hk
 have key:(xAt P G R ops e h k).2=(cK P G R ops e h k).1/\(cK P G R ops e h (k+1)).2=(cK P G R ops e h k).2:=by
  cases hq:lh P G R ops e h k with
  |pure=>obtain⟨h1,h2,-⟩:=sf (wW hq) hs;exact⟨h1,h2⟩
  |reads=>obtain⟨h1,h2,-⟩:=uG N hk hq hs;exact⟨h1,h2⟩
  |U2=>exact absurd hq hc
 rw[hn,(gd _ _ _).1,(gd _ _ _).2.1,key.1]
 exact⟨rfl,rfl,key.2⟩
theorem ud(N:br P G R ops (aby ops.size) e h=some (.normal,e',h')){m:Nat}:∀k,m<=k->k<=ops.size->
 ((cK P G R ops e h m).1.defers=(cK P G R ops e h k).1.defers/\(cK P G R ops e h m).1.pan=(cK P G R ops e h k).1.pan/\(cK P G R ops e h m).2=(cK P G R ops e h k).2)∨
 (∃a,m<=a/\a<k/\lh P G R ops e h a=.U2/\(cK P G R ops e h m).2=(cK P G R ops e h a).2)/\∃a,m<=a/\a<k/\lh P G R ops e h a=.U2/\(cK P G R ops e h (a+1)).2=(cK P G R ops e h k).2:=by
 intro k
 induction k with
 |zero=>
  intro hm _
  have:m=0:=afv.1 hm
  subst this
  exact .inl ⟨rfl,rfl,rfl⟩
 |succ k ih=>
  intro hm hk
  rcases abL k m with hlt|hge
  ·have:m=k+1:=adF hm hlt
   subst this
   exact .inl ⟨rfl,rfl,rfl⟩
  ·have hk':k<=ops.size:=acz hk
   by_cases hc:lh P G R ops e h k=.U2
   ·refine .inr ⟨?_,k,hge,adI k,hc,rfl⟩
    rcases ih hge hk' with h1|⟨⟨a,h1,h2,h3,h4⟩,-⟩
    ·exact⟨k,hge,adI k,hc,h1.2.2⟩
    ·exact⟨a,h1,ac1 h2,h3,h4⟩
   ·obtain⟨c1,c2,c3⟩:=Fm N hk hc
    rcases ih hge hk' with h1|⟨⟨a,h1,h2,h3,h4⟩,a2,g1,g2,g3,g4⟩
    ·exact .inl ⟨h1.1.trans c1.symm,h1.2.1.trans c2.symm,h1.2.2.trans c3.symm⟩
    ·exact .inr ⟨⟨a,h1,ac1 h2,h3,h4⟩,a2,g1,ac1 g2,g3,g4.trans c3.symm⟩
theorem val_congr{S S':Nat->Bool}{t:Nat}:∀k,(∀w,w<k->gE ops w=some t->S w=S' w)->val P G R ops e h S k t=val P G R ops e h S' k t:=by
 intro k
 induction k with
 |zero=>intro _;rfl
 |succ k ih=>
  intro hw
  simp only[val]
  rw[ih fun w hwk hd=>hw w (ac1 hwk) hd]
  by_cases hd:gE ops k=some t
  ·rw[hw k (adI k) hd]
  ·simp[hd]
theorem qV{S:Nat->Bool}{t k:Nat}:∀n,k<=n->(∀w,k<=w->w<n->gE ops w=some t->S w=false)->val P G R ops e h S n t=val P G R ops e h S k t:=by
 intro n
 induction n with
 |zero=>intro hk _;rw[afv.1 hk]
 |succ n ih=>
  intro hk hw
  rcases abL n k with hlt|hge
  ·rw[adF hk hlt]
  ·simp only[val]
   rw[if_neg fun hq=>by
    have:=hw n hge (adI n) hq.2
    rw[hq.1] at this;cases this]
   exact ih hge fun w h1 h2 h3=>hw w h1 (ac1 h2) h3
theorem qs{i:Nat}{x:Oper}(hx:ops[i]?=some x):gE ops i=x.dst:=by simp[gE,hx]
theorem Fits.LC(F:Fits P G R ops e h b){i j t:Nat}(hij:i<j)(hj:j<ops.size)(hi:gE ops i=some t)(hjt:gE ops j=some t):Ord b i j:=by
 refine Classical.byContradiction fun hn=>?_
 have hx:ops[i]?=some ops[i]:=abV (acO hij hj)
 have hy:ops[j]?=some ops[j]:=abV hj
 have ha:=(Oper.apart_spec (F.apart hij hj hn hx hy).1).2.1
 rw[qs hx] at hi
 rw[qs hy] at hjt
 exact ha t hi hjt
theorem Fits.looks(F:Fits P G R ops e h b){i j t:Nat}(hij:i<j)(hj:j<ops.size){x y:Oper}(hx:ops[i]?=some x)(hy:ops[j]?=some y)
 (hl:(x.dst=some t/\t∈y.looksAt ops)∨(y.dst=some t/\t∈x.looksAt ops)):Ord b i j:=by
 refine Classical.byContradiction fun hn=>?_
 have ha:=Oper.apart_spec (F.apart hij hj hn hx hy).1
 rcases hl with⟨h1,h2⟩|⟨h1,h2⟩
 ·exact ha.1 t h1 h2
 ·exact ha.2.2 t h1 h2
def iV(ops:Array Oper)(S:Nat->Bool)(k:Nat):Prop:=∀o,ops[k]?=some o->∀ed∈o.after,Region.binds .any ed=true->S ed.on=true
def aR(S:Nat->Bool)(k:Nat):Nat->Bool:=fun j=>if j=k then true else S j
theorem next(N:br P G R ops (aby ops.size) e h=some (.normal,e',h'))(F:Fits P G R ops e h b){S:Nat->Bool}{e1:Env}{h1:ae}(I:Inv P G R ops e h b S e1 h1){k:Nat}(hk:k<ops.size)
 (hu:S k=false) (hr:iV ops S k):∃x e2 h2,dR P G R ops k e1 h1=some (x,e2,h2)/\Inv P G R ops e h b (aR S k) (e2.put (gE ops k) x) h2:=by
 obtain⟨-,tr,st⟩:=trace N
 have ho:ops[k]?=some ops[k]:=abV hk
 have ahead:∀i,i<ops.size->Ord b i k->S i=true:=by
  intro i hi hik
  obtain⟨ed,hed,hbd,hq⟩:=F.bits k i _ ho hi hik
  have hs:=hr _ ho ed hed hbd
  have hlt:=F.Lz k _ ho ed hed hbd
  rcases hq with rfl|hq
  ·exact hs
  ·exact I.closed i ed.on hi (acO hlt hk) hs hq
 have alike:∀o,ops[k]?=some o->Alike ops (cK P G R ops e h k).1 e1 o:=by
  intro o ho' t ht
  rw[ho] at ho';injection ho' with ho';subst ho'
  rw[I.dY t,uH N t k (acz hk),qV (k:=k) ops.size (acz hk)]
  ·refine val_congr k fun w hw hd=>?_
   have hx:ops[w]?=some ops[w]:=abV (acO hw hk)
   rw[qs hx] at hd
   exact(ahead w (acO hw hk) (F.looks hw hk hx ho (.inl ⟨hd,ht⟩))).symm
  ·intro w hkw hw hd
   rcases abL k w with hlt|hge
   ·cases hq:S w with
    |false=>rfl
    |true=>
     have hx:ops[w]?=some ops[w]:=abV hw
     rw[qs hx] at hd
     have:=I.closed k w hk hw hq (F.looks hlt hw ho hx (.inr ⟨hd,ht⟩))
     rw[hu] at this;cases this
   ·rw[adF hge hkw,hu]
 obtain⟨hs,hn⟩:=st k hk
 obtain⟨m,hm,hd,hp,hh,ha1,ha2⟩:=I.mem
 have closed':∀i j,i<ops.size->j<ops.size->aR S k j=true->Ord b i j->aR S k i=true:=by
  intro i j hi hj hsj hij
  unfold aR at hsj ⊢
  by_cases hik:i=k
  ·rw[if_pos hik]
  ·rw[if_neg hik]
   by_cases hjk:j=k
   ·subst hjk;exact ahead i hi hij
   ·rw[if_neg hjk] at hsj;exact I.closed i j hi hj hsj hij
 have slots':∀(e2:Env),(∀t,e2.get t=e1.get t)->∀t,(e2.put (gE ops k) (xAt P G R ops e h k).1).get t=val P G R ops e h (aR S k) ops.size t:=by
  intro e2 he2 t
  rw[yo]
  by_cases hdt:gE ops k=some t
  ·rw[if_pos hdt,qV (k:=k+1) ops.size hk]
   ·simp[val,aR,hdt]
   ·intro w hkw hw hdw
    have hne:w≠k:=fun hq=>absurd hkw (by rw[hq];exact af9 k)
    simp only[aR,if_neg hne]
    cases hq:S w with
    |false=>rfl
    |true=>
     have:=I.closed k w hk hw hq (F.LC hkw hw hdt hdw)
     rw[hu] at this;cases this
  ·rw[if_neg hdt,he2,I.dY t]
   refine val_congr _ fun w _ hdw=>?_
   have hne:w≠k:=fun hq=>hdt (hq ▸ hdw)
   simp only[aR,if_neg hne]
 by_cases hc:lh P G R ops e h k=.U2
 ·-- it U2
  have hmk:m<=k:=by
   rcases abL k m with hlt|hge
   ·have:=ha1 k hlt hc
    rw[hu] at this;cases this
   ·exact hge
  have same:=ud N k hmk (acz hk)
  have same:(cK P G R ops e h m).1.defers=(cK P G R ops e h k).1.defers/\(cK P G R ops e h m).1.pan=(cK P G R ops e h k).1.pan/\(cK P G R ops e h m).2=(cK P G R ops e h k).2:=by
   rcases same with h1|⟨⟨a,g1,g2,g3,-⟩,-⟩
   ·exact h1
   ·have h1:=ha2 a g1 (acO g2 hk) g3
    rw[ahead a (acO g2 hk) (F.U2 g2 hk g3 hc)] at h1
    cases h1
  have hgo:=(uE (e2:=e1) hs).2 alike (hd.trans same.1) (hp.trans same.2.1) (by rw[I.round,uI N k (acz hk)])
  rw[<-same.2.2,<-hh] at hgo
  refine⟨_,_,_,hgo,closed',slots' _ (fun t=>rfl),?_,k+1,hk,?_,?_,rfl,?_,?_⟩
  ·rw[(gd _ _ _).2.2];exact I.round
  ·rw[(gd _ _ _).1,hn,(gd _ _ _).1];rfl
  ·rw[(gd _ _ _).2.1,hn,(gd _ _ _).2.1];rfl
  ·intro a hak hca
   unfold aR
   by_cases hq:a=k
   ·rw[if_pos hq]
   ·rw[if_neg hq]
    have hlt:a<k:=agk (adQ.1 hak) hq
    exact ahead a (acO hlt hk) (F.U2 hlt hk hca hc)
  ·intro a hka ha hca
   have hq:a≠k:=fun hq=>absurd hka (by rw[hq];exact af9 k)
   unfold aR
   rw[if_neg hq]
   exact ha2 a (abT hmk (acz hka)) ha hca
 ·-- it does not
  have mem':∀e2:Env,e2.defers=e1.defers->e2.pan=e1.pan->∃m,m<=ops.size/\e2.defers=(cK P G R ops e h m).1.defers/\e2.pan=(cK P G R ops e h m).1.pan/\h1=(cK P G R ops e h m).2/\
   (∀a,a<m->lh P G R ops e h a=.U2->aR S k a=true)/\∀a,m<=a->a<ops.size->lh P G R ops e h a=.U2->aR S k a=false:=by
   intro e2 h1' h2'
   refine⟨m,hm,h1'.trans hd,h2'.trans hp,hh,fun a ham hca=>?_,fun a hma ha hca=>?_⟩
   ·unfold aR
    by_cases hq:a=k
    ·rw[if_pos hq]
    ·rw[if_neg hq];exact ha1 a ham hca
   ·have hq:a≠k:=fun hq=>hc (hq ▸ hca)
    unfold aR
    rw[if_neg hq];exact ha2 a hma ha hca
  have fin:∀x,x=(xAt P G R ops e h k).1->dR P G R ops k e1 h1=some (x,e1,h1)->∃x e2 h2,dR P G R ops k e1 h1=some (x,e2,h2)/\Inv P G R ops e h b (aR S k) (e2.put (gE ops k) x) h2:=by
   intro x hx hgo
   subst hx
   refine⟨_,_,_,hgo,closed',slots' _ (fun t=>rfl),?_,mem' _ (gd _ _ _).1 (gd _ _ _).2.1⟩
   rw[(gd _ _ _).2.2];exact I.round
  cases hcl:lh P G R ops e h k with
  |U2=>exact absurd hcl hc
  |pure=>
   obtain⟨-,-,hall⟩:=sf (wW hcl) hs
   exact fin _ rfl (hall e1 h1 alike)
  |reads=>
   obtain⟨-,-,hrd,hall⟩:=uG N hk hcl hs
   refine fin _ rfl (hall e1 h1 alike ?_)
   rw[hh]
   rcases abL k m with hlt|hge
   ·rcases ud N (m:=k) m (acz hlt) hm with hq|⟨-,a,g1,g2,g3,g4⟩
    ·rw[<-hq.2.2];exact hrd
    ·have hak:k<a:=agk g1 fun hq=>hc (hq ▸ g3)
     have han:a<ops.size:=ab8 g2 hm
     have hno:¬Ord b k a:=fun hq=>by
      have:=I.closed k a hk han (ha1 a g2 g3) hq
      rw[hu] at this;cases this
     rw[<-g4]
     exact th N hk han hcl fun q1 q2=>F.LA hak han hno q1 q2 g3
   ·rcases ud N (m:=m) k hge (acz hk) with hq|⟨⟨a,g1,g2,g3,g4⟩,-⟩
    ·rw[hq.2.2];exact hrd
    ·have han:a<ops.size:=acO g2 hk
     have hno:¬Ord b a k:=fun hq=>by
      have h1:=ahead a han hq
      rw[ha2 a g1 han g3] at h1;cases h1
     rw[g4]
     exact th N hk (acz han) hcl fun q1 q2=>F.LB g2 hk hno g3 q1 q2
theorem si(N:br P G R ops (aby ops.size) e h=some (.normal,e',h')):Inv P G R ops e h b (fun _=>false) e h:=by
 have h0:cK P G R ops e h 0=(e,h):=by simp[cK,br]
 refine⟨fun _ _ _ _ h=>absurd h (by simp),fun t=>?_,rfl,0,abG _,by rw[h0],by rw[h0],by rw[h0],fun a ha=>absurd ha (acH a),fun _ _ _ _=>rfl⟩
 rw[qV (k:=0) ops.size (abG _) (fun _ _ _ _=>rfl)]
 rfl
structure nX(e e2:Env):Prop where
 dY:∀t,e.get t=e2.get t
 defers:e.defers=e2.defers
 pan:e.pan=e2.pan
 round:e.round=e2.round
theorem LD(N:br P G R ops (aby ops.size) e h=some (.normal,e',h')){S:Nat->Bool}{e1:Env}{h1:ae}(I:Inv P G R ops e h b S e1 h1)(hall:∀i,i<ops.size->S i=true):nX e1 e'/\h1=h':=by
 obtain⟨t0,tr,st⟩:=trace N
 have he:e'=(cK P G R ops e h ops.size).1:=by rw[<-t0]
 have hh:h'=(cK P G R ops e h ops.size).2:=by rw[<-t0]
 obtain⟨m,hm,hd,hp,hmem,ha1,ha2⟩:=I.mem
 have same:=ud N ops.size hm (abq _)
 have same:(cK P G R ops e h m).1.defers=(cK P G R ops e h ops.size).1.defers/\(cK P G R ops e h m).1.pan=(cK P G R ops e h ops.size).1.pan/\(cK P G R ops e h m).2=(cK P G R ops e h ops.size).2:=by
  rcases same with h1|⟨⟨a,g1,g2,g3,-⟩,-⟩
  ·exact h1
  ·have h1:=ha2 a g1 g2 g3
   rw[hall a g2] at h1;cases h1
 refine⟨⟨fun t=>?_,?_,?_,?_⟩,?_⟩
 ·rw[I.dY t,he,uH N t ops.size (abq _)]
  exact val_congr _ fun w hw _=>hall w hw
 ·rw[hd,same.1,he]
 ·rw[hp,same.2.1,he]
 ·rw[I.round,he,uI N ops.size (abq _)]
 ·rw[hmem,same.2.2,hh]
theorem Fo{α:Type}{p q:α->Bool}{a:α}:∀{l:List α},(∀x∈l,q x=true->p x=true)->a∈l->p a=true->q a=false->l.countP q<l.countP p:=by
 intro l
 induction l with
 |nil=>intro _ ha;cases ha
 |cons x l ih=>
  intro hm ha hp hq
  have hle:l.countP q<=l.countP p:=List.countP_mono_left fun y hy=>hm y (abH _ hy)
  rcases acd.1 ha with rfl|ha
  ·rw[afT (by simp[hq]),aeY hp]
   exact Nat.lt_succ_of_le hle
  ·have:=ih (fun y hy=>hm y (abH _ hy)) ha hp hq
   by_cases hqx:q x=true
   ·rw[aeY hqx,aeY (hm x abM hqx)]
    exact Nat.succ_lt_succ this
   ·rw[afT hqx]
    exact ab8 this (by rw[List.countP_cons];exact Nat.le_add_right _ _)
def iF(ops:Array Oper):(Nat->Bool)->List Nat->Prop
 |S,[]=>∀i,i<ops.size->S i=true
 |S,k::L=>k<ops.size/\S k=false/\iV ops S k/\iF ops (aR S k) L
theorem uJ(N:br P G R ops (aby ops.size) e h=some (.normal,e',h'))(F:Fits P G R ops e h b):∀(L:List Nat) (S:Nat->Bool) (e1:Env) (h1:ae),Inv P G R ops e h b S e1 h1->iF ops S L->
 ∃e2,br P G R ops L e1 h1=some (.normal,e2,h')/\nX e2 e':=by
 intro L
 induction L with
 |nil=>
  intro S e1 h1 I hL
  obtain⟨hs,rfl⟩:=LD N I hL
  exact⟨e1,by simp[br],hs⟩
 |cons k L ih=>
  intro S e1 h1 I hL
  obtain⟨hk,hu,hr,hL⟩:=hL
  obtain⟨x,e2,h2,hs,I'⟩:=next N F I hk hu hr
  obtain⟨e3,hgo,hsame⟩:=ih _ _ _ I' hL
  exact⟨e3,dn.2 ⟨x,e2,h2,hs,hgo⟩,hsame⟩
def zZ(ops:Array Oper):Prop:=∀(j:Nat) (o:Oper),ops[j]?=some o->∀ed∈o.after,Region.binds .any ed=true->ed.on<j
theorem Fp(hB:zZ ops):∀(fuel t:Nat) (listed:Array Bool),listed.size=ops.size->
 (aby ops.size).countP (fun j=> !listed.getD j false)<=fuel->iF ops (fun j=>listed.getD j false) (Region.linearise.go .any ops fuel t listed []):=by
 intro fuel
 induction fuel with
 |zero=>
  intro t listed hsz hcount
  have hall:∀i,i<ops.size->listed.getD i false=true:=by
   intro i hi
   have:=List.countP_eq_zero.1 (afv.1 hcount) i (abQ.2 hi)
   simpa using this
  simp only[Region.linearise.go,agz]
  exact hall
 |succ fuel ih=>
  intro t listed hsz hcount
  have hgetD:∀i,i<ops.size->listed.getD i true=listed.getD i false:=by
   intro i hi
   have:i<listed.size:=by omega
   simp[this]
  simp only[Region.linearise.go]
  change iF ops _ (match (Region.ready .any ops listed)[t%(Region.ready .any ops listed).length]? with
   |some i=>Region.linearise.go .any ops fuel (t/(Region.ready .any ops listed).length) (listed.setIfInBounds i true) [i]
   |none=>[].reverse)
  have ready_of:∀i,i∈Region.ready .any ops listed↔i<ops.size/\listed.getD i false=false/\iV ops (fun j=>listed.getD j false) i:=by
   intro i
   unfold Region.ready
   rw[ac7,abQ]
   constructor
   ·rintro⟨hi,hq⟩
    rw[abr] at hq
    obtain⟨hq1,hq2⟩:=hq
    rw[hgetD i hi] at hq1
    refine⟨hi,by simpa using hq1,fun o ho ed hed hbd=>?_⟩
    rw[ho] at hq2
    simp only[abJ,aee,ad9] at hq2
    obtain⟨q,hq,rfl⟩:=af8 hed
    have:=hq2 q hq
    simpa [hbd] using this
   ·rintro⟨hi,hq,hr⟩
    refine⟨hi,?_⟩
    rw[abr]
    refine⟨by rw[hgetD i hi];simp[hq],?_⟩
    have ho:ops[i]?=some ops[i]:=abV hi
    rw[ho]
    simp only[abJ,aee,ad9]
    intro q hq
    cases hb:Region.binds .any ops[i].after[q] with
    |false=>rfl
    |true=>simpa using hr _ ho _ (afF hq) hb
  cases hi:(Region.ready .any ops listed)[t%(Region.ready .any ops listed).length]? with
  |none=>
   have hnil:Region.ready .any ops listed=[]:=by
    cases hr:Region.ready .any ops listed with
    |nil=>rfl
    |cons x xs=>
     rw[hr] at hi
     have hlt:t%(x::xs).length<(x::xs).length:=Nat.mod_lt _ (by simp)
     simp at hi
     simp at hlt
     omega
   have hall:∀i,i<ops.size->listed.getD i false=true:=by
    intro i
    induction i using aff with
    |_ i ihi=>
     intro hi
     cases hq:listed.getD i false with
     |true=>rfl
     |false=>
      have:i∈Region.ready .any ops listed:=(ready_of i).2 ⟨hi,hq,fun o ho ed hed hbd=>by
       have hlt:=hB i o ho ed hed hbd
       exact ihi ed.on hlt (acO hlt hi)⟩
      rw[hnil] at this;cases this
   simp only[agz]
   exact hall
  |some i=>
   simp only[]
   have hmem:=(ready_of i).1 (List.mem_of_getElem? hi)
   obtain⟨hin,hun,hrd⟩:=hmem
   have hfun:(fun j=>(listed.setIfInBounds i true).getD j false)=aR (fun j=>listed.getD j false) i:=by
    funext j
    unfold aR
    have hil:i<listed.size:=by omega
    by_cases hq:j=i
    ·subst hq
     rw[if_pos rfl]
     simp[ad1,hil]
    ·rw[if_neg hq]
     simp[ad1,Ne.symm hq]
   have hgo:=ih (t/(Region.ready .any ops listed).length) (listed.setIfInBounds i true) (by simpa using hsz) (by
    refine adQ.1 (ab8 (Fo (a:=i) (p:=fun j=> !listed.getD j false) ?_ (abQ.2 hin) (by simp only[hun];rfl) ?_) hcount)
    ·intro j _ hj
     have this:(listed.setIfInBounds i true).getD j false=aR (fun j=>listed.getD j false) i j:=congrFun hfun j
     rw[this] at hj
     unfold aR at hj
     split at hj
     ·cases hj
     ·exact hj
    ·have this:(listed.setIfInBounds i true).getD i false=aR (fun j=>listed.getD j false) i i:=congrFun hfun i
     rw[this]
     simp[aR])
   rw[linearise_go_acc,List.reverse_singleton,List.singleton_append]
   refine⟨hin,hun,hrd,?_⟩
   rw[<-hfun]
   exact hgo
theorem uK(n:Nat):(fun j=>(ad8 n false).getD j false)=fun _=>false:=by
 funext j
 rw[aeF,afL]
 split<;>rfl
theorem nP(hB:zZ ops)(t:Nat):iF ops (fun _=>false) (Region.linearise .any ops t):=by
 unfold Region.linearise
 have:=Fp hB ops.size t (ad8 ops.size false) (by simp) (abT List.countP_le_length (by simp))
 rw[uK] at this
 exact this
theorem wX{e:Env}{h:ae}(hf:df P G R ops e h=true):zZ ops:=fun j o ho ed hed hb=>(jS hf).Lz j o ho ed hed hb
theorem LF(N:br P G R ops (aby ops.size) e h=some (.normal,e',h'))(hf:df P G R ops e h=true)(t:Nat):
 ∃e2,br P G R ops (Region.linearise .any ops t) e h=some (.normal,e2,h')/\nX e2 e':=
 uJ N (jS hf) _ _ _ _ (si N) (nP (wX hf) t)
end
end Go.AE
end
section
namespace Go.AE
open Go.RowKit (Below)
structure aB.TW(K K':aB):Prop where
 base:K'.base=K.base
 ic:∀g j c,K.ic g j=some c->K'.ic g j=some c
 β:∀b g:Nat,K.β[b]?=some g->K'.β[b]?=some g
 γ:∀l g:Nat,K.γ[l]?=some g->K'.γ[l]?=some g
 tn:K.tn<=K'.tn
 tk:∀t,t<K.tn->K'.tk t=K.tk t
def aB.un(K:aB)(r:Nat):aB:={K with md:=K.md.filter (· !=r)}
theorem pT.un{K:aB}{r:Nat}{k:Tok}{g off sz n cap:Nat}(h:pT K k g off sz n cap):pT (K.un r) k g off sz n cap:=h
mutual
theorem aI.un{K:aB}{r:Nat}:∀{x:AV} {c:Value},aI K x c->aI (K.un r) x c
 |_,_,.bad c=>.bad c
 |_,_,.v x hx=>.v x hx
 |_,_,.nil sz=>.nil sz
 |_,_,.eK sz a=>.eK sz a
 |_,_,.list k sz es g off n cap cells hn hr hv hc ht ha=>.list k sz es g off n cap cells hn hr (ao.un hv) hc ht ha
 |_,_,.arr b g off len cap off' cap' hb hl hc ho hr=>.arr b g off len cap off' cap' hb hl hc ho hr
 |_,_,.agg cs vs hv=>.agg cs vs (ao.un hv)
 |_,_,.tuple cs vs hv=>.tuple cs vs (ao.un hv)
 |_,_,.box b g off hb=>.box b g off hb
 |_,_,.dW g off=>.dW g off
 |_,_,.elem sz es i off g o p cells hr hv hc hi hp ha=>.elem sz es i off g o p cells hr (ao.un hv) hc hi hp ha
 |_,_,.func fn first cap fs cs h1 h2=>.func fn first cap fs cs (ao.un h1) (ao.un h2)
 |_,_,.yield l g hl=>.yield l g hl
 |_,_,.iface t x c hx=>.iface t x c (aI.un hx)
theorem ao.un{K:aB}{r:Nat}:∀{xs:List AV} {cs:List Value},ao K xs cs->ao (K.un r) xs cs
 |_,_,.nil=>.nil
 |_,_,.cons x c xs cs hx hs=>.cons x c xs cs (aI.un hx) (ao.un hs)
end
theorem gT.un{K:aB}{r:Nat}{ds cds ms}(h:gT K ds cds ms)(hr:r∉ms):gT (K.un r) ds cds ms:=by
 induction h with
 |nil=>exact .nil
 |call g args vs cap ds cds ms hv _ ih=>exact .call g args vs cap ds cds ms (ao.un hv) (ih hr)
 |mark r' ds cds ms hr' hn _ ih=>
  have hne:r'≠r:=fun hq=>hr (hq ▸ abM)
  exact .mark r' ds cds ms (by unfold aB.un;exact ac7.2 ⟨hr',by simpa using hne⟩) hn (ih fun hq=>hr (abH _ hq))
theorem gT.sub{K:aB}{ds cds ms}(h:gT K ds cds ms):∀r∈ms,r∈K.md:=by
 induction h with
 |nil=>intro r hr;cases hr
 |call g args vs cap ds cds ms hv _ ih=>exact ih
 |mark r' ds cds ms hr' hn _ ih=>
  intro r hr
  rcases acd.1 hr with rfl|hr
  ·exact hr'
  ·exact ih r hr
theorem CS.un{K:aB}{r:Nat}{kind base p cs}(h:CS K kind base p cs):CS (K.un r) kind base p cs:=by
 cases h with
 |normal h=>exact .normal h
 |ret c0 rest hk hb hm=>exact .ret c0 rest hk hb hm
 |pan c0 rest x v r hk hb hx=>exact .pan c0 rest x v r hk hb (aI.un hx)
theorem Qh{K K':aB}{r:Nat}(le:K.Le K')(hr:r∉K.md):K.Le (K'.un r):=
 ⟨le.base,le.ic,le.β,le.γ,le.tn,le.tk,fun r' hr'=>by
  unfold aB.un
  exact ac7.2 ⟨le.md r' hr',by have:r'≠r:=fun hq=>hr (hq ▸ hr');simpa using this⟩,le.lb,le.new⟩
section
variable {K:aB} {G:Nat->Option (List AV)} {ok:FuncId->Nat->Code->Bool} {w0 w:World} {h:ae}
theorem uL{g:Nat}{o:Obj}(hg:g<w.heap.size):Chg w (w.putObj g o) g o:=
 ⟨rfl,rfl,rfl,World.putObj_size,fun _ hk=>World.putObj_heap_other hk,World.putObj_heap_same hg⟩
theorem Sim.drop(s:Sim K G ok w0 h w){r:Nat}(hr:r∈K.md)(o:Obj)(ho:∀cells e f,o≠ .cells cells e f):Sim (K.un r) G ok w0 h (w.putObj r o):=by
 obtain⟨hb,hm⟩:=s.md r hr
 have hlt:=cV hm
 have c:=uL (o:=o) hlt
 have hcells:∀{g:Nat} {cells:Array Value} {e:TypeId} {f:Nat × Nat},w.heap[g]?=some (.cells cells e f)->g≠r:=by
  rintro g cells e f hg rfl;rw[hm] at hg;cases hg
 refine⟨s.old.trans (c.below hb),by rw[c.size];exact s.size,fun g j x hx=>?_,fun g cs hg=>?_,s.js,s.βnd,fun b g cs hb' hc=>?_,s.mA,s.γnd,fun l g rr hl hrr=>?_,s.tn,fun t ht=>?_,s.oq,fun r' hr'=>?_,s.all⟩
 ·have hcell:=s.ic g j x hx
  have hne:g≠r:=by
   rintro rfl
   simp[World.cell?,hm] at hcell
  rw[<-hcell]
  exact World.cell?_of_block (w:=w) (c.other g hne)
 ·obtain⟨cells,h1,h2⟩:=s.dW g cs hg
  exact⟨cells,ao.un h1,h2⟩
 ·obtain⟨h1,h2,ha,cells,e,h3,h4⟩:=s.box b g cs hb' hc
  exact⟨h1,h2,ha,cells,e,(c.other g (hcells h3)).trans h3,ao.un h4.1,h4.2⟩
 ·obtain⟨h1,fn,tmps,d,h2,h3,h4⟩:=s.loop l g rr hl hrr
  have hne:g≠r:=by rintro rfl;rw[hm] at h2;cases h2
  exact⟨h1,fn,tmps,d,(c.other g hne).trans h2,fun t=>aI.un (h3 t),h4⟩
 ·obtain⟨h1,h2,h3,cells,e,fz,h4,h5,h6⟩:=s.tok t ht
  refine⟨h1,h2,h3,cells,e,fz,(c.other _ (hcells h4)).trans h4,h5,fun j hj hl=>?_⟩
  rw[<-h6 j hj hl]
  exact World.frozen?_of_block (w:=w) (c.other _ (hcells h4))
 ·obtain⟨h1,h2⟩:=ac7.1 hr'
  have hne:r'≠r:=by simpa using h2
  obtain⟨h3,h4⟩:=s.md r' h1
  exact⟨h3,(c.other r' hne).trans h4⟩
def aB.mark(K:aB)(r:Nat):aB:={K with md:=r::K.md}
theorem aB.Ea(K:aB)(r:Nat):K.Le (K.mark r):=
 ⟨rfl,fun _ _ _ h=>h,fun _ _ h=>h,fun _ _ h=>h,abq _,fun _ _=>rfl,fun _ h=>abH _ h,fun _ _=>rfl,fun _ _ _ h=>.inl h⟩
theorem Sim.LG(s:Sim K G ok w0 h w):Sim (K.mark w.heap.size) G ok w0 h (w.alloc (.deferred (some []))):=by
 have le:=K.Ea w.heap.size
 have p:=s.push (.deferred (some []))
 refine⟨p.old,p.size,p.ic,fun g cs hg=>?_,p.js,p.βnd,fun b g cs hb hc=>?_,p.mA,p.γnd,fun l g r hl hr=>?_,p.tn,p.tok,p.oq,fun r hr=>?_,s.all⟩
 ·obtain⟨cells,h1,h2⟩:=s.dW g cs hg
  exact⟨cells,h1.mono le,h2⟩
 ·obtain⟨h1,h2,ha,cells,e,h3,h4⟩:=p.box b g cs hb hc
  exact⟨h1,h2,ha,cells,e,h3,h4.mono le (abm.1 hb).1⟩
 ·obtain⟨h1,fn,tmps,d,h2,h3,h4⟩:=p.loop l g r hl hr
  exact⟨h1,fn,tmps,d,h2,h3.mono le,h4⟩
 ·rcases acd.1 hr with rfl|hr
  ·exact⟨s.size,World.alloc_heap_new w _⟩
  ·exact p.md r hr
def aB.loop(K:aB)(g:Nat):aB:={K with γ:=K.γ++[g]}
theorem aB.yq(K:aB)(g:Nat):K.Le (K.loop g):=
 ⟨rfl,fun _ _ _ h=>h,fun _ _ h=>h,fun _ _ h=>cC h,abq _,fun _ _=>rfl,fun _ h=>h,fun _ _=>rfl,fun _ _ _ h=>.inl h⟩
theorem Sim.Eb(s:Sim K G ok w0 h w){r:bE}{fn:FuncId}{tmps:Array Value}(d:Nat)(hs:dg K r.tmps tmps)(h1:ok fn tmps.size r.assign=true)(h2:ok fn tmps.size r.body=true)(h3:∀p∈r.params.toList,p<tmps.size):
 Sim (K.loop w.heap.size) G ok w0 {h with loops:=h.loops++[r]} (w.alloc (.loop {state:=r.state,pending:=r.pending,fn,tmps,params:=r.params,assign:=r.assign,body:=r.body,defers:=d}))/\
 (K.loop w.heap.size).γ[h.loops.length]?=some w.heap.size:=by
 have le:=K.yq w.heap.size
 have p:=s.push (.loop {state:=r.state,pending:=r.pending,fn,tmps,params:=r.params,assign:=r.assign,body:=r.body,defers:=d})
 have hnew:(K.loop w.heap.size).γ[h.loops.length]?=some w.heap.size:=by simp[aB.loop,<-s.mA]
 have hlt:∀{l g:Nat},K.γ[l]?=some g->g<w.heap.size:=fun{l g} hl=>by
  have hll:l<h.loops.length:=by rw[<-s.mA];exact(abm.1 hl).1
  obtain⟨_,_,_,_,h3,_⟩:=s.loop l g _ hl (abo hll)
  exact cV h3
 refine⟨⟨p.old,p.size,p.ic,fun g cs hg=>?_,p.js,p.βnd,fun b g cs hb hc=>?_,by simp[aB.loop,s.mA],fun l l' g hl hl'=>?_,fun l g r' hl hr=>?_,p.tn,p.tok,p.oq,p.md,s.all⟩,hnew⟩
 ·obtain⟨cells,h1,h2⟩:=s.dW g cs hg
  exact⟨cells,h1.mono le,h2⟩
 ·obtain⟨h1,h2,ha,cells,e,h3,h4⟩:=p.box b g cs hb hc
  exact⟨h1,h2,ha,cells,e,h3,h4.mono le (abm.1 hb).1⟩
 ·rcases cR hl with hb|⟨rfl,rfl⟩<;>rcases cR hl' with hb'|⟨rfl,h2⟩
  ·exact s.γnd _ _ _ hb hb'
  ·have:=hlt hb;omega
  ·have:=hlt hb';omega
  ·rfl
 ·rcases cR hl with hl|⟨rfl,rfl⟩
  ·rcases cR hr with hr|⟨rfl,rfl⟩
   ·obtain⟨h1,fn',tmps',d',h2,h3,h4⟩:=p.loop l g r' hl hr
    exact⟨h1,fn',tmps',d',h2,h3.mono le,h4⟩
   ·have:h.loops.length<K.γ.length:=(abm.1 hl).1
    have:=s.mA;omega
  ·have:r'=r:=by
    rw[s.mA] at hr;simp at hr;exact hr.symm
   subst this
   exact⟨s.size,fn,tmps,d,World.alloc_heap_new w _,hs.mono le,h1,h2,h3⟩
theorem Sim.bh(s:Sim K G ok w0 h w){l g:Nat}{r:bE}(hl:K.γ[l]?=some g)(hr:h.loops[l]?=some r)(st:LoopState)(pe:Option Code):
 ∃m:Loop,w.heap[g]?=some (.loop m)/\m.state=r.state/\m.pending=r.pending/\m.params=r.params/\m.assign=r.assign/\m.body=r.body/\dg K r.tmps m.tmps/\
  ok m.fn m.tmps.size r.assign=true/\ok m.fn m.tmps.size r.body=true/\(∀p∈r.params.toList,p<m.tmps.size)/\
  Sim K G ok w0 {h with loops:=h.loops.set l {r with state:=st,pending:=pe}} (w.putObj g (.loop {m with state:=st,pending:=pe})):=by
 obtain⟨k1,fn,tmps,d,k2,k3,k4,k5,k6⟩:=s.loop l g r hl hr
 have hll:l<h.loops.length:=(abm.1 hr).1
 refine⟨_,k2,rfl,rfl,rfl,rfl,rfl,k3,k4,k5,k6,?_⟩
 have c:=uL (o:=.loop {state:=st,pending:=pe,fn,tmps,params:=r.params,assign:=r.assign,body:=r.body,defers:=d}) (cV k2)
 have hcells:∀{g':Nat} {cells:Array Value} {e:TypeId} {f:Nat × Nat},w.heap[g']?=some (.cells cells e f)->g'≠g:=by
  rintro g' cells e f hg rfl;rw[k2] at hg;cases hg
 refine⟨s.old.trans (c.below k1),by rw[c.size];exact s.size,fun g' j x hx=>?_,s.dW,s.js,s.βnd,fun b g' cs hb' hc=>?_,by simp[s.mA],s.γnd,fun l' g' rr hl' hrr=>?_,s.tn,fun t ht=>?_,s.oq,fun r' hr'=>?_,s.all⟩
 ·have hcell:=s.ic g' j x hx
  have hne:g'≠g:=by
   rintro rfl
   simp[World.cell?,k2] at hcell
  rw[<-hcell]
  exact World.cell?_of_block (w:=w) (c.other g' hne)
 ·obtain⟨h1,h2,ha,cells,e,h3,h4⟩:=s.box b g' cs hb' hc
  exact⟨h1,h2,ha,cells,e,(c.other g' (hcells h3)).trans h3,h4⟩
 ·simp only[aci] at hrr
  split at hrr
  ·rename_i heq;subst heq
   injection hrr with hrr;subst hrr
   rw[hl] at hl';injection hl' with hl';subst hl'
   exact⟨k1,fn,tmps,d,c.this,k3,k4,k5,k6⟩
  ·rename_i hne
   have hgg:g'≠g:=by rintro rfl;exact hne (s.γnd _ _ _ hl hl')
   obtain⟨h1,fn',tmps',d',h2,h3,h4⟩:=s.loop l' g' rr hl' hrr
   exact⟨h1,fn',tmps',d',(c.other g' hgg).trans h2,h3,h4⟩
 ·obtain⟨h1,h2,h3,cells,e,fz,h4,h5,h6⟩:=s.tok t ht
  refine⟨h1,h2,h3,cells,e,fz,(c.other _ (hcells h4)).trans h4,h5,fun j hj hl=>?_⟩
  rw[<-h6 j hj hl]
  exact World.frozen?_of_block (w:=w) (c.other _ (hcells h4))
 ·obtain⟨h1,h2⟩:=s.md r' hr'
  have hne:r'≠g:=by rintro rfl;rw[k2] at h2;cases h2
  exact⟨h1,(c.other r' hne).trans h2⟩
end
end Go.AE
end
section
namespace Go.AE
section
variable {P:Program} {G:Nat->Option (List AV)} {R:Rec} {ops:Array Oper} {e:Env} {h:ae}
theorem nX.trans{a b c:Env}(h:nX a b)(k:nX b c):nX a c:=⟨fun t=>(h.dY t).trans (k.dY t),h.defers.trans k.defers,h.pan.trans k.pan,h.round.trans k.round⟩
theorem nX.symm{a b:Env}(h:nX a b):nX b a:=⟨fun t=>(h.dY t).symm,h.defers.symm,h.pan.symm,h.round.symm⟩
theorem nX.refl(a:Env):nX a a:=⟨fun _=>rfl,rfl,rfl,rfl⟩
theorem nX.eval{a b:Env}(h:nX a b)(x:Operand):a.eval x=b.eval x:=by
 cases x with
 |tmp t=>exact h.dY t
 |_=>rfl
theorem nX.wanted{a b:Env}(h:nX a b)(o:Oper):bg ops a o=bg ops b o:=by
 unfold bg
 cases o.guard with
 |none=>rfl
 |some q=>
  simp only
  cases (ops[q.1]?).bind (·.dst) with
  |none=>rfl
  |some d=>simp only[h.dY d]
variable {b:Array Nat}
end
end Go.AE
end
section
namespace Go.AE
section
variable {P:Program} {G:Nat->Option (List AV)} {R:Rec} {ops:Array Oper} {e:Env} {h:ae} {k:Nat}
inductive Sz (ops:Array Oper) (k i:Nat):Prop
 |self (h:i=k)
 |ahead (h1:rZ ops k i=false) (h2:D5 ops k i=true) (h3:i<k) (h4:Ord (Region.before (cut ops k)) i k)
 |beside (h1:rZ ops k i=false) (h2:D5 ops k i=true) (h3:N6 ops i=true) (h4:eW ops i k=true)
 |behind (h1:k<i) (h2:rZ ops k i=true) (h3:Ord (Region.before (cut ops k)) k i)
theorem Fits.lt{b:Array Nat}(F:Fits P G R ops e h b):∀(j i:Nat),j<ops.size->i<ops.size->Ord b i j->i<j:=by
 intro j
 induction j using aff with
 |_ j ih=>
  intro i hj hi ho
  have hx:ops[j]?=some ops[j]:=abV hj
  obtain⟨ed,hed,hbd,hq⟩:=F.bits j i _ hx hi ho
  have hlt:=F.Lz j _ hx ed hed hbd
  rcases hq with q|q
  ·omega
  ·have:=ih ed.on hlt i (acO hlt hj) hi q;omega
structure TX(ops:Array Oper)(k:Nat)(a b:Env):Prop where
 dY:∀t,(∀i,i<ops.size->Sy ops k i≠some t)->a.get t=b.get t
 defers:a.defers=b.defers
 pan:a.pan=b.pan
 round:a.round=b.round
end
end Go.AE
end
section
namespace Go.AE
open Go.RowKit (Below)
section
variable {P:Program} {G:Nat->Option (List AV)} {w0:World} {R:Rec}
theorem Steps.tail{m m1 m2:Machine}(h:step P m=.next m1)(hs:Steps P m m2)(hne:m≠m2):Steps P m1 m2:=by
 obtain⟨n,hn⟩:=hs
 cases n with
 |zero=>simp[runN] at hn;exact absurd hn hne
 |succ n=>simp only[runN,h] at hn;exact⟨n,hn⟩
theorem qW{fr fr':Frame}{cs cs':List Frame}{w w':World}(h:lone fr cs w=lone fr' cs' w'):fr=fr':=by
 unfold lone at h
 simp only[Machine.mk.injEq,Array.mk.injEq,aeM,Goroutine.mk.injEq] at h
 exact h.2.1.1.1
theorem Arr.swap{K:aB}{m m1 m':Machine}{B:Frame}{k:List Item}{c:Code}{cs cs0:List Frame}{x:Xt}{a a0:Act}{w wz:World}(hc:∀id,c≠ .exit id)(hc2:c≠ .ret)(hm:m=lone (B.atR a0 (.code c::k)) cs0 wz)
 (h1:step P m=.next m1) (h2:step P m'=.next m1) (h:Arr P K m B k cs x a w):Arr P K m' B k cs x a w:=by
 refine Arr.of_steps (.one h2) ?_
 cases x with
 |normal=>
  refine Steps.tail h1 h ?_
  rw[hm]
  intro hq
  have:=congrArg Frame.todo (qW hq)
  simp only[Frame.atR] at this
  exact absurd (congrArg List.length this) (by simp)
 |exit id=>
  obtain⟨t,e1,e2⟩:=h
  refine⟨t,e1,Steps.tail h1 e2 ?_⟩
  rw[hm]
  intro hq
  have:=congrArg Frame.todo (qW hq)
  simp only[Frame.atR,aeM,Item.code.injEq] at this
  exact hc id this.1
 |ret=>
  obtain⟨t,e2⟩:=h
  refine⟨t,Steps.tail h1 e2 ?_⟩
  rw[hm]
  intro hq
  have:=congrArg Frame.todo (qW hq)
  simp only[Frame.atR,aeM,Item.code.injEq] at this
  exact hc2 this.1
 |panic x=>
  obtain⟨t,v,e1,e2⟩:=h
  refine⟨t,v,e1,Steps.tail h1 e2 ?_⟩
  rw[hm]
  intro hq
  have:=congrArg Frame.mode (qW hq)
  simp[Frame.atR] at this
theorem Left.refl{K:aB}{w:World}{a:Act}{B:Frame}{ms:List Nat}{base cs:List Frame}{k:List Item}{m:Machine}{out:Xt}{e:Env}{h:ae}(hf:ev P K e a B ms)(hcs:CS K B.kind base e.pan cs)(hs:jv P G w0 K h w)(ha:Arr P K m B k cs out a w):
 Left P G w0 K ms B base m k a.tmps.size out e h K w a cs ms:=
 ⟨.refl K,hs,hf,hcs,rfl,fun _ hr=>.inl hr,ha⟩
theorem Left.of_steps{K K':aB}{w':World}{a':Act}{B:Frame}{ms ms':List Nat}{base cs':List Frame}{k:List Item}{m m1:Machine}{out:Xt}{e':Env}{h':ae}{n:Nat}(hs:Steps P m m1)(L:Left P G w0 K ms B base m1 k n out e' h' K' w' a' cs' ms'):
 Left P G w0 K ms B base m k n out e' h' K' w' a' cs' ms':=
 ⟨L.le,L.sim,L.frame,L.cs,L.size,L.marks,L.arr.of_steps hs⟩
theorem yr(hn:iZ P)(hR:mi P G w0 R){ops:Array Oper}:∀(l:List Nat) (e:Env) (h:ae) (out:Xt) (e':Env) (h':ae),br P G R ops l e h=some (out,e',h')->
 ∀(K:aB) (w:World) (a:Act) (B:Frame) (k:List Item) (base cs:List Frame) (ms:List Nat),ev P K e a B ms->CS K B.kind base e.pan cs->jv P G w0 K h w->wT a.tmps.size ops=true->
 ∃K' w' a' cs',Left P G w0 K ms B base (lone (B.atR a (.inRegion ops l::k)) cs w) k a.tmps.size out e' h' K' w' a' cs' ms:=by
 intro l
 induction l with
 |nil=>
  intro e h out e' h' he K w a B k base cs ms hf hcs hs hops
  simp only[br,abA,abC] at he
  obtain⟨rfl,rfl,rfl⟩:=he
  exact⟨K,w,a,cs,.refl hf hcs hs (.one stepR_region_end)⟩
 |cons i rest ih=>
  intro e h out e' h' he K w a B k base cs ms hf hcs hs hops
  simp only[br] at he
  cases ho:ops[i]? with
  |none=>rw[ho] at he;cases he
  |some o=>
   rw[ho] at he
   simp only at he
   have hdst:=wU hops ho
   cases hw:bg ops e o with
   |none=>rw[hw] at he;cases he
   |some b=>
    rw[hw] at he
    have hwm:=Cp hf.dY hops hw
    cases b with
    |false=>
     simp only at he
     have hstep:=stepR_op_skip (P:=P) (b:=B) (a:=a) (k:=k) (cs:=cs) (w:=w) (ops:=ops) (i:=i) (rest:=rest) (by rw[ho];simpa using hwm)
     have hb:(ops[i]?).bind (·.dst)=o.dst:=by rw[ho];rfl
     rw[hb] at hstep
     obtain⟨K',w',a',cs',L⟩:=ih _ _ _ _ _ he K w (a.put o.dst undef) B k base cs ms (hf.put hdst (.tuple [] #[] .nil)) (by cases o.dst<;>exact hcs) hs (by rw[qR];exact hops)
     rw[qR] at L
     exact⟨K',w',a',cs',.of_steps (.one hstep) L⟩
    |true=>
     simp only at he
     cases hop:dC P G R e h o with
     |none=>rw[hop] at he;cases he
     |some q=>
      obtain⟨r,e1,h1⟩:=q
      rw[hop] at he
      obtain⟨K1,w1,a1,cs1,le1,s1,f1,c1,z1,hres⟩:=N8 (i:=i) (rest:=rest) hn hR hop hf hcs hs ho hwm k
      cases r with
      |ret x=>
       obtain⟨v,hx,hst⟩:=hres
       simp only at he
       obtain⟨K',w',a',cs',L⟩:=ih _ _ _ _ _ he K1 w1 (a1.put o.dst v) B k base cs1 ms (f1.put (by rw[z1];exact hdst) hx) (by cases o.dst<;>exact c1) s1 (by rw[qR,z1];exact hops)
       rw[qR,z1] at L
       refine⟨K',w',a',cs',le1.trans L.le,L.sim,L.frame,L.cs,L.size,fun r hr=>.inl hr,L.arr.of_steps hst⟩
      |panic x=>
       obtain⟨v,todo,hx,hst⟩:=hres
       simp only[abA,abC] at he
       obtain⟨rfl,rfl,rfl⟩:=he
       exact⟨K1,w1,a1,cs1,le1,s1,f1,c1,z1,fun r hr=>.inl hr,todo,v,hx,hst⟩
theorem ev.same{K:aB}{e e2:Env}{a:Act}{B:Frame}{ms:List Nat}(hf:ev P K e a B ms)(hs:nX e e2):ev P K e2 a B ms:=by
 refine⟨fun t=>?_,hs.defers ▸ hf.defers,?_,hf.fn⟩
 ·have:=hs.dY t
  unfold Env.get at this
  rw[<-this];exact hf.dY t
 ·have:=hf.round
  rw[hs.round,hs.defers] at this
  exact this
theorem Aa{n:Nat}{ps:Array Tmp}(h:(ps.all fun p=>decide (p<n))=true):∀p∈ps.toList,p<n:=by
 intro p hp
 rw[aep] at h
 simpa using h p (Array.mem_toList_iff.1 hp)
end
end Go.AE
end
section
namespace Go.AE
section
variable {P:Program} {G:Nat->Option (List AV)} {R:Rec} {ops:Array Oper} {i:Nat}
end
end Go.AE
end
section
namespace Go.AE
section
variable {K:aB} {G:Nat->Option (List AV)} {ok:FuncId->Nat->Code->Bool} {w0 w:World} {h:ae}
end
end Go.AE
end
section
namespace Go.AE
open Go.RowKit (Below)
section
variable {P:Program} {G:Nat->Option (List AV)} {w0:World} {R:Rec}
structure But(d:Tmp)(e eh:Env):Prop where
 dY:∀t,t≠d->e.get t=eh.get t
 defers:e.defers=eh.defers
 pan:e.pan=eh.pan
 round:e.round=eh.round
theorem But.eval{d:Tmp}{e eh:Env}(b:But d e eh){x:Operand}(hx:x≠ .tmp d):e.eval x=eh.eval x:=by
 cases x with
 |tmp t=>exact b.dY t fun q=>hx (by rw[q])
 |_=>rfl
end
end Go.AE
end
section
namespace Go.AE
section
variable {ops:Array Oper} {i:Nat}
theorem ready_mono{S S':Nat->Bool}{k:Nat}(hr:iV ops S k)(h:∀j,S j=true->S' j=true):iV ops S' k:=fun o ho ed hed hb=>h _ (hr o ho ed hed hb)
theorem uM(S:Nat->Bool)(a b:Nat):aR (aR S a) b=aR (aR S b) a:=by
 funext j
 unfold aR
 by_cases h1:j=a<;>by_cases h2:j=b<;>simp[h1,h2]
structure Qd(ops:Array Oper)(i:Nat)(d2:Tmp):Prop where
 lt:i+1<ops.size
 no:yk ops i (i+1)=false
 all:∀k,k<ops.size->k≠i->k≠i+1->yk ops (i+1) k=true∨yk ops k i=true∨(Qe ops d2 k=true/\yk ops k (i+1)=false)
variable {d2:Tmp}
variable {P:Program} {G:Nat->Option (List AV)} {w0:World} {R:Rec}
end
end Go.AE
end
section
namespace Go.AE
section
variable {ops:Array Oper} {i j:Nat} {P:Program} {G:Nat->Option (List AV)} {R:Rec}
theorem dK:(dE ops i j).size=ops.size:=by simp[dE]
theorem ki(k:Nat):(dE ops i j)[k]?=(ops[k]?).map fun o=>if k=j then {o with after:=o.after.push {on:=i,ground:=.data}} else o:=by
 unfold dE
 simp only[List.getElem?_toArray,List.getElem?_mapIdx,adq]
theorem wY(k:Nat):((dE ops i j)[k]?).bind (·.dst)=(ops[k]?).bind (·.dst):=by
 rw[ki]
 cases ops[k]? with
 |none=>rfl
 |some o=>simp only[abJ,acu];split<;>rfl
theorem yu(e:Env)(o:Oper):bg (dE ops i j) e o=bg ops e o:=by
 unfold bg
 cases o.guard with
 |none=>rfl
 |some g=>simp only[wY]
theorem gf:∀(L:List Nat) (e:Env) (h:ae),br P G R (dE ops i j) L e h=br P G R ops L e h:=by
 intro L
 induction L with
 |nil=>intro e h;rfl
 |cons k L ih=>
  intro e h
  unfold br
  rw[ki]
  cases ho:ops[k]? with
  |none=>rfl
  |some o=>
   simp only[abJ]
   have e1:∀o':Oper,o'.op=o.op->o'.type=o.type->o'.guard=o.guard->o'.dst=o.dst->(bg (dE ops i j) e o'=bg ops e o/\dC P G R e h o'=dC P G R e h o):=by
    intro o' q1 q2 q3 q4
    refine⟨by rw[yu];unfold bg;rw[q3],?_⟩
    unfold dC
    rw[q1,q2,q4]
   by_cases hk:k=j
   ·rw[if_pos hk]
    obtain⟨q1,q2⟩:=e1 {o with after:=o.after.push {on:=i,ground:=.data}} rfl rfl rfl rfl
    rw[q1,q2]
    simp only[ih]
   ·rw[if_neg hk]
    obtain⟨q1,q2⟩:=e1 o rfl rfl rfl rfl
    rw[q1]
    simp only[ih]
theorem eY{S:Nat->Bool}{k:Nat}(hr:iV ops S k)(hk:k=j->S i=true):iV (dE ops i j) S k:=by
 intro o ho ed hed hb
 rw[ki] at ho
 cases hq:ops[k]? with
 |none=>rw[hq] at ho;cases ho
 |some o0=>
  rw[hq] at ho
  simp only[abJ,abA] at ho
  split at ho
  ·rename_i hk'
   subst ho
   rcases agG.1 hed with q|q
   ·exact hr o0 hq ed q hb
   ·subst q;exact hk hk'
  ·subst ho;exact hr o0 hq ed hed hb
theorem Ab:∀(L:List Nat) (S:Nat->Bool),S i=true->iF ops S L->iF (dE ops i j) S L:=by
 intro L
 induction L with
 |nil=>intro S _ h k hk;exact h k (by rw[dK] at hk;exact hk)
 |cons k L ih=>
  intro S hS h
  obtain⟨h1,h2,h3,h4⟩:=h
  refine⟨by rw[dK];exact h1,h2,eY h3 fun _=>hS,ih _ ?_ h4⟩
  unfold aR
  split
  ·rfl
  ·exact hS
theorem Cv(h:zZ (dE ops i j)):zZ ops:=by
 intro k o ho ed hed hb
 have hg:(dE ops i j)[k]?=some (if k=j then {o with after:=o.after.push {on:=i,ground:=.data}} else o):=by rw[ki,ho];rfl
 refine h k _ hg ed ?_ hb
 split
 ·exact agG.2 (.inl hed)
 ·exact hed
def sn(ops:Array Oper)(S:Nat->Bool):Prop:=∀(k:Nat) (o:Oper),ops[k]?=some o->S k=true->∀ed∈o.after,Region.binds .any ed=true->S ed.on=true
theorem sn.one{S:Nat->Bool}{k:Nat}(c:sn ops S)(hr:iV ops S k):sn ops (aR S k):=by
 intro m o ho hS ed hed hb
 unfold aR at hS ⊢
 split
 ·rfl
 ·split at hS
  ·rename_i q;subst q;exact hr o ho ed hed hb
  ·exact c m o ho hS ed hed hb
theorem wg{S:Nat->Bool}(hB:kQ ops (Region.before ops)=true)(c:sn ops S){k:Nat}:∀(m:Nat),m<ops.size->iV ops S m->((Region.before ops).getD m 0).testBit k=true->k<ops.size->S k=true:=by
 intro m
 induction m using aff with
 |_ m ih=>
  intro hm hr hb hk
  unfold kQ at hB
  rw[abE] at hB
  have:=hB m (abQ.2 hm)
  have ho:ops[m]?=some ops[m]:=abV hm
  rw[ho] at this
  simp only[abr,abE,aep] at this
  obtain⟨h1,h2⟩:=this
  have h3:=h2 k (abQ.2 hk)
  rw[hb] at h3
  simp only[aeJ,aem,Array.any_eq_true',abr,acS] at h3
  obtain⟨ed,hed,hbd,hq⟩:=h3
  have hs:=hr _ ho ed hed hbd
  rcases hq with hq|hq
  ·rw[<-abR hq];exact hs
  ·have hlt:ed.on<m:=by
    have:=h1 ed hed
    rw[hbd] at this
    simpa using this
   exact ih ed.on hlt (by omega) (fun o ho' ed' hed' hb'=>c _ o ho' hs ed' hed' hb') hq hk
theorem Fq{n:Nat}(hB:zZ ops)(hn:n+1=ops.size):∀(L:List Nat) (S:Nat->Bool),S n=false->S i=true->iV ops S n->iF ops (aR S n) L->iF (dE ops i n) S (L++[n]):=by
 intro L
 induction L with
 |nil=>
  intro S hS hi hr h
  refine⟨by rw[dK];omega,hS,eY hr fun _=>hi,fun k hk=>?_⟩
  exact h k (by rw[dK] at hk;exact hk)
 |cons k L ih=>
  intro S hS hi hr h
  obtain⟨h1,h2,h3,h4⟩:=h
  unfold aR at h2
  split at h2
  ·cases h2
  ·rename_i hkn
   have hr2:iV ops S k:=by
    intro o ho ed hed hb
    have:=h3 o ho ed hed hb
    unfold aR at this
    split at this
    ·rename_i q
     have:=hB k o ho ed hed hb
     omega
    ·exact this
   refine⟨by rw[dK];exact h1,h2,eY hr2 (fun q=>absurd q hkn),ih (aR S k) ?_ ?_ ?_ ?_⟩
   ·unfold aR;rw[if_neg (Ne.symm hkn)];exact hS
   ·unfold aR;split;rfl;exact hi
   ·exact ready_mono hr fun j hj=>by unfold aR;split;rfl;exact hj
   ·rw[uM];exact h4
theorem Fs{n:Nat}(hB:zZ ops)(hn:n+1=ops.size)(hin:i<n):∀(L:List Nat) (S:Nat->Bool),S n=false->S i=false->iV ops S n->iF ops (aR S n) L->
 ∃M1 M2,L=M1++i::M2/\(∀k∈M1,k<ops.size/\k≠i/\k≠n/\S k=false)/\(∀k∈M2,k<ops.size/\k≠i/\k≠n/\S k=false)/\iF (dE ops i n) S (M1++i::(M2++[n])):=by
 intro L
 induction L with
 |nil=>
  intro S hS hi hr h
  have:=h i (by omega)
  unfold aR at this
  rw[if_neg (by omega),hi] at this
  cases this
 |cons k L ih=>
  intro S hS hi hr h
  obtain⟨h1,h2,h3,h4⟩:=h
  unfold aR at h2
  split at h2
  ·cases h2
  ·rename_i hkn
   have hr2:iV ops S k:=by
    intro o ho ed hed hb
    have:=h3 o ho ed hed hb
    unfold aR at this
    split at this
    ·rename_i q
     have:=hB k o ho ed hed hb
     omega
    ·exact this
   have hr3:iV ops (aR S k) n:=ready_mono hr fun j hj=>by unfold aR;split;rfl;exact hj
   by_cases hki:k=i
   ·subst hki
    have mem2:∀(L:List Nat) (S:Nat->Bool),iF ops S L->∀m∈L,m<ops.size/\S m=false:=by
     intro L
     induction L with
     |nil=>intro S _ m hm;cases hm
     |cons a L ih2=>
      intro S hL m hm
      obtain⟨q1,q2,q3,q4⟩:=hL
      rcases acd.1 hm with rfl|hm
      ·exact⟨q1,q2⟩
      ·obtain⟨p1,p2⟩:=ih2 _ q4 m hm
       unfold aR at p2
       split at p2
       ·cases p2
       ·exact⟨p1,p2⟩
    refine⟨[],L,rfl,fun m hm=>(nomatch hm),fun m hm=>?_,?_⟩
    ·obtain⟨p1,p2⟩:=mem2 L _ h4 m hm
     unfold aR at p2
     split at p2
     ·cases p2
     ·rename_i q1
      split at p2
      ·cases p2
      ·rename_i q2
       exact⟨p1,q1,q2,p2⟩
    ·refine⟨by rw[dK];exact h1,hi,eY hr2 (fun q=>absurd q hkn),?_⟩
     refine Fq hB hn L _ ?_ ?_ hr3 ?_
     ·unfold aR;rw[if_neg (Ne.symm hkn)];exact hS
     ·unfold aR;rw[if_pos rfl]
     ·rw[uM];exact h4
   ·rw[uM] at h4
    obtain⟨M1,M2,e1,e2,e3,e4⟩:=ih (aR S k) (by unfold aR;rw[if_neg (Ne.symm hkn)];exact hS) (by unfold aR;rw[if_neg (Ne.symm hki)];exact hi) hr3 h4
    have tS:∀m,aR S k m=false->S m=false:=fun m q=>by
     unfold aR at q
     split at q
     ·cases q
     ·exact q
    refine⟨k::M1,M2,by rw[e1];rfl,fun m hm=>?_,fun m hm=>?_,by rw[dK];exact h1,h2,eY hr2 (fun q=>absurd q hkn),e4⟩
    ·rcases acd.1 hm with rfl|hm
     ·exact⟨h1,hki,hkn,h2⟩
     ·obtain⟨p1,p2,p3,p4⟩:=e2 m hm
      exact⟨p1,p2,p3,tS m p4⟩
    ·obtain⟨p1,p2,p3,p4⟩:=e3 m hm
     exact⟨p1,p2,p3,tS m p4⟩
theorem Cw{n:Nat}(hB:zZ ops)(hn:n+1=ops.size)(hin:i<n):∀(L:List Nat) (S:Nat->Bool),S n=false->S i=false->sn ops S->iF ops S L->
 iF (dE ops i n) S L∨∃pre M1 M2 S',L=pre++(n::(M1++i::M2))/\S' i=false/\iV ops S' n/\sn ops S'/\(∀k∈M1,k<ops.size/\k≠i/\k≠n/\S' k=false)/\(∀k∈M2,k<ops.size/\k≠i/\k≠n/\S' k=false)/\iF (dE ops i n) S (pre++(M1++i::(M2++[n]))):=by
 intro L
 induction L with
 |nil=>
  intro S h1 h2 _ h
  have:=h i (by omega)
  rw[h2] at this;cases this
 |cons k L ih=>
  intro S hS hi hc h
  obtain⟨h1,h2,h3,h4⟩:=h
  by_cases hki:k=i
  ·subst hki
   exact .inl ⟨by rw[dK];exact h1,h2,eY h3 (fun q=>by omega),Ab L _ (by unfold aR;rw[if_pos rfl]) h4⟩
  ·by_cases hkn:k=n
   ·subst hkn
    obtain⟨M1,M2,e1,e2,e3,e4⟩:=Fs hB hn hin L S hS hi h3 h4
    exact .inr ⟨[],M1,M2,S,by rw[e1];rfl,hi,h3,hc,e2,e3,e4⟩
   ·rcases ih (aR S k) (by unfold aR;rw[if_neg (Ne.symm hkn)];exact hS) (by unfold aR;rw[if_neg (Ne.symm hki)];exact hi) (hc.one h3) h4 with q|⟨pre,M1,M2,S',e1,e0,e2,e3,e4,e5,e6⟩
    ·exact .inl ⟨by rw[dK];exact h1,h2,eY h3 (fun q=>absurd q hkn),q⟩
    ·exact .inr ⟨k::pre,M1,M2,S',by rw[e1];rfl,e0,e2,e3,e4,e5,by rw[dK];exact h1,h2,eY h3 (fun q=>absurd q hkn),e6⟩
def ae.qX(h:ae)(c:Nat)(xs:List AV):ae:={h with boxes:=h.boxes.set c xs}
theorem uN{h:ae}{a c:Nat}{xs:List AV}(hne:a≠c):(h.qX c xs).boxes[a]?=h.boxes[a]?:=by
 unfold ae.qX
 simp only[aci]
 rw[if_neg (fun q=>hne q.symm)]
variable {e e':Env} {h h':ae} {b:Array Nat}
theorem tj(N:br P G R ops (aby ops.size) e h=some (.normal,e',h'))(F:Fits P G R ops e h b):∀(A B:List Nat) (S:Nat->Bool) (e1:Env) (h1:ae),Inv P G R ops e h b S e1 h1->iF ops S (A++B)->
 ∃S2 e2 h2,br P G R ops A e1 h1=some (.normal,e2,h2)/\Inv P G R ops e h b S2 e2 h2/\iF ops S2 B:=by
 intro A
 induction A with
 |nil=>intro B S e1 h1 I hL;exact⟨S,e1,h1,rfl,I,hL⟩
 |cons k A ih=>
  intro B S e1 h1 I hL
  obtain⟨hk,hu,hr,hL⟩:=hL
  obtain⟨x,e2,h2,hs,I'⟩:=next N F I hk hu hr
  obtain⟨S2,e3,h3,hgo,I3,L3⟩:=ih B _ _ _ I' hL
  exact⟨S2,e3,h3,dn.2 ⟨x,e2,h2,hs,hgo⟩,I3,L3⟩
theorem wZ(N:br P G R ops (aby ops.size) e h=some (.normal,e',h'))(F:Fits P G R ops e h b){S:Nat->Bool}{e1:Env}{h1:ae}(I:Inv P G R ops e h b S e1 h1){k:Nat}(hk:k<ops.size)
 (hu:S k=false) (hr:iV ops S k):∀o,ops[k]?=some o->Alike ops (cK P G R ops e h k).1 e1 o:=by
 have ho:ops[k]?=some ops[k]:=abV hk
 have ahead:∀i,i<ops.size->Ord b i k->S i=true:=by
  intro i hi hik
  obtain⟨ed,hed,hbd,hq⟩:=F.bits k i _ ho hi hik
  have hs:=hr _ ho ed hed hbd
  have hlt:=F.Lz k _ ho ed hed hbd
  rcases hq with rfl|hq
  ·exact hs
  ·exact I.closed i ed.on hi (acO hlt hk) hs hq
 intro o ho' t ht
 rw[ho] at ho';injection ho' with ho';subst ho'
 rw[I.dY t,uH N t k (acz hk),qV (k:=k) ops.size (acz hk)]
 ·refine val_congr k fun w hw hd=>?_
  have hx:ops[w]?=some ops[w]:=abV (acO hw hk)
  rw[qs hx] at hd
  exact(ahead w (acO hw hk) (F.looks hw hk hx ho (.inl ⟨hd,ht⟩))).symm
 ·intro w hkw hw hd
  rcases abL k w with hlt|hge
  ·cases hq:S w with
   |false=>rfl
   |true=>
    have hx:ops[w]?=some ops[w]:=abV hw
    rw[qs hx] at hd
    have:=I.closed k w hk hw hq (F.looks hlt hw ho hx (.inr ⟨hd,ht⟩))
    rw[hu] at this;cases this
  ·rw[adF hge hkw,hu]
theorem ja{k:Nat}{x:AV}{e1:Env}{h1:ae}(hs:jR ops k=true)(st:dR P G R ops k e h=some (x,e1,h1)):
 x=.tuple []/\e1=e/\gE ops k=none/\∃(o:Oper) (t:TypeId) (a v:Operand) (c off n:Nat) (cs old:List AV),ops[k]?=some o/\o.op=.store t a v/\o.guard=none/\e.eval a=.ptr (.box c) off/\(e.eval v).aC=some cs/\bF P t=some n/\h.boxes[c]?=some old/\cs.length=n/\off+n<=old.length/\h1=h.qX c (bI old off cs):=by
 unfold jR at hs
 unfold dR at st
 cases ho:ops[k]? with
 |none=>rw[ho] at hs;cases hs
 |some o=>
  rw[ho] at hs st
  simp only[abr,Option.isNone_iff_eq_none] at hs
  obtain⟨q1,q2,q3⟩:=hs
  cases hop:o.op<;>rw[hop] at q1<;>try (cases q1;done)
  rename_i t a v
  have hw:bg ops e o=some true:=by unfold bg;rw[q2]
  simp only[hw] at st
  have hev:dC P G R e h o=(aO P G e.eval h (.store t a v)).map fun(x,h)=>(.ret x,e,h):=by
   unfold dC
   rw[hop]
  rw[hev] at st
  simp only[aO] at st
  cases hst:aA P h t (e.eval a) (e.eval v) with
  |none=>rw[hst] at st;simp at st
  |some hh=>
   rw[hst] at st
   simp only[abJ,abA,abC] at st
   obtain⟨rfl,rfl,rfl⟩:=st
   unfold aA at hst
   split at hst
   ·rename_i c off cs n h1 h2 h3
    split at hst
    ·rename_i old hold
     split at hst
     ·rename_i hle
      injection hst with hst
      exact⟨rfl,rfl,by simp[gE,ho,q3],o,t,a,v,c,off,n,cs,old,rfl,hop,q2,h1,h2,h3,hold,hle.1,hle.2,hst.symm⟩
     ·cases hst
    ·cases hst
   ·cases hst
theorem oy{k:Nat}{o:Oper}{t:TypeId}{a v:Operand}{c off n:Nat}{cs old:List AV}(ho:ops[k]?=some o)(hop:o.op=.store t a v)(hg:o.guard=none)(ha:e.eval a=.ptr (.box c) off)(hv:(e.eval v).aC=some cs)(hz:bF P t=some n)(hb:h.boxes[c]?=some old)(hl:cs.length=n)(hle:off+n<=old.length):
 dR P G R ops k e h=some (.tuple [],e,h.qX c (bI old off cs)):=by
 unfold dR
 simp only[ho]
 have hw:bg ops e o=some true:=by unfold bg;rw[hg]
 simp only[hw]
 have hev:dC P G R e h o=(aO P G e.eval h (.store t a v)).map fun(x,h)=>(.ret x,e,h):=by
  unfold dC
  rw[hop]
 rw[hev]
 simp only[aO]
 have:aA P h t (e.eval a) (e.eval v)=some (h.qX c (bI old off cs)):=by
  unfold aA
  simp only[ha,hv,hz,hb]
  rw[if_pos ⟨hl,hle⟩];rfl
 rw[this];rfl
theorem w7{n:Nat}(hn:jR ops n=true):∀(M:List Nat) {e e':Env} {h h':ae},(∀k∈M,k<ops.size/\jw ops k=.pure/\eW ops k n=true)->∀rest,br P G R ops (M++n::rest) e h=some (.normal,e',h')->br P G R ops (n::(M++rest)) e h=some (.normal,e',h'):=by
 intro M
 induction M with
 |nil=>intro e e' h h' _ rest hr;exact hr
 |cons k M ih=>
  intro e e' h h' hM rest hr
  rw[ab3,dn] at hr
  obtain⟨x,e1,h1,hs,hr⟩:=hr
  obtain⟨hk,hp,hap⟩:=hM k abM
  have hr:=ih (fun m hm=>hM m (abH _ hm)) rest hr
  obtain⟨rfl,rfl,hany⟩:=sf hp hs
  rw[dn] at hr ⊢
  obtain⟨x2,e2,h2,hs2,hr⟩:=hr
  obtain⟨rfl,rfl,hd,o,t,a,v,c,off,m,cs,old,g1,g2,g3,g4,g5,g6,g7,g8,g9,rfl⟩:=ja hn hs2
  have hal:∀z∈o.op.operands,(e1.put (gE ops k) x).eval z=e1.eval z:=by
   intro z hz
   cases z with
   |tmp s=>
    show(e1.put (gE ops k) x).get s=e1.get s
    rw[yo]
    split
    ·rename_i hq
     exfalso
     unfold eW at hap
     have hok:ops[k]?=some ops[k]:=abV hk
     rw[hok,g1] at hap
     simp only[abr] at hap
     rw[qs hok] at hq
     have hlook:s∈o.looksAt ops:=by
      unfold Oper.looksAt
      exact aeH _ (agj.2 ⟨.tmp s,by simpa using hz,rfl⟩)
     have h1:=hap.1
     unfold Oper.apart at h1
     rw[hq] at h1
     simp[hlook] at h1
    ·rfl
   |_=>rfl
  rw[hal a (by rw[g2];simp[Op.operands])] at g4
  rw[hal v (by rw[g2];simp[Op.operands])] at g5
  refine⟨_,e1,_,oy g1 g2 g3 g4 g5 g6 g7 g8 g9,?_⟩
  rw[hd] at hr ⊢
  show br P G R ops (k::(M++rest)) e1 _=_
  rw[dn]
  exact⟨x,e1,_,hany e1 _ (fun o ho t ht=>rfl),hr⟩
theorem Ac{n:Nat}(hi:jR ops i=true)(hn:jR ops n=true){e e':Env}{h h':ae}{bi bn:Nat}(h1:gP ops i e=some bi)(h2:gP ops n e=some bn)(hne:bi≠bn)(rest:List Nat)(hr:br P G R ops (i::n::rest) e h=some (.normal,e',h')):br P G R ops (n::i::rest) e h=some (.normal,e',h'):=by
 rw[dn] at hr
 obtain⟨x,e1,hh1,hs,hr⟩:=hr
 obtain⟨rfl,rfl,hd,o,t,a,v,c,off,m,cs,old,g1,g2,g3,g4,g5,g6,g7,g8,g9,rfl⟩:=ja hi hs
 rw[hd] at hr
 replace hr:br P G R ops (n::rest) e1 (h.qX c (bI old off cs))=some (.normal,e',h'):=hr
 rw[dn] at hr
 obtain⟨x2,e2,hh2,hs2,hr⟩:=hr
 obtain⟨rfl,rfl,hd2,o2,t2,a2,v2,c2,off2,m2,cs2,old2,k1,k2,k3,k4,k5,k6,k7,k8,k9,rfl⟩:=ja hn hs2
 have q1:bi=c:=by
  unfold gP at h1
  rw[g1] at h1
  simp only[g2,g4] at h1
  injection h1 with h1;exact h1.symm
 have q2:bn=c2:=by
  unfold gP at h2
  rw[k1] at h2
  simp only[k2,k4] at h2
  injection h2 with h2;exact h2.symm
 subst q1;subst q2
 have k7':h.boxes[bn]?=some old2:=by rw[<-k7];exact(uN (fun q=>hne q.symm)).symm
 have g7':(h.qX bn (bI old2 off2 cs2)).boxes[bi]?=some old:=by rw[uN hne];exact g7
 rw[dn]
 refine⟨_,e2,_,oy k1 k2 k3 k4 k5 k6 k7' k8 k9,?_⟩
 rw[hd2]
 show br P G R ops (i::rest) e2 _=_
 rw[dn]
 refine⟨_,e2,_,oy g1 g2 g3 g4 g5 g6 g7' g8 g9,?_⟩
 rw[hd]
 rw[hd2] at hr
 have hcomm:(h.qX bn (bI old2 off2 cs2)).qX bi (bI old off cs)=(h.qX bi (bI old off cs)).qX bn (bI old2 off2 cs2):=by
  unfold ae.qX
  simp only[List.set_comm _ _ hne]
 rw[hcomm]
 exact hr
theorem Ft(hok:rY ops i=true)(hat:iA P G R ops e h i=true)(hf:df P G R (dE ops i (ops.size - 1)) e h=true)(he:br P G R ops (aby ops.size) e h=some (.normal,e',h'))(tp:Nat):
 ∃e2,br P G R ops (Region.linearise .any ops tp) e h=some (.normal,e2,h')/\nX e2 e':=by
 unfold rY at hok
 simp only[abr,decide_eq_true_eq,abE,abQ,acS] at hok
 obtain⟨k0,k1,k2,k3,k4⟩:=hok
 obtain⟨n,hn1⟩:∃n,ops.size - 1=n:=⟨_,rfl⟩
 have hn:n+1=ops.size:=by omega
 simp only[hn1] at hf k3 k4
 have hE:br P G R (dE ops i n) (aby (dE ops i n).size) e h=some (.normal,e',h'):=by rw[dK,gf];exact he
 have hBk:=Cv (wX hf)
 have hL:=nP hBk tp
 rcases Cw (i:=i) hBk hn (by omega) _ (fun _=>false) rfl rfl (fun k o ho hS=>by cases hS) hL with q|⟨pre,M1,M2,S',q1,q7,q2,q3,q4,q5,q6⟩
 ·obtain⟨e2,hev,hsame⟩:=uJ hE (jS hf) _ _ _ _ (si hE) q
  rw[gf] at hev
  exact⟨e2,hev,hsame⟩
 ·have good:∀k,k<ops.size/\k≠i/\k≠n/\S' k=false->k<ops.size/\jw ops k=.pure/\eW ops k n=true:=by
   rintro k ⟨p1,p2,p3,p4⟩
   rcases k4 k (by omega) with w|w|w
   ·exact absurd (abR w) p2
   ·have:=wg k0 q3 n (by omega) q2 w p1
    rw[p4] at this;cases this
   ·refine⟨p1,?_,w.2⟩
    have w1:=w.1
    unfold Nn at w1
    cases ho:ops[k]? with
    |none=>rw[ho] at w1;cases w1
    |some o=>
     rw[ho] at w1
     simpa [jw,ho] using w1
  rw[<-List.append_assoc] at q6
  obtain⟨S2,em,hm,ev1,I1,L1⟩:=tj hE (jS hf) (pre++M1) (i::(M2++[n])) _ _ _ (si hE) q6
  obtain⟨l1,l2,l3,l4⟩:=L1
  have al1:=wZ hE (jS hf) I1 l1 l2 l3
  obtain⟨x,e2,h2,hs,I2⟩:=next hE (jS hf) I1 l1 l2 l3
  have hs':dR P G R ops i em hm=some (x,e2,h2):=by
   have:=gf (P:=P) (G:=G) (R:=R) (ops:=ops) (i:=i) (j:=n) [i] em hm
   have h3:br P G R (dE ops i n) [i] em hm=some (.normal,e2.put (gE (dE ops i n) i) x,h2):=dn.2 ⟨x,e2,h2,hs,rfl⟩
   rw[this] at h3
   obtain⟨x',e3,h4,hs3,hr3⟩:=dn.1 h3
   obtain⟨rfl,rfl,hd3,o3,t3,a3,v3,c3,off3,m3,cs3,old3,z1,z2,z3,z4,z5,z6,z7,z8,z9,rfl⟩:=ja k2 hs3
   rw[hd3] at hr3
   simp only[br,abA,abC,true_and] at hr3
   obtain⟨r1,r2⟩:=hr3
   have hx:x=.tuple []/\e2=e3:=by
    have hgE:(dE ops i n)[i]?=some o3:=by
     rw[ki,z1,abJ,if_neg (by omega)]
    have hSt:jR (dE ops i n) i=true:=by
     unfold jR at k2 ⊢
     rw[hgE]
     rw[z1] at k2
     exact k2
    obtain⟨y1,y2,-⟩:=ja hSt hs
    exact⟨y1,y2⟩
   rw[hx.1,hx.2,<-r2]
   exact hs3
  obtain⟨rfl,rfl,hd,o,t,a,v,c,off,m,cs,old,g1,g2,g3,g4,g5,g6,g7,g8,g9,rfl⟩:=ja k2 hs'
  have hdE:gE (dE ops i n) i=none:=by
   unfold gE at hd ⊢
   rw[wY];exact hd
  rw[hdE] at I2
  replace I2:Inv P G R (dE ops i n) e h (Region.before (dE ops i n)) (aR S2 i) e2 (hm.qX c (bI old off cs)):=I2
  obtain⟨Sn,en,hhn,ev2,I3,L3⟩:=tj hE (jS hf) M2 [n] _ _ _ I2 l4
  obtain⟨e5,hev5,hsame⟩:=uJ hE (jS hf) _ _ _ _ I3 L3
  have hnS2:S2 n=false/\iV ops S2 n:=by
   refine⟨?_,?_⟩
   ·have:∀(L:List Nat) (S:Nat->Bool),iF (dE ops i n) S L->∀m∈L,S m=false:=by
     intro L
     induction L with
     |nil=>intro S _ m hm;cases hm
     |cons a L ih2=>
      intro S hL m hm
      obtain⟨u1,u2,u3,u4⟩:=hL
      rcases acd.1 hm with rfl|hm
      ·exact u2
      ·have p2:=ih2 _ u4 m hm
       unfold aR at p2
       split at p2
       ·cases p2
       ·exact p2
    have:=this _ _ l4 n (by simp)
    unfold aR at this
    rw[if_neg (by omega)] at this
    exact this
   ·intro o' ho' ed hed hb
    have hS:S' ed.on=true:=q2 o' ho' ed hed hb
    have hlt:ed.on<n:=hBk n o' ho' ed hed hb
    cases hq:S2 ed.on with
    |true=>rfl
    |false=>
     exfalso
     have mem:∀(L:List Nat) (S:Nat->Bool),iF (dE ops i n) S L->∀m,m<ops.size->S m=false->m∈L:=by
      intro L
      induction L with
      |nil=>
       intro S hL m hm hSm
       have:=hL m (by rw[dK];exact hm)
       rw[hSm] at this;cases this
      |cons a L ih2=>
       intro S hL m hm hSm
       obtain⟨u1,u2,u3,u4⟩:=hL
       by_cases hma:m=a
       ·subst hma;exact abM
       ·exact abH _ (ih2 _ u4 m hm (by unfold aR;rw[if_neg hma];exact hSm))
     have hm1:=mem (i::(M2++[n])) S2 ⟨l1,l2,l3,l4⟩ ed.on (by omega) hq
     rcases acd.1 hm1 with w|w
     ·rw[w,q7] at hS;cases hS
     ·rcases List.mem_append.1 w with w|w
      ·have:=(q5 _ w).2.2.2
       rw[hS] at this;cases this
      ·rw[List.mem_singleton] at w;omega
  have hrn:iV (dE ops i n) (aR S2 i) n:=eY (ready_mono hnS2.2 fun j hj=>by unfold aR;split;rfl;exact hj) fun _=>by unfold aR;rw[if_pos rfl]
  have al2:=wZ hE (jS hf) I2 (k:=n) (by rw[dK];omega) (by unfold aR;rw[if_neg (by omega)];exact hnS2.1) hrn
  have stE:∀k,cK P G R (dE ops i n) e h k=cK P G R ops e h k:=fun k=>by unfold cK;rw[gf]
  have put_congr:∀(k:Nat) (ea eb:Env),(∀o,(dE ops i n)[k]?=some o->Alike (dE ops i n) ea eb o)->gP ops k ea=gP ops k eb:=by
   intro k ea eb hal
   unfold gP
   cases ho:ops[k]? with
   |none=>rfl
   |some o'=>
    have hg:(dE ops i n)[k]?=some (if k=n then {o' with after:=o'.after.push {on:=i,ground:=.data}} else o'):=by rw[ki,ho];rfl
    have hz:=lj (hal _ hg)
    have hz2:∀z∈o'.op.operands,ea.eval z=eb.eval z:=by
     intro z hzm
     refine hz z ?_
     split<;>exact hzm
    show(match o'.op with| .store _ a _=>(match ea.eval a with| .ptr (.box b) _=>some b|_=>none)|_=>none)=(match o'.op with| .store _ a _=>(match eb.eval a with| .ptr (.box b) _=>some b|_=>none)|_=>none)
    revert hz2
    generalize o'.op=op
    intro hz2
    cases op with
    |store t' a' v'=>
     have:ea.eval a'=eb.eval a':=hz2 a' (by simp[Op.operands])
     simp only[this]
    |_=>rfl
  have hb:∃bi bn,gP ops i e2=some bi/\gP ops n e2=some bn/\bi≠bn:=by
   unfold iA at hat
   rw[hn1] at hat
   split at hat
   ·rename_i ei _ en _ r1 r2
    have s1:(cK P G R ops e h i).1=ei:=by unfold cK;rw[r1]
    have s2:(cK P G R ops e h n).1=en:=by unfold cK;rw[r2]
    split at hat
    ·rename_i bi bn u1 u2
     refine⟨bi,bn,?_,?_,?_⟩
     ·rw[<-u1,<-s1,<-stE];exact(put_congr i _ _ al1).symm
     ·rw[<-u2,<-s2,<-stE];exact(put_congr n _ _ al2).symm
     ·rintro rfl;rw[Nat.beq_refl] at hat;cases hat
    ·cases hat
   ·cases hat
  obtain⟨bi,bn,b1,b2,b3⟩:=hb
  have t1:br P G R ops (M2++n::[]) e2 (hm.qX c (bI old off cs))=some (.normal,e5,h'):=by
   rw[iE]
   rw[gf] at ev2 hev5
   exact⟨_,_,ev2,hev5⟩
  have t2:=w7 k3 M2 (fun k hk=>good k (q5 k hk)) [] t1
  rw[List.append_nil] at t2
  have t3:br P G R ops (i::n::M2) e2 hm=some (.normal,e5,h'):=by
   rw[dn]
   refine⟨_,_,_,hs',?_⟩
   rw[hd]
   exact t2
  have t4:=Ac k2 k3 b1 b2 b3 M2 t3
  rw[gf,iE] at ev1
  obtain⟨e0,h0,v1,v2⟩:=ev1
  have t5:br P G R ops (M1++n::(i::M2)) e0 h0=some (.normal,e5,h'):=iE.2 ⟨_,_,v2,t4⟩
  have t6:=w7 k3 M1 (fun k hk=>good k (q4 k hk)) _ t5
  refine⟨e5,?_,hsame⟩
  rw[q1]
  exact iE.2 ⟨_,_,v1,t6⟩
theorem stores_cases{e:Env}{h:ae}(hb:gu P G R ops e h=true):∃i,i<ops.size/\rY ops i=true/\iA P G R ops e h i=true/\df P G R (dE ops i (ops.size - 1)) e h=true:=by
 unfold gu at hb
 simp only[adJ,abQ,abr] at hb
 exact hb
theorem stores_of{e:Env}{h:ae}{i:Nat}(h1:i<ops.size)(h2:rY ops i=true)(h3:iA P G R ops e h i=true)(h4:df P G R (dE ops i (ops.size - 1)) e h=true):gu P G R ops e h=true:=by
 unfold gu
 simp only[adJ,abQ,abr]
 exact⟨i,h1,h2,h3,h4⟩
end
end Go.AE
end
section
namespace Go.AE
open Go.RowKit (Below)
section
variable {P:Program} {G:Nat->Option (List AV)} {w0:World} {R:Rec}
theorem Ad{b:Frame}{a:Act}{k:List Item}{cs:List Frame}{w:World}{c:Code}:step P (lone (b.atR a (.code (.scope c)::k)) cs w)=.next (lone (b.atR a (.code c::.inScope c::k)) cs w):=by
 rfl
theorem wh{b:Frame}{a:Act}{k:List Item}{cs:List Frame}{w:World}{c:Code}:step P (lone (b.atR a (.inScope c::k)) cs w)=.next (lone (b.atR a k) cs w):=by
 rfl
theorem Arr.Fu{K:aB}{m:Machine}{B:Frame}{c:Code}{k:List Item}{cs:List Frame}{x:Xt}{a:Act}{w:World}(hn:x≠ .normal)
 (h:Arr P K m B (.inScope c::k) cs x a w):Arr P K m B k cs x a w:=by
 cases x with
 |normal=>exact absurd rfl hn
 |exit id=>
  obtain⟨t,h1,h2⟩:=h
  exact⟨t,h1.trans rfl,h2⟩
 |ret=>exact h
 |panic x=>exact h
theorem Ia(hn:iZ P)(hmix:P.follows .mixedOrders=true)(hR:mi P G w0 R):D7 P G w0 (b7 P G R):=by
 intro c e h out e' h' he K w a B k base cs ms hf hcs hs hok
 cases c with
 |skip=>
  simp only[b7,abA,abC] at he
  obtain⟨rfl,rfl,rfl⟩:=he
  exact⟨K,w,a,cs,ms,.refl hf hcs hs (.one stepR_skip)⟩
 |label l=>
  simp only[b7,abA,abC] at he
  obtain⟨rfl,rfl,rfl⟩:=he
  exact⟨K,w,a,cs,ms,.refl hf hcs hs (.one stepR_label)⟩
 |region id ops draw=>
  simp only[codeOk] at hok
  cases draw with
  |false=>
   simp only[b7,abW,if_false] at he
   obtain⟨K',w',a',cs',L⟩:=yr hn hR _ _ _ _ _ _ he K w a B k base cs ms hf hcs hs hok
   exact⟨K',w',a',cs',ms,.of_steps (.one stepR_region) L⟩
  |true=>
   simp only[b7,if_true] at he
   split at he
   ·rename_i hfit
    split at he
    ·rename_i e1 h1 hev
     simp only[abA,abC] at he
     obtain⟨rfl,rfl,rfl⟩:=he
     have hstep:=stepR_region_draw (P:=P) (b:=B) (a:=a) (k:=k) (cs:=cs) (w:=w) (ops:=ops) (id:=id)
     have hsch:Region.schedule (P.follows .mixedOrders) ops (w.tape w.drawn (.order B.fn id))=Region.linearise .any ops (w.tape w.drawn (.order B.fn id)):=by
      simp only[Region.schedule,hmix,Bool.true_or,if_true]
     rw[hsch] at hstep
     rcases (acS _ _).mp hfit with hfit|hst
     ·obtain⟨e2,hev2,hsame⟩:=LF hev hfit (w.tape w.drawn (.order B.fn id))
      obtain⟨K',w',a',cs',L⟩:=yr hn hR _ _ _ _ _ _ hev2 K {w with drawn:=w.drawn+1} a B k base cs ms hf hcs (hs.drew _) hok
      exact⟨K',w',a',cs',ms,L.le,L.sim,L.frame.same hsame,hsame.pan ▸ L.cs,L.size,L.marks,L.arr.of_steps (.one hstep)⟩
     ·obtain⟨i,-,hi1,hi2,hi3⟩:=stores_cases hst
      obtain⟨e2,hev2,hsame⟩:=Ft hi1 hi2 hi3 hev (w.tape w.drawn (.order B.fn id))
      obtain⟨K',w',a',cs',L⟩:=yr hn hR _ _ _ _ _ _ hev2 K {w with drawn:=w.drawn+1} a B k base cs ms hf hcs (hs.drew _) hok
      exact⟨K',w',a',cs',ms,L.le,L.sim,L.frame.same hsame,hsame.pan ▸ L.cs,L.size,L.marks,L.arr.of_steps (.one hstep)⟩
    ·cases he
   ·cases he
 |seq x y=>
  simp only[codeOk,abr] at hok
  simp only[b7] at he
  cases hx:R.code x e h with
  |none=>rw[hx] at he;cases he
  |some q=>
   obtain⟨o1,e1,h1⟩:=q
   rw[hx] at he
   obtain⟨K1,w1,a1,cs1,ms1,L1⟩:=hR.code x e h _ _ _ hx K w a B (.code y::k) base cs ms hf hcs hs hok.1
   have start:=Steps.one (stepR_seq (P:=P) (b:=B) (a:=a) (k:=k) (cs:=cs) (w:=w) (x:=x) (y:=y))
   by_cases hnorm:o1=.normal
   ·subst hnorm
    simp only at he
    obtain⟨K2,w2,a2,cs2,ms2,L2⟩:=hR.code y e1 h1 _ _ _ he K1 w1 a1 B k base cs1 ms1 L1.frame L1.cs L1.sim (by rw[L1.size];exact hok.2)
    refine⟨K2,w2,a2,cs2,ms2,L1.le.trans L2.le,L2.sim,L2.frame,L2.cs,L2.size.trans L1.size,fun r hr=>?_,(L2.arr.of_steps L1.arr).of_steps start⟩
    rcases L2.marks r hr with hq|hq
    ·exact L1.marks r hq
    ·exact .inr fun hm=>hq (L1.le.md r hm)
   ·have he:some (o1,e1,h1)=some (out,e',h'):=by
     cases o1<;>first|exact absurd rfl hnorm|exact he
    simp only[abA,abC] at he
    obtain⟨rfl,rfl,rfl⟩:=he
    exact⟨K1,w1,a1,cs1,ms1,L1.le,L1.sim,L1.frame,L1.cs,L1.size,L1.marks,(L1.arr.pass rfl hnorm).of_steps start⟩
 |cond q x y=>
  simp only[codeOk,abr] at hok
  simp only[b7] at he
  have hv:=ju hf.dY q
  split at he
  ·rename_i hq
   rw[hq] at hv
   obtain⟨K1,w1,a1,cs1,ms1,L1⟩:=hR.code x e h _ _ _ he K w a B k base cs ms hf hcs hs hok.1
   exact⟨K1,w1,a1,cs1,ms1,L1.of_steps (.one (by
    have:=stepR_cond (P:=P) (b:=B) (k:=k) (cs:=cs) (w:=w) (x:=x) (y:=y) hv.bm.1
    simpa using this))⟩
  ·rename_i hq
   rw[hq] at hv
   obtain⟨K1,w1,a1,cs1,ms1,L1⟩:=hR.code y e h _ _ _ he K w a B k base cs ms hf hcs hs hok.2
   exact⟨K1,w1,a1,cs1,ms1,L1.of_steps (.one (by
    have:=stepR_cond (P:=P) (b:=B) (k:=k) (cs:=cs) (w:=w) (x:=x) (y:=y) hv.bm.1
    simpa using this))⟩
  ·cases he
 |block id x=>
  simp only[codeOk] at hok
  simp only[b7] at he
  cases hx:R.code x e h with
  |none=>rw[hx] at he;cases he
  |some q=>
   obtain⟨o1,e1,h1⟩:=q
   rw[hx] at he
   obtain⟨K1,w1,a1,cs1,ms1,L1⟩:=hR.code x e h _ _ _ hx K w a B (.inBlock id::k) base cs ms hf hcs hs hok
   have start:=Steps.one (stepR_block (P:=P) (b:=B) (a:=a) (k:=k) (cs:=cs) (w:=w) (id:=id) (c:=x))
   have fin:∀{o:Xt},Arr P K1 (lone (B.atR a (.code x::.inBlock id::k)) cs w) B k cs1 o a1 w1->Left P G w0 K ms B base (lone (B.atR a (.code (.block id x)::k)) cs w) k a.tmps.size o e1 h1 K1 w1 a1 cs1 ms1:=fun ha=>
    ⟨L1.le,L1.sim,L1.frame,L1.cs,L1.size,L1.marks,ha.of_steps start⟩
   cases o1 with
   |normal=>
    simp only[abA,abC] at he
    obtain⟨rfl,rfl,rfl⟩:=he
    exact⟨K1,w1,a1,cs1,ms1,fin (L1.arr.trans (.one stepR_inBlock))⟩
   |exit id'=>
    simp only at he
    obtain⟨t,h2,h3⟩:=L1.arr
    split at he
    ·rename_i hid
     subst hid
     simp only[abA,abC] at he
     obtain⟨rfl,rfl,rfl⟩:=he
     refine⟨K1,w1,a1,cs1,ms1,fin (h3.trans (.one (stepR_exit (h2.trans ?_))))⟩
     simp[exitTo]
    ·rename_i hid
     simp only[abA,abC] at he
     obtain⟨rfl,rfl,rfl⟩:=he
     refine⟨K1,w1,a1,cs1,ms1,fin ⟨t,h2.trans ?_,h3⟩⟩
     simp[exitTo,Ne.symm hid]
   |ret=>
    simp only[abA,abC] at he
    obtain⟨rfl,rfl,rfl⟩:=he
    obtain⟨t,h3⟩:=L1.arr
    exact⟨K1,w1,a1,cs1,ms1,fin ⟨t,h3⟩⟩
   |panic x=>
    simp only[abA,abC] at he
    obtain⟨rfl,rfl,rfl⟩:=he
    obtain⟨t,v,h2,h3⟩:=L1.arr
    exact⟨K1,w1,a1,cs1,ms1,fin ⟨t,v,h2,h3⟩⟩
 |loop x=>
  have hok':codeOk a.tmps.size x=true:=by simpa only[codeOk] using hok
  simp only[b7] at he
  cases hx:R.code x e h with
  |none=>rw[hx] at he;cases he
  |some q=>
   obtain⟨o1,e1,h1⟩:=q
   rw[hx] at he
   obtain⟨K1,w1,a1,cs1,ms1,L1⟩:=hR.code x e h _ _ _ hx K w a B (.inLoop x::k) base cs ms hf hcs hs hok'
   have start:=Steps.one (stepR_loop (P:=P) (b:=B) (a:=a) (k:=k) (cs:=cs) (w:=w) (c:=x))
   by_cases hnorm:o1=.normal
   ·subst hnorm
    simp only at he
    obtain⟨K2,w2,a2,cs2,ms2,L2⟩:=hR.code (.loop x) e1 h1 _ _ _ he K1 w1 a1 B k base cs1 ms1 L1.frame L1.cs L1.sim (by rw[L1.size];simpa only[codeOk] using hok')
    have harr:=Arr.swap (c:=.loop x) (m':=lone (B.atR a1 (.inLoop x::k)) cs1 w1) (fun _=>by simp) (by simp) rfl stepR_loop stepR_inLoop L2.arr
    refine⟨K2,w2,a2,cs2,ms2,L1.le.trans L2.le,L2.sim,L2.frame,L2.cs,L2.size.trans L1.size,fun r hr=>?_,(harr.of_steps L1.arr).of_steps start⟩
    rcases L2.marks r hr with hq|hq
    ·exact L1.marks r hq
    ·exact .inr fun hm=>hq (L1.le.md r hm)
   ·have he:some (o1,e1,h1)=some (out,e',h'):=by
     cases o1<;>first|exact absurd rfl hnorm|exact he
    simp only[abA,abC] at he
    obtain⟨rfl,rfl,rfl⟩:=he
    exact⟨K1,w1,a1,cs1,ms1,L1.le,L1.sim,L1.frame,L1.cs,L1.size,L1.marks,(L1.arr.pass rfl hnorm).of_steps start⟩
 |scope x=>
  simp only[codeOk] at hok
  simp only[b7] at he
  obtain⟨K1,w1,a1,cs1,ms1,L1⟩:=hR.code x e h _ _ _ he K w a B (.inScope x::k) base cs ms hf hcs hs hok
  have start:=Steps.one (Ad (P:=P) (b:=B) (a:=a) (k:=k) (cs:=cs) (w:=w) (c:=x))
  by_cases hnorm:out=.normal
  ·subst hnorm
   exact⟨K1,w1,a1,cs1,ms1,L1.le,L1.sim,L1.frame,L1.cs,L1.size,L1.marks,(show Arr P K1 _ B k cs1 .normal a1 w1 from L1.arr.trans (.one wh)).of_steps start⟩
  ·exact⟨K1,w1,a1,cs1,ms1,L1.le,L1.sim,L1.frame,L1.cs,L1.size,L1.marks,(L1.arr.Fu hnorm).of_steps start⟩
 |exit id=>
  simp only[b7,abA,abC] at he
  obtain⟨rfl,rfl,rfl⟩:=he
  exact⟨K,w,a,cs,ms,.refl hf hcs hs ⟨k,rfl,.refl P _⟩⟩
 |ret=>
  simp only[b7,abA,abC] at he
  obtain⟨rfl,rfl,rfl⟩:=he
  exact⟨K,w,a,cs,ms,.refl hf hcs hs ⟨k,.refl P _⟩⟩
 |rangeFunc f ps assign body=>
  simp only[codeOk,abr] at hok
  obtain⟨⟨hps,hoka⟩,hokb⟩:=hok
  have hps:=Aa hps
  simp only[b7] at he
  split at he
  ·rename_i g first cap hev
   have hvf:=ju hf.dY f
   rw[hev] at hvf
   have enter:∃(lg:Nat) (mark:List Deferred) (K1:aB) (w1:World) (ms1:List Nat),(Instr.enterLoop B.fn a.tmps ps assign body B.roundOf).run P w=.ok (lg,mark) w1/\K.Le K1/\
    jv P G w0 K1 {h with loops:=h.loops++[{tmps:=e.tmps,params:=ps,assign,body,state:=.ready,pending:=none}]} w1/\K1.γ[h.loops.length]?=some lg/\
    ev P K1 e {a with defers:=mark++a.defers} B ms1/\∀r∈ms1,r∈ms∨r∉K.md:=by
    have hokA:∀c,codeOk a.tmps.size c=true->Fk P B.fn a.tmps.size c=true:=fun c hc=>by
     unfold Fk;rw[hc,hf.fn];rfl
    have hround:=hf.round
    cases hro:e.round with
    |none=>
     rw[hro] at hround
     simp only at hround
     have hnot:w.heap.size∉K.md:=fun hq=>absurd (cV (hs.md _ hq).2) (Nat.lt_irrefl _)
     have s1:=hs.LG
     have le1:=K.Ea w.heap.size
     obtain⟨s2,hγ⟩:=s1.Eb (r:={tmps:=e.tmps,params:=ps,assign,body,state:=.ready,pending:=none}) (fn:=B.fn) w.heap.size (hf.dY.mono le1) (hokA _ hoka) (hokA _ hokb) hps
     have le2:=(K.mark w.heap.size).yq (w.alloc (.deferred (some []))).heap.size
     refine⟨_,_,_,_,w.heap.size::ms,by rw[hround];exact run_enterLoop_outer _ _ _ _ _,le1.trans le2,s2,?_,?_,?_⟩
     ·rw[hγ,World.size_alloc]
     ·have hf2:=hf.mono (le1.trans le2)
      refine⟨hf2.dY,?_,?_,hf.fn⟩
      ·refine .mark _ _ _ _ (by simp[aB.loop,aB.mark]) (fun hq=>hnot (hf.defers.sub _ hq)) hf2.defers
      ·rw[hro];exact hround
     ·intro r hr
      rcases acd.1 hr with rfl|hr
      ·exact .inr hnot
      ·exact .inl hr
    |some l=>
     rw[hro] at hround
     obtain⟨lg,hl,hb,hkind,hd,hm,hed⟩:=hround
     have hll:l<h.loops.length:=by rw[<-hs.mA];exact(abm.1 hl).1
     obtain⟨k1,fn,tmps,d,k2,-⟩:=hs.loop l lg _ hl (abo hll)
     obtain⟨s2,hγ⟩:=hs.Eb (r:={tmps:=e.tmps,params:=ps,assign,body,state:=.ready,pending:=none}) (fn:=B.fn) d hf.dY (hokA _ hoka) (hokA _ hokb) hps
     have le2:=K.yq w.heap.size
     refine⟨_,[],_,_,ms,?_,le2,s2,hγ,?_,fun r hr=>.inl hr⟩
     ·rw[hb]
      unfold Instr.enterLoop
      simp only[Sem.run_bind,run_getLoop k2,run_newObj_alloc,Result.andThen,Sem.run_pure]
     ·have hf2:=hf.mono le2
      exact⟨hf2.dY,hf2.defers,by rw[hro];exact⟨lg,le2.γ _ _ hl,hb,hkind,hd,hm,hed⟩,hf.fn⟩
   obtain⟨lg,mark,K1,w1,ms1,hent,le1,s1,hγ,f1,hms1⟩:=enter
   generalize hqv:a.eval f=qv at hvf
   cases hvf with
   |func _ _ _ fs cs' g1 g2=>
    cases hcall:R.call g (first++[.yield h.loops.length]++cap) {h with loops:=h.loops++[{tmps:=e.tmps,params:=ps,assign,body,state:=.ready,pending:=none}]} with
    |none=>rw[hcall] at he;cases he
    |some q=>
     obtain⟨r,h2⟩:=q
     rw[hcall] at he
     obtain⟨⟨fnn,hfn,hbody⟩,hc⟩:=hR.call _ _ _ _ _ hcall
     have hvs:ao K1 (first++[.yield h.loops.length]++cap) (fs++#[Value.func (.yield lg) #[] #[]]++cs').toList:=by
      simp only[Array.toList_append]
      exact((g1.mono le1).append (.cons _ _ _ _ (.yield _ _ hγ) .nil)).append (g2.mono le1)
     obtain⟨K2,w2,fr,le2,s2,hst,-,hl⟩:=hc K1 w1 _ hvs s1 (B.atR {a with defers:=mark++a.defers} (.inRangeFunc lg::k)::cs)
     have hstart:=stepR_rangeFunc (P:=P) (b:=B) (a:=a) (k:=k) (cs:=cs) (w:=w) (g:=f) (ps:=ps) (assign:=assign) (body:=body) (l:=lg) (mark:=mark) (w₁:=w1) (w₁':=w1) (w₂:=w1) (d:={target:=.fn (.func g) cs',args:=fs++#[Value.func (.yield lg) #[] #[]]}) (f:=g) (args:=fs++#[Value.func (.yield lg) #[] #[]]++cs') hent
      (by
       have hcst:∀v,a.eval (.const v)=v:=fun _=>rfl
       simp[resolve,rangeCall,hqv,Deferred.ofValue,hcst]) (by simp only[invoke];exact nm hn hfn hbody _ _)
     have start:=Steps.head hstart hst
     have f2:=f1.mono le2
     have c2:CS K2 B.kind base e.pan cs:=hcs.mono (le1.trans le2)
     cases r with
     |panic x=>
      simp only[abA,abC] at he
      obtain⟨rfl,rfl,rfl⟩:=he
      obtain⟨v,hx,hl⟩:=hl
      refine⟨K2,w2,_,cs,ms1,le1.trans le2,s2,f2,c2,rfl,hms1,.inRangeFunc lg::k,v,hx,start.trans (.one ?_)⟩
      rw[step_leave_panicked hl,Frame.raise_atR]
     |ret x=>
      obtain⟨v,hx,hl⟩:=hl
      have back:=start.trans (.one (step_leave_returned hl))
      rw[finish_atR_inRangeFunc] at back
      simp only at he
      split at he
      ·rename_i r hr
       split at he
       ·cases he
       ·rename_i hbusy
        obtain⟨mm,m1,m2,m3,-,-,-,-,-,-,-,s3⟩:=s2.bh (le2.γ _ _ hγ) hr .exhausted r.pending
        have hend:=run_endLoop (P:=P) m1 (by rw[m2];exact hbusy)
        have heq:({mm with state:=.exhausted,pending:=r.pending}:Loop)={mm with state:=.exhausted}:=by rw[<-m3]
        rw[heq] at s3
        have hend2:(Instr.endLoop lg).run P w2=.ok r.pending (w2.putObj lg (.loop {mm with state:=.exhausted})):=by rw[<-m3];exact hend
        have back2:=back.trans (.one (stepR_endRangeFunc hend2))
        cases hp:r.pending with
        |none=>
         rw[hp] at he back2 s3
         simp only[abA,abC] at he
         obtain⟨rfl,rfl,rfl⟩:=he
         exact⟨K2,_,_,cs,ms1,le1.trans le2,s3,f2,c2,rfl,hms1,back2⟩
        |some code=>
         rw[hp] at he back2 s3
         cases code with
         |ret=>
          simp only[abA,abC] at he
          obtain⟨rfl,rfl,rfl⟩:=he
          exact⟨K2,_,_,cs,ms1,le1.trans le2,s3,f2,c2,rfl,hms1,k,back2⟩
         |exit id=>
          simp only[abA,abC] at he
          obtain⟨rfl,rfl,rfl⟩:=he
          exact⟨K2,_,_,cs,ms1,le1.trans le2,s3,f2,c2,rfl,hms1,k,rfl,back2⟩
         |_=>cases he
      ·cases he
  ·cases he
 |_=>simp[b7] at he
end
section
variable {P:Program} {G:Nat->Option (List AV)} {w0:World} {R:Rec}
def Ec(tmps:Array Value):ResultVar->Sem Value
 | .tmp t=>pure (tmps.getD t undef)
 | .cell a t=>do loadVar t (<-asAddr (tmps.getD a undef))
theorem uO{K:aB}{e:Env}{h:ae}{w:World}(s:jv P G w0 K h w){tmps:Array Value}(hs:dg K e.tmps tmps):∀{rs:List ResultVar} {l:List AV},dJ P G e h rs=some l->
 ∃vs:List Value,ao K l vs/\(rs.mapM (Ec tmps)).run P w=.ok vs w:=by
 intro rs
 induction rs with
 |nil=>intro l hl;simp only[dJ,abA] at hl;subst hl;exact⟨[],.nil,by simp⟩
 |cons r rs ih=>
  intro l hl
  cases r with
  |tmp t=>
   simp only[dJ,abv] at hl
   obtain⟨l',hl',rfl⟩:=hl
   obtain⟨vs,h1,h2⟩:=ih hl'
   exact⟨_::vs,.cons _ _ _ _ (hs t) h1,by simp[afZ,h2,Ec]⟩
  |cell a t=>
   simp only[dJ] at hl
   split at hl
   ·rename_i x l' hx hl'
    injection hl with hl;subst hl
    obtain⟨vs,h1,h2⟩:=ih hl'
    obtain⟨g,p,v,hp,hload,hv⟩:=zQ s hx (hs a)
    refine⟨v::vs,.cons _ _ _ _ hv h1,?_⟩
    rw[afZ]
    simp only[Ec,hp,asAddr,Sem.run_bind,Sem.run_pure,Result.andThen_ok,hload,h2]
   ·cases hl
theorem Ae{K:aB}{fn:Func}{e:Env}{h:ae}{w:World}(s:jv P G w0 K h w){tmps:Array Value}(hs:dg K e.tmps tmps){x:AV}(he:mz P G fn e h=some x):
 ∃v,aI K x v/\(results fn tmps).run P w=.ok v w:=by
 unfold mz at he
 have key:∀l,dJ P G e h fn.results.toList=some l->∃vs:List Value,ao K l vs/\(results fn tmps).run P w=.ok (if hh:vs.toArray.size=1 then vs.toArray[0] else .tuple vs.toArray) w:=by
  intro l hl
  obtain⟨vs,h1,h2⟩:=uO s hs hl
  refine⟨vs,h1,?_⟩
  have hres:results fn tmps=(do let vs <-fn.results.mapM (Ec tmps);pure (if h:vs.size=1 then vs[0] else .tuple vs)):=by
   unfold results
   congr 2
  rw[hres,Array.mapM_eq_mapM_toList]
  simp only[Sem.run_bind,Sem.run_map,h2,Result.andThen_ok,Sem.run_pure]
 split at he
 ·rename_i x' hl
  injection he with he;subst he
  obtain⟨vs,h1,h2⟩:=key _ hl
  cases h1 with
  |cons _ c _ cs h3 h4=>cases h4;exact⟨c,h3,h2⟩
 ·rename_i l hne hl
  injection he with he;subst he
  obtain⟨vs,h1,h2⟩:=key _ hl
  refine⟨.tuple vs.toArray,.tuple _ _ (by simpa using h1),?_⟩
  rw[h2]
  have hlen:vs.length≠1:=by
   rw[<-h1.length]
   intro hq
   obtain⟨y,rfl⟩:=List.length_eq_one_iff.1 hq
   exact hne y rfl
  simp[hlen]
 ·cases he
def fP(K:aB):Option (AV × Bool)->FrameMode->Prop
 |none,u=>u=.returning
 |some (x,r),u=>r=false/\∃v,aI K x v/\u=.panicking [{v,recovered:=false}]
theorem fP.run{K:aB}{m u}(h:fP K m u):u≠ .run:=by
 cases m with
 |none=>simp only[fP] at h;rw[h];simp
 |some p=>obtain⟨x,r⟩:=p;obtain⟨_,v,_,h⟩:=h;rw[h];simp
theorem fP.un{K:aB}{r:Nat}{m u}(h:fP K m u):fP (K.un r) m u:=by
 cases m with
 |none=>exact h
 |some p=>obtain⟨x,r⟩:=p;obtain⟨h1,v,h2,h⟩:=h;exact⟨h1,v,aI.un h2,h⟩
theorem fP.mono{K K':aB}(le:K.Le K'){m u}(h:fP K m u):fP K' m u:=by
 cases m with
 |none=>exact h
 |some p=>obtain⟨x,r⟩:=p;obtain⟨h1,v,h2,h⟩:=h;exact⟨h1,v,h2.mono le,h⟩
theorem dg.un{K:aB}{r:Nat}{s tmps}(h:dg K s tmps):dg (K.un r) s tmps:=fun t=>aI.un (h t)
theorem Fv{fr:Frame}{cs:List Frame}{w:World}{r:Nat}{args:Array Value}{ds:List Deferred}(hm:fr.mode≠ .run)(hd:fr.defers={target:=.collected r,args}::ds)(hr:w.heap[r]?=some (.deferred (some []))):
 step P (lone fr cs w)=.next (lone {fr with defers:=ds} cs (w.putObj r (.deferred none))):=by
 refine step_lone_go ?_
 have ht:=run_takeDeferred (P:=P) hr
 cases hmode:fr.mode with
 |run=>exact absurd hmode hm
 |returning=>simp[stepG,unwind,hmode,hd,Sem.runT_eq,ht]
 |panicking chain=>simp[stepG,unwind,hmode,hd,Sem.runT_eq,ht]
def settled:Option (AV × Bool)->Option (AV × Bool)
 |some (_,true)=>none
 |q=>q
def Ib(P:Program)(K:aB)(fn:Func)(fr:Frame)(w:World):Res->Prop
 | .ret x=>fr.mode=.returning/\∃v,aI K x v/\(results fn fr.tmps).run P w=.ok v w
 | .panic x=>∃v,aI K x v/\fr.mode=.panicking [{v,recovered:=false}]
theorem Cx(hR:mi P G w0 R)(hn:iZ P){g:FuncId}{fn:Func}(hfn:P.funcs[g]?=some fn){K0:aB}{e:Env}:∀(cds:List Deferred) (ds:List (FuncId × List AV)) (ms:List Nat) (m:Option (AV × Bool)) (h:ae) (res:Res) (h':ae),
 bD P G R fn e ds m h=some (res,h')->∀(K:aB) (w:World) (fr:Frame) (cs:List Frame),fr.fn=g->fr.defers=cds->gT K ds cds ms->dg K e.tmps fr.tmps->fP K m fr.mode->jv P G w0 K h w->K0.Le K->
 (∀r∈ms,r∉K0.md)->
 ∃K' w' fr',K0.Le K'/\jv P G w0 K' h' w'/\Steps P (lone fr cs w) (lone fr' cs w')/\fr'.kind=fr.kind/\fr'.defers=[]/\fr'.fn=g/\Ib P K' fn fr' w' res/\(∀kind base p cs,CS K kind base p cs->CS K' kind base p cs):=by
 intro cds
 induction cds with
 |nil=>
  intro ds ms m h res h' he K w fr cs hg hd hdr hsl hmode hs hle hms
  generalize hq:([]:List Deferred)=q at hdr
  cases hdr with
  |call=>cases hq
  |mark=>cases hq
  |nil=>
   cases m with
   |none=>
    simp only[bD,abv,abC] at he
    obtain⟨x,hx,rfl,rfl⟩:=he
    obtain⟨v,h1,h2⟩:=Ae hs hsl hx
    exact⟨K,w,fr,hle,hs,.refl P _,rfl,hd,hg,⟨hmode,v,h1,h2⟩,fun _ _ _ _ h=>h⟩
   |some p=>
    obtain⟨x,r⟩:=p
    simp only[bD,abA,abC] at he
    obtain⟨rfl,rfl⟩:=he
    obtain⟨-,v,h1,h2⟩:=hmode
    exact⟨K,w,fr,hle,hs,.refl P _,rfl,hd,hg,⟨v,h1,h2⟩,fun _ _ _ _ h=>h⟩
 |cons d cds ih=>
  intro ds ms m h res h' he K w fr cs hg hd hdr hsl hmode hs hle hms
  generalize hq:d::cds=q at hdr
  cases hdr with
  |nil=>cases hq
  |mark r ds' cds' ms' hr hnr hrest=>
   injection hq with hq1 hq2
   subst hq1;subst hq2
   have hmd:=hs.md r hr
   have hstep:=Fv (P:=P) (cs:=cs) hmode.run hd hmd.2
   have hr0:r∉K0.md:=hms r abM
   obtain⟨K',w',fr',g1,g2,g3,g4,g5,g6,g7,g8⟩:=ih _ ms' m h res h' he (K.un r) _ {fr with defers:=cds} cs hg rfl (hrest.un hnr) hsl.un hmode.un (hs.drop hr (.deferred none) (by intro _ _ _ hq;cases hq)) (Qh hle hr0) (fun r' hr'=>hms r' (abH _ hr'))
   exact⟨K',w',fr',g1,g2,.head hstep g3,g4,g5,g6,g7,fun _ _ _ _ hc=>g8 _ _ _ _ hc.un⟩
  |call f args vs cap ds' cds' _ hv hrest=>
   injection hq with hq1 hq2
   subst hq1;subst hq2
   simp only[bD] at he
   cases hcall:R.fg f args m h with
   |none=>rw[hcall] at he;cases he
   |some q=>
    obtain⟨rr,m1,h1⟩:=q
    rw[hcall] at he
    cases rr with
    |panic x=>simp at he
    |ret x=>
     obtain⟨⟨fnn,hfnn,hbody⟩,hc⟩:=hR.fg _ _ _ _ _ _ _ hcall
     have hinv:(invoke (.fn (.func f) cap) vs).run P w=.ok (.enter f (vs++cap)) w:=by
      simp only[invoke];exact nm hn hfnn hbody _ _
     have hstep:=step_defer (P:=P) (cs:=cs) (d:={target:=.fn (.func f) cap,args:=vs}) hmode.run hd rfl hinv
     have hcs:CS K .deferred ({fr with defers:=cds,mode:=.returning}::cs) m ({fr with defers:=cds}::cs):=by
      cases m with
      |none=>
       have:({fr with defers:=cds}:Frame)={fr with defers:=cds,mode:=.returning}:=by rw[<-show fr.mode=.returning from hmode]
       rw[this]
       exact .ret _ _ rfl rfl rfl
      |some p=>
       obtain⟨y,r⟩:=p
       obtain⟨rfl,v,hv1,hv2⟩:=hmode
       have:({fr with defers:=cds}:Frame)={({fr with defers:=cds,mode:=.returning}:Frame) with mode:=.panicking [{v,recovered:=false}]}:=by rw[<-hv2]
       rw[this]
       exact .pan _ _ y v false rfl rfl hv1
     obtain⟨K1,w1,fr1,cs1,v1,le1,s1,c1,hst,hk1,hgo⟩:=hc K w (vs++cap) _ _ hv hcs hs
     have hm1:∃u,cs1={fr with defers:=cds,mode:=u}::cs/\fP K1 (settled m1) (settle u):=by
      generalize hbase:({fr with defers:=cds,mode:=.returning}:Frame)::cs=base at c1
      cases c1 with
      |normal hh=>cases hh
      |ret c0 rest _ hb hm=>
       refine⟨.returning,hbase.symm,?_⟩
       simp[fP,settle,settled]
      |pan c0 rest y v r _ hb hx=>
       rw[hb] at hbase
       injection hbase with hb1 hb2
       subst hb1;subst hb2
       refine⟨.panicking [{v,recovered:=r}],rfl,?_⟩
       cases r with
       |true=>simp[fP,settle,settled]
       |false=>exact⟨rfl,v,hx,rfl⟩
     obtain⟨u,rfl,hm1⟩:=hm1
     have hback:=step_going_returned (c:={fr with defers:=cds,mode:=u}) (cs:=cs) hk1 hgo
     have he':bD P G R fn e ds' (settled m1) h1=some (res,h'):=by
      rcases m1 with _|⟨y,r⟩
      ·exact he
      ·cases r<;>exact he
     obtain⟨K',w',fr',g1,g2,g3,g4,g5,g6,g7,g8⟩:=ih _ ms _ h1 res h' he' K1 w1 {fr with defers:=cds,mode:=settle u} cs hg rfl (hrest.mono le1) (hsl.mono le1) hm1 s1 (hle.trans le1) hms
     exact⟨K',w',fr',g1,g2,.head hstep (hst.trans (.head hback g3)),g4,g5,g6,g7,fun _ _ _ _ hq=>g8 _ _ _ _ (hq.mono le1)⟩
theorem Af{n n':Nat}(h:n<=n'):∀{c:Code},codeOk n c=true->codeOk n' c=true:=by
 intro c
 induction c with
 |region id ops draw=>
  simp only[codeOk,wT,ad9]
  intro hq i hi
  have:=hq i hi
  revert this
  cases ops[i].dst with
  |none=>intro _;rfl
  |some d=>simp only[decide_eq_true_eq];intro hd;exact ab8 hd h
 |seq a b iha ihb=>simp only[codeOk,abr];exact fun hq=>⟨iha hq.1,ihb hq.2⟩
 |cond q a b iha ihb=>simp only[codeOk,abr];exact fun hq=>⟨iha hq.1,ihb hq.2⟩
 |block id c ih=>simp only[codeOk];exact ih
 |loop c ih=>simp only[codeOk];exact ih
 |scope c ih=>simp only[codeOk];exact ih
 |rangeFunc f ps a b iha ihb=>
  simp only[codeOk,abr,ad9,decide_eq_true_eq]
  exact fun hq=>⟨⟨fun i hi=>ab8 (hq.1.1 i hi) h,iha hq.1.2⟩,ihb hq.2⟩
 |_=>intro hq;exact hq
structure Prog(P:Program):Prop where
 names:iZ P
 mixed:P.follows .mixedOrders=true
 code:∀(g:FuncId) (fn:Func) (c:Code),P.funcs[g]?=some fn->fn.body=some c->codeOk fn.ntmps c=true
theorem Ag{K:aB}{args:List AV}{vargs:Array Value}(hv:ao K args vargs.toList)(n:Nat):dg K {ch:=[],base:=args} (vargs++ad8 n undef):=by
 intro t
 simp only[iU.get,look]
 have hlen:=hv.length
 rcases abL t args.length with hlt|hge
 ·obtain⟨c,h1,h2⟩:=hv.get (abo hlt)
  have hb:args.getD t (.tuple [])=args[t]:=by simp[hlt]
  rw[hb]
  have hc:(vargs++ad8 n undef).getD t undef=c:=by
   have hlt':t<vargs.size:=by simpa [hlen] using hlt
   rw[aeF,Array.getElem?_append_left hlt',<-adq,h1];rfl
  rw[hc];exact h2
 ·have hb:args.getD t (.tuple [])=.tuple []:=by simp[List.getElem?_eq_none hge]
  rw[hb]
  have hc:(vargs++ad8 n undef).getD t undef=undef:=by
   have hge':vargs.size<=t:=by simpa [hlen] using hge
   rw[aeF,Array.getElem?_append_right hge',afL]
   split<;>rfl
  rw[hc]
  exact .tuple [] #[] .nil
theorem Ah(hp:Prog P)(hR:mi P G w0 R){g:FuncId}{args:List AV}{m m':Option (AV × Bool)}{h h':ae}{res:Res}(he:iB P G R g args m h=some (res,m',h')):
 (∃fn,P.funcs[g]?=some fn/\fn.body.isSome=true)/\∀(K:aB) (w:World) (vargs:Array Value) (kind:CallKind) (base cs:List Frame),ao K args vargs.toList->CS K kind base m cs->jv P G w0 K h w->
 ∃K' w' fr cs' fn,P.funcs[g]?=some fn/\K.Le K'/\jv P G w0 K' h' w'/\CS K' kind base m' cs'/\Steps P (lone (Frame.enter P g vargs kind) cs w) (lone fr cs' w')/\fr.kind=kind/\fr.defers=[]/\fr.fn=g/\Ib P K' fn fr w' res:=by
 unfold iB at he
 split at he
 ·cases he
 ·rename_i fn hfn
  split at he
  ·cases he
  ·rename_i body hbody
   refine⟨⟨fn,hfn,by rw[hbody];rfl⟩,fun K w vargs kind base cs hv hcs hs=>?_⟩
   let b:Frame:={(default:Frame) with fn:=g,kind:=kind}
   let a:Act:={tmps:=vargs++ad8 (fn.ntmps - vargs.size) undef,defers:=[]}
   have hb:b.roundOf=none:=rfl
   have henter:Frame.enter P g vargs kind=b.atR a [.code body]:=by
    unfold Frame.enter Frame.atR
    simp only[hfn,hbody,b,a,abJ,aee,acu]
    rfl
   have hf0:ev P K {tmps:={ch:=[],base:=args},defers:=[],pan:=m,round:=none} a b []:=
    ⟨Ag hv _,.nil,rfl,by show(P.funcs[g]?).isSome=true;rw[hfn];rfl⟩
   have hok:codeOk a.tmps.size body=true:=Af (by simp[a];omega) (hp.code g fn body hfn hbody)
   have finish:∀(out:Xt) (e:Env) (h1:ae) (m0:Option (AV × Bool)),R.code body {tmps:={ch:=[],base:=args},defers:=[],pan:=m,round:=none} h=some (out,e,h1)->
    (out=.normal/\m0=none∨out=.ret/\m0=none∨∃x,out=.panic x/\m0=some (x,false))->(bD P G R fn e e.defers m0 h1).map (fun(r,h)=>(r,e.pan,h))=some (res,m',h')->
    ∃K' w' fr cs' fn,P.funcs[g]?=some fn/\K.Le K'/\jv P G w0 K' h' w'/\CS K' kind base m' cs'/\Steps P (lone (Frame.enter P g vargs kind) cs w) (lone fr cs' w')/\fr.kind=kind/\fr.defers=[]/\fr.fn=g/\Ib P K' fn fr w' res:=by
    intro out e h1 m0 hcode hout hun
    obtain⟨K1,w1,a1,cs1,ms1,L⟩:=hR.code _ _ _ _ _ _ hcode K w a b [] base cs [] hf0 hcs hs hok
    simp only[abv,abC] at hun
    obtain⟨⟨r,hh⟩,hun,rfl,rfl,rfl⟩:=hun
    have harr:∃(todo:List Item) (u:FrameMode),fP K1 m0 u/\Steps P (lone (Frame.enter P g vargs kind) cs w) (lone {b.atR a1 todo with mode:=u} cs1 w1):=by
     rw[henter]
     rcases hout with⟨rfl,rfl⟩|⟨rfl,rfl⟩|⟨x,rfl,rfl⟩
     ·exact⟨[],.returning,rfl,Steps.trans L.arr (.one (stepR_end hb))⟩
     ·obtain⟨todo,hst⟩:=L.arr
      exact⟨_,.returning,rfl,Steps.trans hst (.one (stepR_ret hb))⟩
     ·obtain⟨todo,v,hx,hst⟩:=L.arr
      exact⟨todo,_,⟨rfl,v,hx,rfl⟩,hst⟩
    obtain⟨todo,u,hmode,hst⟩:=harr
    obtain⟨K2,w2,fr,g1,g2,g3,g4,g5,g6,g7,g8⟩:=Cx hR hp.names hfn a1.defers e.defers ms1 m0 h1 r hh hun K1 w1 {b.atR a1 todo with mode:=u} cs1 rfl rfl L.frame.defers L.frame.dY hmode L.sim L.le
     (fun r hr=>(L.marks r hr).resolve_left (by simp))
    exact⟨K2,w2,fr,cs1,fn,hfn,g1,g2,g8 _ _ _ _ L.cs,hst.trans g3,g4,g5,g6,g7⟩
   split at he
   ·rename_i e1 h1 hc;exact finish _ _ _ _ hc (.inl ⟨rfl,rfl⟩) he
   ·rename_i e1 h1 hc;exact finish _ _ _ _ hc (.inr (.inl ⟨rfl,rfl⟩)) he
   ·rename_i x e1 h1 hc;exact finish _ _ _ _ hc (.inr (.inr ⟨x,rfl,rfl⟩)) he
   ·cases he
theorem Ib.Qj{K:aB}{fn:Func}{fr:Frame}{w:World}{res:Res}(hg:Ib P K fn fr w res)(hf:P.funcs[fr.fn]?=some fn)(hk:fr.kind=.normal)(hd:fr.defers=[]):Np P K fr w res:=by
 cases res with
 |ret x=>obtain⟨h1,v,h2,h3⟩:=hg;exact⟨v,h2,h1,hd,hk,fn,hf,h3⟩
 |panic x=>obtain⟨v,h2,h3⟩:=hg;exact⟨v,h2,h3,hd,fn,hf⟩
def jb(P:Program)(G:Nat->Option (List AV))(w0:World)(g:FuncId)(p:List AV->ae->Option (AV × ae)):Prop:=
 (∃fn,P.funcs[g]?=some fn/\fn.body.isSome=true)/\
 ∀args h x h',p args h=some (x,h')->∀(K:aB) (w:World) (vargs:Array Value),ao K args vargs.toList->jv P G w0 K h w->
  Calls P g vargs w fun e w'=>∃v K',e=.returned v/\K.Le K'/\aI K' x v/\jv P G w0 K' h' w'
theorem Ic(hp:Prog P){prims:FuncId->Option (List AV->ae->Option (AV × ae))}(hprim:∀g p,prims g=some p->jb P G w0 g p)(hR:mi P G w0 R):D8 P G w0 (gQ P G R prims):=by
 intro g args h r h' he
 unfold gQ at he
 split at he
 ·rename_i p hpp
  simp only[abv,abC] at he
  obtain⟨⟨x,hh⟩,hx,rfl,rfl⟩:=he
  obtain⟨hfn,hcalls⟩:=hprim g p hpp
  refine⟨hfn,fun K w vargs hv hs cs=>?_⟩
  obtain⟨e,w',fr,⟨v,K',rfl,le,hx',s'⟩,hc,hfr,hl⟩:=hcalls args h x hh hx K w vargs hv hs cs
  exact⟨K',w',fr,le,s',hc,hfr,v,hx',hl⟩
 ·simp only[abv,abC] at he
  obtain⟨⟨r',m',hh⟩,hx,rfl,rfl⟩:=he
  obtain⟨hfn,hb⟩:=Ah hp hR hx
  refine⟨hfn,fun K w vargs hv hs cs=>?_⟩
  obtain⟨K',w',fr,cs',fn,hf,le,s',c',hst,hk,hd,hg,hgone⟩:=hb K w vargs .normal cs cs hv (.normal rfl) hs
  have:cs'=cs:=by
   generalize hq:CallKind.normal=q at c'
   cases c' with
   |normal=>rfl
   |ret c0 rest h1=>exact absurd (hq.trans h1) (by simp)
   |pan c0 rest x v r h1=>exact absurd (hq.trans h1) (by simp)
  subst this
  exact⟨K',w',fr,le,s',hst,hg,hgone.Qj (by rw[hg];exact hf) hk hd⟩
theorem Fw(hp:Prog P)(hR:mi P G w0 R):zX P G w0 (iB P G R):=by
 intro g args m h x m' h' he
 obtain⟨hfn,hb⟩:=Ah hp hR he
 refine⟨hfn,fun K w vargs base cs hv hcs hs=>?_⟩
 obtain⟨K',w',fr,cs',fn,hf,le,s',c',hst,hk,hd,hg,hgone⟩:=hb K w vargs .deferred base cs hv hcs hs
 obtain⟨h1,v,h2,h3⟩:=hgone
 exact⟨K',w',fr,cs',v,le,s',c',hst,hk,h1,hd,fn,by rw[hg];exact hf,h3⟩
theorem wj{K:aB}:∀{ps:List Tmp} {args:List AV} {vargs:List Value} {s:iU} {tmps:Array Value},ao K args vargs->dg K s tmps->(∀p∈ps,p<tmps.size)->
 dg K (j9 ps args s) ((ps.zip vargs).foldl (fun ts p=>ts.setIfInBounds p.1 p.2) tmps)/\((ps.zip vargs).foldl (fun ts p=>ts.setIfInBounds p.1 p.2) tmps).size=tmps.size:=by
 intro ps
 induction ps with
 |nil=>intro args vargs s tmps hv hs hp;exact⟨hs,rfl⟩
 |cons p ps ih=>
  intro args vargs s tmps hv hs hp
  cases hv with
  |nil=>exact⟨hs,rfl⟩
  |cons x c xs cs hx hxs=>
   have h1:=dg.set hs (hp p abM) hx
   obtain⟨i1,i2⟩:=ih (s:=s.set p x) (tmps:=tmps.setIfInBounds p c) hxs h1 (fun q hq=>by simpa using hp q (abH _ hq))
   refine⟨?_,?_⟩
   ·simpa [j9] using i1
   ·simpa using i2
theorem Fx(hR:mi P G w0 R):zY P G w0 (iC R):=by
 intro l args h r h' he K w vargs lg hγ hv hs caller cs
 unfold iC at he
 split at he
 ·cases he
 ·rename_i rec hrec
  split at he
  ·rename_i hsize
   obtain⟨mm,m1,m2,m3,m4,m5,m6,m7,m8,m9,m10,-⟩:=hs.bh hγ hrec rec.state rec.pending
   have hargs:vargs.size=mm.params.size:=by
    rw[m4,hsize,hv.length];simp
   have hy:=run_yield (P:=P) m1 hargs
   split at he
   ·rename_i e1 h1 hassign
    split at he
    ·rename_i r1 hr1
     split at he
     ·rename_i hready
      obtain⟨sp1,sp2⟩:=wj (ps:=rec.params.toList) hv m7 m10
      have hfold:(mm.params.zip vargs).foldl (fun tmps (x:Tmp × Value)=>tmps.setIfInBounds x.1 x.2) mm.tmps=(rec.params.toList.zip vargs.toList).foldl (fun ts p=>ts.setIfInBounds p.1 p.2) mm.tmps:=by
       rw[<-Array.foldl_toList,Array.toList_zip,m4]
      let b:Frame:={(default:Frame) with fn:=mm.fn,kind:=.normal,roundOf:=some lg}
      let a:Act:={tmps:=(rec.params.toList.zip vargs.toList).foldl (fun ts p=>ts.setIfInBounds p.1 p.2) mm.tmps,defers:=[]}
      have hfnok:(P.funcs[mm.fn]?).isSome=true:=by
       have:=m8
       unfold Fk at this
       rw[abr] at this
       exact this.2
      have hf0:ev P K {tmps:=j9 rec.params.toList args rec.tmps,defers:=[],pan:=none,round:=some l} a b []:=
       ⟨sp1,.nil,⟨lg,hγ,rfl,rfl,rfl,rfl,rfl⟩,hfnok⟩
      have hok1:codeOk a.tmps.size rec.assign=true:=by
       have:=m8;unfold Fk at this;rw[abr] at this
       show codeOk (agZ _) _=true
       rw[sp2];exact this.1
      have hok2:codeOk a.tmps.size rec.body=true:=by
       have:=m9;unfold Fk at this;rw[abr] at this
       show codeOk (agZ _) _=true
       rw[sp2];exact this.1
      have hstart:Frame.round lg mm.fn ((mm.params.zip vargs).foldl (fun tmps (x:Tmp × Value)=>tmps.setIfInBounds x.1 x.2) mm.tmps) mm.assign mm.body .normal=b.atR a [.code rec.assign,.beginRound,.code rec.body]:=by
       simp only[Frame.round,Frame.atR,b,a,hfold,m5,m6]
      have nocs:∀{K:aB} {p:Option (AV × Bool)} {base cs':List Frame},CS K .normal base p cs'->cs'=base:=by
       intro K p base cs' c
       generalize hq:CallKind.normal=q at c
       cases c with
       |normal=>rfl
       |ret c0 rest h1=>exact absurd (hq.trans h1) (by simp)
       |pan c0 rest x v r h1=>exact absurd (hq.trans h1) (by simp)
      obtain⟨K1,w1,a1,cs1,ms1,L1⟩:=hR.code _ _ _ _ _ _ hassign K w a b [.beginRound,.code rec.body] (caller::cs) (caller::cs) [] hf0 (.normal rfl) hs hok1
      have hcs1:=nocs L1.cs
      subst hcs1
      obtain⟨nn,n1,n2,n3,n4,n5,n6,n7,n8,n9,n10,sbusy⟩:=L1.sim.bh (L1.le.γ _ _ hγ) hr1 .busy r1.pending
      have hbegin:=run_beginRound (P:=P) n1 (n2.trans hready)
      have heqb:({nn with state:=.busy,pending:=r1.pending}:Loop)={nn with state:=.busy}:=by rw[<-n3]
      rw[heqb] at sbusy
      have hmid:Steps P (lone (Frame.round lg mm.fn ((mm.params.zip vargs).foldl (fun tmps (x:Tmp × Value)=>tmps.setIfInBounds x.1 x.2) mm.tmps) mm.assign mm.body .normal) (caller::cs) w)
       (lone (b.atR a1 [.code rec.body]) (caller::cs) (w1.putObj lg (.loop {nn with state:=.busy}))):=by
       rw[hstart]
       exact Steps.trans L1.arr (.one (stepR_beginRound rfl hbegin))
      have hmdd:∀r∈ms1,r∉K.md:=fun r hr=>(L1.marks r hr).resolve_left (by simp)
      have body:∀(out:Xt) (e2:Env) (h2:ae),R.code rec.body e1 {h1 with loops:=h1.loops.set l {r1 with state:=.busy}}=some (out,e2,h2)->
       ∃K2 w2 a2 ms2,K.Le K2/\jv P G w0 K2 h2 w2/\ev P K2 e2 a2 b ms2/\Arr P K2 (lone (b.atR a1 [.code rec.body]) (caller::cs) (w1.putObj lg (.loop {nn with state:=.busy}))) b [] (caller::cs) out a2 w2:=by
       intro out e2 h2 hcode
       obtain⟨K2,w2,a2,cs2,ms2,L2⟩:=hR.code _ _ _ _ _ _ hcode K1 _ a1 b [] (caller::cs) (caller::cs) ms1 L1.frame L1.cs sbusy (by rw[L1.size];exact hok2)
       have hcs2:=nocs L2.cs
       subst hcs2
       exact⟨K2,w2,a2,ms2,L1.le.trans L2.le,L2.sim,L2.frame,L2.arr⟩
      have ending:∀(h2:ae) (out:Res) (hh:ae) (st:LoopState) (pe:Option Code) (bb:Bool) (K2:aB) (w2:World),K.Le K2->jv P G w0 K2 h2 w2->pe.isNone=bb->(if pe.isNone then LoopState.ready else .done)=st->
       ((h2.loops[l]?).map fun r=>(Res.ret (.v (.bool bb)),{h2 with loops:=h2.loops.set l {r with state:=st,pending:=pe}}))=some (out,hh)->
       ∃v w3,(Instr.endRound lg pe).run P w2=.ok (.bool bb) w3/\jv P G w0 K2 hh w3/\out=.ret (.v (.bool bb))/\aI K2 (.v (.bool bb)) v/\v=.bool bb:=by
       intro h2 out hh st pe bb K2 w2 le2 s2 hbb hst hmap
       simp only[abv,abC] at hmap
       obtain⟨r2,hr2,rfl,rfl⟩:=hmap
       obtain⟨qq,q1,q2,q3,-,-,-,-,-,-,-,send⟩:=s2.bh (le2.γ _ _ hγ) hr2 st pe
       have hend:=run_endRound (P:=P) pe q1
       rw[hst,hbb] at hend
       exact⟨_,_,hend,send,rfl,.v _ rfl,rfl⟩
      have hnil:∀{K2:aB} {e2:Env} {a2:Act} {ms2:List Nat},ev P K2 e2 a2 b ms2->e2.round=some l->a2.defers=[]:=by
       intro K2 e2 a2 ms2 hf hr
       have:=hf.round
       rw[hr] at this
       obtain⟨_,_,_,_,h1,_⟩:=this
       exact h1
      refine⟨mm.fn,(mm.params.zip vargs).foldl (fun tmps (x:Tmp × Value)=>tmps.setIfInBounds x.1 x.2) mm.tmps,mm.assign,mm.body,?_⟩
      split at he
      ·rename_i e2 h2 hbody
       obtain⟨K2,w2,a2,ms2,le2,s2,f2,harr⟩:=body _ _ _ hbody
       obtain⟨v,w3,hend,s3,rfl,hvr,rfl⟩:=ending h2 r h' .ready none true K2 w2 le2 s2 rfl rfl he
       exact⟨K2,w3,hy,le2,s3,_,hvr,hmid.trans (Steps.trans harr (.one (stepR_round_end rfl rfl hend)))⟩
      ·rename_i e2 h2 hbody
       obtain⟨K2,w2,a2,ms2,le2,s2,f2,todo,harr⟩:=body _ _ _ hbody
       obtain⟨v,w3,hend,s3,rfl,hvr,rfl⟩:=ending h2 r h' .done (some .ret) false K2 w2 le2 s2 rfl rfl he
       exact⟨K2,w3,hy,le2,s3,_,hvr,hmid.trans (harr.trans (.one (stepR_round_ret rfl rfl hend)))⟩
      ·rename_i id e2 h2 hbody
       obtain⟨K2,w2,a2,ms2,le2,s2,f2,todo,hex,harr⟩:=body _ _ _ hbody
       obtain⟨v,w3,hend,s3,rfl,hvr,rfl⟩:=ending h2 r h' .done (some (.exit id)) false K2 w2 le2 s2 rfl rfl he
       exact⟨K2,w3,hy,le2,s3,_,hvr,hmid.trans (harr.trans (.one (stepR_round_exit rfl rfl (hex.trans rfl) hend)))⟩
      ·rename_i x e2 h2 hbody
       simp only[abA,abC] at he
       obtain⟨rfl,rfl⟩:=he
       obtain⟨K2,w2,a2,ms2,le2,s2,f2,todo,v,hx,harr⟩:=body _ _ _ hbody
       have hd:a2.defers=[]:=by
        have:=f2.round
        cases hq:e2.round with
        |none=>rw[hq] at this;cases this
        |some l'=>rw[hq] at this;obtain⟨_,_,_,_,h1,_⟩:=this;exact h1
       obtain⟨fnn,hfnn⟩:=Option.isSome_iff_exists.1 hfnok
       exact⟨K2,w2,hy,le2,s2,v,_,hx,hmid.trans harr,rfl,hd,fnn,hfnn⟩
      ·cases he
     ·cases he
    ·cases he
   ·cases he
  ·cases he
theorem qY(hp:Prog P){prims:FuncId->Option (List AV->ae->Option (AV × ae))}(hprim:∀g p,prims g=some p->jb P G w0 g p):∀n,mi P G w0 (fW P G prims n):=by
 intro n
 induction n with
 |zero=>
  refine⟨?_,?_,?_,?_⟩
  ·intro c e h out e' h' he;cases he
  ·intro g args h r h' he;cases he
  ·intro g args m h x m' h' he;cases he
  ·intro l args h r h' he;cases he
 |succ n ih=>exact⟨Ia hp.names hp.mixed ih,Ic hp hprim ih,Fw hp ih,Fx ih⟩
end
end Go.AE
end
section
namespace Go.AE
structure iG(R R':Rec):Prop where
 code:∀c e h r,R.code c e h=some r->R'.code c e h=some r
 call:∀g a h r,R.call g a h=some r->R'.call g a h=some r
 fg:∀g a m h r,R.fg g a m h=some r->R'.fg g a m h=some r
 round:∀l a h r,R.round l a h=some r->R'.round l a h=some r
section
variable {P:Program} {G:Nat->Option (List AV)} {R R':Rec}
theorem LH(le:iG R R'){e:Env}{h:ae}{c:Call}{r:Res × ae}(hc:eI P R e h c=some r):eI P R' e h c=some r:=by
 unfold eI at hc ⊢
 cases hcc:c.callee with
 |builtin b=>rw[hcc] at hc;cases hc
 |value f=>
  simp only[hcc] at hc ⊢
  split at hc
  ·rename_i h1;(try simp only[h1]);exact le.call _ _ _ _ hc
  ·rename_i h1;(try simp only[h1]);exact le.round _ _ _ _ hc
  ·cases hc
 |invoke v m=>
  simp only[hcc] at hc ⊢
  split at hc
  ·rename_i h1
   (try simp only[h1])
   split at hc
   ·rename_i h2;(try simp only[h2]);exact le.call _ _ _ _ hc
   ·cases hc
  ·cases hc
theorem w8(le:iG R R'){e:Env}{h:ae}{o:Oper}{r:Res × Env × ae}(ho:dC P G R e h o=some r):dC P G R' e h o=some r:=by
 unfold dC at ho ⊢
 split at ho
 ·exact ho
 ·exact ho
 ·exact ho
 ·simp only[abv] at ho ⊢
  obtain⟨q,hq,he⟩:=ho
  exact⟨q,LH le hq,he⟩
 ·exact ho
 ·exact ho
 ·exact ho
theorem fL(le:iG R R'){ops:Array Oper}:∀{l:List Nat} {e:Env} {h:ae} {r:Xt × Env × ae},br P G R ops l e h=some r->br P G R' ops l e h=some r:=by
 intro l
 induction l with
 |nil=>intro e h r ho;exact ho
 |cons i l ih=>
  intro e h r ho
  simp only[br] at ho ⊢
  cases hoi:ops[i]? with
  |none=>rw[hoi] at ho;cases ho
  |some o=>
   rw[hoi] at ho
   simp only at ho ⊢
   cases hw:bg ops e o with
   |none=>rw[hw] at ho;cases ho
   |some b=>
    rw[hw] at ho
    cases b with
    |false=>exact ih ho
    |true=>
     simp only at ho ⊢
     cases hop:dC P G R e h o with
     |none=>rw[hop] at ho;cases ho
     |some q=>
      rw[hop] at ho
      rw[w8 le hop]
      obtain⟨r1,e1,h1⟩:=q
      cases r1 with
      |ret x=>exact ih ho
      |panic x=>exact ho
theorem o8(le:iG R R'){ops:Array Oper}{e:Env}{h:ae}{r m:Nat}(hs:fX P G R ops e h r m=true):fX P G R' ops e h r m=true:=by
 unfold fX at hs ⊢
 split at hs
 ·rename_i o er hr em hm h1 h2 h3
  rw[h1,fL le h2,fL le h3]
  exact hs
 ·cases hs
theorem oz{ops:Array Oper}{e:Env}{h:ae}{k:Nat}:gC P G R ops e h k=true↔sY P G R ops e h k:=by unfold gC;exact @decide_eq_true_iff _ (Classical.propDecidable _)
theorem ue(le:iG R R'){ops:Array Oper}{e:Env}{h:ae}{k:Nat}(hc:gC P G R ops e h k=true):gC P G R' ops e h k=true:=by
 rw[oz] at hc ⊢
 obtain⟨o,x,er,hr,h1,h2,h3,h4⟩:=hc
 refine⟨o,x,er,hr,h1,h2,fL le h3,fun m hm=>?_⟩
 obtain⟨em,hm',h5,h6⟩:=h4 m hm
 exact⟨em,hm',fL le h5,w8 le h6⟩
theorem yv(le:iG R R'){ops:Array Oper}{e:Env}{h:ae}(hs:df P G R ops e h=true):df P G R' ops e h=true:=by
 unfold df at hs ⊢
 simp only[abr,abE,abQ,acS] at hs ⊢
 refine⟨hs.1,fun j hj i hi=>?_⟩
 rcases hs.2 j hj i hi with((h1|h1)|h1)|h1
 ·exact .inl (.inl (.inl h1))
 ·exact .inl (.inl (.inr h1))
 ·refine .inl (.inr ?_)
  unfold cX at h1 ⊢
  rw[abr] at h1 ⊢
  refine⟨h1.1,?_⟩
  have h2:=h1.2
  split at h2
  ·rename_i hx hy;(try simp only[hx,hy]);exact o8 le h2
  ·rename_i hx hy;(try simp only[hx,hy]);exact o8 le h2
  ·cases h2
 ·exact .inr ⟨h1.1,h1.2.imp (ue le) (ue le)⟩
theorem w9(le:iG R R'){ops:Array Oper}{e:Env}{h:ae}{i:Nat}(hs:iA P G R ops e h i=true):iA P G R' ops e h i=true:=by
 unfold iA at hs ⊢
 split at hs
 ·rename_i h1 h2
  rw[fL le h1,fL le h2]
  exact hs
 ·cases hs
theorem stores_le(le:iG R R'){ops:Array Oper}{e:Env}{h:ae}(D:gu P G R ops e h=true):gu P G R' ops e h=true:=by
 obtain⟨i,h1,h2,h3,h4⟩:=stores_cases D
 exact stores_of h1 h2 (w9 le h3) (yv le h4)
theorem any_le(le:iG R R'){ops:Array Oper}{e:Env}{h:ae}(D:(df P G R ops e h||gu P G R ops e h)=true):(df P G R' ops e h||gu P G R' ops e h)=true:=by
 rcases (acS _ _).mp D with q|q
 ·rw[yv le q];rfl
 ·rw[stores_le le q,agl]
theorem Ed(le:iG R R'){c:Code}{e:Env}{h:ae}{r:Xt × Env × ae}(hc:b7 P G R c e h=some r):b7 P G R' c e h=some r:=by
 cases c with
 |region id ops draw=>
  cases draw with
  |false=>simp only[b7,abW,if_false] at hc ⊢;exact fL le hc
  |true=>
   simp only[b7,if_true] at hc ⊢
   split at hc
   ·rename_i hf
    split at hc
    ·rename_i h1
     rw[if_pos (any_le le hf)]
     simp only[fL le h1]
     exact hc
    ·cases hc
   ·cases hc
 |seq a b=>
  simp only[b7] at hc ⊢
  cases ha:R.code a e h with
  |none=>rw[ha] at hc;cases hc
  |some q=>
   rw[ha] at hc
   rw[le.code _ _ _ _ ha]
   obtain⟨o,e1,h1⟩:=q
   cases o with
   |normal=>exact le.code _ _ _ _ hc
   |_=>exact hc
 |scope a=>simp only[b7] at hc ⊢;exact le.code _ _ _ _ hc
 |cond q a b=>
  simp only[b7] at hc ⊢
  split at hc
  ·rename_i h1;(try simp only[h1]);exact le.code _ _ _ _ hc
  ·rename_i h1;(try simp only[h1]);exact le.code _ _ _ _ hc
  ·cases hc
 |block id a=>
  simp only[b7] at hc ⊢
  cases ha:R.code a e h with
  |none=>rw[ha] at hc;cases hc
  |some q=>
   rw[ha] at hc
   rw[le.code _ _ _ _ ha]
   exact hc
 |loop a=>
  simp only[b7] at hc ⊢
  cases ha:R.code a e h with
  |none=>rw[ha] at hc;cases hc
  |some q=>
   rw[ha] at hc
   rw[le.code _ _ _ _ ha]
   obtain⟨o,e1,h1⟩:=q
   cases o with
   |normal=>exact le.code _ _ _ _ hc
   |_=>exact hc
 |rangeFunc f ps a b=>
  simp only[b7] at hc ⊢
  split at hc
  ·rename_i g first cap hev
   (try simp only[hev])
   generalize hcl:R.call g _ _=q at hc
   cases q with
   |none=>cases hc
   |some q=>rw[le.call _ _ _ _ hcl];exact hc
  ·cases hc
 |_=>exact hc
theorem ss(le:iG R R'){fn:Func}{e:Env}:∀{ds:List (FuncId × List AV)} {m:Option (AV × Bool)} {h:ae} {r:Res × ae},bD P G R fn e ds m h=some r->bD P G R' fn e ds m h=some r:=by
 intro ds
 induction ds with
 |nil=>intro m h r hu;cases m<;>exact hu
 |cons d ds ih=>
  intro m h r hu
  obtain⟨g,args⟩:=d
  simp only[bD] at hu ⊢
  cases hd:R.fg g args m h with
  |none=>rw[hd] at hu;cases hu
  |some q=>
   rw[hd] at hu
   rw[le.fg _ _ _ _ _ hd]
   obtain⟨r1,m1,h1⟩:=q
   cases r1 with
   |panic x=>exact hu
   |ret x=>
    rcases m1 with _|⟨y,b⟩
    ·exact ih hu
    ·cases b<;>exact ih hu
theorem yw(le:iG R R'){g:FuncId}{args:List AV}{m:Option (AV × Bool)}{h:ae}{r:Res × Option (AV × Bool) × ae}(hb:iB P G R g args m h=some r):iB P G R' g args m h=some r:=by
 unfold iB at hb ⊢
 split at hb
 ·cases hb
 ·rename_i fn hfn
  rw[hfn] at *
  simp only
  split at hb
  ·cases hb
  ·rename_i body hbody
   rw[hbody] at *
   (try simp only)
   generalize hcd:R.code body _ h=q at hb
   cases q with
   |none=>cases hb
   |some q=>
    rw[le.code _ _ _ _ hcd]
    obtain⟨o,e1,h1⟩:=q
    cases o with
    |exit id=>cases hb
    |_=>
     simp only[abv] at hb ⊢
     obtain⟨q,hq,he⟩:=hb
     exact⟨q,ss le hq,he⟩
theorem Ee(le:iG R R'){prims:FuncId->Option (List AV->ae->Option (AV × ae))}{g:FuncId}{args:List AV}{h:ae}{r:Res × ae}(hb:gQ P G R prims g args h=some r):gQ P G R' prims g args h=some r:=by
 unfold gQ at hb ⊢
 split at hb
 ·exact hb
 ·simp only[abv] at hb ⊢
  obtain⟨q,hq,he⟩:=hb
  exact⟨q,yw le hq,he⟩
theorem Ai(le:iG R R'){l:Nat}{args:List AV}{h:ae}{r:Res × ae}(hb:iC R l args h=some r):iC R' l args h=some r:=by
 unfold iC at hb ⊢
 split at hb
 ·cases hb
 ·split at hb
  ·rename_i hsz
   simp only[hsz,if_true]
   split at hb
   ·rename_i e1 h1 ha
    simp only[le.code _ _ _ _ ha]
    split at hb
    ·rename_i r2 hr2
     split at hb
     ·rename_i hst
      simp only[hst,if_true]
      generalize hcd:R.code _ e1 _=q at hb
      cases q with
      |none=>cases hb
      |some q=>rw[le.code _ _ _ _ hcd];exact hb
     ·cases hb
    ·cases hb
   ·cases hb
  ·cases hb
variable {prims:FuncId->Option (List AV->ae->Option (AV × ae))}
theorem mD(n:Nat):iG (fW P G prims n) (fW P G prims (n+1)):=by
 induction n with
 |zero=>
  refine⟨?_,?_,?_,?_⟩
  ·intro c e h r hh;cases hh
  ·intro g a h r hh;cases hh
  ·intro g a m h r hh;cases hh
  ·intro l a h r hh;cases hh
 |succ n ih=>exact⟨fun c e h r hh=>Ed ih hh,fun g a h r hh=>Ee ih hh,fun g a m h r hh=>yw ih hh,fun l a h r hh=>Ai ih hh⟩
theorem cL{n m:Nat}(h:n<=m):iG (fW P G prims n) (fW P G prims m):=by
 induction m with
 |zero=>rw[afv.1 h];exact⟨fun _ _ _ _ h=>h,fun _ _ _ _ h=>h,fun _ _ _ _ _ h=>h,fun _ _ _ _ h=>h⟩
 |succ m ih=>
  rcases abL n (m+1) with hlt|hge
  ·have h1:=ih (adQ.1 hlt)
   have h2:=mD (P:=P) (G:=G) (prims:=prims) m
   exact⟨fun c e h r hh=>h2.code _ _ _ _ (h1.code _ _ _ _ hh),fun g a h r hh=>h2.call _ _ _ _ (h1.call _ _ _ _ hh),fun g a m h r hh=>h2.fg _ _ _ _ _ (h1.fg _ _ _ _ _ hh),fun l a h r hh=>h2.round _ _ _ _ (h1.round _ _ _ _ hh)⟩
  ·rw[adF h hge];exact⟨fun _ _ _ _ h=>h,fun _ _ _ _ h=>h,fun _ _ _ _ _ h=>h,fun _ _ _ _ h=>h⟩
end
noncomputable def tm{α:Type}(f:Nat->Option α):Option α:=by
 classical
 exact if h:∃r n,f n=some r then some h.choose else none
theorem qZ{α:Type}{f:Nat->Option α}(hm:∀n m r,n<=m->f n=some r->f m=some r){n:Nat}{r:α}(h:f n=some r):tm f=some r:=by
 unfold tm
 have hex:∃r n,f n=some r:=⟨r,n,h⟩
 rw[dif_pos hex]
 obtain⟨m,hm2⟩:=hex.choose_spec
 have h1:=hm _ _ _ (aer n m) h
 have h2:=hm _ _ _ (ad2 n m) hm2
 rw[h1] at h2
 exact h2.symm
theorem bR{α:Type}{f:Nat->Option α}{r:α}(h:tm f=some r):∃n,f n=some r:=by
 unfold tm at h
 split at h
 ·rename_i hex
  injection h with h
  rw[<-h]
  exact hex.choose_spec
 ·cases h
section
variable (P:Program) (G:Nat->Option (List AV)) (prims:FuncId->Option (List AV->ae->Option (AV × ae)))
noncomputable def whole:Rec where
 code c e h:=tm fun n=>(fW P G prims n).code c e h
 call g a h:=tm fun n=>(fW P G prims n).call g a h
 fg g a m h:=tm fun n=>(fW P G prims n).fg g a m h
 round l a h:=tm fun n=>(fW P G prims n).round l a h
end
section
variable {P:Program} {G:Nat->Option (List AV)} {prims:FuncId->Option (List AV->ae->Option (AV × ae))}
theorem jx(n:Nat):iG (fW P G prims n) (whole P G prims):=
 ⟨fun _ _ _ _ h=>qZ (fun _ _ _ hl hh=>(cL hl).code _ _ _ _ hh) h,fun _ _ _ _ h=>qZ (fun _ _ _ hl hh=>(cL hl).call _ _ _ _ hh) h,
  fun _ _ _ _ _ h=>qZ (fun _ _ _ hl hh=>(cL hl).fg _ _ _ _ _ hh) h,fun _ _ _ _ h=>qZ (fun _ _ _ hl hh=>(cL hl).round _ _ _ _ hh) h⟩
theorem su{w0:World}(hp:Prog P)(hprim:∀g p,prims g=some p->jb P G w0 g p):mi P G w0 (whole P G prims):=by
 refine⟨?_,?_,?_,?_⟩
 ·intro c e h out e' h' he
  obtain⟨n,hn⟩:=bR he
  exact(qY hp hprim n).code c e h out e' h' hn
 ·intro g args h r h' he
  obtain⟨n,hn⟩:=bR he
  exact(qY hp hprim n).call g args h r h' hn
 ·intro g args m h x m' h' he
  obtain⟨n,hn⟩:=bR he
  exact(qY hp hprim n).fg g args m h x m' h' hn
 ·intro l args h r h' he
  obtain⟨n,hn⟩:=bR he
  exact(qY hp hprim n).round l args h r h' hn
theorem two{α β:Type}{f:Nat->Option α}{g:Nat->Option β}{a:α}{b:β}(hf:∀n m r,n<=m->f n=some r->f m=some r)(hg:∀n m r,n<=m->g n=some r->g m=some r)(h1:∃n,f n=some a)(h2:∃n,g n=some b):
 ∃n,f n=some a/\g n=some b:=by
 obtain⟨n,h1⟩:=h1
 obtain⟨m,h2⟩:=h2
 exact⟨max n m,hf _ _ _ (aer _ _) h1,hg _ _ _ (ad2 _ _) h2⟩
theorem Ie{e:Env}{h:ae}{c:Call}{r:Res × ae}(hc:eI P (whole P G prims) e h c=some r):∃n,eI P (fW P G prims n) e h c=some r:=by
 unfold eI at hc ⊢
 cases hcc:c.callee with
 |builtin b=>rw[hcc] at hc;cases hc
 |value f=>
  simp only[hcc] at hc ⊢
  split at hc
  ·exact bR hc
  ·exact bR hc
  ·cases hc
 |invoke v m=>
  simp only[hcc] at hc ⊢
  split at hc
  ·split at hc
   ·rename_i h2;(try simp only[h2]);exact bR hc
   ·cases hc
  ·cases hc
theorem Ig{e:Env}{h:ae}{o:Oper}{r:Res × Env × ae}(ho:dC P G (whole P G prims) e h o=some r):∃n,dC P G (fW P G prims n) e h o=some r:=by
 unfold dC at ho ⊢
 split at ho
 ·exact⟨0,ho⟩
 ·exact⟨0,ho⟩
 ·exact⟨0,ho⟩
 ·simp only[abv] at ho ⊢
  obtain⟨q,hq,he⟩:=ho
  obtain⟨n,hn⟩:=Ie hq
  exact⟨n,q,hn,he⟩
 ·exact⟨0,ho⟩
 ·exact⟨0,ho⟩
 ·exact⟨0,ho⟩
theorem l8{ops:Array Oper}:∀{l:List Nat} {e:Env} {h:ae} {r:Xt × Env × ae},br P G (whole P G prims) ops l e h=some r->∃n,br P G (fW P G prims n) ops l e h=some r:=by
 intro l
 induction l with
 |nil=>intro e h r ho;exact⟨0,ho⟩
 |cons i l ih=>
  intro e h r ho
  simp only[br] at ho ⊢
  cases hoi:ops[i]? with
  |none=>rw[hoi] at ho;cases ho
  |some o=>
   rw[hoi] at ho
   simp only at ho ⊢
   cases hw:bg ops e o with
   |none=>rw[hw] at ho;cases ho
   |some b=>
    rw[hw] at ho
    cases b with
    |false=>exact ih ho
    |true=>
     simp only at ho ⊢
     cases hop:dC P G (whole P G prims) e h o with
     |none=>rw[hop] at ho;cases ho
     |some q=>
      rw[hop] at ho
      have h1:=Ig hop
      obtain⟨r1,e1,hh1⟩:=q
      cases r1 with
      |panic x=>
       obtain⟨n,hn⟩:=h1
       exact⟨n,by rw[hn];exact ho⟩
      |ret x=>
       obtain⟨n,h1,h2⟩:=two (fun _ _ _ hl hh=>w8 (cL hl) hh) (fun _ _ _ hl hh=>fL (cL hl) hh) h1 (ih ho)
       exact⟨n,by rw[h1];exact h2⟩
theorem uP{ops:Array Oper}{e:Env}{h:ae}{r m:Nat}(hs:fX P G (whole P G prims) ops e h r m=true):∃n,fX P G (fW P G prims n) ops e h r m=true:=by
 unfold fX at hs ⊢
 split at hs
 ·rename_i o er hr em hm h1 h2 h3
  obtain⟨n,h2,h3⟩:=two (fun _ _ _ hl hh=>fL (cL hl) hh) (fun _ _ _ hl hh=>fL (cL hl) hh) (l8 h2) (l8 h3)
  refine⟨n,?_⟩
  rw[h1,h2,h3]
  exact hs
 ·cases hs
theorem many{p:Nat->Nat->Prop}(hm:∀i n m,n<=m->p i n->p i m):∀k,(∀i,i<k->∃n,p i n)->∃n,∀i,i<k->p i n:=by
 intro k
 induction k with
 |zero=>intro _;exact⟨0,fun i hi=>absurd hi (acH i)⟩
 |succ k ih=>
  intro h
  obtain⟨n,hn⟩:=ih fun i hi=>h i (ac1 hi)
  obtain⟨m,hm2⟩:=h k (adI k)
  refine⟨max n m,fun i hi=>?_⟩
  rcases abL i k with hlt|hge
  ·exact hm _ _ _ (aer _ _) (hn i hlt)
  ·rw[adF (adQ.1 hi) hge]
   exact hm _ _ _ (ad2 _ _) hm2
theorem Aj{R R':Rec}(le:iG R R'){ops:Array Oper}{e:Env}{h:ae}{i j:Nat}(h1:cX P G R ops e h i j=true):cX P G R' ops e h i j=true:=by
 unfold cX at h1 ⊢
 rw[abr] at h1 ⊢
 refine⟨h1.1,?_⟩
 have h2:=h1.2
 split at h2
 ·rename_i hx hy;(try simp only[hx,hy]);exact o8 le h2
 ·rename_i hx hy;(try simp only[hx,hy]);exact o8 le h2
 ·cases h2
theorem yx{ops:Array Oper}{e:Env}{h:ae}{i j:Nat}(h1:cX P G (whole P G prims) ops e h i j=true):∃n,cX P G (fW P G prims n) ops e h i j=true:=by
 unfold cX at h1 ⊢
 rw[abr] at h1
 have h2:=h1.2
 split at h2
 ·rename_i hx hy
  obtain⟨n,hn⟩:=uP h2
  exact⟨n,by rw[abr];exact⟨h1.1,by(try simp only[hx,hy]);exact hn⟩⟩
 ·rename_i hx hy
  obtain⟨n,hn⟩:=uP h2
  exact⟨n,by rw[abr];exact⟨h1.1,by(try simp only[hx,hy]);exact hn⟩⟩
 ·cases h2
theorem Ak{ops:Array Oper}{e:Env}{h:ae}{k:Nat}(hc:gC P G (whole P G prims) ops e h k=true):∃n,gC P G (fW P G prims n) ops e h k=true:=by
 rw[oz] at hc
 obtain⟨o,x,er,hr,h1,h2,h3,h4⟩:=hc
 obtain⟨n0,h3⟩:=l8 h3
 have key:∀m,m<ops.size+1->∃n,∃em hm,br P G (fW P G prims n) ops (aby m) e h=some (.normal,em,hm)/\dC P G (fW P G prims n) er hm o=some (.ret x,er,hm):=by
  intro m hm
  obtain⟨em,hm',h5,h6⟩:=h4 m (adQ.1 hm)
  obtain⟨n,q1,q2⟩:=two (fun _ _ _ hl hh=>fL (cL hl) hh) (fun _ _ _ hl hh=>w8 (cL hl) hh) (l8 h5) (Ig h6)
  exact⟨n,em,hm',q1,q2⟩
 obtain⟨n1,hn⟩:=many (p:=fun m n=>∃em hm,br P G (fW P G prims n) ops (aby m) e h=some (.normal,em,hm)/\dC P G (fW P G prims n) er hm o=some (.ret x,er,hm))
  (fun m n n' hl ⟨em,hm,q1,q2⟩=>⟨em,hm,fL (cL hl) q1,w8 (cL hl) q2⟩) (ops.size+1) key
 refine⟨max n0 n1,?_⟩
 rw[oz]
 refine⟨o,x,er,hr,h1,h2,fL (cL (aer _ _)) h3,fun m hm=>?_⟩
 obtain⟨em,hm',q1,q2⟩:=hn m (adQ.2 hm)
 exact⟨em,hm',fL (cL (ad2 _ _)) q1,w8 (cL (ad2 _ _)) q2⟩
noncomputable def rf(P:Program)(G:Nat->Option (List AV))(R:Rec)(ops:Array Oper)(e:Env)(h:ae)(i j:Nat):Bool:=
 ((Region.before ops).getD j 0).testBit i||ng ops i j||cX P G R ops e h i j||(eW ops i j&&(gC P G R ops e h i||gC P G R ops e h j))
theorem Ef{R R':Rec}(le:iG R R'){ops:Array Oper}{e:Env}{h:ae}{i j:Nat}(hp:rf P G R ops e h i j=true):rf P G R' ops e h i j=true:=by
 unfold rf at hp ⊢
 simp only[acS,abr] at hp ⊢
 rcases hp with(h1|h1)|h1
 ·exact .inl (.inl h1)
 ·exact .inl (.inr (Aj le h1))
 ·exact .inr ⟨h1.1,h1.2.imp (ue le) (ue le)⟩
theorem Ih{ops:Array Oper}{e:Env}{h:ae}{i j:Nat}(hp:rf P G (whole P G prims) ops e h i j=true):∃n,rf P G (fW P G prims n) ops e h i j=true:=by
 unfold rf at hp ⊢
 simp only[acS,abr] at hp ⊢
 rcases hp with(h1|h1)|⟨h1,h2|h2⟩
 ·exact⟨0,.inl (.inl h1)⟩
 ·obtain⟨n,hn⟩:=yx h1
  exact⟨n,.inl (.inr hn)⟩
 ·obtain⟨n,hn⟩:=Ak h2
  exact⟨n,.inr ⟨h1,.inl hn⟩⟩
 ·obtain⟨n,hn⟩:=Ak h2
  exact⟨n,.inr ⟨h1,.inr hn⟩⟩
theorem Al{ops:Array Oper}{e:Env}{h:ae}(hs:df P G (whole P G prims) ops e h=true):∃n,df P G (fW P G prims n) ops e h=true:=by
 unfold df at hs ⊢
 simp only[abr,abE,abQ] at hs ⊢
 obtain⟨h1,h2⟩:=hs
 have key:∀j,j<ops.size->∃n,∀i,i<j->rf P G (fW P G prims n) ops e h i j=true:=by
  intro j hj
  exact many (p:=fun i n=>rf P G (fW P G prims n) ops e h i j=true) (fun i n m hl=>Ef (cL hl)) j fun i hi=>Ih (h2 j hj i hi)
 obtain⟨n,hn⟩:=many (p:=fun j n=>∀i,i<j->rf P G (fW P G prims n) ops e h i j=true) (fun j n m hl hh i hi=>Ef (cL hl) (hh i hi)) ops.size key
 exact⟨n,h1,hn⟩
theorem Cy{ops:Array Oper}{e:Env}{h:ae}{i:Nat}(hs:iA P G (whole P G prims) ops e h i=true):∃n,iA P G (fW P G prims n) ops e h i=true:=by
 unfold iA at hs ⊢
 split at hs
 ·rename_i h1 h2
  obtain⟨n,h1,h2⟩:=two (fun _ _ _ hl hh=>fL (cL hl) hh) (fun _ _ _ hl hh=>fL (cL hl) hh) (l8 h1) (l8 h2)
  refine⟨n,?_⟩
  rw[h1,h2]
  exact hs
 ·cases hs
theorem stores_fin{ops:Array Oper}{e:Env}{h:ae}(D:gu P G (whole P G prims) ops e h=true):∃n,gu P G (fW P G prims n) ops e h=true:=by
 obtain⟨i,h1,h2,h3,h4⟩:=stores_cases D
 obtain⟨n,hn⟩:=Al h4
 obtain⟨m,hm⟩:=Cy h3
 exact⟨max n m,stores_of h1 h2 (w9 (cL (ad2 n m)) hm) (yv (cL (aer n m)) hn)⟩
theorem Ii{c:Code}{e:Env}{h:ae}{r:Xt × Env × ae}(hc:b7 P G (whole P G prims) c e h=some r):∃n,b7 P G (fW P G prims n) c e h=some r:=by
 cases c with
 |region id ops draw=>
  cases draw with
  |false=>simp only[b7,abW,if_false] at hc ⊢;exact l8 hc
  |true=>
   simp only[b7,if_true] at hc ⊢
   split at hc
   ·rename_i hf
    split at hc
    ·rename_i h1
     obtain⟨n,hn⟩:∃n,(df P G (fW P G prims n) ops e h||gu P G (fW P G prims n) ops e h)=true:=by
      rcases (acS _ _).mp hf with q|q
      ·obtain⟨n,hn⟩:=Al q
       exact⟨n,by rw[hn];rfl⟩
      ·obtain⟨n,hn⟩:=stores_fin q
       exact⟨n,by rw[hn,agl]⟩
     obtain⟨m,hm⟩:=l8 h1
     refine⟨max n m,?_⟩
     rw[if_pos (any_le (cL (aer n m)) hn)]
     simp only[fL (cL (ad2 n m)) hm]
     exact hc
    ·cases hc
   ·cases hc
 |seq a b=>
  simp only[b7] at hc ⊢
  cases ha:(whole P G prims).code a e h with
  |none=>rw[ha] at hc;cases hc
  |some q=>
   rw[ha] at hc
   have h1:=bR ha
   obtain⟨o,e1,hh1⟩:=q
   by_cases hno:o=.normal
   ·subst hno
    obtain⟨n,h1,h2⟩:=two (fun _ _ _ hl hh=>(cL hl).code _ _ _ _ hh) (fun _ _ _ hl hh=>(cL hl).code _ _ _ _ hh) h1 (bR hc)
    exact⟨n,by rw[h1];exact h2⟩
   ·obtain⟨n,h1⟩:=h1
    refine⟨n,?_⟩
    rw[h1]
    cases o<;>first|exact absurd rfl hno|exact hc
 |scope a=>simp only[b7] at hc ⊢;exact bR hc
 |cond q a b=>
  simp only[b7] at hc ⊢
  split at hc
  ·exact bR hc
  ·exact bR hc
  ·cases hc
 |block id a=>
  simp only[b7] at hc ⊢
  cases ha:(whole P G prims).code a e h with
  |none=>rw[ha] at hc;cases hc
  |some q=>
   rw[ha] at hc
   obtain⟨n,h1⟩:=bR ha
   exact⟨n,by rw[h1];exact hc⟩
 |loop a=>
  simp only[b7] at hc ⊢
  cases ha:(whole P G prims).code a e h with
  |none=>rw[ha] at hc;cases hc
  |some q=>
   rw[ha] at hc
   have h1:=bR ha
   obtain⟨o,e1,hh1⟩:=q
   by_cases hno:o=.normal
   ·subst hno
    obtain⟨n,h1,h2⟩:=two (fun _ _ _ hl hh=>(cL hl).code _ _ _ _ hh) (fun _ _ _ hl hh=>(cL hl).code _ _ _ _ hh) h1 (bR hc)
    exact⟨n,by rw[h1];exact h2⟩
   ·obtain⟨n,h1⟩:=h1
    refine⟨n,?_⟩
    rw[h1]
    cases o<;>first|exact absurd rfl hno|exact hc
 |rangeFunc f ps a b=>
  simp only[b7] at hc ⊢
  split at hc
  ·generalize hcl:(whole P G prims).call _ _ _=q at hc
   cases q with
   |none=>cases hc
   |some q=>
    obtain⟨n,hn⟩:=bR hcl
    exact⟨n,by rw[hn];exact hc⟩
  ·cases hc
 |_=>exact⟨0,hc⟩
theorem Cz{fn:Func}{e:Env}:∀{ds:List (FuncId × List AV)} {m:Option (AV × Bool)} {h:ae} {r:Res × ae},bD P G (whole P G prims) fn e ds m h=some r->∃n,bD P G (fW P G prims n) fn e ds m h=some r:=by
 intro ds
 induction ds with
 |nil=>intro m h r hu;exact⟨0,by cases m<;>exact hu⟩
 |cons d ds ih=>
  intro m h r hu
  obtain⟨g,args⟩:=d
  simp only[bD] at hu ⊢
  cases hd:(whole P G prims).fg g args m h with
  |none=>rw[hd] at hu;cases hu
  |some q=>
   rw[hd] at hu
   have h1:=bR hd
   obtain⟨r1,m1,hh1⟩:=q
   cases r1 with
   |panic x=>simp at hu
   |ret x=>
    have fin:∀m2,bD P G (whole P G prims) fn e ds m2 hh1=some r->∃n,(fW P G prims n).fg g args m h=some (.ret x,m1,hh1)/\bD P G (fW P G prims n) fn e ds m2 hh1=some r:=fun m2 hu=>
     two (fun _ _ _ hl hh=>(cL hl).fg _ _ _ _ _ hh) (fun _ _ _ hl hh=>ss (cL hl) hh) h1 (ih hu)
    rcases m1 with _|⟨y,b⟩
    ·obtain⟨n,h1,h2⟩:=fin _ hu
     exact⟨n,by rw[h1];exact h2⟩
    ·cases b with
     |true=>obtain⟨n,h1,h2⟩:=fin _ hu;exact⟨n,by rw[h1];exact h2⟩
     |false=>obtain⟨n,h1,h2⟩:=fin _ hu;exact⟨n,by rw[h1];exact h2⟩
theorem Am{g:FuncId}{args:List AV}{m:Option (AV × Bool)}{h:ae}{r:Res × Option (AV × Bool) × ae}(hb:iB P G (whole P G prims) g args m h=some r):∃n,iB P G (fW P G prims n) g args m h=some r:=by
 unfold iB at hb ⊢
 split at hb
 ·cases hb
 ·rename_i fn hfn
  simp only[hfn]
  split at hb
  ·cases hb
  ·rename_i body hbody
   (try simp only[hbody])
   generalize hcd:(whole P G prims).code body _ h=q at hb
   cases q with
   |none=>cases hb
   |some q=>
    have h1:=bR hcd
    obtain⟨o,e1,hh1⟩:=q
    cases o with
    |exit id=>cases hb
    |_=>
     simp only[abv] at hb
     obtain⟨q,hq,he⟩:=hb
     obtain⟨n,h1,h2⟩:=two (fun _ _ _ hl hh=>(cL hl).code _ _ _ _ hh) (fun _ _ _ hl hh=>ss (cL hl) hh) h1 (Cz hq)
     exact⟨n,by rw[h1];simp only[h2,abJ,he]⟩
theorem Ij{g:FuncId}{args:List AV}{h:ae}{r:Res × ae}(hb:gQ P G (whole P G prims) prims g args h=some r):∃n,gQ P G (fW P G prims n) prims g args h=some r:=by
 unfold gQ at hb ⊢
 split at hb
 ·exact⟨0,hb⟩
 ·simp only[abv] at hb ⊢
  obtain⟨q,hq,he⟩:=hb
  obtain⟨n,hn⟩:=Am hq
  exact⟨n,q,hn,he⟩
theorem Fy{l:Nat}{args:List AV}{h:ae}{r:Res × ae}(hb:iC (whole P G prims) l args h=some r):∃n,iC (fW P G prims n) l args h=some r:=by
 unfold iC at hb ⊢
 split at hb
 ·cases hb
 ·rename_i rc hrc
  (try simp only[hrc])
  split at hb
  ·rename_i hsz
   simp only[hsz,if_true]
   split at hb
   ·rename_i e1 h1 ha
    split at hb
    ·rename_i r2 hr2
     split at hb
     ·rename_i hst
      generalize hcd:(whole P G prims).code _ e1 _=q at hb
      cases q with
      |none=>cases hb
      |some q=>
       obtain⟨n,g1,g2⟩:=two (fun _ _ _ hl hh=>(cL hl).code _ _ _ _ hh) (fun _ _ _ hl hh=>(cL hl).code _ _ _ _ hh) (bR ha) (bR hcd)
       exact⟨n,by rw[g1];simp only[hr2,hst,if_true];rw[g2];exact hb⟩
     ·cases hb
    ·cases hb
   ·cases hb
  ·cases hb
theorem uf{α:Type}{a b:Option α}(h1:∀r,a=some r->b=some r)(h2:∀r,b=some r->a=some r):a=b:=by
 cases ha:a with
 |some r=>exact(h1 r ha).symm
 |none=>
  cases hb:b with
  |none=>rfl
  |some r=>rw[h2 r hb] at ha;cases ha
theorem dz(c:Code)(e:Env)(h:ae):(whole P G prims).code c e h=b7 P G (whole P G prims) c e h:=
 uf (fun r hr=>by
  obtain⟨n,hn⟩:=bR hr
  have:=(mD (P:=P) (G:=G) (prims:=prims) n).code c e h r hn
  exact Ed (jx n) this)
  (fun r hr=>by
   obtain⟨n,hn⟩:=Ii hr
   exact(jx (n+1)).code c e h r hn)
theorem lu(g:FuncId)(a:List AV)(h:ae):(whole P G prims).call g a h=gQ P G (whole P G prims) prims g a h:=
 uf (fun r hr=>by
  obtain⟨n,hn⟩:=bR hr
  have:=(mD (P:=P) (G:=G) (prims:=prims) n).call g a h r hn
  exact Ee (jx n) this)
  (fun r hr=>by
   obtain⟨n,hn⟩:=Ij hr
   exact(jx (n+1)).call g a h r hn)
theorem An(g:FuncId)(a:List AV)(m:Option (AV × Bool))(h:ae):(whole P G prims).fg g a m h=iB P G (whole P G prims) g a m h:=
 uf (fun r hr=>by
  obtain⟨n,hn⟩:=bR hr
  have:=(mD (P:=P) (G:=G) (prims:=prims) n).fg g a m h r hn
  exact yw (jx n) this)
  (fun r hr=>by
   obtain⟨n,hn⟩:=Am hr
   exact(jx (n+1)).fg g a m h r hn)
theorem Ao(l:Nat)(a:List AV)(h:ae):(whole P G prims).round l a h=iC (whole P G prims) l a h:=
 uf (fun r hr=>by
  obtain⟨n,hn⟩:=bR hr
  have:=(mD (P:=P) (G:=G) (prims:=prims) n).round l a h r hn
  exact Ai (jx n) this)
  (fun r hr=>by
   obtain⟨n,hn⟩:=Fy hr
   exact(jx (n+1)).round l a h r hn)
end
end Go.AE
end
