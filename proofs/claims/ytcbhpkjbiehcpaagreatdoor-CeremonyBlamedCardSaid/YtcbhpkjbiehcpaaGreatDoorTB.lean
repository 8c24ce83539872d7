/-
  The engine, part 13: a region that draws, in any order.
-/
import Derived.Test.YtcbhpkjbiehcpaaGreatDoorTA
import Derived.RangeFuncRecord
import Derived.Laws.BitsLemmas
import Derived.ChangeArms
import Derived.OpenShut
import Derived.Carry
import Derived.ProofKit
import Derived.ChangeSame
open True renaming intro->ba
open Go renaming Value->a_,World->cC,TypeId->aX,FuncId->bk,IntKind->uO,Program->bO,Frame->fq,Operand->b9
open Bool renaming true->aa,and_eq_true->bR,or_eq_true->pO,not_true->S_,false_or->Mb,false->ar,not_eq_true'->Hw,false_eq_true->jE,eq_iff_iff->ac8,true_and->pP,false_and->BA,and_assoc->ac6
open Option renaming some->J,some.injEq->eo,map_some->gq,getD_some->rK,none->ao,isNone_iff_eq_none->aem,filter_eq_some_iff->MS,map_eq_some_iff->dO,bind_some->qO,map_none->Ia,isSome_none->H_,map_map->MT
open List renaming all_eq_true->e8,mem_range->gb,range->bE,range_zero->adU,mem_cons_of_mem->gi,countP_eq_zero->adw,reverse_nil->adW,length->F,mem_filter->rH,mem_of_getElem?->dk,reverse_singleton->adX,singleton_append->ad0,countP_le_length->adx,mem_cons_self->gj,getElem?_eq_some_iff->aU,mem_cons->gX,getElem?_eq_getElem->aW,getElem?_set->j',length_cons->eR,getElem?_cons_succ->oX,cons_append->fw,range_succ->jH,cons.injEq->adu,mem_append_left->Tt,append_nil->g',mapM_cons->adL,range'->adR,range'_succ->adS,drop_eq_getElem_cons->we,drop_zero->iI,range_eq_range'->Tv,drop_take->Mz,getElem?_toArray->je,flatten_cons->mj,mem_append_right->adO,contains_eq_mem->wd,take_length->gu,toArray->MI,getElem?_set_ne->MB,map_cons->dK,getElem?_cons_zero->jF,take_take->HP,drop_drop->rF,mem_of_mem_take->uR,length_drop->fL,length_take->dF,all_cons->Ew,getElem?_take->qb,getElem?_drop->qM
open Array renaming getElem?_eq_some_iff->zD,all_eq_true->By,getElem_of_mem->S7,getElem_mem->ac1,getElem?_eq_getElem->mh,getElem?_setIfInBounds->ac0,replicate->Bz,getD_eq_getD_getElem?->Hv,getElem?_replicate->LZ,length_toList->nf,getElem?_toList->Ej,all_eq_true'->LX,size->ac4,getElem_toList->ac2,getElem?_eq_none->S6
open Nat renaming lt_trans->pS,le_of_lt->mJ,zero_le->ck,lt_or_ge->dR,lt_of_le_of_ne->aea,lt_succ_iff->EI,lt_of_lt_of_le->mK,le_refl->aT,le_zero->Tz,mod_lt->ml,strongRecOn->HX,le_trans->ff,lt_succ_of_lt->HT,le_max_left->MM,le_max_right->HS,beq->iJ,add_mul->jt,mul_le_mul_right->mn,min_eq_left->BO,le_succ_of_le->ad9
open Prod renaming mk.injEq->dw
open And renaming intro->au
open Int renaming toNat_natCast->eD
set_option linter.unusedSimpArgs false
set_option linter.unusedVariables false
set_option linter.constructorNameAsVariable false
set_option linter.defProp false
section
namespace Go.AE
variable{A a e e2 ep f:Env}{B H h h':am}{L b i id j k l m n n0 off r sz:Nat}{o y:Oper}{s x:I}{K:bj}{tmps:Array a_}{rest:List Nat}{w w':cC}{body c:Code}{ops:Array Oper}{args cs xs z:List I}{t:aX}{fn:Func}{g:bk}{R:Rec}{v:a_}{p q:List UInt8}{es:List (List I)}{k' kk:uO}{hi lo:Int}
section
variable {P:bO} {G:Nat->Option (List I)} {R:Rec} {ops:Array Oper}
def Ord(b:Array Nat)(i j:Nat):Prop:=(b.getD j 0).testBit i=aa
structure Fits(P:bO)(G:Nat->Option (List I))(R:Rec)(ops:Array Oper)(e:Env)(h:am)(b:Array Nat):Prop where
 Cl:∀(j:Nat) (o:Oper),ops[j]?=J o->∀ed∈o.after,Region.binds .any ed=aa->ed.on<j
 bits:∀(j i:Nat) (o:Oper),ops[j]?=J o->i<ops.size->Ord b i j->∃ed∈o.after,Region.binds .any ed=aa/\(ed.on=i∨Ord b i ed.on)
 pair:∀i j:Nat,i<j->j<ops.size->Ord b i j∨yX ops i j=aa∨j_ P G R ops e h i j=aa∨(o7 ops i j=aa/\(lJ P G R ops e h i=aa∨lJ P G R ops e h j=aa))
def vn(A:my P G R ops e h=aa):Fits P G R ops e h (Region.before ops):=by
 unfold my at A;simp only[bR,e8,gb,pO]at A;obtain⟨s,E⟩:=A;unfold zW at s;simp only[e8,gb]at s;refine⟨λj o r T B N=>?_,λj i o r D f=>?_,λi j f m=>?_⟩
 .have m:j<ops.size:=(zD.1 r).1;have:=s j m;simp only[r,bR,By]at this;obtain⟨q,C,rfl⟩:=S7 B
  grind
 .have m:j<ops.size:=(zD.1 r).1;have:=s j m;simp only[r,bR,e8,gb]at this;have:=this.2 i D;unfold Ord at f;rw[f]at this;simp only[S_,Mb,Array.any_eq_true,bR,pO]at this;obtain⟨q,C,h1,h2⟩:=this;exact⟨o.after[q],ac1 C,h1,h2.imp (λh=>Nat.eq_of_beq_eq_true h) (λh=>h)⟩
 .rcases E j m i f with((h|h)|h)|h
  .exact .inl h
  .simp_all
  .simp_all
  simp_all
variable {e:Env} {h:am} {b:Array Nat}
def Fits.apart(r:Fits P G R ops e h b)(f:i<j)(m:j<ops.size)(s:¬Ord b i j){x:Oper}(A:ops[i]?=J x)(B:ops[j]?=J y):
 x.apart ops y=aa/\y.apart ops x=aa:=by
 rcases r.pair i j f m with h|h|h|⟨h,-⟩
 .simp_all
 .unfold yX at h;simp_all
 .unfold j_ o7 at h;simp_all
 .unfold o7 at h;simp_all
def Af{x:Oper}(f:ops[i]?=some x):ph ops i=iR x.op:=by simp[ph,f]
def Iz(hi:lK P G R ops e h i=.iP):ph ops i=.iP/\lJ P G R ops e h i=ar:=by
 unfold lK at hi
 grind
def ZT47{p:Prop}(h:p:=by
 unfold yX at h;simp only[s,A,bR]at h;rw[hi,f]at h;simp[Qy]at h):p:=h
def Fits.iP(B:Fits P G R ops e h b)(m:i<j)(r:j<ops.size)(hi:lK P G R ops e h i=.iP)(f:lK P G R ops e h j=.iP):Ord b i j:=by
 have s:ops[i]?=J ops[i]:=mh (pS m r);have A:ops[j]?=J ops[j]:=mh r;obtain⟨hi,C⟩:=Iz hi;obtain⟨f,D⟩:=Iz f;rw[Af s]at hi;rw[Af A]at f;rcases B.pair i j m r with h|h|h|⟨-,h⟩
 .exact h
 .exact ZT47
 .unfold j_ at h
  grind
 simp_all
def Fits.avP(B:Fits P G R ops e h b)(m:i<j)(r:j<ops.size)(N:¬Ord b i j)(hi:ph ops i=.reads)(C:lJ P G R ops e h i=ar)(f:lK P G R ops e h j=.iP):pK P G R ops e h i (j+1)=aa:=by
 have s:ops[i]?=J ops[i]:=mh (pS m r);have A:ops[j]?=J ops[j]:=mh r;obtain⟨f,D⟩:=Iz f;rw[Af s]at hi;rw[Af A]at f;rcases B.pair i j m r with h|h|h|⟨-,h⟩
 .simp_all
 .exact ZT47
 .unfold j_ at h
  grind
 simp_all
def Fits.avQ(B:Fits P G R ops e h b)(f:i<j)(r:j<ops.size)(N:¬Ord b i j)(hi:lK P G R ops e h i=.iP)(m:ph ops j=.reads)(D:lJ P G R ops e h j=ar):pK P G R ops e h j i=aa:=by
 have s:ops[i]?=J ops[i]:=mh (pS f r);have A:ops[j]?=J ops[j]:=mh r;obtain⟨hi,C⟩:=Iz hi;rw[Af s]at hi;rw[Af A]at m;rcases B.pair i j f r with h|h|h|⟨-,h⟩
 .simp_all
 .unfold yX at h;simp only[s,A,bR]at h;rw[hi,m]at h;simp[Qy]at h
 .unfold j_ at h
  grind
 simp_all
def avV(z0:cg P G R ops (bE n) e h=J (.normal,a,h'))(N:r<n)(hm:m<=n)(s:pK P G R ops e h r m=aa)(D:ph ops r=.reads):
 Reads P G R ops r (dh P G R ops e h r).1 (tP P G R ops e h r).1 (dh P G R ops e h m).2:=by
 obtain⟨-,tr,st⟩:=trace z0;obtain⟨X,-⟩:=st r N;obtain⟨-,-,T,-⟩:=acf D X;intro o B Y;refine⟨λt e' f=>?_,λA=>?_⟩
 .have hold:=(T o B Y).1 t e' f;unfold pK at s;rw[B,tr r (mJ N),tr m hm]at s;simp only[Y,f]at s;rw[hold]at s;split at s
  .rename_i x y C E;injection C with C;subst C;rw[R7 s];exact E
  grind
 .obtain⟨t,e',f⟩:=abg (show iR o.op=.reads by rw[<-Af B];exact D);rw[f]at A;exact absurd A (by simp[ya])
def agR:lJ P G R ops e h k=aa↔wx P G R ops e h k:=by unfold lJ;simp_all
def U4(B:cg P G R ops (bE n) e h=J (.normal,a,h'))(T:n=ops.size)(E:k<n)(s:lJ P G R ops e h k=aa):
 ∃o x,ops[k]?=J o/\ya o.op=aa/\∀m,m<=n->ec P G R (dh P G R ops e h k).1 (dh P G R ops e h m).2 o=J (.ret x,(dh P G R ops e h k).1,(dh P G R ops e h m).2):=by
 obtain⟨-,Y,-⟩:=trace B;obtain⟨o,x,D,X,A,f,C,r⟩:=agR.1 s;refine⟨o,x,A,f,λm N=>?_⟩
 grind
def ach(z0:cg P G R ops (bE ops.size) e h=J (.normal,a,h'))(C:k<ops.size)(s:lK P G R ops e h k=.reads)
 (N:h_ P G R ops k (dh P G R ops e h k).1 (dh P G R ops e h k).2=J (x,A,B)):
 A=(dh P G R ops e h k).1/\B=(dh P G R ops e h k).2/\Reads P G R ops k (dh P G R ops e h k).1 x (dh P G R ops e h k).2/\
  ∀e2 h2,(∀o,ops[k]?=J o->Alike ops (dh P G R ops e h k).1 e2 o)->Reads P G R ops k (dh P G R ops e h k).1 x h2->h_ P G R ops k e2 h2=J (x,e2,h2):=by
 unfold lK at s;split at s
 .rename_i h1;obtain⟨o,y,E,m,r⟩:=U4 z0 O C h1;have h0:=r k (mJ C);obtain⟨T,X,a3,Y⟩:=acd E m h0 N;refine⟨T,X,λo' f hw=>?_,Y⟩;rw[E]at f;injection f with f;subst f;refine⟨λt e' D=>(by rw[D]at m;cases m),λ_=>?_⟩;simp_all
 .exact acf s N
def acj(T:cg P G R ops (bE ops.size) e h=J (.normal,a,h'))(B:k<ops.size)(X:m<=ops.size)(s:lK P G R ops e h k=.reads)
 (Y:ph ops k=.reads->lJ P G R ops e h k=ar->pK P G R ops e h k m=aa):
 Reads P G R ops k (dh P G R ops e h k).1 (tP P G R ops e h k).1 (dh P G R ops e h m).2:=by
 by_cases f:lJ P G R ops e h k=aa
 .obtain⟨-,tr,st⟩:=trace T;obtain⟨N,-⟩:=st k B;obtain⟨o,y,E,A,C⟩:=U4 T O B f;obtain⟨-,-,a3,-⟩:=acd E A (C k (mJ B)) N;intro o' r hw;rw[E]at r;injection r with r;subst r;refine⟨λt e' D=>(by rw[D]at A;cases A),λ_=>?_⟩;simp_all
 .have f:lJ P G R ops e h k=ar:=by simpa using f
  have s:ph ops k=.reads:=by unfold lK at s;rw[f]at s;simpa using s
  exact avV T B X (Y s f) s
def Vq(f:lK P G R ops e h k=.pure):ph ops k=.pure:=by
 unfold lK at f
 grind
structure Inv(P:bO)(G:Nat->Option (List I))(R:Rec)(ops:Array Oper)(e:Env)(h:am)(b:Array Nat)(S:Nat->Bool)(e1:Env)(h1:am):Prop where
 closed:∀i j,i<ops.size->j<ops.size->S j=aa->Ord b i j->S i=aa
 gN:∀t,e1.get t=val P G R ops e h S ops.size t
 round:e1.round=e.round
 mem:∃m,m<=ops.size/\e1.defers=(dh P G R ops e h m).1.defers/\e1.da=(dh P G R ops e h m).1.da/\h1=(dh P G R ops e h m).2/\
  (∀a,a<m->lK P G R ops e h a=.iP->S a=aa)/\∀a,m<=a->a<ops.size->lK P G R ops e h a=.iP->S a=ar
variable {e':Env} {h':am}
def SJ(B:cg P G R ops (bE ops.size) e h=J (.normal,e',h'))(t:Nat):∀k,k<=ops.size->(dh P G R ops e h k).1.get t=val P G R ops e h (λ_=>aa) k t:=by
 obtain⟨-,A,st⟩:=trace B;intro k
 induction k with
 |zero=>intro _;have:=A 0 (ck _);simp only[adU,cg,eo,dw,true_and]at this;rw[<-this.1];rfl|succ k s=>
  intro f;obtain⟨r,m⟩:=st k f;rw[m,Rn];simp only[val,true_and];split
  .rfl
  .rw[<-s (mJ f)];have:=(So (e2:=e) r).1;rw[this];rfl
def acJ(B:cg P G R ops (bE ops.size) e h=J (.normal,e',h')):∀k,k<=ops.size->(dh P G R ops e h k).1.round=e.round:=by
 obtain⟨-,A,st⟩:=trace B;intro k
 induction k with
 |zero=>
  intro _;have:=A 0 (ck _);simp only[adU,cg,eo,dw,true_and]at this
  grind
 |succ k s=>intro f;obtain⟨r,m⟩:=st k f;rw[m,(uz _ _ _).2.2,(So (e2:=e) r).1];exact s (mJ f)
def agY(B:cg P G R ops (bE ops.size) e h=J (.normal,e',h'))(f:k<ops.size)(C:lK P G R ops e h k≠ .iP):
 (dh P G R ops e h (k+1)).1.defers=(dh P G R ops e h k).1.defers/\(dh P G R ops e h (k+1)).1.da=(dh P G R ops e h k).1.da/\(dh P G R ops e h (k+1)).2=(dh P G R ops e h k).2:=by
 obtain⟨-,D,st⟩:=trace B;obtain⟨r,A⟩:=st k f;have s:(tP P G R ops e h k).2=(dh P G R ops e h k).1/\(dh P G R ops e h (k+1)).2=(dh P G R ops e h k).2:=by
  cases m:lK P G R ops e h k with
  |pure=>obtain⟨h1,h2,-⟩:=Sp (Vq m) r;simp_all
  |reads=>obtain⟨h1,h2,-⟩:=ach B f m r;simp_all
  |iP=>simp_all
 rw[A,(uz _ _ _).1,(uz _ _ _).2.1,s.1];simp_all
def Lj(C:cg P G R ops (bE ops.size) e h=J (.normal,e',h')):∀k,m<=k->k<=ops.size->
 ((dh P G R ops e h m).1.defers=(dh P G R ops e h k).1.defers/\(dh P G R ops e h m).1.da=(dh P G R ops e h k).1.da/\(dh P G R ops e h m).2=(dh P G R ops e h k).2)∨
 (∃a,m<=a/\a<k/\lK P G R ops e h a=.iP/\(dh P G R ops e h m).2=(dh P G R ops e h a).2)/\∃a,m<=a/\a<k/\lK P G R ops e h a=.iP/\(dh P G R ops e h (a+1)).2=(dh P G R ops e h k).2:=by
 intro k
 induction k with
 |zero=>simp_all|succ k X=>
  intro T f;rcases dR k m with B|s
  .grind
  .have A:k<=ops.size:=mJ f;by_cases r:lK P G R ops e h k=.iP
   .grind
   .obtain⟨D,E,N⟩:=agY C f r
    grind
def val_congr{S S':Nat->Bool}{t:Nat}:∀k,(∀w,w<k->iY ops w=J t->S w=S' w)->val P G R ops e h S k t=val P G R ops e h S' k t:=by
 intro k
 induction k with
 |zero=>intro _;rfl|succ k m=>
  intro f;simp only[val]
  grind
def LO{S:Nat->Bool}{t:Nat}:∀n,k<=n->(∀w,k<=w->w<n->iY ops w=J t->S w=ar)->val P G R ops e h S n t=val P G R ops e h S k t:=by
 intro n
 induction n with
 |zero=>simp_all|succ n A=>
  intro r s;rcases dR n k with m|f
  .grind
  .simp only[val]
   grind
def Ag{x:Oper}(f:ops[i]?=J x):iY ops i=x.dst:=by simp[iY,f]
def Fits.axU(C:Fits P G R ops e h b){t:Nat}(f:i<j)(m:j<ops.size)(hi:iY ops i=J t)(r:iY ops j=J t):Ord b i j:=by refine Classical.byContradiction λB=>?_;have s:ops[i]?=J ops[i]:=mh (pS f m);have A:ops[j]?=J ops[j]:=mh m;have D:=(Oper.apart_spec (C.apart f m B s A).1).2.1;rw[Ag s]at hi;rw[Ag A]at r;simp_all
def Fits.looks(B:Fits P G R ops e h b){t:Nat}(f:i<j)(m:j<ops.size){x:Oper}(s:ops[i]?=J x)(A:ops[j]?=J y)
 (D:(x.dst=J t/\t∈y.looksAt ops)∨(y.dst=J t/\t∈x.looksAt ops)):Ord b i j:=by
 refine Classical.byContradiction λr=>?_;have C:=Oper.apart_spec (B.apart f m r s A).1
 grind
def nQ(ops:Array Oper)(S:Nat->Bool)(k:Nat):Prop:=∀o,ops[k]?=J o->∀f∈o.after,Region.binds .any f=aa->S f.on=aa
def dG(S:Nat->Bool)(k:Nat):Nat->Bool:=λj=>if j=k then aa else S j
def next(z2:cg P G R ops (bE ops.size) e h=J (.normal,e',h'))(z1:Fits P G R ops e h b){S:Nat->Bool}{s:Env}(z0:Inv P G R ops e h b S s B)(f:k<ops.size)
 (hu:S k=ar) (hr:nQ ops S k):∃x e2 h2,h_ P G R ops k s B=J (x,e2,h2)/\Inv P G R ops e h b (dG S k) (e2.put (iY ops k) x) h2:=by
 obtain⟨-,tr,st⟩:=trace z2;have ho:ops[k]?=J ops[k]:=mh f;have ahead:∀i,i<ops.size->Ord b i k->S i=aa:=by
  intro i hi FK;obtain⟨ed,AC,Xj,m⟩:=z1.bits k i _ ho hi FK;have hs:=hr _ ho ed AC Xj;have r:=z1.Cl k _ ho ed AC Xj;rcases m with rfl|m
  .exact hs
  .exact z0.closed i ed.on hi (pS r f) hs m
 have alike:∀o,ops[k]?=J o->Alike ops (dh P G R ops e h k).1 s o:=by
  intro o wO t ht;rw[ho]at wO;injection wO with wO;subst wO;rw[z0.gN t,SJ z2 t k (mJ f),LO (k:=k) ops.size (mJ f)]
  .refine val_congr k λw A Y=>?_;have hx:ops[w]?=J ops[w]:=mh (pS A f);rw[Ag hx]at Y;exact(ahead w (pS A f) (z1.looks A f hx ho (.inl ⟨Y,ht⟩))).symm
  .intro w Jp A Y;rcases dR k w with r|po
   .cases m:S w with|false=>rfl|true=>have hx:ops[w]?=J ops[w]:=mh A;rw[Ag hx]at Y;have:=z0.closed k w f A m (z1.looks r A ho hx (.inr ⟨Y,ht⟩));simp_all
   grind
 obtain⟨hs,hn⟩:=st k f;obtain⟨E,hm,Y,hp,D,Jb,Ox⟩:=z0.mem;have h1:∀i j,i<ops.size->j<ops.size->dG S k j=aa->Ord b i j->dG S k i=aa:=by
  intro i j hi hj PI hij;unfold dG at PI ⊢;by_cases FK:i=k
  .simp_all
  .rw[aL FK];by_cases hjk:j=k
   .simp_all
   .rw[aL hjk]at PI;exact z0.closed i j hi hj PI hij
 have slots':∀(e2:Env),(∀t,e2.get t=s.get t)->∀t,(e2.put (iY ops k) (tP P G R ops e h k).1).get t=val P G R ops e h (dG S k) ops.size t:=by
  intro e2 r8 t;rw[Rn];by_cases Az:iY ops k=J t
  .rw[aC Az,LO (k:=k+1) ops.size f]
   .simp[val,dG,Az]
   .intro w Jp A Je;have fH:w≠k:=λm=>absurd Jp ag;simp only[dG,aL fH];cases m:S w with|false=>rfl|true=>have:=z0.closed k w f A m (z1.axU Jp A Az Je);simp_all
  .rw[aL Az,r8,z0.gN t];refine val_congr _ λw _ Je=>?_;have fH:w≠k:=λm=>Az (m ▸ Je);simp only[dG,aL fH]
 by_cases hc:lK P G R ops e h k=.iP
 .-- it iP
  have hmk:E<=k:=by
   rcases dR k E with r|po
   .simp_all
   .omega
  have same:=Lj z2 k hmk (mJ f);have same:(dh P G R ops e h E).1.defers=(dh P G R ops e h k).1.defers/\(dh P G R ops e h E).1.da=(dh P G R ops e h k).1.da/\(dh P G R ops e h E).2=(dh P G R ops e h k).2:=by
   rcases same with B|⟨⟨a,g1,C,N,-⟩,-⟩
   .exact B
   .have B:=Ox a g1 (pS C f) N;rw[ahead a (pS C f) (z1.iP C f N hc)]at B;cases B
  have qr:=(So (e2:=s) hs).2 alike (Y.trans same.1) (hp.trans same.2.1) (by rw[z0.round,acJ z2 k (mJ f)]);rw[<-same.2.2,<-D]at qr;refine⟨_,_,_,qr,h1,slots' _ (λt=>rfl),?_,k+1,f,?_,?_,O,?_,?_⟩
  .rw[(uz _ _ _).2.2];exact z0.round
  .rw[(uz _ _ _).1,hn,(uz _ _ _).1];rfl
  .rw[(uz _ _ _).2.1,hn,(uz _ _ _).2.1];rfl
  .intro a Av X;unfold dG;by_cases m:a=k
   .simp_all
   .rw[aL m];have r:a<k:=aea (EI.1 Av) m;exact ahead a (pS r f) (z1.iP r f X hc)
  .intro a hka ha X;have m:a≠k:=λm=>absurd hka ag;unfold dG
   grind
 .-- it does not
  have mem':∀e2:Env,e2.defers=s.defers->e2.da=s.da->∃E,E<=ops.size/\e2.defers=(dh P G R ops e h E).1.defers/\e2.da=(dh P G R ops e h E).1.da/\B=(dh P G R ops e h E).2/\
   (∀a,a<E->lK P G R ops e h a=.iP->dG S k a=aa)/\∀a,E<=a->a<ops.size->lK P G R ops e h a=.iP->dG S k a=ar:=by
   intro e2 CB vu;refine⟨E,hm,CB.trans Y,vu.trans hp,D,λa ham X=>?_,λa hma ha X=>?_⟩
   .unfold dG;simp_all
   .have m:a≠k:=λm=>hc (m ▸ X);unfold dG;simp_all
  have fin:∀x,x=(tP P G R ops e h k).1->h_ P G R ops k s B=J (x,s,B)->∃x e2 h2,h_ P G R ops k s B=J (x,e2,h2)/\Inv P G R ops e h b (dG S k) (e2.put (iY ops k) x) h2:=by intro x hx qr;subst hx;refine⟨_,_,_,qr,h1,slots' _ (λt=>rfl),?_,mem' _ (uz _ _ _).1 (uz _ _ _).2.1⟩;rw[(uz _ _ _).2.2];exact z0.round
  cases fj:lK P G R ops e h k with
  |iP=>simp_all|pure=>obtain⟨-,-,vx⟩:=Sp (Vq fj) hs;simp_all
  |reads=>
   obtain⟨-,-,AT,vx⟩:=ach z2 f fj hs;refine fin _ O (vx s B alike ?_);rw[D];rcases dR k E with r|po
   .rcases Lj z2 (m:=k) E (mJ r) hm with m|⟨-,a,g1,C,N,g4⟩
    .simp_all
    .have Av:k<a:=aea g1 λm=>hc (m ▸ N);have T:a<ops.size:=mK C hm;have Ph:¬Ord b k a:=λm=>(by have:=z0.closed k a f T (Jb a C N) m;simp_all);rw[<-g4];exact acj z2 f T fj λq1 q2=>z1.avP Av T Ph q1 q2 N
   .rcases Lj z2 (m:=E) k po (mJ f) with m|⟨⟨a,g1,C,N,g4⟩,-⟩
    .simp_all
    .have T:a<ops.size:=pS C f;have Ph:¬Ord b a k:=λm=>by
      grind
     rw[g4];exact acj z2 f (mJ T) fj λq1 q2=>z1.avQ C f Ph N q1 q2
def J2(m:cg P G R ops (bE ops.size) e h=J (.normal,e',h')):Inv P G R ops e h b (λ_=>ar) e h:=by
 have h0:dh P G R ops e h 0=(e,h):=by simp[dh,cg]
 refine⟨λ_ _ _ _ h=>absurd h cB,λt=>?_,O,0,ck _,by rw[h0],by rw[h0],by rw[h0],λa f=>absurd f (Nat.not_lt_zero a),λ_ _ _ _=>rfl⟩;rw[LO (k:=0) ops.size (ck _) (λ_ _ _ _=>rfl)];rfl
structure jI(e e2:Env):Prop where
 gN:∀t,e.get t=e2.get t
 defers:e.defers=e2.defers
 da:e.da=e2.da
 round:e.round=e2.round
def YU(s:cg P G R ops (bE ops.size) e h=J (.normal,e',h')){S:Nat->Bool}{m:Env}(A:Inv P G R ops e h b S m B)(f:∀i,i<ops.size->S i=aa):jI m e'/\B=h':=by
 obtain⟨t0,tr,st⟩:=trace s;have r:e'=(dh P G R ops e h ops.size).1:=by grind
 have D:h'=(dh P G R ops e h ops.size).2:=by grind
 obtain⟨N,h1,hd,hp,C,T,X⟩:=A.mem;have same:=Lj s ops.size h1 (aT _);have same:(dh P G R ops e h N).1.defers=(dh P G R ops e h ops.size).1.defers/\(dh P G R ops e h N).1.da=(dh P G R ops e h ops.size).1.da/\(dh P G R ops e h N).2=(dh P G R ops e h ops.size).2:=by
  rcases same with B|⟨⟨a,Y,g2,g3,-⟩,-⟩
  .exact B
  .simp_all
 refine⟨⟨λt=>?_,?_,?_,?_⟩,?_⟩
 .rw[A.gN t,r,SJ s t ops.size (aT _)];exact val_congr _ λw E _=>f w E
 .simp_all
 .simp_all
 .rw[A.round,r,acJ s ops.size (aT _)]
 simp_all
def VB{α:Type}{p q}{a}:∀{l:List α},(∀x∈l,q x=true->p x=true)->a∈l->p a=true->q a=false->l.countP q<l.countP p:=by
 intro l
 induction l with
 |nil=>simp_all|cons x l C=>
  intro f s A B;have r:l.countP q<=l.countP p:=List.countP_mono_left λy m=>f y (gi _ m)
  grind
def nK(ops:Array Oper):(Nat->Bool)->List Nat->Prop
 |S,[]=>∀i,i<ops.size->S i=aa
 |S,k::L=>k<ops.size/\S k=ar/\nQ ops S k/\nK ops (dG S k) L
def Qu(Y:cg P G R ops (bE ops.size) e h=J (.normal,e',h'))(z0:Fits P G R ops e h b):∀(L:List Nat) (S:Nat->Bool) (f:Env) (h1:am),Inv P G R ops e h b S f h1->nK ops S L->
 ∃e2,cg P G R ops L f h1=J (.normal,e2,h')/\jI e2 e':=by
 intro L
 induction L with
 |nil=>intro S f h1 B m;obtain⟨s,rfl⟩:=YU Y B m;exact⟨f,by simp[cg],s⟩
 |cons k L X=>
  intro S f h1 B m;obtain⟨E,T,N,m⟩:=m;obtain⟨x,e2,h2,s,C⟩:=next Y z0 B E T N
  obtain⟨D,A,r⟩:=X _ _ _ C m;exact⟨D,oO.2 ⟨x,e2,h2,s,A⟩,r⟩
def xE(ops:Array Oper):Prop:=∀(j:Nat) (o:Oper),ops[j]?=J o->∀f∈o.after,Region.binds .any f=aa->f.on<j
def anQ(hB:xE ops):∀(fuel t:Nat) (f:Array Bool),f.size=ops.size->
 (bE ops.size).countP (λj=> !f.getD j ar)<=fuel->nK ops (λj=>f.getD j ar) (Region.linearise.go .any ops fuel t f []):=by
 intro fuel
 induction fuel with
 |zero=>
  intro t f ga r;have B:∀i,i<ops.size->f.getD i ar=aa:=by intro i m;have:=adw.1 (Tz.1 r) i (gb.2 m);simpa using this
  simp only[Region.linearise.go,adW];exact B
 |succ fuel ih=>
  intro t f ga r;have E:∀i,i<ops.size->f.getD i aa=f.getD i ar:=by intro i m;have:i<f.size:=(by omega);simp[this]
  simp only[Region.linearise.go];change nK ops _ (match (Region.ready .any ops f)[t%F (Region.ready .any ops f)]? with
   |some i=>Region.linearise.go .any ops fuel (t/F (Region.ready .any ops f)) (f.setIfInBounds i aa) [i]
   |none=>[].reverse)
  have A:∀i,i∈Region.ready .any ops f↔i<ops.size/\f.getD i ar=ar/\nQ ops (λj=>f.getD j ar) i:=by
   intro i;unfold Region.ready;rw[rH,gb];constructor
   .rintro⟨m,s⟩;rw[bR]at s;obtain⟨tg,X⟩:=s;rw[E i m]at tg;refine⟨m,by simp_all,λo C ed D N=>?_⟩;rw[C]at X;simp only[gq,rK,By]at X;obtain⟨q,s,rfl⟩:=S7 D
    grind
   .rintro⟨m,s,hr⟩;refine⟨m,?_⟩;rw[bR];refine⟨by simp_all,?_⟩;have C:ops[i]?=J ops[i]:=mh m;rw[C];simp only[gq,rK,By];intro q s;cases hb:Region.binds .any ops[i].after[q] with|false=>rfl|true=>simpa using hr _ C _ (ac1 s) hb
  cases m:(Region.ready .any ops f)[t%F (Region.ready .any ops f)]? with
  |none=>
   have CT:Region.ready .any ops f=[]:=by
    cases hr:Region.ready .any ops f with
    |nil=>rfl|cons x xs=>
     rw[hr]at m;have dx:t%F (x::xs)<F (x::xs):=ml _ cB
     grind
   have B:∀i,i<ops.size->f.getD i ar=aa:=by
    intro i
    induction i using HX with
    |_ i ihi=>
     intro m;cases s:f.getD i ar with
     |true=>rfl|false=>
      have:i∈Region.ready .any ops f:=(A i).2 ⟨m,s,λo C ed D N=>by
       have dx:=hB i o C ed D N
       grind⟩
      simp_all
   simp only[adW];exact B
  |some i=>
   simp only[];have Pd:=(A i).1 (dk m);obtain⟨T,pr,AT⟩:=Pd;have Y:(λj=>(f.setIfInBounds i aa).getD j ar)=dG (λj=>f.getD j ar) i:=by
    funext j;unfold dG;have fG:i<f.size:=(by omega);by_cases s:j=i
    .simp_all
    .rw[aL s];simp[ac0,Ne.symm s]
   have qr:=ih (t/F (Region.ready .any ops f)) (f.setIfInBounds i aa) (by simp_all) (by
    refine EI.1 (mK (VB (a:=i) (p:=λj=> !f.getD j ar) ?_ (gb.2 T) (by simp_all) ?_) r)
    .intro j _ hj;have this:(f.setIfInBounds i aa).getD j ar=dG (λj=>f.getD j ar) i j:=congrFun Y j;rw[this]at hj;unfold dG at hj;simp_all
    simp_all)
   rw[linearise_go_acc,adX,ad0];refine⟨T,pr,AT,?_⟩;simp_all
def arL(n):(λj=>(Bz n ar).getD j ar)=λ_=>ar:=by
 funext j;rw[Hv,LZ]
 grind
def Zx(f:xE ops)(t:Nat):nK ops (λ_=>ar) (Region.linearise .any ops t):=by unfold Region.linearise;have:=anQ f ops.size t (Bz ops.size ar) cB (ff adx cB);rw[arL]at this;omega
def Wc{e:Env}{h:am}(s:my P G R ops e h=aa):xE ops:=λj o A m f r=>(vn s).Cl j o A m f r
def aiL(m:cg P G R ops (bE ops.size) e h=J (.normal,e',h'))(f:my P G R ops e h=aa)(t:Nat):
 ∃e2,cg P G R ops (Region.linearise .any ops t) e h=J (.normal,e2,h')/\jI e2 e':=
 Qu m (vn f) _ _ _ _ (J2 m) (Zx (Wc f) t)
end
section
open Go.RowKit (Below)
structure bj.ayo(K K':bj):Prop where
 base:K'.base=K.base
 ic:∀g j c,K.ic g j=J c->K'.ic g j=J c
 β:∀b g:Nat,K.β[b]?=J g->K'.β[b]?=J g
 γ:∀l g:Nat,K.γ[l]?=J g->K'.γ[l]?=J g
 tn:K.tn<=K'.tn
 tk:∀t,t<K.tn->K'.tk t=K.tk t
def bj.un(K:bj)(r:Nat):bj:={K with md:=K.md.filter (· !=r)}
def uW.un{k}{g aY}(h:uW K k g off sz n aY):uW (K.un r) k g off sz n aY:=h
mutual
def aV.un:∀{x:I} {c:a_},aV K x c->aV (K.un r) x c
 |_,_,.bad c=>.bad c
 |_,_,.v x N=>.v x N
 |_,_,.nil sz=>.nil sz
 |_,_,.gI sz a=>.gI sz a
 |_,_,.ac k sz es g off n f cells hn A m s ht C=>.ac k sz es g off n f cells hn A (aN.un m) s ht C
 |_,_,.arr b g off len f T B D E s ho A=>.arr b g off len f T B D E s ho A
 |_,_,.agg cs X m=>.agg cs X (aN.un m)
 |_,_,.tuple cs X m=>.tuple cs X (aN.un m)
 |_,_,.box b g off D=>.box b g off D
 |_,_,.dU g off=>.dU g off
 |_,_,.elem sz es i off g o p cells A m s hi hp C=>.elem sz es i off g o p cells A (aN.un m) s hi hp C
 |_,_,.func Y first f fs cs h1 h2=>.func Y first f fs cs (aN.un h1) (aN.un h2)
 |_,_,.yield l g E=>.yield l g E
 |_,_,.iface t x c N=>.iface t x c (aV.un N)
def aN.un:∀{xs:List I} {cs:List a_},aN K xs cs->aN (K.un r) xs cs
 |_,_,.nil=>.nil
 |_,_,.cons x c xs cs m f=>.cons x c xs cs (aV.un m) (aN.un f)
end
def p_.un{s f m}(h:p_ K s f m)(B:r∉m):p_ (K.un r) s f m:=by
 induction h with
 |nil=>exact .nil|call g args X D s f m T _ C=>exact .call g args X D s f m (aN.un T) (C B)|mark E s f m th N _ C=>have Y:E≠r:=λA=>B (A ▸ gj);exact .mark E s f m (by unfold bj.un;simp_all) N (C λA=>B (gi _ A))
def p_.sub{s f m}(h:p_ K s f m):∀r∈m,r∈K.md:=by
 induction h with
 |nil=>simp_all|call g args T B s f m E _ A=>exact A|mark N s f m C D _ A=>simp_all
def CS.un{m f p cs}(h:CS K m f p cs):CS (K.un r) m f p cs:=by
 cases h with|normal h=>exact .normal h|ret c0 rest A s B=>exact .ret c0 rest A s B|da c0 rest x v r A s C=>exact .da c0 rest x v r A s (aV.un C)
def anx{K':bj}(le:K.Le K')(s:r∉K.md):K.Le (K'.un r):=
 ⟨le.base,le.ic,le.β,le.γ,le.tn,le.tk,λm f=>by unfold bj.un;exact rH.2 ⟨le.md m f,by grind⟩,le.lb,le.new⟩
section
variable {K:bj} {G:Nat->Option (List I)} {ok:bk->Nat->Code->Bool} {w0 w:cC} {h:am}
def aa0{g:Nat}{o:Obj}(f:g<w.heap.size):mi w (w.putObj g o) g o:=
 ⟨O,O,O,World.putObj_size,λ_ m=>World.putObj_heap_other m,World.putObj_heap_same f⟩
def bW.drop(s:bW K G ok w0 h w)(hr:r∈K.md)(o:Obj)(ho:∀cells e f,o≠ .cells cells e f):bW (K.un r) G ok w0 h (w.putObj r o):=by
 obtain⟨hb,N⟩:=s.md r hr;have dx:=qw N;have c:=aa0 (o:=o) dx;have m:∀{g:Nat} {cells:Array a_} {e:aX} {f:Nat × Nat},w.heap[g]?=J (.cells cells e f)->g≠r:=by rintro g cells e f E rfl;rw[N]at E;cases E
 refine⟨s.fM.trans (c.below hb),by rw[c.size];exact s.size,λg j x hx=>?_,λg cs E=>?_,s.jd,s.oq,λb g cs Fx hc=>?_,s.nb,s.pN,λl g rr T qs=>?_,s.tn,λt ht=>?_,s.oV,λX th=>?_,s.all⟩
 .have D:=s.ic g j x hx;have C:g≠r:=by rintro rfl;simp[World.cell?,N]at D
  rw[<-D];exact World.cell?_of_block (w:=w) (c.other g C)
 .obtain⟨cells,h1,h2⟩:=s.dU g cs E;exact⟨cells,aN.un h1,h2⟩
 .obtain⟨h1,h2,ha,cells,e,B,A⟩:=s.box b g cs Fx hc;exact⟨h1,h2,ha,cells,e,(c.other g (m B)).trans B,aN.un A.1,A.2⟩
 .obtain⟨h1,fn,Y,d,h2,B,A⟩:=s.loop l g rr T qs;have C:g≠r:=by rintro rfl;rw[N]at h2;cases h2
  exact⟨h1,fn,Y,d,(c.other g C).trans h2,λt=>aV.un (B t),A⟩
 .obtain⟨h1,h2,B,cells,e,fz,A,h5,h6⟩:=s.tok t ht;refine⟨h1,h2,B,cells,e,fz,(c.other _ (m A)).trans A,h5,λj hj T=>?_⟩;rw[<-h6 j hj T];exact World.frozen?_of_block (w:=w) (c.other _ (m A))
 .obtain⟨h1,h2⟩:=rH.1 th;have C:X≠r:=by simpa using h2
  obtain⟨B,A⟩:=s.md X h1;exact⟨B,(c.other X C).trans A⟩
def bj.mark(K:bj)(r:Nat):bj:={K with md:=r::K.md}
def bj.Zm(K:bj)(r):K.Le (K.mark r):=
 ⟨O,λ_ _ _ h=>h,λ_ _ h=>h,λ_ _ h=>h,aT _,λ_ _=>rfl,λ_ h=>gi _ h,λ_ _=>rfl,λ_ _ _ h=>.inl h⟩
def bW.aoJ(s:bW K G ok w0 h w):bW (K.mark w.heap.size) G ok w0 h (w.alloc (.deferred (J []))):=by
 have le:=K.Zm w.heap.size;have p:=s.push (.deferred (J []));refine⟨p.fM,p.size,p.ic,λg cs N=>?_,p.jd,p.oq,λb g cs B E=>?_,p.nb,p.pN,λl g X T f=>?_,p.tn,p.tok,p.oV,λX f=>?_,s.all⟩
 .obtain⟨cells,h1,h2⟩:=s.dU g cs N;exact⟨cells,h1.mono le,h2⟩
 .obtain⟨h1,h2,D,cells,e,m,r⟩:=p.box b g cs B E;exact⟨h1,h2,D,cells,e,m,r.mono le (aU.1 B).1⟩
 .obtain⟨h1,C,A,d,h2,m,r⟩:=p.loop l g X T f;exact⟨h1,C,A,d,h2,m.mono le,r⟩
 .rcases gX.1 f with rfl|f
  .exact⟨s.size,World.alloc_heap_new w _⟩
  .exact p.md X f
def bj.loop(K:bj)(g:Nat):bj:={K with γ:=K.γ++[g]}
def bj.Qk(K:bj)(g):K.Le (K.loop g):=
 ⟨O,λ_ _ _ h=>h,λ_ _ h=>h,λ_ _ h=>Fo h,aT _,λ_ _=>rfl,λ_ h=>h,λ_ _=>rfl,λ_ _ _ h=>.inl h⟩
def bW.ZY(s:bW K G ok w0 h w){r:iq}{fn:bk}(d:Nat)(hs:lF K r.tmps tmps)(h1:ok fn tmps.size r.assign=aa)(h2:ok fn tmps.size r.body=aa)(m:∀p∈r.params.toList,p<tmps.size):
 bW (K.loop w.heap.size) G ok w0 {h with aB:=h.aB++[r]} (w.alloc (.loop {state:=r.state,pending:=r.pending,fn,tmps,params:=r.params,assign:=r.assign,body:=r.body,defers:=d}))/\
 (K.loop w.heap.size).γ[F h.aB]?=J w.heap.size:=by
 have le:=K.Qk w.heap.size;have p:=s.push (.loop {state:=r.state,pending:=r.pending,fn,tmps,params:=r.params,assign:=r.assign,body:=r.body,defers:=d});have E:(K.loop w.heap.size).γ[F h.aB]?=J w.heap.size:=by simp[bj.loop,<-s.nb]
 have dx:∀{l g:Nat},K.γ[l]?=J g->g<w.heap.size:=λ{l g} f=>by
  have Y:l<F h.aB:=by rw[<-s.nb];exact(aU.1 f).1
  obtain⟨_,_,_,_,m,_⟩:=s.loop l g _ f (aW Y)
  grind
 refine⟨⟨p.fM,p.size,p.ic,λg cs hg=>?_,p.jd,p.oq,λb g cs B hc=>?_,by simp[bj.loop,s.nb],λl l' g f X=>?_,λl g r' f A=>?_,p.tn,p.tok,p.oV,p.md,s.all⟩,E⟩
 .obtain⟨cells,h1,h2⟩:=s.dU g cs hg;exact⟨cells,h1.mono le,h2⟩
 .obtain⟨h1,h2,ha,cells,e,m,D⟩:=p.box b g cs B hc;exact⟨h1,h2,ha,cells,e,m,D.mono le (aU.1 B).1⟩
 .rcases rV f with B|⟨rfl,rfl⟩<;>rcases rV X with T|⟨rfl,h2⟩
  .exact s.pN _ _ _ B T
  .grind
  .grind
  .rfl
 .rcases rV f with f|⟨rfl,rfl⟩
  .rcases rV A with A|⟨rfl,rfl⟩
   .obtain⟨h1,N,C,d',h2,m,D⟩:=p.loop l g r' f A;exact⟨h1,N,C,d',h2,m.mono le,D⟩
   grind
  .have:r'=r:=(by rw[s.nb]at A;simp at A;exact A.symm);subst this;exact⟨s.size,fn,tmps,d,World.alloc_heap_new w _,hs.mono le,h1,h2,m⟩
def bW.eM(s:bW K G ok w0 h w){g:Nat}{r:iq}(X:K.γ[l]?=J g)(hr:h.aB[l]?=J r)(st:LoopState)(pe:Option Code):
 ∃m:Loop,w.heap[g]?=J (.loop m)/\m.state=r.state/\m.pending=r.pending/\m.params=r.params/\m.assign=r.assign/\m.body=r.body/\lF K r.tmps m.tmps/\
  ok m.fn m.tmps.size r.assign=aa/\ok m.fn m.tmps.size r.body=aa/\(∀p∈r.params.toList,p<m.tmps.size)/\
  bW K G ok w0 {h with aB:=h.aB.set l {r with state:=st,pending:=pe}} (w.putObj g (.loop {m with state:=st,pending:=pe})):=by
 obtain⟨k1,fn,tmps,d,Y,k3,k4,k5,k6⟩:=s.loop l g r X hr;have fQ:l<F h.aB:=(aU.1 hr).1;refine⟨_,Y,O,O,O,O,O,k3,k4,k5,k6,?_⟩;have c:=aa0 (o:=.loop {state:=st,pending:=pe,fn,tmps,params:=r.params,assign:=r.assign,body:=r.body,defers:=d}) (qw Y);have A:∀{f:Nat} {cells:Array a_} {e:aX} {z0:Nat × Nat},w.heap[f]?=J (.cells cells e z0)->f≠g:=by rintro f cells e z0 hg rfl;rw[Y]at hg;cases hg
 refine⟨s.fM.trans (c.below k1),by rw[c.size];grind,λf j x hx=>?_,s.dU,s.jd,s.oq,λb f cs Fx hc=>?_,by simp[s.nb],s.pN,λl' f rr B C=>?_,s.tn,λt ht=>?_,s.oV,λr' th=>?_,s.all⟩
 .have N:=s.ic f j x hx;have D:f≠g:=by rintro rfl;simp[World.cell?,Y]at N
  rw[<-N];exact World.cell?_of_block (w:=w) (c.other f D)
 .obtain⟨h1,h2,ha,cells,e,T,E⟩:=s.box b f cs Fx hc;exact⟨h1,h2,ha,cells,e,(c.other f (A T)).trans T,E⟩
 .simp only[j']at C;split at C
  .rename_i CK;subst CK;injection C with C;subst C;rw[X]at B;injection B with B;subst B;exact⟨k1,fn,tmps,d,c.this,k3,k4,k5,k6⟩
  .rename_i D;have OZ:f≠g:=(by rintro rfl;exact D (s.pN _ _ _ X B));obtain⟨h1,fn',tmps',d',h2,T,E⟩:=s.loop l' f rr B C;exact⟨h1,fn',tmps',d',(c.other f OZ).trans h2,T,E⟩
 .obtain⟨h1,h2,T,cells,e,fz,E,h5,h6⟩:=s.tok t ht;refine⟨h1,h2,T,cells,e,fz,(c.other _ (A E)).trans E,h5,λj hj X=>?_⟩;rw[<-h6 j hj X];exact World.frozen?_of_block (w:=w) (c.other _ (A E))
 .obtain⟨h1,h2⟩:=s.md r' th;have D:r'≠g:=by rintro rfl;rw[Y]at h2;cases h2
  exact⟨h1,(c.other r' D).trans h2⟩
end
end
section
variable {P:bO} {G:Nat->Option (List I)} {R:Rec} {ops:Array Oper} {e:Env} {h:am}
def YG:∀(l:List Oper),F (vB l)=F l
 | []=>rfl
 | [_]=>rfl
 |o::p::f=>by rw[vB,eR,YG (p::f)];rfl
def YF:∀(l:List Oper) (i:Nat),(vB l)[i]?=if i+1=F l then (l[i]?).map quiet else l[i]?
 | [],i=>by simp[vB]
 | [o],i=>by cases i<;>simp[vB]
 |o::p::f,i=>by
  cases i with|zero=>simp[vB]|succ i=>rw[vB,oX,YF (p::f) i];simp
def PP(ops):(gY ops).size=ops.size:=by show(F (vB ops.toList))=_;rw[YG];simp
def F7(ops)(i):(gY ops)[i]?=if i+1=ops.size then (ops[i]?).map quiet else ops[i]?:=by have:=YF ops.toList i;simp only[nf,Ej]at this;unfold gY;simp_all
def JP(hi:i+1≠ops.size):(gY ops)[i]?=ops[i]?:=by rw[F7,aL hi]
def YH(ops)(i:Nat):((gY ops)[i]?).map (·.after)=(ops[i]?).map (·.after):=by
 rw[F7];split
 .cases ops[i]?<;>rfl
 .rfl
def aod(f:tv ops=aa){w:Bool}(hi:i+1<ops.size)(r:ops[i]?=J o)(m:o.guard=J (j,w)):j+1≠ops.size:=by
 unfold tv at f;simp only[e8,gb,bR]at f;have:=(f i ag).2;simp only[r,m,Hw]at this;intro q;have s:j=ops.size-1:=by omega
 simp_all
def aob(f:tv ops=aa)(hi:i+1<ops.size):Ord (Region.before (gY ops)) i (ops.size-1):=by unfold tv at f;simp only[e8,gb,bR]at f;exact(f i ag).1
def ZG(m:tv ops=aa)(hi:i+1<ops.size)(r:ops[i]?=J o)(e:Env):fC (gY ops) e o=fC ops e o:=by
 unfold fC;cases f:o.guard with|none=>rfl|some q=>obtain⟨j,w⟩:=q;simp only;rw[JP (aod m hi r f)]
def aoe(f:tv ops=aa)(hi:i+1<ops.size)(e:Env)(h:am):h_ P G R (gY ops) i e h=h_ P G R ops i e h:=by
 unfold h_;rw[JP ag];cases m:ops[i]? with|none=>rfl|some o=>simp only[ZG f hi m]
def aoc(hi:i+1<ops.size):iY (gY ops) i=iY ops i:=by unfold iY;rw[JP ag]
def ZF(A:tv ops=aa):∀{l:List Nat},(∀i∈l,i+1<ops.size)->∀(e:Env) (h:am),cg P G R (gY ops) l e h=cg P G R ops l e h:=by
 intro l
 induction l with
 |nil=>intro _ e h;rfl|cons i l m=>
  intro f e h;have r:=f i gj;have m:=m λj s=>f j (gi _ s);rw[cg,cg,JP ag];cases B:ops[i]? with|none=>rfl|some o=>simp only[ZG A r B,m]
def aan{e:Env}{h:am}(m:h_ P G R ops i e h=J (x,f,h')):cg P G R ops (i::rest) e h=cg P G R ops rest (f.put (iY ops i) x) h':=by
 unfold h_ at m;rw[cg];unfold iY
 grind
def QR{s:List Nat}:∀{m:List Nat} {e f:Env} {h h1:am},cg P G R ops m e h=J (.normal,f,h1)->cg P G R ops (m++s) e h=cg P G R ops s f h1:=by
 intro m
 induction m with
 |nil=>intro e f h h1 r;simp only[cg,eo,dw,true_and]at r;simp_all|cons i l D=>
  intro e f h h1 r;obtain⟨x,B,h2,A,C⟩:=oO.1 r;rw[fw,aan A]
  grind
def abb(r:L+1=ops.size)(m:h_ P G R (gY ops) L f h'=J (x,e2,B)):e2=f/\B=h':=by
 unfold h_ at m;rw[F7,aC r]at m;cases s:ops[L]? with|none=>simp_all|some o=>rw[s]at m;have h2:fC (gY ops) f (quiet o)=J aa:=rfl;have A:ec P G R f h' (quiet o)=J (.ret (qy (.bool aa)),f,h'):=rfl;simp_all
def aba(f:L+1=ops.size):iY (gY ops) L=ao:=by unfold iY;rw[F7,aC f];cases ops[L]?<;>rfl
def jI.trans{b c}(h:jI a b)(k:jI b c):jI a c:=⟨λt=>(h.gN t).trans (k.gN t),h.defers.trans k.defers,h.da.trans k.da,h.round.trans k.round⟩
def jI.symm{b}(h:jI a b):jI b a:=⟨λt=>(h.gN t).symm,h.defers.symm,h.da.symm,h.round.symm⟩
def jI.refl(a):jI a a:=⟨λ_=>rfl,O,O,O⟩
def jI.eval{b}(h:jI a b)(x):a.eval x=b.eval x:=by
 cases x with|tmp t=>exact h.gN t|_=>rfl
def jI.wanted{b:Env}(h:jI a b)(o:Oper):fC ops a o=fC ops b o:=by
 unfold fC;cases o.guard with
 |none=>rfl|some q=>
  simp only;cases (ops[q.1]?).bind (·.dst) with|none=>rfl|some d=>simp only[h.gN d]
def apM{s:Env}{D:am}(f:cg P G R ops [L] s B=some (.panic x,ep,D))(m:jI A s):∃e2,cg P G R ops (L::rest) A B=some (.panic x,e2,D)/\jI e2 ep:=by
 rw[cg] at f ⊢;cases E:ops[L]? with
 |none=>simp_all|some o=>
  rw[E] at f;simp only at f ⊢;rw[m.wanted];cases C:fC ops s o with
  |none=>simp_all|some b=>
   rw[C] at f;cases b with
   |false=>simp[cg] at f|true=>
    simp only at f ⊢;cases r:ec P G R s B o with
    |none=>simp_all|some q=>
     obtain⟨N,e2,h2⟩:=q;rw[r] at f;cases N with|ret y=>simp[cg] at f|panic y=>simp only[eo,dw,Xt.panic.injEq] at f;obtain⟨rfl,rfl,rfl⟩:=f;rw[aag (e2:=A) (λx _=>(m.eval x).symm) m.defers m.da m.round r];refine⟨_,rfl,?_⟩;have C:=aah r;rw[C];exact⟨λt=>m.gN t,rfl,rfl,m.round⟩
variable {b:Array Nat}
def akm(hl:tv ops=aa)(hL:L+1=ops.size)(z2:cg P G R (gY ops) (bE (gY ops).size) e h=J (.normal,f,h'))(z0:Fits P G R (gY ops) e h (Region.before (gY ops)))
    (hsL:jI f A) (hhL:h'=B) (yC:cg P G R ops [L] A B=J (.panic x,ep,H)):∀(fuel t:Nat) (e':Array Bool) (e1:Env) (h1:am),e'.size=ops.size->e'.getD L ar=ar->
 Inv P G R (gY ops) e h (Region.before (gY ops)) (λj=>e'.getD j ar) e1 h1->(bE ops.size).countP (λj=> !e'.getD j ar)<=fuel->
 ∃e2,cg P G R ops (Region.linearise.go .any ops fuel t e' []) e1 h1=some (.panic x,e2,H)/\jI e2 ep:=by
 have azL:=PP ops;intro fuel
 induction fuel with
 |zero=>intro t e' e1 h1 ga pr z1 r;have:=adw.1 (Tz.1 r) L (gb.2 ag);simp_all|succ fuel ih=>
  intro t e' e1 h1 ga pr z1 r;have alg:∀i,i<ops.size->e'.getD i aa=e'.getD i ar:=by intro i eL;have:i<e'.size:=(by omega);simp[this]
  simp only[Region.linearise.go];change ∃e2,cg P G R ops (match (Region.ready .any ops e')[t%(Region.ready .any ops e').length]? with
   |some i=>Region.linearise.go .any ops fuel (t/(Region.ready .any ops e').length) (e'.setIfInBounds i aa) [i]
   |none=>[].reverse) e1 h1=J (.panic x,e2,H)/\jI e2 ep
  have Ou:∀i,i∈Region.ready .any ops e'↔i<ops.size/\e'.getD i ar=ar/\nQ (gY ops) (λj=>e'.getD j ar) i:=by
   intro i;unfold Region.ready;rw[rH,gb];constructor
   .rintro⟨eL,m⟩;rw[bR] at m;obtain⟨tg,C⟩:=m;rw[alg i eL] at tg;refine⟨eL,by simp_all,λo E ed s T=>?_⟩;have N:=YH ops i;rw[E] at N;cases X:ops[i]? with
    |none=>simp_all|some o2=>
     rw[X] at N C;simp only[gq,eo] at N;rw[N] at s;simp only[gq,rK,By] at C;obtain⟨q,m,rfl⟩:=S7 s
     grind
   .rintro⟨eL,m,hr⟩;refine⟨eL,?_⟩;rw[bR];refine⟨by simp_all,?_⟩;have E:ops[i]?=J ops[i]:=mh eL;have N:=YH ops i;rw[E] at N ⊢;cases X:(gY ops)[i]? with
    |none=>simp_all|some o2=>
     rw[X] at N;simp only[gq,eo] at N;simp only[gq,rK,By];intro q m;cases hb:Region.binds .any ops[i].after[q] with|false=>rfl|true=>simpa using hr _ X _ (by simp_all) hb
  cases eL:(Region.ready .any ops e')[t%(Region.ready .any ops e').length]? with
  |none=>
   exfalso;have CT:Region.ready .any ops e'=[]:=by
    cases hr:Region.ready .any ops e' with
    |nil=>rfl|cons x xs=>
     rw[hr] at eL;have dx:t%(x::xs).length<(x::xs).length:=ml _ cB
     grind
   have vx:∀i,i<ops.size->e'.getD i ar=aa:=by
    intro i
    induction i using HX with
    |_ i ihi=>
     intro eL;cases m:e'.getD i ar with
     |true=>rfl|false=>
      have:i∈Region.ready .any ops e':=(Ou i).2 ⟨eL,m,λo E ed s T=>by
       have dx:=z0.Cl i o E ed s T
       grind⟩
      simp_all
   grind
  |some i=>
   simp only[];have Pd:=(Ou i).1 (dk eL);obtain⟨jW,al0,AT⟩:=Pd;obtain⟨y,e2,h2,hs,I'⟩:=next z2 z0 z1 ag al0 AT
   have ald:(λj=>(e'.setIfInBounds i aa).getD j ar)=dG (λj=>e'.getD j ar) i:=by
    funext j;unfold dG;have fG:i<e'.size:=(by omega);by_cases m:j=i
    .simp_all
    .rw[aL m];simp[ac0,Ne.symm m]
   rw[linearise_go_acc,adX,ad0];by_cases hiL:i=L
   .subst hiL;obtain⟨q1,q2⟩:=abb hL hs;subst q1;subst q2;have vx:∀j,j<(gY ops).size->dG (λj=>e'.getD j ar) i j=aa:=by
     intro j hj;unfold dG;by_cases m:j=i
     .simp_all
     .rw[aL m];have D:j+1<ops.size:=(by omega);have Xl:=aob hl D;have:ops.size - 1=i:=(by omega);rw[this] at Xl;have E:(gY ops)[i]?=J (gY ops)[i]:=mh ag;obtain⟨ed,s,T,C⟩:=z0.bits i j _ E ag Xl;have PH:=AT _ E ed s T;have dx:=z0.Cl i _ E ed s T;rcases C with rfl|C
      .omega
      .exact z1.closed j ed.on ag ag PH C
    obtain⟨Y,rfl⟩:=YU z2 I' vx;rw[aba hL] at Y;subst hhL;exact apM yC (Y.trans hsL)
   .have D:i+1<ops.size:=(by omega);rw[aoe hl D] at hs;rw[aoc D] at I';rw[aan hs];refine ih (t/(Region.ready .any ops e').length) (e'.setIfInBounds i aa) (e2.put (iY ops i) y) h2 (by simp_all) ?_ (by simp_all) (by
     refine EI.1 (mK (VB (a:=i) (p:=λj=> !e'.getD j ar) ?_ (gb.2 jW) (by simp_all) ?_) r)
     .intro j _ hj;have this:(e'.setIfInBounds i aa).getD j ar=dG (λj=>e'.getD j ar) i j:=congrFun ald j;rw[this] at hj;unfold dG at hj;simp_all
     simp_all)
    simp_all
def aiN(A:tv ops=aa)(N:my P G R (gY ops) e h=aa)(E:A9 (cg P G R (gY ops) (bE (gY ops).size) e h)=aa)(f:cg P G R ops (bE ops.size) e h=J (.panic x,ep,B))(t:Nat):
 ∃e2,cg P G R ops (Region.linearise .any ops t) e h=some (.panic x,e2,B)/\jI e2 ep:=by
 have T:0<ops.size:=by
  rcases Nat.eq_zero_or_pos ops.size with q|q
  .rw[q] at f;simp[cg] at f
  .exact q
 obtain⟨L,m⟩:∃L,L+1=ops.size:=⟨ops.size - 1,by omega⟩;obtain⟨e',h',D⟩:∃e' h',cg P G R (gY ops) (bE (gY ops).size) e h=J (.normal,e',h'):=by
  unfold A9 at E
  grind
 have s:=D;rw[PP,<-m,jH] at s;obtain⟨eL,Ou,X,Y⟩:=Dw.1 s;obtain⟨y,e3,h3,n3,r⟩:=oO.1 Y;obtain⟨rfl,rfl⟩:=abb m n3;rw[aba m] at r;simp only[cg,eo,dw,true_and] at r;obtain⟨rfl,rfl⟩:=r;have C:=X;rw[ZF A (λi hi=>by grind)] at C;rw[<-m,jH,QR C] at f;unfold Region.linearise;refine akm A m D (vn N) (jI.refl _) rfl f ops.size t _ e h cB ?_ ?_ ?_
 .rw[Hv,LZ]
  grind
 .have:(λj=>(Bz ops.size ar).getD j ar)=λ_=>ar:=by
   funext j;rw[Hv];rw[LZ]
   grind
  rw[this];exact J2 D
 .exact ff adx cB
end
section
variable {P:bO} {G:Nat->Option (List I)} {R:Rec} {ops:Array Oper} {e:Env} {h:am} {k:Nat}
inductive ayt (ops:Array Oper) (k i:Nat):Prop
 |self (h:i=k)
 |ahead (h1:C8 ops k i=ar) (h2:WD ops k i=aa) (h3:i<k) (h4:Ord (Region.before (cut ops k)) i k)
 |beside (h1:C8 ops k i=ar) (h2:WD ops k i=aa) (h3:agQ ops i=aa) (h4:o7 ops i k=aa)
 |behind (h1:k<i) (h2:C8 ops k i=aa) (h3:Ord (Region.before (cut ops k)) k i)
def Fits.lt{b:Array Nat}(T:Fits P G R ops e h b):∀(j i:Nat),j<ops.size->i<ops.size->Ord b i j->i<j:=by
 intro j
 induction j using HX with
 |_ j N=>
  intro i B A D;have C:ops[j]?=J ops[j]:=mh B;obtain⟨m,s,r,E⟩:=T.bits j i _ C A D;have f:=T.Cl j _ C m s r;rcases E with q|q
  .omega
  .have:=N m.on f i (pS f B) A q;omega
structure ayq(ops:Array Oper)(k:Nat)(a b:Env):Prop where
 gN:∀t,(∀i,i<ops.size->aiG ops k i≠J t)->a.get t=b.get t
 defers:a.defers=b.defers
 da:a.da=b.da
 round:a.round=b.round
end
section
open Go.RowKit (Below)
section
variable {P:bO} {G:Nat->Option (List I)} {w0:cC} {R:Rec}
def Steps.tail{m s r:Machine}(h:step P m=.next s)(A:Steps P m r)(B:m≠r):Steps P s r:=by
 obtain⟨n,f⟩:=A;cases n with|zero=>simp[runN]at f;simp_all|succ n=>simp only[runN,h]at f;exact⟨n,f⟩
def J_{r f}{cs m}(h:lone r cs w=lone f m w'):r=f:=by unfold lone at h;simp_all
def nF.swap{m D m':Machine}{B:fq}{k:List Item}{cs C:List fq}{x:Xt}{a a0:Act}{E:cC}(T:∀id,c≠ .exit id)(N:c≠ .ret)(s:m=lone (B.atR a0 (.code c::k)) C E)
 (h1:step P m=.next D) (h2:step P m'=.next D) (h:nF P K m B k cs x a w):nF P K m' B k cs x a w:=by
 refine nF.of_steps (.one h2) ?_;cases x with
 |normal=>refine Steps.tail h1 h ?_;rw[s];intro f;have:=congrArg Frame.todo (J_ f);simp only[Frame.atR]at this;simp_all|exit id=>obtain⟨t,A,r⟩:=h;refine⟨t,A,Steps.tail h1 r ?_⟩;rw[s];intro f;have:=congrArg Frame.todo (J_ f);simp only[Frame.atR,adu,Item.code.injEq]at this;simp_all
 |ret=>obtain⟨t,r⟩:=h;refine⟨t,Steps.tail h1 r ?_⟩;rw[s];intro f;have:=congrArg Frame.todo (J_ f);simp only[Frame.atR,adu,Item.code.injEq]at this;simp_all
 |panic x=>obtain⟨t,v,A,r⟩:=h;refine⟨t,v,A,Steps.tail h1 r ?_⟩;rw[s];intro f;have:=congrArg Frame.mode (J_ f);simp[Frame.atR]at this
def Left.refl{a:Act}{B:fq}{s:List Nat}{f cs:List fq}{k:List Item}{m:Machine}{r:Xt}(D:ng P K e a B s)(A:CS K B.kind f e.da cs)(N:jJ P G w0 K h w)(C:nF P K m B k cs r a w):
 Left P G w0 K s B f m k a.tmps.size r e h K w a cs s:=
 ⟨.refl K,N,D,A,O,λ_ E=>.inl E,C⟩
def Left.of_steps{K':bj}{C:Act}{B:fq}{E s:List Nat}{f r:List fq}{k:List Item}{m D:Machine}{A:Xt}(N:Steps P m D)(L:Left P G w0 K E B f D k n A e h' K' w' C r s):
 Left P G w0 K E B f m k n A e h' K' w' C r s:=
 ⟨L.le,L.ry,L.frame,L.cs,L.size,L.marks,L.arr.of_steps N⟩
def aam(hn:BR P)(hR:uV P G w0 R):∀(l:List Nat) (e:Env) (h:am) (E:Xt) (e':Env) (h':am),cg P G R ops l e h=J (E,e',h')->
 ∀(K:bj) (w:cC) (a:Act) (B:fq) (k:List Item) (m cs:List fq) (A:List Nat),ng P K e a B A->CS K B.kind m e.da cs->jJ P G w0 K h w->Dx a.tmps.size ops=aa->
 ∃K' w' N r,Left P G w0 K A B m (lone (B.atR a (.inRegion ops l::k)) cs w) k a.tmps.size E e' h' K' w' N r A:=by
 intro l
 induction l with
 |nil=>intro e h E e' h' f K w a B k m cs A T C hs s;simp only[cg,eo,dw]at f;obtain⟨rfl,rfl,rfl⟩:=f;exact⟨K,w,a,cs,.refl T C hs (.one stepR_region_end)⟩
 |cons i rest ih=>
  intro e h E e' h' f K w a B k m cs A T C hs s;simp only[cg]at f;cases ho:ops[i]? with
  |none=>simp_all|some o=>
   rw[ho]at f;simp only at f;have ak7:=aal s ho;cases hw:fC ops e o with
   |none=>simp_all|some b=>
    rw[hw]at f;have hwm:=axG T.gN s hw;cases b with
    |false=>simp only at f;have D:=stepR_op_skip (P:=P) (b:=B) (a:=a) (k:=k) (cs:=cs) (w:=w) (ops:=ops) (i:=i) (rest:=rest) (by simp_all);have hb:(ops[i]?).bind (·.dst)=o.dst:=(by rw[ho];rfl);rw[hb]at D;obtain⟨K',w',N,r,L⟩:=ih _ _ _ _ _ f K w (a.put o.dst undef) B k m cs A (T.put ak7 (.tuple [] #[] .nil)) (by cases o.dst<;>exact C) hs (by rw[KA];omega);rw[KA]at L;exact⟨K',w',N,r,.of_steps (.one D) L⟩
    |true=>
     simp only at f;cases JE:ec P G R e h o with
     |none=>simp_all|some q=>
      obtain⟨z0,e1,h1⟩:=q;rw[JE]at f;obtain⟨K1,w1,a1,cs1,le1,s1,f1,c1,z1,X⟩:=api (i:=i) (rest:=rest) hn hR JE T C hs ho hwm k;cases z0 with
      |ret x=>obtain⟨v,hx,Y⟩:=X;simp only at f;obtain⟨K',w',N,r,L⟩:=ih _ _ _ _ _ f K1 w1 (a1.put o.dst v) B k m cs1 A (f1.put (by simp_all) hx) (by cases o.dst<;>exact c1) s1 (by rw[KA,z1];omega);rw[KA,z1]at L;refine⟨K',w',N,r,le1.trans L.le,L.ry,L.frame,L.cs,L.size,λz0 hr=>.inl hr,L.arr.of_steps Y⟩
      |panic x=>obtain⟨v,todo,hx,Y⟩:=X;simp only[eo,dw]at f;obtain⟨rfl,rfl,rfl⟩:=f;exact⟨K1,w1,a1,cs1,le1,s1,f1,c1,z1,λz0 hr=>.inl hr,todo,v,hx,Y⟩
def ng.same{a:Act}{B:fq}{r:List Nat}(f:ng P K e a B r)(m:jI e e2):ng P K e2 a B r:=by
 refine⟨λt=>?_,m.defers ▸ f.defers,?_,f.fn⟩
 .have:=m.gN t;unfold Env.get at this;rw[<-this];exact f.gN t
 .have:=f.round;rw[m.round,m.defers]at this;omega
def aow{ps:Array Tmp}(h:(ps.all λp=>decide (p<n))=aa):∀p∈ps.toList,p<n:=by intro p f;rw[LX]at h;simp_all
end
end
section
variable {P:bO} {G:Nat->Option (List I)} {R:Rec} {ops:Array Oper} {i:Nat}
end
section
variable {K:bj} {G:Nat->Option (List I)} {ok:bk->Nat->Code->Bool} {w0 w:cC} {h:am}
end
section
open Go.RowKit (Below)
section
variable {P:bO} {G:Nat->Option (List I)} {w0:cC} {R:Rec}
structure Ta(d:Tmp)(e eh:Env):Prop where
 gN:∀t,t≠d->e.get t=eh.get t
 defers:e.defers=eh.defers
 da:e.da=eh.da
 round:e.round=eh.round
def Ta.eval{d}(b:Ta d e f){x}(m:x≠ .tmp d):e.eval x=f.eval x:=by
 cases x with|tmp t=>exact b.gN t λq=>m (by rw[q])|_=>rfl
end
end
section
variable {ops:Array Oper} {i:Nat}
def ready_mono{S S':Nat->Bool}(A:nQ ops S k)(h:∀j,S j=aa->S' j=aa):nQ ops S' k:=λo s m f r=>h _ (A o s m f r)
def QP(S)(a b):dG (dG S a) b=dG (dG S b) a:=by funext j;unfold dG;by_cases h1:j=a<;>by_cases h2:j=b<;>simp[h1,h2]
structure ayu(ops:Array Oper)(i:Nat)(d2:Tmp):Prop where
 lt:i+1<ops.size
 no:IE ops i (i+1)=ar
 all:∀k,k<ops.size->k≠i->k≠i+1->IE ops (i+1) k=aa∨IE ops k i=aa∨(an3 ops d2 k=aa/\IE ops k (i+1)=ar)
variable {d2:Tmp}
variable {P:bO} {G:Nat->Option (List I)} {w0:cC} {R:Rec}
end
section
variable {ops:Array Oper} {i j:Nat} {P:bO} {G:Nat->Option (List I)} {R:Rec}
def qZ:(gx ops i j).size=ops.size:=by simp[gx]
def Cm(k:Nat):(gx ops i j)[k]?=(ops[k]?).map λo=>if k=j then {o with after:=o.after.push {on:=i,ground:=.data}} else o:=by unfold gx;simp_all
def VR(k:Nat):((gx ops i j)[k]?).bind (·.dst)=(ops[k]?).bind (·.dst):=by
 rw[Cm]
 grind
def axF(e:Env)(o:Oper):fC (gx ops i j) e o=fC ops e o:=by
 unfold fC;cases o.guard with|none=>rfl|some g=>simp only[VR]
def Bj:∀(L:List Nat) (e:Env) (h:am),cg P G R (gx ops i j) L e h=cg P G R ops L e h:=by
 intro L
 induction L with
 |nil=>intro e h;rfl|cons k L A=>
  intro e h;unfold cg;rw[Cm];cases s:ops[k]? with
  |none=>rfl|some o=>
   simp only[gq];have r:∀f:Oper,f.op=o.op->f.type=o.type->f.guard=o.guard->f.dst=o.dst->(fC (gx ops i j) e f=fC ops e o/\ec P G R e h f=ec P G R e h o):=by intro f B C m D;refine⟨by rw[axF];unfold fC;rw[m],?_⟩;unfold ec;simp_all
   grind
def xi{S:Nat->Bool}(B:nQ ops S k)(E:k=j->S i=aa):nQ (gx ops i j) S k:=by
 intro o f s m A;rw[Cm]at f;cases r:ops[k]? with
 |none=>simp_all|some C=>
  rw[r]at f;simp only[gq,eo]at f;split at f
  .rename_i D;subst f;rcases Array.mem_push.1 m with q|q
   .exact B C r s q A
   simp_all
  .subst f;exact B C r s m A
def an2:∀(L:List Nat) (S:Nat->Bool),S i=aa->nK ops S L->nK (gx ops i j) S L:=by
 intro L
 induction L with
 |nil=>intro S _ h k f;exact h k (by rw[qZ]at f;exact f)
 |cons k L A=>intro S s h;obtain⟨h1,h2,m,r⟩:=h;refine⟨by rw[qZ];exact h1,h2,xi m λ_=>s,A _ ?_ r⟩;unfold dG;simp_all
def aft(h:xE (gx ops i j)):xE ops:=by
 intro k o s f A m;have r:(gx ops i j)[k]?=J (if k=j then {o with after:=o.after.push {on:=i,ground:=.data}} else o):=by rw[Cm,s];rfl
 refine h k _ r f ?_ m
 grind
def BG(ops:Array Oper)(S:Nat->Bool):Prop:=∀(k:Nat) (o:Oper),ops[k]?=J o->S k=aa->∀f∈o.after,Region.binds .any f=aa->S f.on=aa
def BG.one{S:Nat->Bool}(c:BG ops S)(B:nQ ops S k):BG ops (dG S k):=by
 intro C o A m r f s;unfold dG at m ⊢;split
 .rfl
 .split at m
  .rename_i q;subst q;exact B o A r f s
  .exact c C o A m r f s
def afL{S:Nat->Bool}(C:zW ops (Region.before ops)=aa)(c:BG ops S):∀(m:Nat),m<ops.size->nQ ops S m->((Region.before ops).getD m 0).testBit k=aa->k<ops.size->S k=aa:=by
 intro m
 induction m using HX with
 |_ m ih=>
  intro Y hr hb T;unfold zW at C;rw[e8]at C;have:=C m (gb.2 Y);have ho:ops[m]?=J ops[m]:=mh Y;rw[ho]at this;simp only[bR,e8,LX]at this;obtain⟨h1,h2⟩:=this;have B:=h2 k (gb.2 T);rw[hb]at B;simp only[S_,Mb,Array.any_eq_true',bR,pO]at B;obtain⟨f,A,s,r⟩:=B;have hs:=hr _ ho f A s;rcases r with r|r
  .simp_all
  .have X:f.on<m:=(by have:=h1 f A;rw[s]at this;simpa using this);exact ih f.on X ag (λo wO E D N=>c _ o wO hs E D N) r T
def arQ(Y:xE ops)(hn:n+1=ops.size):∀(L:List Nat) (S:Nat->Bool),S n=ar->S i=aa->nQ ops S n->nK ops (dG S n) L->nK (gx ops i n) S (L++[n]):=by
 intro L
 induction L with
 |nil=>intro S s B m h;refine⟨by rw[qZ];omega,s,xi m λ_=>B,λk C=>?_⟩;exact h k (by rw[qZ]at C;exact C)
 |cons k L ih=>
  intro S s B m h;obtain⟨h1,h2,T,X⟩:=h;unfold dG at h2;split at h2
  .cases h2
  .rename_i D;have N:nQ ops S k:=by
    intro o E r f A;have:=T o E r f A;unfold dG at this;split at this
    .rename_i q;have:=Y k o E r f A;omega
    .omega
   refine⟨by rw[qZ];exact h1,h2,xi N (λq=>absurd q D),ih (dG S k) ?_ ?_ ?_ ?_⟩
   .unfold dG;grind
   .unfold dG;simp_all
   .exact ready_mono m λj hj=>by unfold dG;simp_all
   .rw[QP];exact X
def arR(Y:xE ops)(hn:n+1=ops.size)(jW:i<n):∀(L:List Nat) (S:Nat->Bool),S n=ar->S i=ar->nQ ops S n->nK ops (dG S n) L->
 ∃r s,L=r++i::s/\(∀k∈r,k<ops.size/\k≠i/\k≠n/\S k=ar)/\(∀k∈s,k<ops.size/\k≠i/\k≠n/\S k=ar)/\nK (gx ops i n) S (r++i::(s++[n])):=by
 intro L
 induction L with
 |nil=>intro S hS hi hr h;have:=h i ag;unfold dG at this;simp_all|cons k L ih=>
  intro S hS hi hr h;obtain⟨h1,h2,h3,A⟩:=h;unfold dG at h2;split at h2
  .cases h2
  .rename_i C;have D:nQ ops S k:=by
    intro o ho X B hb;have:=h3 o ho X B hb;unfold dG at this;split at this
    .rename_i q;have:=Y k o ho X B hb;omega
    .omega
   have E:nQ ops (dG S k) n:=ready_mono hr λj hj=>(by unfold dG;simp_all);by_cases hki:k=i
   .subst hki;have N:∀(L:List Nat) (S:Nat->Bool),nK ops S L->∀m∈L,m<ops.size/\S m=ar:=by
     intro L
     induction L with
     |nil=>simp_all|cons a L ih2=>
      intro S hL m f;obtain⟨q1,q2,q3,q4⟩:=hL;rcases gX.1 f with rfl|f
      .simp_all
      .obtain⟨p1,T⟩:=ih2 _ q4 m f;unfold dG at T;simp_all
    refine⟨[],L,O,λm f=>(nomatch f),λm f=>?_,?_⟩
    .obtain⟨p1,T⟩:=N L _ A m f;unfold dG at T;simp_all
    .refine⟨by rw[qZ];exact h1,hi,xi D (λq=>absurd q C),?_⟩;refine arQ Y hn L _ ?_ ?_ E ?_
     .unfold dG;grind
     .unfold dG;simp_all
     .rw[QP];exact A
   .rw[QP]at A;obtain⟨r,s,e1,e2,e3,e4⟩:=ih (dG S k) (by unfold dG;grind) (by unfold dG;grind) E A;have uI:∀m,dG S k m=ar->S m=ar:=λm q=>(by unfold dG at q;simp_all);refine⟨k::r,s,by simp_all,λm f=>?_,λm f=>?_,by rw[qZ];exact h1,h2,xi D (λq=>absurd q C),e4⟩<;>grind
def apH(hB:xE ops)(hn:n+1=ops.size)(X:i<n):∀(L:List Nat) (S:Nat->Bool),S n=ar->S i=ar->BG ops S->nK ops S L->
 nK (gx ops i n) S L∨∃r f m S',L=r++(n::(f++i::m))/\S' i=ar/\nQ ops S' n/\BG ops S'/\(∀k∈f,k<ops.size/\k≠i/\k≠n/\S' k=ar)/\(∀k∈m,k<ops.size/\k≠i/\k≠n/\S' k=ar)/\nK (gx ops i n) S (r++(f++i::(m++[n]))):=by
 intro L
 induction L with
 |nil=>intro S h1 h2 _ h;have:=h i ag;simp_all|cons k L ih=>
  intro S hS T N h;obtain⟨h1,h2,s,E⟩:=h;by_cases Y:k=i
  .subst Y;exact .inl ⟨by rw[qZ];exact h1,h2,xi s (λq=>by omega),an2 L _ (by unfold dG;simp_all) E⟩
  .by_cases A:k=n
   .subst A;obtain⟨f,m,e1,B,C,D⟩:=arR hB hn X L S hS T s E;exact .inr ⟨[],f,m,S,by simp_all,T,s,N,B,C,D⟩
   .rcases ih (dG S k) (by unfold dG;grind) (by unfold dG;grind) (N.one s) E with q|⟨r,f,m,S',e1,e0,B,C,D,e5,e6⟩
    .exact .inl ⟨by rw[qZ];exact h1,h2,xi s (λq=>absurd q A),q⟩
    .exact .inr ⟨k::r,f,m,S',by simp_all,e0,B,C,D,e5,by rw[qZ];exact h1,h2,xi s (λq=>absurd q A),e6⟩
def am.qU(h:am)(c:Nat)(xs:List I):am:={h with V:=h.V.set c xs}
def US{a c}(f:a≠c):(h.qU c xs).V[a]?=h.V[a]?:=by
 unfold am.qU
 grind
variable {e e':Env} {h h':am} {b:Array Nat}
def Zz(z1:cg P G R ops (bE ops.size) e h=J (.normal,e',h'))(z0:Fits P G R ops e h b):∀(A B:List Nat) (S:Nat->Bool) (f:Env) (h1:am),Inv P G R ops e h b S f h1->nK ops S (A++B)->
 ∃S2 e2 h2,cg P G R ops A f h1=J (.normal,e2,h2)/\Inv P G R ops e h b S2 e2 h2/\nK ops S2 B:=by
 intro A
 induction A with
 |nil=>intro B S f h1 s m;exact⟨S,f,h1,O,s,m⟩|cons k A ih=>
  intro B S f h1 s m;obtain⟨T,hu,X,m⟩:=m;obtain⟨x,e2,h2,Y,C⟩:=next z1 z0 s T hu X
  obtain⟨S2,E,N,r,D,L3⟩:=ih B _ _ _ C m;exact⟨S2,E,N,oO.2 ⟨x,e2,h2,Y,r⟩,D,L3⟩
def YT(z2:cg P G R ops (bE ops.size) e h=J (.normal,e',h'))(z0:Fits P G R ops e h b){S:Nat->Bool}(z1:Inv P G R ops e h b S a B)(f:k<ops.size)
 (hu:S k=ar) (hr:nQ ops S k):∀o,ops[k]?=J o->Alike ops (dh P G R ops e h k).1 a o:=by
 have s:ops[k]?=J ops[k]:=mh f;have ahead:∀i,i<ops.size->Ord b i k->S i=aa:=by
  intro i Y FK;obtain⟨T,N,E,C⟩:=z0.bits k i _ s Y FK;have hs:=hr _ s T N E;have h1:=z0.Cl k _ s T N E;rcases C with rfl|C
  .exact hs
  .exact z1.closed i T.on Y (pS h1 f) hs C
 intro o r t ht;rw[s]at r;injection r with r;subst r;rw[z1.gN t,SJ z2 t k (mJ f),LO (k:=k) ops.size (mJ f)]
 .refine val_congr k λw m A=>?_;have D:ops[w]?=J ops[w]:=mh (pS m f);rw[Ag D]at A;exact(ahead w (pS m f) (z0.looks m f D s (.inl ⟨A,ht⟩))).symm
 .intro w Jp m A;rcases dR k w with h1|po
  .cases C:S w with|false=>rfl|true=>have D:ops[w]?=J ops[w]:=mh m;rw[Ag D]at A;have:=z1.closed k w f m C (z0.looks h1 m s D (.inr ⟨A,ht⟩));simp_all
  grind
def Ef{B:Env}(s:wV ops k=aa)(st:h_ P G R ops k e h=J (x,B,H)):
 x=.tuple []/\B=e/\iY ops k=ao/\∃(o:Oper) (t:aX) (a v:b9) (c off n:Nat) (cs m:List I),ops[k]?=J o/\o.op=.store t a v/\o.guard=ao/\e.eval a=.ptr (.box c) off/\(e.eval v).bL=J cs/\cN P t=J n/\h.V[c]?=J m/\F cs=n/\off+n<=F m/\H=h.qU c (dW m off cs):=by
 unfold wV at s;unfold h_ at st;cases E:ops[k]? with
 |none=>simp_all|some o=>
  rw[E]at s st;simp only[bR,aem]at s;obtain⟨N,T,q3⟩:=s;cases r:o.op<;>rw[r]at N<;>try (cases N;done)
  rename_i t a v;have Y:fC ops e o=J aa:=by unfold fC;rw[T]
  simp only[Y]at st;have C:ec P G R e h o=(dH P G e.eval h (.store t a v)).map λ(x,h)=>(.ret x,e,h):=by unfold ec;rw[r]
  rw[C]at st;simp only[dH]at st;cases f:bU P h t (e.eval a) (e.eval v) with
  |none=>simp_all|some D=>
   rw[f]at st;simp only[gq,eo,dw]at st;obtain⟨rfl,rfl,rfl⟩:=st;unfold bU at f;split at f
   .rename_i c off cs n H h2 X;split at f
    .rename_i m hold;split at f
     .rename_i A;injection f with f;exact⟨O,O,by simp[iY,E,q3],o,t,a,v,c,off,n,cs,m,O,r,T,H,h2,X,hold,A.1,A.2,f.symm⟩
     simp_all
    simp_all
   simp_all
def Ss{a v:b9}{c:Nat}{f:List I}(E:ops[k]?=J o)(s:o.op=.store t a v)(C:o.guard=ao)(A:e.eval a=.ptr (.box c) off)(N:(e.eval v).bL=J cs)(X:cN P t=J n)(B:h.V[c]?=J f)(D:F cs=n)(r:off+n<=F f):
 h_ P G R ops k e h=J (.tuple [],e,h.qU c (dW f off cs)):=by
 unfold h_;simp only[E];have T:fC ops e o=J aa:=by unfold fC;rw[C]
 simp only[T];have m:ec P G R e h o=(dH P G e.eval h (.store t a v)).map λ(x,h)=>(.ret x,e,h):=by unfold ec;rw[s]
 rw[m];simp only[dH];have:bU P h t (e.eval a) (e.eval v)=J (h.qU c (dW f off cs)):=by unfold bU;simp only[A,N,X,B];rw[aC ⟨D,r⟩];rfl
 simp_all
def ZR(hn:wV ops n=aa):∀(B:List Nat) {e e':Env} {h h':am},(∀k∈B,k<ops.size/\ph ops k=.pure/\o7 ops k n=aa)->∀rest,cg P G R ops (B++n::rest) e h=J (.normal,e',h')->cg P G R ops (n::(B++rest)) e h=J (.normal,e',h'):=by
 intro B
 induction B with
 |nil=>simp_all|cons k B ih=>
  intro e e' h h' X rest f;rw[fw,oO]at f;obtain⟨x,m,h1,hs,f⟩:=f;obtain⟨hk,hp,r⟩:=X k gj;have f:=ih (λz1 hm=>X z1 (gi _ hm)) rest f;obtain⟨rfl,rfl,D⟩:=Sp hp hs;rw[oO]at f ⊢;obtain⟨x2,e2,h2,Y,f⟩:=f;obtain⟨rfl,rfl,hd,o,t,a,v,c,off,z1,cs,fM,E,C,g3,N,T,g6,g7,g8,g9,rfl⟩:=Ef hn Y;have s:∀z∈o.op.operands,(m.put (iY ops k) x).eval z=m.eval z:=by
   intro z hz;cases z with
   |tmp z0=>
    show(m.put (iY ops k) x).get z0=m.get z0;rw[Rn];split
    .rename_i hq;exfalso;unfold o7 at r;have A:ops[k]?=J ops[k]:=mh hk;rw[A,E]at r;simp only[bR]at r;rw[Ag A]at hq;have azn:z0∈o.looksAt ops:=(by unfold Oper.looksAt;exact Tt _ (List.mem_filterMap.2 ⟨.tmp z0,by simp_all,O⟩));have h1:=r.1;unfold Oper.apart at h1;simp_all
    .rfl
   |_=>rfl
  rw[s a (by rw[C];simp[Op.operands])]at N;rw[s v (by rw[C];simp[Op.operands])]at T;refine⟨_,m,_,Ss E C g3 N T g6 g7 g8 g9,?_⟩;rw[hd]at f ⊢;show cg P G R ops (k::(B++rest)) m _=_;rw[oO];exact⟨x,m,_,D m _ (λo ho t ht=>rfl),f⟩
def awz(hi:wV ops i=aa)(hn:wV ops n=aa){e e':Env}{h h':am}{bi bn:Nat}(h1:qC ops i e=J bi)(h2:qC ops n e=J bn)(B:bi≠bn)(rest:List Nat)(f:cg P G R ops (i::n::rest) e h=J (.normal,e',h')):cg P G R ops (n::i::rest) e h=J (.normal,e',h'):=by
 rw[oO]at f;obtain⟨x,e1,hh1,hs,f⟩:=f;obtain⟨rfl,rfl,Y,o,t,a,v,c,off,z0,cs,s,E,N,g3,T,g5,g6,g7,g8,g9,rfl⟩:=Ef hi hs;rw[Y]at f;replace f:cg P G R ops (n::rest) e1 (h.qU c (dW s off cs))=J (.normal,e',h'):=f;rw[oO]at f;obtain⟨x2,D,vz,oD,f⟩:=f;obtain⟨rfl,rfl,C,o2,t2,a2,v2,c2,r,m2,A,m,k1,k2,k3,k4,k5,k6,k7,k8,k9,rfl⟩:=Ef hn oD;have q1:bi=c:=by unfold qC at h1;rw[E]at h1;simp only[N,T]at h1;injection h1 with h1;exact h1.symm
 have q2:bn=c2:=by unfold qC at h2;rw[k1]at h2;simp only[k2,k4]at h2;injection h2 with h2;exact h2.symm
 subst q1;subst q2;have k7':h.V[bn]?=J m:=by rw[<-k7];exact(US (λq=>B q.symm)).symm
 have X:(h.qU bn (dW m r A)).V[bi]?=J s:=by rw[US B];exact g7
 rw[oO];refine⟨_,D,_,Ss k1 k2 k3 k4 k5 k6 k7' k8 k9,?_⟩;rw[C];show cg P G R ops (i::rest) D _=_;rw[oO];refine⟨_,D,_,Ss E N g3 T g5 g6 X g8 g9,?_⟩;rw[Y];rw[C]at f;have ak1:(h.qU bn (dW m r A)).qU bi (dW s off cs)=(h.qU bi (dW s off cs)).qU bn (dW m r A):=by unfold am.qU;simp only[List.set_comm _ _ B]
 simp_all
def aiM(eH:DB ops i=aa)(B:rt P G R ops e h i=aa)(r:my P G R (gx ops i (ops.size-1)) e h=aa)(he:cg P G R ops (bE ops.size) e h=J (.normal,e',h'))(tp:Nat):
 ∃e2,cg P G R ops (Region.linearise .any ops tp) e h=J (.normal,e2,h')/\jI e2 e':=by
 unfold DB at eH;simp only[bR,decide_eq_true_eq,e8,gb,pO]at eH;obtain⟨k0,k1,T,k3,k4⟩:=eH;obtain⟨n,Jx⟩:∃n,ops.size-1=n:=⟨_,O⟩;have hn:n+1=ops.size:=by omega
 simp only[Jx]at r k3 k4;have m:cg P G R (gx ops i n) (bE (gx ops i n).size) e h=J (.normal,e',h'):=by rw[qZ,Bj];exact he
 have On:=aft (Wc r);have A:=Zx On tp;rcases apH (i:=i) On hn ag _ (λ_=>ar) O O (λk o ho hS=>by cases hS) A with q|⟨pre,M1,s,S',q1,q7,q2,q3,q4,q5,q6⟩
 .obtain⟨e2,AF,C⟩:=Qu m (vn r) _ _ _ _ (J2 m) q;rw[Bj]at AF;simp_all
 .have good:∀k,k<ops.size/\k≠i/\k≠n/\S' k=ar->k<ops.size/\ph ops k=.pure/\o7 ops k n=aa:=by
   rintro k ⟨p1,p2,p3,p4⟩;rcases k4 k ag with w|w|w
   .simp_all
   .have:=afL k0 q3 n ag q2 w p1;simp_all
   .refine⟨p1,?_,w.2⟩;have w1:=w.1;unfold aaX at w1;cases ho:ops[k]? with|none=>simp_all|some o=>rw[ho]at w1;simpa [ph,ho] using w1
  rw[<-List.append_assoc]at q6;obtain⟨S2,em,f,ev1,I1,L1⟩:=Zz m (vn r) (pre++M1) (i::(s++[n])) _ _ _ (J2 m) q6;obtain⟨l1,l2,l3,l4⟩:=L1;have al1:=YT m (vn r) I1 l1 l2 l3;obtain⟨x,e2,h2,hs,Y⟩:=next m (vn r) I1 l1 l2 l3
  have JK:h_ P G R ops i em f=J (x,e2,h2):=by have:=Bj (P:=P) (G:=G) (R:=R) (ops:=ops) (i:=i) (j:=n) [i] em f;have h3:cg P G R (gx ops i n) [i] em f=J (.normal,e2.put (iY (gx ops i n) i) x,h2):=oO.2 ⟨x,e2,h2,hs,O⟩;rw[this]at h3;obtain⟨x',e3,h4,JL,FT⟩:=oO.1 h3;obtain⟨rfl,rfl,rZ,o3,t3,a3,v3,c3,off3,m3,cs3,old3,z1,z2,z3,z4,z5,z6,z7,z8,z9,rfl⟩:=Ef T JL;rw[rZ]at FT;simp only[cg,eo,dw,true_and]at FT;obtain⟨r1,r2⟩:=FT;have hx:x=.tuple []/\e2=e3:=(by have hgE:(gx ops i n)[i]?=J o3:=(by rw[Cm,z1,gq,aL ag]);have hSt:wV (gx ops i n) i=aa:=(by unfold wV at T ⊢;rw[hgE];rw[z1]at T;exact T);obtain⟨y1,y2,-⟩:=Ef hSt hs;exact⟨y1,y2⟩);rw[hx.1,hx.2,<-r2];exact JL
  obtain⟨rfl,rfl,hd,o,t,a,v,c,off,X,cs,fM,g1,g2,g3,g4,g5,g6,g7,g8,g9,rfl⟩:=Ef T JK;have hdE:iY (gx ops i n) i=ao:=by unfold iY at hd ⊢;rw[VR];exact hd
  rw[hdE]at Y;replace Y:Inv P G R (gx ops i n) e h (Region.before (gx ops i n)) (dG S2 i) e2 (f.qU c (dW fM off cs)):=Y;obtain⟨Sn,en,hhn,ev2,I3,L3⟩:=Zz m (vn r) s [n] _ _ _ Y l4;obtain⟨e5,XH,C⟩:=Qu m (vn r) _ _ _ _ I3 L3;have alz:S2 n=ar/\nQ ops S2 n:=by
   refine⟨?_,?_⟩
   .have:∀(L:List Nat) (S:Nat->Bool),nK (gx ops i n) S L->∀X∈L,S X=ar:=by
     intro L
     induction L with
     |nil=>simp_all|cons a L ih2=>
      intro S A X f;obtain⟨u1,u2,u3,u4⟩:=A;rcases gX.1 f with rfl|f
      .exact u2
      .have p2:=ih2 _ u4 X f;unfold dG at p2;simp_all
    have:=this _ _ l4 n cB;unfold dG at this;simp_all
   .intro o' wO N AC hb;have hS:S' N.on=aa:=q2 o' wO N AC hb;have dx:N.on<n:=On n o' wO N AC hb;cases hq:S2 N.on with
    |true=>rfl|false=>
     exfalso;have mem:∀(L:List Nat) (S:Nat->Bool),nK (gx ops i n) S L->∀X,X<ops.size->S X=ar->X∈L:=by
      intro L
      induction L with
      |nil=>intro S A X f hSm;have:=A X (by rw[qZ];exact f);simp_all
      |cons a L ih2=>
       intro S A X f hSm;obtain⟨u1,u2,u3,u4⟩:=A;by_cases hma:X=a
       .simp_all
       .exact gi _ (ih2 _ u4 X f (by unfold dG;simp_all))
     have s_:=mem (i::(s++[n])) S2 ⟨l1,l2,l3,l4⟩ N.on ag hq
     grind
  have Px:nQ (gx ops i n) (dG S2 i) n:=xi (ready_mono alz.2 λj hj=>by unfold dG;simp_all) λ_=>by unfold dG;simp_all
  have al2:=YT m (vn r) Y (k:=n) (by rw[qZ];omega) (by unfold dG;grind) Px;have stE:∀k,dh P G R (gx ops i n) e h k=dh P G R ops e h k:=λk=>by unfold dh;rw[Bj]
  have put_congr:∀(k:Nat) (D E:Env),(∀o,(gx ops i n)[k]?=J o->Alike (gx ops i n) D E o)->qC ops k D=qC ops k E:=by
   intro k D E vw;unfold qC;cases ho:ops[k]? with
   |none=>rfl|some o'=>
    have hg:(gx ops i n)[k]?=J (if k=n then {o' with after:=o'.after.push {on:=i,ground:=.data}} else o'):=(by rw[Cm,ho];rfl);have hz:=EQ (vw _ hg);have oF:∀z∈o'.op.operands,D.eval z=E.eval z:=by
     intro z hzm;refine hz z ?_
     grind
    show(match o'.op with| .store _ a _=>(match D.eval a with| .ptr (.box b) _=>J b|_=>ao)|_=>ao)=(match o'.op with| .store _ a _=>(match E.eval a with| .ptr (.box b) _=>J b|_=>ao)|_=>ao)
    revert oF
    generalize o'.op=op;intro oF;cases op with|store t' a' v'=>have:D.eval a'=E.eval a':=oF a' (by simp[Op.operands]);simp_all|_=>rfl
  have hb:∃bi bn,qC ops i e2=J bi/\qC ops n e2=J bn/\bi≠bn:=by
   unfold rt at B;rw[Jx]at B;split at B
   .rename_i ei _ en _ r1 r2;have s1:(dh P G R ops e h i).1=ei:=(by unfold dh;rw[r1]);have s2:(dh P G R ops e h n).1=en:=(by unfold dh;rw[r2]);split at B
    .rename_i bi bn u1 u2;refine⟨bi,bn,?_,?_,?_⟩
     .grind
     .grind
     .rintro rfl;simp_all
    simp_all
   .grind
  obtain⟨bi,bn,b1,b2,b3⟩:=hb;have t1:cg P G R ops (s++n::[]) e2 (f.qU c (dW fM off cs))=J (.normal,e5,h'):=by rw[Dw];rw[Bj]at ev2 XH;exact⟨_,_,ev2,XH⟩
  have t2:=ZR k3 s (λk hk=>good k (q5 k hk)) [] t1;rw[g']at t2;have t3:cg P G R ops (i::n::s) e2 f=J (.normal,e5,h'):=by rw[oO];refine⟨_,_,_,JK,?_⟩;rw[hd];exact t2
  have t4:=awz T k3 b1 b2 b3 s t3;rw[Bj,Dw]at ev1;obtain⟨e0,h0,v1,v2⟩:=ev1;have t5:cg P G R ops (M1++n::(i::s)) e0 h0=J (.normal,e5,h'):=Dw.2 ⟨_,_,v2,t4⟩;have t6:=ZR k3 M1 (λk hk=>good k (q4 k hk)) _ t5;refine⟨e5,?_,C⟩;rw[q1];exact Dw.2 ⟨_,_,v1,t6⟩
def stores_cases{e:Env}{h:am}(f:zx P G R ops e h=aa):∃i,i<ops.size/\DB ops i=aa/\rt P G R ops e h i=aa/\my P G R (gx ops i (ops.size-1)) e h=aa:=by unfold zx at f;simp_all
def stores_of{e:Env}{h:am}{i:Nat}(h1:i<ops.size)(h2:DB ops i=aa)(f:rt P G R ops e h i=aa)(m:my P G R (gx ops i (ops.size-1)) e h=aa):zx P G R ops e h=aa:=by
 unfold zx
 grind
end
section
open Go.RowKit (Below)
section
variable {P:bO} {G:Nat->Option (List I)} {w0:cC} {R:Rec}
def av3{b:fq}{a:Act}{k:List Item}{cs:List fq}:step P (lone (b.atR a (.code (.scope c)::k)) cs w)=.next (lone (b.atR a (.code c::.inScope c::k)) cs w):=by rfl
def av2{b:fq}{a:Act}{k:List Item}{cs:List fq}:step P (lone (b.atR a (.inScope c::k)) cs w)=.next (lone (b.atR a k) cs w):=by rfl
def nF.apY{m:Machine}{B:fq}{k:List Item}{cs:List fq}{x:Xt}{a:Act}(f:x≠ .normal)
 (h:nF P K m B (.inScope c::k) cs x a w):nF P K m B k cs x a w:=by
 cases x with
 |normal=>simp_all|exit id=>obtain⟨t,h1,h2⟩:=h;exact⟨t,h1.trans O,h2⟩
 |ret=>exact h|panic x=>exact h
def ZT22{p:Prop}(h:p:=by
 have f:J (o1,e1,h1)=J (M,e',h'):=(by simp_all);simp only[eo,dw]at f;obtain⟨rfl,rfl,rfl⟩:=f;exact⟨K1,s,D,r,m,L1.le,L1.ry,L1.frame,L1.cs,L1.size,L1.marks,(L1.arr.pass O E).of_steps start⟩):p:=h
def ahQ(hn:BR P)(alv:P.follows .mixedOrders=aa)(hR:uV P G w0 R):TT P G w0 (fP P G R):=by
 intro c e h M e' h' f K w a Y k A cs X B T hs C;cases c with
 |skip=>simp only[fP,eo,dw]at f;obtain⟨rfl,rfl,rfl⟩:=f;exact⟨K,w,a,cs,X,.refl B T hs (.one stepR_skip)⟩
 |label l=>simp only[fP,eo,dw]at f;obtain⟨rfl,rfl,rfl⟩:=f;exact⟨K,w,a,cs,X,.refl B T hs (.one stepR_label)⟩
 |region id ops draw=>
  simp only[codeOk]at C;cases draw with
  |false=>simp only[fP,jE,if_false]at f;obtain⟨K',w',a',kY,L⟩:=aam hn hR _ _ _ _ _ _ f K w a Y k A cs X B T hs C;exact⟨K',w',a',kY,X,.of_steps (.one stepR_region) L⟩
  |true=>
   simp only[fP,if_true,MS]at f;obtain⟨AF,z1⟩:=f;have Yw:=stepR_region_draw (P:=P) (b:=Y) (a:=a) (k:=k) (cs:=cs) (w:=w) (ops:=ops) (id:=id);have alO:Region.schedule (P.follows .mixedOrders) ops (w.tape w.drawn (.order Y.fn id))=Region.linearise .any ops (w.tape w.drawn (.order Y.fn id)):=(by simp only[Region.schedule,alv,Bool.true_or,if_true]);rw[alO]at Yw;obtain⟨e2,alb,Yt⟩:∃e2,cg P G R ops (Region.linearise .any ops (w.tape w.drawn (.order Y.fn id))) e h=J (M,e2,h')/\jI e2 e':=by
    cases M with
    |normal=>
     rcases (pO _ _).mp z1 with AG|gG
     .exact aiL AF AG _
     .obtain⟨i,-,CN,wM,hi3⟩:=stores_cases gG;exact aiM CN wM hi3 AF _
    |panic x=>simp only[drawC,bR]at z1;exact aiN z1.1 z1.2.1 z1.2.2 AF _|_=>cases z1
   obtain⟨K',w',a',kY,L⟩:=aam hn hR _ _ _ _ _ _ alb K {w with drawn:=w.drawn+1} a Y k A cs X B T (hs.drew _) C;exact⟨K',w',a',kY,X,L.le,L.ry,L.frame.same Yt,Yt.da ▸ L.cs,L.size,L.marks,L.arr.of_steps (.one Yw)⟩
 |seq x y=>
  simp only[codeOk,bR]at C;simp only[fP]at f;cases hx:R.code x e h with
  |none=>simp_all|some q=>
   obtain⟨o1,e1,h1⟩:=q;rw[hx]at f;obtain⟨K1,s,D,r,m,L1⟩:=hR.code x e h _ _ _ hx K w a Y (.code y::k) A cs X B T hs C.1;have start:=Steps.one (stepR_seq (P:=P) (b:=Y) (a:=a) (k:=k) (cs:=cs) (w:=w) (x:=x) (y:=y));by_cases E:o1=.normal
   .subst E;simp only at f;obtain⟨K2,w2,a2,cs2,ms2,L2⟩:=hR.code y e1 h1 _ _ _ f K1 s D Y k A r m L1.frame L1.cs L1.ry (by rw[L1.size];grind);refine⟨K2,w2,a2,cs2,ms2,L1.le.trans L2.le,L2.ry,L2.frame,L2.cs,L2.size.trans L1.size,λz0 hr=>?_,(L2.arr.of_steps L1.arr).of_steps start⟩;rcases L2.marks z0 hr with hq|hq
    .exact L1.marks z0 hq
    .exact .inr λhm=>hq (L1.le.md z0 hm)
   .exact ZT22
 |cond q x y=>
  simp only[codeOk,bR]at C;simp only[fP]at f;have hv:=yi B.gN q;split at f
  .rename_i hq;rw[hq]at hv;obtain⟨K1,s,D,r,m,L1⟩:=hR.code x e h _ _ _ f K w a Y k A cs X B T hs C.1;exact⟨K1,s,D,r,m,L1.of_steps (.one (by have:=stepR_cond (P:=P) (b:=Y) (k:=k) (cs:=cs) (w:=w) (x:=x) (y:=y) hv.hY.1;simp_all))⟩
  .rename_i hq;rw[hq]at hv;obtain⟨K1,s,D,r,m,L1⟩:=hR.code y e h _ _ _ f K w a Y k A cs X B T hs C.2;exact⟨K1,s,D,r,m,L1.of_steps (.one (by have:=stepR_cond (P:=P) (b:=Y) (k:=k) (cs:=cs) (w:=w) (x:=x) (y:=y) hv.hY.1;simp_all))⟩
  grind
 |block id x=>
  simp only[codeOk]at C;simp only[fP]at f;cases hx:R.code x e h with
  |none=>simp_all|some q=>
   obtain⟨o1,e1,h1⟩:=q;rw[hx]at f;obtain⟨K1,s,D,r,m,L1⟩:=hR.code x e h _ _ _ hx K w a Y (.inBlock id::k) A cs X B T hs C;have start:=Steps.one (stepR_block (P:=P) (b:=Y) (a:=a) (k:=k) (cs:=cs) (w:=w) (id:=id) (c:=x));have fin:∀{o:Xt},nF P K1 (lone (Y.atR a (.code x::.inBlock id::k)) cs w) Y k r o D s->Left P G w0 K X Y A (lone (Y.atR a (.code (.block id x)::k)) cs w) k a.tmps.size o e1 h1 K1 s D r m:=λha=>
    ⟨L1.le,L1.ry,L1.frame,L1.cs,L1.size,L1.marks,ha.of_steps start⟩
   cases o1 with
   |normal=>simp only[eo,dw]at f;obtain⟨rfl,rfl,rfl⟩:=f;exact⟨K1,s,D,r,m,fin (L1.arr.trans (.one stepR_inBlock))⟩
   |exit id'=>
    simp only at f;obtain⟨t,h2,h3⟩:=L1.arr;split at f
    .rename_i O2;subst O2;simp only[eo,dw]at f;obtain⟨rfl,rfl,rfl⟩:=f;refine⟨K1,s,D,r,m,fin (h3.trans (.one (stepR_exit (h2.trans ?_))))⟩;simp[exitTo]
    .rename_i O2;simp only[eo,dw]at f;obtain⟨rfl,rfl,rfl⟩:=f;refine⟨K1,s,D,r,m,fin ⟨t,h2.trans ?_,h3⟩⟩;simp[exitTo,Ne.symm O2]
   |ret=>simp only[eo,dw]at f;obtain⟨rfl,rfl,rfl⟩:=f;obtain⟨t,h3⟩:=L1.arr;exact⟨K1,s,D,r,m,fin ⟨t,h3⟩⟩
   |panic x=>simp only[eo,dw]at f;obtain⟨rfl,rfl,rfl⟩:=f;obtain⟨t,v,h2,h3⟩:=L1.arr;exact⟨K1,s,D,r,m,fin ⟨t,v,h2,h3⟩⟩
 |loop x=>
  have alD:codeOk a.tmps.size x=aa:=by simpa only[codeOk] using C
  simp only[fP]at f;cases hx:R.code x e h with
  |none=>simp_all|some q=>
   obtain⟨o1,e1,h1⟩:=q;rw[hx]at f;obtain⟨K1,s,D,r,m,L1⟩:=hR.code x e h _ _ _ hx K w a Y (.inLoop x::k) A cs X B T hs alD;have start:=Steps.one (stepR_loop (P:=P) (b:=Y) (a:=a) (k:=k) (cs:=cs) (w:=w) (c:=x));by_cases E:o1=.normal
   .subst E;simp only at f;obtain⟨K2,w2,a2,cs2,ms2,L2⟩:=hR.code (.loop x) e1 h1 _ _ _ f K1 s D Y k A r m L1.frame L1.cs L1.ry (by rw[L1.size];omega);have Oy:=nF.swap (c:=.loop x) (m':=lone (Y.atR D (.inLoop x::k)) r s) (λ_=>by simp) cB O stepR_loop stepR_inLoop L2.arr;refine⟨K2,w2,a2,cs2,ms2,L1.le.trans L2.le,L2.ry,L2.frame,L2.cs,L2.size.trans L1.size,λz0 hr=>?_,(Oy.of_steps L1.arr).of_steps start⟩;rcases L2.marks z0 hr with hq|hq
    .exact L1.marks z0 hq
    .exact .inr λhm=>hq (L1.le.md z0 hm)
   .exact ZT22
 |scope x=>
  simp only[codeOk]at C;simp only[fP]at f;obtain⟨K1,s,D,r,m,L1⟩:=hR.code x e h _ _ _ f K w a Y (.inScope x::k) A cs X B T hs C;have start:=Steps.one (av3 (P:=P) (b:=Y) (a:=a) (k:=k) (cs:=cs) (w:=w) (c:=x));by_cases E:M=.normal
  .subst E;exact⟨K1,s,D,r,m,L1.le,L1.ry,L1.frame,L1.cs,L1.size,L1.marks,(show nF P K1 _ Y k r .normal D s from L1.arr.trans (.one av2)).of_steps start⟩
  .exact⟨K1,s,D,r,m,L1.le,L1.ry,L1.frame,L1.cs,L1.size,L1.marks,(L1.arr.apY E).of_steps start⟩
 |exit id=>simp only[fP,eo,dw]at f;obtain⟨rfl,rfl,rfl⟩:=f;exact⟨K,w,a,cs,X,.refl B T hs ⟨k,O,.refl P _⟩⟩
 |ret=>simp only[fP,eo,dw]at f;obtain⟨rfl,rfl,rfl⟩:=f;exact⟨K,w,a,cs,X,.refl B T hs ⟨k,.refl P _⟩⟩
 |rangeFunc z2 ps assign body=>
  simp only[codeOk,bR]at C;obtain⟨⟨CX,Yb⟩,Yc⟩:=C;have CX:=aow CX;simp only[fP]at f;split at f
  .rename_i g first aY AF
   have PT:=yi B.gN z2;rw[AF]at PT;have enter:∃(lg:Nat) (mark:List Deferred) (K1:bj) (s:cC) (m:List Nat),(Instr.enterLoop Y.fn a.tmps ps assign body Y.roundOf).run P w=.ok (lg,mark) s/\K.Le K1/\
    jJ P G w0 K1 {h with aB:=h.aB++[{tmps:=e.tmps,params:=ps,assign,body,state:=.ready,pending:=ao}]} s/\K1.γ[F h.aB]?=J lg/\
    ng P K1 e {a with defers:=mark++a.defers} Y m/\∀z0∈m,z0∈X∨z0∉K.md:=by
    have JA:∀c,codeOk a.tmps.size c=aa->Du P Y.fn a.tmps.size c=aa:=λc hc=>(by unfold Du;rw[hc,B.fn];rfl);have yE:=B.round;cases oC:e.round with
    |none=>
     rw[oC]at yE;simp only at yE;have FQ:w.heap.size∉K.md:=λhq=>absurd (qw (hs.md _ hq).2) (Nat.lt_irrefl _);have s1:=hs.aoJ;have le1:=K.Zm w.heap.size;obtain⟨s2,hγ⟩:=s1.ZY (r:={tmps:=e.tmps,params:=ps,assign,body,state:=.ready,pending:=ao}) (fn:=Y.fn) w.heap.size (B.gN.mono le1) (JA _ Yb) (JA _ Yc) CX;have N:=(K.mark w.heap.size).Qk (w.alloc (.deferred (J []))).heap.size;refine⟨_,_,_,_,w.heap.size::X,by rw[yE];exact run_enterLoop_outer _ _ _ _ _,le1.trans N,s2,?_,?_,?_⟩
     .simp_all
     .have CL:=B.mono (le1.trans N);refine⟨CL.gN,?_,?_,B.fn⟩
      .refine .mark _ _ _ _ (by simp[bj.loop,bj.mark]) (λhq=>FQ (B.defers.sub _ hq)) CL.defers
      simp_all
     simp_all
    |some l=>
     rw[oC]at yE;obtain⟨lg,hl,hb,alj,hd,hm,AC⟩:=yE;have fQ:l<F h.aB:=(by rw[<-hs.nb];exact(aU.1 hl).1);obtain⟨k1,fn,tmps,d,k2,-⟩:=hs.loop l lg _ hl (aW fQ);obtain⟨s2,hγ⟩:=hs.ZY (r:={tmps:=e.tmps,params:=ps,assign,body,state:=.ready,pending:=ao}) (fn:=Y.fn) d B.gN (JA _ Yb) (JA _ Yc) CX;have N:=K.Qk w.heap.size;refine⟨_,[],_,_,X,?_,N,s2,hγ,?_,λz0 hr=>.inl hr⟩
     .rw[hb];unfold Instr.enterLoop;simp only[Sem.run_bind,run_getLoop k2,run_newObj_alloc,Result.andThen,Sem.run_pure]
     .have CL:=B.mono N;exact⟨CL.gN,CL.defers,by rw[oC];exact⟨lg,N.γ _ _ hl,hb,alj,hd,hm,AC⟩,B.fn⟩
   obtain⟨lg,mark,K1,s,m,Jh,le1,s1,hγ,f1,Jw⟩:=enter;generalize hqv:a.eval z2=qv at PT;cases PT with
   |func _ _ _ fs kY g1 g2=>
    cases Ax:R.call g (first++[.yield (F h.aB)]++aY) {h with aB:=h.aB++[{tmps:=e.tmps,params:=ps,assign,body,state:=.ready,pending:=ao}]} with
    |none=>simp_all|some q=>
     obtain⟨z0,h2⟩:=q;rw[Ax]at f;obtain⟨⟨fnn,FJ,CH⟩,hc⟩:=hR.call _ _ _ _ _ Ax;have jx:aN K1 (first++[.yield (F h.aB)]++aY) (fs++#[Value.func (.yield lg) #[] #[]]++kY).toList:=(by simp only[Array.toList_append];exact((g1.mono le1).append (.cons _ _ _ _ (.yield _ _ hγ) .nil)).append (g2.mono le1));obtain⟨K2,w2,fr,N,s2,gG,-,hl⟩:=hc K1 s _ jx s1 (Y.atR {a with defers:=mark++a.defers} (.inRangeFunc lg::k)::cs);have PJ:=stepR_rangeFunc (P:=P) (b:=Y) (a:=a) (k:=k) (cs:=cs) (w:=w) (g:=z2) (ps:=ps) (assign:=assign) (body:=body) (l:=lg) (mark:=mark) (w₁:=s) (w₁':=s) (w₂:=s) (d:={target:=.fn (.func g) kY,args:=fs++#[Value.func (.yield lg) #[] #[]]}) (f:=g) (args:=fs++#[Value.func (.yield lg) #[] #[]]++kY) Jh
      (by have ak3:∀v,a.eval (.const v)=v:=λ_=>rfl;simp[resolve,rangeCall,hqv,Deferred.ofValue,ak3]) (by simp only[invoke];exact R4 hn FJ CH _ _)
     have start:=Steps.head PJ gG;have f2:=f1.mono N;have c2:CS K2 Y.kind A e.da cs:=T.mono (le1.trans N);cases z0 with
     |panic x=>simp only[eo,dw]at f;obtain⟨rfl,rfl,rfl⟩:=f;obtain⟨v,hx,hl⟩:=hl;refine⟨K2,w2,_,cs,m,le1.trans N,s2,f2,c2,O,Jw,.inRangeFunc lg::k,v,hx,start.trans (.one ?_)⟩;rw[step_leave_panicked hl,Frame.raise_atR]
     |ret x=>
      obtain⟨v,hx,hl⟩:=hl;have back:=start.trans (.one (step_leave_returned hl));rw[finish_atR_inRangeFunc]at back;simp only at f;split at f
      .rename_i z0 hr;split at f
       .cases f
       .rename_i ay9;obtain⟨mm,m1,m2,m3,-,-,-,-,-,-,-,s3⟩:=s2.eM (N.γ _ _ hγ) hr .exhausted z0.pending;have AD:=run_endLoop (P:=P) m1 (by simp_all);have CK:({mm with state:=.exhausted,pending:=z0.pending}:Loop)={mm with state:=.exhausted}:=(by grind);rw[CK]at s3;have ak9:(Instr.endLoop lg).run P w2=.ok z0.pending (w2.putObj lg (.loop {mm with state:=.exhausted})):=(by rw[<-m3];exact AD);have back2:=back.trans (.one (stepR_endRangeFunc ak9));cases hp:z0.pending with
        |none=>rw[hp]at f back2 s3;simp only[eo,dw]at f;obtain⟨rfl,rfl,rfl⟩:=f;exact⟨K2,_,_,cs,m,le1.trans N,s3,f2,c2,O,Jw,back2⟩
        |some code=>
         rw[hp]at f back2 s3;cases code with
         |ret=>simp only[eo,dw]at f;obtain⟨rfl,rfl,rfl⟩:=f;exact⟨K2,_,_,cs,m,le1.trans N,s3,f2,c2,O,Jw,k,back2⟩
         |exit id=>simp only[eo,dw]at f;obtain⟨rfl,rfl,rfl⟩:=f;exact⟨K2,_,_,cs,m,le1.trans N,s3,f2,c2,O,Jw,k,O,back2⟩
         |_=>cases f
      grind
  grind
 |_=>simp[fP]at f
end
end
section
open Go.RowKit (Below)
section
variable {P:bO} {G:Nat->Option (List I)} {w0:cC} {R:Rec}
def KJ(tmps:Array a_):ResultVar->Sem a_
 | .tmp t=>pure (tmps.getD t undef)
 | .cell a t=>do loadVar t (<-asAddr (tmps.getD a undef))
def arS(s:jJ P G w0 K h w)(B:lF K e.tmps tmps):∀{r:List ResultVar} {l:List I},uC P G e h r=J l->
 ∃vs:List a_,aN K l vs/\(r.mapM (KJ tmps)).run P w=.ok vs w:=by
 intro r
 induction r with
 |nil=>intro l f;simp only[uC,eo]at f;subst f;exact⟨[],.nil,by simp⟩|cons X r C=>
  intro l f;cases X with
  |tmp t=>simp only[uC,dO]at f;obtain⟨T,m,rfl⟩:=f;obtain⟨vs,h1,h2⟩:=C m;exact⟨_::vs,.cons _ _ _ _ (B t) h1,by simp[adL,h2,KJ]⟩
  |cell a t=>
   simp only[uC]at f;split at f
   .rename_i x T N m;injection f with f;subst f;obtain⟨vs,h1,h2⟩:=C m;obtain⟨g,p,v,D,A,E⟩:=ZA s N (B a);refine⟨v::vs,.cons _ _ _ _ E h1,?_⟩;rw[adL];simp only[KJ,D,asAddr,Sem.run_bind,Sem.run_pure,Result.andThen_ok,A,h2]
   grind
def arT(s:jJ P G w0 K h w)(X:lF K e.tmps tmps)(m:GE P G fn e h=J x):
 ∃v,aV K x v/\(results fn tmps).run P w=.ok v w:=by
 unfold GE at m;have A:∀l,uC P G e h fn.results.toList=J l->∃f:List a_,aN K l f/\(results fn tmps).run P w=.ok (if D:f.toArray.size=1 then f.toArray[0] else .tuple f.toArray) w:=by
  intro l r;obtain⟨f,h1,h2⟩:=arS s X r;refine⟨f,h1,?_⟩;have B:results fn tmps=(do let f <-fn.results.mapM (KJ tmps);pure (if h:f.size=1 then f[0] else .tuple f)):=by unfold results;congr 2
  rw[B,Array.mapM_eq_mapM_toList];simp only[Sem.run_bind,Sem.run_map,h2,Result.andThen_ok,Sem.run_pure]
 split at m
 .rename_i x' r;injection m with m;subst m;obtain⟨f,h1,h2⟩:=A _ r;cases h1 with|cons _ c _ cs Y E=>cases E;simp_all
 .rename_i l C r;injection m with m;subst m;obtain⟨f,h1,h2⟩:=A _ r;refine⟨.tuple f.toArray,.tuple _ _ ag,?_⟩;rw[h2];have N:F f≠1:=by rw[<-h1.length];intro T;obtain⟨y,rfl⟩:=List.length_eq_one_iff.1 T;exact C y O
  grind
 grind
def qN(K:bj):Option (I × Bool)->FrameMode->Prop
 |none,u=>u=.returning
 |some (x,f),u=>f=ar/\∃v,aV K x v/\u=.panicking [{v,recovered:=ar}]
def qN.run{m u}(h:qN K m u):u≠ .run:=by
 cases m with|none=>simp only[qN]at h;simp_all|some p=>obtain⟨x,f⟩:=p;obtain⟨_,v,_,h⟩:=h;simp_all
def qN.un{m u}(h:qN K m u):qN (K.un r) m u:=by
 cases m with|none=>exact h|some p=>obtain⟨x,r⟩:=p;obtain⟨h1,v,h2,h⟩:=h;exact⟨h1,v,aV.un h2,h⟩
def qN.mono{K'}(le:K.Le K'){m u}(h:qN K m u):qN K' m u:=by
 cases m with|none=>exact h|some p=>obtain⟨x,f⟩:=p;obtain⟨h1,v,h2,h⟩:=h;exact⟨h1,v,h2.mono le,h⟩
def lF.un{s tmps}(h:lF K s tmps):lF (K.un r) s tmps:=λt=>aV.un (h t)
def av7{fr:fq}{cs:List fq}{args:Array a_}{m:List Deferred}(D:fr.mode≠ .run)(s:fr.defers={target:=.collected r,args}::m)(C:w.heap[r]?=J (.deferred (J []))):
 step P (lone fr cs w)=.next (lone {fr with defers:=m} cs (w.putObj r (.deferred ao))):=by
 refine step_lone_go ?_;have A:=run_takeDeferred (P:=P) C;cases f:fr.mode with|run=>simp_all|returning=>simp[stepG,unwind,f,s,Sem.runT_eq,A]|panicking B=>simp[stepG,unwind,f,s,Sem.runT_eq,A]
def settled:Option (I × Bool)->Option (I × Bool)
 |some (_,aa)=>ao
 |q=>q
def Eo(P:bO)(K:bj)(fn:Func)(f:fq)(w:cC):dP->Prop
 | .ret x=>f.mode=.returning/\∃v,aV K x v/\(results fn f.tmps).run P w=.ok v w
 | .panic x=>∃v,aV K x v/\f.mode=.panicking [{v,recovered:=ar}]
def axr(hR:uV P G w0 R)(hn:BR P)(FJ:P.funcs[g]?=J fn):∀(f:List Deferred) (ds:List (bk × List I)) (ms:List Nat) (m:Option (I × Bool)) (h:am) (res:dP) (h':am),
 gO P G R fn e ds m h=J (res,h')->∀(K0:bj) (w:cC) (fr:fq) (cs:List fq),fr.fn=g->fr.defers=f->p_ K0 ds f ms->lF K0 e.tmps fr.tmps->qN K0 m fr.mode->jJ P G w0 K0 h w->K.Le K0->
 (∀r∈ms,r∉K.md)->
 ∃K' w' A,K.Le K'/\jJ P G w0 K' h' w'/\Steps P (lone fr cs w) (lone A cs w')/\A.kind=fr.kind/\A.defers=[]/\A.fn=g/\Eo P K' fn A w' res/\(∀kind base p cs,CS K0 kind base p cs->CS K' kind base p cs):=by
 intro f
 induction f with
 |nil=>
  intro ds ms m h res h' B K0 w fr cs hg hd T oE s hs X Jv;generalize Y:([]:List Deferred)=q at T;cases T with
  |call=>cases Y
  |mark=>cases Y
  |nil=>
   cases m with
   |none=>simp only[gO,dO,dw]at B;obtain⟨x,hx,rfl,rfl⟩:=B;obtain⟨v,h1,h2⟩:=arT hs oE hx;exact⟨K0,w,fr,X,hs,.refl P _,O,hd,hg,⟨s,v,h1,h2⟩,λ_ _ _ _ h=>h⟩
   |some p=>obtain⟨x,r⟩:=p;simp only[gO,eo,dw]at B;obtain⟨rfl,rfl⟩:=B;obtain⟨-,v,h1,h2⟩:=s;exact⟨K0,w,fr,X,hs,.refl P _,O,hd,hg,⟨v,h1,h2⟩,λ_ _ _ _ h=>h⟩
 |cons d f ih=>
  intro ds ms m h res h' B K0 w fr cs hg hd T oE s hs X Jv;generalize Y:d::f=q at T;cases T with
  |nil=>cases Y
  |mark r ds' cds' ms' hr hnr E=>injection Y with tg wP;subst tg;subst wP;have hmd:=hs.md r hr;have N:=av7 (P:=P) (cs:=cs) s.run hd hmd.2;have eg:r∉K.md:=Jv r gj;obtain⟨K',w',A,g1,g2,g3,g4,g5,g6,g7,g8⟩:=ih _ ms' m h res h' B (K0.un r) _ {fr with defers:=f} cs hg O (E.un hnr) oE.un s.un (hs.drop hr (.deferred ao) (by simp_all)) (anx X eg) (λr' th=>Jv r' (gi _ th));exact⟨K',w',A,g1,g2,.head N g3,g4,g5,g6,g7,λ_ _ _ _ hc=>g8 _ _ _ _ hc.un⟩
  |call z0 args vs aY ds' cds' _ hv E=>
   injection Y with tg wP;subst tg;subst wP;simp only[gO]at B;cases Ax:R.iS z0 args m h with
   |none=>simp_all|some q=>
    obtain⟨rr,m1,h1⟩:=q;rw[Ax]at B;cases rr with
    |panic x=>grind
    |ret x=>
     obtain⟨⟨fnn,OW,CH⟩,hc⟩:=hR.iS _ _ _ _ _ _ _ Ax;have hinv:(invoke (.fn (.func z0) aY) vs).run P w=.ok (.enter z0 (vs++aY)) w:=(by simp only[invoke];exact R4 hn OW CH _ _);have N:=step_defer (P:=P) (cs:=cs) (d:={target:=.fn (.func z0) aY,args:=vs}) s.run hd O hinv;have jk:CS K0 .deferred ({fr with defers:=f,mode:=.returning}::cs) m ({fr with defers:=f}::cs):=by
      cases m with
      |none=>have:({fr with defers:=f}:fq)={fr with defers:=f,mode:=.returning}:=(by rw[<-show fr.mode=.returning from s]);rw[this];exact .ret _ _ O O O
      |some p=>obtain⟨y,r⟩:=p;obtain⟨rfl,v,hv1,JQ⟩:=s;have:({fr with defers:=f}:fq)={({fr with defers:=f,mode:=.returning}:fq) with mode:=.panicking [{v,recovered:=ar}]}:=(by simp_all);rw[this];exact .da _ _ y v ar O O hv1
     obtain⟨K1,w1,fr1,cs1,v1,le1,s1,c1,gG,FM,qr⟩:=hc K0 w (vs++aY) _ _ hv jk hs;have s_:∃u,cs1={fr with defers:=f,mode:=u}::cs/\qN K1 (settled m1) (settle u):=by
      generalize C:({fr with defers:=f,mode:=.returning}:fq)::cs=base at c1;cases c1 with
      |normal D=>cases D
      |ret c0 rest _ hb hm=>refine⟨.returning,C.symm,?_⟩;simp[qN,settle,settled]|da c0 rest y v r _ hb hx=>
       rw[hb]at C;injection C with sX mT;subst sX;subst mT;refine⟨.panicking [{v,recovered:=r}],O,?_⟩;cases r with|true=>simp[qN,settle,settled]|false=>exact⟨O,v,hx,O⟩
     obtain⟨u,rfl,s_⟩:=s_;have akV:=step_going_returned (c:={fr with defers:=f,mode:=u}) (cs:=cs) FM qr;have he':gO P G R fn e ds' (settled m1) h1=J (res,h'):=by
      rcases m1 with _|⟨y,r⟩
      .exact B
      .cases r<;>exact B
     obtain⟨K',w',A,g1,g2,g3,g4,g5,g6,g7,g8⟩:=ih _ ms _ h1 res h' he' K1 w1 {fr with defers:=f,mode:=settle u} cs hg O (E.mono le1) (oE.mono le1) s_ s1 (X.trans le1) Jv;exact⟨K',w',A,g1,g2,.head N (gG.trans (.head akV g3)),g4,g5,g6,g7,λ_ _ _ _ Y=>g8 _ _ _ _ (Y.mono le1)⟩
def ahO{n'}(h:n<=n'):∀{c:Code},codeOk n c=aa->codeOk n' c=aa:=by
 intro c
 induction c with
 |region id ops s=>
  simp only[codeOk,Dx,By]
  grind
 |seq a b m r=>simp only[codeOk,bR];simp_all|cond q a b m r=>simp only[codeOk,bR];simp_all|block id c f=>simp only[codeOk];exact f|loop c f=>simp only[codeOk];exact f|scope c f=>simp only[codeOk];exact f|rangeFunc C B a b m r=>
  simp only[codeOk,bR,By,decide_eq_true_eq]
  grind
 |_=>intro A;exact A
structure Prog(P:bO):Prop where
 names:BR P
 mixed:P.follows .mixedOrders=aa
 code:∀(g:bk) (fn:Func) (c:Code),P.funcs[g]?=J fn->fn.body=J c->codeOk fn.ntmps c=aa
def avs{f}(E:aN K args f.toList)(n):lF K {ch:=[],base:=args} (f++Bz n undef):=by
 intro t;simp only[o0.get,look];have m:=E.length;rcases dR t (F args) with r|s
 .obtain⟨c,h1,h2⟩:=E.get (aW r);have A:args.getD t (.tuple [])=args[t]:=by simp[r]
  rw[A];have D:(f++Bz n undef).getD t undef=c:=by have C:t<f.size:=(by simpa [m] using r);rw[Hv,Array.getElem?_append_left C,<-Ej,h1];rfl
  simp_all
 .have A:args.getD t (.tuple [])=.tuple []:=by simp[List.getElem?_eq_none s]
  rw[A];have D:(f++Bz n undef).getD t undef=undef:=by
   have B:f.size<=t:=(by simpa [m] using s);rw[Hv,Array.getElem?_append_right B,LZ]
   grind
  rw[D];exact .tuple [] #[] .nil
def UQ(hp:Prog P)(hR:uV P G w0 R){m m':Option (I × Bool)}{res:dP}(T:qS P G R g args m h=J (res,m',h')):
 (∃fn,P.funcs[g]?=J fn/\fn.body.isSome=aa)/\∀(K:bj) (w:cC) (f:Array a_) (kind:CallKind) (base cs:List fq),aN K args f.toList->CS K kind base m cs->jJ P G w0 K h w->
 ∃K' w' r B fn,P.funcs[g]?=J fn/\K.Le K'/\jJ P G w0 K' h' w'/\CS K' kind base m' B/\Steps P (lone (Frame.enter P g f kind) cs w) (lone r B w')/\r.kind=kind/\r.defers=[]/\r.fn=g/\Eo P K' fn r w' res:=by
 unfold qS at T;split at T
 .cases T
 .rename_i fn C;split at T
  .cases T
  .rename_i A Y;refine⟨⟨fn,C,by simp_all⟩,λK w f kind base cs hv jk hs=>?_⟩
   let b:fq:={(default:fq) with fn:=g,kind:=kind}
   let a:Act:={tmps:=f++Bz (fn.ntmps-f.size) undef,defers:=[]}
   have hb:b.roundOf=ao:=rfl;have Ji:Frame.enter P g f kind=b.atR a [.code A]:=(by unfold Frame.enter Frame.atR;simp only[C,Y,b,a,gq,rK,qO];rfl);have OV:ng P K {tmps:={ch:=[],base:=args},defers:=[],da:=m,round:=ao} a b []:=
    ⟨avs hv _,.nil,O,by grind⟩
   have eH:codeOk a.tmps.size A=aa:=ahO (by grind) (hp.code g fn A C Y);have finish:∀(N:Xt) (e:Env) (h1:am) (X:Option (I × Bool)),R.code A {tmps:={ch:=[],base:=args},defers:=[],da:=m,round:=ao} h=J (N,e,h1)->
    (N=.normal/\X=ao∨N=.ret/\X=ao∨∃x,N=.panic x/\X=J (x,ar))->(gO P G R fn e e.defers X h1).map (λ(z0,h)=>(z0,e.da,h))=J (res,m',h')->
    ∃K' w' r B fn,P.funcs[g]?=J fn/\K.Le K'/\jJ P G w0 K' h' w'/\CS K' kind base m' B/\Steps P (lone (Frame.enter P g f kind) cs w) (lone r B w')/\r.kind=kind/\r.defers=[]/\r.fn=g/\Eo P K' fn r w' res:=by
    intro N e h1 X OM Pq pr;obtain⟨K1,w1,a1,cs1,ms1,L⟩:=hR.code _ _ _ _ _ _ OM K w a b [] base cs [] OV jk hs eH;simp only[dO,dw]at pr;obtain⟨⟨z0,D⟩,pr,rfl,rfl,rfl⟩:=pr;have Oy:∃(s:List Item) (u:FrameMode),qN K1 X u/\Steps P (lone (Frame.enter P g f kind) cs w) (lone {b.atR a1 s with mode:=u} cs1 w1):=by
     rw[Ji];rcases Pq with⟨rfl,rfl⟩|⟨rfl,rfl⟩|⟨x,rfl,rfl⟩
     .exact⟨[],.returning,O,Steps.trans L.arr (.one (stepR_end hb))⟩
     .obtain⟨s,E⟩:=L.arr;exact⟨_,.returning,O,Steps.trans E (.one (stepR_ret hb))⟩
     .obtain⟨s,v,hx,E⟩:=L.arr;exact⟨s,_,⟨O,v,hx,O⟩,E⟩
    obtain⟨s,u,aly,E⟩:=Oy;obtain⟨K2,w2,r,g1,g2,g3,g4,g5,g6,g7,g8⟩:=axr hR hp.names C a1.defers e.defers ms1 X h1 z0 D pr K1 w1 {b.atR a1 s with mode:=u} cs1 O O L.frame.defers L.frame.gN aly L.ry L.le
     (λz0 hr=>(L.marks z0 hr).resolve_left cB)
    exact⟨K2,w2,r,cs1,fn,C,g1,g2,g8 _ _ _ _ L.cs,E.trans g3,g4,g5,g6,g7⟩
   split at T
   .grind
   .grind
   .rename_i x e1 h1 hc;exact finish _ _ _ _ hc (.inr (.inr ⟨x,O,O⟩)) T
   grind
def Eo.asO{f:fq}{res:dP}(A:Eo P K fn f w res)(s:P.funcs[f.fn]?=J fn)(B:f.kind=.normal)(r:f.defers=[]):TR P K f w res:=by
 cases res with
 |ret x=>obtain⟨h1,v,h2,m⟩:=A;exact⟨v,h2,h1,r,B,fn,s,m⟩
 |panic x=>obtain⟨v,h2,m⟩:=A;exact⟨v,h2,m,r,fn,s⟩
def mo(P:bO)(G:Nat->Option (List I))(w0:cC)(g:bk)(p:List I->am->Option (I × am)):Prop:=
 (∃m,P.funcs[g]?=J m/\m.body.isSome=aa)/\
 ∀args h x h',p args h=J (x,h')->∀(K:bj) (w:cC) (f:Array a_),aN K args f.toList->jJ P G w0 K h w->
  Calls P g f w λe w'=>∃v K',e=.returned v/\K.Le K'/\aV K' x v/\jJ P G w0 K' h' w'
def ajU(hp:Prog P){aO:bk->Option (List I->am->Option (I × am))}(B:∀g p,aO g=J p->mo P G w0 g p)(hR:uV P G w0 R):TS P G w0 (mA P G R aO):=by
 intro g args h z0 h' m;unfold mA at m;split at m
 .rename_i p CW;simp only[dO,dw]at m;obtain⟨⟨x,D⟩,T,rfl,rfl⟩:=m;obtain⟨s,r⟩:=B g p CW;refine⟨s,λK w f N E cs=>?_⟩;obtain⟨e,w',C,⟨v,K',rfl,le,hx',X⟩,hc,OX,hl⟩:=r args h x D T K w f N E cs;exact⟨K',w',C,le,X,hc,OX,v,hx',hl⟩
 .simp only[dO,dw]at m;obtain⟨⟨r',m',D⟩,T,rfl,rfl⟩:=m;obtain⟨s,hb⟩:=UQ hp hR T;refine⟨s,λK w f N E cs=>?_⟩;obtain⟨K',w',C,kY,fn,hf,le,X,Y,gG,hk,hd,hg,A⟩:=hb K w f .normal cs cs N (.normal O) E;have:kY=cs:=by
   generalize hq:CallKind.normal=q at Y;cases Y with|normal=>rfl|ret c0 rest h1=>simp_all|da c0 rest x v z0 h1=>simp_all
  subst this;exact⟨K',w',C,le,X,gG,hg,A.asO (by simp_all) hk hd⟩
def aiv(hp:Prog P)(X:uV P G w0 R):TU P G w0 (qS P G R):=by intro g args z0 h x m' h' he;obtain⟨B,Y⟩:=UQ hp X he;refine⟨B,λK w m r cs hv A hs=>?_⟩;obtain⟨K',w',N,s,E,hf,le,s',D,C,hk,hd,hg,f⟩:=Y K w m .deferred r cs hv A hs;obtain⟨h1,v,h2,T⟩:=f;exact⟨K',w',N,s,v,le,s',D,C,hk,h1,hd,E,by simp_all,T⟩
def au4:∀{ps:List Tmp} {args:List I} {f:List a_} {s:o0} {tmps:Array a_},aN K args f->lF K s tmps->(∀p∈ps,p<tmps.size)->
 lF K (Eb ps args s) ((ps.zip f).foldl (λts p=>ts.setIfInBounds p.1 p.2) tmps)/\((ps.zip f).foldl (λts p=>ts.setIfInBounds p.1 p.2) tmps).size=tmps.size:=by
 intro ps
 induction ps with
 |nil=>intro args f s tmps A m r;exact⟨m,O⟩|cons p ps E=>
  intro args f s tmps A m r;cases A with
  |nil=>exact⟨m,O⟩|cons x c xs cs C B=>
   have h1:=lF.set m (r p gj) C;obtain⟨D,T⟩:=E (s:=s.set p x) (tmps:=tmps.setIfInBounds p c) B h1 (λq N=>by simp_all);refine⟨?_,?_⟩
   .simpa [Eb] using D
   simp_all
def atf(hR:uV P G w0 R):TV P G w0 (uE R):=by
 intro l args h r h' he K w A lg hγ hv hs f cs;unfold uE at he;split at he
 .cases he
 .rename_i rec alG;split at he
  .rename_i alQ;obtain⟨m,m1,m2,m3,m4,m5,m6,m7,m8,m9,m10,-⟩:=hs.eM hγ alG rec.state rec.pending;have akJ:A.size=m.params.size:=(by rw[m4,alQ,hv.length];simp);have E:=run_yield (P:=P) m1 akJ;split at he
   .rename_i e1 h1 akU;split at he
    .rename_i r1 CZ;split at he
     .rename_i alF;obtain⟨sp1,sp2⟩:=au4 (ps:=rec.params.toList) hv m7 m10;have alc:(m.params.zip A).foldl (λtmps (x:Tmp × a_)=>tmps.setIfInBounds x.1 x.2) m.tmps=(rec.params.toList.zip A.toList).foldl (λts p=>ts.setIfInBounds p.1 p.2) m.tmps:=by rw[<-Array.foldl_toList,Array.toList_zip,m4]
      let b:fq:={(default:fq) with fn:=m.fn,kind:=.normal,roundOf:=J lg}
      let a:Act:={tmps:=(rec.params.toList.zip A.toList).foldl (λts p=>ts.setIfInBounds p.1 p.2) m.tmps,defers:=[]}
      have XJ:(P.funcs[m.fn]?).isSome=aa:=(by have:=m8;unfold Du at this;rw[bR]at this;exact this.2);have OV:ng P K {tmps:=Eb rec.params.toList args rec.tmps,defers:=[],da:=ao,round:=J l} a b []:=
       ⟨sp1,.nil,⟨lg,hγ,O,O,O,O,O⟩,XJ⟩
      have FR:codeOk a.tmps.size rec.assign=aa:=(by have:=m8;unfold Du at this;rw[bR]at this;show codeOk (ac4 _) _=aa;rw[sp2];exact this.1);have CU:codeOk a.tmps.size rec.body=aa:=(by have:=m9;unfold Du at this;rw[bR]at this;show codeOk (ac4 _) _=aa;rw[sp2];exact this.1);have PJ:Frame.round lg m.fn ((m.params.zip A).foldl (λtmps (x:Tmp × a_)=>tmps.setIfInBounds x.1 x.2) m.tmps) m.assign m.body .normal=b.atR a [.code rec.assign,.beginRound,.code rec.body]:=(by simp only[Frame.round,Frame.atR,b,a,alc,m5,m6]);have nocs:∀{K:bj} {p:Option (I × Bool)} {base kY:List fq},CS K .normal base p kY->kY=base:=by
       intro K p base kY c;generalize hq:CallKind.normal=q at c;cases c with|normal=>rfl|ret c0 rest h1=>simp_all|da c0 rest x v r h1=>simp_all
      obtain⟨K1,w1,a1,cs1,ms1,L1⟩:=hR.code _ _ _ _ _ _ akU K w a b [.beginRound,.code rec.body] (f::cs) (f::cs) [] OV (.normal O) hs FR;have ak2:=nocs L1.cs;subst ak2;obtain⟨nn,n1,n2,n3,n4,n5,n6,n7,n8,n9,n10,sbusy⟩:=L1.ry.eM (L1.le.γ _ _ hγ) CZ .busy r1.pending;have akX:=run_beginRound (P:=P) n1 (n2.trans alF);have ala:({nn with state:=.busy,pending:=r1.pending}:Loop)={nn with state:=.busy}:=(by grind);rw[ala]at sbusy;have Ju:Steps P (lone (Frame.round lg m.fn ((m.params.zip A).foldl (λtmps (x:Tmp × a_)=>tmps.setIfInBounds x.1 x.2) m.tmps) m.assign m.body .normal) (f::cs) w)
       (lone (b.atR a1 [.code rec.body]) (f::cs) (w1.putObj lg (.loop {nn with state:=.busy}))):=by
       rw[PJ];exact Steps.trans L1.arr (.one (stepR_beginRound O akX))
      have azr:∀r∈ms1,r∉K.md:=λr hr=>(L1.marks r hr).resolve_left cB;have body:∀(M:Xt) (e2:Env) (h2:am),R.code rec.body e1 {h1 with aB:=h1.aB.set l {r1 with state:=.busy}}=J (M,e2,h2)->
       ∃K2 N Y T,K.Le K2/\jJ P G w0 K2 h2 N/\ng P K2 e2 Y b T/\nF P K2 (lone (b.atR a1 [.code rec.body]) (f::cs) (w1.putObj lg (.loop {nn with state:=.busy}))) b [] (f::cs) M Y N:=by
       intro M e2 h2 OM;obtain⟨K2,N,Y,cs2,T,L2⟩:=hR.code _ _ _ _ _ _ OM K1 _ a1 b [] (f::cs) (f::cs) ms1 L1.frame L1.cs sbusy (by rw[L1.size];omega);have OP:=nocs L2.cs;subst OP;exact⟨K2,N,Y,T,L1.le.trans L2.le,L2.ry,L2.frame,L2.arr⟩
      have ending:∀(h2:am) (M:dP) (D:am) (st:LoopState) (pe:Option Code) (bb:Bool) (K2:bj) (N:cC),K.Le K2->jJ P G w0 K2 h2 N->pe.isNone=bb->(if pe.isNone then LoopState.ready else .done)=st->
       ((h2.aB[l]?).map λr=>(dP.ret (.v (.bool bb)),{h2 with aB:=h2.aB.set l {r with state:=st,pending:=pe}}))=J (M,D)->
       ∃v w3,(Instr.endRound lg pe).run P N=.ok (.bool bb) w3/\jJ P G w0 K2 D w3/\M=.ret (.v (.bool bb))/\aV K2 (.v (.bool bb)) v/\v=.bool bb:=by
       intro h2 M D st pe bb K2 N B s2 jO gG XZ;simp only[dO,dw]at XZ;obtain⟨r2,yD,rfl,rfl⟩:=XZ;obtain⟨qq,q1,q2,q3,-,-,-,-,-,-,-,send⟩:=s2.eM (B.γ _ _ hγ) yD st pe;have C:=run_endRound (P:=P) pe q1;rw[gG,jO]at C;exact⟨_,_,C,send,O,.v _ O,O⟩
      have CT:∀{K2:bj} {e2:Env} {Y:Act} {T:List Nat},ng P K2 e2 Y b T->e2.round=J l->Y.defers=[]:=(by intro K2 e2 Y T hf hr;have:=hf.round;rw[hr]at this;obtain⟨_,_,_,_,h1,_⟩:=this;exact h1);refine⟨m.fn,(m.params.zip A).foldl (λtmps (x:Tmp × a_)=>tmps.setIfInBounds x.1 x.2) m.tmps,m.assign,m.body,?_⟩;split at he
      .rename_i e2 h2 s;obtain⟨K2,N,Y,T,B,s2,f2,X⟩:=body _ _ _ s;obtain⟨v,w3,C,s3,rfl,yG,rfl⟩:=ending h2 r h' .ready ao aa K2 N B s2 O O he;exact⟨K2,w3,E,B,s3,_,yG,Ju.trans (Steps.trans X (.one (stepR_round_end O O C)))⟩
      .rename_i e2 h2 s;obtain⟨K2,N,Y,T,B,s2,f2,todo,X⟩:=body _ _ _ s;obtain⟨v,w3,C,s3,rfl,yG,rfl⟩:=ending h2 r h' .done (J .ret) ar K2 N B s2 O O he;exact⟨K2,w3,E,B,s3,_,yG,Ju.trans (X.trans (.one (stepR_round_ret O O C)))⟩
      .rename_i id e2 h2 s;obtain⟨K2,N,Y,T,B,s2,f2,todo,hex,X⟩:=body _ _ _ s;obtain⟨v,w3,C,s3,rfl,yG,rfl⟩:=ending h2 r h' .done (J (.exit id)) ar K2 N B s2 O O he;exact⟨K2,w3,E,B,s3,_,yG,Ju.trans (X.trans (.one (stepR_round_exit O O (hex.trans O) C)))⟩
      .rename_i x e2 h2 s;simp only[eo,dw]at he;obtain⟨rfl,rfl⟩:=he;obtain⟨K2,N,Y,T,B,s2,f2,todo,v,hx,X⟩:=body _ _ _ s;have hd:Y.defers=[]:=by
        have:=f2.round;cases hq:e2.round with|none=>simp_all|some l'=>grind
       obtain⟨fnn,OW⟩:=Option.isSome_iff_exists.1 XJ;exact⟨K2,N,E,B,s2,v,_,hx,Ju.trans X,O,hd,fnn,OW⟩
      grind
     grind
    grind
   grind
  grind
def KH(m:Prog P){aO:bk->Option (List I->am->Option (I × am))}(r:∀g p,aO g=J p->mo P G w0 g p):∀n,uV P G w0 (hJ P G aO n):=by
 intro n
 induction n with
 |zero=>
  refine⟨?_,?_,?_,?_⟩
  .intro c e h A e' h' f;cases f
  .intro g args h C h' f;cases f
  .intro g args D h x B h' f;cases f
  .intro l args h C h' f;cases f
 |succ n s=>exact⟨ahQ m.names m.mixed s,ajU m r s,aiv m s,atf s⟩
end
end
structure nj(R R':Rec):Prop where
 code:∀c e h r,R.code c e h=J r->R'.code c e h=J r
 call:∀g a h r,R.call g a h=J r->R'.call g a h=J r
 iS:∀g a m h r,R.iS g a m h=J r->R'.iS g a m h=J r
 round:∀l a h r,R.round l a h=J r->R'.round l a h=J r
section
variable {P:bO} {G:Nat->Option (List I)} {R R':Rec}
def agN(le:nj R R'){c:Call}{r:dP × am}(f:lI P R e h c=J r):lI P R' e h c=J r:=by
 unfold lI at f ⊢;cases m:c.callee with
 |builtin b=>simp_all|value s=>
  simp only[m]at f ⊢;split at f
  .rename_i h1;(try simp only[h1]);exact le.call _ _ _ _ f
  .rename_i h1;(try simp only[h1]);exact le.round _ _ _ _ f
  omega
 |invoke v A=>
  simp only[m]at f ⊢;split at f
  .rename_i h1
   (try simp only[h1])
   split at f
   .rename_i h2;(try simp only[h2]);exact le.call _ _ _ _ f
   omega
  omega
def Dv(le:nj R R'){r:dP × Env × am}(f:ec P G R e h o=J r):ec P G R' e h o=J r:=by
 unfold ec at f ⊢;split at f
 .exact f
 .exact f
 .exact f
 .simp only[dO]at f ⊢;obtain⟨q,s,m⟩:=f;exact⟨q,agN le s,m⟩
 .exact f
 .exact f
 omega
def od(le:nj R R'):∀{l:List Nat} {e:Env} {h:am} {r:Xt × Env × am},cg P G R ops l e h=J r->cg P G R' ops l e h=J r:=by
 intro l
 induction l with
 |nil=>intro e h r f;exact f|cons i l B=>
  intro e h r f;simp only[cg]at f ⊢;cases s:ops[i]? with
  |none=>simp_all|some o=>
   rw[s]at f;simp only at f ⊢;cases A:fC ops e o with
   |none=>simp_all|some b=>
    rw[A]at f;cases b with
    |false=>grind
    |true=>
     simp only at f ⊢;cases m:ec P G R e h o with
     |none=>simp_all|some q=>
      rw[m]at f;rw[Dv le m]
      grind
def Lt(le:nj R R')(f:pK P G R ops e h r m=aa):pK P G R' ops e h r m=aa:=by
 unfold pK at f ⊢;split at f
 .rename_i o B D A C h1 h2 s;rw[h1,od le h2,od le s];exact f
 grind
def EX:lJ P G R ops e h k=aa↔wx P G R ops e h k:=by unfold lJ;simp_all
def Iu(le:nj R R')(f:lJ P G R ops e h k=aa):lJ P G R' ops e h k=aa:=by rw[EX]at f ⊢;obtain⟨o,x,s,N,h1,h2,A,B⟩:=f;refine⟨o,x,s,N,h1,h2,od le A,λT E=>?_⟩;obtain⟨r,m,C,D⟩:=B T E;exact⟨r,m,od le C,Dv le D⟩
def Fg(le:nj R R')(f:my P G R ops e h=aa):my P G R' ops e h=aa:=by
 unfold my at f ⊢;simp only[bR,e8,gb,pO]at f ⊢;refine⟨f.1,λj A i s=>?_⟩;rcases f.2 j A i s with((h1|h1)|h1)|h1
 .simp_all
 .simp_all
 .refine .inl (.inr ?_);unfold j_ at h1 ⊢;rw[bR]at h1 ⊢;refine⟨h1.1,?_⟩;have h2:=h1.2;split at h2
  .rename_i m r;(try simp only[m,r]);exact Lt le h2
  .rename_i m r;(try simp only[m,r]);exact Lt le h2
  omega
 .exact .inr ⟨h1.1,h1.2.imp (Iu le) (Iu le)⟩
def Z9(le:nj R R'){l:List Nat}(f:A9 (cg P G R ops l e h)=aa):A9 (cg P G R' ops l e h)=aa:=by
 cases m:cg P G R ops l e h with
 |none=>rw[m]at f;cases f
 |some q=>rw[m]at f;rw[od le m];exact f
def aar(le:nj R R')(f:rt P G R ops e h i=aa):rt P G R' ops e h i=aa:=by
 unfold rt at f ⊢;split at f
 .rename_i h1 h2;rw[od le h1,od le h2];exact f
 grind
def stores_le(le:nj R R')(D:zx P G R ops e h=aa):zx P G R' ops e h=aa:=by obtain⟨i,h1,h2,f,m⟩:=stores_cases D;exact stores_of h1 h2 (aar le f) (Fg le m)
def drawC_le(le:nj R R'){o:Xt}(D:drawC P G R ops e h o=aa):drawC P G R' ops e h o=aa:=by
 cases o with|normal=>exact(pO _ _).mpr (((pO _ _).mp D).imp (Fg le) (stores_le le))|panic x=>simp only[drawC,bR]at D ⊢;exact⟨D.1,Fg le D.2.1,Z9 le D.2.2⟩|_=>cases D
def draw_code{R:Rec}{r:Xt × Env × am}(h1:cg P G R ops (bE ops.size) e h=J r)(D:drawC P G R ops e h r.1=aa):fP P G R (.region id ops aa) e h=J r:=by simp only[fP,if_true,MS];simp_all
def Vs(le:nj R R'){r:Xt × Env × am}(f:fP P G R c e h=J r):fP P G R' c e h=J r:=by
 cases c with
 |region id ops s=>
  cases s with|false=>simp only[fP,jE,if_false]at f ⊢;exact od le f|true=>simp only[fP,if_true,MS]at f;exact draw_code (od le f.1) (drawC_le le f.2)
 |seq a b=>
  simp only[fP]at f ⊢;cases m:R.code a e h with
  |none=>simp_all|some q=>
   rw[m]at f;rw[le.code _ _ _ _ m];obtain⟨o,C,h1⟩:=q;cases o with|normal=>exact le.code _ _ _ _ f|_=>exact f
 |scope a=>simp only[fP]at f ⊢;exact le.code _ _ _ _ f|cond q a b=>
  simp only[fP]at f ⊢;split at f
  .rename_i h1;(try simp only[h1]);exact le.code _ _ _ _ f
  .rename_i h1;(try simp only[h1]);exact le.code _ _ _ _ f
  omega
 |block id a=>
  simp only[fP]at f ⊢;cases m:R.code a e h with|none=>simp_all|some q=>rw[m]at f;rw[le.code _ _ _ _ m];exact f
 |loop a=>
  simp only[fP]at f ⊢;cases m:R.code a e h with
  |none=>simp_all|some q=>
   rw[m]at f;rw[le.code _ _ _ _ m];obtain⟨o,C,h1⟩:=q;cases o with|normal=>exact le.code _ _ _ _ f|_=>exact f
 |rangeFunc N E a b=>
  simp only[fP]at f ⊢;split at f
  .rename_i g first D B
   (try simp only[B])
   generalize A:R.call g _ _=q at f;cases q with
   |none=>cases f
   |some q=>rw[le.call _ _ _ _ A];exact f
  omega
 |_=>exact f
def SW(le:nj R R'):∀{f:List (bk × List I)} {m:Option (I × Bool)} {h:am} {r:dP × am},gO P G R fn e f m h=J r->gO P G R' fn e f m h=J r:=by
 intro f
 induction f with
 |nil=>intro m h r s;cases m<;>exact s
 |cons d f B=>
  intro m h r s;obtain⟨g,args⟩:=d;simp only[gO]at s ⊢;cases A:R.iS g args m h with
  |none=>simp_all|some q=>
   rw[A]at s;rw[le.iS _ _ _ _ _ A]
   grind
def Nr(le:nj R R'){m:Option (I × Bool)}{r:dP × Option (I × Bool) × am}(f:qS P G R g args m h=J r):qS P G R' g args m h=J r:=by
 unfold qS at f ⊢;split at f
 .cases f
 .rename_i T C;rw[C]at *
  simp only;split at f
  .cases f
  .rename_i A s;rw[s]at *
   (try simp only)
   generalize B:R.code A _ h=q at f;cases q with
   |none=>cases f
   |some q=>
    rw[le.code _ _ _ _ B];obtain⟨o,N,h1⟩:=q;cases o with
    |exit id=>cases f
    |_=>simp only[dO]at f ⊢;obtain⟨q,E,D⟩:=f;exact⟨q,SW le E,D⟩
def Wx(le:nj R R'){aO:bk->Option (List I->am->Option (I × am))}{r:dP × am}(f:mA P G R aO g args h=J r):mA P G R' aO g args h=J r:=by
 unfold mA at f ⊢;split at f
 .exact f
 .simp only[dO]at f ⊢;obtain⟨q,s,m⟩:=f;exact⟨q,Nr le s,m⟩
def abs(le:nj R R'){r:dP × am}(f:uE R l args h=J r):uE R' l args h=J r:=by
 unfold uE at f ⊢;split at f
 .cases f
 .split at f
  .rename_i A;simp only[A,if_true];split at f
   .rename_i B h1 C;simp only[le.code _ _ _ _ C];split at f
    .rename_i E D;split at f
     .rename_i s;simp only[s,if_true];generalize m:R.code _ B _=q at f;cases q with
      |none=>cases f
      |some q=>rw[le.code _ _ _ _ m];exact f
     grind
    omega
   grind
  grind
variable {aO:bk->Option (List I->am->Option (I × am))}
def GB(n:Nat):nj (hJ P G aO n) (hJ P G aO (n+1)):=by
 induction n with
 |zero=>
  refine⟨?_,?_,?_,?_⟩
  .intro c e h r f;cases f
  .intro g a h r f;cases f
  .intro g a s h r f;cases f
  .intro l a h r f;cases f
 |succ n m=>exact⟨λc e h r f=>Vs m f,λg a h r f=>Wx m f,λg a s h r f=>Nr m f,λl a h r f=>abs m f⟩
def iA(h:n<=m):nj (hJ P G aO n) (hJ P G aO m):=by
 induction m with
 |zero=>rw[Tz.1 h];exact⟨λ_ _ _ _ h=>h,λ_ _ _ _ h=>h,λ_ _ _ _ _ h=>h,λ_ _ _ _ h=>h⟩|succ m A=>
  rcases dR n (m+1) with s|r
  .have h1:=A (EI.1 s);have h2:=GB (P:=P) (G:=G) (aO:=aO) m;exact⟨λc e h B f=>h2.code _ _ _ _ (h1.code _ _ _ _ f),λg a h B f=>h2.call _ _ _ _ (h1.call _ _ _ _ f),λg a m h B f=>h2.iS _ _ _ _ _ (h1.iS _ _ _ _ _ f),λl a h B f=>h2.round _ _ _ _ (h1.round _ _ _ _ f)⟩
  .rw[Nat.le_antisymm h r];exact⟨λ_ _ _ _ h=>h,λ_ _ _ _ h=>h,λ_ _ _ _ _ h=>h,λ_ _ _ _ h=>h⟩
end
noncomputable def sg{α:Type}(f:Nat->Option α):Option α:=by
 classical
 exact if h:∃m n,f n=J m then J h.choose else ao
def J9{α}{f}(A:∀n m r,n<=m->f n=J r->f m=J r){r:α}(h:f n=J r):sg f=J r:=by
 unfold sg;have s:∃r n,f n=J r:=⟨r,n,h⟩
 grind
def lX{α}{f}{r:α}(h:sg f=J r):∃n,f n=J r:=by unfold sg at h;split at h<;>grind
section
variable (P:bO) (G:Nat->Option (List I)) (aO:bk->Option (List I->am->Option (I × am)))
noncomputable def whole:Rec where
 code c e h:=sg λn=>(hJ P G aO n).code c e h
 call g a h:=sg λn=>(hJ P G aO n).call g a h
 iS g a m h:=sg λn=>(hJ P G aO n).iS g a m h
 round l a h:=sg λn=>(hJ P G aO n).round l a h
end
section
variable {P:bO} {G:Nat->Option (List I)} {aO:bk->Option (List I->am->Option (I × am))}
def zy(n:Nat):nj (hJ P G aO n) (whole P G aO):=
 ⟨λ_ _ _ _ h=>J9 (λ_ _ _ m f=>(iA m).code _ _ _ _ f) h,λ_ _ _ _ h=>J9 (λ_ _ _ m f=>(iA m).call _ _ _ _ f) h,
  λ_ _ _ _ _ h=>J9 (λ_ _ _ m f=>(iA m).iS _ _ _ _ _ f) h,λ_ _ _ _ h=>J9 (λ_ _ _ m f=>(iA m).round _ _ _ _ f) h⟩
def LQ(s:Prog P)(f:∀g p,aO g=J p->mo P G w g p):uV P G w (whole P G aO):=by
 refine⟨?_,?_,?_,?_⟩
 .intro c e h A e' h' m;obtain⟨n,r⟩:=lX m;exact(KH s f n).code c e h A e' h' r
 .intro g args h C h' m;obtain⟨n,r⟩:=lX m;exact(KH s f n).call g args h C h' r
 .intro g args D h x B h' m;obtain⟨n,r⟩:=lX m;exact(KH s f n).iS g args D h x B h' r
 .intro l args h C h' m;obtain⟨n,r⟩:=lX m;exact(KH s f n).round l args h C h' r
def two{α B:Type}{f:Nat->Option α}{g:Nat->Option B}{a}{b}(s:∀n m r,n<=m->f n=J r->f m=J r)(A:∀n m r,n<=m->g n=J r->g m=J r)(h1:∃n,f n=J a)(h2:∃n,g n=J b):
 ∃n,f n=J a/\g n=J b:=by
 grind
def agM{c:Call}{r:dP × am}(f:lI P (whole P G aO) e h c=J r):∃n,lI P (hJ P G aO n) e h c=J r:=by
 unfold lI at f ⊢;cases m:c.callee with
 |builtin b=>simp_all|value s=>
  simp only[m]at f ⊢;split at f
  .exact lX f
  .exact lX f
  grind
 |invoke v A=>
  simp only[m]at f ⊢;split at f
  .split at f
   .rename_i h2;(try simp only[h2]);exact lX f
   grind
  grind
def aai{r:dP × Env × am}(f:ec P G (whole P G aO) e h o=J r):∃n,ec P G (hJ P G aO n) e h o=J r:=by
 unfold ec at f ⊢;split at f
 .exact⟨0,f⟩
 .simp_all
 .simp_all
 .simp only[dO]at f ⊢;obtain⟨q,m,s⟩:=f;obtain⟨n,A⟩:=agM m
  grind
 .exact⟨0,f⟩
 .simp_all
 simp_all
def xb:∀{l:List Nat} {e:Env} {h:am} {r:Xt × Env × am},cg P G (whole P G aO) ops l e h=J r->∃n,cg P G (hJ P G aO n) ops l e h=J r:=by
 intro l
 induction l with
 |nil=>intro e h r f;exact⟨0,f⟩|cons i l E=>
  intro e h r f;simp only[cg]at f ⊢;cases B:ops[i]? with
  |none=>simp_all|some o=>
   rw[B]at f;simp only at f ⊢;cases C:fC ops e o with
   |none=>simp_all|some b=>
    rw[C]at f;cases b with
    |false=>grind
    |true=>
     simp only at f ⊢;cases m:ec P G (whole P G aO) e h o with
     |none=>simp_all|some q=>
      rw[m]at f;have h1:=aai m;obtain⟨N,X,T⟩:=q;cases N with
      |panic x=>
       grind
      |ret x=>
       obtain⟨n,h1,h2⟩:=two (λ_ _ _ A s=>Dv (iA A) s) (λ_ _ _ A s=>od (iA A) s) h1 (E f)
       grind
def ab9(B:pK P G (whole P G aO) ops e h r m=aa):∃n,pK P G (hJ P G aO n) ops e h r m=aa:=by
 unfold pK at B ⊢;split at B
 .rename_i o E T C N h1 h2 A;obtain⟨n,h2,A⟩:=two (λ_ _ _ s f=>od (iA s) f) (λ_ _ _ s f=>od (iA s) f) (xb h2) (xb A)
  grind
 grind
def many{p:Nat->Nat->Prop}(C:∀i n m,n<=m->p i n->p i m):∀k,(∀i,i<k->∃n,p i n)->∃n,∀i,i<k->p i n:=by
 intro k
 induction k with
 |zero=>simp_all|succ k r=>intro h;obtain⟨n,D⟩:=r λi f=>h i (HT f);obtain⟨m,B⟩:=h k (Nat.lt_succ_self k);refine⟨max n m,λi f=>?_⟩;rcases dR i k with A|s<;>grind
def avS{R':Rec}(le:nj R R')(h1:j_ P G R ops e h i j=aa):j_ P G R' ops e h i j=aa:=by
 unfold j_ at h1 ⊢;rw[bR]at h1 ⊢;refine⟨h1.1,?_⟩;have h2:=h1.2;split at h2
 .rename_i f m;(try simp only[f,m]);exact Lt le h2
 .rename_i f m;(try simp only[f,m]);exact Lt le h2
 omega
def avR(h1:j_ P G (whole P G aO) ops e h i j=aa):∃n,j_ P G (hJ P G aO n) ops e h i j=aa:=by
 unfold j_ at h1 ⊢;rw[bR]at h1;have h2:=h1.2;split at h2
 .rename_i m r;obtain⟨n,f⟩:=ab9 h2
  grind
 .rename_i m r;obtain⟨n,f⟩:=ab9 h2
  grind
 grind
def U5(X:lJ P G (whole P G aO) ops e h k=aa):∃n,lJ P G (hJ P G aO n) ops e h k=aa:=by
 rw[EX]at X;obtain⟨o,x,s,hr,h1,h2,N,h4⟩:=X;obtain⟨n0,N⟩:=xb N;have Y:∀E,E<ops.size+1->∃n,∃m f,cg P G (hJ P G aO n) ops (bE E) e h=J (.normal,m,f)/\ec P G (hJ P G aO n) s f o=J (.ret x,s,f):=by intro E f;obtain⟨m,A,h5,h6⟩:=h4 E (EI.1 f);obtain⟨n,B,C⟩:=two (λ_ _ _ r T=>od (iA r) T) (λ_ _ _ r T=>Dv (iA r) T) (xb h5) (aai h6);exact⟨n,m,A,B,C⟩
 obtain⟨n1,hn⟩:=many (p:=λE n=>∃m f,cg P G (hJ P G aO n) ops (bE E) e h=J (.normal,m,f)/\ec P G (hJ P G aO n) s f o=J (.ret x,s,f))
  (λE n n' r ⟨m,f,B,C⟩=>⟨m,f,od (iA r) B,Dv (iA r) C⟩) (ops.size+1) Y
 refine⟨max n0 n1,?_⟩;rw[EX];refine⟨o,x,s,hr,h1,h2,od (iA (MM _ _)) N,λE f=>?_⟩;obtain⟨m,A,B,C⟩:=hn E (EI.2 f);exact⟨m,A,od (iA (HS _ _)) B,Dv (iA (HS _ _)) C⟩
noncomputable def xc(P:bO)(G:Nat->Option (List I))(R:Rec)(ops:Array Oper)(e:Env)(h:am)(i j:Nat):Bool:=
 ((Region.before ops).getD j 0).testBit i||yX ops i j||j_ P G R ops e h i j||(o7 ops i j&&(lJ P G R ops e h i||lJ P G R ops e h j))
def aaw{R':Rec}(le:nj R R')(f:xc P G R ops e h i j=aa):xc P G R' ops e h i j=aa:=by
 unfold xc at f ⊢;simp only[pO,bR]at f ⊢;rcases f with(h1|h1)|h1
 .simp_all
 .exact .inl (.inr (avS le h1))
 .exact .inr ⟨h1.1,h1.2.imp (Iu le) (Iu le)⟩
def apG(f:xc P G (whole P G aO) ops e h i j=aa):∃n,xc P G (hJ P G aO n) ops e h i j=aa:=by
 unfold xc at f ⊢;simp only[pO,bR]at f ⊢;rcases f with(h1|h1)|⟨h1,h2|h2⟩
 .simp_all
 .obtain⟨n,m⟩:=avR h1
  grind
 .obtain⟨n,m⟩:=U5 h2
  grind
 .obtain⟨n,m⟩:=U5 h2
  grind
def N1(r:my P G (whole P G aO) ops e h=aa):∃n,my P G (hJ P G aO n) ops e h=aa:=by
 unfold my at r ⊢;simp only[bR,e8,gb]at r ⊢;obtain⟨h1,h2⟩:=r;have s:∀j,j<ops.size->∃n,∀i,i<j->xc P G (hJ P G aO n) ops e h i j=aa:=by intro j B;exact many (p:=λi n=>xc P G (hJ P G aO n) ops e h i j=aa) (λi n E m=>aaw (iA m)) j λi f=>apG (h2 j B i f)
 obtain⟨n,C⟩:=many (p:=λj n=>∀i,i<j->xc P G (hJ P G aO n) ops e h i j=aa) (λj n E m A i f=>aaw (iA m) (A i f)) ops.size s;exact⟨n,h1,C⟩
def apj{l:List Nat}{p:Option (Xt × Env × am)->Bool}(h0:p ao=ar)(r:p (cg P G (whole P G aO) ops l e h)=aa):∃n,p (cg P G (hJ P G aO n) ops l e h)=aa:=by
 cases f:cg P G (whole P G aO) ops l e h with
 |none=>simp_all|some q=>
  obtain⟨n,m⟩:=xb f
  grind
def apC(r:rt P G (whole P G aO) ops e h i=aa):∃n,rt P G (hJ P G aO n) ops e h i=aa:=by
 unfold rt at r ⊢;split at r
 .rename_i h1 h2;obtain⟨n,h1,h2⟩:=two (λ_ _ _ m f=>od (iA m) f) (λ_ _ _ m f=>od (iA m) f) (xb h1) (xb h2)
  grind
 grind
def drawC_fin{o:Xt}(D:drawC P G (whole P G aO) ops e h o=aa):∃n,drawC P G (hJ P G aO n) ops e h o=aa:=by
 cases o with
 |normal=>
  rcases (pO _ _).mp D with q|q
  .obtain⟨n,r⟩:=N1 q;exact⟨n,(pO _ _).mpr (.inl r)⟩
  .obtain⟨i,h1,h2,f,m⟩:=stores_cases q;obtain⟨n,f⟩:=apC f;obtain⟨s,m⟩:=N1 m;exact⟨max n s,(pO _ _).mpr (.inr (stores_of h1 h2 (aar (iA (MM n s)) f) (Fg (iA (HS n s)) m)))⟩
 |panic x=>simp only[drawC,bR]at D ⊢;obtain⟨n,r⟩:=N1 D.2.1;obtain⟨s,A⟩:=apj (p:=A9) O D.2.2;exact⟨max n s,D.1,Fg (iA (MM n s)) r,Z9 (iA (HS n s)) A⟩
 |_=>cases D
def ZT38{p:Prop}(h:p:=by
 subst B;obtain⟨n,h1,h2⟩:=two (λ_ _ _ A s=>(iA A).code _ _ _ _ s) (λ_ _ _ A s=>(iA A).code _ _ _ _ s) h1 (lX f)
 grind):p:=h
def ahP{r:Xt × Env × am}(f:fP P G (whole P G aO) c e h=J r):∃n,fP P G (hJ P G aO n) c e h=J r:=by
 cases c with
 |region id ops C=>
  cases C with|false=>simp only[fP,jE,if_false]at f ⊢;exact xb f|true=>simp only[fP,if_true,MS]at f;obtain⟨n,h1⟩:=xb f.1;obtain⟨X,h2⟩:=drawC_fin f.2;exact⟨max n X,draw_code (od (iA (MM n X)) h1) (drawC_le (iA (HS n X)) h2)⟩
 |seq a b=>
  simp only[fP]at f ⊢;cases m:(whole P G aO).code a e h with
  |none=>simp_all|some q=>
   rw[m]at f;have h1:=lX m;obtain⟨o,T,N⟩:=q;by_cases B:o=.normal
   .exact ZT38
   grind
 |scope a=>simp only[fP]at f ⊢;exact lX f|cond q a b=>
  simp only[fP]at f ⊢;split at f
  .exact lX f
  .exact lX f
  grind
 |block id a=>
  simp only[fP]at f ⊢;cases m:(whole P G aO).code a e h with
  |none=>simp_all|some q=>
   rw[m]at f;obtain⟨n,h1⟩:=lX m
   grind
 |loop a=>
  simp only[fP]at f ⊢;cases m:(whole P G aO).code a e h with
  |none=>simp_all|some q=>
   rw[m]at f;have h1:=lX m;obtain⟨o,T,N⟩:=q;by_cases B:o=.normal
   .exact ZT38
   grind
 |rangeFunc z0 ps a b=>
  simp only[fP]at f ⊢;split at f
  .generalize E:(whole P G aO).call _ _ _=q at f;cases q with
   |none=>cases f
   |some q=>
    obtain⟨n,Y⟩:=lX E
    grind
  grind
 |_=>exact⟨0,f⟩
def axn:∀{f:List (bk × List I)} {m:Option (I × Bool)} {h:am} {r:dP × am},gO P G (whole P G aO) fn e f m h=J r->∃n,gO P G (hJ P G aO n) fn e f m h=J r:=by
 intro f
 induction f with
 |nil=>intro m h r s;exact⟨0,by cases m<;>exact s⟩
 |cons d f T=>
  intro m h r s;obtain⟨g,args⟩:=d;simp only[gO]at s ⊢;cases N:(whole P G aO).iS g args m h with
  |none=>simp_all|some q=>
   rw[N]at s;have h1:=lX N;obtain⟨Y,X,A⟩:=q;cases Y with
   |panic x=>grind
   |ret x=>
    have fin:∀E,gO P G (whole P G aO) fn e f E A=J r->∃n,(hJ P G aO n).iS g args m h=J (.ret x,X,A)/\gO P G (hJ P G aO n) fn e f E A=J r:=λE s=>
     two (λ_ _ _ C B=>(iA C).iS _ _ _ _ _ B) (λ_ _ _ C B=>SW (iA C) B) h1 (T s)
    grind
def UP{m:Option (I × Bool)}{r:dP × Option (I × Bool) × am}(f:qS P G (whole P G aO) g args m h=J r):∃n,qS P G (hJ P G aO n) g args m h=J r:=by
 unfold qS at f ⊢;split at f
 .cases f
 .rename_i fn N;simp only[N];split at f
  .cases f
  .rename_i A s
   (try simp only[s])
   generalize E:(whole P G aO).code A _ h=q at f;cases q with
   |none=>cases f
   |some q=>
    have h1:=lX E;obtain⟨o,Y,X⟩:=q;cases o with
    |exit id=>cases f
    |_=>
     simp only[dO]at f;obtain⟨q,T,he⟩:=f;obtain⟨n,h1,h2⟩:=two (λ_ _ _ C B=>(iA C).code _ _ _ _ B) (λ_ _ _ C B=>SW (iA C) B) h1 (axn T)
     grind
def ajT{r:dP × am}(f:mA P G (whole P G aO) aO g args h=J r):∃n,mA P G (hJ P G aO n) aO g args h=J r:=by
 unfold mA at f ⊢;split at f
 .simp_all
 .simp only[dO]at f ⊢;obtain⟨q,m,s⟩:=f;obtain⟨n,A⟩:=UP m
  grind
def atc{r:dP × am}(f:uE (whole P G aO) l args h=J r):∃n,uE (hJ P G aO n) l args h=J r:=by
 unfold uE at f ⊢;split at f
 .cases f
 .rename_i rc B
  (try simp only[B])
  split at f
  .rename_i C;simp only[C,if_true];split at f
   .rename_i E h1 N;split at f
    .rename_i r2 T;split at f
     .rename_i X;generalize A:(whole P G aO).code _ E _=q at f;cases q with
      |none=>cases f
      |some q=>
       obtain⟨n,Y,g2⟩:=two (λ_ _ _ s m=>(iA s).code _ _ _ _ m) (λ_ _ _ s m=>(iA s).code _ _ _ _ m) (lX N) (lX A)
       grind
     grind
    grind
   grind
  grind
def Kl{α:Type}{a b:Option α}(h1:∀r,a=J r->b=J r)(h2:∀r,b=J r->a=J r):a=b:=by
 cases f:a with
 |some r=>simp_all|none=>
  cases m:b with|none=>rfl|some r=>simp_all
def rB(c:Code)(e:Env)(h:am):(whole P G aO).code c e h=fP P G (whole P G aO) c e h:=
 Kl (λr m=>by
  obtain⟨n,f⟩:=lX m;have:=(GB (P:=P) (G:=G) (aO:=aO) n).code c e h r f;exact Vs (zy n) this)
  (λr m=>by obtain⟨n,f⟩:=ahP m;exact(zy (n+1)).code c e h r f)
def tO(g:bk)(a:List I)(h:am):(whole P G aO).call g a h=mA P G (whole P G aO) aO g a h:=
 Kl (λr m=>by
  obtain⟨n,f⟩:=lX m;have:=(GB (P:=P) (G:=G) (aO:=aO) n).call g a h r f;exact Wx (zy n) this)
  (λr m=>by obtain⟨n,f⟩:=ajT m;exact(zy (n+1)).call g a h r f)
def axI(g:bk)(a:List I)(m:Option (I × Bool))(h:am):(whole P G aO).iS g a m h=qS P G (whole P G aO) g a m h:=
 Kl (λs r=>by
  obtain⟨n,f⟩:=lX r;have:=(GB (P:=P) (G:=G) (aO:=aO) n).iS g a m h s f;exact Nr (zy n) this)
  (λs r=>by obtain⟨n,f⟩:=UP r;exact(zy (n+1)).iS g a m h s f)
def axJ(l:Nat)(a:List I)(h:am):(whole P G aO).round l a h=uE (whole P G aO) l a h:=
 Kl (λr m=>by
  obtain⟨n,f⟩:=lX m;have:=(GB (P:=P) (G:=G) (aO:=aO) n).round l a h r f;exact abs (zy n) this)
  (λr m=>by obtain⟨n,f⟩:=atc m;exact(zy (n+1)).round l a h r f)
end
def Env.st(e:Env)(d:Nat)(x:I):Env:={e with tmps:=e.tmps.set d x}
def aq3(e:Env)(d:Nat)(x):e.put (J d) x=e.st d x:=rfl
def aq1(e:Env)(x):e.put ao x=e:=rfl
def Sk(e:Env)(d t)(x):(e.st d x).get t=if d=t then x else e.get t:=Dp e.tmps d t x
def avN(e:Env)(d)(x):(e.st d x).defers=e.defers:=rfl
def avO(e:Env)(d)(x):(e.st d x).da=e.da:=rfl
def ab8(e:Env)(d)(x):(e.st d x).round=e.round:=rfl
def Env.start(args:List I)(p:Option (I × Bool)):Env:={tmps:={ch:=[],base:=args},defers:=[],da:=p,round:=ao}
def avX(args)(p)(t):(Env.start args p).get t=args.getD t (.tuple []):=rfl
def avW(args)(p):(Env.start args p).defers=[]:=rfl
def avY(args)(p):(Env.start args p).da=p:=rfl
def Sm(args)(p):(Env.start args p).round=ao:=rfl
def yj(e:Env)(t:Nat):e.eval (.tmp t)=e.get t:=rfl
def eval_const(e:Env)(v):e.eval (.const v)=qy v:=rfl
def eval_func(e:Env)(f):e.eval (.func f)=.func (.func f) [] []:=rfl
def eval_global(e:Env)(g):e.eval (.global g)=.ptr (.dU g) 0:=rfl
def apc(k)(n):qy (.int k n)=.v (.int k n):=rfl
def apb(b):qy (.bool b)=.v (.bool b):=rfl
def aph(s):qy (.string s)=.v (.string s):=rfl
def ape:qy .nilIface=.v .nilIface:=rfl
def apd:qy .nilFunc=.v .nilFunc:=rfl
def apf:qy (.pointer ao)=.v (.pointer ao):=rfl
def apg:qy (.slice ao 0 0)=.ac .nil 0 []:=rfl
def apa(cs):qy (.agg ⟨cs⟩)=.agg (cs.map us):=rfl
section
variable (P:bO) (G:Nat->Option (List I)) (R:Rec)
def opsL(ops:Array Oper):List Oper->Env->am->Option (Xt × Env × am)
 | [],e,h=>J (.normal,e,h)
 |o::rest,e,h=>
  match fC ops e o with
  |none=>ao
  |some ar=>opsL ops rest (e.put o.dst (.tuple [])) h
  |some aa=>
   match ec P G R e h o with
   |some (.ret x,e,h)=>opsL ops rest (e.put o.dst x) h
   |some (.panic x,e,h)=>J (.panic x,e,h)
   |none=>ao
def aaj(ops:Array Oper):∀(n i:Nat),i+n=ops.size->∀(e:Env) (h:am),cg P G R ops (adR i n) e h=opsL P G R ops (ops.toList.drop i) e h:=by
 intro n
 induction n with
 |zero=>intro i m e h;rw[List.drop_eq_nil_of_le (by grind)];rfl|succ n s=>
  intro i m e h;have f:i<ops.size:=by omega
  have r:ops[i]?=J ops[i]:=mh f;rw[adS,we ag];simp only[cg,opsL,r,ac2]
  grind
def wq(r:Option (Xt × Env × am))(Q:Xt->Env->am->Prop):Prop:=∃o e h,r=J (o,e,h)/\Q o e h
def bJ(c:Code)(e:Env)(h:am)(Q:Xt->Env->am->Prop):Prop:=wq (R.code c e h) Q
def cQ(ops:Array Oper)(l:List Oper)(e:Env)(h:am)(Q:Xt->Env->am->Prop):Prop:=wq (opsL P G R ops l e h) Q
end
def uu{o}{Q}:wq (J (o,e,h)) Q=Q o e h:=
 propext ⟨λ⟨_,_,_,h1,h2⟩=>by simp_all,λf=>⟨o,e,h,O,f⟩⟩
def rq{Q}:wq ao Q=False:=propext ⟨λ⟨_,_,_,h1,_⟩=>(by cases h1),False.elim⟩
def wq.mono{r}{Q f}(h:∀o e h,Q o e h->f o e h)(s:wq r Q):wq r f:=by obtain⟨o,e,h1,h2,m⟩:=s;exact⟨o,e,h1,h2,h _ _ _ m⟩
def guardOf(ops:Array Oper)(j:Nat):Option Tmp:=(ops[j]?).bind (·.dst)
def akw{l}:guardOf ⟨o::l⟩ 0=o.dst:=rfl
def akv{l}:guardOf ⟨o::l⟩ (n+1)=guardOf ⟨l⟩ n:=by simp[guardOf]
def uN(R:Rec)(a b:Code)(e:Env)(h:am)(Q:Xt->Env->am->Prop)(x:I):Prop:=
 match x with
 | .v (.bool t)=>if t=aa then bJ R a e h Q else bJ R b e h Q
 |_=>False
def nh(P:bO)(G:Nat->Option (List I))(R:Rec)(ops:Array Oper)(o:Oper)(rest:List Oper)(e:Env)(h:am)(Q:Xt->Env->am->Prop)(f:Bool)(x:I):Prop:=
 match x with
 | .v (.bool b)=>if b=f then cQ P G R ops (o::rest) e h Q else cQ P G R ops rest (e.put o.dst (.tuple [])) h Q
 | .tuple []=>cQ P G R ops rest (e.put o.dst (.tuple [])) h Q
 |_=>False
def MX(P:bO)(G:Nat->Option (List I))(R:Rec)(ops:Array Oper)(o:Oper)(rest:List Oper)(e:Env)(h:am)(Q:Xt->Env->am->Prop)(f:Bool)(d:Option Tmp):Prop:=
 match d with
 |some g=>nh P G R ops o rest e h Q f (e.get g)
 |none=>cQ P G R ops rest (e.put o.dst (.tuple [])) h Q
section
variable {P:bO} {G:Nat->Option (List I)} {R:Rec} {a b:Code} {e:Env} {h:am} {Q:Xt->Env->am->Prop} {ops:Array Oper} {o:Oper} {rest:List Oper} {p:Prop} [Decidable p] {t:Bool}
def agB:uN R a b e h Q (.v (.bool aa))=bJ R a e h Q:=rfl
def agy:uN R a b e h Q (.v (.bool ar))=bJ R b e h Q:=rfl
def agx(h1:p->bJ R a e h Q)(h2:¬p->bJ R b e h Q):uN R a b e h Q (.v (.bool (decide p))):=by unfold uN;simp_all
def agA(h1:p->bJ R b e h Q)(h2:¬p->bJ R a e h Q):uN R a b e h Q (.v (.bool (!decide p))):=by unfold uN;simp_all
def agw(h1:t=aa->bJ R a e h Q)(h2:t=ar->bJ R b e h Q):uN R a b e h Q (.v (.bool t)):=by
 cases t
 .exact h2 O
 .exact h1 rfl
def akE:nh P G R ops o rest e h Q aa (.v (.bool aa))=cQ P G R ops (o::rest) e h Q:=rfl
def akD:nh P G R ops o rest e h Q aa (.v (.bool ar))=cQ P G R ops rest (e.put o.dst (.tuple [])) h Q:=rfl
def akA:nh P G R ops o rest e h Q ar (.v (.bool aa))=cQ P G R ops rest (e.put o.dst (.tuple [])) h Q:=rfl
def akz:nh P G R ops o rest e h Q ar (.v (.bool ar))=cQ P G R ops (o::rest) e h Q:=rfl
def akF{w:Bool}:nh P G R ops o rest e h Q w (.tuple [])=cQ P G R ops rest (e.put o.dst (.tuple [])) h Q:=rfl
def aky{w:Bool}(h1:p->nh P G R ops o rest e h Q w (.v (.bool aa)))(h2:¬p->nh P G R ops o rest e h Q w (.v (.bool ar))):nh P G R ops o rest e h Q w (.v (.bool (decide p))):=by by_cases f:p<;>simp_all
def akC{w:Bool}(h1:p->nh P G R ops o rest e h Q w (.v (.bool ar)))(h2:¬p->nh P G R ops o rest e h Q w (.v (.bool aa))):nh P G R ops o rest e h Q w (.v (.bool (!decide p))):=by by_cases f:p<;>simp_all
def akx{w:Bool}(h1:t=aa->nh P G R ops o rest e h Q w (.v (.bool aa)))(h2:t=ar->nh P G R ops o rest e h Q w (.v (.bool ar))):nh P G R ops o rest e h Q w (.v (.bool t)):=by cases t<;>simp_all
def akB{w:Bool}(h1:t=aa->nh P G R ops o rest e h Q w (.v (.bool ar)))(h2:t=ar->nh P G R ops o rest e h Q w (.v (.bool aa))):nh P G R ops o rest e h Q w (.v (.bool (!t))):=by cases t<;>simp_all
def agz(h1:t=aa->bJ R b e h Q)(h2:t=ar->bJ R a e h Q):uN R a b e h Q (.v (.bool (!t))):=by
 cases t
 .exact h2 O
 .exact h1 rfl
def avr{w:Bool}{g:Tmp}:MX P G R ops o rest e h Q w (J g)=nh P G R ops o rest e h Q w (e.get g):=rfl
end
def GY(R:Rec)(c:Code)(Q:Xt->Env->am->Prop):Xt->Env->am->Prop
 | .normal,e,h=>bJ R c e h Q
 |o,e,h=>Q o e h
def EW(id:Nat)(Q:Xt->Env->am->Prop):Xt->Env->am->Prop
 | .exit i,e,h=>if i=id then Q .normal e h else Q (.exit i) e h
 |o,e,h=>Q o e h
def vg(Q:Xt->Env->am->Prop):Xt->Env->am->Prop
 | .normal,e,h=>Q .normal e h
 |_,_,_=>False
section
variable {R:Rec} {c:Code} {Q:Xt->Env->am->Prop} {e:Env} {h:am}
def au0:GY R c Q .normal e h=bJ R c e h Q:=rfl
def au2:GY R c Q .ret e h=Q .ret e h:=rfl
def auZ:GY R c Q (.exit i) e h=Q (.exit i) e h:=rfl
def au1:GY R c Q (.panic x) e h=Q (.panic x) e h:=rfl
def agq:EW id Q .normal e h=Q .normal e h:=rfl
def ags:EW id Q .ret e h=Q .ret e h:=rfl
def UM:EW id Q (.exit i) e h=if i=id then Q .normal e h else Q (.exit i) e h:=rfl
def agr:EW id Q (.panic x) e h=Q (.panic x) e h:=rfl
def agT:vg Q .normal e h=Q .normal e h:=rfl
def agU:vg Q (.panic x) e h=False:=rfl
end
section
variable {P:bO} {G:Nat->Option (List I)} {aO:bk->Option (List I->am->Option (I × am))} {Q:Xt->Env->am->Prop} {e:Env} {h:am}
def auy:bJ (whole P G aO) .skip e h Q=Q .normal e h:=by rw[bJ,rB];exact uu
def auq:bJ (whole P G aO) (.label l) e h Q=Q .normal e h:=by rw[bJ,rB];exact uu
def aux{a:Code}:bJ (whole P G aO) (.scope a) e h Q=bJ (whole P G aO) a e h Q:=by unfold bJ;rw[rB];simp only[fP]
def aup:bJ (whole P G aO) (.exit id) e h Q=Q (.exit id) e h:=by rw[bJ,rB];exact uu
def auw:bJ (whole P G aO) .ret e h Q=Q .ret e h:=by rw[bJ,rB];exact uu
def run_seq{a b:Code}:bJ (whole P G aO) (.seq a b) e h Q=bJ (whole P G aO) a e h (GY (whole P G aO) b Q):=by
 unfold bJ;rw[rB];simp only[fP];cases m:(whole P G aO).code a e h with|none=>simp only[rq]|some q=>obtain⟨o,f,h1⟩:=q;cases o<;>simp only[uu]<;>rfl
def aum{c:b9}{a b:Code}:bJ (whole P G aO) (.cond c a b) e h Q=uN (whole P G aO) a b e h Q (e.eval c):=by
 unfold bJ uN;rw[rB];simp only[fP];generalize e.eval c=x;rcases x with _|v|_|_|_|_|_|_|_|_|_
 case v=>
  cases v with
  |bool t=>cases t<;>rfl
  |_=>simp only[rq]
 all_goals (simp only[rq])
def aul{a:Code}:bJ (whole P G aO) (.block id a) e h Q=bJ (whole P G aO) a e h (EW id Q):=by
 unfold bJ;rw[rB];simp only[fP];cases m:(whole P G aO).code a e h with
 |none=>simp only[rq]|some q=>
  obtain⟨o,f,h1⟩:=q;cases o with
  |exit i=>simp only[uu,UM];split<;>simp only[uu]
  |_=>simp only[uu]<;>rfl
def auv:bJ (whole P G aO) (.region id ops ar) e h Q=cQ P G (whole P G aO) ops ops.toList e h Q:=by unfold bJ cQ;rw[rB];simp only[fP,jE,if_false];have:=aaj P G (whole P G aO) ops ops.size 0 ag e h;rw[iI]at this;rw[<-this,Tv]
def N2(f:E' ops=aa)(e:Env)(h:am):my P G R ops e h=aa:=by unfold E' at f;unfold my;simp_all
def run_draw_c(D:drawC P G (whole P G aO) ops e h .normal=aa)(m:cQ P G (whole P G aO) ops ops.toList e h (vg Q)):bJ (whole P G aO) (.region id ops aa) e h Q:=by
 unfold bJ cQ at *
 rw[rB];have:=aaj P G (whole P G aO) ops ops.size 0 ag e h;rw[iI]at this;rw[<-this,<-Tv]at m;obtain⟨o,r,h1,h2,f⟩:=m;cases o with|normal=>exact⟨_,_,_,draw_code h2 D,f⟩|_=>exact f.elim
def R5(f:my P G (whole P G aO) ops e h=aa)(m:cQ P G (whole P G aO) ops ops.toList e h (vg Q)):bJ (whole P G aO) (.region id ops aa) e h Q:=run_draw_c ((pO _ _).mpr (.inl f)) m
def run_draw_stores(D:zx P G (whole P G aO) ops e h=aa)(f:cQ P G (whole P G aO) ops ops.toList e h (vg Q)):bJ (whole P G aO) (.region id ops aa) e h Q:=run_draw_c ((pO _ _).mpr (.inr D)) f
def tJ(f:E' ops=aa)(m:cQ P G (whole P G aO) ops ops.toList e h (vg Q)):bJ (whole P G aO) (.region id ops aa) e h Q:=
 R5 (N2 f e h) m
def Bd(m:Nat->Env->am->Prop)(n:Nat)(Q:Xt->Env->am->Prop):Xt->Env->am->Prop
 | .normal,e,h=>∃f,f<n/\m f e h
 |o,e,h=>Q o e h
def an8{f:Nat->Env->am->Prop}:Bd f n Q .normal e h=∃m,m<n/\f m e h:=rfl
def aoa{f:Nat->Env->am->Prop}:Bd f n Q .ret e h=Q .ret e h:=rfl
def an7{f:Nat->Env->am->Prop}:Bd f n Q (.exit i) e h=Q (.exit i) e h:=rfl
def an9{f:Nat->Env->am->Prop}:Bd f n Q (.panic x) e h=Q (.panic x) e h:=rfl
def cK(s:Nat->Env->am->Prop)(f:∀n e h,s n e h->bJ (whole P G aO) c e h (Bd s n Q)):
 ∀n e h,s n e h->bJ (whole P G aO) (.loop c) e h Q:=by
 intro n
 induction n using HX with
 |_ n D=>
  intro e h B;obtain⟨o,A,h1,h2,m⟩:=f n e h B;unfold bJ;rw[rB];simp only[fP,h2];cases o with
  |normal=>obtain⟨E,C,r⟩:=m;exact D E C A h1 r
  |_=>exact⟨_,_,_,O,m⟩
def bJ.mono{f:Xt->Env->am->Prop}(m:∀o e h,Q o e h->f o e h)(r:bJ R c e h' Q):bJ R c e h' f:=wq.mono m r
def wC(P:bO)(G:Nat->Option (List I))(R:Rec)(fn:Func)(r:dP)(h':am):Xt->Env->am->Prop
 | .normal,e,h=>gO P G R fn e e.defers ao h=J (r,h')
 | .ret,e,h=>gO P G R fn e e.defers ao h=J (r,h')
 | .panic x,e,h=>gO P G R fn e e.defers (J (x,ar)) h=J (r,h')
 | .exit _,_,_=>False
def cX{r:dP}(B:aO g=ao)(m:P.funcs[g]?=J fn)(A:fn.body=J body)
 (C:bJ (whole P G aO) body (Env.start args ao) h (wC P G (whole P G aO) fn r h')):(whole P G aO).call g args h=J (r,h'):=by
 rw[tO];unfold mA;rw[B];unfold qS;rw[m];simp only[A];obtain⟨o,s,h1,h2,f⟩:=C;have h2:(whole P G aO).code body {tmps:={ch:=[],base:=args},defers:=[],da:=ao,round:=ao} h=J (o,s,h1):=h2;rw[h2];cases o with|exit i=>exact f.elim|_=>simp only[wC]at f;simp_all
def NO{m m':Option (I × Bool)}{r:dP}(s:P.funcs[g]?=J fn)(B:fn.body=J body)
 (C:bJ (whole P G aO) body (Env.start args m) h λo e h1=>wC P G (whole P G aO) fn r h' o e h1/\e.da=m'):(whole P G aO).iS g args m h=J (r,m',h'):=by
 rw[axI];unfold qS;rw[s];simp only[B];obtain⟨o,A,h1,h2,f,D⟩:=C;have h2:(whole P G aO).code body {tmps:={ch:=[],base:=args},defers:=[],da:=m,round:=ao} h=J (o,A,h1):=h2;rw[h2];cases o with|exit i=>exact f.elim|_=>simp only[wC]at f;simp_all
def ai2{r:dP}:wC P G R fn r h' .normal e h=(gO P G R fn e e.defers ao h=J (r,h')):=rfl
def ai4{r:dP}:wC P G R fn r h' .ret e h=(gO P G R fn e e.defers ao h=J (r,h')):=rfl
def ai3{r:dP}:wC P G R fn r h' (.panic x) e h=(gO P G R fn e e.defers (J (x,ar)) h=J (r,h')):=rfl
def axo:gO P G R fn e [] ao h=(GE P G fn e h).map λx=>(.ret x,h):=rfl
def axp{b:Bool}:gO P G R fn e [] (J (x,b)) h=J (.panic x,h):=rfl
section
variable {R:Rec} {ops:Array Oper} {rest:List Oper} {d:Option Tmp} {ty:aX} {pos:String} {X:Array Edge}
def auh:cQ P G R ops [] e h Q=Q .normal e h:=uu
def aug{m:Op}{f:Bool}:cQ P G R ops (⟨d,m,ty,pos,X,J (j,f)⟩::rest) e h Q=
 MX P G R ops ⟨d,m,ty,pos,X,ao⟩ rest e h Q f (guardOf ops j):=by
 unfold cQ guardOf MX nh cQ;simp only[opsL,fC];cases (ops[j]?).bind (·.dst) with
 |none=>rfl|some g=>
  simp only;generalize e.get g=x;rcases x with _|v|_|_|_|cs|_|_|_|_|_
  case v=>
   cases v with
   |bool b=>
    simp only;by_cases r:b=f
    .subst r;simp only[beq_self_eq_true,if_true];rfl
    grind
   |_=>simp only[rq]
  case tuple=>cases cs<;>simp only[rq]
  all_goals (simp only[rq])
def after(P:bO)(G:Nat->Option (List I))(R:Rec)(ops:Array Oper)(rest:List Oper)(d:Option Tmp)(e:Env)(Q:Xt->Env->am->Prop):Option (I × am)->Prop
 |some (x,h)=>cQ P G R ops rest (e.put d x) h Q
 |none=>False
def aeM:after P G R ops rest d e Q (J (x,h))=cQ P G R ops rest (e.put d x) h Q:=rfl
def opsOf(o:Op):Bool:=
 match o with
 | .call _| .defer _| .panic _=>ar
 |_=>aa
def mc{f:Op}(r:opsOf f=aa):cQ P G R ops (⟨d,f,ty,pos,X,ao⟩::rest) e h Q=after P G R ops rest d e Q (dH P G e.eval h f):=by
 unfold cQ;simp only[opsL,fC];have m:ec P G R e h ⟨d,f,ty,pos,X,ao⟩=(dH P G e.eval h f).map λ(x,h)=>(.ret x,e,h):=by cases f<;>first|rfl|(simp[opsOf]at r)
 rw[m];cases dH P G e.eval h f with|none=>simp only[Ia,rq];rfl|some q=>obtain⟨x,h1⟩:=q;rfl
def M8(P:bO)(G:Nat->Option (List I))(R:Rec)(ops:Array Oper)(rest:List Oper)(d:Option Tmp)(e:Env)(Q:Xt->Env->am->Prop):Option (dP × am)->Prop
 |some (.ret x,h)=>cQ P G R ops rest (e.put d x) h Q
 |some (.panic x,h)=>Q (.panic x) e h
 |none=>False
def aeL:M8 P G R ops rest d e Q (J (.ret x,h))=cQ P G R ops rest (e.put d x) h Q:=rfl
def aeK:M8 P G R ops rest d e Q (J (.panic x,h))=Q (.panic x) e h:=rfl
def auk{f:b9}{args:Array b9}{ts:Array aX}:cQ P G R ops (⟨d,.call {callee:=.value f,args,argTypes:=ts},ty,pos,X,ao⟩::rest) e h Q=
 M8 P G R ops rest d e Q (lI P R e h {callee:=.value f,args,argTypes:=ts}):=by
 unfold cQ;simp only[opsL,fC,ec];cases lI P R e h {callee:=.value f,args,argTypes:=ts} with|none=>simp only[Ia,rq];rfl|some q=>obtain⟨m,h1⟩:=q;cases m<;>simp only[gq,uu]<;>rfl
def U1{args:Array b9}{ts:Array aX}:lI P R e h {callee:=.value (.func g),args,argTypes:=ts}=R.call g (args.toList.map e.eval) h:=by simp[lI,eval_func]
def U2{t:Nat}{args:Array b9}{ts:Array aX}:lI P R e h {callee:=.value (.tmp t),args,argTypes:=ts}=
 (match e.get t with
  | .func (.func g) first aY=>R.call g (first++args.toList.map e.eval++aY) h
  | .yield l=>R.round l (args.toList.map e.eval) h
  |_=>ao):=rfl
def aaK:Builtin->Bool
 | .recover| .panic| .append=>ar
 |_=>aa
def GW{b:Builtin}{args:Array b9}{ts:Array aX}(m:aaK b=aa):cQ P G R ops (⟨d,.call {callee:=.builtin b,args,argTypes:=ts},ty,pos,X,ao⟩::rest) e h Q=
 after P G R ops rest d e Q (iQ P h b ts ty (args.toList.map e.eval)):=by
 unfold cQ;simp only[opsL,fC];have f:ec P G R e h ⟨d,.call {callee:=.builtin b,args,argTypes:=ts},ty,pos,X,ao⟩=(iQ P h b ts ty (args.toList.map e.eval)).map λ(x,h)=>(.ret x,e,h):=by cases b<;>first|rfl|(simp[aaK]at m)
 rw[f];cases iQ P h b ts ty (args.toList.map e.eval) with|none=>simp only[Ia,rq];rfl|some q=>obtain⟨x,h1⟩:=q;rfl
def asG(x:b9):cQ P G R ops (⟨d,.move x,ty,pos,X,ao⟩::rest) e h Q=after P G R ops rest d e Q (dH P G e.eval h (.move x)):=mc rfl
def asl(x:b9):cQ P G R ops (⟨d,.assign x,ty,pos,X,ao⟩::rest) e h Q=after P G R ops rest d e Q (dH P G e.eval h (.assign x)):=mc rfl
def asI(c a b:b9):cQ P G R ops (⟨d,.pick c a b,ty,pos,X,ao⟩::rest) e h Q=after P G R ops rest d e Q (dH P G e.eval h (.pick c a b)):=mc rfl
def asi(t:aX):cQ P G R ops (⟨d,.alloc t,ty,pos,X,ao⟩::rest) e h Q=after P G R ops rest d e Q (dH P G e.eval h (.alloc t)):=mc rfl
def asn(t:aX)(x:b9):cQ P G R ops (⟨d,.box t x,ty,pos,X,ao⟩::rest) e h Q=after P G R ops rest d e Q (dH P G e.eval h (.box t x)):=mc rfl
def aso(t:aX)(ps:Array (Nat × b9)):cQ P G R ops (⟨d,.build t ps,ty,pos,X,ao⟩::rest) e h Q=after P G R ops rest d e Q (dH P G e.eval h (.build t ps)):=mc rfl
def asp(t:aX)(n:Nat)(ps:Array (Nat × b9)):cQ P G R ops (⟨d,.buildSlice t n ps,ty,pos,X,ao⟩::rest) e h Q=after P G R ops rest d e Q (dH P G e.eval h (.buildSlice t n ps)):=mc rfl
def asA(t:aX)(a:b9):cQ P G R ops (⟨d,.load t a,ty,pos,X,ao⟩::rest) e h Q=after P G R ops rest d e Q (dH P G e.eval h (.load t a)):=mc rfl
def asL(t:aX)(a x:b9):cQ P G R ops (⟨d,.store t a x,ty,pos,X,ao⟩::rest) e h Q=after P G R ops rest d e Q (dH P G e.eval h (.store t a x)):=mc rfl
def asH(x:b9):cQ P G R ops (⟨d,.nilCheck x,ty,pos,X,ao⟩::rest) e h Q=after P G R ops rest d e Q (dH P G e.eval h (.nilCheck x)):=mc rfl
def asm(o:BinOp)(t:aX)(x y:b9)(f:aX):cQ P G R ops (⟨d,.binOp o t x y f,ty,pos,X,ao⟩::rest) e h Q=after P G R ops rest d e Q (dH P G e.eval h (.binOp o t x y f)):=mc rfl
def asN(o:UnOp)(t:aX)(x:b9):cQ P G R ops (⟨d,.unOp o t x,ty,pos,X,ao⟩::rest) e h Q=after P G R ops rest d e Q (dH P G e.eval h (.unOp o t x)):=mc rfl
def asr(s t:aX)(x:b9):cQ P G R ops (⟨d,.convert s t x,ty,pos,X,ao⟩::rest) e h Q=after P G R ops rest d e Q (dH P G e.eval h (.convert s t x)):=mc rfl
def asC(t:aX)(x:b9):cQ P G R ops (⟨d,.makeInterface t x,ty,pos,X,ao⟩::rest) e h Q=after P G R ops rest d e Q (dH P G e.eval h (.makeInterface t x)):=mc rfl
def asB(fn:Fn)(first aY:Array b9):cQ P G R ops (⟨d,.makeFunc fn first aY,ty,pos,X,ao⟩::rest) e h Q=after P G R ops rest d e Q (dH P G e.eval h (.makeFunc fn first aY)):=mc rfl
def asD(t:aX)(l c:b9):cQ P G R ops (⟨d,.makeSlice t l c,ty,pos,X,ao⟩::rest) e h Q=after P G R ops rest d e Q (dH P G e.eval h (.makeSlice t l c)):=mc rfl
def asK(t:aX)(x:b9)(lo hi mx:Option b9):cQ P G R ops (⟨d,.slice t x lo hi mx,ty,pos,X,ao⟩::rest) e h Q=after P G R ops rest d e Q (dH P G e.eval h (.slice t x lo hi mx)):=mc rfl
def asw(t:aX)(x:b9)(f:Nat):cQ P G R ops (⟨d,.fieldAddr t x f,ty,pos,X,ao⟩::rest) e h Q=after P G R ops rest d e Q (dH P G e.eval h (.fieldAddr t x f)):=mc rfl
def asv(t:aX)(x:b9)(f:Nat):cQ P G R ops (⟨d,.field t x f,ty,pos,X,ao⟩::rest) e h Q=after P G R ops rest d e Q (dH P G e.eval h (.field t x f)):=mc rfl
def asy(t:aX)(x i:b9):cQ P G R ops (⟨d,.indexAddr t x i,ty,pos,X,ao⟩::rest) e h Q=after P G R ops rest d e Q (dH P G e.eval h (.indexAddr t x i)):=mc rfl
def asx(t:aX)(x i:b9):cQ P G R ops (⟨d,.index t x i,ty,pos,X,ao⟩::rest) e h Q=after P G R ops rest d e Q (dH P G e.eval h (.index t x i)):=mc rfl
def asM(x:b9)(xt t:aX)(ok:Bool):cQ P G R ops (⟨d,.typeAssert x xt t ok,ty,pos,X,ao⟩::rest) e h Q=after P G R ops rest d e Q (dH P G e.eval h (.typeAssert x xt t ok)):=mc rfl
def asu(x:b9)(i:Nat):cQ P G R ops (⟨d,.extract x i,ty,pos,X,ao⟩::rest) e h Q=after P G R ops rest d e Q (dH P G e.eval h (.extract x i)):=mc rfl
def asz(args:Array b9)(ts:Array aX):cQ P G R ops (⟨d,.call {callee:=.builtin .len,args,argTypes:=ts},ty,pos,X,ao⟩::rest) e h Q=after P G R ops rest d e Q (iQ P h .len ts ty (args.toList.map e.eval)):=GW rfl
def asq(args:Array b9)(ts:Array aX):cQ P G R ops (⟨d,.call {callee:=.builtin .cap,args,argTypes:=ts},ty,pos,X,ao⟩::rest) e h Q=after P G R ops rest d e Q (iQ P h .cap ts ty (args.toList.map e.eval)):=GW rfl
def asj(args:Array b9)(ts:Array aX):cQ P G R ops (⟨d,.call {callee:=.builtin .append,args,argTypes:=ts},ty,pos,X,ao⟩::rest) e h Q=after P G R ops rest d e Q (qV P G d h .append ts ty (args.toList.map e.eval)):=by
 unfold cQ;simp only[opsL,fC];have f:ec P G R e h ⟨d,.call {callee:=.builtin .append,args,argTypes:=ts},ty,pos,X,ao⟩=(qV P G d h .append ts ty (args.toList.map e.eval)).map λ(x,h)=>(.ret x,e,h):=rfl;rw[f];cases qV P G d h .append ts ty (args.toList.map e.eval) with|none=>simp only[Ia,rq];rfl|some q=>obtain⟨x,h1⟩:=q;rfl
def ass(args:Array b9)(ts:Array aX):cQ P G R ops (⟨d,.call {callee:=.builtin .copy,args,argTypes:=ts},ty,pos,X,ao⟩::rest) e h Q=after P G R ops rest d e Q (iQ P h .copy ts ty (args.toList.map e.eval)):=GW rfl
def asF(args:Array b9)(ts:Array aX):cQ P G R ops (⟨d,.call {callee:=.builtin .min,args,argTypes:=ts},ty,pos,X,ao⟩::rest) e h Q=after P G R ops rest d e Q (iQ P h .min ts ty (args.toList.map e.eval)):=GW rfl
def asE(args:Array b9)(ts:Array aX):cQ P G R ops (⟨d,.call {callee:=.builtin .max,args,argTypes:=ts},ty,pos,X,ao⟩::rest) e h Q=after P G R ops rest d e Q (iQ P h .max ts ty (args.toList.map e.eval)):=GW rfl
def aui{x:b9}:cQ P G R ops (⟨d,.panic x,ty,pos,X,ao⟩::rest) e h Q=(match e.eval x with| .iface t y=>Q (.panic (.iface t y)) e h|_=>False):=by unfold cQ;simp only[opsL,fC,ec];generalize e.eval x=y;cases y<;>first|exact uu|exact rq
def auj{args:Array b9}{ts:Array aX}(f:e.round=ao):cQ P G R ops (⟨d,.call {callee:=.builtin .recover,args,argTypes:=ts},ty,pos,X,ao⟩::rest) e h Q=
 (match e.da with
  |some (x,ar)=>cQ P G R ops rest (({e with da:=J (x,aa)}:Env).put d x) h Q
  |_=>cQ P G R ops rest (e.put d (.v .nilIface)) h Q):=by
 unfold cQ;simp only[opsL,fC,ec,f,H_,jE,if_false]
 grind
def auf{f:b9}{args:Array b9}{ts:Array aX}(s:e.round=ao):cQ P G R ops (⟨d,.defer {callee:=.value f,args,argTypes:=ts},ty,pos,X,ao⟩::rest) e h Q=
 (match e.eval f with
  | .func (.func g) first aY=>cQ P G R ops rest (({e with defers:=(g,first++args.toList.map e.eval++aY)::e.defers}:Env).put d (.tuple [])) h Q
  |_=>False):=by
 unfold cQ;simp only[opsL,fC,ec,s,H_,jE,if_false];generalize e.eval f=y;rcases y with _|_|_|_|_|_|_|_|⟨m,a,b⟩|_|_
 case func=>cases m<;>first|rfl|exact rq
 all_goals exact rq
end
end
def bs(l:List UInt8):ByteArray:=⟨l.toArray⟩
def str(l:List UInt8):I:=.v (.string (bs l))
def int(n:Int):I:=.v (.int .i64 n)
def bool(b:Bool):I:=.v (.bool b)
def agD(l):ByteArray.mk l.toArray=bs l:=rfl
def z_(l):(bs l).size=F l:=rfl
def agC(a b):bs a++bs b=bs (a++b):=by apply ByteArray.ext;rw[ByteArray.data_append];simp[bs]
def Nt(l)(i j):(bs l).extract i j=bs ((l.take j).drop i):=by apply ByteArray.ext;rw[ByteArray.data_extract];simp[bs,List.extract_eq_take_drop,Mz]
def ny{α s}{P}(m)(f:α->Sem s):eP P (m>>=f)=(eP P m).bind λa=>eP P (f a):=by
 show eP P (m.bind f)=_
 induction m with
 |pure a=>rfl|program k r=>simp only[Sem.bind,eP];grind
 |mark m k r=>simp only[Sem.bind,eP];exact r|_=>rfl
section
variable {P:bO} {t:aX} {x y:b9} {k:uO} {a b:Int}
def qQ{f:BinOp}(h:eP P (binOp f t (.int k a) (.int k b))=J v):de P f t x y (.v (.int k a)) (.v (.int k b))=nC v:=by
 have m:eP P (eqGuard f t x y (.int k a) (.int k b))=J ():=by cases f<;>rfl
 show(eP P (do eqGuard f t x y (.int k a) (.int k b);binOp f t (.int k a) (.int k b))).bind nC=_;rw[ny,m];simp_all
def UE:de P .add t x y (.v (.int k a)) (.v (.int k b))=J (.v (.int k (k.wrap (a+b)))):=qQ (v:=.int k (k.wrap (a+b))) (by simp[binOp,Op.intArith];rfl)
def af5:de P .sub t x y (.v (.int k a)) (.v (.int k b))=J (.v (.int k (k.wrap (a-b)))):=qQ (v:=.int k (k.wrap (a-b))) (by simp[binOp,Op.intArith];rfl)
def afY:de P .mul t x y (.v (.int k a)) (.v (.int k b))=J (.v (.int k (k.wrap (a*b)))):=qQ (v:=.int k (k.wrap (a*b))) (by simp[binOp,Op.intArith];rfl)
def af0(h:b≠0):de P .quo t x y (.v (.int k a)) (.v (.int k b))=J (.v (.int k (k.wrap (a.tdiv b)))):=qQ (v:=.int k (k.wrap (a.tdiv b))) (by simp[binOp,Op.intDiv,h];rfl)
def af2(h:b≠0):de P .rem t x y (.v (.int k a)) (.v (.int k b))=J (.v (.int k (a.tmod b))):=qQ (v:=.int k (a.tmod b)) (by simp[binOp,Op.intDiv,h];rfl)
def afS:de P .eql t x y (.v (.int k a)) (.v (.int k b))=J (.v (.bool (decide (a=b)))):=qQ (v:=.bool (decide (a=b))) (by
 have:(a==b)=decide (a=b):=by rw[ac8];simp
 simp[binOp,Op.intCmp,this];rfl)
def afZ:de P .neq t x y (.v (.int k a)) (.v (.int k b))=J (.v (.bool (!decide (a=b)))):=qQ (v:=.bool (!decide (a=b))) (by
 have:(a !=b)= !decide (a=b):=by rw[ac8];simp
 simp[binOp,Op.intCmp,this];rfl)
def afX:de P .lss t x y (.v (.int k a)) (.v (.int k b))=J (.v (.bool (decide (a<b)))):=qQ (v:=.bool (decide (a<b))) (by simp[binOp,Op.intCmp];rfl)
def afW:de P .leq t x y (.v (.int k a)) (.v (.int k b))=J (.v (.bool (decide (a<=b)))):=qQ (v:=.bool (decide (a<=b))) (by simp[binOp,Op.intCmp];rfl)
def afU:de P .gtr t x y (.v (.int k a)) (.v (.int k b))=J (.v (.bool (decide (b<a)))):=qQ (v:=.bool (decide (b<a))) (by simp[binOp,Op.intCmp];rfl)
def afT:de P .geq t x y (.v (.int k a)) (.v (.int k b))=J (.v (.bool (decide (b<=a)))):=qQ (v:=.bool (decide (b<=a))) (by simp[binOp,Op.intCmp];rfl)
def af3:de P .eql t x y (.v (.string (bs p))) (.v (.string (bs q)))=J (.v (.bool (decide (p=q)))):=by
 show J (I.v (.bool (p==q)))=_
 grind
def af4:de P .neq t x y (.v (.string (bs p))) (.v (.string (bs q)))=J (.v (.bool (!decide (p=q)))):=by
 show J (I.v (.bool (!(p==q))))=_
 grind
def UG(h:F p+F q<=9223372036854775807):de P .add t x y (.v (.string (bs p))) (.v (.string (bs q)))=J (.v (.string (bs (p++q)))):=by show(if (bs p).size+(bs q).size<=9223372036854775807 then J (I.v (.string (bs p++bs q))) else ao)=_;rw[z_,z_,aC h,agC]
def axi{c:Bool}:Ho P .not (.v (.bool c))=J (.v (.bool (!c))):=rfl
def axh:Ho P .neg (.v (.int k a))=J (.v (.int k (k.wrap (0-a)))):=rfl
def Zs{s:ByteArray}(f:P.underlying t=J .string):dp P t (.v (.string s))=J (.v (.int .i64 s.size)):=by unfold dp;rw[f]
def Qn{e:aX}{m:Tok}(f:P.underlying t=J (.slice e)):dp P t (.ac m sz es)=J (.v (.int .i64 (F es))):=by unfold dp;rw[f]
def Gc{e:aX}{b o c:Nat}(f:P.underlying t=J (.slice e)):dp P t (.arr b o l c)=J (.v (.int .i64 l)):=by unfold dp;rw[f]
def amp{l:List UInt8}(m:P.underlying t=J .string)(h0:0<=a)(h1:a<F l):A7 P t (.v (.string (bs l))) (.v (.int k a))=J (.v (.int .u8 (l.getD a.toNat 0).toNat)):=by
 unfold A7;rw[m];have f:a.toNat<F l:=by omega
 simp only[aC h0,bs,je,aW f]
 grind
def ap9{c}{u v}:Ks (.v (.bool c)) u v=J (if c=aa then u else v):=by cases c<;>rfl
def ji(h0: -9223372036854775808<=a)(h1:a<=9223372036854775807):IntKind.i64.wrap a=a:=by rw[IntKind.wrap_i64];omega
def N3(h0:0<=a)(h1:a<=255):IntKind.u8.wrap a=a:=by rw[IntKind.wrap_u8];omega
end
section
open Go.RowKit (Below)
def bj.init(W:cC):bj:={base:=W.heap.size,ic:=λg j=>W.cell? ⟨g,j,ao⟩,β:=[],γ:=[],tn:=0,tk:=λ_=>(0,0,0),md:=[],lb:=λ_=>ao}
def am.init:am:=⟨[],[],0,[]⟩
def avd{G}{ok}(W)(r:∀g cs,G g=J cs->∃cells,aN (bj.init W) cs cells/\∀(j:Nat) (c:a_),cells[j]?=J c->W.cell? ⟨g,j,ao⟩=J c):
 bW (bj.init W) G ok W am.init W:=by
 refine⟨.refl _ _,aT _,λg j c h=>h,r,O,λb m g h=>?_,λb g cs h=>?_,O,λb m g h=>?_,λl g A h=>?_,O,λt f=>?_,λt B f=>?_,λA s=>?_,O⟩
 .simp[bj.init]at h
 .simp[bj.init]at h
 .simp[bj.init]at h
 .simp[bj.init]at h
 .simp[alive,am.init]at f
 .simp[alive,am.init]at f
 .simp[bj.init]at s
def Bu(P:bO):Nat->List Field->Nat->Bool
 |off,[],f=>iJ off f
 |off,r::m,f=>iJ r.offset off&&Bu P (off+P.cellsOf r.type) m f
def Ki(P:bO):Nat->aX->Bool
 |0,_=>ar
 |n+1,t=>
  match P.underlying t with
  |some .bool|some (.int _)|some .string=>aa
  |some (.slice e)=>Ki P n e&&decide (0<P.cellsOf e)
  |some (.struct f)=>Bu P 0 f.toList (P.cellsOf t)&&f.toList.all λm=>Ki P n m.type
  |some (.array r e)=>iJ (P.cellsOf t) (r*P.cellsOf e)&&Ki P n e
  |_=>ar
inductive Has {H:Type} (P:bO):aX->List I->DataW H->Prop
 |bool {t:aX} (hu:P.underlying t=J .bool) (b:Bool):Has P t [.v (.bool b)] (.lit (.bool b))
 |int {t:aX} {k:uO} (hu:P.underlying t=J (.int k)) (n:Int) (hn:(Lit.int k n).wf=aa):Has P t [.v (.int k n)] (.lit (.int k n))
 |str {t:aX} (hu:P.underlying t=J .string) (s:ByteArray) (hs:s.size<=maxLen):Has P t [.v (.string s)] (.lit (.string s.data.toList))
 |none {t e:aX} (hu:P.underlying t=J (.slice e)):Has P t [.ac .nil (P.cellsOf e) []] .nil
 |ac {t e:aX} (hu:P.underlying t=J (.slice e)) (k:Tok) (es:List (List I)) (ds sp:List (DataW H)) (hk:k=.held∨(k=.aK/\es=[])) (hl:es.length<=maxLen) (hd:ds.length=es.length)
  (he:∀(i:Nat) (r:List I) (d:DataW H),es[i]?=J r->ds[i]?=J d->Has P e r d) (hs:∀r∈es,r.length=P.cellsOf e):Has P t [.ac k (P.cellsOf e) es] (.slice ds sp)
 |struct {t:aX} {fs:Array Field} (hu:P.underlying t=J (.struct fs)) (xs:List I) (ds:List (DataW H)) (hl:xs.length=P.cellsOf t) (hd:ds.length=fs.size)
  (hf:∀(i:Nat) (f:Field) (d:DataW H),fs[i]?=J f->ds[i]?=J d->Has P f.type ((xs.drop f.offset).take (P.cellsOf f.type)) d):Has P t xs (.agg ds)
 |array {t e:aX} {n:Nat} (hu:P.underlying t=J (.array n e)) (xs:List I) (ds:List (DataW H)) (hl:xs.length=P.cellsOf t) (hd:ds.length=n)
  (he:∀(i:Nat) (d:DataW H),ds[i]?=J d->Has P e ((xs.drop (i * P.cellsOf e)).take (P.cellsOf e)) d):Has P t xs (.agg ds)
section
variable {H:Type} {Y:aX × a_->H} {P:bO} {W:cC}
def Vc{a:Addr}{vs:List a_}(h:W.cells? 0 a n=J vs):F vs=n/\∀j,j<n->W.cell? (a.add j)=vs[j]?:=by unfold World.cells? at h;rw[aC (ck _)]at h;refine⟨by simpa using mapM_some_length h,λj f=>mapM_some_get h j j (by grind)⟩
def avC{a:Addr}(h:W.cell? a=J v):a.spot=ao:=by unfold World.cell? at h;split at h<;>simp_all
def ajB{α:Type}:∀{es:List (List α)},(∀r∈es,F r=sz)->∀(i j:Nat),j<sz->es.flatten[i*sz+j]?=(es[i]?).bind (·[j]?):=by
 intro es
 induction es with
 |nil=>simp_all|cons r es s=>
  intro f i j m;have h1:F r=sz:=f r gj;cases i with
  |zero=>grind
  |succ i=>rw[mj,List.getElem?_append_right (by grind),h1];have:(i+1)*sz+j-sz=i*sz+j:=(by rw[jt];omega);simp_all
end
end
section
open Go.RowKit Go.WideShapes Go.ChangeShapes
def lq{H:Type}(P:bO)(t:aX)(x:I)(d:DataW H):Prop:=
 match P.underlying t with
 |some (.struct _)|some (.array _ _)=>∃cs,x=.agg cs/\Has P t cs d
 |_=>Has P t [x] d
def sJ{H:Type}(P:bO):List aX->List I->List (DataW H)->Prop
 | [],[],[]=>True
 |t::ts,x::xs,d::f=>lq P t x d/\sJ P ts xs f
 |_,_,_=>False
section
variable {H:Type} {Y:aX × a_->H} {P:bO} {W:cC}
def aff(D:laidOutB P=aa){A:cC}{C:Nat->Bool}:∀{ts:List aX} {vs:List a_} {m:List (DataW H)} {p:List MemPlace},DataW.TrodAll Y P W 0 (λ_=>aa) aa ts vs m p->
 (∀t∈ts,P.readableRec t=true/\t<P.types.size)->(∀x∈p,W.sameAt A x)->(∀x∈p,C x.block=true)->DataW.TrodAll Y P A 0 C true ts vs m p:=by
 intro ts
 induction ts with
 |nil=>intro vs m p h _ _ _;obtain⟨rfl,rfl,rfl⟩:=trodAll_nil h;exact trodAll_mk0
 |cons t ts N=>
  intro vs m p h s B r;obtain⟨v,X,d,T,p1,q1,rfl,rfl,rfl,h1,h2⟩:=trodAll_cons h;exact trodAll_cons_mk (WideElems.Trod_stays D (s t gj).1 (s t gj).2 h1 (λx f=>B x (Tt _ f)) (λx f=>r x (Tt _ f)))
   (N h2 (λt E=>s t (gi _ E)) (λx f=>B x (adO _ f)) (λx f=>r x (adO _ f)))
def aqy{f:Func}{s:ChangeSpec}{apart fresh E again:Bool}{W D:cC}{args:Array a_}{T X:List (DataW H)}{m pa pv:List MemPlace}
 (hW:DataW.Whole Y P f.params.toList s.vars apart W args.toList T X m)
 (Yr:∀(b:Nat) (A:Nat->Bool) (hd:Bool),DataW.TrodAll Y P D b A hd f.resultTypes.toList (v.resultList f.resultTypes.size) (s.fn H (T++X)).results [])
 (B:∀A:Nat->Bool,(∀p∈m,A p.block=aa)->DataW.TrodAll Y P D 0 A aa f.params.toList args.toList (s.fn H (T++X)).args pa)
 (C:∀A:Nat->Bool,(∀p∈m,A p.block=aa)->DataW.TrodVars Y P D A s.vars (s.fn H (T++X)).vars pv)
 (CX:m=pa++pv) (hb:Below W.heap.size W D)
 (eH:∀(j:Nat) (t:aX) (r:a_),f.resultTypes[j]?=J t->(v.resultList f.resultTypes.size)[j]?=J r->Value.okWide P D .any 0 t r):
 s.post Y P f apart fresh E again W args v D:=by
 have dx:∀p∈m,p.block<W.heap.size:=λp N=>hW.lt p N;have hold:∀p∈m,(λb=>decide (b<W.heap.size)) p.block=aa:=λp N=>by simp_all
 refine⟨T,X,m,[],pa,pv,hW,Yr _ _ _,B _ hold,C _ hold,World.keptBut_mono (λp N=>⟨N,?_⟩) (hb.frame (·∈m)),λ_=>?_⟩
 .simp_all
 .obtain⟨_,_,_,_,_,hz,hn⟩:=hW;refine⟨eH,_,_,([]++pa)++pv,⟨[]++pa,pv,trodAll_append (B _ (λ_ _=>rfl)) (Yr _ _ _),C _ (λ_ _=>rfl),O,?_,?_⟩,?_⟩
  .intro b off N;have jW:MemPlace.cell b off∈m:=(by rw[CX];simpa using N);rw[hb.frozen (dx _ jW)];exact hz b off jW
  .simp_all
  simp_all
structure ayp(P:bO)(f:bk)(fn:Func)(tb:aX):Prop where
 func:P.funcs[f]?=J fn
 laid:laidOutB P=aa
 SP:∀t∈fn.params.toList,Ki P 9 t=aa/\P.readableRec t=aa/\t<P.types.size
 res:fn.resultTypes=#[tb]
 bool:P.underlying tb=J .bool
variable {G:Nat->Option (List I)} {aO:bk->Option (List I->am->Option (I × am))}
end
end
section
open Go.RowKit (Below)
section
variable {K:bj} {G:Nat->Option (List I)} {ok:bk->Nat->Code->Bool} {w0 w w':cC} {h:am}
def bW.grown(s:bW K G ok w0 h w)(f:Below w.heap.size w w'):bW K G ok w0 h w':=by
 have m:∀{k:Nat} {o:Obj},w.heap[k]?=J o->w'.heap[k]?=J o:=λm=>(f.block _ (qw m)).trans m;refine⟨s.fM.trans (f.mono s.size),ff s.size f.size,λg j c E=>?_,s.dU,s.jd,s.oq,λb g cs D hc=>?_,s.nb,s.pN,λl g N C r=>?_,s.tn,λt ht=>?_,s.oV,λN r=>?_,s.all⟩
 .rw[<-s.ic g j c E];exact World.cell?_of_block (w:=w) (f.block g (s.w7 E))
 .obtain⟨h1,h2,ha,cells,e,A,B⟩:=s.box b g cs D hc;simp_all
 .obtain⟨h1,fn,tmps,d,h2,A⟩:=s.loop l g N C r
  grind
 .obtain⟨h1,h2,A,cells,e,T,B,X,Y⟩:=s.tok t ht;refine⟨h1,h2,A,cells,e,T,m B,X,λj hj C=>?_⟩;rw[<-Y j hj C];exact World.frozen?_of_block (w:=w) (f.block _ (qw B))
 .exact⟨(s.md N r).1,m (s.md N r).2⟩
end
end
def am.push(h:am)(cs:List I):am:={h with V:=h.V++[cs]}
def am.put(h:am)(b:Nat)(cs:List I):am:={h with V:=h.V.set b cs}
def bG(h:am)(cs):h.box cs=(.ptr (.box (F h.V)) 0,h.push cs):=rfl
def bP(h:am)(cs):F (h.push cs).V=F h.V+1:=by simp[am.push]
def aQ(h:am)(cs):(h.push cs).V[F h.V]?=J cs:=by simp[am.push]
def aP{f}(m:h.V[b]?=J f):(h.push cs).V[b]?=J f:=Fo m
def dy(f:b<F h.V):(h.put b cs).V[b]?=J cs:=by simp[am.put,f]
def cG{c}(f:c≠b):(h.put b cs).V[c]?=h.V[c]?:=by simp[am.put,j',Ne.symm f]
def jA(h:am)(b)(cs):F (h.put b cs).V=F h.V:=by simp[am.put]
def cS(h:am):Bool:=h.dead.all λn=>decide (n<h.tn)
structure Ext(h h':am):Prop where
 box:∀(b:Nat) (cs:List I),h.V[b]?=J cs->h'.V[b]?=J cs
 loop:∀(l:Nat) (r:iq),h.aB[l]?=J r->h'.aB[l]?=J r
 tn:h.tn<=h'.tn
 dead:∀n,n<h.tn->n∈h'.dead->n∈h.dead
 ok:cS h=aa->cS h'=aa
def Ext.refl(h):Ext h h:=⟨λ_ _ h=>h,λ_ _ h=>h,aT _,λ_ _ h=>h,λh=>h⟩
def Ext.trans{a b c}(h:Ext a b)(k:Ext b c):Ext a c:=
 ⟨λi cs m=>k.box i cs (h.box i cs m),λl B s=>k.loop l B (h.loop l B s),ff h.tn k.tn,λn f r=>h.dead n f (k.dead n (mK f h.tn) r),λA=>k.ok (h.ok A)⟩
def Ext.push(h)(cs):Ext h (h.push cs):=⟨λ_ _ f=>aP f,λ_ _ h=>h,aT _,λ_ _ h=>h,λh=>h⟩
def Ext.fresh(h)(sz)(es):Ext h (h.fresh sz es).2:=⟨λ_ _ f=>f,λ_ _ h=>h,Nat.le_succ _,λ_ _ h=>h,λm=>by
 unfold cS at *
 simp only[am.fresh,e8,decide_eq_true_eq]at *
 grind⟩
def Ext.alive(x:Ext h h')(f:alive h n=aa):alive h' n=aa:=by
 unfold AE.alive at *
 simp only[bR,decide_eq_true_eq,Hw,wd,decide_eq_false_iff_not]at *
 exact⟨mK f.1 x.tn,λm=>f.2 (x.dead n f.1 m)⟩
def Ext.len(x:Ext h h'):F h.V<=F h'.V:=by
 rcases dR (F h'.V) (F h.V) with f|m
 .have h1:=x.box (F h'.V) _ (aW f);simp_all
 omega
noncomputable def Jf(R:Rec)(g:bk)(args:List I)(h:am):am:=
 match R.call g args h with
 |some (_,h')=>h'
 |none=>h
def XE{r}(f:R.call g args h=J (r,h')):Jf R g args h=h':=by unfold Jf;rw[f]
def Ic(R:Rec)(g:bk)(args:List I)(h:am)(r:dP):Prop:=∃h',R.call g args h=J (r,h')/\Ext h h'
def Ic.eq{r}(f:Ic R g args h r):R.call g args h=J (r,Jf R g args h):=by obtain⟨h',h1,-⟩:=f;rw[XE h1];exact h1
def Ic.ext{r}(f:Ic R g args h r):Ext h (Jf R g args h):=by obtain⟨h',h1,h2⟩:=f;rw[XE h1];exact h2
def yg(P:bO)(G:Nat->Option (List I))(R:Rec)(fn:Func)(r:dP)(Post:am->Prop):Xt->Env->am->Prop:=λo e h=>∃h',wC P G R fn r h' o e h/\Post h'
def ai5{P}{G}{r}{Post}:yg P G R fn r Post .normal e h=∃h',gO P G R fn e e.defers ao h=J (r,h')/\Post h':=rfl
def ai7{P}{G}{r}{Post}:yg P G R fn r Post .ret e h=∃h',gO P G R fn e e.defers ao h=J (r,h')/\Post h':=rfl
def ai6{P}{G}{r}{Post}:yg P G R fn r Post (.panic x) e h=∃h',gO P G R fn e e.defers (J (x,ar)) h=J (r,h')/\Post h':=rfl
def ie{P}{G}{aO}{r}{Post}(C:aO g=ao)(f:P.funcs[g]?=J fn)(B:fn.body=J body)
 (D:bJ (whole P G aO) body (Env.start args ao) h (yg P G (whole P G aO) fn r Post)):∃h',(whole P G aO).call g args h=J (r,h')/\Post h':=by
 obtain⟨o,m,h1,h2,h',s,A⟩:=D;exact⟨h',cX C f B ⟨o,m,h1,h2,s⟩,A⟩
section
variable {P:bO} {G:Nat->Option (List I)} {h:am} {t:aX} {b off n:Nat} {cs:List I}
def fI(f:fR P t=J ar)(m:h.V[b]?=J cs):aF P G h t (.ptr (.box b) off)=(cs.drop off).head?:=by unfold aF Ae Rt;simp_all
def gt(f:fR P t=J aa)(s:cN P t=J n)(m:h.V[b]?=J cs)(r:off+n<=F cs):aF P G h t (.ptr (.box b) off)=J (.agg ((cs.drop off).take n)):=by
 unfold aF Ae Rt
 grind
def rm{row:List I}(f:fR P t=J ar)(m:es[i]?=J row):aF P G h t (.elem sz es i off)=(row.drop off).head?:=by unfold aF Ae;simp_all
def Do{row:List I}(f:fR P t=J aa)(s:cN P t=J n)(m:es[i]?=J row)(r:off+n<=F row):aF P G h t (.elem sz es i off)=J (.agg ((row.drop off).take n)):=by
 unfold aF Ae
 grind
def bh{e:aX}{k:Tok}{a:Int}(m:P.underlying t=J (.slice e))(f:cN P e=J sz)(h0:0<=a)(h1:a<F es):dM P t (.ac k sz es) (.v (.int kk a))=J (.elem sz es a.toNat 0):=by unfold dM;simp_all
def A8{e:aX}{f o c:Nat}{a:Int}(r:P.underlying t=J (.slice e))(m:cN P e=J sz)(h0:0<=a)(h1:a<l):dM P t (.arr f o l c) (.v (.int kk a))=J (.ptr (.box f) (o+a.toNat*sz)):=by unfold dM;simp_all
def e7(A:x.bL=J xs)(s:cN P t=J n)(f:h.V[b]?=J cs)(r:F xs=n)(m:off+n<=F cs):bU P h t (.ptr (.box b) off) x=J (h.put b (dW cs off xs)):=by unfold bU;simp only[A,s,f];rw[aC ⟨r,m⟩];rfl
def mF(h:am)(z cs):(h.push z).put (F h.V) cs=h.push cs:=by simp[am.push,am.put,List.set_append_right]
def vU(f:F xs=F z):dW z 0 xs=xs:=by simp[dW,f]
def jC(r:x.bL=J xs)(m:cN P t=J n)(f:F xs=n)(s:F z=n):bU P (h.push z) t (.ptr (.box (F h.V)) 0) x=J (h.push xs):=by rw[e7 r m (aQ h z) f ag,vU ag,mF]
end
section
variable {P:bO} {G:Nat->Option (List I)} {R:Rec}
def aak(ops:Array Oper):∀(n i:Nat),i+n<=ops.size->∀(e:Env) (h:am),cg P G R ops (adR i n) e h=opsL P G R ops ((ops.toList.drop i).take n) e h:=by
 intro n
 induction n with
 |zero=>intro i m e h;rfl|succ n s=>
  intro i m e h;have f:i<ops.size:=by omega
  have r:ops[i]?=J ops[i]:=mh f;rw[adS,we ag,List.take_succ_cons];simp only[cg,opsL,r,ac2]
  grind
def pF(f:m<=ops.size)(e:Env)(h:am):cg P G R ops (bE m) e h=opsL P G R ops (ops.toList.take m) e h:=by rw[Tv,aak ops m 0 ag];rfl
def Cj(ops:Array Oper)(cs:List Nat)(ps:List (Nat × Nat)):Bool:=
 let b:=Region.before ops
 zW ops b&&(bE ops.size).all λj=>(bE j).all λi=>(b.getD j 0).testBit i||yX ops i j||ps.contains (i,j)||(o7 ops i j&&(cs.contains i||cs.contains j))
def N0{cs:List Nat}{ps:List (Nat × Nat)}(f:Cj ops cs ps=aa)(m:∀k∈cs,wx P G R ops e h k)(A:∀p∈ps,j_ P G R ops e h p.1 p.2=aa):my P G R ops e h=aa:=by
 unfold Cj at f;unfold my;simp only[bR,e8,gb,pO]at f ⊢;refine⟨f.1,λj s i r=>?_⟩;rcases f.2 j s i r with((h1|h1)|h1)|⟨h1,h2⟩
 .simp_all
 .simp_all
 .simp_all
 .exact .inr ⟨h1,h2.imp (λq=>EX.2 (m i (by simp_all))) (λq=>EX.2 (m j (by simp_all)))⟩
def Ac{c:Call}(D:ops[k]?=J o)(r:o.op=.call c)
 (h1:cQ P G R ops (ops.toList.take k) e h (λq s _=>q=.normal/\∀m,lI P R s m c=J (.ret x,m)))
 (h2:cQ P G R ops ops.toList e h (λq _ _=>q=.normal)):wx P G R ops e h k:=by
 have hk:k<ops.size:=(zD.1 D).1;obtain⟨q1,s,E,B,rfl,C⟩:=h1;obtain⟨q2,N,X,f1,rfl⟩:=h2;rw[<-pF ag]at B;have A:cg P G R ops (bE ops.size) e h=J (.normal,N,X):=by rw[pF (aT _),<-nf,gu];exact f1
 obtain⟨-,Y,-⟩:=trace A;refine⟨o,x,s,E,D,?_,B,λz0 m=>⟨_,_,Y z0 m,agL r (C _)⟩⟩;have T:∀b,c.callee≠ .builtin b:=λb hb=>by have:=C E;unfold lI at this;simp_all
 rw[r];obtain⟨f,args,ts⟩:=c;cases f with|builtin b=>simp_all|value z1=>rfl|invoke z2 n=>rfl
def mI{a:b9}(s:o7 ops i j=aa)(B:ops[i]?=J o)(m:o.op=.load t a)(Y:o.guard=ao)
 (hj:(ops[j]?).map (λo=>iR o.op)=J .iP) {v:I} (hv:df v v=aa)
 (h1:cQ P G R ops (ops.toList.take i) e h (λq r C=>q=.normal/\r.eval a=x/\aF P G C t x=J v))
 (h2:cQ P G R ops (ops.toList.take (j+1)) e h (λq _ A=>q=.normal/\aF P G A t x=J v)):j_ P G R ops e h i j=aa:=by
 have hi:i<ops.size:=by
  rcases dR i ops.size with f|f
  .exact f
  .simp_all
 have XV:j<ops.size:=by
  rcases dR j ops.size with f|f
  .exact f
  .simp_all
 have X:(ops[i]?).map (λo=>iR o.op)=J .reads:=by rw[B];simp only[gq,m];rfl
 unfold j_;rw[s,X,hj];simp only[pP];unfold pK;rw[B,pF ag,pF ag];obtain⟨q1,r,C,E,rfl,N,T⟩:=h1;obtain⟨q2,em,A,f1,rfl,f2⟩:=h2;rw[E,f1];simp only[fC,Y,m,N,T,f2,hv]
def pM{a:b9}(s:o7 ops i j=aa)(B:ops[j]?=J o)(m:o.op=.load t a)(Y:o.guard=ao)
 (hj:(ops[i]?).map (λo=>iR o.op)=J .iP) {v:I} (hv:df v v=aa)
 (h1:cQ P G R ops (ops.toList.take j) e h (λq r C=>q=.normal/\r.eval a=x/\aF P G C t x=J v))
 (h2:cQ P G R ops (ops.toList.take i) e h (λq _ A=>q=.normal/\aF P G A t x=J v)):j_ P G R ops e h i j=aa:=by
 have hi:i<ops.size:=by
  rcases dR i ops.size with f|f
  .exact f
  .simp_all
 have XV:j<ops.size:=by
  rcases dR j ops.size with f|f
  .exact f
  .simp_all
 have X:(ops[j]?).map (λo=>iR o.op)=J .reads:=by rw[B];simp only[gq,m];rfl
 unfold j_;rw[s,X,hj];simp only[pP];unfold pK;rw[B,pF ag,pF ag];obtain⟨q1,r,C,E,rfl,N,T⟩:=h1;obtain⟨q2,em,A,f1,rfl,f2⟩:=h2;rw[E,f1];simp only[fC,Y,m,N,T,f2,hv]
end
section
variable {P:bO} {G:Nat->Option (List I)} {aO:bk->Option (List I->am->Option (I × am))} {Q:Xt->Env->am->Prop} {e:Env} {h:am}
def D4(cs:List Nat)(ps:List (Nat × Nat))(m:Cj ops cs ps=aa)(f:∀k∈cs,wx P G (whole P G aO) ops e h k)(s:∀p∈ps,j_ P G (whole P G aO) ops e h p.1 p.2=aa)
 (r:cQ P G (whole P G aO) ops ops.toList e h (vg Q)):bJ (whole P G aO) (.region id ops aa) e h Q:=
 R5 (N0 m f s) r
end
structure fV(b n0:Nat)(h h':am):Prop where
 box:∀(c:Nat) (cs:List I),c≠b->h.V[c]?=J cs->h'.V[c]?=J cs
 len:h.V.length<=h'.V.length
 loop:∀(l:Nat) (r:iq),h.aB[l]?=J r->h'.aB[l]?=J r
 tn:h.tn<=h'.tn
 dead:∀n,n<n0->n∈h'.dead->n∈h.dead
 ok:cS h=aa->cS h'=aa
def fV.refl(b n0)(h):fV b n0 h h:=⟨λ_ _ _ h=>h,aT _,λ_ _ h=>h,aT _,λ_ _ h=>h,λh=>h⟩
def fV.trans{x y z}(h:fV b n0 x y)(k:fV b n0 y z):fV b n0 x z:=
 ⟨λi cs f r=>k.box i cs f (h.box i cs f r),ff h.len k.len,λl C A=>k.loop l C (h.loop l C A),ff h.tn k.tn,λn m s=>h.dead n m (k.dead n m s),λB=>k.ok (h.ok B)⟩
def fV.Bh(x:Ext h h')(m:n0<=h.tn):fV b n0 h h':=
 ⟨λc cs _ f=>x.box c cs f,x.len,x.loop,x.tn,λn h1 h2=>x.dead n (mK h1 m) h2,x.ok⟩
def fV.put(b n0)(h)(cs):fV b n0 h (h.put b cs):=
 ⟨λc r m f=>by rw[cG m];exact f,by rw[jA];omega,λ_ _ h=>h,aT _,λ_ _ h=>h,λh=>h⟩
def Ext.mut(x:Ext B h)(m:fV b B.tn h h')(E:F B.V<=b):Ext B h':=
 ⟨λc cs f=>by have C:=(aU.1 f).1;exact m.box c cs ag (x.box c cs f),λl D A=>m.loop l D (x.loop l D A),ff x.tn m.tn,λn r s=>x.dead n r (m.dead n r s),λh0=>m.ok (x.ok h0)⟩
def am.app(h:am)(k:Tok):am:=
 match k with
 | .free n=>{h with dead:=n::h.dead,tn:=h.tn+1}
 |_=>{h with tn:=h.tn+1}
def dC(h:am)(k):(h.app k).V=h.V:=by cases k<;>rfl
def uZ(h:am)(k):(h.app k).aB=h.aB:=by cases k<;>rfl
def EU(h:am)(k):(h.app k).tn=h.tn+1:=by cases k<;>rfl
def cY(n0:Nat)(h:am)(k:Tok):Prop:=k=.nil∨k=.aK∨∃n,k=.free n/\n0<=n/\alive h n=aa
def fV.app{k}(A:cY n0 h k):fV b n0 h (h.app k):=by
 refine⟨λc cs _ B=>by rw[dC];exact B,by rw[dC];omega,λl T C=>by rw[uZ];exact C,by rw[EU];omega,?_,?_⟩
 .rcases A with rfl|rfl|⟨N,rfl,D,r⟩
  .exact λn _ f=>f
  .exact λn _ f=>f
  .intro n f s;rcases gX.1 s with rfl|s<;>omega
 .intro E;have m:∀n∈h.dead,n<h.tn+1:=λn f=>by
   have:=e8.1 E n f
   grind
  rcases A with rfl|rfl|⟨N,rfl,D,r⟩
  .exact e8.2 λn f=>cy (m n f)
  .exact e8.2 λn f=>cy (m n f)
  .refine e8.2 λn f=>cy ?_;rcases gX.1 f with rfl|f
   .unfold alive at r;simp only[bR,decide_eq_true_eq]at r;show n<h.tn+1;omega
   .exact m n f
def Ext.app{k}(x:Ext h' h)(f:cY h'.tn h k):Ext h' (h.app k):=by have m:=fV.app (b:=h.V.length) f;exact x.mut m x.len
def ae5{k}(s:cS h=aa)(r:cY 0 h k):alive (h.app k) h.tn=aa:=by
 have f:h.dead.contains h.tn=ar:=by rw[Bool.eq_false_iff];intro A;have:=e8.1 s h.tn (by simp_all);simp at this
 unfold alive;rw[EU];rcases r with rfl|rfl|⟨B,rfl,-,m⟩
 .simp only[am.app,f];simp
 .simp only[am.app,f];simp
 .unfold alive at m;simp only[bR,decide_eq_true_eq]at m;have h1:¬(h.tn=B):=by omega
  have h2:¬(h.tn∈h.dead):=by simpa using f
  simp[am.app,h1,h2]
def cY.mono{k}(r:cY n0 h k){f}(A:f<=n0):cY f h k:=by
 rcases r with rfl|rfl|⟨B,rfl,s,m⟩
 .exact .inl O
 .exact .inr (.inl O)
 .exact .inr (.inr ⟨B,O,by omega,m⟩)
def cY.ext{k}(m:cY n0 h k)(x:Ext h h'):cY n0 h' k:=by
 rcases m with rfl|rfl|⟨s,rfl,r,f⟩
 .exact .inl O
 .exact .inr (.inl O)
 .exact .inr (.inr ⟨s,O,r,x.alive f⟩)
def cY.next{k}(f:cY n0 h k)(r:cS h=aa)(m:n0<=h.tn):cY n0 (h.app k) (.free h.tn):=
 .inr (.inr ⟨h.tn,O,m,ae5 r (f.mono (ck _))⟩)
def sJ.cons_inv{H}{P}{ts}{f:List (DataW H)}(h:sJ P (t::ts) xs f):∃x r d m,xs=x::r/\f=d::m/\lq P t x d/\sJ P ts r m:=by
 cases xs with
 |nil=>cases f<;>exact h.elim
 |cons x xs=>
  cases f with|nil=>exact h.elim|cons d f=>exact⟨x,xs,d,f,O,O,h.1,h.2⟩
def sJ.aoO{H}{P}{f:List (DataW H)}(h:sJ P [] xs f):xs=[]:=by
 cases xs with|nil=>rfl|cons x xs=>cases f<;>exact h.elim
section
variable {P:bO} {t:aX} {x y:b9}
def Kx{d:TypeDesc}(f:P.underlying t=J d):eP P (underlying t)=J d:=by unfold underlying;simp only[ny];show(J P).bind _=_;simp only[qO,f];rfl
def UF{s:Array (String × aX)}(r:P.underlying t=J (.interface s)):de P .neq t x (.const v) (.v .nilIface) (.v .nilIface)=J (.v (.bool ar)):=by
 have h1:de P .neq t x (.const v) (.v .nilIface) (.v .nilIface)=(eP P (do eqGuard .neq t x (.const v) .nilIface .nilIface;binOp .neq t .nilIface .nilIface)).bind nC:=rfl;have h2:eP P (eqGuard .neq t x (.const v) .nilIface .nilIface)=J ():=by cases x<;>rfl
 have f:eP P (Op.equal t .nilIface .nilIface)=J aa:=by unfold Op.equal Op.maxDepth Op.equalIn;rw[ny,Kx r];rfl
 have m:eP P (binOp .neq t .nilIface .nilIface)=J (.bool ar):=by show eP P (do pure (Value.bool (!(<-Op.equal t .nilIface .nilIface))))=_;rw[ny,f];rfl
 rw[h1,ny,h2,qO,m];rfl
def afV{u:aX}{z:I}(hi:isIface P t=J aa):de P .neq t x y (.iface u z) (.v .nilIface)=J (.v (.bool aa)):=by show(if isIface P t=J aa then tY .neq ar else ao)=_;rw[aC hi];rfl
end
section
variable {h:am} {cs:List I} {b c:Nat} {k:Tok}
def aj8:(h.push cs).V[F h.V]?=J cs:=aQ h cs
def np(f:c=F h.V):(h.push cs).V[c]?=J cs:=by subst f;exact aQ h cs
def aj9(f:c≠F h.V):(h.push cs).V[c]?=h.V[c]?:=by
 unfold am.push
 grind
def aka(f:b<F h.V):(h.put b cs).V[b]?=J cs:=dy f
def akb(f:c≠b):(h.put b cs).V[c]?=h.V[c]?:=cG f
def aj7:(h.app k).V[c]?=h.V[c]?:=by rw[dC]
def Zr:F (h.app k).V=F h.V:=by rw[dC]
end
def sN{k}:cY n0 (h.push cs) k=cY n0 h k:=rfl
def vh{k}:cY n0 (h.put b cs) k=cY n0 h k:=rfl
def Ext.gg(x:Ext h h')(s:F h.V<=b)(cs):Ext h (h'.put b cs):=by refine⟨λc m f=>?_,x.loop,x.tn,x.dead,x.ok⟩;have r:c<F h.V:=(aU.1 f).1;rw[cG ag];exact x.box c m f
section
variable {P:bO} {G:Nat->Option (List I)} {h:am} {t:aX} {b off n:Nat} {cs:List I}
def awi{z:a_}(r:cN P t=J 1)(f:h.V[b]?=J cs)(m:off+1<=F cs):bU P h t (.ptr (.box b) off) (.v z)=J (h.put b (dW cs off [.v z])):=e7 O r f O m
def awg{k:Tok}(r:cN P t=J 1)(f:h.V[b]?=J cs)(m:off+1<=F cs):bU P h t (.ptr (.box b) off) (.ac k sz es)=J (h.put b (dW cs off [.ac k sz es])):=e7 O r f O m
def avo{l:List UInt8}{k:uO}(r:P.underlying t=J .string)(h0:0<=lo)(h1:lo<=hi)(h2:hi<=F l):
 gV P t (.v (.string (bs l))) (J (.v (.int k lo))) (J (.v (.int k' hi))) ao=J (.v (.string (bs ((l.take hi.toNat).drop lo.toNat)))):=by
 unfold gV;simp only[H_,BA,jE,if_false,r,z_];have f:gC (F l) (J (I.v (.int k' hi))) (F l)=J hi.toNat:=by unfold gC;simp only;grind
 have m:gC hi.toNat (J (I.v (.int k lo))) 0=J lo.toNat:=by unfold gC;simp only;grind
 simp only[f,m,Nt]
def avp{l:List UInt8}{k:uO}(r:P.underlying t=J .string)(h0:0<=lo)(h1:lo<=F l):
 gV P t (.v (.string (bs l))) (J (.v (.int k lo))) ao ao=J (.v (.string (bs (l.drop lo.toNat)))):=by
 unfold gV;simp only[H_,BA,jE,if_false,r,z_];have f:gC (F l) ao (F l)=J (F l):=rfl;have m:gC (F l) (J (I.v (.int k lo))) 0=J lo.toNat:=by unfold gC;simp only;simp_all
 simp only[f,m,Nt,gu]
def avq{l:List UInt8}(r:P.underlying t=J .string)(h0:0<=hi)(h2:hi<=F l):
 gV P t (.v (.string (bs l))) ao (J (.v (.int k' hi))) ao=J (.v (.string (bs (l.take hi.toNat)))):=by
 unfold gV;simp only[H_,BA,jE,if_false,r,z_];have f:gC (F l) (J (I.v (.int k' hi))) (F l)=J hi.toNat:=by unfold gC;simp only;simp_all
 have m:gC hi.toNat ao 0=J 0:=rfl;simp only[f,m,Nt,iI]
def Z5{r:Ref}:QI (.ptr r off)=J (.ptr r off):=rfl
end
def Env.Ci(e:Env)(d:bk × List I):Env:={e with defers:=d::e.defers}
def Env.pn(e:Env)(p:Option (I × Bool)):Env:={e with da:=p}
section
variable {e:Env} {d:bk × List I} {p:Option (I × Bool)} {t:Nat}
def aiE:(e.Ci d).get t=e.get t:=rfl
def aiD:(e.Ci d).defers=d::e.defers:=rfl
def aiF:(e.Ci d).da=e.da:=rfl
def VI:(e.Ci d).round=e.round:=rfl
def aqf:(e.pn p).get t=e.get t:=rfl
def aqe:(e.pn p).defers=e.defers:=rfl
def aqg:(e.pn p).da=p:=rfl
def aaM:(e.pn p).round=e.round:=rfl
end
def Tc(P:bO)(G:Nat->Option (List I))(R:Rec)(ops:Array Oper)(rest:List Oper)(d:Option Tmp)(args:List I)(e:Env)(h:am)(Q:Xt->Env->am->Prop)(x:I):Prop:=
 match x with
 | .func (.func g) first f=>cQ P G R ops rest ((e.Ci (g,first++args++f)).put d (.tuple [])) h Q
 |_=>False
def MW(P:bO)(G:Nat->Option (List I))(R:Rec)(ops:Array Oper)(rest:List Oper)(d:Option Tmp)(e:Env)(h:am)(Q:Xt->Env->am->Prop)(p:Option (I × Bool)):Prop:=
 match p with
 |some (x,ar)=>cQ P G R ops rest ((e.pn (J (x,aa))).put d x) h Q
 |_=>cQ P G R ops rest (e.put d (.v .nilIface)) h Q
section
variable {P:bO} {G:Nat->Option (List I)} {R:Rec} {ops:Array Oper} {rest:List Oper} {e:Env} {h:am} {Q:Xt->Env->am->Prop} {d:Option Tmp} {ty:aX} {pos:String} {X:Array Edge}
def ast{f:b9}{args:Array b9}{ts:Array aX}(s:e.round=ao):cQ P G R ops (⟨d,.defer {callee:=.value f,args,argTypes:=ts},ty,pos,X,ao⟩::rest) e h Q=Tc P G R ops rest d (args.toList.map e.eval) e h Q (e.eval f):=by
 rw[auf s];generalize e.eval f=y;rcases y with _|_|_|_|_|_|_|_|⟨m,a,b⟩|_|_
 case func=>cases m<;>rfl
 all_goals rfl
def aiC{aY:List I}:Tc P G R ops rest d args e h Q (.func (.func g) xs aY)=cQ P G R ops rest ((e.Ci (g,xs++args++aY)).put d (.tuple [])) h Q:=rfl
def asJ{args:Array b9}{ts:Array aX}(f:e.round=ao):cQ P G R ops (⟨d,.call {callee:=.builtin .recover,args,argTypes:=ts},ty,pos,X,ao⟩::rest) e h Q=MW P G R ops rest d e h Q e.da:=by
 rw[auj f];rcases hp:e.da with _|⟨x,b⟩
 .rfl
 .cases b<;>rfl
def arD:MW P G R ops rest d e h Q (J (x,ar))=cQ P G R ops rest ((e.pn (J (x,aa))).put d x) h Q:=rfl
def arC:MW P G R ops rest d e h Q ao=cQ P G R ops rest (e.put d (.v .nilIface)) h Q:=rfl
def SV{f:List (bk × List I)}(m:R.iS g args ao h=J (.ret x,ao,h')):gO P G R fn e ((g,args)::f) ao h=gO P G R fn e f ao h':=by rw[gO,m]
def axq{f:List (bk × List I)}{y z:I}(m:R.iS g args (J (y,ar)) h=J (.ret x,J (z,aa),h')):gO P G R fn e ((g,args)::f) (J (y,ar)) h=gO P G R fn e f ao h':=by rw[gO,m]
end
def yf(P:bO)(G:Nat->Option (List I))(R:Rec)(fn:Func)(Post:dP->am->Prop):Xt->Env->am->Prop:=λo e h=>∃f h',wC P G R fn f h' o e h/\Post f h'
def aiZ{P}{G}{Post}:yf P G R fn Post .normal e h=∃r h',gO P G R fn e e.defers ao h=J (r,h')/\Post r h':=rfl
def ai1{P}{G}{Post}:yf P G R fn Post .ret e h=∃r h',gO P G R fn e e.defers ao h=J (r,h')/\Post r h':=rfl
def ai0{P}{G}{Post}:yf P G R fn Post (.panic x) e h=∃r h',gO P G R fn e e.defers (J (x,ar)) h=J (r,h')/\Post r h':=rfl
def cq{P}{G}{aO}{Post}(C:aO g=ao)(f:P.funcs[g]?=J fn)(B:fn.body=J body)
 (D:bJ (whole P G aO) body (Env.start args ao) h (yf P G (whole P G aO) fn Post)):∃r h',(whole P G aO).call g args h=J (r,h')/\Post r h':=by
 obtain⟨o,m,h1,h2,r,h',s,A⟩:=D;exact⟨r,h',cX C f B ⟨o,m,h1,h2,s⟩,A⟩
section
variable {P:bO} {h:am} {ts:Array aX} {ty:aX} {k:uO} {a b:Int}
def Bf:iQ P h .max ts ty [.v (.int k a),.v (.int k b)]=J (.v (.int k (if a<b then b else a)),h):=by
 have h1:iQ P h .max ts ty [.v (.int k a),.v (.int k b)]=((eP P (Builtin.max_ ts ty #[.int k a,.int k b])).bind nC).map (·,h):=rfl;rw[h1];have h2:eP P (Builtin.max_ ts ty #[.int k a,.int k b])=J (.int k (if a<b then b else a)):=by simp[Builtin.max_,Builtin.max2];split<;>simp_all<;>rfl
 rw[h2];split<;>rfl
def Gf:iQ P h .min ts ty [.v (.int k a),.v (.int k b)]=J (.v (.int k (if b<a then b else a)),h):=by
 have h1:iQ P h .min ts ty [.v (.int k a),.v (.int k b)]=((eP P (Builtin.min_ ts ty #[.int k a,.int k b])).bind nC).map (·,h):=rfl;rw[h1];have h2:eP P (Builtin.min_ ts ty #[.int k a,.int k b])=J (.int k (if b<a then b else a)):=by simp[Builtin.min_,Builtin.min2];split<;>simp_all<;>rfl
 rw[h2];split<;>rfl
def anG:iQ P h .len #[t] ty [x]=(dp P t x).map (·,h):=rfl
def Iw:iQ P h .cap #[t] ty [x]=(Cb P t x).map (·,h):=rfl
def append_eq{d:Option Tmp}:qV P (λ_=>ao) d h .append ts ty [s,x]=gB P h ts s x:=rfl
def ae9{G:Nat->Option (List I)}{d:Option Tmp}(f:Hl G d ty=ar):qV P G d h .append ts ty [s,x]=gB P h ts s x:=by unfold qV;simp_all
def afa{G:Nat->Option (List I)}{d:Option Tmp}(f:Hl G d ty=aa):qV P G d h .append ts ty [s,x]=nD P h ts s x:=by unfold qV;simp_all
def copy_eq:iQ P h .copy ts ty [s,x]=yd P h ts s x:=rfl
end
section
variable {H:Type} {P:bO} {t e:aX} {cs xs:List I} {x:I} {d:DataW H}
def Has.P5{k:uO}(h:Has P t cs d)(r:P.underlying t=J (.int k)):∃n:Int,cs=[.v (.int k n)]/\k.min<=n/\n<=k.max:=by
 cases h with
 |int f n m=>rw[r]at f;injection f with f;injection f with f;subst f;exact⟨n,O,by simpa [Lit.wf] using m⟩
 |bool f=>simp_all|str f=>simp_all|none f=>simp_all|ac f=>simp_all|struct f=>simp_all|array f=>simp_all
def Has.ui(h:Has P t cs d)(m:P.underlying t=J (.int .i64)):∃n:Int,cs=[.v (.int .i64 n)]/\ -9223372036854775808<=n/\n<=9223372036854775807:=by obtain⟨n,h1,h2,f⟩:=h.P5 m;simp[IntKind.min,IntKind.max,IntKind.signed,IntKind.bits]at h2 f;simp_all
def Has.SQ(h:Has P t cs d)(r:P.underlying t=J (.int .u8)):∃b:UInt8,cs=iL b:=by
 obtain⟨n,h1,h2,m⟩:=h.P5 r;simp[IntKind.min,IntKind.max,IntKind.signed,IntKind.bits]at h2 m;refine⟨UInt8.ofNat n.toNat,?_⟩;have f:((UInt8.ofNat n.toNat).toNat:Int)=n:=by
  have:(UInt8.ofNat n.toNat).toNat=n.toNat:=by simp;omega
  rw[this];omega
 rw[h1,iL,f]
def Has.Bq(h:Has P t cs d)(s:P.underlying t=J (.slice e)):∃(k:Tok) (es:List (List I)),cs=[.ac k (P.cellsOf e) es]/\F es<=maxLen/\(k=.nil∨k=.held∨(k=.aK/\es=[]))/\(k=.nil->es=[])/\
 ∀r∈es,F r=P.cellsOf e/\∃d:DataW H,Has P e r d:=by
 cases h with
 |bool f=>simp_all|int f=>simp_all|str f=>simp_all|none f=>
  rw[s]at f;injection f with f;injection f with f;subst f
  grind
 |ac f k es A X D E T B N=>
  rw[s]at f;injection f with f;injection f with f;subst f;refine⟨k,es,O,E,.inr D,?_,λr m=>⟨N r m,?_⟩⟩
  .grind
  .obtain⟨i,C,rfl⟩:=List.mem_iff_getElem.1 m;exact⟨A[i],B i _ _ (aW C) (aW ag)⟩
 |struct f=>simp_all|array f=>simp_all
def Has.Lw{s:Array Field}{r:List (aX × Nat)}(h:Has P t xs d)(X:P.underlying t=J (.struct s))(E:(s.toList.map λf=>(f.type,f.offset))=r):
 xs.length=P.cellsOf t/\∀(i:Nat) (u:aX) (o:Nat),r[i]?=J (u,o)->∃d:DataW H,Has P u ((xs.drop o).take (P.cellsOf u)) d:=by
 cases h with
 |bool m=>simp_all|int m=>simp_all|str m=>simp_all|none m=>simp_all|ac m=>simp_all|array m=>simp_all|struct m xs B T Y C=>
  rw[X]at m;injection m with m;injection m with m;subst m;refine⟨T,λi u o A=>?_⟩;rw[<-E,List.getElem?_map]at A;cases D:s.toList[i]? with
  |none=>simp_all|some f=>
   rw[D]at A;simp only[gq,eo,dw]at A;have N:i<F B:=(by have:=(aU.1 D).1;simp at this;omega);have:=C i f B[i] (by simp_all) (aW N)
   grind
def lq.plain(h:lq P t x d)(r:∀f,P.underlying t≠J (.struct f))(m:∀n e,P.underlying t≠J (.array n e)):Has P t [x] d:=by unfold lq at h;simp_all
def lq.ui(h:lq P t x d)(m:P.underlying t=J (.int .i64)):∃n:Int,x=.v (.int .i64 n)/\ -9223372036854775808<=n/\n<=9223372036854775807:=by obtain⟨l,h1,h2⟩:=(h.plain (λ_ f=>by simp_all) (λ_ _ f=>by simp_all)).ui m;simp_all
def lq.SQ(h:lq P t x d)(m:P.underlying t=J (.int .u8)):∃b:UInt8,x=.v (.int .u8 b.toNat):=by
 obtain⟨l,h1⟩:=(h.plain (λ_ f=>by simp_all) (λ_ _ f=>by simp_all)).SQ m;injection h1 with h1
 grind
def lq.Bq(h:lq P t x d)(m:P.underlying t=J (.slice e)):∃(k:Tok) (es:List (List I)),x=.ac k (P.cellsOf e) es/\F es<=maxLen/\(k=.nil∨k=.held∨(k=.aK/\es=[]))/\(k=.nil->es=[])/\
 ∀r∈es,F r=P.cellsOf e/\∃d:DataW H,Has P e r d:=by
 obtain⟨k,es,h1,h2⟩:=(h.plain (λ_ f=>by simp_all) (λ_ _ f=>by simp_all)).Bq m
 grind
def lq.Lw{f:Array Field}(h:lq P t x d)(m:P.underlying t=J (.struct f)):∃xs,x=.agg xs/\Has P t xs d:=by unfold lq at h;simp_all
def Br(P:bO)(t:aX)(f:List (aX × Nat)):Bool:=
 match P.underlying t with
 |some (.struct m)=>decide ((m.toList.map λr=>(r.type,r.offset))=f)
 |_=>ar
def aco{m:List (aX × Nat)}(h:Br P t m=aa):∃r:Array Field,P.underlying t=J (.struct r)/\(r.toList.map λf=>(f.type,f.offset))=m:=by
 unfold Br at h
 grind
def lq.fields{f:List (aX × Nat)}(h:lq P t x d)(s:Br P t f=aa):∃xs,x=.agg xs/\F xs=P.cellsOf t/\∀(i:Nat) (u:aX) (o:Nat),f[i]?=J (u,o)->∃d:DataW H,Has P u ((xs.drop o).take (P.cellsOf u)) d:=by obtain⟨A,m,r⟩:=aco s;obtain⟨xs,h1,h2⟩:=h.Lw m;exact⟨xs,h1,h2.Lw m r⟩
def Has.fields{f:List (aX × Nat)}(h:Has P t xs d)(r:Br P t f=aa):F xs=P.cellsOf t/\∀(i:Nat) (u:aX) (o:Nat),f[i]?=J (u,o)->∃d:DataW H,Has P u ((xs.drop o).take (P.cellsOf u)) d:=by obtain⟨A,s,m⟩:=aco r;exact h.Lw s m
def uo{α:Type}{l:List α}(h:F l=2):∃a b,l=[a,b]:=by
 match l,h with
 | [a,b],_=>exact⟨a,b,O⟩
def abv{α:Type}{f}:∀{es:List (List I)},(∀r∈es,∃a,r=f a)->∃l:List α,es=l.map f:=by
 intro es
 induction es with
 |nil=>simp_all|cons r es s=>intro h;obtain⟨a,rfl⟩:=h r gj;obtain⟨l,rfl⟩:=s λr m=>h r (gi _ m);exact⟨a::l,O⟩
end
end Go.AE
end
section
namespace Go.AE
end Go.AE
end
section
namespace Go.AE
variable{f:b9}{assign body:Code}{g:bk}{A args aY cs xs:List I}{v x y:I}{H a c h h':am}{r:iq}{b bn i id j k l l0 m n n0 off sz t z:Nat}{R:Rec}{E e:Env}{ops:Array Oper}{K2:bj}{d s ty:aX}{o:Oper}
section
variable {a b:Nat × b9} {i k:Nat} {n:Int} {x:ByteArray} {l:List (Nat × b9)}
def ahd:vk #[]=ar:=rfl
def ahe:vk #[a]=ar:=by
 obtain⟨i,o⟩:=a;cases o with
 |const v=>
  cases v with
  |int k n=>cases k<;>rfl
  |_=>rfl
 |_=>rfl
def ahg:vk (MI ((i,.tmp k)::l))=ar:=rfl
def ahc:vk (MI ((i,.const (.int .i64 n))::l))=ar:=rfl
def ahf:vk (MI ((i,.const (.string x))::l))=ar:=rfl
def ahh:vk (MI ((i,.const (.int .u8 n))::b::l))=aa:=rfl
end
def goS:=au @run_seq (au @auv (au @aum (au @aul (au @aup (au @auw (au @auy (au @auq (au @aux (au @au0 (au @au2 (au @auZ (au @au1 (au @agq (au @ags (au @UM (au @agr (au @an8 (au @aoa (au @an7 (au @an9 (au @agT (au @agU (au @agB (au @agy (au @akE (au @akD (au @akA (au @akz (au @akF (au @akw (au @akv (au @avr (au @auh (au @aug (au @asG (au @asl (au @asI (au @asi (au @asn (au @aso (au @asp (au @asA (au @asL (au @asH (au @asm (au @asN (au @asr (au @asC (au @asB (au @asD (au @asK (au @asw (au @asv (au @asy (au @asx (au @asM (au @asu (au @asz (au @asq (au @asj (au @ass (au @asF (au @asE (au @auk (au @aeM (au @aeL (au @aeK (au @U1 (au @U2 (au @aq3 (au @aq1 (au @Sk (au @avN (au @avO (au @ab8 (au @avX (au @avW (au @avY (au @Sm (au @yj (au @eval_const (au @eval_func (au @eval_global (au @apc (au @apb (au @aph (au @ape (au @apd (au @apf (au @apg (au @apa (au @agD (au @z_ (au @UE (au @af5 (au @afY (au @af0 (au @af2 (au @afS (au @afZ (au @afX (au @afW (au @afU (au @afT (au @af3 (au @af4 (au @UG (au @axi (au @axh (au @Zs (au @Qn (au @Gc (au @amp (au @ap9 (au @ji (au @N3 (au @ai2 (au @ai4 (au @ai3 (au @ai5 (au @ai7 (au @ai6 (au @axo (au @axp (au @S_ (au @Bool.not_false (au @jE (au @decide_true (au @decide_false (au @not_true_eq_false (au @not_false_eq_true (au @eD (au @Int.toNat_zero (au @Nat.succ_ne_zero (au @Bf (au @Gf (au @anG (au @Iw (au @append_eq (au @copy_eq (au @ahd (au @ahe (au @ahg (au @ahc (au @ahf (@ahh))))))))))))))))))))))))))))))))))))))))))))))))))))))))))))))))))))))))))))))))))))))))))))))))))))))))))))))))))))))))))))))))))))))))))))))))))
def goH:=au @aiZ (au @ai1 (au @ai0 (au @SV (au @axq (au @aui (au @ast (au @aiC (au @asJ (au @arD (au @arC (au @aiE (au @aiD (au @aiF (au @VI (au @aqf (au @aqe (au @aqg (au @aaM (au @fI (au @gt (au @awi (au @awg (au @avo (au @avp (au @avq (au @Z5 (au @bG (au @Nat.zero_add (@Nat.add_zero)))))))))))))))))))))))))))))
section
variable {P:bO} {G:Nat->Option (List I)} {aO:bk->Option (List I->am->Option (I × am))} {Q:Xt->Env->am->Prop} {e:Env} {h:am}
def J'(e:Env)(params:Array Tmp)(assign body:Code):iq:={tmps:=e.tmps,params,assign,body,state:=.ready,pending:=ao}
def am.loop(h:am)(r:iq):am:={h with aB:=h.aB++[r]}
def am.done(h:am)(l:Nat)(r:iq):am:={h with aB:=h.aB.set l {r with state:=.exhausted}}
def aut{params:Array Tmp}(s:e.eval f=.func (.func g) args aY)
 (r:(whole P G aO).call g (args++[.yield (F h.aB)]++aY) (h.loop (J' e params assign body))=J (.panic x,h')) (A:Q (.panic x) e h'):
 bJ (whole P G aO) (.rangeFunc f params assign body) e h Q:=by
 unfold bJ;rw[rB];unfold fP;have m:(whole P G aO).call g (args++[.yield (F h.aB)]++aY) {h with aB:=h.aB++[{tmps:=e.tmps,params,assign,body,state:=.ready,pending:=ao}]}=J (.panic x,h'):=r;simp only[s,m];exact⟨_,_,_,O,A⟩
def ZS1{p:Prop}(h:p:=by
 unfold bJ;rw[rB];unfold fP;have m:(whole P G aO).call g (args++[.yield (F h.aB)]++aY) {h with aB:=h.aB++[{tmps:=e.tmps,params,assign,body,state:=.ready,pending:=ao}]}=J (.ret x,h'):=B;simp only[C,m,E,s];rw[aL A];refine⟨_,_,_,O,?_⟩;simpa only[am.done,s] using D):p:=h
def aus{params:Array Tmp}(C:e.eval f=.func (.func g) args aY)
 (B:(whole P G aO).call g (args++[.yield (F h.aB)]++aY) (h.loop (J' e params assign body))=J (.ret x,h')) (E:h'.aB[F h.aB]?=J r) (A:r.state≠ .busy) (s:r.pending=ao)
 (D:Q .normal e (h'.done (F h.aB) r)):bJ (whole P G aO) (.rangeFunc f params assign body) e h Q:=ZS1
def auu{params:Array Tmp}(C:e.eval f=.func (.func g) args aY)
 (B:(whole P G aO).call g (args++[.yield (F h.aB)]++aY) (h.loop (J' e params assign body))=J (.ret x,h')) (E:h'.aB[F h.aB]?=J r) (A:r.state≠ .busy) (s:r.pending=J .ret)
 (D:Q .ret e (h'.done (F h.aB) r)):bJ (whole P G aO) (.rangeFunc f params assign body) e h Q:=ZS1
def mG(l:Nat)(r:iq)(args:List I):Env:={tmps:=Eb r.params.toList args r.tmps,defers:=[],da:=ao,round:=J l}
def am.busy(h:am)(l:Nat)(r:iq):am:={h with aB:=h.aB.set l {r with state:=.busy}}
def atb(l:Nat)(x:dP)(h':am):Xt->Env->am->Prop
 | .normal,_,h2=>∃r,h2.aB[l]?=J r/\x=.ret (.v (.bool aa))/\h'={h2 with aB:=h2.aB.set l {r with state:=.ready,pending:=ao}}
 | .ret,_,h2=>∃r,h2.aB[l]?=J r/\x=.ret (.v (.bool ar))/\h'={h2 with aB:=h2.aB.set l {r with state:=.done,pending:=J .ret}}
 | .exit id,_,h2=>∃r,h2.aB[l]?=J r/\x=.ret (.v (.bool ar))/\h'={h2 with aB:=h2.aB.set l {r with state:=.done,pending:=J (.exit id)}}
 | .panic z,_,h2=>x=.panic z/\h'=h2
def KL{x:dP}(Y:h.aB[l]?=J r)(hs:r.params.size=F args)
 (X:bJ (whole P G aO) r.assign (mG l r args) h (λo m h1=>o=.normal/\∃r2,h1.aB[l]?=J r2/\r2.state=.ready/\bJ (whole P G aO) r.body m (h1.busy l r2) (atb l x h'))):
 (whole P G aO).round l args h=J (x,h'):=by
 rw[axJ];unfold uE;obtain⟨o,m,h1,E,rfl,r2,q1,q2,B,N,T,q3,s⟩:=X;have A:(whole P G aO).code r.assign {tmps:=Eb r.params.toList args r.tmps,defers:=[],da:=ao,round:=J l} h=J (.normal,m,h1):=E;have C:(whole P G aO).code r.body m {h1 with aB:=h1.aB.set l {r2 with state:=.busy}}=J (B,N,T):=q3;simp only[Y,hs,if_true,A,q1,q2];rw[show({h1 with aB:=h1.aB.set l {tmps:=r2.tmps,params:=r2.params,assign:=r2.assign,body:=r2.body,state:=LoopState.busy,pending:=r2.pending}}:am)={h1 with aB:=h1.aB.set l {r2 with state:=.busy}} from O,C];cases B with
 |normal=>obtain⟨D,f,rfl,rfl⟩:=s;simp only[f,gq]
 |ret=>obtain⟨D,f,rfl,rfl⟩:=s;simp only[f,gq]
 |exit id=>obtain⟨D,f,rfl,rfl⟩:=s;simp only[f,gq]
 |panic z=>obtain⟨rfl,rfl⟩:=s;rfl
end
structure Fr(bn l0 n0:Nat)(h h':am):Prop where
 box:∀(c:Nat) (cs:List I),c≠bn->h.V[c]?=J cs->h'.V[c]?=J cs
 len:h.V.length<=h'.V.length
 loop:∀(l:Nat) (r:iq),l<l0->h.aB[l]?=J r->h'.aB[l]?=J r
 Dn:h.aB.length<=h'.aB.length
 tn:h.tn<=h'.tn
 dead:∀n,n<n0->n∈h'.dead->n∈h.dead
 ok:cS h=aa->cS h'=aa
def Fr.refl(bn l0 n0)(h):Fr bn l0 n0 h h:=⟨λ_ _ _ h=>h,aT _,λ_ _ _ h=>h,aT _,aT _,λ_ _ h=>h,λh=>h⟩
def Fr.trans{b}(h:Fr bn l0 n0 a b)(k:Fr bn l0 n0 b c):Fr bn l0 n0 a c:=
 ⟨λi cs f s=>k.box i cs f (h.box i cs f s),ff h.len k.len,λl D m C=>k.loop l D m (h.loop l D m C),ff h.Dn k.Dn,ff h.tn k.tn,λn r A=>h.dead n r (k.dead n r A),λB=>k.ok (h.ok B)⟩
def Ext.Dn(x:Ext h h'):F h.aB<=F h'.aB:=by
 rcases dR (F h'.aB) (F h.aB) with f|m
 .have h1:=x.loop (F h'.aB) _ (aW f);simp_all
 omega
def Fr.Bh(x:Ext h h')(r:n0<=h.tn):Fr bn l0 n0 h h':=
 ⟨λc cs _ f=>x.box c cs f,x.len,λl s _ m=>x.loop l s m,x.Dn,x.tn,λn h1 h2=>x.dead n (mK h1 r) h2,x.ok⟩
def Fr.push(bn l0 n0)(h)(cs):Fr bn l0 n0 h (h.push cs):=
 ⟨λ_ _ _ f=>aP f,by rw[bP];omega,λ_ _ _ h=>h,aT _,aT _,λ_ _ h=>h,λh=>h⟩
def Fr.put(bn l0 n0)(h)(cs):Fr bn l0 n0 h (h.put bn cs):=
 ⟨λc r m f=>by rw[cG m];exact f,by rw[jA];omega,λ_ _ _ h=>h,aT _,aT _,λ_ _ h=>h,λh=>h⟩
def am.eM(h:am)(l:Nat)(r:iq):am:={h with aB:=h.aB.set l r}
def Fr.eM(s:l0<=l)(r):Fr bn l0 n0 h (h.eM l r):=
 ⟨λ_ _ _ f=>f,aT _,λB q A m=>by rw[<-m];exact MB ag,by simp[am.eM],aT _,λ_ _ h=>h,λh=>h⟩
def Fr.yO(h)(r):Fr bn l0 n0 h (h.loop r):=
 ⟨λ_ _ _ f=>f,aT _,λA q s m=>Fo m,by simp[am.loop],aT _,λ_ _ h=>h,λh=>h⟩
def Fr.ext(x:Fr bn l0 n0 h h')(s:F h.V<=bn)(A:F h.aB<=l0)(m:h.tn<=n0):Ext h h':=
 ⟨λc cs f=>x.box c cs (by grind) f,λl B r=>x.loop l B (by grind) r,x.tn,λn h1 h2=>x.dead n (mK h1 m) h2,x.ok⟩
def abW(f:l<F h.aB):(h.eM l r).aB[l]?=J r:=by simp[am.eM,f]
def abV(f:m≠l):(h.eM l r).aB[m]?=h.aB[m]?:=by simp[am.eM,MB (Ne.symm f)]
def Be:(h.loop r).aB[F h.aB]?=J r:=by simp[am.loop]
def ZC{q}(f:h.aB[l]?=J q):(h.loop r).aB[l]?=J q:=Fo f
def St(l:Nat)(h h':am):Prop:=(∀(b:Nat) (cs:List I),h.V[b]?=J cs->h'.V[b]?=J cs)/\∀(f:Nat) (m:iq),f<=l->h.aB[f]?=J m->h'.aB[f]?=J m
def St.refl(l)(h):St l h h:=⟨λ_ _ h=>h,λ_ _ _ h=>h⟩
def St.trans{b}(h:St l a b)(k:St l b c):St l a c:=⟨λi cs m=>k.1 i cs (h.1 i cs m),λs A f r=>k.2 s A f (h.2 s A f r)⟩
def St.push(l)(h)(cs):St l h (h.push cs):=⟨λ_ _ f=>aP f,λ_ _ _ h=>h⟩
def St.Bh(x:Ext h h'):St l h h':=⟨x.box,λm r _ f=>x.loop m r f⟩
def St.eM(s:l<k)(r):St l h (h.eM k r):=⟨λ_ _ f=>f,λB q A m=>by rw[abV ag];exact m⟩
def St.yO(l)(h)(r):St l h (h.loop r):=⟨λ_ _ f=>f,λs q _ m=>ZC m⟩
def St.gg(x:St l h h')(s:F h.V<=b)(cs):St l h (h'.put b cs):=
 ⟨λc m f=>by have r:c<F h.V:=(aU.1 f).1;rw[cG ag];exact x.1 c m f,x.2⟩
inductive Nx (α:Type) where
 |cont (a:α)|stop (a:α)|panic (v:I)
def bJ.gen{c}{Q}(f:∀e2:Env,(∀t,e2.get t=e.get t)->e2.defers=e.defers->e2.da=e.da->e2.round=e.round->bJ R c e2 h Q):bJ R c e h Q:=f e (λ_=>rfl) O O rfl
section
variable {P:bO} {G:Nat->Option (List I)} {aO:bk->Option (List I->am->Option (I × am))} {Q:Xt->Env->am->Prop} {e:Env} {h:am}
def Bn{m:Array Tmp}(B:e.eval f=.func (.func g) args aY)
 (H:∀rec:iq,rec.tmps=e.tmps->rec.params=m->rec.assign=assign->rec.body=body->rec.state=.ready->rec.pending=ao->∃r h',(whole P G aO).call g (args++[.yield (F h.aB)]++aY) (h.loop rec)=J (r,h')/\
  match r with
  | .panic x=>Q (.panic x) e h'
  | .ret _=>∃rc,h'.aB[F h.aB]?=J rc/\rc.state≠ .busy/\((rc.pending=ao/\Q .normal e (h'.eM (F h.aB) {rc with state:=.exhausted}))∨(rc.pending=J .ret/\Q .ret e (h'.eM (F h.aB) {rc with state:=.exhausted})))):
 bJ (whole P G aO) (.rangeFunc f m assign body) e h Q:=by
 obtain⟨r,h',A,C⟩:=H (J' e m assign body) O O O O O O;cases r with
 |panic x=>exact aut B A C|ret x=>
  obtain⟨rc,h1,h2,s|s⟩:=C
  .exact aus B A h1 h2 s.1 s.2
  .exact auu B A h1 h2 s.1 s.2
def abr{p:Nat}(f:r.params=#[p])(m:r.tmps=e.tmps):(mG l r [x]).get t=if p=t then x else e.get t:=by unfold mG;rw[f,m];exact Dp e.tmps p t x
def St.mono{f}(r:l<=f){h}(x:St f h h'):St l h h':=⟨x.1,λA B s m=>x.2 A B ag m⟩
end
section
variable {P:bO} {G:Nat->Option (List I)} {R:Rec}
def Hj(Q:Xt->Env->am->Prop):Xt->Env->am->Prop
 | .normal,e,h=>Q .normal e h
 | .panic x,e,h=>Q (.panic x) e h
 |_,_,_=>False
def Za(P:bO)(G:Nat->Option (List I))(R:Rec)(ops:Array Oper)(l:List Oper)(Q:Xt->Env->am->Prop):Xt->Env->am->Prop
 | .normal,e,h=>cQ P G R ops l e h (Hj Q)
 |_,_,_=>False
def awN{Q}:Hj Q .normal e h=Q .normal e h:=rfl
def awO{Q}:Hj Q (.panic x) e h=Q (.panic x) e h:=rfl
def anh{l:List Oper}{Q:Xt->Env->am->Prop}:Za P G R ops l Q .normal e h=cQ P G R ops l e h (Hj Q):=rfl
end
section
variable {P:bO} {G:Nat->Option (List I)} {aO:bk->Option (List I->am->Option (I × am))} {Q:Xt->Env->am->Prop} {e:Env} {h:am}
def al3(f:n+1=ops.size)(s:tv ops=aa){r:Env}(h2:cg P G R ops (bE n) e h=J (.normal,r,h')):A9 (cg P G R (gY ops) (bE (gY ops).size) e h)=aa:=by rw[PP,<-f,jH];have m:=h2;rw[<-ZF s (λi B=>by grind)]at m;rw[QR m,cg,F7,aC f];have A:ops[n]?=J ops[n]:=mh ag;rw[A];rfl
def aun(D:n+1=ops.size)(Y:E' ops=aa)(A:E' (gY ops)=aa)(C:tv ops=aa)
 (hr:cQ P G (whole P G aO) ops (ops.toList.take n) e h (Za P G (whole P G aO) ops (ops.toList.drop n) Q)):bJ (whole P G aO) (.region id ops aa) e h Q:=by
 obtain⟨o,s,h1,r,T⟩:=hr;have ho:o=.normal:=by cases o<;>first|rfl|exact T.elim
 subst ho;obtain⟨E,X,h2,q1,m⟩:wq (opsL P G (whole P G aO) ops (ops.toList.drop n) s h1) (Hj Q):=T;rw[<-pF ag]at r;have B:(ops.toList.drop n).take 1=ops.toList.drop n:=List.take_of_length_le (by grind);have N:=aak (P:=P) (G:=G) (R:=whole P G aO) ops 1 n ag s h1;rw[B,q1]at N;have f:cg P G (whole P G aO) ops (bE ops.size) e h=J (E,X,h2):=by rw[<-D,jH,QR r];exact N
 unfold bJ;rw[rB];cases E with|normal=>exact⟨_,_,_,draw_code f ((pO _ _).mpr (.inl (N2 Y e h))),m⟩|panic x=>refine⟨_,_,_,draw_code f ?_,m⟩;simp only[drawC,bR];exact⟨C,N2 A e h,al3 D C r⟩|exit i=>exact m.elim|ret=>exact m.elim
end
section
variable {P:bO} {G:Nat->Option (List I)} {R:Rec} {ops:Array Oper} {k:Nat}
end
section
variable {P:bO} {G:Nat->Option (List I)} {aO:bk->Option (List I->am->Option (I × am))} {Q:Xt->Env->am->Prop} {e:Env} {h:am}
def jY(ops:Array Oper)(k:Nat)(ps:List (Nat × Nat)):Bool:=ps.all λp=>o7 (cut ops k) p.1 p.2&&(decide (p.1<k)&&decide (p.2<k))
end
mutual
def mX(n:Nat):I->Bool
 | .ac _ _ es=>Gd n es
 | .arr b _ _ _=>decide (b<n)
 | .agg cs=>oM n cs
 | .tuple cs=>oM n cs
 | .ptr (.box b) _=>decide (b<n)
 | .elem _ es _ _=>Gd n es
 | .func _ a b=>oM n a&&oM n b
 | .iface _ x=>mX n x
 |_=>aa
def oM(n:Nat):List I->Bool
 | []=>aa
 |x::f=>mX n x&&oM n f
def Gd(n:Nat):List (List I)->Bool
 | []=>aa
 |r::f=>oM n r&&Gd n f
end
def ZE(n):∀(a b:List I),oM n (a++b)=(oM n a&&oM n b)
 | [],b=>by simp[oM]
 |x::a,b=>by rw[fw,oM,oM,ZE n a b,ac6]
def Ge(n):∀es:List (List I),oM n es.flatten=Gd n es
 | []=>rfl
 |r::es=>by rw[mj,ZE,Gd,Ge n es]
def bj.low(K:bj)(n:Nat):bj:={K with β:=K.β.take n}
section
variable {K:bj}
def LW{g:Nat}(h:K.β[b]?=J g):b<F K.β:=(aU.1 h).1
mutual
def aV.low:∀{x:I} {c:a_},aV K x c->mX (F K.β) x=aa
 |_,_,.bad _=>rfl
 |_,_,.v _ _=>rfl
 |_,_,.nil _=>rfl
 |_,_,.gI _ _=>rfl
 |_,_,.ac _ _ es _ _ _ _ _ _ _ f _ _ _=>by rw[mX,<-Ge];exact aN.low f
 |_,_,.arr _ _ _ _ _ _ _ m _ _ _ _=>by rw[mX];grind
 |_,_,.agg _ _ f=>by rw[mX];exact aN.low f
 |_,_,.tuple _ _ f=>by rw[mX];exact aN.low f
 |_,_,.box _ _ _ m=>by rw[mX];grind
 |_,_,.dU _ _=>rfl
 |_,_,.elem _ es _ _ _ _ _ _ _ f _ _ _ _=>by rw[mX,<-Ge];exact aN.low f
 |_,_,.func _ _ _ _ _ h1 h2=>by rw[mX,aN.low h1,aN.low h2];rfl
 |_,_,.yield _ _ _=>rfl
 |_,_,.iface _ _ _ r=>by rw[mX];exact aV.low r
def aN.low:∀{xs:List I} {cs:List a_},aN K xs cs->oM (F K.β) xs=aa
 |_,_,.nil=>rfl
 |_,_,.cons _ _ _ _ m f=>by rw[oM,aV.low m,aN.low f];rfl
end
def ZH{g:Nat}(f:K.β[b]?=J g)(m:b<n):(K.low n).β[b]?=J g:=by show(K.β.take n)[b]?=J g;simp_all
def uW.low{k:Tok}{g aY:Nat}(h:uW K k g off sz m aY):uW (K.low n) k g off sz m aY:=h
mutual
def aV.cut:∀{x:I} {c:a_},aV K x c->mX n x=aa->aV (K.low n) x c
 |_,_,.bad c,_=>.bad c
 |_,_,.v x E,_=>.v x E
 |_,_,.nil sz,_=>.nil sz
 |_,_,.gI sz a,_=>.gI sz a
 |_,_,.ac k sz es g off z0 f cells hn s m r ht B,h=>.ac k sz es g off z0 f cells hn s (aN.cut m (by rw[Ge];rw[mX]at h;exact h)) r ht.low B
 |_,_,.arr b g off len f N A C D r ho s,h=>.arr b g off len f N A (ZH C (by rw[mX]at h;simp_all)) D r ho s
 |_,_,.agg cs T m,h=>.agg cs T (aN.cut m (by rw[mX]at h;exact h))
 |_,_,.tuple cs T m,h=>.tuple cs T (aN.cut m (by rw[mX]at h;exact h))
 |_,_,.box b g off C,h=>.box b g off (ZH C (by rw[mX]at h;simp_all))
 |_,_,.dU g off,_=>.dU g off
 |_,_,.elem sz es i off g o p cells s m r hi hp B,h=>.elem sz es i off g o p cells s (aN.cut m (by rw[Ge];rw[mX]at h;exact h)) r hi hp B
 |_,_,.func X first f Y cs h1 h2,h=>.func X first f Y cs (aN.cut h1 (by rw[mX,bR]at h;grind)) (aN.cut h2 (by rw[mX,bR]at h;grind))
 |_,_,.yield l g D,_=>.yield l g D
 |_,_,.iface t x c E,h=>.iface t x c (aV.cut E (by rw[mX]at h;exact h))
def aN.cut:∀{xs:List I} {cs:List a_},aN K xs cs->oM n xs=aa->aN (K.low n) xs cs
 |_,_,.nil,_=>.nil
 |_,_,.cons x c xs cs m f,h=>.cons x c xs cs (aV.cut m (by rw[oM,bR]at h;grind)) (aN.cut f (by rw[oM,bR]at h;grind))
end
end
section
variable {P:bO} {G:Nat->Option (List I)} {w0 w w':cC} {K K':bj} {h h':am} {ok:bk->Nat->Code->Bool}
end
section
universe u
def goT:=au @gq.{0,0} (au @Ia.{0,0} (au @qO.{0,0} (au @dK.{0,0} (au @List.map_nil.{0,0} (au @List.getD_cons_zero.{0} (au @List.getD_cons_succ.{0} (au @je.{0} (au @jF.{0} @oX.{0}))))))))
def goU:=au @g'.{0} @List.nil_append.{0}
def Zo:=au @bP (au @jA @Zr)
def anF:=au @eR.{0} (au @List.length_nil.{0} (au @List.length_append.{0} (au @bP (au @jA @Zr))))
def aj6:=au @aj8 (au @np (au @aj9 (au @aka (au @akb @aj7))))
def agZ:=au @sN @vh
def asW:=au @ab8 (au @VI @aaM)
end
def G_d:=@aky
def G_n:=@akC
def B_d:=@agx
def B_n:=@agA
def G_m:=@akB
def B_m:=@agz
def G_b:=@akx
def B_b:=@agw
def dZ{p:Prop}(h:p:=by first|assumption|(exact Nat.le_refl _)|omega|(simp only[anF]<;>omega)|(simp(disch:=(first|assumption|omega|(exact(bP _ _).symm)|(simp only[Zo];omega)|(refine Nat.le_antisymm ?_ ?_<;>simp only[Zo]<;>omega)|fail)) only[aj6]<;>first|assumption|rfl)|(simp only[agZ];assumption)|(exact Sm _ _)|(simp only[asW];first|assumption|exact Sm _ _)):p:=h
def dX{a b p:Prop}(x:a)(y:b)(f:a->b->p:=by first|exact G_d|exact G_n|exact B_d|exact B_n|exact G_m|exact B_m|exact G_b|exact B_b):p:=f x y
section
variable {P:bO} {t0 t1 t elem:aX} {i:TypeInfo} {h:am} {k k':Tok} {sz:Nat} {es new:List (List I)}
def Bt(h0:P.underlying t0=J (.slice elem))(h1:P.underlying t1=J (.slice elem))(hi:P.info? elem=J i)(m:0<i.size)(D:(i.zero.map λz=>z.cells.size)=J i.size)(f:new≠[])
 (r:(F es+F new)*i.bytes<=140737488355328) (A:F es+F new<=9223372036854775807) (B:sz=i.size∨es=[]) (s:k=.nil∨k=.aK)  (C:jX h i.size x=J new):
 nD P h #[t0,t1] (.ac k sz es) x=J (.arr (F h.V) 0 (F es+F new) (F es+F new),h.push (es++new).flatten):=by
 unfold nD;simp only[je,jF,oX,qO,h0,h1,hi,C];rw[aC ⟨m,D⟩,aC B,aL f,aC ⟨r,A⟩];rcases s with rfl|rfl<;>rfl
def Hk{len:Nat}(h0:P.underlying t0=J (.slice elem))(h1:P.underlying t1=J (.slice elem))(hi:P.info? elem=J i)(m:0<i.size)(D:(i.zero.map λz=>z.cells.size)=J i.size)(B:new≠[])
 (s:(len+F new)*i.bytes<=140737488355328) (A:len+F new<=9223372036854775807) (f:h.V[b]?=J cs) (h2:0<len) (r:len*i.size=F cs)  (C:jX h i.size x=J new):
 nD P h #[t0,t1] (.arr b 0 len len) x=J (.arr (F h.V) 0 (len+F new) (len+F new),(h.put b []).push (cs++new.flatten)):=by
 have E:0<F new:=by cases new with|nil=>simp_all|cons _ _=>simp
 unfold nD;simp only[je,jF,oX,qO,h0,h1,hi,C,f];rw[aC ⟨m,D⟩,aL ag,aC ⟨ba,h2,ba,r,s,A⟩];rfl
def Ds:jX h sz (.ac k sz es)=J es:=by unfold jX rowsOf;simp
def avm{len aY:Nat}{m:Int}{kk:uO}(h0:P.underlying t=J (.slice elem))(C:cN P elem=J n)(B:n≠0)(h1:0<=m)(h2:m<=aY)(A:0<aY):gV P t (.arr b off len aY) ao (J (.v (.int kk m))) ao=J (.arr b off m.toNat aY):=by
 have f:gC aY ao aY=J aY:=rfl;have r:gC aY (J (.v (.int kk m))) len=J m.toNat:=by show(if 0<=m/\m<=(aY:Int) then J m.toNat else ao)=_;simp_all
 have s:gC m.toNat ao 0=J 0:=rfl;unfold gV;simp_all
end
def d_(sz:Nat)(h:am)(x:I)(U:List (List I)):Prop:=
 (∀r∈U,F r=sz)/\
 ((∃k m,x=.ac k m U/\(U≠[]->m=sz))∨
  (∃b off f cs,x=.arr b off (F U) f/\F U<=f/\h.V[b]?=J cs/\(cs.drop off).take (F U*sz)=U.flatten/\off+F U*sz<=F cs))
section
variable {P:bO} {G:Nat->Option (List I)} {h h':am} {t e:aX} {sz:Nat} {x:I} {U:List (List I)}
def d_.ac{k:Tok}{s:Nat}(f:∀r∈U,F r=sz)(m:U≠[]->s=sz):d_ sz h (.ac k s U) U:=⟨f,.inl ⟨k,s,O,m⟩⟩
def d_.box(f:∀r∈U,F r=sz)(s:n=F U)(m:h.V[b]?=J U.flatten):d_ sz h (.arr b 0 n n) U:=by
 subst s;refine⟨f,.inr ⟨b,0,U.length,U.flatten,O,aT _,m,?_,?_⟩⟩
 .rw[iI,<-nW f,gu]
 .rw[nW f];omega
def d_.mono(s:d_ sz h x U)(m:∀(b:Nat) (cs:List I),h.V[b]?=J cs->h'.V[b]?=J cs):d_ sz h' x U:=by
 obtain⟨B,s⟩:=s;refine⟨B,?_⟩;rcases s with s|⟨b,off,f,cs,h1,h2,r,A⟩
 .simp_all
 .exact .inr ⟨b,off,f,cs,h1,h2,m _ _ r,A⟩
def d_.ext(s:d_ sz h x U)(m:Ext h h'):d_ sz h' x U:=s.mono m.box
def d_.len(s:d_ sz h x U)(f:P.underlying t=J (.slice e)):dp P t x=J (.v (.int .i64 (F U))):=by
 rcases s.2 with⟨k,s,rfl,-⟩|⟨b,off,m,cs,rfl,-⟩
 .exact Qn f
 .exact Gc f
def d_.index(s:d_ sz h x U)(hp:0<sz)(E:P.underlying t=J (.slice e))(r:cN P e=J sz){row:List I}(hi:U[i]?=J row):
 ∃p,(∀kk,dM P t x (.v (.int kk (i:Int)))=J p)/\(fR P e=J ar->aF P G h e p=row.head?)/\(fR P e=J aa->aF P G h e p=J (.agg row)):=by
 have A:=(aU.1 hi).1;have D:=s.1 row (dk hi);rcases s.2 with⟨k,N,rfl,X⟩|⟨b,off,Y,cs,rfl,h2,C,T,h5⟩
 .have:N=sz:=X (by grind);subst this;refine⟨.elem N U i 0,λkk=>?_,λf=>?_,λf=>?_⟩
  .rw[bh E r ag ag,eD]
  .rw[rm f hi,iI]
  .rw[Do f r hi ag,iI,<-D,gu]
 .have m:(cs.drop (off+i*sz)).take sz=row:=by have:=N9 s.1 hi;rw[<-T,Mz,HP,rF]at this;rw[<-this];congr 1;have:(i+1)*sz<=F U*sz:=mn _ A;rw[jt]at this;omega
  have B:off+i*sz+sz<=F cs:=by have:(i+1)*sz<=F U*sz:=mn _ A;rw[jt]at this;omega
  refine⟨.ptr (.box b) (off+i*sz),λkk=>?_,λf=>?_,λf=>?_⟩
  .rw[A8 E r ag ag,eD]
  .rw[fI f C,<-m];obtain⟨n,rfl⟩:∃n,sz=n+1:=⟨sz-1,by omega⟩;cases cs.drop (off+i*(n+1)) with|nil=>rfl|cons a l=>rfl
  .rw[gt f r C B,m]
def d_.slice(s:d_ sz h x U)(hp:0<sz)(hu:P.underlying t=J (.slice e))(hs:cN P e=J sz){lo hi:Option I}
 (T:(hi=ao/\m=F U)∨∃kk,hi=J (.v (.int kk (m:Int)))/\m<=F U) (Y:(lo=ao/\l=0)∨∃kk,lo=J (.v (.int kk (l:Int)))) (X:l<=m):
 ∃y,gV P t x lo hi ao=J y/\d_ sz h y ((U.take m).drop l):=by
 have hm:m<=F U:=by omega
 have bound:∀A,F U<=A->gC A hi (F U)=J m:=λA azQ=>by
  rcases T with⟨rfl,rfl⟩|⟨kk,rfl,q⟩
  .rfl
  .show(if 0<=(m:Int)/\(m:Int)<=(A:Int) then J (m:Int).toNat else ao)=_
   grind
 have D:gC m lo 0=J l:=by
  rcases Y with⟨rfl,rfl⟩|⟨kk,rfl⟩
  .rfl
  .show(if 0<=(l:Int)/\(l:Int)<=(m:Int) then J (l:Int).toNat else ao)=_;simp_all
 have B:∀z0∈(U.take m).drop l,F z0=sz:=λz0 C=>s.1 z0 (uR (List.mem_of_mem_drop C));rcases s.2 with⟨k,s',rfl,hk⟩|⟨b,off,f,cs,rfl,h2,h3,h4,h5⟩
 .have N:gC (F U) ao (F U)=J (F U):=rfl;have eH:sz=s'∨U=[]:=by
   by_cases q:U=[]
   .simp_all
   .simp_all
  refine⟨.ac (qX k (decide (m=F U)) ar (m-l)) s' ((U.take m).drop l),?_,B,.inl ⟨_,_,O,λq=>hk (by grind)⟩⟩;unfold gV;simp_all
 .have N:gC f ao f=J f:=rfl;have r:F ((U.take m).drop l)=m-l:=by rw[fL,dF];omega
  refine⟨.arr b (if f=l then off else off+l*sz) (m-l) (f-l),?_,B,.inr ⟨b,_,f-l,cs,by rw[r],by omega,h3,?_,?_⟩⟩
  .unfold gV
   grind
  .rw[r];by_cases q:f=l
   .have:m-l=0:=(by omega);rw[aC q,this,Nat.zero_mul,List.take_zero]
    grind
   .rw[aL q,Wf (λz0 C=>s.1 z0 (uR C)),N_ s.1,<-h4,HP,<-rF];have E:min (m*sz) (F U*sz)=m*sz:=BO (mn _ hm);rw[E,Mz,<-Nat.sub_mul]
  .rw[r];have E:m*sz<=F U*sz:=mn _ hm;have e2:(m-l)*sz+l*sz=m*sz:=by rw[<-jt,Nat.sub_add_cancel X]
   grind
def d_.got(s:d_ sz h x U):rowsOf h sz x=J U:=by
 rcases s.2 with⟨k,D,rfl,C⟩|⟨b,off,B,cs,rfl,h2,m,r,A⟩
 .unfold rowsOf
  grind
 .unfold rowsOf;simp only[m,aC A,eo];apply List.ext_getElem
  .simp
  .intro i h1 f;rw[List.getElem_map,List.getElem_range];have:=N9 s.1 (aW f);rw[<-r,Mz,HP,rF]at this;rw[<-this];congr 1;have:(i+1)*sz<=F U*sz:=mn _ f
   grind
def d_.news(s:d_ sz h x U):jX h sz x=J U:=by have:=s.got;rcases s.2 with⟨k,m,rfl,-⟩|⟨b,off,f,cs,rfl,-⟩<;>exact this
end
section
variable {P:bO} {G:Nat->Option (List I)} {t:aX} {x y:b9} {k k':uO} {a b:Int}
def rO:de P .and t x y (.v (.int k a)) (.v (.int k b))=J (.v (.int k (k.wrap (BitVec.ofInt k.bits a&&&BitVec.ofInt k.bits b).toNat))):=qQ (v:=.int k (k.wrap (BitVec.ofInt k.bits a&&&BitVec.ofInt k.bits b).toNat)) (by simp[binOp,Op.intBits];rfl)
def Nl:de P .or t x y (.v (.int k a)) (.v (.int k b))=J (.v (.int k (k.wrap (BitVec.ofInt k.bits a|||BitVec.ofInt k.bits b).toNat))):=qQ (v:=.int k (k.wrap (BitVec.ofInt k.bits a|||BitVec.ofInt k.bits b).toNat)) (by simp[binOp,Op.intBits];rfl)
def UH:de P .xor t x y (.v (.int k a)) (.v (.int k b))=J (.v (.int k (k.wrap (BitVec.ofInt k.bits a^^^BitVec.ofInt k.bits b).toNat))):=qQ (v:=.int k (k.wrap (BitVec.ofInt k.bits a^^^BitVec.ofInt k.bits b).toNat)) (by simp[binOp,Op.intBits];rfl)
def Nm(h:0<=b):de P .shl t x y (.v (.int k a)) (.v (.int k' b))=J (.v (.int k (k.wrap (a*2^min b.toNat k.bits)))):=by
 have m:¬b<0:=by omega
 show(eP P (do eqGuard .shl t x y (.int k a) (.int k' b);binOp .shl t (.int k a) (.int k' b))).bind nC=_;rw[ny];have f:eP P (eqGuard .shl t x y (.int k a) (.int k' b))=J ():=rfl;rw[f];simp[binOp,Op.shift,m];rfl
def BY(h:0<=b):de P .shr t x y (.v (.int k a)) (.v (.int k' b))=J (.v (.int k (a.fdiv (2^min b.toNat k.bits)))):=by
 have m:¬b<0:=by omega
 show(eP P (do eqGuard .shr t x y (.int k a) (.int k' b);binOp .shr t (.int k a) (.int k' b))).bind nC=_;rw[ny];have f:eP P (eqGuard .shr t x y (.int k a) (.int k' b))=J ():=rfl;rw[f];simp[binOp,Op.shift,m];rfl
end
def bY(v:BitVec 32):I:=.v (.int .u32 (v.toNat:Int))
section
variable {P:bO} {t:aX} {x y:b9} {k':uO} {u v:BitVec 32}
def wrap32(n):IntKind.u32.wrap n=n%4294967296:=by unfold IntKind.wrap;simp[IntKind.signed,IntKind.bits]
def ofInt32(v):BitVec.ofInt 32 (v.toNat:Int)=v:=by simp_all
def SZ(v:BitVec 32):IntKind.u32.wrap (v.toNat:Int)=(v.toNat:Int):=by rw[wrap32];omega
def Ih:de P .and t x y (bY u) (bY v)=J (bY (u&&&v)):=by unfold bY;rw[rO,show IntKind.u32.bits=32 from O,ofInt32,ofInt32,SZ]
def qB:de P .or t x y (bY u) (bY v)=J (bY (u|||v)):=by unfold bY;rw[Nl,show IntKind.u32.bits=32 from O,ofInt32,ofInt32,SZ]
def uJ:de P .xor t x y (bY u) (bY v)=J (bY (u^^^v)):=by unfold bY;rw[UH,show IntKind.u32.bits=32 from O,ofInt32,ofInt32,SZ]
def tW:de P .add t x y (bY u) (bY v)=J (bY (u+v)):=by unfold bY;rw[UE,wrap32,BitVec.toNat_add];congr 3
def tL(f:n<32):de P .shr t x y (bY u) (.v (.int k' (n:Int)))=J (bY (u>>>n)):=by
 unfold bY;rw[BY ag,eD,show IntKind.u32.bits=32 from O,BO ag,BitVec.toNat_ushiftRight,Nat.shiftRight_eq_div_pow]
 grind
def uG(f:n<32):de P .shl t x y (bY u) (.v (.int k' (n:Int)))=J (bY (u<<<n)):=by unfold bY;rw[Nm ag,eD,show IntKind.u32.bits=32 from O,BO ag,wrap32,BitVec.toNat_shiftLeft,Nat.shiftLeft_eq];congr 3
end
section
variable {P:bO} {h:am} {t0 t1 elem:aX} {kn k:uO} {i:TypeInfo} {zero:List I} {sz n:Nat}
def Up(h0:P.underlying t0=J (.slice elem))(h1:P.underlying t1=J (.int kn))(hi:P.info? elem=J i)(A:(fY P elem).bind I.bL=J zero)(C:0<n)(m:n*i.bytes<=140737488355328)(B:n<=9223372036854775807)(s:0<i.size)(r:F zero=i.size):
 gB P h #[t0,t1] (.ac .nil sz []) (.v (.int k (n:Nat)))=J (.arr (F h.V) 0 n n,h.push (List.replicate n zero).flatten):=by
 unfold gB LV;have f:((n:Nat):Int)*i.bytes<=140737488355328:=by have:((n*i.bytes:Nat):Int)<=140737488355328:=Int.ofNat_le.2 m;omega
 simp only[je,jF,oX,qO,h0,h1,hi,A];rw[aC ⟨O,by omega,f,by omega,s,r⟩,eD];rfl
def Un{len aY:Nat}{new:List (List I)}(h0:P.underlying t0=J (.slice elem))(h1:P.underlying t1=J (.slice elem))(hi:P.info? elem=J i)(r:0<i.size)(A:(i.zero.map λz=>z.cells.size)=J i.size)
 (s:jX h i.size x=J new) (m:h.V[b]?=J cs) (h2:len+F new<=aY) (f:off+aY*i.size<=F cs):
 gB P h #[t0,t1] (.arr b off len aY) x=J (.arr b off (len+F new) aY,h.put b (dW cs (off+len*i.size) new.flatten)):=by
 unfold gB;simp only[je,jF,oX,qO,h0,h1,hi,s,m];rw[aC ⟨r,A⟩,aC ⟨h2,f⟩];rfl
end
def qI(t:Nat):Tok->Bool
 | .free i=>decide (i<t)
 |_=>aa
mutual
def aI(n l t:Nat):I->Bool
 | .ac k _ es=>qI t k&&fX n l t es
 | .arr b _ _ _=>decide (b<n)
 | .agg cs=>aJ n l t cs
 | .tuple cs=>aJ n l t cs
 | .ptr (.box b) _=>decide (b<n)
 | .elem _ es _ _=>fX n l t es
 | .func _ a b=>aJ n l t a&&aJ n l t b
 | .yield i=>decide (i<l)
 | .iface _ x=>aI n l t x
 |_=>aa
def aJ(n l t:Nat):List I->Bool
 | []=>aa
 |x::f=>aI n l t x&&aJ n l t f
def fX(n l t:Nat):List (List I)->Bool
 | []=>aa
 |r::f=>aJ n l t r&&fX n l t f
end
def V_(n l t):∀(a b:List I),aJ n l t (a++b)=(aJ n l t a&&aJ n l t b)
 | [],b=>by simp[aJ]
 |x::a,b=>by rw[fw,aJ,aJ,V_ n l t a b,ac6]
def pX(n l t):∀es:List (List I),aJ n l t es.flatten=fX n l t es
 | []=>rfl
 |r::es=>by rw[mj,V_,fX,pX n l t es]
def cJ:Tok->Tok
 | .free _=>.held
 |k=>k
mutual
def av:I->I
 | .ac k sz es=>.ac (cJ k) sz (dV es)
 | .tuple cs=>.tuple (bA cs)
 | .agg cs=>.agg (bA cs)
 | .iface t x=>.iface t (av x)
 |x=>x
def bA:List I->List I
 | []=>[]
 |x::f=>av x::bA f
def dV:List (List I)->List (List I)
 | []=>[]
 |r::f=>bA r::dV f
end
def AO:∀a b:List I,bA (a++b)=bA a++bA b
 | [],b=>rfl
 |x::a,b=>by rw[fw,bA,AO a b,bA,fw]
def CV:∀es:List (List I),(dV es).flatten=bA es.flatten
 | []=>rfl
 |r::es=>by rw[dV,mj,mj,AO,CV es]
def Yd:∀a:List I,F (bA a)=F a
 | []=>rfl
 |x::a=>by rw[bA,eR,Yd a,eR]
def FS:∀a:List (List I),F (dV a)=F a
 | []=>rfl
 |x::a=>by rw[dV,eR,FS a,eR]
def JC:∀{es:List (List I)},(∀r∈es,F r=sz)->∀r∈dV es,F r=sz
 | [],_,r,h=>by cases h
 |a::es,h,r,f=>by
  rw[dV]at f;rcases gX.1 f with rfl|f
  .rw[Yd];exact h a gj
  .exact JC (λr f=>h r (gi _ f)) r f
def alE(x):(av x).dm=x.dm:=by cases x<;>rfl
def Pl:∀a:List I,(bA a).all I.dm=a.all I.dm
 | []=>rfl
 |x::a=>by rw[bA,Ew,alE,Pl a,Ew]
def bj.rh(K:bj)(n l t:Nat):bj:={K with β:=K.β.take n,γ:=K.γ.take l,tn:=t}
section
variable {K:bj}
def ayn{g:Nat}(h:K.γ[b]?=J g):b<F K.γ:=(aU.1 h).1
mutual
def aV.fit:∀{x:I} {c:a_},aV K x c->aI (F K.β) (F K.γ) K.tn x=aa
 |_,_,.bad _=>rfl
 |_,_,.v _ _=>rfl
 |_,_,.nil _=>rfl
 |_,_,.gI _ _=>rfl
 |_,_,.ac k _ es _ _ _ _ _ _ _ f _ s _=>by
  rw[aI,bR,<-pX];refine⟨?_,aN.fit f⟩;cases k with|free i=>exact cy s.2.1|_=>rfl
 |_,_,.arr _ _ _ _ _ _ _ m _ _ _ _=>by rw[aI];exact cy (LW m)
 |_,_,.agg _ _ f=>by rw[aI];exact aN.fit f
 |_,_,.tuple _ _ f=>by rw[aI];exact aN.fit f
 |_,_,.box _ _ _ m=>by rw[aI];exact cy (LW m)
 |_,_,.dU _ _=>rfl
 |_,_,.elem _ es _ _ _ _ _ _ _ f _ _ _ _=>by rw[aI,<-pX];exact aN.fit f
 |_,_,.func _ _ _ _ _ h1 h2=>by rw[aI,aN.fit h1,aN.fit h2];rfl
 |_,_,.yield _ _ r=>by rw[aI];exact cy (ayn r)
 |_,_,.iface _ _ _ A=>by rw[aI];exact aV.fit A
def aN.fit:∀{xs:List I} {cs:List a_},aN K xs cs->aJ (F K.β) (F K.γ) K.tn xs=aa
 |_,_,.nil=>rfl
 |_,_,.cons _ _ _ _ m f=>by rw[aJ,aV.fit m,aN.fit f];rfl
end
def LI{α:Type}{l:List α}{x}(h:l[i]?=J x)(f:i<n):(l.take n)[i]?=J x:=by rw[qb,aC f,h]
def Bs{α:Type}{l:List α}{x}(h:(l.take n)[i]?=J x):i<n/\l[i]?=J x:=by
 rw[qb]at h;split at h
 .exact⟨by assumption,h⟩
 .cases h
mutual
def aV.tu(A:∀b g:Nat,b<n->K.β[b]?=J g->K2.β[b]?=J g)(C:∀b g:Nat,b<l->K.γ[b]?=J g->K2.γ[b]?=J g)(f:∀g j c,K.ic g j=J c->K2.ic g j=J c)(r:K2.tk=K.tk)(s:K2.tn=t)(m:∀b,b<n->K2.lb b=K.lb b):
 ∀{x:I} {c:a_},aV K x c->aI n l t x=aa->aV K2 x c
 |_,_,.bad c,_=>.bad c
 |_,_,.v x hx,_=>.v x hx
 |_,_,.nil sz,_=>.nil sz
 |_,_,.gI sz a,_=>.gI sz a
 |_,_,.ac k sz es g off z0 B cells hn N D E ht Y,h=>by
  rw[aI,bR]at h;refine .ac k sz es g off z0 B cells hn N (aN.tu A C f r s m D (by rw[pX];exact h.2)) (λj c hj=>f _ _ _ (E j c hj)) ⟨ht.1,?_⟩ Y;have h1:=h.1;have h2:=ht.2;cases k with|free i=>simp only at h2 ⊢;rw[r,s];exact⟨of_decide_eq_true h1,h2.2⟩|_=>exact h2
 |_,_,.arr b g off len B qA X hb hl E ho N,h=>by rw[aI]at h;have T:=of_decide_eq_true h;exact .arr b g off len B qA X (A _ _ T hb) hl E ho (by rw[m b T];exact N)
 |_,_,.agg cs vs D,h=>.agg cs vs (aN.tu A C f r s m D (by rw[aI]at h;exact h))
 |_,_,.tuple cs vs D,h=>.tuple cs vs (aN.tu A C f r s m D (by rw[aI]at h;exact h))
 |_,_,.box b g off hb,h=>.box b g off (A _ _ (by rw[aI]at h;exact of_decide_eq_true h) hb)
 |_,_,.dU g off,_=>.dU g off
 |_,_,.elem sz es i off g o p cells N D E hi hp Y,h=>.elem sz es i off g o p cells N (aN.tu A C f r s m D (by rw[pX];rw[aI]at h;exact h)) (λj c hj=>f _ _ _ (E j c hj)) hi hp Y
 |_,_,.func fn first B fs cs h1 h2,h=>.func fn first B fs cs (aN.tu A C f r s m h1 (by rw[aI,bR]at h;exact h.1)) (aN.tu A C f r s m h2 (by rw[aI,bR]at h;exact h.2))
 |_,_,.yield i g hl,h=>.yield i g (C _ _ (by rw[aI]at h;exact of_decide_eq_true h) hl)
 |_,_,.iface t x c hx,h=>.iface t x c (aV.tu A C f r s m hx (by rw[aI]at h;exact h))
def aN.tu(A:∀b g:Nat,b<n->K.β[b]?=J g->K2.β[b]?=J g)(B:∀b g:Nat,b<l->K.γ[b]?=J g->K2.γ[b]?=J g)(f:∀g j c,K.ic g j=J c->K2.ic g j=J c)(r:K2.tk=K.tk)(s:K2.tn=t)(m:∀b,b<n->K2.lb b=K.lb b):
 ∀{xs:List I} {cs:List a_},aN K xs cs->aJ n l t xs=aa->aN K2 xs cs
 |_,_,.nil,_=>.nil
 |_,_,.cons x c xs cs D C,h=>.cons x c xs cs (aV.tu A B f r s m D (by rw[aJ,bR]at h;exact h.1)) (aN.tu A B f r s m C (by rw[aJ,bR]at h;exact h.2))
end
mutual
def aV.hold:∀{x:I} {c:a_},aV K x c->aV K (av x) c
 |_,_,.bad c=>.bad c
 |_,_,.v x X=>.v x X
 |_,_,.nil sz=>.nil sz
 |_,_,.gI sz a=>.gI sz a
 |_,_,.ac k sz es g off z0 f cells hn s m r ht E=>by
  have C:aN K (dV es).flatten cells:=by rw[CV];exact aN.hold m
  have A:(dV es).flatten.all I.dm=aa:=by rw[CV,Pl];exact E
  have B:z0=F (dV es):=by rw[FS];exact hn
  cases k with|free i=>exact .ac .held sz _ g off z0 f cells B (JC s) C r ⟨ht.1,ba⟩ A|_=>exact .ac _ sz _ g off z0 f cells B (JC s) C r ht A
 |_,_,.arr b g off len f Y D N T r ho s=>.arr b g off len f Y D N T r ho s
 |_,_,.agg cs vs m=>.agg _ vs (aN.hold m)
 |_,_,.tuple cs vs m=>.tuple _ vs (aN.hold m)
 |_,_,.box b g off N=>.box b g off N
 |_,_,.dU g off=>.dU g off
 |_,_,.elem sz es i off g o p cells s m r hi hp E=>.elem sz es i off g o p cells s m r hi hp E
 |_,_,.func fn first f fs cs h1 h2=>.func fn first f fs cs h1 h2
 |_,_,.yield l g T=>.yield l g T
 |_,_,.iface t x c X=>.iface t _ c (aV.hold X)
def aN.hold:∀{xs:List I} {cs:List a_},aN K xs cs->aN K (bA xs) cs
 |_,_,.nil=>.nil
 |_,_,.cons x c xs cs m f=>.cons _ c _ cs (aV.hold m) (aN.hold f)
end
end
section
variable {P:bO} {G:Nat->Option (List I)} {w0 w w':cC} {K K':bj} {h h':am} {ok:bk->Nat->Code->Bool}
def aV.rh{c:a_}(s:aV K x c)(r:aI n l t x=aa):aV (K.rh n l t) x c:=
 s.tu (K:=K) (K2:=K.rh n l t) (n:=n) (l:=l) (λ_ _ f m=>LI m f) (λ_ _ f m=>LI m f) (λ_ _ _ h=>h) O O (λ_ _=>rfl) r
def aN.rh{x:List I}{c:List a_}(s:aN K x c)(r:aJ n l t x=aa):aN (K.rh n l t) x c:=
 s.tu (K:=K) (K2:=K.rh n l t) (n:=n) (l:=l) (λ_ _ f m=>LI m f) (λ_ _ f m=>LI m f) (λ_ _ _ h=>h) O O (λ_ _=>rfl) r
def bW.rh(s:bW K G ok w0 h w)(f:bW K' G ok w0 h' w')(le:K.Le K')(x:Ext h h'):bW (K'.rh (F h.V) (F h.aB) h.tn) G ok w0 h w':=by
 have nZ:=x.len;have fQ:F h.aB<=F h'.aB:=by
  rcases dR (F h'.aB) (F h.aB) with dx|po
  .have h1:=x.loop (F h'.aB) _ (aW dx);have:=(aU.1 h1).1;omega
  .exact po
 have βl:=s.jd;have γl:=s.nb;have fv:∀{y:List I} {c:List a_},aN K y c->aJ (F h.V) (F h.aB) h.tn y=aa:=λE=>by
  have:=E.fit
  rwa [βl,γl,s.tn]at this
 refine⟨f.fM,f.size,f.ic,λg cs hg=>?_,?_,λb T g h1 h2=>?_,λb g cs h1 h2=>?_,?_,λb T g h1 h2=>?_,λl g z0 h1 h2=>?_,O,λt X=>?_,λt t' X PM=>f.oV t t' (x.alive X) (x.alive PM),f.md,f.all⟩
 .obtain⟨cells,r,A⟩:=f.dU g cs hg;obtain⟨B,p1,-⟩:=s.dU g cs hg;exact⟨cells,r.rh (fv p1),A⟩
 .show(F (K'.β.take h.V.length))=F h.V;rw[dF,f.jd];omega
 .have h1:=Bs h1;have h2:=Bs h2;have N:∀k,k<F h.V->h'.V[k]?=J []->h.V[k]?=J []:=λk hk q=>by have:=x.box k _ (aW hk);rw[q]at this;rw[aW hk,<-this]
  rcases f.oq b T g h1.2 h2.2 with p|p|p
  .exact .inl p
  .exact .inr (.inl (N _ h1.1 p))
  .exact .inr (.inr (N _ h2.1 p))
 .have h1:=Bs h1;obtain⟨r,A,D,cells,e,Y,q5⟩:=f.box b g cs h1.2 (x.box _ _ h2);obtain⟨m,C⟩:∃m,K.β[b]?=J m:=⟨_,aW ag⟩;obtain⟨-,-,-,B,e0,-,p5⟩:=s.box b m cs C h2;exact⟨r,A,D,cells,e,Y,q5.1.rh (fv p5.1),q5.2⟩
 .show(F (K'.γ.take h.aB.length))=F h.aB;rw[dF,f.nb];omega
 .exact f.pN b T g (Bs h1).2 (Bs h2).2
 .have h1:=Bs h1;obtain⟨r,fn,tmps,d,A,D,Y⟩:=f.loop l g z0 h1.2 (x.loop _ _ h2);obtain⟨m,C⟩:∃m,K.γ[l]?=J m:=⟨_,aW (by rw[γl];exact h1.1)⟩;obtain⟨-,fn0,tmps0,d0,-,p3,-⟩:=s.loop l m z0 C h2;refine⟨r,fn,tmps,d,A,λt=>?_,Y⟩;have:=aV.fit (p3 t);rw[βl,γl,s.tn]at this;exact(D t).rh this
 .obtain⟨r,A,D⟩:=f.tok t (x.alive X);exact⟨r,λb hbt=>A b (Bs hbt).2,D⟩
end
section
variable {P:bO} {G:Nat->Option (List I)} {w0:cC} {aO:bk->Option (List I->am->Option (I × am))}
def mr{L:List bk}(h:(L.all λg=>match P.funcs[g]? with|some fn=>fn.body.isSome|none=>ar)=aa):∀g∈L,∃fn,P.funcs[g]?=J fn/\fn.body.isSome=aa:=by
 intro g m;have:=e8.1 h g m;split at this
 .rename_i fn f;exact⟨fn,f,this⟩
 .cases this
variable {L:List bk} {R:Rec} {g:bk} {args:List I} {h h2:am} {x y:I}
end
section
variable {b n0:Nat} {h h':am}
def fV.gg(m:fV b n0 h h'){c:Nat}(B:F h.V<=c)(cs:List I):fV b n0 h (h'.put c cs):=by refine⟨λd r s f=>?_,by rw[jA];exact m.len,m.loop,m.tn,m.dead,m.ok⟩;have A:d<F h.V:=(aU.1 f).1;rw[cG ag];exact m.box d r s f
def fV.push(m:fV b n0 h h')(cs:List I):fV b n0 h (h'.push cs):=
 ⟨λd f s r=>aP (m.box d f s r),by rw[bP];exact ad9 m.len,m.loop,m.tn,m.dead,m.ok⟩
end
def fV.uI{f}(m:fV b f h h')(A:n0<=f):fV b n0 h h':=⟨m.box,m.len,m.loop,m.tn,λk s r=>m.dead k (mK s A) r,m.ok⟩
def cY.mut{r}{k}(A:cY n0 h k)(m:fV b r h h')(B:h.tn<=r):cY n0 h' k:=by
 rcases A with q|q|⟨z,q,C,f⟩
 .exact .inl q
 .exact .inr (.inl q)
 .refine .inr (.inr ⟨z,q,C,?_⟩);unfold alive at f ⊢;simp only[bR,decide_eq_true_eq,Hw,wd,decide_eq_false_iff_not]at f ⊢;exact⟨mK f.1 m.tn,λs=>f.2 (m.dead z (mK f.1 B) s)⟩
structure Grown(n0:Nat)(h h':am)(t:Tok):Prop where
 box:∀(b:Nat) (cs:List I),h.V[b]?=J cs->h'.V[b]?=J cs
 loop:∀(l:Nat) (r:iq),h.aB[l]?=J r->h'.aB[l]?=J r
 can:cY n0 h' t
 ok:cS h'=aa
 tn:h.tn<=h'.tn
 dead:∀n,n<n0->n∈h'.dead->n∈h.dead
section
variable {n0:Nat} {h0 h h' h2:am} {t k:Tok}
def Grown.refl(f:cY n0 h k)(m:cS h=aa):Grown n0 h h k:=⟨λ_ _ q=>q,λ_ _ q=>q,f,m,aT _,λ_ _ q=>q⟩
def Grown.trans(g:Grown n0 h h' t)(f:Grown n0 h' h2 k):Grown n0 h h2 k:=
 ⟨λb cs q=>f.box b cs (g.box b cs q),λb cs q=>f.loop b cs (g.loop b cs q),f.can,f.ok,ff g.tn f.tn,λn m q=>g.dead n m (f.dead n m q)⟩
def Grown.ext(g:Grown n0 h h' t)(x:Ext h0 h)(s:h0.tn<=n0):Ext h0 h':=
 ⟨λb cs f=>g.box b cs (x.box b cs f),λl A r=>g.loop l A (x.loop l A r),ff x.tn g.tn,λn q m=>x.dead n q (g.dead n (mK q s) m),λ_=>g.ok⟩
def zU(m:cS h=aa)(s:cY n0 h k):cS (h.app k)=aa:=by
 unfold cS at *
 rw[e8]at *
 intro n f;rcases s with rfl|rfl|⟨A,rfl,-,r⟩
 .exact cy (HT (of_decide_eq_true (m n f)))
 .exact cy (HT (of_decide_eq_true (m n f)))
 .rcases gX.1 f with rfl|q
  .exact cy (HT (rM r))
  .exact cy (HT (of_decide_eq_true (m n q)))
def Grown.one(m:cY n0 h k)(r:cS h=aa)(s:n0<=h.tn):Grown n0 h (h.app k) (.free h.tn):=by
 refine⟨λb cs q=>by rw[dC];exact q,λb cs q=>by rw[uZ];exact q,m.next r s,zU r m,by rw[EU];omega,λn q f=>?_⟩;rcases m with rfl|rfl|⟨C,rfl,B,A⟩
 .exact f
 .exact f
 .rcases gX.1 f with rfl|f<;>omega
def Grown.push(g:Grown n0 h h' t)(cs:List I):Grown n0 h (h'.push cs) t:=⟨λb cs q=>aP (g.box b cs q),g.loop,g.can,g.ok,g.tn,g.dead⟩
def Grown.app(g:Grown n0 h h' t)(f:n0<=h.tn):Grown n0 h (h'.app t) (.free h'.tn):=g.trans (Grown.one g.can g.ok (ff f g.tn))
variable {P:bO} {t0 t1 elem:aX} {i:TypeInfo} {sz:Nat} {es new:List (List I)} {x:I}
def zV(h0:P.underlying t0=J (.slice elem))(h1:(∃e,P.underlying t1=J (.slice e))∨P.underlying t1=J .string)(hi:P.info? elem=J i)(r:0<i.size)(E:(i.zero.map λz=>z.cells.size)=J i.size)
 (D:jX h i.size x=J new) (m:new≠[]) (A:(F es+F new)*i.bytes<=140737488355328) (C:F es+F new<=9223372036854775807) (f:sz=i.size∨(es=[]/\k=.nil)) (B:cY n0 h k):
 gB P h #[t0,t1] (.ac k sz es) x=J (.ac (.free h.tn) i.size (es++new),h.app k):=by
 unfold gB;rcases h1 with⟨e,h1⟩|h1
 all_goals
  simp only[je,jF,oX,qO,h0,h1,hi,D];rw[aC ⟨r,E⟩,aC (f.imp_right λq=>q.1),aL m,aC ⟨A,C⟩];rcases B with rfl|rfl|⟨N,rfl,-,s⟩
  .rfl
  .rfl
  .have f:sz=i.size:=by
    rcases f with f|⟨-,f⟩
    .exact f
    .cases f
   simp only[s,f,decide_true,Bool.and_self,if_true];rfl
def Uo(h0:P.underlying t0=J (.slice elem))(h1:(∃e,P.underlying t1=J (.slice e))∨P.underlying t1=J .string)(hi:P.info? elem=J i)(f:0<i.size)(s:(i.zero.map λz=>z.cells.size)=J i.size)
 (r:jX h i.size x=J []) (m:sz=i.size∨es=[]):gB P h #[t0,t1] (.ac k sz es) x=J (.ac k sz es,h):=by
 unfold gB
 grind
end
section
open Go.RowKit (Below)
mutual
def ea(h:am):I->I
 | .ac k sz es=>.ac (cJ k) sz es
 | .arr b off len _=>match h.V[b]? with
  |some cs=>if off+len<=F cs then .ac .held 1 (((cs.drop off).take len).map λc=>[c]) else .bad
  |none=>.bad
 | .tuple cs=>.tuple (ja h cs)
 | .agg cs=>.agg (ja h cs)
 |x=>x
def ja(h:am):List I->List I
 | []=>[]
 |x::f=>ea h x::ja h f
end
def yN(R:Rec)(g:bk)(args:List I):Option I:=
 if aJ 0 0 0 (bA args)=aa then
  match R.call g (bA args) ⟨[],[],0,[]⟩ with
  |some (.ret y,h2)=>if aI 0 0 0 (ea h2 y)=aa then J (ea h2 y) else ao
  |_=>ao
 else ao
def Ab(R:Rec)(g:bk)(args:List I)(h:am):Option (I × am):=(yN R g args).map (·,h)
def G7:∀l:List I,(l.map λc=>[c]).flatten=l
 | []=>rfl
 |x::l=>by rw[dK,mj,G7 l];rfl
section
variable {P:bO} {G:Nat->Option (List I)} {ok:bk->Nat->Code->Bool} {w0 w w':cC} {K K1 K2:bj} {h h2:am}
mutual
def aV.iZ(f:∀g j c,K1.ic g j=J c->K2.ic g j=J c):∀{x:I} {c:a_},aV K1 x c->aI 0 0 0 x=aa->aV K2 x c
 |_,_,.bad c,_=>.bad c
 |_,_,.v x D,_=>.v x D
 |_,_,.nil sz,_=>.nil sz
 |_,_,.gI sz a,_=>.gI sz a
 |_,_,.ac k sz es g off z0 r cells hn C m A N s,h=>by
  rw[aI,bR]at h;refine .ac k sz es g off z0 r cells hn C (aN.iZ f m (by rw[pX];grind)) (λj c B=>f _ _ _ (A j c B)) ⟨N.1,?_⟩ s;have h1:=h.1;have h2:=N.2;cases k with|free i=>simp[qI]at h1|_=>exact h2
 |_,_,.arr _ _ _ _ _ _ _ _ _ _ _ _,h=>by simp[aI]at h
 |_,_,.agg cs E m,h=>.agg cs E (aN.iZ f m (by rw[aI]at h;exact h))
 |_,_,.tuple cs E m,h=>.tuple cs E (aN.iZ f m (by rw[aI]at h;exact h))
 |_,_,.box _ _ _ _,h=>by simp[aI]at h
 |_,_,.dU g off,_=>.dU g off
 |_,_,.elem sz es i off g o p cells C m A Y hp s,h=>.elem sz es i off g o p cells C (aN.iZ f m (by rw[pX];rw[aI]at h;exact h)) (λj c B=>f _ _ _ (A j c B)) Y hp s
 |_,_,.func T first r X cs h1 h2,h=>.func T first r X cs (aN.iZ f h1 (by rw[aI,bR]at h;grind)) (aN.iZ f h2 (by rw[aI,bR]at h;grind))
 |_,_,.yield _ _ _,h=>by simp[aI]at h
 |_,_,.iface t x c D,h=>.iface t x c (aV.iZ f D (by rw[aI]at h;exact h))
def aN.iZ(f:∀g j c,K1.ic g j=J c->K2.ic g j=J c):∀{xs:List I} {cs:List a_},aN K1 xs cs->aJ 0 0 0 xs=aa->aN K2 xs cs
 |_,_,.nil,_=>.nil
 |_,_,.cons x c xs cs r m,h=>.cons x c xs cs (aV.iZ f r (by rw[aJ,bR]at h;grind)) (aN.iZ f m (by rw[aJ,bR]at h;grind))
end
mutual
def aV.oG(s1:bW K1 G ok w h2 w')(f:∀g j c,K1.ic g j=J c->K2.ic g j=J c)(B:∀g j c,K1.base<=g->w'.cell? ⟨g,j,ao⟩=J c->K2.ic g j=J c):
 ∀{x:I} {c:a_},aV K1 x c->aI 0 0 0 (ea h2 x)=aa->aV K2 (ea h2 x) c
 |_,_,.bad c,_=>.bad c
 |_,_,.v x hx,_=>.v x hx
 |_,_,.nil sz,_=>.nil sz
 |_,_,.gI sz a,_=>.gI sz a
 |_,_,.ac k sz es g off z0 r cells hn C A N X E,h=>by
  have hf:fX 0 0 0 es=aa:=by simp only[ea,aI,bR]at h;exact h.2
  have Y:aN K2 es.flatten cells:=aN.iZ f A (by rw[pX];exact hf);cases k with|nil=>exact X.2.elim|aK=>exact .ac .aK sz es g off z0 r cells hn C Y (λj c s=>f _ _ _ (N j c s)) ⟨X.1,X.2⟩ E|free i=>exact .ac .held sz es g off z0 r cells hn C Y (λj c s=>f _ _ _ (N j c s)) ⟨X.1,ba⟩ E|held=>exact .ac .held sz es g off z0 r cells hn C Y (λj c s=>f _ _ _ (N j c s)) ⟨X.1,ba⟩ E
 |_,_,.arr b g off len r m D hb hl qo ho C,h=>by
  simp only[ea]at h ⊢;cases jk:h2.V[b]? with
  |none=>exact .bad _|some cs=>
   rw[jk]at h;simp only at h ⊢;split at h
   .rename_i T;rw[aC T];have hf:fX 0 0 0 (((cs.drop off).take len).map λc=>[c])=aa:=(by simp only[aI,bR]at h;exact h.2);obtain⟨q1,q2,q3,cells,e,q4,q5⟩:=s1.box b g cs hb jk;have O':=q5.le;by_cases h0:r=0
    .have:len=0:=(by omega);subst this;exact .ac .held 1 [] g m 0 D [] O (λ_ h=>by cases h) .nil (λ_ _ h=>by grind) ⟨ck _,ba⟩ O
    .have AL:m=off:=(by simp_all);subst AL;have A:aN K1 ((cs.drop m).take len) (((cells.toList.take (F cs)).drop m).take len):=(q5.1.drop m).take len;have nZ:F ((cs.drop m).take len)=len:=(by rw[dF,fL];omega);refine .ac .held 1 _ g m len D (((cells.toList.take (F cs)).drop m).take len) (by simp_all) (λz1 C=>?_) ?_ (λj c s=>?_) ⟨ag,ba⟩ ?_
     .grind
     .rw[G7];rw[<-pX,G7]at hf;exact aN.iZ f A hf
     .refine B _ _ _ q1 ?_;have ue:j<len:=(by have:=(aU.1 s).1;rw[dF]at this;omega);rw[qb,aC ue,qM,qb,aC ag]at s;rw[cell_of q4];simp_all
     grind
   .rename_i T;rw[aL T];exact .bad _
 |_,_,.agg cs vs A,h=>.agg _ vs (aN.oG s1 f B A (by simpa only[ea,aI] using h))
 |_,_,.tuple cs vs A,h=>.tuple _ vs (aN.oG s1 f B A (by simpa only[ea,aI] using h))
 |_,_,.box b g off hb,h=>by simp[ea,aI]at h
 |_,_,.dU g off,_=>.dU g off
 |_,_,.elem sz es i off g o p cells C A N hi hp E,h=>.elem sz es i off g o p cells C (aN.iZ f A (by rw[pX];simpa only[ea,aI] using h)) (λj c s=>f _ _ _ (N j c s)) hi hp E
 |_,_,.func fn first r fs cs h1 h2,h=>by simp only[ea,aI,bR]at h;exact .func fn first r fs cs (aN.iZ f h1 h.1) (aN.iZ f h2 h.2)
 |_,_,.yield l g hl,h=>by simp[ea,aI]at h
 |_,_,.iface t x c hx,h=>by simp only[ea,aI]at h;exact .iface t x c (aV.iZ f hx h)
def aN.oG(r:bW K1 G ok w h2 w')(m:∀g j c,K1.ic g j=J c->K2.ic g j=J c)(f:∀g j c,K1.base<=g->w'.cell? ⟨g,j,ao⟩=J c->K2.ic g j=J c):
 ∀{xs:List I} {cs:List a_},aN K1 xs cs->aJ 0 0 0 (ja h2 xs)=aa->aN K2 (ja h2 xs) cs
 |_,_,.nil,_=>.nil
 |_,_,.cons x c xs cs A s,h=>by simp only[ja,aJ,bR]at h;exact .cons _ c _ cs (aV.oG r m f A h.1) (aN.oG r m f s h.2)
end
def bj.oT(K:bj)(n:Nat)(w:cC):bj:={K with ic:=λg j=>if g<n then K.ic g j else w.cell? ⟨g,j,ao⟩}
def bj.J8(s:bW K G ok w0 h w):K.Le (K.oT w.heap.size w'):=by
 refine⟨O,λg j c f=>?_,λ_ _ h=>h,λ_ _ h=>h,aT _,λ_ _=>rfl,λ_ h=>h,λ_ _=>rfl,λg j c f=>?_⟩
 .simp only[bj.oT,aC (s.w7 f),f]
 .simp only[bj.oT]at f;split at f
  .simp_all
  .exact .inr (by have:=s.size;omega)
def bW.oT(s:bW K G ok w0 h w)(b:Below w.heap.size w w'):bW (K.oT w.heap.size w') G ok w0 h w':=by
 have g:=s.grown b;have le:K.Le (K.oT w.heap.size w'):=bj.J8 s;refine⟨g.fM,g.size,λf j c r=>?_,λf cs hg=>?_,g.jd,g.oq,λY f cs E r=>?_,g.nb,g.pN,λl f z1 hl hr=>?_,g.tn,λt ht=>?_,g.oV,g.md,g.all⟩
 .simp only[bj.oT]at r;split at r
  .exact g.ic f j c r
  omega
 .obtain⟨cells,m,A⟩:=g.dU f cs hg;exact⟨cells,m.mono le,λj c N=>le.ic _ _ _ (A j c N)⟩
 .obtain⟨m,A,C,cells,e,D,q5⟩:=g.box Y f cs E r;obtain⟨-,-,-,B,e0,T,-⟩:=s.box Y f cs E r;refine⟨m,λj=>?_,C,cells,e,D,q5.mono le (aU.1 E).1⟩;simp only[bj.oT,aC (qw T)]
  grind
 .obtain⟨m,fn,X,d,A,C,D⟩:=g.loop l f z1 hl hr;exact⟨m,fn,X,d,A,C.mono le,D⟩
 .obtain⟨m,A,C,D⟩:=g.tok t ht;obtain⟨-,-,-,B,e0,z0,T,-⟩:=s.tok t ht;refine⟨m,A,λj N=>?_,D⟩;simp only[bj.oT,aC (qw T)];exact C j N
def bj.alone(K:bj)(n:Nat):bj:={K with base:=n,β:=[],γ:=[],tn:=0,md:=[]}
def bW.alone(s:bW K G ok w0 h w)(B:∀g cs,G g=J cs->aJ 0 0 0 cs=aa):bW (K.alone w.heap.size) G ok w ⟨[],[],0,[]⟩ w:=by
 refine⟨Below.refl _ _,aT _,s.ic,λg cs r=>?_,O,λb A g f=>by simp[bj.alone]at f,λb g cs f=>by simp_all,O,λb A g f=>by simp[bj.alone]at f,λl g T N=>by simp_all,O,λt m=>?_,λt X m=>?_,λT C=>by simp[bj.alone]at C,O⟩
 .obtain⟨cells,D,E⟩:=s.dU g cs r;exact⟨cells,aN.iZ (K1:=K) (K2:=K.alone w.heap.size) (λ_ _ _ h=>h) D (B g cs r),E⟩
 .simp[alive]at m
 .simp[alive]at m
def ZS2{p:Prop}(h:p:=by
 refine⟨E,λargs h x h' m K w A hv s cs=>?_⟩;unfold Q0 Q1 at m;split at m
 .rename_i hf;split at m
  .rename_i y h2 f;split at m
   .rename_i D;simp only[gq,eo,dw]at m;obtain⟨rfl,rfl⟩:=m;obtain⟨-,B⟩:=(LQ hp (r w)).call g _ _ _ _ f;have s0:=bW.alone s hG;obtain⟨K1,w',fr,le,C,Y,N,v,yF,X⟩:=B (K.alone w.heap.size) w A (aN.iZ (K1:=K) (K2:=K.alone w.heap.size) (λ_ _ _ h=>h) hv.hold hf) s0 cs;have hb:Below w.heap.size w w':=(by have:=C.fM;rwa [le.base]at this);refine⟨.returned v,w',fr,⟨v,_,O,bj.J8 s,Q2 (K2:=K.oT w.heap.size w') C (λg j c f=>?_) (λg j c T f=>?_) yF D,bW.oT s hb⟩,Y,N,X⟩
    .rcases le.new g j c f with q|q
     .have:g<w.heap.size:=s.w7 q;simp only[bj.oT,aC this];exact q
     .have q:w.heap.size<=g:=q;simp only[bj.oT,aL (ag:¬g<w.heap.size)];exact C.ic g j c f
    .have q:w.heap.size<=g:=(by rw[le.base]at T;exact T);simp only[bj.oT,aL (ag:¬g<w.heap.size)];exact f
   grind
  grind
 grind):p:=h
section
open AE renaming Ab->Q0,yN->Q1
open AE.aV renaming oG->Q2
def Nz{aO:bk->Option (List I->am->Option (I × am))}(hp:Prog P)(hG:∀g cs,G g=J cs->aJ 0 0 0 cs=aa)(r:∀z0 g p,aO g=J p->mo P G z0 g p)(E:∃fn,P.funcs[g]?=J fn/\fn.body.isSome=aa)(z0:cC):
 mo P G z0 g (Ab (whole P G aO) g):=ZS2
end
def mN(R:Rec)(L:List bk)(g:bk):Option (List I->am->Option (I × am)):=if L.contains g=aa then J (Ab R g) else ao
def tZ{aO:bk->Option (List I->am->Option (I × am))}(B:Prog P)(s:∀g cs,G g=J cs->aJ 0 0 0 cs=aa)(m:∀r g p,aO g=J p->mo P G r g p){L:List bk}(A:∀g∈L,∃fn,P.funcs[g]?=J fn/\fn.body.isSome=aa):
 ∀r g p,mN (whole P G aO) L g=some p->mo P G r g p:=by
 intro r g p f;unfold mN at f;split at f
 .rename_i C;injection f with f;subst f;exact Nz B s m (A g (by simp_all)) r
 grind
def bX{L:List bk}(s:L.contains g=aa)(f:bA args=A)(r:aJ 0 0 0 A=aa)(m:R.call g A ⟨[],[],0,[]⟩=J (.ret y,h'))(C:ea h' y=x)(B:aI 0 0 0 x=aa):
 ∀h,(whole P G (mN R L)).call g args h=J (.ret x,h):=by
 intro h;subst f;subst C;rw[tO];unfold mA mN;rw[aC s];simp only[Ab,yN,aC r,m,aC B,gq]
end
end
def QK(P:bO)(s d:aX):Bool:=
 match P.underlying s,P.underlying d with
 |some (.int _),J (.int _)=>aa
 |_,_=>ar
def Nw(P:bO)(ops:Array Oper)(L:List bk)(k:Nat):Bool:=
 match ops[k]? with
 |some o=>o.guard.isNone&&match o.op with
  | .call {callee:=.value (.func f),.. }=>L.contains f
  | .call {callee:=.builtin .max,.. }=>aa
  | .call {callee:=.builtin .min,.. }=>aa
  | .convert m d _=>QK P m d
  |_=>ar
 |none=>ar
def NA(P:bO)(ops:Array Oper)(L:List bk):List Nat:=(bE ops.size).filter (Nw P ops L)
section
variable {P:bO} {G:Nat->Option (List I)} {aO:bk->Option (List I->am->Option (I × am))} {Q:Xt->Env->am->Prop} {e:Env} {h:am} {L:List bk}
def nG(aO:bk->Option (List I->am->Option (I × am)))(L:List bk):Prop:=∀g∈L,∃q:List I->Option I,aO g=J λargs h=>(q args).map (·,h)
def t_:nG (mN R L) L:=λg f=>⟨yN R g,by unfold mN;rw[aC (by simp_all)];rfl⟩
def aoU(m:QK P s d=aa):∃q:Option I,∀f,lM P f s d x=q.map (·,f):=by
 unfold QK at m;split at m
 .rename_i r A h1 h2;unfold lM;simp only[h1,h2];cases x<;>first|exact⟨ao,λf=>rfl⟩|exact⟨_,λf=>rfl⟩
 grind
def afr{f:am}{ts:Array aX}:iQ P f .max ts ty xs=(match flatAll xs with|some l=>(eP P (Builtin.max_ ts ty l.toArray)).bind nC|none=>ao).map (·,f):=by rcases xs with _|⟨x,_|⟨y,xs⟩⟩<;>(unfold iQ;simp only[];cases flatAll _<;>rfl)
def afs{f:am}{ts:Array aX}:iQ P f .min ts ty xs=(match flatAll xs with|some l=>(eP P (Builtin.min_ ts ty l.toArray)).bind nC|none=>ao).map (·,f):=by rcases xs with _|⟨x,_|⟨y,xs⟩⟩<;>(unfold iQ;simp only[];cases flatAll _<;>rfl)
def Iv(T:o.guard=ao)(Y:ya o.op=aa)(B:∀A:Env,∃q:Option I,∀m,ec P G (whole P G aO) A m o=q.map λx=>(.ret x,A,m))
 (r:cg P G (whole P G aO) ops (bE ops.size) e h=J (.normal,E,h'))  (s:ops[k]?=J o):wx P G (whole P G aO) ops e h k:=by
 have f:k<ops.size:=(zD.1 s).1;obtain⟨-,N,st⟩:=trace r;obtain⟨D,-⟩:=st k f;obtain⟨q,C⟩:=B (dh P G (whole P G aO) ops e h k).1;unfold h_ at D;simp only[s,fC,T,C]at D;cases hx:q with|none=>simp_all|some x=>exact⟨o,x,_,_,s,Y,N k (mJ f),λz0 m=>⟨_,_,N z0 m,by simp_all⟩⟩
def U6(N:nG aO L){T:am}(r:cg P G (whole P G aO) ops (bE ops.size) e h=J (.normal,E,T))(s:Nw P ops L k=aa):wx P G (whole P G aO) ops e h k:=by
 unfold Nw at s;split at s
 .rename_i o C;simp only[bR,aem]at s;obtain⟨B,s⟩:=s;split at s
  .rename_i X args ts f;obtain⟨q,D⟩:=N X (by simp_all);refine Iv B (by rw[f];rfl) (λm=>⟨q (args.toList.map m.eval),λA=>?_⟩) r C;have:ec P G (whole P G aO) m A o=(lI P (whole P G aO) m A {callee:=.value (.func X),args,argTypes:=ts}).map λ(Y,h1)=>(Y,m,h1):=(by unfold ec;rw[f]);rw[this,U1,tO];unfold mA;rw[D];simp only[MT];rfl
  .rename_i args ts f;refine Iv B (by rw[f];rfl) (λm=>⟨match flatAll (args.toList.map m.eval) with|some l=>(eP P (Builtin.max_ ts o.type l.toArray)).bind nC|none=>ao,λA=>?_⟩) r C
   .unfold ec;simp only[f];show(iQ P A .max ts o.type (args.toList.map m.eval)).map _=_;rw[afr,MT];rfl
  .rename_i args ts f;refine Iv B (by rw[f];rfl) (λm=>⟨match flatAll (args.toList.map m.eval) with|some l=>(eP P (Builtin.min_ ts o.type l.toArray)).bind nC|none=>ao,λA=>?_⟩) r C
   .unfold ec;simp only[f];show(iQ P A .min ts o.type (args.toList.map m.eval)).map _=_;rw[afs,MT];rfl
  .rename_i z0 d x f;refine Iv B (by rw[f];rfl) (λm=>?_) r C;obtain⟨q,D⟩:=aoU (P:=P) (x:=m.eval x) s;refine⟨q,λA=>?_⟩;unfold ec;simp only[f,dH,D,MT];rfl
  grind
 grind
def jB(ps:List (Nat × Nat))(A:nG aO L)(B:Cj ops (NA P ops L) ps=aa)(E:∀p∈ps,j_ P G (whole P G aO) ops e h p.1 p.2=aa)
 (m:cQ P G (whole P G aO) ops ops.toList e h (vg Q)):bJ (whole P G aO) (.region id ops aa) e h Q:=by
 have r:=m;obtain⟨o,s,D,h1,h2⟩:=r;cases o with
 |normal=>
  have f:cg P G (whole P G aO) ops (bE ops.size) e h=J (.normal,s,D):=by rw[pF (aT _),<-nf,gu];exact h1
  exact R5 (N0 B (λk C=>U6 A f (rH.1 C).2) E) m
 |_=>exact h2.elim
def eI(f:nG aO L)(m:Cj ops (NA P ops L) []=aa)
 (s:cQ P G (whole P G aO) ops ops.toList e h (vg Q)):bJ (whole P G aO) (.region id ops aa) e h Q:=jB [] f m (λp r=>nomatch r) s
end
structure gp(S:List Nat)(n0:Nat)(h h':am):Prop where
 box:∀(c:Nat) (cs:List I),c∉S->h.V[c]?=J cs->h'.V[c]?=J cs
 len:h.V.length<=h'.V.length
 loop:∀(l:Nat) (r:iq),h.aB[l]?=J r->h'.aB[l]?=J r
 tn:h.tn<=h'.tn
 dead:∀n,n<n0->n∈h'.dead->n∈h.dead
 ok:cS h=aa->cS h'=aa
section
variable {S S':List Nat} {n0:Nat} {h0 h h' h2:am}
def gp.refl:gp S n0 h h:=⟨λ_ _ _ q=>q,aT _,λ_ _ q=>q,aT _,λ_ _ q=>q,λq=>q⟩
def gp.trans(m:gp S n0 h h')(k:gp S n0 h' h2):gp S n0 h h2:=
 ⟨λc cs f s=>k.box c cs f (m.box c cs f s),ff m.len k.len,λl A q=>k.loop l A (m.loop l A q),ff m.tn k.tn,λn r q=>m.dead n r (k.dead n r q),λq=>k.ok (m.ok q)⟩
def gp.mono(m:gp S n0 h h')(r:∀b∈S,b∈S'):gp S' n0 h h':=⟨λc cs f=>m.box c cs λq=>f (r c q),m.len,m.loop,m.tn,m.dead,m.ok⟩
def gp.put(r:b∈S)(cs:List I):gp S n0 h (h.put b cs):=
 ⟨λc m f q=>by rw[cG (λ(e:c=b)=>f (by simp_all))];exact q,by rw[jA];omega,λ_ _ q=>q,aT _,λ_ _ q=>q,λq=>q⟩
def gp.gg(m:gp S n0 h h')(s:F h.V<=b)(cs:List I):gp S n0 h (h'.put b cs):=
 ⟨λc f r q=>by have:=(aU.1 q).1;rw[cG ag];exact m.box c f r q,by rw[jA];exact m.len,m.loop,m.tn,m.dead,m.ok⟩
def gp.push(m:gp S n0 h h')(cs:List I):gp S n0 h (h'.push cs):=
 ⟨λc f r q=>aP (m.box c f r q),by rw[bP];exact ad9 m.len,m.loop,m.tn,m.dead,m.ok⟩
def gp.yO(m:gp S n0 h h')(r:iq):gp S n0 h (h'.loop r):=⟨m.box,m.len,λl q f=>ZC (m.loop l q f),m.tn,m.dead,m.ok⟩
def gp.eM(m:gp S n0 h h')(s:F h.aB<=l)(r:iq):gp S n0 h (h'.eM l r):=
 ⟨m.box,m.len,λk q f=>by have:=(aU.1 f).1;rw[abV ag];exact m.loop k q f,m.tn,m.dead,m.ok⟩
def gp.Bh(x:Ext h h')(s:n0<=h.tn):gp S n0 h h':=⟨λc cs _ f=>x.box c cs f,x.len,x.loop,x.tn,λn r m=>x.dead n (mK r s) m,x.ok⟩
def gp.uI{f:Nat}(m:gp S f h h')(A:n0<=f):gp S n0 h h':=⟨m.box,m.len,m.loop,m.tn,λn s r=>m.dead n (mK s A) r,m.ok⟩
def Ext.QD(x:Ext h0 h)(m:gp S h0.tn h h')(A:∀b∈S,F h0.V<=b):Ext h0 h':=
 ⟨λc cs q=>m.box c cs (λB=>by simp_all) (x.box c cs q),λl s q=>m.loop l s (x.loop l s q),ff x.tn m.tn,λn f r=>x.dead n f (m.dead n f r),λq=>m.ok (x.ok q)⟩
def Grown.QD{t:Tok}(g:Grown n0 h h' t):gp S n0 h h':=⟨λc cs _ q=>g.box c cs q,by
 rcases dR (F h'.V) (F h.V) with f|m
 .have h1:=g.box (F h'.V) _ (aW f);simp_all
 omega,g.loop,g.tn,g.dead,λ_=>g.ok⟩
end
section
variable {P:bO} {G:Nat->Option (List I)} {aO:bk->Option (List I->am->Option (I × am))} {H:am} {l:Nat} {rec:iq} {args:List I}
def atd{Post:am->Prop}(r:H.aB[l]?=J rec)(E:rec.params.size=F args)(f:rec.state=.ready)(C:rec.pending=ao)
 (B:bJ (whole P G aO) rec.assign (mG l rec args) H (λo m h1=>o=.normal/\h1=H/\bJ (whole P G aO) rec.body m (H.busy l rec) (λo _ h2=>o=.normal/\h2.aB=(H.busy l rec).aB/\Post {h2 with aB:=H.aB}))):
 ∃H',(whole P G aO).round l args H=J (.ret (.v (.bool aa)),H')/\H'.aB=H.aB/\Post H':=by
 obtain⟨o,m,h1,T,rfl,rfl,o2,A,h2,X,rfl,Y,q4⟩:=B;have s:=(aU.1 r).1;have hb:(h1.busy l rec).aB[l]?=J {rec with state:=.busy}:=by show(h1.aB.set l _)[l]?=_;simp[s]
 refine⟨{h2 with aB:=h1.aB},KL r E ⟨_,m,h1,T,O,rec,r,f,.normal,A,h2,X,{rec with state:=.busy},by simp_all,O,?_⟩,O,q4⟩;have D:{rec with state:=LoopState.ready,pending:=ao}=rec:=by cases rec;cases f;cases C;rfl
 have N:h2.aB.set l rec=h1.aB:=by
  rw[Y];show(h1.aB.set l _).set l rec=_;rw[List.set_set];apply List.ext_getElem?;intro k;rw[j'];split
  .simp_all
  .rfl
 simp_all
def GG{Post:am->Prop}(A:H.aB[l]?=J rec)(B:rec.params.size=F args)(f:rec.state=.ready)(s:rec.pending=ao)
 (r:bJ (whole P G aO) rec.assign (mG l rec args) H (λo m h1=>o=.normal/\h1=H/\bJ (whole P G aO) rec.body m (H.busy l rec) (λo _ h2=>o=.normal/\h2.aB=(H.busy l rec).aB/\Post {h2 with aB:=H.aB}))):
 ∃H',(whole P G aO).round l args H=J (.ret (.v (.bool aa)),H')/\Post H':=by
 obtain⟨H',C,_,D⟩:=atd A B f s r;simp_all
end
section
open Go.RowKit (Below)
def oR(z:Nat)(cs:List I)(off len:Nat):List (List I):=(bE len).map λi=>(cs.drop (off+i*z)).take z
def xj(z)(cs)(off):∀len,(oR z cs off len).flatten=(cs.drop off).take (len*z)
 |0=>by simp[oR]
 |n+1=>by
  have f:=xj z cs off n;unfold oR at *
  rw[jH,List.map_append,List.flatten_append,f,jt,Nat.one_mul,List.take_add,rF];simp
def RA(z)(cs)(off len):F (oR z cs off len)=len:=by unfold oR;simp
def RB{len}(h:off+len*z<=F cs):∀r∈oR z cs off len,F r=z:=by
 intro r m;unfold oR at m;obtain⟨i,f,rfl⟩:=List.mem_map.1 m;have f:=gb.1 f;have:(i+1)*z<=len*z:=mn _ f
 grind
mutual
def ig(z:Nat)(h:am):I->I
 | .ac k sz es=>.ac (cJ k) sz (pj z h es)
 | .arr b off len f=>match h.V[b]? with
  |some cs=>if off+len*z<=F cs/\0<z then .ac .held z (dV (oR z cs off len)) else .arr b off len f
  |none=>.arr b off len f
 | .tuple cs=>.tuple (iM z h cs)
 | .agg cs=>.agg (iM z h cs)
 | .iface t x=>.iface t (ig z h x)
 |x=>x
def iM(z:Nat)(h:am):List I->List I
 | []=>[]
 |x::f=>ig z h x::iM z h f
def pj(z:Nat)(h:am):List (List I)->List (List I)
 | []=>[]
 |r::f=>iM z h r::pj z h f
end
section
variable {z:Nat} {h:am}
def Wn:∀a b:List I,iM z h (a++b)=iM z h a++iM z h b
 | [],b=>rfl
 |x::a,b=>by rw[fw,iM,Wn a b,iM,fw]
def IZ:∀es:List (List I),(pj z h es).flatten=iM z h es.flatten
 | []=>rfl
 |r::es=>by rw[pj,mj,mj,Wn,IZ es]
def Wp:∀a:List I,F (iM z h a)=F a
 | []=>rfl
 |x::a=>by rw[iM,eR,Wp a,eR]
def Wr:∀a:List (List I),F (pj z h a)=F a
 | []=>rfl
 |x::a=>by rw[pj,eR,Wr a,eR]
def Ws:∀{es:List (List I)},(∀r∈es,F r=sz)->∀r∈pj z h es,F r=sz
 | [],_,r,f=>by cases f
 |a::es,m,r,f=>by
  rw[pj]at f;rcases gX.1 f with rfl|f
  .rw[Wp];simp_all
  .exact Ws (λr f=>m r (gi _ f)) r f
def ajQ(x:I):(ig z h x).dm=x.dm:=by
 cases x with
 |arr b off len f=>
  rw[ig];split
  .split<;>rfl
  .rfl
 |_=>rfl
def Wo:∀a:List I,(iM z h a).all I.dm=a.all I.dm
 | []=>rfl
 |x::a=>by rw[iM,Ew,ajQ,Wo a,Ew]
end
section
variable {P:bO} {G:Nat->Option (List I)} {ok:bk->Nat->Code->Bool} {w0 w w':cC} {K:bj} {h:am} {z:Nat}
def bj.still(K:bj)(w:cC):bj:={K with base:=w.heap.size,β:=[],γ:=[],tn:=0,md:=[],ic:=λg j=>w.cell? ⟨g,j,ao⟩}
def Ha(s:bW K G ok w0 h w):∀g j c,K.ic g j=J c->(K.still w).ic g j=J c:=s.ic
mutual
def aV.mz(s:bW K G ok w0 h w):∀{x:I} {c:a_},aV K x c->aI 0 0 0 (ig z h x)=aa->aV (K.still w) (ig z h x) c
 |_,_,.bad c,_=>.bad c
 |_,_,.v x hx,_=>.v x hx
 |_,_,.nil sz,_=>.nil sz
 |_,_,.gI sz a,_=>.gI sz a
 |_,_,.ac k sz es g off z0 r cells hn hr B hc ht ha,f=>by
  simp only[ig,aI,bR]at f;have A:=aN.mz s B (by rw[<-IZ,pX];grind);rw[<-IZ]at A;have Y:z0=F (pj z h es):=by rw[Wr];exact hn
  have N:(pj z h es).flatten.all I.dm=aa:=by rw[IZ,Wo];exact ha
  have yD:=Ws (z:=z) (h:=h) hr;have T:=λj c D=>s.ic _ _ _ (hc j c D);cases k with|nil=>exact ht.2.elim|aK=>exact .ac .aK sz _ g off z0 r cells Y yD A T ⟨ht.1,ht.2⟩ N|free i=>exact .ac .held sz _ g off z0 r cells Y yD A T ⟨ht.1,ba⟩ N|held=>exact .ac .held sz _ g off z0 r cells Y yD A T ⟨ht.1,ba⟩ N
 |_,_,.arr b g off len r m E hb hl qo ho hr,f=>by
  simp only[ig]at f ⊢;cases X:h.V[b]? with
  |none=>rw[X]at f;simp[aI]at f|some cs=>
   rw[X]at f;simp only at f ⊢;split at f
   .rename_i C;rw[aC C];obtain⟨C,hz⟩:=C;obtain⟨q1,q2,q3,cells,e,q4,q5⟩:=s.box b g cs hb X;have O':=q5.le;by_cases h0:r=0
    .have:len=0:=(by omega);subst this;exact .ac .held z [] g m 0 E [] O (λ_ h=>by cases h) .nil (λ_ _ h=>by grind) ⟨ck _,ba⟩ O
    .have AL:m=off:=(by simp_all);subst AL;have B:aN K ((cs.drop m).take (len*z)) (((cells.toList.take (F cs)).drop m).take (len*z)):=(q5.1.drop m).take (len*z);have A:=aN.iZ (K2:=K.still w) (Ha s) (aN.hold B) (by simp only[aI,bR]at f;have:=f.2;rw[<-pX,CV,xj]at this;omega);rw[<-xj,<-CV]at A;refine .ac .held z _ g m len E (((cells.toList.take (F cs)).drop m).take (len*z)) (by rw[FS,RA]) (JC (RB C)) A (λj c D=>?_) ⟨ag,ba⟩ ?_
     .have ue:j<len*z:=(by have:=(aU.1 D).1;rw[dF]at this;omega);rw[qb,aC ue,qM,qb,aC ag]at D;show w.cell? ⟨g,m+j,ao⟩=J c;rw[cell_of q4];simp_all
     .rw[CV,Pl,xj]
      grind
   .simp[aI]at f
 |_,_,.agg cs vs B,f=>.agg _ vs (aN.mz s B (by simpa only[ig,aI] using f))
 |_,_,.tuple cs vs B,f=>.tuple _ vs (aN.mz s B (by simpa only[ig,aI] using f))
 |_,_,.box b g off hb,f=>by simp[ig,aI]at f
 |_,_,.dU g off,_=>.dU g off
 |_,_,.elem sz es i off g o p cells hr B hc hi hp ha,f=>.elem sz es i off g o p cells hr (aN.iZ (Ha s) B (by rw[pX];simpa only[ig,aI] using f)) (λj c D=>s.ic _ _ _ (hc j c D)) hi hp ha
 |_,_,.func fn first r fs cs h1 h2,f=>by simp only[ig,aI,bR]at f;exact .func fn first r fs cs (aN.iZ (Ha s) h1 f.1) (aN.iZ (Ha s) h2 f.2)
 |_,_,.yield l g hl,f=>by simp[ig,aI]at f
 |_,_,.iface t x c hx,f=>by simp only[ig,aI]at f;exact .iface t _ c (aV.mz s hx f)
def aN.mz(s:bW K G ok w0 h w):∀{xs:List I} {cs:List a_},aN K xs cs->aJ 0 0 0 (iM z h xs)=aa->aN (K.still w) (iM z h xs) cs
 |_,_,.nil,_=>.nil
 |_,_,.cons x c xs cs r m,f=>by simp only[iM,aJ,bR]at f;exact .cons _ c _ cs (aV.mz s r f.1) (aN.mz s m f.2)
end
def bW.still(s:bW K G ok w0 h w)(B:∀g cs,G g=J cs->aJ 0 0 0 cs=aa):bW (K.still w) G ok w ⟨[],[],0,[]⟩ w:=by
 refine⟨Below.refl _ _,aT _,λg j c C=>C,λg cs r=>?_,O,λb A g f=>by simp[bj.still]at f,λb g cs f=>by simp_all,O,λb A g f=>by simp[bj.still]at f,λl g Y X=>by simp_all,O,λt m=>?_,λt t' m=>?_,λY E=>by simp[bj.still]at E,O⟩
 .obtain⟨cells,N,T⟩:=s.dU g cs r;exact⟨cells,aN.iZ (K1:=K) (K2:=K.still w) (Ha s) N (B g cs r),λj c D=>s.ic _ _ _ (T j c D)⟩
 .simp[alive]at m
 .simp[alive]at m
def IY(z:Nat)(R:Rec)(g:bk)(args:List I)(h:am):Option (I × am):=
 if aJ 0 0 0 (iM z h args)=aa then
  match R.call g (iM z h args) ⟨[],[],0,[]⟩ with
  |some (.ret (.v y),_)=>J (.v y,h)
  |_=>ao
 else ao
def ajR{aO:bk->Option (List I->am->Option (I × am))}(hp:Prog P)(hG:∀g cs,G g=J cs->aJ 0 0 0 cs=aa)(m:∀Y g p,aO g=J p->mo P G Y g p)(B:∃fn,P.funcs[g]?=J fn/\fn.body.isSome=aa)(Y:cC):
 mo P G Y g (IY z (whole P G aO) g):=by
 refine⟨B,λargs h x h' f K w s hv r cs=>?_⟩;unfold IY at f;split at f
 .rename_i hf;split at f
  .rename_i y h2 hc;injection f with f;injection f with T X;subst T;subst X;obtain⟨-,A⟩:=(LQ hp (m w)).call g _ _ _ _ hc;have s0:=bW.still r hG;obtain⟨K1,w',fr,le,s1,E,C,v,N,D⟩:=A (K.still w) w s (aN.mz r hv hf) s0 cs;have hb:Below w.heap.size w w':=(by have:=s1.fM;rwa [le.base]at this);refine⟨.returned v,w',fr,⟨v,_,O,bj.J8 r,?_,bW.oT r hb⟩,E,C,D⟩;cases N with|v _ q=>exact .v _ q
  grind
 grind
def yQ(z:Nat)(R:Rec)(L f:List bk)(g:bk):Option (List I->am->Option (I × am)):=if L.contains g=aa then J (Ab R g) else if f.contains g=aa then J (IY z R g) else ao
def aoy{aO:bk->Option (List I->am->Option (I × am))}(A:Prog P)(s:∀g cs,G g=J cs->aJ 0 0 0 cs=aa)(m:∀r g p,aO g=J p->mo P G r g p){L E:List bk}(B:∀g∈L,∃fn,P.funcs[g]?=J fn/\fn.body.isSome=aa)(C:∀g∈E,∃fn,P.funcs[g]?=J fn/\fn.body.isSome=aa):
 ∀r g p,yQ z (whole P G aO) L E g=some p->mo P G r g p:=by
 intro r g p f;unfold yQ at f;split at f
 .rename_i D;injection f with f;subst f;exact Nz A s m (B g (by simp_all)) r
 .split at f
  .rename_i D;injection f with f;subst f;exact ajR A s m (C g (by simp_all)) r
  grind
def gT{L D:List bk}(s:L.contains g=aa)(f:bA args=A)(r:aJ 0 0 0 A=aa)(m:R.call g A ⟨[],[],0,[]⟩=J (.ret y,h'))(C:ea h' y=x)(B:aI 0 0 0 x=aa):
 ∀h,(whole P G (yQ z R L D)).call g args h=J (.ret x,h):=by
 intro h;subst f;subst C;rw[tO];unfold mA yQ;rw[aC s];simp only[Ab,yN,aC r,m,aC B,gq]
def ajP{L B:List bk}{y:a_}{h:am}(C:L.contains g=ar)(s:B.contains g=aa)(f:iM z h args=A)(r:aJ 0 0 0 A=aa)(m:R.call g A ⟨[],[],0,[]⟩=J (.ret (.v y),h')):
 (whole P G (yQ z R L B)).call g args h=J (.ret (.v y),h):=by
 subst f;rw[tO];unfold mA yQ;rw[aL (by simp_all),aC s];simp only[IY,aC r,m];rfl
end
end
section
variable {P:bO} {G:Nat->Option (List I)} {aO:bk->Option (List I->am->Option (I × am))} {Q:Xt->Env->am->Prop} {e:Env} {h:am} {L:List bk} {R:Rec}
def apD{bi x1 x2:Nat}{T:Oper}{t1 t2:aX}{B C v1 v2:b9}(hn:ops.size-1=n)(f:ops[i]?=J o)(s:o.op=.store t1 B v1)(E:ops[n]?=J T)(A:T.op=.store t2 C v2)
 (h1:cQ P G R ops (ops.toList.take i) e h (λq m _=>q=.normal/\m.eval B=.ptr (.box bi) x1))
 (h2:cQ P G R ops (ops.toList.take n) e h (λq r _=>q=.normal/\r.eval C=.ptr (.box bn) x2)) (fH:bi≠bn):rt P G R ops e h i=aa:=by
 subst hn;have Y:i<ops.size:=(zD.1 f).1;obtain⟨q1,m,CN,D,rfl,X⟩:=h1;obtain⟨q2,r,Jx,f1,rfl,f2⟩:=h2;rw[<-pF (mJ Y)]at D;rw[<-pF ag]at f1;unfold rt;have p1:qC ops i m=J bi:=by unfold qC;rw[f];simp only[s,X]
 have p2:qC ops (ops.size-1) r=J bn:=by unfold qC;rw[E];simp only[A,f2]
 simp only[D,f1,p1,p2];cases hq:iJ bi bn with|false=>rfl|true=>simp_all
def auo(i:Nat)(C:nG aO L)(hi:Nat.blt i ops.size=aa)(r:DB ops i=aa)(D:Cj (gx ops i (ops.size-1)) (NA P (gx ops i (ops.size-1)) L) []=aa)
 (m:rt P G (whole P G aO) ops e h i=aa) (s:cQ P G (whole P G aO) ops ops.toList e h (vg Q)):bJ (whole P G aO) (.region id ops aa) e h Q:=by
 have hi:i<ops.size:=by simpa [Nat.blt_eq] using hi
 have A:=s;obtain⟨o,B,N,h1,h2⟩:=A;cases o with
 |normal=>
  have f:cg P G (whole P G aO) (gx ops i (ops.size-1)) (bE (gx ops i (ops.size-1)).size) e h=J (.normal,B,N):=by rw[qZ,Bj,pF (aT _),<-nf,gu];exact h1
  exact run_draw_stores (stores_of hi r m (N0 D (λk E=>U6 C f (rH.1 E).2) (λp T=>nomatch T))) s
 |_=>exact h2.elim
def ate{Post:Bool->am->Prop}{rec:iq}(r:H.aB[l]?=J rec)(B:rec.params.size=F args)(f:rec.state=.ready)(T:rec.pending=ao)
 (N:bJ (whole P G aO) rec.assign (mG l rec args) H (λo m h1=>o=.normal/\h1=H/\bJ (whole P G aO) rec.body m (H.busy l rec) (λo _ h2=>h2.aB[l]?=J {rec with state:=.busy}/\
  ((o=.normal/\Post aa (h2.eM l rec))∨(o=.ret/\Post ar (h2.eM l {rec with state:=.done,pending:=J .ret})))))):
 ∃b H',(whole P G aO).round l args H=J (.ret (.v (.bool b)),H')/\Post b H':=by
 obtain⟨o,m,h1,C,rfl,rfl,Y,A,h2,D,E,s⟩:=N;have X:{rec with state:=LoopState.ready,pending:=ao}=rec:=by cases rec;cases f;cases T;rfl
 rcases s with⟨rfl,s⟩|⟨rfl,s⟩
 .refine⟨aa,_,KL r B ⟨_,m,h1,C,O,rec,r,f,.normal,A,h2,D,{rec with state:=.busy},E,O,O⟩,?_⟩;show Post aa (h2.eM l {rec with state:=LoopState.ready,pending:=ao});simp_all
 .exact⟨ar,_,KL r B ⟨_,m,h1,C,O,rec,r,f,.ret,A,h2,D,{rec with state:=.busy},E,O,O⟩,s⟩
end
section
variable {P:bO} {G:Nat->Option (List I)} {R:Rec}
def ZT46{p:Prop}(h:p:=by
 rcases dR j ops.size with f|f
 .exact f
 .rw[S6 f]at m;cases m):p:=h
def avT{t:aX}{a:b9}(B:o7 ops i j=aa)(m:ops[j]?=J o)(r:o.op=.load t a)
 (A:(ops[i]?).map (λo=>iR o.op)=J .iP)  (hv:df v v=aa)
 (h1:cQ P G R ops (ops.toList.take j) e h (λq s E=>q=.normal/\fC ops s o=J aa/\s.eval a=x/\aF P G E t x=J v))
 (h2:cQ P G R ops (ops.toList.take i) e h (λq _ C=>q=.normal/\aF P G C t x=J v)):j_ P G R ops e h i j=aa:=by
 have hi:i<ops.size:=by
  rcases dR i ops.size with f|f
  .exact f
  .rw[S6 f]at A;cases A
 have XV:j<ops.size:=by
  exact ZT46
 have hc:(ops[j]?).map (λo=>iR o.op)=J .reads:=by rw[m];simp only[gq,r];rfl
 unfold j_;rw[B,hc,A];simp only[pP];unfold pK;rw[m,pF ag,pF ag];obtain⟨q1,s,E,T,rfl,N,X,Y⟩:=h1;obtain⟨q2,em,C,f1,rfl,f2⟩:=h2;rw[T,f1];simp only[N,r,X,Y,f2,hv]
def avU{t:aX}{a:b9}(A:o7 ops i j=aa)(m:ops[j]?=J o)(B:o.op=.load t a)
 (r:(ops[i]?).map (λo=>iR o.op)=J .iP)
 (h1:cQ P G R ops (ops.toList.take j) e h (λq s X=>q=.normal/\fC ops s o=J ar))
 (h2:cQ P G R ops (ops.toList.take i) e h (λq _ T=>q=.normal)):j_ P G R ops e h i j=aa:=by
 have hi:i<ops.size:=by
  rcases dR i ops.size with f|f
  .exact f
  .rw[S6 f]at r;cases r
 have Y:j<ops.size:=by
  exact ZT46
 have N:(ops[j]?).map (λo=>iR o.op)=J .reads:=by rw[m];simp only[gq,B];rfl
 unfold j_;rw[A,N,r];simp only[pP];unfold pK;rw[m,pF ag,pF ag];obtain⟨q1,s,X,E,rfl,C⟩:=h1;obtain⟨q2,em,T,f1,rfl⟩:=h2;rw[E,f1];simp only[C]
end
section
open Go.RowKit (Below)
mutual
def iU(z:Nat)(h:am):I->I
 | .ac k sz es=>.ac (cJ k) sz es
 | .arr b off len _=>match h.V[b]? with
  |some cs=>if off+len*z<=F cs/\0<z then .ac .held z (oR z cs off len) else .bad
  |none=>.bad
 | .tuple cs=>.tuple (oI z h cs)
 | .agg cs=>.agg (oI z h cs)
 |x=>x
def oI(z:Nat)(h:am):List I->List I
 | []=>[]
 |x::f=>iU z h x::oI z h f
end
section
variable {P:bO} {G:Nat->Option (List I)} {ok:bk->Nat->Code->Bool} {w0 w w':cC} {K K1 K2:bj} {h h2:am} {z:Nat}
mutual
def aV.iU(s1:bW K1 G ok w h2 w')(f:∀g j c,K1.ic g j=J c->K2.ic g j=J c)(B:∀g j c,K1.base<=g->w'.cell? ⟨g,j,ao⟩=J c->K2.ic g j=J c):
 ∀{x:I} {c:a_},aV K1 x c->aI 0 0 0 (iU z h2 x)=aa->aV K2 (iU z h2 x) c
 |_,_,.bad c,_=>.bad c
 |_,_,.v x hx,_=>.v x hx
 |_,_,.nil sz,_=>.nil sz
 |_,_,.gI sz a,_=>.gI sz a
 |_,_,.ac k sz es g off z0 r cells hn C A N X E,h=>by
  have hf:fX 0 0 0 es=aa:=by simp only[Go.AE.iU,aI,bR]at h;exact h.2
  have Y:aN K2 es.flatten cells:=aN.iZ f A (by rw[pX];exact hf);cases k with|nil=>exact X.2.elim|aK=>exact .ac .aK sz es g off z0 r cells hn C Y (λj c s=>f _ _ _ (N j c s)) ⟨X.1,X.2⟩ E|free i=>exact .ac .held sz es g off z0 r cells hn C Y (λj c s=>f _ _ _ (N j c s)) ⟨X.1,ba⟩ E|held=>exact .ac .held sz es g off z0 r cells hn C Y (λj c s=>f _ _ _ (N j c s)) ⟨X.1,ba⟩ E
 |_,_,.arr b g off len r m D hb hl qo ho C,h=>by
  simp only[Go.AE.iU]at h ⊢;cases jk:h2.V[b]? with
  |none=>exact .bad _|some cs=>
   rw[jk]at h;simp only at h ⊢;split at h
   .rename_i hz;rw[aC hz];have T:=hz.1;have hf:fX 0 0 0 (oR z cs off len)=aa:=(by simp only[aI,bR]at h;exact h.2);obtain⟨q1,q2,q3,cells,e,q4,q5⟩:=s1.box b g cs hb jk;have O':=q5.le;by_cases h0:r=0
    .have:len=0:=(by omega);subst this;exact .ac .held z [] g m 0 D [] O (λ_ h=>by cases h) .nil (λ_ _ h=>by grind) ⟨ck _,ba⟩ O
    .have AL:m=off:=(by simp_all);subst AL;have A:aN K1 ((cs.drop m).take (len*z)) (((cells.toList.take (F cs)).drop m).take (len*z)):=(q5.1.drop m).take (len*z);have nZ:F ((cs.drop m).take (len*z))=len*z:=(by rw[dF,fL];omega);refine .ac .held z _ g m len D (((cells.toList.take (F cs)).drop m).take (len*z)) (by rw[RA]) (RB T) ?_ (λj c s=>?_) ⟨ag,ba⟩ ?_
     .rw[xj];rw[<-pX,xj]at hf;exact aN.iZ f A hf
     .refine B _ _ _ q1 ?_;have ue:j<len*z:=(by have:=(aU.1 s).1;rw[dF]at this;omega);rw[qb,aC ue,qM,qb,aC ag]at s;rw[cell_of q4];simp_all
     .rw[xj]
      grind
   .rename_i T;rw[aL T];exact .bad _
 |_,_,.agg cs vs A,h=>.agg _ vs (aN.iU s1 f B A (by simpa only[Go.AE.iU,aI] using h))
 |_,_,.tuple cs vs A,h=>.tuple _ vs (aN.iU s1 f B A (by simpa only[Go.AE.iU,aI] using h))
 |_,_,.box b g off hb,h=>by simp[Go.AE.iU,aI]at h
 |_,_,.dU g off,_=>.dU g off
 |_,_,.elem sz es i off g o p cells C A N hi hp E,h=>.elem sz es i off g o p cells C (aN.iZ f A (by rw[pX];simpa only[Go.AE.iU,aI] using h)) (λj c s=>f _ _ _ (N j c s)) hi hp E
 |_,_,.func fn first r fs cs h1 h2,h=>by simp only[Go.AE.iU,aI,bR]at h;exact .func fn first r fs cs (aN.iZ f h1 h.1) (aN.iZ f h2 h.2)
 |_,_,.yield l g hl,h=>by simp[Go.AE.iU,aI]at h
 |_,_,.iface t x c hx,h=>by simp only[Go.AE.iU,aI]at h;exact .iface t x c (aV.iZ f hx h)
def aN.iU(r:bW K1 G ok w h2 w')(m:∀g j c,K1.ic g j=J c->K2.ic g j=J c)(f:∀g j c,K1.base<=g->w'.cell? ⟨g,j,ao⟩=J c->K2.ic g j=J c):
 ∀{xs:List I} {cs:List a_},aN K1 xs cs->aJ 0 0 0 (oI z h2 xs)=aa->aN K2 (oI z h2 xs) cs
 |_,_,.nil,_=>.nil
 |_,_,.cons x c xs cs A s,h=>by simp only[oI,aJ,bR]at h;exact .cons _ c _ cs (aV.iU r m f A h.1) (aN.iU r m f s h.2)
end
def ZB(z:Nat)(R:Rec)(g:bk)(args:List I):Option I:=
 if aJ 0 0 0 (bA args)=aa then
  match R.call g (bA args) ⟨[],[],0,[]⟩ with
  |some (.ret y,h2)=>if aI 0 0 0 (iU z h2 y)=aa then J (iU z h2 y) else ao
  |_=>ao
 else ao
def Ny(z:Nat)(R:Rec)(g:bk)(args:List I)(h:am):Option (I × am):=(ZB z R g args).map (·,h)
section
open AE renaming Ny->Q0,ZB->Q1
open AE.aV renaming iU->Q2
def agV{aO:bk->Option (List I->am->Option (I × am))}(hp:Prog P)(hG:∀g cs,G g=J cs->aJ 0 0 0 cs=aa)(r:∀z0 g p,aO g=J p->mo P G z0 g p)(E:∃fn,P.funcs[g]?=J fn/\fn.body.isSome=aa)(z0:cC):
 mo P G z0 g (Ny z (whole P G aO) g):=ZS2
end
def nu(R:Rec)(L:List bk)(Z:bk->Nat)(q:bk->Option (List I->am->Option (I × am)))(g:bk):Option (List I->am->Option (I × am)):=
 if L.contains g=aa then J (Ab R g) else match Z g with|0=>q g|z+1=>J (Ny (z+1) R g)
def Ka{aO:bk->Option (List I->am->Option (I × am))}(A:Prog P)(s:∀g cs,G g=J cs->aJ 0 0 0 cs=aa)(m:∀r g p,aO g=J p->mo P G r g p){L:List bk}{Z:bk->Nat}{q:bk->Option (List I->am->Option (I × am))}(B:∀g∈L,∃fn,P.funcs[g]?=J fn/\fn.body.isSome=aa)(C:∀g,Z g≠0->∃fn,P.funcs[g]?=J fn/\fn.body.isSome=aa)(E:∀r g p,q g=J p->mo P G r g p):
 ∀r g p,nu (whole P G aO) L Z q g=some p->mo P G r g p:=by
 intro r g p f;unfold nu at f;split at f
 .rename_i D;injection f with f;subst f;exact Nz A s m (B g (by simp_all)) r
 .split at f
  .simp_all
  .rename_i z N;injection f with f;subst f;exact agV A s m (C g ag) r
section
variable {R:Rec} {L:List bk} {Z:bk->Nat} {q:bk->Option (List I->am->Option (I × am))} {g:bk} {args A:List I} {x y:I} {h1:am}
def ZN(s:L.contains g=aa)(f:bA args=A)(r:aJ 0 0 0 A=aa)(m:R.call g A ⟨[],[],0,[]⟩=J (.ret y,h1))(C:ea h1 y=x)(B:aI 0 0 0 x=aa):
 ∀h,(whole P G (nu R L Z q)).call g args h=J (.ret x,h):=by
 intro h;subst f;subst C;rw[tO];unfold mA nu;rw[aC s];simp only[Ab,yN,aC r,m,aC B,gq]
def ZO{z:Nat}(D:L.contains g=ar)(C:Z g=z+1)(f:bA args=A)(r:aJ 0 0 0 A=aa)(m:R.call g A ⟨[],[],0,[]⟩=J (.ret y,h1))(B:iU (z+1) h1 y=x)(s:aI 0 0 0 x=aa):
 ∀h,(whole P G (nu R L Z q)).call g args h=J (.ret x,h):=by
 intro h;subst f;subst B;rw[tO];unfold mA nu;rw[aL (by simp_all),C];simp only[Ny,ZB,aC r,m,aC s,gq]
end
end
end
section
variable {P:bO} {G:Nat->Option (List I)} {R:Rec}
def agX(D:ops[k]?=J o)(B:o.op=.convert s d f)
 (h1:cQ P G R ops (ops.toList.take k) e h (λq src _=>q=.normal/\src.eval f=v))
 (h2:∀m,m<=ops.size->cQ P G R ops (ops.toList.take m) e h (λq _ r=>q=.normal/\lM P r s d v=J (x,r))):wx P G R ops e h k:=by
 have X:k<ops.size:=(zD.1 D).1;obtain⟨Y,src,T,C,rfl,E⟩:=h1;rw[<-pF ag]at C;refine⟨o,x,src,T,D,by rw[B];rfl,C,λm r=>?_⟩;obtain⟨q2,N,A,f1,rfl,f2⟩:=h2 m r;rw[<-pF r]at f1;refine⟨N,A,f1,?_⟩;unfold ec;rw[B];show(dH P G src.eval A (.convert s d f)).map _=_;show((lM P A s d (src.eval f))).map _=_;rw[E,f2];rfl
end
mutual
def nr:∀x:I,av (av x)=av x
 | .bad=>rfl
 | .v _=>rfl
 | .ac k sz es=>by rw[av,av,Pn es];cases k<;>rfl
 | .arr _ _ _ _=>rfl
 | .agg cs=>by rw[av,av,lh cs]
 | .tuple cs=>by rw[av,av,lh cs]
 | .ptr _ _=>rfl
 | .elem sz es i off=>by first|rfl|rw[av,av,Pn es]
 | .func f a b=>by first|rfl|rw[av,av,lh a,lh b]
 | .yield _=>rfl
 | .iface t x=>by first|rfl|rw[av,av,nr x]
def lh:∀l:List I,bA (bA l)=bA l
 | []=>rfl
 |x::l=>by rw[bA,bA,nr x,lh l]
def Pn:∀l:List (List I),dV (dV l)=dV l
 | []=>rfl
 |x::l=>by rw[dV,dV,lh x,Pn l]
end
mutual
def JX:∀x:I,ea h' (ea h x)=ea h x
 | .bad=>rfl
 | .v _=>rfl
 | .ac k sz es=>by rw[ea,ea];cases k<;>rfl
 | .arr b off len f=>by
  rw[ea];split
  .split
   .rfl
   .rfl
  .rfl
 | .agg cs=>by rw[ea,ea,PZ cs]
 | .tuple cs=>by rw[ea,ea,PZ cs]
 | .ptr _ _=>rfl
 | .elem _ _ _ _=>rfl
 | .func _ _ _=>rfl
 | .yield _=>rfl
 | .iface _ _=>rfl
def PZ:∀l:List I,ja h' (ja h l)=ja h l
 | []=>rfl
 |x::l=>by rw[ja,ja,JX x,PZ l]
end
structure cd(R:Rec)(g:bk)(a:List I)(y:I):Prop where
 call:∀h,R.call g a h=J (.ret y,h)
 held:bA a=a
 fit:aJ 0 0 0 a=aa
 oG:∀h,ea h y=y
 fits:aI 0 0 0 y=aa
section
variable {P:bO} {G:Nat->Option (List I)} {R:Rec} {L:List bk} {Z:bk->Nat} {q:bk->Option (List I->am->Option (I × am))} {g:bk} {a b:List I} {y:I}
def cd.of{h1:am}(m:∀h,R.call g a h=J (.ret x,h))(f:bA a=a)(r:aJ 0 0 0 a=aa)(A:∀h,ea h x=x)(s:aI 0 0 0 x=aa):cd R g a x:=⟨m,f,r,A,s⟩
def cd.up(c:cd R g a y)(f:L.contains g=aa):cd (whole P G (mN R L)) g a y:=
 ⟨bX f c.held c.fit (c.call _) (c.oG _) c.fits,c.held,c.fit,c.oG,c.fits⟩
def cd.mix(c:cd R g a y)(f:L.contains g=aa):cd (whole P G (nu R L Z q)) g a y:=
 ⟨ZN f c.held c.fit (c.call _) (c.oG _) c.fits,c.held,c.fit,c.oG,c.fits⟩
def cd.use(c:cd R g a y)(m:L.contains g=aa)(f:bA b=a):∀h,(whole P G (mN R L)).call g b h=J (.ret y,h):=
 bX m f c.fit (c.call _) (c.oG _) c.fits
def cd.new(A:R.call g a ⟨[],[],0,[]⟩=J (.ret x,h))(B:L.contains g=aa)(f:bA a=a)(m:aJ 0 0 0 a=aa)(s:ea h x=y)(r:aI 0 0 0 y=aa):cd (whole P G (mN R L)) g a y:=
 ⟨bX B f m A s r,f,m,λh1=>by rw[<-s];exact JX x,r⟩
def cd.Bg(A:R.call g a ⟨[],[],0,[]⟩=J (.ret x,h))(B:L.contains g=aa)(f:bA a=a)(m:aJ 0 0 0 a=aa)(s:ea h x=y)(r:aI 0 0 0 y=aa):cd (whole P G (nu R L Z q)) g a y:=
 ⟨ZN B f m A s r,f,m,λh1=>by rw[<-s];exact JX x,r⟩
end
end Go.AE
end
