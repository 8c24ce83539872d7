/-
  The engine, part 13: a region that draws, in any order.
-/
import Derived.Test.YtmdakolcndpjeaaGreatDoorWA
import Derived.RangeFuncRecord
import Derived.Laws.BitsLemmas
import Derived.ChangeArms
import Derived.OpenShut
import Derived.Carry
import Derived.ProofKit
import Derived.ChangeSame
open Go renaming Program->aQ,Value->aC,FuncId->bF,World->aT,TypeId->aE,Frame->cW,Operand->bI
open Bool renaming true->ab,and_eq_true->aL,or_eq_true->ly,not_true->KF,false_or->KE,false->ak,not_eq_true'->wM,false_eq_true->dP,true_or->uV,eq_iff_iff->uT
open Option renaming some->aa,map_some->cy,some.injEq->aY,getD_some->wQ,none->ah,bind_some->qZ,map_eq_some_iff->cn,map_none->Gq,isSome_none->De
open List renaming all_eq_true->dn,mem_range->fP,range->bt,range_zero->Si,mem_cons_of_mem->dG,mem_cons->fe,countP_cons_of_neg->RR,countP_cons_of_pos->KO,mem_cons_self->dQ,countP_eq_zero->KP,reverse_nil->Sj,mem_filter->As,mem_of_getElem?->ie,reverse_singleton->KX,singleton_append->KY,countP_le_length->KQ,getElem?_eq_some_iff->aF,getElem?_eq_getElem->cv,getElem?_set->tG,getElem?_toArray->iB,cons_append->bR,range_succ->u0,getElem?_mapIdx->yv,find?_some->RY,cons.injEq->C4,mem_append_left->C9,mem_append->oZ,any_eq_true->KL,mapM_cons->Sa,drop_zero->fc,range_eq_range'->Sh,mem_append_right->Se
open Array renaming getElem?_eq_some_iff->wK,all_eq_true->uQ,getElem_of_mem->F9,getElem_mem->F8,getElem?_eq_getElem->fW,getElem?_setIfInBounds->r9,replicate->wL,getD_eq_getD_getElem?->tA,getElem?_replicate->An,getElem?_toList->sd,all_eq_true'->F6,mem_push->Gb,any_eq_true'->Rm,size->Rp
open Nat renaming eq_of_beq_eq_true->iK,lt_trans->lZ,le_of_lt->mG,zero_le->cz,le_zero->Av,lt_or_ge->dp,le_antisymm->fF,lt_succ_self->Dc,lt_succ_of_lt->Aw,not_succ_le_self->Sw,lt_of_le_of_ne->Sr,lt_succ_iff->tI,le_trans->cY,lt_of_lt_of_le->lY,not_lt_zero->ik,le_refl->aK,mod_lt->K6,strongRecOn->wP,beq_refl->Db,le_max_left->lX,le_max_right->nk,beq->ij,mul_one->qj
open Prod renaming mk.injEq->aW
set_option linter.unusedSimpArgs false
set_option linter.unusedVariables false
set_option linter.constructorNameAsVariable false
set_option linter.defProp false
section
namespace Go.AE
section
variable {P:aQ} {G:Nat->Option (List AV)} {R:Rec} {ops:Array Oper}
def Ord(b:Array Nat)(i j:Nat):Prop:=(b.getD j 0).testBit i=ab
structure Fits(P:aQ)(G:Nat->Option (List AV))(R:Rec)(ops:Array Oper)(e:Env)(h:ae)(b:Array Nat):Prop where
 tS:∀(j:Nat) (o:Oper),ops[j]?=aa o->∀ed∈o.after,Region.binds .any ed=ab->ed.on<j
 bits:∀(j i:Nat) (o:Oper),ops[j]?=aa o->i<ops.size->Ord b i j->∃ed∈o.after,Region.binds .any ed=ab/\(ed.on=i∨Ord b i ed.on)
 pair:∀i j:Nat,i<j->j<ops.size->Ord b i j∨uE ops i j=ab∨hZ P G R ops e h i j=ab∨(kQ ops i j=ab/\(jJ P G R ops e h i=ab∨jJ P G R ops e h j=ab))
def pw{e:Env}{h:ae}(hf:gN P G R ops e h=ab):Fits P G R ops e h (Region.before ops):=by
 unfold gN at hf;simp only[aL,dn,fP,ly] at hf;obtain⟨hb,hp⟩:=hf;unfold wW at hb;simp only[dn,fP] at hb;refine⟨λj o ho ed cG cP=>?_,λj i o ho hi jv=>?_,λi j jv hj=>?_⟩
 ·have hj:j<ops.size:=(wK.1 ho).1;have:=hb j hj;simp only[ho,aL,uQ] at this;obtain⟨q,hq,rfl⟩:=F9 cG;have:=this.1 q hq;simpa [cP] using this
 ·have hj:j<ops.size:=(wK.1 ho).1;have:=hb j hj;simp only[ho,aL,dn,fP] at this;have:=this.2 i hi;unfold Ord at jv;rw[jv] at this;simp only[KF,KE,Array.any_eq_true,aL,ly] at this;obtain⟨q,hq,h1,h2⟩:=this;exact⟨o.after[q],F8 hq,h1,h2.imp (λh=>iK h) id⟩
 ·rcases hp j hj i jv with((h|h)|h)|h
  ·exact .inl h
  ·exact .inr (.inl h)
  ·exact .inr (.inr (.inl h))
  ·exact .inr (.inr (.inr (by simpa using h)))
variable {e:Env} {h:ae} {b:Array Nat}
def Fits.apart(F:Fits P G R ops e h b){i j:Nat}(jv:i<j)(hj:j<ops.size)(hn:¬Ord b i j){x y:Oper}(hx:ops[i]?=aa x)(hy:ops[j]?=aa y):
 x.apart ops y=ab/\y.apart ops x=ab:=by
 rcases F.pair i j jv hj with h|h|h|⟨h,-⟩
 ·exact absurd h hn
 ·unfold uE at h;simp only[hx,hy,aL] at h;exact⟨h.1.2,h.2⟩
 ·unfold hZ kQ at h;simp only[hx,hy,aL] at h;exact h.1
 ·unfold kQ at h;simp only[hx,hy,aL] at h;exact h
def xc{i:Nat}{x:Oper}(hx:ops[i]?=some x):lE ops i=gG x.op:=by simp[lE,hx]
def AK{i:Nat}(hi:iN P G R ops e h i=.fp):lE ops i=.fp/\jJ P G R ops e h i=ak:=by
 unfold iN at hi;split at hi
 ·cases hi
 ·rename_i hc;exact⟨hi,by simpa using hc⟩
def Fits.fp(F:Fits P G R ops e h b){i j:Nat}(jv:i<j)(hj:j<ops.size)(hi:iN P G R ops e h i=.fp)(ob:iN P G R ops e h j=.fp):Ord b i j:=by
 have hx:ops[i]?=aa ops[i]:=fW (lZ jv hj);have hy:ops[j]?=aa ops[j]:=fW hj;obtain⟨hi,ci⟩:=AK hi;obtain⟨ob,cj⟩:=AK ob;rw[xc hx] at hi;rw[xc hy] at ob;rcases F.pair i j jv hj with h|h|h|⟨-,h⟩
 ·exact h
 ·unfold uE at h;simp only[hx,hy,aL] at h;rw[hi,ob] at h;simp[ED] at h
 ·unfold hZ at h;simp only[hx,hy,aL,cy] at h;rw[hi,ob] at h;simp at h
 ·rw[ci,cj] at h;simp at h
def Fits.aeP(F:Fits P G R ops e h b){i j:Nat}(jv:i<j)(hj:j<ops.size)(hn:¬Ord b i j)(hi:lE ops i=.reads)(ci:jJ P G R ops e h i=ak)(ob:iN P G R ops e h j=.fp):lq P G R ops e h i (j+1)=ab:=by
 have hx:ops[i]?=aa ops[i]:=fW (lZ jv hj);have hy:ops[j]?=aa ops[j]:=fW hj;obtain⟨ob,cj⟩:=AK ob;rw[xc hx] at hi;rw[xc hy] at ob;rcases F.pair i j jv hj with h|h|h|⟨-,h⟩
 ·exact absurd h hn
 ·unfold uE at h;simp only[hx,hy,aL] at h;rw[hi,ob] at h;simp[ED] at h
 ·unfold hZ at h;simp only[hx,hy,aL,cy] at h;rw[hi,ob] at h;exact h.2
 ·rw[ci,cj] at h;simp at h
def Fits.aeQ(F:Fits P G R ops e h b){i j:Nat}(jv:i<j)(hj:j<ops.size)(hn:¬Ord b i j)(hi:iN P G R ops e h i=.fp)(ob:lE ops j=.reads)(cj:jJ P G R ops e h j=ak):lq P G R ops e h j i=ab:=by
 have hx:ops[i]?=aa ops[i]:=fW (lZ jv hj);have hy:ops[j]?=aa ops[j]:=fW hj;obtain⟨hi,ci⟩:=AK hi;rw[xc hx] at hi;rw[xc hy] at ob;rcases F.pair i j jv hj with h|h|h|⟨-,h⟩
 ·exact absurd h hn
 ·unfold uE at h;simp only[hx,hy,aL] at h;rw[hi,ob] at h;simp[ED] at h
 ·unfold hZ at h;simp only[hx,hy,aL,cy] at h;rw[hi,ob] at h;exact h.2
 ·rw[ci,cj] at h;simp at h
def aeT{r m n:Nat}{e':Env}{h':ae}(N:aG P G R ops (bt n) e h=aa (.normal,e',h'))(hr:r<n)(hm:m<=n)(hs:lq P G R ops e h r m=ab)(hc:lE ops r=.reads):
 Reads P G R ops r (bJ P G R ops e h r).1 (qW P G R ops e h r).1 (bJ P G R ops e h m).2:=by
 obtain⟨-,tr,st⟩:=trace N;obtain⟨bC,-⟩:=st r hr;obtain⟨-,-,jx,-⟩:=Qz hc bC;intro o ho hw;refine⟨λt a kU=>?_,λey=>?_⟩
 ·have hold:=(jx o ho hw).1 t a kU;unfold lq at hs;rw[ho,tr r (mG hr),tr m hm] at hs;simp only[hw,kU] at hs;rw[hold] at hs;split at hs
  ·rename_i x y hx hy;injection hx with hx;subst hx;rw[JX hs];exact hy
  ·cases hs
 ·obtain⟨t,a,kU⟩:=Pv (show gG o.op=.reads by rw[<-xc ho];exact hc);rw[kU] at ey;exact absurd ey (by simp[w8])
def UI{k:Nat}:jJ P G R ops e h k=ab↔G2 P G R ops e h k:=by unfold jJ;exact @decide_eq_true_iff _ (Classical.propDecidable _)
def LX{n k:Nat}{e':Env}{h':ae}(N:aG P G R ops (bt n) e h=aa (.normal,e',h'))(hn:n=ops.size)(hk:k<n)(hc:jJ P G R ops e h k=ab):
 ∃o x,ops[k]?=aa o/\w8 o.op=ab/\∀m,m<=n->cA P G R (bJ P G R ops e h k).1 (bJ P G R ops e h m).2 o=aa (.ret x,(bJ P G R ops e h k).1,(bJ P G R ops e h m).2):=by
 obtain⟨-,tr,-⟩:=trace N;obtain⟨o,x,er,hr,ho,aR,e1,cH⟩:=UI.1 hc;refine⟨o,x,ho,aR,λm hm=>?_⟩;obtain⟨em,nz,e2,oa⟩:=cH m aj;have q1:=tr k (mG hk);have q2:=tr m hm;rw[e1] at q1;rw[e2] at q2;injection q1 with q1;injection q2 with q2;have a1:er=(bJ P G R ops e h k).1:=by have:=congrArg (λz=>z.2.1) q1;exact this
 have a2:nz=(bJ P G R ops e h m).2:=by have:=congrArg (λz=>z.2.2) q2;exact this
 rw[<-a1,<-a2];exact oa
def QA{k:Nat}{e':Env}{h':ae}(N:aG P G R ops (bt ops.size) e h=aa (.normal,e',h'))(hk:k<ops.size)(hc:iN P G R ops e h k=.reads){e1:Env}{h1:ae}{x:AV}
 (hs:eR P G R ops k (bJ P G R ops e h k).1 (bJ P G R ops e h k).2=aa (x,e1,h1)):
 e1=(bJ P G R ops e h k).1/\h1=(bJ P G R ops e h k).2/\Reads P G R ops k (bJ P G R ops e h k).1 x (bJ P G R ops e h k).2/\
  ∀e2 h2,(∀o,ops[k]?=aa o->Alike ops (bJ P G R ops e h k).1 e2 o)->Reads P G R ops k (bJ P G R ops e h k).1 x h2->eR P G R ops k e2 h2=aa (x,e2,h2):=by
 unfold iN at hc;split at hc
 ·rename_i vr;obtain⟨o,y,ho,aR,cH⟩:=LX N rfl hk vr;have h0:=cH k (mG hk);obtain⟨a1,a2,a3,a4⟩:=Qx ho aR h0 hs;refine⟨a1,a2,λo' fK hw=>?_,a4⟩;rw[ho] at fK;injection fK with fK;subst fK;refine⟨λt a kU=>(by rw[kU] at aR;cases aR),λ_=>?_⟩;rw[a3 hw];exact h0
 ·exact Qz hc hs
def QB{k m:Nat}{e':Env}{h':ae}(N:aG P G R ops (bt ops.size) e h=aa (.normal,e',h'))(hk:k<ops.size)(hm:m<=ops.size)(hc:iN P G R ops e h k=.reads)
 (hs:lE ops k=.reads->jJ P G R ops e h k=ak->lq P G R ops e h k m=ab):
 Reads P G R ops k (bJ P G R ops e h k).1 (qW P G R ops e h k).1 (bJ P G R ops e h m).2:=by
 by_cases vr:jJ P G R ops e h k=ab
 ·obtain⟨-,tr,st⟩:=trace N;obtain⟨bC,-⟩:=st k hk;obtain⟨o,y,ho,aR,cH⟩:=LX N rfl hk vr;obtain⟨-,-,a3,-⟩:=Qx ho aR (cH k (mG hk)) bC;intro o' fK hw;rw[ho] at fK;injection fK with fK;subst fK;refine⟨λt a kU=>(by rw[kU] at aR;cases aR),λ_=>?_⟩;rw[a3 hw];exact cH m hm
 ·have vr:jJ P G R ops e h k=ak:=by simpa using vr
  have hc:lE ops k=.reads:=by unfold iN at hc;rw[vr] at hc;simpa using hc
  exact aeT N hk hm (hs hc vr) hc
def L5{k:Nat}(hc:iN P G R ops e h k=.pure):lE ops k=.pure:=by
 unfold iN at hc;split at hc
 ·cases hc
 ·exact hc
structure Inv(P:aQ)(G:Nat->Option (List AV))(R:Rec)(ops:Array Oper)(e:Env)(h:ae)(b:Array Nat)(S:Nat->Bool)(e1:Env)(h1:ae):Prop where
 closed:∀i j,i<ops.size->j<ops.size->S j=ab->Ord b i j->S i=ab
 dN:∀t,e1.get t=val P G R ops e h S ops.size t
 round:e1.round=e.round
 mem:∃m,m<=ops.size/\e1.defers=(bJ P G R ops e h m).1.defers/\e1.aX=(bJ P G R ops e h m).1.aX/\h1=(bJ P G R ops e h m).2/\
  (∀a,a<m->iN P G R ops e h a=.fp->S a=ab)/\∀a,m<=a->a<ops.size->iN P G R ops e h a=.fp->S a=ak
variable {e':Env} {h':ae}
def FW(N:aG P G R ops (bt ops.size) e h=aa (.normal,e',h'))(t:Nat):∀k,k<=ops.size->(bJ P G R ops e h k).1.get t=val P G R ops e h (λ_=>ab) k t:=by
 obtain⟨-,tr,st⟩:=trace N;intro k
 induction k with
 |zero=>intro _;have:=tr 0 (cz _);simp only[Si,aG,aY,aW,true_and] at this;rw[<-this.1];rfl|succ k ih=>
  intro hk;obtain⟨hs,hn⟩:=st k hk;rw[hn,tc];simp only[val,true_and];split
  ·rfl
  ·rw[<-ih (mG hk)];have:=(J9 (e2:=e) hs).1;rw[this];rfl
def Ko(N:aG P G R ops (bt ops.size) e h=aa (.normal,e',h')):∀k,k<=ops.size->(bJ P G R ops e h k).1.round=e.round:=by
 obtain⟨-,tr,st⟩:=trace N;intro k
 induction k with
 |zero=>intro _;have:=tr 0 (cz _);simp only[Si,aG,aY,aW,true_and] at this;rw[<-this.1]|succ k ih=>intro hk;obtain⟨hs,hn⟩:=st k hk;rw[hn,(rO _ _ _).2.2,(J9 (e2:=e) hs).1];exact ih (mG hk)
def UM(N:aG P G R ops (bt ops.size) e h=aa (.normal,e',h')){k:Nat}(hk:k<ops.size)(hc:iN P G R ops e h k≠ .fp):
 (bJ P G R ops e h (k+1)).1.defers=(bJ P G R ops e h k).1.defers/\(bJ P G R ops e h (k+1)).1.aX=(bJ P G R ops e h k).1.aX/\(bJ P G R ops e h (k+1)).2=(bJ P G R ops e h k).2:=by
 obtain⟨-,tr,st⟩:=trace N;obtain⟨hs,hn⟩:=st k hk;have key:(qW P G R ops e h k).2=(bJ P G R ops e h k).1/\(bJ P G R ops e h (k+1)).2=(bJ P G R ops e h k).2:=by
  cases hq:iN P G R ops e h k with
  |pure=>obtain⟨h1,h2,-⟩:=Ka (L5 hq) hs;exact⟨h1,h2⟩
  |reads=>obtain⟨h1,h2,-⟩:=QA N hk hq hs;exact⟨h1,h2⟩
  |fp=>exact absurd hq hc
 rw[hn,(rO _ _ _).1,(rO _ _ _).2.1,key.1];exact⟨rfl,rfl,key.2⟩
def zS(N:aG P G R ops (bt ops.size) e h=aa (.normal,e',h')){m:Nat}:∀k,m<=k->k<=ops.size->
 ((bJ P G R ops e h m).1.defers=(bJ P G R ops e h k).1.defers/\(bJ P G R ops e h m).1.aX=(bJ P G R ops e h k).1.aX/\(bJ P G R ops e h m).2=(bJ P G R ops e h k).2)∨
 (∃a,m<=a/\a<k/\iN P G R ops e h a=.fp/\(bJ P G R ops e h m).2=(bJ P G R ops e h a).2)/\∃a,m<=a/\a<k/\iN P G R ops e h a=.fp/\(bJ P G R ops e h (a+1)).2=(bJ P G R ops e h k).2:=by
 intro k
 induction k with
 |zero=>intro hm _;have:m=0:=Av.1 hm;subst this;exact .inl ⟨rfl,rfl,rfl⟩|succ k ih=>
  intro hm hk;rcases dp k m with ay|dy
  ·have:m=k+1:=fF hm ay;subst this;exact .inl ⟨rfl,rfl,rfl⟩
  ·have qB:k<=ops.size:=mG hk;by_cases hc:iN P G R ops e h k=.fp
   ·refine .inr ⟨?_,k,dy,Dc k,hc,rfl⟩;rcases ih dy qB with h1|⟨⟨a,h1,h2,h3,h4⟩,-⟩
    ·exact⟨k,dy,Dc k,hc,h1.2.2⟩
    ·exact⟨a,h1,Aw h2,h3,h4⟩
   ·obtain⟨c1,c2,c3⟩:=UM N hk hc;rcases ih dy qB with h1|⟨⟨a,h1,h2,h3,h4⟩,a2,g1,g2,g3,g4⟩
    ·exact .inl ⟨h1.1.trans c1.symm,h1.2.1.trans c2.symm,h1.2.2.trans c3.symm⟩
    ·exact .inr ⟨⟨a,h1,Aw h2,h3,h4⟩,a2,g1,Aw g2,g3,g4.trans c3.symm⟩
def val_congr{S S':Nat->Bool}{t:Nat}:∀k,(∀w,w<k->eT ops w=aa t->S w=S' w)->val P G R ops e h S k t=val P G R ops e h S' k t:=by
 intro k
 induction k with
 |zero=>intro _;rfl|succ k ih=>
  intro hw;simp only[val];rw[ih λw Es hd=>hw w (Aw Es) hd];by_cases hd:eT ops k=aa t
  ·rw[hw k (Dc k) hd]
  ·simp[hd]
def CQ{S:Nat->Bool}{t k:Nat}:∀n,k<=n->(∀w,k<=w->w<n->eT ops w=aa t->S w=ak)->val P G R ops e h S n t=val P G R ops e h S k t:=by
 intro n
 induction n with
 |zero=>intro hk _;rw[Av.1 hk]|succ n ih=>
  intro hk hw;rcases dp n k with ay|dy
  ·rw[fF hk ay]
  ·simp only[val];rw[ax λhq=>by have:=hw n dy (Dc n) hq.2;rw[hq.1] at this;cases this];exact ih dy λw h1 h2 h3=>hw w h1 (Aw h2) h3
def vi{i:Nat}{x:Oper}(hx:ops[i]?=aa x):eT ops i=x.dst:=by simp[eT,hx]
def Fits.agi(F:Fits P G R ops e h b){i j t:Nat}(jv:i<j)(hj:j<ops.size)(hi:eT ops i=aa t)(Nn:eT ops j=aa t):Ord b i j:=by refine Classical.byContradiction λhn=>?_;have hx:ops[i]?=aa ops[i]:=fW (lZ jv hj);have hy:ops[j]?=aa ops[j]:=fW hj;have ha:=(Oper.apart_spec (F.apart jv hj hn hx hy).1).2.1;rw[vi hx] at hi;rw[vi hy] at Nn;exact ha t hi Nn
def Fits.looks(F:Fits P G R ops e h b){i j t:Nat}(jv:i<j)(hj:j<ops.size){x y:Oper}(hx:ops[i]?=aa x)(hy:ops[j]?=aa y)
 (hl:(x.dst=aa t/\t∈y.looksAt ops)∨(y.dst=aa t/\t∈x.looksAt ops)):Ord b i j:=by
 refine Classical.byContradiction λhn=>?_;have ha:=Oper.apart_spec (F.apart jv hj hn hx hy).1;rcases hl with⟨h1,h2⟩|⟨h1,h2⟩
 ·exact ha.1 t h1 h2
 ·exact ha.2.2 t h1 h2
def il(ops:Array Oper)(S:Nat->Bool)(k:Nat):Prop:=∀o,ops[k]?=aa o->∀ed∈o.after,Region.binds .any ed=ab->S ed.on=ab
def bj(S:Nat->Bool)(k:Nat):Nat->Bool:=λj=>if j=k then ab else S j
def next(N:aG P G R ops (bt ops.size) e h=aa (.normal,e',h'))(F:Fits P G R ops e h b){S:Nat->Bool}{e1:Env}{h1:ae}(I:Inv P G R ops e h b S e1 h1){k:Nat}(hk:k<ops.size)
 (hu:S k=ak) (hr:il ops S k):∃x e2 h2,eR P G R ops k e1 h1=aa (x,e2,h2)/\Inv P G R ops e h b (bj S k) (e2.put (eT ops k) x) h2:=by
 obtain⟨-,tr,st⟩:=trace N;have ho:ops[k]?=aa ops[k]:=fW hk;have ahead:∀i,i<ops.size->Ord b i k->S i=ab:=by
  intro i hi vx;obtain⟨ed,cG,cP,hq⟩:=F.bits k i _ ho hi vx;have hs:=hr _ ho ed cG cP;have ay:=F.tS k _ ho ed cG cP;rcases hq with rfl|hq
  ·exact hs
  ·exact I.closed i ed.on hi (lZ ay hk) hs hq
 have alike:∀o,ops[k]?=aa o->Alike ops (bJ P G R ops e h k).1 e1 o:=by
  intro o fK t ht;rw[ho] at fK;injection fK with fK;subst fK;rw[I.dN t,FW N t k (mG hk),CQ (k:=k) ops.size (mG hk)]
  ·refine val_congr k λw hw hd=>?_;have hx:ops[w]?=aa ops[w]:=fW (lZ hw hk);rw[vi hx] at hd;exact(ahead w (lZ hw hk) (F.looks hw hk hx ho (.inl ⟨hd,ht⟩))).symm
  ·intro w xv hw hd;rcases dp k w with ay|dy
   ·cases hq:S w with|false=>rfl|true=>have hx:ops[w]?=aa ops[w]:=fW hw;rw[vi hx] at hd;have:=I.closed k w hk hw hq (F.looks ay hw ho hx (.inr ⟨hd,ht⟩));rw[hu] at this;cases this
   ·rw[fF dy xv,hu]
 obtain⟨hs,hn⟩:=st k hk;obtain⟨m,hm,hd,hp,hh,vn,oG⟩:=I.mem;have closed':∀i j,i<ops.size->j<ops.size->bj S k j=ab->Ord b i j->bj S k i=ab:=by
  intro i j hi hj Im jv;unfold bj at Im ⊢;by_cases vx:i=k
  ·rw[aB vx]
  ·rw[ax vx];by_cases Nl:j=k
   ·subst Nl;exact ahead i hi jv
   ·rw[ax Nl] at Im;exact I.closed i j hi hj Im jv
 have slots':∀(e2:Env),(∀t,e2.get t=e1.get t)->∀t,(e2.put (eT ops k) (qW P G R ops e h k).1).get t=val P G R ops e h (bj S k) ops.size t:=by
  intro e2 Yb t;rw[tc];by_cases Be:eT ops k=aa t
  ·rw[aB Be,CQ (k:=k+1) ops.size hk]
   ·simp[val,bj,Be]
   ·intro w xv hw pE;have bL:w≠k:=λhq=>absurd xv (by rw[hq];exact Sw k);simp only[bj,ax bL];cases hq:S w with|false=>rfl|true=>have:=I.closed k w hk hw hq (F.agi xv hw Be pE);rw[hu] at this;cases this
  ·rw[ax Be,Yb,I.dN t];refine val_congr _ λw _ pE=>?_;have bL:w≠k:=λhq=>Be (hq ▸ pE);simp only[bj,ax bL]
 by_cases hc:iN P G R ops e h k=.fp
 ·-- it fp
  have Ny:m<=k:=by
   rcases dp k m with ay|dy
   ·have:=vn k ay hc;rw[hu] at this;cases this
   ·exact dy
  have same:=zS N k Ny (mG hk);have same:(bJ P G R ops e h m).1.defers=(bJ P G R ops e h k).1.defers/\(bJ P G R ops e h m).1.aX=(bJ P G R ops e h k).1.aX/\(bJ P G R ops e h m).2=(bJ P G R ops e h k).2:=by
   rcases same with h1|⟨⟨a,g1,g2,g3,-⟩,-⟩
   ·exact h1
   ·have h1:=oG a g1 (lZ g2 hk) g3;rw[ahead a (lZ g2 hk) (F.fp g2 hk g3 hc)] at h1;cases h1
  have gH:=(J9 (e2:=e1) hs).2 alike (hd.trans same.1) (hp.trans same.2.1) (by rw[I.round,Ko N k (mG hk)]);rw[<-same.2.2,<-hh] at gH;refine⟨_,_,_,gH,closed',slots' _ (λt=>rfl),?_,k+1,hk,?_,?_,rfl,?_,?_⟩
  ·rw[(rO _ _ _).2.2];exact I.round
  ·rw[(rO _ _ _).1,hn,(rO _ _ _).1];rfl
  ·rw[(rO _ _ _).2.1,hn,(rO _ _ _).2.1];rfl
  ·intro a Hz fi;unfold bj;by_cases hq:a=k
   ·rw[aB hq]
   ·rw[ax hq];have ay:a<k:=Sr (tI.1 Hz) hq;exact ahead a (lZ ay hk) (F.fp ay hk fi hc)
  ·intro a Nq ha fi;have hq:a≠k:=λhq=>absurd Nq (by rw[hq];exact Sw k);unfold bj;rw[ax hq];exact oG a (cY Ny (mG Nq)) ha fi
 ·-- it does not
  have mem':∀e2:Env,e2.defers=e1.defers->e2.aX=e1.aX->∃m,m<=ops.size/\e2.defers=(bJ P G R ops e h m).1.defers/\e2.aX=(bJ P G R ops e h m).1.aX/\h1=(bJ P G R ops e h m).2/\
   (∀a,a<m->iN P G R ops e h a=.fp->bj S k a=ab)/\∀a,m<=a->a<ops.size->iN P G R ops e h a=.fp->bj S k a=ak:=by
   intro e2 AU pA;refine⟨m,hm,AU.trans hd,pA.trans hp,hh,λa XK fi=>?_,λa Eb ha fi=>?_⟩
   ·unfold bj;by_cases hq:a=k
    ·rw[aB hq]
    ·rw[ax hq];exact vn a XK fi
   ·have hq:a≠k:=λhq=>hc (hq ▸ fi);unfold bj;rw[ax hq];exact oG a Eb ha fi
  have fin:∀x,x=(qW P G R ops e h k).1->eR P G R ops k e1 h1=aa (x,e1,h1)->∃x e2 h2,eR P G R ops k e1 h1=aa (x,e2,h2)/\Inv P G R ops e h b (bj S k) (e2.put (eT ops k) x) h2:=by intro x hx gH;subst hx;refine⟨_,_,_,gH,closed',slots' _ (λt=>rfl),?_,mem' _ (rO _ _ _).1 (rO _ _ _).2.1⟩;rw[(rO _ _ _).2.2];exact I.round
  cases ey:iN P G R ops e h k with
  |fp=>exact absurd ey hc|pure=>obtain⟨-,-,cH⟩:=Ka (L5 ey) hs;exact fin _ rfl (cH e1 h1 alike)
  |reads=>
   obtain⟨-,-,jx,cH⟩:=QA N hk ey hs;refine fin _ rfl (cH e1 h1 alike ?_);rw[hh];rcases dp k m with ay|dy
   ·rcases zS N (m:=k) m (mG ay) hm with hq|⟨-,a,g1,g2,g3,g4⟩
    ·rw[<-hq.2.2];exact jx
    ·have Hz:k<a:=Sr g1 λhq=>hc (hq ▸ g3);have tY:a<ops.size:=lY g2 hm;have bV:¬Ord b k a:=λhq=>(by have:=I.closed k a hk tY (vn a g2 g3) hq;rw[hu] at this;cases this);rw[<-g4];exact QB N hk tY ey λq1 q2=>F.aeP Hz tY bV q1 q2 g3
   ·rcases zS N (m:=m) k dy (mG hk) with hq|⟨⟨a,g1,g2,g3,g4⟩,-⟩
    ·rw[hq.2.2];exact jx
    ·have tY:a<ops.size:=lZ g2 hk;have bV:¬Ord b a k:=λhq=>(by have h1:=ahead a tY hq;rw[oG a g1 tY g3] at h1;cases h1);rw[g4];exact QB N hk (mG tY) ey λq1 q2=>F.aeQ g2 hk bV g3 q1 q2
def xP(N:aG P G R ops (bt ops.size) e h=aa (.normal,e',h')):Inv P G R ops e h b (λ_=>ak) e h:=by
 have h0:bJ P G R ops e h 0=(e,h):=by simp[bJ,aG]
 refine⟨λ_ _ _ _ h=>absurd h bh,λt=>?_,rfl,0,cz _,by rw[h0],by rw[h0],by rw[h0],λa ha=>absurd ha (ik a),λ_ _ _ _=>rfl⟩;rw[CQ (k:=0) ops.size (cz _) (λ_ _ _ _=>rfl)];rfl
structure iD(e e2:Env):Prop where
 dN:∀t,e.get t=e2.get t
 defers:e.defers=e2.defers
 aX:e.aX=e2.aX
 round:e.round=e2.round
def Oc(N:aG P G R ops (bt ops.size) e h=aa (.normal,e',h')){S:Nat->Bool}{e1:Env}{h1:ae}(I:Inv P G R ops e h b S e1 h1)(cH:∀i,i<ops.size->S i=ab):iD e1 e'/\h1=h':=by
 obtain⟨t0,tr,st⟩:=trace N;have he:e'=(bJ P G R ops e h ops.size).1:=by rw[<-t0]
 have hh:h'=(bJ P G R ops e h ops.size).2:=by rw[<-t0]
 obtain⟨m,hm,hd,hp,xz,vn,oG⟩:=I.mem;have same:=zS N ops.size hm (aK _);have same:(bJ P G R ops e h m).1.defers=(bJ P G R ops e h ops.size).1.defers/\(bJ P G R ops e h m).1.aX=(bJ P G R ops e h ops.size).1.aX/\(bJ P G R ops e h m).2=(bJ P G R ops e h ops.size).2:=by
  rcases same with h1|⟨⟨a,g1,g2,g3,-⟩,-⟩
  ·exact h1
  ·have h1:=oG a g1 g2 g3;rw[cH a g2] at h1;cases h1
 refine⟨⟨λt=>?_,?_,?_,?_⟩,?_⟩
 ·rw[I.dN t,he,FW N t ops.size (aK _)];exact val_congr _ λw hw _=>cH w hw
 ·rw[hd,same.1,he]
 ·rw[hp,same.2.1,he]
 ·rw[I.round,he,Ko N ops.size (aK _)]
 ·rw[xz,same.2.2,hh]
def G9{α:Type}{p q}{a}:∀{l:List α},(∀x∈l,q x=true->p x=true)->a∈l->p a=true->q a=false->l.countP q<l.countP p:=by
 intro l
 induction l with
 |nil=>intro _ ha;cases ha
 |cons x l ih=>
  intro hm ha hp hq;have dS:l.countP q<=l.countP p:=List.countP_mono_left λy hy=>hm y (dG _ hy);rcases fe.1 ha with rfl|ha
  ·rw[RR (by simp[hq]),KO hp];exact Nat.lt_succ_of_le dS
  ·have:=ih (λy hy=>hm y (dG _ hy)) ha hp hq;by_cases Ij:q x=ab
   ·rw[KO Ij,KO (hm x dQ Ij)];exact Nat.succ_lt_succ this
   ·rw[RR Ij];exact lY this (by rw[List.countP_cons];exact Nat.le_add_right _ _)
def iC(ops:Array Oper):(Nat->Bool)->List Nat->Prop
 |S,[]=>∀i,i<ops.size->S i=ab
 |S,k::L=>k<ops.size/\S k=ak/\il ops S k/\iC ops (bj S k) L
def BN(N:aG P G R ops (bt ops.size) e h=aa (.normal,e',h'))(F:Fits P G R ops e h b):∀(L:List Nat) (S:Nat->Bool) (e1:Env) (h1:ae),Inv P G R ops e h b S e1 h1->iC ops S L->
 ∃e2,aG P G R ops L e1 h1=aa (.normal,e2,h')/\iD e2 e':=by
 intro L
 induction L with
 |nil=>intro S e1 h1 I hL;obtain⟨hs,rfl⟩:=Oc N I hL;exact⟨e1,by simp[aG],hs⟩
 |cons k L ih=>
  intro S e1 h1 I hL;obtain⟨hk,hu,hr,hL⟩:=hL;obtain⟨x,e2,h2,hs,I'⟩:=next N F I hk hu hr
  obtain⟨e3,gH,eK⟩:=ih _ _ _ I' hL;exact⟨e3,my.2 ⟨x,e2,h2,hs,gH⟩,eK⟩
def se(ops:Array Oper):Prop:=∀(j:Nat) (o:Oper),ops[j]?=aa o->∀ed∈o.after,Region.binds .any ed=ab->ed.on<j
def aae(hB:se ops):∀(fuel t:Nat) (ba:Array Bool),ba.size=ops.size->
 (bt ops.size).countP (λj=> !ba.getD j ak)<=fuel->iC ops (λj=>ba.getD j ak) (Region.linearise.go .any ops fuel t ba []):=by
 intro fuel
 induction fuel with
 |zero=>
  intro t ba bG rn;have cH:∀i,i<ops.size->ba.getD i ak=ab:=by intro i hi;have:=KP.1 (Av.1 rn) i (fP.2 hi);simpa using this
  simp only[Region.linearise.go,Sj];exact cH
 |succ fuel ih=>
  intro t ba bG rn;have vv:∀i,i<ops.size->ba.getD i ab=ba.getD i ak:=by intro i hi;have:i<ba.size:=(by omega);simp[this]
  simp only[Region.linearise.go];change iC ops _ (match (Region.ready .any ops ba)[t%(Region.ready .any ops ba).length]? with
   |some i=>Region.linearise.go .any ops fuel (t/(Region.ready .any ops ba).length) (ba.setIfInBounds i ab) [i]
   |none=>[].reverse)
  have ready_of:∀i,i∈Region.ready .any ops ba↔i<ops.size/\ba.getD i ak=ak/\il ops (λj=>ba.getD j ak) i:=by
   intro i;unfold Region.ready;rw[As,fP];constructor
   ·rintro⟨hi,hq⟩;rw[aL] at hq;obtain⟨qF,jP⟩:=hq;rw[vv i hi] at qF;refine⟨hi,by simpa using qF,λo ho ed cG cP=>?_⟩;rw[ho] at jP;simp only[cy,wQ,uQ] at jP;obtain⟨q,hq,rfl⟩:=F9 cG;have:=jP q hq;simpa [cP] using this
   ·rintro⟨hi,hq,hr⟩;refine⟨hi,?_⟩;rw[aL];refine⟨by rw[vv i hi];simp[hq],?_⟩;have ho:ops[i]?=aa ops[i]:=fW hi;rw[ho];simp only[cy,wQ,uQ];intro q hq;cases hb:Region.binds .any ops[i].after[q] with|false=>rfl|true=>simpa using hr _ ho _ (F8 hq) hb
  cases hi:(Region.ready .any ops ba)[t%(Region.ready .any ops ba).length]? with
  |none=>
   have jO:Region.ready .any ops ba=[]:=by
    cases hr:Region.ready .any ops ba with|nil=>rfl|cons x xs=>rw[hr] at hi;have ay:t%(x::xs).length<(x::xs).length:=K6 _ bh;simp at hi;simp at ay;omega
   have cH:∀i,i<ops.size->ba.getD i ak=ab:=by
    intro i
    induction i using wP with
    |_ i ihi=>
     intro hi;cases hq:ba.getD i ak with|true=>rfl|false=>have:i∈Region.ready .any ops ba:=(ready_of i).2 ⟨hi,hq,λo ho ed cG cP=>by have ay:=hB i o ho ed cG cP;exact ihi ed.on ay (lZ ay hi)⟩;rw[jO] at this;cases this
   simp only[Sj];exact cH
  |some i=>
   simp only[];have xz:=(ready_of i).1 (ie hi);obtain⟨cQ,jQ,jx⟩:=xz;have pG:(λj=>(ba.setIfInBounds i ab).getD j ak)=bj (λj=>ba.getD j ak) i:=by
    funext j;unfold bj;have vy:i<ba.size:=(by omega);by_cases hq:j=i
    ·subst hq;rw[aB rfl];simp[r9,vy]
    ·rw[ax hq];simp[r9,Ne.symm hq]
   have gH:=ih (t/(Region.ready .any ops ba).length) (ba.setIfInBounds i ab) (by simpa using bG) (by
    refine tI.1 (lY (G9 (a:=i) (p:=λj=> !ba.getD j ak) ?_ (fP.2 cQ) (by simp only[jQ];rfl) ?_) rn)
    ·intro j _ hj;have this:(ba.setIfInBounds i ab).getD j ak=bj (λj=>ba.getD j ak) i j:=congrFun pG j;rw[this] at hj;unfold bj at hj;split at hj
     ·cases hj
     ·exact hj
    ·have this:(ba.setIfInBounds i ab).getD i ak=bj (λj=>ba.getD j ak) i i:=congrFun pG i;rw[this];simp[bj])
   rw[linearise_go_acc,KX,KY];refine⟨cQ,jQ,jx,?_⟩;rw[<-pG];exact gH
def aci(n):(λj=>(wL n ak).getD j ak)=λ_=>ak:=by funext j;rw[tA,An];split<;>rfl
def IU(hB:se ops)(t:Nat):iC ops (λ_=>ak) (Region.linearise .any ops t):=by unfold Region.linearise;have:=aae hB ops.size t (wL ops.size ak) bh (cY KQ bh);rw[aci] at this;exact this
def Hn{e:Env}{h:ae}(hf:gN P G R ops e h=ab):se ops:=λj o ho ed cG hb=>(pw hf).tS j o ho ed cG hb
def VG(N:aG P G R ops (bt ops.size) e h=aa (.normal,e',h'))(hf:gN P G R ops e h=ab)(t:Nat):
 ∃e2,aG P G R ops (Region.linearise .any ops t) e h=aa (.normal,e2,h')/\iD e2 e':=
 BN N (pw hf) _ _ _ _ (xP N) (IU (Hn hf) t)
end
end Go.AE
end
section
namespace Go.AE
open Go.RowKit (Below)
structure aH.agy(K K':aH):Prop where
 base:K'.base=K.base
 ic:∀g j c,K.ic g j=aa c->K'.ic g j=aa c
 β:∀b g:Nat,K.β[b]?=aa g->K'.β[b]?=aa g
 γ:∀l g:Nat,K.γ[l]?=aa g->K'.γ[l]?=aa g
 tn:K.tn<=K'.tn
 tk:∀t,t<K.tn->K'.tk t=K.tk t
def aH.un(K:aH)(r:Nat):aH:={K with md:=K.md.filter (· !=r)}
def sj.un{K}{r}{k}{g off sz n az}(h:sj K k g off sz n az):sj (K.un r) k g off sz n az:=h
mutual
def aI.un{K:aH}{r:Nat}:∀{x:AV} {c:aC},aI K x c->aI (K.un r) x c
 |_,_,.bad c=>.bad c
 |_,_,.v x hx=>.v x hx
 |_,_,.nil sz=>.nil sz
 |_,_,.jV sz a=>.jV sz a
 |_,_,.list k sz es g off n az cells hn hr hv hc ht ha=>.list k sz es g off n az cells hn hr (aM.un hv) hc ht ha
 |_,_,.arr b g off len az fy ir hb hl hc ho hr=>.arr b g off len az fy ir hb hl hc ho hr
 |_,_,.agg cs vs hv=>.agg cs vs (aM.un hv)
 |_,_,.tuple cs vs hv=>.tuple cs vs (aM.un hv)
 |_,_,.box b g off hb=>.box b g off hb
 |_,_,.dj g off=>.dj g off
 |_,_,.elem sz es i off g o p cells hr hv hc hi hp ha=>.elem sz es i off g o p cells hr (aM.un hv) hc hi hp ha
 |_,_,.func fn first az fs cs h1 h2=>.func fn first az fs cs (aM.un h1) (aM.un h2)
 |_,_,.yield l g hl=>.yield l g hl
 |_,_,.iface t x c hx=>.iface t x c (aI.un hx)
def aM.un{K:aH}{r:Nat}:∀{xs:List AV} {cs:List aC},aM K xs cs->aM (K.un r) xs cs
 |_,_,.nil=>.nil
 |_,_,.cons x c xs cs hx hs=>.cons x c xs cs (aI.un hx) (aM.un hs)
end
def nf.un{K}{r}{ds cds ms}(h:nf K ds cds ms)(hr:r∉ms):nf (K.un r) ds cds ms:=by
 induction h with
 |nil=>exact .nil|call g args vs az ds cds ms hv _ ih=>exact .call g args vs az ds cds ms (aM.un hv) (ih hr)|mark r' ds cds ms gg hn _ ih=>have bL:r'≠r:=λhq=>hr (hq ▸ dQ);exact .mark r' ds cds ms (by unfold aH.un;exact As.2 ⟨gg,by simpa using bL⟩) hn (ih λhq=>hr (dG _ hq))
def nf.sub{K}{ds cds ms}(h:nf K ds cds ms):∀r∈ms,r∈K.md:=by
 induction h with
 |nil=>intro r hr;cases hr
 |call g args vs az ds cds ms hv _ ih=>exact ih|mark r' ds cds ms gg hn _ ih=>
  intro r hr;rcases fe.1 hr with rfl|hr
  ·exact gg
  ·exact ih r hr
def CS.un{K}{r}{kind base p cs}(h:CS K kind base p cs):CS (K.un r) kind base p cs:=by
 cases h with|normal h=>exact .normal h|ret c0 rest hk hb hm=>exact .ret c0 rest hk hb hm|aX c0 rest x v r hk hb hx=>exact .aX c0 rest x v r hk hb (aI.un hx)
def ZX{K K':aH}{r}(le:K.Le K')(hr:r∉K.md):K.Le (K'.un r):=
 ⟨le.base,le.ic,le.β,le.γ,le.tn,le.tk,λr' gg=>by unfold aH.un;exact As.2 ⟨le.md r' gg,by have:r'≠r:=λhq=>hr (hq ▸ gg);simpa using this⟩,le.lb,le.new⟩
section
variable {K:aH} {G:Nat->Option (List AV)} {ok:bF->Nat->Code->Bool} {w0 w:aT} {h:ae}
def Pl{g:Nat}{o:Obj}(hg:g<w.heap.size):qc w (w.putObj g o) g o:=
 ⟨rfl,rfl,rfl,World.putObj_size,λ_ hk=>World.putObj_heap_other hk,World.putObj_heap_same hg⟩
def bg.drop(s:bg K G ok w0 h w){r:Nat}(hr:r∈K.md)(o:Obj)(ho:∀cells e f,o≠ .cells cells e f):bg (K.un r) G ok w0 h (w.putObj r o):=by
 obtain⟨hb,hm⟩:=s.md r hr;have ay:=lt_of_heap hm;have c:=Pl (o:=o) ay;have kT:∀{g:Nat} {cells:Array aC} {e:aE} {f:Nat × Nat},w.heap[g]?=aa (.cells cells e f)->g≠r:=by rintro g cells e f hg rfl;rw[hm] at hg;cases hg
 refine⟨s.cr.trans (c.below hb),by rw[c.size];exact s.size,λg j x hx=>?_,λg cs hg=>?_,s.ga,s.mF,λb g cs eJ hc=>?_,s.j4,s.na,λl g rr hl da=>?_,s.tn,λt ht=>?_,s.mD,λr' gg=>?_,s.all⟩
 ·have lF:=s.ic g j x hx;have bL:g≠r:=by rintro rfl;simp[World.cell?,hm] at lF
  rw[<-lF];exact World.cell?_of_block (w:=w) (c.other g bL)
 ·obtain⟨cells,h1,h2⟩:=s.dj g cs hg;exact⟨cells,aM.un h1,h2⟩
 ·obtain⟨h1,h2,ha,cells,e,h3,h4⟩:=s.box b g cs eJ hc;exact⟨h1,h2,ha,cells,e,(c.other g (kT h3)).trans h3,aM.un h4.1,h4.2⟩
 ·obtain⟨h1,fn,tmps,d,h2,h3,h4⟩:=s.loop l g rr hl da;have bL:g≠r:=by rintro rfl;rw[hm] at h2;cases h2
  exact⟨h1,fn,tmps,d,(c.other g bL).trans h2,λt=>aI.un (h3 t),h4⟩
 ·obtain⟨h1,h2,h3,cells,e,fz,h4,h5,h6⟩:=s.tok t ht;refine⟨h1,h2,h3,cells,e,fz,(c.other _ (kT h4)).trans h4,h5,λj hj hl=>?_⟩;rw[<-h6 j hj hl];exact World.frozen?_of_block (w:=w) (c.other _ (kT h4))
 ·obtain⟨h1,h2⟩:=As.1 gg;have bL:r'≠r:=by simpa using h2
  obtain⟨h3,h4⟩:=s.md r' h1;exact⟨h3,(c.other r' bL).trans h4⟩
def aH.mark(K:aH)(r:Nat):aH:={K with md:=r::K.md}
def aH.Ok(K:aH)(r):K.Le (K.mark r):=
 ⟨rfl,λ_ _ _ h=>h,λ_ _ h=>h,λ_ _ h=>h,aK _,λ_ _=>rfl,λ_ h=>dG _ h,λ_ _=>rfl,λ_ _ _ h=>.inl h⟩
def bg.aa0(s:bg K G ok w0 h w):bg (K.mark w.heap.size) G ok w0 h (w.alloc (.deferred (aa []))):=by
 have le:=K.Ok w.heap.size;have p:=s.push (.deferred (aa []));refine⟨p.cr,p.size,p.ic,λg cs hg=>?_,p.ga,p.mF,λb g cs hb hc=>?_,p.j4,p.na,λl g r hl hr=>?_,p.tn,p.tok,p.mD,λr hr=>?_,s.all⟩
 ·obtain⟨cells,h1,h2⟩:=s.dj g cs hg;exact⟨cells,h1.mono le,h2⟩
 ·obtain⟨h1,h2,ha,cells,e,h3,h4⟩:=p.box b g cs hb hc;exact⟨h1,h2,ha,cells,e,h3,h4.mono le (aF.1 hb).1⟩
 ·obtain⟨h1,fn,tmps,d,h2,h3,h4⟩:=p.loop l g r hl hr;exact⟨h1,fn,tmps,d,h2,h3.mono le,h4⟩
 ·rcases fe.1 hr with rfl|hr
  ·exact⟨s.size,World.alloc_heap_new w _⟩
  ·exact p.md r hr
def aH.loop(K:aH)(g:Nat):aH:={K with γ:=K.γ++[g]}
def aH.IP(K:aH)(g):K.Le (K.loop g):=
 ⟨rfl,λ_ _ _ h=>h,λ_ _ h=>h,λ_ _ h=>pz h,aK _,λ_ _=>rfl,λ_ h=>h,λ_ _=>rfl,λ_ _ _ h=>.inl h⟩
def bg.ON(s:bg K G ok w0 h w){r:ff}{fn:bF}{tmps:Array aC}(d:Nat)(hs:jl K r.tmps tmps)(h1:ok fn tmps.size r.assign=ab)(h2:ok fn tmps.size r.body=ab)(h3:∀p∈r.params.toList,p<tmps.size):
 bg (K.loop w.heap.size) G ok w0 {h with loops:=h.loops++[r]} (w.alloc (.loop {state:=r.state,pending:=r.pending,fn,tmps,params:=r.params,assign:=r.assign,body:=r.body,defers:=d}))/\
 (K.loop w.heap.size).γ[h.loops.length]?=aa w.heap.size:=by
 have le:=K.IP w.heap.size;have p:=s.push (.loop {state:=r.state,pending:=r.pending,fn,tmps,params:=r.params,assign:=r.assign,body:=r.body,defers:=d});have kX:(K.loop w.heap.size).γ[h.loops.length]?=aa w.heap.size:=by simp[aH.loop,<-s.j4]
 have ay:∀{l g:Nat},K.γ[l]?=aa g->g<w.heap.size:=λ{l g} hl=>by
  have du:l<h.loops.length:=by rw[<-s.j4];exact(aF.1 hl).1
  obtain⟨_,_,_,_,h3,_⟩:=s.loop l g _ hl (cv du);exact lt_of_heap h3
 refine⟨⟨p.cr,p.size,p.ic,λg cs hg=>?_,p.ga,p.mF,λb g cs hb hc=>?_,by simp[aH.loop,s.j4],λl l' g hl kv=>?_,λl g r' hl hr=>?_,p.tn,p.tok,p.mD,p.md,s.all⟩,kX⟩
 ·obtain⟨cells,h1,h2⟩:=s.dj g cs hg;exact⟨cells,h1.mono le,h2⟩
 ·obtain⟨h1,h2,ha,cells,e,h3,h4⟩:=p.box b g cs hb hc;exact⟨h1,h2,ha,cells,e,h3,h4.mono le (aF.1 hb).1⟩
 ·rcases kS hl with hb|⟨rfl,rfl⟩<;>rcases kS kv with eJ|⟨rfl,h2⟩
  ·exact s.na _ _ _ hb eJ
  ·have:=ay hb;omega
  ·have:=ay eJ;omega
  ·rfl
 ·rcases kS hl with hl|⟨rfl,rfl⟩
  ·rcases kS hr with hr|⟨rfl,rfl⟩
   ·obtain⟨h1,fn',tmps',d',h2,h3,h4⟩:=p.loop l g r' hl hr;exact⟨h1,fn',tmps',d',h2,h3.mono le,h4⟩
   ·have:h.loops.length<K.γ.length:=(aF.1 hl).1;have:=s.j4;omega
  ·have:r'=r:=(by rw[s.j4] at hr;simp at hr;exact hr.symm);subst this;exact⟨s.size,fn,tmps,d,World.alloc_heap_new w _,hs.mono le,h1,h2,h3⟩
def bg.dY(s:bg K G ok w0 h w){l g:Nat}{r:ff}(hl:K.γ[l]?=aa g)(hr:h.loops[l]?=aa r)(st:LoopState)(pe:Option Code):
 ∃m:Loop,w.heap[g]?=aa (.loop m)/\m.state=r.state/\m.pending=r.pending/\m.params=r.params/\m.assign=r.assign/\m.body=r.body/\jl K r.tmps m.tmps/\
  ok m.fn m.tmps.size r.assign=ab/\ok m.fn m.tmps.size r.body=ab/\(∀p∈r.params.toList,p<m.tmps.size)/\
  bg K G ok w0 {h with loops:=h.loops.set l {r with state:=st,pending:=pe}} (w.putObj g (.loop {m with state:=st,pending:=pe})):=by
 obtain⟨k1,fn,tmps,d,k2,k3,k4,k5,k6⟩:=s.loop l g r hl hr;have du:l<h.loops.length:=(aF.1 hr).1;refine⟨_,k2,rfl,rfl,rfl,rfl,rfl,k3,k4,k5,k6,?_⟩;have c:=Pl (o:=.loop {state:=st,pending:=pe,fn,tmps,params:=r.params,assign:=r.assign,body:=r.body,defers:=d}) (lt_of_heap k2);have kT:∀{g':Nat} {cells:Array aC} {e:aE} {f:Nat × Nat},w.heap[g']?=aa (.cells cells e f)->g'≠g:=by rintro g' cells e f hg rfl;rw[k2] at hg;cases hg
 refine⟨s.cr.trans (c.below k1),by rw[c.size];exact s.size,λg' j x hx=>?_,s.dj,s.ga,s.mF,λb g' cs eJ hc=>?_,by simp[s.j4],s.na,λl' g' rr kv da=>?_,s.tn,λt ht=>?_,s.mD,λr' gg=>?_,s.all⟩
 ·have lF:=s.ic g' j x hx;have bL:g'≠g:=by rintro rfl;simp[World.cell?,k2] at lF
  rw[<-lF];exact World.cell?_of_block (w:=w) (c.other g' bL)
 ·obtain⟨h1,h2,ha,cells,e,h3,h4⟩:=s.box b g' cs eJ hc;exact⟨h1,h2,ha,cells,e,(c.other g' (kT h3)).trans h3,h4⟩
 ·simp only[tG] at da;split at da
  ·rename_i gP;subst gP;injection da with da;subst da;rw[hl] at kv;injection kv with kv;subst kv;exact⟨k1,fn,tmps,d,c.this,k3,k4,k5,k6⟩
  ·rename_i bL;have fT:g'≠g:=(by rintro rfl;exact bL (s.na _ _ _ hl kv));obtain⟨h1,fn',tmps',d',h2,h3,h4⟩:=s.loop l' g' rr kv da;exact⟨h1,fn',tmps',d',(c.other g' fT).trans h2,h3,h4⟩
 ·obtain⟨h1,h2,h3,cells,e,fz,h4,h5,h6⟩:=s.tok t ht;refine⟨h1,h2,h3,cells,e,fz,(c.other _ (kT h4)).trans h4,h5,λj hj hl=>?_⟩;rw[<-h6 j hj hl];exact World.frozen?_of_block (w:=w) (c.other _ (kT h4))
 ·obtain⟨h1,h2⟩:=s.md r' gg;have bL:r'≠g:=by rintro rfl;rw[k2] at h2;cases h2
  exact⟨h1,(c.other r' bL).trans h2⟩
end
end Go.AE
end
section
namespace Go.AE
section
variable {P:aQ} {G:Nat->Option (List AV)} {R:Rec} {ops:Array Oper} {e:Env} {h:ae}
def NQ:∀(l:List Oper),(sS l).length=l.length
 | []=>rfl
 | [_]=>rfl
 |o::p::r=>by rw[sS,List.length_cons,NQ (p::r)];rfl
def NP:∀(l:List Oper) (i:Nat),(sS l)[i]?=if i+1=l.length then (l[i]?).map quiet else l[i]?
 | [],i=>by simp[sS]
 | [o],i=>by cases i<;>simp[sS]
 |o::p::r,i=>by
  cases i with|zero=>simp[sS]|succ i=>rw[sS,List.getElem?_cons_succ,NP (p::r) i];simp
def Ep(ops):(eg ops).size=ops.size:=by show(sS ops.toList).length=_;rw[NQ];simp
def BB(ops)(i):(eg ops)[i]?=if i+1=ops.size then (ops[i]?).map quiet else ops[i]?:=by have:=NP ops.toList i;simp only[Array.length_toList,sd] at this;unfold eg;rw[iB];exact this
def Eo{i:Nat}(hi:i+1≠ops.size):(eg ops)[i]?=ops[i]?:=by rw[BB,ax hi]
def NR(ops)(i:Nat):((eg ops)[i]?).map (·.after)=(ops[i]?).map (·.after):=by
 rw[BB];split
 ·cases ops[i]?<;>rfl
 ·rfl
def aat(hl:pP ops=ab){i j:Nat}{w:Bool}{o:Oper}(hi:i+1<ops.size)(ho:ops[i]?=aa o)(hg:o.guard=aa (j,w)):j+1≠ops.size:=by
 unfold pP at hl;simp only[dn,fP,aL] at hl;have:=(hl i aj).2;simp only[ho,hg,wM] at this;intro q;have hj:j=ops.size - 1:=by omega
 rw[hj] at this;rw[Db] at this;cases this
def aar(hl:pP ops=ab){i:Nat}(hi:i+1<ops.size):Ord (Region.before (eg ops)) i (ops.size - 1):=by unfold pP at hl;simp only[dn,fP,aL] at hl;exact(hl i aj).1
def OF(hl:pP ops=ab){i:Nat}{o:Oper}(hi:i+1<ops.size)(ho:ops[i]?=aa o)(e:Env):cd (eg ops) e o=cd ops e o:=by
 unfold cd;cases hg:o.guard with|none=>rfl|some q=>obtain⟨j,w⟩:=q;simp only;rw[Eo (aat hl hi ho hg)]
def aau(hl:pP ops=ab){i:Nat}(hi:i+1<ops.size)(e:Env)(h:ae):eR P G R (eg ops) i e h=eR P G R ops i e h:=by
 unfold eR;rw[Eo aj];cases ho:ops[i]? with|none=>rfl|some o=>simp only[OF hl hi ho]
def aas{i:Nat}(hi:i+1<ops.size):eT (eg ops) i=eT ops i:=by unfold eT;rw[Eo aj]
def I0(hl:pP ops=ab):∀{l:List Nat},(∀i∈l,i+1<ops.size)->∀(e:Env) (h:ae),aG P G R (eg ops) l e h=aG P G R ops l e h:=by
 intro l
 induction l with
 |nil=>intro _ e h;rfl|cons i l ih=>
  intro cQ e h;have hi:=cQ i dQ;have ih:=ih λj hj=>cQ j (dG _ hj);rw[aG,aG,Eo aj];cases ho:ops[i]? with|none=>rfl|some o=>simp only[OF hl hi ho,ih]
def ET{i:Nat}{rest:List Nat}{e e1:Env}{h h1:ae}{x:AV}(hs:eR P G R ops i e h=aa (x,e1,h1)):aG P G R ops (i::rest) e h=aG P G R ops rest (e1.put (eT ops i) x) h1:=by
 unfold eR at hs;rw[aG];unfold eT;cases ho:ops[i]? with
 |none=>rw[ho] at hs;cases hs
 |some o=>
  rw[ho] at hs;simp only at hs ⊢;cases hw:cd ops e o with
  |none=>rw[hw] at hs;cases hs
  |some b=>
   rw[hw] at hs;cases b with
   |false=>simp only[aY,aW] at hs;obtain⟨rfl,rfl,rfl⟩:=hs;rfl
   |true=>
    simp only at hs ⊢;cases aR:cA P G R e h o with
    |none=>rw[aR] at hs;cases hs
    |some q=>
     obtain⟨r,e2,h2⟩:=q;rw[aR] at hs;cases r with
     |ret y=>simp only[aY,aW] at hs;obtain⟨rfl,rfl,rfl⟩:=hs;rfl
     |panic y=>cases hs
def zA{l2:List Nat}:∀{l1:List Nat} {e e1:Env} {h h1:ae},aG P G R ops l1 e h=aa (.normal,e1,h1)->aG P G R ops (l1++l2) e h=aG P G R ops l2 e1 h1:=by
 intro l1
 induction l1 with
 |nil=>intro e e1 h h1 hn;simp only[aG,aY,aW,true_and] at hn;obtain⟨rfl,rfl⟩:=hn;rfl
 |cons i l ih=>intro e e1 h h1 hn;obtain⟨x,e2,h2,hs,hr⟩:=my.1 hn;rw[bR,ET hs];exact ih hr
def Pp{L:Nat}(hL:L+1=ops.size){x:AV}{e1 e2:Env}{h1 h2:ae}(hs:eR P G R (eg ops) L e1 h1=aa (x,e2,h2)):e2=e1/\h2=h1:=by
 unfold eR at hs;rw[BB,aB hL] at hs;cases ho:ops[L]? with
 |none=>rw[ho] at hs;cases hs
 |some o=>rw[ho] at hs;have hw:cd (eg ops) e1 (quiet o)=aa ab:=rfl;have aR:cA P G R e1 h1 (quiet o)=aa (.ret (nK (.bool ab)),e1,h1):=rfl;simp only[cy,hw,aR,aY,aW] at hs;exact⟨hs.2.1.symm,hs.2.2.symm⟩
def Pn{L:Nat}(hL:L+1=ops.size):eT (eg ops) L=ah:=by unfold eT;rw[BB,aB hL];cases ops[L]?<;>rfl
def iD.trans{a b c}(h:iD a b)(k:iD b c):iD a c:=⟨λt=>(h.dN t).trans (k.dN t),h.defers.trans k.defers,h.aX.trans k.aX,h.round.trans k.round⟩
def iD.symm{a b}(h:iD a b):iD b a:=⟨λt=>(h.dN t).symm,h.defers.symm,h.aX.symm,h.round.symm⟩
def iD.refl(a):iD a a:=⟨λ_=>rfl,rfl,rfl,rfl⟩
def iD.eval{a b}(h:iD a b)(x):a.eval x=b.eval x:=by
 cases x with|tmp t=>exact h.dN t|_=>rfl
def iD.wanted{a b:Env}(h:iD a b)(o:Oper):cd ops a o=cd ops b o:=by
 unfold cd;cases o.guard with
 |none=>rfl|some q=>
  simp only;cases (ops[q.1]?).bind (·.dst) with|none=>rfl|some d=>simp only[h.dN d]
def abC{L:Nat}{x:AV}{eL ep e1:Env}{hL hp:ae}{rest:List Nat}(dV:aG P G R ops [L] eL hL=some (.panic x,ep,hp))(hs:iD e1 eL):∃e2,aG P G R ops (L::rest) e1 hL=some (.panic x,e2,hp)/\iD e2 ep:=by
 rw[aG] at dV ⊢;cases ho:ops[L]? with
 |none=>rw[ho] at dV;cases dV
 |some o=>
  rw[ho] at dV;simp only at dV ⊢;rw[hs.wanted];cases hw:cd ops eL o with
  |none=>rw[hw] at dV;cases dV
  |some b=>
   rw[hw] at dV;cases b with
   |false=>simp[aG] at dV|true=>
    simp only at dV ⊢;cases aR:cA P G R eL hL o with
    |none=>rw[aR] at dV;cases dV
    |some q=>
     obtain⟨r,e2,h2⟩:=q;rw[aR] at dV;cases r with|ret y=>simp[aG] at dV|panic y=>simp only[aY,aW,Xt.panic.injEq] at dV;obtain⟨rfl,rfl,rfl⟩:=dV;rw[Jq (e2:=e1) (λx _=>(hs.eval x).symm) hs.defers hs.aX hs.round aR];refine⟨_,rfl,?_⟩;have hw:=Jr aR;rw[hw];exact⟨λt=>hs.dN t,rfl,rfl,hs.round⟩
variable {b:Array Nat}
def Xg(hl:pP ops=ab){L:Nat}(hL:L+1=ops.size){e':Env}{h':ae}(N:aG P G R (eg ops) (bt (eg ops).size) e h=aa (.normal,e',h'))(F:Fits P G R (eg ops) e h (Region.before (eg ops)))
 {x:AV} {eL ep:Env} {Hx hp:ae} (Y3:iD e' eL) (Ys:h'=Hx) (dV:aG P G R ops [L] eL Hx=aa (.panic x,ep,hp)):∀(fuel t:Nat) (ba:Array Bool) (e1:Env) (h1:ae),ba.size=ops.size->ba.getD L ak=ak->
 Inv P G R (eg ops) e h (Region.before (eg ops)) (λj=>ba.getD j ak) e1 h1->(bt ops.size).countP (λj=> !ba.getD j ak)<=fuel->
 ∃e2,aG P G R ops (Region.linearise.go .any ops fuel t ba []) e1 h1=some (.panic x,e2,hp)/\iD e2 ep:=by
 have xI:=Ep ops;intro fuel
 induction fuel with
 |zero=>intro t ba e1 h1 bG jQ I rn;have:=KP.1 (Av.1 rn) L (fP.2 aj);rw[jQ] at this;simp at this|succ fuel ih=>
  intro t ba e1 h1 bG jQ I rn;have vv:∀i,i<ops.size->ba.getD i ab=ba.getD i ak:=by intro i hi;have:i<ba.size:=(by omega);simp[this]
  simp only[Region.linearise.go];change ∃e2,aG P G R ops (match (Region.ready .any ops ba)[t%(Region.ready .any ops ba).length]? with
   |some i=>Region.linearise.go .any ops fuel (t/(Region.ready .any ops ba).length) (ba.setIfInBounds i ab) [i]
   |none=>[].reverse) e1 h1=aa (.panic x,e2,hp)/\iD e2 ep
  have ready_of:∀i,i∈Region.ready .any ops ba↔i<ops.size/\ba.getD i ak=ak/\il (eg ops) (λj=>ba.getD j ak) i:=by
   intro i;unfold Region.ready;rw[As,fP];constructor
   ·rintro⟨hi,hq⟩;rw[aL] at hq;obtain⟨qF,jP⟩:=hq;rw[vv i hi] at qF;refine⟨hi,by simpa using qF,λo ho ed cG cP=>?_⟩;have ha:=NR ops i;rw[ho] at ha;cases kB:ops[i]? with
    |none=>rw[kB] at ha;cases ha
    |some o2=>rw[kB] at ha jP;simp only[cy,aY] at ha;rw[ha] at cG;simp only[cy,wQ,uQ] at jP;obtain⟨q,hq,rfl⟩:=F9 cG;have:=jP q hq;simpa [cP] using this
   ·rintro⟨hi,hq,hr⟩;refine⟨hi,?_⟩;rw[aL];refine⟨by rw[vv i hi];simp[hq],?_⟩;have ho:ops[i]?=aa ops[i]:=fW hi;have ha:=NR ops i;rw[ho] at ha ⊢;cases kB:(eg ops)[i]? with
    |none=>rw[kB] at ha;cases ha
    |some o2=>
     rw[kB] at ha;simp only[cy,aY] at ha;simp only[cy,wQ,uQ];intro q hq;cases hb:Region.binds .any ops[i].after[q] with|false=>rfl|true=>simpa using hr _ kB _ (by rw[ha];exact F8 hq) hb
  cases hi:(Region.ready .any ops ba)[t%(Region.ready .any ops ba).length]? with
  |none=>
   exfalso;have jO:Region.ready .any ops ba=[]:=by
    cases hr:Region.ready .any ops ba with|nil=>rfl|cons x xs=>rw[hr] at hi;have ay:t%(x::xs).length<(x::xs).length:=K6 _ bh;simp at hi;simp at ay;omega
   have cH:∀i,i<ops.size->ba.getD i ak=ab:=by
    intro i
    induction i using wP with
    |_ i ihi=>
     intro hi;cases hq:ba.getD i ak with|true=>rfl|false=>have:i∈Region.ready .any ops ba:=(ready_of i).2 ⟨hi,hq,λo ho ed cG cP=>by have ay:=F.tS i o ho ed cG cP;exact ihi ed.on ay (lZ ay hi)⟩;rw[jO] at this;cases this
   rw[cH L aj] at jQ;cases jQ
  |some i=>
   simp only[];have xz:=(ready_of i).1 (ie hi);obtain⟨cQ,BA,jx⟩:=xz;obtain⟨y,e2,h2,hs,I'⟩:=next N F I (by rw[xI];exact cQ) BA jx
   have pG:(λj=>(ba.setIfInBounds i ab).getD j ak)=bj (λj=>ba.getD j ak) i:=by
    funext j;unfold bj;have vy:i<ba.size:=(by omega);by_cases hq:j=i
    ·subst hq;rw[aB rfl];simp[r9,vy]
    ·rw[ax hq];simp[r9,Ne.symm hq]
   rw[linearise_go_acc,KX,KY];by_cases yU:i=L
   ·subst yU;obtain⟨q1,q2⟩:=Pp hL hs;subst q1;subst q2;have cH:∀j,j<(eg ops).size->bj (λj=>ba.getD j ak) i j=ab:=by
     intro j hj;unfold bj;by_cases hq:j=i
     ·rw[aB hq]
     ·rw[ax hq];have ky:j+1<ops.size:=(by omega);have MY:=aar hl ky;have:ops.size - 1=i:=(by omega);rw[this] at MY;have ho:(eg ops)[i]?=aa (eg ops)[i]:=fW aj;obtain⟨ed,cG,cP,jP⟩:=F.bits i j _ ho aj MY;have NK:=jx _ ho ed cG cP;have ay:=F.tS i _ ho ed cG cP;rcases jP with rfl|jP
      ·exact NK
      ·exact I.closed j ed.on aj aj NK jP
    obtain⟨eK,rfl⟩:=Oc N I' cH;rw[Pn hL] at eK;subst Ys;exact abC dV (eK.trans Y3)
   ·have ky:i+1<ops.size:=(by omega);rw[aau hl ky] at hs;rw[aas ky] at I';rw[ET hs];refine ih (t/(Region.ready .any ops ba).length) (ba.setIfInBounds i ab) (e2.put (eT ops i) y) h2 (by simpa using bG) ?_ (by rw[pG];exact I') (by
     refine tI.1 (lY (G9 (a:=i) (p:=λj=> !ba.getD j ak) ?_ (fP.2 cQ) (by simp only[BA];rfl) ?_) rn)
     ·intro j _ hj;have this:(ba.setIfInBounds i ab).getD j ak=bj (λj=>ba.getD j ak) i j:=congrFun pG j;rw[this] at hj;unfold bj at hj;split at hj
      ·cases hj
      ·exact hj
     ·have this:(ba.setIfInBounds i ab).getD i ak=bj (λj=>ba.getD j ak) i i:=congrFun pG i;rw[this];simp[bj])
    have this:(ba.setIfInBounds i ab).getD L ak=bj (λj=>ba.getD j ak) i L:=congrFun pG L;rw[this];unfold bj;rw[ax (Ne.symm yU)];exact jQ
def VI(hl:pP ops=ab)(hf:gN P G R (eg ops) e h=ab)(hN:oe (aG P G R (eg ops) (bt (eg ops).size) e h)=ab){x:AV}{ep:Env}{hp:ae}(dV:aG P G R ops (bt ops.size) e h=aa (.panic x,ep,hp))(t:Nat):
 ∃e2,aG P G R ops (Region.linearise .any ops t) e h=some (.panic x,e2,hp)/\iD e2 ep:=by
 have Eh:0<ops.size:=by
  rcases Nat.eq_zero_or_pos ops.size with q|q
  ·rw[q] at dV;simp[aG] at dV
  ·exact q
 obtain⟨L,hL⟩:∃L,L+1=ops.size:=⟨ops.size - 1,by omega⟩;obtain⟨e',h',N⟩:∃e' h',aG P G R (eg ops) (bt (eg ops).size) e h=aa (.normal,e',h'):=by
  unfold oe at hN;split at hN
  ·rename_i q;exact⟨_,_,q⟩
  ·cases hN
 have N2:=N;rw[Ep,<-hL,u0] at N2;obtain⟨eL,Hx,n1,n2⟩:=uB.1 N2;obtain⟨y,e3,h3,n3,n4⟩:=my.1 n2;obtain⟨rfl,rfl⟩:=Pp hL n3;rw[Pn hL] at n4;simp only[aG,aY,aW,true_and] at n4;obtain⟨rfl,rfl⟩:=n4;have m1:=n1;rw[I0 hl (λi hi=>by have:=fP.1 hi;omega)] at m1;rw[<-hL,u0,zA m1] at dV;unfold Region.linearise;refine Xg hl hL N (pw hf) (iD.refl _) rfl dV ops.size t _ e h bh ?_ ?_ ?_
 ·rw[tA,An];split<;>rfl
 ·have:(λj=>(wL ops.size ak).getD j ak)=λ_=>ak:=by funext j;rw[tA];rw[An];split<;>rfl
  rw[this];exact xP N
 ·exact cY KQ bh
end
end Go.AE
end
section
namespace Go.AE
section
variable {P:aQ} {G:Nat->Option (List AV)} {R:Rec} {ops:Array Oper} {e:Env} {h:ae} {k:Nat}
def Ha(ops)(k):(cut ops k).size=ops.size:=by show(List.mapIdx _ _).length=_;rw[List.length_mapIdx];simp
def AM(i:Nat):(cut ops k)[i]?=(ops[i]?).map λo=>if gv ops k i=ab then quiet o else o:=by unfold cut;rw[iB,yv,sd]
def xd{i:Nat}(hi:gv ops k i=ak):(cut ops k)[i]?=ops[i]?:=by rw[AM,hi];cases ops[i]?<;>rfl
def Mc(i:Nat):((cut ops k)[i]?).map (·.after)=(ops[i]?).map (·.after):=by
 rw[AM];cases ops[i]? with|none=>rfl|some o=>simp only[cy];split<;>rfl
def Iw:gv ops k k=ab:=by unfold gv;rw[Db];rfl
inductive SD (ops:Array Oper) (k i:Nat):Prop
 |self (h:i=k)
 |ahead (h1:gv ops k i=ak) (h2:rj ops k i=ab) (h3:i<k) (h4:Ord (Region.before (cut ops k)) i k)
 |beside (h1:gv ops k i=ak) (h2:rj ops k i=ab) (h3:Dz ops i=ab) (h4:kQ ops i k=ab)
 |behind (h1:k<i) (h2:gv ops k i=ab) (h3:Ord (Region.before (cut ops k)) k i)
def Ab(hc:sx ops k=ab):k+1<ops.size/\∀i,i<ops.size->SD ops k i:=by
 unfold sx at hc;simp only[aL,decide_eq_true_eq,dn,fP,ly,wM] at hc;refine⟨hc.1,λi hi=>?_⟩;rcases hc.2 i hi with(h1|⟨⟨h1,h2⟩,h3⟩)|⟨h1,h2,h3⟩
 ·exact .self (iK h1)
 ·rcases h3 with⟨h3,h4⟩|⟨h3,h4,-⟩
  ·exact .ahead h1 h2 h3 h4
  ·exact .beside h1 h2 h3 h4
 ·exact .behind h1 h2 h3
def Je{i:Nat}{o:Oper}(ho:ops[i]?=aa o)(hg:rj ops k i=ab)(e:Env):cd (cut ops k) e o=cd ops e o:=by
 unfold cd;unfold rj at hg;rw[ho] at hg;cases hq:o.guard with|none=>rfl|some q=>obtain⟨j,w⟩:=q;simp only[hq,wM] at hg ⊢;rw[xd hg]
def aaM{i:Nat}(hi:gv ops k i=ak)(hg:rj ops k i=ab)(e:Env)(h:ae):eR P G R (cut ops k) i e h=eR P G R ops i e h:=by
 unfold eR;rw[xd hi];cases ho:ops[i]? with|none=>rfl|some o=>simp only[Je ho hg]
def I9{i:Nat}(hi:gv ops k i=ak):eT (cut ops k) i=eT ops i:=by unfold eT;rw[xd hi]
def Ja{i:Nat}(hi:gv ops k i=ab):eT (cut ops k) i=ah:=by unfold eT;rw[AM,hi];cases ops[i]?<;>rfl
def aaG{i:Nat}(hi:lE (cut ops k) i=.fp):gv ops k i=ak/\Dz ops i=ak:=by
 unfold lE at hi;rw[AM] at hi;unfold Dz;cases ho:ops[i]? with
 |none=>rw[ho] at hi;cases hi
 |some o=>
  rw[ho] at hi;simp only[cy,wQ] at hi;cases hq:gv ops k i with
  |true=>rw[hq] at hi;simp only[if_true] at hi;cases hi
  |false=>rw[hq] at hi;simp only[dP,if_false] at hi;refine⟨rfl,?_⟩;simp[hi]
def Jc:∀{l:List Nat},(∀i∈l,gv ops k i=ak/\rj ops k i=ab)->∀(e:Env) (h:ae),aG P G R (cut ops k) l e h=aG P G R ops l e h:=by
 intro l
 induction l with
 |nil=>intro _ e h;rfl|cons i l ih=>
  intro cQ e h;obtain⟨hi,hg⟩:=cQ i dQ;have ih:=ih λj hj=>cQ j (dG _ hj);rw[aG,aG,xd hi];cases ho:ops[i]? with|none=>rfl|some o=>simp only[Je ho hg,ih]
def Fits.lt{b:Array Nat}(F:Fits P G R ops e h b):∀(j i:Nat),j<ops.size->i<ops.size->Ord b i j->i<j:=by
 intro j
 induction j using wP with
 |_ j ih=>
  intro i hj hi ho;have hx:ops[j]?=aa ops[j]:=fW hj;obtain⟨ed,cG,cP,hq⟩:=F.bits j i _ hx hi ho;have ay:=F.tS j _ hx ed cG cP;rcases hq with q|q
  ·omega
  ·have:=ih ed.on ay i (lZ ay hj) hi q;omega
structure Ax(ops:Array Oper)(k:Nat)(a b:Env):Prop where
 dN:∀t,(∀i,i<ops.size->AP ops k i≠aa t)->a.get t=b.get t
 defers:a.defers=b.defers
 aX:a.aX=b.aX
 round:a.round=b.round
def aaN(hc:sx ops k=ab){e':Env}{h':ae}(N:aG P G R (cut ops k) (bt (cut ops k).size) e h=aa (.normal,e',h'))(F:Fits P G R (cut ops k) e h (Region.before (cut ops k)))
 {S:Nat->Bool} {e1:Env} {h1:ae} (I:Inv P G R (cut ops k) e h (Region.before (cut ops k)) S e1 h1) (hu:S k=ak) (hr:il (cut ops k) S k) {eL:Env} {hL:ae} (hp:aG P G R ops (bt k) e h=aa (.normal,eL,hL)):
 (∀t,(∀w,w<ops.size->gv ops k w=ak->eT ops w=aa t->Ord (Region.before (cut ops k)) w k)->e1.get t=eL.get t)/\h1=hL/\e1.defers=eL.defers/\e1.aX=eL.aX/\e1.round=eL.round:=by
 obtain⟨hk,bC⟩:=Ab hc;have bG:=Ha ops k;have HZ:k<(cut ops k).size:=by omega
 have ho:(cut ops k)[k]?=aa (cut ops k)[k]:=fW HZ;have ahead:∀i,i<(cut ops k).size->Ord (Region.before (cut ops k)) i k->S i=ab:=by
  intro i hi vx;obtain⟨ed,cG,cP,hq⟩:=F.bits k i _ ho hi vx;have hs:=hr _ ho ed cG cP;have ay:=F.tS k _ ho ed cG cP;rcases hq with rfl|hq
  ·exact hs
  ·exact I.closed i ed.on hi (lZ ay HZ) hs hq
 have ky:∀i∈bt k,gv ops k i=ak/\rj ops k i=ab:=by
  intro i hi;have hi:=fP.1 hi;cases bC i aj with|self q=>omega|ahead q1 q2 _ _=>exact⟨q1,q2⟩|beside q1 q2 _ _=>exact⟨q1,q2⟩|behind q _ _=>omega
 have hS:bJ P G R (cut ops k) e h k=(eL,hL):=by unfold bJ;rw[Jc ky,hp]
 have fp:∀a,a<(cut ops k).size->iN P G R (cut ops k) e h a=.fp->a<k/\S a=ab:=by
  intro a ha fi;obtain⟨q1,q2⟩:=aaG (AK fi).1;cases bC a aj with
  |self q=>subst q;rw[Iw] at q1;cases q1
  |ahead _ _ q3 q4=>exact⟨q3,ahead a ha q4⟩|beside _ _ q3 _=>rw[q2] at q3;cases q3
  |behind _ q _=>rw[q1] at q;cases q
 obtain⟨m,hm,hd,dV,hh,vn,oG⟩:=I.mem;have none_ge:∀a,m<=a->a<(cut ops k).size->iN P G R (cut ops k) e h a≠ .fp:=by intro a h1 h2 h3;have:=oG a h1 h2 h3;rw[(fp a h2 h3).2] at this;cases this
 have same:(bJ P G R (cut ops k) e h m).1.defers=eL.defers/\(bJ P G R (cut ops k) e h m).1.aX=eL.aX/\(bJ P G R (cut ops k) e h m).2=hL:=by
  rcases dp k m with ay|dy
  ·rcases zS N (m:=k) m (mG ay) hm with q|⟨⟨a,g1,g2,g3,-⟩,-⟩
   ·rw[hS] at q;exact⟨q.1.symm,q.2.1.symm,q.2.2.symm⟩
   ·have:=(fp a aj g3).1;omega
  ·rcases zS N (m:=m) k dy aj with q|⟨⟨a,g1,g2,g3,-⟩,-⟩
   ·rw[hS] at q;exact q
   ·exact absurd g3 (none_ge a g1 aj)
 refine⟨λt ht=>?_,hh.trans same.2.2,hd.trans same.1,dV.trans same.2.1,?_⟩
 ·have h2:=FW N t k aj;rw[hS] at h2;have h2:eL.get t=_:=h2;rw[I.dN t,h2,CQ (k:=k) (cut ops k).size aj]
  ·refine val_congr k λw hw pE=>?_;cases hq:gv ops k w with
   |true=>rw[Ja hq] at pE;cases pE
   |false=>rw[I9 hq] at pE;exact ahead w aj (ht w aj hq pE)
  ·intro w xv hw pE;exfalso;cases hq:gv ops k w with
   |true=>rw[Ja hq] at pE;cases pE
   |false=>rw[I9 hq] at pE;have:=F.lt k w HZ hw (ht w aj hq pE);omega
 ·have h2:=Ko N k aj;rw[hS] at h2;rw[I.round];exact h2.symm
def aaI(hc:sx ops k=ab){x:AV}{eL ep e1:Env}{hL hp:ae}{rest:List Nat}(dV:aG P G R ops [k] eL hL=aa (.panic x,ep,hp))
 (hs:∀t,(∀w,w<ops.size->gv ops k w=ak->eT ops w=aa t->Ord (Region.before (cut ops k)) w k)->e1.get t=eL.get t) (hd:e1.defers=eL.defers) (hq:e1.aX=eL.aX) (hr:e1.round=eL.round):
 ∃e2,aG P G R ops (k::rest) e1 hL=aa (.panic x,e2,hp)/\Ax ops k ep e2:=by
 obtain⟨hk,bC⟩:=Ab hc;have ho:ops[k]?=aa ops[k]:=fW aj;have alike:Alike ops eL e1 ops[k]:=by
  intro t ht;refine(hs t λw hw BE Er=>?_).symm;have hx:ops[w]?=aa ops[w]:=fW hw;cases bC w hw with
  |self q=>subst q;rw[Iw] at BE;cases BE
  |ahead _ _ _ q=>exact q|beside _ _ _ q=>exfalso;unfold kQ at q;simp only[hx,ho,aL] at q;rw[vi hx] at Er;exact(Oper.apart_spec q.1).1 t Er ht|behind _ q _=>rw[BE] at q;cases q
 rw[aG] at dV ⊢;rw[ho] at dV ⊢;simp only at dV ⊢;rw[<-tM alike];cases hw:cd ops eL ops[k] with
 |none=>rw[hw] at dV;cases dV
 |some b=>
  rw[hw] at dV;cases b with
  |false=>simp[aG] at dV|true=>
   simp only at dV ⊢;cases aR:cA P G R eL hL ops[k] with
   |none=>rw[aR] at dV;cases dV
   |some q=>
    obtain⟨r,e2,h2⟩:=q;rw[aR] at dV;cases r with
    |ret y=>simp[aG] at dV|panic y=>
     simp only[aY,aW,Xt.panic.injEq] at dV;obtain⟨rfl,rfl,rfl⟩:=dV;rw[Jq (e2:=e1) (yB alike) hd hq hr aR];refine⟨_,rfl,?_⟩;have hw:=Jr aR;rw[hw];refine⟨λt ht=>?_,rfl,rfl,hr.symm⟩;refine(hs t λw hw BE Er=>?_).symm;refine Classical.byContradiction λbV=>ht w hw ?_;unfold AP;rw[ax]
     ·exact Er
     ·intro q;rw[BE,KE] at q;exact bV q
def Xf(hc:sx ops k=ab){e':Env}{h':ae}(N:aG P G R (cut ops k) (bt (cut ops k).size) e h=aa (.normal,e',h'))(F:Fits P G R (cut ops k) e h (Region.before (cut ops k)))
 {x:AV} {eL ep:Env} {hL hp:ae} (od:aG P G R ops (bt k) e h=aa (.normal,eL,hL)) (dV:aG P G R ops [k] eL hL=aa (.panic x,ep,hp)):∀(fuel t:Nat) (ba:Array Bool) (e1:Env) (h1:ae),ba.size=ops.size->ba.getD k ak=ak->
 Inv P G R (cut ops k) e h (Region.before (cut ops k)) (λj=>ba.getD j ak) e1 h1->(bt ops.size).countP (λj=> !ba.getD j ak)<=fuel->
 ∃e2,aG P G R ops (Region.linearise.go .any ops fuel t ba []) e1 h1=aa (.panic x,e2,hp)/\Ax ops k ep e2:=by
 have xI:=Ha ops k;obtain⟨hk,bC⟩:=Ab hc;intro fuel
 induction fuel with
 |zero=>intro t ba e1 h1 bG jQ I rn;have:=KP.1 (Av.1 rn) k (fP.2 aj);rw[jQ] at this;simp at this|succ fuel ih=>
  intro t ba e1 h1 bG jQ I rn;have vv:∀i,i<ops.size->ba.getD i ab=ba.getD i ak:=by intro i hi;have:i<ba.size:=(by omega);simp[this]
  simp only[Region.linearise.go];change ∃e2,aG P G R ops (match (Region.ready .any ops ba)[t%(Region.ready .any ops ba).length]? with
   |some i=>Region.linearise.go .any ops fuel (t/(Region.ready .any ops ba).length) (ba.setIfInBounds i ab) [i]
   |none=>[].reverse) e1 h1=aa (.panic x,e2,hp)/\Ax ops k ep e2
  have ready_of:∀i,i∈Region.ready .any ops ba↔i<ops.size/\ba.getD i ak=ak/\il (cut ops k) (λj=>ba.getD j ak) i:=by
   intro i;unfold Region.ready;rw[As,fP];constructor
   ·rintro⟨hi,hq⟩;rw[aL] at hq;obtain⟨qF,jP⟩:=hq;rw[vv i hi] at qF;refine⟨hi,by simpa using qF,λo ho ed cG cP=>?_⟩;have ha:=Mc (ops:=ops) (k:=k) i;rw[ho] at ha;cases kB:ops[i]? with
    |none=>rw[kB] at ha;cases ha
    |some o2=>rw[kB] at ha jP;simp only[cy,aY] at ha;rw[ha] at cG;simp only[cy,wQ,uQ] at jP;obtain⟨q,hq,rfl⟩:=F9 cG;have:=jP q hq;simpa [cP] using this
   ·rintro⟨hi,hq,hr⟩;refine⟨hi,?_⟩;rw[aL];refine⟨by rw[vv i hi];simp[hq],?_⟩;have ho:ops[i]?=aa ops[i]:=fW hi;have ha:=Mc (ops:=ops) (k:=k) i;rw[ho] at ha ⊢;cases kB:(cut ops k)[i]? with
    |none=>rw[kB] at ha;cases ha
    |some o2=>
     rw[kB] at ha;simp only[cy,aY] at ha;simp only[cy,wQ,uQ];intro q hq;cases hb:Region.binds .any ops[i].after[q] with|false=>rfl|true=>simpa using hr _ kB _ (by rw[ha];exact F8 hq) hb
  cases hi:(Region.ready .any ops ba)[t%(Region.ready .any ops ba).length]? with
  |none=>
   exfalso;have jO:Region.ready .any ops ba=[]:=by
    cases hr:Region.ready .any ops ba with|nil=>rfl|cons x xs=>rw[hr] at hi;have ay:t%(x::xs).length<(x::xs).length:=K6 _ bh;simp at hi;simp at ay;omega
   have cH:∀i,i<ops.size->ba.getD i ak=ab:=by
    intro i
    induction i using wP with
    |_ i ihi=>
     intro hi;cases hq:ba.getD i ak with|true=>rfl|false=>have:i∈Region.ready .any ops ba:=(ready_of i).2 ⟨hi,hq,λo ho ed cG cP=>by have ay:=F.tS i o ho ed cG cP;exact ihi ed.on ay (lZ ay hi)⟩;rw[jO] at this;cases this
   rw[cH k aj] at jQ;cases jQ
  |some i=>
   simp only[];have xz:=(ready_of i).1 (ie hi);obtain⟨cQ,BA,jx⟩:=xz;rw[linearise_go_acc,KX,KY];by_cases yU:i=k
   ·subst yU;obtain⟨v1,rfl,v3,v4,v5⟩:=aaN hc N F I jQ jx od;exact aaI hc dV v1 v3 v4 v5
   ·have ky:gv ops k i=ak/\rj ops k i=ab:=by
     cases bC i cQ with
     |self q=>exact absurd q yU|ahead q1 q2 _ _=>exact⟨q1,q2⟩|beside q1 q2 _ _=>exact⟨q1,q2⟩|behind _ _ q3=>
      exfalso;have ho:(cut ops k)[i]?=aa (cut ops k)[i]:=fW aj;obtain⟨ed,cG,cP,hq⟩:=F.bits i k _ ho aj q3;have hs:ba.getD ed.on ak=ab:=jx _ ho ed cG cP;have ay:=F.tS i _ ho ed cG cP;rcases hq with rfl|hq
      ·rw[jQ] at hs;cases hs
      ·have this:ba.getD k ak=ab:=I.closed k ed.on aj aj hs hq;rw[jQ] at this;cases this
    obtain⟨y,e2,h2,hs,I'⟩:=next N F I (by rw[xI];exact cQ) BA jx
    have pG:(λj=>(ba.setIfInBounds i ab).getD j ak)=bj (λj=>ba.getD j ak) i:=by
     funext j;unfold bj;have vy:i<ba.size:=(by omega);by_cases hq:j=i
     ·subst hq;rw[aB rfl];simp[r9,vy]
     ·rw[ax hq];simp[r9,Ne.symm hq]
    rw[aaM ky.1 ky.2] at hs;rw[I9 ky.1] at I';rw[ET hs];refine ih (t/(Region.ready .any ops ba).length) (ba.setIfInBounds i ab) (e2.put (eT ops i) y) h2 (by simpa using bG) ?_ (by rw[pG];exact I') (by
     refine tI.1 (lY (G9 (a:=i) (p:=λj=> !ba.getD j ak) ?_ (fP.2 cQ) (by simp only[BA];rfl) ?_) rn)
     ·intro j _ hj;have this:(ba.setIfInBounds i ab).getD j ak=bj (λj=>ba.getD j ak) i j:=congrFun pG j;rw[this] at hj;unfold bj at hj;split at hj
      ·cases hj
      ·exact hj
     ·have this:(ba.setIfInBounds i ab).getD i ak=bj (λj=>ba.getD j ak) i i:=congrFun pG i;rw[this];simp[bj])
    have this:(ba.setIfInBounds i ab).getD k ak=bj (λj=>ba.getD j ak) i k:=congrFun pG k;rw[this];unfold bj;rw[ax (Ne.symm yU)];exact jQ
def Jn{r}(h:oe r=ab):∃e h,r=aa (.normal,e,h):=by
 unfold oe at h;split at h
 ·exact⟨_,_,rfl⟩
 ·cases h
def Hd(hm:iU P G R ops e h k=ab){x:AV}{ep:Env}{hp:ae}(dV:aG P G R ops (bt (k+1)) e h=aa (.panic x,ep,hp))(t:Nat):
 ∃e2,aG P G R ops (Region.linearise .any ops t) e h=aa (.panic x,e2,hp)/\Ax ops k ep e2:=by
 unfold iU at hm;simp only[aL] at hm;obtain⟨hc,hf,hN,od,-⟩:=hm;obtain⟨e',h',N⟩:=Jn hN;obtain⟨eL,hL,od⟩:=Jn od;rw[u0,zA od] at dV;unfold Region.linearise;refine Xf hc N (pw hf) od dV ops.size t _ e h bh ?_ ?_ ?_
 ·rw[tA,An];split<;>rfl
 ·have:(λj=>(wL ops.size ak).getD j ak)=λ_=>ak:=by funext j;rw[tA];rw[An];split<;>rfl
  rw[this];exact xP N
 ·exact cY KQ bh
def VD(f)(t):∀(l:List Nat) (s:kO),(AO f l s).get t=.bad∨((AO f l s).get t=s.get t/\∀i∈l,f i≠aa t):=by
 intro l
 induction l with
 |nil=>intro s;exact .inr ⟨rfl,λi hi=>(nomatch hi)⟩|cons i r ih=>
  intro s;rw[AO];cases hf:f i with
  |none=>
   rcases ih s with q|⟨q1,q2⟩
   ·exact .inl q
   ·exact .inr ⟨q1,λj hj=>by
     rcases fe.1 hj with e|e
     ·rw[e,hf];exactλw=>nomatch w
     ·exact q2 j e⟩
  |some u=>
   simp only;rcases ih (s.set u .bad) with q|⟨q1,q2⟩
   ·exact .inl q
   ·by_cases hu:u=t
    ·left;rw[q1,hu];exact(zl s t t .bad).trans (aB rfl)
    ·right;refine⟨?_,λj hj=>?_⟩
     ·rw[q1];exact(zl s u t .bad).trans (ax hu)
     ·rcases fe.1 hj with e|e
      ·rw[e,hf];exactλw=>hu (Option.some.inj w)
      ·exact q2 j e
def VE(e:Env)(t:Nat):(qm ops k e).get t=.bad∨((qm ops k e).get t=e.get t/\∀i,i<ops.size->AP ops k i≠aa t):=by
 rcases VD (AP ops k) t (bt ops.size) e.tmps with q|⟨q1,q2⟩
 ·exact .inl q
 ·exact .inr ⟨q1,λi hi=>q2 i (fP.2 hi)⟩
def Jd(hm:iU P G R ops e h k=ab):∃x ep hp,aG P G R ops (bt (k+1)) e h=aa (.panic x,ep,hp)/\∀n,k+1<=n->aG P G R ops (bt n) e h=aa (.panic x,ep,hp):=by
 unfold iU at hm;simp only[aL] at hm;have hp:=hm.2.2.2.2;have key:∀(l2:List Nat) (l1:List Nat) (e:Env) (h:ae) {x:AV} {ep:Env} {hp:ae},aG P G R ops l1 e h=aa (.panic x,ep,hp)->aG P G R ops (l1++l2) e h=aa (.panic x,ep,hp):=by
  intro l2 l1
  induction l1 with
  |nil=>intro e h x ep hp q;cases q
  |cons i l ih=>
   intro e h x ep hp q;rw[bR];rw[aG] at q ⊢;cases ho:ops[i]? with
   |none=>rw[ho] at q;cases q
   |some o=>
    rw[ho] at q;simp only at q ⊢;cases hw:cd ops e o with
    |none=>rw[hw] at q;cases q
    |some b=>
     rw[hw] at q;cases b with
     |false=>exact ih _ _ q|true=>
      simp only at q ⊢;cases aR:cA P G R e h o with
      |none=>rw[aR] at q;cases q
      |some z=>
       obtain⟨r,e2,h2⟩:=z;rw[aR] at q;cases r with|ret y=>exact ih _ _ q|panic y=>exact q
 unfold BI at hp;split at hp
 ·rename_i x ep hq gP;refine⟨x,ep,hq,gP,λn hn=>?_⟩;have e1:bt n=bt (k+1)++(bt (n - (k+1))).map (k+1+·):=by have:=List.range_add (n:=k+1) (m:=n - (k+1));rw[Nat.add_sub_cancel' hn] at this;exact this
  rw[e1];exact key _ _ _ _ gP
 ·cases hp
def Jb(hm:iU P G R ops e h k=ab):k+1<ops.size:=by unfold iU at hm;simp only[aL] at hm;exact(Ab hm.1).1
def aaL{k2:Nat}(h1:iU P G R ops e h k=ab)(h2:iU P G R ops e h k2=ab):k=k2:=by
 have aux:∀{a b:Nat},iU P G R ops e h a=ab->iU P G R ops e h b=ab->¬a<b:=by intro a b ha hb ay;obtain⟨x,ep,hp,-,q⟩:=Jd ha;have q:=q b ay;unfold iU at hb;simp only[aL] at hb;have hn:=hb.2.2.2.1;rw[q] at hn;cases hn
 have a:=aux h1 h2;have b:=aux h2 h1;omega
def aaH(hm:iU P G R ops e h k=ab):(bt ops.size).find? (iU P G R ops e h)=aa k:=by
 cases hf:(bt ops.size).find? (iU P G R ops e h) with
 |none=>have:=List.find?_eq_none.1 hf k (fP.2 (by have:=Jb hm;omega));rw[hm] at this;exact absurd rfl this
 |some j=>rw[aaL (RY hf) hm]
def zn{r:Xt × Env × ae}(hr:oO P G R ops e h=aa r):∃k x ep hp,iU P G R ops e h k=ab/\aG P G R ops (bt (k+1)) e h=aa (.panic x,ep,hp)/\r=(.panic x,qm ops k ep,hp):=by
 unfold oO at hr;split at hr
 ·rename_i k hk;split at hr
  ·rename_i x e1 h1 hq;injection hr with hr;exact⟨k,x,e1,h1,RY hk,hq,hr.symm⟩
  ·cases hr
 ·cases hr
def I7(hm:iU P G R ops e h k=ab){x:AV}{ep:Env}{hp:ae}(hq:aG P G R ops (bt (k+1)) e h=aa (.panic x,ep,hp)):oO P G R ops e h=aa (.panic x,qm ops k ep,hp):=by unfold oO;rw[aaH hm];simp only[hq]
def aaK(hm:iU P G R ops e h k=ab)(hl:pP ops=ab):oe (aG P G R (eg ops) (bt (eg ops).size) e h)=ak:=by
 have hk:=Jb hm;obtain⟨x,ep,hp,-,q⟩:=Jd hm;have q:=q (ops.size - 1) aj;cases hq:oe (aG P G R (eg ops) (bt (eg ops).size) e h) with
 |false=>rfl|true=>
  exfalso;obtain⟨e2,h2,N⟩:=Jn hq;rw[Ep] at N;have e1:ops.size=(ops.size - 1)+1:=by omega
  rw[e1,u0] at N;obtain⟨e3,h3,n1,-⟩:=uB.1 N;rw[I0 hl (λi hi=>by have:=fP.1 hi;omega),q] at n1;cases n1
def I8{id:Nat}{r:Xt × Env × ae}(hr:oO P G R ops e h=aa r):dB P G R (.region id ops ab) e h=aa r:=by
 obtain⟨k,x,ep,hp,hm,hq,rfl⟩:=zn hr;have hk:=Jb hm;obtain⟨x2,ep2,Br,q0,q⟩:=Jd hm;have q:=q ops.size aj;simp only[dB,if_true];by_cases hf:gN P G R ops e h=ab
 ·rw[aB hf,q];simp only;rw[ax]
  ·exact hr
  ·intro w;simp only[aL] at w;rw[aaK hm w.1] at w;exact absurd w.2.2 bq
 ·rw[ax hf];split
  ·rw[q];exact hr
  ·exact hr
end
end Go.AE
end
section
namespace Go.AE
open Go.RowKit (Below)
section
variable {P:aQ} {G:Nat->Option (List AV)} {w0:aT} {R:Rec}
def Steps.tail{m m1 m2:Machine}(h:step P m=.next m1)(hs:Steps P m m2)(bL:m≠m2):Steps P m1 m2:=by
 obtain⟨n,hn⟩:=hs;cases n with|zero=>simp[runN] at hn;exact absurd hn bL|succ n=>simp only[runN,h] at hn;exact⟨n,hn⟩
def EA{fr fr'}{cs bu}{w w'}(h:lone fr cs w=lone fr' bu w'):fr=fr':=by unfold lone at h;simp only[Machine.mk.injEq,Array.mk.injEq,C4,Goroutine.mk.injEq] at h;exact h.2.1.1.1
def lv.swap{K:aH}{m m1 m':Machine}{B:cW}{k:List Item}{c:Code}{cs cs0:List cW}{x:Xt}{a a0:Act}{w wz:aT}(hc:∀id,c≠ .exit id)(qu:c≠ .ret)(hm:m=lone (B.atR a0 (.code c::k)) cs0 wz)
 (h1:step P m=.next m1) (h2:step P m'=.next m1) (h:lv P K m B k cs x a w):lv P K m' B k cs x a w:=by
 refine lv.of_steps (.one h2) ?_;cases x with
 |normal=>refine Steps.tail h1 h ?_;rw[hm];intro hq;have:=congrArg Frame.todo (EA hq);simp only[Frame.atR] at this;exact absurd (congrArg List.length this) bh|exit id=>obtain⟨t,e1,e2⟩:=h;refine⟨t,e1,Steps.tail h1 e2 ?_⟩;rw[hm];intro hq;have:=congrArg Frame.todo (EA hq);simp only[Frame.atR,C4,Item.code.injEq] at this;exact hc id this.1
 |ret=>obtain⟨t,e2⟩:=h;refine⟨t,Steps.tail h1 e2 ?_⟩;rw[hm];intro hq;have:=congrArg Frame.todo (EA hq);simp only[Frame.atR,C4,Item.code.injEq] at this;exact qu this.1
 |panic x=>obtain⟨t,v,e1,e2⟩:=h;refine⟨t,v,e1,Steps.tail h1 e2 ?_⟩;rw[hm];intro hq;have:=congrArg Frame.mode (EA hq);simp[Frame.atR] at this
def Left.refl{K:aH}{w:aT}{a:Act}{B:cW}{ms:List Nat}{base cs:List cW}{k:List Item}{m:Machine}{out:Xt}{e:Env}{h:ae}(hf:gk P K e a B ms)(aZ:CS K B.kind base e.aX cs)(hs:fQ P G w0 K h w)(ha:lv P K m B k cs out a w):
 Left P G w0 K ms B base m k a.tmps.size out e h K w a cs ms:=
 ⟨.refl K,hs,hf,aZ,rfl,λ_ hr=>.inl hr,ha⟩
def Left.of_steps{K K':aH}{w':aT}{a':Act}{B:cW}{ms ms':List Nat}{base bu:List cW}{k:List Item}{m m1:Machine}{out:Xt}{e':Env}{h':ae}{n:Nat}(hs:Steps P m m1)(L:Left P G w0 K ms B base m1 k n out e' h' K' w' a' bu ms'):
 Left P G w0 K ms B base m k n out e' h' K' w' a' bu ms':=
 ⟨L.le,L.jY,L.frame,L.cs,L.size,L.marks,L.arr.of_steps hs⟩
def uC(hn:tK P)(hR:o7 P G w0 R){ops:Array Oper}:∀(l:List Nat) (e:Env) (h:ae) (out:Xt) (e':Env) (h':ae),aG P G R ops l e h=aa (out,e',h')->
 ∀(K:aH) (w:aT) (a:Act) (B:cW) (k:List Item) (base cs:List cW) (ms:List Nat),gk P K e a B ms->CS K B.kind base e.aX cs->fQ P G w0 K h w->pT a.tmps.size ops=ab->
 ∃K' w' a' bu,Left P G w0 K ms B base (lone (B.atR a (.inRegion ops l::k)) cs w) k a.tmps.size out e' h' K' w' a' bu ms:=by
 intro l
 induction l with
 |nil=>intro e h out e' h' he K w a B k base cs ms hf aZ hs jw;simp only[aG,aY,aW] at he;obtain⟨rfl,rfl,rfl⟩:=he;exact⟨K,w,a,cs,.refl hf aZ hs (.one stepR_region_end)⟩
 |cons i rest ih=>
  intro e h out e' h' he K w a B k base cs ms hf aZ hs jw;simp only[aG] at he;cases ho:ops[i]? with
  |none=>rw[ho] at he;cases he
  |some o=>
   rw[ho] at he;simp only at he;have xn:=zz jw ho;cases hw:cd ops e o with
   |none=>rw[hw] at he;cases he
   |some b=>
    rw[hw] at he;have uo:=QY hf.dN jw hw;cases b with
    |false=>simp only at he;have gi:=stepR_op_skip (P:=P) (b:=B) (a:=a) (k:=k) (cs:=cs) (w:=w) (ops:=ops) (i:=i) (rest:=rest) (by rw[ho];simpa using uo);have hb:(ops[i]?).bind (·.dst)=o.dst:=(by rw[ho];rfl);rw[hb] at gi;obtain⟨K',w',a',bu,L⟩:=ih _ _ _ _ _ he K w (a.put o.dst undef) B k base cs ms (hf.put xn (.tuple [] #[] .nil)) (by cases o.dst<;>exact aZ) hs (by rw[oi];exact jw);rw[oi] at L;exact⟨K',w',a',bu,.of_steps (.one gi) L⟩
    |true=>
     simp only at he;cases aR:cA P G R e h o with
     |none=>rw[aR] at he;cases he
     |some q=>
      obtain⟨r,e1,h1⟩:=q;rw[aR] at he;obtain⟨K1,w1,a1,cs1,le1,s1,f1,c1,z1,qG⟩:=O2 (i:=i) (rest:=rest) hn hR aR hf aZ hs ho uo k;cases r with
      |ret x=>obtain⟨v,hx,bC⟩:=qG;simp only at he;obtain⟨K',w',a',bu,L⟩:=ih _ _ _ _ _ he K1 w1 (a1.put o.dst v) B k base cs1 ms (f1.put (by rw[z1];exact xn) hx) (by cases o.dst<;>exact c1) s1 (by rw[oi,z1];exact jw);rw[oi,z1] at L;refine⟨K',w',a',bu,le1.trans L.le,L.jY,L.frame,L.cs,L.size,λr hr=>.inl hr,L.arr.of_steps bC⟩
      |panic x=>obtain⟨v,todo,hx,bC⟩:=qG;simp only[aY,aW] at he;obtain⟨rfl,rfl,rfl⟩:=he;exact⟨K1,w1,a1,cs1,le1,s1,f1,c1,z1,λr hr=>.inl hr,todo,v,hx,bC⟩
def gk.same{K:aH}{e e2:Env}{a:Act}{B:cW}{ms:List Nat}(hf:gk P K e a B ms)(hs:iD e e2):gk P K e2 a B ms:=by
 refine⟨λt=>?_,hs.defers ▸ hf.defers,?_,hf.fn⟩
 ·have:=hs.dN t;unfold Env.get at this;rw[<-this];exact hf.dN t
 ·have:=hf.round;rw[hs.round,hs.defers] at this;exact this
def gk.Ji{K:aH}{e e2:Env}{a:Act}{B:cW}{ms:List Nat}{ops:Array Oper}{k:Nat}(hf:gk P K e2 a B ms)(hs:Ax ops k e e2):gk P K (qm ops k e) a B ms:=by
 refine⟨λt=>?_,hs.defers ▸ hf.defers,?_,hf.fn⟩
 ·rcases VE (ops:=ops) (k:=k) e t with q|⟨q,q2⟩
  ·have q:(qm ops k e).tmps.get t=.bad:=q;rw[q];exact .bad _
  ·have q:(qm ops k e).tmps.get t=e.get t:=q;have:=hs.dN t q2;rw[q,this];exact hf.dN t
 ·have:=hf.round;rw[<-hs.round,<-hs.defers] at this;exact this
def aaB{n:Nat}{ps:Array Tmp}(h:(ps.all λp=>decide (p<n))=ab):∀p∈ps.toList,p<n:=by intro p hp;rw[F6] at h;simpa using h p (Array.mem_toList_iff.1 hp)
end
end Go.AE
end
section
namespace Go.AE
section
variable {P:aQ} {G:Nat->Option (List AV)} {R:Rec} {ops:Array Oper} {i:Nat}
def tT:(j8 ops i).size=ops.size:=by simp[j8]
def DM(k:Nat):(j8 ops i)[k]?=(ops[k]?).map λo=>if k=i+1 then {o with after:=o.after.push {on:=i,ground:=.data}} else o:=by unfold j8;simp only[iB,yv,sd]
def VM(k:Nat):((j8 ops i)[k]?).bind (·.dst)=(ops[k]?).bind (·.dst):=by
 rw[DM];cases ops[k]? with|none=>rfl|some o=>simp only[cy,qZ];split<;>rfl
def af5(e:Env)(o:Oper):cd (j8 ops i) e o=cd ops e o:=by
 unfold cd;cases o.guard with|none=>rfl|some g=>simp only[VM]
def Js:∀(L:List Nat) (e:Env) (h:ae),aG P G R (j8 ops i) L e h=aG P G R ops L e h:=by
 intro L
 induction L with
 |nil=>intro e h;rfl|cons k L ih=>
  intro e h;unfold aG;rw[DM];cases ho:ops[k]? with
  |none=>rfl|some o=>
   simp only[cy];have e1:∀o':Oper,o'.op=o.op->o'.type=o.type->o'.guard=o.guard->o'.dst=o.dst->(cd (j8 ops i) e o'=cd ops e o/\cA P G R e h o'=cA P G R e h o):=(by intro o' q1 q2 q3 q4;refine⟨by rw[af5];unfold cd;rw[q3],?_⟩;unfold cA;rw[q1,q2,q4]);by_cases hk:k=i+1
   ·rw[aB hk];obtain⟨q1,q2⟩:=e1 {o with after:=o.after.push {on:=i,ground:=.data}} rfl rfl rfl rfl;rw[q1,q2];simp only[ih]
   ·rw[ax hk];obtain⟨q1,q2⟩:=e1 o rfl rfl rfl rfl;rw[q1];simp only[ih]
def xW{S:Nat->Bool}{k:Nat}(hr:il ops S k)(hk:k=i+1->S i=ab):il (j8 ops i) S k:=by
 intro o ho ed cG hb;rw[DM] at ho;cases hq:ops[k]? with
 |none=>rw[hq] at ho;cases ho
 |some o0=>
  rw[hq] at ho;simp only[cy,aY] at ho;split at ho
  ·rename_i qB;subst ho;rcases Gb.1 cG with q|q
   ·exact hr o0 hq ed q hb
   ·subst q;exact hk qB
  ·subst ho;exact hr o0 hq ed cG hb
def Oz:∀(L:List Nat) (S:Nat->Bool),S i=ab->iC ops S L->iC (j8 ops i) S L:=by
 intro L
 induction L with
 |nil=>intro S _ h j hj;exact h j (by rw[tT] at hj;exact hj)
 |cons k L ih=>
  intro S hS h;obtain⟨h1,h2,h3,h4⟩:=h;refine⟨by rw[tT];exact h1,h2,xW h3 λ_=>hS,ih _ ?_ h4⟩;unfold bj;split
  ·rfl
  ·exact hS
end
end Go.AE
end
section
namespace Go.AE
section
variable {K:aH} {G:Nat->Option (List AV)} {ok:bF->Nat->Code->Bool} {w0 w:aT} {h:ae}
def bg.SW(s:bg K G ok w0 h w){g:Nat}{cs:List AV}{cells:Array aC}{e:aE}(hg:w.heap[g]?=aa (.cells cells e (0,0)))(nZ:K.base<=g)(hβ:∀b:Nat,K.β[b]?≠aa g)(iu:∀j,K.ic g j=ah)(nC:∀t,alive h t=ab->(K.tk t).1≠g)
 (hv:aM K cs cells.toList) (mg:cs.all AV.eM=ab):bg (K.box g) G ok w0 {h with boxes:=h.boxes++[cs]} w/\aI (K.box g) (.ptr (.box h.boxes.length) 0) (.pointer (aa ⟨g,0,ah⟩)):=by
 have le:=K.zf g;have kX:(K.box g).β[h.boxes.length]?=aa g:=by simp[aH.box,aH.kR,<-s.ga]
 refine⟨⟨s.cr,s.size,s.ic,λg' bu HR=>?_,by simp[aH.box,aH.kR,s.ga],λb b' g' hb eJ=>?_,λb g' bu hb hc=>?_,s.j4,s.na,λl g' r hl hr=>?_,s.tn,λt ht=>?_,s.mD,s.md,s.all⟩,.box _ _ _ kX⟩
 ·obtain⟨bY,h1,h2⟩:=s.dj g' bu HR;exact⟨bY,h1.mono le,h2⟩
 ·rcases kS hb with p|⟨p1,p2⟩<;>rcases kS eJ with q|⟨q1,q2⟩
  ·rcases s.mF _ _ _ p q with r|r|r
   ·exact .inl r
   ·exact .inr (.inl (pz r))
   ·exact .inr (.inr (pz r))
  ·rw[<-q2] at hβ;exact absurd p (hβ b)
  ·rw[<-p2] at hβ;exact absurd q (hβ b')
  ·exact .inl aj
 ·rcases kS hb with hb|⟨rfl,rfl⟩
  ·rcases kS hc with hc|⟨rfl,rfl⟩
   ·obtain⟨h1,h2,ha,bY,e',h3,h4⟩:=s.box b g' bu hb hc;exact⟨h1,h2,ha,bY,e',h3,h4.mono le (aF.1 hb).1⟩
   ·have:h.boxes.length<K.β.length:=(aF.1 hb).1;have:=s.ga;omega
  ·have:bu=cs:=(by rw[s.ga] at hc;simp at hc;exact hc.symm);subst this;refine⟨nZ,iu,mg,cells,e,hg,hv.whole.mono le,λN sz room q=>?_⟩;have q2:(if K.β.length=K.β.length then (ah:Option (Nat × Nat × Nat)) else K.lb K.β.length)=aa (N,sz,room):=q;rw[aB rfl] at q2;cases q2
 ·obtain⟨h1,fn,tmps,d,h2,h3,h4⟩:=s.loop l g' r hl hr;exact⟨h1,fn,tmps,d,h2,h3.mono le,h4⟩
 ·obtain⟨h1,h2,h3,bY,e',fz,h4,h5⟩:=s.tok t ht;refine⟨h1,λb hb=>?_,h3,bY,e',fz,h4,h5⟩;rcases kS hb with hb|⟨_,hb⟩
  ·exact h2 b hb
  ·exact nC t ht hb
end
end Go.AE
end
section
namespace Go.AE
open Go.RowKit (Below)
section
variable {P:aQ} {G:Nat->Option (List AV)} {w0:aT} {R:Rec}
def abZ(hn:tK P)(hR:o7 P G w0 R){ops:Array Oper}:∀(l:List Nat) (e:Env) (h:ae) (e':Env) (h':ae),aG P G R ops l e h=aa (.normal,e',h')->
 ∀(K:aH) (w:aT) (a:Act) (B:cW) (k:List Item) (base cs:List cW) (ms:List Nat) (rest:List Nat),gk P K e a B ms->CS K B.kind base e.aX cs->fQ P G w0 K h w->pT a.tmps.size ops=ab->
 ∃K' w' a' bu,K.Le K'/\fQ P G w0 K' h' w'/\gk P K' e' a' B ms/\CS K' B.kind base e'.aX bu/\a'.tmps.size=a.tmps.size/\Steps P (lone (B.atR a (.inRegion ops (l++rest)::k)) cs w) (lone (B.atR a' (.inRegion ops rest::k)) bu w'):=by
 intro l
 induction l with
 |nil=>intro e h e' h' he K w a B k base cs ms rest hf aZ hs jw;simp only[aG,aY,aW,true_and] at he;obtain⟨rfl,rfl⟩:=he;exact⟨K,w,a,cs,.refl K,hs,hf,aZ,rfl,⟨0,rfl⟩⟩
 |cons i l ih=>
  intro e h e' h' he K w a B k base cs ms rest hf aZ hs jw;simp only[aG] at he;cases ho:ops[i]? with
  |none=>rw[ho] at he;cases he
  |some o=>
   rw[ho] at he;simp only at he;have xn:=zz jw ho;cases hw:cd ops e o with
   |none=>rw[hw] at he;cases he
   |some b=>
    rw[hw] at he;have uo:=QY hf.dN jw hw;cases b with
    |false=>simp only at he;have gi:=stepR_op_skip (P:=P) (b:=B) (a:=a) (k:=k) (cs:=cs) (w:=w) (ops:=ops) (i:=i) (rest:=l++rest) (by rw[ho];simpa using uo);have hb:(ops[i]?).bind (·.dst)=o.dst:=(by rw[ho];rfl);rw[hb] at gi;obtain⟨K',w',a',bu,g1,g2,g3,g4,g5,g6⟩:=ih _ _ _ _ he K w (a.put o.dst undef) B k base cs ms rest (hf.put xn (.tuple [] #[] .nil)) (by cases o.dst<;>exact aZ) hs (by rw[oi];exact jw);rw[oi] at g5;exact⟨K',w',a',bu,g1,g2,g3,g4,g5,(Steps.one gi).trans g6⟩
    |true=>
     simp only at he;cases aR:cA P G R e h o with
     |none=>rw[aR] at he;cases he
     |some q=>
      obtain⟨r,e1,h1⟩:=q;rw[aR] at he;obtain⟨K1,w1,a1,cs1,le1,s1,f1,c1,z1,qG⟩:=O2 (i:=i) (rest:=l++rest) hn hR aR hf aZ hs ho uo k;cases r with
      |ret x=>obtain⟨v,hx,bC⟩:=qG;simp only at he;obtain⟨K',w',a',bu,g1,g2,g3,g4,g5,g6⟩:=ih _ _ _ _ he K1 w1 (a1.put o.dst v) B k base cs1 ms rest (f1.put (by rw[z1];exact xn) hx) (by cases o.dst<;>exact c1) s1 (by rw[oi,z1];exact jw);rw[oi,z1] at g5;exact⟨K',w',a',bu,le1.trans g1,g2,g3,g4,g5,bC.trans g6⟩
      |panic x=>simp at he
def Lu{K:aH}{ok:bF->Nat->Code->Bool}{h:ae}{w:aT}(s:bg K G ok w0 h w){t:aE}{cs:List AV}(hz:(fa P t).bind AV.cF=aa cs):
 ∃cells:Array aC,aM K cs cells.toList/\cs.all AV.eM=ab/\(Instr.alloc t ab (.tuple #[])).run P w=.ok (.pointer (aa ⟨w.heap.size,0,ah⟩)) {w with heap:=w.heap.push (.cells cells t)}:=by
 obtain⟨z,fY,gI,rH⟩:=wJ (K:=K) hz w;exact⟨z.cells,gI,rH,by simp[Instr.alloc,fY,newVar,newRow]⟩
structure C0(d:Tmp)(e eh:Env):Prop where
 dN:∀t,t≠d->e.get t=eh.get t
 defers:e.defers=eh.defers
 aX:e.aX=eh.aX
 round:e.round=eh.round
def zj(ops:Array Oper)(d:Tmp)(m:Nat):Prop:=∃o t x,ops[m]?=aa o/\o.op=.load t x/\o.guard=ah/\x≠ .tmp d/\o.dst≠aa d
def C0.eval{d}{e eh}(b:C0 d e eh){x}(hx:x≠ .tmp d):e.eval x=eh.eval x:=by
 cases x with|tmp t=>exact b.dN t λq=>hx (by rw[q])|_=>rfl
def aam{K:aH}{ops:Array Oper}{w:aT}{B:cW}{k:List Item}{cs:List cW}{ms rest:List Nat}{d:Tmp}{v2:aC}:∀(mid:List Nat) (e eh:Env) (h:ae) (em:Env) (hm:ae) (a:Act),aG P G R ops mid e h=aa (.normal,em,hm)->C0 d e eh->fQ P G w0 K h w->gk P K eh a B ms->pT a.tmps.size ops=ab->
 a.tmps.getD d undef=v2->(∀m∈mid,zj ops d m)->∃ehm am,hm=h/\C0 d em ehm/\gk P K ehm am B ms/\am.tmps.getD d undef=v2/\am.tmps.size=a.tmps.size/\Steps P (lone (B.atR a (.inRegion ops (mid++rest)::k)) cs w) (lone (B.atR am (.inRegion ops rest::k)) cs w):=by
 intro mid
 induction mid with
 |nil=>intro e eh h em hm a he hb hs hf jw hv hl;simp only[aG,aY,aW,true_and] at he;obtain⟨rfl,rfl⟩:=he;exact⟨eh,a,rfl,hb,hf,hv,rfl,⟨0,rfl⟩⟩
 |cons m mid ih=>
  intro e eh h em hm a he hb hs hf jw hv hl;obtain⟨o,t,x,ho,aR,hg,hx,hd⟩:=hl m dQ;simp only[aG,ho,cd,hg] at he;have Bs:cA P G R e h o=(dz P G h t (e.eval x)).map λy=>(.ret y,e,h):=by unfold cA;rw[aR];simp[cB];rfl
  rw[Bs] at he;cases hy:dz P G h t (e.eval x) with
  |none=>rw[hy] at he;cases he
  |some y=>
   rw[hy] at he;simp only[cy] at he;rw[hb.eval hx] at hy;obtain⟨g,p,v,q1,q2,q3⟩:=IZ hs hy (tW hf.dN x);have xn:=zz jw ho;have gi:step P (lone (B.atR a (.inRegion ops (m::(mid++rest))::k)) cs w)=.next (lone (B.atR (a.put o.dst v) (.inRegion ops (mid++rest)::k)) cs w):=(by refine CF ho (by unfold Region.wanted;rw[hg]) ?_;rw[Oper.semAt_eq B.roundOf a.eval o (by rw[aR];intro c;simp)];unfold execOp;rw[aR];simp only[q1,Instr.loadAt,Instr.sureAddr,Sem.run_bind,q2,Result.andThen_ok,Sem.run_pure]);obtain⟨ehm,am,g1,g2,g3,g4,g5,g6⟩:=ih (e.put o.dst y) (eh.put o.dst y) h em hm (a.put o.dst v) he ⟨λt ht=>by rw[tc,tc,hb.dN t ht],by cases o.dst<;>exact hb.defers,by cases o.dst<;>exact hb.aX,by cases o.dst<;>exact hb.round⟩ hs (hf.put xn q3) (by rw[oi];exact jw)
    (by
     rw[<-hv];cases ua:o.dst with
     |none=>rfl|some q=>have:q≠d:=λe=>hd (by rw[ua,e]);simp[Act.put,tA,r9,this]) (λm hm=>hl m (dG _ hm))
   rw[oi] at g5;exact⟨ehm,am,g1,g2,g3,g4,g5,(Steps.one gi).trans g6⟩
def aal{ops:Array Oper}{d:Tmp}:∀{mid:List Nat} {e:Env} {h:ae} {em:Env} {hm:ae},(∀m∈mid,zj ops d m)->aG P G R ops mid e h=aa (.normal,em,hm)->em.aX=e.aX:=by
 intro mid
 induction mid with
 |nil=>intro e h em hm _ he;simp only[aG,aY,aW,true_and] at he;rw[<-he.1]|cons m mid ih=>
  intro e h em hm hl he;obtain⟨o,t,x,ho,aR,hg,-,-⟩:=hl m dQ;simp only[aG,ho,cd,hg] at he;have Bs:cA P G R e h o=(dz P G h t (e.eval x)).map λy=>(.ret y,e,h):=by unfold cA;rw[aR];simp[cB];rfl
  rw[Bs] at he;cases hy:dz P G h t (e.eval x) with
  |none=>rw[hy] at he;cases he
  |some y=>rw[hy] at he;simp only[cy] at he;have:=ih (λm hm=>hl m (dG _ hm)) he;rw[this];cases o.dst<;>rfl
def O0{e:Env}{h:ae}{o:Oper}{t:aE}(aR:o.op=.alloc t):cA P G R e h o=((fa P t).bind AV.cF).map λcs=>(.ret (h.box cs).1,e,(h.box cs).2):=by unfold cA;rw[aR];simp only[cB];cases (fa P t).bind AV.cF<;>rfl
def afq(hn:tK P)(hR:o7 P G w0 R){ops:Array Oper}{i:Nat}{d1 d2:Tmp}{t1 t2:aE}{o1 o2:Oper}(xD:ops[i]?=aa o1)(kB:ops[i+1]?=aa o2)(p1:o1.op=.alloc t1)(p2:o2.op=.alloc t2)(g1:o1.guard=ah)(g2:o2.guard=ah)(q1:o1.dst=aa d1)(q2:o2.dst=aa d2)(hd:d1≠d2)
 {pre mid post:List Nat} (hl:∀m∈mid,zj ops d2 m) {e e':Env} {h h':ae} (he:aG P G R ops (pre++(mid++(i::(i+1)::post))) e h=aa (.normal,e',h')):
 ∀(K:aH) (w:aT) (a:Act) (B:cW) (k:List Item) (base cs:List cW) (ms:List Nat),gk P K e a B ms->CS K B.kind base e.aX cs->fQ P G w0 K h w->pT a.tmps.size ops=ab->
 ∃K' w' a' bu,Left P G w0 K ms B base (lone (B.atR a (.inRegion ops (pre++((i+1)::(mid++(i::post))))::k)) cs w) k a.tmps.size .normal e' h' K' w' a' bu ms:=by
 intro K w a B k base cs ms hf aZ hs jw;obtain⟨e1,h1,n1,he⟩:=uB.1 he;obtain⟨em,hm,n2,sH⟩:=uB.1 he;obtain⟨K1,w1,a1,cs1,le1,s1,f1,c1,z1,ye⟩:=abZ hn hR pre e h e1 h1 n1 K w a B k base cs ms ((i+1)::(mid++(i::post))) hf aZ hs jw;have Ie:pT a1.tmps.size ops=ab:=by rw[z1];exact jw
 simp only[aG,xD,cd,g1,O0 p1] at sH;cases fY:(fa P t1).bind AV.cF with
 |none=>rw[fY] at sH;cases sH
 |some cz1=>
  rw[fY] at sH;simp only[cy,aG,kB,cd,g2,O0 p2] at sH;cases gI:(fa P t2).bind AV.cF with
  |none=>rw[gI] at sH;cases sH
  |some cz2=>
   rw[gI] at sH;simp only[cy,q1,q2] at sH;have Ya:=zz Ie xD;have Nb:=zz Ie kB;obtain⟨cells2,v2,ac2,run2⟩:=Lu s1 gI;have sA:fQ P G w0 K1 h1 {w1 with heap:=w1.heap.push (.cells cells2 t2)}:=s1.push _;have stepA:step P (lone (B.atR a1 (.inRegion ops ((i+1)::(mid++(i::post)))::k)) cs1 w1)=.next (lone (B.atR (a1.put o2.dst (.pointer (aa ⟨w1.heap.size,0,ah⟩))) (.inRegion ops (mid++(i::post))::k)) cs1 {w1 with heap:=w1.heap.push (.cells cells2 t2)}):=(by refine CF kB (by unfold Region.wanted;rw[g2]) ?_;rw[Oper.semAt_eq B.roundOf a1.eval o2 (by rw[p2];intro c;simp)];unfold execOp;rw[p2];simp only[Sem.run_bind,run2,Result.andThen_ok,Sem.run_pure]);have fA:gk P K1 (e1.put (aa d2) .bad) (a1.put o2.dst (.pointer (aa ⟨w1.heap.size,0,ah⟩))) B ms:=(by rw[q2];exact f1.put (by rw[<-q2];exact Nb) (.bad _));have NF:pT (a1.put o2.dst (.pointer (aa ⟨w1.heap.size,0,ah⟩))).tmps.size ops=ab:=(by rw[oi];exact Ie);obtain⟨ehm,am,jN,hb,fB,Ix,zB,stB⟩:=aam (rest:=i::post) (k:=k) (cs:=cs1) (d:=d2) (v2:=.pointer (aa ⟨w1.heap.size,0,ah⟩)) mid e1 (e1.put (aa d2) .bad) h1 em hm _ n2
    ⟨λt ht=>by rw[tc,ax (λq=>ht (by injection q with q;exact q.symm))],rfl,rfl,rfl⟩ sA fA NF
    (by rw[q2];simp[Act.put,tA,r9,Nb d2 q2]) hl
   subst jN;obtain⟨cells1,v1,ac1,run1⟩:=Lu sA fY;obtain⟨sB,r1⟩:=sA.EG t1 v1 ac1;have YY:pT am.tmps.size ops=ab:=(by rw[zB];exact NF);have gJ:step P (lone (B.atR am (.inRegion ops (i::post)::k)) cs1 {w1 with heap:=w1.heap.push (.cells cells2 t2)})=.next (lone (B.atR (am.put o1.dst (.pointer (aa ⟨(w1.heap.push (.cells cells2 t2)).size,0,ah⟩))) (.inRegion ops post::k)) cs1 {w1 with heap:=(w1.heap.push (.cells cells2 t2)).push (.cells cells1 t1)}):=(by refine CF xD (by unfold Region.wanted;rw[g1]) ?_;rw[Oper.semAt_eq B.roundOf am.eval o1 (by rw[p1];intro c;simp)];unfold execOp;rw[p1];simp only[Sem.run_bind,run1,Result.andThen_ok,Sem.run_pure]);have leB:=K1.zf (w1.heap.push (.cells cells2 t2)).size;have blt:∀{b g:Nat},K1.β[b]?=aa g->g<w1.heap.size:=λ{b g} hb=>(by have pB:b<hm.boxes.length:=(by rw[<-s1.ga];exact(aF.1 hb).1);obtain⟨_,_,_,_,_,h3,_⟩:=s1.box b g _ hb (cv pB);exact lt_of_heap h3);have ad:=sB.SW (g:=w1.heap.size) (cs:=cz2) (cells:=cells2) (e:=t2) (by simp[Array.getElem?_push]) s1.size
    (λb hb=>by
     rcases kS hb with p|⟨-,p⟩
     ·have:=blt p;omega
     ·simp at p)
    (λj=>by
     cases hc:K1.ic w1.heap.size j with
     |none=>exact hc|some c=>have:=s1.lt_of_cell hc;omega)
    (λt ht hq=>by obtain⟨_,_,_,_,_,_,h4,_⟩:=s1.tok t ht;have:=lt_of_heap h4;have hq:(K1.tk t).1=w1.heap.size:=hq;omega)
    (v2.mono leB) ac2
   obtain⟨sC,r2⟩:=ad;have leC:=(K1.box (w1.heap.push (.cells cells2 t2)).size).zf w1.heap.size;have fC:gk P ((K1.box (w1.heap.push (.cells cells2 t2)).size).box w1.heap.size) ((em.put (aa d1) (hm.box cz1).1).put (aa d2) ((hm.box cz1).2.box cz2).1) (am.put o1.dst (.pointer (aa ⟨(w1.heap.push (.cells cells2 t2)).size,0,ah⟩))) B ms:=by
    have fB':=fB.mono (leB.trans leC);have kA:=fB'.put (x:=(hm.box cz1).1) (v:=.pointer (aa ⟨(w1.heap.push (.cells cells2 t2)).size,0,ah⟩)) (dst:=o1.dst) (by rw[zB,oi];exact Ya) (r1.mono leC);refine⟨λt=>?_,?_,?_,kA.fn⟩
    ·by_cases ht:t=d2
     ·subst ht;have:(((em.put (aa d1) (hm.box cz1).1).put (aa t) ((hm.box cz1).2.box cz2).1)).tmps.get t=((hm.box cz1).2.box cz2).1:=(tc _ (aa t) _ t).trans (aB rfl);rw[this,q1];have:(am.put (aa d1) (.pointer (aa ⟨(w1.heap.push (.cells cells2 t2)).size,0,ah⟩))).tmps.getD t undef=am.tmps.getD t undef:=(by simp[Act.put,tA,r9,hd]);rw[this,Ix];exact r2
     ·have h3:=kA.dN t;have:(((em.put (aa d1) (hm.box cz1).1).put (aa d2) ((hm.box cz1).2.box cz2).1)).tmps.get t=(ehm.put o1.dst (hm.box cz1).1).tmps.get t:=(by refine(tc _ (aa d2) _ t).trans ?_;rw[ax (λq=>ht (by injection q with q;exact q.symm)),q1];refine(tc _ (aa d1) _ t).trans ?_;refine Eq.trans ?_ (tc ehm (aa d1) _ t).symm;rw[hb.dN t ht]);rw[this];exact h3
    ·have h3:=kA.defers;rw[q1] at h3 ⊢;show nf _ em.defers _ _;rw[hb.defers];exact h3
    ·have h3:=kA.round;rw[q1] at h3 ⊢;show match em.round with|none=>_|some l=>∃g,_/\_/\_/\_/\_/\em.defers=[]
     rw[hb.round,hb.defers];exact h3
   have cC:CS ((K1.box (w1.heap.push (.cells cells2 t2)).size).box w1.heap.size) B.kind base ((em.put (aa d1) (hm.box cz1).1).put (aa d2) ((hm.box cz1).2.box cz2).1).aX cs1:=(by have:em.aX=e1.aX:=aal hl n2;show CS _ _ _ em.aX _;rw[this];exact c1.mono (leB.trans leC));obtain⟨K',w',a',bu,L⟩:=uC hn hR post _ _ _ _ _ sH _ _ _ B k base cs1 ms fC cC sC (by rw[oi];exact YY);rw[oi,zB,oi,z1] at L;exact⟨K',w',a',bu,le1.trans (leB.trans (leC.trans L.le)),L.jY,L.frame,L.cs,L.size,λr hr=>.inl hr,L.arr.of_steps (((ye.trans (Steps.one stepA)).trans stB).trans (Steps.one gJ))⟩
end
end Go.AE
end
section
namespace Go.AE
section
variable {ops:Array Oper} {i:Nat}
def aai{d m:Nat}(h:Ez ops d m=ab):zj ops d m:=by
 unfold Ez at h;cases ho:ops[m]? with
 |none=>rw[ho] at h;cases h
 |some o=>
  rw[ho] at h;simp only[aL] at h;obtain⟨h1,h2,h3⟩:=h;cases aR:o.op<;>rw[aR] at h1<;>simp only[dP] at h1;rename_i t x;refine⟨o,t,x,ho,aR,by simpa using h2,?_,?_⟩
  ·intro q;subst q;simp at h1
  ·intro q;rw[q] at h3;simp at h3
def Mm{k j:Nat}:pk ops k j=ab↔∃o ed,ops[k]?=aa o/\ed∈o.after/\Region.binds .any ed=ab/\ed.on=j:=by
 unfold pk;cases ho:ops[k]? with
 |none=>simp|some o=>
  simp only[Rm,aL];constructor
  ·rintro⟨ed,h1,h2,h3⟩;exact⟨o,ed,rfl,h1,h2,iK h3⟩
  ·rintro⟨o',ed,h0,h1,h2,h3⟩;injection h0 with h0;subst h0;exact⟨ed,h1,h2,by rw[h3];exact Db j⟩
def Pw{S:Nat->Bool}{k j:Nat}(hr:il ops S k)(h:pk ops k j=ab):S j=ab:=by obtain⟨o,ed,h1,h2,h3,rfl⟩:=Mm.1 h;exact hr o h1 ed h2 h3
def ready_mono{S S':Nat->Bool}{k:Nat}(hr:il ops S k)(h:∀j,S j=ab->S' j=ab):il ops S' k:=λo ho ed cG hb=>h _ (hr o ho ed cG hb)
def Px{S:Nat->Bool}{k j:Nat}(hr:il ops (bj S j) k)(h:pk ops k j=ak):il ops S k:=by
 intro o ho ed cG hb;have:=hr o ho ed cG hb;unfold bj at this;split at this
 ·rename_i hq;exfalso;have:pk ops k j=ab:=Mm.2 ⟨o,ed,ho,cG,hb,hq⟩;rw[h] at this;cases this
 ·exact this
def B3(S)(a b):bj (bj S a) b=bj (bj S b) a:=by funext j;unfold bj;by_cases h1:j=a<;>by_cases h2:j=b<;>simp[h1,h2]
structure Gu(ops:Array Oper)(i:Nat)(d2:Tmp):Prop where
 lt:i+1<ops.size
 no:pk ops i (i+1)=ak
 all:∀k,k<ops.size->k≠i->k≠i+1->pk ops (i+1) k=ab∨pk ops k i=ab∨(Ez ops d2 k=ab/\pk ops k (i+1)=ak)
variable {d2:Tmp}
def aaJ(F:Gu ops i d2):∀(L:List Nat) (S:Nat->Bool),S i=ak->S (i+1)=ak->il ops S (i+1)->iC ops (bj S (i+1)) L->
 ∃mid post,L=mid++i::post/\(∀m∈mid,zj ops d2 m)/\iC (j8 ops i) S (mid++i::(i+1)::post):=by
 intro L
 induction L with
 |nil=>intro S h1 h2 h3 h;have:=h i (by have:=F.lt;omega);unfold bj at this;rw[ax aj,h1] at this;cases this
 |cons k L ih=>
  intro S yP AZ hr h;obtain⟨h1,h2,h3,h4⟩:=h;by_cases hk:k=i
  ·subst hk;refine⟨[],L,rfl,λm hm=>(nomatch hm),?_⟩;refine⟨by rw[tT];exact h1,yP,xW (Px h3 F.no) (λq=>by omega),by rw[tT];exact F.lt,?_,?_,?_⟩
   ·unfold bj;rw[ax aj];exact AZ
   ·refine xW (ready_mono hr λj hj=>?_) (λ_=>by unfold bj;rw[aB rfl]);unfold bj;split
    ·rfl
    ·exact hj
   ·rw[B3];refine Oz L _ ?_ h4;unfold bj;rw[aB rfl]
  ·by_cases mi:k=i+1
   ·subst mi;unfold bj at h2;rw[aB rfl] at h2;cases h2
   ·have MS:S k=ak:=(by unfold bj at h2;rw[ax mi] at h2;exact h2);rcases F.all k h1 hk mi with q|q|⟨q1,q2⟩
    ·have:=Pw hr q;rw[MS] at this;cases this
    ·have:=Pw h3 q;unfold bj at this;rw[ax aj,yP] at this;cases this
    ·have gQ:=Px h3 q2;rw[B3] at h4;obtain⟨mid,post,e1,e2,e3⟩:=ih (bj S k) (by unfold bj;rw[ax (Ne.symm hk)];exact yP) (by unfold bj;rw[ax (Ne.symm mi)];exact AZ)
      (ready_mono hr λj hj=>by unfold bj;split;rfl;exact hj) h4
     refine⟨k::mid,post,by rw[e1];rfl,λm hm=>?_,by rw[tT];exact h1,MS,xW gQ (λq=>absurd q mi),e3⟩;rcases fe.1 hm with e|e
     ·subst e;exact aai q1
     ·exact e2 m e
def afp(F:Gu ops i d2):∀(L:List Nat) (S:Nat->Bool),S i=ak->S (i+1)=ak->iC ops S L->
 iC (j8 ops i) S L∨∃pre mid post,L=pre++((i+1)::(mid++i::post))/\(∀m∈mid,zj ops d2 m)/\iC (j8 ops i) S (pre++(mid++i::(i+1)::post)):=by
 intro L
 induction L with
 |nil=>intro S h1 h2 h;have:=h i (by have:=F.lt;omega);rw[h1] at this;cases this
 |cons k L ih=>
  intro S yP AZ h;obtain⟨h1,h2,h3,h4⟩:=h;by_cases hk:k=i
  ·subst hk;exact .inl ⟨by rw[tT];exact h1,h2,xW h3 (λq=>by omega),Oz L _ (by unfold bj;rw[aB rfl]) h4⟩
  ·by_cases mi:k=i+1
   ·subst mi;obtain⟨mid,post,e1,e2,e3⟩:=aaJ F L S yP AZ h3 h4;exact .inr ⟨[],mid,post,by rw[e1];rfl,e2,e3⟩
   ·rcases ih (bj S k) (by unfold bj;rw[ax (Ne.symm hk)];exact yP) (by unfold bj;rw[ax (Ne.symm mi)];exact AZ) h4 with q|⟨pre,mid,post,e1,e2,e3⟩
    ·exact .inl ⟨by rw[tT];exact h1,h2,xW h3 (λq=>absurd q mi),q⟩
    ·exact .inr ⟨k::pre,mid,post,by rw[e1];rfl,e2,by rw[tT];exact h1,h2,xW h3 (λq=>absurd q mi),e3⟩
variable {P:aQ} {G:Nat->Option (List AV)} {w0:aT} {R:Rec}
def afo(hs:Ai ops i=ab):∃o1 o2 t1 t2 d1 d2,ops[i]?=aa o1/\ops[i+1]?=aa o2/\o1.op=.alloc t1/\o2.op=.alloc t2/\o1.guard=ah/\o2.guard=ah/\o1.dst=aa d1/\o2.dst=aa d2/\d1≠d2/\Gu ops i d2:=by
 unfold Ai at hs;cases xD:ops[i]? with
 |none=>rw[xD] at hs;cases hs
 |some o1=>
  cases kB:ops[i+1]? with
  |none=>rw[xD,kB] at hs;cases hs
  |some o2=>
   rw[xD,kB] at hs;simp only[aL] at hs;obtain⟨h1,h2,h3,h4⟩:=hs;cases Eg:o1.op<;>rw[Eg] at h1<;>try (simp at h1;done)
   cases Br:o2.op<;>rw[Br] at h1<;>try (simp at h1;done)
   cases iR:o1.dst with
   |none=>rw[iR] at h4;cases h4
   |some d1=>
    cases rp:o2.dst with
    |none=>rw[iR,rp] at h4;cases h4
    |some d2=>
     rw[iR,rp] at h4;simp only[aL,dn,fP,ly,wM] at h4;obtain⟨h4,h5,h6⟩:=h4;refine⟨o1,o2,_,_,d1,d2,rfl,rfl,Eg,Br,by simpa using h2,by simpa using h3,iR,rp,?_,(wK.1 kB).1,h5,λk hk k1 k2=>?_⟩
     ·intro q;subst q;rw[Db] at h4;cases h4
     ·rcases h6 k hk with(((q|q)|q)|q)|q
      ·exact absurd (iK q) k1
      ·exact absurd (iK q) k2
      ·exact .inl q
      ·exact .inr (.inl q)
      ·exact .inr (.inr q)
def TD(h:se (j8 ops i)):se ops:=by
 intro j o ho ed cG hb;have hg:(j8 ops i)[j]?=aa (if j=i+1 then {o with after:=o.after.push {on:=i,ground:=.data}} else o):=by rw[DM,ho];rfl
 refine h j _ hg ed ?_ hb;split
 ·exact Gb.2 (.inl cG)
 ·exact cG
def VJ(hn:tK P)(hR:o7 P G w0 R){e e':Env}{h h':ae}(hs:Ai ops i=ab)(hf:gN P G R (j8 ops i) e h=ab)(he:aG P G R ops (bt ops.size) e h=aa (.normal,e',h'))(tp:Nat):
 ∀(K:aH) (w:aT) (a:Act) (B:cW) (k:List Item) (base cs:List cW) (ms:List Nat),gk P K e a B ms->CS K B.kind base e.aX cs->fQ P G w0 K h w->pT a.tmps.size ops=ab->
 ∃e2 K' w' a' bu,iD e2 e'/\Left P G w0 K ms B base (lone (B.atR a (.inRegion ops (Region.linearise .any ops tp)::k)) cs w) k a.tmps.size .normal e2 h' K' w' a' bu ms:=by
 intro K w a B k base cs ms qy aZ za jw;have hE:aG P G R (j8 ops i) (bt (j8 ops i).size) e h=aa (.normal,e',h'):=by rw[tT,Js];exact he
 have hL:=IU (TD (Hn hf)) tp;obtain⟨o1,o2,t1,t2,d1,d2,a1,a2,a3,a4,a5,a6,a7,a8,a9,F⟩:=afo hs;rcases afp F _ _ rfl rfl hL with q|⟨pre,mid,post,q1,q2,q3⟩
 ·obtain⟨e2,ju,eK⟩:=BN hE (pw hf) _ _ _ _ (xP hE) q;rw[Js] at ju;obtain⟨K',w',a',bu,L⟩:=uC hn hR _ _ _ _ _ _ ju K w a B k base cs ms qy aZ za jw;exact⟨e2,K',w',a',bu,eK,L⟩
 ·obtain⟨e2,ju,eK⟩:=BN hE (pw hf) _ _ _ _ (xP hE) q3;rw[Js] at ju;obtain⟨K',w',a',bu,L⟩:=afq hn hR a1 a2 a3 a4 a5 a6 a7 a8 a9 q2 ju K w a B k base cs ms qy aZ za jw;rw[q1];exact⟨e2,K',w',a',bu,eK,L⟩
end
end Go.AE
end
section
namespace Go.AE
section
variable {ops:Array Oper} {i j:Nat} {P:aQ} {G:Nat->Option (List AV)} {R:Rec}
def po:(fq ops i j).size=ops.size:=by simp[fq]
def yK(k:Nat):(fq ops i j)[k]?=(ops[k]?).map λo=>if k=j then {o with after:=o.after.push {on:=i,ground:=.data}} else o:=by unfold fq;simp only[iB,yv,sd]
def Mn(k:Nat):((fq ops i j)[k]?).bind (·.dst)=(ops[k]?).bind (·.dst):=by
 rw[yK];cases ops[k]? with|none=>rfl|some o=>simp only[cy,qZ];split<;>rfl
def af6(e:Env)(o:Oper):cd (fq ops i j) e o=cd ops e o:=by
 unfold cd;cases o.guard with|none=>rfl|some g=>simp only[Mn]
def zy:∀(L:List Nat) (e:Env) (h:ae),aG P G R (fq ops i j) L e h=aG P G R ops L e h:=by
 intro L
 induction L with
 |nil=>intro e h;rfl|cons k L ih=>
  intro e h;unfold aG;rw[yK];cases ho:ops[k]? with
  |none=>rfl|some o=>
   simp only[cy];have e1:∀o':Oper,o'.op=o.op->o'.type=o.type->o'.guard=o.guard->o'.dst=o.dst->(cd (fq ops i j) e o'=cd ops e o/\cA P G R e h o'=cA P G R e h o):=(by intro o' q1 q2 q3 q4;refine⟨by rw[af6];unfold cd;rw[q3],?_⟩;unfold cA;rw[q1,q2,q4]);by_cases hk:k=j
   ·rw[aB hk];obtain⟨q1,q2⟩:=e1 {o with after:=o.after.push {on:=i,ground:=.data}} rfl rfl rfl rfl;rw[q1,q2];simp only[ih]
   ·rw[ax hk];obtain⟨q1,q2⟩:=e1 o rfl rfl rfl rfl;rw[q1];simp only[ih]
def uI{S:Nat->Bool}{k:Nat}(hr:il ops S k)(hk:k=j->S i=ab):il (fq ops i j) S k:=by
 intro o ho ed cG hb;rw[yK] at ho;cases hq:ops[k]? with
 |none=>rw[hq] at ho;cases ho
 |some o0=>
  rw[hq] at ho;simp only[cy,aY] at ho;split at ho
  ·rename_i qB;subst ho;rcases Gb.1 cG with q|q
   ·exact hr o0 hq ed q hb
   ·subst q;exact hk qB
  ·subst ho;exact hr o0 hq ed cG hb
def aah:∀(L:List Nat) (S:Nat->Bool),S i=ab->iC ops S L->iC (fq ops i j) S L:=by
 intro L
 induction L with
 |nil=>intro S _ h k hk;exact h k (by rw[po] at hk;exact hk)
 |cons k L ih=>
  intro S hS h;obtain⟨h1,h2,h3,h4⟩:=h;refine⟨by rw[po];exact h1,h2,uI h3 λ_=>hS,ih _ ?_ h4⟩;unfold bj;split
  ·rfl
  ·exact hS
def TE(h:se (fq ops i j)):se ops:=by
 intro k o ho ed cG hb;have hg:(fq ops i j)[k]?=aa (if k=j then {o with after:=o.after.push {on:=i,ground:=.data}} else o):=by rw[yK,ho];rfl
 refine h k _ hg ed ?_ hb;split
 ·exact Gb.2 (.inl cG)
 ·exact cG
def yp(ops:Array Oper)(S:Nat->Bool):Prop:=∀(k:Nat) (o:Oper),ops[k]?=aa o->S k=ab->∀ed∈o.after,Region.binds .any ed=ab->S ed.on=ab
def yp.one{S:Nat->Bool}{k:Nat}(c:yp ops S)(hr:il ops S k):yp ops (bj S k):=by
 intro m o ho hS ed cG hb;unfold bj at hS ⊢;split
 ·rfl
 ·split at hS
  ·rename_i q;subst q;exact hr o ho ed cG hb
  ·exact c m o ho hS ed cG hb
def TW{S:Nat->Bool}(hB:wW ops (Region.before ops)=ab)(c:yp ops S){k:Nat}:∀(m:Nat),m<ops.size->il ops S m->((Region.before ops).getD m 0).testBit k=ab->k<ops.size->S k=ab:=by
 intro m
 induction m using wP with
 |_ m ih=>
  intro hm hr hb hk;unfold wW at hB;rw[dn] at hB;have:=hB m (fP.2 hm);have ho:ops[m]?=aa ops[m]:=fW hm;rw[ho] at this;simp only[aL,dn,F6] at this;obtain⟨h1,h2⟩:=this;have h3:=h2 k (fP.2 hk);rw[hb] at h3;simp only[KF,KE,Rm,aL,ly] at h3;obtain⟨ed,cG,cP,hq⟩:=h3;have hs:=hr _ ho ed cG cP;rcases hq with hq|hq
  ·rw[<-iK hq];exact hs
  ·have ay:ed.on<m:=(by have:=h1 ed cG;rw[cP] at this;simpa using this);exact ih ed.on ay aj (λo fK ed' Ye eJ=>c _ o fK hs ed' Ye eJ) hq hk
def acD{n:Nat}(hB:se ops)(hn:n+1=ops.size):∀(L:List Nat) (S:Nat->Bool),S n=ak->S i=ab->il ops S n->iC ops (bj S n) L->iC (fq ops i n) S (L++[n]):=by
 intro L
 induction L with
 |nil=>intro S hS hi hr h;refine⟨by rw[po];omega,hS,uI hr λ_=>hi,λk hk=>?_⟩;exact h k (by rw[po] at hk;exact hk)
 |cons k L ih=>
  intro S hS hi hr h;obtain⟨h1,h2,h3,h4⟩:=h;unfold bj at h2;split at h2
  ·cases h2
  ·rename_i pH;have gQ:il ops S k:=by
    intro o ho ed cG hb;have:=h3 o ho ed cG hb;unfold bj at this;split at this
    ·rename_i q;have:=hB k o ho ed cG hb;omega
    ·exact this
   refine⟨by rw[po];exact h1,h2,uI gQ (λq=>absurd q pH),ih (bj S k) ?_ ?_ ?_ ?_⟩
   ·unfold bj;rw[ax (Ne.symm pH)];exact hS
   ·unfold bj;split;rfl;exact hi
   ·exact ready_mono hr λj hj=>by unfold bj;split;rfl;exact hj
   ·rw[B3];exact h4
def acE{n:Nat}(hB:se ops)(hn:n+1=ops.size)(cQ:i<n):∀(L:List Nat) (S:Nat->Bool),S n=ak->S i=ak->il ops S n->iC ops (bj S n) L->
 ∃M1 M2,L=M1++i::M2/\(∀k∈M1,k<ops.size/\k≠i/\k≠n/\S k=ak)/\(∀k∈M2,k<ops.size/\k≠i/\k≠n/\S k=ak)/\iC (fq ops i n) S (M1++i::(M2++[n])):=by
 intro L
 induction L with
 |nil=>intro S hS hi hr h;have:=h i aj;unfold bj at this;rw[ax aj,hi] at this;cases this
 |cons k L ih=>
  intro S hS hi hr h;obtain⟨h1,h2,h3,h4⟩:=h;unfold bj at h2;split at h2
  ·cases h2
  ·rename_i pH;have gQ:il ops S k:=by
    intro o ho ed cG hb;have:=h3 o ho ed cG hb;unfold bj at this;split at this
    ·rename_i q;have:=hB k o ho ed cG hb;omega
    ·exact this
   have y8:il ops (bj S k) n:=ready_mono hr λj hj=>(by unfold bj;split;rfl;exact hj);by_cases yW:k=i
   ·subst yW;have mem2:∀(L:List Nat) (S:Nat->Bool),iC ops S L->∀m∈L,m<ops.size/\S m=ak:=by
     intro L
     induction L with
     |nil=>intro S _ m hm;cases hm
     |cons a L ih2=>
      intro S hL m hm;obtain⟨q1,q2,q3,q4⟩:=hL;rcases fe.1 hm with rfl|hm
      ·exact⟨q1,q2⟩
      ·obtain⟨p1,p2⟩:=ih2 _ q4 m hm;unfold bj at p2;split at p2
       ·cases p2
       ·exact⟨p1,p2⟩
    refine⟨[],L,rfl,λm hm=>(nomatch hm),λm hm=>?_,?_⟩
    ·obtain⟨p1,p2⟩:=mem2 L _ h4 m hm;unfold bj at p2;split at p2
     ·cases p2
     ·rename_i q1;split at p2
      ·cases p2
      ·rename_i q2;exact⟨p1,q1,q2,p2⟩
    ·refine⟨by rw[po];exact h1,hi,uI gQ (λq=>absurd q pH),?_⟩;refine acD hB hn L _ ?_ ?_ y8 ?_
     ·unfold bj;rw[ax (Ne.symm pH)];exact hS
     ·unfold bj;rw[aB rfl]
     ·rw[B3];exact h4
   ·rw[B3] at h4;obtain⟨M1,M2,e1,e2,e3,e4⟩:=ih (bj S k) (by unfold bj;rw[ax (Ne.symm pH)];exact hS) (by unfold bj;rw[ax (Ne.symm yW)];exact hi) y8 h4;have uP:∀m,bj S k m=ak->S m=ak:=λm q=>by
     unfold bj at q;split at q
     ·cases q
     ·exact q
    refine⟨k::M1,M2,by rw[e1];rfl,λm hm=>?_,λm hm=>?_,by rw[po];exact h1,h2,uI gQ (λq=>absurd q pH),e4⟩
    ·rcases fe.1 hm with rfl|hm
     ·exact⟨h1,yW,pH,h2⟩
     ·obtain⟨p1,p2,p3,p4⟩:=e2 m hm;exact⟨p1,p2,p3,uP m p4⟩
    ·obtain⟨p1,p2,p3,p4⟩:=e3 m hm;exact⟨p1,p2,p3,uP m p4⟩
def abB{n:Nat}(hB:se ops)(hn:n+1=ops.size)(cQ:i<n):∀(L:List Nat) (S:Nat->Bool),S n=ak->S i=ak->yp ops S->iC ops S L->
 iC (fq ops i n) S L∨∃pre M1 M2 S',L=pre++(n::(M1++i::M2))/\S' i=ak/\il ops S' n/\yp ops S'/\(∀k∈M1,k<ops.size/\k≠i/\k≠n/\S' k=ak)/\(∀k∈M2,k<ops.size/\k≠i/\k≠n/\S' k=ak)/\iC (fq ops i n) S (pre++(M1++i::(M2++[n]))):=by
 intro L
 induction L with
 |nil=>intro S h1 h2 _ h;have:=h i aj;rw[h2] at this;cases this
 |cons k L ih=>
  intro S hS hi hc h;obtain⟨h1,h2,h3,h4⟩:=h;by_cases yW:k=i
  ·subst yW;exact .inl ⟨by rw[po];exact h1,h2,uI h3 (λq=>by omega),aah L _ (by unfold bj;rw[aB rfl]) h4⟩
  ·by_cases pH:k=n
   ·subst pH;obtain⟨M1,M2,e1,e2,e3,e4⟩:=acE hB hn cQ L S hS hi h3 h4;exact .inr ⟨[],M1,M2,S,by rw[e1];rfl,hi,h3,hc,e2,e3,e4⟩
   ·rcases ih (bj S k) (by unfold bj;rw[ax (Ne.symm pH)];exact hS) (by unfold bj;rw[ax (Ne.symm yW)];exact hi) (hc.one h3) h4 with q|⟨pre,M1,M2,S',e1,e0,e2,e3,e4,e5,e6⟩
    ·exact .inl ⟨by rw[po];exact h1,h2,uI h3 (λq=>absurd q pH),q⟩
    ·exact .inr ⟨k::pre,M1,M2,S',by rw[e1];rfl,e0,e2,e3,e4,e5,by rw[po];exact h1,h2,uI h3 (λq=>absurd q pH),e6⟩
def ae.oD(h:ae)(c:Nat)(xs:List AV):ae:={h with boxes:=h.boxes.set c xs}
def LM{h:ae}{a c}{xs}(bL:a≠c):(h.oD c xs).boxes[a]?=h.boxes[a]?:=by unfold ae.oD;simp only[tG];rw[ax (λq=>bL q.symm)]
variable {e e':Env} {h h':ae} {b:Array Nat}
def OA(N:aG P G R ops (bt ops.size) e h=aa (.normal,e',h'))(F:Fits P G R ops e h b):∀(A B:List Nat) (S:Nat->Bool) (e1:Env) (h1:ae),Inv P G R ops e h b S e1 h1->iC ops S (A++B)->
 ∃S2 e2 h2,aG P G R ops A e1 h1=aa (.normal,e2,h2)/\Inv P G R ops e h b S2 e2 h2/\iC ops S2 B:=by
 intro A
 induction A with
 |nil=>intro B S e1 h1 I hL;exact⟨S,e1,h1,rfl,I,hL⟩|cons k A ih=>
  intro B S e1 h1 I hL;obtain⟨hk,hu,hr,hL⟩:=hL;obtain⟨x,e2,h2,hs,I'⟩:=next N F I hk hu hr
  obtain⟨S2,e3,h3,gH,I3,L3⟩:=ih B _ _ _ I' hL;exact⟨S2,e3,h3,my.2 ⟨x,e2,h2,hs,gH⟩,I3,L3⟩
def Ob(N:aG P G R ops (bt ops.size) e h=aa (.normal,e',h'))(F:Fits P G R ops e h b){S:Nat->Bool}{e1:Env}{h1:ae}(I:Inv P G R ops e h b S e1 h1){k:Nat}(hk:k<ops.size)
 (hu:S k=ak) (hr:il ops S k):∀o,ops[k]?=aa o->Alike ops (bJ P G R ops e h k).1 e1 o:=by
 have ho:ops[k]?=aa ops[k]:=fW hk;have ahead:∀i,i<ops.size->Ord b i k->S i=ab:=by
  intro i hi vx;obtain⟨ed,cG,cP,hq⟩:=F.bits k i _ ho hi vx;have hs:=hr _ ho ed cG cP;have ay:=F.tS k _ ho ed cG cP;rcases hq with rfl|hq
  ·exact hs
  ·exact I.closed i ed.on hi (lZ ay hk) hs hq
 intro o fK t ht;rw[ho] at fK;injection fK with fK;subst fK;rw[I.dN t,FW N t k (mG hk),CQ (k:=k) ops.size (mG hk)]
 ·refine val_congr k λw hw hd=>?_;have hx:ops[w]?=aa ops[w]:=fW (lZ hw hk);rw[vi hx] at hd;exact(ahead w (lZ hw hk) (F.looks hw hk hx ho (.inl ⟨hd,ht⟩))).symm
 ·intro w xv hw hd;rcases dp k w with ay|dy
  ·cases hq:S w with|false=>rfl|true=>have hx:ops[w]?=aa ops[w]:=fW hw;rw[vi hx] at hd;have:=I.closed k w hk hw hq (F.looks ay hw ho hx (.inr ⟨hd,ht⟩));rw[hu] at this;cases this
  ·rw[fF dy xv,hu]
def Ag{k:Nat}{x:AV}{e1:Env}{h1:ae}(hs:uu ops k=ab)(st:eR P G R ops k e h=aa (x,e1,h1)):
 x=.tuple []/\e1=e/\eT ops k=ah/\∃(o:Oper) (t:aE) (a v:bI) (c off n:Nat) (cs cr:List AV),ops[k]?=aa o/\o.op=.store t a v/\o.guard=ah/\e.eval a=.ptr (.box c) off/\(e.eval v).cF=aa cs/\cU P t=aa n/\h.boxes[c]?=aa cr/\cs.length=n/\off+n<=cr.length/\h1=h.oD c (dO cr off cs):=by
 unfold uu at hs;unfold eR at st;cases ho:ops[k]? with
 |none=>rw[ho] at hs;cases hs
 |some o=>
  rw[ho] at hs st;simp only[aL,Option.isNone_iff_eq_none] at hs;obtain⟨q1,q2,q3⟩:=hs;cases aR:o.op<;>rw[aR] at q1<;>try (cases q1;done)
  rename_i t a v;have hw:cd ops e o=aa ab:=by unfold cd;rw[q2]
  simp only[hw] at st;have ju:cA P G R e h o=(cB P G e.eval h (.store t a v)).map λ(x,h)=>(.ret x,e,h):=by unfold cA;rw[aR]
  rw[ju] at st;simp only[cB] at st;cases bC:dh P h t (e.eval a) (e.eval v) with
  |none=>rw[bC] at st;simp at st|some hh=>
   rw[bC] at st;simp only[cy,aY,aW] at st;obtain⟨rfl,rfl,rfl⟩:=st;unfold dh at bC;split at bC
   ·rename_i c off cs n h1 h2 h3;split at bC
    ·rename_i cr hold;split at bC
     ·rename_i dS;injection bC with bC;exact⟨rfl,rfl,by simp[eT,ho,q3],o,t,a,v,c,off,n,cs,cr,rfl,aR,q2,h1,h2,h3,hold,dS.1,dS.2,bC.symm⟩
     ·cases bC
    ·cases bC
   ·cases bC
def Kf{k:Nat}{o:Oper}{t:aE}{a v:bI}{c off n:Nat}{cs cr:List AV}(ho:ops[k]?=aa o)(aR:o.op=.store t a v)(hg:o.guard=ah)(ha:e.eval a=.ptr (.box c) off)(hv:(e.eval v).cF=aa cs)(hz:cU P t=aa n)(hb:h.boxes[c]?=aa cr)(hl:cs.length=n)(dS:off+n<=cr.length):
 eR P G R ops k e h=aa (.tuple [],e,h.oD c (dO cr off cs)):=by
 unfold eR;simp only[ho];have hw:cd ops e o=aa ab:=by unfold cd;rw[hg]
 simp only[hw];have ju:cA P G R e h o=(cB P G e.eval h (.store t a v)).map λ(x,h)=>(.ret x,e,h):=by unfold cA;rw[aR]
 rw[ju];simp only[cB];have:dh P h t (e.eval a) (e.eval v)=aa (h.oD c (dO cr off cs)):=by unfold dh;simp only[ha,hv,hz,hb];rw[aB ⟨hl,dS⟩];rfl
 rw[this];rfl
def OJ{n:Nat}(hn:uu ops n=ab):∀(M:List Nat) {e e':Env} {h h':ae},(∀k∈M,k<ops.size/\lE ops k=.pure/\kQ ops k n=ab)->∀rest,aG P G R ops (M++n::rest) e h=aa (.normal,e',h')->aG P G R ops (n::(M++rest)) e h=aa (.normal,e',h'):=by
 intro M
 induction M with
 |nil=>intro e e' h h' _ rest hr;exact hr|cons k M ih=>
  intro e e' h h' hM rest hr;rw[bR,my] at hr;obtain⟨x,e1,h1,hs,hr⟩:=hr;obtain⟨hk,hp,oH⟩:=hM k dQ;have hr:=ih (λm hm=>hM m (dG _ hm)) rest hr;obtain⟨rfl,rfl,XL⟩:=Ka hp hs;rw[my] at hr ⊢;obtain⟨x2,e2,h2,iZ,hr⟩:=hr;obtain⟨rfl,rfl,hd,o,t,a,v,c,off,m,cs,cr,g1,g2,g3,g4,g5,g6,g7,g8,g9,rfl⟩:=Ag hn iZ;have eE:∀z∈o.op.operands,(e1.put (eT ops k) x).eval z=e1.eval z:=by
   intro z hz;cases z with
   |tmp s=>
    show(e1.put (eT ops k) x).get s=e1.get s;rw[tc];split
    ·rename_i hq;exfalso;unfold kQ at oH;have aU:ops[k]?=aa ops[k]:=fW hk;rw[aU,g1] at oH;simp only[aL] at oH;rw[vi aU] at hq;have YC:s∈o.looksAt ops:=(by unfold Oper.looksAt;exact C9 _ (List.mem_filterMap.2 ⟨.tmp s,by simpa using hz,rfl⟩));have h1:=oH.1;unfold Oper.apart at h1;rw[hq] at h1;simp[YC] at h1
    ·rfl
   |_=>rfl
  rw[eE a (by rw[g2];simp[Op.operands])] at g4;rw[eE v (by rw[g2];simp[Op.operands])] at g5;refine⟨_,e1,_,Kf g1 g2 g3 g4 g5 g6 g7 g8 g9,?_⟩;rw[hd] at hr ⊢;show aG P G R ops (k::(M++rest)) e1 _=_;rw[my];exact⟨x,e1,_,XL e1 _ (λo ho t ht=>rfl),hr⟩
def afr{n:Nat}(hi:uu ops i=ab)(hn:uu ops n=ab){e e':Env}{h h':ae}{bi bn:Nat}(h1:rP ops i e=aa bi)(h2:rP ops n e=aa bn)(bL:bi≠bn)(rest:List Nat)(hr:aG P G R ops (i::n::rest) e h=aa (.normal,e',h')):aG P G R ops (n::i::rest) e h=aa (.normal,e',h'):=by
 rw[my] at hr;obtain⟨x,e1,vw,hs,hr⟩:=hr;obtain⟨rfl,rfl,hd,o,t,a,v,c,off,m,cs,cr,g1,g2,g3,g4,g5,g6,g7,g8,g9,rfl⟩:=Ag hi hs;rw[hd] at hr;replace hr:aG P G R ops (n::rest) e1 (h.oD c (dO cr off cs))=aa (.normal,e',h'):=hr;rw[my] at hr;obtain⟨x2,e2,Yr,iZ,hr⟩:=hr;obtain⟨rfl,rfl,rp,o2,t2,a2,v2,c2,off2,m2,cs2,old2,k1,k2,k3,k4,k5,k6,k7,k8,k9,rfl⟩:=Ag hn iZ;have q1:bi=c:=by unfold rP at h1;rw[g1] at h1;simp only[g2,g4] at h1;injection h1 with h1;exact h1.symm
 have q2:bn=c2:=by unfold rP at h2;rw[k1] at h2;simp only[k2,k4] at h2;injection h2 with h2;exact h2.symm
 subst q1;subst q2;have k7':h.boxes[bn]?=aa old2:=by rw[<-k7];exact(LM (λq=>bL q.symm)).symm
 have g7':(h.oD bn (dO old2 off2 cs2)).boxes[bi]?=aa cr:=by rw[LM bL];exact g7
 rw[my];refine⟨_,e2,_,Kf k1 k2 k3 k4 k5 k6 k7' k8 k9,?_⟩;rw[rp];show aG P G R ops (i::rest) e2 _=_;rw[my];refine⟨_,e2,_,Kf g1 g2 g3 g4 g5 g6 g7' g8 g9,?_⟩;rw[hd];rw[rp] at hr;have X2:(h.oD bn (dO old2 off2 cs2)).oD bi (dO cr off cs)=(h.oD bi (dO cr off cs)).oD bn (dO old2 off2 cs2):=by unfold ae.oD;simp only[List.set_comm _ _ bL]
 rw[X2];exact hr
def VH(aU:B4 ops i=ab)(jt:rL P G R ops e h i=ab)(hf:gN P G R (fq ops i (ops.size - 1)) e h=ab)(he:aG P G R ops (bt ops.size) e h=aa (.normal,e',h'))(tp:Nat):
 ∃e2,aG P G R ops (Region.linearise .any ops tp) e h=aa (.normal,e2,h')/\iD e2 e':=by
 unfold B4 at aU;simp only[aL,decide_eq_true_eq,dn,fP,ly] at aU;obtain⟨k0,k1,k2,k3,k4⟩:=aU;obtain⟨n,Bk⟩:∃n,ops.size - 1=n:=⟨_,rfl⟩;have hn:n+1=ops.size:=by omega
 simp only[Bk] at hf k3 k4;have hE:aG P G R (fq ops i n) (bt (fq ops i n).size) e h=aa (.normal,e',h'):=by rw[po,zy];exact he
 have Hw:=TE (Hn hf);have hL:=IU Hw tp;rcases abB (i:=i) Hw hn aj _ (λ_=>ak) rfl rfl (λk o ho hS=>by cases hS) hL with q|⟨pre,M1,M2,S',q1,q7,q2,q3,q4,q5,q6⟩
 ·obtain⟨e2,ju,eK⟩:=BN hE (pw hf) _ _ _ _ (xP hE) q;rw[zy] at ju;exact⟨e2,ju,eK⟩
 ·have good:∀k,k<ops.size/\k≠i/\k≠n/\S' k=ak->k<ops.size/\lE ops k=.pure/\kQ ops k n=ab:=by
   rintro k ⟨p1,p2,p3,p4⟩;rcases k4 k aj with w|w|w
   ·exact absurd (iK w) p2
   ·have:=TW k0 q3 n aj q2 w p1;rw[p4] at this;cases this
   ·refine⟨p1,?_,w.2⟩;have w1:=w.1;unfold Pj at w1;cases ho:ops[k]? with
    |none=>rw[ho] at w1;cases w1
    |some o=>rw[ho] at w1;simpa [lE,ho] using w1
  rw[<-List.append_assoc] at q6;obtain⟨S2,em,hm,ev1,I1,L1⟩:=OA hE (pw hf) (pre++M1) (i::(M2++[n])) _ _ _ (xP hE) q6;obtain⟨l1,l2,l3,l4⟩:=L1;have al1:=Ob hE (pw hf) I1 l1 l2 l3;obtain⟨x,e2,h2,hs,I2⟩:=next hE (pw hf) I1 l1 l2 l3
  have Bv:eR P G R ops i em hm=aa (x,e2,h2):=by have:=zy (P:=P) (G:=G) (R:=R) (ops:=ops) (i:=i) (j:=n) [i] em hm;have h3:aG P G R (fq ops i n) [i] em hm=aa (.normal,e2.put (eT (fq ops i n) i) x,h2):=my.2 ⟨x,e2,h2,hs,rfl⟩;rw[this] at h3;obtain⟨x',e3,h4,NJ,y8⟩:=my.1 h3;obtain⟨rfl,rfl,X6,o3,t3,a3,v3,c3,off3,m3,cs3,old3,z1,z2,z3,z4,z5,z6,z7,z8,z9,rfl⟩:=Ag k2 NJ;rw[X6] at y8;simp only[aG,aY,aW,true_and] at y8;obtain⟨r1,r2⟩:=y8;have hx:x=.tuple []/\e2=e3:=(by have Yn:(fq ops i n)[i]?=aa o3:=(by rw[yK,z1,cy,ax aj]);have XH:uu (fq ops i n) i=ab:=(by unfold uu at k2 ⊢;rw[Yn];rw[z1] at k2;exact k2);obtain⟨y1,y2,-⟩:=Ag XH hs;exact⟨y1,y2⟩);rw[hx.1,hx.2,<-r2];exact NJ
  obtain⟨rfl,rfl,hd,o,t,a,v,c,off,m,cs,cr,g1,g2,g3,g4,g5,g6,g7,g8,g9,rfl⟩:=Ag k2 Bv;have X7:eT (fq ops i n) i=ah:=by unfold eT at hd ⊢;rw[Mn];exact hd
  rw[X7] at I2;replace I2:Inv P G R (fq ops i n) e h (Region.before (fq ops i n)) (bj S2 i) e2 (hm.oD c (dO cr off cs)):=I2;obtain⟨Sn,en,hhn,ev2,I3,L3⟩:=OA hE (pw hf) M2 [n] _ _ _ I2 l4;obtain⟨e5,Nd,eK⟩:=BN hE (pw hf) _ _ _ _ I3 L3;have NB:S2 n=ak/\il ops S2 n:=by
   refine⟨?_,?_⟩
   ·have:∀(L:List Nat) (S:Nat->Bool),iC (fq ops i n) S L->∀m∈L,S m=ak:=by
     intro L
     induction L with
     |nil=>intro S _ m hm;cases hm
     |cons a L ih2=>
      intro S hL m hm;obtain⟨u1,u2,u3,u4⟩:=hL;rcases fe.1 hm with rfl|hm
      ·exact u2
      ·have p2:=ih2 _ u4 m hm;unfold bj at p2;split at p2
       ·cases p2
       ·exact p2
    have:=this _ _ l4 n bh;unfold bj at this;rw[ax aj] at this;exact this
   ·intro o' fK ed cG hb;have hS:S' ed.on=ab:=q2 o' fK ed cG hb;have ay:ed.on<n:=Hw n o' fK ed cG hb;cases hq:S2 ed.on with
    |true=>rfl|false=>
     exfalso;have mem:∀(L:List Nat) (S:Nat->Bool),iC (fq ops i n) S L->∀m,m<ops.size->S m=ak->m∈L:=by
      intro L
      induction L with
      |nil=>intro S hL m hm Hy;have:=hL m (by rw[po];exact hm);rw[Hy] at this;cases this
      |cons a L ih2=>
       intro S hL m hm Hy;obtain⟨u1,u2,u3,u4⟩:=hL;by_cases Eb:m=a
       ·subst Eb;exact dQ
       ·exact dG _ (ih2 _ u4 m hm (by unfold bj;rw[ax Eb];exact Hy))
     have jN:=mem (i::(M2++[n])) S2 ⟨l1,l2,l3,l4⟩ ed.on aj hq;rcases fe.1 jN with w|w
     ·rw[w,q7] at hS;cases hS
     ·rcases oZ.1 w with w|w
      ·have:=(q5 _ w).2.2.2;rw[hS] at this;cases this
      ·rw[List.mem_singleton] at w;omega
  have Ek:il (fq ops i n) (bj S2 i) n:=uI (ready_mono NB.2 λj hj=>by unfold bj;split;rfl;exact hj) λ_=>by unfold bj;rw[aB rfl]
  have al2:=Ob hE (pw hf) I2 (k:=n) (by rw[po];omega) (by unfold bj;rw[ax aj];exact NB.1) Ek;have stE:∀k,bJ P G R (fq ops i n) e h k=bJ P G R ops e h k:=λk=>by unfold bJ;rw[zy]
  have put_congr:∀(k:Nat) (ea eb:Env),(∀o,(fq ops i n)[k]?=aa o->Alike (fq ops i n) ea eb o)->rP ops k ea=rP ops k eb:=by
   intro k ea eb eE;unfold rP;cases ho:ops[k]? with
   |none=>rfl|some o'=>
    have hg:(fq ops i n)[k]?=aa (if k=n then {o' with after:=o'.after.push {on:=i,ground:=.data}} else o'):=(by rw[yK,ho];rfl);have hz:=yB (eE _ hg);have gI:∀z∈o'.op.operands,ea.eval z=eb.eval z:=(by intro z Zs;refine hz z ?_;split<;>exact Zs);show(match o'.op with| .store _ a _=>(match ea.eval a with| .ptr (.box b) _=>aa b|_=>ah)|_=>ah)=(match o'.op with| .store _ a _=>(match eb.eval a with| .ptr (.box b) _=>aa b|_=>ah)|_=>ah)
    revert gI
    generalize o'.op=op;intro gI;cases op with|store t' a' v'=>have:ea.eval a'=eb.eval a':=gI a' (by simp[Op.operands]);simp only[this]|_=>rfl
  have hb:∃bi bn,rP ops i e2=aa bi/\rP ops n e2=aa bn/\bi≠bn:=by
   unfold rL at jt;rw[Bk] at jt;split at jt
   ·rename_i ei _ en _ r1 r2;have s1:(bJ P G R ops e h i).1=ei:=(by unfold bJ;rw[r1]);have s2:(bJ P G R ops e h n).1=en:=(by unfold bJ;rw[r2]);split at jt
    ·rename_i bi bn u1 u2;refine⟨bi,bn,?_,?_,?_⟩
     ·rw[<-u1,<-s1,<-stE];exact(put_congr i _ _ al1).symm
     ·rw[<-u2,<-s2,<-stE];exact(put_congr n _ _ al2).symm
     ·rintro rfl;rw[Db] at jt;cases jt
    ·cases jt
   ·cases jt
  obtain⟨bi,bn,b1,b2,b3⟩:=hb;have t1:aG P G R ops (M2++n::[]) e2 (hm.oD c (dO cr off cs))=aa (.normal,e5,h'):=by rw[uB];rw[zy] at ev2 Nd;exact⟨_,_,ev2,Nd⟩
  have t2:=OJ k3 M2 (λk hk=>good k (q5 k hk)) [] t1;rw[List.append_nil] at t2;have t3:aG P G R ops (i::n::M2) e2 hm=aa (.normal,e5,h'):=by rw[my];refine⟨_,_,_,Bv,?_⟩;rw[hd];exact t2
  have t4:=afr k2 k3 b1 b2 b3 M2 t3;rw[zy,uB] at ev1;obtain⟨e0,h0,v1,v2⟩:=ev1;have t5:aG P G R ops (M1++n::(i::M2)) e0 h0=aa (.normal,e5,h'):=uB.2 ⟨_,_,v2,t4⟩;have t6:=OJ k3 M1 (λk hk=>good k (q4 k hk)) _ t5;refine⟨e5,?_,eK⟩;rw[q1];exact uB.2 ⟨_,_,v1,t6⟩
def Kk{e:Env}{h:ae}(hb:rV P G R ops e h=ab):(∃i,i<ops.size/\Ai ops i=ab/\gN P G R (j8 ops i) e h=ab)∨∃i,i<ops.size/\B4 ops i=ab/\rL P G R ops e h i=ab/\gN P G R (fq ops i (ops.size - 1)) e h=ab:=by unfold rV Kg at hb;simp only[KL,fP,aL,ly] at hb;exact hb
def QH{e:Env}{h:ae}{i:Nat}(h1:i<ops.size)(h2:Ai ops i=ab)(h3:gN P G R (j8 ops i) e h=ab):rV P G R ops e h=ab:=by unfold rV;simp only[KL,fP,aL,ly];exact .inl ⟨i,h1,h2,h3⟩
def QI{e:Env}{h:ae}{i:Nat}(h1:i<ops.size)(h2:B4 ops i=ab)(h3:rL P G R ops e h i=ab)(h4:gN P G R (fq ops i (ops.size - 1)) e h=ab):rV P G R ops e h=ab:=by unfold rV Kg;simp only[KL,fP,aL,ly];exact .inr ⟨i,h1,h2,h3,h4⟩
end
end Go.AE
end
section
namespace Go.AE
open Go.RowKit (Below)
section
variable {P:aQ} {G:Nat->Option (List AV)} {w0:aT} {R:Rec}
def aeY{b:cW}{a:Act}{k:List Item}{cs:List cW}{w:aT}{c:Code}:step P (lone (b.atR a (.code (.scope c)::k)) cs w)=.next (lone (b.atR a (.code c::.inScope c::k)) cs w):=by rfl
def aeX{b:cW}{a:Act}{k:List Item}{cs:List cW}{w:aT}{c:Code}:step P (lone (b.atR a (.inScope c::k)) cs w)=.next (lone (b.atR a k) cs w):=by rfl
def lv.abL{K:aH}{m:Machine}{B:cW}{c:Code}{k:List Item}{cs:List cW}{x:Xt}{a:Act}{w:aT}(hn:x≠ .normal)
 (h:lv P K m B (.inScope c::k) cs x a w):lv P K m B k cs x a w:=by
 cases x with
 |normal=>exact absurd rfl hn|exit id=>obtain⟨t,h1,h2⟩:=h;exact⟨t,h1.trans rfl,h2⟩
 |ret=>exact h|panic x=>exact h
def Vk(hn:tK P)(yZ:P.follows .mixedOrders=ab)(hR:o7 P G w0 R):Lb P G w0 (dB P G R):=by
 intro c e h out e' h' he K w a B k base cs ms hf aZ hs aU;cases c with
 |skip=>simp only[dB,aY,aW] at he;obtain⟨rfl,rfl,rfl⟩:=he;exact⟨K,w,a,cs,ms,.refl hf aZ hs (.one stepR_skip)⟩
 |label l=>simp only[dB,aY,aW] at he;obtain⟨rfl,rfl,rfl⟩:=he;exact⟨K,w,a,cs,ms,.refl hf aZ hs (.one stepR_label)⟩
 |region id ops draw=>
  simp only[codeOk] at aU;cases draw with
  |false=>simp only[dB,dP,if_false] at he;obtain⟨K',w',a',bu,L⟩:=uC hn hR _ _ _ _ _ _ he K w a B k base cs ms hf aZ hs aU;exact⟨K',w',a',bu,ms,.of_steps (.one stepR_region) L⟩
  |true=>
   simp only[dB,if_true] at he;split at he
   ·rename_i qx;split at he
    ·rename_i e1 h1 ju;simp only[aY,aW] at he;obtain⟨rfl,rfl,rfl⟩:=he;have gi:=stepR_region_draw (P:=P) (b:=B) (a:=a) (k:=k) (cs:=cs) (w:=w) (ops:=ops) (id:=id);have rE:Region.schedule (P.follows .mixedOrders) ops (w.tape w.drawn (.order B.fn id))=Region.linearise .any ops (w.tape w.drawn (.order B.fn id)):=(by simp only[Region.schedule,yZ,uV,if_true]);rw[rE] at gi;obtain⟨e2,ru,eK⟩:=VG ju qx (w.tape w.drawn (.order B.fn id));obtain⟨K',w',a',bu,L⟩:=uC hn hR _ _ _ _ _ _ ru K {w with drawn:=w.drawn+1} a B k base cs ms hf aZ (hs.drew _) aU;exact⟨K',w',a',bu,ms,L.le,L.jY,L.frame.same eK,eK.aX ▸ L.cs,L.size,L.marks,L.arr.of_steps (.one gi)⟩
    ·rename_i x e1 h1 ju;split at he
     ·rename_i mK;simp only[aL] at mK;simp only[aY,aW] at he;obtain⟨rfl,rfl,rfl⟩:=he;have gi:=stepR_region_draw (P:=P) (b:=B) (a:=a) (k:=k) (cs:=cs) (w:=w) (ops:=ops) (id:=id);have rE:Region.schedule (P.follows .mixedOrders) ops (w.tape w.drawn (.order B.fn id))=Region.linearise .any ops (w.tape w.drawn (.order B.fn id)):=(by simp only[Region.schedule,yZ,uV,if_true]);rw[rE] at gi;obtain⟨e2,ru,eK⟩:=VI mK.1 mK.2.1 mK.2.2 ju (w.tape w.drawn (.order B.fn id));obtain⟨K',w',a',bu,L⟩:=uC hn hR _ _ _ _ _ _ ru K {w with drawn:=w.drawn+1} a B k base cs ms hf aZ (hs.drew _) aU;exact⟨K',w',a',bu,ms,L.le,L.jY,L.frame.same eK,eK.aX ▸ L.cs,L.size,L.marks,L.arr.of_steps (.one gi)⟩
     ·obtain⟨km,x,ep,hp,hm,hq,hr⟩:=zn he;simp only[aW] at hr;obtain⟨rfl,rfl,rfl⟩:=hr;have gi:=stepR_region_draw (P:=P) (b:=B) (a:=a) (k:=k) (cs:=cs) (w:=w) (ops:=ops) (id:=id);have rE:Region.schedule (P.follows .mixedOrders) ops (w.tape w.drawn (.order B.fn id))=Region.linearise .any ops (w.tape w.drawn (.order B.fn id)):=(by simp only[Region.schedule,yZ,uV,if_true]);rw[rE] at gi;obtain⟨e2,ru,eK⟩:=Hd hm hq (w.tape w.drawn (.order B.fn id));obtain⟨K',w',a',bu,L⟩:=uC hn hR _ _ _ _ _ _ ru K {w with drawn:=w.drawn+1} a B k base cs ms hf aZ (hs.drew _) aU;exact⟨K',w',a',bu,ms,L.le,L.jY,L.frame.Ji eK,(show CS _ _ _ ep.aX _ from eK.aX ▸ L.cs),L.size,L.marks,L.arr.of_steps (.one gi)⟩
    ·cases he
   ·split at he
    ·rename_i Za;split at he
     ·rename_i e1 h1 ju;simp only[aY,aW] at he;obtain⟨rfl,rfl,rfl⟩:=he;have gi:=stepR_region_draw (P:=P) (b:=B) (a:=a) (k:=k) (cs:=cs) (w:=w) (ops:=ops) (id:=id);have rE:Region.schedule (P.follows .mixedOrders) ops (w.tape w.drawn (.order B.fn id))=Region.linearise .any ops (w.tape w.drawn (.order B.fn id)):=(by simp only[Region.schedule,yZ,uV,if_true]);rw[rE] at gi;rcases Kk Za with⟨i,-,HV,ku⟩|⟨i,-,HV,ku,Yt⟩
      ·obtain⟨e2,K',w',a',bu,eK,L⟩:=VJ hn hR HV ku ju (w.tape w.drawn (.order B.fn id)) K {w with drawn:=w.drawn+1} a B k base cs ms hf aZ (hs.drew _) aU;exact⟨K',w',a',bu,ms,L.le,L.jY,L.frame.same eK,eK.aX ▸ L.cs,L.size,L.marks,L.arr.of_steps (.one gi)⟩
      ·obtain⟨e2,ru,eK⟩:=VH HV ku Yt ju (w.tape w.drawn (.order B.fn id));obtain⟨K',w',a',bu,L⟩:=uC hn hR _ _ _ _ _ _ ru K {w with drawn:=w.drawn+1} a B k base cs ms hf aZ (hs.drew _) aU;exact⟨K',w',a',bu,ms,L.le,L.jY,L.frame.same eK,eK.aX ▸ L.cs,L.size,L.marks,L.arr.of_steps (.one gi)⟩
     ·obtain⟨km,x,ep,hp,hm,hq,hr⟩:=zn he;simp only[aW] at hr;obtain⟨rfl,rfl,rfl⟩:=hr;have gi:=stepR_region_draw (P:=P) (b:=B) (a:=a) (k:=k) (cs:=cs) (w:=w) (ops:=ops) (id:=id);have rE:Region.schedule (P.follows .mixedOrders) ops (w.tape w.drawn (.order B.fn id))=Region.linearise .any ops (w.tape w.drawn (.order B.fn id)):=(by simp only[Region.schedule,yZ,uV,if_true]);rw[rE] at gi;obtain⟨e2,ru,eK⟩:=Hd hm hq (w.tape w.drawn (.order B.fn id));obtain⟨K',w',a',bu,L⟩:=uC hn hR _ _ _ _ _ _ ru K {w with drawn:=w.drawn+1} a B k base cs ms hf aZ (hs.drew _) aU;exact⟨K',w',a',bu,ms,L.le,L.jY,L.frame.Ji eK,(show CS _ _ _ ep.aX _ from eK.aX ▸ L.cs),L.size,L.marks,L.arr.of_steps (.one gi)⟩
    ·obtain⟨km,x,ep,hp,hm,hq,hr⟩:=zn he;simp only[aW] at hr;obtain⟨rfl,rfl,rfl⟩:=hr;have gi:=stepR_region_draw (P:=P) (b:=B) (a:=a) (k:=k) (cs:=cs) (w:=w) (ops:=ops) (id:=id);have rE:Region.schedule (P.follows .mixedOrders) ops (w.tape w.drawn (.order B.fn id))=Region.linearise .any ops (w.tape w.drawn (.order B.fn id)):=(by simp only[Region.schedule,yZ,uV,if_true]);rw[rE] at gi;obtain⟨e2,ru,eK⟩:=Hd hm hq (w.tape w.drawn (.order B.fn id));obtain⟨K',w',a',bu,L⟩:=uC hn hR _ _ _ _ _ _ ru K {w with drawn:=w.drawn+1} a B k base cs ms hf aZ (hs.drew _) aU;exact⟨K',w',a',bu,ms,L.le,L.jY,L.frame.Ji eK,(show CS _ _ _ ep.aX _ from eK.aX ▸ L.cs),L.size,L.marks,L.arr.of_steps (.one gi)⟩
 |seq x y=>
  simp only[codeOk,aL] at aU;simp only[dB] at he;cases hx:R.code x e h with
  |none=>rw[hx] at he;cases he
  |some q=>
   obtain⟨o1,e1,h1⟩:=q;rw[hx] at he;obtain⟨K1,w1,a1,cs1,ms1,L1⟩:=hR.code x e h _ _ _ hx K w a B (.code y::k) base cs ms hf aZ hs aU.1;have start:=Steps.one (stepR_seq (P:=P) (b:=B) (a:=a) (k:=k) (cs:=cs) (w:=w) (x:=x) (y:=y));by_cases sM:o1=.normal
   ·subst sM;simp only at he;obtain⟨K2,w2,a2,cs2,ms2,L2⟩:=hR.code y e1 h1 _ _ _ he K1 w1 a1 B k base cs1 ms1 L1.frame L1.cs L1.jY (by rw[L1.size];exact aU.2);refine⟨K2,w2,a2,cs2,ms2,L1.le.trans L2.le,L2.jY,L2.frame,L2.cs,L2.size.trans L1.size,λr hr=>?_,(L2.arr.of_steps L1.arr).of_steps start⟩;rcases L2.marks r hr with hq|hq
    ·exact L1.marks r hq
    ·exact .inr λhm=>hq (L1.le.md r hm)
   ·have he:aa (o1,e1,h1)=aa (out,e',h'):=by cases o1<;>first|exact absurd rfl sM|exact he
    simp only[aY,aW] at he;obtain⟨rfl,rfl,rfl⟩:=he;exact⟨K1,w1,a1,cs1,ms1,L1.le,L1.jY,L1.frame,L1.cs,L1.size,L1.marks,(L1.arr.pass rfl sM).of_steps start⟩
 |cond q x y=>
  simp only[codeOk,aL] at aU;simp only[dB] at he;have hv:=tW hf.dN q;split at he
  ·rename_i hq;rw[hq] at hv;obtain⟨K1,w1,a1,cs1,ms1,L1⟩:=hR.code x e h _ _ _ he K w a B k base cs ms hf aZ hs aU.1;exact⟨K1,w1,a1,cs1,ms1,L1.of_steps (.one (by have:=stepR_cond (P:=P) (b:=B) (k:=k) (cs:=cs) (w:=w) (x:=x) (y:=y) hv.dF.1;simpa using this))⟩
  ·rename_i hq;rw[hq] at hv;obtain⟨K1,w1,a1,cs1,ms1,L1⟩:=hR.code y e h _ _ _ he K w a B k base cs ms hf aZ hs aU.2;exact⟨K1,w1,a1,cs1,ms1,L1.of_steps (.one (by have:=stepR_cond (P:=P) (b:=B) (k:=k) (cs:=cs) (w:=w) (x:=x) (y:=y) hv.dF.1;simpa using this))⟩
  ·cases he
 |block id x=>
  simp only[codeOk] at aU;simp only[dB] at he;cases hx:R.code x e h with
  |none=>rw[hx] at he;cases he
  |some q=>
   obtain⟨o1,e1,h1⟩:=q;rw[hx] at he;obtain⟨K1,w1,a1,cs1,ms1,L1⟩:=hR.code x e h _ _ _ hx K w a B (.inBlock id::k) base cs ms hf aZ hs aU;have start:=Steps.one (stepR_block (P:=P) (b:=B) (a:=a) (k:=k) (cs:=cs) (w:=w) (id:=id) (c:=x));have fin:∀{o:Xt},lv P K1 (lone (B.atR a (.code x::.inBlock id::k)) cs w) B k cs1 o a1 w1->Left P G w0 K ms B base (lone (B.atR a (.code (.block id x)::k)) cs w) k a.tmps.size o e1 h1 K1 w1 a1 cs1 ms1:=λha=>
    ⟨L1.le,L1.jY,L1.frame,L1.cs,L1.size,L1.marks,ha.of_steps start⟩
   cases o1 with
   |normal=>simp only[aY,aW] at he;obtain⟨rfl,rfl,rfl⟩:=he;exact⟨K1,w1,a1,cs1,ms1,fin (L1.arr.trans (.one stepR_inBlock))⟩
   |exit id'=>
    simp only at he;obtain⟨t,h2,h3⟩:=L1.arr;split at he
    ·rename_i hid;subst hid;simp only[aY,aW] at he;obtain⟨rfl,rfl,rfl⟩:=he;refine⟨K1,w1,a1,cs1,ms1,fin (h3.trans (.one (stepR_exit (h2.trans ?_))))⟩;simp[exitTo]
    ·rename_i hid;simp only[aY,aW] at he;obtain⟨rfl,rfl,rfl⟩:=he;refine⟨K1,w1,a1,cs1,ms1,fin ⟨t,h2.trans ?_,h3⟩⟩;simp[exitTo,Ne.symm hid]
   |ret=>simp only[aY,aW] at he;obtain⟨rfl,rfl,rfl⟩:=he;obtain⟨t,h3⟩:=L1.arr;exact⟨K1,w1,a1,cs1,ms1,fin ⟨t,h3⟩⟩
   |panic x=>simp only[aY,aW] at he;obtain⟨rfl,rfl,rfl⟩:=he;obtain⟨t,v,h2,h3⟩:=L1.arr;exact⟨K1,w1,a1,cs1,ms1,fin ⟨t,v,h2,h3⟩⟩
 |loop x=>
  have iF:codeOk a.tmps.size x=ab:=by simpa only[codeOk] using aU
  simp only[dB] at he;cases hx:R.code x e h with
  |none=>rw[hx] at he;cases he
  |some q=>
   obtain⟨o1,e1,h1⟩:=q;rw[hx] at he;obtain⟨K1,w1,a1,cs1,ms1,L1⟩:=hR.code x e h _ _ _ hx K w a B (.inLoop x::k) base cs ms hf aZ hs iF;have start:=Steps.one (stepR_loop (P:=P) (b:=B) (a:=a) (k:=k) (cs:=cs) (w:=w) (c:=x));by_cases sM:o1=.normal
   ·subst sM;simp only at he;obtain⟨K2,w2,a2,cs2,ms2,L2⟩:=hR.code (.loop x) e1 h1 _ _ _ he K1 w1 a1 B k base cs1 ms1 L1.frame L1.cs L1.jY (by rw[L1.size];simpa only[codeOk] using iF);have rm:=lv.swap (c:=.loop x) (m':=lone (B.atR a1 (.inLoop x::k)) cs1 w1) (λ_=>by simp) bh rfl stepR_loop stepR_inLoop L2.arr;refine⟨K2,w2,a2,cs2,ms2,L1.le.trans L2.le,L2.jY,L2.frame,L2.cs,L2.size.trans L1.size,λr hr=>?_,(rm.of_steps L1.arr).of_steps start⟩;rcases L2.marks r hr with hq|hq
    ·exact L1.marks r hq
    ·exact .inr λhm=>hq (L1.le.md r hm)
   ·have he:aa (o1,e1,h1)=aa (out,e',h'):=by cases o1<;>first|exact absurd rfl sM|exact he
    simp only[aY,aW] at he;obtain⟨rfl,rfl,rfl⟩:=he;exact⟨K1,w1,a1,cs1,ms1,L1.le,L1.jY,L1.frame,L1.cs,L1.size,L1.marks,(L1.arr.pass rfl sM).of_steps start⟩
 |scope x=>
  simp only[codeOk] at aU;simp only[dB] at he;obtain⟨K1,w1,a1,cs1,ms1,L1⟩:=hR.code x e h _ _ _ he K w a B (.inScope x::k) base cs ms hf aZ hs aU;have start:=Steps.one (aeY (P:=P) (b:=B) (a:=a) (k:=k) (cs:=cs) (w:=w) (c:=x));by_cases sM:out=.normal
  ·subst sM;exact⟨K1,w1,a1,cs1,ms1,L1.le,L1.jY,L1.frame,L1.cs,L1.size,L1.marks,(show lv P K1 _ B k cs1 .normal a1 w1 from L1.arr.trans (.one aeX)).of_steps start⟩
  ·exact⟨K1,w1,a1,cs1,ms1,L1.le,L1.jY,L1.frame,L1.cs,L1.size,L1.marks,(L1.arr.abL sM).of_steps start⟩
 |exit id=>simp only[dB,aY,aW] at he;obtain⟨rfl,rfl,rfl⟩:=he;exact⟨K,w,a,cs,ms,.refl hf aZ hs ⟨k,rfl,.refl P _⟩⟩
 |ret=>simp only[dB,aY,aW] at he;obtain⟨rfl,rfl,rfl⟩:=he;exact⟨K,w,a,cs,ms,.refl hf aZ hs ⟨k,.refl P _⟩⟩
 |rangeFunc f ps assign body=>
  simp only[codeOk,aL] at aU;obtain⟨⟨ui,NC⟩,ND⟩:=aU;have ui:=aaB ui;simp only[dB] at he;split at he
  ·rename_i g first az ju
   have kZ:=tW hf.dN f;rw[ju] at kZ;have enter:∃(lg:Nat) (mark:List Deferred) (K1:aH) (w1:aT) (ms1:List Nat),(Instr.enterLoop B.fn a.tmps ps assign body B.roundOf).run P w=.ok (lg,mark) w1/\K.Le K1/\
    fQ P G w0 K1 {h with loops:=h.loops++[{tmps:=e.tmps,params:=ps,assign,body,state:=.ready,pending:=ah}]} w1/\K1.γ[h.loops.length]?=aa lg/\
    gk P K1 e {a with defers:=mark++a.defers} B ms1/\∀r∈ms1,r∈ms∨r∉K.md:=by
    have Ef:∀c,codeOk a.tmps.size c=ab->zw P B.fn a.tmps.size c=ab:=λc hc=>(by unfold zw;rw[hc,hf.fn];rfl);have rD:=hf.round;cases ml:e.round with
    |none=>
     rw[ml] at rD;simp only at rD;have y7:w.heap.size∉K.md:=λhq=>absurd (lt_of_heap (hs.md _ hq).2) (Nat.lt_irrefl _);have s1:=hs.aa0;have le1:=K.Ok w.heap.size;obtain⟨s2,hγ⟩:=s1.ON (r:={tmps:=e.tmps,params:=ps,assign,body,state:=.ready,pending:=ah}) (fn:=B.fn) w.heap.size (hf.dN.mono le1) (Ef _ NC) (Ef _ ND) ui;have le2:=(K.mark w.heap.size).IP (w.alloc (.deferred (aa []))).heap.size;refine⟨_,_,_,_,w.heap.size::ms,by rw[rD];exact run_enterLoop_outer _ _ _ _ _,le1.trans le2,s2,?_,?_,?_⟩
     ·rw[hγ,World.size_alloc]
     ·have Bg:=hf.mono (le1.trans le2);refine⟨Bg.dN,?_,?_,hf.fn⟩
      ·refine .mark _ _ _ _ (by simp[aH.loop,aH.mark]) (λhq=>y7 (hf.defers.sub _ hq)) Bg.defers
      ·rw[ml];exact rD
     ·intro r hr;rcases fe.1 hr with rfl|hr
      ·exact .inr y7
      ·exact .inl hr
    |some l=>
     rw[ml] at rD;obtain⟨lg,hl,hb,Yz,hd,hm,cG⟩:=rD;have du:l<h.loops.length:=(by rw[<-hs.j4];exact(aF.1 hl).1);obtain⟨k1,fn,tmps,d,k2,-⟩:=hs.loop l lg _ hl (cv du);obtain⟨s2,hγ⟩:=hs.ON (r:={tmps:=e.tmps,params:=ps,assign,body,state:=.ready,pending:=ah}) (fn:=B.fn) d hf.dN (Ef _ NC) (Ef _ ND) ui;have le2:=K.IP w.heap.size;refine⟨_,[],_,_,ms,?_,le2,s2,hγ,?_,λr hr=>.inl hr⟩
     ·rw[hb];unfold Instr.enterLoop;simp only[Sem.run_bind,run_getLoop k2,run_newObj_alloc,Result.andThen,Sem.run_pure]
     ·have Bg:=hf.mono le2;exact⟨Bg.dN,Bg.defers,by rw[ml];exact⟨lg,le2.γ _ _ hl,hb,Yz,hd,hm,cG⟩,hf.fn⟩
   obtain⟨lg,mark,K1,w1,ms1,D5,le1,s1,hγ,f1,Ed⟩:=enter;generalize sN:a.eval f=qv at kZ;cases kZ with
   |func _ _ _ fs bu g1 g2=>
    cases oa:R.call g (first++[.yield h.loops.length]++az) {h with loops:=h.loops++[{tmps:=e.tmps,params:=ps,assign,body,state:=.ready,pending:=ah}]} with
    |none=>rw[oa] at he;cases he
    |some q=>
     obtain⟨r,h2⟩:=q;rw[oa] at he;obtain⟨⟨fnn,fw,jM⟩,hc⟩:=hR.call _ _ _ _ _ oa;have dJ:aM K1 (first++[.yield h.loops.length]++az) (fs++#[Value.func (.yield lg) #[] #[]]++bu).toList:=(by simp only[Array.toList_append];exact((g1.mono le1).append (.cons _ _ _ _ (.yield _ _ hγ) .nil)).append (g2.mono le1));obtain⟨K2,w2,fr,le2,s2,bC,-,hl⟩:=hc K1 w1 _ dJ s1 (B.atR {a with defers:=mark++a.defers} (.inRangeFunc lg::k)::cs);have Ip:=stepR_rangeFunc (P:=P) (b:=B) (a:=a) (k:=k) (cs:=cs) (w:=w) (g:=f) (ps:=ps) (assign:=assign) (body:=body) (l:=lg) (mark:=mark) (w₁:=w1) (w₁':=w1) (w₂:=w1) (d:={target:=.fn (.func g) bu,args:=fs++#[Value.func (.yield lg) #[] #[]]}) (f:=g) (args:=fs++#[Value.func (.yield lg) #[] #[]]++bu) D5
      (by have X4:∀v,a.eval (.const v)=v:=λ_=>rfl;simp[resolve,rangeCall,sN,Deferred.ofValue,X4]) (by simp only[invoke];exact JT hn fw jM _ _)
     have start:=Steps.head Ip bC;have f2:=f1.mono le2;have c2:CS K2 B.kind base e.aX cs:=aZ.mono (le1.trans le2);cases r with
     |panic x=>simp only[aY,aW] at he;obtain⟨rfl,rfl,rfl⟩:=he;obtain⟨v,hx,hl⟩:=hl;refine⟨K2,w2,_,cs,ms1,le1.trans le2,s2,f2,c2,rfl,Ed,.inRangeFunc lg::k,v,hx,start.trans (.one ?_)⟩;rw[step_leave_panicked hl,Frame.raise_atR]
     |ret x=>
      obtain⟨v,hx,hl⟩:=hl;have back:=start.trans (.one (step_leave_returned hl));rw[finish_atR_inRangeFunc] at back;simp only at he;split at he
      ·rename_i r hr;split at he
       ·cases he
       ·rename_i XX;obtain⟨mm,m1,m2,m3,-,-,-,-,-,-,-,s3⟩:=s2.dY (le2.γ _ _ hγ) hr .exhausted r.pending;have eU:=run_endLoop (P:=P) m1 (by rw[m2];exact XX);have gP:({mm with state:=.exhausted,pending:=r.pending}:Loop)={mm with state:=.exhausted}:=(by rw[<-m3]);rw[gP] at s3;have Yg:(Instr.endLoop lg).run P w2=.ok r.pending (w2.putObj lg (.loop {mm with state:=.exhausted})):=(by rw[<-m3];exact eU);have back2:=back.trans (.one (stepR_endRangeFunc Yg));cases hp:r.pending with
        |none=>rw[hp] at he back2 s3;simp only[aY,aW] at he;obtain⟨rfl,rfl,rfl⟩:=he;exact⟨K2,_,_,cs,ms1,le1.trans le2,s3,f2,c2,rfl,Ed,back2⟩
        |some code=>
         rw[hp] at he back2 s3;cases code with
         |ret=>simp only[aY,aW] at he;obtain⟨rfl,rfl,rfl⟩:=he;exact⟨K2,_,_,cs,ms1,le1.trans le2,s3,f2,c2,rfl,Ed,k,back2⟩
         |exit id=>simp only[aY,aW] at he;obtain⟨rfl,rfl,rfl⟩:=he;exact⟨K2,_,_,cs,ms1,le1.trans le2,s3,f2,c2,rfl,Ed,k,rfl,back2⟩
         |_=>cases he
      ·cases he
  ·cases he
 |_=>simp[dB] at he
end
section
variable {P:aQ} {G:Nat->Option (List AV)} {w0:aT} {R:Rec}
def Fg(tmps:Array aC):ResultVar->Sem aC
 | .tmp t=>pure (tmps.getD t undef)
 | .cell a t=>do loadVar t (<-asAddr (tmps.getD a undef))
def acF{K:aH}{e:Env}{h:ae}{w:aT}(s:fQ P G w0 K h w){tmps:Array aC}(hs:jl K e.tmps tmps):∀{rs:List ResultVar} {l:List AV},rQ P G e h rs=aa l->
 ∃vs:List aC,aM K l vs/\(rs.mapM (Fg tmps)).run P w=.ok vs w:=by
 intro rs
 induction rs with
 |nil=>intro l hl;simp only[rQ,aY] at hl;subst hl;exact⟨[],.nil,by simp⟩|cons r rs ih=>
  intro l hl;cases r with
  |tmp t=>simp only[rQ,cn] at hl;obtain⟨l',kv,rfl⟩:=hl;obtain⟨vs,h1,h2⟩:=ih kv;exact⟨_::vs,.cons _ _ _ _ (hs t) h1,by simp[Sa,h2,Fg]⟩
  |cell a t=>
   simp only[rQ] at hl;split at hl
   ·rename_i x l' hx kv;injection hl with hl;subst hl;obtain⟨vs,h1,h2⟩:=ih kv;obtain⟨g,p,v,hp,xy,hv⟩:=IZ s hx (hs a);refine⟨v::vs,.cons _ _ _ _ hv h1,?_⟩;rw[Sa];simp only[Fg,hp,asAddr,Sem.run_bind,Sem.run_pure,Result.andThen_ok,xy,h2]
   ·cases hl
def acG{K:aH}{fn:Func}{e:Env}{h:ae}{w:aT}(s:fQ P G w0 K h w){tmps:Array aC}(hs:jl K e.tmps tmps){x:AV}(he:Ck P G fn e h=aa x):
 ∃v,aI K x v/\(results fn tmps).run P w=.ok v w:=by
 unfold Ck at he;have key:∀l,rQ P G e h fn.results.toList=aa l->∃vs:List aC,aM K l vs/\(results fn tmps).run P w=.ok (if hh:vs.toArray.size=1 then vs.toArray[0] else .tuple vs.toArray) w:=by
  intro l hl;obtain⟨vs,h1,h2⟩:=acF s hs hl;refine⟨vs,h1,?_⟩;have qG:results fn tmps=(do let vs <-fn.results.mapM (Fg tmps);pure (if h:vs.size=1 then vs[0] else .tuple vs)):=by unfold results;congr 2
  rw[qG,Array.mapM_eq_mapM_toList];simp only[Sem.run_bind,Sem.run_map,h2,Result.andThen_ok,Sem.run_pure]
 split at he
 ·rename_i x' hl;injection he with he;subst he;obtain⟨vs,h1,h2⟩:=key _ hl;cases h1 with|cons _ c _ cs h3 h4=>cases h4;exact⟨c,h3,h2⟩
 ·rename_i l bL hl;injection he with he;subst he;obtain⟨vs,h1,h2⟩:=key _ hl;refine⟨.tuple vs.toArray,.tuple _ _ (by simpa using h1),?_⟩;rw[h2];have aP:vs.length≠1:=by rw[<-h1.length];intro hq;obtain⟨y,rfl⟩:=List.length_eq_one_iff.1 hq;exact bL y rfl
  simp[aP]
 ·cases he
def ox(K:aH):Option (AV × Bool)->FrameMode->Prop
 |none,u=>u=.returning
 |some (x,r),u=>r=ak/\∃v,aI K x v/\u=.panicking [{v,recovered:=ak}]
def ox.run{K}{m u}(h:ox K m u):u≠ .run:=by
 cases m with|none=>simp only[ox] at h;rw[h];simp|some p=>obtain⟨x,r⟩:=p;obtain⟨_,v,_,h⟩:=h;rw[h];simp
def ox.un{K}{r}{m u}(h:ox K m u):ox (K.un r) m u:=by
 cases m with|none=>exact h|some p=>obtain⟨x,r⟩:=p;obtain⟨h1,v,h2,h⟩:=h;exact⟨h1,v,aI.un h2,h⟩
def ox.mono{K K'}(le:K.Le K'){m u}(h:ox K m u):ox K' m u:=by
 cases m with|none=>exact h|some p=>obtain⟨x,r⟩:=p;obtain⟨h1,v,h2,h⟩:=h;exact⟨h1,v,h2.mono le,h⟩
def jl.un{K}{r}{s tmps}(h:jl K s tmps):jl (K.un r) s tmps:=λt=>aI.un (h t)
def ae1{fr:cW}{cs:List cW}{w:aT}{r:Nat}{args:Array aC}{ds:List Deferred}(hm:fr.mode≠ .run)(hd:fr.defers={target:=.collected r,args}::ds)(hr:w.heap[r]?=aa (.deferred (aa []))):
 step P (lone fr cs w)=.next (lone {fr with defers:=ds} cs (w.putObj r (.deferred ah))):=by
 refine step_lone_go ?_;have ht:=run_takeDeferred (P:=P) hr;cases oL:fr.mode with|run=>exact absurd oL hm|returning=>simp[stepG,unwind,oL,hd,Sem.runT_eq,ht]|panicking chain=>simp[stepG,unwind,oL,hd,Sem.runT_eq,ht]
def settled:Option (AV × Bool)->Option (AV × Bool)
 |some (_,ab)=>ah
 |q=>q
def Ao(P:aQ)(K:aH)(fn:Func)(fr:cW)(w:aT):bw->Prop
 | .ret x=>fr.mode=.returning/\∃v,aI K x v/\(results fn fr.tmps).run P w=.ok v w
 | .panic x=>∃v,aI K x v/\fr.mode=.panicking [{v,recovered:=ak}]
def af0(hR:o7 P G w0 R)(hn:tK P){g:bF}{fn:Func}(fw:P.funcs[g]?=aa fn){K0:aH}{e:Env}:∀(cds:List Deferred) (ds:List (bF × List AV)) (ms:List Nat) (m:Option (AV × Bool)) (h:ae) (res:bw) (h':ae),
 eZ P G R fn e ds m h=aa (res,h')->∀(K:aH) (w:aT) (fr:cW) (cs:List cW),fr.fn=g->fr.defers=cds->nf K ds cds ms->jl K e.tmps fr.tmps->ox K m fr.mode->fQ P G w0 K h w->K0.Le K->
 (∀r∈ms,r∉K0.md)->
 ∃K' w' fr',K0.Le K'/\fQ P G w0 K' h' w'/\Steps P (lone fr cs w) (lone fr' cs w')/\fr'.kind=fr.kind/\fr'.defers=[]/\fr'.fn=g/\Ao P K' fn fr' w' res/\(∀kind base p cs,CS K kind base p cs->CS K' kind base p cs):=by
 intro cds
 induction cds with
 |nil=>
  intro ds ms m h res h' he K w fr cs hg hd mh Em oL hs dS Ec;generalize hq:([]:List Deferred)=q at mh;cases mh with
  |call=>cases hq
  |mark=>cases hq
  |nil=>
   cases m with
   |none=>simp only[eZ,cn,aW] at he;obtain⟨x,hx,rfl,rfl⟩:=he;obtain⟨v,h1,h2⟩:=acG hs Em hx;exact⟨K,w,fr,dS,hs,.refl P _,rfl,hd,hg,⟨oL,v,h1,h2⟩,λ_ _ _ _ h=>h⟩
   |some p=>obtain⟨x,r⟩:=p;simp only[eZ,aY,aW] at he;obtain⟨rfl,rfl⟩:=he;obtain⟨-,v,h1,h2⟩:=oL;exact⟨K,w,fr,dS,hs,.refl P _,rfl,hd,hg,⟨v,h1,h2⟩,λ_ _ _ _ h=>h⟩
 |cons d cds ih=>
  intro ds ms m h res h' he K w fr cs hg hd mh Em oL hs dS Ec;generalize hq:d::cds=q at mh;cases mh with
  |nil=>cases hq
  |mark r ds' cds' ms' hr YQ Bu=>injection hq with qF jP;subst qF;subst jP;have YH:=hs.md r hr;have gi:=ae1 (P:=P) (cs:=cs) oL.run hd YH.2;have xE:r∉K0.md:=Ec r dQ;obtain⟨K',w',fr',g1,g2,g3,g4,g5,g6,g7,g8⟩:=ih _ ms' m h res h' he (K.un r) _ {fr with defers:=cds} cs hg rfl (Bu.un YQ) Em.un oL.un (hs.drop hr (.deferred ah) (by intro _ _ _ hq;cases hq)) (ZX dS xE) (λr' gg=>Ec r' (dG _ gg));exact⟨K',w',fr',g1,g2,.head gi g3,g4,g5,g6,g7,λ_ _ _ _ hc=>g8 _ _ _ _ hc.un⟩
  |call f args vs az ds' cds' _ hv Bu=>
   injection hq with qF jP;subst qF;subst jP;simp only[eZ] at he;cases oa:R.fS f args m h with
   |none=>rw[oa] at he;cases he
   |some q=>
    obtain⟨rr,m1,h1⟩:=q;rw[oa] at he;cases rr with
    |panic x=>simp at he|ret x=>
     obtain⟨⟨fnn,HL,jM⟩,hc⟩:=hR.fS _ _ _ _ _ _ _ oa;have hinv:(invoke (.fn (.func f) az) vs).run P w=.ok (.enter f (vs++az)) w:=(by simp only[invoke];exact JT hn HL jM _ _);have gi:=step_defer (P:=P) (cs:=cs) (d:={target:=.fn (.func f) az,args:=vs}) oL.run hd rfl hinv;have aZ:CS K .deferred ({fr with defers:=cds,mode:=.returning}::cs) m ({fr with defers:=cds}::cs):=by
      cases m with
      |none=>have:({fr with defers:=cds}:cW)={fr with defers:=cds,mode:=.returning}:=(by rw[<-show fr.mode=.returning from oL]);rw[this];exact .ret _ _ rfl rfl rfl
      |some p=>obtain⟨y,r⟩:=p;obtain⟨rfl,v,Zk,Ix⟩:=oL;have:({fr with defers:=cds}:cW)={({fr with defers:=cds,mode:=.returning}:cW) with mode:=.panicking [{v,recovered:=ak}]}:=(by rw[<-Ix]);rw[this];exact .aX _ _ y v ak rfl rfl Zk
     obtain⟨K1,w1,fr1,cs1,v1,le1,s1,c1,bC,Yv,gH⟩:=hc K w (vs++az) _ _ hv aZ hs;have jN:∃u,cs1={fr with defers:=cds,mode:=u}::cs/\ox K1 (settled m1) (settle u):=by
      generalize yQ:({fr with defers:=cds,mode:=.returning}:cW)::cs=base at c1;cases c1 with
      |normal hh=>cases hh
      |ret c0 rest _ hb hm=>refine⟨.returning,yQ.symm,?_⟩;simp[ox,settle,settled]|aX c0 rest y v r _ hb hx=>
       rw[hb] at yQ;injection yQ with gf ew;subst gf;subst ew;refine⟨.panicking [{v,recovered:=r}],rfl,?_⟩;cases r with|true=>simp[ox,settle,settled]|false=>exact⟨rfl,v,hx,rfl⟩
     obtain⟨u,rfl,jN⟩:=jN;have XR:=step_going_returned (c:={fr with defers:=cds,mode:=u}) (cs:=cs) Yv gH;have vu:eZ P G R fn e ds' (settled m1) h1=aa (res,h'):=by
      rcases m1 with _|⟨y,r⟩
      ·exact he
      ·cases r<;>exact he
     obtain⟨K',w',fr',g1,g2,g3,g4,g5,g6,g7,g8⟩:=ih _ ms _ h1 res h' vu K1 w1 {fr with defers:=cds,mode:=settle u} cs hg rfl (Bu.mono le1) (Em.mono le1) jN s1 (dS.trans le1) Ec;exact⟨K',w',fr',g1,g2,.head gi (bC.trans (.head XR g3)),g4,g5,g6,g7,λ_ _ _ _ hq=>g8 _ _ _ _ (hq.mono le1)⟩
def Vh{n n'}(h:n<=n'):∀{c:Code},codeOk n c=ab->codeOk n' c=ab:=by
 intro c
 induction c with
 |region id ops draw=>
  simp only[codeOk,pT,uQ];intro hq i hi;have:=hq i hi
  revert this
  cases ops[i].dst with|none=>intro _;rfl|some d=>simp only[decide_eq_true_eq];intro hd;exact lY hd h
 |seq a b iha ihb=>simp only[codeOk,aL];exactλhq=>⟨iha hq.1,ihb hq.2⟩|cond q a b iha ihb=>simp only[codeOk,aL];exactλhq=>⟨iha hq.1,ihb hq.2⟩|block id c ih=>simp only[codeOk];exact ih|loop c ih=>simp only[codeOk];exact ih|scope c ih=>simp only[codeOk];exact ih|rangeFunc f ps a b iha ihb=>simp only[codeOk,aL,uQ,decide_eq_true_eq];exactλhq=>⟨⟨λi hi=>lY (hq.1.1 i hi) h,iha hq.1.2⟩,ihb hq.2⟩|_=>intro hq;exact hq
structure Prog(P:aQ):Prop where
 names:tK P
 mixed:P.follows .mixedOrders=ab
 code:∀(g:bF) (fn:Func) (c:Code),P.funcs[g]?=aa fn->fn.body=aa c->codeOk fn.ntmps c=ab
def aeB{K}{args}{bS}(hv:aM K args bS.toList)(n):jl K {ch:=[],base:=args} (bS++wL n undef):=by
 intro t;simp only[kO.get,look];have aP:=hv.length;rcases dp t args.length with ay|dy
 ·obtain⟨c,h1,h2⟩:=hv.get (cv ay);have hb:args.getD t (.tuple [])=args[t]:=by simp[ay]
  rw[hb];have hc:(bS++wL n undef).getD t undef=c:=by have YD:t<bS.size:=(by simpa [aP] using ay);rw[tA,Array.getElem?_append_left YD,<-sd,h1];rfl
  rw[hc];exact h2
 ·have hb:args.getD t (.tuple [])=.tuple []:=by simp[List.getElem?_eq_none dy]
  rw[hb];have hc:(bS++wL n undef).getD t undef=undef:=by have Yo:bS.size<=t:=(by simpa [aP] using dy);rw[tA,Array.getElem?_append_right Yo,An];split<;>rfl
  rw[hc];exact .tuple [] #[] .nil
def LL(hp:Prog P)(hR:o7 P G w0 R){g:bF}{args:List AV}{m m':Option (AV × Bool)}{h h':ae}{res:bw}(he:oB P G R g args m h=aa (res,m',h')):
 (∃fn,P.funcs[g]?=aa fn/\fn.body.isSome=ab)/\∀(K:aH) (w:aT) (bS:Array aC) (kind:CallKind) (base cs:List cW),aM K args bS.toList->CS K kind base m cs->fQ P G w0 K h w->
 ∃K' w' fr bu fn,P.funcs[g]?=aa fn/\K.Le K'/\fQ P G w0 K' h' w'/\CS K' kind base m' bu/\Steps P (lone (Frame.enter P g bS kind) cs w) (lone fr bu w')/\fr.kind=kind/\fr.defers=[]/\fr.fn=g/\Ao P K' fn fr w' res:=by
 unfold oB at he;split at he
 ·cases he
 ·rename_i fn fw;split at he
  ·cases he
  ·rename_i body jM;refine⟨⟨fn,fw,by rw[jM];rfl⟩,λK w bS kind base cs hv aZ hs=>?_⟩
   let b:cW:={(default:cW) with fn:=g,kind:=kind}
   let a:Act:={tmps:=bS++wL (fn.ntmps - bS.size) undef,defers:=[]}
   have hb:b.roundOf=ah:=rfl;have D6:Frame.enter P g bS kind=b.atR a [.code body]:=(by unfold Frame.enter Frame.atR;simp only[fw,jM,b,a,cy,wQ,qZ];rfl);have HJ:gk P K {tmps:={ch:=[],base:=args},defers:=[],aX:=m,round:=ah} a b []:=
    ⟨aeB hv _,.nil,rfl,by show(P.funcs[g]?).isSome=ab;rw[fw];rfl⟩
   have aU:codeOk a.tmps.size body=ab:=Vh (by simp[a];omega) (hp.code g fn body fw jM);have finish:∀(out:Xt) (e:Env) (h1:ae) (m0:Option (AV × Bool)),R.code body {tmps:={ch:=[],base:=args},defers:=[],aX:=m,round:=ah} h=aa (out,e,h1)->
    (out=.normal/\m0=ah∨out=.ret/\m0=ah∨∃x,out=.panic x/\m0=aa (x,ak))->(eZ P G R fn e e.defers m0 h1).map (λ(r,h)=>(r,e.aX,h))=aa (res,m',h')->
    ∃K' w' fr bu fn,P.funcs[g]?=aa fn/\K.Le K'/\fQ P G w0 K' h' w'/\CS K' kind base m' bu/\Steps P (lone (Frame.enter P g bS kind) cs w) (lone fr bu w')/\fr.kind=kind/\fr.defers=[]/\fr.fn=g/\Ao P K' fn fr w' res:=by
    intro out e h1 m0 qw Bq jQ;obtain⟨K1,w1,a1,cs1,ms1,L⟩:=hR.code _ _ _ _ _ _ qw K w a b [] base cs [] HJ aZ hs aU;simp only[cn,aW] at jQ;obtain⟨⟨r,hh⟩,jQ,rfl,rfl,rfl⟩:=jQ;have rm:∃(todo:List Item) (u:FrameMode),ox K1 m0 u/\Steps P (lone (Frame.enter P g bS kind) cs w) (lone {b.atR a1 todo with mode:=u} cs1 w1):=by
     rw[D6];rcases Bq with⟨rfl,rfl⟩|⟨rfl,rfl⟩|⟨x,rfl,rfl⟩
     ·exact⟨[],.returning,rfl,Steps.trans L.arr (.one (stepR_end hb))⟩
     ·obtain⟨todo,bC⟩:=L.arr;exact⟨_,.returning,rfl,Steps.trans bC (.one (stepR_ret hb))⟩
     ·obtain⟨todo,v,hx,bC⟩:=L.arr;exact⟨todo,_,⟨rfl,v,hx,rfl⟩,bC⟩
    obtain⟨todo,u,oL,bC⟩:=rm;obtain⟨K2,w2,fr,g1,g2,g3,g4,g5,g6,g7,g8⟩:=af0 hR hp.names fw a1.defers e.defers ms1 m0 h1 r hh jQ K1 w1 {b.atR a1 todo with mode:=u} cs1 rfl rfl L.frame.defers L.frame.dN oL L.jY L.le
     (λr hr=>(L.marks r hr).resolve_left bh)
    exact⟨K2,w2,fr,cs1,fn,fw,g1,g2,g8 _ _ _ _ L.cs,bC.trans g3,g4,g5,g6,g7⟩
   split at he
   ·rename_i e1 h1 hc;exact finish _ _ _ _ hc (.inl ⟨rfl,rfl⟩) he
   ·rename_i e1 h1 hc;exact finish _ _ _ _ hc (.inr (.inl ⟨rfl,rfl⟩)) he
   ·rename_i x e1 h1 hc;exact finish _ _ _ _ hc (.inr (.inr ⟨x,rfl,rfl⟩)) he
   ·cases he
def Ao.adh{K:aH}{fn:Func}{fr:cW}{w:aT}{res:bw}(hg:Ao P K fn fr w res)(hf:P.funcs[fr.fn]?=aa fn)(hk:fr.kind=.normal)(hd:fr.defers=[]):K9 P K fr w res:=by
 cases res with
 |ret x=>obtain⟨h1,v,h2,h3⟩:=hg;exact⟨v,h2,h1,hd,hk,fn,hf,h3⟩
 |panic x=>obtain⟨v,h2,h3⟩:=hg;exact⟨v,h2,h3,hd,fn,hf⟩
def kN(P:aQ)(G:Nat->Option (List AV))(w0:aT)(g:bF)(p:List AV->ae->Option (AV × ae)):Prop:=
 (∃fn,P.funcs[g]?=aa fn/\fn.body.isSome=ab)/\
 ∀args h x h',p args h=aa (x,h')->∀(K:aH) (w:aT) (bS:Array aC),aM K args bS.toList->fQ P G w0 K h w->
  Calls P g bS w λe w'=>∃v K',e=.returned v/\K.Le K'/\aI K' x v/\fQ P G w0 K' h' w'
def WZ(hp:Prog P){aD:bF->Option (List AV->ae->Option (AV × ae))}(qE:∀g p,aD g=aa p->kN P G w0 g p)(hR:o7 P G w0 R):La P G w0 (ri P G R aD):=by
 intro g args h r h' he;unfold ri at he;split at he
 ·rename_i p pI;simp only[cn,aW] at he;obtain⟨⟨x,hh⟩,hx,rfl,rfl⟩:=he;obtain⟨fw,XZ⟩:=qE g p pI;refine⟨fw,λK w bS hv hs cs=>?_⟩;obtain⟨e,w',fr,⟨v,K',rfl,le,BF,s'⟩,hc,qy,hl⟩:=XZ args h x hh hx K w bS hv hs cs;exact⟨K',w',fr,le,s',hc,qy,v,BF,hl⟩
 ·simp only[cn,aW] at he;obtain⟨⟨r',m',hh⟩,hx,rfl,rfl⟩:=he;obtain⟨fw,hb⟩:=LL hp hR hx;refine⟨fw,λK w bS hv hs cs=>?_⟩;obtain⟨K',w',fr,bu,fn,hf,le,s',c',bC,hk,hd,hg,HU⟩:=hb K w bS .normal cs cs hv (.normal rfl) hs;have:bu=cs:=by
   generalize hq:CallKind.normal=q at c';cases c' with|normal=>rfl|ret c0 rest h1=>exact absurd (hq.trans h1) bh|aX c0 rest x v r h1=>exact absurd (hq.trans h1) bh
  subst this;exact⟨K',w',fr,le,s',bC,hg,HU.adh (by rw[hg];exact hf) hk hd⟩
def Vq(hp:Prog P)(hR:o7 P G w0 R):Lc P G w0 (oB P G R):=by intro g args m h x m' h' he;obtain⟨fw,hb⟩:=LL hp hR he;refine⟨fw,λK w bS base cs hv aZ hs=>?_⟩;obtain⟨K',w',fr,bu,fn,hf,le,s',c',bC,hk,hd,hg,HU⟩:=hb K w bS .deferred base cs hv aZ hs;obtain⟨h1,v,h2,h3⟩:=HU;exact⟨K',w',fr,bu,v,le,s',c',bC,hk,h1,hd,fn,by rw[hg];exact hf,h3⟩
def aep{K}:∀{ps:List Tmp} {args:List AV} {bS:List aC} {s:kO} {tmps:Array aC},aM K args bS->jl K s tmps->(∀p∈ps,p<tmps.size)->
 jl K (zY ps args s) ((ps.zip bS).foldl (λts p=>ts.setIfInBounds p.1 p.2) tmps)/\((ps.zip bS).foldl (λts p=>ts.setIfInBounds p.1 p.2) tmps).size=tmps.size:=by
 intro ps
 induction ps with
 |nil=>intro args bS s tmps hv hs hp;exact⟨hs,rfl⟩|cons p ps ih=>
  intro args bS s tmps hv hs hp;cases hv with
  |nil=>exact⟨hs,rfl⟩|cons x c xs cs hx IB=>
   have h1:=jl.set hs (hp p dQ) hx;obtain⟨i1,i2⟩:=ih (s:=s.set p x) (tmps:=tmps.setIfInBounds p c) IB h1 (λq hq=>by simpa using hp q (dG _ hq));refine⟨?_,?_⟩
   ·simpa [zY] using i1
   ·simpa using i2
def adk(hR:o7 P G w0 R):Ld P G w0 (rR R):=by
 intro l args h r h' he K w bS lg hγ hv hs pg cs;unfold rR at he;split at he
 ·cases he
 ·rename_i rec Ik;split at he
  ·rename_i Y5;obtain⟨mm,m1,m2,m3,m4,m5,m6,m7,m8,m9,m10,-⟩:=hs.dY hγ Ik rec.state rec.pending;have sG:bS.size=mm.params.size:=(by rw[m4,Y5,hv.length];simp);have hy:=run_yield (P:=P) m1 sG;split at he
   ·rename_i e1 h1 XP;split at he
    ·rename_i r1 fU;split at he
     ·rename_i Y0;obtain⟨sp1,sp2⟩:=aep (ps:=rec.params.toList) hv m7 m10;have HM:(mm.params.zip bS).foldl (λtmps (x:Tmp × aC)=>tmps.setIfInBounds x.1 x.2) mm.tmps=(rec.params.toList.zip bS.toList).foldl (λts p=>ts.setIfInBounds p.1 p.2) mm.tmps:=by rw[<-Array.foldl_toList,Array.toList_zip,m4]
      let b:cW:={(default:cW) with fn:=mm.fn,kind:=.normal,roundOf:=aa lg}
      let a:Act:={tmps:=(rec.params.toList.zip bS.toList).foldl (λts p=>ts.setIfInBounds p.1 p.2) mm.tmps,defers:=[]}
      have Nf:(P.funcs[mm.fn]?).isSome=ab:=(by have:=m8;unfold zw at this;rw[aL] at this;exact this.2);have HJ:gk P K {tmps:=zY rec.params.toList args rec.tmps,defers:=[],aX:=ah,round:=aa l} a b []:=
       ⟨sp1,.nil,⟨lg,hγ,rfl,rfl,rfl,rfl,rfl⟩,Nf⟩
      have YV:codeOk a.tmps.size rec.assign=ab:=(by have:=m8;unfold zw at this;rw[aL] at this;show codeOk (Rp _) _=ab;rw[sp2];exact this.1);have YW:codeOk a.tmps.size rec.body=ab:=(by have:=m9;unfold zw at this;rw[aL] at this;show codeOk (Rp _) _=ab;rw[sp2];exact this.1);have Ip:Frame.round lg mm.fn ((mm.params.zip bS).foldl (λtmps (x:Tmp × aC)=>tmps.setIfInBounds x.1 x.2) mm.tmps) mm.assign mm.body .normal=b.atR a [.code rec.assign,.beginRound,.code rec.body]:=(by simp only[Frame.round,Frame.atR,b,a,HM,m5,m6]);have nocs:∀{K:aH} {p:Option (AV × Bool)} {base bu:List cW},CS K .normal base p bu->bu=base:=by
       intro K p base bu c;generalize hq:CallKind.normal=q at c;cases c with|normal=>rfl|ret c0 rest h1=>exact absurd (hq.trans h1) bh|aX c0 rest x v r h1=>exact absurd (hq.trans h1) bh
      obtain⟨K1,w1,a1,cs1,ms1,L1⟩:=hR.code _ _ _ _ _ _ XP K w a b [.beginRound,.code rec.body] (pg::cs) (pg::cs) [] HJ (.normal rfl) hs YV;have X3:=nocs L1.cs;subst X3;obtain⟨nn,n1,n2,n3,n4,n5,n6,n7,n8,n9,n10,sbusy⟩:=L1.jY.dY (L1.le.γ _ _ hγ) fU .busy r1.pending;have XT:=run_beginRound (P:=P) n1 (n2.trans Y0);have Yi:({nn with state:=.busy,pending:=r1.pending}:Loop)={nn with state:=.busy}:=(by rw[<-n3]);rw[Yi] at sbusy;have oK:Steps P (lone (Frame.round lg mm.fn ((mm.params.zip bS).foldl (λtmps (x:Tmp × aC)=>tmps.setIfInBounds x.1 x.2) mm.tmps) mm.assign mm.body .normal) (pg::cs) w)
       (lone (b.atR a1 [.code rec.body]) (pg::cs) (w1.putObj lg (.loop {nn with state:=.busy}))):=by
       rw[Ip];exact Steps.trans L1.arr (.one (stepR_beginRound rfl XT))
      have agI:∀r∈ms1,r∉K.md:=λr hr=>(L1.marks r hr).resolve_left bh;have body:∀(out:Xt) (e2:Env) (h2:ae),R.code rec.body e1 {h1 with loops:=h1.loops.set l {r1 with state:=.busy}}=aa (out,e2,h2)->
       ∃K2 w2 a2 ms2,K.Le K2/\fQ P G w0 K2 h2 w2/\gk P K2 e2 a2 b ms2/\lv P K2 (lone (b.atR a1 [.code rec.body]) (pg::cs) (w1.putObj lg (.loop {nn with state:=.busy}))) b [] (pg::cs) out a2 w2:=by
       intro out e2 h2 qw;obtain⟨K2,w2,a2,cs2,ms2,L2⟩:=hR.code _ _ _ _ _ _ qw K1 _ a1 b [] (pg::cs) (pg::cs) ms1 L1.frame L1.cs sbusy (by rw[L1.size];exact YW);have HF:=nocs L2.cs;subst HF;exact⟨K2,w2,a2,ms2,L1.le.trans L2.le,L2.jY,L2.frame,L2.arr⟩
      have ending:∀(h2:ae) (out:bw) (hh:ae) (st:LoopState) (pe:Option Code) (bb:Bool) (K2:aH) (w2:aT),K.Le K2->fQ P G w0 K2 h2 w2->pe.isNone=bb->(if pe.isNone then LoopState.ready else .done)=st->
       ((h2.loops[l]?).map λr=>(bw.ret (.v (.bool bb)),{h2 with loops:=h2.loops.set l {r with state:=st,pending:=pe}}))=aa (out,hh)->
       ∃v w3,(Instr.endRound lg pe).run P w2=.ok (.bool bb) w3/\fQ P G w0 K2 hh w3/\out=.ret (.v (.bool bb))/\aI K2 (.v (.bool bb)) v/\v=.bool bb:=by
       intro h2 out hh st pe bb K2 w2 le2 s2 Bb bC Bj;simp only[cn,aW] at Bj;obtain⟨r2,gQ,rfl,rfl⟩:=Bj;obtain⟨qq,q1,q2,q3,-,-,-,-,-,-,-,send⟩:=s2.dY (le2.γ _ _ hγ) gQ st pe;have eU:=run_endRound (P:=P) pe q1;rw[bC,Bb] at eU;exact⟨_,_,eU,send,rfl,.v _ rfl,rfl⟩
      have jO:∀{K2:aH} {e2:Env} {a2:Act} {ms2:List Nat},gk P K2 e2 a2 b ms2->e2.round=aa l->a2.defers=[]:=(by intro K2 e2 a2 ms2 hf hr;have:=hf.round;rw[hr] at this;obtain⟨_,_,_,_,h1,_⟩:=this;exact h1);refine⟨mm.fn,(mm.params.zip bS).foldl (λtmps (x:Tmp × aC)=>tmps.setIfInBounds x.1 x.2) mm.tmps,mm.assign,mm.body,?_⟩;split at he
      ·rename_i e2 h2 jM;obtain⟨K2,w2,a2,ms2,le2,s2,f2,rm⟩:=body _ _ _ jM;obtain⟨v,w3,eU,s3,rfl,BD,rfl⟩:=ending h2 r h' .ready ah ab K2 w2 le2 s2 rfl rfl he;exact⟨K2,w3,hy,le2,s3,_,BD,oK.trans (Steps.trans rm (.one (stepR_round_end rfl rfl eU)))⟩
      ·rename_i e2 h2 jM;obtain⟨K2,w2,a2,ms2,le2,s2,f2,todo,rm⟩:=body _ _ _ jM;obtain⟨v,w3,eU,s3,rfl,BD,rfl⟩:=ending h2 r h' .done (aa .ret) ak K2 w2 le2 s2 rfl rfl he;exact⟨K2,w3,hy,le2,s3,_,BD,oK.trans (rm.trans (.one (stepR_round_ret rfl rfl eU)))⟩
      ·rename_i id e2 h2 jM;obtain⟨K2,w2,a2,ms2,le2,s2,f2,todo,ny,rm⟩:=body _ _ _ jM;obtain⟨v,w3,eU,s3,rfl,BD,rfl⟩:=ending h2 r h' .done (aa (.exit id)) ak K2 w2 le2 s2 rfl rfl he;exact⟨K2,w3,hy,le2,s3,_,BD,oK.trans (rm.trans (.one (stepR_round_exit rfl rfl (ny.trans rfl) eU)))⟩
      ·rename_i x e2 h2 jM;simp only[aY,aW] at he;obtain⟨rfl,rfl⟩:=he;obtain⟨K2,w2,a2,ms2,le2,s2,f2,todo,v,hx,rm⟩:=body _ _ _ jM;have hd:a2.defers=[]:=by
        have:=f2.round;cases hq:e2.round with
        |none=>rw[hq] at this;cases this
        |some l'=>rw[hq] at this;obtain⟨_,_,_,_,h1,_⟩:=this;exact h1
       obtain⟨fnn,HL⟩:=Option.isSome_iff_exists.1 Nf;exact⟨K2,w2,hy,le2,s2,v,_,hx,oK.trans rm,rfl,hd,fnn,HL⟩
      ·cases he
     ·cases he
    ·cases he
   ·cases he
  ·cases he
def E6(hp:Prog P){aD:bF->Option (List AV->ae->Option (AV × ae))}(qE:∀g p,aD g=aa p->kN P G w0 g p):∀n,o7 P G w0 (fk P G aD n):=by
 intro n
 induction n with
 |zero=>
  refine⟨?_,?_,?_,?_⟩
  ·intro c e h out e' h' he;cases he
  ·intro g args h r h' he;cases he
  ·intro g args m h x m' h' he;cases he
  ·intro l args h r h' he;cases he
 |succ n ih=>exact⟨Vk hp.names hp.mixed ih,WZ hp qE ih,Vq hp ih,adk ih⟩
end
end Go.AE
end
section
namespace Go.AE
structure jF(R R':Rec):Prop where
 code:∀c e h r,R.code c e h=aa r->R'.code c e h=aa r
 call:∀g a h r,R.call g a h=aa r->R'.call g a h=aa r
 fS:∀g a m h r,R.fS g a m h=aa r->R'.fS g a m h=aa r
 round:∀l a h r,R.round l a h=aa r->R'.round l a h=aa r
section
variable {P:aQ} {G:Nat->Option (List AV)} {R R':Rec}
def UG(le:jF R R'){e:Env}{h:ae}{c:Call}{r:bw × ae}(hc:mc P R e h c=aa r):mc P R' e h c=aa r:=by
 unfold mc at hc ⊢;cases mJ:c.callee with
 |builtin b=>rw[mJ] at hc;cases hc
 |value f=>
  simp only[mJ] at hc ⊢;split at hc
  ·rename_i h1;(try simp only[h1]);exact le.call _ _ _ _ hc
  ·rename_i h1;(try simp only[h1]);exact le.round _ _ _ _ hc
  ·cases hc
 |invoke v m=>
  simp only[mJ] at hc ⊢;split at hc
  ·rename_i h1
   (try simp only[h1])
   split at hc
   ·rename_i h2;(try simp only[h2]);exact le.call _ _ _ _ hc
   ·cases hc
  ·cases hc
def zx(le:jF R R'){e:Env}{h:ae}{o:Oper}{r:bw × Env × ae}(ho:cA P G R e h o=aa r):cA P G R' e h o=aa r:=by
 unfold cA at ho ⊢;split at ho
 ·exact ho
 ·exact ho
 ·exact ho
 ·simp only[cn] at ho ⊢;obtain⟨q,hq,he⟩:=ho;exact⟨q,UG le hq,he⟩
 ·exact ho
 ·exact ho
 ·exact ho
def iH(le:jF R R'){ops:Array Oper}:∀{l:List Nat} {e:Env} {h:ae} {r:Xt × Env × ae},aG P G R ops l e h=aa r->aG P G R' ops l e h=aa r:=by
 intro l
 induction l with
 |nil=>intro e h r ho;exact ho|cons i l ih=>
  intro e h r ho;simp only[aG] at ho ⊢;cases Bo:ops[i]? with
  |none=>rw[Bo] at ho;cases ho
  |some o=>
   rw[Bo] at ho;simp only at ho ⊢;cases hw:cd ops e o with
   |none=>rw[hw] at ho;cases ho
   |some b=>
    rw[hw] at ho;cases b with
    |false=>exact ih ho|true=>
     simp only at ho ⊢;cases aR:cA P G R e h o with
     |none=>rw[aR] at ho;cases ho
     |some q=>
      rw[aR] at ho;rw[zx le aR];obtain⟨r1,e1,h1⟩:=q;cases r1 with|ret x=>exact ih ho|panic x=>exact ho
def FK(le:jF R R'){ops:Array Oper}{e:Env}{h:ae}{r m:Nat}(hs:lq P G R ops e h r m=ab):lq P G R' ops e h r m=ab:=by
 unfold lq at hs ⊢;split at hs
 ·rename_i o er hr em hm h1 h2 h3;rw[h1,iH le h2,iH le h3];exact hs
 ·cases hs
def G1{ops:Array Oper}{e:Env}{h:ae}{k:Nat}:jJ P G R ops e h k=ab↔G2 P G R ops e h k:=by unfold jJ;exact @decide_eq_true_iff _ (Classical.propDecidable _)
def DA(le:jF R R'){ops:Array Oper}{e:Env}{h:ae}{k:Nat}(hc:jJ P G R ops e h k=ab):jJ P G R' ops e h k=ab:=by rw[G1] at hc ⊢;obtain⟨o,x,er,hr,h1,h2,h3,h4⟩:=hc;refine⟨o,x,er,hr,h1,h2,iH le h3,λm hm=>?_⟩;obtain⟨em,nz,h5,h6⟩:=h4 m hm;exact⟨em,nz,iH le h5,zx le h6⟩
def sD(le:jF R R'){ops:Array Oper}{e:Env}{h:ae}(hs:gN P G R ops e h=ab):gN P G R' ops e h=ab:=by
 unfold gN at hs ⊢;simp only[aL,dn,fP,ly] at hs ⊢;refine⟨hs.1,λj hj i hi=>?_⟩;rcases hs.2 j hj i hi with((h1|h1)|h1)|h1
 ·exact .inl (.inl (.inl h1))
 ·exact .inl (.inl (.inr h1))
 ·refine .inl (.inr ?_);unfold hZ at h1 ⊢;rw[aL] at h1 ⊢;refine⟨h1.1,?_⟩;have h2:=h1.2;split at h2
  ·rename_i hx hy;(try simp only[hx,hy]);exact FK le h2
  ·rename_i hx hy;(try simp only[hx,hy]);exact FK le h2
  ·cases h2
 ·exact .inr ⟨h1.1,h1.2.imp (DA le) (DA le)⟩
def zv(le:jF R R'){ops:Array Oper}{l:List Nat}{e:Env}{h:ae}(hn:oe (aG P G R ops l e h)=ab):oe (aG P G R' ops l e h)=ab:=by
 cases hq:aG P G R ops l e h with
 |none=>rw[hq] at hn;cases hn
 |some q=>rw[hq] at hn;rw[iH le hq];exact hn
def O7(le:jF R R'){ops:Array Oper}{l:List Nat}{e:Env}{h:ae}(hn:BI (aG P G R ops l e h)=ab):BI (aG P G R' ops l e h)=ab:=by
 cases hq:aG P G R ops l e h with
 |none=>rw[hq] at hn;cases hn
 |some q=>rw[hq] at hn;rw[iH le hq];exact hn
def aaD(le:jF R R'){ops:Array Oper}{e:Env}{h:ae}{k:Nat}(hm:iU P G R ops e h k=ab):iU P G R' ops e h k=ab:=by unfold iU at hm ⊢;simp only[aL] at hm ⊢;exact⟨hm.1,sD le hm.2.1,zv le hm.2.2.1,zv le hm.2.2.2.1,O7 le hm.2.2.2.2⟩
def aaF(le:jF R R'){ops:Array Oper}{e:Env}{h:ae}{r:Xt × Env × ae}(hr:oO P G R ops e h=aa r):oO P G R' ops e h=aa r:=by obtain⟨k,x,ep,hp,hm,hq,rfl⟩:=zn hr;exact I7 (aaD le hm) (iH le hq)
def O4(le:jF R R'){ops:Array Oper}{e:Env}{h:ae}{i:Nat}(hs:rL P G R ops e h i=ab):rL P G R' ops e h i=ab:=by
 unfold rL at hs ⊢;split at hs
 ·rename_i h1 h2;rw[iH le h1,iH le h2];exact hs
 ·cases hs
def QG(le:jF R R'){ops:Array Oper}{e:Env}{h:ae}(D:rV P G R ops e h=ab):rV P G R' ops e h=ab:=by
 rcases Kk D with⟨i,h1,h2,h3⟩|⟨i,h1,h2,h3,h4⟩
 ·exact QH h1 h2 (sD le h3)
 ·exact QI h1 h2 (O4 le h3) (sD le h4)
def L9(le:jF R R'){c:Code}{e:Env}{h:ae}{r:Xt × Env × ae}(hc:dB P G R c e h=aa r):dB P G R' c e h=aa r:=by
 cases c with
 |region id ops draw=>
  cases draw with
  |false=>simp only[dB,dP,if_false] at hc ⊢;exact iH le hc|true=>
   by_cases oK:oO P G R ops e h=aa r
   ·exact I8 (aaF le oK)
   simp only[dB,if_true] at hc ⊢;split at hc
   ·rename_i hf;rw[aB (sD le hf)];split at hc
    ·rename_i h1;simp only[iH le h1];exact hc
    ·rename_i h1;simp only[iH le h1];split at hc
     ·rename_i mK;rw[aB (by simp only[aL] at mK ⊢;exact⟨mK.1,sD le mK.2.1,zv le mK.2.2⟩)];exact hc
     ·exact absurd hc oK
    ·cases hc
   ·split at hc
    ·rename_i mh;split at hc
     ·rename_i h1;have D:=QG le mh;simp only[iH le h1,D,if_true];split<;>exact hc
     ·exact absurd hc oK
    ·exact absurd hc oK
 |seq a b=>
  simp only[dB] at hc ⊢;cases ha:R.code a e h with
  |none=>rw[ha] at hc;cases hc
  |some q=>
   rw[ha] at hc;rw[le.code _ _ _ _ ha];obtain⟨o,e1,h1⟩:=q;cases o with|normal=>exact le.code _ _ _ _ hc|_=>exact hc
 |scope a=>simp only[dB] at hc ⊢;exact le.code _ _ _ _ hc|cond q a b=>
  simp only[dB] at hc ⊢;split at hc
  ·rename_i h1;(try simp only[h1]);exact le.code _ _ _ _ hc
  ·rename_i h1;(try simp only[h1]);exact le.code _ _ _ _ hc
  ·cases hc
 |block id a=>
  simp only[dB] at hc ⊢;cases ha:R.code a e h with
  |none=>rw[ha] at hc;cases hc
  |some q=>rw[ha] at hc;rw[le.code _ _ _ _ ha];exact hc
 |loop a=>
  simp only[dB] at hc ⊢;cases ha:R.code a e h with
  |none=>rw[ha] at hc;cases hc
  |some q=>
   rw[ha] at hc;rw[le.code _ _ _ _ ha];obtain⟨o,e1,h1⟩:=q;cases o with|normal=>exact le.code _ _ _ _ hc|_=>exact hc
 |rangeFunc f ps a b=>
  simp only[dB] at hc ⊢;split at hc
  ·rename_i g first az ju
   (try simp only[ju])
   generalize ey:R.call g _ _=q at hc;cases q with
   |none=>cases hc
   |some q=>rw[le.call _ _ _ _ ey];exact hc
  ·cases hc
 |_=>exact hc
def Ku(le:jF R R'){fn:Func}{e:Env}:∀{ds:List (bF × List AV)} {m:Option (AV × Bool)} {h:ae} {r:bw × ae},eZ P G R fn e ds m h=aa r->eZ P G R' fn e ds m h=aa r:=by
 intro ds
 induction ds with
 |nil=>intro m h r hu;cases m<;>exact hu
 |cons d ds ih=>
  intro m h r hu;obtain⟨g,args⟩:=d;simp only[eZ] at hu ⊢;cases hd:R.fS g args m h with
  |none=>rw[hd] at hu;cases hu
  |some q=>
   rw[hd] at hu;rw[le.fS _ _ _ _ _ hd];obtain⟨r1,m1,h1⟩:=q;cases r1 with
   |panic x=>exact hu|ret x=>
    rcases m1 with _|⟨y,b⟩
    ·exact ih hu
    ·cases b<;>exact ih hu
def GS(le:jF R R'){g:bF}{args:List AV}{m:Option (AV × Bool)}{h:ae}{r:bw × Option (AV × Bool) × ae}(hb:oB P G R g args m h=aa r):oB P G R' g args m h=aa r:=by
 unfold oB at hb ⊢;split at hb
 ·cases hb
 ·rename_i fn fw;rw[fw] at *
  simp only;split at hb
  ·cases hb
  ·rename_i body jM;rw[jM] at *
   (try simp only)
   generalize xm:R.code body _ h=q at hb;cases q with
   |none=>cases hb
   |some q=>
    rw[le.code _ _ _ _ xm];obtain⟨o,e1,h1⟩:=q;cases o with
    |exit id=>cases hb
    |_=>simp only[cn] at hb ⊢;obtain⟨q,hq,he⟩:=hb;exact⟨q,Ku le hq,he⟩
def MO(le:jF R R'){aD:bF->Option (List AV->ae->Option (AV × ae))}{g:bF}{args:List AV}{h:ae}{r:bw × ae}(hb:ri P G R aD g args h=aa r):ri P G R' aD g args h=aa r:=by
 unfold ri at hb ⊢;split at hb
 ·exact hb
 ·simp only[cn] at hb ⊢;obtain⟨q,hq,he⟩:=hb;exact⟨q,GS le hq,he⟩
def PG(le:jF R R'){l:Nat}{args:List AV}{h:ae}{r:bw × ae}(hb:rR R l args h=aa r):rR R' l args h=aa r:=by
 unfold rR at hb ⊢;split at hb
 ·cases hb
 ·split at hb
  ·rename_i bG;simp only[bG,if_true];split at hb
   ·rename_i e1 h1 ha;simp only[le.code _ _ _ _ ha];split at hb
    ·rename_i r2 gQ;split at hb
     ·rename_i bC;simp only[bC,if_true];generalize xm:R.code _ e1 _=q at hb;cases q with
      |none=>cases hb
      |some q=>rw[le.code _ _ _ _ xm];exact hb
     ·cases hb
    ·cases hb
   ·cases hb
  ·cases hb
variable {aD:bF->Option (List AV->ae->Option (AV × ae))}
def B9(n:Nat):jF (fk P G aD n) (fk P G aD (n+1)):=by
 induction n with
 |zero=>
  refine⟨?_,?_,?_,?_⟩
  ·intro c e h r hh;cases hh
  ·intro g a h r hh;cases hh
  ·intro g a m h r hh;cases hh
  ·intro l a h r hh;cases hh
 |succ n ih=>exact⟨λc e h r hh=>L9 ih hh,λg a h r hh=>MO ih hh,λg a m h r hh=>GS ih hh,λl a h r hh=>PG ih hh⟩
def ej{n m:Nat}(h:n<=m):jF (fk P G aD n) (fk P G aD m):=by
 induction m with
 |zero=>rw[Av.1 h];exact⟨λ_ _ _ _ h=>h,λ_ _ _ _ h=>h,λ_ _ _ _ _ h=>h,λ_ _ _ _ h=>h⟩|succ m ih=>
  rcases dp n (m+1) with ay|dy
  ·have h1:=ih (tI.1 ay);have h2:=B9 (P:=P) (G:=G) (aD:=aD) m;exact⟨λc e h r hh=>h2.code _ _ _ _ (h1.code _ _ _ _ hh),λg a h r hh=>h2.call _ _ _ _ (h1.call _ _ _ _ hh),λg a m h r hh=>h2.fS _ _ _ _ _ (h1.fS _ _ _ _ _ hh),λl a h r hh=>h2.round _ _ _ _ (h1.round _ _ _ _ hh)⟩
  ·rw[fF h dy];exact⟨λ_ _ _ _ h=>h,λ_ _ _ _ h=>h,λ_ _ _ _ _ h=>h,λ_ _ _ _ h=>h⟩
end
noncomputable def vL{α:Type}(f:Nat->Option α):Option α:=by
 classical
 exact if h:∃r n,f n=aa r then aa h.choose else ah
def Ey{α}{f}(hm:∀n m r,n<=m->f n=aa r->f m=aa r){n}{r:α}(h:f n=aa r):vL f=aa r:=by unfold vL;have ny:∃r n,f n=aa r:=⟨r,n,h⟩;rw[dif_pos ny];obtain⟨m,kA⟩:=ny.choose_spec;have h1:=hm _ _ _ (lX n m) h;have h2:=hm _ _ _ (nk n m) kA;rw[h1] at h2;exact h2.symm
def jb{α}{f}{r:α}(h:vL f=aa r):∃n,f n=aa r:=by
 unfold vL at h;split at h
 ·rename_i ny;injection h with h;rw[<-h];exact ny.choose_spec
 ·cases h
section
variable (P:aQ) (G:Nat->Option (List AV)) (aD:bF->Option (List AV->ae->Option (AV × ae)))
noncomputable def whole:Rec where
 code c e h:=vL λn=>(fk P G aD n).code c e h
 call g a h:=vL λn=>(fk P G aD n).call g a h
 fS g a m h:=vL λn=>(fk P G aD n).fS g a m h
 round l a h:=vL λn=>(fk P G aD n).round l a h
end
section
variable {P:aQ} {G:Nat->Option (List AV)} {aD:bF->Option (List AV->ae->Option (AV × ae))}
def wF(n:Nat):jF (fk P G aD n) (whole P G aD):=
 ⟨λ_ _ _ _ h=>Ey (λ_ _ _ hl hh=>(ej hl).code _ _ _ _ hh) h,λ_ _ _ _ h=>Ey (λ_ _ _ hl hh=>(ej hl).call _ _ _ _ hh) h,
  λ_ _ _ _ _ h=>Ey (λ_ _ _ hl hh=>(ej hl).fS _ _ _ _ _ hh) h,λ_ _ _ _ h=>Ey (λ_ _ _ hl hh=>(ej hl).round _ _ _ _ hh) h⟩
def QZ{w0:aT}(hp:Prog P)(qE:∀g p,aD g=aa p->kN P G w0 g p):o7 P G w0 (whole P G aD):=by
 refine⟨?_,?_,?_,?_⟩
 ·intro c e h out e' h' he;obtain⟨n,hn⟩:=jb he;exact(E6 hp qE n).code c e h out e' h' hn
 ·intro g args h r h' he;obtain⟨n,hn⟩:=jb he;exact(E6 hp qE n).call g args h r h' hn
 ·intro g args m h x m' h' he;obtain⟨n,hn⟩:=jb he;exact(E6 hp qE n).fS g args m h x m' h' hn
 ·intro l args h r h' he;obtain⟨n,hn⟩:=jb he;exact(E6 hp qE n).round l args h r h' hn
def two{α β:Type}{f:Nat->Option α}{g:Nat->Option β}{a}{b}(hf:∀n m r,n<=m->f n=aa r->f m=aa r)(hg:∀n m r,n<=m->g n=aa r->g m=aa r)(h1:∃n,f n=aa a)(h2:∃n,g n=aa b):
 ∃n,f n=aa a/\g n=aa b:=by
 obtain⟨n,h1⟩:=h1;obtain⟨m,h2⟩:=h2;exact⟨max n m,hf _ _ _ (lX _ _) h1,hg _ _ _ (nk _ _) h2⟩
def UE{e:Env}{h:ae}{c:Call}{r:bw × ae}(hc:mc P (whole P G aD) e h c=aa r):∃n,mc P (fk P G aD n) e h c=aa r:=by
 unfold mc at hc ⊢;cases mJ:c.callee with
 |builtin b=>rw[mJ] at hc;cases hc
 |value f=>
  simp only[mJ] at hc ⊢;split at hc
  ·exact jb hc
  ·exact jb hc
  ·cases hc
 |invoke v m=>
  simp only[mJ] at hc ⊢;split at hc
  ·split at hc
   ·rename_i h2;(try simp only[h2]);exact jb hc
   ·cases hc
  ·cases hc
def O1{e:Env}{h:ae}{o:Oper}{r:bw × Env × ae}(ho:cA P G (whole P G aD) e h o=aa r):∃n,cA P G (fk P G aD n) e h o=aa r:=by
 unfold cA at ho ⊢;split at ho
 ·exact⟨0,ho⟩
 ·exact⟨0,ho⟩
 ·exact⟨0,ho⟩
 ·simp only[cn] at ho ⊢;obtain⟨q,hq,he⟩:=ho;obtain⟨n,hn⟩:=UE hq;exact⟨n,q,hn,he⟩
 ·exact⟨0,ho⟩
 ·exact⟨0,ho⟩
 ·exact⟨0,ho⟩
def pU{ops:Array Oper}:∀{l:List Nat} {e:Env} {h:ae} {r:Xt × Env × ae},aG P G (whole P G aD) ops l e h=aa r->∃n,aG P G (fk P G aD n) ops l e h=aa r:=by
 intro l
 induction l with
 |nil=>intro e h r ho;exact⟨0,ho⟩|cons i l ih=>
  intro e h r ho;simp only[aG] at ho ⊢;cases Bo:ops[i]? with
  |none=>rw[Bo] at ho;cases ho
  |some o=>
   rw[Bo] at ho;simp only at ho ⊢;cases hw:cd ops e o with
   |none=>rw[hw] at ho;cases ho
   |some b=>
    rw[hw] at ho;cases b with
    |false=>exact ih ho|true=>
     simp only at ho ⊢;cases aR:cA P G (whole P G aD) e h o with
     |none=>rw[aR] at ho;cases ho
     |some q=>
      rw[aR] at ho;have h1:=O1 aR;obtain⟨r1,e1,vw⟩:=q;cases r1 with
      |panic x=>obtain⟨n,hn⟩:=h1;exact⟨n,by rw[hn];exact ho⟩
      |ret x=>obtain⟨n,h1,h2⟩:=two (λ_ _ _ hl hh=>zx (ej hl) hh) (λ_ _ _ hl hh=>iH (ej hl) hh) h1 (ih ho);exact⟨n,by rw[h1];exact h2⟩
def Qv{ops:Array Oper}{e:Env}{h:ae}{r m:Nat}(hs:lq P G (whole P G aD) ops e h r m=ab):∃n,lq P G (fk P G aD n) ops e h r m=ab:=by
 unfold lq at hs ⊢;split at hs
 ·rename_i o er hr em hm h1 h2 h3;obtain⟨n,h2,h3⟩:=two (λ_ _ _ hl hh=>iH (ej hl) hh) (λ_ _ _ hl hh=>iH (ej hl) hh) (pU h2) (pU h3);refine⟨n,?_⟩;rw[h1,h2,h3];exact hs
 ·cases hs
def many{p:Nat->Nat->Prop}(hm:∀i n m,n<=m->p i n->p i m):∀k,(∀i,i<k->∃n,p i n)->∃n,∀i,i<k->p i n:=by
 intro k
 induction k with
 |zero=>intro _;exact⟨0,λi hi=>absurd hi (ik i)⟩|succ k ih=>
  intro h;obtain⟨n,hn⟩:=ih λi hi=>h i (Aw hi);obtain⟨m,kA⟩:=h k (Dc k);refine⟨max n m,λi hi=>?_⟩;rcases dp i k with ay|dy
  ·exact hm _ _ _ (lX _ _) (hn i ay)
  ·rw[fF (tI.1 hi) dy];exact hm _ _ _ (nk _ _) kA
def aeS{R R':Rec}(le:jF R R'){ops:Array Oper}{e:Env}{h:ae}{i j:Nat}(h1:hZ P G R ops e h i j=ab):hZ P G R' ops e h i j=ab:=by
 unfold hZ at h1 ⊢;rw[aL] at h1 ⊢;refine⟨h1.1,?_⟩;have h2:=h1.2;split at h2
 ·rename_i hx hy;(try simp only[hx,hy]);exact FK le h2
 ·rename_i hx hy;(try simp only[hx,hy]);exact FK le h2
 ·cases h2
def aeR{ops:Array Oper}{e:Env}{h:ae}{i j:Nat}(h1:hZ P G (whole P G aD) ops e h i j=ab):∃n,hZ P G (fk P G aD n) ops e h i j=ab:=by
 unfold hZ at h1 ⊢;rw[aL] at h1;have h2:=h1.2;split at h2
 ·rename_i hx hy;obtain⟨n,hn⟩:=Qv h2;exact⟨n,by rw[aL];exact⟨h1.1,by(try simp only[hx,hy]);exact hn⟩⟩
 ·rename_i hx hy;obtain⟨n,hn⟩:=Qv h2;exact⟨n,by rw[aL];exact⟨h1.1,by(try simp only[hx,hy]);exact hn⟩⟩
 ·cases h2
def LY{ops:Array Oper}{e:Env}{h:ae}{k:Nat}(hc:jJ P G (whole P G aD) ops e h k=ab):∃n,jJ P G (fk P G aD n) ops e h k=ab:=by
 rw[G1] at hc;obtain⟨o,x,er,hr,h1,h2,h3,h4⟩:=hc;obtain⟨n0,h3⟩:=pU h3;have key:∀m,m<ops.size+1->∃n,∃em hm,aG P G (fk P G aD n) ops (bt m) e h=aa (.normal,em,hm)/\cA P G (fk P G aD n) er hm o=aa (.ret x,er,hm):=by intro m hm;obtain⟨em,nz,h5,h6⟩:=h4 m (tI.1 hm);obtain⟨n,q1,q2⟩:=two (λ_ _ _ hl hh=>iH (ej hl) hh) (λ_ _ _ hl hh=>zx (ej hl) hh) (pU h5) (O1 h6);exact⟨n,em,nz,q1,q2⟩
 obtain⟨n1,hn⟩:=many (p:=λm n=>∃em hm,aG P G (fk P G aD n) ops (bt m) e h=aa (.normal,em,hm)/\cA P G (fk P G aD n) er hm o=aa (.ret x,er,hm))
  (λm n n' hl ⟨em,hm,q1,q2⟩=>⟨em,hm,iH (ej hl) q1,zx (ej hl) q2⟩) (ops.size+1) key
 refine⟨max n0 n1,?_⟩;rw[G1];refine⟨o,x,er,hr,h1,h2,iH (ej (lX _ _)) h3,λm hm=>?_⟩;obtain⟨em,nz,q1,q2⟩:=hn m (tI.2 hm);exact⟨em,nz,iH (ej (nk _ _)) q1,zx (ej (nk _ _)) q2⟩
noncomputable def uD(P:aQ)(G:Nat->Option (List AV))(R:Rec)(ops:Array Oper)(e:Env)(h:ae)(i j:Nat):Bool:=
 ((Region.before ops).getD j 0).testBit i||uE ops i j||hZ P G R ops e h i j||(kQ ops i j&&(jJ P G R ops e h i||jJ P G R ops e h j))
def O5{R R':Rec}(le:jF R R'){ops:Array Oper}{e:Env}{h:ae}{i j:Nat}(hp:uD P G R ops e h i j=ab):uD P G R' ops e h i j=ab:=by
 unfold uD at hp ⊢;simp only[ly,aL] at hp ⊢;rcases hp with(h1|h1)|h1
 ·exact .inl (.inl h1)
 ·exact .inl (.inr (aeS le h1))
 ·exact .inr ⟨h1.1,h1.2.imp (DA le) (DA le)⟩
def abA{ops:Array Oper}{e:Env}{h:ae}{i j:Nat}(hp:uD P G (whole P G aD) ops e h i j=ab):∃n,uD P G (fk P G aD n) ops e h i j=ab:=by
 unfold uD at hp ⊢;simp only[ly,aL] at hp ⊢;rcases hp with(h1|h1)|⟨h1,h2|h2⟩
 ·exact⟨0,.inl (.inl h1)⟩
 ·obtain⟨n,hn⟩:=aeR h1;exact⟨n,.inl (.inr hn)⟩
 ·obtain⟨n,hn⟩:=LY h2;exact⟨n,.inr ⟨h1,.inl hn⟩⟩
 ·obtain⟨n,hn⟩:=LY h2;exact⟨n,.inr ⟨h1,.inr hn⟩⟩
def yL{ops:Array Oper}{e:Env}{h:ae}(hs:gN P G (whole P G aD) ops e h=ab):∃n,gN P G (fk P G aD n) ops e h=ab:=by
 unfold gN at hs ⊢;simp only[aL,dn,fP] at hs ⊢;obtain⟨h1,h2⟩:=hs;have key:∀j,j<ops.size->∃n,∀i,i<j->uD P G (fk P G aD n) ops e h i j=ab:=by intro j hj;exact many (p:=λi n=>uD P G (fk P G aD n) ops e h i j=ab) (λi n m hl=>O5 (ej hl)) j λi hi=>abA (h2 j hj i hi)
 obtain⟨n,hn⟩:=many (p:=λj n=>∀i,i<j->uD P G (fk P G aD n) ops e h i j=ab) (λj n m hl hh i hi=>O5 (ej hl) (hh i hi)) ops.size key;exact⟨n,h1,hn⟩
def Ju{ops:Array Oper}{l:List Nat}{e:Env}{h:ae}{p:Option (Xt × Env × ae)->Bool}(h0:p ah=ak)(hp:p (aG P G (whole P G aD) ops l e h)=ab):∃n,p (aG P G (fk P G aD n) ops l e h)=ab:=by
 cases hq:aG P G (whole P G aD) ops l e h with
 |none=>rw[hq,h0] at hp;cases hp
 |some q=>obtain⟨n,hn⟩:=pU hq;rw[hq] at hp;exact⟨n,by rw[hn];exact hp⟩
def aaE{ops:Array Oper}{e:Env}{h:ae}{r:Xt × Env × ae}(hr:oO P G (whole P G aD) ops e h=aa r):∃n,oO P G (fk P G aD n) ops e h=aa r:=by
 obtain⟨k,x,ep,hp,hm,hq,rfl⟩:=zn hr;have nz:=hm;unfold iU at nz;simp only[aL] at nz;obtain⟨n1,a1⟩:=yL nz.2.1;obtain⟨n2,a2⟩:=Ju (p:=oe) rfl nz.2.2.1;obtain⟨n3,a3⟩:=Ju (p:=oe) rfl nz.2.2.2.1;obtain⟨n4,a4⟩:=Ju (p:=BI) rfl nz.2.2.2.2;obtain⟨n5,a5⟩:=pU hq
 let m:=max (max (max n1 n2) (max n3 n4)) n5
 have l1:n1<=m:=cY (cY (lX n1 n2) (lX _ _)) (lX _ _);have l2:n2<=m:=cY (cY (nk n1 n2) (lX _ _)) (lX _ _);have l3:n3<=m:=cY (cY (lX n3 n4) (nk _ _)) (lX _ _);have l4:n4<=m:=cY (cY (nk n3 n4) (nk _ _)) (lX _ _);have l5:n5<=m:=nk _ _;refine⟨m,I7 ?_ (iH (ej l5) a5)⟩;unfold iU;simp only[aL];exact⟨nz.1,sD (ej l1) a1,zv (ej l2) a2,zv (ej l3) a3,O7 (ej l4) a4⟩
def abz{ops:Array Oper}{e:Env}{h:ae}{i:Nat}(hs:rL P G (whole P G aD) ops e h i=ab):∃n,rL P G (fk P G aD n) ops e h i=ab:=by
 unfold rL at hs ⊢;split at hs
 ·rename_i h1 h2;obtain⟨n,h1,h2⟩:=two (λ_ _ _ hl hh=>iH (ej hl) hh) (λ_ _ _ hl hh=>iH (ej hl) hh) (pU h1) (pU h2);refine⟨n,?_⟩;rw[h1,h2];exact hs
 ·cases hs
def afn{ops:Array Oper}{e:Env}{h:ae}(D:rV P G (whole P G aD) ops e h=ab):∃n,rV P G (fk P G aD n) ops e h=ab:=by
 rcases Kk D with⟨i,h1,h2,h3⟩|⟨i,h1,h2,h3,h4⟩
 ·obtain⟨n,hn⟩:=yL h3;exact⟨n,QH h1 h2 hn⟩
 ·obtain⟨n,hn⟩:=yL h4;obtain⟨m,hm⟩:=abz h3;exact⟨max n m,QI h1 h2 (O4 (ej (nk n m)) hm) (sD (ej (lX n m)) hn)⟩
def Vi{c:Code}{e:Env}{h:ae}{r:Xt × Env × ae}(hc:dB P G (whole P G aD) c e h=aa r):∃n,dB P G (fk P G aD n) c e h=aa r:=by
 cases c with
 |region id ops draw=>
  cases draw with
  |false=>simp only[dB,dP,if_false] at hc ⊢;exact pU hc|true=>
   by_cases oK:oO P G (whole P G aD) ops e h=aa r
   ·obtain⟨n,hn⟩:=aaE oK;exact⟨n,I8 hn⟩
   simp only[dB,if_true] at hc ⊢;split at hc
   ·rename_i hf;split at hc
    ·rename_i h1;obtain⟨n,hn⟩:=yL hf;obtain⟨m,hm⟩:=pU h1;refine⟨max n m,?_⟩;rw[aB (sD (ej (lX n m)) hn)];simp only[iH (ej (nk n m)) hm];exact hc
    ·rename_i h1;split at hc
     ·rename_i mK;simp only[aL] at mK;obtain⟨n,hn⟩:=yL hf;obtain⟨m,hm⟩:=pU h1;obtain⟨n2,NA⟩:=yL mK.2.1;obtain⟨m2,kA⟩:∃m2,oe (aG P G (fk P G aD m2) (eg ops) (bt (eg ops).size) e h)=ab:=by
       have q2:=mK.2.2;cases hq:aG P G (whole P G aD) (eg ops) (bt (eg ops).size) e h with
       |none=>rw[hq] at q2;cases q2
       |some q=>obtain⟨m2,kA⟩:=pU hq;rw[hq] at q2;exact⟨m2,by rw[kA];exact q2⟩
      refine⟨max (max n m) (max n2 m2),?_⟩;rw[aB (sD (ej (cY (lX n m) (lX _ _))) hn)];simp only[iH (ej (cY (nk n m) (lX _ _))) hm];rw[aB (by simp only[aL];exact⟨mK.1,sD (ej (cY (lX n2 m2) (nk _ _))) NA,zv (ej (cY (nk n2 m2) (nk _ _))) kA⟩)];exact hc
     ·exact absurd hc oK
    ·cases hc
   ·split at hc
    ·rename_i mh;split at hc
     ·rename_i h1;obtain⟨n,hn⟩:=afn mh;obtain⟨m,hm⟩:=pU h1;refine⟨max n m,?_⟩;have D:=QG (ej (lX n m)) hn;simp only[iH (ej (nk n m)) hm,D,if_true];split<;>exact hc
     ·exact absurd hc oK
    ·exact absurd hc oK
 |seq a b=>
  simp only[dB] at hc ⊢;cases ha:(whole P G aD).code a e h with
  |none=>rw[ha] at hc;cases hc
  |some q=>
   rw[ha] at hc;have h1:=jb ha;obtain⟨o,e1,vw⟩:=q;by_cases bV:o=.normal
   ·subst bV;obtain⟨n,h1,h2⟩:=two (λ_ _ _ hl hh=>(ej hl).code _ _ _ _ hh) (λ_ _ _ hl hh=>(ej hl).code _ _ _ _ hh) h1 (jb hc);exact⟨n,by rw[h1];exact h2⟩
   ·obtain⟨n,h1⟩:=h1;refine⟨n,?_⟩;rw[h1];cases o<;>first|exact absurd rfl bV|exact hc
 |scope a=>simp only[dB] at hc ⊢;exact jb hc|cond q a b=>
  simp only[dB] at hc ⊢;split at hc
  ·exact jb hc
  ·exact jb hc
  ·cases hc
 |block id a=>
  simp only[dB] at hc ⊢;cases ha:(whole P G aD).code a e h with
  |none=>rw[ha] at hc;cases hc
  |some q=>rw[ha] at hc;obtain⟨n,h1⟩:=jb ha;exact⟨n,by rw[h1];exact hc⟩
 |loop a=>
  simp only[dB] at hc ⊢;cases ha:(whole P G aD).code a e h with
  |none=>rw[ha] at hc;cases hc
  |some q=>
   rw[ha] at hc;have h1:=jb ha;obtain⟨o,e1,vw⟩:=q;by_cases bV:o=.normal
   ·subst bV;obtain⟨n,h1,h2⟩:=two (λ_ _ _ hl hh=>(ej hl).code _ _ _ _ hh) (λ_ _ _ hl hh=>(ej hl).code _ _ _ _ hh) h1 (jb hc);exact⟨n,by rw[h1];exact h2⟩
   ·obtain⟨n,h1⟩:=h1;refine⟨n,?_⟩;rw[h1];cases o<;>first|exact absurd rfl bV|exact hc
 |rangeFunc f ps a b=>
  simp only[dB] at hc ⊢;split at hc
  ·generalize ey:(whole P G aD).call _ _ _=q at hc;cases q with
   |none=>cases hc
   |some q=>obtain⟨n,hn⟩:=jb ey;exact⟨n,by rw[hn];exact hc⟩
  ·cases hc
 |_=>exact⟨0,hc⟩
def afW{fn:Func}{e:Env}:∀{ds:List (bF × List AV)} {m:Option (AV × Bool)} {h:ae} {r:bw × ae},eZ P G (whole P G aD) fn e ds m h=aa r->∃n,eZ P G (fk P G aD n) fn e ds m h=aa r:=by
 intro ds
 induction ds with
 |nil=>intro m h r hu;exact⟨0,by cases m<;>exact hu⟩
 |cons d ds ih=>
  intro m h r hu;obtain⟨g,args⟩:=d;simp only[eZ] at hu ⊢;cases hd:(whole P G aD).fS g args m h with
  |none=>rw[hd] at hu;cases hu
  |some q=>
   rw[hd] at hu;have h1:=jb hd;obtain⟨r1,m1,vw⟩:=q;cases r1 with
   |panic x=>simp at hu|ret x=>
    have fin:∀m2,eZ P G (whole P G aD) fn e ds m2 vw=aa r->∃n,(fk P G aD n).fS g args m h=aa (.ret x,m1,vw)/\eZ P G (fk P G aD n) fn e ds m2 vw=aa r:=λm2 hu=>
     two (λ_ _ _ hl hh=>(ej hl).fS _ _ _ _ _ hh) (λ_ _ _ hl hh=>Ku (ej hl) hh) h1 (ih hu)
    rcases m1 with _|⟨y,b⟩
    ·obtain⟨n,h1,h2⟩:=fin _ hu;exact⟨n,by rw[h1];exact h2⟩
    ·cases b with
     |true=>obtain⟨n,h1,h2⟩:=fin _ hu;exact⟨n,by rw[h1];exact h2⟩
     |false=>obtain⟨n,h1,h2⟩:=fin _ hu;exact⟨n,by rw[h1];exact h2⟩
def LK{g:bF}{args:List AV}{m:Option (AV × Bool)}{h:ae}{r:bw × Option (AV × Bool) × ae}(hb:oB P G (whole P G aD) g args m h=aa r):∃n,oB P G (fk P G aD n) g args m h=aa r:=by
 unfold oB at hb ⊢;split at hb
 ·cases hb
 ·rename_i fn fw;simp only[fw];split at hb
  ·cases hb
  ·rename_i body jM
   (try simp only[jM])
   generalize xm:(whole P G aD).code body _ h=q at hb;cases q with
   |none=>cases hb
   |some q=>
    have h1:=jb xm;obtain⟨o,e1,vw⟩:=q;cases o with
    |exit id=>cases hb
    |_=>simp only[cn] at hb;obtain⟨q,hq,he⟩:=hb;obtain⟨n,h1,h2⟩:=two (λ_ _ _ hl hh=>(ej hl).code _ _ _ _ hh) (λ_ _ _ hl hh=>Ku (ej hl) hh) h1 (afW hq);exact⟨n,by rw[h1];simp only[h2,cy,he]⟩
def WY{g:bF}{args:List AV}{h:ae}{r:bw × ae}(hb:ri P G (whole P G aD) aD g args h=aa r):∃n,ri P G (fk P G aD n) aD g args h=aa r:=by
 unfold ri at hb ⊢;split at hb
 ·exact⟨0,hb⟩
 ·simp only[cn] at hb ⊢;obtain⟨q,hq,he⟩:=hb;obtain⟨n,hn⟩:=LK hq;exact⟨n,q,hn,he⟩
def adj{l:Nat}{args:List AV}{h:ae}{r:bw × ae}(hb:rR (whole P G aD) l args h=aa r):∃n,rR (fk P G aD n) l args h=aa r:=by
 unfold rR at hb ⊢;split at hb
 ·cases hb
 ·rename_i rc Ej
  (try simp only[Ej])
  split at hb
  ·rename_i bG;simp only[bG,if_true];split at hb
   ·rename_i e1 h1 ha;split at hb
    ·rename_i r2 gQ;split at hb
     ·rename_i bC;generalize xm:(whole P G aD).code _ e1 _=q at hb;cases q with
      |none=>cases hb
      |some q=>obtain⟨n,g1,g2⟩:=two (λ_ _ _ hl hh=>(ej hl).code _ _ _ _ hh) (λ_ _ _ hl hh=>(ej hl).code _ _ _ _ hh) (jb ha) (jb xm);exact⟨n,by rw[g1];simp only[gQ,bC,if_true];rw[g2];exact hb⟩
     ·cases hb
    ·cases hb
   ·cases hb
  ·cases hb
def EU{α:Type}{a b:Option α}(h1:∀r,a=aa r->b=aa r)(h2:∀r,b=aa r->a=aa r):a=b:=by
 cases ha:a with
 |some r=>exact(h1 r ha).symm|none=>
  cases hb:b with|none=>rfl|some r=>rw[h2 r hb] at ha;cases ha
def mY(c:Code)(e:Env)(h:ae):(whole P G aD).code c e h=dB P G (whole P G aD) c e h:=
 EU (λr hr=>by
  obtain⟨n,hn⟩:=jb hr;have:=(B9 (P:=P) (G:=G) (aD:=aD) n).code c e h r hn;exact L9 (wF n) this)
  (λr hr=>by obtain⟨n,hn⟩:=Vi hr;exact(wF (n+1)).code c e h r hn)
def rX(g:bF)(a:List AV)(h:ae):(whole P G aD).call g a h=ri P G (whole P G aD) aD g a h:=
 EU (λr hr=>by
  obtain⟨n,hn⟩:=jb hr;have:=(B9 (P:=P) (G:=G) (aD:=aD) n).call g a h r hn;exact MO (wF n) this)
  (λr hr=>by obtain⟨n,hn⟩:=WY hr;exact(wF (n+1)).call g a h r hn)
def af8(g:bF)(a:List AV)(m:Option (AV × Bool))(h:ae):(whole P G aD).fS g a m h=oB P G (whole P G aD) g a m h:=
 EU (λr hr=>by
  obtain⟨n,hn⟩:=jb hr;have:=(B9 (P:=P) (G:=G) (aD:=aD) n).fS g a m h r hn;exact GS (wF n) this)
  (λr hr=>by obtain⟨n,hn⟩:=LK hr;exact(wF (n+1)).fS g a m h r hn)
def agb(l:Nat)(a:List AV)(h:ae):(whole P G aD).round l a h=rR (whole P G aD) l a h:=
 EU (λr hr=>by
  obtain⟨n,hn⟩:=jb hr;have:=(B9 (P:=P) (G:=G) (aD:=aD) n).round l a h r hn;exact PG (wF n) this)
  (λr hr=>by obtain⟨n,hn⟩:=adj hr;exact(wF (n+1)).round l a h r hn)
end
end Go.AE
end
section
namespace Go.AE
def Env.st(e:Env)(d:Nat)(x:AV):Env:={e with tmps:=e.tmps.set d x}
def Pm(e:Env)(d:Nat)(x):e.put (aa d) x=e.st d x:=rfl
def ab9(e:Env)(x):e.put ah x=e:=rfl
def uK(e:Env)(d t)(x):(e.st d x).get t=if d=t then x else e.get t:=zl e.tmps d t x
def aeN(e:Env)(d)(x):(e.st d x).defers=e.defers:=rfl
def aeO(e:Env)(d)(x):(e.st d x).aX=e.aX:=rfl
def Qu(e:Env)(d)(x):(e.st d x).round=e.round:=rfl
def Env.start(args:List AV)(p:Option (AV × Bool)):Env:={tmps:={ch:=[],base:=args},defers:=[],aX:=p,round:=ah}
def aeV(args)(p)(t):(Env.start args p).get t=args.getD t (.tuple []):=rfl
def aeU(args)(p):(Env.start args p).defers=[]:=rfl
def aeW(args)(p):(Env.start args p).aX=p:=rfl
def J8(args)(p):(Env.start args p).round=ah:=rfl
def Hg(e:Env)(t:Nat):e.eval (.tmp t)=e.get t:=rfl
def eval_const(e:Env)(v):e.eval (.const v)=nK v:=rfl
def eval_func(e:Env)(f):e.eval (.func f)=.func (.func f) [] []:=rfl
def eval_global(e:Env)(g):e.eval (.global g)=.ptr (.dj g) 0:=rfl
def abg(k)(n):nK (.int k n)=.v (.int k n):=rfl
def abf(b):nK (.bool b)=.v (.bool b):=rfl
def abl(s):nK (.string s)=.v (.string s):=rfl
def abi:nK .nilIface=.v .nilIface:=rfl
def abh:nK .nilFunc=.v .nilFunc:=rfl
def abj:nK (.pointer ah)=.v (.pointer ah):=rfl
def abk:nK (.slice ah 0 0)=.list .nil 0 []:=rfl
def abe(cs):nK (.agg ⟨cs⟩)=.agg (cs.map xU):=rfl
section
variable (P:aQ) (G:Nat->Option (List AV)) (R:Rec)
def opsL(ops:Array Oper):List Oper->Env->ae->Option (Xt × Env × ae)
 | [],e,h=>aa (.normal,e,h)
 |o::rest,e,h=>
  match cd ops e o with
  |none=>ah
  |some ak=>opsL ops rest (e.put o.dst (.tuple [])) h
  |some ab=>
   match cA P G R e h o with
   |some (.ret x,e,h)=>opsL ops rest (e.put o.dst x) h
   |some (.panic x,e,h)=>aa (.panic x,e,h)
   |none=>ah
def O3(ops:Array Oper):∀(n i:Nat),i+n=ops.size->∀(e:Env) (h:ae),aG P G R ops (List.range' i n) e h=opsL P G R ops (ops.toList.drop i) e h:=by
 intro n
 induction n with
 |zero=>intro i hi e h;rw[List.drop_eq_nil_of_le (by simp;omega)];rfl
 |succ n ih=>
  intro i hi e h;have ay:i<ops.size:=by omega
  have ho:ops[i]?=aa ops[i]:=fW ay;rw[List.range'_succ,List.drop_eq_getElem_cons (by simpa using ay)];simp only[aG,opsL,ho,Array.getElem_toList];cases cd ops e ops[i] with
  |none=>rfl|some b=>
   cases b with
   |false=>exact ih (i+1) aj _ _|true=>
    simp only;cases cA P G R e h ops[i] with
    |none=>rfl|some q=>
     obtain⟨r,e1,h1⟩:=q;cases r with|ret x=>exact ih (i+1) aj _ _|panic x=>rfl
def tJ(r:Option (Xt × Env × ae))(Q:Xt->Env->ae->Prop):Prop:=∃o e h,r=aa (o,e,h)/\Q o e h
def bU(c:Code)(e:Env)(h:ae)(Q:Xt->Env->ae->Prop):Prop:=tJ (R.code c e h) Q
def bB(ops:Array Oper)(l:List Oper)(e:Env)(h:ae)(Q:Xt->Env->ae->Prop):Prop:=tJ (opsL P G R ops l e h) Q
end
def rK{o}{e}{h}{Q}:tJ (aa (o,e,h)) Q=Q o e h:=
 propext ⟨λ⟨_,_,_,h1,h2⟩=>by simp only[aY,aW] at h1;obtain⟨rfl,rfl,rfl⟩:=h1;exact h2,λhq=>⟨o,e,h,rfl,hq⟩⟩
def oP{Q}:tJ ah Q=False:=propext ⟨λ⟨_,_,_,h1,_⟩=>(by cases h1),False.elim⟩
def tJ.mono{r}{Q Q'}(h:∀o e h,Q o e h->Q' o e h)(hr:tJ r Q):tJ r Q':=by obtain⟨o,e,h1,h2,h3⟩:=hr;exact⟨o,e,h1,h2,h _ _ _ h3⟩
def guardOf(ops:Array Oper)(j:Nat):Option Tmp:=(ops[j]?).bind (·.dst)
def Xl{o}{l}:guardOf ⟨o::l⟩ 0=o.dst:=rfl
def Xk{o}{l}{n}:guardOf ⟨o::l⟩ (n+1)=guardOf ⟨l⟩ n:=by simp[guardOf]
def sf(R:Rec)(a b:Code)(e:Env)(h:ae)(Q:Xt->Env->ae->Prop)(x:AV):Prop:=
 match x with
 | .v (.bool t)=>if t=ab then bU R a e h Q else bU R b e h Q
 |_=>False
def kL(P:aQ)(G:Nat->Option (List AV))(R:Rec)(ops:Array Oper)(o:Oper)(rest:List Oper)(e:Env)(h:ae)(Q:Xt->Env->ae->Prop)(want:Bool)(x:AV):Prop:=
 match x with
 | .v (.bool b)=>if b=want then bB P G R ops (o::rest) e h Q else bB P G R ops rest (e.put o.dst (.tuple [])) h Q
 | .tuple []=>bB P G R ops rest (e.put o.dst (.tuple [])) h Q
 |_=>False
def Gs(P:aQ)(G:Nat->Option (List AV))(R:Rec)(ops:Array Oper)(o:Oper)(rest:List Oper)(e:Env)(h:ae)(Q:Xt->Env->ae->Prop)(want:Bool)(d:Option Tmp):Prop:=
 match d with
 |some g=>kL P G R ops o rest e h Q want (e.get g)
 |none=>bB P G R ops rest (e.put o.dst (.tuple [])) h Q
section
variable {P:aQ} {G:Nat->Option (List AV)} {R:Rec} {a b:Code} {e:Env} {h:ae} {Q:Xt->Env->ae->Prop} {ops:Array Oper} {o:Oper} {rest:List Oper} {p:Prop} [Decidable p] {t:Bool}
def Uo:sf R a b e h Q (.v (.bool ab))=bU R a e h Q:=rfl
def Ul:sf R a b e h Q (.v (.bool ak))=bU R b e h Q:=rfl
def Uk(h1:p->bU R a e h Q)(h2:¬p->bU R b e h Q):sf R a b e h Q (.v (.bool (decide p))):=by
 unfold sf;simp only[decide_eq_true_eq];split
 ·rename_i hp;exact h1 hp
 ·rename_i hp;exact h2 hp
def Un(h1:p->bU R b e h Q)(h2:¬p->bU R a e h Q):sf R a b e h Q (.v (.bool (!decide p))):=by
 unfold sf;by_cases hp:p
 ·simp only[hp,decide_true,KF,dP,if_false];exact h1 hp
 ·simp only[hp,decide_false,Bool.not_false,if_true];exact h2 hp
def Uj(h1:t=ab->bU R a e h Q)(h2:t=ak->bU R b e h Q):sf R a b e h Q (.v (.bool t)):=by
 cases t
 ·exact h2 rfl
 ·exact h1 rfl
def Xu:kL P G R ops o rest e h Q ab (.v (.bool ab))=bB P G R ops (o::rest) e h Q:=rfl
def Xs:kL P G R ops o rest e h Q ab (.v (.bool ak))=bB P G R ops rest (e.put o.dst (.tuple [])) h Q:=rfl
def Xp:kL P G R ops o rest e h Q ak (.v (.bool ab))=bB P G R ops rest (e.put o.dst (.tuple [])) h Q:=rfl
def Xo:kL P G R ops o rest e h Q ak (.v (.bool ak))=bB P G R ops (o::rest) e h Q:=rfl
def Xv{w:Bool}:kL P G R ops o rest e h Q w (.tuple [])=bB P G R ops rest (e.put o.dst (.tuple [])) h Q:=rfl
def Xn{w:Bool}(h1:p->kL P G R ops o rest e h Q w (.v (.bool ab)))(h2:¬p->kL P G R ops o rest e h Q w (.v (.bool ak))):kL P G R ops o rest e h Q w (.v (.bool (decide p))):=by
 by_cases hp:p
 ·simp only[hp,decide_true];exact h1 hp
 ·simp only[hp,decide_false];exact h2 hp
def Xr{w:Bool}(h1:p->kL P G R ops o rest e h Q w (.v (.bool ak)))(h2:¬p->kL P G R ops o rest e h Q w (.v (.bool ab))):kL P G R ops o rest e h Q w (.v (.bool (!decide p))):=by
 by_cases hp:p
 ·simp only[hp,decide_true];exact h1 hp
 ·simp only[hp,decide_false];exact h2 hp
def Xm{w:Bool}(h1:t=ab->kL P G R ops o rest e h Q w (.v (.bool ab)))(h2:t=ak->kL P G R ops o rest e h Q w (.v (.bool ak))):kL P G R ops o rest e h Q w (.v (.bool t)):=by
 cases t
 ·exact h2 rfl
 ·exact h1 rfl
def Xq{w:Bool}(h1:t=ab->kL P G R ops o rest e h Q w (.v (.bool ak)))(h2:t=ak->kL P G R ops o rest e h Q w (.v (.bool ab))):kL P G R ops o rest e h Q w (.v (.bool (!t))):=by
 cases t
 ·exact h2 rfl
 ·exact h1 rfl
def Um(h1:t=ab->bU R b e h Q)(h2:t=ak->bU R a e h Q):sf R a b e h Q (.v (.bool (!t))):=by
 cases t
 ·exact h2 rfl
 ·exact h1 rfl
def aeA{w:Bool}{g:Tmp}:Gs P G R ops o rest e h Q w (aa g)=kL P G R ops o rest e h Q w (e.get g):=rfl
end
def CD(R:Rec)(c:Code)(Q:Xt->Env->ae->Prop):Xt->Env->ae->Prop
 | .normal,e,h=>bU R c e h Q
 |o,e,h=>Q o e h
def AG(id:Nat)(Q:Xt->Env->ae->Prop):Xt->Env->ae->Prop
 | .exit i,e,h=>if i=id then Q .normal e h else Q (.exit i) e h
 |o,e,h=>Q o e h
def AI(Q:Xt->Env->ae->Prop):Xt->Env->ae->Prop
 | .normal,e,h=>Q .normal e h
 |_,_,_=>False
section
variable {R:Rec} {c:Code} {Q:Xt->Env->ae->Prop} {e:Env} {h:ae}
def ael:CD R c Q .normal e h=bU R c e h Q:=rfl
def aen:CD R c Q .ret e h=Q .ret e h:=rfl
def aek{i:Nat}:CD R c Q (.exit i) e h=Q (.exit i) e h:=rfl
def aem{x:AV}:CD R c Q (.panic x) e h=Q (.panic x) e h:=rfl
def Ue{id:Nat}:AG id Q .normal e h=Q .normal e h:=rfl
def Ug{id:Nat}:AG id Q .ret e h=Q .ret e h:=rfl
def LJ{id i:Nat}:AG id Q (.exit i) e h=if i=id then Q .normal e h else Q (.exit i) e h:=rfl
def Uf{id:Nat}{x:AV}:AG id Q (.panic x) e h=Q (.panic x) e h:=rfl
def UJ:AI Q .normal e h=Q .normal e h:=rfl
def UK{x:AV}:AI Q (.panic x) e h=False:=rfl
end
section
variable {P:aQ} {G:Nat->Option (List AV)} {aD:bF->Option (List AV->ae->Option (AV × ae))} {Q:Xt->Env->ae->Prop} {e:Env} {h:ae}
def ad3:bU (whole P G aD) .skip e h Q=Q .normal e h:=by rw[bU,mY];exact rK
def adV{l:Nat}:bU (whole P G aD) (.label l) e h Q=Q .normal e h:=by rw[bU,mY];exact rK
def ad2{a:Code}:bU (whole P G aD) (.scope a) e h Q=bU (whole P G aD) a e h Q:=by unfold bU;rw[mY];simp only[dB]
def adU{id:Nat}:bU (whole P G aD) (.exit id) e h Q=Q (.exit id) e h:=by rw[bU,mY];exact rK
def ad1:bU (whole P G aD) .ret e h Q=Q .ret e h:=by rw[bU,mY];exact rK
def run_seq{a b:Code}:bU (whole P G aD) (.seq a b) e h Q=bU (whole P G aD) a e h (CD (whole P G aD) b Q):=by
 unfold bU;rw[mY];simp only[dB];cases ha:(whole P G aD).code a e h with|none=>simp only[oP]|some q=>obtain⟨o,e1,h1⟩:=q;cases o<;>simp only[rK]<;>rfl
def adS{c:bI}{a b:Code}:bU (whole P G aD) (.cond c a b) e h Q=sf (whole P G aD) a b e h Q (e.eval c):=by
 unfold bU sf;rw[mY];simp only[dB];generalize e.eval c=x;rcases x with _|v|_|_|_|_|_|_|_|_|_
 case v=>
  cases v with
  |bool t=>cases t<;>rfl
  |_=>simp only[oP]
 all_goals (simp only[oP])
def adR{id:Nat}{a:Code}:bU (whole P G aD) (.block id a) e h Q=bU (whole P G aD) a e h (AG id Q):=by
 unfold bU;rw[mY];simp only[dB];cases ha:(whole P G aD).code a e h with
 |none=>simp only[oP]|some q=>
  obtain⟨o,e1,h1⟩:=q;cases o with
  |exit i=>simp only[rK,LJ];split<;>simp only[rK]
  |_=>simp only[rK]<;>rfl
def ad0{id:Nat}{ops:Array Oper}:bU (whole P G aD) (.region id ops ak) e h Q=bB P G (whole P G aD) ops ops.toList e h Q:=by unfold bU bB;rw[mY];simp only[dB,dP,if_false];have:=O3 P G (whole P G aD) ops ops.size 0 aj e h;rw[fc] at this;rw[<-this,Sh]
def DX{R:Rec}{ops:Array Oper}(hd:yJ ops=ab)(e:Env)(h:ae):gN P G R ops e h=ab:=by unfold yJ at hd;unfold gN;simp only[aL,dn,fP,ly] at hd ⊢;exact⟨hd.1,λj hj i hi=>.inl (.inl (hd.2 j hj i hi))⟩
def PX{id:Nat}{ops:Array Oper}(hd:gN P G (whole P G aD) ops e h=ab)(hr:bB P G (whole P G aD) ops ops.toList e h (AI Q)):bU (whole P G aD) (.region id ops ab) e h Q:=by
 unfold bU bB at *
 rw[mY];simp only[dB,if_true,hd];have:=O3 P G (whole P G aD) ops ops.size 0 aj e h;rw[fc] at this;rw[<-this,<-Sh] at hr;obtain⟨o,e1,h1,h2,h3⟩:=hr;rw[h2];cases o with|normal=>exact⟨_,_,_,rfl,h3⟩|_=>exact h3.elim
def bM{id:Nat}{ops:Array Oper}(hd:yJ ops=ab)(hr:bB P G (whole P G aD) ops ops.toList e h (AI Q)):bU (whole P G aD) (.region id ops ab) e h Q:=
 PX (DX hd e h) hr
def BP(I:Nat->Env->ae->Prop)(n:Nat)(Q:Xt->Env->ae->Prop):Xt->Env->ae->Prop
 | .normal,e,h=>∃m,m<n/\I m e h
 |o,e,h=>Q o e h
def aao{I:Nat->Env->ae->Prop}{n:Nat}:BP I n Q .normal e h=∃m,m<n/\I m e h:=rfl
def aaq{I:Nat->Env->ae->Prop}{n:Nat}:BP I n Q .ret e h=Q .ret e h:=rfl
def aan{I:Nat->Env->ae->Prop}{n i:Nat}:BP I n Q (.exit i) e h=Q (.exit i) e h:=rfl
def aap{I:Nat->Env->ae->Prop}{n:Nat}{x:AV}:BP I n Q (.panic x) e h=Q (.panic x) e h:=rfl
def eX{c:Code}(I:Nat->Env->ae->Prop)(gi:∀n e h,I n e h->bU (whole P G aD) c e h (BP I n Q)):
 ∀n e h,I n e h->bU (whole P G aD) (.loop c) e h Q:=by
 intro n
 induction n using wP with
 |_ n ih=>
  intro e h hi;obtain⟨o,e1,h1,h2,h3⟩:=gi n e h hi;unfold bU;rw[mY];simp only[dB,h2];cases o with
  |normal=>obtain⟨m,hm,qA⟩:=h3;exact ih m hm e1 h1 qA
  |_=>exact⟨_,_,_,rfl,h3⟩
def bU.mono{R:Rec}{c:Code}{Q1:Xt->Env->ae->Prop}{h1:ae}(hq:∀o e h,Q o e h->Q1 o e h)(hr:bU R c e h1 Q):bU R c e h1 Q1:=tJ.mono hq hr
def tU(P:aQ)(G:Nat->Option (List AV))(R:Rec)(fn:Func)(r:bw)(h':ae):Xt->Env->ae->Prop
 | .normal,e,h=>eZ P G R fn e e.defers ah h=aa (r,h')
 | .ret,e,h=>eZ P G R fn e e.defers ah h=aa (r,h')
 | .panic x,e,h=>eZ P G R fn e e.defers (aa (x,ak)) h=aa (r,h')
 | .exit _,_,_=>False
def fg{g:bF}{fn:Func}{body:Code}{args:List AV}{r:bw}{h':ae}(hp:aD g=ah)(fw:P.funcs[g]?=aa fn)(hb:fn.body=aa body)
 (hr:bU (whole P G aD) body (Env.start args ah) h (tU P G (whole P G aD) fn r h')):(whole P G aD).call g args h=aa (r,h'):=by
 rw[rX];unfold ri;rw[hp];unfold oB;rw[fw];simp only[hb];obtain⟨o,e1,h1,h2,h3⟩:=hr;have h2:(whole P G aD).code body {tmps:={ch:=[],base:=args},defers:=[],aX:=ah,round:=ah} h=aa (o,e1,h1):=h2;rw[h2];cases o with|exit i=>exact h3.elim|_=>simp only[tU] at h3;simp only[h3,cy]
def yH{g:bF}{fn:Func}{body:Code}{args:List AV}{m m':Option (AV × Bool)}{r:bw}{h':ae}(fw:P.funcs[g]?=aa fn)(hb:fn.body=aa body)
 (hr:bU (whole P G aD) body (Env.start args m) h λo e h1=>tU P G (whole P G aD) fn r h' o e h1/\e.aX=m'):(whole P G aD).fS g args m h=aa (r,m',h'):=by
 rw[af8];unfold oB;rw[fw];simp only[hb];obtain⟨o,e1,h1,h2,h3,h4⟩:=hr;have h2:(whole P G aD).code body {tmps:={ch:=[],base:=args},defers:=[],aX:=m,round:=ah} h=aa (o,e1,h1):=h2;rw[h2];cases o with|exit i=>exact h3.elim|_=>simp only[tU] at h3;simp only[h3,cy,h4]
def VV{R:Rec}{fn:Func}{r:bw}{h':ae}:tU P G R fn r h' .normal e h=(eZ P G R fn e e.defers ah h=aa (r,h')):=rfl
def VX{R:Rec}{fn:Func}{r:bw}{h':ae}:tU P G R fn r h' .ret e h=(eZ P G R fn e e.defers ah h=aa (r,h')):=rfl
def VW{R:Rec}{fn:Func}{r:bw}{h':ae}{x:AV}:tU P G R fn r h' (.panic x) e h=(eZ P G R fn e e.defers (aa (x,ak)) h=aa (r,h')):=rfl
def afX{R:Rec}{fn:Func}:eZ P G R fn e [] ah h=(Ck P G fn e h).map λx=>(.ret x,h):=rfl
def afY{R:Rec}{fn:Func}{x:AV}{b:Bool}:eZ P G R fn e [] (aa (x,b)) h=aa (.panic x,h):=rfl
section
variable {R:Rec} {ops:Array Oper} {rest:List Oper} {d:Option Tmp} {ty:aE} {pos:String} {af:Array Edge}
def adN:bB P G R ops [] e h Q=Q .normal e h:=rK
def adM{op:Op}{j:Nat}{want:Bool}:bB P G R ops (⟨d,op,ty,pos,af,aa (j,want)⟩::rest) e h Q=
 Gs P G R ops ⟨d,op,ty,pos,af,ah⟩ rest e h Q want (guardOf ops j):=by
 unfold bB guardOf Gs kL bB;simp only[opsL,cd];cases (ops[j]?).bind (·.dst) with
 |none=>rfl|some g=>
  simp only;generalize e.get g=x;rcases x with _|v|_|_|_|cs|_|_|_|_|_
  case v=>
   cases v with
   |bool b=>
    simp only;by_cases hb:b=want
    ·subst hb;simp only[beq_self_eq_true,if_true];rfl
    ·have:(b==want)=ak:=(by simpa using hb);simp only[this,ax hb]
   |_=>simp only[oP]
  case tuple=>cases cs<;>simp only[oP]
  all_goals (simp only[oP])
def after(P:aQ)(G:Nat->Option (List AV))(R:Rec)(ops:Array Oper)(rest:List Oper)(d:Option Tmp)(e:Env)(Q:Xt->Env->ae->Prop):Option (AV × ae)->Prop
 |some (x,h)=>bB P G R ops rest (e.put d x) h Q
 |none=>False
def Ll{x:AV}:after P G R ops rest d e Q (aa (x,h))=bB P G R ops rest (e.put d x) h Q:=rfl
def opsOf(o:Op):Bool:=
 match o with
 | .call _| .defer _| .panic _=>ak
 |_=>ab
def jC{op:Op}(ho:opsOf op=ab):bB P G R ops (⟨d,op,ty,pos,af,ah⟩::rest) e h Q=after P G R ops rest d e Q (cB P G e.eval h op):=by
 unfold bB;simp only[opsL,cd];have aR:cA P G R e h ⟨d,op,ty,pos,af,ah⟩=(cB P G e.eval h op).map λ(x,h)=>(.ret x,e,h):=by cases op<;>first|rfl|(simp[opsOf] at ho)
 rw[aR];cases cB P G e.eval h op with|none=>simp only[Gq,oP];rfl|some q=>obtain⟨x,h1⟩:=q;rfl
def vg(P:aQ)(G:Nat->Option (List AV))(R:Rec)(ops:Array Oper)(rest:List Oper)(d:Option Tmp)(e:Env)(Q:Xt->Env->ae->Prop):Option (bw × ae)->Prop
 |some (.ret x,h)=>bB P G R ops rest (e.put d x) h Q
 |some (.panic x,h)=>Q (.panic x) e h
 |none=>False
def SY{x:AV}:vg P G R ops rest d e Q (aa (.ret x,h))=bB P G R ops rest (e.put d x) h Q:=rfl
def SX{x:AV}:vg P G R ops rest d e Q (aa (.panic x,h))=Q (.panic x) e h:=rfl
def adQ{f:bI}{args:Array bI}{ts:Array aE}:bB P G R ops (⟨d,.call {callee:=.value f,args,argTypes:=ts},ty,pos,af,ah⟩::rest) e h Q=
 vg P G R ops rest d e Q (mc P R e h {callee:=.value f,args,argTypes:=ts}):=by
 unfold bB;simp only[opsL,cd,cA];cases mc P R e h {callee:=.value f,args,argTypes:=ts} with|none=>simp only[Gq,oP];rfl|some q=>obtain⟨r,h1⟩:=q;cases r<;>simp only[cy,rK]<;>rfl
def UF{g:bF}{args:Array bI}{ts:Array aE}:mc P R e h {callee:=.value (.func g),args,argTypes:=ts}=R.call g (args.toList.map e.eval) h:=by simp[mc,eval_func]
def UH{t:Nat}{args:Array bI}{ts:Array aE}:mc P R e h {callee:=.value (.tmp t),args,argTypes:=ts}=
 (match e.get t with
  | .func (.func g) first az=>R.call g (first++args.toList.map e.eval++az) h
  | .yield l=>R.round l (args.toList.map e.eval) h
  |_=>ah):=rfl
def O9:Builtin->Bool
 | .recover| .panic| .append=>ak
 |_=>ab
def Cv{b:Builtin}{args:Array bI}{ts:Array aE}(hb:O9 b=ab):bB P G R ops (⟨d,.call {callee:=.builtin b,args,argTypes:=ts},ty,pos,af,ah⟩::rest) e h Q=
 after P G R ops rest d e Q (iX P h b ts ty (args.toList.map e.eval)):=by
 unfold bB;simp only[opsL,cd];have aR:cA P G R e h ⟨d,.call {callee:=.builtin b,args,argTypes:=ts},ty,pos,af,ah⟩=(iX P h b ts ty (args.toList.map e.eval)).map λ(x,h)=>(.ret x,e,h):=by cases b<;>first|rfl|(simp[O9] at hb)
 rw[aR];cases iX P h b ts ty (args.toList.map e.eval) with|none=>simp only[Gq,oP];rfl|some q=>obtain⟨x,h1⟩:=q;rfl
def ac7(x:bI):bB P G R ops (⟨d,.move x,ty,pos,af,ah⟩::rest) e h Q=after P G R ops rest d e Q (cB P G e.eval h (.move x)):=jC rfl
def acJ(x:bI):bB P G R ops (⟨d,.assign x,ty,pos,af,ah⟩::rest) e h Q=after P G R ops rest d e Q (cB P G e.eval h (.assign x)):=jC rfl
def ac9(c a b:bI):bB P G R ops (⟨d,.pick c a b,ty,pos,af,ah⟩::rest) e h Q=after P G R ops rest d e Q (cB P G e.eval h (.pick c a b)):=jC rfl
def acH(t:aE):bB P G R ops (⟨d,.alloc t,ty,pos,af,ah⟩::rest) e h Q=after P G R ops rest d e Q (cB P G e.eval h (.alloc t)):=jC rfl
def acL(t:aE)(x:bI):bB P G R ops (⟨d,.box t x,ty,pos,af,ah⟩::rest) e h Q=after P G R ops rest d e Q (cB P G e.eval h (.box t x)):=jC rfl
def acM(t:aE)(ps:Array (Nat × bI)):bB P G R ops (⟨d,.build t ps,ty,pos,af,ah⟩::rest) e h Q=after P G R ops rest d e Q (cB P G e.eval h (.build t ps)):=jC rfl
def acN(t:aE)(n:Nat)(ps:Array (Nat × bI)):bB P G R ops (⟨d,.buildSlice t n ps,ty,pos,af,ah⟩::rest) e h Q=after P G R ops rest d e Q (cB P G e.eval h (.buildSlice t n ps)):=jC rfl
def acZ(t:aE)(a:bI):bB P G R ops (⟨d,.load t a,ty,pos,af,ah⟩::rest) e h Q=after P G R ops rest d e Q (cB P G e.eval h (.load t a)):=jC rfl
def ade(t:aE)(a x:bI):bB P G R ops (⟨d,.store t a x,ty,pos,af,ah⟩::rest) e h Q=after P G R ops rest d e Q (cB P G e.eval h (.store t a x)):=jC rfl
def ac8(x:bI):bB P G R ops (⟨d,.nilCheck x,ty,pos,af,ah⟩::rest) e h Q=after P G R ops rest d e Q (cB P G e.eval h (.nilCheck x)):=jC rfl
def acK(o:BinOp)(t:aE)(x y:bI)(yt:aE):bB P G R ops (⟨d,.binOp o t x y yt,ty,pos,af,ah⟩::rest) e h Q=after P G R ops rest d e Q (cB P G e.eval h (.binOp o t x y yt)):=jC rfl
def adg(o:UnOp)(t:aE)(x:bI):bB P G R ops (⟨d,.unOp o t x,ty,pos,af,ah⟩::rest) e h Q=after P G R ops rest d e Q (cB P G e.eval h (.unOp o t x)):=jC rfl
def acP(s t:aE)(x:bI):bB P G R ops (⟨d,.convert s t x,ty,pos,af,ah⟩::rest) e h Q=after P G R ops rest d e Q (cB P G e.eval h (.convert s t x)):=jC rfl
def ac3(t:aE)(x:bI):bB P G R ops (⟨d,.makeInterface t x,ty,pos,af,ah⟩::rest) e h Q=after P G R ops rest d e Q (cB P G e.eval h (.makeInterface t x)):=jC rfl
def ac0(fn:Fn)(first az:Array bI):bB P G R ops (⟨d,.makeFunc fn first az,ty,pos,af,ah⟩::rest) e h Q=after P G R ops rest d e Q (cB P G e.eval h (.makeFunc fn first az)):=jC rfl
def ac4(t:aE)(l c:bI):bB P G R ops (⟨d,.makeSlice t l c,ty,pos,af,ah⟩::rest) e h Q=after P G R ops rest d e Q (cB P G e.eval h (.makeSlice t l c)):=jC rfl
def adb(t:aE)(x:bI)(lo hi mx:Option bI):bB P G R ops (⟨d,.slice t x lo hi mx,ty,pos,af,ah⟩::rest) e h Q=after P G R ops rest d e Q (cB P G e.eval h (.slice t x lo hi mx)):=jC rfl
def acV(t:aE)(x:bI)(f:Nat):bB P G R ops (⟨d,.fieldAddr t x f,ty,pos,af,ah⟩::rest) e h Q=after P G R ops rest d e Q (cB P G e.eval h (.fieldAddr t x f)):=jC rfl
def acU(t:aE)(x:bI)(f:Nat):bB P G R ops (⟨d,.field t x f,ty,pos,af,ah⟩::rest) e h Q=after P G R ops rest d e Q (cB P G e.eval h (.field t x f)):=jC rfl
def acX(t:aE)(x i:bI):bB P G R ops (⟨d,.indexAddr t x i,ty,pos,af,ah⟩::rest) e h Q=after P G R ops rest d e Q (cB P G e.eval h (.indexAddr t x i)):=jC rfl
def acW(t:aE)(x i:bI):bB P G R ops (⟨d,.index t x i,ty,pos,af,ah⟩::rest) e h Q=after P G R ops rest d e Q (cB P G e.eval h (.index t x i)):=jC rfl
def adf(x:bI)(xt t:aE)(ok:Bool):bB P G R ops (⟨d,.typeAssert x xt t ok,ty,pos,af,ah⟩::rest) e h Q=after P G R ops rest d e Q (cB P G e.eval h (.typeAssert x xt t ok)):=jC rfl
def acT(x:bI)(i:Nat):bB P G R ops (⟨d,.extract x i,ty,pos,af,ah⟩::rest) e h Q=after P G R ops rest d e Q (cB P G e.eval h (.extract x i)):=jC rfl
def acY(args:Array bI)(ts:Array aE):bB P G R ops (⟨d,.call {callee:=.builtin .len,args,argTypes:=ts},ty,pos,af,ah⟩::rest) e h Q=after P G R ops rest d e Q (iX P h .len ts ty (args.toList.map e.eval)):=Cv rfl
def acO(args:Array bI)(ts:Array aE):bB P G R ops (⟨d,.call {callee:=.builtin .cap,args,argTypes:=ts},ty,pos,af,ah⟩::rest) e h Q=after P G R ops rest d e Q (iX P h .cap ts ty (args.toList.map e.eval)):=Cv rfl
def acI(args:Array bI)(ts:Array aE):bB P G R ops (⟨d,.call {callee:=.builtin .append,args,argTypes:=ts},ty,pos,af,ah⟩::rest) e h Q=after P G R ops rest d e Q (oE P G d h .append ts ty (args.toList.map e.eval)):=by
 unfold bB;simp only[opsL,cd];have aR:cA P G R e h ⟨d,.call {callee:=.builtin .append,args,argTypes:=ts},ty,pos,af,ah⟩=(oE P G d h .append ts ty (args.toList.map e.eval)).map λ(x,h)=>(.ret x,e,h):=rfl;rw[aR];cases oE P G d h .append ts ty (args.toList.map e.eval) with|none=>simp only[Gq,oP];rfl|some q=>obtain⟨x,h1⟩:=q;rfl
def acQ(args:Array bI)(ts:Array aE):bB P G R ops (⟨d,.call {callee:=.builtin .copy,args,argTypes:=ts},ty,pos,af,ah⟩::rest) e h Q=after P G R ops rest d e Q (iX P h .copy ts ty (args.toList.map e.eval)):=Cv rfl
def ac6(args:Array bI)(ts:Array aE):bB P G R ops (⟨d,.call {callee:=.builtin .min,args,argTypes:=ts},ty,pos,af,ah⟩::rest) e h Q=after P G R ops rest d e Q (iX P h .min ts ty (args.toList.map e.eval)):=Cv rfl
def ac5(args:Array bI)(ts:Array aE):bB P G R ops (⟨d,.call {callee:=.builtin .max,args,argTypes:=ts},ty,pos,af,ah⟩::rest) e h Q=after P G R ops rest d e Q (iX P h .max ts ty (args.toList.map e.eval)):=Cv rfl
def adO{x:bI}:bB P G R ops (⟨d,.panic x,ty,pos,af,ah⟩::rest) e h Q=(match e.eval x with| .iface t y=>Q (.panic (.iface t y)) e h|_=>False):=by unfold bB;simp only[opsL,cd,cA];generalize e.eval x=y;cases y<;>first|exact rK|exact oP
def adP{args:Array bI}{ts:Array aE}(hr:e.round=ah):bB P G R ops (⟨d,.call {callee:=.builtin .recover,args,argTypes:=ts},ty,pos,af,ah⟩::rest) e h Q=
 (match e.aX with
  |some (x,ak)=>bB P G R ops rest (({e with aX:=aa (x,ab)}:Env).put d x) h Q
  |_=>bB P G R ops rest (e.put d (.v .nilIface)) h Q):=by
 unfold bB;simp only[opsL,cd,cA,hr,De,dP,if_false];rcases hp:e.aX with _|⟨x,b⟩
 ·rfl
 ·cases b<;>rfl
def adL{f:bI}{args:Array bI}{ts:Array aE}(hr:e.round=ah):bB P G R ops (⟨d,.defer {callee:=.value f,args,argTypes:=ts},ty,pos,af,ah⟩::rest) e h Q=
 (match e.eval f with
  | .func (.func g) first az=>bB P G R ops rest (({e with defers:=(g,first++args.toList.map e.eval++az)::e.defers}:Env).put d (.tuple [])) h Q
  |_=>False):=by
 unfold bB;simp only[opsL,cd,cA,hr,De,dP,if_false];generalize e.eval f=y;rcases y with _|_|_|_|_|_|_|_|⟨fn,a,b⟩|_|_
 case func=>cases fn<;>first|rfl|exact oP
 all_goals exact oP
end
end
end Go.AE
end
section
namespace Go.AE
def bs(l:List UInt8):ByteArray:=⟨l.toArray⟩
def str(l:List UInt8):AV:=.v (.string (bs l))
def int(n:Int):AV:=.v (.int .i64 n)
def byte(b:UInt8):AV:=.v (.int .u8 b.toNat)
def bool(b:Bool):AV:=.v (.bool b)
def Ur(l):ByteArray.mk l.toArray=bs l:=rfl
def su(l):(bs l).size=l.length:=rfl
def LN(l):(bs l).data.toList=l:=rfl
def Ds(s):s=bs s.data.toList:=by obtain⟨⟨l⟩⟩:=s;rfl
def Uq(a b):bs a++bs b=bs (a++b):=by apply ByteArray.ext;rw[ByteArray.data_append];simp[bs]
def GU(l)(i j):(bs l).extract i j=bs ((l.take j).drop i):=by apply ByteArray.ext;rw[ByteArray.data_extract];simp[bs,List.extract_eq_take_drop,List.drop_take]
def vV{α β}{P}(m)(f:α->Sem β):fD P (m>>=f)=(fD P m).bind λa=>fD P (f a):=by
 show fD P (m.bind f)=_
 induction m with
 |pure a=>rfl|program k ih=>simp only[Sem.bind,fD];exact ih _|mark m k ih=>simp only[Sem.bind,fD];exact ih|_=>rfl
section
variable {P:aQ} {t:aE} {x y:bI} {k:IntKind} {a b:Int}
def q9{op:BinOp}{v:aC}(h:fD P (binOp op t (.int k a) (.int k b))=aa v):jo P op t x y (.v (.int k a)) (.v (.int k b))=pZ v:=by
 have hg:fD P (eqGuard op t x y (.int k a) (.int k b))=aa ():=by cases op<;>rfl
 show(fD P (do eqGuard op t x y (.int k a) (.int k b);binOp op t (.int k a) (.int k b))).bind pZ=_;rw[vV,hg];simp only[qZ,h]
def TX:jo P .add t x y (.v (.int k a)) (.v (.int k b))=aa (.v (.int k (k.wrap (a+b)))):=q9 (v:=.int k (k.wrap (a+b))) (by simp[binOp,Op.intArith];rfl)
def Uc:jo P .sub t x y (.v (.int k a)) (.v (.int k b))=aa (.v (.int k (k.wrap (a - b)))):=q9 (v:=.int k (k.wrap (a - b))) (by simp[binOp,Op.intArith];rfl)
def T4:jo P .mul t x y (.v (.int k a)) (.v (.int k b))=aa (.v (.int k (k.wrap (a * b)))):=q9 (v:=.int k (k.wrap (a * b))) (by simp[binOp,Op.intArith];rfl)
def T6(h:b≠0):jo P .quo t x y (.v (.int k a)) (.v (.int k b))=aa (.v (.int k (k.wrap (a.tdiv b)))):=q9 (v:=.int k (k.wrap (a.tdiv b))) (by simp[binOp,Op.intDiv,h];rfl)
def T8(h:b≠0):jo P .rem t x y (.v (.int k a)) (.v (.int k b))=aa (.v (.int k (a.tmod b))):=q9 (v:=.int k (a.tmod b)) (by simp[binOp,Op.intDiv,h];rfl)
def TZ:jo P .eql t x y (.v (.int k a)) (.v (.int k b))=aa (.v (.bool (decide (a=b)))):=q9 (v:=.bool (decide (a=b))) (by
 have:(a==b)=decide (a=b):=by rw[uT];simp
 simp[binOp,Op.intCmp,this];rfl)
def T5:jo P .neq t x y (.v (.int k a)) (.v (.int k b))=aa (.v (.bool (!decide (a=b)))):=q9 (v:=.bool (!decide (a=b))) (by
 have:(a !=b)= !decide (a=b):=by rw[uT];simp
 simp[binOp,Op.intCmp,this];rfl)
def T3:jo P .lss t x y (.v (.int k a)) (.v (.int k b))=aa (.v (.bool (decide (a<b)))):=q9 (v:=.bool (decide (a<b))) (by simp[binOp,Op.intCmp];rfl)
def T2:jo P .leq t x y (.v (.int k a)) (.v (.int k b))=aa (.v (.bool (decide (a<=b)))):=q9 (v:=.bool (decide (a<=b))) (by simp[binOp,Op.intCmp];rfl)
def T1:jo P .gtr t x y (.v (.int k a)) (.v (.int k b))=aa (.v (.bool (decide (b<a)))):=q9 (v:=.bool (decide (b<a))) (by simp[binOp,Op.intCmp];rfl)
def T0:jo P .geq t x y (.v (.int k a)) (.v (.int k b))=aa (.v (.bool (decide (b<=a)))):=q9 (v:=.bool (decide (b<=a))) (by simp[binOp,Op.intCmp];rfl)
def Ua{p q:List UInt8}:jo P .eql t x y (.v (.string (bs p))) (.v (.string (bs q)))=aa (.v (.bool (decide (p=q)))):=by show aa (AV.v (.bool (p==q)))=_;rw[uT.2 (by simp:(p==q)=ab↔decide (p=q)=ab)]
def Ub{p q:List UInt8}:jo P .neq t x y (.v (.string (bs p))) (.v (.string (bs q)))=aa (.v (.bool (!decide (p=q)))):=by show aa (AV.v (.bool (!(p==q))))=_;rw[uT.2 (by simp:(p==q)=ab↔decide (p=q)=ab)]
def T9{p q:List UInt8}(h:p.length+q.length<=9223372036854775807):jo P .add t x y (.v (.string (bs p))) (.v (.string (bs q)))=aa (.v (.string (bs (p++q)))):=by show(if (bs p).size+(bs q).size<=9223372036854775807 then aa (AV.v (.string (bs p++bs q))) else ah)=_;rw[su,su,aB h,Uq]
def afT{c:Bool}:CP P .not (.v (.bool c))=aa (.v (.bool (!c))):=rfl
def afS:CP P .neg (.v (.int k a))=aa (.v (.int k (k.wrap (0 - a)))):=rfl
def Z3{s:ByteArray}(hu:P.underlying t=aa .string):sY P t (.v (.string s))=aa (.v (.int .i64 s.size)):=by unfold sY;rw[hu]
def Z1{e:aE}{tk:Tok}{sz:Nat}{es:List (List AV)}(hu:P.underlying t=aa (.slice e)):sY P t (.list tk sz es)=aa (.v (.int .i64 es.length)):=by unfold sY;rw[hu]
def Oq{e:aE}{b o l c:Nat}(hu:P.underlying t=aa (.slice e)):sY P t (.arr b o l c)=aa (.v (.int .i64 l)):=by unfold sY;rw[hu]
def ZA{l:List UInt8}(hu:P.underlying t=aa .string)(h0:0<=a)(h1:a<l.length):BH P t (.v (.string (bs l))) (.v (.int k a))=aa (.v (.int .u8 (l.getD a.toNat 0).toNat)):=by
 unfold BH;rw[hu];have ay:a.toNat<l.length:=by omega
 simp only[aB h0,bs,iB,cv ay];simp[ay]
def abM{c}{u v}:E0 (.v (.bool c)) u v=aa (if c=ab then u else v):=by cases c<;>rfl
def WJ(h0: -9223372036854775808<=a)(h1:a<=9223372036854775807):IntKind.i64.wrap a=a:=by rw[IntKind.wrap_i64];omega
def WK(h0:0<=a)(h1:a<=255):IntKind.u8.wrap a=a:=by rw[IntKind.wrap_u8];omega
end
end Go.AE
end
section
namespace Go.AE
open Go.RowKit (Below)
def aH.init(W:aT):aH:={base:=W.heap.size,ic:=λg j=>W.cell? ⟨g,j,ah⟩,β:=[],γ:=[],tn:=0,tk:=λ_=>(0,0,0),md:=[],lb:=λ_=>ah}
def ae.init:ae:=⟨[],[],0,[]⟩
def aes{G}{ok}(W)(hG:∀g cs,G g=aa cs->∃cells,aM (aH.init W) cs cells/\∀(j:Nat) (c:aC),cells[j]?=aa c->W.cell? ⟨g,j,ah⟩=aa c):
 bg (aH.init W) G ok W ae.init W:=by
 refine⟨.refl _ _,aK _,λg j c h=>h,hG,rfl,λb b' g h=>?_,λb g cs h=>?_,rfl,λb b' g h=>?_,λl g r h=>?_,rfl,λt ht=>?_,λt t' ht=>?_,λr hr=>?_,rfl⟩
 ·simp[aH.init] at h
 ·simp[aH.init] at h
 ·simp[aH.init] at h
 ·simp[aH.init] at h
 ·simp[alive,ae.init] at ht
 ·simp[alive,ae.init] at ht
 ·simp[aH.init] at hr
def yj(P:aQ):Nat->List Field->Nat->Bool
 |off,[],total=>ij off total
 |off,f::fs,total=>ij f.offset off&&yj P (off+P.cellsOf f.type) fs total
def ES(P:aQ):Nat->aE->Bool
 |0,_=>ak
 |n+1,t=>
  match P.underlying t with
  |some .bool|some (.int _)|some .string=>ab
  |some (.slice e)=>ES P n e&&decide (0<P.cellsOf e)
  |some (.struct fs)=>yj P 0 fs.toList (P.cellsOf t)&&fs.toList.all λf=>ES P n f.type
  |some (.array m e)=>ij (P.cellsOf t) (m * P.cellsOf e)&&ES P n e
  |_=>ak
inductive Has {H:Type} (P:aQ):aE->List AV->DataW H->Prop
 |bool {t:aE} (hu:P.underlying t=aa .bool) (b:Bool):Has P t [.v (.bool b)] (.lit (.bool b))
 |int {t:aE} {k:IntKind} (hu:P.underlying t=aa (.int k)) (n:Int) (hn:(Lit.int k n).wf=ab):Has P t [.v (.int k n)] (.lit (.int k n))
 |str {t:aE} (hu:P.underlying t=aa .string) (s:ByteArray) (hs:s.size<=maxLen):Has P t [.v (.string s)] (.lit (.string s.data.toList))
 |none {t e:aE} (hu:P.underlying t=aa (.slice e)):Has P t [.list .nil (P.cellsOf e) []] .nil
 |list {t e:aE} (hu:P.underlying t=aa (.slice e)) (k:Tok) (es:List (List AV)) (ds sp:List (DataW H)) (hk:k=.held∨(k=.tight/\es=[])) (hl:es.length<=maxLen) (hd:ds.length=es.length)
  (he:∀(i:Nat) (r:List AV) (d:DataW H),es[i]?=aa r->ds[i]?=aa d->Has P e r d) (hs:∀r∈es,r.length=P.cellsOf e):Has P t [.list k (P.cellsOf e) es] (.slice ds sp)
 |struct {t:aE} {fs:Array Field} (hu:P.underlying t=aa (.struct fs)) (xs:List AV) (ds:List (DataW H)) (hl:xs.length=P.cellsOf t) (hd:ds.length=fs.size)
  (hf:∀(i:Nat) (f:Field) (d:DataW H),fs[i]?=aa f->ds[i]?=aa d->Has P f.type ((xs.drop f.offset).take (P.cellsOf f.type)) d):Has P t xs (.agg ds)
 |array {t e:aE} {n:Nat} (hu:P.underlying t=aa (.array n e)) (xs:List AV) (ds:List (DataW H)) (hl:xs.length=P.cellsOf t) (hd:ds.length=n)
  (he:∀(i:Nat) (d:DataW H),ds[i]?=aa d->Has P e ((xs.drop (i * P.cellsOf e)).take (P.cellsOf e)) d):Has P t xs (.agg ds)
section
variable {H:Type} {enc:aE × aC->H} {P:aQ} {W:aT}
def L4{a:Addr}{n:Nat}{vs:List aC}(h:W.cells? 0 a n=aa vs):vs.length=n/\∀j,j<n->W.cell? (a.add j)=vs[j]?:=by unfold World.cells? at h;rw[aB (cz _)] at h;refine⟨by simpa using mapM_some_length h,λj hj=>mapM_some_get h j j (by simp[hj])⟩
def aeK{a:Addr}{v:aC}(h:W.cell? a=aa v):a.spot=ah:=by
 unfold World.cell? at h;split at h
 ·cases hs:a.spot with|none=>rfl|some s=>rw[hs] at h;simp at h
 ·cases h
end
end Go.AE
end
section
namespace Go.AE
open Go.RowKit Go.WideShapes Go.ChangeShapes
def jE{H:Type}(P:aQ)(t:aE)(x:AV)(d:DataW H):Prop:=
 match P.underlying t with
 |some (.struct _)|some (.array _ _)=>∃cs,x=.agg cs/\Has P t cs d
 |_=>Has P t [x] d
def qe{H:Type}(P:aQ):List aE->List AV->List (DataW H)->Prop
 | [],[],[]=>True
 |t::ts,x::xs,d::ds=>jE P t x d/\qe P ts xs ds
 |_,_,_=>False
section
variable {H:Type} {enc:aE × aC->H} {P:aQ} {W:aT}
def Tm(hl:laidOutB P=ab){W':aT}{sp:Nat->Bool}:∀{ts:List aE} {vs:List aC} {ds:List (DataW H)} {p:List MemPlace},DataW.TrodAll enc P W 0 (λ_=>ab) ab ts vs ds p->
 (∀t∈ts,P.readableRec t=true/\t<P.types.size)->(∀x∈p,W.sameAt W' x)->(∀x∈p,sp x.block=true)->DataW.TrodAll enc P W' 0 sp true ts vs ds p:=by
 intro ts
 induction ts with
 |nil=>intro vs ds p h _ _ _;obtain⟨rfl,rfl,rfl⟩:=trodAll_nil h;exact trodAll_mk0
 |cons t ts ih=>
  intro vs ds p h hr hs uk;obtain⟨v,vs',d,ds',p1,q1,rfl,rfl,rfl,h1,h2⟩:=trodAll_cons h;exact trodAll_cons_mk (WideElems.Trod_stays hl (hr t dQ).1 (hr t dQ).2 h1 (λx hx=>hs x (C9 _ hx)) (λx hx=>uk x (C9 _ hx)))
   (ih h2 (λt ht=>hr t (dG _ ht)) (λx hx=>hs x (Se _ hx)) (λx hx=>uk x (Se _ hx)))
def abY{f:Func}{s:ChangeSpec}{apart fresh handsOn again:Bool}{W W':aT}{args:Array aC}{v:aC}{ds gs:List (DataW H)}{before pa pv:List MemPlace}
 (hW:DataW.Whole enc P f.params.toList s.vars apart W args.toList ds gs before)
 (qG:∀(b:Nat) (sp:Nat->Bool) (hd:Bool),DataW.TrodAll enc P W' b sp hd f.resultTypes.toList (v.resultList f.resultTypes.size) (s.fn H (ds++gs)).results [])
 (sG:∀sp:Nat->Bool,(∀p∈before,sp p.block=ab)->DataW.TrodAll enc P W' 0 sp ab f.params.toList args.toList (s.fn H (ds++gs)).args pa)
 (BC:∀sp:Nat->Bool,(∀p∈before,sp p.block=ab)->DataW.TrodVars enc P W' sp s.vars (s.fn H (ds++gs)).vars pv)
 (ui:before=pa++pv) (hb:Below W.heap.size W W')
 (aU:∀(j:Nat) (t:aE) (r:aC),f.resultTypes[j]?=aa t->(v.resultList f.resultTypes.size)[j]?=aa r->Value.okWide P W' .any 0 t r):
 s.post enc P f apart fresh handsOn again W args v W':=by
 have ay:∀p∈before,p.block<W.heap.size:=λp hp=>hW.lt p hp;have hold:∀p∈before,(λb=>decide (b<W.heap.size)) p.block=ab:=λp hp=>by simpa using ay p hp
 refine⟨ds,gs,before,[],pa,pv,hW,qG _ _ _,sG _ hold,BC _ hold,World.keptBut_mono (λp hp=>⟨hp,?_⟩) (hb.frame (·∈before)),λ_=>?_⟩
 ·rw[ui,oZ] at hp;exact Or.inr hp
 ·obtain⟨_,_,_,_,_,hz,hn⟩:=hW;refine⟨aU,_,_,([]++pa)++pv,⟨[]++pa,pv,trodAll_append (sG _ (λ_ _=>rfl)) (qG _ _ _),BC _ (λ_ _=>rfl),rfl,?_,?_⟩,?_⟩
  ·intro b off hp;have cQ:MemPlace.cell b off∈before:=(by rw[ui];simpa using hp);rw[hb.frozen (ay _ cQ)];exact hz b off cQ
  ·intro ha;have:=hn ha;rw[ui] at this;simpa using this
  ·intro p hp _;rw[ui];simpa using hp
structure agz(P:aQ)(f:bF)(fn:Func)(tb:aE):Prop where
 func:P.funcs[f]?=aa fn
 laid:laidOutB P=ab
 mV:∀t∈fn.params.toList,ES P 9 t=ab/\P.readableRec t=ab/\t<P.types.size
 res:fn.resultTypes=#[tb]
 bool:P.underlying tb=aa .bool
variable {G:Nat->Option (List AV)} {aD:bF->Option (List AV->ae->Option (AV × ae))}
end
end Go.AE
end
section
namespace Go.AE
open Go.RowKit (Below)
section
variable {K:aH} {G:Nat->Option (List AV)} {ok:bF->Nat->Code->Bool} {w0 w w':aT} {h:ae}
def bg.grown(s:bg K G ok w0 h w)(hb:Below w.heap.size w w'):bg K G ok w0 h w':=by
 have hk:∀{k:Nat} {o:Obj},w.heap[k]?=aa o->w'.heap[k]?=aa o:=λhk=>(hb.block _ (lt_of_heap hk)).trans hk;refine⟨s.cr.trans (hb.mono s.size),cY s.size hb.size,λg j c hg=>?_,s.dj,s.ga,s.mF,λb g cs eJ hc=>?_,s.j4,s.na,λl g r hl hr=>?_,s.tn,λt ht=>?_,s.mD,λr hr=>?_,s.all⟩
 ·rw[<-s.ic g j c hg];exact World.cell?_of_block (w:=w) (hb.block g (s.lt_of_cell hg))
 ·obtain⟨h1,h2,ha,cells,e,h3,h4⟩:=s.box b g cs eJ hc;exact⟨h1,h2,ha,cells,e,hk h3,h4⟩
 ·obtain⟨h1,fn,tmps,d,h2,h3⟩:=s.loop l g r hl hr;exact⟨h1,fn,tmps,d,hk h2,h3⟩
 ·obtain⟨h1,h2,h3,cells,e,fz,h4,h5,h6⟩:=s.tok t ht;refine⟨h1,h2,h3,cells,e,fz,hk h4,h5,λj hj hl=>?_⟩;rw[<-h6 j hj hl];exact World.frozen?_of_block (w:=w) (hb.block _ (lt_of_heap h4))
 ·exact⟨(s.md r hr).1,hk (s.md r hr).2⟩
def Fk{P:aQ}(s:bg K G ok w0 h w){x:AV}{rows:List (List AV)}(he:rowsOf h 1 x=aa rows){c:aC}(hv:aI K x c):
 ∃a az vals,c=.slice a rows.length az/\aM K rows.flatten vals/\vals.length=rows.length/\(rows=[]∨∃bk o,a=aa ⟨bk,o,ah⟩/\rows.length<=az/\bk<w.heap.size/\∀(j:Nat) (v:aC),vals[j]?=aa v->w.cell? ⟨bk,o+j,ah⟩=aa v):=by
 obtain⟨a,az,vals,rfl,r1,r2,r3,r4,r5,r6⟩:=zO (P:=P) s he hv;refine⟨a,az,vals,rfl,r2,by simpa using r4,?_⟩;by_cases jO:rows=[]
 ·exact .inl jO
 ·refine .inr ?_;have Eh:0<vals.length:=by rw[r4,qj];exact List.length_pos_iff.2 jO
  unfold rowsOf at he;split at he
  ·rename_i k sz es;split at he
   ·rename_i bG;injection he with he;subst he;cases hv with|nil=>exact absurd rfl jO|jV=>exact absurd rfl jO|list _ _ _ g off n _ cells hn hr dJ iu ht ha=>have Zb:sz=1:=bG.resolve_right jO;have ey:cells.length=es.length:=(by rw[<-dJ.length,px hr,Zb,qj]);have lF:∀(j:Nat) (v:aC),cells[j]?=aa v->w.cell? ⟨g,off+j,ah⟩=aa v:=λj v hj=>s.ic _ _ _ (iu j v hj);have hl:=run_loadCells_list (P:=P) w ⟨g,off,ah⟩ cells (λj v hj=>by rw[Addr.im];exact lF j v hj);have h5:=r5 _ rfl;rw[qj,<-ey,hl] at h5;injection h5 with h5 _;have:cells=vals:=(by simpa using h5);subst this;obtain⟨v0,Zj⟩:∃v,cells[0]?=aa v:=⟨_,cv Eh⟩;exact⟨g,off,rfl,ht.1,s.lt_of_cell (iu 0 v0 Zj),lF⟩
   ·cases he
  ·rename_i b off len ir;split at he
   ·rename_i cs aZ;split at he
    ·rename_i qx;injection he with he;cases hv with
     |arr _ g _ _ _ fy cap2 hb hl mJ mN da=>
      obtain⟨_,_,ka,cells,e,k3,k4⟩:=s.box b g cs hb aZ;rw[qj] at qx;have ey:cs.length<=cells.toList.length:=(by have:=k4.le;simpa using this);have Bn:fy=off:=by
       rcases mN with p|p
       ·exact p
       ·exfalso;rw[qj] at r4;omega
      subst Bn;generalize rows.length=len at *
      have lF:∀(j:Nat) (v:aC),((cells.toList.drop fy).take len)[j]?=aa v->w.cell? ⟨g,fy+j,ah⟩=aa v:=by
       intro j v hj;rw[cell_of k3];rw[List.getElem?_take] at hj;split at hj
       ·rw[List.getElem?_drop] at hj;simpa using hj
       ·cases hj
      have eQ:=run_loadCells_list (P:=P) w ⟨g,fy,ah⟩ ((cells.toList.drop fy).take len) (λj v hj=>by rw[Addr.im];exact lF j v hj);have xw:((cells.toList.drop fy).take len).length=len:=(by simp;simp at ey;omega);have h5:=r5 _ rfl;rw[qj] at h5;rw[xw,h5] at eQ;injection eQ with eQ _;have:vals=(cells.toList.drop fy).take len:=(by have:=congrArg Array.toList eQ;simpa using this);subst this;exact⟨g,fy,rfl,by omega,lt_of_heap k3,lF⟩
    ·cases he
   ·cases he
  ·cases he
def kN.uA{P:aQ}{g:bF}{p:List AV->ae->Option (AV × ae)}(fw:∃fn,P.funcs[g]?=aa fn/\fn.body.isSome=ab)
 (hp:∀args h x h',p args h=aa (x,h')->h'=h/\∀(K:aH) (w:aT) (bS:Array aC),aM K args bS.toList->fQ P G w0 K h w->Below w0.heap.size w0 w->
  Calls P g bS w λe w'=>∃v,e=.returned v/\aI K x v/\Below w.heap.size w w'):kN P G w0 g p:=by
 refine⟨fw,λargs h x h' he K w bS hv hs=>?_⟩;obtain⟨rfl,hc⟩:=hp args h x h' he;refine(hc K w bS hv hs (hs.all ▸ hs.cr)).mono λe w' ⟨v,h1,h2,h3⟩=>⟨v,K,h1,.refl K,h2,hs.grown h3⟩
def Kv{P:aQ}(hb:Below w.heap.size w w'){n:String}{cs:Array aC}(h:w.var? P n=aa cs):w'.var? P n=aa cs:=by
 unfold World.var? at h ⊢;cases hg:P.globalNamed n with
 |none=>rw[hg] at h;cases h
 |some g=>
  rw[hg] at h;simp only[qZ] at h ⊢;have ay:g<w.heap.size:=by
   rcases dp g w.heap.size with ay|dy
   ·exact ay
   ·rw[Array.getElem?_eq_none dy] at h;cases h
  rw[hb.block g ay];exact h
end
end Go.AE
end
