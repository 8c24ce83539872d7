/-
  Plain arithmetic: which numbers are squares modulo a prime (Gauss's lemma, Eisenstein's count, the law of quadratic reciprocity for odd numbers).
-/
import Derived.AtR
import Derived.Recover
import Derived.Below
import Derived.Orders
import Derived.Laws.AppendOwn
import Derived.Laws.Cells
import Derived.Laws.Entries
import Derived.Laws.MakeOwn
import Derived.Laws.Strings
import Derived.Laws.Append
import Derived.Lib.AppendZeros
import Derived.Defers
open Bool renaming true->aa,false->ar,and_eq_true->bR,true_and->pP,and_true->Em,false_eq_true->jE,not_false->BB
open List renaming cons_append->fw,length->F,mem_cons_self->gj,nodup_cons->Tu,mem_map->iW,mem_cons_of_mem->gi,map_cons->dK,map_map->tS,map_append->jr,map_nil->tT,map_congr_left->wh,length_cons->eR,zipWith->ED,replicate->bT,range->bE,getD_eq_getElem?_getD->fc,getElem?_eq_none->pR,ext_getElem->HJ,getElem_zipWith->adJ,length_append->db,length_take->dF,length_drop->fL,length_map->bI,getElem_map->rG,getElem_drop->MD,mem_append->uQ,getElem_mem->jG,getElem?_eq_getElem->aW,getElem_set_ne->Tr,getElem_set->EA,getElem?_eq_some_iff->aU,mem_or_eq_of_mem_set->wm,mem_iff_getElem->zK,getElem?_set_ne->MB,getElem?_map->ek,range_succ->jH,foldl_append->nJ,foldl_cons->zJ,foldl_nil->Ey,mem_range->gb,getElem_zipIdx->adI,append_assoc->jq,filter_cons_of_neg->zH,filter_cons_of_pos->zI,getElem_range->HK,getElem?_append_left->qL,getElem?_append_right->wg,all_eq_true->e8,mem_of_getElem?->dk,getElem?_drop->qM,eq_of_mem_replicate->Tq,getElem?_replicate->adG,mem_cons->gX,length_set->ox,mem_filter->rH,contains_iff_mem->adv,ext_getElem?->ou,getElem?_set->j',getElem?_cons_succ->oX,filter_congr->adC,getElem?_take->qb,take_of_length_le->gm,flatten_cons->mj,drop_append->zG,drop_of_length_le->ot,set_eq_take_append_cons_drop->xS,take_append->MH,getElem?_toArray->je,flatten_append->tR,flatten_nil->adF,append_nil->g',mem_of_mem_take->uR,take_nil->ad2,drop_nil->adA,nil_append->fE,getElem?_cons_zero->jF,size_toArray->ad1,take_append_of_le_length->HO,toArray_inj->MJ
open Nat renaming Coprime->nL,Coprime.symm->ML,dvd_of_mod_eq_zero->HQ,le_of_dvd->EG,mod_lt->ml,eq_zero_or_pos->HR,mul_add->TA,add_mod->Tx,mul_assoc->MO,mul_mod_mod->aee,mod_eq_of_lt->mM,one_mul->xT,div_add_mod->Ty,mul_mod->rJ,add_mul->jt,mul_one->nO,mul_comm->TC,pow_pos->MP,mul_add_mod->aec,pow_succ->zL,lt_or_ge->dR,pow_mod->EJ,pow_mul->EK,beq->iJ,eq_of_beq_eq_true->nM,one_pow->TH,pow_add->aeg,le_refl->aT,zero_le->ck,min->nN,le_trans->ff,lt_of_lt_of_le->mK,add_zero->BN,mul_le_mul_right->mn,zero_add->oy,mul_eq_zero->aed,zero_mul->MR,not_lt_zero->qc,reducePow->aei,sub_mul->MQ,mul_pos->HV,pos_of_ne_zero->aef,one_ne_zero->TG
open Int renaming pow_succ->xN,pow_add->Ti,sub_mul->Tk,mul_sub->HE,dvd_add->wc,dvd_mul_of_dvd_right->Ep,natAbs_dvd_natAbs->adj,natAbs_natCast->adk,pow_mul->Eu,natCast_dvd_natCast->Tg,emod_nonneg->HC,emod_lt_of_pos->HB,emod_eq_of_lt->Te,mul_emod->zF,mul_zero->Mq,zero_mul->Mu,sub_eq_add_neg->adq,sub_emod->adp,emod_emod_of_dvd->Es,dvd_refl->Er,neg_zero->adn,neg_mul->adm,zero_add->Mt,mul_comm->HD,mul_add->Mp,ofNat_lt->ado,toNat_natCast->eD,natCast_mul->xM,natCast_emod->adl,mul_one->Tf,sub_self->Ms,emod_add_mul_ediv->ade,dvd_sub->Td,emod_eq_emod_iff_emod_sub_eq_zero->adf
open Option renaming some->J,none->ao,map_some->gq,some.injEq->eo,map_eq_some_iff->dO,bind_eq_some_iff->zM,isSome_iff_exists->aen,map->BP,isNone_some->H7
open Prod renaming fst->ju,mk.injEq->dw,mk.inj->fW
open Go renaming Value->a_,World->cC,TypeId->aX,FuncId->bk,Program->bO,Operand->b9,Frame->fq
open Array renaming getElem?_modify->Ei,toList_setIfInBounds->ac5,toList_map->El,getElem?_toList->Ej,range->xC,getElem?_eq_some_iff->zD,size_append->L',toList_append->Ek,ext'->LY,length_toList->nf,map->L_
set_option linter.unusedSimpArgs false
set_option linter.unusedVariables false
set_option linter.constructorNameAsVariable false
set_option linter.defProp false
namespace Go
def ag{p:Prop}(h:p:=by omega):p:=h
def cB{p:Prop}(h:p:=by simp):p:=h
def aZ{p:Prop}(h:p:=by decide):p:=h
def aAK{p:Prop}(h:p:=by simp;omega):p:=h
def O.{u}{α:Sort u}{a:α}:a=a:=rfl
def aAO{p:Prop}(h:p:=by first|exact trivial|exact rfl):p:=h
def cD{p:Prop}(h:p:=by kernel_rfl):p:=h
def aL.{u}{c:Prop}{h:Decidable c}(q:¬c){α:Sort u}{t e:α}:ite c t e=e:=if_neg q
def aC.{u}{c:Prop}{h:Decidable c}(q:c){α:Sort u}{t e:α}:ite c t e=t:=if_pos q
def cy{p:Prop}[Decidable p](q:p):decide p=aa:=decide_eq_true q
def cR{p:Prop}[Decidable p](q:¬p):decide p=ar:=decide_eq_false q
abbrev kk1:Nat:=1
abbrev kk2:Nat:=2
abbrev kk3:Nat:=3
abbrev kk4:Nat:=4
abbrev kk5:Nat:=5
abbrev kk16:Nat:=16
abbrev kk18:Nat:=18
abbrev kk23:Nat:=23
abbrev kk24:Nat:=24
abbrev kk32:Nat:=32
abbrev kk33:Nat:=33
abbrev kk46:Nat:=46
abbrev kk48:Nat:=48
abbrev kk53:Nat:=53
abbrev kk55:Nat:=55
abbrev kk57:Nat:=57
abbrev kk59:Nat:=59
abbrev kk60:Nat:=60
abbrev kk64:Nat:=64
abbrev kk98:Nat:=98
abbrev kk100:Nat:=100
abbrev kk110:Nat:=110
abbrev kk114:Nat:=114
abbrev kk116:Nat:=116
abbrev kk118:Nat:=118
abbrev kk119:Nat:=119
abbrev kk120:Nat:=120
abbrev kk180:Nat:=180
abbrev kk182:Nat:=182
end Go
section
namespace Go.NT
variable{c g h i j k m n p r u w x:Nat}{a ae s ak y:List Int}{U t:List (List Int)}{b d f:Int}
def eJ:List Nat->Nat
 | []=>0
 |x::l=>x+eJ l
def mZ:List Int->Int
 | []=>1
 |x::l=>x*mZ l
def acy{l m}(h:l.Perm m):eJ l=eJ m:=by
 induction h with
 |nil=>rfl|cons x _ d=>simp only[eJ,d]|swap x y l=>simp only[eJ];omega|trans _ _ e g=>omega
def aqL{l m}(h:l.Perm m):mZ l=mZ m:=by
 induction h with
 |nil=>rfl|cons x _ d=>simp only[mZ,d]|swap x y l=>simp only[mZ];grind
 |trans _ _ e g=>omega
def acx(l m):eJ (l++m)=eJ l+eJ m:=by
 induction l with
 |nil=>simp[eJ]|cons x l d=>simp only[fw,eJ,d];omega
def fK(h:Nat):List Nat:=List.range' 1 h
def ur:k∈fK h↔1<=k/\k<=h:=by
 unfold fK;rw[List.mem_range'];constructor
 .omega
 .rintro⟨d,e⟩;exact⟨k-1,by omega,by omega⟩
def abq(h):fK (h+1)=fK h++[h+1]:=by unfold fK;rw[List.range'_1_concat,Nat.add_comm 1 h]
def Rw(h):F (fK h)=h:=by simp[fK]
def asX(h):(fK h).Nodup:=List.nodup_range' 1
def ap6:∀{l m:List Nat},l.Nodup->(∀x∈l,x∈m)->F m<=F l->l.Perm m:=by
 intro l
 induction l with
 |nil=>simp_all|cons x l s=>intro m d p e;have q:=p x gj;have g:=List.perm_cons_erase q;rw[Tu]at d;refine List.Perm.trans (.cons x (s d.2 (λy u=>?_) ?_)) g.symm<;>grind
def aoR{f:Nat->Nat}:∀{l:List Nat},l.Nodup->(∀x∈l,∀y∈l,f x=f y->x=y)->(l.map f).Nodup:=by
 intro l
 induction l with
 |nil=>simp_all|cons x l d=>
  grind
def fl(a n k:Nat):Nat:=if n<2*(a*k%n) then 1 else 0
def ab(a n k:Nat):Nat:=if n<2*(a*k%n) then n-a*k%n else a*k%n
def mu(a n:Nat):Nat:=eJ ((fK (n/2)).map (fl a n))
section
variable {a b n h:Nat}
def abl(e:nL a n)(d:0<k)(g:k<n):a*k%n≠0:=λp=>by have:n∣k:=(ML e).dvd_of_dvd_mul_left (HQ p);have:=EG d this;omega
def TW(q:n=2*h+1)(d:nL a n)(p:1<=k/\k<=h):1<=ab a n k/\ab a n k<=h:=by
 have e:=abl d (k:=k) ag ag;have g:=ml (a*k) (ag:0<n);unfold ab
 grind
def aes(H:n=2*h+1)(e:nL a n){l:Nat}(C:1<=k/\k<=h)(D:1<=l/\l<=h)(g:ab a n k=ab a n l):k=l:=by
 have u:=ml (a*k) (ag:0<n);have v:=ml (a*l) (ag:0<n);have A:∀{x y:Nat},x<=y->y<n->a*x%n=a*y%n->x=y:=by
  intro x y z L q;have d:n∣a*y-a*x:=HQ (Nat.sub_mod_eq_zero_of_mod_eq q.symm);rw[<-Nat.mul_sub]at d;have:=(ML e).dvd_of_dvd_mul_left d;rcases HR (y-x) with q|q
  .omega
  .have:=EG q this;omega
 have s:a*k%n+a*l%n≠n:=λq=>by
  have d:n∣a*(k+l):=by rw[TA];apply HQ;rw[Tx,q,Nat.mod_self]
  have:=(ML e).dvd_of_dvd_mul_left d;have:=EG ag this;omega
 have same:a*k%n=a*l%n->k=l:=λq=>by rcases Nat.le_total k l with p|p<;>grind
 unfold ab at g
 grind
def QZ(p:n=2*h+1)(g:nL a n):((fK h).map (ab a n)).Perm (fK h):=by refine ap6 (aoR (asX h) λx d y e q=>aes p g (ur.1 d) (ur.1 e) q) (λx d=>?_) cB;obtain⟨y,e,rfl⟩:=iW.1 d;exact ur.2 (TW p g (ur.1 e))
def acB{f g q}:∀{l:List Nat},(∀k∈l,f k%2=(g k+q k)%2)->eJ (l.map f)%2=(eJ (l.map g)+eJ (l.map q))%2:=by
 intro l
 induction l with
 |nil=>intro _;rfl|cons x l p=>intro d;have s:=d x gj;have u:=p λk e=>d k (gi _ e);simp only[dK,eJ];omega
def ajw(u:n=2*h+1)(g:nL a n)(p:nL b n)(s:1<=k/\k<=h):fl (a*b) n k%2=(fl b n k+fl a n (ab b n k))%2:=by
 have C:=TW u p s;have E:=abl g (k:=ab b n k) ag ag;have H:=ml (a*ab b n k) (ag:0<n);have D:=ml (b*k) (ag:0<n);have e:a*b*k%n=a*(b*k%n)%n:=by rw[MO,aee]
 unfold fl;rw[e];by_cases v:n<2*(b*k%n)
 .have d:ab b n k=n-b*k%n:=by unfold ab;simp_all
  rw[aC v];have L:=ml (a*(b*k%n)) (ag:0<n);have z:(a*(b*k%n)%n+a*ab b n k%n)%n=0:=by rw[<-Tx,<-TA,d,(ag:b*k%n+(n-b*k%n)=n),Nat.mul_mod_left]
  have A:a*(b*k%n)%n+a*ab b n k%n=n:=by
   have q:=HQ z;obtain⟨c,N⟩:=q;rcases c with _|_|c
   .omega
   .omega
   .grind
  grind
 .have d:ab b n k=b*k%n:=by unfold ab;grind
  grind
def aoB(e:n=2*h+1)(p:nL a n)(d:nL b n):mu (a*b) n%2=(mu a n+mu b n)%2:=by
 have s:n/2=h:=by omega
 unfold mu;rw[s,acB (g:=fl b n) (q:=λk=>fl a n (ab b n k)) λk u=>ajw e p d (ur.1 u)];have v:(fK h).map (λk=>fl a n (ab b n k))=((fK h).map (ab b n)).map (fl a n):=by rw[tS];rfl
 rw[v,acy ((QZ e d).map (fl a n))];omega
def acz(c):∀m:Nat,eJ ((fK m).map λk=>if c<k then 1 else 0)=m-c:=by
 intro m
 induction m with
 |zero=>simp[fK,eJ]|succ m d=>
  rw[abq,jr,acx,d];simp only[dK,tT,eJ]
  grind
def awx(c):∀m:Nat,eJ ((fK m).map λk=>if k<=c then 1 else 0)=min c m:=by
 intro m
 induction m with
 |zero=>simp[fK,eJ]|succ m d=>
  rw[abq,jr,acx,d];simp only[dK,tT,eJ]
  grind
def Lz{f g}:∀{l:List Nat},(∀k∈l,f k=g k)->eJ (l.map f)=eJ (l.map g):=by
 intro l
 induction l with
 |nil=>simp_all|cons x l e=>intro d;simp only[dK,eJ];simp_all
def aoD(g:n=2*h+1):mu 2 n=h-h/2:=by
 have d:n/2=h:=by omega
 unfold mu;rw[d,<-acz (h/2) h];refine Lz λk e=>?_;have:=ur.1 e;unfold fl;rw[mM ag]
 grind
def aoC(g:n=2*h+1):mu 1 n=0:=by
 have d:n/2=h:=by omega
 unfold mu;rw[d];have:(fK h).map (fl 1 n)=(fK h).map λk=>if h<k then 1 else 0:=by
  apply wh;intro k e;have:=ur.1 e;unfold fl;rw[xT,mM ag]
  grind
 rw[this,acz];omega
def aoA:mu (a%n) n=mu a n:=by unfold mu;refine Lz λk _=>?_;unfold fl;simp_all
def ZS(p:n=2*h+1)(e:nL a n)(d:a%2=1):mu a n%2=eJ ((fK h).map λk=>a*k/n)%2:=by
 have g:n/2=h:=by omega
 have step:∀k∈fK h,fl a n k%2=((a*k/n)+(ab a n k+k))%2:=by
  intro k _;have s:=Ty (a*k) n;have u:=ml (a*k) (ag:0<n);have z:a*k%2=k%2:=by rw[rJ,d];simp
  have A:n*(a*k/n)%2=(a*k/n)%2:=by rw[rJ,(ag:n%2=1)];simp
  generalize n*(a*k/n)=C at *
  generalize a*k/n=E at *
  unfold fl ab;generalize a*k%n=r at *
  grind
 unfold mu;rw[g,acB step];have q:eJ ((fK h).map λk=>ab a n k+k)=eJ ((fK h).map (ab a n))+eJ ((fK h).map λk=>k):=by
  generalize fK h=l
  induction l with
  |nil=>rfl|cons x l v=>simp only[dK,eJ];omega
 rw[q,acy (QZ p e),List.map_id'];omega
end
def ajS(f:Nat->Nat->Nat):∀(l m:List Nat),eJ (l.map λk=>eJ (m.map λj=>f k j))=eJ (m.map λj=>eJ (l.map λk=>f k j)):=by
 intro l m
 induction l with
 |nil=>
  simp only[tT,eJ]
  induction m with
  |nil=>rfl|cons x m d=>simp only[dK,eJ];omega
 |cons x l d=>
  simp only[dK,eJ];rw[d];clear d
  induction m with
  |nil=>rfl|cons y m d=>simp only[dK,eJ];omega
def Wh(p:n=2*h+1)(e:m=2*g+1)(d:k<=h):m*k/n=eJ ((fK g).map λl=>if n*l<=m*k then 1 else 0):=by
 have q:m*k/n<=g:=by
  have:m*k/n<g+1:=by rw[Nat.div_lt_iff_lt_mul ag];have s:m*k<=m*h:=Nat.mul_le_mul_left m d;have u:(g+1)*n=m*h+(g+1+h):=(by subst p e;simp only[jt,TA,nO,xT];have:g*(2*h)=2*g*h:=(by grind);omega);omega
  omega
 have:(fK g).map (λl=>if n*l<=m*k then 1 else 0)=(fK g).map λl=>if l<=m*k/n then 1 else 0:=by
  apply wh;intro l _;have:(n*l<=m*k)↔l<=m*k/n:=by rw[Nat.le_div_iff_mul_le ag,TC]
  simp only[this]
 rw[this,awx];omega
def ani(D:n=2*h+1)(C:m=2*g+1)(N:nL m n):
 eJ ((fK h).map λk=>m*k/n)+eJ ((fK g).map λl=>n*l/m)=h*g:=by
 have E:eJ ((fK h).map λk=>m*k/n)=eJ ((fK h).map λk=>eJ ((fK g).map λl=>if n*l<=m*k then 1 else 0)):=
  Lz λk p=>Wh D C (ur.1 p).2
 have H:eJ ((fK g).map λl=>n*l/m)=eJ ((fK g).map λl=>eJ ((fK h).map λk=>if m*k<=n*l then 1 else 0)):=
  Lz λl q=>Wh C D (ur.1 q).2
 rw[E,H,ajS (λl k=>if m*k<=n*l then 1 else 0)];have one:∀k∈fK h,∀l∈fK g,(if n*l<=m*k then 1 else 0)+(if m*k<=n*l then 1 else 0)=1:=by
  intro k p l q;have p:=ur.1 p;have T:m*k≠n*l:=λX=>by have S:n∣m*k:=⟨l,X⟩;have:=(ML N).dvd_of_dvd_mul_left S;have:=EG ag this;omega
  grind
 have u:∀(k:Nat) (e:List Nat),k∈fK h->(∀l∈e,l∈fK g)->eJ (e.map λl=>if n*l<=m*k then 1 else 0)+eJ (e.map λl=>if m*k<=n*l then 1 else 0)=F e:=by
  intro k e p
  induction e with
  |nil=>intro _;rfl|cons x e z=>intro s;have A:=one k p x (s x gj);have L:=z λl q=>s l (gi _ q);simp only[dK,eJ,eR];omega
 have v:∀(d:List Nat),(∀k∈d,k∈fK h)->eJ (d.map λk=>eJ ((fK g).map λl=>if n*l<=m*k then 1 else 0))+eJ (d.map λk=>eJ ((fK g).map λl=>if m*k<=n*l then 1 else 0))=F d*g:=by
  intro d
  induction d with
  |nil=>intro _;simp[eJ]|cons x d z=>intro s;have A:=u x (fK g) (s x gj) (λ_ h=>h);rw[Rw]at A;have L:=z λl q=>s l (gi _ q);simp only[dK,eJ,eR,jt,xT];omega
 have:=v (fK h) (λ_ h=>h);rw[Rw]at this;omega
def reciprocity(p:n=2*h+1)(e:m=2*g+1)(d:nL m n):(mu m n+mu n m)%2=h*g%2:=by have q:=ZS p d ag;have s:=ZS e d.symm ag;have:=ani p e d;omega
def QQ:∀c:Nat,(1:Int)^c=1:=by
 grind
def wU(p:Nat):Prop:=2<=p/\∀d,d∣p->d=1∨d=p
def wU.coprime(g:wU p)(d:0<k)(s:k<p):Nat.Coprime k p:=by
 have e:Nat.gcd k p∣p:=Nat.gcd_dvd_right k p;rcases g.2 _ e with q|q
 .exact q
 .have:=EG d (Nat.gcd_dvd_left k p);omega
def aqN(a):∀l:List Nat,mZ (l.map λ(k:Nat)=>a*(k:Int))=a^F l*mZ (l.map λ(k:Nat)=>(k:Int)):=by
 intro l
 induction l with
 |nil=>simp_all|cons x l d=>
  simp only[dK,mZ,d,eR,xN]
  grind
def aqO(f)(g):∀l:List Nat,mZ (l.map λk=>(-1)^f k*g k)=(-1)^eJ (l.map f)*mZ (l.map g):=by
 intro l
 induction l with
 |nil=>simp[mZ,eJ]|cons x l d=>
  simp only[dK,mZ,eJ,d,Ti]
  grind
def aqM{p}{f g}:∀{l:List Nat},(∀k∈l,p∣f k-g k)->p∣mZ (l.map f)-mZ (l.map g):=by
 intro l
 induction l with
 |nil=>simp_all|cons x l u=>
  intro h;have e:=h x gj;have q:=u λk s=>h k (gi _ s);simp only[dK,mZ];generalize mZ (l.map f)=d at *
  generalize mZ (l.map g)=G at *
  have v:f x*d-g x*G=(f x-g x)*d+g x*(d-G):=by rw[Tk,HE];omega
  rw[v];exact wc (Int.dvd_mul_of_dvd_left e) (Ep q)
def cancel(u:wU p):∀(l:List Nat) (x:Int),(∀k∈l,0<k/\k<p)->(p:Int)∣x*mZ (l.map λ(k:Nat)=>(k:Int))->(p:Int)∣x:=by
 intro l
 induction l with
 |nil=>intro x _ h;simpa [mZ] using h|cons k l v=>
  intro x d h;obtain⟨g,q⟩:=d k gj;refine v x (λj s=>d j (gi _ s)) ?_;simp only[dK,mZ]at h;rw[Int.mul_left_comm]at h;generalize x*mZ (l.map λ(k:Nat)=>(k:Int))=y at *
  have e:=adj.2 h;rw[Int.natAbs_mul,adk,adk]at e;have:=(u.coprime g q).symm.dvd_of_dvd_mul_left e;exact adj.1 (by simp_all)
def WB{a}(z:wU p)(v:p=2 * h+1)(s:Nat.Coprime a p):(p:Int)∣(a:Int)^h - (-1)^mu a p:=by
 have E:p/2=h:=by omega
 have step:∀k∈fK h,(p:Int)∣(a:Int) * (k:Int) - (-1)^fl a p k * (ab a p k:Int):=by
  intro k _;have C:=Ty (a * k) p;have H:=ml (a * k) (ag:0<p);have d:(a:Int) * (k:Int)=(p:Int) * ((a * k/p:Nat):Int)+((a * k%p:Nat):Int):=by omega
  unfold fl ab;by_cases g:p<2 * (a * k%p)
  .rw[aC g,aC g,d];have A:((p - a * k%p:Nat):Int)=(p:Int) - ((a * k%p:Nat):Int):=(by omega);rw[A];refine⟨((a * k/p:Nat):Int)+1,?_⟩
   grind
  .rw[aL g,aL g,d];refine⟨((a * k/p:Nat):Int),?_⟩;omega
 have e:=aqM step;rw[aqN,aqO,Rw] at e;have q:(fK h).map (λk=>(ab a p k:Int))=((fK h).map (ab a p)).map λ(k:Nat)=>(k:Int):=by rw[tS];rfl
 rw[q,aqL ((QZ v s).map λ(k:Nat)=>(k:Int)),<-Tk] at e;have:=cancel z (fK h) _ (λk u=>by have:=ur.1 u;omega) e;unfold mu;simp_all
def aja{a}(q:wU p)(C:p=2*h+1)(u:0<a)(z:a<p):(a^h%p=1)↔mu a p%2=0:=by
 have d:=WB q C (q.coprime u z);have E:=q.1;have s:((a^h:Nat):Int)=(a:Int)^h:=by simp
 rw[<-s]at d;constructor
 .intro H;rcases Nat.mod_two_eq_zero_or_one (mu a p) with r|r
  .exact r
  .exfalso;have:((-1:Int))^mu a p= -1:=(by obtain⟨c,e⟩:∃c,mu a p=2*c+1:=⟨mu a p/2,by omega⟩;rw[e,xN,Eu];simp[QQ]);rw[this]at d;have g:p∣a^h+1:=(by have v:((a^h:Nat):Int) - -1=((a^h+1:Nat):Int):=(by omega);rw[v]at d;exact Tg.1 d);have:=Nat.mod_eq_zero_of_dvd g;rw[Tx,H]at this;have A:1%p=1:=mM ag;rw[A]at this;have:p∣2:=HQ this;have:=EG ag this;omega
 .intro r;have:((-1:Int))^mu a p=1:=by obtain⟨c,e⟩:∃c,mu a p=2*c:=⟨mu a p/2,by omega⟩;rw[e,Eu];simp[QQ]
  rw[this]at d;have D:0<a^h:=MP u;have g:p∣a^h-1:=by have v:((a^h:Nat):Int)-1=((a^h-1:Nat):Int):=(by omega);rw[v]at d;exact Tg.1 d
  obtain⟨c,e⟩:=g;have:a^h=p*c+1:=by omega
  rw[this,aec,mM ag]
def av6(q:n%2=1)(d:nL (2*x) n):mu (2*x) n%2=(mu x n+(if n%8=3∨n%8=5 then 1 else 0))%2:=by
 have e:n=2*(n/2)+1:=by omega
 have g:nL 2 n:=Nat.Coprime.coprime_mul_right d;have p:nL x n:=Nat.Coprime.coprime_mul_left d;rw[aoB e g p,aoD e]
 grind
def av8(p:n%2=1)(q:x%2=1)(d:nL x n):mu x n%2=(mu (n%x) x+(if x%4=3/\n%4=3 then 1 else 0))%2:=by
 have g:n=2*(n/2)+1:=by omega
 have e:x=2*(x/2)+1:=by omega
 have h:=reciprocity g e d;rw[aoA];have s:(n/2)*(x/2)%2=(if x%4=3/\n%4=3 then 1 else 0):=by
  rw[rJ]
  grind
 omega
def aif(d:nL x n):nL (n%x) x:=by
 unfold nL at *
 rw[<-Nat.gcd_rec,d]
def Dt(p:Nat):Nat->Nat->Bool
 |0,d=>Nat.blt 0 (p%d)
 |k+1,d=>Dt p k d&&Dt p k (d+2^k)
def aoQ:∀{k lo:Nat},Dt p k lo=aa->∀d,lo<=d->d<lo+2^k->p%d≠0:=by
 intro k
 induction k with
 |zero=>
  intro lo h d g e;have:d=lo:=by simp at e;omega
  subst this;unfold Dt at h;have:1<=p%d:=by simpa [Nat.blt] using h
  omega
 |succ k q=>
  intro lo h d g e;unfold Dt at h;rw[bR]at h;rw[zL]at e
  grind
def YW(z:2<=p)(h:Dt p k 2=true)(N:p<(2^k+2) * (2^k+2)):wU p:=by
 refine⟨z,λu A=>?_⟩;obtain⟨v,d⟩:=A;have D:u≠0:=by rintro rfl;simp at d;omega
 have H:v≠0:=by rintro rfl;simp at d;omega
 by_cases E:u=1
 .omega
 by_cases L:v=1
 .simp_all
 exfalso;have s:∀{x y:Nat},p=x * y->2<=x->x<2+2^k->False:=by intro x y g C e;exact aoQ h x C e (by rw[g,Nat.mul_mod_right])
 rcases dR u (2+2^k) with q|q
 .grind
 .rcases dR v (2+2^k) with r|r
  .exact s (by rw[d,TC]) ag r
  .have:=Nat.mul_le_mul q r
   grind
def P:Nat:=2147483579
def Q:Nat:=1073741789
def TM:wU P:=YW (k:=16) aZ (by decide+kernel) aZ
def aeq:wU Q:=YW (k:=15) aZ (by decide+kernel) aZ
def Ct:Nat->Nat->Nat->Nat->Nat->Nat
 |0,_,_,_,c=>c
 |k+1,m,a,n,c=>if n=0 then c else Ct k m (a*a%m) (n/2) (if n%2=1 then c*a%m else c)
def IN(v:0<m):∀{k a n c:Nat},n<2^k->c<m->Ct k m a n c=c*a^n%m:=by
 intro k
 induction k with
 |zero=>
  intro a n c e d;have:n=0:=by simp at e;exact e
  subst this;simp[Ct,mM d]
 |succ k s=>
  intro a n c e d;unfold Ct;by_cases q:n=0
  .subst q;simp[mM d]
  .rw[aL q];have g:n/2<2^k:=(by rw[zL]at e;omega);have p:∀u,(a*a%m)^u%m=a^(2*u)%m:=λu=>(by rw[<-EJ,EK,Nat.pow_two]);split
   .rename_i z;rw[s g (ml _ v),rJ,p,Nat.mod_mod,<-rJ,MO,<-Nat.pow_succ',show(2*(n/2)).succ=n by omega]
   .rename_i z;rw[s g d,rJ,p,<-rJ,(ag:2*(n/2)=n)]
def ru(a n:Nat):Nat:=Ct 31 P a n 1
def Q9{a}(d:n<2^31):ru a n=a^n%P:=by unfold ru;rw[IN aZ d aZ,xT]
def elem(x:Nat):Bool:=decide (1<=x)&&decide (x<P)&&iJ (ru x Q) 1
def elem_iff:elem x=aa↔1<=x/\x<P/\x^Q%P=1:=by unfold elem;rw[Q9 aZ];simp only[bR,decide_eq_true_eq];exact⟨λh=>⟨h.1.1,h.1.2,nM h.2⟩,λh=>⟨⟨h.1,h.2.1⟩,by simp_all⟩⟩
def aiS(e:1<=x)(d:x<P):elem x=decide (mu x P%2=0):=by have:=aja TM (h:=Q) (a:=x) aZ ag d;rw[Bool.eq_iff_iff,elem_iff,decide_eq_true_eq,<-this];omega
def Cp:elem 1=aa:=by rw[elem_iff];exact⟨aZ,by decide,by rw[TH];rfl⟩
def Fb{y}(e:elem x=aa)(g:elem y=aa):elem (x*y%P)=aa:=by
 rw[elem_iff]at *
 obtain⟨p,s,x3⟩:=e;obtain⟨u,v,y3⟩:=g;have d:(x*y%P)^Q%P=1:=by rw[<-EJ,Nat.mul_pow,rJ,x3,y3];rfl
 refine⟨?_,ml _ aZ,d⟩;rcases HR (x*y%P) with q|q
 .rw[q]at d;have:(0:Nat)^Q=0:=Nat.zero_pow aZ;simp_all
 omega
def aiT(d:elem x=aa)(n):elem (x^n%P)=aa:=by
 induction n with
 |zero=>exact Cp|succ n e=>
  have:=Fb e d
  rwa [Nat.mod_mul_mod,<-zL]at this
def aqG(d:elem x=aa)(n):x^(n%Q)%P=x^n%P:=by obtain⟨-,-,h⟩:=elem_iff.1 d;have e:n=Q*(n/Q)+n%Q:=(Ty n Q).symm;rw[show x^n=x^(Q*(n/Q)+n%Q) by rw[<-e],aeg,EK,rJ,EJ (x^Q),h,TH];simp
def Qi:Int:=1073741789
def fmod(n:Int):Int:=n%Qi
def cV(a b:Int):Int:=(fmod a+fmod b)%Qi
def cO(a b:Int):Int:=fmod a*fmod b%Qi
def eK(n:Int):Int:=((Ct 31 Q (fmod n).toNat (Q-2) 1:Nat):Int)
def okF(x:Int):Prop:=0<=x/\x<Qi
def MV:(0:Int)<Qi:=by decide
def zN:Qi=(Q:Int):=rfl
def Cu(n):okF (fmod n):=⟨HC _ aZ,HB _ MV⟩
def Ap{x}(h:okF x):fmod x=x:=Te h.1 h.2
def Ai(a b):cV a b=(a+b)%Qi:=by unfold cV fmod;simp_all
def rR(a b):cO a b=a*b%Qi:=by unfold cO fmod;rw[<-zF]
def IM(a b):okF (cV a b):=⟨HC _ aZ,HB _ MV⟩
def Fi(a b):okF (cO a b):=⟨HC _ aZ,HB _ MV⟩
def yS:okF 0:=by unfold okF;decide
def V5{x}(h:okF x):cV x 0=x:=by rw[Ai,Int.add_zero,<-fmod];exact Ap h
def ajH(n):cO n 0=0:=by rw[rR,Mq];rfl
def ayf(n):cO 0 n=0:=by rw[rR,Mu];rfl
def jj(n x y:Int):Int:=cV x (-(cO n y))
def IU(n x y):jj n x y=(x-n*y)%Qi:=by unfold jj;rw[Ai,rR,<-adq,adp,Es _ (Er _),<-adp]
def ajC(n x y):okF (jj n x y):=IM _ _
def N'{n x}(h:okF x):jj n x 0=x:=by unfold jj;rw[ajH,adn];exact V5 h
def ajE{x y}(h:okF x):jj 0 x y=x:=by unfold jj;rw[ayf,adn];exact V5 h
def ajD(n y):jj (-n) 0 y=cO y n:=by rw[IU,rR,adm,Int.sub_neg,Mt,HD]
def aji{a}(e:wU p)(D:p=2*h+1)(q:0<a)(z:a<p):a^(p-1)%p=1:=by
 have C:=WB e D (e.coprime q z);have H:=e.1;have d:(p:Int)∣(a:Int)^(2*h)-1:=by
  obtain⟨c,s⟩:=C;have u:((-1:Int)^mu a p)*((-1:Int)^mu a p)=1:=by rw[<-Ti,(ag:mu a p+mu a p=2*mu a p),Eu];simp[QQ]
  have v:(a:Int)^(2*h)=(a:Int)^h*(a:Int)^h:=by rw[<-Ti,(ag:2*h=h+h)]
  refine⟨c*((a:Int)^h+(-1)^mu a p),?_⟩;rw[<-Int.mul_assoc,<-s,Tk,Mp,Mp,v,HD ((-1)^mu a p) ((a:Int)^h),u];omega
 rw[(ag:p-1=2*h)];have E:0<a^(2*h):=MP q;have g:((a^(2*h):Nat):Int)=(a:Int)^(2*h):=by simp
 rw[<-g]at d;have A:p∣a^(2*h)-1:=by
  have u:((a^(2*h):Nat):Int)-1=((a^(2*h)-1:Nat):Int):=by omega
  rw[u]at d;exact Tg.1 d
 obtain⟨c,s⟩:=A;have:a^(2*h)=p*c+1:=by omega
 rw[this,aec,mM ag]
def NY(n):okF (eK n):=by unfold eK okF;rw[IN aZ aZ aZ];exact⟨ag,by rw[zN];exact ado.2 (ml _ aZ)⟩
def Ob{x}(h:okF x)(g:x≠0):cO x (eK x)=1:=by
 obtain⟨n,rfl⟩:∃n:Nat,x=n:=⟨x.toNat,by have:=h.1;omega⟩;have e:n<Q:=by have:=h.2;rw[zN]at this;exact ado.1 this
 have d:=aji (h:=536870894) aeq aZ (ag:0<n) e;unfold eK;rw[Ap h,eD,IN aZ aZ aZ,xT,rR,zN,<-xM,<-adl,aee,TC,<-zL,
  (aZ:(Q-2).succ=Q-1),d]
 rfl
def ah(l:List Int)(i:Nat):Int:=l.getD i 0
def ii(n:Int)(a b:List Int):List Int:=ED (jj n) a b
def ua(c:Nat)(a own:List Int):List Int:=if ah a c=0 then a else a.take c++ii (ah a c) (a.drop c) (own.drop c)
def gU(c:Nat)(a:List Int)(n:Int):List Int:=a.take c++(a.drop c).map (cO · n)
def scaleB(a:List Int)(n:Int):List Int:=ii (-n) (bT (F a) 0) a
def nU(t:List (List Int))(r c:Nat):Option Nat:=(bE (F t)).find? λk=>decide (r<=k)&& !(decide (ah (t.getD k []) c=0))
def vW(st:List (List Int) × List Nat)(c:Nat):List (List Int) × List Nat:=
 match nU st.1 (F st.2) c with
 |none=>st
 |some k=>
  let own:=gU c (st.1.getD k []) (eK (ah (st.1.getD k []) c))
  let t1:=(st.1.set k (st.1.getD (F st.2) [])).set (F st.2) own
  (t1.mapIdx λi a=>if i=F st.2 then own else ua c a own,st.2++[c])
def na(st:List (List Int) × List Nat)(c:Nat):List (List Int) × List Nat:=
 match nU st.1 (F st.2) c with
 |none=>st
 |some k=>
  let own:=scaleB (st.1.getD k []) (eK (ah (st.1.getD k []) c))
  let t1:=st.1.set k (st.1.getD (F st.2) [])
  ((t1.map λa=>ii (ah a c) a own).set (F st.2) own,st.2++[c])
def DP(t:List (List Int))(many:Nat):List (List Int) × List Nat:=(bE many).foldl vW (t,[])
def io(t:List (List Int))(many:Nat):List (List Int) × List Nat:=(bE many).foldl na (t,[])
structure uU(w c:Nat)(st:List (List Int) × List Nat):Prop where
 len:∀a∈st.1,a.length=w
 ok:∀a∈st.1,∀x∈a,okF x
 zero:∀i a,st.2.length<=i->st.1[i]?=J a->∀j,j<c->ah a j=0
def fy{l}(h):ah l i=l[i]:=by unfold ah;simp_all
def pT{l}(h:∀x∈l,okF x)(i):okF (ah l i):=by
 unfold ah;rw[fc];rcases dR i (F l) with q|q
 .simp_all
 .rw[pR q];exact yS
def vO{b}(g:F a=F b)(h:∀i,i<F a->ah a i=ah b i):a=b:=by apply HJ g;intro i d e;rw[<-fy d,<-fy e];simp_all
def u_{n}{b}(e:F a=F b)(hi:i<F a):ah (ii n a b) i=jj n (ah a i) (ah b i):=by
 unfold ii;have d:i<F (ED (jj n) a b):=by rw[List.length_zipWith];omega
 rw[fy d,adJ,fy hi,fy ag]
def uq{n}{b}(d:F a=F b):F (ii n a b)=F a:=by unfold ii;simp_all
def BX{x}(d:c<=F a)(i):ah (a.take c++x) i=if i<c then ah a i else ah x (i-c):=by
 unfold ah
 grind
def Ik(a)(c i):ah (a.drop c) i=ah a (c+i):=by unfold ah;simp_all
def ahD{own}(d:F a=F own)(v:c<F a)(p:∀x∈a,okF x)(s:∀j,j<c->ah own j=0):ua c a own=ii (ah a c) a own:=by
 unfold ua;split
 .rename_i h;rw[h];refine(vO (uq d) λi e=>?_).symm;rw[uq d]at e;rw[u_ d e,ajE (pT p i)]
 .have g:F (a.drop c)=F (own.drop c):=by simp[d]
  refine vO ?_ λi e=>?_
  .rw[db,uq g,uq d,dF,fL];omega
  .have q:i<F a:=(by rw[db,uq g,dF,fL]at e;omega);rw[BX ag,u_ d q];split
   .rename_i u;rw[s i u,N' (pT p i)]
   .rename_i u;rw[u_ g (by grind),Ik,Ik,(ag:c+(i-c)=i)]
def Lo{n}(g:c<=F a)(s:∀j,j<c->ah a j=0):gU c a n=scaleB a n:=by
 unfold gU scaleB;have d:F (bT a.length (0:Int))=F a:=by simp
 refine vO ?_ λi p=>?_
 .rw[uq d,db,bI,dF,fL,d];omega
 .have u:i<F a:=by rw[db,bI,dF,fL]at p;omega
  have e:ah (bT (F a) (0:Int)) i=0:=by rw[fy ag];simp
  rw[BX g,u_ d ag,e,ajD];split
  .rename_i v;rw[s i v,rR,Mu];rfl
  .rename_i v;have q:i-c<F ((a.drop c).map (cO · n)):=(by rw[bI,fL];omega);rw[fy q,rG,MD,<-fy (ag:c+(i-c)<F a),(ag:c+(i-c)=i)]
def Al(h:nU t r c=J k):k<F t/\r<=k/\ah (t.getD k []) c≠0:=by
 unfold nU at h
 grind
def V9(h:nU t r c=ao)(d:k<F t)(e:r<=k):ah (t.getD k []) c=0:=by unfold nU at h;simp_all
def mS(d):t.getD k []=t[k]:=by simp_all
section
variable {w c:Nat} {st:List (List Int) × List Nat}
structure Own(w c:Nat)(own:List Int):Prop where
 len:own.length=w
 ok:∀x∈own,okF x
 zero:∀j,j<c->ah own j=0
 one:ah own c=1
def Kn(z:F a=w)(v:c<w)(g:∀x∈a,okF x)(A:∀j,j<c->ah a j=0)(e:ah a c≠0):Own w c (gU c a (eK (ah a c))):=by
 refine⟨?_,?_,?_,?_⟩
 .unfold gU;grind
 .intro x d;unfold gU at d;rcases uQ.1 d with q|q
  .grind
  .obtain⟨y,-,rfl⟩:=iW.1 q;exact Fi _ _
 .intro j p;unfold gU;rw[BX ag,aC p];simp_all
 .unfold gU;rw[BX ag,aL ag];have s:c-c<F ((a.drop c).map (cO · (eK (ah a c)))):=by rw[bI,fL];omega
  rw[fy s,rG,MD];have u:a[c+(c-c)]' ag=ah a c:=by rw[fy ag];congr 1;omega
  rw[u];exact Ob (pT g c) e
def acg(R:uU w c st)(q:c<w):vW st c=na st c:=by
 unfold vW na;cases z:nU st.1 (F st.2) c with
 |none=>rfl|some k=>
  obtain⟨d,C,u⟩:=Al z;rw[mS d]at u;have A:=R.len _ (jG d);have s:=R.ok _ (jG d);have e:=R.zero k _ C (aW d);simp only[mS d];have E:=Kn A q s e u;rw[<-Lo ag e];generalize gU c st.1[k] (eK (ah st.1[k] c))=own at *
  congr 1;apply HJ
  .simp
  .intro i v L;rw[List.getElem_mapIdx];by_cases g:i=F st.2
   .simp_all
   .rw[aL g,Tr (λD=>g D.symm),Tr (λD=>g D.symm),rG];have H:i<F st.1:=(by simpa using v);have p:(st.1.set k (st.1.getD (F st.2) []))[i]'(by simp_all)∈st.1:=by
     rw[EA];split
     .grind
     .simp_all
    exact ahD ((R.len _ p).trans E.len.symm) (by rw[R.len _ p];exact q) (R.ok _ p) E.zero
def Lu(R:uU w c st)(T:c<w):uU w (c+1) (na st c):=by
 unfold na;cases D:nU st.1 (F st.2) c with
 |none=>
  refine⟨R.len,R.ok,λi a u d j v=>?_⟩;rcases dR j c with q|q
  .exact R.zero i a u d j q
  .have:j=c:=(by omega);subst this;have g:=(aU.1 d).1;have:=V9 D g u;simp_all
 |some k=>
  obtain⟨p,Y,N⟩:=Al D;rw[mS p]at N;have X:=R.len _ (jG p);have E:=R.ok _ (jG p);have z:=R.zero k _ Y (aW p);simp only[mS p];have C:=Kn X T E z N;rw[<-Lo ag z];generalize gU c st.1[k] (eK (ah st.1[k] c))=own at *
  have A:F st.2<F st.1:=by omega
  have e:∀a∈st.1.set k (st.1.getD (F st.2) []),a∈st.1:=λa d=>by
   grind
  refine⟨λa d=>?_,λa d=>?_,λi a u d j v=>?_⟩
  .rcases wm d with q|q
   .obtain⟨b,s,rfl⟩:=iW.1 q;have:=R.len _ (e b s);rw[uq (this.trans C.len.symm)];omega
   .rw[q];exact C.len
  .rcases wm d with q|q
   .obtain⟨b,s,rfl⟩:=iW.1 q;intro x L;unfold ii at L;obtain⟨i,h1,rfl⟩:=zK.1 L;rw[adJ];exact ajC _ _ _
   .rw[q];exact C.ok
  .simp only[db,List.length_singleton]at u;have H:F st.2≠i:=(by omega);rw[MB H,ek]at d;have g:i<F st.1:=by
    rcases dR i (F st.1) with q|q
    .exact q
    .simp_all
   rw[aW (by simp_all),gq,eo]at d;have s:∃b,(st.1.set k (st.1.getD (F st.2) []))[i]'(by simp_all)=b/\F b=w/\(∀x∈b,okF x)/\∀j,j<c->ah b j=0:=by
    refine⟨_,O,R.len _ (e _ (jG _)),R.ok _ (e _ (jG _)),λj v=>?_⟩;rw[EA];split
    .rw[mS A];exact R.zero (F st.2) _ (aT _) (aW A) j v
    .exact R.zero i _ ag (aW g) j v
   obtain⟨b,z0,S,Z,b3⟩:=s;rw[z0]at d;subst d;rw[u_ (S.trans C.len.symm) ag];rcases dR j c with q|q
   .rw[b3 j q,C.zero j q,N' yS]
   .have:j=c:=(by omega);subst this;rw[C.one,IU,Tf,Ms];rfl
end
def arF{many}(g:∀a∈t,F a=w)(p:∀a∈t,∀x∈a,okF x)(v:many<=w):DP t many=io t many:=by
 unfold DP io;have s:∀n,n<=w->(bE n).foldl vW (t,[])=(bE n).foldl na (t,[])/\uU w n ((bE n).foldl na (t,[])):=by
  intro n
  induction n with
  |zero=>intro _;exact⟨O,g,p,λ_ _ _ _ j u=>by omega⟩|succ n q=>intro z;obtain⟨e,d⟩:=q ag;rw[jH,nJ,nJ,e];simp only[zJ,Ey];exact⟨acg d ag,Lu d ag⟩
 simp_all
def cI:List Int->Int
 | []=>0
 |x::l=>x+cI l
def acu(l m):cI (l++m)=cI l+cI m:=by
 induction l with
 |nil=>simp[cI]|cons x l d=>simp only[fw,cI,d];omega
def dot(y row:List Int):Int:=cI ((bE (F y)).map λi=>ah y i*ah row i)
def res(y row:List Int):Int:=dot y row-ah row (F y)
def Sat(y row:List Int):Prop:=Qi∣res y row
def awy{f g q}{n}:∀{l:List Nat},(∀i∈l,Qi∣f i-(g i-n*q i))->Qi∣cI (l.map f)-(cI (l.map g)-n*cI (l.map q)):=by
 intro l
 induction l with
 |nil=>intro _;simp[cI]|cons x l s=>
  intro h;have d:=h x gj;have e:=s λi p=>h i (gi _ p);simp only[dK,cI,Mp];have u:f x+cI (l.map f)-(g x+cI (l.map g)-(n*q x+n*cI (l.map q)))=(f x-(g x-n*q x))+(cI (l.map f)-(cI (l.map g)-n*cI (l.map q))):=by omega
  rw[u];exact wc d e
def Wg(n x y):Qi∣jj n x y-(x-n*y):=by
 rw[IU];have:=ade (x-n*y) Qi;refine⟨-((x-n*y)/Qi),?_⟩
 grind
def abn{n}{b}(e:F a=F b)(q:F y<F a):Qi∣res y (ii n a b)-(res y a-n*res y b):=by
 have g:Qi∣dot y (ii n a b)-(dot y a-n*dot y b):=by
  unfold dot;refine awy λi d=>?_;have d:=gb.1 d;rw[u_ e ag];obtain⟨c,u⟩:=Wg n (ah a i) (ah b i);refine⟨ah y i*c,?_⟩;have:ah y i*jj n (ah a i) (ah b i)-(ah y i*ah a i-n*(ah y i*ah b i))=ah y i*(jj n (ah a i) (ah b i)-(ah a i-n*ah b i)):=by
   grind
  grind
 have p:Qi∣ah (ii n a b) (F y)-(ah a (F y)-n*ah b (F y)):=by rw[u_ e q];exact Wg _ _ _
 unfold res;have s:dot y (ii n a b)-ah (ii n a b) (F y)-(dot y a-ah a (F y)-n*(dot y b-ah b (F y)))=(dot y (ii n a b)-(dot y a-n*dot y b))-(ah (ii n a b) (F y)-(ah a (F y)-n*ah b (F y))):=by rw[HE];omega
 rw[s];exact Td g p
def auO{n}{b}(p:F a=F b)(q:F y<F a)(d:Sat y (ii n a b))(e:Sat y b):Sat y a:=by
 unfold Sat at *
 have g:=abn (n:=n) p q;have s:res y a=res y (ii n a b)-(res y (ii n a b)-(res y a-n*res y b))+n*res y b:=by omega
 rw[s];exact wc (Td d g) (Ep e)
def arP(y)(n):res y (bT n 0)=0:=by
 have d:∀i,ah (bT n (0:Int)) i=0:=λi=>by
  unfold ah
  grind
 unfold res dot;simp only[d,Mq];generalize bE (F y)=l
 induction l with
 |nil=>rfl|cons x l e=>simp only[dK,cI];omega
def auP{x}(C:F y<F a)(s:okF x)(e:x≠0)(h:Sat y (scaleB a (eK x))):Sat y a:=by
 unfold Sat scaleB at *
 have d:=abn (n:= -(eK x)) (y:=y) (a:=bT (F a) (0:Int)) (b:=a) cB (by simp_all);rw[arP]at d;have g:Qi∣eK x*res y a:=by
  have v:eK x*res y a=res y (ii (-(eK x)) (bT (F a) 0) a)-(res y (ii (-(eK x)) (bT (F a) 0) a)-(0 - -(eK x)*res y a)):=by rw[adm];omega
  rw[v];exact Td h d
 have p:Qi∣x*eK x-1:=by have:=Ob s e;rw[rR]at this;have q:=ade (x*eK x) Qi;rw[this]at q;exact⟨x*eK x/Qi,by omega⟩
 obtain⟨c,z⟩:=g;obtain⟨u,A⟩:=p;refine⟨x*c-u*res y a,?_⟩
 grind
section
variable {w c:Nat} {st:List (List Int) × List Nat}
def awd(R:uU w c st)(S:c<w)(Z:F y<w)(h:∀a∈(na st c).1,Sat y a):∀a∈st.1,Sat y a:=by
 unfold na at h;cases q:nU st.1 (F st.2) c with
 |none=>simp_all|some k=>
  rw[q]at h;obtain⟨d,X,p⟩:=Al q;rw[mS d]at p;simp only[mS d]at h;have T:=R.len _ (jG d);have e:=R.ok _ (jG d);have g:=R.zero k _ X (aW d);have Y:=Kn T S e g p;have D:F st.2<F st.1:=by omega
  have H:=Lo (n:=eK (ah st.1[k] c)) (ag:c<=F st.1[k]) g;rw[mS D]at h;have A:Sat y (scaleB st.1[k] (eK (ah st.1[k] c))):=h _ (zK.2 ⟨F st.2,by simp_all,by simp_all⟩);have C:∀i (s:i<F st.1),i≠F st.2->Sat y ((st.1.set k st.1[st.2.length])[i]'(by simp_all)):=λi s z=>by
   have u:=h ((((st.1.set k st.1[st.2.length]).map λa=>ii (ah a c) a (scaleB st.1[k] (eK (ah st.1[k] c)))).set (F st.2) (scaleB st.1[k] (eK (ah st.1[k] c))))[i]'(by simp_all)) (jG _);rw[Tr (λz0=>z z0.symm),rG]at u;have v:F ((st.1.set k st.1[st.2.length])[i]'(by simp_all))=w:=by
    rw[EA];split
    .exact R.len _ (jG _)
    .exact R.len _ (jG _)
   refine auO ?_ ag u A;rw[v,<-H,Y.len]
  intro a N;obtain⟨i,s,rfl⟩:=zK.1 N;by_cases L:i=k
  .subst L;exact auP ag (pT e c) p A
  grind
end
structure BQ(c:Nat)(st:List (List Int) × List Nat):Prop where
 lt:∀k p:Nat,st.2[k]?=J p->p<c
 inc:∀j k p q:Nat,j<k->st.2[j]?=J p->st.2[k]?=J q->p<q
 val:∀k p:Nat,st.2[k]?=J p->∀(i:Nat) (a:List Int),st.1[i]?=J a->ah a p=if i=k then 1 else 0
 len:st.2.length<=st.1.length
section
variable {w c:Nat} {st:List (List Int) × List Nat}
def av9(R:uU w c st)(p:BQ c st)(D:c<w):BQ (c+1) (na st c):=by
 unfold na;cases Y:nU st.1 (F st.2) c with
 |none=>exact⟨λk e h=>by have:=p.lt k e h;omega,p.inc,p.val,p.len⟩
 |some k=>
  obtain⟨q,k2,L⟩:=Al Y;rw[mS q]at L;have Z:=R.len _ (jG q);have H:=R.ok _ (jG q);have u:=R.zero k _ k2 (aW q);simp only[mS q];have C:=Kn Z D H u L;have v:F st.2<F st.1:=by omega
  rw[<-Lo ag u,mS v];generalize gU c st.1[k] (eK (ah st.1[k] c))=own at *
  refine⟨λj e h=>?_,λj l e z0 s d A=>?_,λj e d i a g=>?_,?_⟩
  .rcases Ar h with h|⟨-,rfl⟩
   .have:=p.lt j e h;omega
   .omega
  .rcases Ar A with A|⟨rfl,rfl⟩
   .rcases Ar d with d|⟨rfl,-⟩
    .exact p.inc j l e z0 s d A
    grind
   .rcases Ar d with d|⟨rfl,-⟩
    .exact p.lt j e d
    .omega
  .-- the row at i
   have E:i<F st.1:=(by have:=(aU.1 g).1;simpa using this);by_cases z:i=F st.2
   .subst z;rw[aW (by simp_all),List.getElem_set_self,eo]at g;subst g;rcases Ar d with d|⟨rfl,rfl⟩
    .have T:=p.lt j e d;have h2:=(aU.1 d).1;rw[C.zero e T,aL ag]
    .rw[C.one,aC O]
   .rw[MB (λz0=>z z0.symm),ek,aW (by simp_all),gq,eo]at g;have X:∃b,(st.1.set k st.1[st.2.length])[i]'(by simp_all)=b/\F b=w/\(∀x∈b,okF x)/\∀j e,st.2[j]?=J e->ah b e=if i=j then 1 else 0:=by
     refine⟨_,O,?_,?_,λj e d=>?_⟩
     .rw[EA];split<;>exact R.len _ (jG _)
     .rw[EA];split<;>exact R.ok _ (jG _)
     .rw[EA];have s:=(aU.1 d).1;split
      .rename_i z1;rw[p.val j e d (F st.2) _ (aW v),aL ag,aL ag]
      .exact p.val j e d i _ (aW E)
    obtain⟨b,z1,N,S,b3⟩:=X;rw[z1]at g;subst g;have CY:e<w:=by
     rcases Ar d with h|⟨-,rfl⟩
     .have:=p.lt j e h;omega
     .exact D
    rw[u_ (N.trans C.len.symm) ag];rcases Ar d with d|⟨rfl,rfl⟩
    .rw[C.zero e (p.lt j e d),N' (pT S e)]
     grind
    .rw[C.one,IU,Tf,Ms,aL z];rfl
  grind
where
 Ar {l:List Nat} {x i y:Nat} (h:(l++[x])[i]?=J y):l[i]?=J y∨(i=F l/\y=x):=by
  grind
end
def GC{many}(g:∀a∈t,F a=w)(p:∀a∈t,∀x∈a,okF x)(v:many<=w):uU w many (io t many)/\BQ many (io t many):=by
 unfold io
 induction many with
 |zero=>exact⟨⟨g,p,λ_ _ _ _ j u=>by omega⟩,⟨λk s h=>by grind,λj k s z _ h=>by grind,λk s h=>by grind,ck _⟩⟩|succ n q=>obtain⟨d,e⟩:=q ag;rw[jH,nJ];simp only[zJ,Ey];exact⟨Lu d ag,av9 d e ag⟩
def arG{many}(e:∀a∈t,F a=w)(g:∀a∈t,∀x∈a,okF x)(u:many<=w)(p:F y<w)(h:∀a∈(io t many).1,Sat y a):∀a∈t,Sat y a:=by
 induction many with
 |zero=>exact h|succ n q=>
  refine q ag ?_;have d:=(GC e g (ag:n<=w)).1;have s:io t (n+1)=na (io t n) n:=by unfold io;rw[jH,nJ];rfl
  rw[s]at h;exact awd d ag p h
def oU(st:List (List Int) × List Nat)(n:Nat):List Int:=st.2.zipIdx.foldl (λy d=>y.set d.1 (ah (st.1.getD d.2 []) n)) (bT n 0)
def Il{l}{x}(hi:i<F l):ah (l.set i x) j=if j=i then x else ah l j:=by
 unfold ah
 grind
def Fj(f:Nat × Nat->Int):∀(l:List (Nat × Nat)) (y:List Int),F (l.foldl (λy p=>y.set p.1 (f p)) y)=F y:=by
 intro l
 induction l with
 |nil=>simp_all|cons p l d=>simp_all
def IW(f:Nat × Nat->Int):∀(l:List (Nat × Nat)) (y:List Int),(∀p∈l,p.1≠i)->ah (l.foldl (λy p=>y.set p.1 (f p)) y) i=ah y i:=by
 intro l
 induction l with
 |nil=>simp_all|cons p l e=>intro y h;rw[zJ,e _ λg d=>h g (gi _ d)];have:=h p gj;unfold ah;simp_all
def Lq(st)(n):F (oU st n)=n:=by unfold oU;rw[Fj (λd=>ah (st.1.getD d.2 []) n)];simp
def avx{st}(h:i∉st.2):ah (oU st n) i=0:=by
 unfold oU;rw[IW (λd=>ah (st.1.getD d.2 []) n) _ _ λd e g=>?_]
 .unfold ah
  grind
 grind
def avz{st}(z:BQ c st)(C:c<=n)(h:st.2[k]?=J p):ah (oU st n) p=ah (st.1.getD k []) n:=by
 unfold oU;obtain⟨q,s⟩:=aU.1 h;have v:st.2.zipIdx=(st.2.zipIdx.take k)++(p,k)::(st.2.zipIdx.drop (k+1)):=by
  have e:k<F st.2.zipIdx:=by simpa using q
  have:=(List.take_append_drop k st.2.zipIdx).symm;rw[List.drop_eq_getElem_cons e]at this;rw[adI,s]at this;simpa using this
 rw[v,nJ,zJ,IW (λp=>ah (st.1.getD p.2 []) n) _ _ λD u A=>?_]
 .rw[Il,aC O];rw[Fj (λp=>ah (st.1.getD p.2 []) n)];have:=z.lt k p h
  grind
 .obtain⟨i,g,rfl⟩:=zK.1 u;rw[MD,adI]at A;simp only at A;have d:k+1+i<F st.2:=by simp at g;omega
  have:=z.inc k (k+1+i) p _ ag h (aW d);omega
def acA{f}:∀n,p<n->(∀i,i<n->i≠p->f i=0)->cI ((List.range n).map f)=f p:=by
 intro n
 induction n with
 |zero=>omega|succ n v=>
  intro s h;rw[jH,jr,acu];simp only[dK,tT,cI];rcases dR p n with q|q
  .grind
  .have:p=n:=(by omega);subst this;have u:cI ((bE p).map f)=0:=by
    have:∀l:List Nat,(∀i∈l,f i=0)->cI (l.map f)=0:=by
     intro l
     induction l with
     |nil=>intro _;rfl|cons x l d=>intro g;simp only[dK,cI];simp_all
    exact this _ λi e=>h i (by grind) (by grind)
   omega
def avy(v:∀a∈t,F a=n+1)(D:∀a∈t,∀x∈a,okF x)(e:∀i a,F (io t n).2<=i->(io t n).1[i]?=J a->ah a n=0):
 ∀a∈t,Sat (oU (io t n) n) a:=by
 obtain⟨R,E⟩:=GC v D (ag:n<=n+1);refine arG v D (ag:n<=n+1) (by rw[Lq];omega) λa H=>?_;obtain⟨k,u,rfl⟩:=zK.1 H;have d:=aW u;unfold Sat res dot;rw[Lq];rcases dR k (F (io t n).2) with q|q
 .have g:=aW q;have z:=E.lt k _ g;rw[acA (p:=(io t n).2[k]) n z,avz E (aT _) g,E.val k _ g k _ d,aC O,mS u,Tf,Ms]
  .simp_all
  .intro i s C;by_cases A:i∈(io t n).2
   .obtain⟨j,L,rfl⟩:=zK.1 A;rw[E.val j _ (aW L) k _ d,aL (λT=>C (by simp_all)),Mq]
   .rw[avx A,Mu]
 .rw[e k _ q d];have S:∀l:List Nat,(∀i∈l,i<n)->cI (l.map λi=>ah (oU (io t n) n) i*ah (io t n).1[k] i)=0:=by
   intro l
   induction l with
   |nil=>intro _;rfl|cons x l N=>intro h;simp only[dK,cI];rw[R.zero k _ q d x (h x gj),Mq,N λi s=>h i (gi _ s)];rfl
  simp_all
abbrev fx:=BitVec 32
def fO(x:fx)(n:Nat):fx:=(x>>>n)|||(x<<<(32-n))
def Dh:List Nat:=[
 0x428a2f98,0x71374491,0xb5c0fbcf,0xe9b5dba5,0x3956c25b,0x59f111f1,0x923f82a4,0xab1c5ed5,
 0xd807aa98,0x12835b01,0x243185be,0x550c7dc3,0x72be5d74,0x80deb1fe,0x9bdc06a7,0xc19bf174,
 0xe49b69c1,0xefbe4786,0x0fc19dc6,0x240ca1cc,0x2de92c6f,0x4a7484aa,0x5cb0a9dc,0x76f988da,
 0x983e5152,0xa831c66d,0xb00327c8,0xbf597fc7,0xc6e00bf3,0xd5a79147,0x06ca6351,0x14292967,
 0x27b70a85,0x2e1b2138,0x4d2c6dfc,0x53380d13,0x650a7354,0x766a0abb,0x81c2c92e,0x92722c85,
 0xa2bfe8a1,0xa81a664b,0xc24b8b70,0xc76c51a3,0xd192e819,0xd6990624,0xf40e3585,0x106aa070,
 0x19a4c116,0x1e376c08,0x2748774c,0x34b0bcb5,0x391c0cb3,0x4ed8aa4a,0x5b9cca4f,0x682e6ff3,
 0x748f82ee,0x78a5636f,0x84c87814,0x8cc70208,0x90befffa,0xa4506ceb,0xbef9a3f7,0xc67178f2]
def Dg(t:Nat):fx:=BitVec.ofNat 32 (Dh.getD t 0)
def start:List fx:=[0x6a09e667#32,0xbb67ae85#32,0x3c6ef372#32,0xa54ff53a#32,0x510e527f#32,0x9b05688c#32,0x1f83d9ab#32,0x5be0cd19#32]
def eS(b:List UInt8)(i:Nat):UInt8:=b.getD i 0
def fm(w:List fx)(i:Nat):fx:=w.getD i 0#32
def xy(b:List UInt8)(i:Nat):fx:=BitVec.ofNat 32 (((eS b i).toNat*256+(eS b (i+1)).toNat)*256*256+(eS b (i+2)).toNat*256+(eS b (i+3)).toNat)
def Kd(w:List fx)(t:Nat):fx:=
 fm w (t-16)+(fO (fm w (t-15)) 7^^^fO (fm w (t-15)) 18^^^(fm w (t-15))>>>3)+fm w (t-7)+(fO (fm w (t-2)) 17^^^fO (fm w (t-2)) 19^^^(fm w (t-2))>>>10)
def me(b:List UInt8):Nat->List fx
 |0=>[]
 |n+1=>me b n++[if n<16 then xy b (4*n) else Kd (me b n) n]
def KK(w:List fx)(v:List fx)(t:Nat):List fx:=
 let d:=fm v 4
 let a:=fm v 0
 let e:=fm v 7+(fO d 6^^^fO d 11^^^fO d 25)+((d&&&fm v 5)^^^(~~~d&&&fm v 6))+Dg t+fm w t
 let g:=(fO a 2^^^fO a 13^^^fO a 22)+((a&&&fm v 1)^^^(a&&&fm v 2)^^^(fm v 1&&&fm v 2))
 [e+g,a,fm v 1,fm v 2,fm v 3+e,d,fm v 5,fm v 6]
def zY(s:List fx)(b:List UInt8):List fx:=
 let w:=me b 64
 let d:=(bE 64).foldl (KK w) s
 ED (·+·) s d
def S3(n:Nat):Nat:=(119-n%64)%64
def Dk(n:Nat):List UInt8:=(bE 8).map λi=>UInt8.ofNat (n*8/2^(8*(7-i)))
def Ko(b:List UInt8):List UInt8:=b++0x80::bT (S3 (F b)) 0++Dk (F b)
def iX:Nat->List fx->List UInt8->List fx
 |0,d,_=>d
 |n+1,d,b=>iX n (zY d (b.take 64)) (b.drop 64)
def rn(s:List fx):List UInt8:=s.flatMap λx=>[UInt8.ofNat (x.toNat/16777216),UInt8.ofNat (x.toNat/65536),UInt8.ofNat (x.toNat/256),UInt8.ofNat x.toNat]
def mH(b:List UInt8):List UInt8:=rn (iX (F (Ko b)/64) start (Ko b))
def mg(d b:List UInt8):List UInt8:=mH (mH d++b)
def ahs(e f g:fx):g^^^(e&&&(f^^^g))=(e&&&f)^^^(~~~e&&&g):=by apply BitVec.eq_of_getLsbD_eq;intro i d;simp only[BitVec.getLsbD_xor,BitVec.getLsbD_and,BitVec.getLsbD_not,d,decide_true,pP];cases e.getLsbD i<;>cases f.getLsbD i<;>cases g.getLsbD i<;>rfl
def aoi(a b c:fx):(a&&&b)|||(c&&&(a|||b))=(a&&&b)^^^(a&&&c)^^^(b&&&c):=by apply BitVec.eq_of_getLsbD_eq;intro i d;simp only[BitVec.getLsbD_xor,BitVec.getLsbD_and,BitVec.getLsbD_or];cases a.getLsbD i<;>cases b.getLsbD i<;>cases c.getLsbD i<;>rfl
inductive Vl where
 |int (n:Int)
 |aq (s:List UInt8)
 |ac (l:List Vl)
def fN:Nat->Nat->List UInt8
 |0,d=>[UInt8.ofNat d]
 |k+1,d=>if d<128 then [UInt8.ofNat d] else UInt8.ofNat (d%128+128)::fN k (d/128)
def iB(n:Int):Nat:=if 0<=n then 2*n.toNat else 2*(-(n+1)).toNat+1
mutual
def cr:Vl->List UInt8
 | .int n=>1::fN 9 (iB n)
 | .aq d=>2::(fN 9 (F d)++d)
 | .ac l=>3::(fN 9 (F l)++gM l)
def gM:List Vl->List UInt8
 | []=>[]
 |v::l=>cr v++gM l
end
mutual
def gc:Vl->Nat
 | .ac l=>gF l+1
 |_=>0
def gF:List Vl->Nat
 | []=>0
 |v::l=>max (gc v) (gF l)
end
def VT(l m):gM (l++m)=gM l++gM m:=by
 induction l with
 |nil=>simp[gM]|cons e l d=>simp only[fw,gM,d,jq]
def aab(h:128<=u):fN (k+1) u=UInt8.ofNat (u%128+128)::fN k (u/128):=by rw[fN,aL ag]
def aaa(h:u<128):fN k u=[UInt8.ofNat u]:=by
 cases k with|zero=>rfl|succ k=>rw[fN,aC h]
def cA(n:Int):Bool:=decide (0<=n)&&decide (n<Qi)
def cE(U:List (List Int))(ae:List Int):Int:=
 if decide (64<F U)||U.any (λr=>decide (64<F r)) then 2
 else if F U≠F ae then 230
 else if (bE (F U)).all λi=> !(U.getD i []).isEmpty&&decide (F (U.getD i [])=F (U.getD 0 []))&&(decide (0<=ah ae i)&&decide (ah ae i<=63))&&(U.getD i []).all cA then 0
 else 230
def b7(U:List (List Int)):Nat:=if F U=0 then 1 else F (U.getD 0 [])
def fT(n:Nat):List Int:=1::bT (n-1) 0
def dD:Int->List Int->Bool
 |_,[]=>aa
 |last,n::l=>decide (last<n)&&decide (n<=63)&&dD n l
def ey(ae ak:List Int):List Nat:=(bE (F ae)).filter λi=>ak.contains (ah ae i)
def fU(U:List (List Int))(target:List Int):List (List Int):=(bE (F target)).map λk=>U.map (λr=>ah r k)++[ah target k]
def pi(U:List (List Int))(target:List Int):Option (List Int):=
 let st:=io (fU U target) (F U)
 if (st.1.drop (F st.2)).all (λa=>decide (ah a (F U)=0)) then J (oU st (F U)) else ao
def qH(n:Nat)(d:List Nat)(l:List Int):List Int:=d.zipIdx.foldl (λy e=>y.set e.1 (ah l e.2)) (bT n 0)
def fg(U:List (List Int))(ae ak:List Int):List Int × Bool × Int:=
 if cE U ae≠0 then ([],ar,cE U ae)
 else if !dD (-1) ak then ([],ar,1)
 else match pi ((ey ae ak).map λi=>U.getD i []) (fT (b7 U)) with
  |none=>([],ar,0)
  |some l=>(qH (F U) (ey ae ak) l,aa,0)
structure Pr where
 bC:Int
 no:Int
 d:Int
 e:Int
variable{l:List Pr}
def b8(x:Int):Bool:=decide (1<=x)&&elem x.toNat
def Pr.val(p:Pr):Vl:=.ac [.int p.bC,.int p.no,.int p.d,.int p.e]
def DE(l:List Pr):Vl:=.ac (l.map Pr.val)
def q_(b:List UInt8):Nat:=((b.take 8).foldl (λn c=>n*256+c.toNat) 0%9223372036854775808)%Q
def rX(d:List UInt8)(v:Vl):Nat:=q_ (mg d (cr v))
def Lk:List UInt8:=[98,105,110,100]
def Bo:List UInt8:=[115,105,103,110]
def gK(c0:Int)(aq:List UInt8)(l:List Pr)(d:Int):Nat:=rX Lk (.ac [.int c0,.aq aq,DE l,.int d])
def qx(c0:Int)(aq:List UInt8)(l:List Pr)(p:Pr):Nat:=p.d.toNat*ru p.e.toNat (gK c0 aq l p.bC)%P
def jz(c0:Int)(aq:List UInt8)(l:List Pr):Nat:=l.foldl (λx d=>x*qx c0 aq l d%P) 1
def zt(d e:Int)(aq:List UInt8):Nat:=rX Bo (.ac [.int d,.int e,.aq aq])
def jY:Int->List Pr->Bool
 |_,[]=>aa
 |last,x::l=>decide (last<x.bC)&&decide (x.bC<64)&&decide (0<=x.no)&&decide (x.no<4096)&&b8 x.d&&b8 x.e&&jY x.bC l
def dA(U:List (List Int))(ae:List Int)(e:Int)(d:List Int)(aq:List UInt8)(l:List Pr):Int:=
 if cE U ae≠0 then cE U ae
 else if !(decide (0<=e)&&decide (e<=64)&&decide (F d=b7 U)&&d.all b8) then 380
 else if 65536<F aq then 2
 else if 64<F l then 420
 else if !jY (-1) l then 420
 else match fg U ae (l.map Pr.bC) with
  |(_,ok,g)=>if g≠0∨ok=ar∨F l=0 then 420 else 0
def bZ(x:Nat)(n:Int):Nat:=ru x (fmod n).toNat
def Oa(n):(fmod n).toNat<Q:=by have:=Cu n;obtain⟨e,d⟩:=this;rw[zN]at d;omega
def xe(x)(n):bZ x n=x^(fmod n).toNat%P:=Q9 (Nat.lt_trans (Oa n) aZ)
def aaP(d:elem x=aa)(n:Nat):bZ x (n:Int)=x^n%P:=by
 have e:(fmod (n:Int)).toNat=n%Q:=by unfold fmod;rw[zN,<-adl,eD]
 rw[xe,e,aqG d]
def aqA(x)(n):bZ x (fmod n)=bZ x n:=by unfold bZ;rw[Ap (Cu n)]
def y9(d:elem x=aa)(n):elem (bZ x n)=aa:=by rw[xe];exact aiT d _
def Gv{a}(h:a%Qi=b%Qi):bZ x a=bZ x b:=by unfold bZ fmod;rw[h]
def Aq(n):((fmod n).toNat:Int)=fmod n:=by have:=(Cu n).1;omega
def DH(d:elem x=aa)(a b):bZ x (a+b)=bZ x a*bZ x b%P:=by
 have h:(a+b)%Qi=(((fmod a).toNat+(fmod b).toNat:Nat):Int)%Qi:=by rw[Int.natCast_add,Aq,Aq,Int.add_emod];rfl
 rw[Gv h,aaP d,aeg,rJ,<-xe,<-xe]
def Gw(d:elem x=aa)(a b):bZ x (a*b)=bZ (bZ x a) b:=by
 have h:(a*b)%Qi=(((fmod a).toNat*(fmod b).toNat:Nat):Int)%Qi:=by rw[xM,Aq,Aq,zF];rfl
 rw[Gv h,aaP d,EK,xe (bZ x a) b,xe x a,<-EJ]
def aaQ(x):bZ x 0=1:=by rw[xe];rfl
def aqD(d:elem x=aa):bZ x 1=x:=by rw[xe];show x^1%P=x;rw[Nat.pow_one,mM (elem_iff.1 d).2.1]
def aqC(d:elem x=aa)(a):bZ x a*bZ x (-a)%P=1:=by rw[<-DH d,Int.add_right_neg,aaQ]
def awu{α:Type}{f}:∀{l:List α},(∀i∈l,f i=0)->cI (l.map f)=0:=by
 intro l
 induction l with
 |nil=>intro _;rfl|cons x l e=>intro h;simp only[dK,cI];rw[h x gj,e λi d=>h i (gi _ d)];rfl
def Sy{α:Type}{f g}:∀{l:List α},(∀i∈l,f i=g i)->cI (l.map f)=cI (l.map g):=by
 intro l
 induction l with
 |nil=>intro _;rfl|cons x l e=>intro h;simp only[dK,cI];rw[h x gj,e λi d=>h i (gi _ d)]
def awt{α:Type}{f}{p}:∀{l:List α},(∀i∈l,p i=ar->f i=0)->cI ((l.filter p).map f)=cI (l.map f):=by
 intro l
 induction l with
 |nil=>intro _;rfl|cons x l d=>
  intro h;have d:=d λi g=>h i (gi _ g);cases e:p x
  .rw[zH (by simp[e]),d];simp only[dK,cI];rw[h x gj e];omega
  .rw[zI e];simp only[dK,cI,d]
def act{α:Type}{f g}:∀{l:List α},cI (l.map λi=>f i+g i)=cI (l.map f)+cI (l.map g):=by
 intro l
 induction l with
 |nil=>rfl|cons x l d=>simp only[dK,cI,d];omega
def Ly{α:Type}{f}{c}:∀{l:List α},cI (l.map λi=>c*f i)=c*cI (l.map f):=by
 intro l
 induction l with
 |nil=>simp[cI]|cons x l d=>simp only[dK,cI,d,Mp]
def acw{α e:Type}{f:α->e->Int}:∀{l:List α} {m:List e},cI (l.map λi=>cI (m.map λj=>f i j))=cI (m.map λj=>cI (l.map λi=>f i j)):=by
 intro l m
 induction l with
 |nil=>simp only[tT,cI];exact(awu λ_ _=>rfl).symm|cons x l d=>simp only[dK,cI,d];rw[<-act]
def Hc{α:Type}{f g}{q}:∀{l:List α},(∀i∈l,q∣f i-g i)->q∣cI (l.map f)-cI (l.map g):=by
 intro l
 induction l with
 |nil=>intro _;simp[cI]|cons x l e=>
  intro h;simp only[dK,cI];have p:f x+cI (l.map f)-(g x+cI (l.map g))=(f x-g x)+(cI (l.map f)-cI (l.map g)):=by omega
  rw[p];exact wc (h x gj) (e λi d=>h i (gi _ d))
def aot{α p:Type}{l:List α}{f}{g:Nat->p}(h:∀i x,l[i]?=J x->f x=g i):l.map f=(bE (F l)).map g:=by
 apply HJ
 .simp
 .intro i d e;rw[rG,rG,HK];exact h i _ (aW (by simpa using d))
def SN(U)(target):F (fU U target)=F target:=by unfold fU;simp
def acL(h:a∈fU U ae):∃k,k<F ae/\a=U.map (λr=>ah r k)++[ah ae k]:=by unfold fU at h;obtain⟨k,d,rfl⟩:=iW.1 h;exact⟨k,gb.1 d,O⟩
def afo{t}(hi:i<F U):ah (U.map (λr=>ah r k)++t) i=ah (U.getD i []) k:=by unfold ah;rw[fc,qL (by simpa using hi),ek,aW hi,mS hi];rfl
def afp{x}:ah (U.map (λr=>ah r k)++[x]) (F U)=x:=by unfold ah;rw[fc,wg cB];simp
section
variable {U:List (List Int)} {target l:List Int}
def SO(g:∀r∈U,∀x∈r,okF x)(p:∀x∈target,okF x):(∀a∈fU U target,F a=F U+1)/\∀a∈fU U target,∀x∈a,okF x:=by
 refine⟨λa d=>?_,λa d x s=>?_⟩
 .obtain⟨k,-,rfl⟩:=acL d;simp
 .obtain⟨k,u,rfl⟩:=acL d;rcases uQ.1 s with q|q
  .obtain⟨r,e,rfl⟩:=iW.1 q;exact pT (g r e) k
  .rw[List.mem_singleton]at q;subst q;exact pT p k
def combine_sat(L:∀r∈U,∀x∈r,okF x)(S:∀x∈target,okF x)(h:pi U target=J l):
 l.length=F U/\(∀x∈l,okF x)/\∀k,k<F target->Qi∣cI ((bE (F U)).map λi=>ah l i*ah (U.getD i []) k)-ah target k:=by
 obtain⟨t1,t2⟩:=SO L S;unfold pi at h;dsimp only at h;split at h
 .rename_i d;simp only[eo]at h;subst h;have e:∀i a,F (io (fU U target) U.length).2<=i->(io (fU U target) (F U)).1[i]?=J a->ah a (F U)=0:=λi a v C=>by rw[e8]at d;have:a∈(io (fU U target) (F U)).1.drop (F (io (fU U target) U.length).2):=(by refine dk (i:=i-F (io (fU U target) U.length).2) ?_;rw[qM];rw[show(F (io (fU U target) U.length).2)+(i-F (io (fU U target) U.length).2)=i by omega];exact C);simpa using d a this
  have N:=avy t1 t2 e;have R:=(GC t1 t2 (ag:F U<=F U+1)).1;refine⟨Lq _ _,?_,λk D=>?_⟩
  .have z:∀(p:List (Nat × Nat)) (y:List Int),(∀x∈y,okF x)->∀x∈p.foldl (λy A=>y.set A.1 (ah ((io (fU U target) (F U)).1.getD A.2 []) (F U))) y,okF x:=by
    intro p
    induction p with
    |nil=>intro y u;exact u|cons A p T=>
     intro y u;refine T _ λx s=>?_;rcases wm s with q|q
     .exact u x q
     .rw[q];refine pT (λY g=>?_) _;rcases dR A.2 (F (io (fU U target) U.length).1) with q2|q2
      .rw[mS q2]at g;exact R.ok _ (jG q2) Y g
      .rw[fc,pR q2]at g;simp at g
   unfold oU;exact z _ _ λx s=>by rw[Tq s];exact yS
  .have H:U.map (λr=>ah r k)++[ah target k]∈fU U target:=(by unfold fU;exact iW.2 ⟨k,gb.2 D,O⟩);have:=N _ H;unfold Sat res dot at this;rw[Lq,afp]at this;have X:((bE (F U)).map λi=>ah (oU (io (fU U target) (F U)) (F U)) i*ah (U.map (λr=>ah r k)++[ah target k]) i)=(bE (F U)).map λi=>ah (oU (io (fU U target) (F U)) (F U)) i*ah (U.getD i []) k:=
    wh λi v=>by rw[afo (gb.1 v)]
   rw[X]at this;exact this
 .cases h
end
def avE{d}{l}:F (qH n d l)=n:=by unfold qH;rw[Fj (λe=>ah l e.2)];simp
def avG{d}{l}(h:i∉d):ah (qH n d l) i=0:=by unfold qH;rw[IW (λg=>ah l g.2) _ _ λg e p=>h (by subst p;obtain⟨q,s⟩:=g;have:=List.mem_zipIdx e;simp only at this ⊢;rw[this.2.2];exact jG _)];unfold ah;rw[fc,adG];split<;>rfl
def avD{l}:∀(ps:List (Nat × Nat)) (y:List Int),(ps.map ju).Nodup->(∀p∈ps,p.1<F y)->∀p∈ps,ah (ps.foldl (λy p=>y.set p.1 (ah l p.2)) y) p.1=ah l p.2:=by
 intro ps
 induction ps with
 |nil=>intro y _ _ p d;cases d
 |cons z ps s=>
  intro y e q p d;rw[dK,Tu]at e;rcases gX.1 d with rfl|d
  .rw[zJ,IW (λp=>ah l p.2) _ _ λu g v=>e.1 (iW.2 ⟨u,g,v⟩),Il (q p gj),aC O]
  .exact s _ e.2 (λp d=>by rw[ox];exact q p (gi _ d)) p d
def zip_fst(d:List Nat):d.zipIdx.map ju=d:=by apply HJ<;>simp
def Sg{d}{l}(q:d.Nodup)(e:∀i∈d,i<n)(g:d[j]?=J i):ah (qH n d l) i=ah l j:=by
 unfold qH;have p:(i,j)∈d.zipIdx:=by rw[List.mem_zipIdx_iff_getElem?];exact g
 exact avD d.zipIdx (bT n 0) (by rw[zip_fst];exact q) (λu s=>by
  rw[List.length_replicate];refine e _ ?_;have:u.1∈d.zipIdx.map ju:=iW.2 ⟨u,s,O⟩
  rwa [zip_fst]at this) (i,j) p
def avF{p}{l}(u:∀x∈l,okF x):∀x∈qH n p l,okF x:=by
 have s:∀(d:List (Nat × Nat)) (y:List Int),(∀x∈y,okF x)->∀x∈d.foldl (λy z=>y.set z.1 (ah l z.2)) y,okF x:=by
  intro d
  induction d with
  |nil=>intro y g;exact g|cons z d v=>
   intro y g;refine v _ λx e=>?_;rcases wm e with q|q
   .exact g x q
   .rw[q];exact pT u _
 exact s _ _ λx e=>by rw[Tq e];exact yS
def QT:i∈ey ae ak↔i<F ae/\ah ae i∈ak:=by unfold ey;rw[rH,gb,adv]
def apw(ae ak):(ey ae ak).Nodup:=List.nodup_range.filter _
def oj(h:cE U ae=0):F U=F ae/\F U<=64/\(∀r∈U,F r=b7 U/\0<F r/\F r<=64/\∀x∈r,okF x)/\∀x∈ae,0<=x/\x<=63:=by
 unfold cE at h;split at h
 .cases h
 .rename_i g;simp only[Bool.or_eq_true,decide_eq_true_eq,List.any_eq_true,not_or,not_exists,not_and,Nat.not_lt]at g;split at h
  .cases h
  .rename_i p;have p:F U=F ae:=(by simpa using p);split at h
   .rename_i u;rw[e8]at u;have e:∀i (d:i<F U),F U[i]=F (U.getD 0 [])/\0<F U[i]/\(∀x∈U[i],okF x)/\0<=ah ae i/\ah ae i<=63:=λi d=>by
     have:=u i (gb.2 d);simp only[mS d,bR,decide_eq_true_eq,e8]at this;obtain⟨⟨⟨a,b⟩,c,z⟩,f⟩:=this;refine⟨b,?_,λx s=>?_,c,z⟩
     .rcases HR (F U[i]) with q|q
      .rw[List.length_eq_zero_iff]at q;rw[q]at a;cases a
      .exact q
     .have:=f x s;unfold cA at this;simpa [okF] using this
    refine⟨p,g.1,λr v=>?_,λx s=>?_⟩
    .obtain⟨i,d,rfl⟩:=zK.1 v;obtain⟨a,b,c,-⟩:=e i d;refine⟨?_,b,g.2 _ v,c⟩;unfold b7;rw[aL ag];exact a
    .obtain⟨i,d,rfl⟩:=zK.1 s;have:=(e i ag).2.2.2
     rwa [fy d]at this
   .cases h
def pV(h:cE U ae=0):0<b7 U/\b7 U<=64:=by
 obtain⟨-,-,d,-⟩:=oj h;unfold b7;split
 .omega
 .rename_i e;have:=d (U.getD 0 []) (by rw[mS ag];exact jG _);exact⟨this.2.1,this.2.2.1⟩
def SI(h:0<n):F (fT n)=n:=by unfold fT;simp;omega
def awR:ah (fT n) k=if k=0 then 1 else 0:=by
 unfold fT ah;cases k with|zero=>rfl|succ k=>rw[List.getD_cons_succ,fc,adG];split<;>rfl
def awS:∀x∈fT n,okF x:=by
 intro x d;unfold fT at d;rcases gX.1 d with rfl|q
 .unfold okF;decide
 .rw[Tq q];exact yS
def wt(h:fg U ae ak=(y,aa,0)):
 cE U ae=0/\dD (-1) ak=aa/\F y=F U/\(∀x∈y,okF x)/\(∀i,ah ae i∉ak->ah y i=0)/\
  ∀k,k<b7 U->Qi∣cI ((bE (F U)).map λi=>ah y i*ah (U.getD i []) k)-(if k=0 then 1 else 0):=by
 unfold fg at h;split at h
 .simp at h
 .rename_i g;have g:cE U ae=0:=by simpa using g
  obtain⟨D,p2,X,p4⟩:=oj g;split at h
  .simp at h
  .rename_i T;split at h
   .simp at h
   .rename_i l S;simp only[dw,and_true]at h;subst h;have z:∀i∈ey ae ak,i<F U:=λi d=>(by rw[D];exact(QT.1 d).1);have s:∀r∈(ey ae ak).map (λi=>U.getD i []),∀x∈r,okF x:=λr s=>(by obtain⟨i,d,rfl⟩:=iW.1 s;rw[mS (z i d)];exact(X _ (jG _)).2.2.2);obtain⟨E,H,u⟩:=combine_sat s awS S;rw[bI]at E u;have e:∀i,i∉ey ae ak->ah (qH (F U) (ey ae ak) l) i=0:=λi d=>avG d;refine⟨g,by simpa using T,avE,avF H,λi d=>e i λY=>d (QT.1 Y).2,λk N=>?_⟩;have:=u k (by rw[SI (pV g).1];exact N);rw[awR]at this;have Z:cI ((bE (F U)).map λi=>ah (qH (F U) (ey ae ak) l) i*ah (U.getD i []) k)=cI ((bE (F (ey ae ak))).map λi=>ah l i*ah (((ey ae ak).map λi=>U.getD i []).getD i []) k):=(by have L:ey ae ak=(bE (F U)).filter λi=>ak.contains (ah ae i):=(by unfold ey;rw[D]);have v:=awt (f:=λi=>ah (qH (F U) (ey ae ak) l) i*ah (U.getD i []) k) (p:=λi=>ak.contains (ah ae i)) (l:=bE (F U)) λi d C=>(by rw[e i λY=>?_,Mu];rw[adv.2 (QT.1 Y).2]at C;cases C);rw[<-L]at v;rw[<-v];congr 1;refine aot λj i q=>?_;have A:=(aU.1 q).1;rw[Sg (apw ae ak) z q,mS (t:=(ey ae ak).map λi=>U.getD i []) (by simpa using A),rG];rw[(aU.1 q).2]);rw[Z];exact this
def Gn:Nat:=4
def qa:elem Gn=aa:=by decide+kernel
def Vz{a}(h:Qi∣a-b):a%Qi=b%Qi:=adf.2 (Int.emod_eq_zero_of_dvd h)
def ID{a}(h:a%Qi=b%Qi):Qi∣a-b:=Int.dvd_of_emod_eq_zero (adf.1 h)
def Q'{a}(h:Qi∣a-b):bZ Gn a=bZ Gn b:=Gv (Vz h)
def aqH{a}(h:bZ Gn a=1):Qi∣a:=by
 have q:=Cu a;have s:Qi∣a-fmod a:=ID (by unfold fmod;simp_all);by_cases g:fmod a=0
 .simp_all
 .exfalso;have p:bZ Gn (fmod a*eK (fmod a))=1:=by rw[Gw qa,aqA,h,xe,TH];rfl
  have d:cO (fmod a) (eK (fmod a))=1:=Ob q g;rw[rR]at d;have e:bZ Gn (fmod a*eK (fmod a))=bZ Gn 1:=Gv (by rw[d];rfl);rw[p,aqD qa]at e;cases e
def aqE{a}(h:bZ Gn a=bZ Gn b):Qi∣a-b:=by refine aqH ?_;rw[adq,DH qa,h];exact aqC qa b
def aqF{a}(d:okF a)(e:okF b)(h:bZ Gn a=bZ Gn b):a=b:=by
 have:=Vz (aqE h)
 rwa [Te d.1 d.2,Te e.1 e.2]at this
def ajK{α:Type}{f:α->Nat}{a}:∀{l:List α} (_:∀p∈l,f p=bZ Gn (a p)) (k:Int),l.foldl (λx p=>x*f p%P) (bZ Gn k)=bZ Gn (k+cI (l.map a)):=by
 intro l
 induction l with
 |nil=>intro _ k;simp[cI]|cons p l e=>
  intro h k;rw[zJ,h p gj,<-DH qa,e (λg d=>h g (gi _ d))];simp only[dK,cI]
  grind
def Rk{α:Type}{f:α->Nat}{a}{l:List α}(h:∀p∈l,f p=bZ Gn (a p)):l.foldl (λx p=>x*f p%P) 1=bZ Gn (cI (l.map a)):=by have:=ajK h 0;rw[aaQ,Mt]at this;omega
def lP(a b:List Int):Int:=(bE (F a)).foldl (λx j=>cV x (cO (ah a j) (ah b j))) 0
def Oc{α:Type}{f}:∀{l:List α} (x:Int),Qi∣l.foldl (λx j=>cV x (f j)) x-(x+cI (l.map f)):=by
 intro l
 induction l with
 |nil=>intro x;simp[cI]|cons j l g=>
  intro x;have d:=g (cV x (f j));simp only[zJ,dK,cI];have e:Qi∣cV x (f j)-(x+f j):=ID (by rw[Ai,Es _ (Er _)]);have:=wc d e
  grind
def Wi{α:Type}{f:α->Int}{l:List α}{x}(d:okF x):okF (l.foldl (λx j=>cV x (f j)) x):=by
 rcases List.eq_nil_or_concat l with rfl|⟨e,a,rfl⟩
 .exact d
 .rw[List.concat_eq_append,nJ];exact IM _ _
def aiK(a b):okF (lP a b):=Wi yS
def IV(a b):Qi∣cO a b-a*b:=ID (by rw[rR,Es _ (Er _)])
def V0(a b):Qi∣cV a b-(a+b):=ID (by rw[Ai,Es _ (Er _)])
def Ck{a c}(h:Qi∣a-b)(k:Qi∣b-c):Qi∣a-c:=by
 have:=wc h k
 grind
def VO(a b):Qi∣lP a b-cI ((bE (F a)).map λj=>ah a j*ah b j):=by have d:=Oc (f:=λj=>cO (ah a j) (ah b j)) (l:=bE (F a)) 0;rw[Mt]at d;exact Ck d (Hc λj _=>IV _ _)
def mE(d row:List Int):Nat:=(bE (F d)).foldl (λx j=>x*bZ (ah d j).toNat (ah row j)%P) 1
def iN(U:List (List Int))(s:List Int):List Int:=U.map λr=>lP r s
def bF(s:List Int):List Int:=s.map λn=>((bZ Gn n:Nat):Int)
def Uu(d:j<F s):ah (bF s) j=((bZ Gn (ah s j):Nat):Int):=by
 unfold bF;have:j<F (s.map λn=>((bZ Gn n:Nat):Int)):=by simpa using d
 rw[fy this,fy d,rG]
def aaV{row}(g:F row=F s):mE (bF s) row=bZ Gn (lP row s):=by
 unfold mE;have d:F (bF s)=F s:=by unfold bF;simp
 rw[d,Rk (a:=λj=>ah row j*ah s j) λj e=>by rw[Uu (gb.1 e),eD,<-Gw qa,HD]];refine(Q' ?_).symm;have:=VO row s;simp_all
def ah7:(bF s).all b8=aa:=by
 rw[e8];intro x d;obtain⟨n,-,rfl⟩:=iW.1 d;have:=y9 qa n;unfold b8;rw[eD,this,Em];have h:=(elem_iff.1 this).1
 grind
def axH(h:fg U ae ak=(y,aa,0))(S:F s=b7 U):
 Qi∣cI ((bE (F U)).map λi=>ah y i*ah (iN U s) i)-ah s 0:=by
 obtain⟨q,-,H,L,N,A⟩:=wt h;obtain⟨T,X,E,Y⟩:=oj q;have C:=pV q;have v:Qi∣cI ((bE (F U)).map λi=>ah y i*ah (iN U s) i)-cI ((bE (F U)).map λi=>cI ((bE (b7 U)).map λk=>ah s k*(ah y i*ah (U.getD i []) k))):=by
  refine Hc λi d=>?_;have d:=gb.1 d;have e:=VO U[i] s;rw[(E _ (jG d)).1]at e;have u:ah (iN U s) i=lP U[i] s:=by unfold iN;rw[fy (by simp_all),rG]
  rw[u,mS d];have:cI ((bE (b7 U)).map λk=>ah s k*(ah y i*ah U[i] k))=ah y i*cI ((bE (b7 U)).map λk=>ah U[i] k*ah s k):=by rw[<-Ly];exact Sy λk _=>by grind
  rw[this,<-HE];exact Ep e
 refine Ck v ?_;rw[acw];have z:Qi∣cI ((bE (b7 U)).map λk=>cI ((bE (F U)).map λi=>ah s k*(ah y i*ah (U.getD i []) k)))-cI ((bE (b7 U)).map λk=>if k=0 then ah s 0 else 0):=by
  refine Hc λk D=>?_;have:=A k (gb.1 D);rw[Ly];have u:(if k=0 then ah s 0 else 0)=ah s k*(if k=0 then 1 else 0):=by
   split
   .simp_all
   .omega
  rw[u,<-HE];exact Ep this
 refine Ck z ?_;rw[acA (p:=0) _ C.1 λi _ g=>aL g,aC O,Ms];simp_all
def iH(ae:List Int)(d:Int):List Nat:=(bE (F ae)).filter λi=>decide (ah ae i=d)
def fb(U:List (List Int))(ae:List Int)(l:List Pr):List Int:=(fg U ae (l.map Pr.bC)).1
def jT(y:List Int)(s:List (Int × Int)):Int:=s.foldl (λa d=>cV a (cO (ah y d.1.toNat) d.2)) 0
def Bp(U:List (List Int))(d:List Int)(p:Int × Int):Bool:=cA p.2&&decide (bZ Gn p.2=mE d (U.getD p.1.toNat []))
def l_(U:List (List Int))(ae d:List Int)(e:Int)(s:List (Int × Int)):Bool:=decide (s.map ju=(iH ae e).map λ(i:Nat)=>(i:Int))&&s.all (Bp U d)
def pG(l:List Pr)(d:Int):Option Pr:=l.find? λe=>decide (e.bC=d)
def ef(c0:Int)(aq:List UInt8)(l:List Pr):Nat:=zt (jz c0 aq l) c0 aq
def yP(U:List (List Int))(ae:List Int)(e:List Int)(aq:List UInt8)(l:List Pr)(g:Int)(s:List (Int × Int))(d f:Int):Int × Int:=
 match pG l g with
 |none=>(0,1)
 |some x=>
  if !(cA d&&cA f) then (0,1)
  else if !l_ U ae e g s then (0,340)
  else if ¬((bZ Gn d:Nat):Int)=x.d∨¬((bZ Gn f:Nat):Int)=x.e then (0,420)
  else (cV (cV d (cO f (gK (ah e 0) aq l g))) (cO (ef (ah e 0) aq l) (jT (fb U ae l) s)),0)
def vY(U:List (List Int))(ae:List Int)(d:List Int)(aq:List UInt8)(l:List Pr)(x:Pr):Nat:=
 qx (ah d 0) aq l x*((iH ae x.bC).foldl (λa i=>a*bZ (mE d (U.getD i [])) (ah (fb U ae l) i*ef (ah d 0) aq l)%P) 1)%P
def ym(U:List (List Int))(ae:List Int)(d:List Int)(aq:List UInt8)(l:List Pr)(e z:Int):Bool × Int:=
 match pG l e with
 |none=>(ar,1)
 |some x=>if !cA z then (ar,1) else (decide (bZ Gn z=vY U ae d aq l x),0)
def nE(d:Int)(aq:List UInt8)(e s:Int):Bool:=b8 d&&cA e&&cA s&&decide (e=((zt ((bZ Gn s*bZ d.toNat (-e)%P:Nat):Int) d aq:Nat):Int))
def akT(b):q_ b<Q:=ml _ aZ
def uj{x}:cA x=aa↔okF x:=by unfold cA okF;simp
def Xh(d)(v):cA ((rX d v:Nat):Int)=aa:=by rw[uj];have:=akT (mg d (cr v));unfold rX okF;rw[zN];omega
def axD{x n s}{aq}{e}(d:e=zt ((bZ Gn n:Nat):Int) ((bZ Gn x:Nat):Int) aq)(v:okF s)(h:Qi∣s-(n+e*x)):nE ((bZ Gn x:Nat):Int) aq e s=aa:=by
 unfold nE;have g:=y9 qa x;have p:b8 ((bZ Gn x:Nat):Int)=aa:=by unfold b8;rw[eD,g,Em];have h:=(elem_iff.1 g).1;exact cy ag
 have q:cA ((e:Nat):Int)=aa:=by rw[d];exact Xh _ _
 have u:bZ Gn s*bZ (bZ Gn x) (-(e:Int))%P=bZ Gn n:=by
  rw[<-Gw qa,<-DH qa];refine Q' ?_;have:s+x * -(e:Int)-n=s-(n+e*x):=by rw[Int.mul_neg,HD x];omega
  rw[this];exact h
 rw[p,q,uj.2 v,eD,u,<-d];simp
def jK(f:Nat->Int)(a:List Int)(c k:Nat):List Int:=(bE (F a)).map λj=>if c<=j/\j<k then f j else ah a j
section
variable {f:Nat->Int} {a own:List Int} {c k j r w:Nat} {t:List (List Int)}
def qW:F (jK f a c k)=F a:=by unfold jK;simp
def Cf(d:j<F a):ah (jK f a c k) j=if c<=j/\j<k then f j else ah a j:=by rw[fy (by rw[qW];exact d)];unfold jK;simp_all
def VE:jK f a c c=a:=by refine vO qW λj d=>?_;rw[qW]at d;rw[Cf d,aL ag]
def VD(g:c<=k)(e:k<F a):(jK f a c k).set k (f k)=jK f a c (k+1):=by
 refine vO (by rw[ox,qW,qW]) λj d=>?_;rw[ox,qW]at d;rw[Il (by rw[qW];exact e),Cf d,Cf d]
 grind
def aim{n:Int}(e:c<=F a):jK (λj=>cO (ah a j) n) a c (F a)=gU c a n:=by
 unfold gU;refine vO (by rw[qW,db,bI,dF,fL];omega) λj d=>?_;rw[qW]at d;rw[Cf d,BX e];by_cases p:j<c
 .omega
 .rw[aC ag,aL p];have g:j-c<F ((a.drop c).map (cO · n)):=by rw[bI,fL];omega
  rw[fy g,rG,MD,fy d];simp_all
def pU(c:Nat)(own:List Int)(r j:Nat)(t:List (List Int)):List (List Int):=t.mapIdx λi a=>if i<j/\i≠r then ua c a own else a
def Vp:F (pU c own r j t)=F t:=by unfold pU;simp
def vj(i:Nat):(pU c own r j t)[i]?=t[i]?.map λa=>if i<j/\i≠r then ua c a own else a:=by unfold pU;simp_all
def ahK:pU c own r 0 t=t:=by apply ou;intro i;rw[vj];simp_all
def ahI:pU c own r (r+1) t=pU c own r r t:=by
 apply ou;intro i;rw[vj,vj]
 grind
def ahH:(pU c own r j t)[j]?=t[j]?:=by rw[vj];simp_all
def ahG:(pU c own r j t)[r]?=t[r]?:=by rw[vj];simp_all
def ahJ{a:List Int}(d:t[j]?=J a)(g:j≠r):(pU c own r j t).set j (ua c a own)=pU c own r (j+1) t:=by
 apply ou;intro i;rw[j',Vp];have e:=(aU.1 d).1;split
 .rename_i p;subst p
  try rw[aC e]
  rw[vj,d,gq,aC ⟨Nat.lt_succ_self _,g⟩]
 .rename_i p;rw[vj,vj]
  grind
def IQ{j:Nat}(q:r<=j)(v:j<=F t)(z:∀k,r<=k->k<j->ah (t.getD k []) c=0)(p:j<F t->ah (t.getD j []) c≠0):nU t r c=if j=F t then ao else J j:=by
 cases d:nU t r c with
 |none=>
  by_cases E:j=F t
  .simp_all
  .exact absurd (V9 d ag q) (p ag)
 |some k=>
  obtain⟨A,C,D⟩:=Al d;have s:j<=k:=by
   rcases dR k j with h|h
   .grind
   .exact h
  rw[aL ag];unfold nU at d;rw[List.find?_eq_some_iff_getElem]at d;obtain⟨-,i,u,e,g⟩:=d;rw[HK]at e;subst e;rcases dR j i with h|h<;>grind
def av0{pv:List Nat}{k:Nat}{b o:List Int}(u:nU t (F pv) c=J k)(d:t[k]?=J b)(e:t[F pv]?=J o):
 vW (t,pv) c=(pU c (gU c b (eK (ah b c))) (F pv) (F t) (((t.set (F pv) b).set k o).set (F pv) (gU c b (eK (ah b c)))),pv++[c]):=by
 have z:=(aU.1 d).1;have A:=(aU.1 e).1;have p:t.getD k []=b:=by rw[fc,d];rfl
 have q:t.getD (F pv) []=o:=by rw[fc,e];rfl
 unfold vW;simp only[u,p,q];congr 1;generalize gU c b (eK (ah b c))=s;have g:((t.set (F pv) b).set k o).set (F pv) s=(t.set k o).set (F pv) s:=by
  by_cases v:k=F pv
  .simp_all
  .rw[List.set_comm _ _ (λC=>v C.symm),List.set_set]
 rw[g];apply ou;intro i;rw[List.getElem?_mapIdx,vj]
 grind
end
def MK(l:List Pr)(ld le:Int->Int):Prop:=∀d∈l,d.d=((bZ Gn (ld d.bC):Nat):Int)/\d.e=((bZ Gn (le d.bC):Nat):Int)
def Xi(d)(v):okF ((rX d v:Nat):Int):=uj.1 (Xh d v)
def Q_(x)(d)(v):ru x (rX d v)=bZ x ((rX d v:Nat):Int):=by unfold bZ;rw[Ap (Xi d v),eD]
def Z8{aq}{p}{e}(g:p.d=((bZ Gn d:Nat):Int))(q:p.e=((bZ Gn e:Nat):Int))(c0):
 qx c0 aq l p=bZ Gn (d+e*((gK c0 aq l p.bC:Nat):Int)):=by
 unfold qx;rw[g,q,eD,eD];unfold gK;rw[Q_,<-Gw qa,<-DH qa]
def aqi{aq}{ld le}(h:MK l ld le)(c0):
 jz c0 aq l=bZ Gn (cI (l.map λp=>ld p.bC+le p.bC*((gK c0 aq l p.bC:Nat):Int))):=by
 unfold jz;exact Rk λp d=>Z8 (h p d).1 (h p d).2 c0
def lY(ae d:List Int)(k:Int):List (Int × Int):=(iH ae k).map λi=>((i:Nat),ah d i)
def xx(y d:List Int)(L:List Nat):Int:=cI (L.map λi=>ah y i*ah d i)
def axV(y ae d)(k):Qi∣jT y (lY ae d k)-xx y d (iH ae k):=by
 unfold jT lY xx;rw[List.foldl_map];have e:=Oc (f:=λi:Nat=>cO (ah y i) (ah d i)) (l:=iH ae k) 0;rw[Mt]at e;have g:(λ(a:Int) (i:Nat)=>cV a (cO (ah y (((i:Nat):Int)).toNat) (ah d i)))=λa i=>cV a (cO (ah y i) (ah d i)):=by funext a i;simp_all
 simp only[g];exact Ck e (Hc λi _=>IV _ _)
def aws{α:Type}{f}{p}:∀{l:List α},cI ((l.filter p).map f)=cI (l.map λi=>if p i=aa then f i else 0):=by
 intro l
 induction l with
 |nil=>rfl|cons x l e=>
  cases d:p x
  .rw[zH (by grind),e];simp only[dK,cI,d];simp
  .rw[zI d];simp only[dK,cI,d,e];simp
def awv{n v}:∀{ak:List Int},ak.Nodup->cI (ak.map λk=>if decide (n=k)=aa then v else 0)=if n∈ak then v else 0:=by
 intro ak
 induction ak with
 |nil=>intro _;rfl|cons k l e=>
  intro h;obtain⟨g,d⟩:=Tu.1 h;simp only[dK,cI,e d]
  grind
def atl{d}(g:ak.Nodup)(p:∀i,ah ae i∉ak->ah y i=0):
 cI (ak.map λk=>xx y d (iH ae k))=cI ((bE (F ae)).map λi=>ah y i*ah d i):=by
 have e:(λk=>xx y d (iH ae k))=λk=>cI ((bE (F ae)).map λi=>if decide (ah ae i=k)=aa then ah y i*ah d i else 0):=by funext k;exact aws
 rw[e,acw];refine Sy λi _=>?_;rw[awv g];simp_all
def QX:∀{last:Int} {ak:List Int},dD last ak=true->(∀n∈ak,last<n/\n<=63)/\ak.Nodup:=by
 intro last ak
 induction ak generalizing last with
 |nil=>simp_all|cons n l d=>
  intro h;rw[dD] at h
  grind
def pH(U:List (List Int))(ae e:List Int)(aq:List UInt8)(l:List Pr)(k d f:Int)(s:List (Int × Int)):Int:=
 cV (cV d (cO f (gK (ah e 0) aq l k))) (cO (ef (ah e 0) aq l) (jT (fb U ae l) s))
def QU{e}{aq}{k}{s}:okF (pH U ae e aq l k d f s):=IM _ _
def aaz(U)(ae e)(aq)(l)(k d f)(g):
 Qi∣pH U ae e aq l k d f (lY ae g k)-(d+f*((gK (ah e 0) aq l k:Nat):Int)+((ef (ah e 0) aq l:Nat):Int)*xx (fb U ae l) g (iH ae k)):=by
 unfold pH;generalize ((gK (ah e 0) aq l k:Nat):Int)=b;generalize ((ef (ah e 0) aq l:Nat):Int)=c;have q:=axV (fb U ae l) ae g k;generalize jT (fb U ae l) (lY ae g k)=w at *
 generalize xx (fb U ae l) g (iH ae k)=A at *
 have s:=V0 (cV d (cO f b)) (cO c w);have u:=V0 d (cO f b);have v:=IV f b;have z:=IV c w;have p:Qi∣c*(w-A):=Ep q;rw[HE]at p;have:=wc (wc (wc s u) (wc v z)) p
 grind
def apX{aq}{ld le:Int->Int}(d:fg U ae (l.map Pr.bC)=(y,aa,0))(A:F s=b7 U):
 Qi∣cI ((l.map Pr.bC).map λk=>pH U ae (bF s) aq l k (ld k) (le k) (lY ae (iN U s) k)) -
  (cI ((l.map Pr.bC).map λk=>ld k+le k*((gK (ah (bF s) 0) aq l k:Nat):Int))+((ef (ah (bF s) 0) aq l:Nat):Int)*ah s 0):=by
 obtain⟨z,C,L,N,p,S⟩:=wt d;obtain⟨H,-,-,-⟩:=oj z;have v:=(QX C).2;have e:=Hc (q:=Qi) (l:=l.map Pr.bC) (f:=λk=>pH U ae (bF s) aq l k (ld k) (le k) (lY ae (iN U s) k))
  (g:=λk=>ld k+le k*((gK (ah (bF s) 0) aq l k:Nat):Int)+((ef (ah (bF s) 0) aq l:Nat):Int)*xx (fb U ae l) (iN U s) (iH ae k))
  λk _=>aaz U ae (bF s) aq l k (ld k) (le k) (iN U s)
 refine Ck e ?_;rw[act,Ly];have D:fb U ae l=y:=by unfold fb;rw[d]
 rw[D,atl v p,<-H];have u:=axH d A;have T:Qi∣((ef (ah (bF s) 0) aq l:Nat):Int)*(cI ((bE (F U)).map λi=>ah y i*ah (iN U s) i)-ah s 0):=Ep u
 grind
def ah5(h:0<F s):ah (bF s) 0=((bZ Gn (ah s 0):Nat):Int):=Uu h
def M6(z):Qi∣z.foldl cV 0-cI z:=by have:=Oc (f:=λx:Int=>x) (l:=z) 0;simp_all
def M7(z:List Int):okF (z.foldl cV 0):=Wi (f:=λx:Int=>x) yS
def Sc{aq}{ld le}(p:fg U ae (l.map Pr.bC)=(y,aa,0))(D:F s=b7 U)(A:MK l ld le):
 nE (ah (bF s) 0) aq ((ef (ah (bF s) 0) aq l:Nat):Int) (((l.map Pr.bC).map λk=>pH U ae (bF s) aq l k (ld k) (le k) (lY ae (iN U s) k)).foldl cV 0)=aa:=by
 obtain⟨C,-⟩:=wt p;have d:0<F s:=by have:=(pV C).1;omega
 have v:=apX (aq:=aq) (ld:=ld) (le:=le) p D;have z:=M6 ((l.map Pr.bC).map λk=>pH U ae (bF s) aq l k (ld k) (le k) (lY ae (iN U s) k));have g:=Ck z v;have u:=aqi (aq:=aq) A (ah (bF s) 0);have E:(l.map Pr.bC).map (λk=>ld k+le k*((gK (ah (bF s) 0) aq l k:Nat):Int))=l.map λe=>ld e.bC+le e.bC*((gK (ah (bF s) 0) aq l e.bC:Nat):Int):=by rw[tS];rfl
 rw[E]at g;have q:ef (ah (bF s) 0) aq l=zt ((jz (ah (bF s) 0) aq l:Nat):Int) (ah (bF s) 0) aq:=rfl;rw[u]at q;generalize ef (ah (bF s) 0) aq l=c at *
 generalize cI (l.map λe=>ld e.bC+le e.bC*((gK (ah (bF s) 0) aq l e.bC:Nat):Int))=n at *
 rw[ah5 d]at *
 exact axD q (M7 _) g
def Sb(h:i<F U):ah (iN U s) i=lP (U.getD i []) s:=by unfold iN;rw[fy (by simp_all),rG,mS h]
def axE{aq}{x}(q:cE U ae=0)(z:F s=b7 U)(g:x.d=((bZ Gn d:Nat):Int))(p:x.e=((bZ Gn f:Nat):Int)):
 vY U ae (bF s) aq l x=bZ Gn (pH U ae (bF s) aq l x.bC d f (lY ae (iN U s) x.bC)):=by
 obtain⟨u,A,C,D⟩:=oj q;unfold vY;rw[Z8 g p,Rk (a:=λi=>ah (fb U ae l) i*ah (iN U s) i*((ef (ah (bF s) 0) aq l:Nat):Int)) λi e=>?_];rotate_left 1
 .have e:i<F U:=by rw[u];unfold iH at e;exact gb.1 (rH.1 e).1
  rw[aaV (by simp_all),<-Gw qa,Sb e]
  grind
 rw[<-DH qa];refine(Q' ?_).symm;have v:=aaz U ae (bF s) aq l x.bC d f (iN U s);have E:cI ((iH ae x.bC).map λi=>ah (fb U ae l) i*ah (iN U s) i*((ef (ah (bF s) 0) aq l:Nat):Int))=((ef (ah (bF s) 0) aq l:Nat):Int)*xx (fb U ae l) (iN U s) (iH ae x.bC):=by unfold xx;rw[<-Ly];exact Sy λi _=>HD _ _
 simp_all
def ajt{aq}{x}{z}(p:cE U ae=0)(q:F s=b7 U)(e:x.d=((bZ Gn d:Nat):Int))(g:x.e=((bZ Gn f:Nat):Int))(u:okF z):
 decide (bZ Gn z=vY U ae (bF s) aq l x)=decide (z=pH U ae (bF s) aq l x.bC d f (lY ae (iN U s) x.bC)):=by
 rw[axE p q e g,decide_eq_decide];exact⟨λh=>aqF u QU h,λh=>by rw[h]⟩
def apy(e:cE U ae=0)(u:F s=b7 U)(k):l_ U ae (bF s) k (lY ae (iN U s) k)=aa:=by
 obtain⟨p,v,z,A⟩:=oj e;unfold l_ lY;rw[bR];refine⟨by simp_all,?_⟩;rw[e8];intro C g;obtain⟨i,d,rfl⟩:=iW.1 g;have d:i<F U:=by rw[p];unfold iH at d;exact gb.1 (rH.1 d).1
 unfold Bp;simp only[eD];have q:mE (bF s) (U.getD i [])=bZ Gn (lP (U.getD i []) s):=aaV (by simp_all);rw[Sb d,uj.2 (aiK _ _),pP];simp_all
def aax(h:jY b l=true){p}(d:p∈l):pG l p.bC=some p:=by
 induction l generalizing b with
 |nil=>grind
 |cons s l q=>
  rw[jY] at h;simp only[bR,decide_eq_true_eq] at h;unfold pG;rw[List.find?_cons];rcases gX.1 d with rfl|d
  .simp
  .have e:∀{l:List Pr} {b:Int},jY b l=aa->∀p∈l,b<p.bC:=by
    intro l
    induction l with
    |nil=>simp_all|cons s l q=>
     intro b h p d;rw[jY] at h
     grind
   have:=e h.2 p d;have g:decide (s.bC=p.bC)=ar:=cR ag;rw[g];exact q h.2 d
def aom{aq}(u:cE U ae=0)(v:F s=b7 U)(q:jY b l=aa){x}(z:x∈l)(g:x.d=((bZ Gn d:Nat):Int))(p:x.e=((bZ Gn f:Nat):Int))(A:okF d)(e:okF f):
 yP U ae (bF s) aq l x.bC (lY ae (iN U s) x.bC) d f=(pH U ae (bF s) aq l x.bC d f (lY ae (iN U s) x.bC),0):=by
 unfold yP;rw[aax q z];simp only[uj.2 A,uj.2 e,apy u v,g,p];simp[pH]
structure Dc where
 no:Int
 tm:Int
 kd:Int
 vl:Int
 fr:Int
 un:Int
 pa:List Int
 rv:List Int
 nd:List Int
 tx:List UInt8
def oJ(sg:Int):Int->List Int->Bool
 |_,[]=>aa
 |last,n::l=>decide (last<n)&&decide (n<sg)&&oJ sg n l
def ij(l:List Int)(sg:Int):Bool:=oJ sg (-1) l&&decide (F l<=16)
def Bw(t:Int):Bool:=decide (0<=t)&&decide (t<1099511627776)
def gL(d:Dc):Bool:=decide (0<=d.no)&&decide (d.no<4096)&&Bw d.tm&&decide (0<=d.kd)&&decide (d.kd<16)&&decide (0<=d.vl)&&decide (d.vl<=1099511627776)&&decide (0<=d.fr)&&decide (d.fr<d.un)&&decide (d.un<=1099511627776)&&ij d.pa 1048577&&ij d.rv d.no&&ij d.nd d.no
def Dc.pQ(d:Dc):Prop:=F d.pa<=9223372036854775807/\F d.rv<=9223372036854775807/\F d.nd<=9223372036854775807
def Dd(l:List Int):Vl:=.ac (l.map .int)
def eY(d:Dc):Vl:=.ac [.int d.no,.int d.tm,.int d.kd,.int d.vl,.int d.fr,.int d.un,Dd d.pa,Dd d.rv,Dd d.nd,.aq d.tx]
structure Ce where
 U:List (List Int)
 ae:List Int
 ep:Int
 aH:List Int
 doc:Dc
 ak:List Int
 bH:List Pr
 aS:List (Int × Int)
def Ce.Fit(c:Ce):Prop:=F c.U<=1000000/\F c.aH<=1000000/\F c.ak<=1000000/\c.doc.pQ/\F c.bH<=1000000/\F c.aS<=1000000
def ej(U:List (List Int))(ae:List Int)(ep:Int)(e:List Int)(d:Dc)(ak:List Int):Int:=
 if cE U ae≠0 then cE U ae
 else if (decide (0<=ep)&&decide (ep<=64)&&e.all b8&&decide (F e=b7 U))=ar then 380
 else if gL d=ar then 170
 else if dD (-1) ak=ar then 1
 else if (fg U ae ak).2.1=ar∨(fg U ae ak).2.2≠0 then 440
 else 0
section
variable {α:Type} (right:α->Bool) (k:α->Int)
def fJ:Int->List α->Bool
 |_,[]=>aa
 |last,x::l=>right x&&decide (last<k x)&&fJ (k x) l
def lH(n:Int):List α->Nat
 | []=>0
 |y::l=>if k y<n then lH n l+1 else 0
def n_(x:α)(l:List α):List α:=l.take (lH k (k x) l)++x::l.drop (lH k (k x) l)
def pY(n:Int)(l:List α):Option α:=
 match l[lH k n l]? with
 |some y=>if k y=n then J y else ao
 |none=>ao
end
section
variable {α:Type} {right:α->Bool} {k:α->Int}
def yT{x:α}{l:List α}:fJ right k b (x::l)=aa↔right x=aa/\b<k x/\fJ right k (k x) l=aa:=by rw[fJ,bR,bR,decide_eq_true_eq,and_assoc]
def apm{m:Int}{l:List α}(h:fJ right k b l=aa)(d:m<=b):fJ right k m l=aa:=by
 cases l with|nil=>rfl|cons x l=>rw[yT]at h ⊢;exact⟨h.1,by omega,h.2.2⟩
def yU{l:List α}:∀{last:Int},fJ right k last l=aa->∀x∈l,right x=aa/\last<k x:=by
 induction l with
 |nil=>intro _ _ x d;cases d
 |cons y l e=>
  intro last h x d;rw[yT]at h;rcases gX.1 d with rfl|d
  .exact⟨h.1,h.2.1⟩
  .have:=e h.2.2 x d;exact⟨this.1,by omega⟩
def Uv(n:Int)(l:List α):lH k n l<=F l:=by
 induction l with
 |nil=>exact aT _|cons y l d=>rw[lH,eR];split<;>omega
def amA{x y:α}{l:List α}(h:k y<k x):n_ k x (y::l)=y::n_ k x l:=by unfold n_;rw[lH,aC h];rfl
def amz{x y:α}{l:List α}(h:¬k y<k x):n_ k x (y::l)=x::y::l:=by unfold n_;rw[lH,aL h];rfl
def YO(x:α)(l:List α):F (n_ k x l)=F l+1:=by unfold n_;have:=Uv (k:=k) (k x) l;rw[db,eR,dF,fL];omega
def ajN{n:Int}{y:α}{l:List α}(h:k y<n):pY k n (y::l)=pY k n l:=by unfold pY;rw[lH,aC h,oX]
def Wk{n:Int}{y:α}{l:List α}(h:¬k y<n):pY k n (y::l)=if k y=n then J y else ao:=by unfold pY;rw[lH,aL h];rfl
def afq{l:List α}{n:Int}(hi:i<=F l)(e:∀(j:Nat) y,j<i->l[j]?=J y->k y<n)(g:∀y,l[i]?=J y->¬k y<n):lH k n l=i:=by
 induction l generalizing i with
 |nil=>simp at hi;subst hi;rfl|cons y l p=>
  cases i with|zero=>rw[lH,aL (g y O)]|succ i=>rw[lH,aC (e 0 y (Nat.zero_lt_succ _) O),p (i:=i) (by simpa using hi) (λj q s d=>e (j+1) q ag (by simpa using d)) λq d=>g q (by simpa using d)]
def aap{l:List α}:∀{last:Int},fJ right k last l=aa->∀{i j:Nat} {x y:α},l[i]?=J x->l[j]?=J y->i<j->k x<k y:=by
 induction l with
 |nil=>intro _ _ i j x y h;simp at h|cons q l g=>
  intro last h i j x y d e p;rw[yT]at h;cases j with
  |zero=>omega|succ j=>
   cases i with|zero=>simp at d;subst d;exact(yU h.2.2 y (dk (by simpa using e))).2|succ i=>exact g h.2.2 (by simpa using d) (by simpa using e) ag
end
deriving instance DecidableEq for Pr
def pJ(ak:List Int)(p:Pr):Bool:=ak.contains p.bC&&decide (0<=p.no)&&decide (p.no<4096)&&b8 p.d&&b8 p.e
def oQ(ak:List Int)(z:Int × Int):Bool:=ak.contains z.1&&cA z.2
def Ce.ej(c:Ce):Int:=NT.ej c.U c.ae c.ep c.aH c.doc c.ak
def gE(c:Ce):Int:=
 if c.ej≠0 then 440
 else if (fJ (pJ c.ak) Pr.bC (-1) c.bH&&fJ (oQ c.ak) ju (-1) c.aS)=ar then 440
 else if F c.bH≠F c.ak/\c.aS≠[] then 440 else 0
def DM{α:Type}[DecidableEq α](k:α->Int)(x:α)(l:List α):Int × List α:=
 match pY k (k x) l with
 |some y=>if y=x then (0,l) else (151,[])
 |none=>(0,n_ k x l)
def mD(c:Ce)(p:Pr):Int × List Pr:=
 if gE c≠0 then (440,[]) else if pJ c.ak p=ar then (420,[]) else DM Pr.bC p c.bH
def mY(c:Ce)(z:Int × Int):Int × List (Int × Int):=
 if gE c≠0 then (440,[]) else if oQ c.ak z=ar then (400,[]) else if F c.bH≠F c.ak then (420,[]) else DM ju z c.aS
section
variable {α:Type} [DecidableEq α] {k:α->Int} {right:α->Bool} {x y:α} {l m:List α}
end
def E3{c}:gE c=0↔c.ej=0/\fJ (pJ c.ak) Pr.bC (-1) c.bH=aa/\fJ (oQ c.ak) ju (-1) c.aS=aa/\(c.aS≠[]->F c.bH=F c.ak):=by
 unfold gE;by_cases d:c.ej=0
 .rw[aL (by simp[d])];cases p:fJ (pJ c.ak) Pr.bC (-1) c.bH<;>cases q:fJ (oQ c.ak) ju (-1) c.aS<;>simp[d];by_cases e:c.aS=[]
  .simp[e]
  .by_cases g:F c.bH=F c.ak
   .simp[g]
   .simp[e,g]
 .rw[aC (by simp[d])];simp[d]
def Gj{c:Ce}(h:c.ej=0):dD (-1) c.ak=aa:=by
 unfold Ce.ej NT.ej at h;split at h
 .rename_i d;exact absurd h d
 split at h
 .exact absurd h aZ
 split at h
 .exact absurd h aZ
 split at h
 .exact absurd h aZ
 .rename_i d;simpa using d
section
variable {α:Type} [DecidableEq α] {right:α->Bool} {k:α->Int}
def ajO{P:α->Bool}{p:α}{l:List α}:∀{last:Int},fJ right k last l=aa->p∈l->pY k (k p) (l.filter P)=if P p then J p else ao:=by
 induction l with
 |nil=>intro _ _ d;cases d
 |cons v l g=>
  intro last h d;rw[yT]at h;rcases gX.1 d with rfl|d
  .cases e:P p with
   |true=>rw[zI e,Wk ag,aC O];rfl|false=>
    rw[zH (by rw[e];simp)];cases q:l.filter P with|nil=>rfl|cons y t=>have s:y∈l:=(rH.1 (by rw[q];exact gj)).1;have:=(yU h.2.2 y s).2;rw[Wk ag,aL ag];rfl
  .have u:=(yU h.2.2 p d).2;cases e:P v with|true=>rw[zI e,ajN u];exact g h.2.2 d|false=>rw[zH (by rw[e];simp)];exact g h.2.2 d
def amB{P:α->Bool}{p:α}{l:List α}:∀{last:Int},fJ right k last l=aa->p∈l->P p=ar->n_ k p (l.filter P)=l.filter λq=>P q||decide (q=p):=by
 induction l with
 |nil=>intro _ _ d;cases d
 |cons H l z=>
  intro last h d s;rw[yT]at h;rcases gX.1 d with rfl|d
  .rw[zH (by rw[s];simp),zI cB];have u:(l.filter λq=>P q||decide (q=p))=l.filter P:=(by refine adC λq C=>?_;have g:q≠p:=λu=>(by have:=(yU h.2.2 q C).2;rw[u]at this;omega);simp[g]);rw[u];cases A:l.filter P with|nil=>rfl|cons y t=>have D:y∈l:=(rH.1 (by rw[A];exact gj)).1;have:=(yU h.2.2 y D).2;rw[amz ag]
  .have v:=(yU h.2.2 p d).2;have g:H≠p:=λu=>(by rw[u]at v;omega);cases e:P H with|true=>rw[zI e,zI (by simp[e]),amA v,z h.2.2 d s]|false=>rw[zH (by rw[e];simp),zH (by simp[e,g]),z h.2.2 d s]
def aa3{P:α->Bool}{p:α}{l:List α}(h:fJ right k b l=aa)(g:p∈l):DM k p (l.filter P)=(0,l.filter λq=>P q||decide (q=p)):=by
 have d:=ajO (P:=P) h g;unfold DM;cases e:P p with
 |true=>
  rw[e,aC O]at d;rw[d];simp only[if_true];refine congrArg _ (adC λq u=>?_);by_cases s:q=p
  .rw[s,e];simp
  .simp[s]
 |false=>rw[e]at d;simp only[jE,if_false]at d;rw[d];simp only;rw[amB h g e]
def aao{P:α->Bool}{l:List α}:∀{last:Int},fJ right k last l=aa->fJ right k last (l.filter P)=aa:=by
 induction l with
 |nil=>intro _ h;exact h|cons g l e=>
  intro last h;rw[yT]at h;cases d:P g with|true=>rw[zI d,yT];exact⟨h.1,h.2.1,e h.2.2⟩|false=>rw[zH (by rw[d];simp)];exact e (apm h.2.2 ag)
end
def apJ{c:Ce}{P}{p}(u:c.ej=0)(g:c.aS=[])(d:fJ (pJ c.ak) Pr.bC (-1) l=aa)(e:p∈l):
 mD {c with bH:=l.filter P} p=(0,l.filter λq=>P q||decide (q=p)):=by
 have s:gE {c with bH:=l.filter P}=0:=E3.2 ⟨u,aao d,by rw[g];rfl,λq=>absurd g q⟩;unfold mD;rw[aL (by rw[s];simp),aL (by have:=(yU d p e).1;rw[this];simp)];exact aa3 d e
def apQ{c:Ce}{z}{P}{p}(v:c.ej=0)(u:fJ (pJ c.ak) Pr.bC (-1) c.bH=aa)(g:F c.bH=F c.ak)(d:fJ (oQ c.ak) ju (-1) z=aa)(e:p∈z):
 mY {c with aS:=z.filter P} p=(0,z.filter λq=>P q||decide (q=p)):=by
 have s:gE {c with aS:=z.filter P}=0:=E3.2 ⟨v,u,aao d,λ_=>g⟩;unfold mY;rw[aL (by rw[s];simp),aL (by have:=(yU d p e).1;rw[this];simp),aL (by simp[g])];exact aa3 d e
def filter_all{α:Type}{P}{l:List α}(h:∀x∈l,P x=aa):l.filter P=l:=List.filter_eq_self.2 h
end Go.NT
end
section
namespace Go.AE
variable{b aY g i j k l m n off size sz:Nat}{T c p q v:a_}{tmps:Array a_}{w w':cC}{vs:List a_}{t t0 t1 ty:aX}{o:Oper}{f:bk}{ops:Array Oper}{rest:List Nat}
inductive Tok where
 |nil|aK|free (n:Nat)|held
 deriving DecidableEq,Inhabited
inductive Ref where
 |box (b:Nat)|dU (g:Nat)
 deriving DecidableEq,Inhabited
inductive I where
 |bad
 |v (x:a_)
 |ac (k:Tok) (sz:Nat) (es:List (List I))
 |arr (b off len aY:Nat)
 |agg (cs:List I)
 |tuple (vs:List I)
 |ptr (r:Ref) (off:Nat)
 |elem (sz:Nat) (es:List (List I)) (i off:Nat)
 |func (fn:Fn) (first aY:List I)
 |yield (l:Nat)
 |iface (t:aX) (x:I)
 deriving Inhabited
variable{args cs xs zero:List I}{a r x y:I}{es U:List (List I)}
instance:Coe Nat I:=⟨λn=>.v (.int .i64 n)⟩
instance:Coe Int I:=⟨λn=>.v (.int .i64 n)⟩
instance:Coe Bool I:=⟨λn=>.v (.bool n)⟩
def eP{α:Type}(P:bO):Sem α->Option α
 | .pure a=>J a
 | .program k=>eP P (k P)
 | .mark _ k=>eP P k
 |_=>ao
def scalar:a_->Bool
 | .bool _| .int .. | .float .. | .complex .. | .string _| .nilFunc| .nilIface| .pointer ao| .map ao| .chan ao=>aa
 |_=>ar
def nC(z:a_):Option I:=if scalar z then J (.v z) else ao
def I.dm:I->Bool
 | .agg _| .tuple _| .bad=>ar
 |_=>aa
def I.bL:I->Option (List I)
 | .agg cs=>if cs.all I.dm then J cs else ao
 | .tuple _| .bad=>ao
 |x=>J [x]
def us(x:a_):I:=
 match x with
 | .slice ao 0 0=>.ac .nil 0 []
 |x=>if scalar x then .v x else .bad
def qy:a_->I
 | .agg cs=>.agg (cs.toList.map us)
 | .tuple d=>if d.size=0 then .tuple [] else .bad
 | .iface t x=>.iface t (us x)
 |x=>us x
def Am:List I->Option (List a_)
 | []=>J []
 | .v x::r=>(Am r).map (x::·)
 |_=>ao
def I.flat:I->Option a_
 | .v x=>J x
 | .agg cs=>(Am cs).map λl=>.agg l.toArray
 | .iface t (.v x)=>J (.iface t x)
 | .iface t (.agg cs)=>(Am cs).map λl=>.iface t (.agg l.toArray)
 | .ac .nil _ []=>J (.slice ao 0 0)
 |_=>ao
def flatAll:List I->Option (List a_)
 | []=>J []
 |x::r=>match x.flat,flatAll r with|some d,J l=>J (d::l)|_,_=>ao
def ip:a_->a_->Bool
 | .int k n,.int d e=>decide (k=d)&&decide (n=e)
 | .bool a,.bool b=>a==b
 | .string g,.string p=>g.data.toList==p.data.toList
 | .nilFunc,.nilFunc| .nilIface,.nilIface| .pointer ao,.pointer ao=>aa
 |_,_=>ar
def Lm:Ref->Ref->Bool
 | .box a,.box b| .dU a,.dU b=>iJ a b
 |_,_=>ar
def tK:Tok->Tok->Bool
 | .nil,.nil| .aK,.aK| .held,.held=>aa
 | .free a,.free b=>iJ a b
 |_,_=>ar
mutual
def df:I->I->Bool
 | .v x,.v y=>ip x y
 | .ac k v s,.ac D g d=>tK k D&&iJ v g&&nB s d
 | .arr b o l c,.arr p e u A=>iJ b p&&iJ o e&&iJ l u&&iJ c A
 | .agg cs,.agg q=>gJ cs q
 | .tuple cs,.tuple q=>gJ cs q
 | .ptr r o,.ptr E e=>Lm r E&&iJ o e
 | .elem v s i o,.elem g d C e=>iJ v g&&iJ i C&&iJ o e&&nB s d
 | .yield l,.yield u=>iJ l u
 | .iface t x,.iface H y=>iJ t H&&df x y
 | .func (.func f) a b,.func (.func L) z p=>iJ f L&&gJ a z&&gJ b p
 |_,_=>ar
def gJ:List I->List I->Bool
 | [],[]=>aa
 |x::d,y::e=>df x y&&gJ d e
 |_,_=>ar
def nB:List (List I)->List (List I)->Bool
 | [],[]=>aa
 |x::d,y::e=>gJ x y&&nB d e
 |_,_=>ar
end
structure o0 where
 ch:List (Nat × I)
 base:List I
 deriving Inhabited
variable{s:o0}
def look(d:List I):List (Nat × I)->Nat->I
 | [],t=>d.getD t (.tuple [])
 |p::r,t=>bif iJ p.1 t then p.2 else look d r t
def o0.get(s:o0)(t:Nat):I:=look s.base s.ch t
def o0.set(s:o0)(t:Nat)(x:I):o0:={s with ch:=(t,x)::s.ch}
structure iq where
 tmps:o0
 params:Array Tmp
 assign:Code
 body:Code
 state:LoopState
 pending:Option Code
 deriving Inhabited
structure am where
 V:List (List I)
 aB:List iq
 tn:Nat
 dead:List Nat
 deriving Inhabited
variable{h h' z:am}
structure Env where
 tmps:o0
 defers:List (bk × List I)
 da:Option (I × Bool)
 round:Option Nat
 deriving Inhabited
variable{E e e2:Env}
inductive Xt where
 |normal
 |exit (id:Nat)
 |ret
 |panic (x:I)
 deriving Inhabited
inductive dP where
 |ret (x:I)
 |panic (x:I)
 deriving Inhabited
def Env.get(e:Env)(t:Nat):I:=e.tmps.get t
def Env.put(e:Env)(d:Option Tmp)(x:I):Env:=
 match d with
 |some g=>{e with tmps:=e.tmps.set g x}
 |none=>e
def ajb(tmps:o0):b9->I
 | .tmp t=>tmps.get t
 | .const e=>qy e
 | .global d=>.ptr (.dU d) 0
 | .func f=>.func (.func f) [] []
def Env.eval(e:Env)(x:b9):I:=ajb e.tmps x
section
variable (P:bO)
def cN(t:aX):Option Nat:=(P.info? t).map (·.size)
def fR(t:aX):Option Bool:=
 match P.underlying t with
 |some (.struct _)|some (.array _ _)=>J aa
 |some _=>J ar
 |none=>ao
def fY(t:aX):Option I:=
 match P.info? t with
 |some i=>i.zero.map qy
 |none=>ao
def Gq(t:aX)(cs:List I)(off:Nat):Option I:=
 match fR P t with
 |some aa=>(cN P t).map λn=>.agg ((cs.drop off).take n)
 |some ar=>cs[off]?
 |none=>ao
end
def am.box(h:am)(cs:List I):I × am:=(.ptr (.box (F h.V)) 0,{h with V:=h.V++[cs]})
def am.fresh(h:am)(sz:Nat)(es:List (List I)):I × am:=(.ac (.free h.tn) sz es,{h with tn:=h.tn+1})
def Rt(G:Nat->Option (List I))(h:am):Ref->Option (List I)
 | .box b=>h.V[b]?
 | .dU d=>G d
def Ae(G:Nat->Option (List I))(h:am):I->Option (List I)
 | .ptr r d=>(Rt G h r).map (·.drop d)
 | .elem _ e i d=>(e[i]?).map (·.drop d)
 |_=>ao
def aF(P:bO)(G:Nat->Option (List I))(h:am)(t:aX)(a:I):Option I:=
 match fR P t,Ae G h a with
 |some aa,J cs=>
  match cN P t with
  |some n=>if n<=F cs then J (.agg (cs.take n)) else ao
  |none=>ao
 |some ar,J cs=>cs.head?
 |_,_=>ao
def dW(d:List I)(off:Nat)(cs:List I):List I:=d.take off++cs++d.drop (off+F cs)
def bU(P:bO)(h:am)(t:aX)(a x:I):Option am:=
 match a,x.bL,cN P t with
 | .ptr (.box b) d,J cs,J n=>
  match h.V[b]? with
  |some e=>if F cs=n/\d+n<=F e then J {h with V:=h.V.set b (dW e d cs)} else ao
  |none=>ao
 |_,_,_=>ao
def sV(d:Nat->Option (Nat × Nat))(cells:List I):List (Nat × I)->Option (List I)
 | []=>J cells
 |(i,x)::rest=>
  match d i,x.bL with
  |some (g,e),J cs=>if F cs=e/\g+e<=F cells then sV d (dW cells g cs) rest else ao
  |_,_=>ao
def yl(sz:Nat)(U:List (List I)):List (Nat × I)->Option (List (List I))
 | []=>J U
 |(i,x)::rest=>
  match x.bL with
  |some cs=>if F cs=sz/\i<F U then yl sz (U.set i cs) rest else ao
  |none=>ao
def placesOf(P:bO)(fields:Array Field)(i:Nat):Option (Nat × Nat):=
 match fields[i]? with
 |some f=>(cN P f.type).map λn=>(f.offset,n)
 |none=>ao
def iK(P:bO)(t:aX)(aS:List (Nat × I)):Option I:=
 match P.underlying t,(fY P t).bind I.bL with
 |some (.struct fields),J zero=>
  if fields.all λf=>(P.info? f.type).isSome then (sV (placesOf P fields) zero aS).map .agg else ao
 |some (.array _ elem),J zero=>
  match cN P elem with
  |some d=>(sV (λi=>J (i*d,d)) zero aS).map .agg
  |none=>ao
 |_,_=>ao
def fF(P:bO)(t:aX)(len:Nat)(aS:List (Nat × I)):Option I:=
 match P.underlying t with
 |some (.slice elem)=>
  match cN P elem,(fY P elem).bind I.bL with
  |some d,J zero=>
   if 0<d/\F zero=d/\len*d<=16777216 then (yl d (bT len zero) aS).map (.ac .aK d) else ao
  |_,_=>ao
 |_=>ao
def w8(P:bO)(h:am)(t:aX)(l c:I):Option (I × am):=
 match P.underlying t,l,c with
 |some (.slice elem),.v (.int _ l),.v (.int _ c)=>
  match P.info? elem,(fY P elem).bind I.bL with
  |some i,J zero=>
   if 0<=l/\l<=c/\c<9223372036854775808/\i.bytes*c<=281474976710656/\0<i.size/\F zero=i.size then
    J (.arr (F h.V) 0 l.toNat c.toNat,{h with V:=h.V++[(bT c.toNat zero).flatten]})
   else ao
  |_,_=>ao
 |_,_,_=>ao
def rowsOf(h:am)(size:Nat):I->Option (List (List I))
 | .ac _ g e=>if g=size∨e=[] then J e else ao
 | .arr b d len _=>
  match h.V[b]? with
  |some cs=>if d+len*size<=F cs then J ((bE len).map λi=>(cs.drop (d+i*size)).take size) else ao
  |none=>ao
 |_=>ao
def iL(b:UInt8):List I:=[.v (.int .u8 b.toNat)]
def byteOf:List I->Option UInt8
 | [.v (.int .u8 n)]=>J (UInt8.ofNat n.toNat)
 |_=>ao
def bytesOf:List (List I)->Option (List UInt8)
 | []=>J []
 |r::rest=>match byteOf r,bytesOf rest with|some b,J l=>J (b::l)|_,_=>ao
def jX(h:am)(size:Nat):I->Option (List (List I))
 | .v (.string d)=>if size=1 then J (d.data.toList.map iL) else ao
 |x=>rowsOf h size x
def alive(h:am)(n:Nat):Bool:=decide (n<h.tn)&& !h.dead.contains n
def LV(P:bO)(h:am)(ts:Array aX)(elem:aX)(s x:I):Option (I × am):=
 match s,x with
 | .ac .nil _ [],.v (.int _ n)=>
  match P.info? elem,(fY P elem).bind I.bL with
  |some i,J zero=>
   if ts.size=2/\0<n/\n*i.bytes<=140737488355328/\n<=9223372036854775807/\0<i.size/\F zero=i.size then
    J (.arr (F h.V) 0 n.toNat n.toNat,{h with V:=h.V++[(bT n.toNat zero).flatten]})
   else ao
  |_,_=>ao
 |_,_=>ao
def gB(P:bO)(h:am)(ts:Array aX)(s x:I):Option (I × am):=
 match (ts[0]?).bind P.underlying,(ts[1]?).bind P.underlying with
 |some (.slice elem),J (.int _)=>LV P h ts elem s x
 |some (.slice elem),J _=>
  match P.info? elem with
  |none=>ao
  |some i=>
   match jX h i.size x with
   |none=>ao
   |some new=>
    if 0<i.size/\(i.zero.map λq=>q.cells.size)=J i.size then
     match s with
     | .ac k p e=>
      if p=i.size∨e=[] then
       if new=[] then J (s,h)
       else if (F e+F new)*i.bytes<=140737488355328/\F e+F new<=9223372036854775807 then
        match k with
        | .nil| .aK=>J (h.fresh i.size (e++new))
        | .free n=>if alive h n&&decide (p=i.size) then J ({h with dead:=n::h.dead}.fresh i.size (e++new)) else ao
        | .held=>ao
       else ao
      else ao
     | .arr b g len d=>
      match h.V[b]? with
      |some cs=>
       if len+F new<=d/\g+d*i.size<=F cs then
        J (.arr b g (len+F new) d,{h with V:=h.V.set b (dW cs (g+len*i.size) new.flatten)})
       else ao
      |none=>ao
     |_=>ao
    else ao
 |_,_=>ao
def Hl(G:Nat->Option (List I))(d:Option Tmp)(t:aX):Bool:=(G (1000000+1000*t+d.getD 0)).isSome
def nD(P:bO)(h:am)(ts:Array aX)(s x:I):Option (I × am):=
 match (ts[0]?).bind P.underlying,(ts[1]?).bind P.underlying with
 |some (.slice _),J (.int _)=>ao
 |some (.slice elem),J _=>
  match P.info? elem with
  |none=>ao
  |some i=>
   match jX h i.size x with
   |none=>ao
   |some new=>
    if 0<i.size/\(i.zero.map λq=>q.cells.size)=J i.size then
     match s with
     | .ac k p d=>
      if p=i.size∨d=[] then
       if new=[] then J (s,h)
       else if (F d+F new)*i.bytes<=140737488355328/\F d+F new<=9223372036854775807 then
        match k with
        | .nil| .aK=>J (.arr (F h.V) 0 (F d+F new) (F d+F new),{h with V:=h.V++[(d++new).flatten]})
        |_=>ao
       else ao
      else ao
     | .arr b g len e=>
      match h.V[b]? with
      |some cs=>
       if len+F new<=e then gB P h ts s x
       else if g=0/\0<len/\len=e/\len*i.size=F cs/\(len+F new)*i.bytes<=140737488355328/\len+F new<=9223372036854775807 then
        J (.arr (F h.V) 0 (len+F new) (len+F new),{h with V:=h.V.set b []++[cs++new.flatten]})
       else ao
      |none=>ao
     |_=>ao
    else ao
 |_,_=>ao
def yd(P:bO)(h:am)(ts:Array aX)(d s:I):Option (I × am):=
 match (ts[0]?).bind P.underlying with
 |some (.slice elem)=>
  match P.info? elem,d with
  |some i,.arr b e len g=>
   match jX h i.size s,h.V[b]? with
   |some U,J cs=>
    if e+len*i.size<=F cs/\len<=g then
     J (.v (.int .i64 (nN (F U) len:Nat)),{h with V:=h.V.set b (dW cs e (U.take (nN (F U) len)).flatten)})
    else ao
   |_,_=>ao
  |_,_=>ao
 |_=>ao
def dp(P:bO)(t:aX)(x:I):Option I:=
 match P.underlying t,x with
 |some .string,.v (.string e)=>J (.v (.int .i64 e.size))
 |some (.array n _),_=>J (.v (.int .i64 n))
 |some (.pointer a),_=>match P.underlying a with|some (.array n _)=>J (.v (.int .i64 n))|_=>ao
 |some (.slice _),.ac _ _ d=>J (.v (.int .i64 (F d)))
 |some (.slice _),.arr _ _ len _=>J (.v (.int .i64 len))
 |_,_=>ao
def Cb(P:bO)(t:aX)(x:I):Option I:=
 match P.underlying t,x with
 |some (.slice _),.ac .aK _ d=>J (.v (.int .i64 (F d)))
 |some (.slice _),.ac .nil _ d=>J (.v (.int .i64 (F d)))
 |some (.array n _),_=>J (.v (.int .i64 n))
 |_,_=>ao
def gC(hi:Nat):Option I->Nat->Option Nat
 |none,d=>J d
 |some (.v (.int _ n)),_=>if 0<=n/\n<=hi then J n.toNat else ao
 |_,_=>ao
def qX(k:Tok)(d Qq:Bool)(n:Nat):Tok:=
 match k with
 | .nil=>.nil
 | .aK=>if d||Qq then .aK else .held
 | .free t=>if Qq then .aK else if d&&n !=0 then .free t else .held
 | .held=>if Qq then .aK else .held
def gV(P:bO)(t:aX)(x:I)(lo hi mx:Option I):Option I:=
 if mx.isSome&&hi.isNone then ao else
 match P.underlying t,x with
 |some .string,.v (.string s)=>
  if mx.isSome then ao else
  match gC s.size hi s.size with
  |some h=>match gC h lo 0 with
   |some l=>J (.v (.string (s.extract l h)))
   |none=>ao
  |none=>ao
 |some (.slice elem),.ac k q g=>
  match cN P elem,gC (F g) mx (F g) with
  |some d,J m=>match gC m hi (F g) with
   |some h=>match gC h lo 0 with
    |some l=>
     if d=q∨g=[] then J (.ac (qX k (decide (h=F g)&&mx.isNone) (mx.isSome&&decide (h=m)) (h-l)) q ((g.take h).drop l)) else ao
    |none=>ao
   |none=>ao
  |_,_=>ao
 |some (.slice elem),.arr b e len p=>
  match cN P elem,gC p mx p with
  |some d,J m=>match gC m hi len with
   |some h=>match gC h lo 0 with
    |some l=>if d=0 then ao else if mx.isSome/\m=l then J (.ac .aK d []) else J (.arr b (if m=l then e else e+l*d) (h-l) (m-l))
    |none=>ao
   |none=>ao
  |_,_=>ao
 |some (.array n elem),.ptr (.box b) e=>
  match cN P elem,gC n mx n with
  |some d,J m=>match gC m hi n with
   |some h=>match gC h lo 0 with
    |some l=>J (.arr b (if m=l then e else e+l*d) (h-l) (m-l))
    |none=>ao
   |none=>ao
  |_,_=>ao
 |_,_=>ao
def dQ(P:bO)(s:aX)(x:I)(f:Nat):Option I:=
 match P.underlying s with
 |some (.struct fields)=>
  match fields[f]? with
  |some e=>
   match cN P e.type with
   |some 0=>ao
   |some _=>match x with
    | .ptr r d=>J (.ptr r (d+e.offset))
    | .elem p g i d=>J (.elem p g i (d+e.offset))
    |_=>ao
   |none=>ao
  |none=>ao
 |_=>ao
def dM(P:bO)(t:aX)(x ix:I):Option I:=
 match P.underlying t,x,ix with
 |some (.slice elem),.ac _ p g,.v (.int _ i)=>if 0<=i/\i<F g/\cN P elem=J p then J (.elem p g i.toNat 0) else ao
 |some (.slice elem),.arr b e len _,.v (.int _ i)=>
  match cN P elem with
  |some d=>if 0<=i/\i<len then J (.ptr (.box b) (e+i.toNat*d)) else ao
  |none=>ao
 |some (.array len elem),.ptr r e,.v (.int _ i)=>
  match cN P elem with
  |some d=>if 0<=i/\i<len then J (.ptr r (e+i.toNat*d)) else ao
  |none=>ao
 |some (.array len elem),.elem p g k e,.v (.int _ i)=>
  match cN P elem with
  |some d=>if 0<=i/\i<len then J (.elem p g k (e+i.toNat*d)) else ao
  |none=>ao
 |_,_,_=>ao
def A7(P:bO)(t:aX)(x ix:I):Option I:=
 match P.underlying t,x,ix with
 |some .string,.v (.string e),.v (.int _ i)=>
  match (if 0<=i then e.data[i.toNat]? else ao) with
  |some b=>J (.v (.int .u8 b.toNat))
  |none=>ao
 |some (.array len elem),.agg cs,.v (.int _ i)=>
  match cN P elem with
  |some d=>if 0<=i/\i<len then Gq P elem cs (i.toNat*d) else ao
  |none=>ao
 |_,_,_=>ao
def isIface(P:bO)(t:aX):Option Bool:=
 match P.underlying t with
 |some (.interface _)=>J aa
 |some _=>J ar
 |none=>ao
def u7(P:bO)(x:I)(d:aX)(e:Bool):Option I:=
 match isIface P d,x with
 |some ar,.iface t y=>if t=d then J (if e then .tuple [y,.v (.bool aa)] else y)
  else if e then (fY P d).map λg=>.tuple [g,.v (.bool ar)] else ao
 |some ar,.v .nilIface=>if e then (fY P d).map λg=>.tuple [g,.v (.bool ar)] else ao
 |_,_=>ao
def tY(d:BinOp)(b:Bool):Option I:=
 match d with
 | .eql=>J (.v (.bool b))
 | .neq=>J (.v (.bool !b))
 |_=>ao
def In(P:bO)(d:BinOp)(t:aX)(x y:b9)(a b:I):Option I:=
 match a.flat,b.flat with
 |some e,J g=>(eP P (do eqGuard d t x y e g;binOp d t e g)).bind nC
 |_,_=>ao
def de(P:bO)(d:BinOp)(t:aX)(x y:b9)(a b:I):Option I:=
 match a,b with
 | .v (.string e),.v (.string g)=>
  match d with
  | .eql=>J (.v (.bool (e.data.toList==g.data.toList)))
  | .neq=>J (.v (.bool !(e.data.toList==g.data.toList)))
  | .add=>if e.size+g.size<=9223372036854775807 then J (.v (.string (e++g))) else ao
  |_=>In P d t x y a b
 | .iface _ _,.v .nilIface=>if isIface P t=J aa then tY d ar else ao
 | .v .nilIface,.iface _ _=>if isIface P t=J aa then tY d ar else ao
 | .ptr _ _,.v (.pointer ao)=>(match P.underlying t with|some (.pointer _)=>tY d ar|_=>ao)
 | .v (.pointer ao),.ptr _ _=>(match P.underlying t with|some (.pointer _)=>tY d ar|_=>ao)
 | .func _ _ _,.v .nilFunc=>(match P.underlying t with|some (.func ..)=>tY d ar|_=>ao)
 | .v .nilFunc,.func _ _ _=>(match P.underlying t with|some (.func ..)=>tY d ar|_=>ao)
 | .ac k _ _,.ac .nil _ []=>(match P.underlying t with|some (.slice _)=>tY d (decide (k=.nil))|_=>ao)
 |a,b=>In P d t x y a b
def Ho(P:bO)(d:UnOp)(x:I):Option I:=
 match x.flat with
 |some e=>(eP P (Op.unary d e)).bind nC
 |none=>ao
def lM(P:bO)(h:am)(src d:aX)(x:I):Option (I × am):=
 match P.underlying src,P.underlying d,x with
 |some .string,J (.slice e),.v (.string q)=>
  match P.underlying e,P.info? e with
  |some (.int .u8),J i=>if i.size=1 then J (h.fresh 1 (q.data.toList.map iL)) else ao
  |_,_=>ao
 |some (.slice e),J .string,x=>
  match P.underlying e,rowsOf h 1 x with
  |some (.int .u8),J U=>(bytesOf U).map λl=>(.v (.string ⟨l.toArray⟩),h)
  |_,_=>ao
 |some (.slice e),J (.slice _),.ac (.free t) p g=>
  match P.underlying e with
  |some (.int .u8)=>if src=d/\alive h t=aa then J (.ac .held p g,{h with dead:=t::h.dead}) else ao
  |_=>ao
 |some (.slice _),J (.slice _),_=>ao
 |some _,J _,.v x=>((eP P (convert src d x)).bind nC).map λs=>(s,h)
 |_,_,_=>ao
def Ks(c a b:I):Option I:=
 match c with
 | .v (.bool t)=>J (if t then a else b)
 |_=>ao
def QI(x:I):Option I:=
 match x with
 | .ptr .. | .elem .. | .func (.func _) _ _| .yield _| .iface .. =>J x
 |_=>ao
def vk(aS:Array (Nat × b9)):Bool:=
 match aS.toList with
 |(_,.const (.int .u8 _))::_::_=>aa
 |_=>ar
def dH(P:bO)(G:Nat->Option (List I))(ρ:b9->I)(h:am)(o:Op):Option (I × am):=
 match o with
 | .move x| .assign x=>J (ρ x,h)
 | .pick c a b=>(Ks (ρ c) (ρ a) (ρ b)).map (·,h)
 | .alloc t=>((fY P t).bind I.bL).map h.box
 | .box _ x=>((ρ x).bL).map h.box
 | .build t aS=>(iK P t (aS.toList.map λe=>(e.1,ρ e.2))).map (·,h)
 | .buildSlice t len aS=>
  match vk aS with
  |false=>(fF P t len (aS.toList.map λe=>(e.1,ρ e.2))).map (·,h)
  |true=>(match fF P t len (aS.toList.map λe=>(e.1,ρ e.2)) with|some (.ac _ D s)=>J (h.fresh D s)|_=>ao)
 | .load t a=>(aF P G h t (ρ a)).map (·,h)
 | .store t a x=>(bU P h t (ρ a) (ρ x)).map (.tuple [],·)
 | .nilCheck x=>(QI (ρ x)).map (·,h)
 | .binOp g t x y _=>(de P g t x y (ρ x) (ρ y)).map (·,h)
 | .unOp g _ x=>(Ho P g (ρ x)).map (·,h)
 | .convert C H x=>lM P h C H (ρ x)
 | .makeInterface t x=>if isIface P t=J ar then J (.iface t (ρ x),h) else ao
 | .makeFunc u first p=>J (.func u (first.toList.map ρ) (p.toList.map ρ),h)
 | .makeSlice t l c=>w8 P h t (ρ l) (ρ c)
 | .slice t x z v A=>(gV P t (ρ x) (z.map ρ) (v.map ρ) (A.map ρ)).map (·,h)
 | .fieldAddr C x f=>(dQ P C (ρ x) f).map (·,h)
 | .field t x f=>
  match P.underlying t,ρ x with
  |some (.struct fields),.agg cs=>(match fields[f]? with|some q=>(Gq P q.type cs q.offset).map (·,h)|none=>ao)
  |_,_=>ao
 | .indexAddr t x i=>(dM P t (ρ x) (ρ i)).map (·,h)
 | .index t x i=>(A7 P t (ρ x) (ρ i)).map (·,h)
 | .typeAssert x _ d ok=>(u7 P (ρ x) d ok).map (·,h)
 | .extract x i=>(match ρ x with| .tuple E=>(E[i]?).map (·,h)|_=>ao)
 |_=>ao
def iQ(P:bO)(h:am)(b:Builtin)(ts:Array aX)(ty:aX)(args:List I):Option (I × am):=
 match b,args with
 | .len,[x]=>(match ts[0]? with|some t=>(dp P t x).map (·,h)|none=>ao)
 | .cap,[x]=>(match ts[0]? with|some t=>(Cb P t x).map (·,h)|none=>ao)
 | .append,[e,x]=>gB P h ts e x
 | .copy,[g,e]=>yd P h ts g e
 | .min,d=>(match flatAll d with|some l=>((eP P (Builtin.min_ ts ty l.toArray)).bind nC).map (·,h)|none=>ao)
 | .max,d=>(match flatAll d with|some l=>((eP P (Builtin.max_ ts ty l.toArray)).bind nC).map (·,h)|none=>ao)
 |_,_=>ao
def qV(P:bO)(G:Nat->Option (List I))(d:Option Tmp)(h:am)(b:Builtin)(ts:Array aX)(ty:aX)(args:List I):Option (I × am):=
 match b,args with
 | .append,[e,x]=>if Hl G d ty then nD P h ts e x else gB P h ts e x
 |b,args=>iQ P h b ts ty args
structure Rec where
 code:Code->Env->am->Option (Xt × Env × am)
 call:bk->List I->am->Option (dP × am)
 iS:bk->List I->Option (I × Bool)->am->Option (dP × Option (I × Bool) × am)
 round:Nat->List I->am->Option (dP × am)
def Qz(P:bO)(t:aX)(name:String):Option bk:=
 match P.info? t with
 |some i=>
  match i.methods.find? (·.name==name) with
  |some m=>
   match m.path.toList,m.func,P.underlying t with
   | [],J (f,aa),J (.pointer _)=>J f
   | [],J (_,_),J (.pointer _)=>ao
   | [],J (f,ar),J _=>J f
   |_,_,_=>ao
  |none=>ao
 |none=>ao
def lI(P:bO)(R:Rec)(e:Env)(h:am)(c:Call):Option (dP × am):=
 let d:=c.args.toList.map e.eval
 match c.callee with
 | .builtin _=>ao
 | .value f=>
  match e.eval f with
  | .func (.func q) first p=>R.call q (first++d++p) h
  | .yield l=>R.round l d h
  |_=>ao
 | .invoke r g=>
  match e.eval r with
  | .iface t x=>(match Qz P t g with|some f=>R.call f (x::d) h|none=>ao)
  |_=>ao
def ec(P:bO)(G:Nat->Option (List I))(R:Rec)(e:Env)(h:am)(o:Oper):Option (dP × Env × am):=
 match o.op with
 | .call {callee:=.builtin .recover,.. }=>
  if e.round.isSome then ao else
  match e.da with
  |some (x,ar)=>J (.ret x,{e with da:=J (x,aa)},h)
  |_=>J (.ret (.v .nilIface),e,h)
 | .call {callee:=.builtin .panic,args,.. }=>
  match args.toList.map e.eval with
  | [.iface t x]=>J (.panic (.iface t x),e,h)
  |_=>ao
 | .call {callee:=.builtin b,args,argTypes}=>(qV P G o.dst h b argTypes o.type (args.toList.map e.eval)).map λ(x,h)=>(.ret x,e,h)
 | .call c=>(lI P R e h c).map λ(r,h)=>(r,e,h)
 | .defer {callee:=.value f,args,.. }=>
  if e.round.isSome then ao else
  match e.eval f with
  | .func (.func g) first d=>J (.ret (.tuple []),{e with defers:=(g,first++args.toList.map e.eval++d)::e.defers},h)
  |_=>ao
 | .panic x=>
  match e.eval x with
  | .iface t x=>J (.panic (.iface t x),e,h)
  |_=>ao
 |op=>(dH P G e.eval h op).map λ(x,h)=>(.ret x,e,h)
def fC(ops:Array Oper)(e:Env)(o:Oper):Option Bool:=
 match o.guard with
 |none=>J aa
 |some (j,d)=>
  match (ops[j]?).bind (·.dst) with
  |none=>J ar
  |some g=>
   match e.get g with
   | .v (.bool b)=>J (b==d)
   | .tuple []=>J ar
   |_=>ao
def cg(P:bO)(G:Nat->Option (List I))(R:Rec)(ops:Array Oper):List Nat->Env->am->Option (Xt × Env × am)
 | [],d,h=>J (.normal,d,h)
 |i::rest,d,h=>
  match ops[i]? with
  |none=>ao
  |some o=>
   match fC ops d o with
   |none=>ao
   |some ar=>cg P G R ops rest (d.put o.dst (.tuple [])) h
   |some aa=>
    match ec P G R d h o with
    |some (.ret x,d,h)=>cg P G R ops rest (d.put o.dst x) h
    |some (.panic x,d,h)=>J (.panic x,d,h)
    |none=>ao
inductive Class where
 |pure|reads|iP
 deriving DecidableEq,Inhabited
def iR:Op->Class
 | .move _| .assign _| .pick .. | .build .. | .nilCheck _| .binOp .. | .unOp .. | .makeInterface .. | .makeFunc .. | .slice .. | .fieldAddr .. | .field ..
 | .indexAddr .. | .index .. | .typeAssert .. | .extract .. =>.pure
 | .buildSlice _ _ aS=>if vk aS=aa then .iP else .pure
 | .load .. =>.reads
 | .call {callee:=.builtin .len,.. }=>.pure
 |_=>.iP
def Qy(a b:Class):Bool:=
 match a,b with
 | .pure,_|_,.pure=>aa
 | .reads,.reads=>aa
 |_,_=>ar
def zW(ops:Array Oper)(b:Array Nat):Bool:=
 (bE ops.size).all λj=>
  match ops[j]? with
  |none=>aa
  |some o=>
   (o.after.all λd=> !Region.binds .any d||decide (d.on<j))&&
   (bE ops.size).all λi=> !(b.getD j 0).testBit i||o.after.any λd=>Region.binds .any d&&(iJ d.on i||(b.getD d.on 0).testBit i)
def yX(ops:Array Oper)(i j:Nat):Bool:=
 match ops[i]?,ops[j]? with
 |some x,J y=>Qy (iR x.op) (iR y.op)&&x.apart ops y&&y.apart ops x
 |_,_=>ar
def E'(ops:Array Oper):Bool:=
 let b:=Region.before ops
 zW ops b&&(bE ops.size).all λj=>(bE j).all λi=>(b.getD j 0).testBit i||yX ops i j
def o7(ops:Array Oper)(i j:Nat):Bool:=
 match ops[i]?,ops[j]? with
 |some x,J y=>x.apart ops y&&y.apart ops x
 |_,_=>ar
def pK(P:bO)(G:Nat->Option (List I))(R:Rec)(ops:Array Oper)(e:Env)(h:am)(r m:Nat):Bool:=
 match ops[r]?,cg P G R ops (bE r) e h,cg P G R ops (bE m) e h with
 |some o,J (.normal,d,p),J (.normal,_,g)=>
  (match fC ops d o with
   |some ar=>aa
   |some aa=>
    (match o.op with
     | .load t a=>(match aF P G p t (d.eval a),aF P G g t (d.eval a) with|some x,J y=>df x y|_,_=>ar)
     |_=>ar)
   |none=>ar)
 |_,_,_=>ar
def j_(P:bO)(G:Nat->Option (List I))(R:Rec)(ops:Array Oper)(e:Env)(h:am)(i j:Nat):Bool:=
 o7 ops i j&&
 match (ops[i]?).map λo=>iR o.op,(ops[j]?).map λo=>iR o.op with
 |some .reads,J .iP=>pK P G R ops e h i (j+1)
 |some .iP,J .reads=>pK P G R ops e h j i
 |_,_=>ar
def ya:Op->Bool
 | .call {callee:=.builtin .recover,.. }=>ar
 | .call {callee:=.builtin .panic,.. }=>ar
 | .call _=>aa
 | .convert .. =>aa
 |_=>ar
def wx(P:bO)(G:Nat->Option (List I))(R:Rec)(ops:Array Oper)(e:Env)(h:am)(k:Nat):Prop:=
 ∃o x d q,ops[k]?=J o/\ya o.op=aa/\cg P G R ops (bE k) e h=J (.normal,d,q)/\
  ∀m,m<=ops.size->∃p g,cg P G R ops (bE m) e h=J (.normal,p,g)/\ec P G R d g o=J (.ret x,d,g)
noncomputable def lJ(P:bO)(G:Nat->Option (List I))(R:Rec)(ops:Array Oper)(e:Env)(h:am)(k:Nat):Bool:=@decide (wx P G R ops e h k) (Classical.propDecidable _)
noncomputable def my(P:bO)(G:Nat->Option (List I))(R:Rec)(ops:Array Oper)(e:Env)(h:am):Bool:=
 let b:=Region.before ops
 zW ops b&&(bE ops.size).all λj=>(bE j).all λi=>(b.getD j 0).testBit i||yX ops i j||j_ P G R ops e h i j||(o7 ops i j&&(lJ P G R ops e h i||lJ P G R ops e h j))
def A9(r:Option (Xt × Env × am)):Bool:=
 match r with
 |some (.normal,_,_)=>aa
 |_=>ar
def IE(ops:Array Oper)(k j:Nat):Bool:=
 match ops[k]? with
 |some o=>o.after.any λd=>Region.binds .any d&&iJ d.on j
 |none=>ar
def an3(ops:Array Oper)(d m:Nat):Bool:=
 match ops[m]? with
 |some o=>(match o.op with| .load _ x=>(match x with| .tmp t=> !Nat.beq t d|_=>aa)|_=>ar)&&(o.guard.isNone&&(match o.dst with|some e=> !Nat.beq e d|none=>aa))
 |none=>ar
def gx(ops:Array Oper)(i j:Nat):Array Oper:=⟨ops.toList.mapIdx λk o=>if k=j then {o with after:=o.after.push {on:=i,ground:=.data}} else o⟩
def wV(ops:Array Oper)(k:Nat):Bool:=
 match ops[k]? with
 |some o=>(match o.op with| .store _ _ _=>aa|_=>ar)&&(o.guard.isNone&&o.dst.isNone)
 |none=>ar
def aaX(ops:Array Oper)(k:Nat):Bool:=
 match ops[k]? with
 |some o=>decide (iR o.op=.pure)|none=>ar
def DB(ops:Array Oper)(i:Nat):Bool:=
 zW ops (Region.before ops)&&(decide (i+1<ops.size)&&(wV ops i&&(wV ops (ops.size-1)&&(bE (ops.size-1)).all λk=>iJ k i||(((Region.before ops).getD (ops.size-1) 0).testBit k||(aaX ops k&&o7 ops k (ops.size-1))))))
def qC(ops:Array Oper)(k:Nat)(e:Env):Option Nat:=
 match ops[k]? with
 |some o=>(match o.op with| .store _ a _=>(match e.eval a with| .ptr (.box b) _=>J b|_=>ao)|_=>ao)
 |none=>ao
def rt(P:bO)(G:Nat->Option (List I))(R:Rec)(ops:Array Oper)(e:Env)(h:am)(i:Nat):Bool:=
 match cg P G R ops (bE i) e h,cg P G R ops (bE (ops.size-1)) e h with
 |some (.normal,d,_),J (.normal,g,_)=>
  (match qC ops i d,qC ops (ops.size-1) g with
   |some a,J b=> !Nat.beq a b
   |_,_=>ar)
 |_,_=>ar
noncomputable def zx(P:bO)(G:Nat->Option (List I))(R:Rec)(ops:Array Oper)(e:Env)(h:am):Bool:=(bE ops.size).any λi=>DB ops i&&(rt P G R ops e h i&&my P G R (gx ops i (ops.size-1)) e h)
def quiet(o:Oper):Oper:={o with dst:=ao,op:=.move (.const (.bool aa)),guard:=ao}
def vB:List Oper->List Oper
 | []=>[]
 | [o]=>[quiet o]
 |o::d::r=>o::vB (d::r)
def gY(ops:Array Oper):Array Oper:=⟨vB ops.toList⟩
def tv(ops:Array Oper):Bool:=
 let b:=Region.before (gY ops)
 (bE (ops.size-1)).all λi=>(b.getD (ops.size-1) 0).testBit i&&
  match ops[i]? with
  |some o=>(match o.guard with|some (j,_)=> !Nat.beq j (ops.size-1)|none=>aa)
  |none=>aa
def C8(ops:Array Oper)(k i:Nat):Bool:=iJ i k||((Region.before ops).getD i 0).testBit k
def cut(ops:Array Oper)(k:Nat):Array Oper:=⟨ops.toList.mapIdx λi o=>if C8 ops k i=aa then quiet o else o⟩
def agQ(ops:Array Oper)(i:Nat):Bool:=
 match ops[i]? with
 |some o=>decide (iR o.op≠ .iP)|none=>aa
def WD(ops:Array Oper)(k i:Nat):Bool:=
 match ops[i]? with
 |some o=>(match o.guard with|some (j,_)=> !C8 ops k j|none=>aa)
 |none=>aa
def aiG(ops:Array Oper)(k i:Nat):Option Tmp:=
 if (C8 ops k i||((Region.before (cut ops k)).getD k 0).testBit i)=aa then ao else (ops[i]?).bind (·.dst)
noncomputable def drawC(P:bO)(G:Nat->Option (List I))(R:Rec)(ops:Array Oper)(e:Env)(h:am):Xt->Bool
 | .normal=>my P G R ops e h||zx P G R ops e h
 | .panic _=>tv ops&&(my P G R (gY ops) e h&&A9 (cg P G R (gY ops) (bE (gY ops).size) e h))
 |_=>ar
def Eb(d:List Tmp)(args:List I)(tmps:o0):o0:=(d.zip args).foldl (λe g=>e.set g.1 g.2) tmps
section
variable (P:bO) (G:Nat->Option (List I)) (R:Rec)
noncomputable def fP:Code->Env->am->Option (Xt × Env × am)
 | .skip,d,h| .label _,d,h=>J (.normal,d,h)
 | .region _ ops g,d,h=>
  if g then
   (cg P G R ops (bE ops.size) d h).filter λr=>drawC P G R ops d h r.1
  else cg P G R ops (bE ops.size) d h
 | .seq a b,d,h=>
  match R.code a d h with
  |some (.normal,d,h)=>R.code b d h
  |r=>r
 | .cond c a b,d,h=>
  match d.eval c with
  | .v (.bool aa)=>R.code a d h
  | .v (.bool ar)=>R.code b d h
  |_=>ao
 | .block id c,d,h=>
  match R.code c d h with
  |some (.exit e,d,h)=>if e=id then J (.normal,d,h) else J (.exit e,d,h)
  |r=>r
 | .loop c,d,h=>
  match R.code c d h with
  |some (.normal,d,h)=>R.code (.loop c) d h
  |r=>r
 | .scope c,d,h=>R.code c d h
 | .exit id,d,h=>J (.exit id,d,h)
 | .ret,d,h=>J (.ret,d,h)
 | .rangeFunc f params assign body,d,h=>
  match d.eval f with
  | .func (.func q) first p=>
   match R.call q (first++[.yield (F h.aB)]++p)
    {h with aB:=h.aB++[{tmps:=d.tmps,params,assign,body,state:=.ready,pending:=ao}]} with
   |some (.ret _,h')=>
    match h'.aB[F h.aB]? with
    |some r=>
     if r.state=.busy then ao else
     match r.pending with
     |none=>J (.normal,d,{h' with aB:=h'.aB.set (F h.aB) {r with state:=.exhausted}})
     |some .ret=>J (.ret,d,{h' with aB:=h'.aB.set (F h.aB) {r with state:=.exhausted}})
     |some (.exit id)=>J (.exit id,d,{h' with aB:=h'.aB.set (F h.aB) {r with state:=.exhausted}})
     |_=>ao
    |none=>ao
   |some (.panic x,h')=>J (.panic x,d,h')
   |none=>ao
  |_=>ao
 |_,_,_=>ao
def uC(e:Env)(h:am):List ResultVar->Option (List I)
 | []=>J []
 | .tmp t::r=>(uC e h r).map (e.get t::·)
 | .cell a t::r=>
  match aF P G h t (e.get a),uC e h r with
  |some x,J l=>J (x::l)
  |_,_=>ao
def GE(fn:Func)(e:Env)(h:am):Option I:=
 match uC P G e h fn.results.toList with
 |some [x]=>J x
 |some l=>J (.tuple l)
 |none=>ao
def gO(fn:Func)(e:Env):List (bk × List I)->Option (I × Bool)->am->Option (dP × am)
 | [],ao,h=>(GE P G fn e h).map λx=>(.ret x,h)
 | [],J (x,_),h=>J (.panic x,h)
 |(p,d)::g,m,h=>
  match R.iS p d m h with
  |some (.ret _,J (_,aa),h)=>gO fn e g ao h
  |some (.ret _,m,h)=>gO fn e g m h
  |_=>ao
def qS(g:bk)(args:List I)(m:Option (I × Bool))(h:am):Option (dP × Option (I × Bool) × am):=
 match P.funcs[g]? with
 |none=>ao
 |some p=>
  match p.body with
  |none=>ao
  |some e=>
   match R.code e {tmps:={ch:=[],base:=args},defers:=[],da:=m,round:=ao} h with
   |some (.normal,d,h)|some (.ret,d,h)=>(gO P G R p d d.defers ao h).map λ(r,h)=>(r,d.da,h)
   |some (.panic x,d,h)=>(gO P G R p d d.defers (J (x,ar)) h).map λ(r,h)=>(r,d.da,h)
   |_=>ao
def mA(aO:bk->Option (List I->am->Option (I × am)))(g:bk)(args:List I)(h:am):Option (dP × am):=
 match aO g with
 |some d=>(d args h).map λ(x,h)=>(.ret x,h)
 |none=>(qS P G R g args ao h).map λ(r,_,h)=>(r,h)
def uE(l:Nat)(args:List I)(h:am):Option (dP × am):=
 match h.aB[l]? with
 |none=>ao
 |some r=>
  if r.params.size=F args then
   match R.code r.assign {tmps:=Eb r.params.toList args r.tmps,defers:=[],da:=ao,round:=J l} h with
   |some (.normal,d,h)=>
    match h.aB[l]? with
    |some r2=>
     if r2.state=.ready then
      match R.code r.body d {h with aB:=h.aB.set l {r2 with state:=.busy}} with
      |some (.normal,_,h)=>(h.aB[l]?).map λr=>(.ret (.v (.bool aa)),{h with aB:=h.aB.set l {r with state:=.ready,pending:=ao}})
      |some (.ret,_,h)=>(h.aB[l]?).map λr=>(.ret (.v (.bool ar)),{h with aB:=h.aB.set l {r with state:=.done,pending:=J .ret}})
      |some (.exit id,_,h)=>(h.aB[l]?).map λr=>(.ret (.v (.bool ar)),{h with aB:=h.aB.set l {r with state:=.done,pending:=J (.exit id)}})
      |some (.panic x,_,h)=>J (.panic x,h)
      |none=>ao
     else ao
    |none=>ao
   |_=>ao
  else ao
end
noncomputable def hJ(P:bO)(G:Nat->Option (List I))(aO:bk->Option (List I->am->Option (I × am)))(n:Nat):Rec:=
 Nat.rec (motive:=λ_=>Rec) {code:=λ_ _ _=>ao,call:=λ_ _ _=>ao,iS:=λ_ _ _ _=>ao,round:=λ_ _ _=>ao}
  (λ_ R=>{code:=fP P G R,call:=mA P G R aO,iS:=qS P G R,round:=uE R}) n
section
open Go.RowKit (Below)
def Kw{α}{P}:∀{e:Sem α} {a:α},eP P e=J a->∀w,e.run P w=.ok a w:=by
 intro e
 induction e with
 |pure a=>intro b h w;simp[eP]at h;simp_all|program k d=>intro b h w;simp only[eP]at h;simp only[Sem.run];simp_all|mark m k d=>intro b h w;simp only[eP]at h;simp only[Sem.run];simp_all|_=>intro b h;simp[eP]at h
structure bj where
 base:Nat
 ic:Nat->Nat->Option a_
 β:List Nat
 γ:List Nat
 tn:Nat
 tk:Nat->Nat × Nat × Nat
 md:List Nat
 lb:Nat->Option (Nat × Nat × Nat)
structure bj.Le(K K':bj):Prop where
 base:K'.base=K.base
 ic:∀g j c,K.ic g j=J c->K'.ic g j=J c
 β:∀b g:Nat,K.β[b]?=J g->K'.β[b]?=J g
 γ:∀l g:Nat,K.γ[l]?=J g->K'.γ[l]?=J g
 tn:K.tn<=K'.tn
 tk:∀t,t<K.tn->K'.tk t=K.tk t
 md:∀r∈K.md,r∈K'.md
 lb:∀b,b<K.β.length->K'.lb b=K.lb b
 new:∀g j c,K'.ic g j=J c->K.ic g j=J c∨K.base<=g
def bj.Le.refl(K:bj):K.Le K:=⟨O,λ_ _ _ h=>h,λ_ _ h=>h,λ_ _ h=>h,aT _,λ_ _=>rfl,λ_ h=>h,λ_ _=>rfl,λ_ _ _ h=>.inl h⟩
def bj.Le.len{K d:bj}(h:K.Le d)(e:b<F K.β):b<F d.β:=(aU.1 (h.β b _ (aW e))).1
def bj.Le.trans{A B C:bj}(h:A.Le B)(k:B.Le C):A.Le C:=
 ⟨k.base.trans h.base,λe j c g=>k.ic e j c (h.ic e j c g),λb e d=>k.β b e (h.β b e d),λb e d=>k.γ b e (h.γ b e d),ff h.tn k.tn,
  λt p=>(k.tk t (mK p h.tn)).trans (h.tk t p),λr q=>k.md r (h.md r q),λb d=>(k.lb b (h.len d)).trans (h.lb b d),λe j c g=>(k.new e j c g).elim (h.new e j c) λs=>.inr (by rw[<-h.base];exact s)⟩
def uW(K:bj)(k:Tok)(g off sz n aY:Nat):Prop:=
 n<=aY/\match k with
  | .nil=>False
  | .aK=>aY=n
  | .free t=>t<K.tn/\(K.tk t).1=g/\(K.tk t).2.1=off+n*sz/\off+aY*sz<=(K.tk t).2.2
  | .held=>True
def uW.mono{K e}(h:K.Le e){k}(p:uW K k g off sz n aY):uW e k g off sz n aY:=by
 refine⟨p.1,?_⟩;have d:=p.2;cases k with|free t=>simp only at d ⊢;rw[h.tk t d.1];exact⟨mK d.1 h.tn,d.2⟩|_=>exact d
mutual
inductive aV (K:bj):I->a_->Prop
 |bad (c:a_):aV K .bad c
 |v (x:a_) (h:scalar x=aa):aV K (.v x) x
 |nil (sz:Nat):aV K (.ac .nil sz []) (.slice ao 0 0)
 |gI (sz:Nat) (a:Addr):aV K (.ac .aK sz []) (.slice (J a) 0 0)
 |ac (k:Tok) (sz:Nat) (es:List (List I)) (g off n aY:Nat) (cells:List a_) (hn:n=es.length) (hr:∀r∈es,r.length=sz)
  (hv:aN K es.flatten cells) (hc:∀j c,cells[j]?=J c->K.ic g (off+j)=J c) (ht:uW K k g off sz n aY)
  (ha:es.flatten.all I.dm=aa):aV K (.ac k sz es) (.slice (J ⟨g,off,ao⟩) n aY)
 |arr (b g off len aY qA wy:Nat) (hb:K.β[b]?=J g) (hl:len<=aY) (hc:aY<=wy) (ho:qA=off∨aY=0)
  (hr:wy=aY∨aY=0∨off≠0∨∃sz room,K.lb b=J (aY,sz,room)/\0<sz/\wy * sz<=room):aV K (.arr b off len aY) (.slice (J ⟨g,qA,ao⟩) len wy)
 |agg (cs:List I) (vs:Array a_) (h:aN K cs vs.toList):aV K (.agg cs) (.agg vs)
 |tuple (cs:List I) (vs:Array a_) (h:aN K cs vs.toList):aV K (.tuple cs) (.tuple vs)
 |box (b g off:Nat) (hb:K.β[b]?=J g):aV K (.ptr (.box b) off) (.pointer (J ⟨g,off,ao⟩))
 |dU (g off:Nat):aV K (.ptr (.dU g) off) (.pointer (J ⟨g,off,ao⟩))
 |elem (sz:Nat) (es:List (List I)) (i off g o p:Nat) (cells:List a_) (hr:∀r∈es,r.length=sz) (hv:aN K es.flatten cells)
  (hc:∀j c,cells[j]?=J c->K.ic g (o+j)=J c) (hi:i<es.length) (hp:p=o+i * sz+off)
  (ha:es.flatten.all I.dm=aa):aV K (.elem sz es i off) (.pointer (J ⟨g,p,ao⟩))
 |func (fn:Fn) (first aY:List I) (fs cs:Array a_) (h1:aN K first fs.toList) (h2:aN K aY cs.toList):aV K (.func fn first aY) (.func fn fs cs)
 |yield (l g:Nat) (h:K.γ[l]?=J g):aV K (.yield l) (.func (.yield g) #[] #[])
 |iface (t:aX) (x:I) (c:a_) (h:aV K x c):aV K (.iface t x) (.iface t c)
inductive aN (K:bj):List I->List a_->Prop
 |nil:aN K [] []
 |cons (x:I) (c:a_) (xs:List I) (cs:List a_) (h:aV K x c) (hs:aN K xs cs):aN K (x::xs) (c::cs)
end
mutual
def aV.mono{K S:bj}(h:K.Le S):∀{x:I} {c:a_},aV K x c->aV S x c
 |_,_,.bad c=>.bad c
 |_,_,.v x H=>.v x H
 |_,_,.nil p=>.nil p
 |_,_,.gI p a=>.gI p a
 |_,_,.ac k p A q d n e cells hn u g s ht C=>.ac k p A q d n e cells hn u (aN.mono h g) (λj c D=>h.ic _ _ _ (s j c D)) (ht.mono h) C
 |_,_,.arr b q d len e L z v E s ho u=>.arr b q d len e L z (h.β _ _ v) E s ho (by rw[h.lb b (aU.1 v).1];exact u)
 |_,_,.agg cs N g=>.agg cs N (aN.mono h g)
 |_,_,.tuple cs N g=>.tuple cs N (aN.mono h g)
 |_,_,.box b q d v=>.box b q d (h.β _ _ v)
 |_,_,.dU q d=>.dU q d
 |_,_,.elem p A i d q o z0 cells u g s hi hp C=>.elem p A i d q o z0 cells u (aN.mono h g) (λj c D=>h.ic _ _ _ (s j c D)) hi hp C
 |_,_,.func T first e X cs Y Z=>.func T first e X cs (aN.mono h Y) (aN.mono h Z)
 |_,_,.yield l q E=>.yield l q (h.γ _ _ E)
 |_,_,.iface t x c H=>.iface t x c (aV.mono h H)
def aN.mono{K d:bj}(h:K.Le d):∀{xs:List I} {cs:List a_},aN K xs cs->aN d xs cs
 |_,_,.nil=>.nil
 |_,_,.cons x c xs cs g e=>.cons x c xs cs (aV.mono h g) (aN.mono h e)
end
def nt:a_->Bool
 | .agg _| .tuple _=>ar
 |_=>aa
section
variable {K:bj}
def aN.length{cs:List a_}(h:aN K xs cs):F xs=F cs:=by
 induction xs generalizing cs with
 |nil=>cases h;rfl
 |cons x xs e=>cases h with|cons _ _ _ _ _ d=>grind
def aN.get{cs:List a_}(h:aN K xs cs):∀{i:Nat} {x:I},xs[i]?=J x->∃c,cs[i]?=J c/\aV K x c:=by
 induction xs generalizing cs with
 |nil=>simp_all|cons y xs g=>
  cases h with
  |cons _ c _ cs e d=>
   grind
def aN.get'{cs:List a_}(h:aN K xs cs):∀{i:Nat} {c:a_},cs[i]?=J c->∃x,xs[i]?=J x/\aV K x c:=by
 induction xs generalizing cs with
 |nil=>cases h;simp_all
 |cons y xs g=>
  cases h with
  |cons _ c _ cs e d=>
   grind
def aN.of{cs:List a_}(g:F xs=F cs)(h:∀(i:Nat) (x:I) (c:a_),xs[i]?=J x->cs[i]?=J c->aV K x c):aN K xs cs:=by
 induction xs generalizing cs with
 |nil=>cases cs with|nil=>exact .nil|cons _ _=>grind
 |cons y xs d=>
  cases cs with
  |nil=>grind
  |cons c cs=>exact .cons _ _ _ _ (h 0 y c O O) (d (by simp_all) λi x c p e=>h (i+1) x c (by simp_all) (by simp_all))
def aN.append{e:List I}{cs d:List a_}(h:aN K xs cs)(k:aN K e d):aN K (xs++e) (cs++d):=by
 induction xs generalizing cs with
 |nil=>cases h;exact k
 |cons y xs q=>cases h with|cons _ _ _ _ p g=>exact .cons _ _ _ _ p (q g)
def aN.take{cs:List a_}(h:aN K xs cs)(n:Nat):aN K (xs.take n) (cs.take n):=by
 refine .of (by simp[h.length]) λi x c d e=>?_;simp only[qb]at d e;split at d
 .rename_i g;rw[aC g]at e;obtain⟨q,p,s⟩:=h.get d;simp_all
 grind
def aN.drop{cs:List a_}(h:aN K xs cs)(n:Nat):aN K (xs.drop n) (cs.drop n):=by refine .of (by simp[h.length]) λi x c d e=>?_;simp only[qM]at d e;obtain⟨p,g,q⟩:=h.get d;simp_all
def aN.set{cs:List a_}(h:aN K xs cs)(i:Nat)(u:aV K x c):aN K (xs.set i x) (cs.set i c):=by
 refine .of (by simp[h.length]) λj y v d e=>?_;simp only[j']at d e;split at d
 .simp_all
 .rename_i q;rw[aL q]at e;obtain⟨p,g,s⟩:=h.get d;simp_all
def aN.map_mk{α:Type}{l:List α}{f:α->I}{d:α->a_}(h:∀a∈l,aV K (f a) (d a)):aN K (l.map f) (l.map d):=by
 induction l with
 |nil=>exact .nil|cons a l e=>exact .cons _ _ _ _ (h a cB) (e λb g=>h b (by grind))
def aV.hY{x:a_}(h:aV K (.v x) c):c=x/\scalar x=aa:=by cases h with|v _ h=>simp_all
def N5:∀{cs:List I} {l:List a_},Am cs=J l->∀{vs:List a_},aN K cs vs->vs=l
 | [],l,h,_,d=>by cases d;simp[Am]at h;simp_all
 | .v x::r,l,h,_,d=>by
  cases d with|cons _ c _ cs p g=>simp only[Am,dO]at h;obtain⟨q,e,rfl⟩:=h;rw[(aV.hY p).1,N5 e g]
 | .bad::_,_,h,_,_| .ac .. ::_,_,h,_,_| .arr .. ::_,_,h,_,_| .agg _::_,_,h,_,_| .tuple _::_,_,h,_,_| .ptr .. ::_,_,h,_,_
 | .elem .. ::_,_,h,_,_| .func .. ::_,_,h,_,_| .yield _::_,_,h,_,_| .iface .. ::_,_,h,_,_=>by simp[Am]at h
def IT(h:x.flat=some p)(d:aV K x c):c=p:=by
 unfold I.flat at h;split at h
 .injection h with h;subst h;exact(aV.hY d).1
 .simp only[dO] at h;obtain⟨l,e,rfl⟩:=h;cases d with|agg _ u g=>rw[<-N5 e g]
 .injection h with h;subst h;cases d with|iface _ _ _ q=>rw[(aV.hY q).1]
 .simp only[dO] at h;obtain⟨l,e,rfl⟩:=h;cases d with|iface _ _ _ q=>cases q with|agg _ u g=>rw[<-N5 e g]
 .injection h with h;subst h;cases d with|nil=>rfl|ac _ _ _ _ _ _ _ _ _ _ _ _ s _=>exact s.2.elim
 grind
def Wd:∀{xs:List I} {l:List a_},flatAll xs=J l->∀{vs:List a_},aN K xs vs->vs=l
 | [],l,h,_,d=>by cases d;simp[flatAll]at h;simp_all
 |x::r,l,h,_,d=>by
  cases d with
  |cons _ c _ cs q p=>
   simp only[flatAll]at h;split at h
   .rename_i u s e g;injection h with h;subst h;rw[IT e q,Wd g p]
   grind
def Ln{z:a_}(h:nC z=J x):aV K x z:=by
 unfold nC at h;split at h
 .injection h with h;subst h;exact .v _ ‹_›
 grind
def QM(x:a_):aV K (us x) x:=by
 unfold us;split
 .exact .nil 0
 .split
  .exact .v _ ‹_›
  .exact .bad _
def QO(x:a_):aV K (qy x) x:=by
 unfold qy;split
 .rename_i cs;refine .agg _ _ ?_;have:aN K (cs.toList.map us) (cs.toList.map id):=aN.map_mk λa _=>QM a;simp_all
 .split
  .rename_i d h;have:d=#[]:=(by simpa using h);subst this;exact .tuple _ _ .nil
  .exact .bad _
 .exact .iface _ _ _ (QM _)
 .exact QM _
def Iy(h:x.bL=J cs)(d:aV K x c):aN K cs c.cells.toList/\cs.all I.dm=aa:=by
 unfold I.bL at h;split at h
 .split at h
  .rename_i s;injection h with h;subst h;cases d with|agg _ v u=>exact⟨u,s⟩
  grind
 .cases h
 .cases h
 .rename_i e g p;injection h with h;subst h;have q:x.dm=aa:=by cases x<;>first|rfl|exact absurd O (e _)|exact absurd O (g _)|exact absurd O p
  refine⟨?_,by simp_all⟩;have:c.cells=#[c]:=by cases d<;>first|rfl|exact absurd O (e _)|exact absurd O (g _)|exact absurd O p|(cases c<;>first|rfl|simp[scalar]at *)
  rw[this];exact .cons _ _ _ _ d .nil
def amP(h:scalar c=aa):nt c=aa:=by cases c<;>first|rfl|simp[scalar]at h
def amO(h:x.dm=aa)(d:aV K x c):nt c=aa:=by cases d<;>first|rfl|exact amP ‹_›|(simp[I.dm]at h;done)
end
def xF(K:bj)(b:Nat)(cs:List I)(cells:Array a_):Prop:=
 aN K cs (cells.toList.take (F cs))/\∀g e d,K.lb b=J (g,e,d)->cs=[]∨(F cs=g*e/\d<=cells.size)
def xF.mono{K d}(h:K.Le d)(e:b<F K.β){cells}(r:xF K b cs cells):xF d b cs cells:=
 ⟨r.1.mono h,by rw[h.lb b e];exact r.2⟩
def xF.nil{K}{cells}:xF K b [] cells:=⟨.nil,λ_ _ _ _=>.inl O⟩
def xF.le{K}{cells}(r:xF K b cs cells):F cs<=cells.size:=by
 have:=r.1.length
 grind
def lF(K:bj)(s:o0)(tmps:Array a_):Prop:=∀t,aV K (s.get t) (tmps.getD t undef)
def lF.mono{K d}(h:K.Le d)(e:lF K s tmps):lF d s tmps:=λt=>(e t).mono h
structure bW(K:bj)(G:Nat->Option (List I))(ok:bk->Nat->Code->Bool)(w0:cC)(h:am)(w:cC):Prop where
 fM:Below K.base w0 w
 size:K.base<=w.heap.size
 ic:∀g j c,K.ic g j=J c->w.cell? ⟨g,j,ao⟩=J c
 dU:∀g cs,G g=J cs->∃cells,aN K cs cells/\∀(j:Nat) (c:a_),cells[j]?=J c->K.ic g j=J c
 jd:K.β.length=h.V.length
 oq:∀(b b' g:Nat),K.β[b]?=J g->K.β[b']?=J g->b=b'∨h.V[b]?=J []∨h.V[b']?=J []
 box:∀(b g:Nat) (cs:List I),K.β[b]?=J g->h.V[b]?=J cs->
  K.base<=g/\(∀j,K.ic g j=ao)/\cs.all I.dm=aa/\∃cells e,w.heap[g]?=J (.cells cells e (0,0))/\xF K b cs cells
 nb:K.γ.length=h.aB.length
 pN:∀(b b' g:Nat),K.γ[b]?=J g->K.γ[b']?=J g->b=b'
 loop:∀(l g:Nat) (r:iq),K.γ[l]?=J g->h.aB[l]?=J r->K.base<=g/\∃fn tmps d,
  w.heap[g]?=J (.loop {state:=r.state,pending:=r.pending,fn,tmps,params:=r.params,assign:=r.assign,body:=r.body,defers:=d})/\
  lF K r.tmps tmps/\ok fn tmps.size r.assign=aa/\ok fn tmps.size r.body=aa/\∀p∈r.params.toList,p<tmps.size
 tn:K.tn=h.tn
 tok:∀t,alive h t=aa->K.base<=(K.tk t).1/\(∀b:Nat,K.β[b]?≠J (K.tk t).1)/\(∀j,(K.tk t).2.1<=j->K.ic (K.tk t).1 j=ao)/\
  ∃cells e fz,w.heap[(K.tk t).1]?=J (.cells cells e fz)/\cells.size=(K.tk t).2.2/\
   ∀j,(K.tk t).2.1<=j->j<cells.size->w.frozen? ⟨(K.tk t).1,j,ao⟩=ar
 oV:∀t t',alive h t=aa->alive h t'=aa->(K.tk t).1=(K.tk t').1->t=t'
 md:∀r∈K.md,K.base<=r/\w.heap[r]?=J (.deferred (J []))
 all:K.base=w0.heap.size
def Addr.jg(g o n):(⟨g,o,ao⟩:Addr).add n=⟨g,o+n,ao⟩:=by unfold Addr.add;simp_all
def rM{t}(d:alive h t=aa):t<h.tn:=by unfold alive at d;simp_all
section
variable {K:bj} {G:Nat->Option (List I)} {ok:bk->Nat->Code->Bool} {w0 w:cC} {h:am}
def bW.w7(s:bW K G ok w0 h w)(d:K.ic g j=J c):g<w.heap.size:=by
 have:=s.ic g j c d;unfold World.cell? at this
 grind
def bW.same(s:bW K G ok w0 h w)(d:w'.heap=w.heap)(p:w'.tape=w.tape)(C:w'.os=w.os)(E:w'.output=w.output):bW K G ok w0 h w':=by
 have e:∀a,w'.cell? a=w.cell? a:=λa=>by simp[World.cell?,d]
 have Z:∀a,w'.frozen? a=w.frozen? a:=λa=>by simp[World.frozen?,d]
 refine⟨⟨C.trans s.fM.os,p.trans s.fM.tape,E.trans s.fM.output,by rw[d];exact s.fM.size,λk z=>by rw[d];exact s.fM.block k z⟩,by rw[d];exact s.size,
  λq j c v=>(e _).trans (s.ic q j c v),s.dU,s.jd,s.oq,λb q cs u e=>by rw[d];exact s.box b q cs u e,s.nb,s.pN,
  λl q r A g=>by rw[d];exact s.loop l q r A g,s.tn,λt p=>?_,s.oV,λr g=>by rw[d];exact s.md r g,s.all⟩
 obtain⟨L,N,S,cells,z0,H,T,X,Y⟩:=s.tok t p;simp_all
def bW.drew(s:bW K G ok w0 h w)(n:Nat):bW K G ok w0 h {w with drawn:=n}:=s.same O O O rfl
def CJ(w:cC)(o)(d:k<w.heap.size):(w.heap.push o)[k]?=w.heap[k]?:=by
 grind
def qw{w:cC}{o}(h:w.heap[g]?=J o):g<w.heap.size:=by
 grind
def bW.push(s:bW K G ok w0 h w)(o:Obj):bW K G ok w0 h {w with heap:=w.heap.push o}:=by
 have d:∀{k:Nat} {C:Obj},w.heap[k]?=J C->(w.heap.push o)[k]?=J C:=λd=>(CJ w o (qw d)).trans d;refine⟨⟨s.fM.os,s.fM.tape,s.fM.output,by have:=s.fM.size;grind,λk d=>(CJ w o (mK d s.size)).trans (s.fM.block k d)⟩,by have:=s.size;grind,
  λz j c A=>?_,s.dU,s.jd,s.oq,λb z cs L N=>?_,s.nb,s.pN,λl z r v e=>?_,s.tn,λt T=>?_,s.oV,λr e=>?_,s.all⟩
 .rw[<-s.ic z j c A];exact World.cell?_of_block (w:=w) (CJ w o (s.w7 A))
 .obtain⟨g,p,ha,cells,Y,q,u⟩:=s.box b z cs L N;simp_all
 .obtain⟨g,Z,X,z0,p,q⟩:=s.loop l z r v e
  grind
 .obtain⟨g,p,q,cells,Y,D,u,E,H⟩:=s.tok t T;refine⟨g,p,q,cells,Y,D,d u,E,λj S v=>?_⟩;rw[<-H j S v];exact World.frozen?_of_block (w:=w) (CJ w o (qw u))
 .exact⟨(s.md r e).1,d (s.md r e).2⟩
def Fo{α:Type}{l}{x}{y:α}(h:l[i]?=J y):(l++[x])[i]?=J y:=by
 grind
def rV{α:Type}{l}{x}{y:α}(h:(l++[x])[i]?=J y):l[i]?=J y∨(i=F l/\y=x):=by
 grind
def bj.nS(K:bj)(g:Nat)(x:Option (Nat × Nat × Nat)):bj:={K with β:=K.β++[g],lb:=λb=>if b=F K.β then x else K.lb b}
def bj.box(K:bj)(g:Nat):bj:=K.nS g ao
def bj.Bc(K:bj)(g)(x):K.Le (K.nS g x):=
 ⟨O,λ_ _ _ h=>h,λ_ _ h=>Fo h,λ_ _ h=>h,aT _,λ_ _=>rfl,λ_ h=>h,λb d=>aL ag,λ_ _ _ h=>.inl h⟩
def bj.Qj(K:bj)(g):K.Le (K.box g):=K.Bc g ao
def bW.QF(s:bW K G ok w0 h w){cells:Array a_}(e:aX)(x:Option (Nat × Nat × Nat))(hv:aN K cs (cells.toList.take (F cs)))(Y:cs.all I.dm=aa)
 (hx:∀z0 sz E,x=J (z0,sz,E)->cs=[]∨(F cs=z0*sz/\E<=cells.size)):
 bW (K.nS w.heap.size x) G ok w0 {h with V:=h.V++[cs]} {w with heap:=w.heap.push (.cells cells e)}/\
 aV (K.nS w.heap.size x) (.ptr (.box (F h.V)) 0) (.pointer (J ⟨w.heap.size,0,ao⟩)):=by
 have le:=K.Bc w.heap.size x;have p:=s.push (.cells cells e);have S:(K.nS w.heap.size x).β[F h.V]?=J w.heap.size:=by simp[bj.nS,<-s.jd]
 have dx:∀{b A:Nat},K.β[b]?=J A->A<w.heap.size:=λ{b A} g=>by
  have Z:b<F h.V:=by rw[<-s.jd];exact(aU.1 g).1
  obtain⟨_,_,_,_,_,z,_⟩:=s.box b A _ g (aW Z)
  grind
 have N:∀j,K.ic w.heap.size j=ao:=λj=>by
  cases u:K.ic w.heap.size j with|none=>rfl|some c=>have:=s.w7 u;omega
 refine⟨⟨p.fM,p.size,p.ic,λA cs hg=>?_,by simp[bj.nS,s.jd],λb b' A g D=>?_,λb A H g u=>?_,p.nb,p.pN,λl A r hl hr=>?_,p.tn,λt ht=>?_,p.oV,p.md,s.all⟩,.box _ _ _ S⟩
 .obtain⟨d,v,q⟩:=s.dU A cs hg;exact⟨d,v.mono le,q⟩
 .rcases rV g with g|⟨rfl,rfl⟩<;>rcases rV D with D|⟨rfl,q⟩
  .rcases s.oq _ _ _ g D with p|p|p<;>grind
  .grind
  .grind
  omega
 .rcases rV g with g|⟨rfl,rfl⟩
  .rcases rV u with u|⟨rfl,rfl⟩
   .obtain⟨v,q,ha,d,L,z,C⟩:=p.box b A H g u;exact⟨v,q,ha,d,L,z,C.mono le (aU.1 g).1⟩
   grind
  .have:H=cs:=(by rw[s.jd]at u;simp at u;exact u.symm);subst this;exact⟨s.size,N,Y,cells,e,by simp,hv.mono le,by simp only[bj.nS,if_true];exact hx⟩
 .obtain⟨v,fn,T,z1,q,z,C⟩:=p.loop l A r hl hr;exact⟨v,fn,T,z1,q,z.mono le,C⟩
 .obtain⟨v,q,z,d,L,fz,C,h5⟩:=p.tok t ht;refine⟨v,λb g=>?_,z,d,L,fz,C,h5⟩;obtain⟨_,_,_,_,_,_,X,_⟩:=s.tok t ht;rcases rV g with g|⟨_,g⟩
  .exact q b g
  .have:=qw X;simp only[bj.nS]at g;omega
def aN.whole(h:aN K cs vs):aN K cs (vs.take (F cs)):=by rw[gm (by rw[h.length];omega)];exact h
def bW.QE(s:bW K G ok w0 h w){cells:Array a_}(e:aX)(g:aN K cs cells.toList)(d:cs.all I.dm=aa):
 bW (K.box w.heap.size) G ok w0 {h with V:=h.V++[cs]} {w with heap:=w.heap.push (.cells cells e)}/\
 aV (K.box w.heap.size) (.ptr (.box (F h.V)) 0) (.pointer (J ⟨w.heap.size,0,ao⟩)):=s.QF e ao g.whole d (λ_ _ _ p=>by cases p)
structure mi(w w':cC)(g:Nat)(o:Obj):Prop where
 os:w'.os=w.os
 tape:w'.tape=w.tape
 output:w'.output=w.output
 size:w'.heap.size=w.heap.size
 other:∀k,k≠g->w'.heap[k]?=w.heap[k]?
 this:w'.heap[g]?=J o
def mi.lt{w}{o}(c:mi w w' g o):g<w.heap.size:=c.size ▸ qw c.this
def mi.below{w}{o}(c:mi w w' g o){B}(d:B<=g):Below B w w':=
 ⟨c.os,c.tape,c.output,by rw[c.size];omega,λk e=>c.other k ag⟩
def mz(fz:Nat × Nat)(j:Nat):Bool:=decide (fz.1<=j)&&decide (j<fz.2)
def wF{w:cC}{cells}{e}{fz}(h:w.heap[g]?=J (.cells cells e fz))(j):w.frozen? ⟨g,j,ao⟩=mz fz j:=by obtain⟨p,d⟩:=fz;simp[World.frozen?,h,mz]
def cell_of{w:cC}{cells}{e}{fz}(h:w.heap[g]?=J (.cells cells e fz))(j):w.cell? ⟨g,j,ao⟩=cells[j]?:=by simp[World.cell?,h]
def bW.VP(s:bW K G ok w0 h w)(b:Nat):bW K G ok w0 {h with V:=h.V.set b []} w:=by
 refine⟨s.fM,s.size,s.ic,s.dU,by simp[s.jd],λX Y z0 D E=>?_,λv C q g d=>?_,s.nb,s.pN,s.loop,s.tn,s.tok,s.oV,s.md,s.all⟩
 .have T:∀k,h.V[k]?=J []->(h.V.set b [])[k]?=J []:=λk H=>by
   rw[j'];split
   .rename_i Z;subst Z;rw[aC (aU.1 H).1]
   omega
  rcases s.oq _ _ _ D E with p|p|p<;>simp_all
 .simp only[j']at d;split at d
  .rename_i z;subst z;split at d
   .rename_i u;injection d with d;subst d;obtain⟨L,N,_,e,A,S,k4⟩:=s.box _ _ _ g (aW u);exact⟨L,N,O,e,A,S,.nil⟩
   simp_all
  .exact s.box v C q g d
def bW.au3(s:bW K G ok w0 h w){H:List I}{cells:Array a_}{e:aX}(L:K.β[b]?=J g)(hold:h.V[b]?=J H)(T:H≠[])(nZ:F cs=F H)(ga:∀c0 e0,w.heap[g]?=J (.cells c0 e0 (0,0))->c0.size<=cells.size)
 (c:mi w w' g (.cells cells e (0,0))) (hv:aN K cs (cells.toList.take (F cs))) (wK:cs.all I.dm=aa):bW K G ok w0 {h with V:=h.V.set b cs} w':=by
 have dx:=(aU.1 hold).1;obtain⟨k1,k2,_,cells0,e0,S,k4⟩:=s.box b g _ L hold;refine⟨s.fM.trans (c.below k1),by rw[c.size];grind,λv j x Z=>?_,s.dU,by simp[s.jd],λb1 b2 g C q=>?_,λb' v kY A z=>?_,s.nb,s.pN,λl v r Y N=>?_,s.tn,λt ht=>?_,s.oV,λr N=>?_,s.all⟩
 .have T:v≠g:=by rintro rfl;rw[k2 j]at Z;cases Z
  rw[<-s.ic v j x Z];exact World.cell?_of_block (w:=w) (c.other v T)
 .have key:∀k,h.V[k]?=J []->(h.V.set b cs)[k]?=J []:=λk hk=>by
   rw[j',aL]
   .exact hk
   grind
  rcases s.oq _ _ _ C q with p|p|p<;>simp_all
 .simp only[j']at z;split at z
  .rename_i D;subst D;injection z with z;subst z;rw[L]at A;injection A with A;subst A;refine⟨k1,k2,wK,cells,e,c.this,hv,λz0 sz room z2=>?_⟩;rcases k4.2 z0 sz room z2 with r|⟨r1,r2⟩<;>grind
  .rename_i wN;by_cases d:v=g
   .subst d;rcases s.oq _ _ _ L A with p|p|p
    .omega
    .simp_all
    .rw[z]at p;injection p with p;subst p;exact⟨k1,k2,O,cells,e,c.this,.nil⟩
   .obtain⟨C,q,ha,u,D,E,X⟩:=s.box b' v kY A z;exact⟨C,q,ha,u,D,(c.other v d).trans E,X⟩
 .obtain⟨C,fn,tmps,z1,q,E⟩:=s.loop l v r Y N;have d:v≠g:=by rintro rfl;rw[q]at S;cases S
  exact⟨C,fn,tmps,z1,(c.other v d).trans q,E⟩
 .obtain⟨C,q,E,u,D,fz,X,h5,h6⟩:=s.tok t ht;have d:(K.tk t).1≠g:=λe=>q b (e ▸ L);refine⟨C,q,E,u,D,fz,(c.other _ d).trans X,h5,λj hj Y=>?_⟩;rw[<-h6 j hj Y];exact World.frozen?_of_block (w:=w) (c.other _ d)
 .have q:=(s.md r N).2;have d:r≠g:=by rintro rfl;rw[q]at S;cases S
  exact⟨(s.md r N).1,(c.other r d).trans q⟩
def bW.acH(s:bW K G ok w0 h w){cells:Array a_}{e:aX}(Z:K.base<=g)(X:∀j,K.ic g j=ao)(S:∀b:Nat,K.β[b]?=J g->h.V[b]?=J [])
 (alY:∀e0,alive h e0=aa->(K.tk e0).1≠g) {c0:Array a_}  {z0:Nat × Nat} (v:w.heap[g]?=J (.cells c0 t z0))
 (x:Option (Nat × Nat × Nat)) (hx:∀z1 sz L,x=J (z1,sz,L)->cs=[]∨(F cs=z1*sz/\L<=cells.size))
 (c:mi w w' g (.cells cells e (0,0))) (hv:aN K cs (cells.toList.take (F cs))) (wK:cs.all I.dm=aa):
 bW (K.nS g x) G ok w0 {h with V:=h.V++[cs]} w'/\(K.nS g x).β[F h.V]?=J g:=by
 have le:=K.Bc g x;have Jy:(K.nS g x).β[F h.V]?=J g:=by simp[bj.nS,<-s.jd]
 refine⟨⟨s.fM.trans (c.below Z),by rw[c.size];exact s.size,λq j x hx=>?_,λq A hg'=>?_,by simp[bj.nS,s.jd],λb b' q H Fx=>?_,λb q A H C=>?_,s.nb,s.pN,λl q r hl T=>?_,s.tn,λe0 ht=>?_,s.oV,λr T=>?_,s.all⟩,Jy⟩
 .have JR:K.ic q j=J x:=hx;have fH:q≠g:=λz2=>by simp_all
  rw[<-s.ic q j x JR];exact World.cell?_of_block (w:=w) (c.other q fH)
 .obtain⟨d,z,u⟩:=s.dU q A hg';exact⟨d,z.mono le,u⟩
 .rcases rV H with N|⟨p1,p2⟩<;>rcases rV Fx with z2|⟨q1,q2⟩
  .rcases s.oq _ _ _ N z2 with r|r|r<;>grind
  .grind
  .grind
  omega
 .rcases rV H with N|⟨p1,p2⟩
  .have nq:b<F h.V:=(by rw[<-s.jd];exact(aU.1 N).1);rw[qL nq]at C;by_cases p:q=g
   .subst p;have:=S b N;rw[C]at this;injection this with this;subst this;exact⟨Z,X,O,cells,e,c.this,.nil⟩
   .obtain⟨z,u,ha,d,Y,D,E⟩:=s.box b q A N C;exact⟨z,u,ha,d,Y,(c.other q p).trans D,E.mono le (aU.1 N).1⟩
  .subst p2;have:A=cs:=(by rw[p1,s.jd]at C;simp at C;exact C.symm);subst this;exact⟨Z,X,wK,cells,e,c.this,hv.mono le,by rw[p1];simp only[bj.nS,if_true];exact hx⟩
 .obtain⟨z,fn,tmps,z3,u,D,E⟩:=s.loop l q r hl T;have p:q≠g:=by rintro rfl;rw[u]at v;cases v
  exact⟨z,fn,tmps,z3,(c.other q p).trans u,D.mono le,E⟩
 .obtain⟨z,u,D,d,Y,fz,E,h5,h6⟩:=s.tok e0 ht;have p:=alY e0 ht;refine⟨z,λb H=>?_,D,d,Y,fz,(c.other _ p).trans E,h5,λj hj hl=>?_⟩
  .rcases rV H with N|⟨-,N⟩
   .exact u b N
   .exact p N
  .rw[<-h6 j hj hl];exact World.frozen?_of_block (w:=w) (c.other _ p)
 .have u:=(s.md r T).2;have p:r≠g:=by rintro rfl;rw[u]at v;cases v
  exact⟨(s.md r T).1,(c.other r p).trans u⟩
def bj.row(K:bj)(g off m size:Nat)(cells:Nat->Option a_):bj:=
 {K with ic:=λd j=>if d=g/\off<=j/\j<m then cells j else K.ic d j,tn:=K.tn+1,tk:=λt=>if t=K.tn then (g,m,size) else K.tk t}
def bj.Ql{K:bj}{cells}(h:∀j,off<=j->K.ic g j=ao)(p:K.base<=g):K.Le (K.row g off m size cells):=by
 refine⟨O,λe j c d=>?_,λ_ _ h=>h,λ_ _ h=>h,Nat.le_succ _,λt q=>?_,λ_ h=>h,λ_ _=>rfl,λe j c d=>?_⟩
 .simp only[bj.row]
  grind
 .simp only[bj.row]
  grind
 .simp only[bj.row]at d
  grind
def bW.row(s:bW K G ok w0 h w){cells:Array a_}{e:aX}{fz:Nat × Nat}
 (N:h'.V=h.V) (Y:h'.aB=h.aB) (PO:h'.tn=h.tn+1) (Z:∀t,alive h' t=aa->t=h.tn∨(alive h t=aa/\(K.tk t).1≠g))
 (X:K.base<=g) (wN:∀b:Nat,K.β[b]?≠J g) (CQ:∀j,off<=j->K.ic g j=ao) (ga:w.heap.size<=w'.heap.size)
 (hos:w'.os=w.os) (alV:w'.tape=w.tape) (Pq:w'.output=w.output)
 (p:∀k o,k≠g->w.heap[k]?=J o->w'.heap[k]?=J o) (u:w'.heap[g]?=J (.cells cells e fz))
 (YJ:∀o,w.heap[g]?=J o->∃c0 e0 z0,o=.cells c0 e0 z0)
 (azk:∀j c,K.ic g j=J c->cells[j]?=J c) (hom:off<=m) (_hm:m<=cells.size) (yw:∀j,m<=j->j<cells.size->mz fz j=ar):
 bW (K.row g off m cells.size (λj=>cells[j]?)) G ok w0 h' w':=by
 have le:=bj.Ql (m:=m) (size:=cells.size) (cells:=λj=>cells[j]?) CQ X;refine⟨?_,ff s.size ga,λq j x hx=>?_,λq cs hg=>?_,by rw[N];exact s.jd,by rw[N];exact s.oq,λb q cs hb hc=>?_,by rw[Y];exact s.nb,s.pN,λl q r hl hr=>?_,by rw[PO];simp[bj.row,s.tn],
  λt ht=>?_,λt E ht PM A=>?_,λr hr=>?_,s.all⟩
 .refine s.fM.trans ⟨hos,alV,Pq,ga,λk hk=>?_⟩;have dx:k<w.heap.size:=mK hk s.size
  grind
 .simp only[bj.row]at hx;split at hx
  .rename_i hc;obtain⟨rfl,_,_⟩:=hc;rw[cell_of u];exact hx
  .by_cases v:q=g
   .subst v;rw[cell_of u];simp_all
   .have dx:=s.w7 hx;rw[<-s.ic q j x hx];refine World.cell?_of_block (w:=w) ?_;simp_all
 .obtain⟨d,D,z⟩:=s.dU q cs hg;exact⟨d,D.mono le,λj c S=>le.ic _ _ _ (z j c S)⟩
 .rw[N]at hc;obtain⟨D,z,ha,d,e',h3,L⟩:=s.box b q cs hb hc;have v:q≠g:=λe=>wN b (e ▸ hb);refine⟨D,λj=>?_,ha,d,e',p q _ v h3,L.mono le (aU.1 hb).1⟩;simp only[bj.row];simp_all
 .rw[Y]at hr;obtain⟨D,fn,tmps,z1,z,h3,L⟩:=s.loop l q r hl hr;have v:q≠g:=by rintro rfl;obtain⟨_,_,_,h⟩:=YJ _ z;cases h
  exact⟨D,fn,tmps,z1,p q _ v z,h3.mono le,L⟩
 .rcases Z t ht with rfl|⟨C,C7⟩
  .simp only[bj.row,s.tn,if_true];refine⟨X,wN,λj S=>?_,cells,e,fz,u,O,λj S hl=>(wF u j).trans (yw j S hl)⟩
   grind
  .have azP:=rM C;have H:(K.row g off m cells.size (λj=>cells[j]?)).tk t=K.tk t:=le.tk t (by rw[s.tn];omega);rw[H];obtain⟨D,z,h3,d,e',fz',L,h5,h6⟩:=s.tok t C;refine⟨D,z,λj S=>?_,d,e',fz',p _ _ C7 L,h5,λj S hl=>?_⟩
   .simp only[bj.row];simp_all
   .rw[<-h6 j S hl,wF L,wF (p _ _ C7 L)]
 .rcases Z t ht with rfl|⟨C,C7⟩<;>rcases Z E PM with rfl|⟨T,azN⟩
  .rfl
  .exfalso;have H:(K.row g off m cells.size (λj=>cells[j]?)).tk E=K.tk E:=le.tk E (by rw[s.tn];exact rM T);rw[H]at A;simp[bj.row,s.tn]at A;omega
  .exfalso;have H:(K.row g off m cells.size (λj=>cells[j]?)).tk t=K.tk t:=le.tk t (by rw[s.tn];exact rM C);rw[H]at A;simp[bj.row,s.tn]at A;omega
  .have H:(K.row g off m cells.size (λj=>cells[j]?)).tk t=K.tk t:=le.tk t (by rw[s.tn];exact rM C);have e2:(K.row g off m cells.size (λj=>cells[j]?)).tk E=K.tk E:=le.tk E (by rw[s.tn];exact rM T);rw[H,e2]at A;exact s.oV t E C T A
 .obtain⟨D,z⟩:=s.md r hr;have v:r≠g:=by rintro rfl;obtain⟨_,_,_,h⟩:=YJ _ z;cases h
  exact⟨D,p r _ v z⟩
def bj.aK(K:bj)(g:Nat)(cells:Array a_):bj:={K with ic:=λd j=>if d=g then cells[j]? else K.ic d j}
def bW.aoK(s:bW K G ok w0 h w)(cells:Array a_)(e:aX):
 K.Le (K.aK w.heap.size cells)/\bW (K.aK w.heap.size cells) G ok w0 h {w with heap:=w.heap.push (.cells cells e)}:=by
 have azi:∀j,K.ic w.heap.size j=ao:=λj=>by
  cases g:K.ic w.heap.size j with|none=>rfl|some c=>have:=s.w7 g;omega
 have le:K.Le (K.aK w.heap.size cells):=by
  refine⟨O,λz j c g=>?_,λ_ _ h=>h,λ_ _ h=>h,aT _,λ_ _=>rfl,λ_ h=>h,λ_ _=>rfl,λz j c g=>by
   simp only[bj.aK]at g;split at g
   .rename_i z1;rw[z1];exact .inr s.size
   simp_all⟩
  simp only[bj.aK];rw[aL]
  .exact g
  .grind
 have u:=s.push (.cells cells e);refine⟨le,u.fM,u.size,λz j x E=>?_,λz cs hg=>?_,u.jd,u.oq,λb z cs D g=>?_,u.nb,u.pN,λl z r hl hr=>?_,u.tn,λt S=>?_,u.oV,u.md,s.all⟩
 .simp only[bj.aK]at E;split at E
  .simp_all
  .exact u.ic z j x E
 .obtain⟨d,p,q⟩:=s.dU z cs hg;exact⟨d,p.mono le,λj c N=>le.ic _ _ _ (q j c N)⟩
 .obtain⟨p,q,Z,d,C,A,v⟩:=u.box b z cs D g;refine⟨p,λj=>?_,Z,d,C,A,v.mono le (aU.1 D).1⟩;simp only[bj.aK];obtain⟨_,_,_,_,_,h3',_⟩:=s.box b z cs D g
  grind
 .obtain⟨p,T,H,z0,q,A,v⟩:=u.loop l z r hl hr;exact⟨p,T,H,z0,q,A.mono le,v⟩
 .obtain⟨p,q,A,d,C,X,v,Y⟩:=u.tok t S;obtain⟨_,_,_,_,_,_,L,_⟩:=s.tok t S;refine⟨p,q,λj N=>?_,d,C,X,v,Y⟩;simp only[bj.aK];have:=qw L;have e1:(K.aK w.heap.size cells).tk t=K.tk t:=rfl
  grind
end
end
section
open Go.RowKit (Below)
section
variable {P:bO}
def dt{d:TypeDesc}(h:P.underlying t=J d)(w:cC):(underlying t).run P w=.ok d w:=run_underlying h w
def qG{i:TypeInfo}(h:P.info? t=J i)(w:cC):(typeInfo t).run P w=.ok i w:=by simp[typeInfo,h]
def ave(h:cN P t=J n):∃i,P.info? t=J i/\i.size=n:=by simpa [cN] using h
def nA(h:cN P t=J n)(w:cC):(sizeOf t).run P w=.ok n w:=by obtain⟨i,d,e⟩:=ave h;simp[sizeOf,qG d,e]
def Li{b:Bool}(h:fR P t=J b)(w:cC):(isAgg t).run P w=.ok b w:=by
 unfold fR at h;unfold isAgg;cases d:P.underlying t with|none=>simp_all|some e=>rw[d]at h;rw[Sem.run_bind,dt d];cases e<;>(injection h with h;subst h;rfl)
def abJ{z:I}(h:fY P t=J z)(w:cC):∃v,(zeroValue t).run P w=.ok v w/\z=qy v:=by
 unfold fY at h;split at h
 .rename_i i d;simp only[dO]at h;obtain⟨v,e,rfl⟩:=h;exact⟨v,by simp[zeroValue,qG d,e],O⟩
 grind
def N9{α:Type}{es:List (List α)}(d:∀r∈es,F r=sz):∀{i:Nat} {row:List α},es[i]?=J row->(es.flatten.drop (i*sz)).take sz=row:=by
 induction es with
 |nil=>simp_all|cons r es g=>
  have e:F r=sz:=d r cB;intro i row h;cases i with|zero=>simp_all|succ i=>have:=g (λr p=>d r (by grind)) (i:=i) (row:=row) (by simp_all);rw[<-this];simp only[mj];rw[zG,show(i+1)*sz=F r+i*sz by rw[e,jt];omega];rw[ot ag];simp
def N_{α:Type}{es:List (List α)}(d:∀r∈es,F r=sz):∀n:Nat,(es.take n).flatten=es.flatten.take (n*sz):=by
 induction es with
 |nil=>simp_all|cons r es g=>
  have e:F r=sz:=d r cB;intro n;cases n with
  |zero=>simp|succ n=>
   rw[List.take_succ_cons,mj,mj,g (λr p=>d r (by grind)) n,show(n+1)*sz=F r+n*sz by rw[e,jt];omega]
   grind
def Wf{α:Type}{es:List (List α)}(d:∀r∈es,F r=sz):∀n:Nat,(es.drop n).flatten=es.flatten.drop (n*sz):=by
 induction es with
 |nil=>simp_all|cons r es g=>
  have e:F r=sz:=d r cB;intro n;cases n with|zero=>simp|succ n=>rw[List.drop_succ_cons,mj,g (λr p=>d r (by grind)) n,show(n+1)*sz=F r+n*sz by rw[e,jt];omega];rw[zG,ot (ag:F r<=F r+n*sz),(ag:F r+n*sz-F r=n*sz)];simp
def nW{α:Type}{es:List (List α)}(d:∀r∈es,F r=sz):F es.flatten=F es*sz:=by
 induction es with
 |nil=>simp|cons r es e=>
  grind
end
section
variable {P:bO} {K:bj} {G:Nat->Option (List I)} {ok:bk->Nat->Code->Bool} {w0 w:cC} {h:am}
def βJ(s:bW K G ok w0 h w)(d:K.β[b]?=J g):∃cs,h.V[b]?=J cs:=by
 have e:b<F h.V:=by rw[<-s.jd];exact(aU.1 d).1
 simp_all
def Vb(s:bW K G ok w0 h w)(e:Ae G h a=J cs)(C:aV K a c):
 ∃g p u,c=.pointer (J ⟨g,p,ao⟩)/\aN K cs u/\∀(j:Nat) (ca:a_),u[j]?=J ca->w.cell? ⟨g,p+j,ao⟩=J ca:=by
 unfold Ae at e;split at e
 .rename_i r d;simp only[dO]at e;obtain⟨q,v,rfl⟩:=e;cases C with
  |box b g _ S=>
   obtain⟨_,_,_,cells,z0,L,N⟩:=s.box b g q S v;refine⟨g,d,(cells.toList.take (F q)).drop d,O,N.1.drop d,λj ca A=>?_⟩;rw[cell_of L]
   grind
  |dU g _=>obtain⟨cells,E,H⟩:=s.dU g q v;refine⟨g,d,cells.drop d,O,E.drop d,λj ca A=>?_⟩;exact s.ic _ _ _ (H (d+j) ca (by simp_all))
 .rename_i z Y i d;simp only[dO]at e;obtain⟨row,v,rfl⟩:=e;cases C with
  |elem _ _ _ _ g o p cells T D X hi hp Z=>
   refine⟨g,p,((cells.drop (i*z)).take z).drop d,O,?_,λj ca A=>?_⟩
   .have:=((D.drop (i*z)).take z).drop d
    rwa [N9 T v]at this
   .refine s.ic _ _ _ ?_
    grind
 grind
def ZA(s:bW K G ok w0 h w)(d:aF P G h t a=J x)(E:aV K a c):
 ∃g p v,c=.pointer (J ⟨g,p,ao⟩)/\(loadVar t ⟨g,p,ao⟩).run P w=.ok v w/\aV K x v:=by
 unfold aF at d;split at d
 .rename_i cs z A;obtain⟨g,p,e,rfl,u,q⟩:=Vb s A E;split at d
  .rename_i n H;split at d
   .rename_i S;injection d with d;subst d;have D:=run_loadCells_list (P:=P) w ⟨g,p,ao⟩ (e.take n) (λj v T=>by
     rw[Addr.jg]
     grind)
    have C:F (e.take n)=n:=(by rw[dF,<-u.length];omega);rw[C]at D;exact⟨g,p,.agg (e.take n).toArray,O,by simp[loadVar,Li z,nA H,D],.agg _ _ (by simpa using u.take n)⟩
   grind
  grind
 .rename_i cs z A;obtain⟨g,p,e,rfl,u,q⟩:=Vb s A E;cases cs with
  |nil=>grind
  |cons y cs=>
   simp at d;subst d;cases u with|cons _ ca _ N L X=>have:=q 0 ca O;simp only[BN]at this;exact⟨g,p,ca,O,by simp[loadVar,Li z,this],L⟩
 grind
def D'(off:Nat)(e:aX)(fz:Nat × Nat):∀(vs:List a_) (i:Nat) (cells:Array a_) (w:cC),
 w.heap[g]?=J (.cells cells e fz)->off+i+F vs<=cells.size->(∀v∈vs,nt v=aa)->(∀j,off+i<=j->j<off+i+F vs->mz fz j=ar)->
 ∃w' dS,(storeCells ⟨g,off,ao⟩ vs i).run P w=.ok () w'/\mi w w' g (.cells dS e fz)/\
  dS.toList=cells.toList.take (off+i)++vs++cells.toList.drop (off+i+F vs):=by
 intro vs
 induction vs with
 |nil=>intro i cells w s D p u;exact⟨w,cells,O,⟨O,O,O,O,λ_ _=>rfl,s⟩,by simp⟩|cons v rest X=>
  intro i cells w s D p u;simp only[eR]at D u;have C:off+i<cells.size:=by omega
  have T:v.oneCell'=aa:=by have:=p v cB;cases v<;>first|rfl|simp[nt]at this
  have E:(store ((⟨g,off,ao⟩:Addr).add i) v).run P w=.ok () (w.setCell ⟨g,off+i,ao⟩ v):=by rw[Addr.jg,run_store P w _ v _ T,cell_of s,wF s,u (off+i) ag ag,Array.getElem?_eq_getElem C];simp
  have z:(w.setCell ⟨g,off+i,ao⟩ v).heap[g]?=J (.cells (cells.setIfInBounds (off+i) v) e fz):=by simp[World.setCell,Ei,s]
  obtain⟨w',dS,S,d,q⟩:=X (i+1) _ _ z (by grind) (λx hx=>p x (by grind)) (λj hj Y=>u j ag ag);refine⟨w',dS,by simp only[storeCells,Sem.run_bind,E,Result.andThen_ok,S],⟨d.os,d.tape,d.output,by rw[d.size];simp_all,λk N=>?_,d.this⟩,?_⟩
  .rw[d.other k N];simp only[World.setCell,Ei]
   grind
  .rw[q];simp only[ac5,eR];have A:off+i<F cells.toList:=(by simpa using C);rw[xS,aC A];rw[(ag:off+(i+1)=off+i+1),(ag:off+i+(F rest+1)=off+i+1+F rest)];rw[MH,zG];have p:F (cells.toList.take (off+i))=off+i:=(by simp;omega);rw[p];have H:(cells.toList.take (off+i)).take (off+i+1)=cells.toList.take (off+i):=gm ag;have L:(cells.toList.take (off+i)).drop (off+i+1+F rest)=[]:=ot ag;rw[H,L];have Z:off+i+1-(off+i)=1:=(by omega);have h5:off+i+1+F rest-(off+i)=F rest+1:=(by omega);simp_all
def auz{d:Nat}{e:aX}(q:d=off∨aY=0){cells:Array a_}{w:cC}(z:aY=0->vs=[])(p:w.heap[g]?=J (.cells cells e (0,0)))(A:off+F vs<=cells.size)(u:∀v∈vs,nt v=aa):
 ∃w' dS,(storeCells ⟨g,d,ao⟩ vs 0).run P w=.ok () w'/\mi w w' g (.cells dS e (0,0))/\dS.toList=cells.toList.take (off+0)++vs++cells.toList.drop (off+0+F vs):=by
 rcases q with rfl|s
 .exact D' _ e (0,0) vs 0 cells w p ag u (λj _ _=>by simp[mz])
 .have:=z s;subst this;exact⟨w,cells,O,⟨O,O,O,O,λ_ _=>rfl,p⟩,by simp⟩
def ab4{d:List I}{g e:List a_}(off:Nat)(p:aN K d g)(q:aN K cs e):aN K (dW d off cs) (g.take off++e++g.drop (off+F e)):=by unfold dW;rw[q.length];exact((p.take off).append q).append (p.drop _)
def ab3{d}(off)(e:d.all I.dm=aa)(g:cs.all I.dm=aa):(dW d off cs).all I.dm=aa:=by
 rw[e8]at e g ⊢;intro x p;simp only[dW,uQ]at p
 grind
def Sf{α:Type}{d e:List α}(h:off+F e<=F d):F (d.take off++e++d.drop (off+e.length))=F d:=by
 grind
def avB{α:Type}{e d:List α}(h:off+F d<=n)(s:n<=F e):(e.take off++d++e.drop (off+F d)).take n=(e.take n).take off++d++(e.take n).drop (off+F d):=by
 have g:(e.take n).take off=e.take off:=by grind
 have p:(e.take n).drop (off+F d)=(e.drop (off+F d)).take (n-(off+F d)):=by rw[List.drop_take]
 rw[g,p,MH];have q:F (e.take off++d)=off+F d:=by simp;omega
 rw[gm ag,q]
def mi.same{w}{o}(c:mi w w' g o)(h:w.heap[g]?=some o):w'.heap=w.heap:=by
 apply Array.ext_getElem?;intro k;by_cases d:k=g
 .subst d;rw[c.this,h]
 .exact c.other k d
def bW.Sr(s:bW K G ok w0 h w){p:List I}{cells dS:Array a_}{e:aX}(N:K.β[b]?=J g)(hold:h.V[b]?=J p)(A:off+F cs<=F p)
 (q:w.heap[g]?=J (.cells cells e (0,0))) (c:mi w w' g (.cells dS e (0,0))) (d:dS.toList=cells.toList.take (off+0)++vs++cells.toList.drop (off+0+F vs)) (v:aN K cs vs) (L:cs.all I.dm=aa):
 bW K G ok w0 {h with V:=h.V.set b (dW p off cs)} w':=by
 obtain⟨k1,k2,ka,H,Z,u,Y⟩:=s.box b g p N hold;rw[q]at u;injection u with u;injection u with u k3';subst u;simp only[BN]at d;have T:F p<=F cells.toList:=by have:=Y.le;simpa using this
 by_cases z:p=[]
 .subst z;have hc:cs=[]:=by cases cs with|nil=>rfl|cons _ _=>simp_all
  subst hc;have X:vs=[]:=by cases v;rfl
  subst X;have hw:dS=cells:=by apply Array.toList_inj.1;rw[d];simp
  subst hw;have D:=c.same q;have C:h.V.set b (dW [] off [])=h.V:=by
   rw[show dW ([]:List I) off []=[] by simp[dW]];apply ou;intro k;rw[j'];split
   .grind
   .rfl
  rw[C];exact s.same D c.tape c.os c.output
 .have S:List.length (dW p off cs)=List.length p:=by unfold dW;exact Sf A
  refine s.au3 N hold z S (λc0 Z E=>?_) c ?_ (ab3 off ka L)
  .rw[q]at E;injection E with E;injection E with E;subst E;have:F dS.toList=F cells.toList:=by rw[d];exact Sf (by rw[<-v.length];omega)
   grind
  .rw[S,d,avB (by rw[<-v.length];omega) T];exact ab4 off Y.1 v
def zR(h:aN K cs vs)(d:cs.all I.dm=aa):∀v∈vs,nt v=aa:=by intro v p;obtain⟨i,e⟩:=List.getElem?_of_mem p;obtain⟨x,q,g⟩:=h.get' e;exact amO (e8.1 d x (dk q)) g
def Cv(j):mz (0,0) j=ar:=by simp[mz]
def awh(s:bW K G ok w0 h w)(d:bU P h t a x=J h'){e:a_}(N:aV K a c)(S:aV K x e):
 ∃w',(Instr.storeAt t c e).run P w=.ok () w'/\bW K G ok w0 h' w':=by
 unfold bU at d;split at d
 .rename_i b D cs n z H;split at d
  .rename_i g hold;split at d
   .rename_i p;injection d with d;subst d;cases N with|box _ z1 _ v=>obtain⟨k1,k2,ka,cells,z0,C,T⟩:=s.box b z1 g v hold;obtain⟨q,E⟩:=Iy z S;have A:e.cells.size=n:=(by rw[<-p.1,q.length];simp);have L:F g<=cells.size:=T.le;obtain⟨w',u,X,Y,Z⟩:=D' (P:=P) D z0 (0,0) e.cells.toList 0 cells w C (by grind) (zR q E) (λj _ _=>Cv j);refine⟨w',by simp[Instr.storeAt,Instr.sureAddr,storeVar,nA H,A,X],s.Sr v hold ag C Y Z q E⟩
   grind
  grind
 grind
end
end
section
open Go.RowKit (Below)
section
variable {P:bO} {K:bj} {G:Nat->Option (List I)} {ok:bk->Nat->Code->Bool} {w0 w:cC} {h:am}
def Yields(K:bj)(G:Nat->Option (List I))(ok:bk->Nat->Code->Bool)(w0:cC)(x:I)(h':am)(r:Result Next):Prop:=
 ∃d e w',K.Le d/\bW d G ok w0 h' w'/\aV d x e/\(r=.ok (.value e) w'∨(r=.ok .skip w'/\e=undef))
def Yields.mC(s:bW K G ok w0 h w)(e:aV K x v){r:Result Next}(d:r=.ok (.value v) w):Yields K G ok w0 x h r:=
 ⟨K,v,w,.refl K,s,e,.inl d⟩
def ajL(off):∀(l:List a_) (i:Nat) (cells:Array a_),off+i+F l<=cells.size->
 ((l.zipIdx i).foldl (λcs p=>cs.setIfInBounds (off+p.2) p.1) cells).toList=cells.toList.take (off+i)++l++cells.toList.drop (off+i+F l):=by
 intro l
 induction l with
 |nil=>simp_all|cons C rest v=>
  intro i cells u;simp only[eR]at u;have s:off+i<cells.size:=by omega
  simp only[List.zipIdx_cons,zJ];rw[v (i+1) _ (by grind)];simp only[ac5,eR];have d:off+i<F cells.toList:=by simpa using s
  rw[xS,aC d];rw[(ag:off+(i+1)=off+i+1),(ag:off+i+(F rest+1)=off+i+1+F rest)];rw[MH,zG];have e:F (cells.toList.take (off+i))=off+i:=by simp;omega
  rw[e];have g:(cells.toList.take (off+i)).take (off+i+1)=cells.toList.take (off+i):=gm ag;have q:(cells.toList.take (off+i)).drop (off+i+1+F rest)=[]:=ot ag;rw[g,q];have z:off+i+1-(off+i)=1:=by omega
  have A:off+i+1+F rest-(off+i)=F rest+1:=by omega
  simp_all
def ayh(f)(vs cells:Array a_):vs.zipIdx.foldl f cells=(vs.toList.zipIdx 0).foldl f cells:=by rw[<-Array.foldl_toList,Array.toList_zipIdx]
def V7{p}:∀{aS:List (Nat × I)} {cells e:List I},sV p cells aS=J e->cells.all I.dm=aa->e.all I.dm=aa:=by
 intro aS
 induction aS with
 |nil=>intro cells e g s;simp[sV]at g;simp_all|cons E rest C=>
  intro cells e g s;simp only[sV]at g;split at g
  .rename_i u D cs H d;split at g
   .refine C g (ab3 u s ?_);unfold I.bL at d;split at d
    .simp_all
    .grind
    .grind
    .rename_i v z A;injection d with d;subst d;have L:E.2.dm=aa:=by cases q:E.2<;>first|rfl|exact absurd q (v _)|exact absurd q (z _)|exact absurd q A
     grind
   grind
  grind
def IP{q:Nat->Option (Nat × Nat)}:∀{aS:List (Nat × I)} {cells p:List I} {d:List (Nat × a_)} {dS:Array a_},
 sV q cells aS=J p->aN K cells dS.toList->(d.map (·.1)=aS.map (·.1))->aN K (aS.map (·.2)) (d.map (·.2))->
 ∃e,Instr.fill q dS d=J e/\aN K p e.toList:=by
 intro aS
 induction aS with
 |nil=>
  intro cells p d dS g v s A;have:d=[]:=by simpa using s
  subst this;simp[sV]at g;subst g;exact⟨dS,O,v⟩
 |cons z1 rest Y=>
  obtain⟨i,x⟩:=z1;intro cells p d dS g v s A;cases d with
  |nil=>grind
  |cons Z L=>
   obtain⟨i',z0⟩:=Z;simp only[dK,List.cons.injEq]at s;obtain⟨rfl,s⟩:=s;simp only[dK]at A;cases A with
   |cons _ _ _ _ X S=>
    simp only[sV]at g;split at g
    .rename_i u D cs N E;split at g
     .rename_i C;obtain⟨H,_⟩:=Iy E X;have ga:z0.cells.size=D:=(by rw[<-C.1,H.length];simp);have T:dS.size=F cells:=(by rw[v.length];simp);have z:=ajL u z0.cells.toList 0 dS (by grind);obtain⟨e,q1,q2⟩:=Y (dS:=z0.cells.zipIdx.foldl (λcs (c,j)=>cs.setIfInBounds (u+j) c) dS) g (by rw[ayh,z];simpa using ab4 u v H) s S;refine⟨e,?_,q2⟩;simp only[Instr.fill,N];simp_all
     grind
    grind
def QW{ρ:b9->I}{ρ':b9->a_}(d:∀x,aV K (ρ x) (ρ' x))(aS:Array (Nat × b9)):
 ((aS.map λp=>(p.1,ρ' p.2)).toList.map (·.1)=(aS.toList.map λp=>(p.1,ρ p.2)).map (·.1))/\
 aN K ((aS.toList.map λp=>(p.1,ρ p.2)).map (·.2)) ((aS.map λp=>(p.1,ρ' p.2)).toList.map (·.2)):=by
 simp only[El,tS];exact⟨O,aN.map_mk λp _=>d p.2⟩
def Bx(d:(fY P t).bind I.bL=J zero)(w:cC):∃v,(zeroValue t).run P w=.ok v w/\aN K zero v.cells.toList/\zero.all I.dm=aa:=by simp only[zM]at d;obtain⟨u,e,g⟩:=d;obtain⟨v,p,rfl⟩:=abJ e w;obtain⟨q,s⟩:=Iy g (QO (K:=K) v);simp_all
def aos(fields:Array Field)(e:∀f∈fields.toList,(P.info? f.type).isSome=aa)(w:cC):
 ∃d:Array (Nat × Nat),(fields.mapM (m:=Sem) λ(f:Field)=>do pure (f.offset,<-sizeOf f.type)).run P w=.ok d w/\∀i,d[i]?=placesOf P fields i:=by
 have q:∀(l:List Field),(∀f∈l,(P.info? f.type).isSome=aa)->
  (l.mapM (m:=Sem) λ(f:Field)=>do pure (f.offset,<-sizeOf f.type)).run P w=.ok (l.map λf=>(f.offset,(cN P f.type).getD 0)) w:=by
  intro l
  induction l with
  |nil=>simp_all|cons f l z=>intro s;have g:=s f cB;obtain⟨i,p⟩:=aen.1 g;have v:cN P f.type=J i.size:=(by simp[cN,p]);rw[List.mapM_cons,Sem.run_bind,Sem.run_bind,nA v];simp_all
 refine⟨(fields.toList.map λf=>(f.offset,(cN P f.type).getD 0)).toArray,?_,λi=>?_⟩
 .rw[Array.mapM_eq_mapM_toList,Sem.run_map,q fields.toList e];rfl
 .simp only[je,ek,Ej,placesOf];cases g:fields[i]? with|none=>rfl|some f=>have u:f∈fields.toList:=(by simpa using Array.mem_of_getElem? g);obtain⟨i,p⟩:=aen.1 (e f u);simp[cN,p]
def agG{aS:Array (Nat × b9)}{ρ:b9->I}{ρ':b9->a_}(Z:∀x,aV K (ρ x) (ρ' x))
 (d:iK P t (aS.toList.map λp=>(p.1,ρ p.2))=J x) (w:cC):∃v,(Instr.build t (aS.map λp=>(p.1,ρ' p.2))).run P w=.ok v w/\aV K x v:=by
 obtain⟨T,X⟩:=QW Z aS;unfold iK at d;split at d
 .rename_i fields zero A C;obtain⟨z0,g,q,_⟩:=Bx (K:=K) C w;split at d
  .rename_i z;simp only[dO]at d;obtain⟨S,u,rfl⟩:=d;obtain⟨s,H,L⟩:=aos (P:=P) fields (λf hf=>Array.all_eq_true'.1 z f (by simp_all)) w;have N:placesOf P fields=(s[·]?):=(by funext i;exact(L i).symm);rw[N]at u;obtain⟨e,D,E⟩:=IP u q T X;exact⟨.agg e,by simp only[Instr.build,Sem.run_bind,g,Result.andThen_ok,dt A,H,D,Sem.run_pure],.agg _ _ E⟩
  grind
 .rename_i n elem zero A C;obtain⟨z0,g,q,_⟩:=Bx (K:=K) C w;split at d
  .rename_i size Y;simp only[dO]at d;obtain⟨S,u,rfl⟩:=d;obtain⟨e,D,E⟩:=IP u q T X;exact⟨.agg e,by simp only[Instr.build,Sem.run_bind,g,Result.andThen_ok,dt A,nA Y,D,Sem.run_pure],.agg _ _ E⟩
  grind
 grind
def V6:∀{aS:List (Nat × I)} {U d:List (List I)},(∀r∈U,F r=sz)->yl sz U aS=J d->
 sV (λi=>J (i*sz,sz)) U.flatten aS=J d.flatten/\(∀r∈d,F r=sz)/\F d=F U:=by
 intro aS
 induction aS with
 |nil=>intro U d p e;simp[yl]at e;subst e;exact⟨O,p,O⟩|cons S rest C=>
  obtain⟨i,x⟩:=S;intro U d p e;simp only[yl]at e;split at e
  .rename_i cs s;split at e
   .rename_i g;have q:∀r∈U.set i cs,F r=sz:=λr z=>by
     grind
    obtain⟨L,E,N⟩:=C q e;have u:=nW p;have v:i*sz+sz<=F U.flatten:=(by rw[u];have:(i+1)*sz<=F U*sz:=mn _ g.2;rw[jt]at this;omega);have H:(U.set i cs).flatten=dW U.flatten (i*sz) cs:=by
     clear L E N C e v q;unfold dW;rw[g.1]
     induction U generalizing i with
     |nil=>simp_all|cons r U D=>
      have A:F r=sz:=p r cB;cases i with|zero=>simp_all|succ i=>have:=D i (λr z=>p r (by grind)) ⟨g.1,by simp_all⟩ (nW (λr z=>p r (by grind)));simp only[List.set_cons_succ,mj,this];rw[show(i+1)*sz=F r+i*sz by rw[A,jt];omega,MH,zG];rw[gm (ag:F r<=F r+i*sz),ot (ag:F r<=F r+i*sz+sz)];rw[(ag:F r+i*sz-F r=i*sz),(ag:F r+i*sz+sz-F r=i*sz+sz)];simp
    refine⟨?_,E,by simp_all⟩;simp only[sV,s];simp_all
   grind
  grind
def GD(zero:Array a_)(n):((xC (n*zero.size)).map (zero[·%zero.size]!)).toList=(bT n zero.toList).flatten:=by
 induction n with
 |zero=>simp|succ n g=>
  rw[List.replicate_succ',tR,<-g];simp only[El,Array.toList_range,jt,xT,List.range_add,jr,tS,mj,adF,g'];congr 1;apply HJ
  .simp
  .intro i e p;have d:i<zero.size:=(by simpa using e);simp[mM d,d]
def aN.Ao{z:List a_}(d:aN K zero z):∀n:Nat,aN K (bT n zero).flatten (bT n z).flatten
 |0=>.nil
 |n+1=>by simp only[List.replicate_succ,mj];exact d.append (aN.Ao d n)
def KI(d:zero.all I.dm=aa)(n):(bT n zero).flatten.all I.dm=aa:=by simp_all
def agF(s:bW K G ok w0 h w){len:Nat}{aS:Array (Nat × b9)}{ρ:b9->I}{ρ':b9->a_}(hρ:∀x,aV K (ρ x) (ρ' x))
 (e:fF P t len (aS.toList.map λp=>(p.1,ρ p.2))=J x):
 ∃A v w',K.Le A/\bW A G ok w0 h w'/\aV A x v/\(Instr.buildSlice t len (aS.map λp=>(p.1,ρ' p.2))).run P w=.ok v w':=by
 obtain⟨p1,p2⟩:=QW hρ aS;unfold fF at e;split at e
 .rename_i elem L;split at e
  .rename_i d zero H hz;obtain⟨z,N,u,S⟩:=Bx (K:=K) hz w;split at e
   .rename_i Z;simp only[dO]at e;obtain⟨X,ho,rfl⟩:=e;obtain⟨f1,f2,f3⟩:=V6 (λr hr=>by simp_all) ho;have T:z.cells.size=d:=(by rw[<-Z.2.1,u.length];simp);have g:((xC (len*d)).map (z.cells[·%z.cells.size]!)).toList=(bT len z.cells.toList).flatten:=(by rw[<-T];exact GD _ _);obtain⟨q,C,q2⟩:=IP (dS:=(xC (len*d)).map (z.cells[·%z.cells.size]!)) f1 (by rw[g];exact u.Ao len) p1 p2;obtain⟨le,s'⟩:=s.aoK q elem;refine⟨_,.slice (J ⟨w.heap.size,0,ao⟩) len len,_,le,s',?_,?_⟩
    .refine .ac .aK d X w.heap.size 0 len len q.toList (by simp_all) f2 (q2.mono le) (λj c hj=>?_) ⟨aT _,O⟩ (V7 f1 (KI S len));simp only[bj.aK,oy,if_true];simp_all
    .by_cases D:len*d=0
     .have E:len=0:=by
       rcases aed.1 D with h|h
       .exact h
       .omega
      subst E;simp only[MR]at C;have Y:(xC 0).map (λx=>(#[]:Array a_)[x%(#[]:Array a_).size]!)=(xC 0).map (z.cells[·%z.cells.size]!):=(by simp);simp only[Instr.buildSlice,Sem.run_bind,dt L,Result.andThen_ok,nA H,MR];simp only[qc,gt_iff_lt,if_false,aei,if_true,Sem.run_pure,Result.andThen_ok,Y,C,newRow,Sem.run_bind,run_newObj]
     .simp only[Instr.buildSlice,Sem.run_bind,dt L,Result.andThen_ok,nA H];rw[aL ag,aL D];simp only[Sem.run_pure,Sem.run_bind,N,Result.andThen_ok,C,newRow,run_newObj]
   grind
  grind
 grind
def aeY(s:bW K G ok w0 h w)(q:(fY P t).bind I.bL=J cs):
 ∃d v w',K.Le d/\bW d G ok w0 (h.box cs).2 w'/\aV d (h.box cs).1 v/\(Instr.alloc t aa (.tuple #[])).run P w=.ok v w':=by
 obtain⟨A,e,g,p⟩:=Bx (K:=K) q w;obtain⟨u,z⟩:=s.QE t g p;exact⟨_,_,_,K.Qj _,u,z,by simp[Instr.alloc,e,newVar,newRow]⟩
def agv(s:bW K G ok w0 h w)(e:x.bL=J cs)(g:aV K x c):
 ∃d v w',K.Le d/\bW d G ok w0 (h.box cs).2 w'/\aV d (h.box cs).1 v/\(Instr.box t c).run P w=.ok v w':=by
 obtain⟨u,z⟩:=Iy e g;obtain⟨p,q⟩:=s.QE t u z;exact⟨_,_,_,K.Qj _,p,q,by simp[Instr.box,newVar,newRow]⟩
def aol(s:bW K G ok w0 h w){l c:I}(d:w8 P h t l c=J (x,h')){L:a_}(hl:aV K l p)(hc:aV K c L):
 ∃u v w',K.Le u/\bW u G ok w0 h' w'/\aV u x v/\(Instr.makeSlice t p L).run P w=.ok v w':=by
 unfold w8 at d;split at d
 .rename_i elem kl l kc c hu;obtain⟨rfl,_⟩:=hl.hY;obtain⟨rfl,_⟩:=hc.hY;split at d
  .rename_i i zero C hz;obtain⟨A,D,q,E⟩:=Bx (K:=K) hz w;split at d
   .rename_i g;obtain⟨S,T,h3,X,h5,Y⟩:=g;injection d with d;obtain⟨rfl,rfl⟩:=fW d;have N:i.zero=J A:=by
     simp only[zeroValue,Sem.run_bind,qG C,Result.andThen_ok]at D;cases hzz:i.zero with|none=>simp_all|some v=>simp_all
    have H:A.cells.size=i.size:=(by rw[<-Y,q.length];simp);have z:=run_make (P:=P) w t elem i A hu C N kl kc l c S T X ag;have e:(madeCells A.cells (c.toNat*i.size)).toList=(bT c.toNat A.cells.toList).flatten:=(by rw[<-H];exact GD _ _);obtain⟨q1,q2⟩:=s.QE (cells:=madeCells A.cells (c.toNat*i.size)) elem (by rw[e];exact q.Ao _) (KI E _);cases q2 with|box _ _ _ Z=>exact⟨_,_,_,K.Qj _,q1,.arr _ _ _ _ _ _ _ Z ag (aT _) (.inl O) (.inl O),z⟩
   grind
  grind
 grind
def qT{hi:Nat}{x:Option I}{d:Nat}(e:gC hi x d=J n){p:Option a_}(u:∀a,x=J a->∃c,p=J c/\aV K a c)(v:x=ao->p=ao)(w:cC):
 (p=ao/\n=d/\x=ao)∨(∃c,p=J c/\(∀(top:Nat) (g:Go.BoundsCode),hi<=top->(Instr.sliceBound c top g).run P w=.ok n w)/\n<=hi/\x.isSome=aa):=by
 unfold gC at e;split at e
 .simp_all
 .rename_i _ k m;split at e
  .rename_i q;injection e with e;subst e;obtain⟨c,rfl,s⟩:=u _ O;obtain⟨rfl,_⟩:=s.hY;refine .inr ⟨_,O,λtop g z=>?_,by omega,O⟩;have:m<=(top:Int):=(by omega);simp[Instr.sliceBound,asIntOf,q.1,this]
  grind
 grind
def BZ{lo hi mx:Option I}{C v mx':Option a_}(A:∀a,lo=J a->∃c,C=J c/\aV K a c)(D:lo=ao->C=ao)
 (H:∀a,hi=J a->∃c,v=J c/\aV K a c) (L:hi=ao->v=ao) (Pf:∀a,mx=J a->∃c,mx'=J c/\aV K a c) (nmx:mx=ao->mx'=ao)
 {top len:Nat} (u:Bool) (e1:gC top mx top=J m) (e2:gC m hi len=J g) (S:gC g lo 0=J l)
 (z:len<=aY) (T:top<=aY) (hmh:mx.isSome=aa->hi.isSome=aa) (w:cC):
 ∃m',(Instr.sliceBounds u len aY C v mx').run P w=.ok (l,g,m') w/\(mx=ao->m'=aY/\m=top)/\(mx.isSome=aa->m'=m)/\l<=g/\(hi=ao->g=len)/\g<=m'/\(hi.isSome=aa->g<=m):=by
 rcases qT (P:=P) e1 Pf nmx w with⟨rfl,rfl,rfl⟩|⟨c1,rfl,q1,s_,dY⟩
 .rcases qT (P:=P) e2 H L w with⟨rfl,rfl,rfl⟩|⟨c2,rfl,X,e,oD⟩
  .rcases qT (P:=P) S A D w with⟨rfl,rfl,rfl⟩|⟨Y,rfl,E,p,_⟩
   .exact⟨aY,by simp[Instr.sliceBounds],λ_=>⟨O,O⟩,cB,ck _,λ_=>rfl,z,by simp⟩
   .have s:=λd=>E g d (aT _);exact⟨aY,by simp[Instr.sliceBounds,s],λ_=>⟨O,O⟩,cB,p,λ_=>rfl,z,by simp⟩
  .have q:=λd=>X aY d ag;rcases qT (P:=P) S A D w with⟨rfl,rfl,rfl⟩|⟨Y,rfl,E,p,_⟩
   .exact⟨aY,by simp[Instr.sliceBounds,q],λ_=>⟨O,O⟩,cB,ck _,λZ=>by simp_all,by omega,λ_=>e⟩
   .have s:=λd=>E g d (aT _);exact⟨aY,by simp[Instr.sliceBounds,q,s],λ_=>⟨O,O⟩,cB,p,λZ=>by simp_all,by omega,λ_=>e⟩
 .have oD:=hmh dY;have N:=λd=>q1 aY d T;rcases qT (P:=P) e2 H L w with⟨_,_,rfl⟩|⟨c2,rfl,X,e,_⟩
  .grind
  .have q:=λd=>X m d (aT _);rcases qT (P:=P) S A D w with⟨rfl,rfl,rfl⟩|⟨Y,rfl,E,p,_⟩
   .exact⟨m,by simp[Instr.sliceBounds,N,q],λZ=>by simp_all,λ_=>rfl,ck _,λZ=>by simp_all,e,λ_=>e⟩
   .have s:=λd=>E g d (aT _);exact⟨m,by simp[Instr.sliceBounds,N,q,s],λZ=>by simp_all,λ_=>rfl,p,λZ=>by simp_all,e,λ_=>e⟩
def QS{ρ:b9->I}{ρ':b9->a_}(d:∀x,aV K (ρ x) (ρ' x))(o:Option b9):
 (∀a,o.map ρ=J a->∃c,o.map ρ'=J c/\aV K a c)/\(o.map ρ=ao->o.map ρ'=ao):=by
 cases o with|none=>simp_all|some x=>simp_all
def an1{k:Tok}{d m':Nat}{p e:Bool}
 (hv:aV K (.ac k sz es) (.slice (J ⟨g,off,ao⟩) (F es) aY)) (X:size=sz∨es=[]) (hl:l<=d) (D:d<=F es) (u:d<=m') (Xs:m'<=aY)
 (A:p=aa->d=F es/\m'=aY) (azm:e=aa->m'=d):
 aV K (.ac (qX k p e (d-l)) sz ((es.take d).drop l)) (.slice (J (if m'=l then ⟨g,off,ao⟩ else (⟨g,off,ao⟩:Addr).add (l*size))) (d-l) (m' - l)):=by
 cases hv with
 |gI=>
  have L:d=0:=by simpa using D
  subst L;have l0:l=0:=by omega
  subst l0;have m0:m'=0:=by omega
  subst m0;refine .ac _ sz [] g off 0 0 [] O cB .nil cB ⟨aT _,?_⟩ O;unfold qX
  grind
 |ac _ _ _ _ _ n _ cells hn C Y CQ ht ha=>
  have s:F ((es.take d).drop l)=d-l:=by simp;omega
  have q:(if m'=l then (⟨g,off,ao⟩:Addr) else (⟨g,off,ao⟩:Addr).add (l*size))=⟨g,if m'=l then off else off+l*size,ao⟩:=by
   split
   .rfl
   .rw[Addr.jg]
  rw[q];have T:∀r∈(es.take d).drop l,F r=sz:=λr u=>C r (uR (List.mem_of_mem_drop u));have N:((es.take d).drop l).flatten=(es.flatten.take (d*sz)).drop (l*sz):=by rw[Wf (λr u=>C r (uR u)),N_ C]
  refine .ac _ sz _ g _ _ _ ((cells.take (d*sz)).drop (l*sz)) s.symm T (by rw[N];exact(Y.take _).drop _) (λj c hj=>?_) ?_ ?_
  .grind
  rotate_left
  .grind
  .refine⟨ag,?_⟩;have v:=ht.2;cases k with
   |nil=>simp_all|aK=>
    simp only[qX]
    grind
   |held=>
    simp only[qX]
    grind
   |free t=>
    simp only[qX];simp only at v;cases e with
    |true=>simp_all|false=>
     by_cases z:(p&&d-l !=0)=aa
     .simp only[jE,if_false,z,if_true];simp only[bR,bne_iff_ne,ne_eq]at z;obtain⟨H,Z⟩:=A z.1;have S:es≠[]:=(by rintro rfl;simp at H;omega);have E:size=sz:=X.resolve_right S;obtain⟨t1,t2,t3,t4⟩:=v;subst E;rw[aL ag];refine⟨t1,t2,?_,?_⟩
      .rw[t3,<-H,MQ];have:l*size<=d*size:=mn _ hl;omega
      .rw[Z,MQ];have:l*size<=aY*size:=mn _ ag;omega
     grind
def ZT44{p:Prop}(h:p:=by
 simp only[Instr.sliceAt,Sem.run_bind,dt T,Result.andThen_ok,Instr.slice,D,nA hs];simp):p:=h
def avn{lo hi mx:Option b9}{ρ:b9->I}{ρ':b9->a_}(hρ:∀x,aV K (ρ x) (ρ' x))
 (d:gV P t x (lo.map ρ) (hi.map ρ) (mx.map ρ)=J y)  (hx:aV K x c) (w:cC):
 ∃v,(Instr.sliceAt t c (lo.map ρ') (hi.map ρ') (mx.map ρ')).run P w=.ok v w/\aV K y v:=by
 obtain⟨L,N⟩:=QS hρ lo;obtain⟨z,A⟩:=QS hρ hi;obtain⟨p,e⟩:=QS hρ mx;unfold gV at d;split at d
 .cases d
 rename_i azg;have Y:(mx.map ρ).isSome=aa->(hi.map ρ).isSome=aa:=by
  intro h1;cases h2:hi.map ρ with|some _=>rfl|none=>simp_all
 split at d
 .rename_i z2 T;split at d
  .cases d
  rename_i hmn;have alx:mx.map ρ=ao:=by simpa using hmn
  split at d
  .rename_i u H;split at d
   .rename_i l S;injection d with d;subst d;obtain⟨rfl,_⟩:=hx.hY;obtain⟨q,D,q2,_⟩:=BZ (P:=P) (mx:=ao) (mx':=ao) L N z A cB cB ar (top:=z2.size) (aY:=z2.size) (m:=z2.size) rfl H S (aT _) (aT _) cB w;refine⟨_,?_,.v (.string (z2.extract l u)) rfl⟩;simp only[Instr.sliceAt,Sem.run_bind,dt T,Result.andThen_ok,Instr.slice,e alx];simp[D]
   grind
  grind
 .rename_i elem k sz es T;split at d
  .rename_i E m hs s;split at d
   .rename_i u H;split at d
    .rename_i l S;split at d
     .rename_i ga;injection d with d;subst d;have Jd:u<=es.length:=by rcases qT (P:=P) s p e w with⟨_,rfl,_⟩|⟨_,_,_,X,_⟩<;>rcases qT (P:=P) H z A w with⟨_,rfl,_⟩|⟨_,_,_,yA,_⟩<;>omega
      cases hx with
      |nil=>
       obtain⟨q,D,q2,q3,q4,q5,q6,q7⟩:=BZ (P:=P) L N z A p e aa (top:=0) (aY:=0) (len:=0) s H S (aT _) (aT _) Y w;have Fy:u=0:=(by simpa using Jd);subst Fy;have l0:l=0:=(by omega);subst l0;have Pc:q=0:=by
        rcases qT (P:=P) s p e w with⟨_,_,hn⟩|⟨_,_,_,X,Z⟩
        .simp_all
        .simp_all
       subst Pc;refine⟨.slice ao 0 0,?_,?_⟩
       .exact ZT44
       .simp only[qX,ad2,adA];exact .nil _
      |gI _ a0=>
       obtain⟨q,D,q2,q3,q4,q5,q6,q7⟩:=BZ (P:=P) L N z A p e aa (top:=0) (aY:=0) (len:=0) s H S (aT _) (aT _) Y w;have Fy:u=0:=(by simpa using Jd);subst Fy;have l0:l=0:=(by omega);subst l0;have Pc:q=0:=by
        rcases qT (P:=P) s p e w with⟨_,_,hn⟩|⟨_,_,_,X,Z⟩
        .simp_all
        .simp_all
       subst Pc;refine⟨.slice (J a0) 0 0,?_,?_⟩
       .exact ZT44
       .have alr:m=0:=by
         rcases qT (P:=P) s p e w with⟨_,hn,_⟩|⟨_,_,_,X,Z⟩
         .omega
         .simp_all
        subst alr;have hct:∀z1:Option I,qX .aK (decide (0=([]:List (List I)).length)&&z1.isNone) (z1.isSome&&decide (0=0)) (0 - 0)=.aK:=(by intro z1;cases z1<;>rfl);rw[hct];simp only[ad2,adA];exact .gI _ _
      |ac _ _ _ z0 C n g cells hn hr jx CQ ht ha=>
       subst hn;obtain⟨q,D,q2,q3,q4,q5,q6,q7⟩:=BZ (P:=P) L N z A p e aa (top:=es.length) (aY:=g) (len:=es.length) s H S ht.1 ht.1 Y w;have als:q<=g:=by
        rcases qT (P:=P) s p e w with⟨_,_,hn⟩|⟨_,_,_,X,Z⟩
        .simp_all
        .have:=q3 Z;have:=ht.1;omega
       refine⟨.slice (J (if q=l then ⟨z0,C,ao⟩ else (⟨z0,C,ao⟩:Addr).add (l * E))) (u - l) (q - l),?_,?_⟩
       .simp only[Instr.sliceAt,Sem.run_bind,dt T,Result.andThen_ok,Instr.slice,D,nA hs,Sem.run_pure]
        grind
       .refine an1 (.ac _ _ _ z0 C _ g cells rfl hr jx CQ ht ha) ga q4 Jd q6 als (λh=>?_) (λh=>?_)<;>simp_all
     grind
    grind
   grind
  grind
 .rename_i elem b C len g T;split at d
  .rename_i E m hs s;split at d
   .rename_i u H;split at d
    .rename_i l S;cases hx with
     |arr _ z0 _ _ _ qA wy hβ hl qo AQ qs=>
      obtain⟨q,D,q2,q3,q4,q5,q6,q7⟩:=BZ (P:=P) L N z A p e aa (top:=g) (aY:=wy) (len:=len) s H S ag qo Y w;have hmc:m<=g:=(by rcases qT (P:=P) s p e w with⟨_,z1,_⟩|⟨_,_,_,z1,_⟩<;>omega);have hmm:m<=q:=by
       cases hq:BP ρ mx with|none=>simp_all|some z3=>simp_all
      have Jd:u<=m:=by
       cases hq:BP ρ mx with
       |none=>
        cases wP:BP ρ hi with|none=>simp_all|some z3=>simp_all
       |some z3=>simp_all
      have JJ:(Instr.sliceAt t (.slice (J ⟨z0,qA,ao⟩) len wy) (BP ρ' lo) (BP ρ' hi) (BP ρ' mx)).run P w=.ok (.slice (J ⟨z0,if q=l then qA else qA+l * E,ao⟩) (u - l) (q - l)) w:=by
       simp only[Instr.sliceAt,Sem.run_bind,dt T,Result.andThen_ok,Instr.slice,D,nA hs,Sem.run_pure];congr 2;split
       .rfl
       .simp[Addr.jg]
      refine⟨_,JJ,?_⟩;split at d
      .cases d
      rename_i C5;split at d
      .rename_i Pe;injection d with d;subst d;have:=q3 Pe.1;rw[(ag:u - l=0),(ag:q - l=0)];exact .gI _ _
      .injection d with d;subst d;refine .arr _ _ _ _ _ _ _ hβ ag ag ?_ ?_
       .grind
       .cases hq:BP ρ mx with
        |some z3=>simp_all|none=>
         obtain⟨r1,r2⟩:=q2 hq;by_cases Pe:m=l
         .omega
         .rw[aL Pe];by_cases Jq:l=0
          .simp_all
          .exact .inr (.inr (.inl (by have:=HV (aef Jq) (aef C5);omega)))
    grind
   grind
  grind
 .rename_i n elem b C T;split at d
  .rename_i E m hs s;split at d
   .rename_i u H;split at d
    .rename_i l S;injection d with d;subst d;cases hx with
     |box _ z0 _ hβ=>
      obtain⟨q,D,q2,q3,q4,q5,q6,q7⟩:=BZ (P:=P) L N z A p e ar (top:=n) (aY:=n) (len:=n) s H S (aT _) (aT _) Y w;have hm:q=m:=by
       rcases qT (P:=P) s p e w with⟨_,_,hn⟩|⟨_,_,_,X,Z⟩
       .simp_all
       .simp_all
      subst hm;refine⟨.slice (J ⟨z0,if q=l then C else C+l * E,ao⟩) (u - l) (q - l),?_,.arr _ _ _ _ _ _ _ hβ ag (aT _) (.inl rfl) (.inl rfl)⟩;simp only[Instr.sliceAt,Sem.run_bind,dt T,Result.andThen_ok,Instr.sureAddr,D,nA hs,Sem.run_pure];congr 3;split
      .rfl
      .simp[Addr.jg]
    grind
   grind
  grind
 grind
def NX{f:Field}(e:cN P f.type=J n)(d:n≠0)(g o:Nat)(w:cC):(fieldPlace ⟨g,o,ao⟩ f).run P w=.ok ⟨g,o+f.offset,ao⟩ w:=by simp[fieldPlace,nA e,d,Addr.jg]
def ajk{f:Nat}(d:dQ P t x f=J y)(u:aV K x c)(w:cC):
 ∃v,(Instr.fieldAt t c f).run P w=.ok v w/\aV K y v:=by
 unfold dQ at d;split at d
 .rename_i fields q;split at d
  .rename_i C e;split at d
   .cases d
   .rename_i n s p;have g:n≠0:=λT=>s T;split at d
    .rename_i r z;injection d with d;subst d;cases u with|box b A _ E=>exact⟨_,by simp[Instr.fieldAt,dt q,e,Instr.sureAddr,NX p g],.box _ _ _ E⟩|dU A _=>exact⟨_,by simp[Instr.fieldAt,dt q,e,Instr.sureAddr,NX p g],.dU _ _⟩
    .rename_i sz X i z;injection d with d;subst d;cases u with|elem _ _ _ _ A o Z cells N S H L Y D=>exact⟨.pointer (J ⟨A,Z+C.offset,ao⟩),by simp[Instr.fieldAt,dt q,e,Instr.sureAddr,NX p g],.elem _ _ _ _ A o _ cells N S H L ag D⟩
    grind
   grind
  grind
 grind
def aml(d:dM P t x a=J y)(z:aV K x c)(hi:aV K a T)(w:cC):
 ∃v,(Instr.indexAt t c T).run P w=.ok v w/\aV K y v:=by
 unfold dM at d;split at d
 .rename_i elem k Y es L i p;obtain⟨rfl,_⟩:=hi.hY;split at d
  .rename_i e;injection d with d;subst d;cases z with
   |nil=>grind
   |gI=>grind
   |ac _ _ _ A g n S cells hn E H u ht C=>subst hn;refine⟨.pointer (J ⟨A,g+i.toNat*Y,ao⟩),?_,.elem _ _ _ _ A g _ cells E H u ag ag C⟩;simp[Instr.indexAt,dt p,asIntOf,e.1,e.2.1,nA e.2.2,Addr.jg]
  grind
 .rename_i elem b g len S L i p;obtain⟨rfl,_⟩:=hi.hY;split at d
  .rename_i q s;split at d
   .rename_i e;injection d with d;subst d;cases z with|arr _ A _ _ _ N Z D hl qo AQ qs=>have:N=g:=(by grind);subst this;exact⟨_,by simp[Instr.indexAt,dt p,asIntOf,e.1,e.2,nA s,Addr.jg],.box _ _ _ D⟩
   grind
  grind
 .rename_i len elem r g L i p;obtain⟨rfl,_⟩:=hi.hY;split at d
  .rename_i q s;split at d
   .rename_i e;injection d with d;subst d;cases z with|box b A _ D=>exact⟨_,by simp[Instr.indexAt,dt p,asIntOf,e.1,e.2,nA s,Addr.jg,Instr.sureAddr],.box _ _ _ D⟩|dU A _=>exact⟨_,by simp[Instr.indexAt,dt p,asIntOf,e.1,e.2,nA s,Addr.jg,Instr.sureAddr],.dU _ _⟩
   grind
  grind
 .rename_i len elem Y es k g L i p;obtain⟨rfl,_⟩:=hi.hY;split at d
  .rename_i q s;split at d
   .rename_i e;injection d with d;subst d;cases z with|elem _ _ _ _ A o z0 cells E H u X hp C=>exact⟨.pointer (J ⟨A,z0+i.toNat*q,ao⟩),by simp[Instr.indexAt,dt p,asIntOf,e.1,e.2,nA s,Addr.jg,Instr.sureAddr],.elem _ _ _ _ A o _ cells E H u X ag C⟩
   grind
  grind
 grind
def aaA(e:Gq P t cs off=J y){vs:Array a_}(g:aN K cs vs.toList)(w:cC):
 ∃v,(part t vs off).run P w=.ok v w/\aV K y v:=by
 unfold Gq at e;split at e
 .rename_i d;simp only[dO]at e;obtain⟨n,q,rfl⟩:=e;refine⟨.agg (vs.extract off (off+n)),by simp[part,Li d,nA q],.agg _ _ ?_⟩;have:(vs.extract off (off+n)).toList=(vs.toList.drop off).take n:=by rw[Array.toList_extract,List.extract_eq_take_drop];congr 1;omega
  rw[this];exact(g.drop off).take n
 .rename_i d;obtain⟨c,s,p⟩:=g.get e;exact⟨c,by simp only[part,Sem.run_bind,Li d,Result.andThen_ok];simp_all,p⟩
 grind
def amo(d:A7 P t x a=J y)(s:aV K x c)(hi:aV K a p)(w:cC):
 ∃v,(Instr.index t c p).run P w=.ok v w/\aV K y v:=by
 unfold A7 at d;split at d
 .rename_i u L i g;obtain⟨rfl,_⟩:=hi.hY;obtain⟨rfl,_⟩:=s.hY;split at d
  .rename_i b e;injection d with d;subst d;split at e
   .rename_i z;refine⟨.int .u8 b.toNat,?_,.v _ O⟩;have:u[i.toNat]?=J b:=(by have A:i.toNat<u.data.size:=(zD.1 e).1;have C:u.data[i.toNat]=b:=(zD.1 e).2;have D:i.toNat<u.size:=A;rw[getElem?_pos u i.toNat D];exact congrArg J C);simp only[Instr.index,Sem.run_bind,asIntOf,Sem.run_pure,Result.andThen_ok,dt g,aC z,this]
   grind
  grind
 .rename_i len elem cs L i g;obtain⟨rfl,_⟩:=hi.hY;split at d
  .rename_i T H;split at d
   .rename_i E;cases s with|agg _ X q=>obtain⟨v,N,S⟩:=aaA d q w;exact⟨v,by simp only[Instr.index,Sem.run_bind,asIntOf,Sem.run_pure,Result.andThen_ok,dt g,aC E,nA H,N],S⟩
   grind
  grind
 grind
def P8(e:isIface P t=J ar):∃d,P.underlying t=J d/\∀g,d≠ .interface g:=by
 unfold isIface at e
 grind
def ZT12{p:Prop}(h:p:=by
 rename_i A;simp only[dO]at d;obtain⟨L,u,rfl⟩:=d;obtain⟨v,C,rfl⟩:=abJ u w;refine⟨.tuple #[v,.bool ar],?_,.tuple _ _ (.cons _ _ _ _ (QO v) (.cons _ _ _ _ (.v _ O) .nil))⟩;simp only[Instr.typeAssert,Sem.run_bind,dt g,Result.andThen_ok];simp_all):p:=h
def afn{xt a:aX}{q:Bool}(d:u7 P x a q=J y)(p:aV K x c)(w:cC):
 ∃v,(Instr.typeAssert c xt a q).run P w=.ok v w/\aV K y v:=by
 unfold u7 at d;split at d
 .rename_i t H e;obtain⟨E,g,D⟩:=P8 e;cases p with
  |iface _ _ z p=>
   split at d
   .rename_i s;injection d with d;subst d;subst s;cases q with|true=>refine⟨.tuple #[z,.bool aa],?_,.tuple _ _ (.cons _ _ _ _ p (.cons _ _ _ _ (.v _ O) .nil))⟩;simp only[Instr.typeAssert,Sem.run_bind,dt g,Result.andThen_ok];simp_all|false=>refine⟨z,?_,p⟩;simp only[Instr.typeAssert,Sem.run_bind,dt g,Result.andThen_ok];simp_all
   .rename_i s;split at d
    .exact ZT12
    grind
 .rename_i e;obtain⟨E,g,D⟩:=P8 e;obtain⟨rfl,_⟩:=p.hY;split at d
  .exact ZT12
  grind
 grind
def agu{d}{b}(e:tY d b=J x):(d=.eql/\x=.v (.bool b))∨(d=.neq/\x=.v (.bool !b)):=by
 unfold tY at e
 grind
def UD{e:BinOp}{x y:b9}{b:I}(d:In P e t x y a b=J r)(A:aV K a p)(C:aV K b q)(w:cC):
 ∃v,(do eqGuard e t x y p q;binOp e t p q:Sem a_).run P w=.ok v w/\aV K r v:=by
 unfold In at d;split at d
 .rename_i H L D E;have g:=IT D A;have s:=IT E C;subst g;subst s;simp only[zM]at d;obtain⟨N,u,z⟩:=d;exact⟨N,Kw u w,Ln z⟩
 grind
def wD{e:BinOp}{x y:b9}{b:Bool}(s:tY e b=J r)(C:∀e,eqGuard e t x y p q=pure ())(w:cC)
 (g:∀d,(Op.equalIn (d+1) t p q).run P w=.ok b w) (z:binOp .eql t p q=(do pure (.bool (<-Op.equal t p q)))) (A:binOp .neq t p q=(do pure (.bool (!(<-Op.equal t p q))))):
 ∃v,(do eqGuard e t x y p q;binOp e t p q:Sem a_).run P w=.ok v w/\aV K r v:=by
 have u:(Op.equal t p q).run P w=.ok b w:=g 9999;rcases agu s with⟨rfl,rfl⟩|⟨rfl,rfl⟩
 .exact⟨.bool b,by simp_all,.v _ O⟩
 .exact⟨.bool !b,by simp_all,.v _ O⟩
def YV(d:isIface P t=J aa):∃e,P.underlying t=J (.interface e):=by
 unfold isIface at d
 grind
def af1{e:BinOp}{x y:b9}{b:I}(d:de P e t x y a b=J r)(s:aV K a p)(u:aV K b q)(w:cC):
 ∃v,(do eqGuard e t x y p q;binOp e t p q:Sem a_).run P w=.ok v w/\aV K r v:=by
 unfold de at d;split at d
 .rename_i A C;have f1:=s.hY.1;have f2:=u.hY.1;subst f1;subst f2;split at d
  .injection d with d;subst d;exact⟨.bool (A.data.toList==C.data.toList),by simp[eqGuard,binOp,Op.stringOp,ByteArray.toList_eq],.v _ O⟩
  .injection d with d;subst d;exact⟨.bool !(A.data.toList==C.data.toList),by simp[eqGuard,binOp,Op.stringOp,ByteArray.toList_eq],.v _ O⟩
  .split at d
   .rename_i hl;injection d with d;subst d;refine⟨.string (A++C),?_,.v _ O⟩;have:¬(((A.size+C.size:Nat):Int)>IntKind.i64.max):=(by simp only[IntKind.max,IntKind.signed,IntKind.bits];simp;omega);simp only[eqGuard,binOp,Op.stringOp];simp_all
   grind
  .exact UD d s u w
 .rename_i Y Z;split at d
  .rename_i z;obtain⟨S,g⟩:=YV z;cases s with|iface _ _ c N=>have f2:=u.hY.1;subst f2;refine wD d (λe=>by cases e<;>rfl) w (λD=>?_) O O;simp only[Op.equalIn,Sem.run_bind,dt g,Result.andThen_ok,Sem.run_pure]
  grind
 .rename_i Y Z;split at d
  .rename_i z;obtain⟨S,g⟩:=YV z;cases u with|iface _ _ c N=>have f2:=s.hY.1;subst f2;refine wD d (λe=>by cases e<;>rfl) w (λD=>?_) O O;simp only[Op.equalIn,Sem.run_bind,dt g,Result.andThen_ok,Sem.run_pure]
  grind
 .rename_i X T;split at d
  .rename_i H g;have f2:=u.hY.1;subst f2;cases s<;>(refine wD d (λe=>by cases e<;>rfl) w (λD=>?_) O O;simp only[Op.equalIn,Sem.run_bind,dt g,Result.andThen_ok,Sem.run_pure,H7])
  grind
 .rename_i X T;split at d
  .rename_i H g;have f2:=s.hY.1;subst f2;cases u<;>(refine wD d (λe=>by cases e<;>rfl) w (λD=>?_) O O;simp only[Op.equalIn,Sem.run_bind,dt g,Result.andThen_ok,Sem.run_pure,H7])
  grind
 .split at d
  .rename_i g;have f2:=u.hY.1;subst f2;cases s<;>(refine wD d (λe=>by cases e<;>rfl) w (λD=>?_) O O;simp only[Op.equalIn,Sem.run_bind,dt g,Result.andThen_ok,Sem.run_pure,H7])
  grind
 .split at d
  .rename_i g;have f2:=s.hY.1;subst f2;cases u<;>(refine wD d (λe=>by cases e<;>rfl) w (λD=>?_) O O;simp only[Op.equalIn,Sem.run_bind,dt g,Result.andThen_ok,Sem.run_pure,H7])
  grind
 .rename_i k sz es sz2;split at d
  .rename_i H g;have f2:q=.slice ao 0 0:=by
    cases u with|nil=>rfl|ac _ _ _ _ _ _ _ _ _ _ _ _ E _=>exact E.2.elim
   subst f2;cases s with
   |nil=>refine wD d (λe=>by cases e<;>rfl) w (λD=>?_) O O;simp only[Op.equalIn,Sem.run_bind,dt g,Result.andThen_ok,Sem.run_pure,Option.isNone_none,decide_true]
   |gI=>refine wD d (λe=>by cases e<;>rfl) w (λD=>?_) O O;simp only[Op.equalIn,Sem.run_bind,dt g,Result.andThen_ok,Sem.run_pure,H7];rfl
   |ac _ _ _ z0 off n aY cells hn hr hv hc E _=>have L:k≠ .nil:=λH=>(by subst H;exact E.2);refine wD d (λe=>by cases e<;>rfl) w (λD=>?_) O O;simp only[Op.equalIn,Sem.run_bind,dt g,Result.andThen_ok,Sem.run_pure,L,decide_false]
  grind
 .exact UD d s u w
def axj{e:UnOp}(d:Ho P e a=J r)(u:aV K a p)(w:cC):∃v,(Op.unary e p).run P w=.ok v w/\aV K r v:=by
 unfold Ho at d;split at d
 .rename_i A z;have g:=IT z u;subst g;simp only[zM]at d;obtain⟨C,q,s⟩:=d;exact⟨C,Kw q w,Ln s⟩
 grind
end
end
section
open Go.RowKit (Below)
section
variable {P:bO} {K:bj} {G:Nat->Option (List I)} {ok:bk->Nat->Code->Bool} {w0 w:cC} {h:am}
def Ui{h}{d}{t}(u:∀n∈h.dead,n∈d)(g:alive ({h with dead:=d}.fresh sz es).2 t=aa):
 t=h.tn∨(alive h t=aa/\t∉d):=by
 simp only[am.fresh,alive,bR,decide_eq_true_eq,Bool.not_eq_true',List.contains_eq_mem,decide_eq_false_iff_not]at g;obtain⟨e,p⟩:=g;have e:t<h.tn+1:=of_decide_eq_true e;rcases dR t h.tn with q|s
 .exact .inr ⟨by simp[alive,q];grind,p⟩
 omega
def bW.Od(s:bW K G ok w0 h w){d:List Nat}(hd:∀n∈h.dead,n∈d){cells:Array a_}{e:aX}{fz:Nat × Nat}
 (hr:∀r∈es,F r=sz) (ha:es.flatten.all I.dm=aa) (hv:aN K es.flatten (cells.toList.take (F es*sz)))
 (Z:w'.os=w.os) (u:w'.tape=w.tape) (E:w'.output=w.output) (ga:w'.heap.size=w.heap.size+1)
 (azC:∀k,k<w.heap.size->w'.heap[k]?=w.heap[k]?) (v:w'.heap[w.heap.size]?=J (.cells cells e fz))
 (p:F es<=aY) (A:aY*sz<=cells.size) (T:∀j,j<cells.size->mz fz j=ar):
 ∃z,K.Le z/\bW z G ok w0 ({h with dead:=d}.fresh sz es).2 w'/\aV z ({h with dead:=d}.fresh sz es).1 (.slice (J ⟨w.heap.size,0,ao⟩) (F es) aY):=by
 have q:∀j,K.ic w.heap.size j=ao:=λj=>by
  cases N:K.ic w.heap.size j with|none=>rfl|some c=>have:=s.w7 N;omega
 have C:F es*sz<=cells.size:=ff (mn _ p) A;have H:=s.row (h':=({h with dead:=d}.fresh sz es).2) (w':=w') (g:=w.heap.size) (off:=0) (m:=F es*sz) (cells:=cells) (e:=e) (fz:=fz) O O O
  (λt ht=>(Ui hd ht).imp id λX=>⟨X.1,λCK=>by obtain⟨_,_,_,_,_,_,h4,_⟩:=s.tok t X.1;simp_all⟩)
  s.size (λb L=>by obtain⟨cs,S⟩:=βJ s L;obtain⟨_,_,_,_,_,h3,_⟩:=s.box b _ cs L S;simp_all) (λj _=>q j) ag Z u E
  (λk o hk ho=>by grind) v (λo ho=>by simp_all) (λj c N=>by simp_all) (ck _) C (λj _ hl=>T j hl)
 have le:=bj.Ql (K:=K) (g:=w.heap.size) (off:=0) (m:=F es*sz) (size:=cells.size) (cells:=λj=>cells[j]?) (λj _=>q j) s.size;refine⟨_,le,H,?_⟩;refine .ac (.free h.tn) sz es w.heap.size 0 _ aY (cells.toList.take (F es*sz)) O hr (hv.mono le) (λj c Y=>?_) ⟨p,?_⟩ ha
 .simp only[qb]at Y;split at Y
  .rename_i dx;simp only[bj.row,oy];simp_all
  grind
 .simp only[bj.row,s.tn,if_true];simp_all
def B7(l:List UInt8):∀r∈l.map iL,F r=1:=by intro r d;simp only[iW]at d;obtain⟨b,_,rfl⟩:=d;rfl
def Nu(l:List UInt8):(l.map iL).flatten=l.map λb=>I.v (.int .u8 b.toNat):=by
 induction l with
 |nil=>rfl|cons b l d=>simp[iL,d]
def UW(l:List UInt8):aN K (l.map iL).flatten (l.map λb=>Value.int .u8 b.toNat):=by rw[Nu];exact aN.map_mk λb _=>.v _ rfl
def UV(l:List UInt8):(l.map iL).flatten.all I.dm=aa:=by rw[Nu,e8];intro x d;simp only[iW]at d;obtain⟨b,_,rfl⟩:=d;rfl
def aw9(s:bW K G ok w0 h w){e:aX}{str:ByteArray}:
 ∃q v w',K.Le q/\bW q G ok w0 (h.fresh 1 (str.data.toList.map iL)).2 w'/\aV q (h.fresh 1 (str.data.toList.map iL)).1 v/\(Conv.stringToBytes e str).run P w=.ok v w':=by
 have S:∃g,str.size<=g/\(choose (.appendCap str.size 0 e)).run P w=.ok g {w with drawn:=w.drawn+1}:=by refine⟨_,?_,by simp[Question.forced];rfl⟩;simp[Question.cut]
 obtain⟨g,L,D⟩:=S
 let w1:cC:={w with drawn:=w.drawn+1}
 let cells:Array a_:=str.data.map (λb=>.int .u8 b.toNat)++Array.replicate (g - str.size) (.int .u8 0)
 have E:cells.size=g:=by have:str.data.size=str.size:=rfl;simp only[cells,L',Array.size_map,Array.size_replicate,this];try omega
 have C:str.data.toList.length=str.size:=rfl
 let p:cC:=({w1 with heap:=w1.heap.push (.cells cells e)}:cC).freeze {block:=w1.heap.size,off:=g} 1
 have z:p.heap[w.heap.size]?=J (.cells cells e (g,g+1)):=by simp only[p,World.freeze,w1,TG,if_false,Ei,if_true,Array.getElem?_push_size,gq];rfl
 have u:∀k,k<w.heap.size->p.heap[k]?=w.heap[k]?:=λk Z=>by
  simp only[p,World.freeze,w1,Ei]
  grind
 obtain⟨q,le,X,T⟩:=s.Od (w':=p) (d:=h.dead) (λ_ N=>N) (sz:=1) (es:=str.data.toList.map iL) (cells:=cells) (e:=e) (fz:=(g,g+1)) (aY:=g)
  (B7 _) (UV _) (by have:cells.toList.take ((str.data.toList.map iL).length * 1)=str.data.toList.map λb=>Value.int .u8 b.toNat:=(by simp only[cells,Ek,El,bI,nO];simp_all);rw[this];exact UW _) rfl rfl rfl (by simp[p,World.freeze,w1]) u z (by simp_all) ag (λj Y=>by simp[mz];omega)
 refine⟨q,_,p,le,X,T,?_⟩;have H:(str.data.toList.map iL).length=str.size:=by simp only[bI,C]
 rw[H];simp only[Conv.stringToBytes,Sem.run_bind,D,Result.andThen_ok,newRow,run_newObj,Sem.run_pure,markStringish,run_shape];have A:({w1 with heap:=w1.heap.push (.cells cells e)}:cC).shape? w1.heap.size=J (e,g):=by simp[World.shape?,E]
 simp only[w1,cells] at A;simp only[A,run_freeze,Result.andThen_ok,Sem.run_pure,p,w1,cells]
def agI:∀{U:List (List I)} {l:List UInt8},bytesOf U=J l->∀{vs:List a_},aN K U.flatten vs->
 ∃g:List Int,vs=g.map (.int .u8 ·)/\l=g.map λn=>UInt8.ofNat n.toNat:=by
 intro U
 induction U with
 |nil=>intro l h vs e;simp[bytesOf]at h;subst h;cases e;simp_all
 |cons r U v=>
  intro l h vs e;simp only[bytesOf]at h;split at h
  .rename_i b A d q;injection h with h;subst h;unfold byteOf at d;split at d
   .rename_i n;injection d with d;subst d;simp only[mj,fw,fE]at e;cases e with|cons _ c _ cs u s=>obtain⟨g,p,z⟩:=v q s;exact⟨n::g,by rw[u.hY.1,p];rfl,by simp_all⟩
   grind
  grind
def foldl_push(d:List Int):∀e:ByteArray,d.foldl (λb a=>b.push (UInt8.ofNat a.toNat)) e=⟨e.data++(d.map λn=>UInt8.ofNat n.toNat).toArray⟩:=by
 induction d with
 |nil=>simp_all|cons n d g=>simp_all
def GI(s:bW K G ok w0 h w)(e:rowsOf h size x=J U)(Z:aV K x c):
 ∃a aY p,c=.slice a (F U) aY/\(∀r∈U,F r=size)/\aN K U.flatten p/\U.flatten.all I.dm=aa/\F p=F U*size/\
  (∀b,a=J b->(loadCells b (F U*size)).run P w=.ok p.toArray w)/\(a=ao->U=[]):=by
 unfold rowsOf at e;split at e
 .rename_i k sz E;split at e
  .rename_i Y;injection e with e;subst e;cases Z with
   |nil=>exact⟨ao,0,[],O,by simp,.nil,O,by simp,λb g=>(by cases g),λ_=>rfl⟩|gI _ a0=>refine⟨J a0,0,[],O,by simp,.nil,O,by simp,λb g=>?_,λg=>by cases g⟩;have:=run_loadCells_list (P:=P) w b [] (λj z0 L=>by grind);simp_all|ac _ _ _ N d n aY cells q A C T ht ha=>
    subst q;have hl:F cells=F E*sz:=(by rw[<-C.length,nW A]);have PK:F E*sz=F E*size:=by
     rcases Y with h|h
     .rw[h]
     .simp[h]
    refine⟨J ⟨N,d,ao⟩,aY,cells,O,λr hm=>?_,C,ha,by omega,λb g=>?_,λq=>by cases q⟩
    .grind
    .injection g with g;subst g;have:=run_loadCells_list (P:=P) w ⟨N,d,ao⟩ cells (λj z0 L=>by rw[Addr.jg];exact s.ic _ _ _ (T j z0 L));simp_all
  grind
 .rename_i b d len aY;split at e
  .rename_i cs S;split at e
   .rename_i H;injection e with e;subst e;cases Z with
    |arr _ N _ _ _ v D g hl qo X qs=>
     obtain⟨_,_,ka,cells,z1,k3,k4⟩:=s.box b N cs g S;have z:∀n,d+n*size<=F cs->((bE n).map λi=>(cs.drop (d+i*size)).take size).flatten=(cs.drop d).take (n*size):=by
      intro n
      induction n with
      |zero=>simp_all|succ n ih=>intro q;rw[jH,jr,tR,ih (by grind)];simp only[dK,tT,mj,adF,g'];rw[show(n+1)*size=n*size+size by rw[jt];omega,List.take_add,List.drop_drop]
     have hf:=z len H;have hk4:=(k4.1.drop d).take (len*size);have fj:F cs<=F cells.toList:=(by have:=k4.le;simpa using this);have rg:F (((cells.toList.take (F cs)).drop d).take (len*size))=len*size:=(by simp only[dF,fL];omega);refine⟨J ⟨N,v,ao⟩,D,((cells.toList.take (F cs)).drop d).take (len*size),by simp,λr A=>?_,?_,?_,by simp_all,λb' u=>?_,λq=>by cases q⟩
     .simp only[iW,gb]at A;obtain⟨i,hi,rfl⟩:=A;simp only[dF,fL];have:(i+1)*size<=len*size:=mn _ hi
      grind
     .simp_all
     .grind
     .injection u with u;subst u;have:=run_loadCells_list (P:=P) w ⟨N,v,ao⟩ (((cells.toList.take (F cs)).drop d).take (len*size)) (λj z0 L=>by
       rcases X with rfl|hz
       .rw[Addr.jg,cell_of k3]
        grind
       simp_all)
      simp_all
   grind
  grind
 grind
def Gi(s:bW K G ok w0 h w)(e:jX h size x=J U)(v:aV K x c):
 ∃d,(Builtin.lenOf c).run P w=.ok (F U) w/\(∀r∈U,F r=size)/\aN K U.flatten d/\U.flatten.all I.dm=aa/\F d=F U*size/\
  (Builtin.firstCells size (F U) c).run P w=.ok d.toArray w:=by
 unfold jX at e;split at e
 .rename_i str;split at e
  .rename_i C;injection e with e;subst e;subst C;obtain⟨rfl,_⟩:=v.hY;have u:F (str.data.toList.map iL)=str.size:=(by rw[bI];rfl);refine⟨str.data.toList.map λb=>.int .u8 b.toNat,by rw[u];rfl,B7 _,UW _,UV _,by simp,?_⟩;rw[u];have:str.extract 0 str.size=str:=(by simp);have A:str.data.map (λb=>Value.int .u8 b.toNat)=(str.data.toList.map λb=>Value.int .u8 b.toNat).toArray:=(by apply LY;simp);simp only[Builtin.firstCells,this,Sem.run_pure,A]
  grind
 .obtain⟨a,H,d,rfl,E,z,D,g,p,q⟩:=GI (P:=P) s e v;refine⟨d,O,E,z,D,g,?_⟩;cases a with|none=>have:=q O;subst this;have:d=[]:=(by simpa using g);subst this;rfl|some b=>exact p b rfl
def Sd(z)(n):(Builtin.zeroCells z n).size=n*z.size:=by simp[Builtin.zeroCells]
def aks(s:bW K G ok w0 h w){d:List Nat}(hd:∀n∈h.dead,n∈d){ts:Array aX}{i:TypeInfo}{d1:TypeDesc}(h0:ts[0]?=J t0)(hu:P.underlying t0=J (.slice t))
 (h1:ts[1]?=J t1) (hu1:P.underlying t1=J d1) (Y:∀k,d1≠ .int k) (hi:P.info? t=J i) (E:(i.zero.map λz=>z.cells.size)=J i.size)
 {new:List (List I)} {a:Option Addr}  {C:a_} (hc:c=.slice a (F es) aY) (S:aY<F es+F new)
 (hr:∀r∈es,F r=i.size) (ha:es.flatten.all I.dm=aa) {g:List a_} (N:aN K es.flatten g) (hf:(Builtin.firstCells i.size (F es) c).run P {w with drawn:=w.drawn+1}=.ok g.toArray {w with drawn:=w.drawn+1})
 {q:List a_} (hlx:(Builtin.lenOf C).run P w=.ok (F new) w) (Px:∀r∈new,F r=i.size) (L:aN K new.flatten q) (han:new.flatten.all I.dm=aa)
 (Z:(Builtin.firstCells i.size (F new) C).run P {w with drawn:=w.drawn+1}=.ok q.toArray {w with drawn:=w.drawn+1})
 (hb:(F es+F new)*i.bytes<=140737488355328) (hm:F es+F new<=9223372036854775807):
 ∃A v w',K.Le A/\bW A G ok w0 ({h with dead:=d}.fresh i.size (es++new)).2 w'/\aV A ({h with dead:=d}.fresh i.size (es++new)).1 v/\(Builtin.append_ ts ty #[c,C]).run P w=.ok v w':=by
 simp only[dO]at E;obtain⟨z,E,C'⟩:=E;have hq:∃p,F es+F new<=p/\(choose (.appendCap (F es+F new) aY t)).run P w=.ok p {w with drawn:=w.drawn+1}:=by refine⟨_,?_,by simp[Question.forced];rfl⟩;simp[Question.cut]
 obtain⟨p,Pg,X⟩:=hq
 let rest:=Builtin.zeroCells z.cells (p-(F es+F new))
 let cells:Array a_:=g.toArray++q.toArray++rest
 let w1:cC:={w with drawn:=w.drawn+1}
 let u:cC:={w1 with heap:=w1.heap.push (.cells cells t)}
 have AJ:F g=F es*i.size:=by rw[<-N.length,nW hr]
 have AK:F q=F new*i.size:=by rw[<-L.length,nW Px]
 have T:F (es++new)*i.size=F (g++q):=by grind
 have H:(zeroValue t).run P w1=.ok z w1:=by simp[zeroValue,qG hi,E]
 have azf:=growslice_fits (bytes:=i.bytes) S hb;have JJ:(Builtin.append_ ts ty #[c,C]).run P w=.ok (.slice (J ⟨w.heap.size,0,ao⟩) (F es+F new) p) u:=by
  subst hc;have e1:¬(((F es+F new:Nat):Int)>IntKind.i64.max):=by simp only[IntKind.max,IntKind.signed,IntKind.bits];simp;omega
  have e2:¬(Builtin.nextslicecap (F es+F new) aY*i.bytes>2^48):=by omega
  have e3:¬(F es+F new<=aY):=by omega
  cases d1<;>first|exact absurd O (Y _)|(simp only[Builtin.append_,h0,je,jF,oX,Sem.run_bind,dt hu,Result.andThen_ok,sizeOf,qG hi,Sem.run_pure,h1,dt hu1,jE,if_false,hlx,e3,e1,e2,false_and,X,run_askRoom,hf,BB,if_true,Z,newRow,run_newObj,H,w1,u,cells,rest])
 have dY:cells.size=p*i.size:=by simp only[cells,L',ad1,rest,Sd,AJ,AK,C'];rw[MQ];have:(F es+F new)*i.size<=p*i.size:=mn _ Pg;rw[jt]at this ⊢;omega
 have D:u.heap[w.heap.size]?=J (.cells cells t (0,0)):=by simp[u,w1]
 obtain⟨A,le,s',hv⟩:=s.Od (w':=u) hd (sz:=i.size) (es:=es++new) (cells:=cells) (e:=t) (fz:=(0,0)) (aY:=p)
  (λr hm=>by grind) (by grind) (by have:cells.toList.take (F (es++new)*i.size)=g++q:=(by rw[T];simp only[cells,Ek];rw[HO cB];exact gm cB);rw[this,tR];exact N.append L) O O O (by grind) (λk hk=>CJ w _ hk) D (by simp_all) ag (λj _=>Cv j)
 grind
def ayg(s:bW K G ok w0 h w){ts:Array aX}{N:IntKind}(L:(ts[0]?).bind P.underlying=J (.slice t))(q:(ts[1]?).bind P.underlying=J (.int N))
 (e:LV P h ts t a x=J (y,h'))  (ha:aV K a c) (hx:aV K x T):
 ∃D v w',K.Le D/\bW D G ok w0 h' w'/\aV D y v/\(Builtin.append_ ts ty #[c,T]).run P w=.ok v w':=by
 unfold LV at e;split at e
 .rename_i S kk n;obtain⟨rfl,_⟩:=hx.hY;split at e
  .rename_i i zero Y hz;obtain⟨p,yI,g,JU⟩:=Bx (K:=K) hz w;split at e
   .rename_i u;obtain⟨h0,h1,h2,h3,X,h6⟩:=u;injection e with e;obtain⟨rfl,rfl⟩:=Prod.mk.inj e;have z:i.zero=some p:=by
     simp only[zeroValue,Sem.run_bind,qG Y,Result.andThen_ok]at yI;cases hzz:i.zero with|none=>simp_all|some v=>simp_all
    have C':p.cells.size=i.size:=(by rw[<-h6,g.length];simp);obtain⟨m,rfl⟩:∃m:Nat,n=m:=⟨n.toNat,by omega⟩;rw[eD];obtain⟨t0,t1,rfl⟩:∃t0 t1,ts=#[t0,t1]:=by
     obtain⟨l⟩:=ts
     match l,h0 with
     | [a,b],_=>exact⟨a,b,O⟩
    have L:P.underlying t0=J (.slice t):=L;have q:P.underlying t1=J (.int N):=q;have hm:m*i.bytes<=140737488355328:=(by have:((m*i.bytes:Nat):Int)<=140737488355328:=(by rw[xM];exact h2);omega);have H:=Go.Lib.run_append_nil_zeros (P:=P) w t0 t1 ty t i p kk N L q Y z m ag X ag ag;have C:=grownCap_ge w m 0 t;generalize grownCap w m 0 t=d at *
    have A:(Builtin.zeroCells p.cells m).toList=(bT m p.cells.toList).flatten:=GD _ _;have Z:F (bT m p.cells.toList).flatten=F (bT m zero).flatten:=(g.Ao m).length.symm;have AK:F (bT m zero).flatten=m*i.size:=nW (sz:=i.size) (es:=bT m zero) (λr hr=>by simp_all)|>.trans (by simp_all)
    have ga:(Builtin.zeroCells p.cells m++Builtin.zeroCells p.cells (d-m)).size=d*i.size:=by
     rw[L',<-nf,<-nf,A,Z,AK];have e2:(Builtin.zeroCells p.cells (d-m)).toList=(bT (d-m) p.cells.toList).flatten:=GD _ _;rw[e2,<-(g.Ao (d-m)).length];have e3:F (bT (d-m) zero).flatten=(d-m)*i.size:=nW (sz:=i.size) (es:=bT (d-m) zero) (λr hr=>by simp_all)|>.trans (by simp_all)
     rw[e3,<-jt,Nat.add_sub_cancel' C]
    obtain⟨q1,q2⟩:=(s.drew (w.drawn+1)).QF (cs:=(bT m zero).flatten) (cells:=Builtin.zeroCells p.cells m++Builtin.zeroCells p.cells (d-m)) t (J (m,i.size,d*i.size))
     (by rw[Ek,A,HO ag,gm ag];exact g.Ao m) (KI JU _)
     (λz0 S room z1=>by
      grind)
    have E:F h.V=F K.β:=s.jd.symm;cases ha with
    |nil=>
     cases q2 with|box _ _ _ hb=>exact⟨_,_,_,K.Bc _ _,q1,.arr _ _ _ _ _ _ _ hb (aT _) C (.inl O) (.inr (.inr (.inr ⟨i.size,d*i.size,by simp only[bj.nS,E,if_true],X,aT _⟩))),H⟩
    |ac _ _ _ _ _ _ _ _ _ _ _ _ ht _=>exact ht.2.elim
   grind
  grind
 grind
set_option maxHeartbeats 1000000 in
def Nf(s:bW K G ok w0 h w){ts:Array aX}(e:gB P h ts a x=J (y,h'))(X:aV K a c)(hx:aV K x p):
 ∃K' v w',K.Le K'/\bW K' G ok w0 h' w'/\aV K' y v/\(Builtin.append_ ts ty #[c,p]).run P w=.ok v w':=by
 unfold gB at e;split at e
 .rename_i E z;exact ayg s E z e X hx
 .rename_i elem d1 FQ E z;simp only[zM] at E z;obtain⟨t0,h0,E⟩:=E;obtain⟨t1,h1,z⟩:=z;have Y:∀k,d1≠ .int k:=λk z2=>FQ k z2;split at e
  .cases e
  rename_i i hi;split at e
  .cases e
  rename_i new Jy;split at e;rotate_left
  .cases e
  rename_i hz;obtain⟨T,S,n2,n3,n4,n5,Z⟩:=Gi (P:=P) s Jy hx;obtain⟨nv',n1',n2',n3',n4',n5',n6'⟩:=Gi (P:=P) (s.drew (w.drawn+1)) Jy hx;split at e
  .rename_i k sz g;split at e;rotate_left
   .cases e
   rename_i ga;have Pz:rowsOf h i.size (.ac k sz g)=J g:=(by simp only[rowsOf];simp_all);obtain⟨b,u,p9,rfl,r1,r2,r3,r4,r5,r6⟩:=GI (P:=P) (s.drew (w.drawn+1)) Pz X;have hf:(Builtin.firstCells i.size g.length (.slice b g.length u)).run P {w with drawn:=w.drawn+1}=.ok p9.toArray {w with drawn:=w.drawn+1}:=by
    cases b with|none=>have:=r6 rfl;subst this;have:p9=[]:=(by simpa using r4);subst this;rfl|some b=>exact r5 b rfl
   split at e
   .rename_i CT;injection e with e;obtain⟨rfl,rfl⟩:=fW e;subst CT;have Pi:T=[]:=(by simpa using n5);subst Pi;refine⟨K,.slice b g.length u,w,.refl K,s,X,?_⟩;have q:g.length<=u:=by
     cases X with|nil=>simp_all|gI=>simp_all|ac _ _ _ _ _ _ _ _ _ _ _ _ N _=>exact N.1
    have S:(Builtin.lenOf p).run P w=.ok 0 w:=S;have Z:(Builtin.firstCells i.size 0 p).run P w=.ok #[] w:=Z;cases d1<;>first|exact absurd rfl (Y _)|(cases b<;>simp only[Builtin.append_,h0,je,jF,oX,Sem.run_bind,dt E,Result.andThen_ok,sizeOf,qG hi,Sem.run_pure,h1,dt z,jE,if_false,S,BN,q,if_true,BB,Z,storeCells])
   .rename_i X_;have alC:0<new.length:=by cases new with|nil=>simp_all|cons _ _=>simp
    split at e;rotate_left
    .cases e
    rename_i hb;have L:∀z1:List Nat,(∀n∈h.dead,n∈z1)->u<g.length+new.length->
     ∃K' v w',K.Le K'/\bW K' G ok w0 ({h with dead:=z1}.fresh i.size (g++new)).2 w'/\aV K' ({h with dead:=z1}.fresh i.size (g++new)).1 v/\(Builtin.append_ ts ty #[.slice b g.length u,p]).run P w=.ok v w':=
     λz1 hd q=>aks s hd h0 E h1 z Y hi hz.2 rfl q r1 r3 r2 hf S n2 n3' n4 n6' hb.1 hb.2
    split at e
    .injection e with e;obtain⟨rfl,rfl⟩:=fW e;cases X with|nil=>exact L h.dead (λ_ C=>C) ag|ac _ _ _ _ _ _ _ _ _ _ _ _ N _=>exact N.2.elim
    .injection e with e;obtain⟨rfl,rfl⟩:=fW e;cases X with|gI=>exact L h.dead (λ_ C=>C) ag|ac _ _ _ _ _ _ _ _ _ _ _ _ N _=>exact L h.dead (λ_ C=>C) (by have:=N.2;omega)
    .rename_i n;split at e;rotate_left
     .cases e
     rename_i Xd;simp only[bR,decide_eq_true_eq] at Xd;obtain⟨vw,hsi⟩:=Xd;injection e with e;obtain⟨rfl,rfl⟩:=fW e;rcases dR u (g.length+new.length) with q|q
     .exact L (n::h.dead) (λ_ C=>gi _ C) q
     .cases X with
      |ac _ _ _ z0 d n' _ cells hn hr jx CQ N wK=>
       obtain⟨t1',t2,t3,t4⟩:=N.2;obtain⟨k1,k2,k3,bc,be,bz,k4,k5,k6⟩:=s.tok n vw;subst t2;subst hsi;have OF:bc.size=(K.tk n).2.2:=k5;have AG:d+g.length * i.size+T.length<=bc.size:=(by have:(g.length+new.length) * i.size<=u * i.size:=mn _ q;rw[jt] at this;omega);obtain⟨w',cx,q1,q2,q3⟩:=D' (P:=P) (d+g.length * i.size) be bz T 0 bc w k4 ag (zR n3 n4) (λj A hj'=>by
        rw[<-wF k4]
        grind)
       have Jr:cx.size=bc.size:=(by have h1:cx.toList.length=bc.toList.length:=(by rw[q3];simp only[db,dF,fL,nf,BN];omega);simpa using h1);have ale:∀j,j<d+g.length * i.size->cx[j]?=bc[j]?:=λj A=>(by rw[<-Ej,q3,<-Ej,jq,qL (by grind),qb,aC ag]);have alf:∀j,j<T.length->cx[d+g.length * i.size+j]?=T[j]?:=λj A=>(by have dx:(bc.toList.take (d+g.length * i.size+0)).length=d+g.length * i.size:=(by simp;omega);rw[<-Ej,q3,jq,wg ag,dx,qL ag];simp_all);have AU:=s.row (h':=({h with dead:=n::h.dead}.fresh i.size (g++new)).2) (w':=w') (g:=(K.tk n).1) (off:=d+g.length * i.size) (m:=d+(g.length+new.length) * i.size) (cells:=cx) (e:=be) (fz:=bz) rfl rfl rfl
        (λt N=>(Ui (λ_ C=>gi _ C) N).imp id λD=>⟨D.1,λCK=>D.2 (by rw[s.oV t n D.1 vw CK];simp_all)⟩)
        k1 k2 (λj A=>k3 j ag) (by rw[q2.size];omega) q2.os q2.tape q2.output (λk o hk ho=>(q2.other k hk).trans ho) q2.this (λo ho=>by simp_all)
        (λj c hc=>by
         have A:j<d+g.length * i.size:=by
          rcases dR j (d+g.length * i.size) with h|h
          .exact h
          .simp_all
         rw[ale j A,<-cell_of k4];exact s.ic _ _ _ hc)
        (by grind) (by grind) (λj A hl=>by rw[<-wF k4];grind)
       have le:=bj.Ql (K:=K) (g:=(K.tk n).1) (off:=d+g.length * i.size) (m:=d+(g.length+new.length) * i.size) (size:=cx.size) (cells:=λj=>cx[j]?) (λj A=>k3 j ag) k1;have fj:cells.length=g.length * i.size:=(by rw[<-jx.length,nW hr]);refine⟨_,.slice (J ⟨(K.tk n).1,d,ao⟩) (g.length+new.length) u,w',le,AU,?_,?_⟩
       .refine .ac (.free h.tn) i.size (g++new) (K.tk n).1 d _ u (cells++T) cB (λr C=>by grind) (by rw[tR];exact(jx.append n3).mono le) (λj c A=>?_) ⟨q,?_⟩ (by grind)
        .rcases dR j cells.length with dx|po
         .rw[qL dx] at A;exact le.ic _ _ _ (CQ j c A)
         .rw[wg po] at A;have ue:j - cells.length<T.length:=(aU.1 A).1;simp only[bj.row];rw[aC (by grind)];have:=alf (j - cells.length) ue
          grind
        .simp only[bj.row,s.tn,if_true];simp_all
       .have Au:(⟨(K.tk n).1,d,ao⟩:Addr).add (g.length * i.size)=⟨(K.tk n).1,d+g.length * i.size,ao⟩:=Addr.jg _ _ _;cases d1<;>first|exact absurd rfl (Y _)|(simp only[Builtin.append_,h0,je,jF,oX,Sem.run_bind,dt E,Result.andThen_ok,sizeOf,qG hi,Sem.run_pure,h1,dt z,jE,if_false,S,q,if_true,BB,Z,Au,q1])
    grind
  .rename_i b d len u;split at e
   .rename_i cs jk;split at e
    .rename_i hc;injection e with e;obtain⟨rfl,rfl⟩:=fW e;cases X with
     |arr _ z0 _ _ _ qA H hb hl qo AQ qs=>
      obtain⟨k1,k2,ka,cells,z2,k3,k4⟩:=s.box b z0 cs hb jk;have PK:cs.length<=cells.size:=k4.le;have C:(len+new.length) * i.size<=u * i.size:=mn _ hc.1;rw[jt] at C;have Xu:len+new.length<=H:=(by omega);by_cases A1:u=0
      .have X0:new=[]:=by cases new with|nil=>rfl|cons _ _=>simp_all
       subst X0;have Pi:T=[]:=(by simpa using n5);subst Pi;have S:(Builtin.lenOf p).run P w=.ok 0 w:=S;have Z:(Builtin.firstCells i.size 0 p).run P w=.ok #[] w:=Z;have alP:h.V.set b (dW cs (d+len * i.size) ([]:List (List I)).flatten)=h.V:=by
        rw[show dW cs (d+len * i.size) ([]:List (List I)).flatten=cs by simp[dW]];apply ou;intro k;rw[j'];split
        .grind
        .rfl
       rw[alP];refine⟨K,.slice (J ⟨z0,qA,ao⟩) len H,w,.refl K,s,.arr _ _ _ _ _ _ _ hb hl qo AQ qs,?_⟩;have O_:len<=H:=(by omega);cases d1<;>first|exact absurd rfl (Y _)|(simp only[Builtin.append_,h0,je,jF,oX,Sem.run_bind,dt E,Result.andThen_ok,sizeOf,qG hi,Sem.run_pure,h1,dt z,jE,if_false,S,BN,O_,if_true,BB,Z,storeCells])
      .have Pj:qA=d:=(by simp_all);obtain⟨w',cx,q1,q2,q3⟩:=D' (P:=P) (d+len * i.size) z2 (0,0) T 0 cells w k3 ag (zR n3 n4) (λj _ _=>Cv j);have rf:new.flatten.length=new.length * i.size:=(by rw[n3.length,n5]);refine⟨K,.slice (J ⟨z0,qA,ao⟩) (len+new.length) H,w',.refl K,s.Sr hb jk ag k3 q2 q3 n3 n4,.arr _ _ _ _ _ _ _ hb hc.1 qo AQ qs,?_⟩;have Au:(⟨z0,d,ao⟩:Addr).add (len * i.size)=⟨z0,d+len * i.size,ao⟩:=Addr.jg _ _ _;rw[Pj];cases d1<;>first|exact absurd rfl (Y _)|(simp only[Builtin.append_,h0,je,jF,oX,Sem.run_bind,dt E,Result.andThen_ok,sizeOf,qG hi,Sem.run_pure,h1,dt z,jE,if_false,S,Xu,if_true,BB,Z,Au,q1])
    grind
   grind
  grind
 grind
def akt{ts:Array aX}{i:TypeInfo}{d1:TypeDesc}(h0:ts[0]?=J t0)(hu:P.underlying t0=J (.slice t))
 (h1:ts[1]?=J t1) (N:P.underlying t1=J d1) (D:∀k,d1≠ .int k) (hi:P.info? t=J i) (p:(i.zero.map λz=>z.cells.size)=J i.size)
  {a:Option Addr}  {u:a_} (v:aY<n+m) {d:List a_} (S:F d=n*i.size)
 (hf:(Builtin.firstCells i.size n (.slice a n aY)).run P {w with drawn:=w.drawn+1}=.ok d.toArray {w with drawn:=w.drawn+1})
 {g:List a_} (H:(Builtin.lenOf u).run P w=.ok m w) (L:F g=m*i.size)
 (E:(Builtin.firstCells i.size m u).run P {w with drawn:=w.drawn+1}=.ok g.toArray {w with drawn:=w.drawn+1})
 (hb:(n+m)*i.bytes<=140737488355328) (hm:n+m<=9223372036854775807):
 ∃e cells,n+m<=e/\cells.size=e*i.size/\cells.toList.take ((n+m)*i.size)=d++g/\
  (Builtin.append_ ts ty #[.slice a n aY,u]).run P w=.ok (.slice (J ⟨w.heap.size,0,ao⟩) (n+m) e) {w with drawn:=w.drawn+1,heap:=w.heap.push (.cells cells t)}:=by
 simp only[dO]at p;obtain⟨z,p,T⟩:=p;have hq:∃e,n+m<=e/\(choose (.appendCap (n+m) aY t)).run P w=.ok e {w with drawn:=w.drawn+1}:=by refine⟨_,?_,by simp[Question.forced];rfl⟩;simp[Question.cut]
 obtain⟨e,s,C⟩:=hq
 let rest:=Builtin.zeroCells z.cells (e-(n+m))
 let cells:Array a_:=d.toArray++g.toArray++rest
 let A:cC:={w with drawn:=w.drawn+1}
 have nZ:(n+m)*i.size=F (d++g):=by grind
 have q:(zeroValue t).run P A=.ok z A:=by simp[zeroValue,qG hi,p]
 have X:=growslice_fits (bytes:=i.bytes) v hb;refine⟨e,cells,s,?_,?_,?_⟩
 .simp only[cells,L',ad1,rest,Sd,S,L,T];rw[MQ];have:(n+m)*i.size<=e*i.size:=mn _ s;simp_all
 .grind
 .have Y:¬(((n+m:Nat):Int)>IntKind.i64.max):=by simp only[IntKind.max,IntKind.signed,IntKind.bits];simp;omega
  have Z:¬(Builtin.nextslicecap (n+m) aY*i.bytes>2^48):=by omega
  have e3:¬(n+m<=aY):=by omega
  cases d1<;>first|exact absurd O (D _)|(simp only[Builtin.append_,h0,je,jF,oX,Sem.run_bind,dt hu,Result.andThen_ok,sizeOf,qG hi,Sem.run_pure,h1,dt N,jE,if_false,H,e3,Y,Z,false_and,C,run_askRoom,hf,BB,if_true,E,newRow,run_newObj,q,A,cells,rest])
set_option maxHeartbeats 2000000 in
def SK(s:bW K G ok w0 h w){ts:Array aX}(d:nD P h ts a x=J (y,h'))(S:aV K a c)(hx:aV K x p):
 ∃u v w',K.Le u/\bW u G ok w0 h' w'/\aV u y v/\(Builtin.append_ ts ty #[c,p]).run P w=.ok v w':=by
 have wL:=d;unfold nD at d;split at d
 .cases d
 .rename_i elem d1 FQ hu0 alZ;have Z:=hu0;have C:=alZ;simp only[zM]at Z C;obtain⟨t0,h0,Z⟩:=Z;obtain⟨t1,h1,C⟩:=C;have i_:∀k,d1≠ .int k:=λk z1=>FQ k z1;split at d
  .cases d
  rename_i i hi;split at d
  .cases d
  rename_i new X;split at d;rotate_left
  .cases d
  rename_i hz;obtain⟨nv,n1,n2,n3,n4,n5,n6⟩:=Gi (P:=P) s X hx;obtain⟨nv',n1',n2',n3',n4',n5',n6'⟩:=Gi (P:=P) (s.drew (w.drawn+1)) X hx;have fresh:∀{h0:am} (s0:bW K G ok w0 h0 w) {n g:Nat} {ad:Option Addr} {cs:List I} {q:List a_},F h0.V=F h.V->g<n+F new->aN K cs q->cs.all I.dm=aa->F cs=n*i.size->
   (Builtin.firstCells i.size n (.slice ad n g)).run P {w with drawn:=w.drawn+1}=.ok q.toArray {w with drawn:=w.drawn+1}->(n+F new)*i.bytes<=140737488355328->n+F new<=9223372036854775807->
   ∃u v w',K.Le u/\bW u G ok w0 {h0 with V:=h0.V++[cs++new.flatten]} w'/\aV u (.arr (F h.V) 0 (n+F new) (n+F new)) v/\(Builtin.append_ ts ty #[.slice ad n g,p]).run P w=.ok v w':=by
   intro h0' s0 n g ad cs q nq e jx wK fj hf D hm;have rf:F new.flatten=F new*i.size:=nW n2';obtain⟨nc,cells,g1,g2,g3,g4⟩:=akt (ty:=ty) h0 Z h1 C i_ hi hz.2 e (by rw[<-jx.length,fj]) hf n1 n5' n6' D hm;have ak0:F (cs++new.flatten)=(n+F new)*i.size:=(by grind);obtain⟨q1,q2⟩:=(s0.drew (w.drawn+1)).QF (cs:=cs++new.flatten) (cells:=cells) elem (J (n+F new,i.size,nc*i.size)) (by rw[ak0,g3];exact jx.append n3') (by grind)
    (λz3 sz room z2=>by
     grind)
   cases q2 with|box _ _ _ H=>rw[nq]at H;refine⟨_,_,_,K.Bc _ _,q1,.arr _ _ _ _ _ _ _ H (aT _) g1 (.inl O) (.inr (.inr (.inr ⟨i.size,nc*i.size,?_,hz.1,aT _⟩))),g4⟩;have E:F h.V=F K.β:=(by rw[s0.jd,nq]);simp only[bj.nS,E,if_true]
  split at d
  .rename_i k sz z;split at d;rotate_left
   .cases d
   rename_i ga;split at d
   .rename_i CT;refine Nf s ?_ S hx;unfold gB;simp_all
   .rename_i X_;split at d;rotate_left
    .cases d
    rename_i D;have Pz:rowsOf h i.size (.ac k sz z)=J z:=(by simp only[rowsOf];simp_all);obtain⟨b,g,q,rfl,r1,r2,r3,r4,r5,r6⟩:=GI (P:=P) (s.drew (w.drawn+1)) Pz S;have hf:(Builtin.firstCells i.size (F z) (.slice b (F z) g)).run P {w with drawn:=w.drawn+1}=.ok q.toArray {w with drawn:=w.drawn+1}:=by
     cases b with|none=>have:=r6 O;subst this;have:q=[]:=(by simpa using r4);subst this;rfl|some b=>exact r5 b O
    have alC:0<F new:=by cases new with|nil=>simp_all|cons _ _=>simp
    have fin:g<F z+F new->J (I.arr (F h.V) 0 (F z+F new) (F z+F new),({h with V:=h.V++[(z++new).flatten]}:am))=J (y,h')->∃u v w',K.Le u/\bW u G ok w0 h' w'/\aV u y v/\(Builtin.append_ ts ty #[.slice b (F z) g,p]).run P w=.ok v w':=λe hq=>(by injection hq with hq;obtain⟨rfl,rfl⟩:=fW hq;rw[tR];exact fresh s O e r2 r3 (nW r1) hf D.1 D.2);split at d
    .refine fin ?_ d;cases S with|nil=>omega|ac _ _ _ _ _ _ _ _ _ _ _ _ Y _=>exact Y.2.elim
    .refine fin ?_ d;cases S with|gI=>omega|ac _ _ _ _ _ _ _ _ _ _ _ _ Y _=>have:=Y.2;omega
    grind
  .rename_i b off len g;split at d
   .rename_i cs jk;split at d
    .exact Nf s d S hx
    .rename_i hgt;split at d
     .rename_i hc;injection d with d;obtain⟨rfl,rfl⟩:=fW d;obtain⟨c1,c2,c3,c4,c5,c6⟩:=hc;subst c1;subst c3;cases S with
      |arr _ z0 _ _ _ qA T D hl qo AQ qs=>
       have Pj:qA=0:=(by omega);subst Pj;obtain⟨k1,k2,ka,cells,z1,k3,k4⟩:=s.box b z0 cs D jk;have fH:cs≠[]:=λz2=>(by subst z2;have:=HV c2 hz.1;simp_all);have Xo:=(aU.1 jk).1;have L:=s.VP b;have N:F (h.V.set b [])=F h.V:=(by simp);rcases dR T (len+F new) with e|e
       .refine fresh L N e k4.1 ka c4.symm ?_ c5 c6;have:=run_loadCells_list (P:=P) {w with drawn:=w.drawn+1} ⟨z0,0,ao⟩ (cells.toList.take (F cs)) (λj v hj=>by
         rw[Addr.jg,cell_of (w:={w with drawn:=w.drawn+1}) k3]
         grind)
        rw[<-k4.1.length,<-c4]at this;rw[<-c4];exact this
       .rcases qs with r|r|r|⟨sz,room,r1,r2,r3⟩
        .omega
        .omega
        .omega
        .rcases k4.2 _ _ _ r1 with z2|⟨q1,q2⟩
         .simp_all
         .have ga:i.size=sz:=Nat.eq_of_mul_eq_mul_left c2 (c4.trans q1);subst ga;have mU:=k4.le;have rf:F new.flatten=F new*i.size:=nW n2;have FY:(len+F new)*i.size<=cells.size:=ff (mn _ e) (ff r3 q2);rw[jt]at FY;obtain⟨w',A,w1,w2,w3⟩:=D' (P:=P) (0+len*i.size) z1 (0,0) nv 0 cells w k3 ag (zR n3 n4) (λj _ _=>Cv j);have azc:F A.toList=F cells.toList:=(by rw[w3];exact Sf (by simp_all));obtain⟨s3,yr⟩:=L.acH (g:=z0) (cs:=cs++new.flatten) (cells:=A) (e:=z1) k1 k2
           (λb2 H=>by
            show(h.V.set b [])[b2]?=J [];rw[j'];by_cases jO:b=b2
            .simp_all
            .rw[aL jO];rcases s.oq _ _ _ D H with cx|cx|cx<;>simp_all)
           (λt Y hq=>by obtain⟨_,z2,_⟩:=s.tok t Y;simp_all) k3 (J (len+F new,i.size,cells.size))
           (λz3 sz room z2=>by
            grind) w2
           (by rw[db,rf,w3];have e1:F cs+F new*i.size=0+len*i.size+0+F nv:=(by omega);rw[e1,HO (by simp_all),gm (by simp_all)];have e2:0+len*i.size+0=F cs:=(by omega);rw[e2];exact k4.1.append n3) (by grind)
          rw[N]at yr;refine⟨_,.slice (J ⟨z0,0,ao⟩) (len+F new) T,w',K.Bc _ _,s3,.arr _ _ _ _ _ _ _ yr (aT _) e (.inl O) (.inr (.inr (.inr ⟨i.size,cells.size,?_,hz.1,ff r3 q2⟩))),?_⟩
          .have E:F h.V=F K.β:=s.jd.symm;simp only[bj.nS,E,if_true]
          .have Au:(⟨z0,0,ao⟩:Addr).add (len*i.size)=⟨z0,0+len*i.size,ao⟩:=Addr.jg _ _ _;cases d1<;>first|exact absurd O (i_ _)|(simp only[Builtin.append_,h0,je,jF,oX,Sem.run_bind,dt Z,Result.andThen_ok,sizeOf,qG hi,Sem.run_pure,h1,dt C,jE,if_false,n1,e,if_true,BB,n6,Au,w1])
     grind
   grind
  grind
 grind
def agE(s:bW K G ok w0 h w){len:Nat}{aS:Array (Nat × b9)}{ρ:b9->I}{ρ':b9->a_}(hρ:∀x,aV K (ρ x) (ρ' x)){k:Tok}
 (q:fF P t len (aS.toList.map λp=>(p.1,ρ p.2))=J (.ac k sz es)):
 ∃z v w',K.Le z/\bW z G ok w0 (h.fresh sz es).2 w'/\aV z (h.fresh sz es).1 v/\(Instr.buildSlice t len (aS.map λp=>(p.1,ρ' p.2))).run P w=.ok v w':=by
 obtain⟨p1,p2⟩:=QW hρ aS;unfold fF at q;split at q
 .rename_i elem Y;split at q
  .rename_i g zero X hz;obtain⟨H,yI,D,JU⟩:=Bx (K:=K) hz w;split at q
   .rename_i hc;simp only[dO]at q;obtain⟨E,ho,q⟩:=q;injection q with _ L e2;subst L;subst e2;obtain⟨f1,f2,f3⟩:=V6 (λr hr=>by simp_all) ho;have C':H.cells.size=g:=(by rw[<-hc.2.1,D.length];simp);have A:((xC (len*g)).map (H.cells[·%H.cells.size]!)).toList=(bT len H.cells.toList).flatten:=(by rw[<-C'];exact GD _ _);obtain⟨u,N,q2⟩:=IP (dS:=(xC (len*g)).map (H.cells[·%H.cells.size]!)) f1 (by rw[A];exact D.Ao len) p1 p2;have C:F E=len:=(by rw[f3];simp);have PK:F u.toList=len*g:=(by rw[<-q2.length,nW f2,C]);obtain⟨z,le,s',Z⟩:=s.Od (w':={w with heap:=w.heap.push (.cells u elem)}) (d:=h.dead) (λ_ hm=>hm) (sz:=g) (es:=E) (cells:=u) (e:=elem) (fz:=(0,0)) (aY:=len)
     f2 (V7 f1 (KI JU len)) (by grind) O O O cB (λk hk=>CJ w _ hk) cB
     ag (by simp_all) (λj hj=>by simp[mz])
    rw[C]at Z;refine⟨z,.slice (J ⟨w.heap.size,0,ao⟩) len len,_,le,s',Z,?_⟩;by_cases S:len*g=0
    .have T:len=0:=by
      rcases aed.1 S with h|h
      .exact h
      .omega
     subst T;simp only[MR]at N;have L:(xC 0).map (λx=>(#[]:Array a_)[x%(#[]:Array a_).size]!)=(xC 0).map (H.cells[·%H.cells.size]!):=(by simp);simp only[Instr.buildSlice,Sem.run_bind,dt Y,Result.andThen_ok,nA X,MR];simp only[qc,gt_iff_lt,if_false,aei,if_true,Sem.run_pure,Result.andThen_ok,L,N,newRow,Sem.run_bind,run_newObj]
    .simp only[Instr.buildSlice,Sem.run_bind,dt Y,Result.andThen_ok,nA X];rw[aL ag,aL S];simp only[Sem.run_pure,Sem.run_bind,yI,Result.andThen_ok,N,newRow,run_newObj]
   grind
  grind
 grind
def bW.kill(s:bW K G ok w0 h w){t:Nat}(X:alive h t=aa)(n:Nat):bW K G ok w0 {h with dead:=t::h.dead} (w.freeze ⟨(K.tk t).1,n,ao⟩ 1):=by
 obtain⟨t1,t2,t3,c0,e0,z0,t4,t5,t6⟩:=s.tok t X;have g:∃z4,(w.freeze ⟨(K.tk t).1,n,ao⟩ 1).heap[(K.tk t).1]?=J (.cells c0 e0 z4):=by simp only[World.freeze,TG,if_false,Ei,if_true,t4,gq];exact⟨_,O⟩
 obtain⟨z1,g⟩:=g;have q:∀k,k≠(K.tk t).1->(w.freeze ⟨(K.tk t).1,n,ao⟩ 1).heap[k]?=w.heap[k]?:=λk hk=>by
  simp only[World.freeze,TG,if_false,Ei]
  grind
 have ga:(w.freeze ⟨(K.tk t).1,n,ao⟩ 1).heap.size=w.heap.size:=by simp[World.freeze]
 have u:∀d,alive {h with dead:=t::h.dead} d=aa->alive h d=aa/\d≠t:=λd h'=>by unfold alive at h' ⊢;simp_all
 refine⟨?_,by grind,λE j c hc=>?_,s.dU,s.jd,s.oq,λb E cs hb Y=>?_,s.nb,s.pN,λl E r N S=>?_,s.tn,λd v=>?_,λd z2 v hu=>s.oV d z2 (u d v).1 (u z2 hu).1,λr S=>?_,s.all⟩
 .refine s.fM.trans ⟨O,O,O,by omega,λk hk=>?_⟩
  grind
 .have p:=s.ic E j c hc;by_cases Z:E=(K.tk t).1
  .subst Z;rw[cell_of t4]at p;rw[cell_of g];exact p
  .rw[<-p];exact World.cell?_of_block (w:=w) (q E Z)
 .obtain⟨p,z,Ox,e,D,H,L⟩:=s.box b E cs hb Y
  grind
 .obtain⟨p,fn,tmps,z5,z,H⟩:=s.loop l E r N S
  grind
 .obtain⟨C,fH⟩:=u d v;obtain⟨p,z,H,e,D,A,L,h5,h6⟩:=s.tok d C;have OZ:(K.tk d).1≠(K.tk t).1:=λz3=>fH (s.oV d t C X z3);have T:(w.freeze ⟨(K.tk t).1,n,ao⟩ 1).heap[(K.tk d).1]?=J (.cells e D A):=by rw[q _ OZ];exact L
  exact⟨p,z,H,e,D,A,T,h5,λj hj N=>by rw[<-h6 j hj N,wF L,wF T]⟩
 .obtain⟨p,z⟩:=s.md r S
  grind
def aie(s:bW K G ok w0 h w){E:aX}(d:lM P h t E x=J (y,h'))(D:aV K x c):
 ∃q v w',K.Le q/\bW q G ok w0 h' w'/\aV q y v/\(convert t E c).run P w=.ok v w':=by
 unfold lM at d;split at d
 .rename_i z1 str g e;obtain⟨rfl,_⟩:=D.hY;split at d
  .rename_i i p hi;split at d
   .injection d with d;obtain⟨rfl,rfl⟩:=fW d;obtain⟨q,v,w',q1,q2,q3,q4⟩:=aw9 (P:=P) s (e:=z1) (str:=str);exact⟨q,v,w',q1,q2,q3,by simp only[convert,Sem.run_bind,dt g,dt e,dt p,Result.andThen_ok];exact q4⟩
   grind
  grind
 .rename_i z1 g e;split at d
  .rename_i U p C;simp only[dO]at d;obtain⟨l,hl,d⟩:=d;obtain⟨rfl,rfl⟩:=fW d;obtain⟨a,u,p9,rfl,Y,jx,T,z,A,S⟩:=GI (P:=P) s C D;obtain⟨ns,rfl,rfl⟩:=agI hl jx;refine⟨K,.string ⟨(ns.map λn=>UInt8.ofNat n.toNat).toArray⟩,w,.refl K,s,.v _ O,?_⟩;cases a with|none=>have:=S O;subst this;simp at z;subst z;simp only[convert,Sem.run_bind,dt g,dt e,dt p,Result.andThen_ok,Conv.bytesToString];rfl|some b=>have L:=A b O;rw[nO]at L;simp only[convert,Sem.run_bind,dt g,dt e,dt p,Result.andThen_ok,Conv.bytesToString,L,List.forIn_toArray,Sem.run_pure];simp[foldl_push]
  grind
 .rename_i z1 e2 src sz es g e;split at d
  .rename_i p;split at d
   .rename_i hc;obtain⟨rfl,H⟩:=hc;injection d with d;obtain⟨rfl,rfl⟩:=fW d;cases D with|ac _ _ _ z3 N n u cells hn Y hv X ht T=>obtain⟨YA,YB,wR,ht4,ht5⟩:=ht;subst wR;obtain⟨t1,t2,t3,c0,e0,z0,t4,t5,t6⟩:=s.tok src H;refine⟨K,.slice (J ⟨(K.tk src).1,N,ao⟩) n u,_,.refl K,s.kill H c0.size,.ac .held sz es _ N n u cells hn Y hv X ⟨YA,trivial⟩ T,?_⟩;have Z:w.shape? (K.tk src).1=J (e0,c0.size):=(by simp[World.shape?,t4]);rw[g]at e;injection e with e;injection e with e;subst e;simp only[convert,Sem.run_bind,dt g,dt p,Result.andThen_ok,beq_self_eq_true,markStringish,run_shape,Z,run_freeze,Sem.run_pure]
   grind
  grind
 .cases d
 .rename_i d1 d2 z4 g e _ _ _ _;simp only[dO,zM]at d;obtain⟨z5,⟨z2,h1,h2⟩,d⟩:=d;obtain⟨rfl,rfl⟩:=fW d;obtain⟨rfl,_⟩:=D.hY;exact⟨K,z2,w,.refl K,s,Ln h2,Kw h1 w⟩
 grind
end
end
section
open Go.RowKit (Below)
section
variable {P:bO} {K:bj} {G:Nat->Option (List I)} {ok:bk->Nat->Code->Bool} {w0 w:cC} {h:am}
def aii(s:bW K G ok w0 h w){ts:Array aX}(u:yd P h ts a x=J (y,h'))(ha:aV K a c)(D:aV K x p):
 ∃K' v w',K.Le K'/\bW K' G ok w0 h' w'/\aV K' y v/\(Builtin.copy_ ts ty #[c,p]).run P w=.ok v w':=by
 unfold yd at u;split at u
 .rename_i elem hu;simp only[zM]at hu;obtain⟨t0,h0,hu⟩:=hu;split at u
  .rename_i i b off len aY hi;split at u
   .rename_i U cs d jk;split at u
    .rename_i hc;injection u with u;obtain⟨rfl,rfl⟩:=fW u;obtain⟨L,n1,n2,n3,n4,n5,q⟩:=Gi (P:=P) s d D;cases ha with
     |arr _ z0 _ _ _ qA wy hb g qo AQ qs=>
      obtain⟨k1,k2,ka,cells,z1,k3,k4⟩:=s.box b z0 cs hb jk;have PK:F cs<=cells.size:=k4.le;have alu:nN (F U) len<=F U:=Nat.min_le_left _ _;have Z:nN (F U) len<=len:=Nat.min_le_right _ _;have hm:nN (F U) len*i.size<=len*i.size:=mn _ Z;have s_:nN (F U) len*i.size<=F U*i.size:=mn _ alu;have qp:(U.take (nN (F U) len)).flatten=U.flatten.take (nN (F U) len*i.size):=N_ n2 _;have yF:aN K (U.take (nN (F U) len)).flatten (L.take (nN (F U) len*i.size)):=(by rw[qp];exact n3.take _);have OG:(U.take (nN (F U) len)).flatten.all I.dm=aa:=(by rw[qp,e8];intro x D;exact e8.1 n4 x (uR D));have nZ:F (L.take (nN (F U) len*i.size))=nN (F U) len*i.size:=(by simp only[dF];omega);obtain⟨w',dS,q1,q2,q3⟩:=auz (P:=P) AQ (vs:=L.take (nN (F U) len*i.size)) (λhz=>by simp_all) k3 ag (zR yF OG);refine⟨K,.int .i64 (nN (F U) len:Nat),w',.refl K,s.Sr hb jk (by grind) k3 q2 q3 yF OG,.v _ O,?_⟩
      .-- the source's first cells, as many as are copied
       have N:(Builtin.firstCells i.size (nN (F U) len) p).run P w=.ok (L.take (nN (F U) len*i.size)).toArray w:=by
        unfold jX at d;split at d
        .rename_i str;split at d
         .rename_i h1;injection d with d;subst d;obtain⟨rfl,_⟩:=D.hY;have z:F (str.data.toList.map iL)=str.size:=(by rw[bI];rfl);have e2:L=str.data.toList.map λb=>Value.int .u8 b.toNat:=(by have e3:(Builtin.firstCells i.size (F (str.data.toList.map iL)) (.string str)).run P w=.ok (str.data.toList.map λb=>Value.int .u8 b.toNat).toArray w:=(by rw[z];have:str.extract 0 str.size=str:=(by simp);have e4:str.data.map (λb=>Value.int .u8 b.toNat)=(str.data.toList.map λb=>Value.int .u8 b.toNat).toArray:=(by apply LY;simp);simp only[Builtin.firstCells,this,Sem.run_pure,e4]);rw[e3]at q;injection q with q _;exact(MJ q).symm);subst e2;rw[h1,nO];simp only[Builtin.firstCells,Sem.run_pure];congr 1;apply LY;simp_all
         simp_all
        .obtain⟨a,wy,E,rfl,hr,jx,wK,X,Y,CT⟩:=GI (P:=P) s d D;cases a with
         |none=>simp_all|some ad=>
          simp only[Builtin.firstCells];have g:=Y ad O;have e5:E=L:=(by simp only[Builtin.firstCells]at q;rw[g]at q;injection q with q _;exact MJ q);subst e5;have azb:∀j v,E[j]?=J v->w.cell? (ad.add j)=J v:=by
           unfold rowsOf at d;split at d
           .rename_i k sz es _;split at d
            .injection d with d;subst d;cases D with|gI=>simp_all|ac _ _ _ T cx n cap2 e hn yD al4 S YB Ox=>have z:=run_loadCells_list (P:=P) w ⟨T,cx,ao⟩ e (λj v H=>by rw[Addr.jg];exact s.ic _ _ _ (S j v H));have A:F e=F es*i.size:=(by rw[<-al4.length,jx.length,X]);rw[A]at z;rw[z]at g;injection g with g _;have:=MJ g;subst this;intro j v H;rw[Addr.jg];exact s.ic _ _ _ (S j v H)
            simp_all
           .rename_i b2 cx uo cap2 _;split at d
            .rename_i cs2 OP;split at d
             .rename_i aze;injection d with d;cases D with
              |arr _ T _ _ _ off2' cap2' mT z Xu C azH=>
               obtain⟨_,_,_,e,e2,k3',k4'⟩:=s.box b2 T cs2 mT OP;have fj:F cs2<=F e.toList:=(by have:=k4'.le;simpa using this);rcases C with C|oF;rotate_left 1
               .simp_all
               rw[C]at g ⊢;have A:F ((e.toList.drop cx).take (U.length*i.size))=F U*i.size:=(by simp only[dF,fL];omega);have Jr:=run_loadCells_list (P:=P) w ⟨T,cx,ao⟩ ((e.toList.drop cx).take (F U*i.size)) (λj v H=>by
                rw[Addr.jg,cell_of k3']
                grind)
               rw[A]at Jr;rw[Jr]at g;injection g with g _;have:=MJ g;subst this;intro j v H;rw[Addr.jg,cell_of k3']
               grind
             simp_all
            simp_all
           .grind
          have:=run_loadCells_list (P:=P) w ad (E.take (nN (F U) len*i.size)) (λj v H=>by
           grind)
          simp_all
       simp only[Builtin.copy_,h0,je,jF,oX,Sem.run_bind,dt hu,Result.andThen_ok,n1,sizeOf,qG hi,Sem.run_pure,N,q1];rfl
    grind
   grind
  grind
 grind
def anH{ts:Array aX}(g:ts[0]?=J t)(d:dp P t x=J y)(p:aV K x c)(w:cC):
 ∃v,(Builtin.len_ ts ty #[c]).run P w=.ok v w/\aV K y v:=by
 unfold dp at d;split at d
 .rename_i e;injection d with d;subst d;obtain⟨rfl,_⟩:=p.hY;exact⟨_,by simp only[Builtin.len_,g,je,jF,Sem.run_bind,dt e,Result.andThen_ok,Sem.run_pure,goInt],.v _ O⟩
 .rename_i n z e;injection d with d;subst d;exact⟨_,by simp only[Builtin.len_,g,je,jF,Sem.run_bind,dt e,Result.andThen_ok,Sem.run_pure,goInt],.v _ O⟩
 .rename_i a e;split at d
  .rename_i n z s;injection d with d;subst d;exact⟨_,by simp only[Builtin.len_,g,je,jF,Sem.run_bind,dt e,dt s,Result.andThen_ok,Sem.run_pure,goInt],.v _ O⟩
  grind
 .rename_i z k D C e;injection d with d;subst d;cases p with
  |nil=>exact⟨.int .i64 0,by simp only[Builtin.len_,g,je,jF,Sem.run_bind,dt e,Result.andThen_ok,Sem.run_pure,goInt];rfl,.v _ O⟩
  |gI=>exact⟨.int .i64 0,by simp only[Builtin.len_,g,je,jF,Sem.run_bind,dt e,Result.andThen_ok,Sem.run_pure,goInt];rfl,.v _ O⟩
  |ac _ _ _ E u n q cells A _ _ _ _ _=>subst A;exact⟨_,by simp only[Builtin.len_,g,je,jF,Sem.run_bind,dt e,Result.andThen_ok,Sem.run_pure,goInt],.v _ O⟩
 .rename_i z b u len q e;injection d with d;subst d;cases p with|arr=>exact⟨_,by simp only[Builtin.len_,g,je,jF,Sem.run_bind,dt e,Result.andThen_ok,Sem.run_pure,goInt],.v _ O⟩
 grind
def ag6{ts:Array aX}(g:ts[0]?=J t)(d:Cb P t x=J y)(q:aV K x c)(w:cC):
 ∃v,(Builtin.cap_ ts ty #[c]).run P w=.ok v w/\aV K y v:=by
 unfold Cb at d;split at d
 .rename_i C z s e;injection d with d;subst d;cases q with
  |gI=>exact⟨.int .i64 0,by simp only[Builtin.cap_,g,je,jF,Sem.run_bind,dt e,Result.andThen_ok,Sem.run_pure,goInt];rfl,.v _ O⟩
  |ac _ _ _ E D n A cells u _ _ _ p _=>have:=p.2;simp only at this;subst this;subst u;exact⟨_,by simp only[Builtin.cap_,g,je,jF,Sem.run_bind,dt e,Result.andThen_ok,Sem.run_pure,goInt],.v _ O⟩
 .rename_i C z s e;injection d with d;subst d;cases q with
  |nil=>exact⟨.int .i64 0,by simp only[Builtin.cap_,g,je,jF,Sem.run_bind,dt e,Result.andThen_ok,Sem.run_pure,goInt];rfl,.v _ O⟩
  |ac _ _ _ _ _ _ _ _ _ _ _ _ p _=>exact p.2.elim
 .rename_i n C e;injection d with d;subst d;exact⟨_,by simp only[Builtin.cap_,g,je,jF,Sem.run_bind,dt e,Result.andThen_ok,Sem.run_pure,goInt],.v _ O⟩
 grind
def ZT10{p:Prop}(h:p:=by
 split at d
 .rename_i l H;simp only[dO,zM]at d;obtain⟨Y,⟨X,D,E⟩,d⟩:=d;obtain⟨rfl,rfl⟩:=fW d;have:=Wd H e;subst this;exact⟨K,X,w,.refl K,s,Ln E,by simp only[builtin,Sem.run_bind,Kw D w,Result.andThen_ok,Sem.run_pure]⟩
 grind):p:=h
def UT(s:bW K G ok w0 h w){b:Builtin}{ts:Array aX}(d:iQ P h b ts ty args=J (y,h')){vs:Array a_}(e:aN K args vs.toList)(z:Array Bool):
 ∃p v w',K.Le p/\bW p G ok w0 h' w'/\aV p y v/\(builtin b ts ty z vs).run P w=.ok (.value v) w':=by
 unfold iQ at d;obtain⟨vs⟩:=vs;simp only at e;split at d
 .cases e with|cons _ c _ _ e g=>cases g with|nil=>
  split at d
  .rename_i t C;simp only[dO]at d;obtain⟨Y,L,d⟩:=d;obtain⟨rfl,rfl⟩:=fW d;obtain⟨v,q,u⟩:=anH (ty:=ty) C L e w;exact⟨K,v,w,.refl K,s,u,by simp only[builtin,Sem.run_bind,q,Result.andThen_ok,Sem.run_pure]⟩
  grind
 .cases e with|cons _ c _ _ e g=>cases g with|nil=>
  split at d
  .rename_i t C;simp only[dO]at d;obtain⟨Y,L,d⟩:=d;obtain⟨rfl,rfl⟩:=fW d;obtain⟨v,q,u⟩:=ag6 (ty:=ty) C L e w;exact⟨K,v,w,.refl K,s,u,by simp only[builtin,Sem.run_bind,q,Result.andThen_ok,Sem.run_pure]⟩
  grind
 .cases e with|cons _ c _ _ e g=>cases g with|cons _ T _ _ A g=>cases g with|nil=>
  obtain⟨p,v,w',q,u,N,S⟩:=Nf (ty:=ty) s d e A;exact⟨p,v,w',q,u,N,by simp only[builtin,Sem.run_bind,S,Result.andThen_ok,Sem.run_pure]⟩
 .cases e with|cons _ c _ _ e g=>cases g with|cons _ T _ _ A g=>cases g with|nil=>
  obtain⟨p,v,w',q,u,N,S⟩:=aii (ty:=ty) s d e A;exact⟨p,v,w',q,u,N,by simp only[builtin,Sem.run_bind,S,Result.andThen_ok,Sem.run_pure]⟩
 .exact ZT10
 .exact ZT10
 grind
def agH(s:bW K G ok w0 h w){d:Option Tmp}{b:Builtin}{ts:Array aX}(g:qV P G d h b ts ty args=J (y,h')){vs:Array a_}(p:aN K args vs.toList)(e:Array Bool):
 ∃q v w',K.Le q/\bW q G ok w0 h' w'/\aV q y v/\(builtin b ts ty e vs).run P w=.ok (.value v) w':=by
 unfold qV at g;split at g
 .split at g
  .obtain⟨vs⟩:=vs;simp only at p;cases p with|cons _ c _ _ p u=>cases u with|cons _ H _ _ z u=>cases u with|nil=>
   obtain⟨q,v,w',A,C,D,E⟩:=SK (ty:=ty) s g p z;exact⟨q,v,w',A,C,D,by simp only[builtin,Sem.run_bind,E,Result.andThen_ok,Sem.run_pure]⟩
  .exact UT s (b:=.append) (ts:=ts) (ty:=ty) (args:=[_,_]) (show iQ P h .append ts ty [_,_]=_ from g) p e
 .exact UT s g p e
def aqa{c b:I}(d:Ks c a b=J y){e g:a_}(q:aV K c p)(s:aV K a e)(u:aV K b g):
 ∃t v,p=.bool t/\v=(if t then e else g)/\aV K y v:=by
 unfold Ks at d;split at d
 .rename_i t;injection d with d;subst d;obtain⟨rfl,_⟩:=q.hY
  grind
 grind
def aqb(s:bW K G ok w0 h w){ρ:b9->I}{ρ':b9->a_}(p:∀x,aV K (ρ x) (ρ' x))(d:dH P G ρ h o.op=J (x,h')):
 Yields K G ok w0 x h' ((execOp ρ' o).run P w):=by
 unfold execOp;cases JE:o.op<;>rw[JE]at d<;>simp only[dH]at d
 case move a=>injection d with d;obtain⟨rfl,rfl⟩:=fW d;exact .mC s (p a) O
 case assign a=>injection d with d;obtain⟨rfl,rfl⟩:=fW d;exact .mC s (p a) O
 case pick c a b=>
  simp only[dO]at d;obtain⟨y,e,d⟩:=d;obtain⟨rfl,rfl⟩:=fW d;obtain⟨t,A,q,rfl,u⟩:=aqa e (p c) (p a) (p b);refine .mC s u ?_;simp only[q,asBool,Sem.run_bind,Sem.run_pure,Result.andThen_ok]
 case alloc t=>
  simp only[dO]at d;obtain⟨cs,C,d⟩:=d;obtain⟨z,A,w',q,g,u,H⟩:=aeY (P:=P) s C;rw[d]at g u;exact⟨z,A,w',q,g,u,.inl (by simp_all)⟩
 case box t a=>
  simp only[dO]at d;obtain⟨cs,C,d⟩:=d;obtain⟨z,A,w',q,g,u,H⟩:=agv (P:=P) (t:=t) s C (p a);rw[d]at g u;exact⟨z,A,w',q,g,u,.inl (by simp_all)⟩
 case build t aS=>
  simp only[dO]at d;obtain⟨y,e,d⟩:=d;obtain⟨rfl,rfl⟩:=fW d;obtain⟨A,q,g⟩:=agG p e w;exact .mC s g (by simp_all)
 case buildSlice t len aS=>
  split at d
  .simp only[dO]at d;obtain⟨y,e,d⟩:=d;obtain⟨rfl,rfl⟩:=fW d;obtain⟨z,A,w',q,g,u,H⟩:=agF s p e;exact⟨z,A,w',q,g,u,.inl (by simp_all)⟩
  .split at d
   .rename_i k sz es e;injection d with d;obtain⟨z,A,w',q,g,u,H⟩:=agE s p e;rw[d]at g u;exact⟨z,A,w',q,g,u,.inl (by simp_all)⟩
   grind
 case load t a=>
  simp only[dO]at d;obtain⟨y,e,d⟩:=d;obtain⟨rfl,rfl⟩:=fW d;obtain⟨z0,z1,A,q,g,u⟩:=ZA s e (p a);exact .mC s u (by simp only[q,Instr.loadAt,Instr.sureAddr,Sem.run_bind,g,Result.andThen_ok,Sem.run_pure])
 case store t a y=>
  simp only[dO]at d;obtain⟨Y,e,d⟩:=d;obtain⟨rfl,rfl⟩:=fW d;obtain⟨w',q,g⟩:=awh s e (p a) (p y);exact⟨K,undef,w',.refl K,g,.tuple _ _ .nil,.inr ⟨by simp_all,O⟩⟩
 case nilCheck a=>
  simp only[dO]at d;obtain⟨y,e,d⟩:=d;obtain⟨rfl,rfl⟩:=fW d;have v:=p a;generalize ρ a=xa at v e;generalize L:ρ' a=ca at v;unfold QI at e;split at e
  .injection e with e;subst e;cases v with|box _ _ _ hb=>exact .mC s (.box _ _ _ hb) (by simp_all)|dU _ _=>exact .mC s (.dU _ _) (by simp_all)
  .injection e with e;subst e;cases v with|elem _ _ _ _ z0 o z1 cells S hv N hi hp Z=>exact .mC s (.elem _ _ _ _ z0 o z1 cells S hv N hi hp Z) (by simp_all)
  .injection e with e;subst e;cases v with|func _ _ _ fs cs h1 Y=>exact .mC s (.func _ _ _ fs cs h1 Y) (by simp_all)
  .injection e with e;subst e;cases v with|yield _ z0 hl=>exact .mC s (.yield _ z0 hl) (by simp_all)
  .injection e with e;subst e;cases v with|iface _ _ c hx=>exact .mC s (.iface _ _ c hx) (by simp_all)
  grind
 case binOp op t a b yt=>
  simp only[dO]at d;obtain⟨y,e,d⟩:=d;obtain⟨rfl,rfl⟩:=fW d;obtain⟨A,q,g⟩:=af1 e (p a) (p b) w;exact .mC s g (by rw[Sem.run_bind,q];rfl)
 case unOp op t a=>
  simp only[dO]at d;obtain⟨y,e,d⟩:=d;obtain⟨rfl,rfl⟩:=fW d;obtain⟨A,q,g⟩:=axj e (p a) w;exact .mC s g (by simp_all)
 case convert sr ds a=>
  obtain⟨z,A,w',q,g,u,H⟩:=aie s d (p a);exact⟨z,A,w',q,g,u,.inl (by simp_all)⟩
 case makeInterface t a=>
  split at d
  .rename_i hif;injection d with d;obtain⟨rfl,rfl⟩:=fW d;obtain⟨z2,T,hd⟩:=P8 hif;refine .mC s (.iface t _ _ (p a)) ?_;simp only[Instr.makeInterface,Sem.run_bind,dt T,Result.andThen_ok];simp_all
  grind
 case makeFunc fn first aY=>
  injection d with d;obtain⟨rfl,rfl⟩:=fW d;refine .mC s (.func fn _ _ _ _ (by rw[El];exact aN.map_mk λx _=>p x) (by rw[El];exact aN.map_mk λx _=>p x)) O
 case makeSlice t l c=>
  obtain⟨z,A,w',q,g,u,H⟩:=aol s d (p l) (p c);exact⟨z,A,w',q,g,u,.inl (by simp_all)⟩
 case slice t a lo hi mx=>
  simp only[dO]at d;obtain⟨y,e,d⟩:=d;obtain⟨rfl,rfl⟩:=fW d;obtain⟨A,q,g⟩:=avn p e (p a) w;exact .mC s g (by simp_all)
 case fieldAddr t a f=>
  simp only[dO]at d;obtain⟨y,e,d⟩:=d;obtain⟨rfl,rfl⟩:=fW d;obtain⟨A,q,g⟩:=ajk e (p a) w;exact .mC s g (by simp_all)
 case field t a f=>
  have v:=p a;generalize ρ a=xa at v d;generalize L:ρ' a=ca at v;split at d
  .rename_i fields cs T;split at d
   .rename_i fd hf;simp only[dO]at d;obtain⟨y,e,d⟩:=d;obtain⟨rfl,rfl⟩:=fW d;cases v with|agg _ vs D=>obtain⟨A,q,g⟩:=aaA e D w;exact .mC s g (by simp only[Instr.field,Sem.run_bind,dt T,Result.andThen_ok,hf,L,asAgg,Sem.run_pure,q])
   grind
  grind
 case indexAddr t a i=>
  simp only[dO]at d;obtain⟨y,e,d⟩:=d;obtain⟨rfl,rfl⟩:=fW d;obtain⟨A,q,g⟩:=aml e (p a) (p i) w;exact .mC s g (by simp_all)
 case index t a i=>
  simp only[dO]at d;obtain⟨y,e,d⟩:=d;obtain⟨rfl,rfl⟩:=fW d;obtain⟨A,q,g⟩:=amo e (p a) (p i) w;exact .mC s g (by simp_all)
 case typeAssert a xt t okk=>
  simp only[dO]at d;obtain⟨y,e,d⟩:=d;obtain⟨rfl,rfl⟩:=fW d;obtain⟨A,q,g⟩:=afn (xt:=xt) e (p a) w;exact .mC s g (by simp_all)
 case extract a i=>
  have v:=p a;generalize ρ a=xa at v d;generalize L:ρ' a=ca at v;split at d
  .rename_i vs;simp only[dO]at d;obtain⟨y,e,d⟩:=d;obtain⟨rfl,rfl⟩:=fW d;cases v with|tuple _ X D=>obtain⟨c,N,S⟩:=D.get e;have:X[i]?=J c:=(by simpa using N);exact .mC s S (by simp only[Instr.extract,L,this,Sem.run_bind,Sem.run_pure,Result.andThen_ok])
  grind
 all_goals cases d
end
end
section
open Go.RowKit (Below)
def Dx(n:Nat)(ops:Array Oper):Bool:=ops.all λo=>match o.dst with|some d=>decide (d<n)|none=>aa
def codeOk(n:Nat):Code->Bool
 | .region _ ops _=>Dx n ops
 | .seq a b=>codeOk n a&&codeOk n b
 | .cond _ a b=>codeOk n a&&codeOk n b
 | .block _ c=>codeOk n c
 | .loop c=>codeOk n c
 | .scope c=>codeOk n c
 | .rangeFunc _ d a b=>d.all (λe=>decide (e<n))&&codeOk n a&&codeOk n b
 |_=>aa
def Du(P:bO)(fn:bk)(n:Nat)(c:Code):Bool:=codeOk n c&&(P.funcs[fn]?).isSome
inductive p_ (K:bj):List (bk × List I)->List Deferred->List Nat->Prop
 |nil:p_ K [] [] []
 |call (g:bk) (args:List I) (vs aY:Array a_) (ds cds ms) (hv:aN K args (vs++aY).toList) (h:p_ K ds cds ms):
  p_ K ((g,args)::ds) ({target:=.fn (.func g) aY,args:=vs}::cds) ms
 |mark (r:Nat) (ds cds ms) (hr:r∈K.md) (hn:r∉ms) (h:p_ K ds cds ms):p_ K ds ({target:=.collected r,args:=#[]}::cds) (r::ms)
def p_.mono{K s}(le:K.Le s){e d g}(h:p_ K e d g):p_ s e d g:=by
 induction h with
 |nil=>exact .nil|call D p C u e d g A _ q=>exact .call D p C u e d g (A.mono le) q|mark r e d g z v _ q=>exact .mark r e d g (le.md r z) v q
structure ng(P:bO)(K:bj)(e:Env)(a:Act)(B:fq)(ms:List Nat):Prop where
 gN:lF K e.tmps a.tmps
 defers:p_ K e.defers a.defers ms
 round:match e.round with
  |none=>B.roundOf=ao
  |some l=>∃g,K.γ[l]?=J g/\B.roundOf=J g/\B.kind=.normal/\a.defers=[]/\ms=[]/\e.defers=[]
 fn:(P.funcs[B.fn]?).isSome=aa
def ng.mono{P}{K d}(le:K.Le d){a}{B}{g}(h:ng P K e a B g):ng P d e a B g:=by
 refine⟨h.gN.mono le,h.defers.mono le,?_,h.fn⟩;have:=h.round;cases s:e.round with|none=>simp_all|some l=>rw[s]at this;obtain⟨u,p,q⟩:=this;exact⟨u,le.γ _ _ p,q⟩
inductive CS (K:bj) (kind:CallKind) (base:List fq):Option (I × Bool)->List fq->Prop
 |normal (h:kind=.normal):CS K kind base ao base
 |ret (c0:fq) (rest:List fq) (hk:kind=.deferred) (hb:base=c0::rest) (hm:c0.mode=.returning):CS K kind base ao base
 |da (c0:fq) (rest:List fq) (x:I) (v:a_) (r:Bool) (hk:kind=.deferred) (hb:base=c0::rest) (hx:aV K x v):
  CS K kind base (J (x,r)) ({c0 with mode:=.panicking [{v,recovered:=r}]}::rest)
def CS.mono{K s}(le:K.Le s){e d p cs}(h:CS K e d p cs):CS s e d p cs:=by
 cases h with|normal h=>exact .normal h|ret c0 rest q g u=>exact .ret c0 rest q g u|da c0 rest x z r q g v=>exact .da c0 rest x z r q g (v.mono le)
def Dp(s:o0)(d t)(x):(s.set d x).get t=if d=t then x else s.get t:=by simp only[o0.set,o0.get,look];simp_all
section
variable {P:bO} {K:bj} {G:Nat->Option (List I)} {w0 w:cC} {h:am}
def lF.set(g:lF K s tmps){d:Nat}(p:d<tmps.size)(q:aV K x v):lF K (s.set d x) (tmps.setIfInBounds d v):=by
 intro t;rw[Dp];by_cases e:d=t
 .simp_all
 .rw[aL e];have:(tmps.setIfInBounds d v).getD t undef=tmps.getD t undef:=by simp[Array.getElem?_setIfInBounds,e]
  rw[this];exact g t
def yi{a:Act}(d:lF K e.tmps a.tmps)(x:b9):aV K (e.eval x) (a.eval x):=by
 cases x with|tmp t=>exact d t|const p=>exact QO p|global g=>exact .dU g 0|func f=>exact .func (.func f) [] [] #[] #[] .nil .nil
def ng.put{a:Act}{B:fq}{q:List Nat}(p:ng P K e a B q){g:Option Tmp}(s:∀d,g=J d->d<a.tmps.size)(u:aV K x v):
 ng P K (e.put g x) (a.put g v) B q:=by
 cases g with|none=>exact p|some d=>exact⟨p.gN.set (s d O) u,p.defers,p.round,p.fn⟩
def KA(a:Act)(d)(v):(a.put d v).tmps.size=a.tmps.size:=by cases d<;>simp[Act.put]
section steps
variable {B:fq} {a:Act} {k:List Item} {cs:List fq} {ops:Array Oper} {i:Nat} {rest:List Nat} {o:Oper} {w':cC}
def Aj(d:ops[i]?=J o)(v:a_):(B.atR a (.inRegion ops (i::rest)::k)).finish v=B.atR (a.put o.dst v) (.inRegion ops rest::k):=by rw[Frame.finish_atR,d];rfl
def aci(d:ops[i]?=J o)(g:Region.wanted o (yielded ops a.tmps)=aa)(e:(o.semAt B.roundOf a.eval).run P w=.ok (.value v) w'):
 step P (lone (B.atR a (.inRegion ops (i::rest)::k)) cs w)=.next (lone (B.atR (a.put o.dst v) (.inRegion ops rest::k)) cs w'):=by
 refine step_lone_go ?_;rw[stepGR_op d g,<-Aj d];simp[stepG.apply,e,Sem.runT_eq]
def awe(d:ops[i]?=J o)(g:Region.wanted o (yielded ops a.tmps)=aa)(e:(o.semAt B.roundOf a.eval).run P w=.ok .skip w'):
 step P (lone (B.atR a (.inRegion ops (i::rest)::k)) cs w)=.next (lone (B.atR (a.put o.dst undef) (.inRegion ops rest::k)) cs w'):=by
 refine step_lone_go ?_;rw[stepGR_op d g,<-Aj d];simp[stepG.apply,e,Sem.runT_eq]
def av5(d:ops[i]?=J o)(g:Region.wanted o (yielded ops a.tmps)=aa){args:Array a_}(e:(o.semAt B.roundOf a.eval).run P w=.ok (.enter f args) w'):
 step P (lone (B.atR a (.inRegion ops (i::rest)::k)) cs w)=.next (lone (Frame.enter P f args .normal) (B.atR a (.inRegion ops (i::rest)::k)::cs) w'):=by
 refine step_lone_go ?_;rw[stepGR_op d g];simp[stepG.apply,e,Sem.runT_eq,Frame.atR]
def awc(d:ops[i]?=J o)(g:Region.wanted o (yielded ops a.tmps)=aa){assign body:Code}(e:(o.semAt B.roundOf a.eval).run P w=.ok (.round l f tmps assign body) w'):
 step P (lone (B.atR a (.inRegion ops (i::rest)::k)) cs w)=.next (lone (Frame.round l f tmps assign body .normal) (B.atR a (.inRegion ops (i::rest)::k)::cs) w'):=by
 refine step_lone_go ?_;rw[stepGR_op d g];simp[stepG.apply,e,Sem.runT_eq,Frame.atR]
def av4(e:ops[i]?=J o)(p:Region.wanted o (yielded ops a.tmps)=aa){d:Deferred}(g:(o.semAt B.roundOf a.eval).run P w=.ok (.defer d) w'):
 step P (lone (B.atR a (.inRegion ops (i::rest)::k)) cs w)=.next (lone (B.atR ({a with defers:=d::a.defers}.put o.dst undef) (.inRegion ops rest::k)) cs w'):=by
 refine step_lone_go ?_;rw[stepGR_op e p,<-Aj (B:=B) (k:=k) (rest:=rest) (a:={a with defers:=d::a.defers}) e];simp[stepG.apply,g,Sem.runT_eq,Frame.atR]
def ace(d:ops[i]?=J o)(g:Region.wanted o (yielded ops a.tmps)=aa)(e:(o.semAt B.roundOf a.eval).run P w=.halt (.panic v) w'):
 step P (lone (B.atR a (.inRegion ops (i::rest)::k)) cs w)=.next (lone {B.atR a (.inRegion ops (i::rest)::k) with mode:=.panicking [{v,recovered:=ar}]} cs w'):=by
 refine step_lone_go ?_;rw[stepGR_op d g,<-Frame.raise_atR];simp[stepG.apply,e,Sem.runT_eq]
def awa(e:ops[i]?=J o)(s:Region.wanted o (yielded ops a.tmps)=aa)(g:B.roundOf=ao)(p:(o.semAt B.roundOf a.eval).run P w=.ok .recover w')
 (q:tryRecover (B.atR a (.inRegion ops (i::rest)::k)) cs=ao):
 step P (lone (B.atR a (.inRegion ops (i::rest)::k)) cs w)=.next (lone (B.atR (a.put o.dst .nilIface) (.inRegion ops rest::k)) cs w'):=by
 refine step_lone_go ?_;have d:(B.atR a (.inRegion ops (i::rest)::k)).roundOf=ao:=g;rw[stepGR_op e s,<-Aj e];simp[stepG.apply,p,Sem.runT_eq,d,q]
def awb(g:ops[i]?=J o)(u:Region.wanted o (yielded ops a.tmps)=aa)(p:B.roundOf=ao)(q:(o.semAt B.roundOf a.eval).run P w=.ok .recover w')
  {d:List fq} (s:tryRecover (B.atR a (.inRegion ops (i::rest)::k)) cs=J (v,d)):
 step P (lone (B.atR a (.inRegion ops (i::rest)::k)) cs w)=.next (lone (B.atR (a.put o.dst v) (.inRegion ops rest::k)) d w'):=by
 refine step_lone_go ?_;have e:(B.atR a (.inRegion ops (i::rest)::k)).roundOf=ao:=p;rw[stepGR_op g u,<-Aj g];simp[stepG.apply,q,Sem.runT_eq,e,s]
end steps
end
end
section
open Go.RowKit (Below)
abbrev jJ(P:bO)(G:Nat->Option (List I))(w0:cC)(K:bj)(h:am)(w:cC):Prop:=bW K G (Du P) w0 h w
def nF(P:bO)(K:bj)(m:Machine)(B:fq)(k:List Item)(cs:List fq):Xt->Act->cC->Prop
 | .normal,a,w=>Steps P m (lone (B.atR a k) cs w)
 | .exit id,a,w=>∃d,exitTo id d=exitTo id k/\Steps P m (lone (B.atR a (.code (.exit id)::d)) cs w)
 | .ret,a,w=>∃d,Steps P m (lone (B.atR a (.code .ret::d)) cs w)
 | .panic x,a,w=>∃d v,aV K x v/\Steps P m (lone {B.atR a d with mode:=.panicking [{v,recovered:=ar}]} cs w)
def nF.of_steps{P}{K}{m m'}{B}{k}{cs}{x}{a}(e:Steps P m m')(h:nF P K m' B k cs x a w):nF P K m B k cs x a w:=by
 cases x with
 |normal=>exact e.trans h|exit id=>obtain⟨t,g,d⟩:=h;exact⟨t,g,e.trans d⟩
 |ret=>obtain⟨t,d⟩:=h;exact⟨t,e.trans d⟩
 |panic x=>obtain⟨t,p,g,d⟩:=h;exact⟨t,p,g,e.trans d⟩
def nF.pass{P}{K}{m}{B}{d}{k}{cs}{x}{a}(p:d.plain=aa)(q:x≠ .normal)
 (h:nF P K m B (d::k) cs x a w):nF P K m B k cs x a w:=by
 cases x with
 |normal=>simp_all|exit id=>obtain⟨t,e,g⟩:=h;refine⟨t,e.trans ?_,g⟩;cases d<;>first|rfl|simp[Item.plain]at p
 |ret=>exact h|panic x=>exact h
structure Left(P:bO)(G:Nat->Option (List I))(w0:cC)(K:bj)(ms:List Nat)(B:fq)(base:List fq)(m:Machine)(k:List Item)(n:Nat)(M:Xt)(e':Env)(h':am)
 (K':bj) (w':cC) (a':Act) (kY:List fq) (ms':List Nat):Prop where
 le:K.Le K'
 ry:jJ P G w0 K' h' w'
 frame:ng P K' e' a' B ms'
 cs:CS K' B.kind base e'.da kY
 size:a'.tmps.size=n
 marks:∀r∈ms',r∈ms∨r∉K.md
 arr:nF P K' m B k kY M a' w'
def TT(P:bO)(G:Nat->Option (List I))(w0:cC)(f:Code->Env->am->Option (Xt × Env × am)):Prop:=
 ∀c A h e p q,f c A h=J (e,p,q)->∀K w a B k d cs s,ng P K A a B s->CS K B.kind d A.da cs->jJ P G w0 K h w->codeOk a.tmps.size c=aa->
  ∃v w' z g u,Left P G w0 K s B d (lone (B.atR a (.code c::k)) cs w) k a.tmps.size e p q v w' z g u
def TR(P:bO)(K:bj)(d:fq)(w:cC):dP->Prop
 | .ret x=>∃v,aV K x v/\d.leaving P w (.returned v)
 | .panic x=>∃v,aV K x v/\d.leaving P w (.panicked [{v,recovered:=ar}])
def TS(P:bO)(G:Nat->Option (List I))(w0:cC)(f:bk->List I->am->Option (dP × am)):Prop:=
 ∀u e h r s,f u e h=J (r,s)->(∃q,P.funcs[u]?=J q/\q.body.isSome=aa)/\∀K w d,aN K e (d:Array a_).toList->jJ P G w0 K h w->∀cs,
  ∃g w' p,K.Le g/\jJ P G w0 g s w'/\Steps P (lone (Frame.enter P u d .normal) cs w) (lone p cs w')/\p.fn=u/\TR P g p w' r
def TU(P:bO)(G:Nat->Option (List I))(w0:cC)(f:bk->List I->Option (I × Bool)->am->Option (dP × Option (I × Bool) × am)):Prop:=
 ∀A e m h x z v,f A e m h=J (.ret x,z,v)->(∃u,P.funcs[A]?=J u/\u.body.isSome=aa)/\∀K w d g cs,aN K e (d:Array a_).toList->CS K .deferred g m cs->jJ P G w0 K h w->
  ∃q w' s p C,K.Le q/\jJ P G w0 q v w'/\CS q .deferred g z p/\Steps P (lone (Frame.enter P A d .deferred) cs w) (lone s p w')/\s.kind=.deferred/\s.going P w' (.returned C)
def TV(P:bO)(G:Nat->Option (List I))(w0:cC)(f:Nat->List I->am->Option (dP × am)):Prop:=
 ∀l s h r D,f l s h=J (r,D)->∀K w q u,K.γ[l]?=J u->aN K s (q:Array a_).toList->jJ P G w0 K h w->∀d cs,
  ∃A p e g z w',(Instr.yield u q).run P w=.ok (.round u A p e g) w/\K.Le z/\jJ P G w0 z D w'/\
   match r with
   | .ret x=>∃v,aV z x v/\Steps P (lone (Frame.round u A p e g .normal) (d::cs) w) (lone (d.finish v) cs w')
   | .panic x=>∃v C,aV z x v/\Steps P (lone (Frame.round u A p e g .normal) (d::cs) w) (lone C (d::cs) w')/\C.leaving P w' (.panicked [{v,recovered:=ar}])
structure uV(P:bO)(G:Nat->Option (List I))(w0:cC)(R:Rec):Prop where
 code:TT P G w0 R.code
 call:TS P G w0 R.call
 iS:TU P G w0 R.iS
 round:TV P G w0 R.round
section
variable {P:bO} {G:Nat->Option (List I)} {w0:cC} {R:Rec}
def BR (P : bO) : Prop := ∀ (e : bk) (d : Func), P.funcs[e]? = J d -> (d.name == "runtime.NumGoroutine") = ar
def R4(q:BR P){g:bk}{fn:Func}(d:P.funcs[g]?=J fn)(s:fn.body.isSome=aa)(args:Array a_)(w:cC):(callFunc g args).run P w=.ok (.enter g args) w:=by
 have e:=q g fn d;have p:fn.body.isNone=ar:=by simp_all
 unfold callFunc;simp only[Sem.run_bind,run_program,Result.andThen_ok,d];rw[e,p];rfl
def aox{name:String}(e:Qz P t name=J f)(v:a_)(w:cC)(n:Nat):
 (method (n+1) t v name).run P w=.ok (f,v) w:=by
 unfold Qz at e;split at e
 .rename_i i s;split at e
  .rename_i m u;have D:∀(d:Bool) (p:TypeDesc),m.path.toList=[]->m.func=J (f,d)->P.underlying t=J p->(match p with| .pointer _=>d=aa|_=>d=ar)->(method (n+1) t v name).run P w=.ok (f,v) w:=by intro d p z q C g;simp only[method,Sem.run_bind,qG s,Result.andThen_ok,u,z,follow,Sem.run_pure,q,receiverAt,dt C];cases p<;>simp only at g<;>subst g<;>simp[Place.get]
   grind
  grind
 grind
end
end
section
open Go.RowKit (Below)
section
variable {P:bO} {G:Nat->Option (List I)} {w0:cC} {R:Rec}
def aal(h:Dx n ops=aa)(g:ops[i]?=J o):∀d,o.dst=J d->d<n:=by
 intro d e;unfold Dx at h
 grind
def axG{K}{a:Act}(N:lF K e.tmps a.tmps)(u:Dx a.tmps.size ops=aa){b}(d:fC ops e o=J b):
 Region.wanted o (yielded ops a.tmps)=b:=by
 unfold fC at d;unfold Region.wanted;cases L:o.guard with
 |none=>simp_all|some D=>
  obtain⟨j,S⟩:=D;rw[L]at d;simp only at d ⊢;cases g:(ops[j]?).bind (·.dst) with
  |none=>rw[g]at d;simp only[eo]at d;subst d;simp[yielded,g]|some q=>
   rw[g]at d;simp only at d;have H:q<a.tmps.size:=by
    cases z:ops[j]? with|none=>simp_all|some Y=>rw[z]at g;exact aal u z q g
   have p:=N q;have s:a.tmps[q]?=J (a.tmps.getD q undef):=(by simp[H]);have A:∀C,a.tmps.getD q undef=C->yielded ops a.tmps j=match C with| .bool b=>J b|_=>ao:=by
    intro C v;unfold yielded;rw[g];simp only[Option.bind_some];rw[s,v]
    grind
   unfold Env.get at d;generalize X:e.tmps.get q=x at d p;generalize v:a.tmps.getD q undef=C at p;have A:=A C v;split at d
   .rename_i T;obtain⟨rfl,-⟩:=p.hY;simp_all
   .injection d with d;cases p with|tuple cs Z h=>simp_all
   grind
def Ij{K}{a:Act}(d:lF K e.tmps a.tmps)(xs:Array b9):aN K (xs.toList.map e.eval) (xs.map a.eval).toList:=by rw[El];exact aN.map_mk λx _=>yi d x
def TL(P:bO)(G:Nat->Option (List I))(w0:cC)(K:bj)(u:List Nat)(B:fq)(p:List fq)(m:Machine)(ops:Array Oper)(o:Oper)(rest:List Nat)(k:List Item)(n:Nat)(s:Env)(h':am)(res:dP):Prop:=
 ∃d w' g e,K.Le d/\jJ P G w0 d h' w'/\ng P d s g B u/\CS d B.kind p s.da e/\g.tmps.size=n/\
  match res with
  | .ret x=>∃v,aV d x v/\Steps P m (lone (B.atR (g.put o.dst v) (.inRegion ops rest::k)) e w')
  | .panic x=>∃v q,aV d x v/\Steps P m (lone {B.atR g q with mode:=.panicking [{v,recovered:=ar}]} e w')
def aoh:∃d,Made.depth=d+1:=⟨Made.depth-1,by decide⟩
def api(hn:BR P)(hR:uV P G w0 R){a:Act}{B:fq}{ms:List Nat}{base cs:List fq}{K:bj}{res:dP}
 (d:ec P G R e h o=J (res,e2,h')) (p:ng P K e a B ms) (g:CS K B.kind base e.da cs) (hs:jJ P G w0 K h w) (L:ops[i]?=J o) (T:Region.wanted o (yielded ops a.tmps)=aa) (k:List Item):
 TL P G w0 K ms B base (lone (B.atR a (.inRegion ops (i::rest)::k)) cs w) ops o rest k a.tmps.size e2 h' res:=by
 have oC:∀(ro:Option Nat) (x:Sem Next),(∀c,o.op≠ .defer c)->execOp a.eval o=x->(o.semAt ro a.eval)=x:=λro x fH z=>by rw[Oper.semAt_eq ro a.eval o fH,z]
 have yE:e.round.isSome=ar->B.roundOf=ao:=by
  intro hr;have:=p.round;cases hq:e.round with|none=>simp_all|some l=>simp_all
 unfold ec at d;split at d
 .-- recover
  rename_i args argTypes v;have C:execOp a.eval o=(do let z1 <-resolve a.eval {callee:=.builtin .recover,args:=args,argTypes:=argTypes} o.type;invoke z1.target z1.args):=by unfold execOp;rw[v]
  have s:(o.semAt B.roundOf a.eval).run P w=.ok .recover w:=by rw[oC _ _ (by simp_all) C];simp[resolve,invoke,builtin]
  split at d
  .cases d
  .rename_i AT;have hB:=yE (by simp_all);split at d
   .rename_i x hp;simp only[eo,dw]at d;obtain⟨rfl,rfl,rfl⟩:=d;rw[hp]at g;generalize X:B.kind=kd at g;generalize CW:(J (x,ar):Option (I × Bool))=pp at g;cases g with
    |normal h=>grind
    |ret c0 N hk hb hm=>grind
    |da c0 N x' z0 r hk hb z=>injection CW with CW;injection CW with S h2;subst S;subst h2;refine⟨K,w,a,_,.refl K,hs,⟨p.gN,p.defers,p.round,p.fn⟩,.da c0 N x z0 aa (X.trans hk) hb z,O,z0,z,.one (awb L T hB s ?_)⟩;simp[tryRecover,Frame.atR,X,hk]
   .rename_i hp;simp only[eo,dw]at d;obtain⟨rfl,rfl,rfl⟩:=d;refine⟨K,w,a,cs,.refl K,hs,p,g,O,.nilIface,.v _ O,.one (awa L T hB s ?_)⟩;generalize X:B.kind=kd at g;generalize CW:e.da=pp at g hp;cases g with
    |normal h=>subst h;simp[tryRecover,Frame.atR,X]|ret c0 N hk hb hm=>subst hk;subst hb;simp[tryRecover,Frame.atR,X,hm]|da c0 N x' z0 r hk hb z=>
     subst hk;cases r with|false=>simp_all|true=>simp[tryRecover,Frame.atR,X]
 .-- the built-in panic
  rename_i args argTypes v;have C:execOp a.eval o=(do let z1 <-resolve a.eval {callee:=.builtin .panic,args:=args,argTypes:=argTypes} o.type;invoke z1.target z1.args):=by unfold execOp;rw[v]
  split at d
  .rename_i t x A;simp only[eo,dw]at d;obtain⟨rfl,rfl,rfl⟩:=d;have hv:=Ij p.gN args;rw[A]at hv;generalize hz:args.map a.eval=z3 at hv;obtain⟨z3⟩:=z3;simp only at hv;cases hv with
   |cons _ c _ kY S h2=>
    cases h2;cases S with|iface _ _ c Z=>refine⟨K,w,a,cs,.refl K,hs,p,g,O,.iface t c,_,.iface t x c Z,.one (ace L T ?_)⟩;rw[oC _ _ (by simp_all) C];simp[resolve,invoke,builtin,hz,Instr.panic]
  grind
 .-- another built-in function
  rename_i b args argTypes sX mT v;have C:execOp a.eval o=(do let z1 <-resolve a.eval {callee:=.builtin b,args:=args,argTypes:=argTypes} o.type;invoke z1.target z1.args):=by unfold execOp;rw[v]
  simp only[dO]at d;obtain⟨⟨x,S⟩,d,hq⟩:=d;simp only[dw]at hq;obtain⟨rfl,rfl,rfl⟩:=hq;obtain⟨Y,z0,w',le,s',z,s⟩:=agH hs (ty:=o.type) d (Ij p.gN args) (args.map λ| .const _=>aa|_=>ar);refine⟨Y,w',a,cs,le,s',p.mono le,g.mono le,O,z0,z,.one (aci L T ?_)⟩;rw[oC _ _ (by simp_all) C];simp only[resolve,invoke,Sem.run_bind,Sem.run_pure,Result.andThen_ok];omega
 .-- a call
  rename_i c sX mT yr v;have C:execOp a.eval o=(do let z1 <-resolve a.eval c o.type;invoke z1.target z1.args):=by unfold execOp;rw[v]
  simp only[dO]at d;obtain⟨⟨r,S⟩,d,hq⟩:=d;simp only[dw]at hq;obtain⟨rfl,rfl,rfl⟩:=hq;have A:=Ij p.gN c.args;have call:∀(z2:bk) (xs:List I) (vs:Array a_),R.call z2 xs h=J (r,S)->aN K xs vs.toList->((∃fn,P.funcs[z2]?=J fn/\fn.body.isSome=aa)->(execOp a.eval o).run P w=(callFunc z2 vs).run P w)->
   TL P G w0 K ms B base (lone (B.atR a (.inRegion ops (i::rest)::k)) cs w) ops o rest k a.tmps.size e S r:=by
   intro z2 xs vs Ax jx s;obtain⟨⟨fn,FJ,CH⟩,Z⟩:=hR.call z2 xs h r S Ax;obtain⟨Y,w',fr,le,s',gG,-,hl⟩:=Z K w vs jx hs (B.atR a (.inRegion ops (i::rest)::k)::cs);have Ji:=av5 (k:=k) (cs:=cs) (rest:=rest) L T (by rw[oC B.roundOf _ (by simp_all) O,s ⟨fn,FJ,CH⟩];exact R4 hn FJ CH vs w);cases r with
   |ret x=>obtain⟨z0,z,hl⟩:=hl;refine⟨Y,w',a,cs,le,s',p.mono le,g.mono le,O,z0,z,.head Ji (gG.trans (.one ?_))⟩;rw[step_leave_returned hl,Aj L]
   |panic x=>obtain⟨z0,z,hl⟩:=hl;refine⟨Y,w',a,cs,le,s',p.mono le,g.mono le,O,z0,.inRegion ops (i::rest)::k,z,.head Ji (gG.trans (.one ?_))⟩;rw[step_leave_panicked hl,Frame.raise_atR]
  obtain⟨callee,u,cts⟩:=c;cases callee with
  |builtin b=>simp_all|value f=>
   simp only[lI]at d;have q:=yi p.gN f;generalize Pw:e.eval f=qf at d q;generalize H:a.eval f=qv at q;split at d
   .rename_i z2 first aY
    cases q with
    |func _ _ _ fs kY CB vu=>
     refine call z2 _ (fs++u.map a.eval++kY) d ?_ λ_=>?_
     .simp only[Ek];exact(CB.append A).append vu
     .rw[C];simp[resolve,H,Deferred.ofValue,invoke]
   .rename_i l;cases q with
    |yield _ lg hlg=>
     obtain⟨fn,tmps,assign,body,Y,w',E,le,s',hm⟩:=hR.round l _ h r S d K w (u.map a.eval) lg hlg A hs (B.atR a (.inRegion ops (i::rest)::k)) cs;have Jh:=awc (k:=k) (cs:=cs) (rest:=rest) L T (by rw[oC B.roundOf _ (by simp_all) C];simp only[resolve,H,Deferred.ofValue,invoke,Sem.run_bind,Sem.run_pure,Result.andThen_ok];simpa using E);cases r with
     |ret x=>obtain⟨z0,z,gG⟩:=hm;refine⟨Y,w',a,cs,le,s',p.mono le,g.mono le,O,z0,z,.head Jh ?_⟩;rw[<-Aj L];omega
     |panic x=>obtain⟨z0,fr,z,gG,hl⟩:=hm;refine⟨Y,w',a,cs,le,s',p.mono le,g.mono le,O,z0,.inRegion ops (i::rest)::k,z,.head Jh (gG.trans (.one ?_))⟩;rw[step_leave_panicked hl,Frame.raise_atR]
   grind
  |invoke rcv name=>
   simp only[lI]at d;have q:=yi p.gN rcv;generalize Pw:e.eval rcv=qf at d q;generalize H:a.eval rcv=qv at q;split at d
   .rename_i t x;split at d
    .rename_i f hm;cases q with
     |iface _ _ c Z=>
      refine call f _ (#[c]++u.map a.eval) d ?_ λ_=>?_
      .simp only[Ek];exact .cons _ _ _ _ Z A
      .rw[C];obtain⟨z1,hd⟩:=aoh;have alt:=aox hm c w (P.types.size+z1);have ga:P.types.size+Made.depth=P.types.size+z1+1:=(by omega);simp only[resolve,H,invoke,Sem.run_bind,Sem.run_pure,Result.andThen_ok,callMethod];have h0:(#[Value.iface t c]++L_ a.eval u)[0]?=J (.iface t c):=(by rw[Array.getElem?_append_left cB];rfl);simp only[h0,run_program,Sem.run_bind,Result.andThen_ok,ga,alt];congr 2;have D:(#[Value.iface t c]++L_ a.eval u).extract 1 (#[Value.iface t c]++L_ a.eval u).size=L_ a.eval u:=(by apply LY;simp;rw[<-nf,<-bI (f:=a.eval),List.take_length]);rw[D]
    grind
   grind
 .-- a defer
  rename_i f args argTypes v;split at d
  .cases d
  .rename_i AT;have hB:=yE (by simp_all);have q:=yi p.gN f;generalize Pw:e.eval f=qf at d q;generalize H:a.eval f=qv at q;split at d
   .rename_i z2 first aY
    simp only[eo,dw]at d;obtain⟨rfl,rfl,rfl⟩:=d;cases q with
    |func _ _ _ fs kY CB vu=>
     have s:(o.semAt B.roundOf a.eval).run P w=.ok (.defer {target:=.fn (.func z2) kY,args:=fs++args.map a.eval}) w:=(by rw[hB,Oper.semAt_none];unfold execOp;rw[v];simp[resolve,H,Deferred.ofValue]);refine⟨K,w,{a with defers:=_::a.defers},cs,.refl K,hs,⟨p.gN,.call z2 _ (fs++args.map a.eval) kY _ _ _ ?_ p.defers,?_,p.fn⟩,g,O,undef,?_,.one (av4 L T s)⟩
     .simp only[Ek];exact(CB.append (Ij p.gN args)).append vu
     .simp_all
     .exact .tuple [] #[] .nil
   grind
 .-- a panic
  rename_i x v;have q:=yi p.gN x;generalize Pw:e.eval x=qf at d q;generalize H:a.eval x=qv at q;split at d
  .rename_i t x;simp only[eo,dw]at d;obtain⟨rfl,rfl,rfl⟩:=d;cases q with|iface _ _ c Z=>refine⟨K,w,a,cs,.refl K,hs,p,g,O,.iface t c,_,.iface t x c Z,.one (ace L T ?_)⟩;rw[Oper.semAt_eq _ _ _ (by simp_all)];unfold execOp;rw[v];simp[H,Instr.panic]
  grind
 .-- any other operation
  rename_i op azw azx azy azz azA azB;simp only[dO]at d;obtain⟨⟨x,S⟩,d,hq⟩:=d;simp only[dw]at hq;obtain⟨rfl,rfl,rfl⟩:=hq;have hnd:∀c,o.op≠ .defer c:=by intro c Z;rw[Z]at d;simp[dH]at d
  obtain⟨Y,z0,w',le,s',z,s⟩:=aqb hs (λx=>yi p.gN x) d;refine⟨Y,w',a,cs,le,s',p.mono le,g.mono le,O,z0,z,.one ?_⟩;rcases s with s|⟨s,rfl⟩
  .exact aci L T (by simp_all)
  .exact awe L T (by simp_all)
end
end
def auK{x y}(h:ip x y=aa):x=y:=by
 cases x<;>cases y<;>simp only[ip,bR,decide_eq_true_eq,jE,beq_iff_eq]at h
 case int.int=>simp_all
 case bool.bool=>rw[h]
 case string.string a b=>
  obtain⟨⟨a⟩⟩:=a;simp_all
 case pointer.pointer a b=>grind
 all_goals rfl
def auI{x y}(h:Lm x y=aa):x=y:=by cases x<;>cases y<;>simp only[Lm,jE]at h<;>rw[nM h]
def auJ{x y}(h:tK x y=aa):x=y:=by cases x<;>cases y<;>simp only[tK,jE]at h<;>first|rfl|rw[nM h]
mutual
def R7:∀{x y:I},df x y=aa->x=y
 | .v x,.v y,h=>by rw[df]at h;rw[auK h]
 | .ac k v s,.ac D g d,h=>by rw[df,bR,bR]at h;rw[auJ h.1.1,nM h.1.2,R8 h.2]
 | .arr b o l c,.arr p e u A,h=>by rw[df,bR,bR,bR]at h;simp_all
 | .agg cs,.agg q,h=>by rw[df]at h;rw[Ea h]
 | .tuple cs,.tuple q,h=>by rw[df]at h;rw[Ea h]
 | .ptr r o,.ptr E e,h=>by rw[df,bR]at h;rw[auI h.1,nM h.2]
 | .elem v s i o,.elem g d C e,h=>by rw[df,bR,bR,bR]at h;rw[nM h.1.1.1,nM h.1.1.2,nM h.1.2,R8 h.2]
 | .yield l,.yield u,h=>by rw[df]at h;simp_all
 | .iface t x,.iface H y,h=>by rw[df,bR]at h;rw[nM h.1,R7 h.2]
 | .func (.func f) a b,.func (.func L) z p,h=>by rw[df,bR,bR]at h;rw[nM h.1.1,Ea h.1.2,Ea h.2]
 | .bad,y,h=>by simp[df]at h
def Ea:∀{x y:List I},gJ x y=aa->x=y
 | [],[],_=>rfl
 |x::d,y::e,h=>by rw[gJ,bR]at h;rw[R7 h.1,Ea h.2]
 | [],y::e,h=>by simp[gJ]at h
 |x::d,[],h=>by simp[gJ]at h
def R8:∀{x y:List (List I)},nB x y=aa->x=y
 | [],[],_=>rfl
 |x::d,y::e,h=>by rw[nB,bR]at h;rw[Ea h.1,R8 h.2]
 | [],y::e,h=>by simp[nB]at h
 |x::d,[],h=>by simp[nB]at h
end
section
variable {P:bO} {G:Nat->Option (List I)} {R:Rec}
def Qw{ρ ρ':b9->I}{ps:Array (Nat × b9)}(h:∀x∈ps.map (·.2),ρ x=ρ' x):(ps.toList.map λp=>(p.1,ρ p.2))=ps.toList.map λp=>(p.1,ρ' p.2):=
 wh λp d=>by grind
def Dq{ρ ρ':b9->I}{ps:Array b9}(h:∀x∈ps,ρ x=ρ' x):ps.toList.map ρ=ps.toList.map ρ':=
 wh λe d=>h e (Array.mem_toList_iff.1 d)
def aaL{ρ ρ':b9->I}{d:Op}(e:∀x∈d.operands,ρ x=ρ' x):dH P G ρ h d=dH P G ρ' h d:=by
 cases d<;>simp only[Op.operands] at e<;>simp only[dH]
 case build t ps=>rw[Qw (λx p=>e x (by simp_all))]
 case buildSlice t n ps=>rw[Qw (λx p=>e x (by simp_all))]
 case makeFunc fn first captured=>
  simp_all
 case slice t x q g s=>cases q<;>cases g<;>cases s<;>simp_all
 all_goals (first|rfl|(simp_all;done))
def Op.ZK{c:Call}{x}(h:x∈c.args):x∈c.operands:=by simp[Call.operands,h]
def Nv{c:Call}(d:∀x∈c.operands,e.eval x=e2.eval x):lI P R e h c=lI P R e2 h c:=by
 have p:c.args.toList.map e.eval=c.args.toList.map e2.eval:=Dq λx q=>d x (Op.ZK q);unfold lI;simp only[p];cases g:c.callee with|builtin b=>rfl|value f=>have s:e.eval f=e2.eval f:=d f (by simp[Call.operands,g]);simp_all|invoke r m=>have u:e.eval r=e2.eval r:=d r (by simp[Call.operands,g]);simp_all
def Env.with(e d:Env):Env:={e with defers:=d.defers,da:=d.da}
def ZT34{p:Prop}(h:p:=by
 split at d
 .simp only[eo,dw]at d;obtain⟨-,rfl,-⟩:=d;rfl
 grind):p:=h
def aah{g:Env}{r:dP}(d:ec P G R e h o=J (r,g,h')):g=e.with g:=by
 unfold ec at d;split at d
 .split at d
  .cases d
  .split at d
   .simp only[eo,dw]at d;obtain⟨-,rfl,-⟩:=d;rfl
   .simp only[eo,dw]at d;obtain⟨-,rfl,-⟩:=d;rfl
 .exact ZT34
 .simp only[dO,dw]at d;obtain⟨_,-,-,rfl,-⟩:=d;rfl
 .simp only[dO,dw]at d;obtain⟨_,-,-,rfl,-⟩:=d;rfl
 .split at d
  .cases d
  .exact ZT34
 .exact ZT34
 .simp only[dO,dw]at d;obtain⟨_,-,-,rfl,-⟩:=d;rfl
def aag{r:dP}(s:∀x∈o.op.operands,e.eval x=e2.eval x)(N:e2.defers=e.defers)(S:e2.da=e.da)(z:e2.round=e.round)
 (g:ec P G R e h o=J (r,E,h')):ec P G R e2 h o=J (r,e2.with E,h'):=by
 have T:e2.with e=e2:=by cases e2;cases e;simp_all [Env.with]
 unfold ec at g ⊢;split at g
 .rename_i d D p;simp only[z,S];split at g
  .cases g
  .rename_i u;rw[aL u];split at g
   .rename_i x Y;simp only[eo,dw]at g;obtain⟨rfl,rfl,rfl⟩:=g;simp[Env.with,<-N,<-z]
   simp_all
 .rename_i d D p;have v:d.toList.map e.eval=d.toList.map e2.eval:=Dq λx q=>s x (by rw[p];simp[Op.operands,Call.operands,q]);simp only[<-v];split at g<;>simp_all
 .rename_i b d D H L p;have v:d.toList.map e.eval=d.toList.map e2.eval:=Dq λx q=>s x (by rw[p];simp[Op.operands,Call.operands,q]);simp only[dO,dw]at g;grind
 .rename_i c H L X p;simp only[dO,dw]at g;obtain⟨Z,C,rfl,rfl,rfl⟩:=g;rw[Nv (e2:=e2) (λx q=>s x (by rw[p];exact q))]at C;simp_all
 .rename_i f d D p;have v:d.toList.map e.eval=d.toList.map e2.eval:=Dq λx q=>s x (by rw[p];simp[Op.operands,Call.operands,q]);have A:e.eval f=e2.eval f:=s f (by rw[p];simp[Op.operands,Call.operands]);simp only[z];split at g
  .cases g
  .rename_i u;rw[aL u];simp only[<-A,<-v];split at g
   .simp only[eo,dw]at g;obtain⟨rfl,rfl,rfl⟩:=g;simp only[Env.with,N,<-S,<-z]
   grind
 .rename_i x p;have A:e.eval x=e2.eval x:=s x (by rw[p];simp[Op.operands]);simp only[<-A];split at g<;>simp_all
 .simp only[dO,dw]at g;obtain⟨Z,C,rfl,rfl,rfl⟩:=g;rw[aaL (ρ':=e2.eval) s]at C;simp_all
def aqU{T:Env}{r:dP}(v:iR o.op=.pure)(q:ec P G R e h o=J (r,T,h')):
 T=e/\h'=h/\∀e2:Env,(∀x∈o.op.operands,e.eval x=e2.eval x)->∀g,ec P G R e2 g o=J (r,e2,g):=by
 cases p:o.op with
 |call c=>
  obtain⟨z,u,S⟩:=c;rw[p]at v;cases z with
  |value f=>simp[iR]at v|invoke r n=>simp[iR]at v|builtin b=>
   cases b<;>simp[iR]at v
   case len=>
    unfold ec at q ⊢;simp only[p]at q ⊢;simp only[dO,dw]at q;obtain⟨⟨x,C⟩,d,rfl,rfl,rfl⟩:=q;have X:∀(g:am) (l:List I),qV P G o.dst g .len S o.type l=iQ P g .len S o.type l:=λ_ _=>rfl;rw[X]at d;have s:C=h/\∀g:am,iQ P g .len S o.type (u.toList.map e.eval)=J (x,g):=by
     generalize u.toList.map e.eval=l at d ⊢;rcases l with _|⟨y,_|⟨z0,l⟩⟩
     .simp[iQ]at d
     .simp only[iQ]at d ⊢;split at d
      .rename_i t ht;simp only[dO,dw]at d
       grind
      grind
     .simp[iQ]at d
    obtain⟨rfl,s⟩:=s;refine⟨O,O,λe2 H g=>?_⟩;have ha:u.toList.map e.eval=u.toList.map e2.eval:=Dq λx A=>H x (by simp[Op.operands,Call.operands,A]);simp_all
 |buildSlice t n L=>
  rw[p]at v;have N:vk L=ar:=by
   cases Y:vk L with|false=>rfl|true=>simp[iR,Y]at v
  unfold ec at q ⊢;simp only[p]at q ⊢;simp only[dO,dw]at q;obtain⟨⟨x,C⟩,d,rfl,rfl,rfl⟩:=q;simp only[dH,N,dO,dw]at d;obtain⟨y,Z,rfl,rfl⟩:=d;refine⟨O,O,λe2 H g=>?_⟩;have A:=Qw (ρ:=e.eval) (ρ':=e2.eval) (ps:=L) (λx A=>H x (by simpa [Op.operands] using A));simp only[dH,N,<-A,Z,gq]
 |_=>
  rw[p]at v
  first
   |(simp[iR]at v;done)
   |(unfold ec at q ⊢
     simp only[p]at q ⊢;simp only[dO,dw]at q;obtain⟨⟨x,C⟩,d,rfl,rfl,rfl⟩:=q;have s:C=h/\∀g:am,dH P G e.eval g o.op=J (x,g):=by
      rw[p];simp only[dH]at d ⊢
      first
       |(simp only[eo,dw]at d;obtain⟨rfl,rfl⟩:=d;exact⟨O,λ_=>rfl⟩)
       |(simp only[dO,dw]at d;obtain⟨z0,hz,rfl,rfl⟩:=d;exact⟨O,λ_=>by simp_all⟩)
       |(split at d
         .simp_all
         .cases d)
       |(split at d
         .simp only[dO,dw]at d;grind
         .cases d)
       |(split at d
         .split at d
          .simp only[dO,dw]at d;grind
          grind
         .cases d)
     obtain⟨rfl,s⟩:=s;refine⟨O,O,λe2 H g=>?_⟩;rw[<-p,<-aaL (P:=P) (G:=G) (ρ:=e.eval) (h:=g) (by simp_all),s g];rfl)
def an4{p:Env}{r:dP}{a:b9}(q:o.op=.load t a)(g:ec P G R e h o=J (r,p,h')):
 ∃x,r=.ret x/\p=e/\h'=h/\aF P G h t (e.eval a)=J x/\∀e2:Env,e2.eval a=e.eval a->∀d,aF P G d t (e.eval a)=J x->ec P G R e2 d o=J (.ret x,e2,d):=by
 unfold ec at g ⊢;simp only[q,dH]at g ⊢;simp only[dO,dw]at g
 grind
def abg{e}(h:iR e=.reads):∃t a,e=.load t a:=by
 cases e with
 |load t a=>simp_all|buildSlice t n p=>
  exfalso;simp only[iR]at h
  grind
 |call c=>
  obtain⟨d,g,q⟩:=c;cases d with
  |builtin b=>cases b<;>simp[iR]at h
  |_=>simp[iR]at h
 |_=>simp[iR]at h
end
section
variable (P:bO) (G:Nat->Option (List I)) (R:Rec) (ops:Array Oper)
def h_(i:Nat)(e:Env)(h:am):Option (I × Env × am):=
 match ops[i]? with
 |none=>ao
 |some o=>
  match fC ops e o with
  |none=>ao
  |some ar=>J (.tuple [],e,h)
  |some aa=>
   match ec P G R e h o with
   |some (.ret x,e,h)=>J (x,e,h)
   |_=>ao
def iY(i:Nat):Option Tmp:=(ops[i]?).bind (·.dst)
def ph(i:Nat):Class:=((ops[i]?).map λo=>iR o.op).getD .pure
noncomputable def lK(e:Env)(h:am)(i:Nat):Class:=if lJ P G R ops e h i=aa then .reads else ph ops i
def dh(e:Env)(h:am)(k:Nat):Env × am:=
 match cg P G R ops (bE k) e h with
 |some (_,e,h)=>(e,h)
 |none=>(e,h)
def tP(e:Env)(h:am)(k:Nat):I × Env:=
 match h_ P G R ops k (dh P G R ops e h k).1 (dh P G R ops e h k).2 with
 |some (x,e,_)=>(x,e)
 |none=>(.bad,e)
def val(e:Env)(h:am)(d:Nat->Bool):Nat->Nat->I
 |0,t=>e.get t
 |k+1,t=>if d k=aa/\iY ops k=J t then (tP P G R ops e h k).1 else val e h d k t
def Alike(e e2:Env)(o:Oper):Prop:=∀t∈o.looksAt ops,e.get t=e2.get t
end
section
variable {P:bO} {G:Nat->Option (List I)} {R:Rec} {ops:Array Oper}
def oO{d:Env}:
 cg P G R ops (i::rest) e h=J (.normal,d,h')↔∃x g p,h_ P G R ops i e h=J (x,g,p)/\cg P G R ops rest (g.put (iY ops i) x) p=J (.normal,d,h'):=by
 simp only[cg,h_,iY];cases q:ops[i]? with
 |none=>simp|some o=>
  grind
def Dw{s D:List Nat}:∀{e p:Env} {h h':am},
 cg P G R ops (s++D) e h=J (.normal,p,h')↔∃d g,cg P G R ops s e h=J (.normal,d,g)/\cg P G R ops D d g=J (.normal,p,h'):=by
 induction s with
 |nil=>
  intro e p h h';simp only[fE,cg,eo,dw,true_and]
  grind
 |cons i l E=>
  intro e p h h';rw[fw,oO];constructor
  .rintro⟨x,d,g,C,A⟩;obtain⟨u,v,q,z⟩:=E.1 A;exact⟨u,v,oO.2 ⟨x,d,g,C,q⟩,z⟩
  .rintro⟨u,v,q,z⟩;obtain⟨x,d,g,C,A⟩:=oO.1 q
   grind
def trace{d:Env}:∀{n:Nat},cg P G R ops (bE n) e h=J (.normal,d,h')->
 (d,h')=dh P G R ops e h n/\(∀k,k<=n->cg P G R ops (bE k) e h=J (.normal,(dh P G R ops e h k).1,(dh P G R ops e h k).2))/\
 ∀k,k<n->h_ P G R ops k (dh P G R ops e h k).1 (dh P G R ops e h k).2=J ((tP P G R ops e h k).1,(tP P G R ops e h k).2,(dh P G R ops e h (k+1)).2)/\
  (dh P G R ops e h (k+1)).1=(tP P G R ops e h k).2.put (iY ops k) (tP P G R ops e h k).1:=by
 intro n
 induction n generalizing d h' with
 |zero=>
  intro g;have s:(d,h')=dh P G R ops e h 0:=by unfold dh;rw[g]
  simp_all
 |succ n N=>
  intro g;have s:(d,h')=dh P G R ops e h (n+1):=by unfold dh;rw[g]
  have p:=g;rw[jH,Dw]at p;obtain⟨T,X,C,D⟩:=p;obtain⟨L,Z,i3⟩:=N C;obtain⟨x,q,A,H,E⟩:=oO.1 D;simp only[cg,eo,dw,true_and]at E;refine⟨s,λk v=>?_,λk v=>?_⟩
  .grind
  .rcases dR k n with S|u
   .simp_all
   .have:k=n:=Nat.le_antisymm (Nat.lt_succ_iff.1 v) u;subst this;have z:h_ P G R ops k (dh P G R ops e h k).1 (dh P G R ops e h k).2=J (x,q,A):=(by rw[<-L];exact H);have Y:tP P G R ops e h k=(x,q):=by unfold tP;rw[z]
    grind
def EQ(h:Alike ops e e2 o):∀x∈o.op.operands,e.eval x=e2.eval x:=by
 intro x d;cases x with|tmp t=>refine h t ?_;unfold Oper.looksAt;exact List.mem_append_left _ (List.mem_filterMap.2 ⟨.tmp t,by simp_all,O⟩)|_=>rfl
def xV(h:Alike ops e e2 o):fC ops e o=fC ops e2 o:=by
 unfold fC;cases s:o.guard with
 |none=>rfl|some g=>
  obtain⟨j,p⟩:=g;simp only;cases q:(ops[j]?).bind (·.dst) with|none=>rfl|some d=>have:e.get d=e2.get d:=h d (by unfold Oper.looksAt;simp_all);simp_all
def Rn(e:Env)(d)(x)(t):(e.put d x).get t=if d=J t then x else e.get t:=by
 cases d with|none=>simp[Env.put]|some d=>simp only[Env.put,Env.get,Dp,eo]
def uz(e:Env)(d)(x):(e.put d x).defers=e.defers/\(e.put d x).da=e.da/\(e.put d x).round=e.round:=by cases d<;>exact⟨O,O,O⟩
def So{p:Env}{u:am}(d:h_ P G R ops k e h=J (x,p,u)):
 p=e.with p/\((∀o,ops[k]?=J o->Alike ops e e2 o)->e2.defers=e.defers->e2.da=e.da->e2.round=e.round->h_ P G R ops k e2 h=J (x,e2.with p,u)):=by
 unfold h_ at d ⊢;cases C:ops[k]? with
 |none=>simp_all|some o=>
  rw[C]at d;simp only at d ⊢;cases s:fC ops e o with
  |none=>simp_all|some b=>
   rw[s]at d;cases b with
   |false=>simp only[eo,dw]at d;obtain⟨rfl,rfl,rfl⟩:=d;refine⟨O,λg v z A=>?_⟩;rw[<-xV (g o O),s];have:e2.with e=e2:=(by cases e2;cases e;simp_all [Env.with]);simp_all
   |true=>
    simp only at d;split at d
    .rename_i H D E q;simp only[eo,dw]at d;obtain⟨rfl,rfl,rfl⟩:=d;refine⟨aah q,λg v z A=>?_⟩;rw[<-xV (g o O),s];simp only[aag (EQ (g o O)) v z A q]
    grind
def Sp{v:Env}(s:ph ops k=.pure)(d:h_ P G R ops k e h=J (x,v,z)):
 v=e/\z=h/\∀e2 p,(∀o,ops[k]?=J o->Alike ops e e2 o)->h_ P G R ops k e2 p=J (x,e2,p):=by
 unfold h_ at d ⊢;cases A:ops[k]? with
 |none=>simp_all|some o=>
  rw[A]at d;simp only at d ⊢;have s:iR o.op=.pure:=by simpa [ph,A] using s
  cases u:fC ops e o with
  |none=>simp_all|some b=>
   rw[u]at d;cases b with
   |false=>simp only[eo,dw]at d;obtain⟨rfl,rfl,rfl⟩:=d;refine⟨O,O,λe2 p g=>?_⟩;rw[<-xV (g o O),u]
   |true=>
    simp only at d;split at d
    .rename_i H D E C;simp only[eo,dw]at d;obtain⟨rfl,rfl,rfl⟩:=d;obtain⟨rfl,rfl,q⟩:=aqU s C;refine⟨O,O,λe2 p g=>?_⟩;rw[<-xV (g o O),u];simp only[q e2 (EQ (g o O)) p]
    grind
def Reads(P:bO)(G:Nat->Option (List I))(R:Rec)(ops:Array Oper)(k:Nat)(e:Env)(x:I)(d:am):Prop:=
 ∀o,ops[k]?=J o->fC ops e o=J aa->(∀t a,o.op=.load t a->aF P G d t (e.eval a)=J x)/\(ya o.op=aa->ec P G R e d o=J (.ret x,e,d))
def acf{z:Env}{A:am}(s:ph ops k=.reads)(d:h_ P G R ops k e h=J (x,z,A)):
 z=e/\A=h/\Reads P G R ops k e x h/\∀e2 p,(∀o,ops[k]?=J o->Alike ops e e2 o)->Reads P G R ops k e x p->h_ P G R ops k e2 p=J (x,e2,p):=by
 unfold h_ at d ⊢;unfold Reads;cases C:ops[k]? with
 |none=>simp_all|some o=>
  rw[C]at d;simp only at d ⊢;have s:iR o.op=.reads:=by simpa [ph,C] using s
  obtain⟨t,a,q⟩:=abg s;cases u:fC ops e o with
  |none=>simp_all|some b=>
   rw[u]at d;cases b with
   |false=>
    simp only[eo,dw]at d;obtain⟨rfl,rfl,rfl⟩:=d;refine⟨O,O,λT D hwo=>?_,λe2 p g _=>?_⟩
    .simp_all
    .rw[<-xV (g o O),u]
   |true=>
    simp only at d;split at d
    .rename_i x' L h' H;simp only[eo,dw]at d;obtain⟨rfl,rfl,rfl⟩:=d;obtain⟨y,v,rfl,rfl,hl,N⟩:=an4 q H;injection v with v;subst v;refine⟨O,O,λT D _=>⟨λt' a' S=>?_,λY=>?_⟩,λe2 p g Z=>?_⟩
     .simp_all
     .simp_all
     .rw[<-xV (g o O),u];have X:e2.eval a=L.eval a:=(EQ (g o O) a (by rw[q];simp[Op.operands])).symm;simp_all
    grind
def agL{p:am}{c:Call}(u:o.op=.call c)(d:lI P R e h c=J (.ret x,p)):ec P G R e h o=J (.ret x,e,p):=by
 have q:∀b,c.callee≠ .builtin b:=by intro b q;unfold lI at d;rw[q]at d;cases d
 obtain⟨g,s,v⟩:=c;unfold ec;simp_all
def agW(u:ya o.op=aa)(A:∀z∈o.op.operands,e.eval z=e2.eval z)(q:ec P G R e h o=J (.ret x,e,h)):ec P G R e2 h o=J (.ret x,e2,h):=by
 unfold ya at u;split at u
 .grind
 .grind
 .rename_i c H L d;have s:∀z∈c.operands,e.eval z=e2.eval z:=λz v=>A z (by rw[d];exact v);obtain⟨p,g,N⟩:=c;have C:g.toList.map e.eval=g.toList.map e2.eval:=Dq λx v=>s x (Op.ZK v);unfold ec at q ⊢;cases p with
  |builtin b=>cases b<;>simp_all
  |value f=>simp only[d]at q ⊢;rw[<-Nv (e:=e) (e2:=e2) s];simp_all|invoke r n=>simp only[d]at q ⊢;rw[<-Nv (e:=e) (e2:=e2) s];simp_all
 .rename_i T S y d;have D:e.eval y=e2.eval y:=A y (by rw[d];simp[Op.operands]);unfold ec at q ⊢;simp only[d,dH]at q ⊢;simp_all
 simp_all
def acd{v:Env}(u:ops[k]?=J o)(s:ya o.op=aa)(D:ec P G R e h o=J (.ret y,e,h))(d:h_ P G R ops k e h=J (x,v,z)):
 v=e/\z=h/\(fC ops e o=J aa->x=y)/\∀e2 p,(∀o,ops[k]?=J o->Alike ops e e2 o)->Reads P G R ops k e x p->h_ P G R ops k e2 p=J (x,e2,p):=by
 unfold h_ at d ⊢;rw[u]at d;simp only[u]at d ⊢;cases q:fC ops e o with
 |none=>simp_all|some b=>
  rw[q]at d;cases b with
  |false=>simp only[eo,dw]at d;obtain⟨rfl,rfl,rfl⟩:=d;refine⟨O,O,(λL=>nomatch L),λe2 p g _=>?_⟩;rw[<-xV (g o O),q]
  |true=>simp only[D]at d;simp only[eo,dw]at d;obtain⟨rfl,rfl,rfl⟩:=d;refine⟨O,O,λ_=>rfl,λe2 p g A=>?_⟩;rw[<-xV (g o O),q];have C:=(A o u q).2 s;have H:=agW (e2:=e2) s (λN E=>EQ (g o O) N E) C;simp_all
end
end Go.AE
end
