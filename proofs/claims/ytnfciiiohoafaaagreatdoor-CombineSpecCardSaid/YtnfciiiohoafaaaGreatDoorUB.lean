/-
  The engine, part 13b: a region that draws, and is ended by a panic of its last operation.
-/
import Derived.Test.YtnfciiiohoafaaaGreatDoorUA
import Derived.Laws.BitsLemmas
import Derived.ChangeArms
import Derived.OpenShut
import Derived.Carry
import Derived.ProofKit
import Derived.ChangeSame
open Bool renaming false->az,true->ah,and_eq_true->bC,not_true->Js,or_eq_true->vD,false_eq_true->jO,true_or->acA,or_true->Tf,not_false->zS,eq_iff_iff->F1,true_and->ry,false_and->yn
open Nat renaming strongRecOn->TN,lt_trans->qa,eq_of_beq_eq_true->jW,le_of_lt->nJ,lt_or_ge->dW,le_antisymm->BD,lt_of_lt_of_le->ni,lt_succ_iff->BE,le_max_left->Gz,le_max_right->DX,lt_succ_of_lt->wT,le_refl->aJ,beq->jQ,zero_le->cA,add_mul->gJ,le_trans->fw,le_succ->GA
open Array renaming getElem?_eq_getElem->mK,all_eq_true'->MV,getElem?_toList->DA,mem_push->acp,all_eq_true->FY,replicate->DB,getD_eq_getD_getElem?->acj,size->acr,getElem_toList->acn,getElem?_eq_none->yl
open Option renaming some->aa,some.injEq->dP,map_some->ff,bind_some->oq,none->au,map_eq_some_iff->dx,map_none->NM,isSome_none->BJ
open List renaming cons.injEq->Tv,getElem?_toArray->jy,all_eq_true->ey,mem_range->fQ,mem_cons->iu,getElem?_set->mL,range->bM,mem_cons_self->fW,mem_cons_of_mem->fE,mem_append_left->TC,mem_append->wR,any_eq_true->Gh,getElem?_eq_some_iff->aS,getElem?_eq_getElem->aR,mapM_cons->adb,getElem?_eq_none->uI,range'->adh,range'_succ->adi,drop_eq_getElem_cons->Bu,drop_zero->iO,range_eq_range'->Ns,mem_append_right->adg,take_length->fC,toArray->Nv,getElem?_set_ne->JF
open Prod renaming mk.injEq->dn
open And renaming intro->aw
set_option linter.unusedSimpArgs false
set_option linter.unusedVariables false
set_option linter.constructorNameAsVariable false
set_option linter.defProp false
section
namespace Go.AE
section
variable {P:Program} {G:Nat->Option (List AV)} {R:Rec} {ops:Array Oper} {e:Env} {h:aq}
def pH.trans{a b c}(h:pH a b)(k:pH b c):pH a c:=⟨λt=>(h.iH t).trans (k.iH t),h.defers.trans k.defers,h.cV.trans k.cV,h.round.trans k.round⟩
def pH.symm{a b}(h:pH a b):pH b a:=⟨λt=>(h.iH t).symm,h.defers.symm,h.cV.symm,h.round.symm⟩
def pH.refl(a):pH a a:=⟨λ_=>rfl,rfl,rfl,rfl⟩
def pH.eval{a b}(h:pH a b)(x):a.eval x=b.eval x:=by
 cases x with|tmp t=>exact h.iH t|_=>rfl
def pH.wanted{a b:Env}(h:pH a b)(o:Oper):fD ops a o=fD ops b o:=by
 unfold fD;cases o.guard with
 |none=>rfl|some q=>
  simp only;cases (ops[q.1]?).bind (·.dst) with|none=>rfl|some d=>simp only[h.iH d]
variable {b:Array Nat}
end
end Go.AE
end
section
namespace Go.AE
section
variable {P:Program} {G:Nat->Option (List AV)} {R:Rec} {ops:Array Oper} {e:Env} {h:aq} {k:Nat}
inductive awb (ops:Array Oper) (k i:Nat):Prop
 |self (h:i=k)
 |ahead (h1:EX ops k i=az) (h2:Wv ops k i=ah) (h3:i<k) (h4:Ord (Region.before (cut ops k)) i k)
 |beside (h1:EX ops k i=az) (h2:Wv ops k i=ah) (h3:agq ops i=ah) (h4:qh ops i k=ah)
 |behind (h1:k<i) (h2:EX ops k i=ah) (h3:Ord (Region.before (cut ops k)) k i)
def Fits.lt{b:Array Nat}(F:Fits P G R ops e h b):∀(j i:Nat),j<ops.size->i<ops.size->Ord b i j->i<j:=by
 intro j
 induction j using TN with
 |_ j ih=>
  intro i hj hi ho;have hx:ops[j]?=aa ops[j]:=mK hj;obtain⟨ed,gi,nQ,hq⟩:=F.bits j i _ hx hi ho;have aA:=F.Kf j _ hx ed gi nQ;rcases hq with q|q
  ·omega
  ·have:=ih ed.on aA i (qa aA hj) hi q;omega
structure awa(ops:Array Oper)(k:Nat)(a b:Env):Prop where
 iH:∀t,(∀i,i<ops.size->aia ops k i≠aa t)->a.get t=b.get t
 defers:a.defers=b.defers
 cV:a.cV=b.cV
 round:a.round=b.round
end
end Go.AE
end
section
namespace Go.AE
open Go.RowKit (Below)
section
variable {P:Program} {G:Nat->Option (List AV)} {w0:World} {R:Rec}
def Steps.tail{m m1 m2:Machine}(h:step P m=.next m1)(hs:Steps P m m2)(bG:m≠m2):Steps P m1 m2:=by
 obtain⟨n,hn⟩:=hs;cases n with|zero=>simp[runN] at hn;exact absurd hn bG|succ n=>simp only[runN,h] at hn;exact⟨n,hn⟩
def Lk{fr fr'}{cs dR}{w w'}(h:lone fr cs w=lone fr' dR w'):fr=fr':=by unfold lone at h;simp only[Machine.mk.injEq,Array.mk.injEq,Tv,Goroutine.mk.injEq] at h;exact h.2.1.1.1
def oI.swap{K:aW}{m m1 m':Machine}{B:Frame}{k:List Item}{c:Code}{cs cs0:List Frame}{x:Xt}{a a0:Act}{w wz:World}(hc:∀id,c≠ .exit id)(Co:c≠ .ret)(hm:m=lone (B.atR a0 (.code c::k)) cs0 wz)
 (h1:step P m=.next m1) (h2:step P m'=.next m1) (h:oI P K m B k cs x a w):oI P K m' B k cs x a w:=by
 refine oI.of_steps (.one h2) ?_;cases x with
 |normal=>refine Steps.tail h1 h ?_;rw[hm];intro hq;have:=congrArg Frame.todo (Lk hq);simp only[Frame.atR] at this;exact absurd (congrArg List.length this) bE|exit id=>obtain⟨t,e1,e2⟩:=h;refine⟨t,e1,Steps.tail h1 e2 ?_⟩;rw[hm];intro hq;have:=congrArg Frame.todo (Lk hq);simp only[Frame.atR,Tv,Item.code.injEq] at this;exact hc id this.1
 |ret=>obtain⟨t,e2⟩:=h;refine⟨t,Steps.tail h1 e2 ?_⟩;rw[hm];intro hq;have:=congrArg Frame.todo (Lk hq);simp only[Frame.atR,Tv,Item.code.injEq] at this;exact Co this.1
 |panic x=>obtain⟨t,v,e1,e2⟩:=h;refine⟨t,v,e1,Steps.tail h1 e2 ?_⟩;rw[hm];intro hq;have:=congrArg Frame.mode (Lk hq);simp[Frame.atR] at this
def Left.refl{K:aW}{w:World}{a:Act}{B:Frame}{ms:List Nat}{base cs:List Frame}{k:List Item}{m:Machine}{out:Xt}{e:Env}{h:aq}(hf:oh P K e a B ms)(cq:CS K B.kind base e.cV cs)(hs:lM P G w0 K h w)(ha:oI P K m B k cs out a w):
 Left P G w0 K ms B base m k a.tmps.size out e h K w a cs ms:=
 ⟨.refl K,hs,hf,cq,rfl,λ_ hr=>.inl hr,ha⟩
def Left.of_steps{K K':aW}{w':World}{a':Act}{B:Frame}{ms ms':List Nat}{base dR:List Frame}{k:List Item}{m m1:Machine}{out:Xt}{e':Env}{h':aq}{n:Nat}(hs:Steps P m m1)(L:Left P G w0 K ms B base m1 k n out e' h' K' w' a' dR ms'):
 Left P G w0 K ms B base m k n out e' h' K' w' a' dR ms':=
 ⟨L.le,L.rq,L.frame,L.cs,L.size,L.marks,L.arr.of_steps hs⟩
def Rj(hn:D3 P)(hR:wW P G w0 R){ops:Array Oper}:∀(l:List Nat) (e:Env) (h:aq) (out:Xt) (e':Env) (h':aq),di P G R ops l e h=aa (out,e',h')->
 ∀(K:aW) (w:World) (a:Act) (B:Frame) (k:List Item) (base cs:List Frame) (ms:List Nat),oh P K e a B ms->CS K B.kind base e.cV cs->lM P G w0 K h w->Ft a.tmps.size ops=ah->
 ∃K' w' a' dR,Left P G w0 K ms B base (lone (B.atR a (.inRegion ops l::k)) cs w) k a.tmps.size out e' h' K' w' a' dR ms:=by
 intro l
 induction l with
 |nil=>intro e h out e' h' he K w a B k base cs ms hf cq hs CK;simp only[di,dP,dn] at he;obtain⟨rfl,rfl,rfl⟩:=he;exact⟨K,w,a,cs,.refl hf cq hs (.one stepR_region_end)⟩
 |cons i rest ih=>
  intro e h out e' h' he K w a B k base cs ms hf cq hs CK;simp only[di] at he;cases ho:ops[i]? with
  |none=>rw[ho] at he;cases he
  |some o=>
   rw[ho] at he;simp only at he;have Xs:=ZN CK ho;cases hw:fD ops e o with
   |none=>rw[hw] at he;cases he
   |some b=>
    rw[hw] at he;have YC:=avw hf.iH CK hw;cases b with
    |false=>simp only at he;have jc:=stepR_op_skip (P:=P) (b:=B) (a:=a) (k:=k) (cs:=cs) (w:=w) (ops:=ops) (i:=i) (rest:=rest) (by rw[ho];simpa using YC);have hb:(ops[i]?).bind (·.dst)=o.dst:=(by rw[ho];rfl);rw[hb] at jc;obtain⟨K',w',a',dR,L⟩:=ih _ _ _ _ _ he K w (a.put o.dst undef) B k base cs ms (hf.put Xs (.tuple [] #[] .nil)) (by cases o.dst<;>exact cq) hs (by rw[LG];exact CK);rw[LG] at L;exact⟨K',w',a',dR,.of_steps (.one jc) L⟩
    |true=>
     simp only at he;cases bL:eo P G R e h o with
     |none=>rw[bL] at he;cases he
     |some q=>
      obtain⟨r,e1,h1⟩:=q;rw[bL] at he;obtain⟨K1,w1,a1,cs1,le1,s1,f1,c1,z1,ij⟩:=anq (i:=i) (rest:=rest) hn hR bL hf cq hs ho YC k;cases r with
      |ret x=>obtain⟨v,hx,bT⟩:=ij;simp only at he;obtain⟨K',w',a',dR,L⟩:=ih _ _ _ _ _ he K1 w1 (a1.put o.dst v) B k base cs1 ms (f1.put (by rw[z1];exact Xs) hx) (by cases o.dst<;>exact c1) s1 (by rw[LG,z1];exact CK);rw[LG,z1] at L;refine⟨K',w',a',dR,le1.trans L.le,L.rq,L.frame,L.cs,L.size,λr hr=>.inl hr,L.arr.of_steps bT⟩
      |panic x=>obtain⟨v,todo,hx,bT⟩:=ij;simp only[dP,dn] at he;obtain⟨rfl,rfl,rfl⟩:=he;exact⟨K1,w1,a1,cs1,le1,s1,f1,c1,z1,λr hr=>.inl hr,todo,v,hx,bT⟩
def oh.same{K:aW}{e e2:Env}{a:Act}{B:Frame}{ms:List Nat}(hf:oh P K e a B ms)(hs:pH e e2):oh P K e2 a B ms:=by
 refine⟨λt=>?_,hs.defers ▸ hf.defers,?_,hf.fn⟩
 ·have:=hs.iH t;unfold Env.get at this;rw[<-this];exact hf.iH t
 ·have:=hf.round;rw[hs.round,hs.defers] at this;exact this
def amI{n:Nat}{ps:Array Tmp}(h:(ps.all λp=>decide (p<n))=ah):∀p∈ps.toList,p<n:=by intro p hp;rw[MV] at h;simpa using h p (Array.mem_toList_iff.1 hp)
end
end Go.AE
end
section
namespace Go.AE
section
variable {P:Program} {G:Nat->Option (List AV)} {R:Rec} {ops:Array Oper} {i:Nat}
end
end Go.AE
end
section
namespace Go.AE
section
variable {K:aW} {G:Nat->Option (List AV)} {ok:FuncId->Nat->Code->Bool} {w0 w:World} {h:aq}
end
end Go.AE
end
section
namespace Go.AE
open Go.RowKit (Below)
section
variable {P:Program} {G:Nat->Option (List AV)} {w0:World} {R:Rec}
structure Tg(d:Tmp)(e eh:Env):Prop where
 iH:∀t,t≠d->e.get t=eh.get t
 defers:e.defers=eh.defers
 cV:e.cV=eh.cV
 round:e.round=eh.round
def Tg.eval{d}{e eh}(b:Tg d e eh){x}(hx:x≠ .tmp d):e.eval x=eh.eval x:=by
 cases x with|tmp t=>exact b.iH t λq=>hx (by rw[q])|_=>rfl
end
end Go.AE
end
section
namespace Go.AE
section
variable {ops:Array Oper} {i:Nat}
def ready_mono{S S':Nat->Bool}{k:Nat}(hr:pG ops S k)(h:∀j,S j=ah->S' j=ah):pG ops S' k:=λo ho ed gi hb=>h _ (hr o ho ed gi hb)
def Rg(S)(a b):dY (dY S a) b=dY (dY S b) a:=by funext j;unfold dY;by_cases h1:j=a<;>by_cases h2:j=b<;>simp[h1,h2]
structure awc(ops:Array Oper)(i:Nat)(d2:Tmp):Prop where
 lt:i+1<ops.size
 no:Kg ops i (i+1)=az
 all:∀k,k<ops.size->k≠i->k≠i+1->Kg ops (i+1) k=ah∨Kg ops k i=ah∨(amn ops d2 k=ah/\Kg ops k (i+1)=az)
variable {d2:Tmp}
variable {P:Program} {G:Nat->Option (List AV)} {w0:World} {R:Rec}
end
end Go.AE
end
section
namespace Go.AE
section
variable {ops:Array Oper} {i j:Nat} {P:Program} {G:Nat->Option (List AV)} {R:Rec}
def sW:(gP ops i j).size=ops.size:=by simp[gP]
def En(k:Nat):(gP ops i j)[k]?=(ops[k]?).map λo=>if k=j then {o with after:=o.after.push {on:=i,ground:=.data}} else o:=by unfold gP;simp only[jy,List.getElem?_mapIdx,DA]
def VO(k:Nat):((gP ops i j)[k]?).bind (·.dst)=(ops[k]?).bind (·.dst):=by
 rw[En];cases ops[k]? with|none=>rfl|some o=>simp only[ff,oq];split<;>rfl
def avv(e:Env)(o:Oper):fD (gP ops i j) e o=fD ops e o:=by
 unfold fD;cases o.guard with|none=>rfl|some g=>simp only[VO]
def Dc:∀(L:List Nat) (e:Env) (h:aq),di P G R (gP ops i j) L e h=di P G R ops L e h:=by
 intro L
 induction L with
 |nil=>intro e h;rfl|cons k L ih=>
  intro e h;unfold di;rw[En];cases ho:ops[k]? with
  |none=>rfl|some o=>
   simp only[ff];have e1:∀o':Oper,o'.op=o.op->o'.type=o.type->o'.guard=o.guard->o'.dst=o.dst->(fD (gP ops i j) e o'=fD ops e o/\eo P G R e h o'=eo P G R e h o):=(by intro o' q1 q2 q3 q4;refine⟨by rw[avv];unfold fD;rw[q3],?_⟩;unfold eo;rw[q1,q2,q4]);by_cases hk:k=j
   ·rw[aG hk];obtain⟨q1,q2⟩:=e1 {o with after:=o.after.push {on:=i,ground:=.data}} rfl rfl rfl rfl;rw[q1,q2];simp only[ih]
   ·rw[aI hk];obtain⟨q1,q2⟩:=e1 o rfl rfl rfl rfl;rw[q1];simp only[ih]
def zE{S:Nat->Bool}{k:Nat}(hr:pG ops S k)(hk:k=j->S i=ah):pG (gP ops i j) S k:=by
 intro o ho ed gi hb;rw[En] at ho;cases hq:ops[k]? with
 |none=>rw[hq] at ho;cases ho
 |some o0=>
  rw[hq] at ho;simp only[ff,dP] at ho;split at ho
  ·rename_i Cz;subst ho;rcases acp.1 gi with q|q
   ·exact hr o0 hq ed q hb
   ·subst q;exact hk Cz
  ·subst ho;exact hr o0 hq ed gi hb
def amm:∀(L:List Nat) (S:Nat->Bool),S i=ah->oK ops S L->oK (gP ops i j) S L:=by
 intro L
 induction L with
 |nil=>intro S _ h k hk;exact h k (by rw[sW] at hk;exact hk)
 |cons k L ih=>
  intro S hS h;obtain⟨h1,h2,h3,h4⟩:=h;refine⟨by rw[sW];exact h1,h2,zE h3 λ_=>hS,ih _ ?_ h4⟩;unfold dY;split
  ·rfl
  ·exact hS
def ae5(h:zQ (gP ops i j)):zQ ops:=by
 intro k o ho ed gi hb;have hg:(gP ops i j)[k]?=aa (if k=j then {o with after:=o.after.push {on:=i,ground:=.data}} else o):=by rw[En,ho];rfl
 refine h k _ hg ed ?_ hb;split
 ·exact acp.2 (.inl gi)
 ·exact gi
def DM(ops:Array Oper)(S:Nat->Bool):Prop:=∀(k:Nat) (o:Oper),ops[k]?=aa o->S k=ah->∀ed∈o.after,Region.binds .any ed=ah->S ed.on=ah
def DM.one{S:Nat->Bool}{k:Nat}(c:DM ops S)(hr:pG ops S k):DM ops (dY S k):=by
 intro m o ho hS ed gi hb;unfold dY at hS ⊢;split
 ·rfl
 ·split at hS
  ·rename_i q;subst q;exact hr o ho ed gi hb
  ·exact c m o ho hS ed gi hb
def afi{S:Nat->Bool}(hB:BO ops (Region.before ops)=ah)(c:DM ops S){k:Nat}:∀(m:Nat),m<ops.size->pG ops S m->((Region.before ops).getD m 0).testBit k=ah->k<ops.size->S k=ah:=by
 intro m
 induction m using TN with
 |_ m ih=>
  intro hm hr hb hk;unfold BO at hB;rw[ey] at hB;have:=hB m (fQ.2 hm);have ho:ops[m]?=aa ops[m]:=mK hm;rw[ho] at this;simp only[bC,ey,MV] at this;obtain⟨h1,h2⟩:=this;have h3:=h2 k (fQ.2 hk);rw[hb] at h3;simp only[Js,Bool.false_or,Array.any_eq_true',bC,vD] at h3;obtain⟨ed,gi,nQ,hq⟩:=h3;have hs:=hr _ ho ed gi nQ;rcases hq with hq|hq
  ·rw[<-jW hq];exact hs
  ·have aA:ed.on<m:=(by have:=h1 ed gi;rw[nQ] at this;simpa using this);exact ih ed.on aA ag (λo iT ed' akm iB=>c _ o iT hs ed' akm iB) hq hk
def apv{n:Nat}(hB:zQ ops)(hn:n+1=ops.size):∀(L:List Nat) (S:Nat->Bool),S n=az->S i=ah->pG ops S n->oK ops (dY S n) L->oK (gP ops i n) S (L++[n]):=by
 intro L
 induction L with
 |nil=>intro S hS hi hr h;refine⟨by rw[sW];omega,hS,zE hr λ_=>hi,λk hk=>?_⟩;exact h k (by rw[sW] at hk;exact hk)
 |cons k L ih=>
  intro S hS hi hr h;obtain⟨h1,h2,h3,h4⟩:=h;unfold dY at h2;split at h2
  ·cases h2
  ·rename_i tf;have jD:pG ops S k:=by
    intro o ho ed gi hb;have:=h3 o ho ed gi hb;unfold dY at this;split at this
    ·rename_i q;have:=hB k o ho ed gi hb;omega
    ·exact this
   refine⟨by rw[sW];exact h1,h2,zE jD (λq=>absurd q tf),ih (dY S k) ?_ ?_ ?_ ?_⟩
   ·unfold dY;rw[aI (Ne.symm tf)];exact hS
   ·unfold dY;split;rfl;exact hi
   ·exact ready_mono hr λj hj=>by unfold dY;split;rfl;exact hj
   ·rw[Rg];exact h4
def apw{n:Nat}(hB:zQ ops)(hn:n+1=ops.size)(iD:i<n):∀(L:List Nat) (S:Nat->Bool),S n=az->S i=az->pG ops S n->oK ops (dY S n) L->
 ∃M1 M2,L=M1++i::M2/\(∀k∈M1,k<ops.size/\k≠i/\k≠n/\S k=az)/\(∀k∈M2,k<ops.size/\k≠i/\k≠n/\S k=az)/\oK (gP ops i n) S (M1++i::(M2++[n])):=by
 intro L
 induction L with
 |nil=>intro S hS hi hr h;have:=h i ag;unfold dY at this;rw[aI ag,hi] at this;cases this
 |cons k L ih=>
  intro S hS hi hr h;obtain⟨h1,h2,h3,h4⟩:=h;unfold dY at h2;split at h2
  ·cases h2
  ·rename_i tf;have jD:pG ops S k:=by
    intro o ho ed gi hb;have:=h3 o ho ed gi hb;unfold dY at this;split at this
    ·rename_i q;have:=hB k o ho ed gi hb;omega
    ·exact this
   have EO:pG ops (dY S k) n:=ready_mono hr λj hj=>(by unfold dY;split;rfl;exact hj);by_cases EH:k=i
   ·subst EH;have mem2:∀(L:List Nat) (S:Nat->Bool),oK ops S L->∀m∈L,m<ops.size/\S m=az:=by
     intro L
     induction L with
     |nil=>intro S _ m hm;cases hm
     |cons a L ih2=>
      intro S hL m hm;obtain⟨q1,q2,q3,q4⟩:=hL;rcases iu.1 hm with rfl|hm
      ·exact⟨q1,q2⟩
      ·obtain⟨p1,p2⟩:=ih2 _ q4 m hm;unfold dY at p2;split at p2
       ·cases p2
       ·exact⟨p1,p2⟩
    refine⟨[],L,rfl,λm hm=>(nomatch hm),λm hm=>?_,?_⟩
    ·obtain⟨p1,p2⟩:=mem2 L _ h4 m hm;unfold dY at p2;split at p2
     ·cases p2
     ·rename_i q1;split at p2
      ·cases p2
      ·rename_i q2;exact⟨p1,q1,q2,p2⟩
    ·refine⟨by rw[sW];exact h1,hi,zE jD (λq=>absurd q tf),?_⟩;refine apv hB hn L _ ?_ ?_ EO ?_
     ·unfold dY;rw[aI (Ne.symm tf)];exact hS
     ·unfold dY;rw[aG rfl]
     ·rw[Rg];exact h4
   ·rw[Rg] at h4;obtain⟨M1,M2,e1,e2,e3,e4⟩:=ih (dY S k) (by unfold dY;rw[aI (Ne.symm tf)];exact hS) (by unfold dY;rw[aI (Ne.symm EH)];exact hi) EO h4;have uE:∀m,dY S k m=az->S m=az:=λm q=>by
     unfold dY at q;split at q
     ·cases q
     ·exact q
    refine⟨k::M1,M2,by rw[e1];rfl,λm hm=>?_,λm hm=>?_,by rw[sW];exact h1,h2,zE jD (λq=>absurd q tf),e4⟩
    ·rcases iu.1 hm with rfl|hm
     ·exact⟨h1,EH,tf,h2⟩
     ·obtain⟨p1,p2,p3,p4⟩:=e2 m hm;exact⟨p1,p2,p3,uE m p4⟩
    ·obtain⟨p1,p2,p3,p4⟩:=e3 m hm;exact⟨p1,p2,p3,uE m p4⟩
def anM{n:Nat}(hB:zQ ops)(hn:n+1=ops.size)(iD:i<n):∀(L:List Nat) (S:Nat->Bool),S n=az->S i=az->DM ops S->oK ops S L->
 oK (gP ops i n) S L∨∃pre M1 M2 S',L=pre++(n::(M1++i::M2))/\S' i=az/\pG ops S' n/\DM ops S'/\(∀k∈M1,k<ops.size/\k≠i/\k≠n/\S' k=az)/\(∀k∈M2,k<ops.size/\k≠i/\k≠n/\S' k=az)/\oK (gP ops i n) S (pre++(M1++i::(M2++[n]))):=by
 intro L
 induction L with
 |nil=>intro S h1 h2 _ h;have:=h i ag;rw[h2] at this;cases this
 |cons k L ih=>
  intro S hS hi hc h;obtain⟨h1,h2,h3,h4⟩:=h;by_cases EH:k=i
  ·subst EH;exact .inl ⟨by rw[sW];exact h1,h2,zE h3 (λq=>by omega),amm L _ (by unfold dY;rw[aG rfl]) h4⟩
  ·by_cases tf:k=n
   ·subst tf;obtain⟨M1,M2,e1,e2,e3,e4⟩:=apw hB hn iD L S hS hi h3 h4;exact .inr ⟨[],M1,M2,S,by rw[e1];rfl,hi,h3,hc,e2,e3,e4⟩
   ·rcases ih (dY S k) (by unfold dY;rw[aI (Ne.symm tf)];exact hS) (by unfold dY;rw[aI (Ne.symm EH)];exact hi) (hc.one h3) h4 with q|⟨pre,M1,M2,S',e1,e0,e2,e3,e4,e5,e6⟩
    ·exact .inl ⟨by rw[sW];exact h1,h2,zE h3 (λq=>absurd q tf),q⟩
    ·exact .inr ⟨k::pre,M1,M2,S',by rw[e1];rfl,e0,e2,e3,e4,e5,by rw[sW];exact h1,h2,zE h3 (λq=>absurd q tf),e6⟩
def aq.sQ(h:aq)(c:Nat)(xs:List AV):aq:={h with boxes:=h.boxes.set c xs}
def U0{h:aq}{a c}{xs}(bG:a≠c):(h.sQ c xs).boxes[a]?=h.boxes[a]?:=by unfold aq.sQ;simp only[mL];rw[aI (λq=>bG q.symm)]
variable {e e':Env} {h h':aq} {b:Array Nat}
def Zk(N:di P G R ops (bM ops.size) e h=aa (.normal,e',h'))(F:Fits P G R ops e h b):∀(A B:List Nat) (S:Nat->Bool) (e1:Env) (h1:aq),Inv P G R ops e h b S e1 h1->oK ops S (A++B)->
 ∃S2 e2 h2,di P G R ops A e1 h1=aa (.normal,e2,h2)/\Inv P G R ops e h b S2 e2 h2/\oK ops S2 B:=by
 intro A
 induction A with
 |nil=>intro B S e1 h1 I hL;exact⟨S,e1,h1,rfl,I,hL⟩|cons k A ih=>
  intro B S e1 h1 I hL;obtain⟨hk,hu,hr,hL⟩:=hL;obtain⟨x,e2,h2,hs,I'⟩:=next N F I hk hu hr
  obtain⟨S2,e3,h3,ox,I3,L3⟩:=ih B _ _ _ I' hL;exact⟨S2,e3,h3,rf.2 ⟨x,e2,h2,hs,ox⟩,I3,L3⟩
def YQ(N:di P G R ops (bM ops.size) e h=aa (.normal,e',h'))(F:Fits P G R ops e h b){S:Nat->Bool}{e1:Env}{h1:aq}(I:Inv P G R ops e h b S e1 h1){k:Nat}(hk:k<ops.size)
 (hu:S k=az) (hr:pG ops S k):∀o,ops[k]?=aa o->Alike ops (df P G R ops e h k).1 e1 o:=by
 have ho:ops[k]?=aa ops[k]:=mK hk;have ahead:∀i,i<ops.size->Ord b i k->S i=ah:=by
  intro i hi y7;obtain⟨ed,gi,nQ,hq⟩:=F.bits k i _ ho hi y7;have hs:=hr _ ho ed gi nQ;have aA:=F.Kf k _ ho ed gi nQ;rcases hq with rfl|hq
  ·exact hs
  ·exact I.closed i ed.on hi (qa aA hk) hs hq
 intro o iT t ht;rw[ho] at iT;injection iT with iT;subst iT;rw[I.iH t,SY N t k (nJ hk),ML (k:=k) ops.size (nJ hk)]
 ·refine val_congr k λw hw hd=>?_;have hx:ops[w]?=aa ops[w]:=mK (qa hw hk);rw[BX hx] at hd;exact(ahead w (qa hw hk) (F.looks hw hk hx ho (.inl ⟨hd,ht⟩))).symm
 ·intro w EI hw hd;rcases dW k w with aA|eg
  ·cases hq:S w with|false=>rfl|true=>have hx:ops[w]?=aa ops[w]:=mK hw;rw[BX hx] at hd;have:=I.closed k w hk hw hq (F.looks aA hw ho hx (.inr ⟨hd,ht⟩));rw[hu] at this;cases this
  ·rw[BD eg EI,hu]
def FR{k:Nat}{x:AV}{e1:Env}{h1:aq}(hs:zr ops k=ah)(st:kC P G R ops k e h=aa (x,e1,h1)):
 x=.tuple []/\e1=e/\np ops k=au/\∃(o:Oper) (t:TypeId) (a v:Operand) (c off n:Nat) (cs dh:List AV),ops[k]?=aa o/\o.op=.store t a v/\o.guard=au/\e.eval a=.ptr (.box c) off/\(e.eval v).bP=aa cs/\dt P t=aa n/\h.boxes[c]?=aa dh/\cs.length=n/\off+n<=dh.length/\h1=h.sQ c (eX dh off cs):=by
 unfold zr at hs;unfold kC at st;cases ho:ops[k]? with
 |none=>rw[ho] at hs;cases hs
 |some o=>
  rw[ho] at hs st;simp only[bC,Option.isNone_iff_eq_none] at hs;obtain⟨q1,q2,q3⟩:=hs;cases bL:o.op<;>rw[bL] at q1<;>try (cases q1;done)
  rename_i t a v;have hw:fD ops e o=aa ah:=by unfold fD;rw[q2]
  simp only[hw] at st;have uh:eo P G R e h o=(dS P G e.eval h (.store t a v)).map λ(x,h)=>(.ret x,e,h):=by unfold eo;rw[bL]
  rw[uh] at st;simp only[dS] at st;cases bT:b7 P h t (e.eval a) (e.eval v) with
  |none=>rw[bT] at st;simp at st|some hh=>
   rw[bT] at st;simp only[ff,dP,dn] at st;obtain⟨rfl,rfl,rfl⟩:=st;unfold b7 at bT;split at bT
   ·rename_i c off cs n h1 h2 h3;split at bT
    ·rename_i dh hold;split at bT
     ·rename_i eO;injection bT with bT;exact⟨rfl,rfl,by simp[np,ho,q3],o,t,a,v,c,off,n,cs,dh,rfl,bL,q2,h1,h2,h3,hold,eO.1,eO.2,bT.symm⟩
     ·cases bT
    ·cases bT
   ·cases bT
def SO{k:Nat}{o:Oper}{t:TypeId}{a v:Operand}{c off n:Nat}{cs dh:List AV}(ho:ops[k]?=aa o)(bL:o.op=.store t a v)(hg:o.guard=au)(ha:e.eval a=.ptr (.box c) off)(hv:(e.eval v).bP=aa cs)(hz:dt P t=aa n)(hb:h.boxes[c]?=aa dh)(hl:cs.length=n)(eO:off+n<=dh.length):
 kC P G R ops k e h=aa (.tuple [],e,h.sQ c (eX dh off cs)):=by
 unfold kC;simp only[ho];have hw:fD ops e o=aa ah:=by unfold fD;rw[hg]
 simp only[hw];have uh:eo P G R e h o=(dS P G e.eval h (.store t a v)).map λ(x,h)=>(.ret x,e,h):=by unfold eo;rw[bL]
 rw[uh];simp only[dS];have:b7 P h t (e.eval a) (e.eval v)=aa (h.sQ c (eX dh off cs)):=by unfold b7;simp only[ha,hv,hz,hb];rw[aG ⟨hl,eO⟩];rfl
 rw[this];rfl
def Zu{n:Nat}(hn:zr ops n=ah):∀(M:List Nat) {e e':Env} {h h':aq},(∀k∈M,k<ops.size/\qj ops k=.pure/\qh ops k n=ah)->∀rest,di P G R ops (M++n::rest) e h=aa (.normal,e',h')->di P G R ops (n::(M++rest)) e h=aa (.normal,e',h'):=by
 intro M
 induction M with
 |nil=>intro e e' h h' _ rest hr;exact hr|cons k M ih=>
  intro e e' h h' hM rest hr;rw[List.cons_append,rf] at hr;obtain⟨x,e1,h1,hs,hr⟩:=hr;obtain⟨hk,hp,uS⟩:=hM k fW;have hr:=ih (λm hm=>hM m (fE _ hm)) rest hr;obtain⟨rfl,rfl,lq⟩:=SK hp hs;rw[rf] at hr ⊢;obtain⟨x2,e2,h2,ny,hr⟩:=hr;obtain⟨rfl,rfl,hd,o,t,a,v,c,off,m,cs,dh,g1,g2,g3,g4,g5,g6,g7,g8,g9,rfl⟩:=FR hn ny;have eG:∀z∈o.op.operands,(e1.put (np ops k) x).eval z=e1.eval z:=by
   intro z hz;cases z with
   |tmp s=>
    show(e1.put (np ops k) x).get s=e1.get s;rw[RK];split
    ·rename_i hq;exfalso;unfold qh at uS;have bq:ops[k]?=aa ops[k]:=mK hk;rw[bq,g1] at uS;simp only[bC] at uS;rw[BX bq] at hq;have akG:s∈o.looksAt ops:=(by unfold Oper.looksAt;exact TC _ (List.mem_filterMap.2 ⟨.tmp s,by simpa using hz,rfl⟩));have h1:=uS.1;unfold Oper.apart at h1;rw[hq] at h1;simp[akG] at h1
    ·rfl
   |_=>rfl
  rw[eG a (by rw[g2];simp[Op.operands])] at g4;rw[eG v (by rw[g2];simp[Op.operands])] at g5;refine⟨_,e1,_,SO g1 g2 g3 g4 g5 g6 g7 g8 g9,?_⟩;rw[hd] at hr ⊢;show di P G R ops (k::(M++rest)) e1 _=_;rw[rf];exact⟨x,e1,_,lq e1 _ (λo ho t ht=>rfl),hr⟩
def auB{n:Nat}(hi:zr ops i=ah)(hn:zr ops n=ah){e e':Env}{h h':aq}{bi bn:Nat}(h1:sd ops i e=aa bi)(h2:sd ops n e=aa bn)(bG:bi≠bn)(rest:List Nat)(hr:di P G R ops (i::n::rest) e h=aa (.normal,e',h')):di P G R ops (n::i::rest) e h=aa (.normal,e',h'):=by
 rw[rf] at hr;obtain⟨x,e1,oW,hs,hr⟩:=hr;obtain⟨rfl,rfl,hd,o,t,a,v,c,off,m,cs,dh,g1,g2,g3,g4,g5,g6,g7,g8,g9,rfl⟩:=FR hi hs;rw[hd] at hr;replace hr:di P G R ops (n::rest) e1 (h.sQ c (eX dh off cs))=aa (.normal,e',h'):=hr;rw[rf] at hr;obtain⟨x2,e2,td,ny,hr⟩:=hr;obtain⟨rfl,rfl,ie,o2,t2,a2,v2,c2,off2,m2,cs2,old2,k1,k2,k3,k4,k5,k6,k7,k8,k9,rfl⟩:=FR hn ny;have q1:bi=c:=by unfold sd at h1;rw[g1] at h1;simp only[g2,g4] at h1;injection h1 with h1;exact h1.symm
 have q2:bn=c2:=by unfold sd at h2;rw[k1] at h2;simp only[k2,k4] at h2;injection h2 with h2;exact h2.symm
 subst q1;subst q2;have k7':h.boxes[bn]?=aa old2:=by rw[<-k7];exact(U0 (λq=>bG q.symm)).symm
 have g7':(h.sQ bn (eX old2 off2 cs2)).boxes[bi]?=aa dh:=by rw[U0 bG];exact g7
 rw[rf];refine⟨_,e2,_,SO k1 k2 k3 k4 k5 k6 k7' k8 k9,?_⟩;rw[ie];show di P G R ops (i::rest) e2 _=_;rw[rf];refine⟨_,e2,_,SO g1 g2 g3 g4 g5 g6 g7' g8 g9,?_⟩;rw[hd];rw[ie] at hr;have akf:(h.sQ bn (eX old2 off2 cs2)).sQ bi (eX dh off cs)=(h.sQ bi (eX dh off cs)).sQ bn (eX old2 off2 cs2):=by unfold aq.sQ;simp only[List.set_comm _ _ bG]
 rw[akf];exact hr
def aid(bq:Fu ops i=ah)(pO:tF P G R ops e h i=ah)(hf:mQ P G R (gP ops i (ops.size - 1)) e h=ah)(he:di P G R ops (bM ops.size) e h=aa (.normal,e',h'))(tp:Nat):
 ∃e2,di P G R ops (Region.linearise .any ops tp) e h=aa (.normal,e2,h')/\pH e2 e':=by
 unfold Fu at bq;simp only[bC,decide_eq_true_eq,ey,fQ,vD] at bq;obtain⟨k0,k1,k2,k3,k4⟩:=bq;obtain⟨n,iE⟩:∃n,ops.size - 1=n:=⟨_,rfl⟩;have hn:n+1=ops.size:=by omega
 simp only[iE] at hf k3 k4;have hE:di P G R (gP ops i n) (bM (gP ops i n).size) e h=aa (.normal,e',h'):=by rw[sW,Dc];exact he
 have vS:=ae5 (Wa hf);have hL:=Zj vS tp;rcases anM (i:=i) vS hn ag _ (λ_=>az) rfl rfl (λk o ho hS=>by cases hS) hL with q|⟨pre,M1,M2,S',q1,q7,q2,q3,q4,q5,q6⟩
 ·obtain⟨e2,uh,jn⟩:=QZ hE (yR hf) _ _ _ _ (QG hE) q;rw[Dc] at uh;exact⟨e2,uh,jn⟩
 ·have good:∀k,k<ops.size/\k≠i/\k≠n/\S' k=az->k<ops.size/\qj ops k=.pure/\qh ops k n=ah:=by
   rintro k ⟨p1,p2,p3,p4⟩;rcases k4 k ag with w|w|w
   ·exact absurd (jW w) p2
   ·have:=afi k0 q3 n ag q2 w p1;rw[p4] at this;cases this
   ·refine⟨p1,?_,w.2⟩;have w1:=w.1;unfold aak at w1;cases ho:ops[k]? with
    |none=>rw[ho] at w1;cases w1
    |some o=>rw[ho] at w1;simpa [qj,ho] using w1
  rw[<-List.append_assoc] at q6;obtain⟨S2,em,hm,ev1,I1,L1⟩:=Zk hE (yR hf) (pre++M1) (i::(M2++[n])) _ _ _ (QG hE) q6;obtain⟨l1,l2,l3,l4⟩:=L1;have al1:=YQ hE (yR hf) I1 l1 l2 l3;obtain⟨x,e2,h2,hs,I2⟩:=next hE (yR hf) I1 l1 l2 l3
  have CO:kC P G R ops i em hm=aa (x,e2,h2):=by have:=Dc (P:=P) (G:=G) (R:=R) (ops:=ops) (i:=i) (j:=n) [i] em hm;have h3:di P G R (gP ops i n) [i] em hm=aa (.normal,e2.put (np (gP ops i n) i) x,h2):=rf.2 ⟨x,e2,h2,hs,rfl⟩;rw[this] at h3;obtain⟨x',e3,h4,qV,EO⟩:=rf.1 h3;obtain⟨rfl,rfl,uf,o3,t3,a3,v3,c3,off3,m3,cs3,old3,z1,z2,z3,z4,z5,z6,z7,z8,z9,rfl⟩:=FR k2 qV;rw[uf] at EO;simp only[di,dP,dn,true_and] at EO;obtain⟨r1,r2⟩:=EO;have hx:x=.tuple []/\e2=e3:=(by have hgE:(gP ops i n)[i]?=aa o3:=(by rw[En,z1,ff,aI ag]);have hSt:zr (gP ops i n) i=ah:=(by unfold zr at k2 ⊢;rw[hgE];rw[z1] at k2;exact k2);obtain⟨y1,y2,-⟩:=FR hSt hs;exact⟨y1,y2⟩);rw[hx.1,hx.2,<-r2];exact qV
  obtain⟨rfl,rfl,hd,o,t,a,v,c,off,m,cs,dh,g1,g2,g3,g4,g5,g6,g7,g8,g9,rfl⟩:=FR k2 CO;have hdE:np (gP ops i n) i=au:=by unfold np at hd ⊢;rw[VO];exact hd
  rw[hdE] at I2;replace I2:Inv P G R (gP ops i n) e h (Region.before (gP ops i n)) (dY S2 i) e2 (hm.sQ c (eX dh off cs)):=I2;obtain⟨Sn,en,hhn,ev2,I3,L3⟩:=Zk hE (yR hf) M2 [n] _ _ _ I2 l4;obtain⟨e5,Xv,jn⟩:=QZ hE (yR hf) _ _ _ _ I3 L3;have XR:S2 n=az/\pG ops S2 n:=by
   refine⟨?_,?_⟩
   ·have:∀(L:List Nat) (S:Nat->Bool),oK (gP ops i n) S L->∀m∈L,S m=az:=by
     intro L
     induction L with
     |nil=>intro S _ m hm;cases hm
     |cons a L ih2=>
      intro S hL m hm;obtain⟨u1,u2,u3,u4⟩:=hL;rcases iu.1 hm with rfl|hm
      ·exact u2
      ·have p2:=ih2 _ u4 m hm;unfold dY at p2;split at p2
       ·cases p2
       ·exact p2
    have:=this _ _ l4 n bE;unfold dY at this;rw[aI ag] at this;exact this
   ·intro o' iT ed gi hb;have hS:S' ed.on=ah:=q2 o' iT ed gi hb;have aA:ed.on<n:=vS n o' iT ed gi hb;cases hq:S2 ed.on with
    |true=>rfl|false=>
     exfalso;have mem:∀(L:List Nat) (S:Nat->Bool),oK (gP ops i n) S L->∀m,m<ops.size->S m=az->m∈L:=by
      intro L
      induction L with
      |nil=>intro S hL m hm O7;have:=hL m (by rw[sW];exact hm);rw[O7] at this;cases this
      |cons a L ih2=>
       intro S hL m hm O7;obtain⟨u1,u2,u3,u4⟩:=hL;by_cases KP:m=a
       ·subst KP;exact fW
       ·exact fE _ (ih2 _ u4 m hm (by unfold dY;rw[aI KP];exact O7))
     have qS:=mem (i::(M2++[n])) S2 ⟨l1,l2,l3,l4⟩ ed.on ag hq;rcases iu.1 qS with w|w
     ·rw[w,q7] at hS;cases hS
     ·rcases wR.1 w with w|w
      ·have:=(q5 _ w).2.2.2;rw[hS] at this;cases this
      ·rw[List.mem_singleton] at w;omega
  have KY:pG (gP ops i n) (dY S2 i) n:=zE (ready_mono XR.2 λj hj=>by unfold dY;split;rfl;exact hj) λ_=>by unfold dY;rw[aG rfl]
  have al2:=YQ hE (yR hf) I2 (k:=n) (by rw[sW];omega) (by unfold dY;rw[aI ag];exact XR.1) KY;have stE:∀k,df P G R (gP ops i n) e h k=df P G R ops e h k:=λk=>by unfold df;rw[Dc]
  have put_congr:∀(k:Nat) (ea eb:Env),(∀o,(gP ops i n)[k]?=aa o->Alike (gP ops i n) ea eb o)->sd ops k ea=sd ops k eb:=by
   intro k ea eb eG;unfold sd;cases ho:ops[k]? with
   |none=>rfl|some o'=>
    have hg:(gP ops i n)[k]?=aa (if k=n then {o' with after:=o'.after.push {on:=i,ground:=.data}} else o'):=(by rw[En,ho];rfl);have hz:=GK (eG _ hg);have gG:∀z∈o'.op.operands,ea.eval z=eb.eval z:=(by intro z hzm;refine hz z ?_;split<;>exact hzm);show(match o'.op with| .store _ a _=>(match ea.eval a with| .ptr (.box b) _=>aa b|_=>au)|_=>au)=(match o'.op with| .store _ a _=>(match eb.eval a with| .ptr (.box b) _=>aa b|_=>au)|_=>au)
    revert gG
    generalize o'.op=op;intro gG;cases op with|store t' a' v'=>have:ea.eval a'=eb.eval a':=gG a' (by simp[Op.operands]);simp only[this]|_=>rfl
  have hb:∃bi bn,sd ops i e2=aa bi/\sd ops n e2=aa bn/\bi≠bn:=by
   unfold tF at pO;rw[iE] at pO;split at pO
   ·rename_i ei _ en _ r1 r2;have s1:(df P G R ops e h i).1=ei:=(by unfold df;rw[r1]);have s2:(df P G R ops e h n).1=en:=(by unfold df;rw[r2]);split at pO
    ·rename_i bi bn u1 u2;refine⟨bi,bn,?_,?_,?_⟩
     ·rw[<-u1,<-s1,<-stE];exact(put_congr i _ _ al1).symm
     ·rw[<-u2,<-s2,<-stE];exact(put_congr n _ _ al2).symm
     ·rintro rfl;rw[Nat.beq_refl] at pO;cases pO
    ·cases pO
   ·cases pO
  obtain⟨bi,bn,b1,b2,b3⟩:=hb;have t1:di P G R ops (M2++n::[]) e2 (hm.sQ c (eX dh off cs))=aa (.normal,e5,h'):=by rw[Iv];rw[Dc] at ev2 Xv;exact⟨_,_,ev2,Xv⟩
  have t2:=Zu k3 M2 (λk hk=>good k (q5 k hk)) [] t1;rw[List.append_nil] at t2;have t3:di P G R ops (i::n::M2) e2 hm=aa (.normal,e5,h'):=by rw[rf];refine⟨_,_,_,CO,?_⟩;rw[hd];exact t2
  have t4:=auB k2 k3 b1 b2 b3 M2 t3;rw[Dc,Iv] at ev1;obtain⟨e0,h0,v1,v2⟩:=ev1;have t5:di P G R ops (M1++n::(i::M2)) e0 h0=aa (.normal,e5,h'):=Iv.2 ⟨_,_,v2,t4⟩;have t6:=Zu k3 M1 (λk hk=>good k (q4 k hk)) _ t5;refine⟨e5,?_,jn⟩;rw[q1];exact Iv.2 ⟨_,_,v1,t6⟩
def stores_cases{e:Env}{h:aq}(hb:uC P G R ops e h=ah):∃i,i<ops.size/\Fu ops i=ah/\tF P G R ops e h i=ah/\mQ P G R (gP ops i (ops.size - 1)) e h=ah:=by unfold uC at hb;simp only[Gh,fQ,bC] at hb;exact hb
def stores_of{e:Env}{h:aq}{i:Nat}(h1:i<ops.size)(h2:Fu ops i=ah)(h3:tF P G R ops e h i=ah)(h4:mQ P G R (gP ops i (ops.size - 1)) e h=ah):uC P G R ops e h=ah:=by unfold uC;simp only[Gh,fQ,bC];exact⟨i,h1,h2,h3,h4⟩
end
end Go.AE
end
section
namespace Go.AE
open Go.RowKit (Below)
section
variable {P:Program} {G:Nat->Option (List AV)} {w0:World} {R:Rec}
def at2{b:Frame}{a:Act}{k:List Item}{cs:List Frame}{w:World}{c:Code}:step P (lone (b.atR a (.code (.scope c)::k)) cs w)=.next (lone (b.atR a (.code c::.inScope c::k)) cs w):=by rfl
def at1{b:Frame}{a:Act}{k:List Item}{cs:List Frame}{w:World}{c:Code}:step P (lone (b.atR a (.inScope c::k)) cs w)=.next (lone (b.atR a k) cs w):=by rfl
def oI.anV{K:aW}{m:Machine}{B:Frame}{c:Code}{k:List Item}{cs:List Frame}{x:Xt}{a:Act}{w:World}(hn:x≠ .normal)
 (h:oI P K m B (.inScope c::k) cs x a w):oI P K m B k cs x a w:=by
 cases x with
 |normal=>exact absurd rfl hn|exit id=>obtain⟨t,h1,h2⟩:=h;exact⟨t,h1.trans rfl,h2⟩
 |ret=>exact h|panic x=>exact h
def ahi(hn:D3 P)(akR:P.follows .mixedOrders=ah)(hR:wW P G w0 R):TX P G w0 (fM P G R):=by
 intro c e h out e' h' he K w a B k base cs ms hf cq hs bq;cases c with
 |skip=>simp only[fM,dP,dn] at he;obtain⟨rfl,rfl,rfl⟩:=he;exact⟨K,w,a,cs,ms,.refl hf cq hs (.one stepR_skip)⟩
 |label l=>simp only[fM,dP,dn] at he;obtain⟨rfl,rfl,rfl⟩:=he;exact⟨K,w,a,cs,ms,.refl hf cq hs (.one stepR_label)⟩
 |region id ops draw=>
  simp only[codeOk] at bq;cases draw with
  |false=>simp only[fM,jO,if_false] at he;obtain⟨K',w',a',dR,L⟩:=Rj hn hR _ _ _ _ _ _ he K w a B k base cs ms hf cq hs bq;exact⟨K',w',a',dR,ms,.of_steps (.one stepR_region) L⟩
  |true=>
   simp only[fM,if_true] at he;split at he
   ·rename_i nR;split at he
    ·rename_i e1 h1 uh;simp only[dP,dn] at he;obtain⟨rfl,rfl,rfl⟩:=he;have jc:=stepR_region_draw (P:=P) (b:=B) (a:=a) (k:=k) (cs:=cs) (w:=w) (ops:=ops) (id:=id);have akY:Region.schedule (P.follows .mixedOrders) ops (w.tape w.drawn (.order B.fn id))=Region.linearise .any ops (w.tape w.drawn (.order B.fn id)):=(by simp only[Region.schedule,akR,acA,if_true]);rw[akY] at jc;rcases (vD _ _).mp nR with nR|bT
     ·obtain⟨e2,Po,jn⟩:=aic uh nR (w.tape w.drawn (.order B.fn id));obtain⟨K',w',a',dR,L⟩:=Rj hn hR _ _ _ _ _ _ Po K {w with drawn:=w.drawn+1} a B k base cs ms hf cq (hs.drew _) bq;exact⟨K',w',a',dR,ms,L.le,L.rq,L.frame.same jn,jn.cV ▸ L.cs,L.size,L.marks,L.arr.of_steps (.one jc)⟩
     ·obtain⟨i,-,Px,pR,hi3⟩:=stores_cases bT;obtain⟨e2,Po,jn⟩:=aid Px pR hi3 uh (w.tape w.drawn (.order B.fn id));obtain⟨K',w',a',dR,L⟩:=Rj hn hR _ _ _ _ _ _ Po K {w with drawn:=w.drawn+1} a B k base cs ms hf cq (hs.drew _) bq;exact⟨K',w',a',dR,ms,L.le,L.rq,L.frame.same jn,jn.cV ▸ L.cs,L.size,L.marks,L.arr.of_steps (.one jc)⟩
    ·cases he
   ·cases he
 |seq x y=>
  simp only[codeOk,bC] at bq;simp only[fM] at he;cases hx:R.code x e h with
  |none=>rw[hx] at he;cases he
  |some q=>
   obtain⟨o1,e1,h1⟩:=q;rw[hx] at he;obtain⟨K1,w1,a1,cs1,ms1,L1⟩:=hR.code x e h _ _ _ hx K w a B (.code y::k) base cs ms hf cq hs bq.1;have start:=Steps.one (stepR_seq (P:=P) (b:=B) (a:=a) (k:=k) (cs:=cs) (w:=w) (x:=x) (y:=y));by_cases xI:o1=.normal
   ·subst xI;simp only at he;obtain⟨K2,w2,a2,cs2,ms2,L2⟩:=hR.code y e1 h1 _ _ _ he K1 w1 a1 B k base cs1 ms1 L1.frame L1.cs L1.rq (by rw[L1.size];exact bq.2);refine⟨K2,w2,a2,cs2,ms2,L1.le.trans L2.le,L2.rq,L2.frame,L2.cs,L2.size.trans L1.size,λr hr=>?_,(L2.arr.of_steps L1.arr).of_steps start⟩;rcases L2.marks r hr with hq|hq
    ·exact L1.marks r hq
    ·exact .inr λhm=>hq (L1.le.md r hm)
   ·have he:aa (o1,e1,h1)=aa (out,e',h'):=by cases o1<;>first|exact absurd rfl xI|exact he
    simp only[dP,dn] at he;obtain⟨rfl,rfl,rfl⟩:=he;exact⟨K1,w1,a1,cs1,ms1,L1.le,L1.rq,L1.frame,L1.cs,L1.size,L1.marks,(L1.arr.pass rfl xI).of_steps start⟩
 |cond q x y=>
  simp only[codeOk,bC] at bq;simp only[fM] at he;have hv:=Av hf.iH q;split at he
  ·rename_i hq;rw[hq] at hv;obtain⟨K1,w1,a1,cs1,ms1,L1⟩:=hR.code x e h _ _ _ he K w a B k base cs ms hf cq hs bq.1;exact⟨K1,w1,a1,cs1,ms1,L1.of_steps (.one (by have:=stepR_cond (P:=P) (b:=B) (k:=k) (cs:=cs) (w:=w) (x:=x) (y:=y) hv.iV.1;simpa using this))⟩
  ·rename_i hq;rw[hq] at hv;obtain⟨K1,w1,a1,cs1,ms1,L1⟩:=hR.code y e h _ _ _ he K w a B k base cs ms hf cq hs bq.2;exact⟨K1,w1,a1,cs1,ms1,L1.of_steps (.one (by have:=stepR_cond (P:=P) (b:=B) (k:=k) (cs:=cs) (w:=w) (x:=x) (y:=y) hv.iV.1;simpa using this))⟩
  ·cases he
 |block id x=>
  simp only[codeOk] at bq;simp only[fM] at he;cases hx:R.code x e h with
  |none=>rw[hx] at he;cases he
  |some q=>
   obtain⟨o1,e1,h1⟩:=q;rw[hx] at he;obtain⟨K1,w1,a1,cs1,ms1,L1⟩:=hR.code x e h _ _ _ hx K w a B (.inBlock id::k) base cs ms hf cq hs bq;have start:=Steps.one (stepR_block (P:=P) (b:=B) (a:=a) (k:=k) (cs:=cs) (w:=w) (id:=id) (c:=x));have fin:∀{o:Xt},oI P K1 (lone (B.atR a (.code x::.inBlock id::k)) cs w) B k cs1 o a1 w1->Left P G w0 K ms B base (lone (B.atR a (.code (.block id x)::k)) cs w) k a.tmps.size o e1 h1 K1 w1 a1 cs1 ms1:=λha=>
    ⟨L1.le,L1.rq,L1.frame,L1.cs,L1.size,L1.marks,ha.of_steps start⟩
   cases o1 with
   |normal=>simp only[dP,dn] at he;obtain⟨rfl,rfl,rfl⟩:=he;exact⟨K1,w1,a1,cs1,ms1,fin (L1.arr.trans (.one stepR_inBlock))⟩
   |exit id'=>
    simp only at he;obtain⟨t,h2,h3⟩:=L1.arr;split at he
    ·rename_i PC;subst PC;simp only[dP,dn] at he;obtain⟨rfl,rfl,rfl⟩:=he;refine⟨K1,w1,a1,cs1,ms1,fin (h3.trans (.one (stepR_exit (h2.trans ?_))))⟩;simp[exitTo]
    ·rename_i PC;simp only[dP,dn] at he;obtain⟨rfl,rfl,rfl⟩:=he;refine⟨K1,w1,a1,cs1,ms1,fin ⟨t,h2.trans ?_,h3⟩⟩;simp[exitTo,Ne.symm PC]
   |ret=>simp only[dP,dn] at he;obtain⟨rfl,rfl,rfl⟩:=he;obtain⟨t,h3⟩:=L1.arr;exact⟨K1,w1,a1,cs1,ms1,fin ⟨t,h3⟩⟩
   |panic x=>simp only[dP,dn] at he;obtain⟨rfl,rfl,rfl⟩:=he;obtain⟨t,v,h2,h3⟩:=L1.arr;exact⟨K1,w1,a1,cs1,ms1,fin ⟨t,v,h2,h3⟩⟩
 |loop x=>
  have XU:codeOk a.tmps.size x=ah:=by simpa only[codeOk] using bq
  simp only[fM] at he;cases hx:R.code x e h with
  |none=>rw[hx] at he;cases he
  |some q=>
   obtain⟨o1,e1,h1⟩:=q;rw[hx] at he;obtain⟨K1,w1,a1,cs1,ms1,L1⟩:=hR.code x e h _ _ _ hx K w a B (.inLoop x::k) base cs ms hf cq hs XU;have start:=Steps.one (stepR_loop (P:=P) (b:=B) (a:=a) (k:=k) (cs:=cs) (w:=w) (c:=x));by_cases xI:o1=.normal
   ·subst xI;simp only at he;obtain⟨K2,w2,a2,cs2,ms2,L2⟩:=hR.code (.loop x) e1 h1 _ _ _ he K1 w1 a1 B k base cs1 ms1 L1.frame L1.cs L1.rq (by rw[L1.size];simpa only[codeOk] using XU);have vU:=oI.swap (c:=.loop x) (m':=lone (B.atR a1 (.inLoop x::k)) cs1 w1) (λ_=>by simp) bE rfl stepR_loop stepR_inLoop L2.arr;refine⟨K2,w2,a2,cs2,ms2,L1.le.trans L2.le,L2.rq,L2.frame,L2.cs,L2.size.trans L1.size,λr hr=>?_,(vU.of_steps L1.arr).of_steps start⟩;rcases L2.marks r hr with hq|hq
    ·exact L1.marks r hq
    ·exact .inr λhm=>hq (L1.le.md r hm)
   ·have he:aa (o1,e1,h1)=aa (out,e',h'):=by cases o1<;>first|exact absurd rfl xI|exact he
    simp only[dP,dn] at he;obtain⟨rfl,rfl,rfl⟩:=he;exact⟨K1,w1,a1,cs1,ms1,L1.le,L1.rq,L1.frame,L1.cs,L1.size,L1.marks,(L1.arr.pass rfl xI).of_steps start⟩
 |scope x=>
  simp only[codeOk] at bq;simp only[fM] at he;obtain⟨K1,w1,a1,cs1,ms1,L1⟩:=hR.code x e h _ _ _ he K w a B (.inScope x::k) base cs ms hf cq hs bq;have start:=Steps.one (at2 (P:=P) (b:=B) (a:=a) (k:=k) (cs:=cs) (w:=w) (c:=x));by_cases xI:out=.normal
  ·subst xI;exact⟨K1,w1,a1,cs1,ms1,L1.le,L1.rq,L1.frame,L1.cs,L1.size,L1.marks,(show oI P K1 _ B k cs1 .normal a1 w1 from L1.arr.trans (.one at1)).of_steps start⟩
  ·exact⟨K1,w1,a1,cs1,ms1,L1.le,L1.rq,L1.frame,L1.cs,L1.size,L1.marks,(L1.arr.anV xI).of_steps start⟩
 |exit id=>simp only[fM,dP,dn] at he;obtain⟨rfl,rfl,rfl⟩:=he;exact⟨K,w,a,cs,ms,.refl hf cq hs ⟨k,rfl,.refl P _⟩⟩
 |ret=>simp only[fM,dP,dn] at he;obtain⟨rfl,rfl,rfl⟩:=he;exact⟨K,w,a,cs,ms,.refl hf cq hs ⟨k,.refl P _⟩⟩
 |rangeFunc f ps assign body=>
  simp only[codeOk,bC] at bq;obtain⟨⟨zd,XZ⟩,X7⟩:=bq;have zd:=amI zd;simp only[fM] at he;split at he
  ·rename_i g first aD uh
   have oB:=Av hf.iH f;rw[uh] at oB;have enter:∃(lg:Nat) (mark:List Deferred) (K1:aW) (w1:World) (ms1:List Nat),(Instr.enterLoop B.fn a.tmps ps assign body B.roundOf).run P w=.ok (lg,mark) w1/\K.Le K1/\
    lM P G w0 K1 {h with loops:=h.loops++[{tmps:=e.tmps,params:=ps,assign,body,state:=.ready,pending:=au}]} w1/\K1.γ[h.loops.length]?=aa lg/\
    oh P K1 e {a with defers:=mark++a.defers} B ms1/\∀r∈ms1,r∈ms∨r∉K.md:=by
    have KU:∀c,codeOk a.tmps.size c=ah->Fp P B.fn a.tmps.size c=ah:=λc hc=>(by unfold Fp;rw[hc,hf.fn];rfl);have ze:=hf.round;cases lD:e.round with
    |none=>
     rw[lD] at ze;simp only at ze;have EK:w.heap.size∉K.md:=λhq=>absurd (o9 (hs.md _ hq).2) (Nat.lt_irrefl _);have s1:=hs.amW;have le1:=K.Zd w.heap.size;obtain⟨s2,hγ⟩:=s1.ZB (r:={tmps:=e.tmps,params:=ps,assign,body,state:=.ready,pending:=au}) (fn:=B.fn) w.heap.size (hf.iH.mono le1) (KU _ XZ) (KU _ X7) zd;have le2:=(K.mark w.heap.size).QR (w.alloc (.deferred (aa []))).heap.size;refine⟨_,_,_,_,w.heap.size::ms,by rw[ze];exact run_enterLoop_outer _ _ _ _ _,le1.trans le2,s2,?_,?_,?_⟩
     ·rw[hγ,World.size_alloc]
     ·have AM:=hf.mono (le1.trans le2);refine⟨AM.iH,?_,?_,hf.fn⟩
      ·refine .mark _ _ _ _ (by simp[aW.loop,aW.mark]) (λhq=>EK (hf.defers.sub _ hq)) AM.defers
      ·rw[lD];exact ze
     ·intro r hr;rcases iu.1 hr with rfl|hr
      ·exact .inr EK
      ·exact .inl hr
    |some l=>
     rw[lD] at ze;obtain⟨lg,hl,hb,aky,hd,hm,gi⟩:=ze;have dG:l<h.loops.length:=(by rw[<-hs.oH];exact(aS.1 hl).1);obtain⟨k1,fn,tmps,d,k2,-⟩:=hs.loop l lg _ hl (aR dG);obtain⟨s2,hγ⟩:=hs.ZB (r:={tmps:=e.tmps,params:=ps,assign,body,state:=.ready,pending:=au}) (fn:=B.fn) d hf.iH (KU _ XZ) (KU _ X7) zd;have le2:=K.QR w.heap.size;refine⟨_,[],_,_,ms,?_,le2,s2,hγ,?_,λr hr=>.inl hr⟩
     ·rw[hb];unfold Instr.enterLoop;simp only[Sem.run_bind,run_getLoop k2,run_newObj_alloc,Result.andThen,Sem.run_pure]
     ·have AM:=hf.mono le2;exact⟨AM.iH,AM.defers,by rw[lD];exact⟨lg,le2.γ _ _ hl,hb,aky,hd,hm,gi⟩,hf.fn⟩
   obtain⟨lg,mark,K1,w1,ms1,KG,le1,s1,hγ,f1,KS⟩:=enter;generalize tw:a.eval f=qv at oB;cases oB with
   |func _ _ _ fs dR g1 g2=>
    cases uc:R.call g (first++[.yield h.loops.length]++aD) {h with loops:=h.loops++[{tmps:=e.tmps,params:=ps,assign,body,state:=.ready,pending:=au}]} with
    |none=>rw[uc] at he;cases he
    |some q=>
     obtain⟨r,h2⟩:=q;rw[uc] at he;obtain⟨⟨fnn,ig,nw⟩,hc⟩:=hR.call _ _ _ _ _ uc;have ga:aQ K1 (first++[.yield h.loops.length]++aD) (fs++#[Value.func (.yield lg) #[] #[]]++dR).toList:=(by simp only[Array.toList_append];exact((g1.mono le1).append (.cons _ _ _ _ (.yield _ _ hγ) .nil)).append (g2.mono le1));obtain⟨K2,w2,fr,le2,s2,bT,-,hl⟩:=hc K1 w1 _ ga s1 (B.atR {a with defers:=mark++a.defers} (.inRangeFunc lg::k)::cs);have EV:=stepR_rangeFunc (P:=P) (b:=B) (a:=a) (k:=k) (cs:=cs) (w:=w) (g:=f) (ps:=ps) (assign:=assign) (body:=body) (l:=lg) (mark:=mark) (w₁:=w1) (w₁':=w1) (w₂:=w1) (d:={target:=.fn (.func g) dR,args:=fs++#[Value.func (.yield lg) #[] #[]]}) (f:=g) (args:=fs++#[Value.func (.yield lg) #[] #[]]++dR) KG
      (by have akh:∀v,a.eval (.const v)=v:=λ_=>rfl;simp[resolve,rangeCall,tw,Deferred.ofValue,akh]) (by simp only[invoke];exact Ss hn ig nw _ _)
     have start:=Steps.head EV bT;have f2:=f1.mono le2;have c2:CS K2 B.kind base e.cV cs:=cq.mono (le1.trans le2);cases r with
     |panic x=>simp only[dP,dn] at he;obtain⟨rfl,rfl,rfl⟩:=he;obtain⟨v,hx,hl⟩:=hl;refine⟨K2,w2,_,cs,ms1,le1.trans le2,s2,f2,c2,rfl,KS,.inRangeFunc lg::k,v,hx,start.trans (.one ?_)⟩;rw[step_leave_panicked hl,Frame.raise_atR]
     |ret x=>
      obtain⟨v,hx,hl⟩:=hl;have back:=start.trans (.one (step_leave_returned hl));rw[finish_atR_inRangeFunc] at back;simp only at he;split at he
      ·rename_i r hr;split at he
       ·cases he
       ·rename_i aj9;obtain⟨mm,m1,m2,m3,-,-,-,-,-,-,-,s3⟩:=s2.eW (le2.γ _ _ hγ) hr .exhausted r.pending;have ug:=run_endLoop (P:=P) m1 (by rw[m2];exact aj9);have mD:({mm with state:=.exhausted,pending:=r.pending}:Loop)={mm with state:=.exhausted}:=(by rw[<-m3]);rw[mD] at s3;have ako:(Instr.endLoop lg).run P w2=.ok r.pending (w2.putObj lg (.loop {mm with state:=.exhausted})):=(by rw[<-m3];exact ug);have back2:=back.trans (.one (stepR_endRangeFunc ako));cases hp:r.pending with
        |none=>rw[hp] at he back2 s3;simp only[dP,dn] at he;obtain⟨rfl,rfl,rfl⟩:=he;exact⟨K2,_,_,cs,ms1,le1.trans le2,s3,f2,c2,rfl,KS,back2⟩
        |some code=>
         rw[hp] at he back2 s3;cases code with
         |ret=>simp only[dP,dn] at he;obtain⟨rfl,rfl,rfl⟩:=he;exact⟨K2,_,_,cs,ms1,le1.trans le2,s3,f2,c2,rfl,KS,k,back2⟩
         |exit id=>simp only[dP,dn] at he;obtain⟨rfl,rfl,rfl⟩:=he;exact⟨K2,_,_,cs,ms1,le1.trans le2,s3,f2,c2,rfl,KS,k,rfl,back2⟩
         |_=>cases he
      ·cases he
  ·cases he
 |_=>simp[fM] at he
end
section
variable {P:Program} {G:Nat->Option (List AV)} {w0:World} {R:Rec}
def LK(tmps:Array Value):ResultVar->Sem Value
 | .tmp t=>pure (tmps.getD t undef)
 | .cell a t=>do loadVar t (<-asAddr (tmps.getD a undef))
def apx{K:aW}{e:Env}{h:aq}{w:World}(s:lM P G w0 K h w){tmps:Array Value}(hs:mN K e.tmps tmps):∀{rs:List ResultVar} {l:List AV},wE P G e h rs=aa l->
 ∃vs:List Value,aQ K l vs/\(rs.mapM (LK tmps)).run P w=.ok vs w:=by
 intro rs
 induction rs with
 |nil=>intro l hl;simp only[wE,dP] at hl;subst hl;exact⟨[],.nil,by simp⟩|cons r rs ih=>
  intro l hl;cases r with
  |tmp t=>simp only[wE,dx] at hl;obtain⟨l',tg,rfl⟩:=hl;obtain⟨vs,h1,h2⟩:=ih tg;exact⟨_::vs,.cons _ _ _ _ (hs t) h1,by simp[adb,h2,LK]⟩
  |cell a t=>
   simp only[wE] at hl;split at hl
   ·rename_i x l' hx tg;injection hl with hl;subst hl;obtain⟨vs,h1,h2⟩:=ih tg;obtain⟨g,p,v,hp,CC,hv⟩:=Zl s hx (hs a);refine⟨v::vs,.cons _ _ _ _ hv h1,?_⟩;rw[adb];simp only[LK,hp,asAddr,Sem.run_bind,Sem.run_pure,Result.andThen_ok,CC,h2]
   ·cases hl
def apy{K:aW}{fn:Func}{e:Env}{h:aq}{w:World}(s:lM P G w0 K h w){tmps:Array Value}(hs:mN K e.tmps tmps){x:AV}(he:IE P G fn e h=aa x):
 ∃v,aX K x v/\(results fn tmps).run P w=.ok v w:=by
 unfold IE at he;have key:∀l,wE P G e h fn.results.toList=aa l->∃vs:List Value,aQ K l vs/\(results fn tmps).run P w=.ok (if hh:vs.toArray.size=1 then vs.toArray[0] else .tuple vs.toArray) w:=by
  intro l hl;obtain⟨vs,h1,h2⟩:=apx s hs hl;refine⟨vs,h1,?_⟩;have ij:results fn tmps=(do let vs <-fn.results.mapM (LK tmps);pure (if h:vs.size=1 then vs[0] else .tuple vs)):=by unfold results;congr 2
  rw[ij,Array.mapM_eq_mapM_toList];simp only[Sem.run_bind,Sem.run_map,h2,Result.andThen_ok,Sem.run_pure]
 split at he
 ·rename_i x' hl;injection he with he;subst he;obtain⟨vs,h1,h2⟩:=key _ hl;cases h1 with|cons _ c _ cs h3 h4=>cases h4;exact⟨c,h3,h2⟩
 ·rename_i l bG hl;injection he with he;subst he;obtain⟨vs,h1,h2⟩:=key _ hl;refine⟨.tuple vs.toArray,.tuple _ _ (by simpa using h1),?_⟩;rw[h2];have hlen:vs.length≠1:=by rw[<-h1.length];intro hq;obtain⟨y,rfl⟩:=List.length_eq_one_iff.1 hq;exact bG y rfl
  simp[hlen]
 ·cases he
def sI(K:aW):Option (AV × Bool)->FrameMode->Prop
 |none,u=>u=.returning
 |some (x,r),u=>r=az/\∃v,aX K x v/\u=.panicking [{v,recovered:=az}]
def sI.run{K}{m u}(h:sI K m u):u≠ .run:=by
 cases m with|none=>simp only[sI] at h;rw[h];simp|some p=>obtain⟨x,r⟩:=p;obtain⟨_,v,_,h⟩:=h;rw[h];simp
def sI.un{K}{r}{m u}(h:sI K m u):sI (K.un r) m u:=by
 cases m with|none=>exact h|some p=>obtain⟨x,r⟩:=p;obtain⟨h1,v,h2,h⟩:=h;exact⟨h1,v,aX.un h2,h⟩
def sI.mono{K K'}(le:K.Le K'){m u}(h:sI K m u):sI K' m u:=by
 cases m with|none=>exact h|some p=>obtain⟨x,r⟩:=p;obtain⟨h1,v,h2,h⟩:=h;exact⟨h1,v,h2.mono le,h⟩
def mN.un{K}{r}{s tmps}(h:mN K s tmps):mN (K.un r) s tmps:=λt=>aX.un (h t)
def at6{fr:Frame}{cs:List Frame}{w:World}{r:Nat}{args:Array Value}{ds:List Deferred}(hm:fr.mode≠ .run)(hd:fr.defers={target:=.collected r,args}::ds)(hr:w.heap[r]?=aa (.deferred (aa []))):
 step P (lone fr cs w)=.next (lone {fr with defers:=ds} cs (w.putObj r (.deferred au))):=by
 refine step_lone_go ?_;have ht:=run_takeDeferred (P:=P) hr;cases th:fr.mode with|run=>exact absurd th hm|returning=>simp[stepG,unwind,th,hd,Sem.runT_eq,ht]|panicking chain=>simp[stepG,unwind,th,hd,Sem.runT_eq,ht]
def settled:Option (AV × Bool)->Option (AV × Bool)
 |some (_,ah)=>au
 |q=>q
def Ga(P:Program)(K:aW)(fn:Func)(fr:Frame)(w:World):eY->Prop
 | .ret x=>fr.mode=.returning/\∃v,aX K x v/\(results fn fr.tmps).run P w=.ok v w
 | .panic x=>∃v,aX K x v/\fr.mode=.panicking [{v,recovered:=az}]
def avf(hR:wW P G w0 R)(hn:D3 P){g:FuncId}{fn:Func}(ig:P.funcs[g]?=aa fn){K0:aW}{e:Env}:∀(cds:List Deferred) (ds:List (FuncId × List AV)) (ms:List Nat) (m:Option (AV × Bool)) (h:aq) (res:eY) (h':aq),
 iq P G R fn e ds m h=aa (res,h')->∀(K:aW) (w:World) (fr:Frame) (cs:List Frame),fr.fn=g->fr.defers=cds->rz K ds cds ms->mN K e.tmps fr.tmps->sI K m fr.mode->lM P G w0 K h w->K0.Le K->
 (∀r∈ms,r∉K0.md)->
 ∃K' w' fr',K0.Le K'/\lM P G w0 K' h' w'/\Steps P (lone fr cs w) (lone fr' cs w')/\fr'.kind=fr.kind/\fr'.defers=[]/\fr'.fn=g/\Ga P K' fn fr' w' res/\(∀kind base p cs,CS K kind base p cs->CS K' kind base p cs):=by
 intro cds
 induction cds with
 |nil=>
  intro ds ms m h res h' he K w fr cs hg hd gX nC th hs eO KR;generalize hq:([]:List Deferred)=q at gX;cases gX with
  |call=>cases hq
  |mark=>cases hq
  |nil=>
   cases m with
   |none=>simp only[iq,dx,dn] at he;obtain⟨x,hx,rfl,rfl⟩:=he;obtain⟨v,h1,h2⟩:=apy hs nC hx;exact⟨K,w,fr,eO,hs,.refl P _,rfl,hd,hg,⟨th,v,h1,h2⟩,λ_ _ _ _ h=>h⟩
   |some p=>obtain⟨x,r⟩:=p;simp only[iq,dP,dn] at he;obtain⟨rfl,rfl⟩:=he;obtain⟨-,v,h1,h2⟩:=th;exact⟨K,w,fr,eO,hs,.refl P _,rfl,hd,hg,⟨v,h1,h2⟩,λ_ _ _ _ h=>h⟩
 |cons d cds ih=>
  intro ds ms m h res h' he K w fr cs hg hd gX nC th hs eO KR;generalize hq:d::cds=q at gX;cases gX with
  |nil=>cases hq
  |mark r ds' cds' ms' hr hnr HY=>injection hq with tv rV;subst tv;subst rV;have CE:=hs.md r hr;have jc:=at6 (P:=P) (cs:=cs) th.run hd CE.2;have cN:r∉K0.md:=KR r fW;obtain⟨K',w',fr',g1,g2,g3,g4,g5,g6,g7,g8⟩:=ih _ ms' m h res h' he (K.un r) _ {fr with defers:=cds} cs hg rfl (HY.un hnr) nC.un th.un (hs.drop hr (.deferred au) (by intro _ _ _ hq;cases hq)) (alT eO cN) (λr' gj=>KR r' (fE _ gj));exact⟨K',w',fr',g1,g2,.head jc g3,g4,g5,g6,g7,λ_ _ _ _ hc=>g8 _ _ _ _ hc.un⟩
  |call f args vs aD ds' cds' _ hv HY=>
   injection hq with tv rV;subst tv;subst rV;simp only[iq] at he;cases uc:R.jY f args m h with
   |none=>rw[uc] at he;cases he
   |some q=>
    obtain⟨rr,m1,h1⟩:=q;rw[uc] at he;cases rr with
    |panic x=>simp at he|ret x=>
     obtain⟨⟨fnn,Pq,nw⟩,hc⟩:=hR.jY _ _ _ _ _ _ _ uc;have hinv:(invoke (.fn (.func f) aD) vs).run P w=.ok (.enter f (vs++aD)) w:=(by simp only[invoke];exact Ss hn Pq nw _ _);have jc:=step_defer (P:=P) (cs:=cs) (d:={target:=.fn (.func f) aD,args:=vs}) th.run hd rfl hinv;have cq:CS K .deferred ({fr with defers:=cds,mode:=.returning}::cs) m ({fr with defers:=cds}::cs):=by
      cases m with
      |none=>have:({fr with defers:=cds}:Frame)={fr with defers:=cds,mode:=.returning}:=(by rw[<-show fr.mode=.returning from th]);rw[this];exact .ret _ _ rfl rfl rfl
      |some p=>obtain⟨y,r⟩:=p;obtain⟨rfl,v,hv1,nW⟩:=th;have:({fr with defers:=cds}:Frame)={({fr with defers:=cds,mode:=.returning}:Frame) with mode:=.panicking [{v,recovered:=az}]}:=(by rw[<-nW]);rw[this];exact .cV _ _ y v az rfl rfl hv1
     obtain⟨K1,w1,fr1,cs1,v1,le1,s1,c1,bT,AQ,ox⟩:=hc K w (vs++aD) _ _ hv cq hs;have qS:∃u,cs1={fr with defers:=cds,mode:=u}::cs/\sI K1 (settled m1) (settle u):=by
      generalize AI:({fr with defers:=cds,mode:=.returning}:Frame)::cs=base at c1;cases c1 with
      |normal hh=>cases hh
      |ret c0 rest _ hb hm=>refine⟨.returning,AI.symm,?_⟩;simp[sI,settle,settled]|cV c0 rest y v r _ hb hx=>
       rw[hb] at AI;injection AI with lu fT;subst lu;subst fT;refine⟨.panicking [{v,recovered:=r}],rfl,?_⟩;cases r with|true=>simp[sI,settle,settled]|false=>exact⟨rfl,v,hx,rfl⟩
     obtain⟨u,rfl,qS⟩:=qS;have aj7:=step_going_returned (c:={fr with defers:=cds,mode:=u}) (cs:=cs) AQ ox;have he':iq P G R fn e ds' (settled m1) h1=aa (res,h'):=by
      rcases m1 with _|⟨y,r⟩
      ·exact he
      ·cases r<;>exact he
     obtain⟨K',w',fr',g1,g2,g3,g4,g5,g6,g7,g8⟩:=ih _ ms _ h1 res h' he' K1 w1 {fr with defers:=cds,mode:=settle u} cs hg rfl (HY.mono le1) (nC.mono le1) qS s1 (eO.trans le1) KR;exact⟨K',w',fr',g1,g2,.head jc (bT.trans (.head aj7 g3)),g4,g5,g6,g7,λ_ _ _ _ hq=>g8 _ _ _ _ (hq.mono le1)⟩
def ahg{n n'}(h:n<=n'):∀{c:Code},codeOk n c=ah->codeOk n' c=ah:=by
 intro c
 induction c with
 |region id ops draw=>
  simp only[codeOk,Ft,FY];intro hq i hi;have:=hq i hi
  revert this
  cases ops[i].dst with|none=>intro _;rfl|some d=>simp only[decide_eq_true_eq];intro hd;exact ni hd h
 |seq a b iha ihb=>simp only[codeOk,bC];exactλhq=>⟨iha hq.1,ihb hq.2⟩|cond q a b iha ihb=>simp only[codeOk,bC];exactλhq=>⟨iha hq.1,ihb hq.2⟩|block id c ih=>simp only[codeOk];exact ih|loop c ih=>simp only[codeOk];exact ih|scope c ih=>simp only[codeOk];exact ih|rangeFunc f ps a b iha ihb=>simp only[codeOk,bC,FY,decide_eq_true_eq];exactλhq=>⟨⟨λi hi=>ni (hq.1.1 i hi) h,iha hq.1.2⟩,ihb hq.2⟩|_=>intro hq;exact hq
structure Prog(P:Program):Prop where
 names:D3 P
 mixed:P.follows .mixedOrders=ah
 code:∀(g:FuncId) (fn:Func) (c:Code),P.funcs[g]?=aa fn->fn.body=aa c->codeOk fn.ntmps c=ah
def atq{K}{args}{fB}(hv:aQ K args fB.toList)(n):mN K {ch:=[],base:=args} (fB++DB n undef):=by
 intro t;simp only[qc.get,look];have hlen:=hv.length;rcases dW t args.length with aA|eg
 ·obtain⟨c,h1,h2⟩:=hv.get (aR aA);have hb:args.getD t (.tuple [])=args[t]:=by simp[aA]
  rw[hb];have hc:(fB++DB n undef).getD t undef=c:=by have akI:t<fB.size:=(by simpa [hlen] using aA);rw[acj,Array.getElem?_append_left akI,<-DA,h1];rfl
  rw[hc];exact h2
 ·have hb:args.getD t (.tuple [])=.tuple []:=by simp[uI eg]
  rw[hb];have hc:(fB++DB n undef).getD t undef=undef:=by have aku:fB.size<=t:=(by simpa [hlen] using eg);rw[acj,Array.getElem?_append_right aku,Array.getElem?_replicate];split<;>rfl
  rw[hc];exact .tuple [] #[] .nil
def UY(hp:Prog P)(hR:wW P G w0 R){g:FuncId}{args:List AV}{m m':Option (AV × Bool)}{h h':aq}{res:eY}(he:sO P G R g args m h=aa (res,m',h')):
 (∃fn,P.funcs[g]?=aa fn/\fn.body.isSome=ah)/\∀(K:aW) (w:World) (fB:Array Value) (kind:CallKind) (base cs:List Frame),aQ K args fB.toList->CS K kind base m cs->lM P G w0 K h w->
 ∃K' w' fr dR fn,P.funcs[g]?=aa fn/\K.Le K'/\lM P G w0 K' h' w'/\CS K' kind base m' dR/\Steps P (lone (Frame.enter P g fB kind) cs w) (lone fr dR w')/\fr.kind=kind/\fr.defers=[]/\fr.fn=g/\Ga P K' fn fr w' res:=by
 unfold sO at he;split at he
 ·cases he
 ·rename_i fn ig;split at he
  ·cases he
  ·rename_i body nw;refine⟨⟨fn,ig,by rw[nw];rfl⟩,λK w fB kind base cs hv cq hs=>?_⟩
   let b:Frame:={(default:Frame) with fn:=g,kind:=kind}
   let a:Act:={tmps:=fB++DB (fn.ntmps - fB.size) undef,defers:=[]}
   have hb:b.roundOf=au:=rfl;have KH:Frame.enter P g fB kind=b.atR a [.code body]:=(by unfold Frame.enter Frame.atR;simp only[ig,nw,b,a,ff,Option.getD_some,oq];rfl);have Pp:oh P K {tmps:={ch:=[],base:=args},defers:=[],cV:=m,round:=au} a b []:=
    ⟨atq hv _,.nil,rfl,by show(P.funcs[g]?).isSome=ah;rw[ig];rfl⟩
   have bq:codeOk a.tmps.size body=ah:=ahg (by simp[a];omega) (hp.code g fn body ig nw);have finish:∀(out:Xt) (e:Env) (h1:aq) (m0:Option (AV × Bool)),R.code body {tmps:={ch:=[],base:=args},defers:=[],cV:=m,round:=au} h=aa (out,e,h1)->
    (out=.normal/\m0=au∨out=.ret/\m0=au∨∃x,out=.panic x/\m0=aa (x,az))->(iq P G R fn e e.defers m0 h1).map (λ(r,h)=>(r,e.cV,h))=aa (res,m',h')->
    ∃K' w' fr dR fn,P.funcs[g]?=aa fn/\K.Le K'/\lM P G w0 K' h' w'/\CS K' kind base m' dR/\Steps P (lone (Frame.enter P g fB kind) cs w) (lone fr dR w')/\fr.kind=kind/\fr.defers=[]/\fr.fn=g/\Ga P K' fn fr w' res:=by
    intro out e h1 m0 Pf AY CP;obtain⟨K1,w1,a1,cs1,ms1,L⟩:=hR.code _ _ _ _ _ _ Pf K w a b [] base cs [] Pp cq hs bq;simp only[dx,dn] at CP;obtain⟨⟨r,hh⟩,CP,rfl,rfl,rfl⟩:=CP;have vU:∃(todo:List Item) (u:FrameMode),sI K1 m0 u/\Steps P (lone (Frame.enter P g fB kind) cs w) (lone {b.atR a1 todo with mode:=u} cs1 w1):=by
     rw[KH];rcases AY with⟨rfl,rfl⟩|⟨rfl,rfl⟩|⟨x,rfl,rfl⟩
     ·exact⟨[],.returning,rfl,Steps.trans L.arr (.one (stepR_end hb))⟩
     ·obtain⟨todo,bT⟩:=L.arr;exact⟨_,.returning,rfl,Steps.trans bT (.one (stepR_ret hb))⟩
     ·obtain⟨todo,v,hx,bT⟩:=L.arr;exact⟨todo,_,⟨rfl,v,hx,rfl⟩,bT⟩
    obtain⟨todo,u,th,bT⟩:=vU;obtain⟨K2,w2,fr,g1,g2,g3,g4,g5,g6,g7,g8⟩:=avf hR hp.names ig a1.defers e.defers ms1 m0 h1 r hh CP K1 w1 {b.atR a1 todo with mode:=u} cs1 rfl rfl L.frame.defers L.frame.iH th L.rq L.le
     (λr hr=>(L.marks r hr).resolve_left bE)
    exact⟨K2,w2,fr,cs1,fn,ig,g1,g2,g8 _ _ _ _ L.cs,bT.trans g3,g4,g5,g6,g7⟩
   split at he
   ·rename_i e1 h1 hc;exact finish _ _ _ _ hc (.inl ⟨rfl,rfl⟩) he
   ·rename_i e1 h1 hc;exact finish _ _ _ _ hc (.inr (.inl ⟨rfl,rfl⟩)) he
   ·rename_i x e1 h1 hc;exact finish _ _ _ _ hc (.inr (.inr ⟨x,rfl,rfl⟩)) he
   ·cases he
def Ga.aqE{K:aW}{fn:Func}{fr:Frame}{w:World}{res:eY}(hg:Ga P K fn fr w res)(hf:P.funcs[fr.fn]?=aa fn)(hk:fr.kind=.normal)(hd:fr.defers=[]):TU P K fr w res:=by
 cases res with
 |ret x=>obtain⟨h1,v,h2,h3⟩:=hg;exact⟨v,h2,h1,hd,hk,fn,hf,h3⟩
 |panic x=>obtain⟨v,h2,h3⟩:=hg;exact⟨v,h2,h3,hd,fn,hf⟩
def tO(P:Program)(G:Nat->Option (List AV))(w0:World)(g:FuncId)(p:List AV->aq->Option (AV × aq)):Prop:=
 (∃fn,P.funcs[g]?=aa fn/\fn.body.isSome=ah)/\
 ∀args h x h',p args h=aa (x,h')->∀(K:aW) (w:World) (fB:Array Value),aQ K args fB.toList->lM P G w0 K h w->
  Calls P g fB w λe w'=>∃v K',e=.returned v/\K.Le K'/\aX K' x v/\lM P G w0 K' h' w'
def ajh(hp:Prog P){prims:FuncId->Option (List AV->aq->Option (AV × aq))}(o6:∀g p,prims g=aa p->tO P G w0 g p)(hR:wW P G w0 R):TW P G w0 (rL P G R prims):=by
 intro g args h r h' he;unfold rL at he;split at he
 ·rename_i p uk;simp only[dx,dn] at he;obtain⟨⟨x,hh⟩,hx,rfl,rfl⟩:=he;obtain⟨ig,akc⟩:=o6 g p uk;refine⟨ig,λK w fB hv hs cs=>?_⟩;obtain⟨e,w',fr,⟨v,K',rfl,le,hx',s'⟩,hc,xF,hl⟩:=akc args h x hh hx K w fB hv hs cs;exact⟨K',w',fr,le,s',hc,xF,v,hx',hl⟩
 ·simp only[dx,dn] at he;obtain⟨⟨r',m',hh⟩,hx,rfl,rfl⟩:=he;obtain⟨ig,hb⟩:=UY hp hR hx;refine⟨ig,λK w fB hv hs cs=>?_⟩;obtain⟨K',w',fr,dR,fn,hf,le,s',c',bT,hk,hd,hg,Pv⟩:=hb K w fB .normal cs cs hv (.normal rfl) hs;have:dR=cs:=by
   generalize hq:CallKind.normal=q at c';cases c' with|normal=>rfl|ret c0 rest h1=>exact absurd (hq.trans h1) bE|cV c0 rest x v r h1=>exact absurd (hq.trans h1) bE
  subst this;exact⟨K',w',fr,le,s',bT,hg,Pv.aqE (by rw[hg];exact hf) hk hd⟩
def ah1(hp:Prog P)(hR:wW P G w0 R):TY P G w0 (sO P G R):=by intro g args m h x m' h' he;obtain⟨ig,hb⟩:=UY hp hR he;refine⟨ig,λK w fB base cs hv cq hs=>?_⟩;obtain⟨K',w',fr,dR,fn,hf,le,s',c',bT,hk,hd,hg,Pv⟩:=hb K w fB .deferred base cs hv cq hs;obtain⟨h1,v,h2,h3⟩:=Pv;exact⟨K',w',fr,dR,v,le,s',c',bT,hk,h1,hd,fn,by rw[hg];exact hf,h3⟩
def as1{K}:∀{ps:List Tmp} {args:List AV} {fB:List Value} {s:qc} {tmps:Array Value},aQ K args fB->mN K s tmps->(∀p∈ps,p<tmps.size)->
 mN K (FO ps args s) ((ps.zip fB).foldl (λts p=>ts.setIfInBounds p.1 p.2) tmps)/\((ps.zip fB).foldl (λts p=>ts.setIfInBounds p.1 p.2) tmps).size=tmps.size:=by
 intro ps
 induction ps with
 |nil=>intro args fB s tmps hv hs hp;exact⟨hs,rfl⟩|cons p ps ih=>
  intro args fB s tmps hv hs hp;cases hv with
  |nil=>exact⟨hs,rfl⟩|cons x c xs cs hx Qz=>
   have h1:=mN.set hs (hp p fW) hx;obtain⟨i1,i2⟩:=ih (s:=s.set p x) (tmps:=tmps.setIfInBounds p c) Qz h1 (λq hq=>by simpa using hp q (fE _ hq));refine⟨?_,?_⟩
   ·simpa [FO] using i1
   ·simpa using i2
def aq8(hR:wW P G w0 R):TZ P G w0 (wG R):=by
 intro l args h r h' he K w fB lg hγ hv hs tS cs;unfold wG at he;split at he
 ·cases he
 ·rename_i rec A0;split at he
  ·rename_i akZ;obtain⟨mm,m1,m2,m3,m4,m5,m6,m7,m8,m9,m10,-⟩:=hs.eW hγ A0 rec.state rec.pending;have xx:fB.size=mm.params.size:=(by rw[m4,akZ,hv.length];simp);have hy:=run_yield (P:=P) m1 xx;split at he
   ·rename_i e1 h1 aj5;split at he
    ·rename_i r1 CN;split at he
     ·rename_i akW;obtain⟨sp1,sp2⟩:=as1 (ps:=rec.params.toList) hv m7 m10;have Ps:(mm.params.zip fB).foldl (λtmps (x:Tmp × Value)=>tmps.setIfInBounds x.1 x.2) mm.tmps=(rec.params.toList.zip fB.toList).foldl (λts p=>ts.setIfInBounds p.1 p.2) mm.tmps:=by rw[<-Array.foldl_toList,Array.toList_zip,m4]
      let b:Frame:={(default:Frame) with fn:=mm.fn,kind:=.normal,roundOf:=aa lg}
      let a:Act:={tmps:=(rec.params.toList.zip fB.toList).foldl (λts p=>ts.setIfInBounds p.1 p.2) mm.tmps,defers:=[]}
      have Xx:(P.funcs[mm.fn]?).isSome=ah:=(by have:=m8;unfold Fp at this;rw[bC] at this;exact this.2);have Pp:oh P K {tmps:=FO rec.params.toList args rec.tmps,defers:=[],cV:=au,round:=aa l} a b []:=
       ⟨sp1,.nil,⟨lg,hγ,rfl,rfl,rfl,rfl,rfl⟩,Xx⟩
      have nU:codeOk a.tmps.size rec.assign=ah:=(by have:=m8;unfold Fp at this;rw[bC] at this;show codeOk (acr _) _=ah;rw[sp2];exact this.1);have xJ:codeOk a.tmps.size rec.body=ah:=(by have:=m9;unfold Fp at this;rw[bC] at this;show codeOk (acr _) _=ah;rw[sp2];exact this.1);have EV:Frame.round lg mm.fn ((mm.params.zip fB).foldl (λtmps (x:Tmp × Value)=>tmps.setIfInBounds x.1 x.2) mm.tmps) mm.assign mm.body .normal=b.atR a [.code rec.assign,.beginRound,.code rec.body]:=(by simp only[Frame.round,Frame.atR,b,a,Ps,m5,m6]);have nocs:∀{K:aW} {p:Option (AV × Bool)} {base dR:List Frame},CS K .normal base p dR->dR=base:=by
       intro K p base dR c;generalize hq:CallKind.normal=q at c;cases c with|normal=>rfl|ret c0 rest h1=>exact absurd (hq.trans h1) bE|cV c0 rest x v r h1=>exact absurd (hq.trans h1) bE
      obtain⟨K1,w1,a1,cs1,ms1,L1⟩:=hR.code _ _ _ _ _ _ aj5 K w a b [.beginRound,.code rec.body] (tS::cs) (tS::cs) [] Pp (.normal rfl) hs nU;have akg:=nocs L1.cs;subst akg;obtain⟨nn,n1,n2,n3,n4,n5,n6,n7,n8,n9,n10,sbusy⟩:=L1.rq.eW (L1.le.γ _ _ hγ) CN .busy r1.pending;have aj8:=run_beginRound (P:=P) n1 (n2.trans akW);have akq:({nn with state:=.busy,pending:=r1.pending}:Loop)={nn with state:=.busy}:=(by rw[<-n3]);rw[akq] at sbusy;have KQ:Steps P (lone (Frame.round lg mm.fn ((mm.params.zip fB).foldl (λtmps (x:Tmp × Value)=>tmps.setIfInBounds x.1 x.2) mm.tmps) mm.assign mm.body .normal) (tS::cs) w)
       (lone (b.atR a1 [.code rec.body]) (tS::cs) (w1.putObj lg (.loop {nn with state:=.busy}))):=by
       rw[EV];exact Steps.trans L1.arr (.one (stepR_beginRound rfl aj8))
      have awt:∀r∈ms1,r∉K.md:=λr hr=>(L1.marks r hr).resolve_left bE;have body:∀(out:Xt) (e2:Env) (h2:aq),R.code rec.body e1 {h1 with loops:=h1.loops.set l {r1 with state:=.busy}}=aa (out,e2,h2)->
       ∃K2 w2 a2 ms2,K.Le K2/\lM P G w0 K2 h2 w2/\oh P K2 e2 a2 b ms2/\oI P K2 (lone (b.atR a1 [.code rec.body]) (tS::cs) (w1.putObj lg (.loop {nn with state:=.busy}))) b [] (tS::cs) out a2 w2:=by
       intro out e2 h2 Pf;obtain⟨K2,w2,a2,cs2,ms2,L2⟩:=hR.code _ _ _ _ _ _ Pf K1 _ a1 b [] (tS::cs) (tS::cs) ms1 L1.frame L1.cs sbusy (by rw[L1.size];exact xJ);have Pj:=nocs L2.cs;subst Pj;exact⟨K2,w2,a2,ms2,L1.le.trans L2.le,L2.rq,L2.frame,L2.arr⟩
      have ending:∀(h2:aq) (out:eY) (hh:aq) (st:LoopState) (pe:Option Code) (bb:Bool) (K2:aW) (w2:World),K.Le K2->lM P G w0 K2 h2 w2->pe.isNone=bb->(if pe.isNone then LoopState.ready else .done)=st->
       ((h2.loops[l]?).map λr=>(eY.ret (.v (.bool bb)),{h2 with loops:=h2.loops.set l {r with state:=st,pending:=pe}}))=aa (out,hh)->
       ∃v w3,(Instr.endRound lg pe).run P w2=.ok (.bool bb) w3/\lM P G w0 K2 hh w3/\out=.ret (.v (.bool bb))/\aX K2 (.v (.bool bb)) v/\v=.bool bb:=by
       intro h2 out hh st pe bb K2 w2 le2 s2 uT bT XP;simp only[dx,dn] at XP;obtain⟨r2,jD,rfl,rfl⟩:=XP;obtain⟨qq,q1,q2,q3,-,-,-,-,-,-,-,send⟩:=s2.eW (le2.γ _ _ hγ) jD st pe;have ug:=run_endRound (P:=P) pe q1;rw[bT,uT] at ug;exact⟨_,_,ug,send,rfl,.v _ rfl,rfl⟩
      have pT:∀{K2:aW} {e2:Env} {a2:Act} {ms2:List Nat},oh P K2 e2 a2 b ms2->e2.round=aa l->a2.defers=[]:=(by intro K2 e2 a2 ms2 hf hr;have:=hf.round;rw[hr] at this;obtain⟨_,_,_,_,h1,_⟩:=this;exact h1);refine⟨mm.fn,(mm.params.zip fB).foldl (λtmps (x:Tmp × Value)=>tmps.setIfInBounds x.1 x.2) mm.tmps,mm.assign,mm.body,?_⟩;split at he
      ·rename_i e2 h2 nw;obtain⟨K2,w2,a2,ms2,le2,s2,f2,vU⟩:=body _ _ _ nw;obtain⟨v,w3,ug,s3,rfl,iK,rfl⟩:=ending h2 r h' .ready au ah K2 w2 le2 s2 rfl rfl he;exact⟨K2,w3,hy,le2,s3,_,iK,KQ.trans (Steps.trans vU (.one (stepR_round_end rfl rfl ug)))⟩
      ·rename_i e2 h2 nw;obtain⟨K2,w2,a2,ms2,le2,s2,f2,todo,vU⟩:=body _ _ _ nw;obtain⟨v,w3,ug,s3,rfl,iK,rfl⟩:=ending h2 r h' .done (aa .ret) az K2 w2 le2 s2 rfl rfl he;exact⟨K2,w3,hy,le2,s3,_,iK,KQ.trans (vU.trans (.one (stepR_round_ret rfl rfl ug)))⟩
      ·rename_i id e2 h2 nw;obtain⟨K2,w2,a2,ms2,le2,s2,f2,todo,qQ,vU⟩:=body _ _ _ nw;obtain⟨v,w3,ug,s3,rfl,iK,rfl⟩:=ending h2 r h' .done (aa (.exit id)) az K2 w2 le2 s2 rfl rfl he;exact⟨K2,w3,hy,le2,s3,_,iK,KQ.trans (vU.trans (.one (stepR_round_exit rfl rfl (qQ.trans rfl) ug)))⟩
      ·rename_i x e2 h2 nw;simp only[dP,dn] at he;obtain⟨rfl,rfl⟩:=he;obtain⟨K2,w2,a2,ms2,le2,s2,f2,todo,v,hx,vU⟩:=body _ _ _ nw;have hd:a2.defers=[]:=by
        have:=f2.round;cases hq:e2.round with
        |none=>rw[hq] at this;cases this
        |some l'=>rw[hq] at this;obtain⟨_,_,_,_,h1,_⟩:=this;exact h1
       obtain⟨fnn,Pq⟩:=Option.isSome_iff_exists.1 Xx;exact⟨K2,w2,hy,le2,s2,v,_,hx,KQ.trans vU,rfl,hd,fnn,Pq⟩
      ·cases he
     ·cases he
    ·cases he
   ·cases he
  ·cases he
def LI(hp:Prog P){prims:FuncId->Option (List AV->aq->Option (AV × aq))}(o6:∀g p,prims g=aa p->tO P G w0 g p):∀n,wW P G w0 (iM P G prims n):=by
 intro n
 induction n with
 |zero=>
  refine⟨?_,?_,?_,?_⟩
  ·intro c e h out e' h' he;cases he
  ·intro g args h r h' he;cases he
  ·intro g args m h x m' h' he;cases he
  ·intro l args h r h' he;cases he
 |succ n ih=>exact⟨ahi hp.names hp.mixed ih,ajh hp o6 ih,ah1 hp ih,aq8 ih⟩
end
end Go.AE
end
section
namespace Go.AE
structure oO(R R':Rec):Prop where
 code:∀c e h r,R.code c e h=aa r->R'.code c e h=aa r
 call:∀g a h r,R.call g a h=aa r->R'.call g a h=aa r
 jY:∀g a m h r,R.jY g a m h=aa r->R'.jY g a m h=aa r
 round:∀l a h r,R.round l a h=aa r->R'.round l a h=aa r
section
variable {P:Program} {G:Nat->Option (List AV)} {R R':Rec}
def agp(le:oO R R'){e:Env}{h:aq}{c:Call}{r:eY × aq}(hc:mA P R e h c=aa r):mA P R' e h c=aa r:=by
 unfold mA at hc ⊢;cases pP:c.callee with
 |builtin b=>rw[pP] at hc;cases hc
 |value f=>
  simp only[pP] at hc ⊢;split at hc
  ·rename_i h1;(try simp only[h1]);exact le.call _ _ _ _ hc
  ·rename_i h1;(try simp only[h1]);exact le.round _ _ _ _ hc
  ·cases hc
 |invoke v m=>
  simp only[pP] at hc ⊢;split at hc
  ·rename_i h1
   (try simp only[h1])
   split at hc
   ·rename_i h2;(try simp only[h2]);exact le.call _ _ _ _ hc
   ·cases hc
  ·cases hc
def Fs(le:oO R R'){e:Env}{h:aq}{o:Oper}{r:eY × Env × aq}(ho:eo P G R e h o=aa r):eo P G R' e h o=aa r:=by
 unfold eo at ho ⊢;split at ho
 ·exact ho
 ·exact ho
 ·exact ho
 ·simp only[dx] at ho ⊢;obtain⟨q,hq,he⟩:=ho;exact⟨q,agp le hq,he⟩
 ·exact ho
 ·exact ho
 ·exact ho
def pX(le:oO R R'){ops:Array Oper}:∀{l:List Nat} {e:Env} {h:aq} {r:Xt × Env × aq},di P G R ops l e h=aa r->di P G R' ops l e h=aa r:=by
 intro l
 induction l with
 |nil=>intro e h r ho;exact ho|cons i l ih=>
  intro e h r ho;simp only[di] at ho ⊢;cases HQ:ops[i]? with
  |none=>rw[HQ] at ho;cases ho
  |some o=>
   rw[HQ] at ho;simp only at ho ⊢;cases hw:fD ops e o with
   |none=>rw[hw] at ho;cases ho
   |some b=>
    rw[hw] at ho;cases b with
    |false=>exact ih ho|true=>
     simp only at ho ⊢;cases bL:eo P G R e h o with
     |none=>rw[bL] at ho;cases ho
     |some q=>
      rw[bL] at ho;rw[Fs le bL];obtain⟨r1,e1,h1⟩:=q;cases r1 with|ret x=>exact ih ho|panic x=>exact ho
def My(le:oO R R'){ops:Array Oper}{e:Env}{h:aq}{r m:Nat}(hs:qx P G R ops e h r m=ah):qx P G R' ops e h r m=ah:=by
 unfold qx at hs ⊢;split at hs
 ·rename_i o er hr em hm h1 h2 h3;rw[h1,pX le h2,pX le h3];exact hs
 ·cases hs
def GV{ops:Array Oper}{e:Env}{h:aq}{k:Nat}:nk P G R ops e h k=ah↔Am P G R ops e h k:=by unfold nk;exact @decide_eq_true_iff _ (Classical.propDecidable _)
def J4(le:oO R R'){ops:Array Oper}{e:Env}{h:aq}{k:Nat}(hc:nk P G R ops e h k=ah):nk P G R' ops e h k=ah:=by rw[GV] at hc ⊢;obtain⟨o,x,er,hr,h1,h2,h3,h4⟩:=hc;refine⟨o,x,er,hr,h1,h2,pX le h3,λm hm=>?_⟩;obtain⟨em,CD,h5,h6⟩:=h4 m hm;exact⟨em,CD,pX le h5,Fs le h6⟩
def OE(le:oO R R'){ops:Array Oper}{e:Env}{h:aq}(hs:mQ P G R ops e h=ah):mQ P G R' ops e h=ah:=by
 unfold mQ at hs ⊢;simp only[bC,ey,fQ,vD] at hs ⊢;refine⟨hs.1,λj hj i hi=>?_⟩;rcases hs.2 j hj i hi with((h1|h1)|h1)|h1
 ·exact .inl (.inl (.inl h1))
 ·exact .inl (.inl (.inr h1))
 ·refine .inl (.inr ?_);unfold mo at h1 ⊢;rw[bC] at h1 ⊢;refine⟨h1.1,?_⟩;have h2:=h1.2;split at h2
  ·rename_i hx hy;(try simp only[hx,hy]);exact My le h2
  ·rename_i hx hy;(try simp only[hx,hy]);exact My le h2
  ·cases h2
 ·exact .inr ⟨h1.1,h1.2.imp (J4 le) (J4 le)⟩
def ZQ(le:oO R R'){ops:Array Oper}{e:Env}{h:aq}{i:Nat}(hs:tF P G R ops e h i=ah):tF P G R' ops e h i=ah:=by
 unfold tF at hs ⊢;split at hs
 ·rename_i h1 h2;rw[pX le h1,pX le h2];exact hs
 ·cases hs
def stores_le(le:oO R R'){ops:Array Oper}{e:Env}{h:aq}(D:uC P G R ops e h=ah):uC P G R' ops e h=ah:=by obtain⟨i,h1,h2,h3,h4⟩:=stores_cases D;exact stores_of h1 h2 (ZQ le h3) (OE le h4)
def any_le(le:oO R R'){ops:Array Oper}{e:Env}{h:aq}(D:(mQ P G R ops e h||uC P G R ops e h)=ah):(mQ P G R' ops e h||uC P G R' ops e h)=ah:=by
 rcases (vD _ _).mp D with q|q
 ·rw[OE le q];rfl
 ·rw[stores_le le q,Tf]
def Vx(le:oO R R'){c:Code}{e:Env}{h:aq}{r:Xt × Env × aq}(hc:fM P G R c e h=aa r):fM P G R' c e h=aa r:=by
 cases c with
 |region id ops draw=>
  cases draw with
  |false=>simp only[fM,jO,if_false] at hc ⊢;exact pX le hc|true=>
   simp only[fM,if_true] at hc ⊢;split at hc
   ·rename_i hf;split at hc
    ·rename_i h1;rw[aG (any_le le hf)];simp only[pX le h1];exact hc
    ·cases hc
   ·cases hc
 |seq a b=>
  simp only[fM] at hc ⊢;cases ha:R.code a e h with
  |none=>rw[ha] at hc;cases hc
  |some q=>
   rw[ha] at hc;rw[le.code _ _ _ _ ha];obtain⟨o,e1,h1⟩:=q;cases o with|normal=>exact le.code _ _ _ _ hc|_=>exact hc
 |scope a=>simp only[fM] at hc ⊢;exact le.code _ _ _ _ hc|cond q a b=>
  simp only[fM] at hc ⊢;split at hc
  ·rename_i h1;(try simp only[h1]);exact le.code _ _ _ _ hc
  ·rename_i h1;(try simp only[h1]);exact le.code _ _ _ _ hc
  ·cases hc
 |block id a=>
  simp only[fM] at hc ⊢;cases ha:R.code a e h with
  |none=>rw[ha] at hc;cases hc
  |some q=>rw[ha] at hc;rw[le.code _ _ _ _ ha];exact hc
 |loop a=>
  simp only[fM] at hc ⊢;cases ha:R.code a e h with
  |none=>rw[ha] at hc;cases hc
  |some q=>
   rw[ha] at hc;rw[le.code _ _ _ _ ha];obtain⟨o,e1,h1⟩:=q;cases o with|normal=>exact le.code _ _ _ _ hc|_=>exact hc
 |rangeFunc f ps a b=>
  simp only[fM] at hc ⊢;split at hc
  ·rename_i g first aD uh
   (try simp only[uh])
   generalize de:R.call g _ _=q at hc;cases q with
   |none=>cases hc
   |some q=>rw[le.call _ _ _ _ de];exact hc
  ·cases hc
 |_=>exact hc
def S6(le:oO R R'){fn:Func}{e:Env}:∀{ds:List (FuncId × List AV)} {m:Option (AV × Bool)} {h:aq} {r:eY × aq},iq P G R fn e ds m h=aa r->iq P G R' fn e ds m h=aa r:=by
 intro ds
 induction ds with
 |nil=>intro m h r hu;cases m<;>exact hu
 |cons d ds ih=>
  intro m h r hu;obtain⟨g,args⟩:=d;simp only[iq] at hu ⊢;cases hd:R.jY g args m h with
  |none=>rw[hd] at hu;cases hu
  |some q=>
   rw[hd] at hu;rw[le.jY _ _ _ _ _ hd];obtain⟨r1,m1,h1⟩:=q;cases r1 with
   |panic x=>exact hu|ret x=>
    rcases m1 with _|⟨y,b⟩
    ·exact ih hu
    ·cases b<;>exact ih hu
def Od(le:oO R R'){g:FuncId}{args:List AV}{m:Option (AV × Bool)}{h:aq}{r:eY × Option (AV × Bool) × aq}(hb:sO P G R g args m h=aa r):sO P G R' g args m h=aa r:=by
 unfold sO at hb ⊢;split at hb
 ·cases hb
 ·rename_i fn ig;rw[ig] at *
  simp only;split at hb
  ·cases hb
  ·rename_i body nw;rw[nw] at *
   (try simp only)
   generalize Cp:R.code body _ h=q at hb;cases q with
   |none=>cases hb
   |some q=>
    rw[le.code _ _ _ _ Cp];obtain⟨o,e1,h1⟩:=q;cases o with
    |exit id=>cases hb
    |_=>simp only[dx] at hb ⊢;obtain⟨q,hq,he⟩:=hb;exact⟨q,S6 le hq,he⟩
def Wq(le:oO R R'){prims:FuncId->Option (List AV->aq->Option (AV × aq))}{g:FuncId}{args:List AV}{h:aq}{r:eY × aq}(hb:rL P G R prims g args h=aa r):rL P G R' prims g args h=aa r:=by
 unfold rL at hb ⊢;split at hb
 ·exact hb
 ·simp only[dx] at hb ⊢;obtain⟨q,hq,he⟩:=hb;exact⟨q,Od le hq,he⟩
def aaE(le:oO R R'){l:Nat}{args:List AV}{h:aq}{r:eY × aq}(hb:wG R l args h=aa r):wG R' l args h=aa r:=by
 unfold wG at hb ⊢;split at hb
 ·cases hb
 ·split at hb
  ·rename_i dL;simp only[dL,if_true];split at hb
   ·rename_i e1 h1 ha;simp only[le.code _ _ _ _ ha];split at hb
    ·rename_i r2 jD;split at hb
     ·rename_i bT;simp only[bT,if_true];generalize Cp:R.code _ e1 _=q at hb;cases q with
      |none=>cases hb
      |some q=>rw[le.code _ _ _ _ Cp];exact hb
     ·cases hb
    ·cases hb
   ·cases hb
  ·cases hb
variable {prims:FuncId->Option (List AV->aq->Option (AV × aq))}
def IB(n:Nat):oO (iM P G prims n) (iM P G prims (n+1)):=by
 induction n with
 |zero=>
  refine⟨?_,?_,?_,?_⟩
  ·intro c e h r hh;cases hh
  ·intro g a h r hh;cases hh
  ·intro g a m h r hh;cases hh
  ·intro l a h r hh;cases hh
 |succ n ih=>exact⟨λc e h r hh=>Vx ih hh,λg a h r hh=>Wq ih hh,λg a m h r hh=>Od ih hh,λl a h r hh=>aaE ih hh⟩
def jo{n m:Nat}(h:n<=m):oO (iM P G prims n) (iM P G prims m):=by
 induction m with
 |zero=>rw[Nat.le_zero.1 h];exact⟨λ_ _ _ _ h=>h,λ_ _ _ _ h=>h,λ_ _ _ _ _ h=>h,λ_ _ _ _ h=>h⟩|succ m ih=>
  rcases dW n (m+1) with aA|eg
  ·have h1:=ih (BE.1 aA);have h2:=IB (P:=P) (G:=G) (prims:=prims) m;exact⟨λc e h r hh=>h2.code _ _ _ _ (h1.code _ _ _ _ hh),λg a h r hh=>h2.call _ _ _ _ (h1.call _ _ _ _ hh),λg a m h r hh=>h2.jY _ _ _ _ _ (h1.jY _ _ _ _ _ hh),λl a h r hh=>h2.round _ _ _ _ (h1.round _ _ _ _ hh)⟩
  ·rw[BD h eg];exact⟨λ_ _ _ _ h=>h,λ_ _ _ _ h=>h,λ_ _ _ _ _ h=>h,λ_ _ _ _ h=>h⟩
end
noncomputable def A5{α:Type}(f:Nat->Option α):Option α:=by
 classical
 exact if h:∃r n,f n=aa r then aa h.choose else au
def Li{α}{f}(hm:∀n m r,n<=m->f n=aa r->f m=aa r){n}{r:α}(h:f n=aa r):A5 f=aa r:=by unfold A5;have qQ:∃r n,f n=aa r:=⟨r,n,h⟩;rw[dif_pos qQ];obtain⟨m,uX⟩:=qQ.choose_spec;have h1:=hm _ _ _ (Gz n m) h;have h2:=hm _ _ _ (DX n m) uX;rw[h1] at h2;exact h2.symm
def mI{α}{f}{r:α}(h:A5 f=aa r):∃n,f n=aa r:=by
 unfold A5 at h;split at h
 ·rename_i qQ;injection h with h;rw[<-h];exact qQ.choose_spec
 ·cases h
section
variable (P:Program) (G:Nat->Option (List AV)) (prims:FuncId->Option (List AV->aq->Option (AV × aq)))
noncomputable def whole:Rec where
 code c e h:=A5 λn=>(iM P G prims n).code c e h
 call g a h:=A5 λn=>(iM P G prims n).call g a h
 jY g a m h:=A5 λn=>(iM P G prims n).jY g a m h
 round l a h:=A5 λn=>(iM P G prims n).round l a h
end
section
variable {P:Program} {G:Nat->Option (List AV)} {prims:FuncId->Option (List AV->aq->Option (AV × aq))}
def Bn(n:Nat):oO (iM P G prims n) (whole P G prims):=
 ⟨λ_ _ _ _ h=>Li (λ_ _ _ hl hh=>(jo hl).code _ _ _ _ hh) h,λ_ _ _ _ h=>Li (λ_ _ _ hl hh=>(jo hl).call _ _ _ _ hh) h,
  λ_ _ _ _ _ h=>Li (λ_ _ _ hl hh=>(jo hl).jY _ _ _ _ _ hh) h,λ_ _ _ _ h=>Li (λ_ _ _ hl hh=>(jo hl).round _ _ _ _ hh) h⟩
def Ta{w0:World}(hp:Prog P)(o6:∀g p,prims g=aa p->tO P G w0 g p):wW P G w0 (whole P G prims):=by
 refine⟨?_,?_,?_,?_⟩
 ·intro c e h out e' h' he;obtain⟨n,hn⟩:=mI he;exact(LI hp o6 n).code c e h out e' h' hn
 ·intro g args h r h' he;obtain⟨n,hn⟩:=mI he;exact(LI hp o6 n).call g args h r h' hn
 ·intro g args m h x m' h' he;obtain⟨n,hn⟩:=mI he;exact(LI hp o6 n).jY g args m h x m' h' hn
 ·intro l args h r h' he;obtain⟨n,hn⟩:=mI he;exact(LI hp o6 n).round l args h r h' hn
def two{α β:Type}{f:Nat->Option α}{g:Nat->Option β}{a}{b}(hf:∀n m r,n<=m->f n=aa r->f m=aa r)(hg:∀n m r,n<=m->g n=aa r->g m=aa r)(h1:∃n,f n=aa a)(h2:∃n,g n=aa b):
 ∃n,f n=aa a/\g n=aa b:=by
 obtain⟨n,h1⟩:=h1;obtain⟨m,h2⟩:=h2;exact⟨max n m,hf _ _ _ (Gz _ _) h1,hg _ _ _ (DX _ _) h2⟩
def ago{e:Env}{h:aq}{c:Call}{r:eY × aq}(hc:mA P (whole P G prims) e h c=aa r):∃n,mA P (iM P G prims n) e h c=aa r:=by
 unfold mA at hc ⊢;cases pP:c.callee with
 |builtin b=>rw[pP] at hc;cases hc
 |value f=>
  simp only[pP] at hc ⊢;split at hc
  ·exact mI hc
  ·exact mI hc
  ·cases hc
 |invoke v m=>
  simp only[pP] at hc ⊢;split at hc
  ·split at hc
   ·rename_i h2;(try simp only[h2]);exact mI hc
   ·cases hc
  ·cases hc
def ZM{e:Env}{h:aq}{o:Oper}{r:eY × Env × aq}(ho:eo P G (whole P G prims) e h o=aa r):∃n,eo P G (iM P G prims n) e h o=aa r:=by
 unfold eo at ho ⊢;split at ho
 ·exact⟨0,ho⟩
 ·exact⟨0,ho⟩
 ·exact⟨0,ho⟩
 ·simp only[dx] at ho ⊢;obtain⟨q,hq,he⟩:=ho;obtain⟨n,hn⟩:=ago hq;exact⟨n,q,hn,he⟩
 ·exact⟨0,ho⟩
 ·exact⟨0,ho⟩
 ·exact⟨0,ho⟩
def Be{ops:Array Oper}:∀{l:List Nat} {e:Env} {h:aq} {r:Xt × Env × aq},di P G (whole P G prims) ops l e h=aa r->∃n,di P G (iM P G prims n) ops l e h=aa r:=by
 intro l
 induction l with
 |nil=>intro e h r ho;exact⟨0,ho⟩|cons i l ih=>
  intro e h r ho;simp only[di] at ho ⊢;cases HQ:ops[i]? with
  |none=>rw[HQ] at ho;cases ho
  |some o=>
   rw[HQ] at ho;simp only at ho ⊢;cases hw:fD ops e o with
   |none=>rw[hw] at ho;cases ho
   |some b=>
    rw[hw] at ho;cases b with
    |false=>exact ih ho|true=>
     simp only at ho ⊢;cases bL:eo P G (whole P G prims) e h o with
     |none=>rw[bL] at ho;cases ho
     |some q=>
      rw[bL] at ho;have h1:=ZM bL;obtain⟨r1,e1,oW⟩:=q;cases r1 with
      |panic x=>obtain⟨n,hn⟩:=h1;exact⟨n,by rw[hn];exact ho⟩
      |ret x=>obtain⟨n,h1,h2⟩:=two (λ_ _ _ hl hh=>Fs (jo hl) hh) (λ_ _ _ hl hh=>pX (jo hl) hh) h1 (ih ho);exact⟨n,by rw[h1];exact h2⟩
def abC{ops:Array Oper}{e:Env}{h:aq}{r m:Nat}(hs:qx P G (whole P G prims) ops e h r m=ah):∃n,qx P G (iM P G prims n) ops e h r m=ah:=by
 unfold qx at hs ⊢;split at hs
 ·rename_i o er hr em hm h1 h2 h3;obtain⟨n,h2,h3⟩:=two (λ_ _ _ hl hh=>pX (jo hl) hh) (λ_ _ _ hl hh=>pX (jo hl) hh) (Be h2) (Be h3);refine⟨n,?_⟩;rw[h1,h2,h3];exact hs
 ·cases hs
def many{p:Nat->Nat->Prop}(hm:∀i n m,n<=m->p i n->p i m):∀k,(∀i,i<k->∃n,p i n)->∃n,∀i,i<k->p i n:=by
 intro k
 induction k with
 |zero=>intro _;exact⟨0,λi hi=>absurd hi (Nat.not_lt_zero i)⟩|succ k ih=>
  intro h;obtain⟨n,hn⟩:=ih λi hi=>h i (wT hi);obtain⟨m,uX⟩:=h k (Nat.lt_succ_self k);refine⟨max n m,λi hi=>?_⟩;rcases dW i k with aA|eg
  ·exact hm _ _ _ (Gz _ _) (hn i aA)
  ·rw[BD (BE.1 hi) eg];exact hm _ _ _ (DX _ _) uX
def atQ{R R':Rec}(le:oO R R'){ops:Array Oper}{e:Env}{h:aq}{i j:Nat}(h1:mo P G R ops e h i j=ah):mo P G R' ops e h i j=ah:=by
 unfold mo at h1 ⊢;rw[bC] at h1 ⊢;refine⟨h1.1,?_⟩;have h2:=h1.2;split at h2
 ·rename_i hx hy;(try simp only[hx,hy]);exact My le h2
 ·rename_i hx hy;(try simp only[hx,hy]);exact My le h2
 ·cases h2
def atP{ops:Array Oper}{e:Env}{h:aq}{i j:Nat}(h1:mo P G (whole P G prims) ops e h i j=ah):∃n,mo P G (iM P G prims n) ops e h i j=ah:=by
 unfold mo at h1 ⊢;rw[bC] at h1;have h2:=h1.2;split at h2
 ·rename_i hx hy;obtain⟨n,hn⟩:=abC h2;exact⟨n,by rw[bC];exact⟨h1.1,by(try simp only[hx,hy]);exact hn⟩⟩
 ·rename_i hx hy;obtain⟨n,hn⟩:=abC h2;exact⟨n,by rw[bC];exact⟨h1.1,by(try simp only[hx,hy]);exact hn⟩⟩
 ·cases h2
def Vb{ops:Array Oper}{e:Env}{h:aq}{k:Nat}(hc:nk P G (whole P G prims) ops e h k=ah):∃n,nk P G (iM P G prims n) ops e h k=ah:=by
 rw[GV] at hc;obtain⟨o,x,er,hr,h1,h2,h3,h4⟩:=hc;obtain⟨n0,h3⟩:=Be h3;have key:∀m,m<ops.size+1->∃n,∃em hm,di P G (iM P G prims n) ops (bM m) e h=aa (.normal,em,hm)/\eo P G (iM P G prims n) er hm o=aa (.ret x,er,hm):=by intro m hm;obtain⟨em,CD,h5,h6⟩:=h4 m (BE.1 hm);obtain⟨n,q1,q2⟩:=two (λ_ _ _ hl hh=>pX (jo hl) hh) (λ_ _ _ hl hh=>Fs (jo hl) hh) (Be h5) (ZM h6);exact⟨n,em,CD,q1,q2⟩
 obtain⟨n1,hn⟩:=many (p:=λm n=>∃em hm,di P G (iM P G prims n) ops (bM m) e h=aa (.normal,em,hm)/\eo P G (iM P G prims n) er hm o=aa (.ret x,er,hm))
  (λm n n' hl ⟨em,hm,q1,q2⟩=>⟨em,hm,pX (jo hl) q1,Fs (jo hl) q2⟩) (ops.size+1) key
 refine⟨max n0 n1,?_⟩;rw[GV];refine⟨o,x,er,hr,h1,h2,pX (jo (Gz _ _)) h3,λm hm=>?_⟩;obtain⟨em,CD,q1,q2⟩:=hn m (BE.2 hm);exact⟨em,CD,pX (jo (DX _ _)) q1,Fs (jo (DX _ _)) q2⟩
noncomputable def zA(P:Program)(G:Nat->Option (List AV))(R:Rec)(ops:Array Oper)(e:Env)(h:aq)(i j:Nat):Bool:=
 ((Region.before ops).getD j 0).testBit i||zC ops i j||mo P G R ops e h i j||(qh ops i j&&(nk P G R ops e h i||nk P G R ops e h j))
def ZS{R R':Rec}(le:oO R R'){ops:Array Oper}{e:Env}{h:aq}{i j:Nat}(hp:zA P G R ops e h i j=ah):zA P G R' ops e h i j=ah:=by
 unfold zA at hp ⊢;simp only[vD,bC] at hp ⊢;rcases hp with(h1|h1)|h1
 ·exact .inl (.inl h1)
 ·exact .inl (.inr (atQ le h1))
 ·exact .inr ⟨h1.1,h1.2.imp (J4 le) (J4 le)⟩
def anL{ops:Array Oper}{e:Env}{h:aq}{i j:Nat}(hp:zA P G (whole P G prims) ops e h i j=ah):∃n,zA P G (iM P G prims n) ops e h i j=ah:=by
 unfold zA at hp ⊢;simp only[vD,bC] at hp ⊢;rcases hp with(h1|h1)|⟨h1,h2|h2⟩
 ·exact⟨0,.inl (.inl h1)⟩
 ·obtain⟨n,hn⟩:=atP h1;exact⟨n,.inl (.inr hn)⟩
 ·obtain⟨n,hn⟩:=Vb h2;exact⟨n,.inr ⟨h1,.inl hn⟩⟩
 ·obtain⟨n,hn⟩:=Vb h2;exact⟨n,.inr ⟨h1,.inr hn⟩⟩
def Wb{ops:Array Oper}{e:Env}{h:aq}(hs:mQ P G (whole P G prims) ops e h=ah):∃n,mQ P G (iM P G prims n) ops e h=ah:=by
 unfold mQ at hs ⊢;simp only[bC,ey,fQ] at hs ⊢;obtain⟨h1,h2⟩:=hs;have key:∀j,j<ops.size->∃n,∀i,i<j->zA P G (iM P G prims n) ops e h i j=ah:=by intro j hj;exact many (p:=λi n=>zA P G (iM P G prims n) ops e h i j=ah) (λi n m hl=>ZS (jo hl)) j λi hi=>anL (h2 j hj i hi)
 obtain⟨n,hn⟩:=many (p:=λj n=>∀i,i<j->zA P G (iM P G prims n) ops e h i j=ah) (λj n m hl hh i hi=>ZS (jo hl) (hh i hi)) ops.size key;exact⟨n,h1,hn⟩
def anH{ops:Array Oper}{e:Env}{h:aq}{i:Nat}(hs:tF P G (whole P G prims) ops e h i=ah):∃n,tF P G (iM P G prims n) ops e h i=ah:=by
 unfold tF at hs ⊢;split at hs
 ·rename_i h1 h2;obtain⟨n,h1,h2⟩:=two (λ_ _ _ hl hh=>pX (jo hl) hh) (λ_ _ _ hl hh=>pX (jo hl) hh) (Be h1) (Be h2);refine⟨n,?_⟩;rw[h1,h2];exact hs
 ·cases hs
def stores_fin{ops:Array Oper}{e:Env}{h:aq}(D:uC P G (whole P G prims) ops e h=ah):∃n,uC P G (iM P G prims n) ops e h=ah:=by obtain⟨i,h1,h2,h3,h4⟩:=stores_cases D;obtain⟨n,hn⟩:=Wb h4;obtain⟨m,hm⟩:=anH h3;exact⟨max n m,stores_of h1 h2 (ZQ (jo (DX n m)) hm) (OE (jo (Gz n m)) hn)⟩
def ahh{c:Code}{e:Env}{h:aq}{r:Xt × Env × aq}(hc:fM P G (whole P G prims) c e h=aa r):∃n,fM P G (iM P G prims n) c e h=aa r:=by
 cases c with
 |region id ops draw=>
  cases draw with
  |false=>simp only[fM,jO,if_false] at hc ⊢;exact Be hc|true=>
   simp only[fM,if_true] at hc ⊢;split at hc
   ·rename_i hf;split at hc
    ·rename_i h1;obtain⟨n,hn⟩:∃n,(mQ P G (iM P G prims n) ops e h||uC P G (iM P G prims n) ops e h)=ah:=by
      rcases (vD _ _).mp hf with q|q
      ·obtain⟨n,hn⟩:=Wb q;exact⟨n,by rw[hn];rfl⟩
      ·obtain⟨n,hn⟩:=stores_fin q;exact⟨n,by rw[hn,Tf]⟩
     obtain⟨m,hm⟩:=Be h1;refine⟨max n m,?_⟩;rw[aG (any_le (jo (Gz n m)) hn)];simp only[pX (jo (DX n m)) hm];exact hc
    ·cases hc
   ·cases hc
 |seq a b=>
  simp only[fM] at hc ⊢;cases ha:(whole P G prims).code a e h with
  |none=>rw[ha] at hc;cases hc
  |some q=>
   rw[ha] at hc;have h1:=mI ha;obtain⟨o,e1,oW⟩:=q;by_cases ja:o=.normal
   ·subst ja;obtain⟨n,h1,h2⟩:=two (λ_ _ _ hl hh=>(jo hl).code _ _ _ _ hh) (λ_ _ _ hl hh=>(jo hl).code _ _ _ _ hh) h1 (mI hc);exact⟨n,by rw[h1];exact h2⟩
   ·obtain⟨n,h1⟩:=h1;refine⟨n,?_⟩;rw[h1];cases o<;>first|exact absurd rfl ja|exact hc
 |scope a=>simp only[fM] at hc ⊢;exact mI hc|cond q a b=>
  simp only[fM] at hc ⊢;split at hc
  ·exact mI hc
  ·exact mI hc
  ·cases hc
 |block id a=>
  simp only[fM] at hc ⊢;cases ha:(whole P G prims).code a e h with
  |none=>rw[ha] at hc;cases hc
  |some q=>rw[ha] at hc;obtain⟨n,h1⟩:=mI ha;exact⟨n,by rw[h1];exact hc⟩
 |loop a=>
  simp only[fM] at hc ⊢;cases ha:(whole P G prims).code a e h with
  |none=>rw[ha] at hc;cases hc
  |some q=>
   rw[ha] at hc;have h1:=mI ha;obtain⟨o,e1,oW⟩:=q;by_cases ja:o=.normal
   ·subst ja;obtain⟨n,h1,h2⟩:=two (λ_ _ _ hl hh=>(jo hl).code _ _ _ _ hh) (λ_ _ _ hl hh=>(jo hl).code _ _ _ _ hh) h1 (mI hc);exact⟨n,by rw[h1];exact h2⟩
   ·obtain⟨n,h1⟩:=h1;refine⟨n,?_⟩;rw[h1];cases o<;>first|exact absurd rfl ja|exact hc
 |rangeFunc f ps a b=>
  simp only[fM] at hc ⊢;split at hc
  ·generalize de:(whole P G prims).call _ _ _=q at hc;cases q with
   |none=>cases hc
   |some q=>obtain⟨n,hn⟩:=mI de;exact⟨n,by rw[hn];exact hc⟩
  ·cases hc
 |_=>exact⟨0,hc⟩
def avb{fn:Func}{e:Env}:∀{ds:List (FuncId × List AV)} {m:Option (AV × Bool)} {h:aq} {r:eY × aq},iq P G (whole P G prims) fn e ds m h=aa r->∃n,iq P G (iM P G prims n) fn e ds m h=aa r:=by
 intro ds
 induction ds with
 |nil=>intro m h r hu;exact⟨0,by cases m<;>exact hu⟩
 |cons d ds ih=>
  intro m h r hu;obtain⟨g,args⟩:=d;simp only[iq] at hu ⊢;cases hd:(whole P G prims).jY g args m h with
  |none=>rw[hd] at hu;cases hu
  |some q=>
   rw[hd] at hu;have h1:=mI hd;obtain⟨r1,m1,oW⟩:=q;cases r1 with
   |panic x=>simp at hu|ret x=>
    have fin:∀m2,iq P G (whole P G prims) fn e ds m2 oW=aa r->∃n,(iM P G prims n).jY g args m h=aa (.ret x,m1,oW)/\iq P G (iM P G prims n) fn e ds m2 oW=aa r:=λm2 hu=>
     two (λ_ _ _ hl hh=>(jo hl).jY _ _ _ _ _ hh) (λ_ _ _ hl hh=>S6 (jo hl) hh) h1 (ih hu)
    rcases m1 with _|⟨y,b⟩
    ·obtain⟨n,h1,h2⟩:=fin _ hu;exact⟨n,by rw[h1];exact h2⟩
    ·cases b with
     |true=>obtain⟨n,h1,h2⟩:=fin _ hu;exact⟨n,by rw[h1];exact h2⟩
     |false=>obtain⟨n,h1,h2⟩:=fin _ hu;exact⟨n,by rw[h1];exact h2⟩
def UX{g:FuncId}{args:List AV}{m:Option (AV × Bool)}{h:aq}{r:eY × Option (AV × Bool) × aq}(hb:sO P G (whole P G prims) g args m h=aa r):∃n,sO P G (iM P G prims n) g args m h=aa r:=by
 unfold sO at hb ⊢;split at hb
 ·cases hb
 ·rename_i fn ig;simp only[ig];split at hb
  ·cases hb
  ·rename_i body nw
   (try simp only[nw])
   generalize Cp:(whole P G prims).code body _ h=q at hb;cases q with
   |none=>cases hb
   |some q=>
    have h1:=mI Cp;obtain⟨o,e1,oW⟩:=q;cases o with
    |exit id=>cases hb
    |_=>simp only[dx] at hb;obtain⟨q,hq,he⟩:=hb;obtain⟨n,h1,h2⟩:=two (λ_ _ _ hl hh=>(jo hl).code _ _ _ _ hh) (λ_ _ _ hl hh=>S6 (jo hl) hh) h1 (avb hq);exact⟨n,by rw[h1];simp only[h2,ff,he]⟩
def ajg{g:FuncId}{args:List AV}{h:aq}{r:eY × aq}(hb:rL P G (whole P G prims) prims g args h=aa r):∃n,rL P G (iM P G prims n) prims g args h=aa r:=by
 unfold rL at hb ⊢;split at hb
 ·exact⟨0,hb⟩
 ·simp only[dx] at hb ⊢;obtain⟨q,hq,he⟩:=hb;obtain⟨n,hn⟩:=UX hq;exact⟨n,q,hn,he⟩
def aq5{l:Nat}{args:List AV}{h:aq}{r:eY × aq}(hb:wG (whole P G prims) l args h=aa r):∃n,wG (iM P G prims n) l args h=aa r:=by
 unfold wG at hb ⊢;split at hb
 ·cases hb
 ·rename_i rc hrc
  (try simp only[hrc])
  split at hb
  ·rename_i dL;simp only[dL,if_true];split at hb
   ·rename_i e1 h1 ha;split at hb
    ·rename_i r2 jD;split at hb
     ·rename_i bT;generalize Cp:(whole P G prims).code _ e1 _=q at hb;cases q with
      |none=>cases hb
      |some q=>obtain⟨n,g1,g2⟩:=two (λ_ _ _ hl hh=>(jo hl).code _ _ _ _ hh) (λ_ _ _ hl hh=>(jo hl).code _ _ _ _ hh) (mI ha) (mI Cp);exact⟨n,by rw[g1];simp only[jD,bT,if_true];rw[g2];exact hb⟩
     ·cases hb
    ·cases hb
   ·cases hb
  ·cases hb
def Lw{α:Type}{a b:Option α}(h1:∀r,a=aa r->b=aa r)(h2:∀r,b=aa r->a=aa r):a=b:=by
 cases ha:a with
 |some r=>exact(h1 r ha).symm|none=>
  cases hb:b with|none=>rfl|some r=>rw[h2 r hb] at ha;cases ha
def sF(c:Code)(e:Env)(h:aq):(whole P G prims).code c e h=fM P G (whole P G prims) c e h:=
 Lw (λr hr=>by
  obtain⟨n,hn⟩:=mI hr;have:=(IB (P:=P) (G:=G) (prims:=prims) n).code c e h r hn;exact Vx (Bn n) this)
  (λr hr=>by obtain⟨n,hn⟩:=ahh hr;exact(Bn (n+1)).code c e h r hn)
def Jq(g:FuncId)(a:List AV)(h:aq):(whole P G prims).call g a h=rL P G (whole P G prims) prims g a h:=
 Lw (λr hr=>by
  obtain⟨n,hn⟩:=mI hr;have:=(IB (P:=P) (G:=G) (prims:=prims) n).call g a h r hn;exact Wq (Bn n) this)
  (λr hr=>by obtain⟨n,hn⟩:=ajg hr;exact(Bn (n+1)).call g a h r hn)
def avy(g:FuncId)(a:List AV)(m:Option (AV × Bool))(h:aq):(whole P G prims).jY g a m h=sO P G (whole P G prims) g a m h:=
 Lw (λr hr=>by
  obtain⟨n,hn⟩:=mI hr;have:=(IB (P:=P) (G:=G) (prims:=prims) n).jY g a m h r hn;exact Od (Bn n) this)
  (λr hr=>by obtain⟨n,hn⟩:=UX hr;exact(Bn (n+1)).jY g a m h r hn)
def avz(l:Nat)(a:List AV)(h:aq):(whole P G prims).round l a h=wG (whole P G prims) l a h:=
 Lw (λr hr=>by
  obtain⟨n,hn⟩:=mI hr;have:=(IB (P:=P) (G:=G) (prims:=prims) n).round l a h r hn;exact aaE (Bn n) this)
  (λr hr=>by obtain⟨n,hn⟩:=aq5 hr;exact(Bn (n+1)).round l a h r hn)
end
end Go.AE
end
section
namespace Go.AE
def Env.st(e:Env)(d:Nat)(x:AV):Env:={e with tmps:=e.tmps.set d x}
def aoS(e:Env)(d:Nat)(x):e.put (aa d) x=e.st d x:=rfl
def aoQ(e:Env)(x):e.put au x=e:=rfl
def Mx(e:Env)(d t)(x):(e.st d x).get t=if d=t then x else e.get t:=Fk e.tmps d t x
def atL(e:Env)(d)(x):(e.st d x).defers=e.defers:=rfl
def atM(e:Env)(d)(x):(e.st d x).cV=e.cV:=rfl
def abA(e:Env)(d)(x):(e.st d x).round=e.round:=rfl
def Env.start(args:List AV)(p:Option (AV × Bool)):Env:={tmps:={ch:=[],base:=args},defers:=[],cV:=p,round:=au}
def atV(args)(p)(t):(Env.start args p).get t=args.getD t (.tuple []):=rfl
def atU(args)(p):(Env.start args p).defers=[]:=rfl
def atW(args)(p):(Env.start args p).cV=p:=rfl
def SI(args)(p):(Env.start args p).round=au:=rfl
def Aw(e:Env)(t:Nat):e.eval (.tmp t)=e.get t:=rfl
def eval_const(e:Env)(v):e.eval (.const v)=tC v:=rfl
def eval_func(e:Env)(f):e.eval (.func f)=.func (.func f) [] []:=rfl
def eval_global(e:Env)(g):e.eval (.global g)=.ptr (.eV g) 0:=rfl
def ani(k)(n):tC (.int k n)=.v (.int k n):=rfl
def anh(b):tC (.bool b)=.v (.bool b):=rfl
def ann(s):tC (.string s)=.v (.string s):=rfl
def ank:tC .nilIface=.v .nilIface:=rfl
def anj:tC .nilFunc=.v .nilFunc:=rfl
def anl:tC (.pointer au)=.v (.pointer au):=rfl
def anm:tC (.slice au 0 0)=.list .nil 0 []:=rfl
def ang(cs):tC (.agg ⟨cs⟩)=.agg (cs.map wh):=rfl
section
variable (P:Program) (G:Nat->Option (List AV)) (R:Rec)
def rh(ops:Array Oper):List Oper->Env->aq->Option (Xt × Env × aq)
 | [],e,h=>aa (.normal,e,h)
 |o::rest,e,h=>
  match fD ops e o with
  |none=>au
  |some az=>rh ops rest (e.put o.dst (.tuple [])) h
  |some ah=>
   match eo P G R e h o with
   |some (.ret x,e,h)=>rh ops rest (e.put o.dst x) h
   |some (.panic x,e,h)=>aa (.panic x,e,h)
   |none=>au
def Ri(ops:Array Oper):∀(n i:Nat),i+n=ops.size->∀(e:Env) (h:aq),di P G R ops (adh i n) e h=rh P G R ops (ops.toList.drop i) e h:=by
 intro n
 induction n with
 |zero=>intro i hi e h;rw[List.drop_eq_nil_of_le (by simp;omega)];rfl
 |succ n ih=>
  intro i hi e h;have aA:i<ops.size:=by omega
  have ho:ops[i]?=aa ops[i]:=mK aA;rw[adi,Bu (by simpa using aA)];simp only[di,rh,ho,acn];cases fD ops e ops[i] with
  |none=>rfl|some b=>
   cases b with
   |false=>exact ih (i+1) ag _ _|true=>
    simp only;cases eo P G R e h ops[i] with
    |none=>rfl|some q=>
     obtain⟨r,e1,h1⟩:=q;cases r with|ret x=>exact ih (i+1) ag _ _|panic x=>rfl
def Ad(r:Option (Xt × Env × aq))(Q:Xt->Env->aq->Prop):Prop:=∃o e h,r=aa (o,e,h)/\Q o e h
def bH(c:Code)(e:Env)(h:aq)(Q:Xt->Env->aq->Prop):Prop:=Ad (R.code c e h) Q
def cO(ops:Array Oper)(l:List Oper)(e:Env)(h:aq)(Q:Xt->Env->aq->Prop):Prop:=Ad (rh P G R ops l e h) Q
end
def wm{o}{e}{h}{Q}:Ad (aa (o,e,h)) Q=Q o e h:=
 propext ⟨λ⟨_,_,_,h1,h2⟩=>by simp only[dP,dn] at h1;obtain⟨rfl,rfl,rfl⟩:=h1;exact h2,λhq=>⟨o,e,h,rfl,hq⟩⟩
def tE{Q}:Ad au Q=False:=propext ⟨λ⟨_,_,_,h1,_⟩=>(by cases h1),False.elim⟩
def Ad.mono{r}{Q Q'}(h:∀o e h,Q o e h->Q' o e h)(hr:Ad r Q):Ad r Q':=by obtain⟨o,e,h1,h2,h3⟩:=hr;exact⟨o,e,h1,h2,h _ _ _ h3⟩
def guardOf(ops:Array Oper)(j:Nat):Option Tmp:=(ops[j]?).bind (·.dst)
def ajJ{o}{l}:guardOf ⟨o::l⟩ 0=o.dst:=rfl
def ajI{o}{l}{n}:guardOf ⟨o::l⟩ (n+1)=guardOf ⟨l⟩ n:=by simp[guardOf]
def wQ(R:Rec)(a b:Code)(e:Env)(h:aq)(Q:Xt->Env->aq->Prop)(x:AV):Prop:=
 match x with
 | .v (.bool t)=>if t=ah then bH R a e h Q else bH R b e h Q
 |_=>False
def oi(P:Program)(G:Nat->Option (List AV))(R:Rec)(ops:Array Oper)(o:Oper)(rest:List Oper)(e:Env)(h:aq)(Q:Xt->Env->aq->Prop)(want:Bool)(x:AV):Prop:=
 match x with
 | .v (.bool b)=>if b=want then cO P G R ops (o::rest) e h Q else cO P G R ops rest (e.put o.dst (.tuple [])) h Q
 | .tuple []=>cO P G R ops rest (e.put o.dst (.tuple [])) h Q
 |_=>False
def NP(P:Program)(G:Nat->Option (List AV))(R:Rec)(ops:Array Oper)(o:Oper)(rest:List Oper)(e:Env)(h:aq)(Q:Xt->Env->aq->Prop)(want:Bool)(d:Option Tmp):Prop:=
 match d with
 |some g=>oi P G R ops o rest e h Q want (e.get g)
 |none=>cO P G R ops rest (e.put o.dst (.tuple [])) h Q
section
variable {P:Program} {G:Nat->Option (List AV)} {R:Rec} {a b:Code} {e:Env} {h:aq} {Q:Xt->Env->aq->Prop} {ops:Array Oper} {o:Oper} {rest:List Oper} {p:Prop} [Decidable p] {t:Bool}
def af9:wQ R a b e h Q (.v (.bool ah))=bH R a e h Q:=rfl
def af6:wQ R a b e h Q (.v (.bool az))=bH R b e h Q:=rfl
def af5(h1:p->bH R a e h Q)(h2:¬p->bH R b e h Q):wQ R a b e h Q (.v (.bool (decide p))):=by
 unfold wQ;simp only[decide_eq_true_eq];split
 ·rename_i hp;exact h1 hp
 ·rename_i hp;exact h2 hp
def af8(h1:p->bH R b e h Q)(h2:¬p->bH R a e h Q):wQ R a b e h Q (.v (.bool (!decide p))):=by
 unfold wQ;by_cases hp:p
 ·simp only[hp,decide_true,Js,jO,if_false];exact h1 hp
 ·simp only[hp,decide_false,zS,if_true];exact h2 hp
def af4(h1:t=ah->bH R a e h Q)(h2:t=az->bH R b e h Q):wQ R a b e h Q (.v (.bool t)):=by
 cases t
 ·exact h2 rfl
 ·exact h1 rfl
def ajR:oi P G R ops o rest e h Q ah (.v (.bool ah))=cO P G R ops (o::rest) e h Q:=rfl
def ajQ:oi P G R ops o rest e h Q ah (.v (.bool az))=cO P G R ops rest (e.put o.dst (.tuple [])) h Q:=rfl
def ajN:oi P G R ops o rest e h Q az (.v (.bool ah))=cO P G R ops rest (e.put o.dst (.tuple [])) h Q:=rfl
def ajM:oi P G R ops o rest e h Q az (.v (.bool az))=cO P G R ops (o::rest) e h Q:=rfl
def ajS{w:Bool}:oi P G R ops o rest e h Q w (.tuple [])=cO P G R ops rest (e.put o.dst (.tuple [])) h Q:=rfl
def ajL{w:Bool}(h1:p->oi P G R ops o rest e h Q w (.v (.bool ah)))(h2:¬p->oi P G R ops o rest e h Q w (.v (.bool az))):oi P G R ops o rest e h Q w (.v (.bool (decide p))):=by
 by_cases hp:p
 ·simp only[hp,decide_true];exact h1 hp
 ·simp only[hp,decide_false];exact h2 hp
def ajP{w:Bool}(h1:p->oi P G R ops o rest e h Q w (.v (.bool az)))(h2:¬p->oi P G R ops o rest e h Q w (.v (.bool ah))):oi P G R ops o rest e h Q w (.v (.bool (!decide p))):=by
 by_cases hp:p
 ·simp only[hp,decide_true];exact h1 hp
 ·simp only[hp,decide_false];exact h2 hp
def ajK{w:Bool}(h1:t=ah->oi P G R ops o rest e h Q w (.v (.bool ah)))(h2:t=az->oi P G R ops o rest e h Q w (.v (.bool az))):oi P G R ops o rest e h Q w (.v (.bool t)):=by
 cases t
 ·exact h2 rfl
 ·exact h1 rfl
def ajO{w:Bool}(h1:t=ah->oi P G R ops o rest e h Q w (.v (.bool az)))(h2:t=az->oi P G R ops o rest e h Q w (.v (.bool ah))):oi P G R ops o rest e h Q w (.v (.bool (!t))):=by
 cases t
 ·exact h2 rfl
 ·exact h1 rfl
def af7(h1:t=ah->bH R b e h Q)(h2:t=az->bH R a e h Q):wQ R a b e h Q (.v (.bool (!t))):=by
 cases t
 ·exact h2 rfl
 ·exact h1 rfl
def atp{w:Bool}{g:Tmp}:NP P G R ops o rest e h Q w (aa g)=oi P G R ops o rest e h Q w (e.get g):=rfl
end
def Jb(R:Rec)(c:Code)(Q:Xt->Env->aq->Prop):Xt->Env->aq->Prop
 | .normal,e,h=>bH R c e h Q
 |o,e,h=>Q o e h
def GR(id:Nat)(Q:Xt->Env->aq->Prop):Xt->Env->aq->Prop
 | .exit i,e,h=>if i=id then Q .normal e h else Q (.exit i) e h
 |o,e,h=>Q o e h
def yL(Q:Xt->Env->aq->Prop):Xt->Env->aq->Prop
 | .normal,e,h=>Q .normal e h
 |_,_,_=>False
section
variable {R:Rec} {c:Code} {Q:Xt->Env->aq->Prop} {e:Env} {h:aq}
def asX:Jb R c Q .normal e h=bH R c e h Q:=rfl
def asZ:Jb R c Q .ret e h=Q .ret e h:=rfl
def asW{i:Nat}:Jb R c Q (.exit i) e h=Q (.exit i) e h:=rfl
def asY{x:AV}:Jb R c Q (.panic x) e h=Q (.panic x) e h:=rfl
def afW{id:Nat}:GR id Q .normal e h=Q .normal e h:=rfl
def afY{id:Nat}:GR id Q .ret e h=Q .ret e h:=rfl
def UT{id i:Nat}:GR id Q (.exit i) e h=if i=id then Q .normal e h else Q (.exit i) e h:=rfl
def afX{id:Nat}{x:AV}:GR id Q (.panic x) e h=Q (.panic x) e h:=rfl
def ags:yL Q .normal e h=Q .normal e h:=rfl
def agt{x:AV}:yL Q (.panic x) e h=False:=rfl
end
section
variable {P:Program} {G:Nat->Option (List AV)} {prims:FuncId->Option (List AV->aq->Option (AV × aq))} {Q:Xt->Env->aq->Prop} {e:Env} {h:aq}
def asx:bH (whole P G prims) .skip e h Q=Q .normal e h:=by rw[bH,sF];exact wm
def asq{l:Nat}:bH (whole P G prims) (.label l) e h Q=Q .normal e h:=by rw[bH,sF];exact wm
def asw{a:Code}:bH (whole P G prims) (.scope a) e h Q=bH (whole P G prims) a e h Q:=by unfold bH;rw[sF];simp only[fM]
def asp{id:Nat}:bH (whole P G prims) (.exit id) e h Q=Q (.exit id) e h:=by rw[bH,sF];exact wm
def asv:bH (whole P G prims) .ret e h Q=Q .ret e h:=by rw[bH,sF];exact wm
def run_seq{a b:Code}:bH (whole P G prims) (.seq a b) e h Q=bH (whole P G prims) a e h (Jb (whole P G prims) b Q):=by
 unfold bH;rw[sF];simp only[fM];cases ha:(whole P G prims).code a e h with|none=>simp only[tE]|some q=>obtain⟨o,e1,h1⟩:=q;cases o<;>simp only[wm]<;>rfl
def asn{c:Operand}{a b:Code}:bH (whole P G prims) (.cond c a b) e h Q=wQ (whole P G prims) a b e h Q (e.eval c):=by
 unfold bH wQ;rw[sF];simp only[fM];generalize e.eval c=x;rcases x with _|v|_|_|_|_|_|_|_|_|_
 case v=>
  cases v with
  |bool t=>cases t<;>rfl
  |_=>simp only[tE]
 all_goals (simp only[tE])
def asm{id:Nat}{a:Code}:bH (whole P G prims) (.block id a) e h Q=bH (whole P G prims) a e h (GR id Q):=by
 unfold bH;rw[sF];simp only[fM];cases ha:(whole P G prims).code a e h with
 |none=>simp only[tE]|some q=>
  obtain⟨o,e1,h1⟩:=q;cases o with
  |exit i=>simp only[wm,UT];split<;>simp only[wm]
  |_=>simp only[wm]<;>rfl
def asu{id:Nat}{ops:Array Oper}:bH (whole P G prims) (.region id ops az) e h Q=cO P G (whole P G prims) ops ops.toList e h Q:=by unfold bH cO;rw[sF];simp only[fM,jO,if_false];have:=Ri P G (whole P G prims) ops ops.size 0 ag e h;rw[iO] at this;rw[<-this,Ns]
def aiY{R:Rec}{ops:Array Oper}(hd:Ox ops=ah)(e:Env)(h:aq):mQ P G R ops e h=ah:=by unfold Ox at hd;unfold mQ;simp only[bC,ey,fQ,vD] at hd ⊢;exact⟨hd.1,λj hj i hi=>.inl (.inl (hd.2 j hj i hi))⟩
def Sv{id:Nat}{ops:Array Oper}(hd:mQ P G (whole P G prims) ops e h=ah)(hr:cO P G (whole P G prims) ops ops.toList e h (yL Q)):bH (whole P G prims) (.region id ops ah) e h Q:=by
 unfold bH cO at *
 rw[sF];simp only[fM,if_true,hd,acA];have:=Ri P G (whole P G prims) ops ops.size 0 ag e h;rw[iO] at this;rw[<-this,<-Ns] at hr;obtain⟨o,e1,h1,h2,h3⟩:=hr;rw[h2];cases o with|normal=>exact⟨_,_,_,rfl,h3⟩|_=>exact h3.elim
def run_draw_stores{id:Nat}{ops:Array Oper}(D:uC P G (whole P G prims) ops e h=ah)(hr:cO P G (whole P G prims) ops ops.toList e h (yL Q)):bH (whole P G prims) (.region id ops ah) e h Q:=by
 unfold bH cO at *
 rw[sF];have:=Ri P G (whole P G prims) ops ops.size 0 ag e h;rw[iO] at this;rw[<-this,<-Ns] at hr;obtain⟨o,e1,h1,h2,h3⟩:=hr;simp only[fM,if_true,D,Tf,h2];cases o with|normal=>exact⟨_,_,_,rfl,h3⟩|_=>exact h3.elim
def vx{id:Nat}{ops:Array Oper}(hd:Ox ops=ah)(hr:cO P G (whole P G prims) ops ops.toList e h (yL Q)):bH (whole P G prims) (.region id ops ah) e h Q:=
 Sv (aiY hd e h) hr
def C7(I:Nat->Env->aq->Prop)(n:Nat)(Q:Xt->Env->aq->Prop):Xt->Env->aq->Prop
 | .normal,e,h=>∃m,m<n/\I m e h
 |o,e,h=>Q o e h
def ams{I:Nat->Env->aq->Prop}{n:Nat}:C7 I n Q .normal e h=∃m,m<n/\I m e h:=rfl
def amu{I:Nat->Env->aq->Prop}{n:Nat}:C7 I n Q .ret e h=Q .ret e h:=rfl
def amr{I:Nat->Env->aq->Prop}{n i:Nat}:C7 I n Q (.exit i) e h=Q (.exit i) e h:=rfl
def amt{I:Nat->Env->aq->Prop}{n:Nat}{x:AV}:C7 I n Q (.panic x) e h=Q (.panic x) e h:=rfl
def cz{c:Code}(I:Nat->Env->aq->Prop)(jc:∀n e h,I n e h->bH (whole P G prims) c e h (C7 I n Q)):
 ∀n e h,I n e h->bH (whole P G prims) (.loop c) e h Q:=by
 intro n
 induction n using TN with
 |_ n ih=>
  intro e h hi;obtain⟨o,e1,h1,h2,h3⟩:=jc n e h hi;unfold bH;rw[sF];simp only[fM,h2];cases o with
  |normal=>obtain⟨m,hm,Cx⟩:=h3;exact ih m hm e1 h1 Cx
  |_=>exact⟨_,_,_,rfl,h3⟩
def bH.mono{R:Rec}{c:Code}{Q1:Xt->Env->aq->Prop}{h1:aq}(hq:∀o e h,Q o e h->Q1 o e h)(hr:bH R c e h1 Q):bH R c e h1 Q1:=Ad.mono hq hr
def yN(P:Program)(G:Nat->Option (List AV))(R:Rec)(fn:Func)(r:eY)(h':aq):Xt->Env->aq->Prop
 | .normal,e,h=>iq P G R fn e e.defers au h=aa (r,h')
 | .ret,e,h=>iq P G R fn e e.defers au h=aa (r,h')
 | .panic x,e,h=>iq P G R fn e e.defers (aa (x,az)) h=aa (r,h')
 | .exit _,_,_=>False
def cJ{g:FuncId}{fn:Func}{body:Code}{args:List AV}{r:eY}{h':aq}(hp:prims g=au)(ig:P.funcs[g]?=aa fn)(hb:fn.body=aa body)
 (hr:bH (whole P G prims) body (Env.start args au) h (yN P G (whole P G prims) fn r h')):(whole P G prims).call g args h=aa (r,h'):=by
 rw[Jq];unfold rL;rw[hp];unfold sO;rw[ig];simp only[hb];obtain⟨o,e1,h1,h2,h3⟩:=hr;have h2:(whole P G prims).code body {tmps:={ch:=[],base:=args},defers:=[],cV:=au,round:=au} h=aa (o,e1,h1):=h2;rw[h2];cases o with|exit i=>exact h3.elim|_=>simp only[yN] at h3;simp only[h3,ff]
def ah0{g:FuncId}{fn:Func}{body:Code}{args:List AV}{m m':Option (AV × Bool)}{r:eY}{h':aq}(ig:P.funcs[g]?=aa fn)(hb:fn.body=aa body)
 (hr:bH (whole P G prims) body (Env.start args m) h λo e h1=>yN P G (whole P G prims) fn r h' o e h1/\e.cV=m'):(whole P G prims).jY g args m h=aa (r,m',h'):=by
 rw[avy];unfold sO;rw[ig];simp only[hb];obtain⟨o,e1,h1,h2,h3,h4⟩:=hr;have h2:(whole P G prims).code body {tmps:={ch:=[],base:=args},defers:=[],cV:=m,round:=au} h=aa (o,e1,h1):=h2;rw[h2];cases o with|exit i=>exact h3.elim|_=>simp only[yN] at h3;simp only[h3,ff,h4]
def ait{R:Rec}{fn:Func}{r:eY}{h':aq}:yN P G R fn r h' .normal e h=(iq P G R fn e e.defers au h=aa (r,h')):=rfl
def aiv{R:Rec}{fn:Func}{r:eY}{h':aq}:yN P G R fn r h' .ret e h=(iq P G R fn e e.defers au h=aa (r,h')):=rfl
def aiu{R:Rec}{fn:Func}{r:eY}{h':aq}{x:AV}:yN P G R fn r h' (.panic x) e h=(iq P G R fn e e.defers (aa (x,az)) h=aa (r,h')):=rfl
def avc{R:Rec}{fn:Func}:iq P G R fn e [] au h=(IE P G fn e h).map λx=>(.ret x,h):=rfl
def avd{R:Rec}{fn:Func}{x:AV}{b:Bool}:iq P G R fn e [] (aa (x,b)) h=aa (.panic x,h):=rfl
section
variable {R:Rec} {ops:Array Oper} {rest:List Oper} {d:Option Tmp} {ty:TypeId} {pos:String} {af:Array Edge}
def ash:cO P G R ops [] e h Q=Q .normal e h:=wm
def asg{op:Op}{j:Nat}{want:Bool}:cO P G R ops (⟨d,op,ty,pos,af,aa (j,want)⟩::rest) e h Q=
 NP P G R ops ⟨d,op,ty,pos,af,au⟩ rest e h Q want (guardOf ops j):=by
 unfold cO guardOf NP oi cO;simp only[rh,fD];cases (ops[j]?).bind (·.dst) with
 |none=>rfl|some g=>
  simp only;generalize e.get g=x;rcases x with _|v|_|_|_|cs|_|_|_|_|_
  case v=>
   cases v with
   |bool b=>
    simp only;by_cases hb:b=want
    ·subst hb;simp only[beq_self_eq_true,if_true];rfl
    ·have:(b==want)=az:=(by simpa using hb);simp only[this,aI hb]
   |_=>simp only[tE]
  case tuple=>cases cs<;>simp only[tE]
  all_goals (simp only[tE])
def after(P:Program)(G:Nat->Option (List AV))(R:Rec)(ops:Array Oper)(rest:List Oper)(d:Option Tmp)(e:Env)(Q:Xt->Env->aq->Prop):Option (AV × aq)->Prop
 |some (x,h)=>cO P G R ops rest (e.put d x) h Q
 |none=>False
def aes{x:AV}:after P G R ops rest d e Q (aa (x,h))=cO P G R ops rest (e.put d x) h Q:=rfl
def opsOf(o:Op):Bool:=
 match o with
 | .call _| .defer _| .panic _=>az
 |_=>ah
def nf{op:Op}(ho:opsOf op=ah):cO P G R ops (⟨d,op,ty,pos,af,au⟩::rest) e h Q=after P G R ops rest d e Q (dS P G e.eval h op):=by
 unfold cO;simp only[rh,fD];have bL:eo P G R e h ⟨d,op,ty,pos,af,au⟩=(dS P G e.eval h op).map λ(x,h)=>(.ret x,e,h):=by cases op<;>first|rfl|(simp[opsOf] at ho)
 rw[bL];cases dS P G e.eval h op with|none=>simp only[NM,tE];rfl|some q=>obtain⟨x,h1⟩:=q;rfl
def NS(P:Program)(G:Nat->Option (List AV))(R:Rec)(ops:Array Oper)(rest:List Oper)(d:Option Tmp)(e:Env)(Q:Xt->Env->aq->Prop):Option (eY × aq)->Prop
 |some (.ret x,h)=>cO P G R ops rest (e.put d x) h Q
 |some (.panic x,h)=>Q (.panic x) e h
 |none=>False
def aer{x:AV}:NS P G R ops rest d e Q (aa (.ret x,h))=cO P G R ops rest (e.put d x) h Q:=rfl
def aeq{x:AV}:NS P G R ops rest d e Q (aa (.panic x,h))=Q (.panic x) e h:=rfl
def asl{f:Operand}{args:Array Operand}{ts:Array TypeId}:cO P G R ops (⟨d,.call {callee:=.value f,args,argTypes:=ts},ty,pos,af,au⟩::rest) e h Q=
 NS P G R ops rest d e Q (mA P R e h {callee:=.value f,args,argTypes:=ts}):=by
 unfold cO;simp only[rh,fD,eo];cases mA P R e h {callee:=.value f,args,argTypes:=ts} with|none=>simp only[NM,tE];rfl|some q=>obtain⟨r,h1⟩:=q;cases r<;>simp only[ff,wm]<;>rfl
def U5{g:FuncId}{args:Array Operand}{ts:Array TypeId}:mA P R e h {callee:=.value (.func g),args,argTypes:=ts}=R.call g (args.toList.map e.eval) h:=by simp[mA,eval_func]
def U6{t:Nat}{args:Array Operand}{ts:Array TypeId}:mA P R e h {callee:=.value (.tmp t),args,argTypes:=ts}=
 (match e.get t with
  | .func (.func g) first aD=>R.call g (first++args.toList.map e.eval++aD) h
  | .yield l=>R.round l (args.toList.map e.eval) h
  |_=>au):=rfl
def Z9:Builtin->Bool
 | .recover| .panic| .append=>az
 |_=>ah
def I7{b:Builtin}{args:Array Operand}{ts:Array TypeId}(hb:Z9 b=ah):cO P G R ops (⟨d,.call {callee:=.builtin b,args,argTypes:=ts},ty,pos,af,au⟩::rest) e h Q=
 after P G R ops rest d e Q (jH P h b ts ty (args.toList.map e.eval)):=by
 unfold cO;simp only[rh,fD];have bL:eo P G R e h ⟨d,.call {callee:=.builtin b,args,argTypes:=ts},ty,pos,af,au⟩=(jH P h b ts ty (args.toList.map e.eval)).map λ(x,h)=>(.ret x,e,h):=by cases b<;>first|rfl|(simp[Z9] at hb)
 rw[bL];cases jH P h b ts ty (args.toList.map e.eval) with|none=>simp only[NM,tE];rfl|some q=>obtain⟨x,h1⟩:=q;rfl
def aqw(x:Operand):cO P G R ops (⟨d,.move x,ty,pos,af,au⟩::rest) e h Q=after P G R ops rest d e Q (dS P G e.eval h (.move x)):=nf rfl
def aqb(x:Operand):cO P G R ops (⟨d,.assign x,ty,pos,af,au⟩::rest) e h Q=after P G R ops rest d e Q (dS P G e.eval h (.assign x)):=nf rfl
def aqy(c a b:Operand):cO P G R ops (⟨d,.pick c a b,ty,pos,af,au⟩::rest) e h Q=after P G R ops rest d e Q (dS P G e.eval h (.pick c a b)):=nf rfl
def ap9(t:TypeId):cO P G R ops (⟨d,.alloc t,ty,pos,af,au⟩::rest) e h Q=after P G R ops rest d e Q (dS P G e.eval h (.alloc t)):=nf rfl
def aqd(t:TypeId)(x:Operand):cO P G R ops (⟨d,.box t x,ty,pos,af,au⟩::rest) e h Q=after P G R ops rest d e Q (dS P G e.eval h (.box t x)):=nf rfl
def aqe(t:TypeId)(ps:Array (Nat × Operand)):cO P G R ops (⟨d,.build t ps,ty,pos,af,au⟩::rest) e h Q=after P G R ops rest d e Q (dS P G e.eval h (.build t ps)):=nf rfl
def aqf(t:TypeId)(n:Nat)(ps:Array (Nat × Operand)):cO P G R ops (⟨d,.buildSlice t n ps,ty,pos,af,au⟩::rest) e h Q=after P G R ops rest d e Q (dS P G e.eval h (.buildSlice t n ps)):=nf rfl
def aqq(t:TypeId)(a:Operand):cO P G R ops (⟨d,.load t a,ty,pos,af,au⟩::rest) e h Q=after P G R ops rest d e Q (dS P G e.eval h (.load t a)):=nf rfl
def aqB(t:TypeId)(a x:Operand):cO P G R ops (⟨d,.store t a x,ty,pos,af,au⟩::rest) e h Q=after P G R ops rest d e Q (dS P G e.eval h (.store t a x)):=nf rfl
def aqx(x:Operand):cO P G R ops (⟨d,.nilCheck x,ty,pos,af,au⟩::rest) e h Q=after P G R ops rest d e Q (dS P G e.eval h (.nilCheck x)):=nf rfl
def aqc(o:BinOp)(t:TypeId)(x y:Operand)(yt:TypeId):cO P G R ops (⟨d,.binOp o t x y yt,ty,pos,af,au⟩::rest) e h Q=after P G R ops rest d e Q (dS P G e.eval h (.binOp o t x y yt)):=nf rfl
def aqD(o:UnOp)(t:TypeId)(x:Operand):cO P G R ops (⟨d,.unOp o t x,ty,pos,af,au⟩::rest) e h Q=after P G R ops rest d e Q (dS P G e.eval h (.unOp o t x)):=nf rfl
def aqh(s t:TypeId)(x:Operand):cO P G R ops (⟨d,.convert s t x,ty,pos,af,au⟩::rest) e h Q=after P G R ops rest d e Q (dS P G e.eval h (.convert s t x)):=nf rfl
def aqs(t:TypeId)(x:Operand):cO P G R ops (⟨d,.makeInterface t x,ty,pos,af,au⟩::rest) e h Q=after P G R ops rest d e Q (dS P G e.eval h (.makeInterface t x)):=nf rfl
def aqr(fn:Fn)(first aD:Array Operand):cO P G R ops (⟨d,.makeFunc fn first aD,ty,pos,af,au⟩::rest) e h Q=after P G R ops rest d e Q (dS P G e.eval h (.makeFunc fn first aD)):=nf rfl
def aqt(t:TypeId)(l c:Operand):cO P G R ops (⟨d,.makeSlice t l c,ty,pos,af,au⟩::rest) e h Q=after P G R ops rest d e Q (dS P G e.eval h (.makeSlice t l c)):=nf rfl
def aqA(t:TypeId)(x:Operand)(lo hi mx:Option Operand):cO P G R ops (⟨d,.slice t x lo hi mx,ty,pos,af,au⟩::rest) e h Q=after P G R ops rest d e Q (dS P G e.eval h (.slice t x lo hi mx)):=nf rfl
def aqm(t:TypeId)(x:Operand)(f:Nat):cO P G R ops (⟨d,.fieldAddr t x f,ty,pos,af,au⟩::rest) e h Q=after P G R ops rest d e Q (dS P G e.eval h (.fieldAddr t x f)):=nf rfl
def aql(t:TypeId)(x:Operand)(f:Nat):cO P G R ops (⟨d,.field t x f,ty,pos,af,au⟩::rest) e h Q=after P G R ops rest d e Q (dS P G e.eval h (.field t x f)):=nf rfl
def aqo(t:TypeId)(x i:Operand):cO P G R ops (⟨d,.indexAddr t x i,ty,pos,af,au⟩::rest) e h Q=after P G R ops rest d e Q (dS P G e.eval h (.indexAddr t x i)):=nf rfl
def aqn(t:TypeId)(x i:Operand):cO P G R ops (⟨d,.index t x i,ty,pos,af,au⟩::rest) e h Q=after P G R ops rest d e Q (dS P G e.eval h (.index t x i)):=nf rfl
def aqC(x:Operand)(xt t:TypeId)(ok:Bool):cO P G R ops (⟨d,.typeAssert x xt t ok,ty,pos,af,au⟩::rest) e h Q=after P G R ops rest d e Q (dS P G e.eval h (.typeAssert x xt t ok)):=nf rfl
def aqk(x:Operand)(i:Nat):cO P G R ops (⟨d,.extract x i,ty,pos,af,au⟩::rest) e h Q=after P G R ops rest d e Q (dS P G e.eval h (.extract x i)):=nf rfl
def aqp(args:Array Operand)(ts:Array TypeId):cO P G R ops (⟨d,.call {callee:=.builtin .len,args,argTypes:=ts},ty,pos,af,au⟩::rest) e h Q=after P G R ops rest d e Q (jH P h .len ts ty (args.toList.map e.eval)):=I7 rfl
def aqg(args:Array Operand)(ts:Array TypeId):cO P G R ops (⟨d,.call {callee:=.builtin .cap,args,argTypes:=ts},ty,pos,af,au⟩::rest) e h Q=after P G R ops rest d e Q (jH P h .cap ts ty (args.toList.map e.eval)):=I7 rfl
def aqa(args:Array Operand)(ts:Array TypeId):cO P G R ops (⟨d,.call {callee:=.builtin .append,args,argTypes:=ts},ty,pos,af,au⟩::rest) e h Q=after P G R ops rest d e Q (sS P G d h .append ts ty (args.toList.map e.eval)):=by
 unfold cO;simp only[rh,fD];have bL:eo P G R e h ⟨d,.call {callee:=.builtin .append,args,argTypes:=ts},ty,pos,af,au⟩=(sS P G d h .append ts ty (args.toList.map e.eval)).map λ(x,h)=>(.ret x,e,h):=rfl;rw[bL];cases sS P G d h .append ts ty (args.toList.map e.eval) with|none=>simp only[NM,tE];rfl|some q=>obtain⟨x,h1⟩:=q;rfl
def aqi(args:Array Operand)(ts:Array TypeId):cO P G R ops (⟨d,.call {callee:=.builtin .copy,args,argTypes:=ts},ty,pos,af,au⟩::rest) e h Q=after P G R ops rest d e Q (jH P h .copy ts ty (args.toList.map e.eval)):=I7 rfl
def aqv(args:Array Operand)(ts:Array TypeId):cO P G R ops (⟨d,.call {callee:=.builtin .min,args,argTypes:=ts},ty,pos,af,au⟩::rest) e h Q=after P G R ops rest d e Q (jH P h .min ts ty (args.toList.map e.eval)):=I7 rfl
def aqu(args:Array Operand)(ts:Array TypeId):cO P G R ops (⟨d,.call {callee:=.builtin .max,args,argTypes:=ts},ty,pos,af,au⟩::rest) e h Q=after P G R ops rest d e Q (jH P h .max ts ty (args.toList.map e.eval)):=I7 rfl
def asi{x:Operand}:cO P G R ops (⟨d,.panic x,ty,pos,af,au⟩::rest) e h Q=(match e.eval x with| .iface t y=>Q (.panic (.iface t y)) e h|_=>False):=by unfold cO;simp only[rh,fD,eo];generalize e.eval x=y;cases y<;>first|exact wm|exact tE
def asj{args:Array Operand}{ts:Array TypeId}(hr:e.round=au):cO P G R ops (⟨d,.call {callee:=.builtin .recover,args,argTypes:=ts},ty,pos,af,au⟩::rest) e h Q=
 (match e.cV with
  |some (x,az)=>cO P G R ops rest (({e with cV:=aa (x,ah)}:Env).put d x) h Q
  |_=>cO P G R ops rest (e.put d (.v .nilIface)) h Q):=by
 unfold cO;simp only[rh,fD,eo,hr,BJ,jO,if_false];rcases hp:e.cV with _|⟨x,b⟩
 ·rfl
 ·cases b<;>rfl
def asf{f:Operand}{args:Array Operand}{ts:Array TypeId}(hr:e.round=au):cO P G R ops (⟨d,.defer {callee:=.value f,args,argTypes:=ts},ty,pos,af,au⟩::rest) e h Q=
 (match e.eval f with
  | .func (.func g) first aD=>cO P G R ops rest (({e with defers:=(g,first++args.toList.map e.eval++aD)::e.defers}:Env).put d (.tuple [])) h Q
  |_=>False):=by
 unfold cO;simp only[rh,fD,eo,hr,BJ,jO,if_false];generalize e.eval f=y;rcases y with _|_|_|_|_|_|_|_|⟨fn,a,b⟩|_|_
 case func=>cases fn<;>first|rfl|exact tE
 all_goals exact tE
end
end
end Go.AE
end
section
namespace Go.AE
def bs(l:List UInt8):ByteArray:=⟨l.toArray⟩
def str(l:List UInt8):AV:=.v (.string (bs l))
def int(n:Int):AV:=.v (.int .i64 n)
def bool(b:Bool):AV:=.v (.bool b)
def agb(l):ByteArray.mk l.toArray=bs l:=rfl
def BR(l):(bs l).size=l.length:=rfl
def aga(a b):bs a++bs b=bs (a++b):=by apply ByteArray.ext;rw[ByteArray.data_append];simp[bs]
def Of(l)(i j):(bs l).extract i j=bs ((l.take j).drop i):=by apply ByteArray.ext;rw[ByteArray.data_extract];simp[bs,List.extract_eq_take_drop,List.drop_take]
def r9{α β}{P}(m)(f:α->Sem β):fg P (m>>=f)=(fg P m).bind λa=>fg P (f a):=by
 show fg P (m.bind f)=_
 induction m with
 |pure a=>rfl|program k ih=>simp only[Sem.bind,fg];exact ih _|mark m k ih=>simp only[Sem.bind,fg];exact ih|_=>rfl
section
variable {P:Program} {t:TypeId} {x y:Operand} {k:IntKind} {a b:Int}
def sM{op:BinOp}{v:Value}(h:fg P (binOp op t (.int k a) (.int k b))=aa v):cY P op t x y (.v (.int k a)) (.v (.int k b))=ob v:=by
 have hg:fg P (eqGuard op t x y (.int k a) (.int k b))=aa ():=by cases op<;>rfl
 show(fg P (do eqGuard op t x y (.int k a) (.int k b);binOp op t (.int k a) (.int k b))).bind ob=_;rw[r9,hg];simp only[oq,h]
def UN:cY P .add t x y (.v (.int k a)) (.v (.int k b))=aa (.v (.int k (k.wrap (a+b)))):=sM (v:=.int k (k.wrap (a+b))) (by simp[binOp,Op.intArith];rfl)
def afA:cY P .sub t x y (.v (.int k a)) (.v (.int k b))=aa (.v (.int k (k.wrap (a - b)))):=sM (v:=.int k (k.wrap (a - b))) (by simp[binOp,Op.intArith];rfl)
def afr:cY P .mul t x y (.v (.int k a)) (.v (.int k b))=aa (.v (.int k (k.wrap (a * b)))):=sM (v:=.int k (k.wrap (a * b))) (by simp[binOp,Op.intArith];rfl)
def afu(h:b≠0):cY P .quo t x y (.v (.int k a)) (.v (.int k b))=aa (.v (.int k (k.wrap (a.tdiv b)))):=sM (v:=.int k (k.wrap (a.tdiv b))) (by simp[binOp,Op.intDiv,h];rfl)
def afw(h:b≠0):cY P .rem t x y (.v (.int k a)) (.v (.int k b))=aa (.v (.int k (a.tmod b))):=sM (v:=.int k (a.tmod b)) (by simp[binOp,Op.intDiv,h];rfl)
def afm:cY P .eql t x y (.v (.int k a)) (.v (.int k b))=aa (.v (.bool (decide (a=b)))):=sM (v:=.bool (decide (a=b))) (by
 have:(a==b)=decide (a=b):=by rw[F1];simp
 simp[binOp,Op.intCmp,this];rfl)
def afs:cY P .neq t x y (.v (.int k a)) (.v (.int k b))=aa (.v (.bool (!decide (a=b)))):=sM (v:=.bool (!decide (a=b))) (by
 have:(a !=b)= !decide (a=b):=by rw[F1];simp
 simp[binOp,Op.intCmp,this];rfl)
def afq:cY P .lss t x y (.v (.int k a)) (.v (.int k b))=aa (.v (.bool (decide (a<b)))):=sM (v:=.bool (decide (a<b))) (by simp[binOp,Op.intCmp];rfl)
def afp:cY P .leq t x y (.v (.int k a)) (.v (.int k b))=aa (.v (.bool (decide (a<=b)))):=sM (v:=.bool (decide (a<=b))) (by simp[binOp,Op.intCmp];rfl)
def afo:cY P .gtr t x y (.v (.int k a)) (.v (.int k b))=aa (.v (.bool (decide (b<a)))):=sM (v:=.bool (decide (b<a))) (by simp[binOp,Op.intCmp];rfl)
def afn:cY P .geq t x y (.v (.int k a)) (.v (.int k b))=aa (.v (.bool (decide (b<=a)))):=sM (v:=.bool (decide (b<=a))) (by simp[binOp,Op.intCmp];rfl)
def afy{p q:List UInt8}:cY P .eql t x y (.v (.string (bs p))) (.v (.string (bs q)))=aa (.v (.bool (decide (p=q)))):=by show aa (AV.v (.bool (p==q)))=_;rw[F1.2 (by simp:(p==q)=ah↔decide (p=q)=ah)]
def afz{p q:List UInt8}:cY P .neq t x y (.v (.string (bs p))) (.v (.string (bs q)))=aa (.v (.bool (!decide (p=q)))):=by show aa (AV.v (.bool (!(p==q))))=_;rw[F1.2 (by simp:(p==q)=ah↔decide (p=q)=ah)]
def afx{p q:List UInt8}(h:p.length+q.length<=9223372036854775807):cY P .add t x y (.v (.string (bs p))) (.v (.string (bs q)))=aa (.v (.string (bs (p++q)))):=by show(if (bs p).size+(bs q).size<=9223372036854775807 then aa (AV.v (.string (bs p++bs q))) else au)=_;rw[BR,BR,aG h,aga]
def au7{c:Bool}:Du P .not (.v (.bool c))=aa (.v (.bool (!c))):=rfl
def au6:Du P .neg (.v (.int k a))=aa (.v (.int k (k.wrap (0 - a)))):=rfl
def Zh{s:ByteArray}(hu:P.underlying t=aa .string):dM P t (.v (.string s))=aa (.v (.int .i64 s.size)):=by unfold dM;rw[hu]
def QW{e:TypeId}{tk:Tok}{sz:Nat}{es:List (List AV)}(hu:P.underlying t=aa (.slice e)):dM P t (.list tk sz es)=aa (.v (.int .i64 es.length)):=by unfold dM;rw[hu]
def QV{e:TypeId}{b o l c:Nat}(hu:P.underlying t=aa (.slice e)):dM P t (.arr b o l c)=aa (.v (.int .i64 l)):=by unfold dM;rw[hu]
def alo{l:List UInt8}(hu:P.underlying t=aa .string)(h0:0<=a)(h1:a<l.length):CZ P t (.v (.string (bs l))) (.v (.int k a))=aa (.v (.int .u8 (l.getD a.toNat 0).toNat)):=by
 unfold CZ;rw[hu];have aA:a.toNat<l.length:=by omega
 simp only[aG h0,bs,jy,aR aA];simp[aA]
def an2{c}{u v}:LA (.v (.bool c)) u v=aa (if c=ah then u else v):=by cases c<;>rfl
def fN(h0: -9223372036854775808<=a)(h1:a<=9223372036854775807):IntKind.i64.wrap a=a:=by rw[IntKind.wrap_i64];omega
def OF(h0:0<=a)(h1:a<=255):IntKind.u8.wrap a=a:=by rw[IntKind.wrap_u8];omega
end
end Go.AE
end
section
namespace Go.AE
open Go.RowKit (Below)
def aW.init(W:World):aW:={base:=W.heap.size,ic:=λg j=>W.cell? ⟨g,j,au⟩,β:=[],γ:=[],tn:=0,tk:=λ_=>(0,0,0),md:=[],lb:=λ_=>au}
def aq.init:aq:=⟨[],[],0,[]⟩
def atg{G}{ok}(W)(hG:∀g cs,G g=aa cs->∃cells,aQ (aW.init W) cs cells/\∀(j:Nat) (c:Value),cells[j]?=aa c->W.cell? ⟨g,j,au⟩=aa c):
 bR (aW.init W) G ok W aq.init W:=by
 refine⟨.refl _ _,aJ _,λg j c h=>h,hG,rfl,λb b' g h=>?_,λb g cs h=>?_,rfl,λb b' g h=>?_,λl g r h=>?_,rfl,λt ht=>?_,λt t' ht=>?_,λr hr=>?_,rfl⟩
 ·simp[aW.init] at h
 ·simp[aW.init] at h
 ·simp[aW.init] at h
 ·simp[aW.init] at h
 ·simp[alive,aq.init] at ht
 ·simp[alive,aq.init] at ht
 ·simp[aW.init] at hr
def Ds(P:Program):Nat->List Field->Nat->Bool
 |off,[],total=>jQ off total
 |off,f::fs,total=>jQ f.offset off&&Ds P (off+P.cellsOf f.type) fs total
def Lv(P:Program):Nat->TypeId->Bool
 |0,_=>az
 |n+1,t=>
  match P.underlying t with
  |some .bool|some (.int _)|some .string=>ah
  |some (.slice e)=>Lv P n e&&decide (0<P.cellsOf e)
  |some (.struct fs)=>Ds P 0 fs.toList (P.cellsOf t)&&fs.toList.all λf=>Lv P n f.type
  |some (.array m e)=>jQ (P.cellsOf t) (m * P.cellsOf e)&&Lv P n e
  |_=>az
inductive Has {H:Type} (P:Program):TypeId->List AV->DataW H->Prop
 |bool {t:TypeId} (hu:P.underlying t=aa .bool) (b:Bool):Has P t [.v (.bool b)] (.lit (.bool b))
 |int {t:TypeId} {k:IntKind} (hu:P.underlying t=aa (.int k)) (n:Int) (hn:(Lit.int k n).wf=ah):Has P t [.v (.int k n)] (.lit (.int k n))
 |str {t:TypeId} (hu:P.underlying t=aa .string) (s:ByteArray) (hs:s.size<=maxLen):Has P t [.v (.string s)] (.lit (.string s.data.toList))
 |none {t e:TypeId} (hu:P.underlying t=aa (.slice e)):Has P t [.list .nil (P.cellsOf e) []] .nil
 |list {t e:TypeId} (hu:P.underlying t=aa (.slice e)) (k:Tok) (es:List (List AV)) (ds sp:List (DataW H)) (hk:k=.held∨(k=.tight/\es=[])) (hl:es.length<=maxLen) (hd:ds.length=es.length)
  (he:∀(i:Nat) (r:List AV) (d:DataW H),es[i]?=aa r->ds[i]?=aa d->Has P e r d) (hs:∀r∈es,r.length=P.cellsOf e):Has P t [.list k (P.cellsOf e) es] (.slice ds sp)
 |struct {t:TypeId} {fs:Array Field} (hu:P.underlying t=aa (.struct fs)) (xs:List AV) (ds:List (DataW H)) (hl:xs.length=P.cellsOf t) (hd:ds.length=fs.size)
  (hf:∀(i:Nat) (f:Field) (d:DataW H),fs[i]?=aa f->ds[i]?=aa d->Has P f.type ((xs.drop f.offset).take (P.cellsOf f.type)) d):Has P t xs (.agg ds)
 |array {t e:TypeId} {n:Nat} (hu:P.underlying t=aa (.array n e)) (xs:List AV) (ds:List (DataW H)) (hl:xs.length=P.cellsOf t) (hd:ds.length=n)
  (he:∀(i:Nat) (d:DataW H),ds[i]?=aa d->Has P e ((xs.drop (i * P.cellsOf e)).take (P.cellsOf e)) d):Has P t xs (.agg ds)
section
variable {H:Type} {enc:TypeId × Value->H} {P:Program} {W:World}
def Vk{a:Addr}{n:Nat}{vs:List Value}(h:W.cells? 0 a n=aa vs):vs.length=n/\∀j,j<n->W.cell? (a.add j)=vs[j]?:=by unfold World.cells? at h;rw[aG (cA _)] at h;refine⟨by simpa using mapM_some_length h,λj hj=>mapM_some_get h j j (by simp[hj])⟩
def atx{a:Addr}{v:Value}(h:W.cell? a=aa v):a.spot=au:=by
 unfold World.cell? at h;split at h
 ·cases hs:a.spot with|none=>rfl|some s=>rw[hs] at h;simp at h
 ·cases h
def ai3{α:Type}{sz}:∀{es:List (List α)},(∀r∈es,r.length=sz)->∀(i j:Nat),j<sz->es.flatten[i * sz+j]?=(es[i]?).bind (·[j]?):=by
 intro es
 induction es with
 |nil=>intro _ i j _;simp|cons r es ih=>
  intro hr i j hj;have h1:r.length=sz:=hr r fW;cases i with|zero=>simp[List.getElem?_append_left (by omega:j<r.length)]|succ i=>rw[List.flatten_cons,List.getElem?_append_right (by rw[h1,gJ];omega),h1];have:(i+1) * sz+j - sz=i * sz+j:=(by rw[gJ];omega);rw[this,ih (λr hm=>hr r (fE _ hm)) i j hj];simp
end
end Go.AE
end
section
namespace Go.AE
open Go.RowKit Go.WideShapes Go.ChangeShapes
def mb{H:Type}(P:Program)(t:TypeId)(x:AV)(d:DataW H):Prop:=
 match P.underlying t with
 |some (.struct _)|some (.array _ _)=>∃cs,x=.agg cs/\Has P t cs d
 |_=>Has P t [x] d
def uH{H:Type}(P:Program):List TypeId->List AV->List (DataW H)->Prop
 | [],[],[]=>True
 |t::ts,x::xs,d::ds=>mb P t x d/\uH P ts xs ds
 |_,_,_=>False
section
variable {H:Type} {enc:TypeId × Value->H} {P:Program} {W:World}
def aeS(hl:laidOutB P=ah){W':World}{sp:Nat->Bool}:∀{ts:List TypeId} {vs:List Value} {ds:List (DataW H)} {p:List MemPlace},DataW.TrodAll enc P W 0 (λ_=>ah) ah ts vs ds p->
 (∀t∈ts,P.readableRec t=true/\t<P.types.size)->(∀x∈p,W.sameAt W' x)->(∀x∈p,sp x.block=true)->DataW.TrodAll enc P W' 0 sp true ts vs ds p:=by
 intro ts
 induction ts with
 |nil=>intro vs ds p h _ _ _;obtain⟨rfl,rfl,rfl⟩:=trodAll_nil h;exact trodAll_mk0
 |cons t ts ih=>
  intro vs ds p h hr hs mh;obtain⟨v,vs',d,ds',p1,q1,rfl,rfl,rfl,h1,h2⟩:=trodAll_cons h;exact trodAll_cons_mk (WideElems.Trod_stays hl (hr t fW).1 (hr t fW).2 h1 (λx hx=>hs x (TC _ hx)) (λx hx=>mh x (TC _ hx)))
   (ih h2 (λt ht=>hr t (fE _ ht)) (λx hx=>hs x (adg _ hx)) (λx hx=>mh x (adg _ hx)))
def aon{f:Func}{s:ChangeSpec}{apart fresh handsOn again:Bool}{W W':World}{args:Array Value}{v:Value}{ds gs:List (DataW H)}{before pa pv:List MemPlace}
 (hW:DataW.Whole enc P f.params.toList s.vars apart W args.toList ds gs before)
 (ij:∀(b:Nat) (sp:Nat->Bool) (hd:Bool),DataW.TrodAll enc P W' b sp hd f.resultTypes.toList (v.resultList f.resultTypes.size) (s.fn H (ds++gs)).results [])
 (xx:∀sp:Nat->Bool,(∀p∈before,sp p.block=ah)->DataW.TrodAll enc P W' 0 sp ah f.params.toList args.toList (s.fn H (ds++gs)).args pa)
 (Ie:∀sp:Nat->Bool,(∀p∈before,sp p.block=ah)->DataW.TrodVars enc P W' sp s.vars (s.fn H (ds++gs)).vars pv)
 (zd:before=pa++pv) (hb:Below W.heap.size W W')
 (bq:∀(j:Nat) (t:TypeId) (r:Value),f.resultTypes[j]?=aa t->(v.resultList f.resultTypes.size)[j]?=aa r->Value.okWide P W' .any 0 t r):
 s.post enc P f apart fresh handsOn again W args v W':=by
 have aA:∀p∈before,p.block<W.heap.size:=λp hp=>hW.lt p hp;have hold:∀p∈before,(λb=>decide (b<W.heap.size)) p.block=ah:=λp hp=>by simpa using aA p hp
 refine⟨ds,gs,before,[],pa,pv,hW,ij _ _ _,xx _ hold,Ie _ hold,World.keptBut_mono (λp hp=>⟨hp,?_⟩) (hb.frame (·∈before)),λ_=>?_⟩
 ·rw[zd,wR] at hp;exact Or.inr hp
 ·obtain⟨_,_,_,_,_,hz,hn⟩:=hW;refine⟨bq,_,_,([]++pa)++pv,⟨[]++pa,pv,trodAll_append (xx _ (λ_ _=>rfl)) (ij _ _ _),Ie _ (λ_ _=>rfl),rfl,?_,?_⟩,?_⟩
  ·intro b off hp;have iD:MemPlace.cell b off∈before:=(by rw[zd];simpa using hp);rw[hb.frozen (aA _ iD)];exact hz b off iD
  ·intro ha;have:=hn ha;rw[zd] at this;simpa using this
  ·intro p hp _;rw[zd];simpa using hp
structure av9(P:Program)(f:FuncId)(fn:Func)(tb:TypeId):Prop where
 func:P.funcs[f]?=aa fn
 laid:laidOutB P=ah
 qB:∀t∈fn.params.toList,Lv P 9 t=ah/\P.readableRec t=ah/\t<P.types.size
 res:fn.resultTypes=#[tb]
 bool:P.underlying tb=aa .bool
variable {G:Nat->Option (List AV)} {prims:FuncId->Option (List AV->aq->Option (AV × aq))}
end
end Go.AE
end
section
namespace Go.AE
open Go.RowKit (Below)
section
variable {K:aW} {G:Nat->Option (List AV)} {ok:FuncId->Nat->Code->Bool} {w0 w w':World} {h:aq}
def bR.grown(s:bR K G ok w0 h w)(hb:Below w.heap.size w w'):bR K G ok w0 h w':=by
 have hk:∀{k:Nat} {o:Obj},w.heap[k]?=aa o->w'.heap[k]?=aa o:=λhk=>(hb.block _ (o9 hk)).trans hk;refine⟨s.dh.trans (hb.mono s.size),fw s.size hb.size,λg j c hg=>?_,s.eV,s.ma,s.qD,λb g cs iB hc=>?_,s.oH,s.rv,λl g r hl hr=>?_,s.tn,λt ht=>?_,s.qA,λr hr=>?_,s.all⟩
 ·rw[<-s.ic g j c hg];exact World.cell?_of_block (w:=w) (hb.block g (s.A7 hg))
 ·obtain⟨h1,h2,ha,cells,e,h3,h4⟩:=s.box b g cs iB hc;exact⟨h1,h2,ha,cells,e,hk h3,h4⟩
 ·obtain⟨h1,fn,tmps,d,h2,h3⟩:=s.loop l g r hl hr;exact⟨h1,fn,tmps,d,hk h2,h3⟩
 ·obtain⟨h1,h2,h3,cells,e,fz,h4,h5,h6⟩:=s.tok t ht;refine⟨h1,h2,h3,cells,e,fz,hk h4,h5,λj hj hl=>?_⟩;rw[<-h6 j hj hl];exact World.frozen?_of_block (w:=w) (hb.block _ (o9 h4))
 ·exact⟨(s.md r hr).1,hk (s.md r hr).2⟩
end
end Go.AE
end
section
namespace Go.AE
def aq.push(h:aq)(cs:List AV):aq:={h with boxes:=h.boxes++[cs]}
def aq.put(h:aq)(b:Nat)(cs:List AV):aq:={h with boxes:=h.boxes.set b cs}
def bg(h:aq)(cs):h.box cs=(.ptr (.box h.boxes.length) 0,h.push cs):=rfl
def cH(h:aq)(cs):(h.push cs).boxes.length=h.boxes.length+1:=by simp[aq.push]
def aZ(h:aq)(cs):(h.push cs).boxes[h.boxes.length]?=aa cs:=by simp[aq.push]
def aY{h:aq}{cs ds}{b:Nat}(hb:h.boxes[b]?=aa ds):(h.push cs).boxes[b]?=aa ds:=vQ hb
def eu{h:aq}{cs}{b}(hb:b<h.boxes.length):(h.put b cs).boxes[b]?=aa cs:=by simp[aq.put,hb]
def cX{h:aq}{cs}{b c}(hb:c≠b):(h.put b cs).boxes[c]?=h.boxes[c]?:=by simp[aq.put,mL,Ne.symm hb]
def mj(h:aq)(b)(cs):(h.put b cs).boxes.length=h.boxes.length:=by simp[aq.put]
def cG(h:aq):Bool:=h.dead.all λn=>decide (n<h.tn)
structure Ext(h h':aq):Prop where
 box:∀(b:Nat) (cs:List AV),h.boxes[b]?=aa cs->h'.boxes[b]?=aa cs
 loop:∀(l:Nat) (r:iI),h.loops[l]?=aa r->h'.loops[l]?=aa r
 tn:h.tn<=h'.tn
 dead:∀n,n<h.tn->n∈h'.dead->n∈h.dead
 ok:cG h=ah->cG h'=ah
def Ext.refl(h):Ext h h:=⟨λ_ _ h=>h,λ_ _ h=>h,aJ _,λ_ _ h=>h,λh=>h⟩
def Ext.trans{a b c}(h:Ext a b)(k:Ext b c):Ext a c:=
 ⟨λi cs hb=>k.box i cs (h.box i cs hb),λl r hl=>k.loop l r (h.loop l r hl),fw h.tn k.tn,λn hn hd=>h.dead n hn (k.dead n (ni hn h.tn) hd),λho=>k.ok (h.ok ho)⟩
def Ext.push(h)(cs):Ext h (h.push cs):=⟨λ_ _ hb=>aY hb,λ_ _ h=>h,aJ _,λ_ _ h=>h,λh=>h⟩
def Ext.fresh(h)(sz)(es):Ext h (h.fresh sz es).2:=⟨λ_ _ hb=>hb,λ_ _ h=>h,GA _,λ_ _ h=>h,λho=>by
 unfold cG at *
 simp only[aq.fresh,ey,decide_eq_true_eq] at *
 exactλn hn=>bQ (wT (ho n hn))⟩
def Ext.alive{h h'}(x:Ext h h'){n}(ha:alive h n=ah):alive h' n=ah:=by
 unfold AE.alive at *
 simp only[bC,decide_eq_true_eq,Bool.not_eq_true',List.contains_eq_mem,decide_eq_false_iff_not] at *
 exact⟨ni ha.1 x.tn,λhd=>ha.2 (x.dead n ha.1 hd)⟩
def Ext.len{h h'}(x:Ext h h'):h.boxes.length<=h'.boxes.length:=by
 rcases dW h'.boxes.length h.boxes.length with aA|eg
 ·have h1:=x.box h'.boxes.length _ (aR aA);have:=(aS.1 h1).1;omega
 ·exact eg
noncomputable def Pm(R:Rec)(g:FuncId)(args:List AV)(h:aq):aq:=
 match R.call g args h with
 |some (_,h')=>h'
 |none=>h
def akl{R}{g}{args}{h h'}{r}(hc:R.call g args h=aa (r,h')):Pm R g args h=h':=by unfold Pm;rw[hc]
def TV(R:Rec)(g:FuncId)(args:List AV)(h:aq)(r:eY):Prop:=∃h',R.call g args h=aa (r,h')/\Ext h h'
def TV.ext{R}{g}{args}{h}{r}(hs:TV R g args h r):Ext h (Pm R g args h):=by obtain⟨h',h1,h2⟩:=hs;rw[akl h1];exact h2
def Au(P:Program)(G:Nat->Option (List AV))(R:Rec)(fn:Func)(r:eY)(Post:aq->Prop):Xt->Env->aq->Prop:=λo e h=>∃h',yN P G R fn r h' o e h/\Post h'
def aiw{P}{G}{R}{fn}{r}{Post}{e}{h}:Au P G R fn r Post .normal e h=∃h',iq P G R fn e e.defers au h=aa (r,h')/\Post h':=rfl
def aiy{P}{G}{R}{fn}{r}{Post}{e}{h}:Au P G R fn r Post .ret e h=∃h',iq P G R fn e e.defers au h=aa (r,h')/\Post h':=rfl
def aix{P}{G}{R}{fn}{r}{Post}{e}{h}{x}:Au P G R fn r Post (.panic x) e h=∃h',iq P G R fn e e.defers (aa (x,az)) h=aa (r,h')/\Post h':=rfl
def hY{P}{G}{prims}{g}{fn}{body}{args}{r}{h}{Post}(hp:prims g=au)(ig:P.funcs[g]?=aa fn)(hb:fn.body=aa body)
 (hr:bH (whole P G prims) body (Env.start args au) h (Au P G (whole P G prims) fn r Post)):∃h',(whole P G prims).call g args h=aa (r,h')/\Post h':=by
 obtain⟨o,e1,h1,h2,h',h3,h4⟩:=hr;exact⟨h',cJ hp ig hb ⟨o,e1,h1,h2,h3⟩,h4⟩
section
variable {P:Program} {G:Nat->Option (List AV)} {h:aq} {t:TypeId} {b off n:Nat} {cs:List AV}
def mJ(ha:gI P t=aa az)(hb:h.boxes[b]?=aa cs):aH P G h t (.ptr (.box b) off)=(cs.drop off).head?:=by unfold aH BV RP;simp only[ha,hb,ff]
def iL(ha:gI P t=aa ah)(hs:dt P t=aa n)(hb:h.boxes[b]?=aa cs)(hl:off+n<=cs.length):aH P G h t (.ptr (.box b) off)=aa (.agg ((cs.drop off).take n)):=by unfold aH BV RP;simp only[ha,hb,hs,ff];rw[aG (by simp;omega)]
def r8{sz i:Nat}{es:List (List AV)}{row:List AV}(ha:gI P t=aa az)(hb:es[i]?=aa row):aH P G h t (.elem sz es i off)=(row.drop off).head?:=by unfold aH BV;simp only[ha,hb,ff]
def Lj{sz i:Nat}{es:List (List AV)}{row:List AV}(ha:gI P t=aa ah)(hs:dt P t=aa n)(hb:es[i]?=aa row)(hl:off+n<=row.length):aH P G h t (.elem sz es i off)=aa (.agg ((row.drop off).take n)):=by unfold aH BV;simp only[ha,hb,hs,ff];rw[aG (by simp;omega)]
def bh{e:TypeId}{k:Tok}{kk:IntKind}{sz:Nat}{es:List (List AV)}{a:Int}(hu:P.underlying t=aa (.slice e))(hs:dt P e=aa sz)(h0:0<=a)(h1:a<es.length):dH P t (.list k sz es) (.v (.int kk a))=aa (.elem sz es a.toNat 0):=by unfold dH;rw[hu];simp only;rw[aG ⟨h0,h1,hs⟩]
def E6{e:TypeId}{kk:IntKind}{bb o l c sz:Nat}{a:Int}(hu:P.underlying t=aa (.slice e))(hs:dt P e=aa sz)(h0:0<=a)(h1:a<l):dH P t (.arr bb o l c) (.v (.int kk a))=aa (.ptr (.box bb) (o+a.toNat * sz)):=by unfold dH;rw[hu];simp only[hs];rw[aG ⟨h0,h1⟩]
def fA{x:AV}{xs:List AV}(hx:x.bP=aa xs)(hs:dt P t=aa n)(hb:h.boxes[b]?=aa cs)(hn:xs.length=n)(hl:off+n<=cs.length):b7 P h t (.ptr (.box b) off) x=aa (h.put b (eX cs off xs)):=by unfold b7;simp only[hx,hs,hb];rw[aG ⟨hn,hl⟩];rfl
def pc(h:aq)(z cs):(h.push z).put h.boxes.length cs=h.push cs:=by simp[aq.push,aq.put,List.set_append_right]
def wK{z xs}(hl:xs.length=z.length):eX z 0 xs=xs:=by simp[eX,hl]
def jx{x:AV}{xs z:List AV}(hx:x.bP=aa xs)(hs:dt P t=aa n)(hn:xs.length=n)(hz:z.length=n):b7 P (h.push z) t (.ptr (.box h.boxes.length) 0) x=aa (h.push xs):=by rw[fA hx hs (aZ h z) hn ag,wK ag,pc]
end
end Go.AE
end
section
namespace Go.AE
section
variable {P:Program} {G:Nat->Option (List AV)} {R:Rec}
def anr(ops:Array Oper):∀(n i:Nat),i+n<=ops.size->∀(e:Env) (h:aq),di P G R ops (adh i n) e h=rh P G R ops ((ops.toList.drop i).take n) e h:=by
 intro n
 induction n with
 |zero=>intro i hi e h;rfl|succ n ih=>
  intro i hi e h;have aA:i<ops.size:=by omega
  have ho:ops[i]?=aa ops[i]:=mK aA;rw[adi,Bu (by simpa using aA),List.take_succ_cons];simp only[di,rh,ho,acn];cases fD ops e ops[i] with
  |none=>rfl|some b=>
   cases b with
   |false=>exact ih (i+1) ag _ _|true=>
    simp only;cases eo P G R e h ops[i] with
    |none=>rfl|some q=>
     obtain⟨r,e1,h1⟩:=q;cases r with|ret x=>exact ih (i+1) ag _ _|panic x=>rfl
def tD{ops:Array Oper}{m:Nat}(hm:m<=ops.size)(e:Env)(h:aq):di P G R ops (bM m) e h=rh P G R ops (ops.toList.take m) e h:=by rw[Ns,anr ops m 0 ag];rfl
def El(ops:Array Oper)(cs:List Nat)(ps:List (Nat × Nat)):Bool:=
 let b:=Region.before ops
 BO ops b&&(bM ops.size).all λj=>(bM j).all λi=>(b.getD j 0).testBit i||zC ops i j||ps.contains (i,j)||(qh ops i j&&(cs.contains i||cs.contains j))
def OD{ops:Array Oper}{cs:List Nat}{ps:List (Nat × Nat)}{e:Env}{h:aq}(hd:El ops cs ps=ah)(hc:∀k∈cs,Am P G R ops e h k)(hs:∀p∈ps,mo P G R ops e h p.1 p.2=ah):mQ P G R ops e h=ah:=by
 unfold El at hd;unfold mQ;simp only[bC,ey,fQ,vD] at hd ⊢;refine⟨hd.1,λj hj i hi=>?_⟩;rcases hd.2 j hj i hi with((h1|h1)|h1)|⟨h1,h2⟩
 ·exact .inl (.inl (.inl h1))
 ·exact .inl (.inl (.inr h1))
 ·exact .inl (.inr (hs (i,j) (by simpa using h1)))
 ·exact .inr ⟨h1,h2.imp (λq=>GV.2 (hc i (by simpa using q))) (λq=>GV.2 (hc j (by simpa using q)))⟩
def Eg{ops:Array Oper}{e:Env}{h:aq}{k:Nat}{o:Oper}{c:Call}{x:AV}(ho:ops[k]?=aa o)(bL:o.op=.call c)
 (h1:cO P G R ops (ops.toList.take k) e h (λq er _=>q=.normal/\∀hm,mA P R er hm c=aa (.ret x,hm)))
 (h2:cO P G R ops ops.toList e h (λq _ _=>q=.normal)):Am P G R ops e h k:=by
 have hk:k<ops.size:=(Array.getElem?_eq_some_iff.1 ho).1;obtain⟨q1,er,hr,e1,rfl,e2⟩:=h1;obtain⟨q2,en,hn,f1,rfl⟩:=h2;rw[<-tD ag] at e1;have eM:di P G R ops (bM ops.size) e h=aa (.normal,en,hn):=by rw[tD (aJ _),<-Array.length_toList,fC];exact f1
 obtain⟨-,tr,-⟩:=trace eM;refine⟨o,x,er,hr,ho,?_,e1,λm hm=>⟨_,_,tr m hm,agn bL (e2 _)⟩⟩;have akb:∀b,c.callee≠ .builtin b:=λb hb=>by have:=e2 hr;unfold mA at this;rw[hb] at this;cases this
 rw[bL];obtain⟨callee,args,ts⟩:=c;cases callee with|builtin b=>exact absurd rfl (akb b)|value f=>rfl|invoke r n=>rfl
def wL{ops:Array Oper}{e:Env}{h:aq}{i j:Nat}{o:Oper}{t:TypeId}{a:Operand}(uS:qh ops i j=ah)(ho:ops[i]?=aa o)(bL:o.op=.load t a)(hg:o.guard=au)
 (hj:(ops[j]?).map (λo=>jI o.op)=aa .acts) {x v:AV} (hv:fc v v=ah)
 (h1:cO P G R ops (ops.toList.take i) e h (λq er hr=>q=.normal/\er.eval a=x/\aH P G hr t x=aa v))
 (h2:cO P G R ops (ops.toList.take (j+1)) e h (λq _ hm=>q=.normal/\aH P G hm t x=aa v)):mo P G R ops e h i j=ah:=by
 have hi:i<ops.size:=by
  rcases dW i ops.size with hh|hh
  ·exact hh
  ·rw[yl hh] at ho;cases ho
 have PG:j<ops.size:=by
  rcases dW j ops.size with hh|hh
  ·exact hh
  ·rw[yl hh] at hj;cases hj
 have hc:(ops[i]?).map (λo=>jI o.op)=aa .reads:=by rw[ho];simp only[ff,bL];rfl
 unfold mo;rw[uS,hc,hj];simp only[ry];unfold qx;rw[ho,tD ag,tD ag];obtain⟨q1,er,hr,e1,rfl,e2,e3⟩:=h1;obtain⟨q2,em,hm,f1,rfl,f2⟩:=h2;rw[e1,f1];simp only[fD,hg,bL,e2,e3,f2,hv]
def sw{ops:Array Oper}{e:Env}{h:aq}{i j:Nat}{o:Oper}{t:TypeId}{a:Operand}(uS:qh ops i j=ah)(ho:ops[j]?=aa o)(bL:o.op=.load t a)(hg:o.guard=au)
 (hj:(ops[i]?).map (λo=>jI o.op)=aa .acts) {x v:AV} (hv:fc v v=ah)
 (h1:cO P G R ops (ops.toList.take j) e h (λq er hr=>q=.normal/\er.eval a=x/\aH P G hr t x=aa v))
 (h2:cO P G R ops (ops.toList.take i) e h (λq _ hm=>q=.normal/\aH P G hm t x=aa v)):mo P G R ops e h i j=ah:=by
 have hi:i<ops.size:=by
  rcases dW i ops.size with hh|hh
  ·exact hh
  ·rw[yl hh] at hj;cases hj
 have PG:j<ops.size:=by
  rcases dW j ops.size with hh|hh
  ·exact hh
  ·rw[yl hh] at ho;cases ho
 have hc:(ops[j]?).map (λo=>jI o.op)=aa .reads:=by rw[ho];simp only[ff,bL];rfl
 unfold mo;rw[uS,hc,hj];simp only[ry];unfold qx;rw[ho,tD ag,tD ag];obtain⟨q1,er,hr,e1,rfl,e2,e3⟩:=h1;obtain⟨q2,em,hm,f1,rfl,f2⟩:=h2;rw[e1,f1];simp only[fD,hg,bL,e2,e3,f2,hv]
end
section
variable {P:Program} {G:Nat->Option (List AV)} {prims:FuncId->Option (List AV->aq->Option (AV × aq))} {Q:Xt->Env->aq->Prop} {e:Env} {h:aq}
def Su{id:Nat}{ops:Array Oper}(cs:List Nat)(ps:List (Nat × Nat))(hd:El ops cs ps=ah)(hc:∀k∈cs,Am P G (whole P G prims) ops e h k)(hs:∀p∈ps,mo P G (whole P G prims) ops e h p.1 p.2=ah)
 (hr:cO P G (whole P G prims) ops ops.toList e h (yL Q)):bH (whole P G prims) (.region id ops ah) e h Q:=
 Sv (OD hd hc hs) hr
end
structure fX(b n0:Nat)(h h':aq):Prop where
 box:∀(c:Nat) (cs:List AV),c≠b->h.boxes[c]?=aa cs->h'.boxes[c]?=aa cs
 len:h.boxes.length<=h'.boxes.length
 loop:∀(l:Nat) (r:iI),h.loops[l]?=aa r->h'.loops[l]?=aa r
 tn:h.tn<=h'.tn
 dead:∀n,n<n0->n∈h'.dead->n∈h.dead
 ok:cG h=ah->cG h'=ah
def fX.refl(b n0)(h):fX b n0 h h:=⟨λ_ _ _ h=>h,aJ _,λ_ _ h=>h,aJ _,λ_ _ h=>h,λh=>h⟩
def fX.trans{b n0}{x y z}(h:fX b n0 x y)(k:fX b n0 y z):fX b n0 x z:=
 ⟨λi cs hi hb=>k.box i cs hi (h.box i cs hi hb),fw h.len k.len,λl r hl=>k.loop l r (h.loop l r hl),fw h.tn k.tn,λn hn hd=>h.dead n hn (k.dead n hn hd),λho=>k.ok (h.ok ho)⟩
def fX.Db{b n0}{h h'}(x:Ext h h')(hn:n0<=h.tn):fX b n0 h h':=
 ⟨λc cs _ hc=>x.box c cs hc,x.len,x.loop,x.tn,λn h1 h2=>x.dead n (ni h1 hn) h2,x.ok⟩
def fX.put(b n0)(h)(cs):fX b n0 h (h.put b cs):=
 ⟨λc ds hc hb=>by rw[cX hc];exact hb,by rw[mj];exact aJ _,λ_ _ h=>h,aJ _,λ_ _ h=>h,λh=>h⟩
def Ext.mut{b}{h0 h h'}(x:Ext h0 h)(m:fX b h0.tn h h')(hb:h0.boxes.length<=b):Ext h0 h':=
 ⟨λc cs hc=>by have aA:=(aS.1 hc).1;exact m.box c cs ag (x.box c cs hc),λl r hl=>m.loop l r (x.loop l r hl),fw x.tn m.tn,λn hn hd=>x.dead n hn (m.dead n hn hd),λho=>m.ok (x.ok ho)⟩
def aq.app(h:aq)(k:Tok):aq:=
 match k with
 | .free n=>{h with dead:=n::h.dead,tn:=h.tn+1}
 |_=>{h with tn:=h.tn+1}
def ec(h:aq)(k):(h.app k).boxes=h.boxes:=by cases k<;>rfl
def w9(h:aq)(k):(h.app k).loops=h.loops:=by cases k<;>rfl
def D9(h:aq)(k):(h.app k).tn=h.tn+1:=by cases k<;>rfl
def dm(n0:Nat)(h:aq)(k:Tok):Prop:=k=.nil∨k=.tight∨∃n,k=.free n/\n0<=n/\alive h n=ah
def fX.app{b n0}{h}{k}(hk:dm n0 h k):fX b n0 h (h.app k):=by
 refine⟨λc cs _ hc=>by rw[ec];exact hc,by rw[ec];exact aJ _,λl r hl=>by rw[w9];exact hl,by rw[D9];exact GA _,?_,?_⟩
 ·rcases hk with rfl|rfl|⟨m,rfl,hm,ha⟩
  ·exactλn _ hn=>hn
  ·exactλn _ hn=>hn
  ·intro n hn hd;rcases iu.1 hd with rfl|hd
   ·omega
   ·exact hd
 ·intro ho;have PN:∀n∈h.dead,n<h.tn+1:=λn hn=>by have:=ey.1 ho n hn;simp only[decide_eq_true_eq] at this;omega
  rcases hk with rfl|rfl|⟨m,rfl,hm,ha⟩
  ·exact ey.2 λn hn=>bQ (PN n hn)
  ·exact ey.2 λn hn=>bQ (PN n hn)
  ·refine ey.2 λn hn=>bQ ?_;rcases iu.1 hn with rfl|hn
   ·unfold alive at ha;simp only[bC,decide_eq_true_eq] at ha;show n<h.tn+1;omega
   ·exact PN n hn
def Ext.app{h0 h}{k}(x:Ext h0 h)(hk:dm h0.tn h k):Ext h0 (h.app k):=by have m:=fX.app (b:=h.boxes.length) hk;exact x.mut m x.len
def aeK{h}{k}(ho:cG h=ah)(hk:dm 0 h k):alive (h.app k) h.tn=ah:=by
 have ja:h.dead.contains h.tn=az:=by rw[Bool.eq_false_iff];intro hc;have:=ey.1 ho h.tn (by simpa using hc);simp at this
 unfold alive;rw[D9];rcases hk with rfl|rfl|⟨m,rfl,-,ha⟩
 ·simp only[aq.app,ja];simp
 ·simp only[aq.app,ja];simp
 ·unfold alive at ha;simp only[bC,decide_eq_true_eq] at ha;have h1:¬(h.tn=m):=by omega
  have h2:¬(h.tn∈h.dead):=by simpa using ja
  simp[aq.app,h1,h2]
def dm.mono{n0}{h}{k}(hk:dm n0 h k){n1}(hn:n1<=n0):dm n1 h k:=by
 rcases hk with rfl|rfl|⟨m,rfl,hm,ha⟩
 ·exact .inl rfl
 ·exact .inr (.inl rfl)
 ·exact .inr (.inr ⟨m,rfl,by omega,ha⟩)
def dm.ext{n0}{h h'}{k}(hk:dm n0 h k)(x:Ext h h'):dm n0 h' k:=by
 rcases hk with rfl|rfl|⟨m,rfl,hm,ha⟩
 ·exact .inl rfl
 ·exact .inr (.inl rfl)
 ·exact .inr (.inr ⟨m,rfl,hm,x.alive ha⟩)
def dm.next{n0}{h}{k}(hk:dm n0 h k)(ho:cG h=ah)(hn:n0<=h.tn):dm n0 (h.app k) (.free h.tn):=
 .inr (.inr ⟨h.tn,rfl,hn,aeK ho (hk.mono (cA _))⟩)
end Go.AE
end
section
namespace Go.AE
def uH.cons_inv{H}{P}{t}{ts}{xs}{ds:List (DataW H)}(h:uH P (t::ts) xs ds):∃x xs' d ds',xs=x::xs'/\ds=d::ds'/\mb P t x d/\uH P ts xs' ds':=by
 cases xs with
 |nil=>cases ds<;>exact h.elim
 |cons x xs=>
  cases ds with|nil=>exact h.elim|cons d ds=>exact⟨x,xs,d,ds,rfl,rfl,h.1,h.2⟩
def uH.amY{H}{P}{xs}{ds:List (DataW H)}(h:uH P [] xs ds):xs=[]:=by
 cases xs with|nil=>rfl|cons x xs=>cases ds<;>exact h.elim
section
variable {P:Program} {t:TypeId} {x y:Operand}
def LD{d:TypeDesc}(hu:P.underlying t=aa d):fg P (underlying t)=aa d:=by unfold underlying;simp only[r9];show(aa P).bind _=_;simp only[oq,hu];rfl
def afl{a b:Bool}(hu:P.underlying t=aa .bool):cY P .eql t x y (.v (.bool a)) (.v (.bool b))=aa (.v (.bool (a==b))):=by
 have h1:cY P .eql t x y (.v (.bool a)) (.v (.bool b))=(fg P (do eqGuard .eql t x y (.bool a) (.bool b);binOp .eql t (.bool a) (.bool b))).bind ob:=rfl;have h2:fg P (eqGuard .eql t x y (.bool a) (.bool b))=aa ():=rfl;have h3:fg P (Op.equal t (.bool a) (.bool b))=aa (a==b):=by unfold Op.equal Op.maxDepth Op.equalIn;rw[r9,LD hu];rfl
 have h4:fg P (binOp .eql t (.bool a) (.bool b))=aa (.bool (a==b)):=by show fg P (do pure (Value.bool (<-Op.equal t (.bool a) (.bool b))))=_;rw[r9,h3];rfl
 rw[h1,r9,h2,oq,h4];rfl
def aft{v:Value}{ms:Array (String × TypeId)}(hu:P.underlying t=aa (.interface ms)):cY P .neq t x (.const v) (.v .nilIface) (.v .nilIface)=aa (.v (.bool az)):=by
 have h1:cY P .neq t x (.const v) (.v .nilIface) (.v .nilIface)=(fg P (do eqGuard .neq t x (.const v) .nilIface .nilIface;binOp .neq t .nilIface .nilIface)).bind ob:=rfl;have h2:fg P (eqGuard .neq t x (.const v) .nilIface .nilIface)=aa ():=by cases x<;>rfl
 have h3:fg P (Op.equal t .nilIface .nilIface)=aa ah:=by unfold Op.equal Op.maxDepth Op.equalIn;rw[r9,LD hu];rfl
 have h4:fg P (binOp .neq t .nilIface .nilIface)=aa (.bool az):=by show fg P (do pure (Value.bool (!(<-Op.equal t .nilIface .nilIface))))=_;rw[r9,h3];rfl
 rw[h1,r9,h2,oq,h4];rfl
end
end Go.AE
end
section
namespace Go.AE
section
variable {h:aq} {cs:List AV} {b c:Nat} {k:Tok}
def ajk:(h.push cs).boxes[h.boxes.length]?=aa cs:=aZ h cs
def nt(hc:c=h.boxes.length):(h.push cs).boxes[c]?=aa cs:=by subst hc;exact aZ h cs
def Kx(hc:c≠h.boxes.length):(h.push cs).boxes[c]?=h.boxes[c]?:=by
 unfold aq.push;simp only[List.getElem?_append];split
 ·rfl
 ·rename_i h1;rw[uI (by simp;omega),uI ag]
def ajl(hb:b<h.boxes.length):(h.put b cs).boxes[b]?=aa cs:=eu hb
def ajm(hc:c≠b):(h.put b cs).boxes[c]?=h.boxes[c]?:=cX hc
def ajj:(h.app k).boxes[c]?=h.boxes[c]?:=by rw[ec]
def Zg:(h.app k).boxes.length=h.boxes.length:=by rw[ec]
end
def An{n0}{h}{cs}{k}:dm n0 (h.push cs) k=dm n0 h k:=rfl
def BU{n0 b}{h}{cs}{k}:dm n0 (h.put b cs) k=dm n0 h k:=rfl
def Ext.fK{h h'}(x:Ext h h'){b}(hb:h.boxes.length<=b)(cs):Ext h (h'.put b cs):=by refine⟨λc ds hc=>?_,x.loop,x.tn,x.dead,x.ok⟩;have aA:c<h.boxes.length:=(aS.1 hc).1;rw[cX ag];exact x.box c ds hc
section
variable {P:Program} {G:Nat->Option (List AV)} {h:aq} {t:TypeId} {b off n:Nat} {cs:List AV}
def aui{z:Value}(hs:dt P t=aa 1)(hb:h.boxes[b]?=aa cs)(hl:off+1<=cs.length):b7 P h t (.ptr (.box b) off) (.v z)=aa (h.put b (eX cs off [.v z])):=fA rfl hs hb rfl hl
def aug{k:Tok}{sz:Nat}{es:List (List AV)}(hs:dt P t=aa 1)(hb:h.boxes[b]?=aa cs)(hl:off+1<=cs.length):b7 P h t (.ptr (.box b) off) (.list k sz es)=aa (h.put b (eX cs off [.list k sz es])):=fA rfl hs hb rfl hl
def atm{l:List UInt8}{k k':IntKind}{lo hi:Int}(hu:P.underlying t=aa .string)(h0:0<=lo)(h1:lo<=hi)(h2:hi<=l.length):
 iN P t (.v (.string (bs l))) (aa (.v (.int k lo))) (aa (.v (.int k' hi))) au=aa (.v (.string (bs ((l.take hi.toNat).drop lo.toNat)))):=by
 unfold iN;simp only[BJ,yn,jO,if_false,hu,BR];have e1:gK l.length (aa (AV.v (.int k' hi))) l.length=aa hi.toNat:=by unfold gK;simp only;rw[aG ⟨ag,h2⟩]
 have e2:gK hi.toNat (aa (AV.v (.int k lo))) 0=aa lo.toNat:=by unfold gK;simp only;rw[aG ⟨h0,by omega⟩]
 simp only[e1,e2,Of]
def atn{l:List UInt8}{k:IntKind}{lo:Int}(hu:P.underlying t=aa .string)(h0:0<=lo)(h1:lo<=l.length):
 iN P t (.v (.string (bs l))) (aa (.v (.int k lo))) au au=aa (.v (.string (bs (l.drop lo.toNat)))):=by
 unfold iN;simp only[BJ,yn,jO,if_false,hu,BR];have e1:gK l.length au l.length=aa l.length:=rfl;have e2:gK l.length (aa (AV.v (.int k lo))) 0=aa lo.toNat:=by unfold gK;simp only;rw[aG ⟨h0,h1⟩]
 simp only[e1,e2,Of,fC]
def ato{l:List UInt8}{k':IntKind}{hi:Int}(hu:P.underlying t=aa .string)(h0:0<=hi)(h2:hi<=l.length):
 iN P t (.v (.string (bs l))) au (aa (.v (.int k' hi))) au=aa (.v (.string (bs (l.take hi.toNat)))):=by
 unfold iN;simp only[BJ,yn,jO,if_false,hu,BR];have e1:gK l.length (aa (AV.v (.int k' hi))) l.length=aa hi.toNat:=by unfold gK;simp only;rw[aG ⟨h0,h2⟩]
 have e2:gK hi.toNat au 0=aa 0:=rfl;simp only[e1,e2,Of,iO]
def ZC{r:Ref}:Rb (.ptr r off)=aa (.ptr r off):=rfl
end
end Go.AE
end
section
namespace Go.AE
def Env.Ek(e:Env)(d:FuncId × List AV):Env:={e with defers:=d::e.defers}
def Env.pn(e:Env)(p:Option (AV × Bool)):Env:={e with cV:=p}
section
variable {e:Env} {d:FuncId × List AV} {p:Option (AV × Bool)} {t:Nat}
def ah8:(e.Ek d).get t=e.get t:=rfl
def ah7:(e.Ek d).defers=d::e.defers:=rfl
def ah9:(e.Ek d).cV=e.cV:=rfl
def VM:(e.Ek d).round=e.round:=rfl
def an6:(e.pn p).get t=e.get t:=rfl
def an5:(e.pn p).defers=e.defers:=rfl
def an7:(e.pn p).cV=p:=rfl
def aab:(e.pn p).round=e.round:=rfl
end
def Th(P:Program)(G:Nat->Option (List AV))(R:Rec)(ops:Array Oper)(rest:List Oper)(d:Option Tmp)(args:List AV)(e:Env)(h:aq)(Q:Xt->Env->aq->Prop)(x:AV):Prop:=
 match x with
 | .func (.func g) first aD=>cO P G R ops rest ((e.Ek (g,first++args++aD)).put d (.tuple [])) h Q
 |_=>False
def NO(P:Program)(G:Nat->Option (List AV))(R:Rec)(ops:Array Oper)(rest:List Oper)(d:Option Tmp)(e:Env)(h:aq)(Q:Xt->Env->aq->Prop)(p:Option (AV × Bool)):Prop:=
 match p with
 |some (x,az)=>cO P G R ops rest ((e.pn (aa (x,ah))).put d x) h Q
 |_=>cO P G R ops rest (e.put d (.v .nilIface)) h Q
section
variable {P:Program} {G:Nat->Option (List AV)} {R:Rec} {ops:Array Oper} {rest:List Oper} {e:Env} {h:aq} {Q:Xt->Env->aq->Prop} {d:Option Tmp} {ty:TypeId} {pos:String} {af:Array Edge}
def aqj{f:Operand}{args:Array Operand}{ts:Array TypeId}(hr:e.round=au):cO P G R ops (⟨d,.defer {callee:=.value f,args,argTypes:=ts},ty,pos,af,au⟩::rest) e h Q=Th P G R ops rest d (args.toList.map e.eval) e h Q (e.eval f):=by
 rw[asf hr];generalize e.eval f=y;rcases y with _|_|_|_|_|_|_|_|⟨fn,a,b⟩|_|_
 case func=>cases fn<;>rfl
 all_goals rfl
def ah6{g:FuncId}{first aD args:List AV}:Th P G R ops rest d args e h Q (.func (.func g) first aD)=cO P G R ops rest ((e.Ek (g,first++args++aD)).put d (.tuple [])) h Q:=rfl
def aqz{args:Array Operand}{ts:Array TypeId}(hr:e.round=au):cO P G R ops (⟨d,.call {callee:=.builtin .recover,args,argTypes:=ts},ty,pos,af,au⟩::rest) e h Q=NO P G R ops rest d e h Q e.cV:=by
 rw[asj hr];rcases hp:e.cV with _|⟨x,b⟩
 ·rfl
 ·cases b<;>rfl
def ape{x:AV}:NO P G R ops rest d e h Q (aa (x,az))=cO P G R ops rest ((e.pn (aa (x,ah))).put d x) h Q:=rfl
def apd:NO P G R ops rest d e h Q au=cO P G R ops rest (e.put d (.v .nilIface)) h Q:=rfl
def S5{fn:Func}{g:FuncId}{args:List AV}{ds:List (FuncId × List AV)}{x:AV}{h':aq}(hc:R.jY g args au h=aa (.ret x,au,h')):iq P G R fn e ((g,args)::ds) au h=iq P G R fn e ds au h':=by rw[iq,hc]
def ave{fn:Func}{g:FuncId}{args:List AV}{ds:List (FuncId × List AV)}{x y z:AV}{h':aq}(hc:R.jY g args (aa (y,az)) h=aa (.ret x,aa (z,ah),h')):iq P G R fn e ((g,args)::ds) (aa (y,az)) h=iq P G R fn e ds au h':=by rw[iq,hc]
end
end Go.AE
end
section
namespace Go.AE
def Ki(P:Program)(G:Nat->Option (List AV))(R:Rec)(fn:Func)(Post:eY->aq->Prop):Xt->Env->aq->Prop:=λo e h=>∃r h',yN P G R fn r h' o e h/\Post r h'
def aiq{P}{G}{R}{fn}{Post}{e}{h}:Ki P G R fn Post .normal e h=∃r h',iq P G R fn e e.defers au h=aa (r,h')/\Post r h':=rfl
def ais{P}{G}{R}{fn}{Post}{e}{h}:Ki P G R fn Post .ret e h=∃r h',iq P G R fn e e.defers au h=aa (r,h')/\Post r h':=rfl
def air{P}{G}{R}{fn}{Post}{e}{h}{x}:Ki P G R fn Post (.panic x) e h=∃r h',iq P G R fn e e.defers (aa (x,az)) h=aa (r,h')/\Post r h':=rfl
def db{P}{G}{prims}{g}{fn}{body}{args}{h}{Post}(hp:prims g=au)(ig:P.funcs[g]?=aa fn)(hb:fn.body=aa body)
 (hr:bH (whole P G prims) body (Env.start args au) h (Ki P G (whole P G prims) fn Post)):∃r h',(whole P G prims).call g args h=aa (r,h')/\Post r h':=by
 obtain⟨o,e1,h1,h2,r,h',h3,h4⟩:=hr;exact⟨r,h',cJ hp ig hb ⟨o,e1,h1,h2,h3⟩,h4⟩
end Go.AE
end
section
namespace Go.AE
section
variable {P:Program} {h:aq} {ts:Array TypeId} {ty:TypeId} {k:IntKind} {a b:Int}
def C9:jH P h .max ts ty [.v (.int k a),.v (.int k b)]=aa (.v (.int k (if a<b then b else a)),h):=by
 have h1:jH P h .max ts ty [.v (.int k a),.v (.int k b)]=((fg P (Builtin.max_ ts ty #[.int k a,.int k b])).bind ob).map (·,h):=rfl;rw[h1];have h2:fg P (Builtin.max_ ts ty #[.int k a,.int k b])=aa (.int k (if a<b then b else a)):=by simp[Builtin.max_,Builtin.max2];split<;>simp_all<;>rfl
 rw[h2];split<;>rfl
def Iq:jH P h .min ts ty [.v (.int k a),.v (.int k b)]=aa (.v (.int k (if b<a then b else a)),h):=by
 have h1:jH P h .min ts ty [.v (.int k a),.v (.int k b)]=((fg P (Builtin.min_ ts ty #[.int k a,.int k b])).bind ob).map (·,h):=rfl;rw[h1];have h2:fg P (Builtin.min_ ts ty #[.int k a,.int k b])=aa (.int k (if b<a then b else a)):=by simp[Builtin.min_,Builtin.min2];split<;>simp_all<;>rfl
 rw[h2];split<;>rfl
def al4{t:TypeId}{x:AV}:jH P h .len #[t] ty [x]=(dM P t x).map (·,h):=rfl
def GX{t:TypeId}{x:AV}:jH P h .cap #[t] ty [x]=(Eh P t x).map (·,h):=rfl
def append_eq{d:Option Tmp}{s x:AV}:sS P (λ_=>au) d h .append ts ty [s,x]=gN P h ts s x:=rfl
def aeO{G:Nat->Option (List AV)}{d:Option Tmp}{s x:AV}(ht:Jm G d ty=az):sS P G d h .append ts ty [s,x]=gN P h ts s x:=by unfold sS;simp only[ht,jO,if_false]
def aeP{G:Nat->Option (List AV)}{d:Option Tmp}{s x:AV}(ht:Jm G d ty=ah):sS P G d h .append ts ty [s,x]=sC P h ts s x:=by unfold sS;simp only[ht,if_true]
def copy_eq{s x:AV}:jH P h .copy ts ty [s,x]=Ar P h ts s x:=rfl
end
end Go.AE
end
section
namespace Go.AE
section
variable {H:Type} {P:Program} {t e:TypeId} {cs xs:List AV} {x:AV} {d:DataW H}
def Has.YO{k:IntKind}(h:Has P t cs d)(hu:P.underlying t=aa (.int k)):∃n:Int,cs=[.v (.int k n)]/\k.min<=n/\n<=k.max:=by
 cases h with
 |int dp n hn=>rw[hu] at dp;injection dp with dp;injection dp with dp;subst dp;exact⟨n,rfl,by simpa [Lit.wf] using hn⟩
 |bool dp=>rw[hu] at dp;cases dp
 |str dp=>rw[hu] at dp;cases dp
 |none dp=>rw[hu] at dp;cases dp
 |list dp=>rw[hu] at dp;cases dp
 |struct dp=>rw[hu] at dp;cases dp
 |array dp=>rw[hu] at dp;cases dp
def Has.zo(h:Has P t cs d)(hu:P.underlying t=aa (.int .i64)):∃n:Int,cs=[.v (.int .i64 n)]/\ -9223372036854775808<=n/\n<=9223372036854775807:=by obtain⟨n,h1,h2,h3⟩:=h.YO hu;simp[IntKind.min,IntKind.max,IntKind.signed,IntKind.bits] at h2 h3;exact⟨n,h1,h2,h3⟩
def Has.S3(h:Has P t cs d)(hu:P.underlying t=aa (.int .u8)):∃b:UInt8,cs=lh b:=by
 obtain⟨n,h1,h2,h4⟩:=h.YO hu;simp[IntKind.min,IntKind.max,IntKind.signed,IntKind.bits] at h2 h4;refine⟨UInt8.ofNat n.toNat,?_⟩;have h3:((UInt8.ofNat n.toNat).toNat:Int)=n:=by
  have:(UInt8.ofNat n.toNat).toNat=n.toNat:=by simp;omega
  rw[this];omega
 rw[h1,lh,h3]
def Has.Dn(h:Has P t cs d)(hu:P.underlying t=aa (.slice e)):∃(k:Tok) (es:List (List AV)),cs=[.list k (P.cellsOf e) es]/\es.length<=maxLen/\(k=.nil∨k=.held∨(k=.tight/\es=[]))/\(k=.nil->es=[])/\
 ∀r∈es,r.length=P.cellsOf e/\∃d:DataW H,Has P e r d:=by
 cases h with
 |bool dp=>rw[hu] at dp;cases dp
 |int dp=>rw[hu] at dp;cases dp
 |str dp=>rw[hu] at dp;cases dp
 |none dp=>rw[hu] at dp;injection dp with dp;injection dp with dp;subst dp;exact⟨.nil,[],rfl,by simp,.inl rfl,λ_=>rfl,λr hr=>by cases hr⟩
 |list dp k es ds sp hk hl hd he hs=>
  rw[hu] at dp;injection dp with dp;injection dp with dp;subst dp;refine⟨k,es,rfl,hl,.inr hk,?_,λr hr=>⟨hs r hr,?_⟩⟩
  ·rintro rfl;rcases hk with hk|⟨hk,-⟩<;>cases hk
  ·obtain⟨i,hi,rfl⟩:=List.mem_iff_getElem.1 hr;exact⟨ds[i],he i _ _ (aR hi) (aR ag)⟩
 |struct dp=>rw[hu] at dp;cases dp
 |array dp=>rw[hu] at dp;cases dp
def Has.MB{fs:Array Field}{qB:List (TypeId × Nat)}(h:Has P t xs d)(hu:P.underlying t=aa (.struct fs))(hf:(fs.toList.map λf=>(f.type,f.offset))=qB):
 xs.length=P.cellsOf t/\∀(i:Nat) (u:TypeId) (o:Nat),qB[i]?=aa (u,o)->∃d:DataW H,Has P u ((xs.drop o).take (P.cellsOf u)) d:=by
 cases h with
 |bool dp=>rw[hu] at dp;cases dp
 |int dp=>rw[hu] at dp;cases dp
 |str dp=>rw[hu] at dp;cases dp
 |none dp=>rw[hu] at dp;cases dp
 |list dp=>rw[hu] at dp;cases dp
 |array dp=>rw[hu] at dp;cases dp
 |struct dp xs ds hl hd hff=>
  rw[hu] at dp;injection dp with dp;injection dp with dp;subst dp;refine⟨hl,λi u o ho=>?_⟩;rw[<-hf,List.getElem?_map] at ho;cases hq:fs.toList[i]? with
  |none=>rw[hq] at ho;cases ho
  |some f=>rw[hq] at ho;simp only[ff,dP,dn] at ho;have hi:i<ds.length:=(by have:=(aS.1 hq).1;simp at this;omega);have:=hff i f ds[i] (by rw[<-DA];exact hq) (aR hi);rw[ho.1,ho.2] at this;exact⟨_,this⟩
def mb.plain(h:mb P t x d)(hu:∀fs,P.underlying t≠aa (.struct fs))(Qx:∀n e,P.underlying t≠aa (.array n e)):Has P t [x] d:=by
 unfold mb at h;split at h
 ·rename_i h1;exact absurd h1 (hu _)
 ·rename_i h1;exact absurd h1 (Qx _ _)
 ·exact h
def mb.zo(h:mb P t x d)(hu:P.underlying t=aa (.int .i64)):∃n:Int,x=.v (.int .i64 n)/\ -9223372036854775808<=n/\n<=9223372036854775807:=by obtain⟨l,h1,h2⟩:=(h.plain (λ_ hq=>by rw[hu] at hq;cases hq) (λ_ _ hq=>by rw[hu] at hq;cases hq)).zo hu;injection h1 with h1;exact⟨l,h1,h2⟩
def mb.S3(h:mb P t x d)(hu:P.underlying t=aa (.int .u8)):∃b:UInt8,x=.v (.int .u8 b.toNat):=by obtain⟨l,h1⟩:=(h.plain (λ_ hq=>by rw[hu] at hq;cases hq) (λ_ _ hq=>by rw[hu] at hq;cases hq)).S3 hu;injection h1 with h1;exact⟨l,h1⟩
def mb.Dn(h:mb P t x d)(hu:P.underlying t=aa (.slice e)):∃(k:Tok) (es:List (List AV)),x=.list k (P.cellsOf e) es/\es.length<=maxLen/\(k=.nil∨k=.held∨(k=.tight/\es=[]))/\(k=.nil->es=[])/\
 ∀r∈es,r.length=P.cellsOf e/\∃d:DataW H,Has P e r d:=by
 obtain⟨k,es,h1,h2⟩:=(h.plain (λ_ hq=>by rw[hu] at hq;cases hq) (λ_ _ hq=>by rw[hu] at hq;cases hq)).Dn hu;injection h1 with h1;exact⟨k,es,h1,h2⟩
def mb.MB{fs:Array Field}(h:mb P t x d)(hu:P.underlying t=aa (.struct fs)):∃xs,x=.agg xs/\Has P t xs d:=by unfold mb at h;rw[hu] at h;exact h
def Dq(P:Program)(t:TypeId)(qB:List (TypeId × Nat)):Bool:=
 match P.underlying t with
 |some (.struct fs)=>decide ((fs.toList.map λf=>(f.type,f.offset))=qB)
 |_=>az
def abO{qB:List (TypeId × Nat)}(h:Dq P t qB=ah):∃fs:Array Field,P.underlying t=aa (.struct fs)/\(fs.toList.map λf=>(f.type,f.offset))=qB:=by
 unfold Dq at h;split at h
 ·rename_i fs hu;exact⟨fs,hu,by simpa using h⟩
 ·cases h
def mb.fields{qB:List (TypeId × Nat)}(h:mb P t x d)(hs:Dq P t qB=ah):∃xs,x=.agg xs/\xs.length=P.cellsOf t/\∀(i:Nat) (u:TypeId) (o:Nat),qB[i]?=aa (u,o)->∃d:DataW H,Has P u ((xs.drop o).take (P.cellsOf u)) d:=by obtain⟨fs,hu,hf⟩:=abO hs;obtain⟨xs,h1,h2⟩:=h.MB hu;exact⟨xs,h1,h2.MB hu hf⟩
def Has.fields{qB:List (TypeId × Nat)}(h:Has P t xs d)(hs:Dq P t qB=ah):xs.length=P.cellsOf t/\∀(i:Nat) (u:TypeId) (o:Nat),qB[i]?=aa (u,o)->∃d:DataW H,Has P u ((xs.drop o).take (P.cellsOf u)) d:=by obtain⟨fs,hu,hf⟩:=abO hs;exact h.MB hu hf
def alY{α:Type}{l:List α}(h:l.length=2):∃a b,l=[a,b]:=by
 match l,h with
 | [a,b],_=>exact⟨a,b,rfl⟩
def QU{α:Type}{l:List α}(h:l.length=4):∃a b c d,l=[a,b,c,d]:=by
 match l,h with
 | [a,b,c,d],_=>exact⟨a,b,c,d,rfl⟩
def LQ{α:Type}{f}:∀{es:List (List AV)},(∀r∈es,∃a,r=f a)->∃l:List α,es=l.map f:=by
 intro es
 induction es with
 |nil=>intro _;exact⟨[],rfl⟩|cons r es ih=>intro h;obtain⟨a,rfl⟩:=h r fW;obtain⟨l,rfl⟩:=ih λr hr=>h r (fE _ hr);exact⟨a::l,rfl⟩
end
end Go.AE
end
section
namespace Go.AE
end Go.AE
end
section
namespace Go.AE
section
variable {a b:Nat × Operand} {i k:Nat} {n:Int} {x:ByteArray} {l:List (Nat × Operand)}
def agE:xl #[]=az:=rfl
def agF:xl #[a]=az:=by
 obtain⟨i,o⟩:=a;cases o with
 |const v=>
  cases v with
  |int k n=>cases k<;>rfl
  |_=>rfl
 |_=>rfl
def agH:xl (Nv ((i,.tmp k)::l))=az:=rfl
def agD:xl (Nv ((i,.const (.int .i64 n))::l))=az:=rfl
def agG:xl (Nv ((i,.const (.string x))::l))=az:=rfl
def agI:xl (Nv ((i,.const (.int .u8 n))::b::l))=ah:=rfl
end
set_option linter.defProp false in
def goS:=aw @run_seq (aw @asu (aw @asn (aw @asm (aw @asp (aw @asv (aw @asx (aw @asq (aw @asw (aw @asX (aw @asZ (aw @asW (aw @asY (aw @afW (aw @afY (aw @UT (aw @afX (aw @ams (aw @amu (aw @amr (aw @amt (aw @ags (aw @agt (aw @af9 (aw @af6 (aw @ajR (aw @ajQ (aw @ajN (aw @ajM (aw @ajS (aw @ajJ (aw @ajI (aw @atp (aw @ash (aw @asg (aw @aqw (aw @aqb (aw @aqy (aw @ap9 (aw @aqd (aw @aqe (aw @aqf (aw @aqq (aw @aqB (aw @aqx (aw @aqc (aw @aqD (aw @aqh (aw @aqs (aw @aqr (aw @aqt (aw @aqA (aw @aqm (aw @aql (aw @aqo (aw @aqn (aw @aqC (aw @aqk (aw @aqp (aw @aqg (aw @aqa (aw @aqi (aw @aqv (aw @aqu (aw @asl (aw @aes (aw @aer (aw @aeq (aw @U5 (aw @U6 (aw @aoS (aw @aoQ (aw @Mx (aw @atL (aw @atM (aw @abA (aw @atV (aw @atU (aw @atW (aw @SI (aw @Aw (aw @eval_const (aw @eval_func (aw @eval_global (aw @ani (aw @anh (aw @ann (aw @ank (aw @anj (aw @anl (aw @anm (aw @ang (aw @agb (aw @BR (aw @UN (aw @afA (aw @afr (aw @afu (aw @afw (aw @afm (aw @afs (aw @afq (aw @afp (aw @afo (aw @afn (aw @afy (aw @afz (aw @afx (aw @au7 (aw @au6 (aw @Zh (aw @QW (aw @QV (aw @alo (aw @an2 (aw @fN (aw @OF (aw @ait (aw @aiv (aw @aiu (aw @aiw (aw @aiy (aw @aix (aw @avc (aw @avd (aw @Js (aw @zS (aw @jO (aw @decide_true (aw @decide_false (aw @not_true_eq_false (aw @not_false_eq_true (aw @Int.toNat_natCast (aw @Int.toNat_zero (aw @Nat.succ_ne_zero (aw @C9 (aw @Iq (aw @al4 (aw @GX (aw @append_eq (aw @copy_eq (aw @agE (aw @agF (aw @agH (aw @agD (aw @agG (@agI))))))))))))))))))))))))))))))))))))))))))))))))))))))))))))))))))))))))))))))))))))))))))))))))))))))))))))))))))))))))))))))))))))))))))))))))))
set_option linter.defProp false in
def goH:=aw @aiq (aw @ais (aw @air (aw @S5 (aw @ave (aw @asi (aw @aqj (aw @ah6 (aw @aqz (aw @ape (aw @apd (aw @ah8 (aw @ah7 (aw @ah9 (aw @VM (aw @an6 (aw @an5 (aw @an7 (aw @aab (aw @mJ (aw @iL (aw @aui (aw @aug (aw @atm (aw @atn (aw @ato (aw @ZC (aw @bg (aw @Nat.zero_add (@Nat.add_zero)))))))))))))))))))))))))))))
end Go.AE
end
section
namespace Go.AE
section
variable {P:Program} {G:Nat->Option (List AV)} {prims:FuncId->Option (List AV->aq->Option (AV × aq))} {Q:Xt->Env->aq->Prop} {e:Env} {h:aq}
def Ll(e:Env)(params:Array Tmp)(assign body:Code):iI:={tmps:=e.tmps,params,assign,body,state:=.ready,pending:=au}
def aq.loop(h:aq)(r:iI):aq:={h with loops:=h.loops++[r]}
def aq.done(h:aq)(l:Nat)(r:iI):aq:={h with loops:=h.loops.set l {r with state:=.exhausted}}
def ass{f:Operand}{params:Array Tmp}{assign body:Code}{g:FuncId}{first aD:List AV}(hf:e.eval f=.func (.func g) first aD){x:AV}{h':aq}
 (hc:(whole P G prims).call g (first++[.yield h.loops.length]++aD) (h.loop (Ll e params assign body))=aa (.panic x,h')) (hq:Q (.panic x) e h'):
 bH (whole P G prims) (.rangeFunc f params assign body) e h Q:=by
 unfold bH;rw[sF];unfold fM;have iC:(whole P G prims).call g (first++[.yield h.loops.length]++aD) {h with loops:=h.loops++[{tmps:=e.tmps,params,assign,body,state:=.ready,pending:=au}]}=aa (.panic x,h'):=hc;simp only[hf,iC];exact⟨_,_,_,rfl,hq⟩
def asr{f:Operand}{params:Array Tmp}{assign body:Code}{g:FuncId}{first aD:List AV}(hf:e.eval f=.func (.func g) first aD){x:AV}{h':aq}{r:iI}
 (hc:(whole P G prims).call g (first++[.yield h.loops.length]++aD) (h.loop (Ll e params assign body))=aa (.ret x,h')) (hr:h'.loops[h.loops.length]?=aa r) (hb:r.state≠ .busy) (hp:r.pending=au)
 (hq:Q .normal e (h'.done h.loops.length r)):bH (whole P G prims) (.rangeFunc f params assign body) e h Q:=by
 unfold bH;rw[sF];unfold fM;have iC:(whole P G prims).call g (first++[.yield h.loops.length]++aD) {h with loops:=h.loops++[{tmps:=e.tmps,params,assign,body,state:=.ready,pending:=au}]}=aa (.ret x,h'):=hc;simp only[hf,iC,hr,hp];rw[aI hb];refine⟨_,_,_,rfl,?_⟩;simpa only[aq.done,hp] using hq
def ast{f:Operand}{params:Array Tmp}{assign body:Code}{g:FuncId}{first aD:List AV}(hf:e.eval f=.func (.func g) first aD){x:AV}{h':aq}{r:iI}
 (hc:(whole P G prims).call g (first++[.yield h.loops.length]++aD) (h.loop (Ll e params assign body))=aa (.ret x,h')) (hr:h'.loops[h.loops.length]?=aa r) (hb:r.state≠ .busy) (hp:r.pending=aa .ret)
 (hq:Q .ret e (h'.done h.loops.length r)):bH (whole P G prims) (.rangeFunc f params assign body) e h Q:=by
 unfold bH;rw[sF];unfold fM;have iC:(whole P G prims).call g (first++[.yield h.loops.length]++aD) {h with loops:=h.loops++[{tmps:=e.tmps,params,assign,body,state:=.ready,pending:=au}]}=aa (.ret x,h'):=hc;simp only[hf,iC,hr,hp];rw[aI hb];refine⟨_,_,_,rfl,?_⟩;simpa only[aq.done,hp] using hq
def nH(l:Nat)(r:iI)(args:List AV):Env:={tmps:=FO r.params.toList args r.tmps,defers:=[],cV:=au,round:=aa l}
def aq.busy(h:aq)(l:Nat)(r:iI):aq:={h with loops:=h.loops.set l {r with state:=.busy}}
def aq4(l:Nat)(x:eY)(h':aq):Xt->Env->aq->Prop
 | .normal,_,h2=>∃r,h2.loops[l]?=aa r/\x=.ret (.v (.bool ah))/\h'={h2 with loops:=h2.loops.set l {r with state:=.ready,pending:=au}}
 | .ret,_,h2=>∃r,h2.loops[l]?=aa r/\x=.ret (.v (.bool az))/\h'={h2 with loops:=h2.loops.set l {r with state:=.done,pending:=aa .ret}}
 | .exit id,_,h2=>∃r,h2.loops[l]?=aa r/\x=.ret (.v (.bool az))/\h'={h2 with loops:=h2.loops.set l {r with state:=.done,pending:=aa (.exit id)}}
 | .panic z,_,h2=>x=.panic z/\h'=h2
def LM{l:Nat}{args:List AV}{r:iI}{x:eY}{h':aq}(hr:h.loops[l]?=aa r)(hs:r.params.size=args.length)
 (ha:bH (whole P G prims) r.assign (nH l r args) h (λo e1 h1=>o=.normal/\∃r2,h1.loops[l]?=aa r2/\r2.state=.ready/\bH (whole P G prims) r.body e1 (h1.busy l r2) (aq4 l x h'))):
 (whole P G prims).round l args h=aa (x,h'):=by
 rw[avz];unfold wG;obtain⟨o,e1,h1,e2,rfl,r2,q1,q2,o2,e3,h3,q3,q4⟩:=ha;have e2':(whole P G prims).code r.assign {tmps:=FO r.params.toList args r.tmps,defers:=[],cV:=au,round:=aa l} h=aa (.normal,e1,h1):=e2;have q3':(whole P G prims).code r.body e1 {h1 with loops:=h1.loops.set l {r2 with state:=.busy}}=aa (o2,e3,h3):=q3;simp only[hr,hs,if_true,e2',q1,q2];rw[show({h1 with loops:=h1.loops.set l {tmps:=r2.tmps,params:=r2.params,assign:=r2.assign,body:=r2.body,state:=LoopState.busy,pending:=r2.pending}}:aq)={h1 with loops:=h1.loops.set l {r2 with state:=.busy}} from rfl,q3'];cases o2 with
 |normal=>obtain⟨r3,w1,rfl,rfl⟩:=q4;simp only[w1,ff]
 |ret=>obtain⟨r3,w1,rfl,rfl⟩:=q4;simp only[w1,ff]
 |exit id=>obtain⟨r3,w1,rfl,rfl⟩:=q4;simp only[w1,ff]
 |panic z=>obtain⟨rfl,rfl⟩:=q4;rfl
end
end Go.AE
end
section
namespace Go.AE
structure Fr(bn l0 n0:Nat)(h h':aq):Prop where
 box:∀(c:Nat) (cs:List AV),c≠bn->h.boxes[c]?=aa cs->h'.boxes[c]?=aa cs
 len:h.boxes.length<=h'.boxes.length
 loop:∀(l:Nat) (r:iI),l<l0->h.loops[l]?=aa r->h'.loops[l]?=aa r
 Fi:h.loops.length<=h'.loops.length
 tn:h.tn<=h'.tn
 dead:∀n,n<n0->n∈h'.dead->n∈h.dead
 ok:cG h=ah->cG h'=ah
def Fr.refl(bn l0 n0)(h):Fr bn l0 n0 h h:=⟨λ_ _ _ h=>h,aJ _,λ_ _ _ h=>h,aJ _,aJ _,λ_ _ h=>h,λh=>h⟩
def Fr.trans{bn l0 n0}{a b c}(h:Fr bn l0 n0 a b)(k:Fr bn l0 n0 b c):Fr bn l0 n0 a c:=
 ⟨λi cs hi hb=>k.box i cs hi (h.box i cs hi hb),fw h.len k.len,λl r hl hr=>k.loop l r hl (h.loop l r hl hr),fw h.Fi k.Fi,fw h.tn k.tn,λn hn hd=>h.dead n hn (k.dead n hn hd),λho=>k.ok (h.ok ho)⟩
def Ext.Fi{h h'}(x:Ext h h'):h.loops.length<=h'.loops.length:=by
 rcases dW h'.loops.length h.loops.length with aA|eg
 ·have h1:=x.loop h'.loops.length _ (aR aA);have:=(aS.1 h1).1;omega
 ·exact eg
def Fr.Db{bn l0 n0}{h h'}(x:Ext h h')(hn:n0<=h.tn):Fr bn l0 n0 h h':=
 ⟨λc cs _ hc=>x.box c cs hc,x.len,λl r _ hl=>x.loop l r hl,x.Fi,x.tn,λn h1 h2=>x.dead n (ni h1 hn) h2,x.ok⟩
def Fr.push(bn l0 n0)(h)(cs):Fr bn l0 n0 h (h.push cs):=
 ⟨λ_ _ _ hb=>aY hb,by rw[cH];exact GA _,λ_ _ _ h=>h,aJ _,aJ _,λ_ _ h=>h,λh=>h⟩
def Fr.put(bn l0 n0)(h)(cs):Fr bn l0 n0 h (h.put bn cs):=
 ⟨λc ds hc hb=>by rw[cX hc];exact hb,by rw[mj];exact aJ _,λ_ _ _ h=>h,aJ _,aJ _,λ_ _ h=>h,λh=>h⟩
def aq.eW(h:aq)(l:Nat)(r:iI):aq:={h with loops:=h.loops.set l r}
def Fr.eW{bn l0 n0}{h}{l}(hl:l0<=l)(r):Fr bn l0 n0 h (h.eW l r):=
 ⟨λ_ _ _ hb=>hb,aJ _,λm q hm hq=>by rw[<-hq];exact JF ag,by simp[aq.eW],aJ _,λ_ _ h=>h,λh=>h⟩
def Fr.A6{bn l0 n0}(h)(r):Fr bn l0 n0 h (h.loop r):=
 ⟨λ_ _ _ hb=>hb,aJ _,λm q hm hq=>vQ hq,by simp[aq.loop],aJ _,λ_ _ h=>h,λh=>h⟩
def Fr.ext{bn l0 n0}{h h'}(x:Fr bn l0 n0 h h')(hb:h.boxes.length<=bn)(hl:h.loops.length<=l0)(hn:h.tn<=n0):Ext h h':=
 ⟨λc cs hc=>x.box c cs (by have:=(aS.1 hc).1;omega) hc,λl r hr=>x.loop l r (by have:=(aS.1 hr).1;omega) hr,x.tn,λn h1 h2=>x.dead n (ni h1 hn) h2,x.ok⟩
def abg{h:aq}{l}{r}(hl:l<h.loops.length):(h.eW l r).loops[l]?=aa r:=by simp[aq.eW,hl]
def abf{h:aq}{l m}{r}(hl:m≠l):(h.eW l r).loops[m]?=h.loops[m]?:=by simp[aq.eW,JF (Ne.symm hl)]
def C8{h:aq}{r}:(h.loop r).loops[h.loops.length]?=aa r:=by simp[aq.loop]
def Zm{h:aq}{r q}{l:Nat}(hq:h.loops[l]?=aa q):(h.loop r).loops[l]?=aa q:=vQ hq
def St(l:Nat)(h h':aq):Prop:=(∀(b:Nat) (cs:List AV),h.boxes[b]?=aa cs->h'.boxes[b]?=aa cs)/\∀(m:Nat) (r:iI),m<=l->h.loops[m]?=aa r->h'.loops[m]?=aa r
def St.refl(l)(h):St l h h:=⟨λ_ _ h=>h,λ_ _ _ h=>h⟩
def St.trans{l}{a b c}(h:St l a b)(k:St l b c):St l a c:=⟨λi cs hb=>k.1 i cs (h.1 i cs hb),λm r hm hr=>k.2 m r hm (h.2 m r hm hr)⟩
def St.push(l)(h)(cs):St l h (h.push cs):=⟨λ_ _ hb=>aY hb,λ_ _ _ h=>h⟩
def St.Db{l}{h h'}(x:Ext h h'):St l h h':=⟨x.box,λm r _ hr=>x.loop m r hr⟩
def St.eW{l k}{h}(hl:l<k)(r):St l h (h.eW k r):=⟨λ_ _ hb=>hb,λm q hm hq=>by rw[abf ag];exact hq⟩
def St.A6(l)(h)(r):St l h (h.loop r):=⟨λ_ _ hb=>hb,λm q _ hq=>Zm hq⟩
def St.fK{l}{h h'}(x:St l h h'){b}(hb:h.boxes.length<=b)(cs):St l h (h'.put b cs):=
 ⟨λc ds hc=>by have aA:c<h.boxes.length:=(aS.1 hc).1;rw[cX ag];exact x.1 c ds hc,x.2⟩
inductive Nx (α:Type) where
 |cont (a:α)|stop (a:α)|panic (v:AV)
def bH.gen{R}{c}{e}{h}{Q}(hq:∀e2:Env,(∀t,e2.get t=e.get t)->e2.defers=e.defers->e2.cV=e.cV->e2.round=e.round->bH R c e2 h Q):bH R c e h Q:=hq e (λ_=>rfl) rfl rfl rfl
section
variable {P:Program} {G:Nat->Option (List AV)} {prims:FuncId->Option (List AV->aq->Option (AV × aq))} {Q:Xt->Env->aq->Prop} {e:Env} {h:aq}
def Dk{f:Operand}{params:Array Tmp}{assign body:Code}{g:FuncId}{first aD:List AV}(hf:e.eval f=.func (.func g) first aD)
 (H:∀rec:iI,rec.tmps=e.tmps->rec.params=params->rec.assign=assign->rec.body=body->rec.state=.ready->rec.pending=au->∃r h',(whole P G prims).call g (first++[.yield h.loops.length]++aD) (h.loop rec)=aa (r,h')/\
  match r with
  | .panic x=>Q (.panic x) e h'
  | .ret _=>∃rc,h'.loops[h.loops.length]?=aa rc/\rc.state≠ .busy/\((rc.pending=au/\Q .normal e (h'.eW h.loops.length {rc with state:=.exhausted}))∨(rc.pending=aa .ret/\Q .ret e (h'.eW h.loops.length {rc with state:=.exhausted})))):
 bH (whole P G prims) (.rangeFunc f params assign body) e h Q:=by
 obtain⟨r,h',hc,hm⟩:=H (Ll e params assign body) rfl rfl rfl rfl rfl rfl;cases r with
 |panic x=>exact ass hf hc hm|ret x=>
  obtain⟨rc,h1,h2,h3|h3⟩:=hm
  ·exact asr hf hc h1 h2 h3.1 h3.2
  ·exact ast hf hc h1 h2 h3.1 h3.2
def aaD{l p t:Nat}{r:iI}{x:AV}(hp:r.params=#[p])(ht:r.tmps=e.tmps):(nH l r [x]).get t=if p=t then x else e.get t:=by unfold nH;rw[hp,ht];exact Fk e.tmps p t x
def St.mono{l l'}(hl:l<=l'){h h'}(x:St l' h h'):St l h h':=⟨x.1,λm r hm hr=>x.2 m r ag hr⟩
end
end Go.AE
end
section
namespace Go.AE
section
variable {P:Program} {G:Nat->Option (List AV)} {R:Rec}
end
section
variable {P:Program} {G:Nat->Option (List AV)} {prims:FuncId->Option (List AV->aq->Option (AV × aq))} {Q:Xt->Env->aq->Prop} {e:Env} {h:aq}
end
end Go.AE
end
section
namespace Go.AE
section
variable {P:Program} {G:Nat->Option (List AV)} {R:Rec} {ops:Array Oper} {k:Nat}
end
section
variable {P:Program} {G:Nat->Option (List AV)} {prims:FuncId->Option (List AV->aq->Option (AV × aq))} {Q:Xt->Env->aq->Prop} {e:Env} {h:aq}
def gd(ops:Array Oper)(k:Nat)(ps:List (Nat × Nat)):Bool:=ps.all λp=>qh (cut ops k) p.1 p.2&&(decide (p.1<k)&&decide (p.2<k))
end
end Go.AE
end
