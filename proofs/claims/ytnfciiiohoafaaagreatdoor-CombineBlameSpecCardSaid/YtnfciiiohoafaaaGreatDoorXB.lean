/-
  The engine, part 13b: a region that draws, and is ended by a panic of its last operation.
-/
import Derived.Test.YtnfciiiohoafaaaGreatDoorXA
import Derived.Laws.BitsLemmas
import Derived.ChangeArms
import Derived.OpenShut
import Derived.Carry
import Derived.ProofKit
import Derived.ChangeSame
open Go renaming Program->bL,World->cG,Frame->fF,FuncId->bq,TypeId->aP,Operand->bU,Value->aT,IntKind->uZ
open Bool renaming false->aB,true->ah,and_eq_true->bI,not_true->JV,or_eq_true->v8,false_eq_true->kj,true_or->adu,or_true->Ua,not_false->Au,eq_iff_iff->GA,true_and->rT,false_and->yT
open Nat renaming strongRecOn->UG,lt_trans->qy,eq_of_beq_eq_true->lD,le_of_lt->nY,lt_or_ge->ez,le_antisymm->Cg,lt_of_lt_of_le->nE,lt_succ_iff->Ch,le_max_left->Hd,le_max_right->Ew,lt_succ_of_lt->xD,le_refl->aL,beq->kK,zero_le->cD,add_mul->gZ,le_trans->fG,le_succ->He
open Array renaming getElem?_eq_getElem->mV,all_eq_true'->Ny,getElem?_toList->D9,mem_push->adk,all_eq_true->Gy,replicate->Eb,getD_eq_getD_getElem?->adf,size->adm,getElem_toList->adi,getElem?_eq_none->yR
open Option renaming some->aa,some.injEq->eg,map_some->ft,bind_some->qB,none->av,map_eq_some_iff->dN,map_none->Oq,isSome_none->Cl
open List renaming cons.injEq->Uq,getElem?_toArray->jI,all_eq_true->eK,mem_range->gf,mem_cons->iU,getElem?_set->mW,range->bO,mem_cons_self->gq,mem_cons_of_mem->fM,mem_append_left->Uw,mem_append->xA,any_eq_true->GQ,getElem?_eq_some_iff->aW,getElem?_eq_getElem->aU,mapM_cons->ad4,getElem?_eq_none->u7,range'->ad8,range'_succ->ad9,drop_eq_getElem_cons->y6,drop_zero->jm,range_eq_range'->N7,mem_append_right->ad7,take_length->fN,toArray->Oa,getElem?_set_ne->Kd
open Prod renaming mk.injEq->dF
open And renaming intro->az
set_option linter.unusedSimpArgs false
set_option linter.unusedVariables false
set_option linter.constructorNameAsVariable false
set_option linter.defProp false
section
namespace Go.AE
section
variable {P:bL} {G:Nat->Option (List AV)} {R:Rec} {ops:Array Oper} {e:Env} {h:ar}
def p8.trans{a b c}(h:p8 a b)(k:p8 b c):p8 a c:=⟨λt=>(h.iT t).trans (k.iT t),h.defers.trans k.defers,h.dg.trans k.dg,h.round.trans k.round⟩
def p8.symm{a b}(h:p8 a b):p8 b a:=⟨λt=>(h.iT t).symm,h.defers.symm,h.dg.symm,h.round.symm⟩
def p8.refl(a):p8 a a:=⟨λ_=>rfl,rfl,rfl,rfl⟩
def p8.eval{a b}(h:p8 a b)(x):a.eval x=b.eval x:=by
 cases x with|tmp t=>exact h.iT t|_=>rfl
def p8.wanted{a b:Env}(h:p8 a b)(o:Oper):fL ops a o=fL ops b o:=by
 unfold fL;cases o.guard with
 |none=>rfl|some q=>
  simp only;cases (ops[q.1]?).bind (·.dst) with|none=>rfl|some d=>simp only[h.iT d]
variable {b:Array Nat}
end
end Go.AE
end
section
namespace Go.AE
section
variable {P:bL} {G:Nat->Option (List AV)} {R:Rec} {ops:Array Oper} {e:Env} {h:ar} {k:Nat}
inductive axf (ops:Array Oper) (k i:Nat):Prop
 |self (h:i=k)
 |ahead (h1:FG ops k i=aB) (h2:Xw ops k i=ah) (h3:i<k) (h4:Ord (Region.before (cut ops k)) i k)
 |beside (h1:FG ops k i=aB) (h2:Xw ops k i=ah) (h3:ahh ops i=ah) (h4:qF ops i k=ah)
 |behind (h1:k<i) (h2:FG ops k i=ah) (h3:Ord (Region.before (cut ops k)) k i)
def Fits.lt{b:Array Nat}(F:Fits P G R ops e h b):∀(j i:Nat),j<ops.size->i<ops.size->Ord b i j->i<j:=by
 intro j
 induction j using UG with
 |_ j ih=>
  intro i hj hi ho;have hx:ops[j]?=aa ops[j]:=mV hj;obtain⟨ed,fT,om,hq⟩:=F.bits j i _ hx hi ho;have aC:=F.KI j _ hx ed fT om;rcases hq with q|q
  ·omega
  ·have:=ih ed.on aC i (qy aC hj) hi q;omega
structure axe(ops:Array Oper)(k:Nat)(a b:Env):Prop where
 iT:∀t,(∀i,i<ops.size->ai7 ops k i≠aa t)->a.get t=b.get t
 defers:a.defers=b.defers
 dg:a.dg=b.dg
 round:a.round=b.round
end
end Go.AE
end
section
namespace Go.AE
open Go.RowKit (Below)
section
variable {P:bL} {G:Nat->Option (List AV)} {w0:cG} {R:Rec}
def Steps.tail{m m1 m2:Machine}(h:step P m=.next m1)(hs:Steps P m m2)(bG:m≠m2):Steps P m1 m2:=by
 obtain⟨n,hn⟩:=hs;cases n with|zero=>simp[runN] at hn;exact absurd hn bG|succ n=>simp only[runN,h] at hn;exact⟨n,hn⟩
def LQ{fr fr'}{cs ej}{w w'}(h:lone fr cs w=lone fr' ej w'):fr=fr':=by unfold lone at h;simp only[Machine.mk.injEq,Array.mk.injEq,Uq,Goroutine.mk.injEq] at h;exact h.2.1.1.1
def o6.swap{K:a8}{m m1 m':Machine}{B:fF}{k:List Item}{c:Code}{cs cs0:List fF}{x:Xt}{a a0:Act}{w wz:cG}(hc:∀id,c≠ .exit id)(CU:c≠ .ret)(hm:m=lone (B.atR a0 (.code c::k)) cs0 wz)
 (h1:step P m=.next m1) (h2:step P m'=.next m1) (h:o6 P K m B k cs x a w):o6 P K m' B k cs x a w:=by
 refine o6.of_steps (.one h2) ?_;cases x with
 |normal=>refine Steps.tail h1 h ?_;rw[hm];intro hq;have:=congrArg Frame.todo (LQ hq);simp only[Frame.atR] at this;exact absurd (congrArg List.length this) bJ|exit id=>obtain⟨t,e1,e2⟩:=h;refine⟨t,e1,Steps.tail h1 e2 ?_⟩;rw[hm];intro hq;have:=congrArg Frame.todo (LQ hq);simp only[Frame.atR,Uq,Item.code.injEq] at this;exact hc id this.1
 |ret=>obtain⟨t,e2⟩:=h;refine⟨t,Steps.tail h1 e2 ?_⟩;rw[hm];intro hq;have:=congrArg Frame.todo (LQ hq);simp only[Frame.atR,Uq,Item.code.injEq] at this;exact CU this.1
 |panic x=>obtain⟨t,v,e1,e2⟩:=h;refine⟨t,v,e1,Steps.tail h1 e2 ?_⟩;rw[hm];intro hq;have:=congrArg Frame.mode (LQ hq);simp[Frame.atR] at this
def Left.refl{K:a8}{w:cG}{a:Act}{B:fF}{ms:List Nat}{base cs:List fF}{k:List Item}{m:Machine}{out:Xt}{e:Env}{h:ar}(hf:oG P K e a B ms)(cI:CS K B.kind base e.dg cs)(hs:mi P G w0 K h w)(ha:o6 P K m B k cs out a w):
 Left P G w0 K ms B base m k a.tmps.size out e h K w a cs ms:=
 ⟨.refl K,hs,hf,cI,rfl,λ_ hr=>.inl hr,ha⟩
def Left.of_steps{K K':a8}{w':cG}{a':Act}{B:fF}{ms ms':List Nat}{base ej:List fF}{k:List Item}{m m1:Machine}{out:Xt}{e':Env}{h':ar}{n:Nat}(hs:Steps P m m1)(L:Left P G w0 K ms B base m1 k n out e' h' K' w' a' ej ms'):
 Left P G w0 K ms B base m k n out e' h' K' w' a' ej ms':=
 ⟨L.le,L.rP,L.frame,L.cs,L.size,L.marks,L.arr.of_steps hs⟩
def R7(hn:EC P)(hR:xG P G w0 R){ops:Array Oper}:∀(l:List Nat) (e:Env) (h:ar) (out:Xt) (e':Env) (h':ar),dx P G R ops l e h=aa (out,e',h')->
 ∀(K:a8) (w:cG) (a:Act) (B:fF) (k:List Item) (base cs:List fF) (ms:List Nat),oG P K e a B ms->CS K B.kind base e.dg cs->mi P G w0 K h w->F1 a.tmps.size ops=ah->
 ∃K' w' a' ej,Left P G w0 K ms B base (lone (B.atR a (.inRegion ops l::k)) cs w) k a.tmps.size out e' h' K' w' a' ej ms:=by
 intro l
 induction l with
 |nil=>intro e h out e' h' he K w a B k base cs ms hf cI hs Dl;simp only[dx,eg,dF] at he;obtain⟨rfl,rfl,rfl⟩:=he;exact⟨K,w,a,cs,.refl hf cI hs (.one stepR_region_end)⟩
 |cons i rest ih=>
  intro e h out e' h' he K w a B k base cs ms hf cI hs Dl;simp only[dx] at he;cases ho:ops[i]? with
  |none=>rw[ho] at he;cases he
  |some o=>
   rw[ho] at he;simp only at he;have Yw:=aaH Dl ho;cases hw:fL ops e o with
   |none=>rw[hw] at he;cases he
   |some b=>
    rw[hw] at he;have Zx:=awA hf.iT Dl hw;cases b with
    |false=>simp only at he;have jQ:=stepR_op_skip (P:=P) (b:=B) (a:=a) (k:=k) (cs:=cs) (w:=w) (ops:=ops) (i:=i) (rest:=rest) (by rw[ho];simpa using Zx);have hb:(ops[i]?).bind (·.dst)=o.dst:=(by rw[ho];rfl);rw[hb] at jQ;obtain⟨K',w',a',ej,L⟩:=ih _ _ _ _ _ he K w (a.put o.dst undef) B k base cs ms (hf.put Yw (.tuple [] #[] .nil)) (by cases o.dst<;>exact cI) hs (by rw[Ml];exact Dl);rw[Ml] at L;exact⟨K',w',a',ej,.of_steps (.one jQ) L⟩
    |true=>
     simp only at he;cases bV:eI P G R e h o with
     |none=>rw[bV] at he;cases he
     |some q=>
      obtain⟨r,e1,h1⟩:=q;rw[bV] at he;obtain⟨K1,w1,a1,cs1,le1,s1,f1,c1,z1,iH⟩:=aou (i:=i) (rest:=rest) hn hR bV hf cI hs ho Zx k;cases r with
      |ret x=>obtain⟨v,hx,bT⟩:=iH;simp only at he;obtain⟨K',w',a',ej,L⟩:=ih _ _ _ _ _ he K1 w1 (a1.put o.dst v) B k base cs1 ms (f1.put (by rw[z1];exact Yw) hx) (by cases o.dst<;>exact c1) s1 (by rw[Ml,z1];exact Dl);rw[Ml,z1] at L;refine⟨K',w',a',ej,le1.trans L.le,L.rP,L.frame,L.cs,L.size,λr hr=>.inl hr,L.arr.of_steps bT⟩
      |panic x=>obtain⟨v,todo,hx,bT⟩:=iH;simp only[eg,dF] at he;obtain⟨rfl,rfl,rfl⟩:=he;exact⟨K1,w1,a1,cs1,le1,s1,f1,c1,z1,λr hr=>.inl hr,todo,v,hx,bT⟩
def oG.same{K:a8}{e e2:Env}{a:Act}{B:fF}{ms:List Nat}(hf:oG P K e a B ms)(hs:p8 e e2):oG P K e2 a B ms:=by
 refine⟨λt=>?_,hs.defers ▸ hf.defers,?_,hf.fn⟩
 ·have:=hs.iT t;unfold Env.get at this;rw[<-this];exact hf.iT t
 ·have:=hf.round;rw[hs.round,hs.defers] at this;exact this
def anL{n:Nat}{ps:Array Tmp}(h:(ps.all λp=>decide (p<n))=ah):∀p∈ps.toList,p<n:=by intro p hp;rw[Ny] at h;simpa using h p (Array.mem_toList_iff.1 hp)
end
end Go.AE
end
section
namespace Go.AE
section
variable {P:bL} {G:Nat->Option (List AV)} {R:Rec} {ops:Array Oper} {i:Nat}
end
end Go.AE
end
section
namespace Go.AE
section
variable {K:a8} {G:Nat->Option (List AV)} {ok:bq->Nat->Code->Bool} {w0 w:cG} {h:ar}
end
end Go.AE
end
section
namespace Go.AE
open Go.RowKit (Below)
section
variable {P:bL} {G:Nat->Option (List AV)} {w0:cG} {R:Rec}
structure Ub(d:Tmp)(e eh:Env):Prop where
 iT:∀t,t≠d->e.get t=eh.get t
 defers:e.defers=eh.defers
 dg:e.dg=eh.dg
 round:e.round=eh.round
def Ub.eval{d}{e eh}(b:Ub d e eh){x}(hx:x≠ .tmp d):e.eval x=eh.eval x:=by
 cases x with|tmp t=>exact b.iT t λq=>hx (by rw[q])|_=>rfl
end
end Go.AE
end
section
namespace Go.AE
section
variable {ops:Array Oper} {i:Nat}
def ready_mono{S S':Nat->Bool}{k:Nat}(hr:p7 ops S k)(h:∀j,S j=ah->S' j=ah):p7 ops S' k:=λo ho ed fT hb=>h _ (hr o ho ed fT hb)
def R1(S)(a b):eD (eD S a) b=eD (eD S b) a:=by funext j;unfold eD;by_cases h1:j=a<;>by_cases h2:j=b<;>simp[h1,h2]
structure axg(ops:Array Oper)(i:Nat)(d2:Tmp):Prop where
 lt:i+1<ops.size
 no:KJ ops i (i+1)=aB
 all:∀k,k<ops.size->k≠i->k≠i+1->KJ ops (i+1) k=ah∨KJ ops k i=ah∨(anp ops d2 k=ah/\KJ ops k (i+1)=aB)
variable {d2:Tmp}
variable {P:bL} {G:Nat->Option (List AV)} {w0:cG} {R:Rec}
end
end Go.AE
end
section
namespace Go.AE
section
variable {ops:Array Oper} {i j:Nat} {P:bL} {G:Nat->Option (List AV)} {R:Rec}
def tB:(ia ops i j).size=ops.size:=by simp[ia]
def EU(k:Nat):(ia ops i j)[k]?=(ops[k]?).map λo=>if k=j then {o with after:=o.after.push {on:=i,ground:=.data}} else o:=by unfold ia;simp only[jI,List.getElem?_mapIdx,D9]
def WD(k:Nat):((ia ops i j)[k]?).bind (·.dst)=(ops[k]?).bind (·.dst):=by
 rw[EU];cases ops[k]? with|none=>rfl|some o=>simp only[ft,qB];split<;>rfl
def awz(e:Env)(o:Oper):fL (ia ops i j) e o=fL ops e o:=by
 unfold fL;cases o.guard with|none=>rfl|some g=>simp only[WD]
def DM:∀(L:List Nat) (e:Env) (h:ar),dx P G R (ia ops i j) L e h=dx P G R ops L e h:=by
 intro L
 induction L with
 |nil=>intro e h;rfl|cons k L ih=>
  intro e h;unfold dx;rw[EU];cases ho:ops[k]? with
  |none=>rfl|some o=>
   simp only[ft];have e1:∀o':Oper,o'.op=o.op->o'.type=o.type->o'.guard=o.guard->o'.dst=o.dst->(fL (ia ops i j) e o'=fL ops e o/\eI P G R e h o'=eI P G R e h o):=(by intro o' q1 q2 q3 q4;refine⟨by rw[awz];unfold fL;rw[q3],?_⟩;unfold eI;rw[q1,q2,q4]);by_cases hk:k=j
   ·rw[aH hk];obtain⟨q1,q2⟩:=e1 {o with after:=o.after.push {on:=i,ground:=.data}} rfl rfl rfl rfl;rw[q1,q2];simp only[ih]
   ·rw[aJ hk];obtain⟨q1,q2⟩:=e1 o rfl rfl rfl rfl;rw[q1];simp only[ih]
def Ah{S:Nat->Bool}{k:Nat}(hr:p7 ops S k)(hk:k=j->S i=ah):p7 (ia ops i j) S k:=by
 intro o ho ed fT hb;rw[EU] at ho;cases hq:ops[k]? with
 |none=>rw[hq] at ho;cases ho
 |some o0=>
  rw[hq] at ho;simp only[ft,eg] at ho;split at ho
  ·rename_i C9;subst ho;rcases adk.1 fT with q|q
   ·exact hr o0 hq ed q hb
   ·subst q;exact hk C9
  ·subst ho;exact hr o0 hq ed fT hb
def ano:∀(L:List Nat) (S:Nat->Bool),S i=ah->o8 ops S L->o8 (ia ops i j) S L:=by
 intro L
 induction L with
 |nil=>intro S _ h k hk;exact h k (by rw[tB] at hk;exact hk)
 |cons k L ih=>
  intro S hS h;obtain⟨h1,h2,h3,h4⟩:=h;refine⟨by rw[tB];exact h1,h2,Ah h3 λ_=>hS,ih _ ?_ h4⟩;unfold eD;split
  ·rfl
  ·exact hS
def afW(h:As (ia ops i j)):As ops:=by
 intro k o ho ed fT hb;have hg:(ia ops i j)[k]?=aa (if k=j then {o with after:=o.after.push {on:=i,ground:=.data}} else o):=by rw[EU,ho];rfl
 refine h k _ hg ed ?_ hb;split
 ·exact adk.2 (.inl fT)
 ·exact fT
def Em(ops:Array Oper)(S:Nat->Bool):Prop:=∀(k:Nat) (o:Oper),ops[k]?=aa o->S k=ah->∀ed∈o.after,Region.binds .any ed=ah->S ed.on=ah
def Em.one{S:Nat->Bool}{k:Nat}(c:Em ops S)(hr:p7 ops S k):Em ops (eD S k):=by
 intro m o ho hS ed fT hb;unfold eD at hS ⊢;split
 ·rfl
 ·split at hS
  ·rename_i q;subst q;exact hr o ho ed fT hb
  ·exact c m o ho hS ed fT hb
def af7{S:Nat->Bool}(hB:Cp ops (Region.before ops)=ah)(c:Em ops S){k:Nat}:∀(m:Nat),m<ops.size->p7 ops S m->((Region.before ops).getD m 0).testBit k=ah->k<ops.size->S k=ah:=by
 intro m
 induction m using UG with
 |_ m ih=>
  intro hm hr hb hk;unfold Cp at hB;rw[eK] at hB;have:=hB m (gf.2 hm);have ho:ops[m]?=aa ops[m]:=mV hm;rw[ho] at this;simp only[bI,eK,Ny] at this;obtain⟨h1,h2⟩:=this;have h3:=h2 k (gf.2 hk);rw[hb] at h3;simp only[JV,Bool.false_or,Array.any_eq_true',bI,v8] at h3;obtain⟨ed,fT,om,hq⟩:=h3;have hs:=hr _ ho ed fT om;rcases hq with hq|hq
  ·rw[<-lD hq];exact hs
  ·have aC:ed.on<m:=(by have:=h1 ed fT;rw[om] at this;simpa using this);exact ih ed.on aC ai (λo ji ed' aln iM=>c _ o ji hs ed' aln iM) hq hk
def aqB{n:Nat}(hB:As ops)(hn:n+1=ops.size):∀(L:List Nat) (S:Nat->Bool),S n=aB->S i=ah->p7 ops S n->o8 ops (eD S n) L->o8 (ia ops i n) S (L++[n]):=by
 intro L
 induction L with
 |nil=>intro S hS hi hr h;refine⟨by rw[tB];omega,hS,Ah hr λ_=>hi,λk hk=>?_⟩;exact h k (by rw[tB] at hk;exact hk)
 |cons k L ih=>
  intro S hS hi hr h;obtain⟨h1,h2,h3,h4⟩:=h;unfold eD at h2;split at h2
  ·cases h2
  ·rename_i tF;have jO:p7 ops S k:=by
    intro o ho ed fT hb;have:=h3 o ho ed fT hb;unfold eD at this;split at this
    ·rename_i q;have:=hB k o ho ed fT hb;omega
    ·exact this
   refine⟨by rw[tB];exact h1,h2,Ah jO (λq=>absurd q tF),ih (eD S k) ?_ ?_ ?_ ?_⟩
   ·unfold eD;rw[aJ (Ne.symm tF)];exact hS
   ·unfold eD;split;rfl;exact hi
   ·exact ready_mono hr λj hj=>by unfold eD;split;rfl;exact hj
   ·rw[R1];exact h4
def aqC{n:Nat}(hB:As ops)(hn:n+1=ops.size)(iO:i<n):∀(L:List Nat) (S:Nat->Bool),S n=aB->S i=aB->p7 ops S n->o8 ops (eD S n) L->
 ∃M1 M2,L=M1++i::M2/\(∀k∈M1,k<ops.size/\k≠i/\k≠n/\S k=aB)/\(∀k∈M2,k<ops.size/\k≠i/\k≠n/\S k=aB)/\o8 (ia ops i n) S (M1++i::(M2++[n])):=by
 intro L
 induction L with
 |nil=>intro S hS hi hr h;have:=h i ai;unfold eD at this;rw[aJ ai,hi] at this;cases this
 |cons k L ih=>
  intro S hS hi hr h;obtain⟨h1,h2,h3,h4⟩:=h;unfold eD at h2;split at h2
  ·cases h2
  ·rename_i tF;have jO:p7 ops S k:=by
    intro o ho ed fT hb;have:=h3 o ho ed fT hb;unfold eD at this;split at this
    ·rename_i q;have:=hB k o ho ed fT hb;omega
    ·exact this
   have Fx:p7 ops (eD S k) n:=ready_mono hr λj hj=>(by unfold eD;split;rfl;exact hj);by_cases Fp:k=i
   ·subst Fp;have mem2:∀(L:List Nat) (S:Nat->Bool),o8 ops S L->∀m∈L,m<ops.size/\S m=aB:=by
     intro L
     induction L with
     |nil=>intro S _ m hm;cases hm
     |cons a L ih2=>
      intro S hL m hm;obtain⟨q1,q2,q3,q4⟩:=hL;rcases iU.1 hm with rfl|hm
      ·exact⟨q1,q2⟩
      ·obtain⟨p1,p2⟩:=ih2 _ q4 m hm;unfold eD at p2;split at p2
       ·cases p2
       ·exact⟨p1,p2⟩
    refine⟨[],L,rfl,λm hm=>(nomatch hm),λm hm=>?_,?_⟩
    ·obtain⟨p1,p2⟩:=mem2 L _ h4 m hm;unfold eD at p2;split at p2
     ·cases p2
     ·rename_i q1;split at p2
      ·cases p2
      ·rename_i q2;exact⟨p1,q1,q2,p2⟩
    ·refine⟨by rw[tB];exact h1,hi,Ah jO (λq=>absurd q tF),?_⟩;refine aqB hB hn L _ ?_ ?_ Fx ?_
     ·unfold eD;rw[aJ (Ne.symm tF)];exact hS
     ·unfold eD;rw[aH rfl]
     ·rw[R1];exact h4
   ·rw[R1] at h4;obtain⟨M1,M2,e1,e2,e3,e4⟩:=ih (eD S k) (by unfold eD;rw[aJ (Ne.symm tF)];exact hS) (by unfold eD;rw[aJ (Ne.symm Fp)];exact hi) Fx h4;have uW:∀m,eD S k m=aB->S m=aB:=λm q=>by
     unfold eD at q;split at q
     ·cases q
     ·exact q
    refine⟨k::M1,M2,by rw[e1];rfl,λm hm=>?_,λm hm=>?_,by rw[tB];exact h1,h2,Ah jO (λq=>absurd q tF),e4⟩
    ·rcases iU.1 hm with rfl|hm
     ·exact⟨h1,Fp,tF,h2⟩
     ·obtain⟨p1,p2,p3,p4⟩:=e2 m hm;exact⟨p1,p2,p3,uW m p4⟩
    ·obtain⟨p1,p2,p3,p4⟩:=e3 m hm;exact⟨p1,p2,p3,uW m p4⟩
def aoP{n:Nat}(hB:As ops)(hn:n+1=ops.size)(iO:i<n):∀(L:List Nat) (S:Nat->Bool),S n=aB->S i=aB->Em ops S->o8 ops S L->
 o8 (ia ops i n) S L∨∃pre M1 M2 S',L=pre++(n::(M1++i::M2))/\S' i=aB/\p7 ops S' n/\Em ops S'/\(∀k∈M1,k<ops.size/\k≠i/\k≠n/\S' k=aB)/\(∀k∈M2,k<ops.size/\k≠i/\k≠n/\S' k=aB)/\o8 (ia ops i n) S (pre++(M1++i::(M2++[n]))):=by
 intro L
 induction L with
 |nil=>intro S h1 h2 _ h;have:=h i ai;rw[h2] at this;cases this
 |cons k L ih=>
  intro S hS hi hc h;obtain⟨h1,h2,h3,h4⟩:=h;by_cases Fp:k=i
  ·subst Fp;exact .inl ⟨by rw[tB];exact h1,h2,Ah h3 (λq=>by omega),ano L _ (by unfold eD;rw[aH rfl]) h4⟩
  ·by_cases tF:k=n
   ·subst tF;obtain⟨M1,M2,e1,e2,e3,e4⟩:=aqC hB hn iO L S hS hi h3 h4;exact .inr ⟨[],M1,M2,S,by rw[e1];rfl,hi,h3,hc,e2,e3,e4⟩
   ·rcases ih (eD S k) (by unfold eD;rw[aJ (Ne.symm tF)];exact hS) (by unfold eD;rw[aJ (Ne.symm Fp)];exact hi) (hc.one h3) h4 with q|⟨pre,M1,M2,S',e1,e0,e2,e3,e4,e5,e6⟩
    ·exact .inl ⟨by rw[tB];exact h1,h2,Ah h3 (λq=>absurd q tF),q⟩
    ·exact .inr ⟨k::pre,M1,M2,S',by rw[e1];rfl,e0,e2,e3,e4,e5,by rw[tB];exact h1,h2,Ah h3 (λq=>absurd q tF),e6⟩
def ar.tu(h:ar)(c:Nat)(xs:List AV):ar:={h with boxes:=h.boxes.set c xs}
def VK{h:ar}{a c}{xs}(bG:a≠c):(h.tu c xs).boxes[a]?=h.boxes[a]?:=by unfold ar.tu;simp only[mW];rw[aJ (λq=>bG q.symm)]
variable {e e':Env} {h h':ar} {b:Array Nat}
def aae(N:dx P G R ops (bO ops.size) e h=aa (.normal,e',h'))(F:Fits P G R ops e h b):∀(A B:List Nat) (S:Nat->Bool) (e1:Env) (h1:ar),Inv P G R ops e h b S e1 h1->o8 ops S (A++B)->
 ∃S2 e2 h2,dx P G R ops A e1 h1=aa (.normal,e2,h2)/\Inv P G R ops e h b S2 e2 h2/\o8 ops S2 B:=by
 intro A
 induction A with
 |nil=>intro B S e1 h1 I hL;exact⟨S,e1,h1,rfl,I,hL⟩|cons k A ih=>
  intro B S e1 h1 I hL;obtain⟨hk,hu,hr,hL⟩:=hL;obtain⟨x,e2,h2,hs,I'⟩:=next N F I hk hu hr
  obtain⟨S2,e3,h3,oO,I3,L3⟩:=ih B _ _ _ I' hL;exact⟨S2,e3,h3,rK.2 ⟨x,e2,h2,hs,oO⟩,I3,L3⟩
def ZM(N:dx P G R ops (bO ops.size) e h=aa (.normal,e',h'))(F:Fits P G R ops e h b){S:Nat->Bool}{e1:Env}{h1:ar}(I:Inv P G R ops e h b S e1 h1){k:Nat}(hk:k<ops.size)
 (hu:S k=aB) (hr:p7 ops S k):∀o,ops[k]?=aa o->Alike ops (dp P G R ops e h k).1 e1 o:=by
 have ho:ops[k]?=aa ops[k]:=mV hk;have ahead:∀i,i<ops.size->Ord b i k->S i=ah:=by
  intro i hi zK;obtain⟨ed,fT,om,hq⟩:=F.bits k i _ ho hi zK;have hs:=hr _ ho ed fT om;have aC:=F.KI k _ ho ed fT om;rcases hq with rfl|hq
  ·exact hs
  ·exact I.closed i ed.on hi (qy aC hk) hs hq
 intro o ji t ht;rw[ho] at ji;injection ji with ji;subst ji;rw[I.iT t,TK N t k (nY hk),Nn (k:=k) ops.size (nY hk)]
 ·refine val_congr k λw hw hd=>?_;have hx:ops[w]?=aa ops[w]:=mV (qy hw hk);rw[Cy hx] at hd;exact(ahead w (qy hw hk) (F.looks hw hk hx ho (.inl ⟨hd,ht⟩))).symm
 ·intro w Fq hw hd;rcases ez k w with aC|eF
  ·cases hq:S w with|false=>rfl|true=>have hx:ops[w]?=aa ops[w]:=mV hw;rw[Cy hx] at hd;have:=I.closed k w hk hw hq (F.looks aC hw ho hx (.inr ⟨hd,ht⟩));rw[hu] at this;cases this
  ·rw[Cg eF Fq,hu]
def Gs{k:Nat}{x:AV}{e1:Env}{h1:ar}(hs:zV ops k=ah)(st:lM P G R ops k e h=aa (x,e1,h1)):
 x=.tuple []/\e1=e/\nK ops k=av/\∃(o:Oper) (t:aP) (a v:bU) (c off n:Nat) (cs dw:List AV),ops[k]?=aa o/\o.op=.store t a v/\o.guard=av/\e.eval a=.ptr (.box c) off/\(e.eval v).cd=aa cs/\dJ P t=aa n/\h.boxes[c]?=aa dw/\cs.length=n/\off+n<=dw.length/\h1=h.tu c (fe dw off cs):=by
 unfold zV at hs;unfold lM at st;cases ho:ops[k]? with
 |none=>rw[ho] at hs;cases hs
 |some o=>
  rw[ho] at hs st;simp only[bI,Option.isNone_iff_eq_none] at hs;obtain⟨q1,q2,q3⟩:=hs;cases bV:o.op<;>rw[bV] at q1<;>try (cases q1;done)
  rename_i t a v;have hw:fL ops e o=aa ah:=by unfold fL;rw[q2]
  simp only[hw] at st;have uC:eI P G R e h o=(eo P G e.eval h (.store t a v)).map λ(x,h)=>(.ret x,e,h):=by unfold eI;rw[bV]
  rw[uC] at st;simp only[eo] at st;cases bT:cE P h t (e.eval a) (e.eval v) with
  |none=>rw[bT] at st;simp at st|some hh=>
   rw[bT] at st;simp only[ft,eg,dF] at st;obtain⟨rfl,rfl,rfl⟩:=st;unfold cE at bT;split at bT
   ·rename_i c off cs n h1 h2 h3;split at bT
    ·rename_i dw hold;split at bT
     ·rename_i eX;injection bT with bT;exact⟨rfl,rfl,by simp[nK,ho,q3],o,t,a,v,c,off,n,cs,dw,rfl,bV,q2,h1,h2,h3,hold,eX.1,eX.2,bT.symm⟩
     ·cases bT
    ·cases bT
   ·cases bT
def Tz{k:Nat}{o:Oper}{t:aP}{a v:bU}{c off n:Nat}{cs dw:List AV}(ho:ops[k]?=aa o)(bV:o.op=.store t a v)(hg:o.guard=av)(ha:e.eval a=.ptr (.box c) off)(hv:(e.eval v).cd=aa cs)(hz:dJ P t=aa n)(hb:h.boxes[c]?=aa dw)(hl:cs.length=n)(eX:off+n<=dw.length):
 lM P G R ops k e h=aa (.tuple [],e,h.tu c (fe dw off cs)):=by
 unfold lM;simp only[ho];have hw:fL ops e o=aa ah:=by unfold fL;rw[hg]
 simp only[hw];have uC:eI P G R e h o=(eo P G e.eval h (.store t a v)).map λ(x,h)=>(.ret x,e,h):=by unfold eI;rw[bV]
 rw[uC];simp only[eo];have:cE P h t (e.eval a) (e.eval v)=aa (h.tu c (fe dw off cs)):=by unfold cE;simp only[ha,hv,hz,hb];rw[aH ⟨hl,eX⟩];rfl
 rw[this];rfl
def aao{n:Nat}(hn:zV ops n=ah):∀(M:List Nat) {e e':Env} {h h':ar},(∀k∈M,k<ops.size/\qI ops k=.pure/\qF ops k n=ah)->∀rest,dx P G R ops (M++n::rest) e h=aa (.normal,e',h')->dx P G R ops (n::(M++rest)) e h=aa (.normal,e',h'):=by
 intro M
 induction M with
 |nil=>intro e e' h h' _ rest hr;exact hr|cons k M ih=>
  intro e e' h h' hM rest hr;rw[List.cons_append,rK] at hr;obtain⟨x,e1,h1,hs,hr⟩:=hr;obtain⟨hk,hp,vq⟩:=hM k gq;have hr:=ih (λm hm=>hM m (fM _ hm)) rest hr;obtain⟨rfl,rfl,lX⟩:=Tw hp hs;rw[rK] at hr ⊢;obtain⟨x2,e2,h2,nQ,hr⟩:=hr;obtain⟨rfl,rfl,hd,o,t,a,v,c,off,m,cs,dw,g1,g2,g3,g4,g5,g6,g7,g8,g9,rfl⟩:=Gs hn nQ;have eR:∀z∈o.op.operands,(e1.put (nK ops k) x).eval z=e1.eval z:=by
   intro z hz;cases z with
   |tmp s=>
    show(e1.put (nK ops k) x).get s=e1.get s;rw[SA];split
    ·rename_i hq;exfalso;unfold qF at vq;have bB:ops[k]?=aa ops[k]:=mV hk;rw[bB,g1] at vq;simp only[bI] at vq;rw[Cy bB] at hq;have alI:s∈o.looksAt ops:=(by unfold Oper.looksAt;exact Uw _ (List.mem_filterMap.2 ⟨.tmp s,by simpa using hz,rfl⟩));have h1:=vq.1;unfold Oper.apart at h1;rw[hq] at h1;simp[alI] at h1
    ·rfl
   |_=>rfl
  rw[eR a (by rw[g2];simp[Op.operands])] at g4;rw[eR v (by rw[g2];simp[Op.operands])] at g5;refine⟨_,e1,_,Tz g1 g2 g3 g4 g5 g6 g7 g8 g9,?_⟩;rw[hd] at hr ⊢;show dx P G R ops (k::(M++rest)) e1 _=_;rw[rK];exact⟨x,e1,_,lX e1 _ (λo ho t ht=>rfl),hr⟩
def avD{n:Nat}(hi:zV ops i=ah)(hn:zV ops n=ah){e e':Env}{h h':ar}{bi bn:Nat}(h1:sJ ops i e=aa bi)(h2:sJ ops n e=aa bn)(bG:bi≠bn)(rest:List Nat)(hr:dx P G R ops (i::n::rest) e h=aa (.normal,e',h')):dx P G R ops (n::i::rest) e h=aa (.normal,e',h'):=by
 rw[rK] at hr;obtain⟨x,e1,pF,hs,hr⟩:=hr;obtain⟨rfl,rfl,hd,o,t,a,v,c,off,m,cs,dw,g1,g2,g3,g4,g5,g6,g7,g8,g9,rfl⟩:=Gs hi hs;rw[hd] at hr;replace hr:dx P G R ops (n::rest) e1 (h.tu c (fe dw off cs))=aa (.normal,e',h'):=hr;rw[rK] at hr;obtain⟨x2,e2,tE,nQ,hr⟩:=hr;obtain⟨rfl,rfl,iF,o2,t2,a2,v2,c2,off2,m2,cs2,old2,k1,k2,k3,k4,k5,k6,k7,k8,k9,rfl⟩:=Gs hn nQ;have q1:bi=c:=by unfold sJ at h1;rw[g1] at h1;simp only[g2,g4] at h1;injection h1 with h1;exact h1.symm
 have q2:bn=c2:=by unfold sJ at h2;rw[k1] at h2;simp only[k2,k4] at h2;injection h2 with h2;exact h2.symm
 subst q1;subst q2;have k7':h.boxes[bn]?=aa old2:=by rw[<-k7];exact(VK (λq=>bG q.symm)).symm
 have g7':(h.tu bn (fe old2 off2 cs2)).boxes[bi]?=aa dw:=by rw[VK bG];exact g7
 rw[rK];refine⟨_,e2,_,Tz k1 k2 k3 k4 k5 k6 k7' k8 k9,?_⟩;rw[iF];show dx P G R ops (i::rest) e2 _=_;rw[rK];refine⟨_,e2,_,Tz g1 g2 g3 g4 g5 g6 g7' g8 g9,?_⟩;rw[hd];rw[iF] at hr;have alf:(h.tu bn (fe old2 off2 cs2)).tu bi (fe dw off cs)=(h.tu bi (fe dw off cs)).tu bn (fe old2 off2 cs2):=by unfold ar.tu;simp only[List.set_comm _ _ bG]
 rw[alf];exact hr
def aja(bB:F2 ops i=ah)(nk:tS P G R ops e h i=ah)(hf:ng P G R (ia ops i (ops.size - 1)) e h=ah)(he:dx P G R ops (bO ops.size) e h=aa (.normal,e',h'))(tp:Nat):
 ∃e2,dx P G R ops (Region.linearise .any ops tp) e h=aa (.normal,e2,h')/\p8 e2 e':=by
 unfold F2 at bB;simp only[bI,decide_eq_true_eq,eK,gf,v8] at bB;obtain⟨k0,k1,k2,k3,k4⟩:=bB;obtain⟨n,jF⟩:∃n,ops.size - 1=n:=⟨_,rfl⟩;have hn:n+1=ops.size:=by omega
 simp only[jF] at hf k3 k4;have hE:dx P G R (ia ops i n) (bO (ia ops i n).size) e h=aa (.normal,e',h'):=by rw[tB,DM];exact he
 have wG:=afW (WZ hf);have hL:=aad wG tp;rcases aoP (i:=i) wG hn ai _ (λ_=>aB) rfl rfl (λk o ho hS=>by cases hS) hL with q|⟨pre,M1,M2,S',q1,q7,q2,q3,q4,q5,q6⟩
 ·obtain⟨e2,uC,jy⟩:=RI hE (zw hf) _ _ _ _ (Rn hE) q;rw[DM] at uC;exact⟨e2,uC,jy⟩
 ·have good:∀k,k<ops.size/\k≠i/\k≠n/\S' k=aB->k<ops.size/\qI ops k=.pure/\qF ops k n=ah:=by
   rintro k ⟨p1,p2,p3,p4⟩;rcases k4 k ai with w|w|w
   ·exact absurd (lD w) p2
   ·have:=af7 k0 q3 n ai q2 w p1;rw[p4] at this;cases this
   ·refine⟨p1,?_,w.2⟩;have w1:=w.1;unfold aba at w1;cases ho:ops[k]? with
    |none=>rw[ho] at w1;cases w1
    |some o=>rw[ho] at w1;simpa [qI,ho] using w1
  rw[<-List.append_assoc] at q6;obtain⟨S2,em,hm,ev1,I1,L1⟩:=aae hE (zw hf) (pre++M1) (i::(M2++[n])) _ _ _ (Rn hE) q6;obtain⟨l1,l2,l3,l4⟩:=L1;have al1:=ZM hE (zw hf) I1 l1 l2 l3;obtain⟨x,e2,h2,hs,I2⟩:=next hE (zw hf) I1 l1 l2 l3
  have Dp:lM P G R ops i em hm=aa (x,e2,h2):=by have:=DM (P:=P) (G:=G) (R:=R) (ops:=ops) (i:=i) (j:=n) [i] em hm;have h3:dx P G R (ia ops i n) [i] em hm=aa (.normal,e2.put (nK (ia ops i n) i) x,h2):=rK.2 ⟨x,e2,h2,hs,rfl⟩;rw[this] at h3;obtain⟨x',e3,h4,rF,Fx⟩:=rK.1 h3;obtain⟨rfl,rfl,uA,o3,t3,a3,v3,c3,off3,m3,cs3,old3,z1,z2,z3,z4,z5,z6,z7,z8,z9,rfl⟩:=Gs k2 rF;rw[uA] at Fx;simp only[dx,eg,dF,true_and] at Fx;obtain⟨r1,r2⟩:=Fx;have hx:x=.tuple []/\e2=e3:=(by have hgE:(ia ops i n)[i]?=aa o3:=(by rw[EU,z1,ft,aJ ai]);have hSt:zV (ia ops i n) i=ah:=(by unfold zV at k2 ⊢;rw[hgE];rw[z1] at k2;exact k2);obtain⟨y1,y2,-⟩:=Gs hSt hs;exact⟨y1,y2⟩);rw[hx.1,hx.2,<-r2];exact rF
  obtain⟨rfl,rfl,hd,o,t,a,v,c,off,m,cs,dw,g1,g2,g3,g4,g5,g6,g7,g8,g9,rfl⟩:=Gs k2 Dp;have hdE:nK (ia ops i n) i=av:=by unfold nK at hd ⊢;rw[WD];exact hd
  rw[hdE] at I2;replace I2:Inv P G R (ia ops i n) e h (Region.before (ia ops i n)) (eD S2 i) e2 (hm.tu c (fe dw off cs)):=I2;obtain⟨Sn,en,hhn,ev2,I3,L3⟩:=aae hE (zw hf) M2 [n] _ _ _ I2 l4;obtain⟨e5,Yy,jy⟩:=RI hE (zw hf) _ _ _ _ I3 L3;have YQ:S2 n=aB/\p7 ops S2 n:=by
   refine⟨?_,?_⟩
   ·have:∀(L:List Nat) (S:Nat->Bool),o8 (ia ops i n) S L->∀m∈L,S m=aB:=by
     intro L
     induction L with
     |nil=>intro S _ m hm;cases hm
     |cons a L ih2=>
      intro S hL m hm;obtain⟨u1,u2,u3,u4⟩:=hL;rcases iU.1 hm with rfl|hm
      ·exact u2
      ·have p2:=ih2 _ u4 m hm;unfold eD at p2;split at p2
       ·cases p2
       ·exact p2
    have:=this _ _ l4 n bJ;unfold eD at this;rw[aJ ai] at this;exact this
   ·intro o' ji ed fT hb;have hS:S' ed.on=ah:=q2 o' ji ed fT hb;have aC:ed.on<n:=wG n o' ji ed fT hb;cases hq:S2 ed.on with
    |true=>rfl|false=>
     exfalso;have mem:∀(L:List Nat) (S:Nat->Bool),o8 (ia ops i n) S L->∀m,m<ops.size->S m=aB->m∈L:=by
      intro L
      induction L with
      |nil=>intro S hL m hm PN;have:=hL m (by rw[tB];exact hm);rw[PN] at this;cases this
      |cons a L ih2=>
       intro S hL m hm PN;obtain⟨u1,u2,u3,u4⟩:=hL;by_cases Lm:m=a
       ·subst Lm;exact gq
       ·exact fM _ (ih2 _ u4 m hm (by unfold eD;rw[aJ Lm];exact PN))
     have rC:=mem (i::(M2++[n])) S2 ⟨l1,l2,l3,l4⟩ ed.on ai hq;rcases iU.1 rC with w|w
     ·rw[w,q7] at hS;cases hS
     ·rcases xA.1 w with w|w
      ·have:=(q5 _ w).2.2.2;rw[hS] at this;cases this
      ·rw[List.mem_singleton] at w;omega
  have Lw:p7 (ia ops i n) (eD S2 i) n:=Ah (ready_mono YQ.2 λj hj=>by unfold eD;split;rfl;exact hj) λ_=>by unfold eD;rw[aH rfl]
  have al2:=ZM hE (zw hf) I2 (k:=n) (by rw[tB];omega) (by unfold eD;rw[aJ ai];exact YQ.1) Lw;have stE:∀k,dp P G R (ia ops i n) e h k=dp P G R ops e h k:=λk=>by unfold dp;rw[DM]
  have put_congr:∀(k:Nat) (ea eb:Env),(∀o,(ia ops i n)[k]?=aa o->Alike (ia ops i n) ea eb o)->sJ ops k ea=sJ ops k eb:=by
   intro k ea eb eR;unfold sJ;cases ho:ops[k]? with
   |none=>rfl|some o'=>
    have hg:(ia ops i n)[k]?=aa (if k=n then {o' with after:=o'.after.push {on:=i,ground:=.data}} else o'):=(by rw[EU,ho];rfl);have hz:=Ho (eR _ hg);have gV:∀z∈o'.op.operands,ea.eval z=eb.eval z:=(by intro z hzm;refine hz z ?_;split<;>exact hzm);show(match o'.op with| .store _ a _=>(match ea.eval a with| .ptr (.box b) _=>aa b|_=>av)|_=>av)=(match o'.op with| .store _ a _=>(match eb.eval a with| .ptr (.box b) _=>aa b|_=>av)|_=>av)
    revert gV
    generalize o'.op=op;intro gV;cases op with|store t' a' v'=>have:ea.eval a'=eb.eval a':=gV a' (by simp[Op.operands]);simp only[this]|_=>rfl
  have hb:∃bi bn,sJ ops i e2=aa bi/\sJ ops n e2=aa bn/\bi≠bn:=by
   unfold tS at nk;rw[jF] at nk;split at nk
   ·rename_i ei _ en _ r1 r2;have s1:(dp P G R ops e h i).1=ei:=(by unfold dp;rw[r1]);have s2:(dp P G R ops e h n).1=en:=(by unfold dp;rw[r2]);split at nk
    ·rename_i bi bn u1 u2;refine⟨bi,bn,?_,?_,?_⟩
     ·rw[<-u1,<-s1,<-stE];exact(put_congr i _ _ al1).symm
     ·rw[<-u2,<-s2,<-stE];exact(put_congr n _ _ al2).symm
     ·rintro rfl;rw[Nat.beq_refl] at nk;cases nk
    ·cases nk
   ·cases nk
  obtain⟨bi,bn,b1,b2,b3⟩:=hb;have t1:dx P G R ops (M2++n::[]) e2 (hm.tu c (fe dw off cs))=aa (.normal,e5,h'):=by rw[I4];rw[DM] at ev2 Yy;exact⟨_,_,ev2,Yy⟩
  have t2:=aao k3 M2 (λk hk=>good k (q5 k hk)) [] t1;rw[List.append_nil] at t2;have t3:dx P G R ops (i::n::M2) e2 hm=aa (.normal,e5,h'):=by rw[rK];refine⟨_,_,_,Dp,?_⟩;rw[hd];exact t2
  have t4:=avD k2 k3 b1 b2 b3 M2 t3;rw[DM,I4] at ev1;obtain⟨e0,h0,v1,v2⟩:=ev1;have t5:dx P G R ops (M1++n::(i::M2)) e0 h0=aa (.normal,e5,h'):=I4.2 ⟨_,_,v2,t4⟩;have t6:=aao k3 M1 (λk hk=>good k (q4 k hk)) _ t5;refine⟨e5,?_,jy⟩;rw[q1];exact I4.2 ⟨_,_,v1,t6⟩
def stores_cases{e:Env}{h:ar}(hb:uU P G R ops e h=ah):∃i,i<ops.size/\F2 ops i=ah/\tS P G R ops e h i=ah/\ng P G R (ia ops i (ops.size - 1)) e h=ah:=by unfold uU at hb;simp only[GQ,gf,bI] at hb;exact hb
def stores_of{e:Env}{h:ar}{i:Nat}(h1:i<ops.size)(h2:F2 ops i=ah)(h3:tS P G R ops e h i=ah)(h4:ng P G R (ia ops i (ops.size - 1)) e h=ah):uU P G R ops e h=ah:=by unfold uU;simp only[GQ,gf,bI];exact⟨i,h1,h2,h3,h4⟩
end
end Go.AE
end
section
namespace Go.AE
open Go.RowKit (Below)
section
variable {P:bL} {G:Nat->Option (List AV)} {w0:cG} {R:Rec}
def au7{b:fF}{a:Act}{k:List Item}{cs:List fF}{w:cG}{c:Code}:step P (lone (b.atR a (.code (.scope c)::k)) cs w)=.next (lone (b.atR a (.code c::.inScope c::k)) cs w):=by rfl
def au6{b:fF}{a:Act}{k:List Item}{cs:List fF}{w:cG}{c:Code}:step P (lone (b.atR a (.inScope c::k)) cs w)=.next (lone (b.atR a k) cs w):=by rfl
def o6.aoY{K:a8}{m:Machine}{B:fF}{c:Code}{k:List Item}{cs:List fF}{x:Xt}{a:Act}{w:cG}(hn:x≠ .normal)
 (h:o6 P K m B (.inScope c::k) cs x a w):o6 P K m B k cs x a w:=by
 cases x with
 |normal=>exact absurd rfl hn|exit id=>obtain⟨t,h1,h2⟩:=h;exact⟨t,h1.trans rfl,h2⟩
 |ret=>exact h|panic x=>exact h
def aia(hn:EC P)(alU:P.follows .mixedOrders=ah)(hR:xG P G w0 R):UR P G w0 (fW P G R):=by
 intro c e h out e' h' he K w a B k base cs ms hf cI hs bB;cases c with
 |skip=>simp only[fW,eg,dF] at he;obtain⟨rfl,rfl,rfl⟩:=he;exact⟨K,w,a,cs,ms,.refl hf cI hs (.one stepR_skip)⟩
 |label l=>simp only[fW,eg,dF] at he;obtain⟨rfl,rfl,rfl⟩:=he;exact⟨K,w,a,cs,ms,.refl hf cI hs (.one stepR_label)⟩
 |region id ops draw=>
  simp only[codeOk] at bB;cases draw with
  |false=>simp only[fW,kj,if_false] at he;obtain⟨K',w',a',ej,L⟩:=R7 hn hR _ _ _ _ _ _ he K w a B k base cs ms hf cI hs bB;exact⟨K',w',a',ej,ms,.of_steps (.one stepR_region) L⟩
  |true=>
   simp only[fW,if_true] at he;split at he
   ·rename_i oq;split at he
    ·rename_i e1 h1 uC;simp only[eg,dF] at he;obtain⟨rfl,rfl,rfl⟩:=he;have jQ:=stepR_region_draw (P:=P) (b:=B) (a:=a) (k:=k) (cs:=cs) (w:=w) (ops:=ops) (id:=id);have al3:Region.schedule (P.follows .mixedOrders) ops (w.tape w.drawn (.order B.fn id))=Region.linearise .any ops (w.tape w.drawn (.order B.fn id)):=(by simp only[Region.schedule,alU,adu,if_true]);rw[al3] at jQ;rcases (v8 _ _).mp oq with oq|bT
     ·obtain⟨e2,P8,jy⟩:=ai9 uC oq (w.tape w.drawn (.order B.fn id));obtain⟨K',w',a',ej,L⟩:=R7 hn hR _ _ _ _ _ _ P8 K {w with drawn:=w.drawn+1} a B k base cs ms hf cI (hs.drew _) bB;exact⟨K',w',a',ej,ms,L.le,L.rP,L.frame.same jy,jy.dg ▸ L.cs,L.size,L.marks,L.arr.of_steps (.one jQ)⟩
     ·obtain⟨i,-,Qg,qh,hi3⟩:=stores_cases bT;obtain⟨e2,P8,jy⟩:=aja Qg qh hi3 uC (w.tape w.drawn (.order B.fn id));obtain⟨K',w',a',ej,L⟩:=R7 hn hR _ _ _ _ _ _ P8 K {w with drawn:=w.drawn+1} a B k base cs ms hf cI (hs.drew _) bB;exact⟨K',w',a',ej,ms,L.le,L.rP,L.frame.same jy,jy.dg ▸ L.cs,L.size,L.marks,L.arr.of_steps (.one jQ)⟩
    ·cases he
   ·cases he
 |seq x y=>
  simp only[codeOk,bI] at bB;simp only[fW] at he;cases hx:R.code x e h with
  |none=>rw[hx] at he;cases he
  |some q=>
   obtain⟨o1,e1,h1⟩:=q;rw[hx] at he;obtain⟨K1,w1,a1,cs1,ms1,L1⟩:=hR.code x e h _ _ _ hx K w a B (.code y::k) base cs ms hf cI hs bB.1;have start:=Steps.one (stepR_seq (P:=P) (b:=B) (a:=a) (k:=k) (cs:=cs) (w:=w) (x:=x) (y:=y));by_cases ym:o1=.normal
   ·subst ym;simp only at he;obtain⟨K2,w2,a2,cs2,ms2,L2⟩:=hR.code y e1 h1 _ _ _ he K1 w1 a1 B k base cs1 ms1 L1.frame L1.cs L1.rP (by rw[L1.size];exact bB.2);refine⟨K2,w2,a2,cs2,ms2,L1.le.trans L2.le,L2.rP,L2.frame,L2.cs,L2.size.trans L1.size,λr hr=>?_,(L2.arr.of_steps L1.arr).of_steps start⟩;rcases L2.marks r hr with hq|hq
    ·exact L1.marks r hq
    ·exact .inr λhm=>hq (L1.le.md r hm)
   ·have he:aa (o1,e1,h1)=aa (out,e',h'):=by cases o1<;>first|exact absurd rfl ym|exact he
    simp only[eg,dF] at he;obtain⟨rfl,rfl,rfl⟩:=he;exact⟨K1,w1,a1,cs1,ms1,L1.le,L1.rP,L1.frame,L1.cs,L1.size,L1.marks,(L1.arr.pass rfl ym).of_steps start⟩
 |cond q x y=>
  simp only[codeOk,bI] at bB;simp only[fW] at he;have hv:=A6 hf.iT q;split at he
  ·rename_i hq;rw[hq] at hv;obtain⟨K1,w1,a1,cs1,ms1,L1⟩:=hR.code x e h _ _ _ he K w a B k base cs ms hf cI hs bB.1;exact⟨K1,w1,a1,cs1,ms1,L1.of_steps (.one (by have:=stepR_cond (P:=P) (b:=B) (k:=k) (cs:=cs) (w:=w) (x:=x) (y:=y) hv.jl.1;simpa using this))⟩
  ·rename_i hq;rw[hq] at hv;obtain⟨K1,w1,a1,cs1,ms1,L1⟩:=hR.code y e h _ _ _ he K w a B k base cs ms hf cI hs bB.2;exact⟨K1,w1,a1,cs1,ms1,L1.of_steps (.one (by have:=stepR_cond (P:=P) (b:=B) (k:=k) (cs:=cs) (w:=w) (x:=x) (y:=y) hv.jl.1;simpa using this))⟩
  ·cases he
 |block id x=>
  simp only[codeOk] at bB;simp only[fW] at he;cases hx:R.code x e h with
  |none=>rw[hx] at he;cases he
  |some q=>
   obtain⟨o1,e1,h1⟩:=q;rw[hx] at he;obtain⟨K1,w1,a1,cs1,ms1,L1⟩:=hR.code x e h _ _ _ hx K w a B (.inBlock id::k) base cs ms hf cI hs bB;have start:=Steps.one (stepR_block (P:=P) (b:=B) (a:=a) (k:=k) (cs:=cs) (w:=w) (id:=id) (c:=x));have fin:∀{o:Xt},o6 P K1 (lone (B.atR a (.code x::.inBlock id::k)) cs w) B k cs1 o a1 w1->Left P G w0 K ms B base (lone (B.atR a (.code (.block id x)::k)) cs w) k a.tmps.size o e1 h1 K1 w1 a1 cs1 ms1:=λha=>
    ⟨L1.le,L1.rP,L1.frame,L1.cs,L1.size,L1.marks,ha.of_steps start⟩
   cases o1 with
   |normal=>simp only[eg,dF] at he;obtain⟨rfl,rfl,rfl⟩:=he;exact⟨K1,w1,a1,cs1,ms1,fin (L1.arr.trans (.one stepR_inBlock))⟩
   |exit id'=>
    simp only at he;obtain⟨t,h2,h3⟩:=L1.arr;split at he
    ·rename_i Qm;subst Qm;simp only[eg,dF] at he;obtain⟨rfl,rfl,rfl⟩:=he;refine⟨K1,w1,a1,cs1,ms1,fin (h3.trans (.one (stepR_exit (h2.trans ?_))))⟩;simp[exitTo]
    ·rename_i Qm;simp only[eg,dF] at he;obtain⟨rfl,rfl,rfl⟩:=he;refine⟨K1,w1,a1,cs1,ms1,fin ⟨t,h2.trans ?_,h3⟩⟩;simp[exitTo,Ne.symm Qm]
   |ret=>simp only[eg,dF] at he;obtain⟨rfl,rfl,rfl⟩:=he;obtain⟨t,h3⟩:=L1.arr;exact⟨K1,w1,a1,cs1,ms1,fin ⟨t,h3⟩⟩
   |panic x=>simp only[eg,dF] at he;obtain⟨rfl,rfl,rfl⟩:=he;obtain⟨t,v,h2,h3⟩:=L1.arr;exact⟨K1,w1,a1,cs1,ms1,fin ⟨t,v,h2,h3⟩⟩
 |loop x=>
  have YT:codeOk a.tmps.size x=ah:=by simpa only[codeOk] using bB
  simp only[fW] at he;cases hx:R.code x e h with
  |none=>rw[hx] at he;cases he
  |some q=>
   obtain⟨o1,e1,h1⟩:=q;rw[hx] at he;obtain⟨K1,w1,a1,cs1,ms1,L1⟩:=hR.code x e h _ _ _ hx K w a B (.inLoop x::k) base cs ms hf cI hs YT;have start:=Steps.one (stepR_loop (P:=P) (b:=B) (a:=a) (k:=k) (cs:=cs) (w:=w) (c:=x));by_cases ym:o1=.normal
   ·subst ym;simp only at he;obtain⟨K2,w2,a2,cs2,ms2,L2⟩:=hR.code (.loop x) e1 h1 _ _ _ he K1 w1 a1 B k base cs1 ms1 L1.frame L1.cs L1.rP (by rw[L1.size];simpa only[codeOk] using YT);have wJ:=o6.swap (c:=.loop x) (m':=lone (B.atR a1 (.inLoop x::k)) cs1 w1) (λ_=>by simp) bJ rfl stepR_loop stepR_inLoop L2.arr;refine⟨K2,w2,a2,cs2,ms2,L1.le.trans L2.le,L2.rP,L2.frame,L2.cs,L2.size.trans L1.size,λr hr=>?_,(wJ.of_steps L1.arr).of_steps start⟩;rcases L2.marks r hr with hq|hq
    ·exact L1.marks r hq
    ·exact .inr λhm=>hq (L1.le.md r hm)
   ·have he:aa (o1,e1,h1)=aa (out,e',h'):=by cases o1<;>first|exact absurd rfl ym|exact he
    simp only[eg,dF] at he;obtain⟨rfl,rfl,rfl⟩:=he;exact⟨K1,w1,a1,cs1,ms1,L1.le,L1.rP,L1.frame,L1.cs,L1.size,L1.marks,(L1.arr.pass rfl ym).of_steps start⟩
 |scope x=>
  simp only[codeOk] at bB;simp only[fW] at he;obtain⟨K1,w1,a1,cs1,ms1,L1⟩:=hR.code x e h _ _ _ he K w a B (.inScope x::k) base cs ms hf cI hs bB;have start:=Steps.one (au7 (P:=P) (b:=B) (a:=a) (k:=k) (cs:=cs) (w:=w) (c:=x));by_cases ym:out=.normal
  ·subst ym;exact⟨K1,w1,a1,cs1,ms1,L1.le,L1.rP,L1.frame,L1.cs,L1.size,L1.marks,(show o6 P K1 _ B k cs1 .normal a1 w1 from L1.arr.trans (.one au6)).of_steps start⟩
  ·exact⟨K1,w1,a1,cs1,ms1,L1.le,L1.rP,L1.frame,L1.cs,L1.size,L1.marks,(L1.arr.aoY ym).of_steps start⟩
 |exit id=>simp only[fW,eg,dF] at he;obtain⟨rfl,rfl,rfl⟩:=he;exact⟨K,w,a,cs,ms,.refl hf cI hs ⟨k,rfl,.refl P _⟩⟩
 |ret=>simp only[fW,eg,dF] at he;obtain⟨rfl,rfl,rfl⟩:=he;exact⟨K,w,a,cs,ms,.refl hf cI hs ⟨k,.refl P _⟩⟩
 |rangeFunc f ps assign body=>
  simp only[codeOk,bI] at bB;obtain⟨⟨zM,YY⟩,YZ⟩:=bB;have zM:=anL zM;simp only[fW] at he;split at he
  ·rename_i g first aF uC
   have oU:=A6 hf.iT f;rw[uC] at oU;have enter:∃(lg:Nat) (mark:List Deferred) (K1:a8) (w1:cG) (ms1:List Nat),(Instr.enterLoop B.fn a.tmps ps assign body B.roundOf).run P w=.ok (lg,mark) w1/\K.Le K1/\
    mi P G w0 K1 {h with loops:=h.loops++[{tmps:=e.tmps,params:=ps,assign,body,state:=.ready,pending:=av}]} w1/\K1.γ[h.loops.length]?=aa lg/\
    oG P K1 e {a with defers:=mark++a.defers} B ms1/\∀r∈ms1,r∈ms∨r∉K.md:=by
    have Lr:∀c,codeOk a.tmps.size c=ah->FY P B.fn a.tmps.size c=ah:=λc hc=>(by unfold FY;rw[hc,hf.fn];rfl);have zN:=hf.round;cases l9:e.round with
    |none=>
     rw[l9] at zN;simp only at zN;have Ft:w.heap.size∉K.md:=λhq=>absurd (pO (hs.md _ hq).2) (Nat.lt_irrefl _);have s1:=hs.anZ;have le1:=K.Z7 w.heap.size;obtain⟨s2,hγ⟩:=s1.aau (r:={tmps:=e.tmps,params:=ps,assign,body,state:=.ready,pending:=av}) (fn:=B.fn) w.heap.size (hf.iT.mono le1) (Lr _ YY) (Lr _ YZ) zM;have le2:=(K.mark w.heap.size).Rz (w.alloc (.deferred (aa []))).heap.size;refine⟨_,_,_,_,w.heap.size::ms,by rw[zN];exact run_enterLoop_outer _ _ _ _ _,le1.trans le2,s2,?_,?_,?_⟩
     ·rw[hγ,World.size_alloc]
     ·have Bk:=hf.mono (le1.trans le2);refine⟨Bk.iT,?_,?_,hf.fn⟩
      ·refine .mark _ _ _ _ (by simp[a8.loop,a8.mark]) (λhq=>Ft (hf.defers.sub _ hq)) Bk.defers
      ·rw[l9];exact zN
     ·intro r hr;rcases iU.1 hr with rfl|hr
      ·exact .inr Ft
      ·exact .inl hr
    |some l=>
     rw[l9] at zN;obtain⟨lg,hl,hb,alA,hd,hm,fT⟩:=zN;have dG:l<h.loops.length:=(by rw[<-hs.o5];exact(aW.1 hl).1);obtain⟨k1,fn,tmps,d,k2,-⟩:=hs.loop l lg _ hl (aU dG);obtain⟨s2,hγ⟩:=hs.aau (r:={tmps:=e.tmps,params:=ps,assign,body,state:=.ready,pending:=av}) (fn:=B.fn) d hf.iT (Lr _ YY) (Lr _ YZ) zM;have le2:=K.Rz w.heap.size;refine⟨_,[],_,_,ms,?_,le2,s2,hγ,?_,λr hr=>.inl hr⟩
     ·rw[hb];unfold Instr.enterLoop;simp only[Sem.run_bind,run_getLoop k2,run_newObj_alloc,Result.andThen,Sem.run_pure]
     ·have Bk:=hf.mono le2;exact⟨Bk.iT,Bk.defers,by rw[l9];exact⟨lg,le2.γ _ _ hl,hb,alA,hd,hm,fT⟩,hf.fn⟩
   obtain⟨lg,mark,K1,w1,ms1,Lc,le1,s1,hγ,f1,Lp⟩:=enter;generalize tK:a.eval f=qv at oU;cases oU with
   |func _ _ _ fs ej g1 g2=>
    cases ux:R.call g (first++[.yield h.loops.length]++aF) {h with loops:=h.loops++[{tmps:=e.tmps,params:=ps,assign,body,state:=.ready,pending:=av}]} with
    |none=>rw[ux] at he;cases he
    |some q=>
     obtain⟨r,h2⟩:=q;rw[ux] at he;obtain⟨⟨fnn,iG,nO⟩,hc⟩:=hR.call _ _ _ _ _ ux;have gy:aV K1 (first++[.yield h.loops.length]++aF) (fs++#[Value.func (.yield lg) #[] #[]]++ej).toList:=(by simp only[Array.toList_append];exact((g1.mono le1).append (.cons _ _ _ _ (.yield _ _ hγ) .nil)).append (g2.mono le1));obtain⟨K2,w2,fr,le2,s2,bT,-,hl⟩:=hc K1 w1 _ gy s1 (B.atR {a with defers:=mark++a.defers} (.inRangeFunc lg::k)::cs);have FE:=stepR_rangeFunc (P:=P) (b:=B) (a:=a) (k:=k) (cs:=cs) (w:=w) (g:=f) (ps:=ps) (assign:=assign) (body:=body) (l:=lg) (mark:=mark) (w₁:=w1) (w₁':=w1) (w₂:=w1) (d:={target:=.fn (.func g) ej,args:=fs++#[Value.func (.yield lg) #[] #[]]}) (f:=g) (args:=fs++#[Value.func (.yield lg) #[] #[]]++ej) Lc
      (by have alh:∀v,a.eval (.const v)=v:=λ_=>rfl;simp[resolve,rangeCall,tK,Deferred.ofValue,alh]) (by simp only[invoke];exact Td hn iG nO _ _)
     have start:=Steps.head FE bT;have f2:=f1.mono le2;have c2:CS K2 B.kind base e.dg cs:=cI.mono (le1.trans le2);cases r with
     |panic x=>simp only[eg,dF] at he;obtain⟨rfl,rfl,rfl⟩:=he;obtain⟨v,hx,hl⟩:=hl;refine⟨K2,w2,_,cs,ms1,le1.trans le2,s2,f2,c2,rfl,Lp,.inRangeFunc lg::k,v,hx,start.trans (.one ?_)⟩;rw[step_leave_panicked hl,Frame.raise_atR]
     |ret x=>
      obtain⟨v,hx,hl⟩:=hl;have back:=start.trans (.one (step_leave_returned hl));rw[finish_atR_inRangeFunc] at back;simp only at he;split at he
      ·rename_i r hr;split at he
       ·cases he
       ·rename_i ak9;obtain⟨mm,m1,m2,m3,-,-,-,-,-,-,-,s3⟩:=s2.fc (le2.γ _ _ hγ) hr .exhausted r.pending;have uB:=run_endLoop (P:=P) m1 (by rw[m2];exact ak9);have mN:({mm with state:=.exhausted,pending:=r.pending}:Loop)={mm with state:=.exhausted}:=(by rw[<-m3]);rw[mN] at s3;have alp:(Instr.endLoop lg).run P w2=.ok r.pending (w2.putObj lg (.loop {mm with state:=.exhausted})):=(by rw[<-m3];exact uB);have back2:=back.trans (.one (stepR_endRangeFunc alp));cases hp:r.pending with
        |none=>rw[hp] at he back2 s3;simp only[eg,dF] at he;obtain⟨rfl,rfl,rfl⟩:=he;exact⟨K2,_,_,cs,ms1,le1.trans le2,s3,f2,c2,rfl,Lp,back2⟩
        |some code=>
         rw[hp] at he back2 s3;cases code with
         |ret=>simp only[eg,dF] at he;obtain⟨rfl,rfl,rfl⟩:=he;exact⟨K2,_,_,cs,ms1,le1.trans le2,s3,f2,c2,rfl,Lp,k,back2⟩
         |exit id=>simp only[eg,dF] at he;obtain⟨rfl,rfl,rfl⟩:=he;exact⟨K2,_,_,cs,ms1,le1.trans le2,s3,f2,c2,rfl,Lp,k,rfl,back2⟩
         |_=>cases he
      ·cases he
  ·cases he
 |_=>simp[fW] at he
end
section
variable {P:bL} {G:Nat->Option (List AV)} {w0:cG} {R:Rec}
def Mp(tmps:Array aT):ResultVar->Sem aT
 | .tmp t=>pure (tmps.getD t undef)
 | .cell a t=>do loadVar t (<-asAddr (tmps.getD a undef))
def aqD{K:a8}{e:Env}{h:ar}{w:cG}(s:mi P G w0 K h w){tmps:Array aT}(hs:mZ K e.tmps tmps):∀{rs:List ResultVar} {l:List AV},xk P G e h rs=aa l->
 ∃vs:List aT,aV K l vs/\(rs.mapM (Mp tmps)).run P w=.ok vs w:=by
 intro rs
 induction rs with
 |nil=>intro l hl;simp only[xk,eg] at hl;subst hl;exact⟨[],.nil,by simp⟩|cons r rs ih=>
  intro l hl;cases r with
  |tmp t=>simp only[xk,dN] at hl;obtain⟨l',tG,rfl⟩:=hl;obtain⟨vs,h1,h2⟩:=ih tG;exact⟨_::vs,.cons _ _ _ _ (hs t) h1,by simp[ad4,h2,Mp]⟩
  |cell a t=>
   simp only[xk] at hl;split at hl
   ·rename_i x l' hx tG;injection hl with hl;subst hl;obtain⟨vs,h1,h2⟩:=ih tG;obtain⟨g,p,v,hp,Dc,hv⟩:=aaf s hx (hs a);refine⟨v::vs,.cons _ _ _ _ hv h1,?_⟩;rw[ad4];simp only[Mp,hp,asAddr,Sem.run_bind,Sem.run_pure,Result.andThen_ok,Dc,h2]
   ·cases hl
def aqE{K:a8}{fn:Func}{e:Env}{h:ar}{w:cG}(s:mi P G w0 K h w){tmps:Array aT}(hs:mZ K e.tmps tmps){x:AV}(he:Je P G fn e h=aa x):
 ∃v,a9 K x v/\(results fn tmps).run P w=.ok v w:=by
 unfold Je at he;have key:∀l,xk P G e h fn.results.toList=aa l->∃vs:List aT,aV K l vs/\(results fn tmps).run P w=.ok (if hh:vs.toArray.size=1 then vs.toArray[0] else .tuple vs.toArray) w:=by
  intro l hl;obtain⟨vs,h1,h2⟩:=aqD s hs hl;refine⟨vs,h1,?_⟩;have iH:results fn tmps=(do let vs <-fn.results.mapM (Mp tmps);pure (if h:vs.size=1 then vs[0] else .tuple vs)):=by unfold results;congr 2
  rw[iH,Array.mapM_eq_mapM_toList];simp only[Sem.run_bind,Sem.run_map,h2,Result.andThen_ok,Sem.run_pure]
 split at he
 ·rename_i x' hl;injection he with he;subst he;obtain⟨vs,h1,h2⟩:=key _ hl;cases h1 with|cons _ c _ cs h3 h4=>cases h4;exact⟨c,h3,h2⟩
 ·rename_i l bG hl;injection he with he;subst he;obtain⟨vs,h1,h2⟩:=key _ hl;refine⟨.tuple vs.toArray,.tuple _ _ (by simpa using h1),?_⟩;rw[h2];have bR:vs.length≠1:=by rw[<-h1.length];intro hq;obtain⟨y,rfl⟩:=List.length_eq_one_iff.1 hq;exact bG y rfl
  simp[bR]
 ·cases he
def s9(K:a8):Option (AV × Bool)->FrameMode->Prop
 |none,u=>u=.returning
 |some (x,r),u=>r=aB/\∃v,a9 K x v/\u=.panicking [{v,recovered:=aB}]
def s9.run{K}{m u}(h:s9 K m u):u≠ .run:=by
 cases m with|none=>simp only[s9] at h;rw[h];simp|some p=>obtain⟨x,r⟩:=p;obtain⟨_,v,_,h⟩:=h;rw[h];simp
def s9.un{K}{r}{m u}(h:s9 K m u):s9 (K.un r) m u:=by
 cases m with|none=>exact h|some p=>obtain⟨x,r⟩:=p;obtain⟨h1,v,h2,h⟩:=h;exact⟨h1,v,a9.un h2,h⟩
def s9.mono{K K'}(le:K.Le K'){m u}(h:s9 K m u):s9 K' m u:=by
 cases m with|none=>exact h|some p=>obtain⟨x,r⟩:=p;obtain⟨h1,v,h2,h⟩:=h;exact⟨h1,v,h2.mono le,h⟩
def mZ.un{K}{r}{s tmps}(h:mZ K s tmps):mZ (K.un r) s tmps:=λt=>a9.un (h t)
def avb{fr:fF}{cs:List fF}{w:cG}{r:Nat}{args:Array aT}{ds:List Deferred}(hm:fr.mode≠ .run)(hd:fr.defers={target:=.collected r,args}::ds)(hr:w.heap[r]?=aa (.deferred (aa []))):
 step P (lone fr cs w)=.next (lone {fr with defers:=ds} cs (w.putObj r (.deferred av))):=by
 refine step_lone_go ?_;have ht:=run_takeDeferred (P:=P) hr;cases tH:fr.mode with|run=>exact absurd tH hm|returning=>simp[stepG,unwind,tH,hd,Sem.runT_eq,ht]|panicking chain=>simp[stepG,unwind,tH,hd,Sem.runT_eq,ht]
def settled:Option (AV × Bool)->Option (AV × Bool)
 |some (_,ah)=>av
 |q=>q
def GI(P:bL)(K:a8)(fn:Func)(fr:fF)(w:cG):fg->Prop
 | .ret x=>fr.mode=.returning/\∃v,a9 K x v/\(results fn fr.tmps).run P w=.ok v w
 | .panic x=>∃v,a9 K x v/\fr.mode=.panicking [{v,recovered:=aB}]
def awh(hR:xG P G w0 R)(hn:EC P){g:bq}{fn:Func}(iG:P.funcs[g]?=aa fn){K0:a8}{e:Env}:∀(cds:List Deferred) (ds:List (bq × List AV)) (ms:List Nat) (m:Option (AV × Bool)) (h:ar) (res:fg) (h':ar),
 iI P G R fn e ds m h=aa (res,h')->∀(K:a8) (w:cG) (fr:fF) (cs:List fF),fr.fn=g->fr.defers=cds->rU K ds cds ms->mZ K e.tmps fr.tmps->s9 K m fr.mode->mi P G w0 K h w->K0.Le K->
 (∀r∈ms,r∉K0.md)->
 ∃K' w' fr',K0.Le K'/\mi P G w0 K' h' w'/\Steps P (lone fr cs w) (lone fr' cs w')/\fr'.kind=fr.kind/\fr'.defers=[]/\fr'.fn=g/\GI P K' fn fr' w' res/\(∀kind base p cs,CS K kind base p cs->CS K' kind base p cs):=by
 intro cds
 induction cds with
 |nil=>
  intro ds ms m h res h' he K w fr cs hg hd ir nR tH hs eX Lo;generalize hq:([]:List Deferred)=q at ir;cases ir with
  |call=>cases hq
  |mark=>cases hq
  |nil=>
   cases m with
   |none=>simp only[iI,dN,dF] at he;obtain⟨x,hx,rfl,rfl⟩:=he;obtain⟨v,h1,h2⟩:=aqE hs nR hx;exact⟨K,w,fr,eX,hs,.refl P _,rfl,hd,hg,⟨tH,v,h1,h2⟩,λ_ _ _ _ h=>h⟩
   |some p=>obtain⟨x,r⟩:=p;simp only[iI,eg,dF] at he;obtain⟨rfl,rfl⟩:=he;obtain⟨-,v,h1,h2⟩:=tH;exact⟨K,w,fr,eX,hs,.refl P _,rfl,hd,hg,⟨v,h1,h2⟩,λ_ _ _ _ h=>h⟩
 |cons d cds ih=>
  intro ds ms m h res h' he K w fr cs hg hd ir nR tH hs eX Lo;generalize hq:d::cds=q at ir;cases ir with
  |nil=>cases hq
  |mark r ds' cds' ms' hr hnr IC=>injection hq with qj oR;subst qj;subst oR;have De:=hs.md r hr;have jQ:=avb (P:=P) (cs:=cs) tH.run hd De.2;have cV:r∉K0.md:=Lo r gq;obtain⟨K',w',fr',g1,g2,g3,g4,g5,g6,g7,g8⟩:=ih _ ms' m h res h' he (K.un r) _ {fr with defers:=cds} cs hg rfl (IC.un hnr) nR.un tH.un (hs.drop hr (.deferred av) (by intro _ _ _ hq;cases hq)) (amW eX cV) (λr' gI=>Lo r' (fM _ gI));exact⟨K',w',fr',g1,g2,.head jQ g3,g4,g5,g6,g7,λ_ _ _ _ hc=>g8 _ _ _ _ hc.un⟩
  |call f args vs aF ds' cds' _ hv IC=>
   injection hq with qj oR;subst qj;subst oR;simp only[iI] at he;cases ux:R.lH f args m h with
   |none=>rw[ux] at he;cases he
   |some q=>
    obtain⟨rr,m1,h1⟩:=q;rw[ux] at he;cases rr with
    |panic x=>simp at he|ret x=>
     obtain⟨⟨fnn,Qa,nO⟩,hc⟩:=hR.lH _ _ _ _ _ _ _ ux;have hinv:(invoke (.fn (.func f) aF) vs).run P w=.ok (.enter f (vs++aF)) w:=(by simp only[invoke];exact Td hn Qa nO _ _);have jQ:=step_defer (P:=P) (cs:=cs) (d:={target:=.fn (.func f) aF,args:=vs}) tH.run hd rfl hinv;have cI:CS K .deferred ({fr with defers:=cds,mode:=.returning}::cs) m ({fr with defers:=cds}::cs):=by
      cases m with
      |none=>have:({fr with defers:=cds}:fF)={fr with defers:=cds,mode:=.returning}:=(by rw[<-show fr.mode=.returning from tH]);rw[this];exact .ret _ _ rfl rfl rfl
      |some p=>obtain⟨y,r⟩:=p;obtain⟨rfl,v,hv1,oz⟩:=tH;have:({fr with defers:=cds}:fF)={({fr with defers:=cds,mode:=.returning}:fF) with mode:=.panicking [{v,recovered:=aB}]}:=(by rw[<-oz]);rw[this];exact .dg _ _ y v aB rfl rfl hv1
     obtain⟨K1,w1,fr1,cs1,v1,le1,s1,c1,bT,Bo,oO⟩:=hc K w (vs++aF) _ _ hv cI hs;have rC:∃u,cs1={fr with defers:=cds,mode:=u}::cs/\s9 K1 (settled m1) (settle u):=by
      generalize Bf:({fr with defers:=cds,mode:=.returning}:fF)::cs=base at c1;cases c1 with
      |normal hh=>cases hh
      |ret c0 rest _ hb hm=>refine⟨.returning,Bf.symm,?_⟩;simp[s9,settle,settled]|dg c0 rest y v r _ hb hx=>
       rw[hb] at Bf;injection Bf with lY gi;subst lY;subst gi;refine⟨.panicking [{v,recovered:=r}],rfl,?_⟩;cases r with|true=>simp[s9,settle,settled]|false=>exact⟨rfl,v,hx,rfl⟩
     obtain⟨u,rfl,rC⟩:=rC;have ak7:=step_going_returned (c:={fr with defers:=cds,mode:=u}) (cs:=cs) Bo oO;have he':iI P G R fn e ds' (settled m1) h1=aa (res,h'):=by
      rcases m1 with _|⟨y,r⟩
      ·exact he
      ·cases r<;>exact he
     obtain⟨K',w',fr',g1,g2,g3,g4,g5,g6,g7,g8⟩:=ih _ ms _ h1 res h' he' K1 w1 {fr with defers:=cds,mode:=settle u} cs hg rfl (IC.mono le1) (nR.mono le1) rC s1 (eX.trans le1) Lo;exact⟨K',w',fr',g1,g2,.head jQ (bT.trans (.head ak7 g3)),g4,g5,g6,g7,λ_ _ _ _ hq=>g8 _ _ _ _ (hq.mono le1)⟩
def ah8{n n'}(h:n<=n'):∀{c:Code},codeOk n c=ah->codeOk n' c=ah:=by
 intro c
 induction c with
 |region id ops draw=>
  simp only[codeOk,F1,Gy];intro hq i hi;have:=hq i hi
  revert this
  cases ops[i].dst with|none=>intro _;rfl|some d=>simp only[decide_eq_true_eq];intro hd;exact nE hd h
 |seq a b iha ihb=>simp only[codeOk,bI];exactλhq=>⟨iha hq.1,ihb hq.2⟩|cond q a b iha ihb=>simp only[codeOk,bI];exactλhq=>⟨iha hq.1,ihb hq.2⟩|block id c ih=>simp only[codeOk];exact ih|loop c ih=>simp only[codeOk];exact ih|scope c ih=>simp only[codeOk];exact ih|rangeFunc f ps a b iha ihb=>simp only[codeOk,bI,Gy,decide_eq_true_eq];exactλhq=>⟨⟨λi hi=>nE (hq.1.1 i hi) h,iha hq.1.2⟩,ihb hq.2⟩|_=>intro hq;exact hq
structure Prog(P:bL):Prop where
 names:EC P
 mixed:P.follows .mixedOrders=ah
 code:∀(g:bq) (fn:Func) (c:Code),P.funcs[g]?=aa fn->fn.body=aa c->codeOk fn.ntmps c=ah
def auy{K}{args}{fJ}(hv:aV K args fJ.toList)(n):mZ K {ch:=[],base:=args} (fJ++Eb n undef):=by
 intro t;simp only[qC.get,look];have bR:=hv.length;rcases ez t args.length with aC|eF
 ·obtain⟨c,h1,h2⟩:=hv.get (aU aC);have hb:args.getD t (.tuple [])=args[t]:=by simp[aC]
  rw[hb];have hc:(fJ++Eb n undef).getD t undef=c:=by have alK:t<fJ.size:=(by simpa [bR] using aC);rw[adf,Array.getElem?_append_left alK,<-D9,h1];rfl
  rw[hc];exact h2
 ·have hb:args.getD t (.tuple [])=.tuple []:=by simp[u7 eF]
  rw[hb];have hc:(fJ++Eb n undef).getD t undef=undef:=by have alw:fJ.size<=t:=(by simpa [bR] using eF);rw[adf,Array.getElem?_append_right alw,Array.getElem?_replicate];split<;>rfl
  rw[hc];exact .tuple [] #[] .nil
def VI(hp:Prog P)(hR:xG P G w0 R){g:bq}{args:List AV}{m m':Option (AV × Bool)}{h h':ar}{res:fg}(he:tj P G R g args m h=aa (res,m',h')):
 (∃fn,P.funcs[g]?=aa fn/\fn.body.isSome=ah)/\∀(K:a8) (w:cG) (fJ:Array aT) (kind:CallKind) (base cs:List fF),aV K args fJ.toList->CS K kind base m cs->mi P G w0 K h w->
 ∃K' w' fr ej fn,P.funcs[g]?=aa fn/\K.Le K'/\mi P G w0 K' h' w'/\CS K' kind base m' ej/\Steps P (lone (Frame.enter P g fJ kind) cs w) (lone fr ej w')/\fr.kind=kind/\fr.defers=[]/\fr.fn=g/\GI P K' fn fr w' res:=by
 unfold tj at he;split at he
 ·cases he
 ·rename_i fn iG;split at he
  ·cases he
  ·rename_i body nO;refine⟨⟨fn,iG,by rw[nO];rfl⟩,λK w fJ kind base cs hv cI hs=>?_⟩
   let b:fF:={(default:fF) with fn:=g,kind:=kind}
   let a:Act:={tmps:=fJ++Eb (fn.ntmps - fJ.size) undef,defers:=[]}
   have hb:b.roundOf=av:=rfl;have Ld:Frame.enter P g fJ kind=b.atR a [.code body]:=(by unfold Frame.enter Frame.atR;simp only[iG,nO,b,a,ft,Option.getD_some,qB];rfl);have P9:oG P K {tmps:={ch:=[],base:=args},defers:=[],dg:=m,round:=av} a b []:=
    ⟨auy hv _,.nil,rfl,by show(P.funcs[g]?).isSome=ah;rw[iG];rfl⟩
   have bB:codeOk a.tmps.size body=ah:=ah8 (by simp[a];omega) (hp.code g fn body iG nO);have finish:∀(out:Xt) (e:Env) (h1:ar) (m0:Option (AV × Bool)),R.code body {tmps:={ch:=[],base:=args},defers:=[],dg:=m,round:=av} h=aa (out,e,h1)->
    (out=.normal/\m0=av∨out=.ret/\m0=av∨∃x,out=.panic x/\m0=aa (x,aB))->(iI P G R fn e e.defers m0 h1).map (λ(r,h)=>(r,e.dg,h))=aa (res,m',h')->
    ∃K' w' fr ej fn,P.funcs[g]?=aa fn/\K.Le K'/\mi P G w0 K' h' w'/\CS K' kind base m' ej/\Steps P (lone (Frame.enter P g fJ kind) cs w) (lone fr ej w')/\fr.kind=kind/\fr.defers=[]/\fr.fn=g/\GI P K' fn fr w' res:=by
    intro out e h1 m0 PY Bu Dq;obtain⟨K1,w1,a1,cs1,ms1,L⟩:=hR.code _ _ _ _ _ _ PY K w a b [] base cs [] P9 cI hs bB;simp only[dN,dF] at Dq;obtain⟨⟨r,hh⟩,Dq,rfl,rfl,rfl⟩:=Dq;have wJ:∃(todo:List Item) (u:FrameMode),s9 K1 m0 u/\Steps P (lone (Frame.enter P g fJ kind) cs w) (lone {b.atR a1 todo with mode:=u} cs1 w1):=by
     rw[Ld];rcases Bu with⟨rfl,rfl⟩|⟨rfl,rfl⟩|⟨x,rfl,rfl⟩
     ·exact⟨[],.returning,rfl,Steps.trans L.arr (.one (stepR_end hb))⟩
     ·obtain⟨todo,bT⟩:=L.arr;exact⟨_,.returning,rfl,Steps.trans bT (.one (stepR_ret hb))⟩
     ·obtain⟨todo,v,hx,bT⟩:=L.arr;exact⟨todo,_,⟨rfl,v,hx,rfl⟩,bT⟩
    obtain⟨todo,u,tH,bT⟩:=wJ;obtain⟨K2,w2,fr,g1,g2,g3,g4,g5,g6,g7,g8⟩:=awh hR hp.names iG a1.defers e.defers ms1 m0 h1 r hh Dq K1 w1 {b.atR a1 todo with mode:=u} cs1 rfl rfl L.frame.defers L.frame.iT tH L.rP L.le
     (λr hr=>(L.marks r hr).resolve_left bJ)
    exact⟨K2,w2,fr,cs1,fn,iG,g1,g2,g8 _ _ _ _ L.cs,bT.trans g3,g4,g5,g6,g7⟩
   split at he
   ·rename_i e1 h1 hc;exact finish _ _ _ _ hc (.inl ⟨rfl,rfl⟩) he
   ·rename_i e1 h1 hc;exact finish _ _ _ _ hc (.inr (.inl ⟨rfl,rfl⟩)) he
   ·rename_i x e1 h1 hc;exact finish _ _ _ _ hc (.inr (.inr ⟨x,rfl,rfl⟩)) he
   ·cases he
def GI.arL{K:a8}{fn:Func}{fr:fF}{w:cG}{res:fg}(hg:GI P K fn fr w res)(hf:P.funcs[fr.fn]?=aa fn)(hk:fr.kind=.normal)(hd:fr.defers=[]):UO P K fr w res:=by
 cases res with
 |ret x=>obtain⟨h1,v,h2,h3⟩:=hg;exact⟨v,h2,h1,hd,hk,fn,hf,h3⟩
 |panic x=>obtain⟨v,h2,h3⟩:=hg;exact⟨v,h2,h3,hd,fn,hf⟩
def ue(P:bL)(G:Nat->Option (List AV))(w0:cG)(g:bq)(p:List AV->ar->Option (AV × ar)):Prop:=
 (∃fn,P.funcs[g]?=aa fn/\fn.body.isSome=ah)/\
 ∀args h x h',p args h=aa (x,h')->∀(K:a8) (w:cG) (fJ:Array aT),aV K args fJ.toList->mi P G w0 K h w->
  Calls P g fJ w λe w'=>∃v K',e=.returned v/\K.Le K'/\a9 K' x v/\mi P G w0 K' h' w'
def ake(hp:Prog P){aQ:bq->Option (List AV->ar->Option (AV × ar))}(pK:∀g p,aQ g=aa p->ue P G w0 g p)(hR:xG P G w0 R):UQ P G w0 (sf P G R aQ):=by
 intro g args h r h' he;unfold sf at he;split at he
 ·rename_i p uG;simp only[dN,dF] at he;obtain⟨⟨x,hh⟩,hx,rfl,rfl⟩:=he;obtain⟨iG,alc⟩:=pK g p uG;refine⟨iG,λK w fJ hv hs cs=>?_⟩;obtain⟨e,w',fr,⟨v,K',rfl,le,hx',s'⟩,hc,yk,hl⟩:=alc args h x hh hx K w fJ hv hs cs;exact⟨K',w',fr,le,s',hc,yk,v,hx',hl⟩
 ·simp only[dN,dF] at he;obtain⟨⟨r',m',hh⟩,hx,rfl,rfl⟩:=he;obtain⟨iG,hb⟩:=VI hp hR hx;refine⟨iG,λK w fJ hv hs cs=>?_⟩;obtain⟨K',w',fr,ej,fn,hf,le,s',c',bT,hk,hd,hg,Qe⟩:=hb K w fJ .normal cs cs hv (.normal rfl) hs;have:ej=cs:=by
   generalize hq:CallKind.normal=q at c';cases c' with|normal=>rfl|ret c0 rest h1=>exact absurd (hq.trans h1) bJ|dg c0 rest x v r h1=>exact absurd (hq.trans h1) bJ
  subst this;exact⟨K',w',fr,le,s',bT,hg,Qe.arL (by rw[hg];exact hf) hk hd⟩
def aiX(hp:Prog P)(hR:xG P G w0 R):US P G w0 (tj P G R):=by intro g args m h x m' h' he;obtain⟨iG,hb⟩:=VI hp hR he;refine⟨iG,λK w fJ base cs hv cI hs=>?_⟩;obtain⟨K',w',fr,ej,fn,hf,le,s',c',bT,hk,hd,hg,Qe⟩:=hb K w fJ .deferred base cs hv cI hs;obtain⟨h1,v,h2,h3⟩:=Qe;exact⟨K',w',fr,ej,v,le,s',c',bT,hk,h1,hd,fn,by rw[hg];exact hf,h3⟩
def at6{K}:∀{ps:List Tmp} {args:List AV} {fJ:List aT} {s:qC} {tmps:Array aT},aV K args fJ->mZ K s tmps->(∀p∈ps,p<tmps.size)->
 mZ K (Gp ps args s) ((ps.zip fJ).foldl (λts p=>ts.setIfInBounds p.1 p.2) tmps)/\((ps.zip fJ).foldl (λts p=>ts.setIfInBounds p.1 p.2) tmps).size=tmps.size:=by
 intro ps
 induction ps with
 |nil=>intro args fJ s tmps hv hs hp;exact⟨hs,rfl⟩|cons p ps ih=>
  intro args fJ s tmps hv hs hp;cases hv with
  |nil=>exact⟨hs,rfl⟩|cons x c xs cs hx Rh=>
   have h1:=mZ.set hs (hp p gq) hx;obtain⟨i1,i2⟩:=ih (s:=s.set p x) (tmps:=tmps.setIfInBounds p c) Rh h1 (λq hq=>by simpa using hp q (fM _ hq));refine⟨?_,?_⟩
   ·simpa [Gp] using i1
   ·simpa using i2
def asf(hR:xG P G w0 R):UT P G w0 (xl R):=by
 intro l args h r h' he K w fJ lg hγ hv hs ui cs;unfold xl at he;split at he
 ·cases he
 ·rename_i rec Bw;split at he
  ·rename_i al4;obtain⟨mm,m1,m2,m3,m4,m5,m6,m7,m8,m9,m10,-⟩:=hs.fc hγ Bw rec.state rec.pending;have yd:fJ.size=mm.params.size:=(by rw[m4,al4,hv.length];simp);have hy:=run_yield (P:=P) m1 yd;split at he
   ·rename_i e1 h1 ak5;split at he
    ·rename_i r1 Dn;split at he
     ·rename_i alZ;obtain⟨sp1,sp2⟩:=at6 (ps:=rec.params.toList) hv m7 m10;have Qb:(mm.params.zip fJ).foldl (λtmps (x:Tmp × aT)=>tmps.setIfInBounds x.1 x.2) mm.tmps=(rec.params.toList.zip fJ.toList).foldl (λts p=>ts.setIfInBounds p.1 p.2) mm.tmps:=by rw[<-Array.foldl_toList,Array.toList_zip,m4]
      let b:fF:={(default:fF) with fn:=mm.fn,kind:=.normal,roundOf:=aa lg}
      let a:Act:={tmps:=(rec.params.toList.zip fJ.toList).foldl (λts p=>ts.setIfInBounds p.1 p.2) mm.tmps,defers:=[]}
      have YA:(P.funcs[mm.fn]?).isSome=ah:=(by have:=m8;unfold FY at this;rw[bI] at this;exact this.2);have P9:oG P K {tmps:=Gp rec.params.toList args rec.tmps,defers:=[],dg:=av,round:=aa l} a b []:=
       ⟨sp1,.nil,⟨lg,hγ,rfl,rfl,rfl,rfl,rfl⟩,YA⟩
      have tI:codeOk a.tmps.size rec.assign=ah:=(by have:=m8;unfold FY at this;rw[bI] at this;show codeOk (adm _) _=ah;rw[sp2];exact this.1);have Dh:codeOk a.tmps.size rec.body=ah:=(by have:=m9;unfold FY at this;rw[bI] at this;show codeOk (adm _) _=ah;rw[sp2];exact this.1);have FE:Frame.round lg mm.fn ((mm.params.zip fJ).foldl (λtmps (x:Tmp × aT)=>tmps.setIfInBounds x.1 x.2) mm.tmps) mm.assign mm.body .normal=b.atR a [.code rec.assign,.beginRound,.code rec.body]:=(by simp only[Frame.round,Frame.atR,b,a,Qb,m5,m6]);have nocs:∀{K:a8} {p:Option (AV × Bool)} {base ej:List fF},CS K .normal base p ej->ej=base:=by
       intro K p base ej c;generalize hq:CallKind.normal=q at c;cases c with|normal=>rfl|ret c0 rest h1=>exact absurd (hq.trans h1) bJ|dg c0 rest x v r h1=>exact absurd (hq.trans h1) bJ
      obtain⟨K1,w1,a1,cs1,ms1,L1⟩:=hR.code _ _ _ _ _ _ ak5 K w a b [.beginRound,.code rec.body] (ui::cs) (ui::cs) [] P9 (.normal rfl) hs tI;have alg:=nocs L1.cs;subst alg;obtain⟨nn,n1,n2,n3,n4,n5,n6,n7,n8,n9,n10,sbusy⟩:=L1.rP.fc (L1.le.γ _ _ hγ) Dn .busy r1.pending;have ak8:=run_beginRound (P:=P) n1 (n2.trans alZ);have alr:({nn with state:=.busy,pending:=r1.pending}:Loop)={nn with state:=.busy}:=(by rw[<-n3]);rw[alr] at sbusy;have Ln:Steps P (lone (Frame.round lg mm.fn ((mm.params.zip fJ).foldl (λtmps (x:Tmp × aT)=>tmps.setIfInBounds x.1 x.2) mm.tmps) mm.assign mm.body .normal) (ui::cs) w)
       (lone (b.atR a1 [.code rec.body]) (ui::cs) (w1.putObj lg (.loop {nn with state:=.busy}))):=by
       rw[FE];exact Steps.trans L1.arr (.one (stepR_beginRound rfl ak8))
      have axx:∀r∈ms1,r∉K.md:=λr hr=>(L1.marks r hr).resolve_left bJ;have body:∀(out:Xt) (e2:Env) (h2:ar),R.code rec.body e1 {h1 with loops:=h1.loops.set l {r1 with state:=.busy}}=aa (out,e2,h2)->
       ∃K2 w2 a2 ms2,K.Le K2/\mi P G w0 K2 h2 w2/\oG P K2 e2 a2 b ms2/\o6 P K2 (lone (b.atR a1 [.code rec.body]) (ui::cs) (w1.putObj lg (.loop {nn with state:=.busy}))) b [] (ui::cs) out a2 w2:=by
       intro out e2 h2 PY;obtain⟨K2,w2,a2,cs2,ms2,L2⟩:=hR.code _ _ _ _ _ _ PY K1 _ a1 b [] (ui::cs) (ui::cs) ms1 L1.frame L1.cs sbusy (by rw[L1.size];exact Dh);have P2:=nocs L2.cs;subst P2;exact⟨K2,w2,a2,ms2,L1.le.trans L2.le,L2.rP,L2.frame,L2.arr⟩
      have ending:∀(h2:ar) (out:fg) (hh:ar) (st:LoopState) (pe:Option Code) (bb:Bool) (K2:a8) (w2:cG),K.Le K2->mi P G w0 K2 h2 w2->pe.isNone=bb->(if pe.isNone then LoopState.ready else .done)=st->
       ((h2.loops[l]?).map λr=>(fg.ret (.v (.bool bb)),{h2 with loops:=h2.loops.set l {r with state:=st,pending:=pe}}))=aa (out,hh)->
       ∃v w3,(Instr.endRound lg pe).run P w2=.ok (.bool bb) w3/\mi P G w0 K2 hh w3/\out=.ret (.v (.bool bb))/\a9 K2 (.v (.bool bb)) v/\v=.bool bb:=by
       intro h2 out hh st pe bb K2 w2 le2 s2 vt bT YP;simp only[dN,dF] at YP;obtain⟨r2,jO,rfl,rfl⟩:=YP;obtain⟨qq,q1,q2,q3,-,-,-,-,-,-,-,send⟩:=s2.fc (le2.γ _ _ hγ) jO st pe;have uB:=run_endRound (P:=P) pe q1;rw[bT,vt] at uB;exact⟨_,_,uB,send,rfl,.v _ rfl,rfl⟩
      have qi:∀{K2:a8} {e2:Env} {a2:Act} {ms2:List Nat},oG P K2 e2 a2 b ms2->e2.round=aa l->a2.defers=[]:=(by intro K2 e2 a2 ms2 hf hr;have:=hf.round;rw[hr] at this;obtain⟨_,_,_,_,h1,_⟩:=this;exact h1);refine⟨mm.fn,(mm.params.zip fJ).foldl (λtmps (x:Tmp × aT)=>tmps.setIfInBounds x.1 x.2) mm.tmps,mm.assign,mm.body,?_⟩;split at he
      ·rename_i e2 h2 nO;obtain⟨K2,w2,a2,ms2,le2,s2,f2,wJ⟩:=body _ _ _ nO;obtain⟨v,w3,uB,s3,rfl,iY,rfl⟩:=ending h2 r h' .ready av ah K2 w2 le2 s2 rfl rfl he;exact⟨K2,w3,hy,le2,s3,_,iY,Ln.trans (Steps.trans wJ (.one (stepR_round_end rfl rfl uB)))⟩
      ·rename_i e2 h2 nO;obtain⟨K2,w2,a2,ms2,le2,s2,f2,todo,wJ⟩:=body _ _ _ nO;obtain⟨v,w3,uB,s3,rfl,iY,rfl⟩:=ending h2 r h' .done (aa .ret) aB K2 w2 le2 s2 rfl rfl he;exact⟨K2,w3,hy,le2,s3,_,iY,Ln.trans (wJ.trans (.one (stepR_round_ret rfl rfl uB)))⟩
      ·rename_i id e2 h2 nO;obtain⟨K2,w2,a2,ms2,le2,s2,f2,todo,rA,wJ⟩:=body _ _ _ nO;obtain⟨v,w3,uB,s3,rfl,iY,rfl⟩:=ending h2 r h' .done (aa (.exit id)) aB K2 w2 le2 s2 rfl rfl he;exact⟨K2,w3,hy,le2,s3,_,iY,Ln.trans (wJ.trans (.one (stepR_round_exit rfl rfl (rA.trans rfl) uB)))⟩
      ·rename_i x e2 h2 nO;simp only[eg,dF] at he;obtain⟨rfl,rfl⟩:=he;obtain⟨K2,w2,a2,ms2,le2,s2,f2,todo,v,hx,wJ⟩:=body _ _ _ nO;have hd:a2.defers=[]:=by
        have:=f2.round;cases hq:e2.round with
        |none=>rw[hq] at this;cases this
        |some l'=>rw[hq] at this;obtain⟨_,_,_,_,h1,_⟩:=this;exact h1
       obtain⟨fnn,Qa⟩:=Option.isSome_iff_exists.1 YA;exact⟨K2,w2,hy,le2,s2,v,_,hx,Ln.trans wJ,rfl,hd,fnn,Qa⟩
      ·cases he
     ·cases he
    ·cases he
   ·cases he
  ·cases he
def Mn(hp:Prog P){aQ:bq->Option (List AV->ar->Option (AV × ar))}(pK:∀g p,aQ g=aa p->ue P G w0 g p):∀n,xG P G w0 (jb P G aQ n):=by
 intro n
 induction n with
 |zero=>
  refine⟨?_,?_,?_,?_⟩
  ·intro c e h out e' h' he;cases he
  ·intro g args h r h' he;cases he
  ·intro g args m h x m' h' he;cases he
  ·intro l args h r h' he;cases he
 |succ n ih=>exact⟨aia hp.names hp.mixed ih,ake hp pK ih,aiX hp ih,asf ih⟩
end
end Go.AE
end
section
namespace Go.AE
structure pj(R R':Rec):Prop where
 code:∀c e h r,R.code c e h=aa r->R'.code c e h=aa r
 call:∀g a h r,R.call g a h=aa r->R'.call g a h=aa r
 lH:∀g a m h r,R.lH g a m h=aa r->R'.lH g a m h=aa r
 round:∀l a h r,R.round l a h=aa r->R'.round l a h=aa r
section
variable {P:bL} {G:Nat->Option (List AV)} {R R':Rec}
def ahg(le:pj R R'){e:Env}{h:ar}{c:Call}{r:fg × ar}(hc:mK P R e h c=aa r):mK P R' e h c=aa r:=by
 unfold mK at hc ⊢;cases qc:c.callee with
 |builtin b=>rw[qc] at hc;cases hc
 |value f=>
  simp only[qc] at hc ⊢;split at hc
  ·rename_i h1;(try simp only[h1]);exact le.call _ _ _ _ hc
  ·rename_i h1;(try simp only[h1]);exact le.round _ _ _ _ hc
  ·cases hc
 |invoke v m=>
  simp only[qc] at hc ⊢;split at hc
  ·rename_i h1
   (try simp only[h1])
   split at hc
   ·rename_i h2;(try simp only[h2]);exact le.call _ _ _ _ hc
   ·cases hc
  ·cases hc
def FZ(le:pj R R'){e:Env}{h:ar}{o:Oper}{r:fg × Env × ar}(ho:eI P G R e h o=aa r):eI P G R' e h o=aa r:=by
 unfold eI at ho ⊢;split at ho
 ·exact ho
 ·exact ho
 ·exact ho
 ·simp only[dN] at ho ⊢;obtain⟨q,hq,he⟩:=ho;exact⟨q,ahg le hq,he⟩
 ·exact ho
 ·exact ho
 ·exact ho
def qn(le:pj R R'){ops:Array Oper}:∀{l:List Nat} {e:Env} {h:ar} {r:Xt × Env × ar},dx P G R ops l e h=aa r->dx P G R' ops l e h=aa r:=by
 intro l
 induction l with
 |nil=>intro e h r ho;exact ho|cons i l ih=>
  intro e h r ho;simp only[dx] at ho ⊢;cases Iw:ops[i]? with
  |none=>rw[Iw] at ho;cases ho
  |some o=>
   rw[Iw] at ho;simp only at ho ⊢;cases hw:fL ops e o with
   |none=>rw[hw] at ho;cases ho
   |some b=>
    rw[hw] at ho;cases b with
    |false=>exact ih ho|true=>
     simp only at ho ⊢;cases bV:eI P G R e h o with
     |none=>rw[bV] at ho;cases ho
     |some q=>
      rw[bV] at ho;rw[FZ le bV];obtain⟨r1,e1,h1⟩:=q;cases r1 with|ret x=>exact ih ho|panic x=>exact ho
def M7(le:pj R R'){ops:Array Oper}{e:Env}{h:ar}{r m:Nat}(hs:qV P G R ops e h r m=ah):qV P G R' ops e h r m=ah:=by
 unfold qV at hs ⊢;split at hs
 ·rename_i o er hr em hm h1 h2 h3;rw[h1,qn le h2,qn le h3];exact hs
 ·cases hs
def Hz{ops:Array Oper}{e:Env}{h:ar}{k:Nat}:nI P G R ops e h k=ah↔AY P G R ops e h k:=by unfold nI;exact @decide_eq_true_iff _ (Classical.propDecidable _)
def Kz(le:pj R R'){ops:Array Oper}{e:Env}{h:ar}{k:Nat}(hc:nI P G R ops e h k=ah):nI P G R' ops e h k=ah:=by rw[Hz] at hc ⊢;obtain⟨o,x,er,hr,h1,h2,h3,h4⟩:=hc;refine⟨o,x,er,hr,h1,h2,qn le h3,λm hm=>?_⟩;obtain⟨em,Dd,h5,h6⟩:=h4 m hm;exact⟨em,Dd,qn le h5,FZ le h6⟩
def Pm(le:pj R R'){ops:Array Oper}{e:Env}{h:ar}(hs:ng P G R ops e h=ah):ng P G R' ops e h=ah:=by
 unfold ng at hs ⊢;simp only[bI,eK,gf,v8] at hs ⊢;refine⟨hs.1,λj hj i hi=>?_⟩;rcases hs.2 j hj i hi with((h1|h1)|h1)|h1
 ·exact .inl (.inl (.inl h1))
 ·exact .inl (.inl (.inr h1))
 ·refine .inl (.inr ?_);unfold mH at h1 ⊢;rw[bI] at h1 ⊢;refine⟨h1.1,?_⟩;have h2:=h1.2;split at h2
  ·rename_i hx hy;(try simp only[hx,hy]);exact M7 le h2
  ·rename_i hx hy;(try simp only[hx,hy]);exact M7 le h2
  ·cases h2
 ·exact .inr ⟨h1.1,h1.2.imp (Kz le) (Kz le)⟩
def aaK(le:pj R R'){ops:Array Oper}{e:Env}{h:ar}{i:Nat}(hs:tS P G R ops e h i=ah):tS P G R' ops e h i=ah:=by
 unfold tS at hs ⊢;split at hs
 ·rename_i h1 h2;rw[qn le h1,qn le h2];exact hs
 ·cases hs
def stores_le(le:pj R R'){ops:Array Oper}{e:Env}{h:ar}(D:uU P G R ops e h=ah):uU P G R' ops e h=ah:=by obtain⟨i,h1,h2,h3,h4⟩:=stores_cases D;exact stores_of h1 h2 (aaK le h3) (Pm le h4)
def any_le(le:pj R R'){ops:Array Oper}{e:Env}{h:ar}(D:(ng P G R ops e h||uU P G R ops e h)=ah):(ng P G R' ops e h||uU P G R' ops e h)=ah:=by
 rcases (v8 _ _).mp D with q|q
 ·rw[Pm le q];rfl
 ·rw[stores_le le q,Ua]
def Wj(le:pj R R'){c:Code}{e:Env}{h:ar}{r:Xt × Env × ar}(hc:fW P G R c e h=aa r):fW P G R' c e h=aa r:=by
 cases c with
 |region id ops draw=>
  cases draw with
  |false=>simp only[fW,kj,if_false] at hc ⊢;exact qn le hc|true=>
   simp only[fW,if_true] at hc ⊢;split at hc
   ·rename_i hf;split at hc
    ·rename_i h1;rw[aH (any_le le hf)];simp only[qn le h1];exact hc
    ·cases hc
   ·cases hc
 |seq a b=>
  simp only[fW] at hc ⊢;cases ha:R.code a e h with
  |none=>rw[ha] at hc;cases hc
  |some q=>
   rw[ha] at hc;rw[le.code _ _ _ _ ha];obtain⟨o,e1,h1⟩:=q;cases o with|normal=>exact le.code _ _ _ _ hc|_=>exact hc
 |scope a=>simp only[fW] at hc ⊢;exact le.code _ _ _ _ hc|cond q a b=>
  simp only[fW] at hc ⊢;split at hc
  ·rename_i h1;(try simp only[h1]);exact le.code _ _ _ _ hc
  ·rename_i h1;(try simp only[h1]);exact le.code _ _ _ _ hc
  ·cases hc
 |block id a=>
  simp only[fW] at hc ⊢;cases ha:R.code a e h with
  |none=>rw[ha] at hc;cases hc
  |some q=>rw[ha] at hc;rw[le.code _ _ _ _ ha];exact hc
 |loop a=>
  simp only[fW] at hc ⊢;cases ha:R.code a e h with
  |none=>rw[ha] at hc;cases hc
  |some q=>
   rw[ha] at hc;rw[le.code _ _ _ _ ha];obtain⟨o,e1,h1⟩:=q;cases o with|normal=>exact le.code _ _ _ _ hc|_=>exact hc
 |rangeFunc f ps a b=>
  simp only[fW] at hc ⊢;split at hc
  ·rename_i g first aF uC
   (try simp only[uC])
   generalize db:R.call g _ _=q at hc;cases q with
   |none=>cases hc
   |some q=>rw[le.call _ _ _ _ db];exact hc
  ·cases hc
 |_=>exact hc
def TR(le:pj R R'){fn:Func}{e:Env}:∀{ds:List (bq × List AV)} {m:Option (AV × Bool)} {h:ar} {r:fg × ar},iI P G R fn e ds m h=aa r->iI P G R' fn e ds m h=aa r:=by
 intro ds
 induction ds with
 |nil=>intro m h r hu;cases m<;>exact hu
 |cons d ds ih=>
  intro m h r hu;obtain⟨g,args⟩:=d;simp only[iI] at hu ⊢;cases hd:R.lH g args m h with
  |none=>rw[hd] at hu;cases hu
  |some q=>
   rw[hd] at hu;rw[le.lH _ _ _ _ _ hd];obtain⟨r1,m1,h1⟩:=q;cases r1 with
   |panic x=>exact hu|ret x=>
    rcases m1 with _|⟨y,b⟩
    ·exact ih hu
    ·cases b<;>exact ih hu
def OT(le:pj R R'){g:bq}{args:List AV}{m:Option (AV × Bool)}{h:ar}{r:fg × Option (AV × Bool) × ar}(hb:tj P G R g args m h=aa r):tj P G R' g args m h=aa r:=by
 unfold tj at hb ⊢;split at hb
 ·cases hb
 ·rename_i fn iG;rw[iG] at *
  simp only;split at hb
  ·cases hb
  ·rename_i body nO;rw[nO] at *
   (try simp only)
   generalize CV:R.code body _ h=q at hb;cases q with
   |none=>cases hb
   |some q=>
    rw[le.code _ _ _ _ CV];obtain⟨o,e1,h1⟩:=q;cases o with
    |exit id=>cases hb
    |_=>simp only[dN] at hb ⊢;obtain⟨q,hq,he⟩:=hb;exact⟨q,TR le hq,he⟩
def Xr(le:pj R R'){aQ:bq->Option (List AV->ar->Option (AV × ar))}{g:bq}{args:List AV}{h:ar}{r:fg × ar}(hb:sf P G R aQ g args h=aa r):sf P G R' aQ g args h=aa r:=by
 unfold sf at hb ⊢;split at hb
 ·exact hb
 ·simp only[dN] at hb ⊢;obtain⟨q,hq,he⟩:=hb;exact⟨q,OT le hq,he⟩
def abw(le:pj R R'){l:Nat}{args:List AV}{h:ar}{r:fg × ar}(hb:xl R l args h=aa r):xl R' l args h=aa r:=by
 unfold xl at hb ⊢;split at hb
 ·cases hb
 ·split at hb
  ·rename_i dP;simp only[dP,if_true];split at hb
   ·rename_i e1 h1 ha;simp only[le.code _ _ _ _ ha];split at hb
    ·rename_i r2 jO;split at hb
     ·rename_i bT;simp only[bT,if_true];generalize CV:R.code _ e1 _=q at hb;cases q with
      |none=>cases hb
      |some q=>rw[le.code _ _ _ _ CV];exact hb
     ·cases hb
    ·cases hb
   ·cases hb
  ·cases hb
variable {aQ:bq->Option (List AV->ar->Option (AV × ar))}
def Jb(n:Nat):pj (jb P G aQ n) (jb P G aQ (n+1)):=by
 induction n with
 |zero=>
  refine⟨?_,?_,?_,?_⟩
  ·intro c e h r hh;cases hh
  ·intro g a h r hh;cases hh
  ·intro g a m h r hh;cases hh
  ·intro l a h r hh;cases hh
 |succ n ih=>exact⟨λc e h r hh=>Wj ih hh,λg a h r hh=>Xr ih hh,λg a m h r hh=>OT ih hh,λl a h r hh=>abw ih hh⟩
def jA{n m:Nat}(h:n<=m):pj (jb P G aQ n) (jb P G aQ m):=by
 induction m with
 |zero=>rw[Nat.le_zero.1 h];exact⟨λ_ _ _ _ h=>h,λ_ _ _ _ h=>h,λ_ _ _ _ _ h=>h,λ_ _ _ _ h=>h⟩|succ m ih=>
  rcases ez n (m+1) with aC|eF
  ·have h1:=ih (Ch.1 aC);have h2:=Jb (P:=P) (G:=G) (aQ:=aQ) m;exact⟨λc e h r hh=>h2.code _ _ _ _ (h1.code _ _ _ _ hh),λg a h r hh=>h2.call _ _ _ _ (h1.call _ _ _ _ hh),λg a m h r hh=>h2.lH _ _ _ _ _ (h1.lH _ _ _ _ _ hh),λl a h r hh=>h2.round _ _ _ _ (h1.round _ _ _ _ hh)⟩
  ·rw[Cg h eF];exact⟨λ_ _ _ _ h=>h,λ_ _ _ _ h=>h,λ_ _ _ _ _ h=>h,λ_ _ _ _ h=>h⟩
end
noncomputable def BB{α:Type}(f:Nat->Option α):Option α:=by
 classical
 exact if h:∃r n,f n=aa r then aa h.choose else av
def LN{α}{f}(hm:∀n m r,n<=m->f n=aa r->f m=aa r){n}{r:α}(h:f n=aa r):BB f=aa r:=by unfold BB;have rA:∃r n,f n=aa r:=⟨r,n,h⟩;rw[dif_pos rA];obtain⟨m,vA⟩:=rA.choose_spec;have h1:=hm _ _ _ (Hd n m) h;have h2:=hm _ _ _ (Ew n m) vA;rw[h1] at h2;exact h2.symm
def mS{α}{f}{r:α}(h:BB f=aa r):∃n,f n=aa r:=by
 unfold BB at h;split at h
 ·rename_i rA;injection h with h;rw[<-h];exact rA.choose_spec
 ·cases h
section
variable (P:bL) (G:Nat->Option (List AV)) (aQ:bq->Option (List AV->ar->Option (AV × ar)))
noncomputable def whole:Rec where
 code c e h:=BB λn=>(jb P G aQ n).code c e h
 call g a h:=BB λn=>(jb P G aQ n).call g a h
 lH g a m h:=BB λn=>(jb P G aQ n).lH g a m h
 round l a h:=BB λn=>(jb P G aQ n).round l a h
end
section
variable {P:bL} {G:Nat->Option (List AV)} {aQ:bq->Option (List AV->ar->Option (AV × ar))}
def BV(n:Nat):pj (jb P G aQ n) (whole P G aQ):=
 ⟨λ_ _ _ _ h=>LN (λ_ _ _ hl hh=>(jA hl).code _ _ _ _ hh) h,λ_ _ _ _ h=>LN (λ_ _ _ hl hh=>(jA hl).call _ _ _ _ hh) h,
  λ_ _ _ _ _ h=>LN (λ_ _ _ hl hh=>(jA hl).lH _ _ _ _ _ hh) h,λ_ _ _ _ h=>LN (λ_ _ _ hl hh=>(jA hl).round _ _ _ _ hh) h⟩
def TW{w0:cG}(hp:Prog P)(pK:∀g p,aQ g=aa p->ue P G w0 g p):xG P G w0 (whole P G aQ):=by
 refine⟨?_,?_,?_,?_⟩
 ·intro c e h out e' h' he;obtain⟨n,hn⟩:=mS he;exact(Mn hp pK n).code c e h out e' h' hn
 ·intro g args h r h' he;obtain⟨n,hn⟩:=mS he;exact(Mn hp pK n).call g args h r h' hn
 ·intro g args m h x m' h' he;obtain⟨n,hn⟩:=mS he;exact(Mn hp pK n).lH g args m h x m' h' hn
 ·intro l args h r h' he;obtain⟨n,hn⟩:=mS he;exact(Mn hp pK n).round l args h r h' hn
def two{α β:Type}{f:Nat->Option α}{g:Nat->Option β}{a}{b}(hf:∀n m r,n<=m->f n=aa r->f m=aa r)(hg:∀n m r,n<=m->g n=aa r->g m=aa r)(h1:∃n,f n=aa a)(h2:∃n,g n=aa b):
 ∃n,f n=aa a/\g n=aa b:=by
 obtain⟨n,h1⟩:=h1;obtain⟨m,h2⟩:=h2;exact⟨max n m,hf _ _ _ (Hd _ _) h1,hg _ _ _ (Ew _ _) h2⟩
def ahf{e:Env}{h:ar}{c:Call}{r:fg × ar}(hc:mK P (whole P G aQ) e h c=aa r):∃n,mK P (jb P G aQ n) e h c=aa r:=by
 unfold mK at hc ⊢;cases qc:c.callee with
 |builtin b=>rw[qc] at hc;cases hc
 |value f=>
  simp only[qc] at hc ⊢;split at hc
  ·exact mS hc
  ·exact mS hc
  ·cases hc
 |invoke v m=>
  simp only[qc] at hc ⊢;split at hc
  ·split at hc
   ·rename_i h2;(try simp only[h2]);exact mS hc
   ·cases hc
  ·cases hc
def aaG{e:Env}{h:ar}{o:Oper}{r:fg × Env × ar}(ho:eI P G (whole P G aQ) e h o=aa r):∃n,eI P G (jb P G aQ n) e h o=aa r:=by
 unfold eI at ho ⊢;split at ho
 ·exact⟨0,ho⟩
 ·exact⟨0,ho⟩
 ·exact⟨0,ho⟩
 ·simp only[dN] at ho ⊢;obtain⟨q,hq,he⟩:=ho;obtain⟨n,hn⟩:=ahf hq;exact⟨n,q,hn,he⟩
 ·exact⟨0,ho⟩
 ·exact⟨0,ho⟩
 ·exact⟨0,ho⟩
def BK{ops:Array Oper}:∀{l:List Nat} {e:Env} {h:ar} {r:Xt × Env × ar},dx P G (whole P G aQ) ops l e h=aa r->∃n,dx P G (jb P G aQ n) ops l e h=aa r:=by
 intro l
 induction l with
 |nil=>intro e h r ho;exact⟨0,ho⟩|cons i l ih=>
  intro e h r ho;simp only[dx] at ho ⊢;cases Iw:ops[i]? with
  |none=>rw[Iw] at ho;cases ho
  |some o=>
   rw[Iw] at ho;simp only at ho ⊢;cases hw:fL ops e o with
   |none=>rw[hw] at ho;cases ho
   |some b=>
    rw[hw] at ho;cases b with
    |false=>exact ih ho|true=>
     simp only at ho ⊢;cases bV:eI P G (whole P G aQ) e h o with
     |none=>rw[bV] at ho;cases ho
     |some q=>
      rw[bV] at ho;have h1:=aaG bV;obtain⟨r1,e1,pF⟩:=q;cases r1 with
      |panic x=>obtain⟨n,hn⟩:=h1;exact⟨n,by rw[hn];exact ho⟩
      |ret x=>obtain⟨n,h1,h2⟩:=two (λ_ _ _ hl hh=>FZ (jA hl) hh) (λ_ _ _ hl hh=>qn (jA hl) hh) h1 (ih ho);exact⟨n,by rw[h1];exact h2⟩
def acx{ops:Array Oper}{e:Env}{h:ar}{r m:Nat}(hs:qV P G (whole P G aQ) ops e h r m=ah):∃n,qV P G (jb P G aQ n) ops e h r m=ah:=by
 unfold qV at hs ⊢;split at hs
 ·rename_i o er hr em hm h1 h2 h3;obtain⟨n,h2,h3⟩:=two (λ_ _ _ hl hh=>qn (jA hl) hh) (λ_ _ _ hl hh=>qn (jA hl) hh) (BK h2) (BK h3);refine⟨n,?_⟩;rw[h1,h2,h3];exact hs
 ·cases hs
def many{p:Nat->Nat->Prop}(hm:∀i n m,n<=m->p i n->p i m):∀k,(∀i,i<k->∃n,p i n)->∃n,∀i,i<k->p i n:=by
 intro k
 induction k with
 |zero=>intro _;exact⟨0,λi hi=>absurd hi (Nat.not_lt_zero i)⟩|succ k ih=>
  intro h;obtain⟨n,hn⟩:=ih λi hi=>h i (xD hi);obtain⟨m,vA⟩:=h k (Nat.lt_succ_self k);refine⟨max n m,λi hi=>?_⟩;rcases ez i k with aC|eF
  ·exact hm _ _ _ (Hd _ _) (hn i aC)
  ·rw[Cg (Ch.1 hi) eF];exact hm _ _ _ (Ew _ _) vA
def auX{R R':Rec}(le:pj R R'){ops:Array Oper}{e:Env}{h:ar}{i j:Nat}(h1:mH P G R ops e h i j=ah):mH P G R' ops e h i j=ah:=by
 unfold mH at h1 ⊢;rw[bI] at h1 ⊢;refine⟨h1.1,?_⟩;have h2:=h1.2;split at h2
 ·rename_i hx hy;(try simp only[hx,hy]);exact M7 le h2
 ·rename_i hx hy;(try simp only[hx,hy]);exact M7 le h2
 ·cases h2
def auW{ops:Array Oper}{e:Env}{h:ar}{i j:Nat}(h1:mH P G (whole P G aQ) ops e h i j=ah):∃n,mH P G (jb P G aQ n) ops e h i j=ah:=by
 unfold mH at h1 ⊢;rw[bI] at h1;have h2:=h1.2;split at h2
 ·rename_i hx hy;obtain⟨n,hn⟩:=acx h2;exact⟨n,by rw[bI];exact⟨h1.1,by(try simp only[hx,hy]);exact hn⟩⟩
 ·rename_i hx hy;obtain⟨n,hn⟩:=acx h2;exact⟨n,by rw[bI];exact⟨h1.1,by(try simp only[hx,hy]);exact hn⟩⟩
 ·cases h2
def VX{ops:Array Oper}{e:Env}{h:ar}{k:Nat}(hc:nI P G (whole P G aQ) ops e h k=ah):∃n,nI P G (jb P G aQ n) ops e h k=ah:=by
 rw[Hz] at hc;obtain⟨o,x,er,hr,h1,h2,h3,h4⟩:=hc;obtain⟨n0,h3⟩:=BK h3;have key:∀m,m<ops.size+1->∃n,∃em hm,dx P G (jb P G aQ n) ops (bO m) e h=aa (.normal,em,hm)/\eI P G (jb P G aQ n) er hm o=aa (.ret x,er,hm):=by intro m hm;obtain⟨em,Dd,h5,h6⟩:=h4 m (Ch.1 hm);obtain⟨n,q1,q2⟩:=two (λ_ _ _ hl hh=>qn (jA hl) hh) (λ_ _ _ hl hh=>FZ (jA hl) hh) (BK h5) (aaG h6);exact⟨n,em,Dd,q1,q2⟩
 obtain⟨n1,hn⟩:=many (p:=λm n=>∃em hm,dx P G (jb P G aQ n) ops (bO m) e h=aa (.normal,em,hm)/\eI P G (jb P G aQ n) er hm o=aa (.ret x,er,hm))
  (λm n n' hl ⟨em,hm,q1,q2⟩=>⟨em,hm,qn (jA hl) q1,FZ (jA hl) q2⟩) (ops.size+1) key
 refine⟨max n0 n1,?_⟩;rw[Hz];refine⟨o,x,er,hr,h1,h2,qn (jA (Hd _ _)) h3,λm hm=>?_⟩;obtain⟨em,Dd,q1,q2⟩:=hn m (Ch.2 hm);exact⟨em,Dd,qn (jA (Ew _ _)) q1,FZ (jA (Ew _ _)) q2⟩
noncomputable def Ad(P:bL)(G:Nat->Option (List AV))(R:Rec)(ops:Array Oper)(e:Env)(h:ar)(i j:Nat):Bool:=
 ((Region.before ops).getD j 0).testBit i||Af ops i j||mH P G R ops e h i j||(qF ops i j&&(nI P G R ops e h i||nI P G R ops e h j))
def aaL{R R':Rec}(le:pj R R'){ops:Array Oper}{e:Env}{h:ar}{i j:Nat}(hp:Ad P G R ops e h i j=ah):Ad P G R' ops e h i j=ah:=by
 unfold Ad at hp ⊢;simp only[v8,bI] at hp ⊢;rcases hp with(h1|h1)|h1
 ·exact .inl (.inl h1)
 ·exact .inl (.inr (auX le h1))
 ·exact .inr ⟨h1.1,h1.2.imp (Kz le) (Kz le)⟩
def aoO{ops:Array Oper}{e:Env}{h:ar}{i j:Nat}(hp:Ad P G (whole P G aQ) ops e h i j=ah):∃n,Ad P G (jb P G aQ n) ops e h i j=ah:=by
 unfold Ad at hp ⊢;simp only[v8,bI] at hp ⊢;rcases hp with(h1|h1)|⟨h1,h2|h2⟩
 ·exact⟨0,.inl (.inl h1)⟩
 ·obtain⟨n,hn⟩:=auW h1;exact⟨n,.inl (.inr hn)⟩
 ·obtain⟨n,hn⟩:=VX h2;exact⟨n,.inr ⟨h1,.inl hn⟩⟩
 ·obtain⟨n,hn⟩:=VX h2;exact⟨n,.inr ⟨h1,.inr hn⟩⟩
def Xa{ops:Array Oper}{e:Env}{h:ar}(hs:ng P G (whole P G aQ) ops e h=ah):∃n,ng P G (jb P G aQ n) ops e h=ah:=by
 unfold ng at hs ⊢;simp only[bI,eK,gf] at hs ⊢;obtain⟨h1,h2⟩:=hs;have key:∀j,j<ops.size->∃n,∀i,i<j->Ad P G (jb P G aQ n) ops e h i j=ah:=by intro j hj;exact many (p:=λi n=>Ad P G (jb P G aQ n) ops e h i j=ah) (λi n m hl=>aaL (jA hl)) j λi hi=>aoO (h2 j hj i hi)
 obtain⟨n,hn⟩:=many (p:=λj n=>∀i,i<j->Ad P G (jb P G aQ n) ops e h i j=ah) (λj n m hl hh i hi=>aaL (jA hl) (hh i hi)) ops.size key;exact⟨n,h1,hn⟩
def aoK{ops:Array Oper}{e:Env}{h:ar}{i:Nat}(hs:tS P G (whole P G aQ) ops e h i=ah):∃n,tS P G (jb P G aQ n) ops e h i=ah:=by
 unfold tS at hs ⊢;split at hs
 ·rename_i h1 h2;obtain⟨n,h1,h2⟩:=two (λ_ _ _ hl hh=>qn (jA hl) hh) (λ_ _ _ hl hh=>qn (jA hl) hh) (BK h1) (BK h2);refine⟨n,?_⟩;rw[h1,h2];exact hs
 ·cases hs
def stores_fin{ops:Array Oper}{e:Env}{h:ar}(D:uU P G (whole P G aQ) ops e h=ah):∃n,uU P G (jb P G aQ n) ops e h=ah:=by obtain⟨i,h1,h2,h3,h4⟩:=stores_cases D;obtain⟨n,hn⟩:=Xa h4;obtain⟨m,hm⟩:=aoK h3;exact⟨max n m,stores_of h1 h2 (aaK (jA (Ew n m)) hm) (Pm (jA (Hd n m)) hn)⟩
def ah9{c:Code}{e:Env}{h:ar}{r:Xt × Env × ar}(hc:fW P G (whole P G aQ) c e h=aa r):∃n,fW P G (jb P G aQ n) c e h=aa r:=by
 cases c with
 |region id ops draw=>
  cases draw with
  |false=>simp only[fW,kj,if_false] at hc ⊢;exact BK hc|true=>
   simp only[fW,if_true] at hc ⊢;split at hc
   ·rename_i hf;split at hc
    ·rename_i h1;obtain⟨n,hn⟩:∃n,(ng P G (jb P G aQ n) ops e h||uU P G (jb P G aQ n) ops e h)=ah:=by
      rcases (v8 _ _).mp hf with q|q
      ·obtain⟨n,hn⟩:=Xa q;exact⟨n,by rw[hn];rfl⟩
      ·obtain⟨n,hn⟩:=stores_fin q;exact⟨n,by rw[hn,Ua]⟩
     obtain⟨m,hm⟩:=BK h1;refine⟨max n m,?_⟩;rw[aH (any_le (jA (Hd n m)) hn)];simp only[qn (jA (Ew n m)) hm];exact hc
    ·cases hc
   ·cases hc
 |seq a b=>
  simp only[fW] at hc ⊢;cases ha:(whole P G aQ).code a e h with
  |none=>rw[ha] at hc;cases hc
  |some q=>
   rw[ha] at hc;have h1:=mS ha;obtain⟨o,e1,pF⟩:=q;by_cases jq:o=.normal
   ·subst jq;obtain⟨n,h1,h2⟩:=two (λ_ _ _ hl hh=>(jA hl).code _ _ _ _ hh) (λ_ _ _ hl hh=>(jA hl).code _ _ _ _ hh) h1 (mS hc);exact⟨n,by rw[h1];exact h2⟩
   ·obtain⟨n,h1⟩:=h1;refine⟨n,?_⟩;rw[h1];cases o<;>first|exact absurd rfl jq|exact hc
 |scope a=>simp only[fW] at hc ⊢;exact mS hc|cond q a b=>
  simp only[fW] at hc ⊢;split at hc
  ·exact mS hc
  ·exact mS hc
  ·cases hc
 |block id a=>
  simp only[fW] at hc ⊢;cases ha:(whole P G aQ).code a e h with
  |none=>rw[ha] at hc;cases hc
  |some q=>rw[ha] at hc;obtain⟨n,h1⟩:=mS ha;exact⟨n,by rw[h1];exact hc⟩
 |loop a=>
  simp only[fW] at hc ⊢;cases ha:(whole P G aQ).code a e h with
  |none=>rw[ha] at hc;cases hc
  |some q=>
   rw[ha] at hc;have h1:=mS ha;obtain⟨o,e1,pF⟩:=q;by_cases jq:o=.normal
   ·subst jq;obtain⟨n,h1,h2⟩:=two (λ_ _ _ hl hh=>(jA hl).code _ _ _ _ hh) (λ_ _ _ hl hh=>(jA hl).code _ _ _ _ hh) h1 (mS hc);exact⟨n,by rw[h1];exact h2⟩
   ·obtain⟨n,h1⟩:=h1;refine⟨n,?_⟩;rw[h1];cases o<;>first|exact absurd rfl jq|exact hc
 |rangeFunc f ps a b=>
  simp only[fW] at hc ⊢;split at hc
  ·generalize db:(whole P G aQ).call _ _ _=q at hc;cases q with
   |none=>cases hc
   |some q=>obtain⟨n,hn⟩:=mS db;exact⟨n,by rw[hn];exact hc⟩
  ·cases hc
 |_=>exact⟨0,hc⟩
def awd{fn:Func}{e:Env}:∀{ds:List (bq × List AV)} {m:Option (AV × Bool)} {h:ar} {r:fg × ar},iI P G (whole P G aQ) fn e ds m h=aa r->∃n,iI P G (jb P G aQ n) fn e ds m h=aa r:=by
 intro ds
 induction ds with
 |nil=>intro m h r hu;exact⟨0,by cases m<;>exact hu⟩
 |cons d ds ih=>
  intro m h r hu;obtain⟨g,args⟩:=d;simp only[iI] at hu ⊢;cases hd:(whole P G aQ).lH g args m h with
  |none=>rw[hd] at hu;cases hu
  |some q=>
   rw[hd] at hu;have h1:=mS hd;obtain⟨r1,m1,pF⟩:=q;cases r1 with
   |panic x=>simp at hu|ret x=>
    have fin:∀m2,iI P G (whole P G aQ) fn e ds m2 pF=aa r->∃n,(jb P G aQ n).lH g args m h=aa (.ret x,m1,pF)/\iI P G (jb P G aQ n) fn e ds m2 pF=aa r:=λm2 hu=>
     two (λ_ _ _ hl hh=>(jA hl).lH _ _ _ _ _ hh) (λ_ _ _ hl hh=>TR (jA hl) hh) h1 (ih hu)
    rcases m1 with _|⟨y,b⟩
    ·obtain⟨n,h1,h2⟩:=fin _ hu;exact⟨n,by rw[h1];exact h2⟩
    ·cases b with
     |true=>obtain⟨n,h1,h2⟩:=fin _ hu;exact⟨n,by rw[h1];exact h2⟩
     |false=>obtain⟨n,h1,h2⟩:=fin _ hu;exact⟨n,by rw[h1];exact h2⟩
def VH{g:bq}{args:List AV}{m:Option (AV × Bool)}{h:ar}{r:fg × Option (AV × Bool) × ar}(hb:tj P G (whole P G aQ) g args m h=aa r):∃n,tj P G (jb P G aQ n) g args m h=aa r:=by
 unfold tj at hb ⊢;split at hb
 ·cases hb
 ·rename_i fn iG;simp only[iG];split at hb
  ·cases hb
  ·rename_i body nO
   (try simp only[nO])
   generalize CV:(whole P G aQ).code body _ h=q at hb;cases q with
   |none=>cases hb
   |some q=>
    have h1:=mS CV;obtain⟨o,e1,pF⟩:=q;cases o with
    |exit id=>cases hb
    |_=>simp only[dN] at hb;obtain⟨q,hq,he⟩:=hb;obtain⟨n,h1,h2⟩:=two (λ_ _ _ hl hh=>(jA hl).code _ _ _ _ hh) (λ_ _ _ hl hh=>TR (jA hl) hh) h1 (awd hq);exact⟨n,by rw[h1];simp only[h2,ft,he]⟩
def akd{g:bq}{args:List AV}{h:ar}{r:fg × ar}(hb:sf P G (whole P G aQ) aQ g args h=aa r):∃n,sf P G (jb P G aQ n) aQ g args h=aa r:=by
 unfold sf at hb ⊢;split at hb
 ·exact⟨0,hb⟩
 ·simp only[dN] at hb ⊢;obtain⟨q,hq,he⟩:=hb;obtain⟨n,hn⟩:=VH hq;exact⟨n,q,hn,he⟩
def asc{l:Nat}{args:List AV}{h:ar}{r:fg × ar}(hb:xl (whole P G aQ) l args h=aa r):∃n,xl (jb P G aQ n) l args h=aa r:=by
 unfold xl at hb ⊢;split at hb
 ·cases hb
 ·rename_i rc hrc
  (try simp only[hrc])
  split at hb
  ·rename_i dP;simp only[dP,if_true];split at hb
   ·rename_i e1 h1 ha;split at hb
    ·rename_i r2 jO;split at hb
     ·rename_i bT;generalize CV:(whole P G aQ).code _ e1 _=q at hb;cases q with
      |none=>cases hb
      |some q=>obtain⟨n,g1,g2⟩:=two (λ_ _ _ hl hh=>(jA hl).code _ _ _ _ hh) (λ_ _ _ hl hh=>(jA hl).code _ _ _ _ hh) (mS ha) (mS CV);exact⟨n,by rw[g1];simp only[jO,bT,if_true];rw[g2];exact hb⟩
     ·cases hb
    ·cases hb
   ·cases hb
  ·cases hb
def Mc{α:Type}{a b:Option α}(h1:∀r,a=aa r->b=aa r)(h2:∀r,b=aa r->a=aa r):a=b:=by
 cases ha:a with
 |some r=>exact(h1 r ha).symm|none=>
  cases hb:b with|none=>rfl|some r=>rw[h2 r hb] at ha;cases ha
def sX(c:Code)(e:Env)(h:ar):(whole P G aQ).code c e h=fW P G (whole P G aQ) c e h:=
 Mc (λr hr=>by
  obtain⟨n,hn⟩:=mS hr;have:=(Jb (P:=P) (G:=G) (aQ:=aQ) n).code c e h r hn;exact Wj (BV n) this)
  (λr hr=>by obtain⟨n,hn⟩:=ah9 hr;exact(BV (n+1)).code c e h r hn)
def JT(g:bq)(a:List AV)(h:ar):(whole P G aQ).call g a h=sf P G (whole P G aQ) aQ g a h:=
 Mc (λr hr=>by
  obtain⟨n,hn⟩:=mS hr;have:=(Jb (P:=P) (G:=G) (aQ:=aQ) n).call g a h r hn;exact Xr (BV n) this)
  (λr hr=>by obtain⟨n,hn⟩:=akd hr;exact(BV (n+1)).call g a h r hn)
def awC(g:bq)(a:List AV)(m:Option (AV × Bool))(h:ar):(whole P G aQ).lH g a m h=tj P G (whole P G aQ) g a m h:=
 Mc (λr hr=>by
  obtain⟨n,hn⟩:=mS hr;have:=(Jb (P:=P) (G:=G) (aQ:=aQ) n).lH g a m h r hn;exact OT (BV n) this)
  (λr hr=>by obtain⟨n,hn⟩:=VH hr;exact(BV (n+1)).lH g a m h r hn)
def awD(l:Nat)(a:List AV)(h:ar):(whole P G aQ).round l a h=xl (whole P G aQ) l a h:=
 Mc (λr hr=>by
  obtain⟨n,hn⟩:=mS hr;have:=(Jb (P:=P) (G:=G) (aQ:=aQ) n).round l a h r hn;exact abw (BV n) this)
  (λr hr=>by obtain⟨n,hn⟩:=asc hr;exact(BV (n+1)).round l a h r hn)
end
end Go.AE
end
section
namespace Go.AE
def Env.st(e:Env)(d:Nat)(x:AV):Env:={e with tmps:=e.tmps.set d x}
def ap0(e:Env)(d:Nat)(x):e.put (aa d) x=e.st d x:=rfl
def apY(e:Env)(x):e.put av x=e:=rfl
def M6(e:Env)(d t)(x):(e.st d x).get t=if d=t then x else e.get t:=FV e.tmps d t x
def auS(e:Env)(d)(x):(e.st d x).defers=e.defers:=rfl
def auT(e:Env)(d)(x):(e.st d x).dg=e.dg:=rfl
def acv(e:Env)(d)(x):(e.st d x).round=e.round:=rfl
def Env.start(args:List AV)(p:Option (AV × Bool)):Env:={tmps:={ch:=[],base:=args},defers:=[],dg:=p,round:=av}
def au1(args)(p)(t):(Env.start args p).get t=args.getD t (.tuple []):=rfl
def au0(args)(p):(Env.start args p).defers=[]:=rfl
def au2(args)(p):(Env.start args p).dg=p:=rfl
def Tu(args)(p):(Env.start args p).round=av:=rfl
def A7(e:Env)(t:Nat):e.eval (.tmp t)=e.get t:=rfl
def eval_const(e:Env)(v):e.eval (.const v)=tP v:=rfl
def eval_func(e:Env)(f):e.eval (.func f)=.func (.func f) [] []:=rfl
def eval_global(e:Env)(g):e.eval (.global g)=.ptr (.fb g) 0:=rfl
def aom(k)(n):tP (.int k n)=.v (.int k n):=rfl
def aol(b):tP (.bool b)=.v (.bool b):=rfl
def aor(s):tP (.string s)=.v (.string s):=rfl
def aoo:tP .nilIface=.v .nilIface:=rfl
def aon:tP .nilFunc=.v .nilFunc:=rfl
def aop:tP (.pointer av)=.v (.pointer av):=rfl
def aoq:tP (.slice av 0 0)=.list .nil 0 []:=rfl
def aok(cs):tP (.agg ⟨cs⟩)=.agg (cs.map wX):=rfl
section
variable (P:bL) (G:Nat->Option (List AV)) (R:Rec)
def rL(ops:Array Oper):List Oper->Env->ar->Option (Xt × Env × ar)
 | [],e,h=>aa (.normal,e,h)
 |o::rest,e,h=>
  match fL ops e o with
  |none=>av
  |some aB=>rL ops rest (e.put o.dst (.tuple [])) h
  |some ah=>
   match eI P G R e h o with
   |some (.ret x,e,h)=>rL ops rest (e.put o.dst x) h
   |some (.panic x,e,h)=>aa (.panic x,e,h)
   |none=>av
def R5(ops:Array Oper):∀(n i:Nat),i+n=ops.size->∀(e:Env) (h:ar),dx P G R ops (ad8 i n) e h=rL P G R ops (ops.toList.drop i) e h:=by
 intro n
 induction n with
 |zero=>intro i hi e h;rw[List.drop_eq_nil_of_le (by simp;omega)];rfl
 |succ n ih=>
  intro i hi e h;have aC:i<ops.size:=by omega
  have ho:ops[i]?=aa ops[i]:=mV aC;rw[ad9,y6 (by simpa using aC)];simp only[dx,rL,ho,adi];cases fL ops e ops[i] with
  |none=>rfl|some b=>
   cases b with
   |false=>exact ih (i+1) ai _ _|true=>
    simp only;cases eI P G R e h ops[i] with
    |none=>rfl|some q=>
     obtain⟨r,e1,h1⟩:=q;cases r with|ret x=>exact ih (i+1) ai _ _|panic x=>rfl
def AN(r:Option (Xt × Env × ar))(Q:Xt->Env->ar->Prop):Prop:=∃o e h,r=aa (o,e,h)/\Q o e h
def bM(c:Code)(e:Env)(h:ar)(Q:Xt->Env->ar->Prop):Prop:=AN (R.code c e h) Q
def da(ops:Array Oper)(l:List Oper)(e:Env)(h:ar)(Q:Xt->Env->ar->Prop):Prop:=AN (rL P G R ops l e h) Q
end
def wZ{o}{e}{h}{Q}:AN (aa (o,e,h)) Q=Q o e h:=
 propext ⟨λ⟨_,_,_,h1,h2⟩=>by simp only[eg,dF] at h1;obtain⟨rfl,rfl,rfl⟩:=h1;exact h2,λhq=>⟨o,e,h,rfl,hq⟩⟩
def tR{Q}:AN av Q=False:=propext ⟨λ⟨_,_,_,h1,_⟩=>(by cases h1),False.elim⟩
def AN.mono{r}{Q Q'}(h:∀o e h,Q o e h->Q' o e h)(hr:AN r Q):AN r Q':=by obtain⟨o,e,h1,h2,h3⟩:=hr;exact⟨o,e,h1,h2,h _ _ _ h3⟩
def guardOf(ops:Array Oper)(j:Nat):Option Tmp:=(ops[j]?).bind (·.dst)
def akG{o}{l}:guardOf ⟨o::l⟩ 0=o.dst:=rfl
def akF{o}{l}{n}:guardOf ⟨o::l⟩ (n+1)=guardOf ⟨l⟩ n:=by simp[guardOf]
def xz(R:Rec)(a b:Code)(e:Env)(h:ar)(Q:Xt->Env->ar->Prop)(x:AV):Prop:=
 match x with
 | .v (.bool t)=>if t=ah then bM R a e h Q else bM R b e h Q
 |_=>False
def oH(P:bL)(G:Nat->Option (List AV))(R:Rec)(ops:Array Oper)(o:Oper)(rest:List Oper)(e:Env)(h:ar)(Q:Xt->Env->ar->Prop)(want:Bool)(x:AV):Prop:=
 match x with
 | .v (.bool b)=>if b=want then da P G R ops (o::rest) e h Q else da P G R ops rest (e.put o.dst (.tuple [])) h Q
 | .tuple []=>da P G R ops rest (e.put o.dst (.tuple [])) h Q
 |_=>False
def Ov(P:bL)(G:Nat->Option (List AV))(R:Rec)(ops:Array Oper)(o:Oper)(rest:List Oper)(e:Env)(h:ar)(Q:Xt->Env->ar->Prop)(want:Bool)(d:Option Tmp):Prop:=
 match d with
 |some g=>oH P G R ops o rest e h Q want (e.get g)
 |none=>da P G R ops rest (e.put o.dst (.tuple [])) h Q
section
variable {P:bL} {G:Nat->Option (List AV)} {R:Rec} {a b:Code} {e:Env} {h:ar} {Q:Xt->Env->ar->Prop} {ops:Array Oper} {o:Oper} {rest:List Oper} {p:Prop} [Decidable p] {t:Bool}
def ag1:xz R a b e h Q (.v (.bool ah))=bM R a e h Q:=rfl
def agY:xz R a b e h Q (.v (.bool aB))=bM R b e h Q:=rfl
def agX(h1:p->bM R a e h Q)(h2:¬p->bM R b e h Q):xz R a b e h Q (.v (.bool (decide p))):=by
 unfold xz;simp only[decide_eq_true_eq];split
 ·rename_i hp;exact h1 hp
 ·rename_i hp;exact h2 hp
def ag0(h1:p->bM R b e h Q)(h2:¬p->bM R a e h Q):xz R a b e h Q (.v (.bool (!decide p))):=by
 unfold xz;by_cases hp:p
 ·simp only[hp,decide_true,JV,kj,if_false];exact h1 hp
 ·simp only[hp,decide_false,Au,if_true];exact h2 hp
def agW(h1:t=ah->bM R a e h Q)(h2:t=aB->bM R b e h Q):xz R a b e h Q (.v (.bool t)):=by
 cases t
 ·exact h2 rfl
 ·exact h1 rfl
def akO:oH P G R ops o rest e h Q ah (.v (.bool ah))=da P G R ops (o::rest) e h Q:=rfl
def akN:oH P G R ops o rest e h Q ah (.v (.bool aB))=da P G R ops rest (e.put o.dst (.tuple [])) h Q:=rfl
def akK:oH P G R ops o rest e h Q aB (.v (.bool ah))=da P G R ops rest (e.put o.dst (.tuple [])) h Q:=rfl
def akJ:oH P G R ops o rest e h Q aB (.v (.bool aB))=da P G R ops (o::rest) e h Q:=rfl
def akP{w:Bool}:oH P G R ops o rest e h Q w (.tuple [])=da P G R ops rest (e.put o.dst (.tuple [])) h Q:=rfl
def akI{w:Bool}(h1:p->oH P G R ops o rest e h Q w (.v (.bool ah)))(h2:¬p->oH P G R ops o rest e h Q w (.v (.bool aB))):oH P G R ops o rest e h Q w (.v (.bool (decide p))):=by
 by_cases hp:p
 ·simp only[hp,decide_true];exact h1 hp
 ·simp only[hp,decide_false];exact h2 hp
def akM{w:Bool}(h1:p->oH P G R ops o rest e h Q w (.v (.bool aB)))(h2:¬p->oH P G R ops o rest e h Q w (.v (.bool ah))):oH P G R ops o rest e h Q w (.v (.bool (!decide p))):=by
 by_cases hp:p
 ·simp only[hp,decide_true];exact h1 hp
 ·simp only[hp,decide_false];exact h2 hp
def akH{w:Bool}(h1:t=ah->oH P G R ops o rest e h Q w (.v (.bool ah)))(h2:t=aB->oH P G R ops o rest e h Q w (.v (.bool aB))):oH P G R ops o rest e h Q w (.v (.bool t)):=by
 cases t
 ·exact h2 rfl
 ·exact h1 rfl
def akL{w:Bool}(h1:t=ah->oH P G R ops o rest e h Q w (.v (.bool aB)))(h2:t=aB->oH P G R ops o rest e h Q w (.v (.bool ah))):oH P G R ops o rest e h Q w (.v (.bool (!t))):=by
 cases t
 ·exact h2 rfl
 ·exact h1 rfl
def agZ(h1:t=ah->bM R b e h Q)(h2:t=aB->bM R a e h Q):xz R a b e h Q (.v (.bool (!t))):=by
 cases t
 ·exact h2 rfl
 ·exact h1 rfl
def auw{w:Bool}{g:Tmp}:Ov P G R ops o rest e h Q w (aa g)=oH P G R ops o rest e h Q w (e.get g):=rfl
end
def JE(R:Rec)(c:Code)(Q:Xt->Env->ar->Prop):Xt->Env->ar->Prop
 | .normal,e,h=>bM R c e h Q
 |o,e,h=>Q o e h
def Hv(id:Nat)(Q:Xt->Env->ar->Prop):Xt->Env->ar->Prop
 | .exit i,e,h=>if i=id then Q .normal e h else Q (.exit i) e h
 |o,e,h=>Q o e h
def zr(Q:Xt->Env->ar->Prop):Xt->Env->ar->Prop
 | .normal,e,h=>Q .normal e h
 |_,_,_=>False
section
variable {R:Rec} {c:Code} {Q:Xt->Env->ar->Prop} {e:Env} {h:ar}
def at2:JE R c Q .normal e h=bM R c e h Q:=rfl
def at4:JE R c Q .ret e h=Q .ret e h:=rfl
def at1{i:Nat}:JE R c Q (.exit i) e h=Q (.exit i) e h:=rfl
def at3{x:AV}:JE R c Q (.panic x) e h=Q (.panic x) e h:=rfl
def agO{id:Nat}:Hv id Q .normal e h=Q .normal e h:=rfl
def agQ{id:Nat}:Hv id Q .ret e h=Q .ret e h:=rfl
def VE{id i:Nat}:Hv id Q (.exit i) e h=if i=id then Q .normal e h else Q (.exit i) e h:=rfl
def agP{id:Nat}{x:AV}:Hv id Q (.panic x) e h=Q (.panic x) e h:=rfl
def ahj:zr Q .normal e h=Q .normal e h:=rfl
def ahk{x:AV}:zr Q (.panic x) e h=False:=rfl
end
section
variable {P:bL} {G:Nat->Option (List AV)} {aQ:bq->Option (List AV->ar->Option (AV × ar))} {Q:Xt->Env->ar->Prop} {e:Env} {h:ar}
def atD:bM (whole P G aQ) .skip e h Q=Q .normal e h:=by rw[bM,sX];exact wZ
def atw{l:Nat}:bM (whole P G aQ) (.label l) e h Q=Q .normal e h:=by rw[bM,sX];exact wZ
def atC{a:Code}:bM (whole P G aQ) (.scope a) e h Q=bM (whole P G aQ) a e h Q:=by unfold bM;rw[sX];simp only[fW]
def atv{id:Nat}:bM (whole P G aQ) (.exit id) e h Q=Q (.exit id) e h:=by rw[bM,sX];exact wZ
def atB:bM (whole P G aQ) .ret e h Q=Q .ret e h:=by rw[bM,sX];exact wZ
def run_seq{a b:Code}:bM (whole P G aQ) (.seq a b) e h Q=bM (whole P G aQ) a e h (JE (whole P G aQ) b Q):=by
 unfold bM;rw[sX];simp only[fW];cases ha:(whole P G aQ).code a e h with|none=>simp only[tR]|some q=>obtain⟨o,e1,h1⟩:=q;cases o<;>simp only[wZ]<;>rfl
def att{c:bU}{a b:Code}:bM (whole P G aQ) (.cond c a b) e h Q=xz (whole P G aQ) a b e h Q (e.eval c):=by
 unfold bM xz;rw[sX];simp only[fW];generalize e.eval c=x;rcases x with _|v|_|_|_|_|_|_|_|_|_
 case v=>
  cases v with
  |bool t=>cases t<;>rfl
  |_=>simp only[tR]
 all_goals (simp only[tR])
def ats{id:Nat}{a:Code}:bM (whole P G aQ) (.block id a) e h Q=bM (whole P G aQ) a e h (Hv id Q):=by
 unfold bM;rw[sX];simp only[fW];cases ha:(whole P G aQ).code a e h with
 |none=>simp only[tR]|some q=>
  obtain⟨o,e1,h1⟩:=q;cases o with
  |exit i=>simp only[wZ,VE];split<;>simp only[wZ]
  |_=>simp only[wZ]<;>rfl
def atA{id:Nat}{ops:Array Oper}:bM (whole P G aQ) (.region id ops aB) e h Q=da P G (whole P G aQ) ops ops.toList e h Q:=by unfold bM da;rw[sX];simp only[fW,kj,if_false];have:=R5 P G (whole P G aQ) ops ops.size 0 ai e h;rw[jm] at this;rw[<-this,N7]
def ajU{R:Rec}{ops:Array Oper}(hd:Pe ops=ah)(e:Env)(h:ar):ng P G R ops e h=ah:=by unfold Pe at hd;unfold ng;simp only[bI,eK,gf,v8] at hd ⊢;exact⟨hd.1,λj hj i hi=>.inl (.inl (hd.2 j hj i hi))⟩
def Tf{id:Nat}{ops:Array Oper}(hd:ng P G (whole P G aQ) ops e h=ah)(hr:da P G (whole P G aQ) ops ops.toList e h (zr Q)):bM (whole P G aQ) (.region id ops ah) e h Q:=by
 unfold bM da at *
 rw[sX];simp only[fW,if_true,hd,adu];have:=R5 P G (whole P G aQ) ops ops.size 0 ai e h;rw[jm] at this;rw[<-this,<-N7] at hr;obtain⟨o,e1,h1,h2,h3⟩:=hr;rw[h2];cases o with|normal=>exact⟨_,_,_,rfl,h3⟩|_=>exact h3.elim
def run_draw_stores{id:Nat}{ops:Array Oper}(D:uU P G (whole P G aQ) ops e h=ah)(hr:da P G (whole P G aQ) ops ops.toList e h (zr Q)):bM (whole P G aQ) (.region id ops ah) e h Q:=by
 unfold bM da at *
 rw[sX];have:=R5 P G (whole P G aQ) ops ops.size 0 ai e h;rw[jm] at this;rw[<-this,<-N7] at hr;obtain⟨o,e1,h1,h2,h3⟩:=hr;simp only[fW,if_true,D,Ua,h2];cases o with|normal=>exact⟨_,_,_,rfl,h3⟩|_=>exact h3.elim
def vS{id:Nat}{ops:Array Oper}(hd:Pe ops=ah)(hr:da P G (whole P G aQ) ops ops.toList e h (zr Q)):bM (whole P G aQ) (.region id ops ah) e h Q:=
 Tf (ajU hd e h) hr
def DF(I:Nat->Env->ar->Prop)(n:Nat)(Q:Xt->Env->ar->Prop):Xt->Env->ar->Prop
 | .normal,e,h=>∃m,m<n/\I m e h
 |o,e,h=>Q o e h
def anu{I:Nat->Env->ar->Prop}{n:Nat}:DF I n Q .normal e h=∃m,m<n/\I m e h:=rfl
def anw{I:Nat->Env->ar->Prop}{n:Nat}:DF I n Q .ret e h=Q .ret e h:=rfl
def ant{I:Nat->Env->ar->Prop}{n i:Nat}:DF I n Q (.exit i) e h=Q (.exit i) e h:=rfl
def anv{I:Nat->Env->ar->Prop}{n:Nat}{x:AV}:DF I n Q (.panic x) e h=Q (.panic x) e h:=rfl
def cH{c:Code}(I:Nat->Env->ar->Prop)(jQ:∀n e h,I n e h->bM (whole P G aQ) c e h (DF I n Q)):
 ∀n e h,I n e h->bM (whole P G aQ) (.loop c) e h Q:=by
 intro n
 induction n using UG with
 |_ n ih=>
  intro e h hi;obtain⟨o,e1,h1,h2,h3⟩:=jQ n e h hi;unfold bM;rw[sX];simp only[fW,h2];cases o with
  |normal=>obtain⟨m,hm,C7⟩:=h3;exact ih m hm e1 h1 C7
  |_=>exact⟨_,_,_,rfl,h3⟩
def bM.mono{R:Rec}{c:Code}{Q1:Xt->Env->ar->Prop}{h1:ar}(hq:∀o e h,Q o e h->Q1 o e h)(hr:bM R c e h1 Q):bM R c e h1 Q1:=AN.mono hq hr
def zt(P:bL)(G:Nat->Option (List AV))(R:Rec)(fn:Func)(r:fg)(h':ar):Xt->Env->ar->Prop
 | .normal,e,h=>iI P G R fn e e.defers av h=aa (r,h')
 | .ret,e,h=>iI P G R fn e e.defers av h=aa (r,h')
 | .panic x,e,h=>iI P G R fn e e.defers (aa (x,aB)) h=aa (r,h')
 | .exit _,_,_=>False
def cN{g:bq}{fn:Func}{body:Code}{args:List AV}{r:fg}{h':ar}(hp:aQ g=av)(iG:P.funcs[g]?=aa fn)(hb:fn.body=aa body)
 (hr:bM (whole P G aQ) body (Env.start args av) h (zt P G (whole P G aQ) fn r h')):(whole P G aQ).call g args h=aa (r,h'):=by
 rw[JT];unfold sf;rw[hp];unfold tj;rw[iG];simp only[hb];obtain⟨o,e1,h1,h2,h3⟩:=hr;have h2:(whole P G aQ).code body {tmps:={ch:=[],base:=args},defers:=[],dg:=av,round:=av} h=aa (o,e1,h1):=h2;rw[h2];cases o with|exit i=>exact h3.elim|_=>simp only[zt] at h3;simp only[h3,ft]
def aiW{g:bq}{fn:Func}{body:Code}{args:List AV}{m m':Option (AV × Bool)}{r:fg}{h':ar}(iG:P.funcs[g]?=aa fn)(hb:fn.body=aa body)
 (hr:bM (whole P G aQ) body (Env.start args m) h λo e h1=>zt P G (whole P G aQ) fn r h' o e h1/\e.dg=m'):(whole P G aQ).lH g args m h=aa (r,m',h'):=by
 rw[awC];unfold tj;rw[iG];simp only[hb];obtain⟨o,e1,h1,h2,h3,h4⟩:=hr;have h2:(whole P G aQ).code body {tmps:={ch:=[],base:=args},defers:=[],dg:=m,round:=av} h=aa (o,e1,h1):=h2;rw[h2];cases o with|exit i=>exact h3.elim|_=>simp only[zt] at h3;simp only[h3,ft,h4]
def ajq{R:Rec}{fn:Func}{r:fg}{h':ar}:zt P G R fn r h' .normal e h=(iI P G R fn e e.defers av h=aa (r,h')):=rfl
def ajs{R:Rec}{fn:Func}{r:fg}{h':ar}:zt P G R fn r h' .ret e h=(iI P G R fn e e.defers av h=aa (r,h')):=rfl
def ajr{R:Rec}{fn:Func}{r:fg}{h':ar}{x:AV}:zt P G R fn r h' (.panic x) e h=(iI P G R fn e e.defers (aa (x,aB)) h=aa (r,h')):=rfl
def awe{R:Rec}{fn:Func}:iI P G R fn e [] av h=(Je P G fn e h).map λx=>(.ret x,h):=rfl
def awf{R:Rec}{fn:Func}{x:AV}{b:Bool}:iI P G R fn e [] (aa (x,b)) h=aa (.panic x,h):=rfl
section
variable {R:Rec} {ops:Array Oper} {rest:List Oper} {d:Option Tmp} {ty:aP} {pos:String} {af:Array Edge}
def ato:da P G R ops [] e h Q=Q .normal e h:=wZ
def atn{op:Op}{j:Nat}{want:Bool}:da P G R ops (⟨d,op,ty,pos,af,aa (j,want)⟩::rest) e h Q=
 Ov P G R ops ⟨d,op,ty,pos,af,av⟩ rest e h Q want (guardOf ops j):=by
 unfold da guardOf Ov oH da;simp only[rL,fL];cases (ops[j]?).bind (·.dst) with
 |none=>rfl|some g=>
  simp only;generalize e.get g=x;rcases x with _|v|_|_|_|cs|_|_|_|_|_
  case v=>
   cases v with
   |bool b=>
    simp only;by_cases hb:b=want
    ·subst hb;simp only[beq_self_eq_true,if_true];rfl
    ·have:(b==want)=aB:=(by simpa using hb);simp only[this,aJ hb]
   |_=>simp only[tR]
  case tuple=>cases cs<;>simp only[tR]
  all_goals (simp only[tR])
def after(P:bL)(G:Nat->Option (List AV))(R:Rec)(ops:Array Oper)(rest:List Oper)(d:Option Tmp)(e:Env)(Q:Xt->Env->ar->Prop):Option (AV × ar)->Prop
 |some (x,h)=>da P G R ops rest (e.put d x) h Q
 |none=>False
def afj{x:AV}:after P G R ops rest d e Q (aa (x,h))=da P G R ops rest (e.put d x) h Q:=rfl
def opsOf(o:Op):Bool:=
 match o with
 | .call _| .defer _| .panic _=>aB
 |_=>ah
def nx{op:Op}(ho:opsOf op=ah):da P G R ops (⟨d,op,ty,pos,af,av⟩::rest) e h Q=after P G R ops rest d e Q (eo P G e.eval h op):=by
 unfold da;simp only[rL,fL];have bV:eI P G R e h ⟨d,op,ty,pos,af,av⟩=(eo P G e.eval h op).map λ(x,h)=>(.ret x,e,h):=by cases op<;>first|rfl|(simp[opsOf] at ho)
 rw[bV];cases eo P G e.eval h op with|none=>simp only[Oq,tR];rfl|some q=>obtain⟨x,h1⟩:=q;rfl
def Oy(P:bL)(G:Nat->Option (List AV))(R:Rec)(ops:Array Oper)(rest:List Oper)(d:Option Tmp)(e:Env)(Q:Xt->Env->ar->Prop):Option (fg × ar)->Prop
 |some (.ret x,h)=>da P G R ops rest (e.put d x) h Q
 |some (.panic x,h)=>Q (.panic x) e h
 |none=>False
def afi{x:AV}:Oy P G R ops rest d e Q (aa (.ret x,h))=da P G R ops rest (e.put d x) h Q:=rfl
def afh{x:AV}:Oy P G R ops rest d e Q (aa (.panic x,h))=Q (.panic x) e h:=rfl
def atr{f:bU}{args:Array bU}{ts:Array aP}:da P G R ops (⟨d,.call {callee:=.value f,args,argTypes:=ts},ty,pos,af,av⟩::rest) e h Q=
 Oy P G R ops rest d e Q (mK P R e h {callee:=.value f,args,argTypes:=ts}):=by
 unfold da;simp only[rL,fL,eI];cases mK P R e h {callee:=.value f,args,argTypes:=ts} with|none=>simp only[Oq,tR];rfl|some q=>obtain⟨r,h1⟩:=q;cases r<;>simp only[ft,wZ]<;>rfl
def VP{g:bq}{args:Array bU}{ts:Array aP}:mK P R e h {callee:=.value (.func g),args,argTypes:=ts}=R.call g (args.toList.map e.eval) h:=by simp[mK,eval_func]
def VQ{t:Nat}{args:Array bU}{ts:Array aP}:mK P R e h {callee:=.value (.tmp t),args,argTypes:=ts}=
 (match e.get t with
  | .func (.func g) first aF=>R.call g (first++args.toList.map e.eval++aF) h
  | .yield l=>R.round l (args.toList.map e.eval) h
  |_=>av):=rfl
def aa0:Builtin->Bool
 | .recover| .panic| .append=>aB
 |_=>ah
def JA{b:Builtin}{args:Array bU}{ts:Array aP}(hb:aa0 b=ah):da P G R ops (⟨d,.call {callee:=.builtin b,args,argTypes:=ts},ty,pos,af,av⟩::rest) e h Q=
 after P G R ops rest d e Q (jT P h b ts ty (args.toList.map e.eval)):=by
 unfold da;simp only[rL,fL];have bV:eI P G R e h ⟨d,.call {callee:=.builtin b,args,argTypes:=ts},ty,pos,af,av⟩=(jT P h b ts ty (args.toList.map e.eval)).map λ(x,h)=>(.ret x,e,h):=by cases b<;>first|rfl|(simp[aa0] at hb)
 rw[bV];cases jT P h b ts ty (args.toList.map e.eval) with|none=>simp only[Oq,tR];rfl|some q=>obtain⟨x,h1⟩:=q;rfl
def arD(x:bU):da P G R ops (⟨d,.move x,ty,pos,af,av⟩::rest) e h Q=after P G R ops rest d e Q (eo P G e.eval h (.move x)):=nx rfl
def arf(x:bU):da P G R ops (⟨d,.assign x,ty,pos,af,av⟩::rest) e h Q=after P G R ops rest d e Q (eo P G e.eval h (.assign x)):=nx rfl
def arF(c a b:bU):da P G R ops (⟨d,.pick c a b,ty,pos,af,av⟩::rest) e h Q=after P G R ops rest d e Q (eo P G e.eval h (.pick c a b)):=nx rfl
def arc(t:aP):da P G R ops (⟨d,.alloc t,ty,pos,af,av⟩::rest) e h Q=after P G R ops rest d e Q (eo P G e.eval h (.alloc t)):=nx rfl
def ari(t:aP)(x:bU):da P G R ops (⟨d,.box t x,ty,pos,af,av⟩::rest) e h Q=after P G R ops rest d e Q (eo P G e.eval h (.box t x)):=nx rfl
def arj(t:aP)(ps:Array (Nat × bU)):da P G R ops (⟨d,.build t ps,ty,pos,af,av⟩::rest) e h Q=after P G R ops rest d e Q (eo P G e.eval h (.build t ps)):=nx rfl
def ark(t:aP)(n:Nat)(ps:Array (Nat × bU)):da P G R ops (⟨d,.buildSlice t n ps,ty,pos,af,av⟩::rest) e h Q=after P G R ops rest d e Q (eo P G e.eval h (.buildSlice t n ps)):=nx rfl
def arx(t:aP)(a:bU):da P G R ops (⟨d,.load t a,ty,pos,af,av⟩::rest) e h Q=after P G R ops rest d e Q (eo P G e.eval h (.load t a)):=nx rfl
def arI(t:aP)(a x:bU):da P G R ops (⟨d,.store t a x,ty,pos,af,av⟩::rest) e h Q=after P G R ops rest d e Q (eo P G e.eval h (.store t a x)):=nx rfl
def arE(x:bU):da P G R ops (⟨d,.nilCheck x,ty,pos,af,av⟩::rest) e h Q=after P G R ops rest d e Q (eo P G e.eval h (.nilCheck x)):=nx rfl
def arh(o:BinOp)(t:aP)(x y:bU)(yt:aP):da P G R ops (⟨d,.binOp o t x y yt,ty,pos,af,av⟩::rest) e h Q=after P G R ops rest d e Q (eo P G e.eval h (.binOp o t x y yt)):=nx rfl
def arK(o:UnOp)(t:aP)(x:bU):da P G R ops (⟨d,.unOp o t x,ty,pos,af,av⟩::rest) e h Q=after P G R ops rest d e Q (eo P G e.eval h (.unOp o t x)):=nx rfl
def arn(s t:aP)(x:bU):da P G R ops (⟨d,.convert s t x,ty,pos,af,av⟩::rest) e h Q=after P G R ops rest d e Q (eo P G e.eval h (.convert s t x)):=nx rfl
def arz(t:aP)(x:bU):da P G R ops (⟨d,.makeInterface t x,ty,pos,af,av⟩::rest) e h Q=after P G R ops rest d e Q (eo P G e.eval h (.makeInterface t x)):=nx rfl
def ary(fn:Fn)(first aF:Array bU):da P G R ops (⟨d,.makeFunc fn first aF,ty,pos,af,av⟩::rest) e h Q=after P G R ops rest d e Q (eo P G e.eval h (.makeFunc fn first aF)):=nx rfl
def arA(t:aP)(l c:bU):da P G R ops (⟨d,.makeSlice t l c,ty,pos,af,av⟩::rest) e h Q=after P G R ops rest d e Q (eo P G e.eval h (.makeSlice t l c)):=nx rfl
def arH(t:aP)(x:bU)(lo hi mx:Option bU):da P G R ops (⟨d,.slice t x lo hi mx,ty,pos,af,av⟩::rest) e h Q=after P G R ops rest d e Q (eo P G e.eval h (.slice t x lo hi mx)):=nx rfl
def art(t:aP)(x:bU)(f:Nat):da P G R ops (⟨d,.fieldAddr t x f,ty,pos,af,av⟩::rest) e h Q=after P G R ops rest d e Q (eo P G e.eval h (.fieldAddr t x f)):=nx rfl
def ars(t:aP)(x:bU)(f:Nat):da P G R ops (⟨d,.field t x f,ty,pos,af,av⟩::rest) e h Q=after P G R ops rest d e Q (eo P G e.eval h (.field t x f)):=nx rfl
def arv(t:aP)(x i:bU):da P G R ops (⟨d,.indexAddr t x i,ty,pos,af,av⟩::rest) e h Q=after P G R ops rest d e Q (eo P G e.eval h (.indexAddr t x i)):=nx rfl
def aru(t:aP)(x i:bU):da P G R ops (⟨d,.index t x i,ty,pos,af,av⟩::rest) e h Q=after P G R ops rest d e Q (eo P G e.eval h (.index t x i)):=nx rfl
def arJ(x:bU)(xt t:aP)(ok:Bool):da P G R ops (⟨d,.typeAssert x xt t ok,ty,pos,af,av⟩::rest) e h Q=after P G R ops rest d e Q (eo P G e.eval h (.typeAssert x xt t ok)):=nx rfl
def arq(x:bU)(i:Nat):da P G R ops (⟨d,.extract x i,ty,pos,af,av⟩::rest) e h Q=after P G R ops rest d e Q (eo P G e.eval h (.extract x i)):=nx rfl
def arw(args:Array bU)(ts:Array aP):da P G R ops (⟨d,.call {callee:=.builtin .len,args,argTypes:=ts},ty,pos,af,av⟩::rest) e h Q=after P G R ops rest d e Q (jT P h .len ts ty (args.toList.map e.eval)):=JA rfl
def arl(args:Array bU)(ts:Array aP):da P G R ops (⟨d,.call {callee:=.builtin .cap,args,argTypes:=ts},ty,pos,af,av⟩::rest) e h Q=after P G R ops rest d e Q (jT P h .cap ts ty (args.toList.map e.eval)):=JA rfl
def ard(args:Array bU)(ts:Array aP):da P G R ops (⟨d,.call {callee:=.builtin .append,args,argTypes:=ts},ty,pos,af,av⟩::rest) e h Q=after P G R ops rest d e Q (tv P G d h .append ts ty (args.toList.map e.eval)):=by
 unfold da;simp only[rL,fL];have bV:eI P G R e h ⟨d,.call {callee:=.builtin .append,args,argTypes:=ts},ty,pos,af,av⟩=(tv P G d h .append ts ty (args.toList.map e.eval)).map λ(x,h)=>(.ret x,e,h):=rfl;rw[bV];cases tv P G d h .append ts ty (args.toList.map e.eval) with|none=>simp only[Oq,tR];rfl|some q=>obtain⟨x,h1⟩:=q;rfl
def aro(args:Array bU)(ts:Array aP):da P G R ops (⟨d,.call {callee:=.builtin .copy,args,argTypes:=ts},ty,pos,af,av⟩::rest) e h Q=after P G R ops rest d e Q (jT P h .copy ts ty (args.toList.map e.eval)):=JA rfl
def arC(args:Array bU)(ts:Array aP):da P G R ops (⟨d,.call {callee:=.builtin .min,args,argTypes:=ts},ty,pos,af,av⟩::rest) e h Q=after P G R ops rest d e Q (jT P h .min ts ty (args.toList.map e.eval)):=JA rfl
def arB(args:Array bU)(ts:Array aP):da P G R ops (⟨d,.call {callee:=.builtin .max,args,argTypes:=ts},ty,pos,af,av⟩::rest) e h Q=after P G R ops rest d e Q (jT P h .max ts ty (args.toList.map e.eval)):=JA rfl
def atp{x:bU}:da P G R ops (⟨d,.panic x,ty,pos,af,av⟩::rest) e h Q=(match e.eval x with| .iface t y=>Q (.panic (.iface t y)) e h|_=>False):=by unfold da;simp only[rL,fL,eI];generalize e.eval x=y;cases y<;>first|exact wZ|exact tR
def atq{args:Array bU}{ts:Array aP}(hr:e.round=av):da P G R ops (⟨d,.call {callee:=.builtin .recover,args,argTypes:=ts},ty,pos,af,av⟩::rest) e h Q=
 (match e.dg with
  |some (x,aB)=>da P G R ops rest (({e with dg:=aa (x,ah)}:Env).put d x) h Q
  |_=>da P G R ops rest (e.put d (.v .nilIface)) h Q):=by
 unfold da;simp only[rL,fL,eI,hr,Cl,kj,if_false];rcases hp:e.dg with _|⟨x,b⟩
 ·rfl
 ·cases b<;>rfl
def atm{f:bU}{args:Array bU}{ts:Array aP}(hr:e.round=av):da P G R ops (⟨d,.defer {callee:=.value f,args,argTypes:=ts},ty,pos,af,av⟩::rest) e h Q=
 (match e.eval f with
  | .func (.func g) first aF=>da P G R ops rest (({e with defers:=(g,first++args.toList.map e.eval++aF)::e.defers}:Env).put d (.tuple [])) h Q
  |_=>False):=by
 unfold da;simp only[rL,fL,eI,hr,Cl,kj,if_false];generalize e.eval f=y;rcases y with _|_|_|_|_|_|_|_|⟨fn,a,b⟩|_|_
 case func=>cases fn<;>first|rfl|exact tR
 all_goals exact tR
end
end
end Go.AE
end
section
namespace Go.AE
def bs(l:List UInt8):ByteArray:=⟨l.toArray⟩
def str(l:List UInt8):AV:=.v (.string (bs l))
def int(n:Int):AV:=.v (.int .i64 n)
def bool(b:Bool):AV:=.v (.bool b)
def ag6(l):ByteArray.mk l.toArray=bs l:=rfl
def Ct(l):(bs l).size=l.length:=rfl
def ag2(a b):bs a++bs b=bs (a++b):=by apply ByteArray.ext;rw[ByteArray.data_append];simp[bs]
def OV(l)(i j):(bs l).extract i j=bs ((l.take j).drop i):=by apply ByteArray.ext;rw[ByteArray.data_extract];simp[bs,List.extract_eq_take_drop,List.drop_take]
def yA{α β}{P}(m)(f:α->Sem β):gJ P (m>>=f)=(gJ P m).bind λa=>gJ P (f a):=by
 show gJ P (m.bind f)=_
 induction m with
 |pure a=>rfl|program k ih=>simp only[Sem.bind,gJ];exact ih _|mark m k ih=>simp only[Sem.bind,gJ];exact ih|_=>rfl
section
variable {P:bL} {t:aP} {x y:bU} {k:uZ} {a b:Int}
def tg{op:BinOp}{v:aT}(h:gJ P (binOp op t (.int k a) (.int k b))=aa v):dn P op t x y (.v (.int k a)) (.v (.int k b))=pQ v:=by
 have hg:gJ P (eqGuard op t x y (.int k a) (.int k b))=aa ():=by cases op<;>rfl
 show(gJ P (do eqGuard op t x y (.int k a) (.int k b);binOp op t (.int k a) (.int k b))).bind pQ=_;rw[yA,hg];simp only[qB,h]
def Vy:dn P .add t x y (.v (.int k a)) (.v (.int k b))=aa (.v (.int k (k.wrap (a+b)))):=tg (v:=.int k (k.wrap (a+b))) (by simp[binOp,Op.intArith];rfl)
def agq:dn P .sub t x y (.v (.int k a)) (.v (.int k b))=aa (.v (.int k (k.wrap (a - b)))):=tg (v:=.int k (k.wrap (a - b))) (by simp[binOp,Op.intArith];rfl)
def agh:dn P .mul t x y (.v (.int k a)) (.v (.int k b))=aa (.v (.int k (k.wrap (a * b)))):=tg (v:=.int k (k.wrap (a * b))) (by simp[binOp,Op.intArith];rfl)
def agk(h:b≠0):dn P .quo t x y (.v (.int k a)) (.v (.int k b))=aa (.v (.int k (k.wrap (a.tdiv b)))):=tg (v:=.int k (k.wrap (a.tdiv b))) (by simp[binOp,Op.intDiv,h];rfl)
def agm(h:b≠0):dn P .rem t x y (.v (.int k a)) (.v (.int k b))=aa (.v (.int k (a.tmod b))):=tg (v:=.int k (a.tmod b)) (by simp[binOp,Op.intDiv,h];rfl)
def agb:dn P .eql t x y (.v (.int k a)) (.v (.int k b))=aa (.v (.bool (decide (a=b)))):=tg (v:=.bool (decide (a=b))) (by
 have:(a==b)=decide (a=b):=by rw[GA];simp
 simp[binOp,Op.intCmp,this];rfl)
def agi:dn P .neq t x y (.v (.int k a)) (.v (.int k b))=aa (.v (.bool (!decide (a=b)))):=tg (v:=.bool (!decide (a=b))) (by
 have:(a !=b)= !decide (a=b):=by rw[GA];simp
 simp[binOp,Op.intCmp,this];rfl)
def agf:dn P .lss t x y (.v (.int k a)) (.v (.int k b))=aa (.v (.bool (decide (a<b)))):=tg (v:=.bool (decide (a<b))) (by simp[binOp,Op.intCmp];rfl)
def age:dn P .leq t x y (.v (.int k a)) (.v (.int k b))=aa (.v (.bool (decide (a<=b)))):=tg (v:=.bool (decide (a<=b))) (by simp[binOp,Op.intCmp];rfl)
def agd:dn P .gtr t x y (.v (.int k a)) (.v (.int k b))=aa (.v (.bool (decide (b<a)))):=tg (v:=.bool (decide (b<a))) (by simp[binOp,Op.intCmp];rfl)
def agc:dn P .geq t x y (.v (.int k a)) (.v (.int k b))=aa (.v (.bool (decide (b<=a)))):=tg (v:=.bool (decide (b<=a))) (by simp[binOp,Op.intCmp];rfl)
def ago{p q:List UInt8}:dn P .eql t x y (.v (.string (bs p))) (.v (.string (bs q)))=aa (.v (.bool (decide (p=q)))):=by show aa (AV.v (.bool (p==q)))=_;rw[GA.2 (by simp:(p==q)=ah↔decide (p=q)=ah)]
def agp{p q:List UInt8}:dn P .neq t x y (.v (.string (bs p))) (.v (.string (bs q)))=aa (.v (.bool (!decide (p=q)))):=by show aa (AV.v (.bool (!(p==q))))=_;rw[GA.2 (by simp:(p==q)=ah↔decide (p=q)=ah)]
def agn{p q:List UInt8}(h:p.length+q.length<=9223372036854775807):dn P .add t x y (.v (.string (bs p))) (.v (.string (bs q)))=aa (.v (.string (bs (p++q)))):=by show(if (bs p).size+(bs q).size<=9223372036854775807 then aa (AV.v (.string (bs p++bs q))) else av)=_;rw[Ct,Ct,aH h,ag2]
def av9{c:Bool}:D3 P .not (.v (.bool c))=aa (.v (.bool (!c))):=rfl
def av8:D3 P .neg (.v (.int k a))=aa (.v (.int k (k.wrap (0 - a)))):=rfl
def aab{s:ByteArray}(hu:P.underlying t=aa .string):dQ P t (.v (.string s))=aa (.v (.int .i64 s.size)):=by unfold dQ;rw[hu]
def RF{e:aP}{tk:Tok}{sz:Nat}{es:List (List AV)}(hu:P.underlying t=aa (.slice e)):dQ P t (.list tk sz es)=aa (.v (.int .i64 es.length)):=by unfold dQ;rw[hu]
def RE{e:aP}{b o l c:Nat}(hu:P.underlying t=aa (.slice e)):dQ P t (.arr b o l c)=aa (.v (.int .i64 l)):=by unfold dQ;rw[hu]
def ams{l:List UInt8}(hu:P.underlying t=aa .string)(h0:0<=a)(h1:a<l.length):DA P t (.v (.string (bs l))) (.v (.int k a))=aa (.v (.int .u8 (l.getD a.toNat 0).toNat)):=by
 unfold DA;rw[hu];have aC:a.toNat<l.length:=by omega
 simp only[aH h0,bs,jI,aU aC];simp[aC]
def ao5{c}{u v}:Mg (.v (.bool c)) u v=aa (if c=ah then u else v):=by cases c<;>rfl
def gh(h0: -9223372036854775808<=a)(h1:a<=9223372036854775807):IntKind.i64.wrap a=a:=by rw[IntKind.wrap_i64];omega
def Pn(h0:0<=a)(h1:a<=255):IntKind.u8.wrap a=a:=by rw[IntKind.wrap_u8];omega
end
end Go.AE
end
section
namespace Go.AE
open Go.RowKit (Below)
def a8.init(W:cG):a8:={base:=W.heap.size,ic:=λg j=>W.cell? ⟨g,j,av⟩,β:=[],γ:=[],tn:=0,tk:=λ_=>(0,0,0),md:=[],lb:=λ_=>av}
def ar.init:ar:=⟨[],[],0,[]⟩
def aun{G}{ok}(W)(hG:∀g cs,G g=aa cs->∃cells,aV (a8.init W) cs cells/\∀(j:Nat) (c:aT),cells[j]?=aa c->W.cell? ⟨g,j,av⟩=aa c):
 b9 (a8.init W) G ok W ar.init W:=by
 refine⟨.refl _ _,aL _,λg j c h=>h,hG,rfl,λb b' g h=>?_,λb g cs h=>?_,rfl,λb b' g h=>?_,λl g r h=>?_,rfl,λt ht=>?_,λt t' ht=>?_,λr hr=>?_,rfl⟩
 ·simp[a8.init] at h
 ·simp[a8.init] at h
 ·simp[a8.init] at h
 ·simp[a8.init] at h
 ·simp[alive,ar.init] at ht
 ·simp[alive,ar.init] at ht
 ·simp[a8.init] at hr
def D1(P:bL):Nat->List Field->Nat->Bool
 |off,[],total=>kK off total
 |off,f::fs,total=>kK f.offset off&&D1 P (off+P.cellsOf f.type) fs total
def Mb(P:bL):Nat->aP->Bool
 |0,_=>aB
 |n+1,t=>
  match P.underlying t with
  |some .bool|some (.int _)|some .string=>ah
  |some (.slice e)=>Mb P n e&&decide (0<P.cellsOf e)
  |some (.struct fs)=>D1 P 0 fs.toList (P.cellsOf t)&&fs.toList.all λf=>Mb P n f.type
  |some (.array m e)=>kK (P.cellsOf t) (m * P.cellsOf e)&&Mb P n e
  |_=>aB
inductive Has {H:Type} (P:bL):aP->List AV->DataW H->Prop
 |bool {t:aP} (hu:P.underlying t=aa .bool) (b:Bool):Has P t [.v (.bool b)] (.lit (.bool b))
 |int {t:aP} {k:uZ} (hu:P.underlying t=aa (.int k)) (n:Int) (hn:(Lit.int k n).wf=ah):Has P t [.v (.int k n)] (.lit (.int k n))
 |str {t:aP} (hu:P.underlying t=aa .string) (s:ByteArray) (hs:s.size<=maxLen):Has P t [.v (.string s)] (.lit (.string s.data.toList))
 |none {t e:aP} (hu:P.underlying t=aa (.slice e)):Has P t [.list .nil (P.cellsOf e) []] .nil
 |list {t e:aP} (hu:P.underlying t=aa (.slice e)) (k:Tok) (es:List (List AV)) (ds sp:List (DataW H)) (hk:k=.held∨(k=.tight/\es=[])) (hl:es.length<=maxLen) (hd:ds.length=es.length)
  (he:∀(i:Nat) (r:List AV) (d:DataW H),es[i]?=aa r->ds[i]?=aa d->Has P e r d) (hs:∀r∈es,r.length=P.cellsOf e):Has P t [.list k (P.cellsOf e) es] (.slice ds sp)
 |struct {t:aP} {fs:Array Field} (hu:P.underlying t=aa (.struct fs)) (xs:List AV) (ds:List (DataW H)) (hl:xs.length=P.cellsOf t) (hd:ds.length=fs.size)
  (hf:∀(i:Nat) (f:Field) (d:DataW H),fs[i]?=aa f->ds[i]?=aa d->Has P f.type ((xs.drop f.offset).take (P.cellsOf f.type)) d):Has P t xs (.agg ds)
 |array {t e:aP} {n:Nat} (hu:P.underlying t=aa (.array n e)) (xs:List AV) (ds:List (DataW H)) (hl:xs.length=P.cellsOf t) (hd:ds.length=n)
  (he:∀(i:Nat) (d:DataW H),ds[i]?=aa d->Has P e ((xs.drop (i * P.cellsOf e)).take (P.cellsOf e)) d):Has P t xs (.agg ds)
section
variable {H:Type} {enc:aP × aT->H} {P:bL} {W:cG}
def V6{a:Addr}{n:Nat}{vs:List aT}(h:W.cells? 0 a n=aa vs):vs.length=n/\∀j,j<n->W.cell? (a.add j)=vs[j]?:=by unfold World.cells? at h;rw[aH (cD _)] at h;refine⟨by simpa using mapM_some_length h,λj hj=>mapM_some_get h j j (by simp[hj])⟩
def auF{a:Addr}{v:aT}(h:W.cell? a=aa v):a.spot=av:=by
 unfold World.cell? at h;split at h
 ·cases hs:a.spot with|none=>rfl|some s=>rw[hs] at h;simp at h
 ·cases h
def aj0{α:Type}{sz}:∀{es:List (List α)},(∀r∈es,r.length=sz)->∀(i j:Nat),j<sz->es.flatten[i * sz+j]?=(es[i]?).bind (·[j]?):=by
 intro es
 induction es with
 |nil=>intro _ i j _;simp|cons r es ih=>
  intro hr i j hj;have h1:r.length=sz:=hr r gq;cases i with|zero=>simp[List.getElem?_append_left (by omega:j<r.length)]|succ i=>rw[List.flatten_cons,List.getElem?_append_right (by rw[h1,gZ];omega),h1];have:(i+1) * sz+j - sz=i * sz+j:=(by rw[gZ];omega);rw[this,ih (λr hm=>hr r (fM _ hm)) i j hj];simp
end
end Go.AE
end
section
namespace Go.AE
open Go.RowKit Go.WideShapes Go.ChangeShapes
def mz{H:Type}(P:bL)(t:aP)(x:AV)(d:DataW H):Prop:=
 match P.underlying t with
 |some (.struct _)|some (.array _ _)=>∃cs,x=.agg cs/\Has P t cs d
 |_=>Has P t [x] d
def u6{H:Type}(P:bL):List aP->List AV->List (DataW H)->Prop
 | [],[],[]=>True
 |t::ts,x::xs,d::ds=>mz P t x d/\u6 P ts xs ds
 |_,_,_=>False
section
variable {H:Type} {enc:aP × aT->H} {P:bL} {W:cG}
def afJ(hl:laidOutB P=ah){W':cG}{sp:Nat->Bool}:∀{ts:List aP} {vs:List aT} {ds:List (DataW H)} {p:List MemPlace},DataW.TrodAll enc P W 0 (λ_=>ah) ah ts vs ds p->
 (∀t∈ts,P.readableRec t=true/\t<P.types.size)->(∀x∈p,W.sameAt W' x)->(∀x∈p,sp x.block=true)->DataW.TrodAll enc P W' 0 sp true ts vs ds p:=by
 intro ts
 induction ts with
 |nil=>intro vs ds p h _ _ _;obtain⟨rfl,rfl,rfl⟩:=trodAll_nil h;exact trodAll_mk0
 |cons t ts ih=>
  intro vs ds p h hr hs mb;obtain⟨v,vs',d,ds',p1,q1,rfl,rfl,rfl,h1,h2⟩:=trodAll_cons h;exact trodAll_cons_mk (WideElems.Trod_stays hl (hr t gq).1 (hr t gq).2 h1 (λx hx=>hs x (Uw _ hx)) (λx hx=>mb x (Uw _ hx)))
   (ih h2 (λt ht=>hr t (fM _ ht)) (λx hx=>hs x (ad7 _ hx)) (λx hx=>mb x (ad7 _ hx)))
def apr{f:Func}{s:ChangeSpec}{apart fresh handsOn again:Bool}{W W':cG}{args:Array aT}{v:aT}{ds gs:List (DataW H)}{before pa pv:List MemPlace}
 (hW:DataW.Whole enc P f.params.toList s.vars apart W args.toList ds gs before)
 (iH:∀(b:Nat) (sp:Nat->Bool) (hd:Bool),DataW.TrodAll enc P W' b sp hd f.resultTypes.toList (v.resultList f.resultTypes.size) (s.fn H (ds++gs)).results [])
 (yd:∀sp:Nat->Bool,(∀p∈before,sp p.block=ah)->DataW.TrodAll enc P W' 0 sp ah f.params.toList args.toList (s.fn H (ds++gs)).args pa)
 (IH:∀sp:Nat->Bool,(∀p∈before,sp p.block=ah)->DataW.TrodVars enc P W' sp s.vars (s.fn H (ds++gs)).vars pv)
 (zM:before=pa++pv) (hb:Below W.heap.size W W')
 (bB:∀(j:Nat) (t:aP) (r:aT),f.resultTypes[j]?=aa t->(v.resultList f.resultTypes.size)[j]?=aa r->Value.okWide P W' .any 0 t r):
 s.post enc P f apart fresh handsOn again W args v W':=by
 have aC:∀p∈before,p.block<W.heap.size:=λp hp=>hW.lt p hp;have hold:∀p∈before,(λb=>decide (b<W.heap.size)) p.block=ah:=λp hp=>by simpa using aC p hp
 refine⟨ds,gs,before,[],pa,pv,hW,iH _ _ _,yd _ hold,IH _ hold,World.keptBut_mono (λp hp=>⟨hp,?_⟩) (hb.frame (·∈before)),λ_=>?_⟩
 ·rw[zM,xA] at hp;exact Or.inr hp
 ·obtain⟨_,_,_,_,_,hz,hn⟩:=hW;refine⟨bB,_,_,([]++pa)++pv,⟨[]++pa,pv,trodAll_append (yd _ (λ_ _=>rfl)) (iH _ _ _),IH _ (λ_ _=>rfl),rfl,?_,?_⟩,?_⟩
  ·intro b off hp;have iO:MemPlace.cell b off∈before:=(by rw[zM];simpa using hp);rw[hb.frozen (aC _ iO)];exact hz b off iO
  ·intro ha;have:=hn ha;rw[zM] at this;simpa using this
  ·intro p hp _;rw[zM];simpa using hp
structure axd(P:bL)(f:bq)(fn:Func)(tb:aP):Prop where
 func:P.funcs[f]?=aa fn
 laid:laidOutB P=ah
 qY:∀t∈fn.params.toList,Mb P 9 t=ah/\P.readableRec t=ah/\t<P.types.size
 res:fn.resultTypes=#[tb]
 bool:P.underlying tb=aa .bool
variable {G:Nat->Option (List AV)} {aQ:bq->Option (List AV->ar->Option (AV × ar))}
end
end Go.AE
end
section
namespace Go.AE
open Go.RowKit (Below)
section
variable {K:a8} {G:Nat->Option (List AV)} {ok:bq->Nat->Code->Bool} {w0 w w':cG} {h:ar}
def b9.grown(s:b9 K G ok w0 h w)(hb:Below w.heap.size w w'):b9 K G ok w0 h w':=by
 have hk:∀{k:Nat} {o:Obj},w.heap[k]?=aa o->w'.heap[k]?=aa o:=λhk=>(hb.block _ (pO hk)).trans hk;refine⟨s.dw.trans (hb.mono s.size),fG s.size hb.size,λg j c hg=>?_,s.fb,s.my,s.rf,λb g cs iM hc=>?_,s.o5,s.rR,λl g r hl hr=>?_,s.tn,λt ht=>?_,s.qX,λr hr=>?_,s.all⟩
 ·rw[<-s.ic g j c hg];exact World.cell?_of_block (w:=w) (hb.block g (s.BD hg))
 ·obtain⟨h1,h2,ha,cells,e,h3,h4⟩:=s.box b g cs iM hc;exact⟨h1,h2,ha,cells,e,hk h3,h4⟩
 ·obtain⟨h1,fn,tmps,d,h2,h3⟩:=s.loop l g r hl hr;exact⟨h1,fn,tmps,d,hk h2,h3⟩
 ·obtain⟨h1,h2,h3,cells,e,fz,h4,h5,h6⟩:=s.tok t ht;refine⟨h1,h2,h3,cells,e,fz,hk h4,h5,λj hj hl=>?_⟩;rw[<-h6 j hj hl];exact World.frozen?_of_block (w:=w) (hb.block _ (pO h4))
 ·exact⟨(s.md r hr).1,hk (s.md r hr).2⟩
end
end Go.AE
end
section
namespace Go.AE
def ar.push(h:ar)(cs:List AV):ar:={h with boxes:=h.boxes++[cs]}
def ar.put(h:ar)(b:Nat)(cs:List AV):ar:={h with boxes:=h.boxes.set b cs}
def bu(h:ar)(cs):h.box cs=(.ptr (.box h.boxes.length) 0,h.push cs):=rfl
def cR(h:ar)(cs):(h.push cs).boxes.length=h.boxes.length+1:=by simp[ar.push]
def bg(h:ar)(cs):(h.push cs).boxes[h.boxes.length]?=aa cs:=by simp[ar.push]
def bh{h:ar}{cs ds}{b:Nat}(hb:h.boxes[b]?=aa ds):(h.push cs).boxes[b]?=aa ds:=wD hb
def eO{h:ar}{cs}{b}(hb:b<h.boxes.length):(h.put b cs).boxes[b]?=aa cs:=by simp[ar.put,hb]
def dh{h:ar}{cs}{b c}(hb:c≠b):(h.put b cs).boxes[c]?=h.boxes[c]?:=by simp[ar.put,mW,Ne.symm hb]
def mE(h:ar)(b)(cs):(h.put b cs).boxes.length=h.boxes.length:=by simp[ar.put]
def cK(h:ar):Bool:=h.dead.all λn=>decide (n<h.tn)
structure Ext(h h':ar):Prop where
 box:∀(b:Nat) (cs:List AV),h.boxes[b]?=aa cs->h'.boxes[b]?=aa cs
 loop:∀(l:Nat) (r:iW),h.loops[l]?=aa r->h'.loops[l]?=aa r
 tn:h.tn<=h'.tn
 dead:∀n,n<h.tn->n∈h'.dead->n∈h.dead
 ok:cK h=ah->cK h'=ah
def Ext.refl(h):Ext h h:=⟨λ_ _ h=>h,λ_ _ h=>h,aL _,λ_ _ h=>h,λh=>h⟩
def Ext.trans{a b c}(h:Ext a b)(k:Ext b c):Ext a c:=
 ⟨λi cs hb=>k.box i cs (h.box i cs hb),λl r hl=>k.loop l r (h.loop l r hl),fG h.tn k.tn,λn hn hd=>h.dead n hn (k.dead n (nE hn h.tn) hd),λho=>k.ok (h.ok ho)⟩
def Ext.push(h)(cs):Ext h (h.push cs):=⟨λ_ _ hb=>bh hb,λ_ _ h=>h,aL _,λ_ _ h=>h,λh=>h⟩
def Ext.fresh(h)(sz)(es):Ext h (h.fresh sz es).2:=⟨λ_ _ hb=>hb,λ_ _ h=>h,He _,λ_ _ h=>h,λho=>by
 unfold cK at *
 simp only[ar.fresh,eK,decide_eq_true_eq] at *
 exactλn hn=>b8 (xD (ho n hn))⟩
def Ext.alive{h h'}(x:Ext h h'){n}(ha:alive h n=ah):alive h' n=ah:=by
 unfold AE.alive at *
 simp only[bI,decide_eq_true_eq,Bool.not_eq_true',List.contains_eq_mem,decide_eq_false_iff_not] at *
 exact⟨nE ha.1 x.tn,λhd=>ha.2 (x.dead n ha.1 hd)⟩
def Ext.len{h h'}(x:Ext h h'):h.boxes.length<=h'.boxes.length:=by
 rcases ez h'.boxes.length h.boxes.length with aC|eF
 ·have h1:=x.box h'.boxes.length _ (aU aC);have:=(aW.1 h1).1;omega
 ·exact eF
noncomputable def P6(R:Rec)(g:bq)(args:List AV)(h:ar):ar:=
 match R.call g args h with
 |some (_,h')=>h'
 |none=>h
def alm{R}{g}{args}{h h'}{r}(hc:R.call g args h=aa (r,h')):P6 R g args h=h':=by unfold P6;rw[hc]
def UP(R:Rec)(g:bq)(args:List AV)(h:ar)(r:fg):Prop:=∃h',R.call g args h=aa (r,h')/\Ext h h'
def UP.ext{R}{g}{args}{h}{r}(hs:UP R g args h r):Ext h (P6 R g args h):=by obtain⟨h',h1,h2⟩:=hs;rw[alm h1];exact h2
def A5(P:bL)(G:Nat->Option (List AV))(R:Rec)(fn:Func)(r:fg)(Post:ar->Prop):Xt->Env->ar->Prop:=λo e h=>∃h',zt P G R fn r h' o e h/\Post h'
def ajt{P}{G}{R}{fn}{r}{Post}{e}{h}:A5 P G R fn r Post .normal e h=∃h',iI P G R fn e e.defers av h=aa (r,h')/\Post h':=rfl
def ajv{P}{G}{R}{fn}{r}{Post}{e}{h}:A5 P G R fn r Post .ret e h=∃h',iI P G R fn e e.defers av h=aa (r,h')/\Post h':=rfl
def aju{P}{G}{R}{fn}{r}{Post}{e}{h}{x}:A5 P G R fn r Post (.panic x) e h=∃h',iI P G R fn e e.defers (aa (x,aB)) h=aa (r,h')/\Post h':=rfl
def iD{P}{G}{aQ}{g}{fn}{body}{args}{r}{h}{Post}(hp:aQ g=av)(iG:P.funcs[g]?=aa fn)(hb:fn.body=aa body)
 (hr:bM (whole P G aQ) body (Env.start args av) h (A5 P G (whole P G aQ) fn r Post)):∃h',(whole P G aQ).call g args h=aa (r,h')/\Post h':=by
 obtain⟨o,e1,h1,h2,h',h3,h4⟩:=hr;exact⟨h',cN hp iG hb ⟨o,e1,h1,h2,h3⟩,h4⟩
section
variable {P:bL} {G:Nat->Option (List AV)} {h:ar} {t:aP} {b off n:Nat} {cs:List AV}
def mT(ha:gY P t=aa aB)(hb:h.boxes[b]?=aa cs):aI P G h t (.ptr (.box b) off)=(cs.drop off).head?:=by unfold aI Cw SD;simp only[ha,hb,ft]
def iP(ha:gY P t=aa ah)(hs:dJ P t=aa n)(hb:h.boxes[b]?=aa cs)(hl:off+n<=cs.length):aI P G h t (.ptr (.box b) off)=aa (.agg ((cs.drop off).take n)):=by unfold aI Cw SD;simp only[ha,hb,hs,ft];rw[aH (by simp;omega)]
def sI{sz i:Nat}{es:List (List AV)}{row:List AV}(ha:gY P t=aa aB)(hb:es[i]?=aa row):aI P G h t (.elem sz es i off)=(row.drop off).head?:=by unfold aI Cw;simp only[ha,hb,ft]
def LO{sz i:Nat}{es:List (List AV)}{row:List AV}(ha:gY P t=aa ah)(hs:dJ P t=aa n)(hb:es[i]?=aa row)(hl:off+n<=row.length):aI P G h t (.elem sz es i off)=aa (.agg ((row.drop off).take n)):=by unfold aI Cw;simp only[ha,hb,hs,ft];rw[aH (by simp;omega)]
def bp{e:aP}{k:Tok}{kk:uZ}{sz:Nat}{es:List (List AV)}{a:Int}(hu:P.underlying t=aa (.slice e))(hs:dJ P e=aa sz)(h0:0<=a)(h1:a<es.length):dS P t (.list k sz es) (.v (.int kk a))=aa (.elem sz es a.toNat 0):=by unfold dS;rw[hu];simp only;rw[aH ⟨h0,h1,hs⟩]
def FK{e:aP}{kk:uZ}{bb o l c sz:Nat}{a:Int}(hu:P.underlying t=aa (.slice e))(hs:dJ P e=aa sz)(h0:0<=a)(h1:a<l):dS P t (.arr bb o l c) (.v (.int kk a))=aa (.ptr (.box bb) (o+a.toNat * sz)):=by unfold dS;rw[hu];simp only[hs];rw[aH ⟨h0,h1⟩]
def fK{x:AV}{xs:List AV}(hx:x.cd=aa xs)(hs:dJ P t=aa n)(hb:h.boxes[b]?=aa cs)(hn:xs.length=n)(hl:off+n<=cs.length):cE P h t (.ptr (.box b) off) x=aa (h.put b (fe cs off xs)):=by unfold cE;simp only[hx,hs,hb];rw[aH ⟨hn,hl⟩];rfl
def qs(h:ar)(z cs):(h.push z).put h.boxes.length cs=h.push cs:=by simp[ar.push,ar.put,List.set_append_right]
def xo{z xs}(hl:xs.length=z.length):fe z 0 xs=xs:=by simp[fe,hl]
def lq{x:AV}{xs z:List AV}(hx:x.cd=aa xs)(hs:dJ P t=aa n)(hn:xs.length=n)(hz:z.length=n):cE P (h.push z) t (.ptr (.box h.boxes.length) 0) x=aa (h.push xs):=by rw[fK hx hs (bg h z) hn ai,xo ai,qs]
end
end Go.AE
end
section
namespace Go.AE
section
variable {P:bL} {G:Nat->Option (List AV)} {R:Rec}
def aov(ops:Array Oper):∀(n i:Nat),i+n<=ops.size->∀(e:Env) (h:ar),dx P G R ops (ad8 i n) e h=rL P G R ops ((ops.toList.drop i).take n) e h:=by
 intro n
 induction n with
 |zero=>intro i hi e h;rfl|succ n ih=>
  intro i hi e h;have aC:i<ops.size:=by omega
  have ho:ops[i]?=aa ops[i]:=mV aC;rw[ad9,y6 (by simpa using aC),List.take_succ_cons];simp only[dx,rL,ho,adi];cases fL ops e ops[i] with
  |none=>rfl|some b=>
   cases b with
   |false=>exact ih (i+1) ai _ _|true=>
    simp only;cases eI P G R e h ops[i] with
    |none=>rfl|some q=>
     obtain⟨r,e1,h1⟩:=q;cases r with|ret x=>exact ih (i+1) ai _ _|panic x=>rfl
def tQ{ops:Array Oper}{m:Nat}(hm:m<=ops.size)(e:Env)(h:ar):dx P G R ops (bO m) e h=rL P G R ops (ops.toList.take m) e h:=by rw[N7,aov ops m 0 ai];rfl
def ES(ops:Array Oper)(cs:List Nat)(ps:List (Nat × Nat)):Bool:=
 let b:=Region.before ops
 Cp ops b&&(bO ops.size).all λj=>(bO j).all λi=>(b.getD j 0).testBit i||Af ops i j||ps.contains (i,j)||(qF ops i j&&(cs.contains i||cs.contains j))
def Pl{ops:Array Oper}{cs:List Nat}{ps:List (Nat × Nat)}{e:Env}{h:ar}(hd:ES ops cs ps=ah)(hc:∀k∈cs,AY P G R ops e h k)(hs:∀p∈ps,mH P G R ops e h p.1 p.2=ah):ng P G R ops e h=ah:=by
 unfold ES at hd;unfold ng;simp only[bI,eK,gf,v8] at hd ⊢;refine⟨hd.1,λj hj i hi=>?_⟩;rcases hd.2 j hj i hi with((h1|h1)|h1)|⟨h1,h2⟩
 ·exact .inl (.inl (.inl h1))
 ·exact .inl (.inl (.inr h1))
 ·exact .inl (.inr (hs (i,j) (by simpa using h1)))
 ·exact .inr ⟨h1,h2.imp (λq=>Hz.2 (hc i (by simpa using q))) (λq=>Hz.2 (hc j (by simpa using q)))⟩
def EM{ops:Array Oper}{e:Env}{h:ar}{k:Nat}{o:Oper}{c:Call}{x:AV}(ho:ops[k]?=aa o)(bV:o.op=.call c)
 (h1:da P G R ops (ops.toList.take k) e h (λq er _=>q=.normal/\∀hm,mK P R er hm c=aa (.ret x,hm)))
 (h2:da P G R ops ops.toList e h (λq _ _=>q=.normal)):AY P G R ops e h k:=by
 have hk:k<ops.size:=(Array.getElem?_eq_some_iff.1 ho).1;obtain⟨q1,er,hr,e1,rfl,e2⟩:=h1;obtain⟨q2,en,hn,f1,rfl⟩:=h2;rw[<-tQ ai] at e1;have eW:dx P G R ops (bO ops.size) e h=aa (.normal,en,hn):=by rw[tQ (aL _),<-Array.length_toList,fN];exact f1
 obtain⟨-,tr,-⟩:=trace eW;refine⟨o,x,er,hr,ho,?_,e1,λm hm=>⟨_,_,tr m hm,ahe bV (e2 _)⟩⟩;have alb:∀b,c.callee≠ .builtin b:=λb hb=>by have:=e2 hr;unfold mK at this;rw[hb] at this;cases this
 rw[bV];obtain⟨callee,args,ts⟩:=c;cases callee with|builtin b=>exact absurd rfl (alb b)|value f=>rfl|invoke r n=>rfl
def Al{ops:Array Oper}{e:Env}{h:ar}{i j:Nat}{o:Oper}{t:aP}{a:bU}(vq:qF ops i j=ah)(ho:ops[i]?=aa o)(bV:o.op=.load t a)(hg:o.guard=av)
 (hj:(ops[j]?).map (λo=>jU o.op)=aa .acts) {x v:AV} (hv:fA v v=ah)
 (h1:da P G R ops (ops.toList.take i) e h (λq er hr=>q=.normal/\er.eval a=x/\aI P G hr t x=aa v))
 (h2:da P G R ops (ops.toList.take (j+1)) e h (λq _ hm=>q=.normal/\aI P G hm t x=aa v)):mH P G R ops e h i j=ah:=by
 have hi:i<ops.size:=by
  rcases ez i ops.size with hh|hh
  ·exact hh
  ·rw[yR hh] at ho;cases ho
 have Qq:j<ops.size:=by
  rcases ez j ops.size with hh|hh
  ·exact hh
  ·rw[yR hh] at hj;cases hj
 have hc:(ops[i]?).map (λo=>jU o.op)=aa .reads:=by rw[ho];simp only[ft,bV];rfl
 unfold mH;rw[vq,hc,hj];simp only[rT];unfold qV;rw[ho,tQ ai,tQ ai];obtain⟨q1,er,hr,e1,rfl,e2,e3⟩:=h1;obtain⟨q2,em,hm,f1,rfl,f2⟩:=h2;rw[e1,f1];simp only[fL,hg,bV,e2,e3,f2,hv]
def sS{ops:Array Oper}{e:Env}{h:ar}{i j:Nat}{o:Oper}{t:aP}{a:bU}(vq:qF ops i j=ah)(ho:ops[j]?=aa o)(bV:o.op=.load t a)(hg:o.guard=av)
 (hj:(ops[i]?).map (λo=>jU o.op)=aa .acts) {x v:AV} (hv:fA v v=ah)
 (h1:da P G R ops (ops.toList.take j) e h (λq er hr=>q=.normal/\er.eval a=x/\aI P G hr t x=aa v))
 (h2:da P G R ops (ops.toList.take i) e h (λq _ hm=>q=.normal/\aI P G hm t x=aa v)):mH P G R ops e h i j=ah:=by
 have hi:i<ops.size:=by
  rcases ez i ops.size with hh|hh
  ·exact hh
  ·rw[yR hh] at hj;cases hj
 have Qq:j<ops.size:=by
  rcases ez j ops.size with hh|hh
  ·exact hh
  ·rw[yR hh] at ho;cases ho
 have hc:(ops[j]?).map (λo=>jU o.op)=aa .reads:=by rw[ho];simp only[ft,bV];rfl
 unfold mH;rw[vq,hc,hj];simp only[rT];unfold qV;rw[ho,tQ ai,tQ ai];obtain⟨q1,er,hr,e1,rfl,e2,e3⟩:=h1;obtain⟨q2,em,hm,f1,rfl,f2⟩:=h2;rw[e1,f1];simp only[fL,hg,bV,e2,e3,f2,hv]
end
section
variable {P:bL} {G:Nat->Option (List AV)} {aQ:bq->Option (List AV->ar->Option (AV × ar))} {Q:Xt->Env->ar->Prop} {e:Env} {h:ar}
def Te{id:Nat}{ops:Array Oper}(cs:List Nat)(ps:List (Nat × Nat))(hd:ES ops cs ps=ah)(hc:∀k∈cs,AY P G (whole P G aQ) ops e h k)(hs:∀p∈ps,mH P G (whole P G aQ) ops e h p.1 p.2=ah)
 (hr:da P G (whole P G aQ) ops ops.toList e h (zr Q)):bM (whole P G aQ) (.region id ops ah) e h Q:=
 Tf (Pl hd hc hs) hr
end
structure gu(b n0:Nat)(h h':ar):Prop where
 box:∀(c:Nat) (cs:List AV),c≠b->h.boxes[c]?=aa cs->h'.boxes[c]?=aa cs
 len:h.boxes.length<=h'.boxes.length
 loop:∀(l:Nat) (r:iW),h.loops[l]?=aa r->h'.loops[l]?=aa r
 tn:h.tn<=h'.tn
 dead:∀n,n<n0->n∈h'.dead->n∈h.dead
 ok:cK h=ah->cK h'=ah
def gu.refl(b n0)(h):gu b n0 h h:=⟨λ_ _ _ h=>h,aL _,λ_ _ h=>h,aL _,λ_ _ h=>h,λh=>h⟩
def gu.trans{b n0}{x y z}(h:gu b n0 x y)(k:gu b n0 y z):gu b n0 x z:=
 ⟨λi cs hi hb=>k.box i cs hi (h.box i cs hi hb),fG h.len k.len,λl r hl=>k.loop l r (h.loop l r hl),fG h.tn k.tn,λn hn hd=>h.dead n hn (k.dead n hn hd),λho=>k.ok (h.ok ho)⟩
def gu.DK{b n0}{h h'}(x:Ext h h')(hn:n0<=h.tn):gu b n0 h h':=
 ⟨λc cs _ hc=>x.box c cs hc,x.len,x.loop,x.tn,λn h1 h2=>x.dead n (nE h1 hn) h2,x.ok⟩
def gu.put(b n0)(h)(cs):gu b n0 h (h.put b cs):=
 ⟨λc ds hc hb=>by rw[dh hc];exact hb,by rw[mE];exact aL _,λ_ _ h=>h,aL _,λ_ _ h=>h,λh=>h⟩
def Ext.mut{b}{h0 h h'}(x:Ext h0 h)(m:gu b h0.tn h h')(hb:h0.boxes.length<=b):Ext h0 h':=
 ⟨λc cs hc=>by have aC:=(aW.1 hc).1;exact m.box c cs ai (x.box c cs hc),λl r hl=>m.loop l r (x.loop l r hl),fG x.tn m.tn,λn hn hd=>x.dead n hn (m.dead n hn hd),λho=>m.ok (x.ok ho)⟩
def ar.app(h:ar)(k:Tok):ar:=
 match k with
 | .free n=>{h with dead:=n::h.dead,tn:=h.tn+1}
 |_=>{h with tn:=h.tn+1}
def eC(h:ar)(k):(h.app k).boxes=h.boxes:=by cases k<;>rfl
def xN(h:ar)(k):(h.app k).loops=h.loops:=by cases k<;>rfl
def EI(h:ar)(k):(h.app k).tn=h.tn+1:=by cases k<;>rfl
def du(n0:Nat)(h:ar)(k:Tok):Prop:=k=.nil∨k=.tight∨∃n,k=.free n/\n0<=n/\alive h n=ah
def gu.app{b n0}{h}{k}(hk:du n0 h k):gu b n0 h (h.app k):=by
 refine⟨λc cs _ hc=>by rw[eC];exact hc,by rw[eC];exact aL _,λl r hl=>by rw[xN];exact hl,by rw[EI];exact He _,?_,?_⟩
 ·rcases hk with rfl|rfl|⟨m,rfl,hm,ha⟩
  ·exactλn _ hn=>hn
  ·exactλn _ hn=>hn
  ·intro n hn hd;rcases iU.1 hd with rfl|hd
   ·omega
   ·exact hd
 ·intro ho;have Qw:∀n∈h.dead,n<h.tn+1:=λn hn=>by have:=eK.1 ho n hn;simp only[decide_eq_true_eq] at this;omega
  rcases hk with rfl|rfl|⟨m,rfl,hm,ha⟩
  ·exact eK.2 λn hn=>b8 (Qw n hn)
  ·exact eK.2 λn hn=>b8 (Qw n hn)
  ·refine eK.2 λn hn=>b8 ?_;rcases iU.1 hn with rfl|hn
   ·unfold alive at ha;simp only[bI,decide_eq_true_eq] at ha;show n<h.tn+1;omega
   ·exact Qw n hn
def Ext.app{h0 h}{k}(x:Ext h0 h)(hk:du h0.tn h k):Ext h0 (h.app k):=by have m:=gu.app (b:=h.boxes.length) hk;exact x.mut m x.len
def afB{h}{k}(ho:cK h=ah)(hk:du 0 h k):alive (h.app k) h.tn=ah:=by
 have jq:h.dead.contains h.tn=aB:=by rw[Bool.eq_false_iff];intro hc;have:=eK.1 ho h.tn (by simpa using hc);simp at this
 unfold alive;rw[EI];rcases hk with rfl|rfl|⟨m,rfl,-,ha⟩
 ·simp only[ar.app,jq];simp
 ·simp only[ar.app,jq];simp
 ·unfold alive at ha;simp only[bI,decide_eq_true_eq] at ha;have h1:¬(h.tn=m):=by omega
  have h2:¬(h.tn∈h.dead):=by simpa using jq
  simp[ar.app,h1,h2]
def du.mono{n0}{h}{k}(hk:du n0 h k){n1}(hn:n1<=n0):du n1 h k:=by
 rcases hk with rfl|rfl|⟨m,rfl,hm,ha⟩
 ·exact .inl rfl
 ·exact .inr (.inl rfl)
 ·exact .inr (.inr ⟨m,rfl,by omega,ha⟩)
def du.ext{n0}{h h'}{k}(hk:du n0 h k)(x:Ext h h'):du n0 h' k:=by
 rcases hk with rfl|rfl|⟨m,rfl,hm,ha⟩
 ·exact .inl rfl
 ·exact .inr (.inl rfl)
 ·exact .inr (.inr ⟨m,rfl,hm,x.alive ha⟩)
def du.next{n0}{h}{k}(hk:du n0 h k)(ho:cK h=ah)(hn:n0<=h.tn):du n0 (h.app k) (.free h.tn):=
 .inr (.inr ⟨h.tn,rfl,hn,afB ho (hk.mono (cD _))⟩)
end Go.AE
end
section
namespace Go.AE
def u6.cons_inv{H}{P}{t}{ts}{xs}{ds:List (DataW H)}(h:u6 P (t::ts) xs ds):∃x xs' d ds',xs=x::xs'/\ds=d::ds'/\mz P t x d/\u6 P ts xs' ds':=by
 cases xs with
 |nil=>cases ds<;>exact h.elim
 |cons x xs=>
  cases ds with|nil=>exact h.elim|cons d ds=>exact⟨x,xs,d,ds,rfl,rfl,h.1,h.2⟩
def u6.an1{H}{P}{xs}{ds:List (DataW H)}(h:u6 P [] xs ds):xs=[]:=by
 cases xs with|nil=>rfl|cons x xs=>cases ds<;>exact h.elim
section
variable {P:bL} {t:aP} {x y:bU}
def abb{d:TypeDesc}(hu:P.underlying t=aa d):gJ P (underlying t)=aa d:=by unfold underlying;simp only[yA];show(aa P).bind _=_;simp only[qB,hu];rfl
def aga{a b:Bool}(hu:P.underlying t=aa .bool):dn P .eql t x y (.v (.bool a)) (.v (.bool b))=aa (.v (.bool (a==b))):=by
 have h1:dn P .eql t x y (.v (.bool a)) (.v (.bool b))=(gJ P (do eqGuard .eql t x y (.bool a) (.bool b);binOp .eql t (.bool a) (.bool b))).bind pQ:=rfl;have h2:gJ P (eqGuard .eql t x y (.bool a) (.bool b))=aa ():=rfl;have h3:gJ P (Op.equal t (.bool a) (.bool b))=aa (a==b):=by unfold Op.equal Op.maxDepth Op.equalIn;rw[yA,abb hu];rfl
 have h4:gJ P (binOp .eql t (.bool a) (.bool b))=aa (.bool (a==b)):=by show gJ P (do pure (Value.bool (<-Op.equal t (.bool a) (.bool b))))=_;rw[yA,h3];rfl
 rw[h1,yA,h2,qB,h4];rfl
def agj{v:aT}{ms:Array (String × aP)}(hu:P.underlying t=aa (.interface ms)):dn P .neq t x (.const v) (.v .nilIface) (.v .nilIface)=aa (.v (.bool aB)):=by
 have h1:dn P .neq t x (.const v) (.v .nilIface) (.v .nilIface)=(gJ P (do eqGuard .neq t x (.const v) .nilIface .nilIface;binOp .neq t .nilIface .nilIface)).bind pQ:=rfl;have h2:gJ P (eqGuard .neq t x (.const v) .nilIface .nilIface)=aa ():=by cases x<;>rfl
 have h3:gJ P (Op.equal t .nilIface .nilIface)=aa ah:=by unfold Op.equal Op.maxDepth Op.equalIn;rw[yA,abb hu];rfl
 have h4:gJ P (binOp .neq t .nilIface .nilIface)=aa (.bool aB):=by show gJ P (do pure (Value.bool (!(<-Op.equal t .nilIface .nilIface))))=_;rw[yA,h3];rfl
 rw[h1,yA,h2,qB,h4];rfl
end
end Go.AE
end
section
namespace Go.AE
section
variable {h:ar} {cs:List AV} {b c:Nat} {k:Tok}
def akh:(h.push cs).boxes[h.boxes.length]?=aa cs:=bg h cs
def nM(hc:c=h.boxes.length):(h.push cs).boxes[c]?=aa cs:=by subst hc;exact bg h cs
def K4(hc:c≠h.boxes.length):(h.push cs).boxes[c]?=h.boxes[c]?:=by
 unfold ar.push;simp only[List.getElem?_append];split
 ·rfl
 ·rename_i h1;rw[u7 (by simp;omega),u7 ai]
def aki(hb:b<h.boxes.length):(h.put b cs).boxes[b]?=aa cs:=eO hb
def akj(hc:c≠b):(h.put b cs).boxes[c]?=h.boxes[c]?:=dh hc
def akg:(h.app k).boxes[c]?=h.boxes[c]?:=by rw[eC]
def aaa:(h.app k).boxes.length=h.boxes.length:=by rw[eC]
end
def AZ{n0}{h}{cs}{k}:du n0 (h.push cs) k=du n0 h k:=rfl
def Cv{n0 b}{h}{cs}{k}:du n0 (h.put b cs) k=du n0 h k:=rfl
def Ext.fZ{h h'}(x:Ext h h'){b}(hb:h.boxes.length<=b)(cs):Ext h (h'.put b cs):=by refine⟨λc ds hc=>?_,x.loop,x.tn,x.dead,x.ok⟩;have aC:c<h.boxes.length:=(aW.1 hc).1;rw[dh ai];exact x.box c ds hc
section
variable {P:bL} {G:Nat->Option (List AV)} {h:ar} {t:aP} {b off n:Nat} {cs:List AV}
def avl{z:aT}(hs:dJ P t=aa 1)(hb:h.boxes[b]?=aa cs)(hl:off+1<=cs.length):cE P h t (.ptr (.box b) off) (.v z)=aa (h.put b (fe cs off [.v z])):=fK rfl hs hb rfl hl
def avj{k:Tok}{sz:Nat}{es:List (List AV)}(hs:dJ P t=aa 1)(hb:h.boxes[b]?=aa cs)(hl:off+1<=cs.length):cE P h t (.ptr (.box b) off) (.list k sz es)=aa (h.put b (fe cs off [.list k sz es])):=fK rfl hs hb rfl hl
def aut{l:List UInt8}{k k':uZ}{lo hi:Int}(hu:P.underlying t=aa .string)(h0:0<=lo)(h1:lo<=hi)(h2:hi<=l.length):
 jc P t (.v (.string (bs l))) (aa (.v (.int k lo))) (aa (.v (.int k' hi))) av=aa (.v (.string (bs ((l.take hi.toNat).drop lo.toNat)))):=by
 unfold jc;simp only[Cl,yT,kj,if_false,hu,Ct];have e1:hJ l.length (aa (AV.v (.int k' hi))) l.length=aa hi.toNat:=by unfold hJ;simp only;rw[aH ⟨ai,h2⟩]
 have e2:hJ hi.toNat (aa (AV.v (.int k lo))) 0=aa lo.toNat:=by unfold hJ;simp only;rw[aH ⟨h0,by omega⟩]
 simp only[e1,e2,OV]
def auu{l:List UInt8}{k:uZ}{lo:Int}(hu:P.underlying t=aa .string)(h0:0<=lo)(h1:lo<=l.length):
 jc P t (.v (.string (bs l))) (aa (.v (.int k lo))) av av=aa (.v (.string (bs (l.drop lo.toNat)))):=by
 unfold jc;simp only[Cl,yT,kj,if_false,hu,Ct];have e1:hJ l.length av l.length=aa l.length:=rfl;have e2:hJ l.length (aa (AV.v (.int k lo))) 0=aa lo.toNat:=by unfold hJ;simp only;rw[aH ⟨h0,h1⟩]
 simp only[e1,e2,OV,fN]
def auv{l:List UInt8}{k':uZ}{hi:Int}(hu:P.underlying t=aa .string)(h0:0<=hi)(h2:hi<=l.length):
 jc P t (.v (.string (bs l))) av (aa (.v (.int k' hi))) av=aa (.v (.string (bs (l.take hi.toNat)))):=by
 unfold jc;simp only[Cl,yT,kj,if_false,hu,Ct];have e1:hJ l.length (aa (AV.v (.int k' hi))) l.length=aa hi.toNat:=by unfold hJ;simp only;rw[aH ⟨h0,h2⟩]
 have e2:hJ hi.toNat av 0=aa 0:=rfl;simp only[e1,e2,OV,jm]
def aav{r:Ref}:RV (.ptr r off)=aa (.ptr r off):=rfl
end
end Go.AE
end
section
namespace Go.AE
def Env.ER(e:Env)(d:bq × List AV):Env:={e with defers:=d::e.defers}
def Env.pn(e:Env)(p:Option (AV × Bool)):Env:={e with dg:=p}
section
variable {e:Env} {d:bq × List AV} {p:Option (AV × Bool)} {t:Nat}
def ai5:(e.ER d).get t=e.get t:=rfl
def ai4:(e.ER d).defers=d::e.defers:=rfl
def ai6:(e.ER d).dg=e.dg:=rfl
def WB:(e.ER d).round=e.round:=rfl
def ao9:(e.pn p).get t=e.get t:=rfl
def ao8:(e.pn p).defers=e.defers:=rfl
def apa:(e.pn p).dg=p:=rfl
def aa2:(e.pn p).round=e.round:=rfl
end
def Uc(P:bL)(G:Nat->Option (List AV))(R:Rec)(ops:Array Oper)(rest:List Oper)(d:Option Tmp)(args:List AV)(e:Env)(h:ar)(Q:Xt->Env->ar->Prop)(x:AV):Prop:=
 match x with
 | .func (.func g) first aF=>da P G R ops rest ((e.ER (g,first++args++aF)).put d (.tuple [])) h Q
 |_=>False
def Ou(P:bL)(G:Nat->Option (List AV))(R:Rec)(ops:Array Oper)(rest:List Oper)(d:Option Tmp)(e:Env)(h:ar)(Q:Xt->Env->ar->Prop)(p:Option (AV × Bool)):Prop:=
 match p with
 |some (x,aB)=>da P G R ops rest ((e.pn (aa (x,ah))).put d x) h Q
 |_=>da P G R ops rest (e.put d (.v .nilIface)) h Q
section
variable {P:bL} {G:Nat->Option (List AV)} {R:Rec} {ops:Array Oper} {rest:List Oper} {e:Env} {h:ar} {Q:Xt->Env->ar->Prop} {d:Option Tmp} {ty:aP} {pos:String} {af:Array Edge}
def arp{f:bU}{args:Array bU}{ts:Array aP}(hr:e.round=av):da P G R ops (⟨d,.defer {callee:=.value f,args,argTypes:=ts},ty,pos,af,av⟩::rest) e h Q=Uc P G R ops rest d (args.toList.map e.eval) e h Q (e.eval f):=by
 rw[atm hr];generalize e.eval f=y;rcases y with _|_|_|_|_|_|_|_|⟨fn,a,b⟩|_|_
 case func=>cases fn<;>rfl
 all_goals rfl
def ai3{g:bq}{first aF args:List AV}:Uc P G R ops rest d args e h Q (.func (.func g) first aF)=da P G R ops rest ((e.ER (g,first++args++aF)).put d (.tuple [])) h Q:=rfl
def arG{args:Array bU}{ts:Array aP}(hr:e.round=av):da P G R ops (⟨d,.call {callee:=.builtin .recover,args,argTypes:=ts},ty,pos,af,av⟩::rest) e h Q=Ou P G R ops rest d e h Q e.dg:=by
 rw[atq hr];rcases hp:e.dg with _|⟨x,b⟩
 ·rfl
 ·cases b<;>rfl
def aql{x:AV}:Ou P G R ops rest d e h Q (aa (x,aB))=da P G R ops rest ((e.pn (aa (x,ah))).put d x) h Q:=rfl
def aqk:Ou P G R ops rest d e h Q av=da P G R ops rest (e.put d (.v .nilIface)) h Q:=rfl
def TQ{fn:Func}{g:bq}{args:List AV}{ds:List (bq × List AV)}{x:AV}{h':ar}(hc:R.lH g args av h=aa (.ret x,av,h')):iI P G R fn e ((g,args)::ds) av h=iI P G R fn e ds av h':=by rw[iI,hc]
def awg{fn:Func}{g:bq}{args:List AV}{ds:List (bq × List AV)}{x y z:AV}{h':ar}(hc:R.lH g args (aa (y,aB)) h=aa (.ret x,aa (z,ah),h')):iI P G R fn e ((g,args)::ds) (aa (y,aB)) h=iI P G R fn e ds av h':=by rw[iI,hc]
end
end Go.AE
end
section
namespace Go.AE
def KL(P:bL)(G:Nat->Option (List AV))(R:Rec)(fn:Func)(Post:fg->ar->Prop):Xt->Env->ar->Prop:=λo e h=>∃r h',zt P G R fn r h' o e h/\Post r h'
def ajn{P}{G}{R}{fn}{Post}{e}{h}:KL P G R fn Post .normal e h=∃r h',iI P G R fn e e.defers av h=aa (r,h')/\Post r h':=rfl
def ajp{P}{G}{R}{fn}{Post}{e}{h}:KL P G R fn Post .ret e h=∃r h',iI P G R fn e e.defers av h=aa (r,h')/\Post r h':=rfl
def ajo{P}{G}{R}{fn}{Post}{e}{h}{x}:KL P G R fn Post (.panic x) e h=∃r h',iI P G R fn e e.defers (aa (x,aB)) h=aa (r,h')/\Post r h':=rfl
def di{P}{G}{aQ}{g}{fn}{body}{args}{h}{Post}(hp:aQ g=av)(iG:P.funcs[g]?=aa fn)(hb:fn.body=aa body)
 (hr:bM (whole P G aQ) body (Env.start args av) h (KL P G (whole P G aQ) fn Post)):∃r h',(whole P G aQ).call g args h=aa (r,h')/\Post r h':=by
 obtain⟨o,e1,h1,h2,r,h',h3,h4⟩:=hr;exact⟨r,h',cN hp iG hb ⟨o,e1,h1,h2,h3⟩,h4⟩
end Go.AE
end
section
namespace Go.AE
section
variable {P:bL} {h:ar} {ts:Array aP} {ty:aP} {k:uZ} {a b:Int}
def DH:jT P h .max ts ty [.v (.int k a),.v (.int k b)]=aa (.v (.int k (if a<b then b else a)),h):=by
 have h1:jT P h .max ts ty [.v (.int k a),.v (.int k b)]=((gJ P (Builtin.max_ ts ty #[.int k a,.int k b])).bind pQ).map (·,h):=rfl;rw[h1];have h2:gJ P (Builtin.max_ ts ty #[.int k a,.int k b])=aa (.int k (if a<b then b else a)):=by simp[Builtin.max_,Builtin.max2];split<;>simp_all<;>rfl
 rw[h2];split<;>rfl
def IW:jT P h .min ts ty [.v (.int k a),.v (.int k b)]=aa (.v (.int k (if b<a then b else a)),h):=by
 have h1:jT P h .min ts ty [.v (.int k a),.v (.int k b)]=((gJ P (Builtin.min_ ts ty #[.int k a,.int k b])).bind pQ).map (·,h):=rfl;rw[h1];have h2:gJ P (Builtin.min_ ts ty #[.int k a,.int k b])=aa (.int k (if b<a then b else a)):=by simp[Builtin.min_,Builtin.min2];split<;>simp_all<;>rfl
 rw[h2];split<;>rfl
def am5{t:aP}{x:AV}:jT P h .len #[t] ty [x]=(dQ P t x).map (·,h):=rfl
def HB{t:aP}{x:AV}:jT P h .cap #[t] ty [x]=(EN P t x).map (·,h):=rfl
def append_eq{d:Option Tmp}{s x:AV}:tv P (λ_=>av) d h .append ts ty [s,x]=hU P h ts s x:=rfl
def afF{G:Nat->Option (List AV)}{d:Option Tmp}{s x:AV}(ht:JP G d ty=aB):tv P G d h .append ts ty [s,x]=hU P h ts s x:=by unfold tv;simp only[ht,kj,if_false]
def afG{G:Nat->Option (List AV)}{d:Option Tmp}{s x:AV}(ht:JP G d ty=ah):tv P G d h .append ts ty [s,x]=sU P h ts s x:=by unfold tv;simp only[ht,if_true]
def copy_eq{s x:AV}:jT P h .copy ts ty [s,x]=A3 P h ts s x:=rfl
end
end Go.AE
end
section
namespace Go.AE
section
variable {H:Type} {P:bL} {t e:aP} {cs xs:List AV} {x:AV} {d:DataW H}
def Has.ZK{k:uZ}(h:Has P t cs d)(hu:P.underlying t=aa (.int k)):∃n:Int,cs=[.v (.int k n)]/\k.min<=n/\n<=k.max:=by
 cases h with
 |int dH n hn=>rw[hu] at dH;injection dH with dH;injection dH with dH;subst dH;exact⟨n,rfl,by simpa [Lit.wf] using hn⟩
 |bool dH=>rw[hu] at dH;cases dH
 |str dH=>rw[hu] at dH;cases dH
 |none dH=>rw[hu] at dH;cases dH
 |list dH=>rw[hu] at dH;cases dH
 |struct dH=>rw[hu] at dH;cases dH
 |array dH=>rw[hu] at dH;cases dH
def Has.zT(h:Has P t cs d)(hu:P.underlying t=aa (.int .i64)):∃n:Int,cs=[.v (.int .i64 n)]/\ -9223372036854775808<=n/\n<=9223372036854775807:=by obtain⟨n,h1,h2,h3⟩:=h.ZK hu;simp[IntKind.min,IntKind.max,IntKind.signed,IntKind.bits] at h2 h3;exact⟨n,h1,h2,h3⟩
def Has.TO(h:Has P t cs d)(hu:P.underlying t=aa (.int .u8)):∃b:UInt8,cs=lQ b:=by
 obtain⟨n,h1,h2,h4⟩:=h.ZK hu;simp[IntKind.min,IntKind.max,IntKind.signed,IntKind.bits] at h2 h4;refine⟨UInt8.ofNat n.toNat,?_⟩;have h3:((UInt8.ofNat n.toNat).toNat:Int)=n:=by
  have:(UInt8.ofNat n.toNat).toNat=n.toNat:=by simp;omega
  rw[this];omega
 rw[h1,lQ,h3]
def Has.DX(h:Has P t cs d)(hu:P.underlying t=aa (.slice e)):∃(k:Tok) (es:List (List AV)),cs=[.list k (P.cellsOf e) es]/\es.length<=maxLen/\(k=.nil∨k=.held∨(k=.tight/\es=[]))/\(k=.nil->es=[])/\
 ∀r∈es,r.length=P.cellsOf e/\∃d:DataW H,Has P e r d:=by
 cases h with
 |bool dH=>rw[hu] at dH;cases dH
 |int dH=>rw[hu] at dH;cases dH
 |str dH=>rw[hu] at dH;cases dH
 |none dH=>rw[hu] at dH;injection dH with dH;injection dH with dH;subst dH;exact⟨.nil,[],rfl,by simp,.inl rfl,λ_=>rfl,λr hr=>by cases hr⟩
 |list dH k es ds sp hk hl hd he hs=>
  rw[hu] at dH;injection dH with dH;injection dH with dH;subst dH;refine⟨k,es,rfl,hl,.inr hk,?_,λr hr=>⟨hs r hr,?_⟩⟩
  ·rintro rfl;rcases hk with hk|⟨hk,-⟩<;>cases hk
  ·obtain⟨i,hi,rfl⟩:=List.mem_iff_getElem.1 hr;exact⟨ds[i],he i _ _ (aU hi) (aU ai)⟩
 |struct dH=>rw[hu] at dH;cases dH
 |array dH=>rw[hu] at dH;cases dH
def Has.Nb{fs:Array Field}{qY:List (aP × Nat)}(h:Has P t xs d)(hu:P.underlying t=aa (.struct fs))(hf:(fs.toList.map λf=>(f.type,f.offset))=qY):
 xs.length=P.cellsOf t/\∀(i:Nat) (u:aP) (o:Nat),qY[i]?=aa (u,o)->∃d:DataW H,Has P u ((xs.drop o).take (P.cellsOf u)) d:=by
 cases h with
 |bool dH=>rw[hu] at dH;cases dH
 |int dH=>rw[hu] at dH;cases dH
 |str dH=>rw[hu] at dH;cases dH
 |none dH=>rw[hu] at dH;cases dH
 |list dH=>rw[hu] at dH;cases dH
 |array dH=>rw[hu] at dH;cases dH
 |struct dH xs ds hl hd hff=>
  rw[hu] at dH;injection dH with dH;injection dH with dH;subst dH;refine⟨hl,λi u o ho=>?_⟩;rw[<-hf,List.getElem?_map] at ho;cases hq:fs.toList[i]? with
  |none=>rw[hq] at ho;cases ho
  |some f=>rw[hq] at ho;simp only[ft,eg,dF] at ho;have hi:i<ds.length:=(by have:=(aW.1 hq).1;simp at this;omega);have:=hff i f ds[i] (by rw[<-D9];exact hq) (aU hi);rw[ho.1,ho.2] at this;exact⟨_,this⟩
def mz.plain(h:mz P t x d)(hu:∀fs,P.underlying t≠aa (.struct fs))(Re:∀n e,P.underlying t≠aa (.array n e)):Has P t [x] d:=by
 unfold mz at h;split at h
 ·rename_i h1;exact absurd h1 (hu _)
 ·rename_i h1;exact absurd h1 (Re _ _)
 ·exact h
def mz.zT(h:mz P t x d)(hu:P.underlying t=aa (.int .i64)):∃n:Int,x=.v (.int .i64 n)/\ -9223372036854775808<=n/\n<=9223372036854775807:=by obtain⟨l,h1,h2⟩:=(h.plain (λ_ hq=>by rw[hu] at hq;cases hq) (λ_ _ hq=>by rw[hu] at hq;cases hq)).zT hu;injection h1 with h1;exact⟨l,h1,h2⟩
def mz.TO(h:mz P t x d)(hu:P.underlying t=aa (.int .u8)):∃b:UInt8,x=.v (.int .u8 b.toNat):=by obtain⟨l,h1⟩:=(h.plain (λ_ hq=>by rw[hu] at hq;cases hq) (λ_ _ hq=>by rw[hu] at hq;cases hq)).TO hu;injection h1 with h1;exact⟨l,h1⟩
def mz.DX(h:mz P t x d)(hu:P.underlying t=aa (.slice e)):∃(k:Tok) (es:List (List AV)),x=.list k (P.cellsOf e) es/\es.length<=maxLen/\(k=.nil∨k=.held∨(k=.tight/\es=[]))/\(k=.nil->es=[])/\
 ∀r∈es,r.length=P.cellsOf e/\∃d:DataW H,Has P e r d:=by
 obtain⟨k,es,h1,h2⟩:=(h.plain (λ_ hq=>by rw[hu] at hq;cases hq) (λ_ _ hq=>by rw[hu] at hq;cases hq)).DX hu;injection h1 with h1;exact⟨k,es,h1,h2⟩
def mz.Nb{fs:Array Field}(h:mz P t x d)(hu:P.underlying t=aa (.struct fs)):∃xs,x=.agg xs/\Has P t xs d:=by unfold mz at h;rw[hu] at h;exact h
def DZ(P:bL)(t:aP)(qY:List (aP × Nat)):Bool:=
 match P.underlying t with
 |some (.struct fs)=>decide ((fs.toList.map λf=>(f.type,f.offset))=qY)
 |_=>aB
def acJ{qY:List (aP × Nat)}(h:DZ P t qY=ah):∃fs:Array Field,P.underlying t=aa (.struct fs)/\(fs.toList.map λf=>(f.type,f.offset))=qY:=by
 unfold DZ at h;split at h
 ·rename_i fs hu;exact⟨fs,hu,by simpa using h⟩
 ·cases h
def mz.fields{qY:List (aP × Nat)}(h:mz P t x d)(hs:DZ P t qY=ah):∃xs,x=.agg xs/\xs.length=P.cellsOf t/\∀(i:Nat) (u:aP) (o:Nat),qY[i]?=aa (u,o)->∃d:DataW H,Has P u ((xs.drop o).take (P.cellsOf u)) d:=by obtain⟨fs,hu,hf⟩:=acJ hs;obtain⟨xs,h1,h2⟩:=h.Nb hu;exact⟨xs,h1,h2.Nb hu hf⟩
def Has.fields{qY:List (aP × Nat)}(h:Has P t xs d)(hs:DZ P t qY=ah):xs.length=P.cellsOf t/\∀(i:Nat) (u:aP) (o:Nat),qY[i]?=aa (u,o)->∃d:DataW H,Has P u ((xs.drop o).take (P.cellsOf u)) d:=by obtain⟨fs,hu,hf⟩:=acJ hs;exact h.Nb hu hf
def am1{α:Type}{l:List α}(h:l.length=2):∃a b,l=[a,b]:=by
 match l,h with
 | [a,b],_=>exact⟨a,b,rfl⟩
def RD{α:Type}{l:List α}(h:l.length=4):∃a b c d,l=[a,b,c,d]:=by
 match l,h with
 | [a,b,c,d],_=>exact⟨a,b,c,d,rfl⟩
def Mu{α:Type}{f}:∀{es:List (List AV)},(∀r∈es,∃a,r=f a)->∃l:List α,es=l.map f:=by
 intro es
 induction es with
 |nil=>intro _;exact⟨[],rfl⟩|cons r es ih=>intro h;obtain⟨a,rfl⟩:=h r gq;obtain⟨l,rfl⟩:=ih λr hr=>h r (fM _ hr);exact⟨a::l,rfl⟩
end
end Go.AE
end
section
namespace Go.AE
end Go.AE
end
section
namespace Go.AE
section
variable {a b:Nat × bU} {i k:Nat} {n:Int} {x:ByteArray} {l:List (Nat × bU)}
def ahv:xW #[]=aB:=rfl
def ahw:xW #[a]=aB:=by
 obtain⟨i,o⟩:=a;cases o with
 |const v=>
  cases v with
  |int k n=>cases k<;>rfl
  |_=>rfl
 |_=>rfl
def ahy:xW (Oa ((i,.tmp k)::l))=aB:=rfl
def ahu:xW (Oa ((i,.const (.int .i64 n))::l))=aB:=rfl
def ahx:xW (Oa ((i,.const (.string x))::l))=aB:=rfl
def ahz:xW (Oa ((i,.const (.int .u8 n))::b::l))=ah:=rfl
end
set_option linter.defProp false in
def goS:=az @run_seq (az @atA (az @att (az @ats (az @atv (az @atB (az @atD (az @atw (az @atC (az @at2 (az @at4 (az @at1 (az @at3 (az @agO (az @agQ (az @VE (az @agP (az @anu (az @anw (az @ant (az @anv (az @ahj (az @ahk (az @ag1 (az @agY (az @akO (az @akN (az @akK (az @akJ (az @akP (az @akG (az @akF (az @auw (az @ato (az @atn (az @arD (az @arf (az @arF (az @arc (az @ari (az @arj (az @ark (az @arx (az @arI (az @arE (az @arh (az @arK (az @arn (az @arz (az @ary (az @arA (az @arH (az @art (az @ars (az @arv (az @aru (az @arJ (az @arq (az @arw (az @arl (az @ard (az @aro (az @arC (az @arB (az @atr (az @afj (az @afi (az @afh (az @VP (az @VQ (az @ap0 (az @apY (az @M6 (az @auS (az @auT (az @acv (az @au1 (az @au0 (az @au2 (az @Tu (az @A7 (az @eval_const (az @eval_func (az @eval_global (az @aom (az @aol (az @aor (az @aoo (az @aon (az @aop (az @aoq (az @aok (az @ag6 (az @Ct (az @Vy (az @agq (az @agh (az @agk (az @agm (az @agb (az @agi (az @agf (az @age (az @agd (az @agc (az @ago (az @agp (az @agn (az @av9 (az @av8 (az @aab (az @RF (az @RE (az @ams (az @ao5 (az @gh (az @Pn (az @ajq (az @ajs (az @ajr (az @ajt (az @ajv (az @aju (az @awe (az @awf (az @JV (az @Au (az @kj (az @decide_true (az @decide_false (az @not_true_eq_false (az @not_false_eq_true (az @Int.toNat_natCast (az @Int.toNat_zero (az @Nat.succ_ne_zero (az @DH (az @IW (az @am5 (az @HB (az @append_eq (az @copy_eq (az @ahv (az @ahw (az @ahy (az @ahu (az @ahx (@ahz))))))))))))))))))))))))))))))))))))))))))))))))))))))))))))))))))))))))))))))))))))))))))))))))))))))))))))))))))))))))))))))))))))))))))))))))))
set_option linter.defProp false in
def goH:=az @ajn (az @ajp (az @ajo (az @TQ (az @awg (az @atp (az @arp (az @ai3 (az @arG (az @aql (az @aqk (az @ai5 (az @ai4 (az @ai6 (az @WB (az @ao9 (az @ao8 (az @apa (az @aa2 (az @mT (az @iP (az @avl (az @avj (az @aut (az @auu (az @auv (az @aav (az @bu (az @Nat.zero_add (@Nat.add_zero)))))))))))))))))))))))))))))
end Go.AE
end
section
namespace Go.AE
section
variable {P:bL} {G:Nat->Option (List AV)} {aQ:bq->Option (List AV->ar->Option (AV × ar))} {Q:Xt->Env->ar->Prop} {e:Env} {h:ar}
def LR(e:Env)(params:Array Tmp)(assign body:Code):iW:={tmps:=e.tmps,params,assign,body,state:=.ready,pending:=av}
def ar.loop(h:ar)(r:iW):ar:={h with loops:=h.loops++[r]}
def ar.done(h:ar)(l:Nat)(r:iW):ar:={h with loops:=h.loops.set l {r with state:=.exhausted}}
def aty{f:bU}{params:Array Tmp}{assign body:Code}{g:bq}{first aF:List AV}(hf:e.eval f=.func (.func g) first aF){x:AV}{h':ar}
 (hc:(whole P G aQ).call g (first++[.yield h.loops.length]++aF) (h.loop (LR e params assign body))=aa (.panic x,h')) (hq:Q (.panic x) e h'):
 bM (whole P G aQ) (.rangeFunc f params assign body) e h Q:=by
 unfold bM;rw[sX];unfold fW;have iN:(whole P G aQ).call g (first++[.yield h.loops.length]++aF) {h with loops:=h.loops++[{tmps:=e.tmps,params,assign,body,state:=.ready,pending:=av}]}=aa (.panic x,h'):=hc;simp only[hf,iN];exact⟨_,_,_,rfl,hq⟩
def atx{f:bU}{params:Array Tmp}{assign body:Code}{g:bq}{first aF:List AV}(hf:e.eval f=.func (.func g) first aF){x:AV}{h':ar}{r:iW}
 (hc:(whole P G aQ).call g (first++[.yield h.loops.length]++aF) (h.loop (LR e params assign body))=aa (.ret x,h')) (hr:h'.loops[h.loops.length]?=aa r) (hb:r.state≠ .busy) (hp:r.pending=av)
 (hq:Q .normal e (h'.done h.loops.length r)):bM (whole P G aQ) (.rangeFunc f params assign body) e h Q:=by
 unfold bM;rw[sX];unfold fW;have iN:(whole P G aQ).call g (first++[.yield h.loops.length]++aF) {h with loops:=h.loops++[{tmps:=e.tmps,params,assign,body,state:=.ready,pending:=av}]}=aa (.ret x,h'):=hc;simp only[hf,iN,hr,hp];rw[aJ hb];refine⟨_,_,_,rfl,?_⟩;simpa only[ar.done,hp] using hq
def atz{f:bU}{params:Array Tmp}{assign body:Code}{g:bq}{first aF:List AV}(hf:e.eval f=.func (.func g) first aF){x:AV}{h':ar}{r:iW}
 (hc:(whole P G aQ).call g (first++[.yield h.loops.length]++aF) (h.loop (LR e params assign body))=aa (.ret x,h')) (hr:h'.loops[h.loops.length]?=aa r) (hb:r.state≠ .busy) (hp:r.pending=aa .ret)
 (hq:Q .ret e (h'.done h.loops.length r)):bM (whole P G aQ) (.rangeFunc f params assign body) e h Q:=by
 unfold bM;rw[sX];unfold fW;have iN:(whole P G aQ).call g (first++[.yield h.loops.length]++aF) {h with loops:=h.loops++[{tmps:=e.tmps,params,assign,body,state:=.ready,pending:=av}]}=aa (.ret x,h'):=hc;simp only[hf,iN,hr,hp];rw[aJ hb];refine⟨_,_,_,rfl,?_⟩;simpa only[ar.done,hp] using hq
def nV(l:Nat)(r:iW)(args:List AV):Env:={tmps:=Gp r.params.toList args r.tmps,defers:=[],dg:=av,round:=aa l}
def ar.busy(h:ar)(l:Nat)(r:iW):ar:={h with loops:=h.loops.set l {r with state:=.busy}}
def asb(l:Nat)(x:fg)(h':ar):Xt->Env->ar->Prop
 | .normal,_,h2=>∃r,h2.loops[l]?=aa r/\x=.ret (.v (.bool ah))/\h'={h2 with loops:=h2.loops.set l {r with state:=.ready,pending:=av}}
 | .ret,_,h2=>∃r,h2.loops[l]?=aa r/\x=.ret (.v (.bool aB))/\h'={h2 with loops:=h2.loops.set l {r with state:=.done,pending:=aa .ret}}
 | .exit id,_,h2=>∃r,h2.loops[l]?=aa r/\x=.ret (.v (.bool aB))/\h'={h2 with loops:=h2.loops.set l {r with state:=.done,pending:=aa (.exit id)}}
 | .panic z,_,h2=>x=.panic z/\h'=h2
def Mr{l:Nat}{args:List AV}{r:iW}{x:fg}{h':ar}(hr:h.loops[l]?=aa r)(hs:r.params.size=args.length)
 (ha:bM (whole P G aQ) r.assign (nV l r args) h (λo e1 h1=>o=.normal/\∃r2,h1.loops[l]?=aa r2/\r2.state=.ready/\bM (whole P G aQ) r.body e1 (h1.busy l r2) (asb l x h'))):
 (whole P G aQ).round l args h=aa (x,h'):=by
 rw[awD];unfold xl;obtain⟨o,e1,h1,e2,rfl,r2,q1,q2,o2,e3,h3,q3,q4⟩:=ha;have e2':(whole P G aQ).code r.assign {tmps:=Gp r.params.toList args r.tmps,defers:=[],dg:=av,round:=aa l} h=aa (.normal,e1,h1):=e2;have q3':(whole P G aQ).code r.body e1 {h1 with loops:=h1.loops.set l {r2 with state:=.busy}}=aa (o2,e3,h3):=q3;simp only[hr,hs,if_true,e2',q1,q2];rw[show({h1 with loops:=h1.loops.set l {tmps:=r2.tmps,params:=r2.params,assign:=r2.assign,body:=r2.body,state:=LoopState.busy,pending:=r2.pending}}:ar)={h1 with loops:=h1.loops.set l {r2 with state:=.busy}} from rfl,q3'];cases o2 with
 |normal=>obtain⟨r3,w1,rfl,rfl⟩:=q4;simp only[w1,ft]
 |ret=>obtain⟨r3,w1,rfl,rfl⟩:=q4;simp only[w1,ft]
 |exit id=>obtain⟨r3,w1,rfl,rfl⟩:=q4;simp only[w1,ft]
 |panic z=>obtain⟨rfl,rfl⟩:=q4;rfl
end
end Go.AE
end
section
namespace Go.AE
structure Fr(bn l0 n0:Nat)(h h':ar):Prop where
 box:∀(c:Nat) (cs:List AV),c≠bn->h.boxes[c]?=aa cs->h'.boxes[c]?=aa cs
 len:h.boxes.length<=h'.boxes.length
 loop:∀(l:Nat) (r:iW),l<l0->h.loops[l]?=aa r->h'.loops[l]?=aa r
 FT:h.loops.length<=h'.loops.length
 tn:h.tn<=h'.tn
 dead:∀n,n<n0->n∈h'.dead->n∈h.dead
 ok:cK h=ah->cK h'=ah
def Fr.refl(bn l0 n0)(h):Fr bn l0 n0 h h:=⟨λ_ _ _ h=>h,aL _,λ_ _ _ h=>h,aL _,aL _,λ_ _ h=>h,λh=>h⟩
def Fr.trans{bn l0 n0}{a b c}(h:Fr bn l0 n0 a b)(k:Fr bn l0 n0 b c):Fr bn l0 n0 a c:=
 ⟨λi cs hi hb=>k.box i cs hi (h.box i cs hi hb),fG h.len k.len,λl r hl hr=>k.loop l r hl (h.loop l r hl hr),fG h.FT k.FT,fG h.tn k.tn,λn hn hd=>h.dead n hn (k.dead n hn hd),λho=>k.ok (h.ok ho)⟩
def Ext.FT{h h'}(x:Ext h h'):h.loops.length<=h'.loops.length:=by
 rcases ez h'.loops.length h.loops.length with aC|eF
 ·have h1:=x.loop h'.loops.length _ (aU aC);have:=(aW.1 h1).1;omega
 ·exact eF
def Fr.DK{bn l0 n0}{h h'}(x:Ext h h')(hn:n0<=h.tn):Fr bn l0 n0 h h':=
 ⟨λc cs _ hc=>x.box c cs hc,x.len,λl r _ hl=>x.loop l r hl,x.FT,x.tn,λn h1 h2=>x.dead n (nE h1 hn) h2,x.ok⟩
def Fr.push(bn l0 n0)(h)(cs):Fr bn l0 n0 h (h.push cs):=
 ⟨λ_ _ _ hb=>bh hb,by rw[cR];exact He _,λ_ _ _ h=>h,aL _,aL _,λ_ _ h=>h,λh=>h⟩
def Fr.put(bn l0 n0)(h)(cs):Fr bn l0 n0 h (h.put bn cs):=
 ⟨λc ds hc hb=>by rw[dh hc];exact hb,by rw[mE];exact aL _,λ_ _ _ h=>h,aL _,aL _,λ_ _ h=>h,λh=>h⟩
def ar.fc(h:ar)(l:Nat)(r:iW):ar:={h with loops:=h.loops.set l r}
def Fr.fc{bn l0 n0}{h}{l}(hl:l0<=l)(r):Fr bn l0 n0 h (h.fc l r):=
 ⟨λ_ _ _ hb=>hb,aL _,λm q hm hq=>by rw[<-hq];exact Kd ai,by simp[ar.fc],aL _,λ_ _ h=>h,λh=>h⟩
def Fr.BC{bn l0 n0}(h)(r):Fr bn l0 n0 h (h.loop r):=
 ⟨λ_ _ _ hb=>hb,aL _,λm q hm hq=>wD hq,by simp[ar.loop],aL _,λ_ _ h=>h,λh=>h⟩
def Fr.ext{bn l0 n0}{h h'}(x:Fr bn l0 n0 h h')(hb:h.boxes.length<=bn)(hl:h.loops.length<=l0)(hn:h.tn<=n0):Ext h h':=
 ⟨λc cs hc=>x.box c cs (by have:=(aW.1 hc).1;omega) hc,λl r hr=>x.loop l r (by have:=(aW.1 hr).1;omega) hr,x.tn,λn h1 h2=>x.dead n (nE h1 hn) h2,x.ok⟩
def ab9{h:ar}{l}{r}(hl:l<h.loops.length):(h.fc l r).loops[l]?=aa r:=by simp[ar.fc,hl]
def ab8{h:ar}{l m}{r}(hl:m≠l):(h.fc l r).loops[m]?=h.loops[m]?:=by simp[ar.fc,Kd (Ne.symm hl)]
def DG{h:ar}{r}:(h.loop r).loops[h.loops.length]?=aa r:=by simp[ar.loop]
def aag{h:ar}{r q}{l:Nat}(hq:h.loops[l]?=aa q):(h.loop r).loops[l]?=aa q:=wD hq
def St(l:Nat)(h h':ar):Prop:=(∀(b:Nat) (cs:List AV),h.boxes[b]?=aa cs->h'.boxes[b]?=aa cs)/\∀(m:Nat) (r:iW),m<=l->h.loops[m]?=aa r->h'.loops[m]?=aa r
def St.refl(l)(h):St l h h:=⟨λ_ _ h=>h,λ_ _ _ h=>h⟩
def St.trans{l}{a b c}(h:St l a b)(k:St l b c):St l a c:=⟨λi cs hb=>k.1 i cs (h.1 i cs hb),λm r hm hr=>k.2 m r hm (h.2 m r hm hr)⟩
def St.push(l)(h)(cs):St l h (h.push cs):=⟨λ_ _ hb=>bh hb,λ_ _ _ h=>h⟩
def St.DK{l}{h h'}(x:Ext h h'):St l h h':=⟨x.box,λm r _ hr=>x.loop m r hr⟩
def St.fc{l k}{h}(hl:l<k)(r):St l h (h.fc k r):=⟨λ_ _ hb=>hb,λm q hm hq=>by rw[ab8 ai];exact hq⟩
def St.BC(l)(h)(r):St l h (h.loop r):=⟨λ_ _ hb=>hb,λm q _ hq=>aag hq⟩
def St.fZ{l}{h h'}(x:St l h h'){b}(hb:h.boxes.length<=b)(cs):St l h (h'.put b cs):=
 ⟨λc ds hc=>by have aC:c<h.boxes.length:=(aW.1 hc).1;rw[dh ai];exact x.1 c ds hc,x.2⟩
inductive Nx (α:Type) where
 |cont (a:α)|stop (a:α)|panic (v:AV)
def bM.gen{R}{c}{e}{h}{Q}(hq:∀e2:Env,(∀t,e2.get t=e.get t)->e2.defers=e.defers->e2.dg=e.dg->e2.round=e.round->bM R c e2 h Q):bM R c e h Q:=hq e (λ_=>rfl) rfl rfl rfl
section
variable {P:bL} {G:Nat->Option (List AV)} {aQ:bq->Option (List AV->ar->Option (AV × ar))} {Q:Xt->Env->ar->Prop} {e:Env} {h:ar}
def DU{f:bU}{params:Array Tmp}{assign body:Code}{g:bq}{first aF:List AV}(hf:e.eval f=.func (.func g) first aF)
 (H:∀rec:iW,rec.tmps=e.tmps->rec.params=params->rec.assign=assign->rec.body=body->rec.state=.ready->rec.pending=av->∃r h',(whole P G aQ).call g (first++[.yield h.loops.length]++aF) (h.loop rec)=aa (r,h')/\
  match r with
  | .panic x=>Q (.panic x) e h'
  | .ret _=>∃rc,h'.loops[h.loops.length]?=aa rc/\rc.state≠ .busy/\((rc.pending=av/\Q .normal e (h'.fc h.loops.length {rc with state:=.exhausted}))∨(rc.pending=aa .ret/\Q .ret e (h'.fc h.loops.length {rc with state:=.exhausted})))):
 bM (whole P G aQ) (.rangeFunc f params assign body) e h Q:=by
 obtain⟨r,h',hc,hm⟩:=H (LR e params assign body) rfl rfl rfl rfl rfl rfl;cases r with
 |panic x=>exact aty hf hc hm|ret x=>
  obtain⟨rc,h1,h2,h3|h3⟩:=hm
  ·exact atx hf hc h1 h2 h3.1 h3.2
  ·exact atz hf hc h1 h2 h3.1 h3.2
def abv{l p t:Nat}{r:iW}{x:AV}(hp:r.params=#[p])(ht:r.tmps=e.tmps):(nV l r [x]).get t=if p=t then x else e.get t:=by unfold nV;rw[hp,ht];exact FV e.tmps p t x
def St.mono{l l'}(hl:l<=l'){h h'}(x:St l' h h'):St l h h':=⟨x.1,λm r hm hr=>x.2 m r ai hr⟩
end
end Go.AE
end
section
namespace Go.AE
section
variable {P:bL} {G:Nat->Option (List AV)} {R:Rec}
end
section
variable {P:bL} {G:Nat->Option (List AV)} {aQ:bq->Option (List AV->ar->Option (AV × ar))} {Q:Xt->Env->ar->Prop} {e:Env} {h:ar}
end
end Go.AE
end
section
namespace Go.AE
section
variable {P:bL} {G:Nat->Option (List AV)} {R:Rec} {ops:Array Oper} {k:Nat}
end
section
variable {P:bL} {G:Nat->Option (List AV)} {aQ:bq->Option (List AV->ar->Option (AV × ar))} {Q:Xt->Env->ar->Prop} {e:Env} {h:ar}
def gE(ops:Array Oper)(k:Nat)(ps:List (Nat × Nat)):Bool:=ps.all λp=>qF (cut ops k) p.1 p.2&&(decide (p.1<k)&&decide (p.2<k))
end
end Go.AE
end
