/-
  The engine, part 13b: a region that draws, and is ended by a panic of its last operation.
-/
import Derived.Test.YtnfciiiohoafaaaGreatDoorTA
import Derived.Laws.BitsLemmas
import Derived.ChangeArms
import Derived.OpenShut
import Derived.Carry
import Derived.ProofKit
import Derived.ChangeSame
open Bool renaming false->av,true->ah,and_eq_true->bC,not_true->QK,or_eq_true->tQ,false_eq_true->jG,true_or->ZX,or_true->QL,not_false->yl,eq_iff_iff->Ek,true_and->rP,false_and->zL
open Nat renaming strongRecOn->Rk,lt_trans->oE,eq_of_beq_eq_true->jw,le_of_lt->mJ,lt_or_ge->dI,le_antisymm->Aa,lt_of_lt_of_le->mq,lt_succ_iff->Ab,le_max_left->EO,le_max_right->Ci,lt_succ_of_lt->u6,le_refl->aJ,beq->jq,zero_le->cr,add_mul->gg,le_trans->fe,le_succ->EP
open Array renaming getElem?_eq_getElem->lQ,all_eq_true'->KK,getElem?_toList->BP,mem_push->ZJ,all_eq_true->Ej,replicate->BQ,getD_eq_getD_getElem?->ZE,size->ZL,getElem_toList->ZH,getElem?_eq_none->wF
open Option renaming some->aa,some.injEq->dA,map_some->eJ,bind_some->ph,none->aq,map_eq_some_iff->dh,map_none->Lv,isSome_none->Af
open List renaming cons.injEq->Q4,getElem?_toArray->jc,all_eq_true->dU,mem_range->fY,mem_cons->gO,getElem?_set->lR,range->bO,mem_cons_self->fR,mem_cons_of_mem->fi,mem_append_left->Ra,mem_append->uZ,any_eq_true->EA,getElem?_eq_some_iff->aP,getElem?_eq_getElem->aO,mapM_cons->aaD,getElem?_eq_none->sZ,range'->aaH,range'_succ->aaI,drop_eq_getElem_cons->zR,drop_zero->iC,range_eq_range'->Lc,mem_append_right->aaG,take_length->fA,toArray->Lg,getElem?_set_ne->HG
open Prod renaming mk.injEq->cX
open And renaming intro->ar
set_option linter.unusedSimpArgs false
set_option linter.unusedVariables false
set_option linter.constructorNameAsVariable false
set_option linter.defProp false
section
namespace Go.AE
section
variable {P:Program} {G:Nat->Option (List AV)} {R:Rec} {ops:Array Oper} {e:Env} {h:ak}
def oi.trans{a b c}(h:oi a b)(k:oi b c):oi a c:=⟨λt=>(h.hD t).trans (k.hD t),h.defers.trans k.defers,h.cD.trans k.cD,h.round.trans k.round⟩
def oi.symm{a b}(h:oi a b):oi b a:=⟨λt=>(h.hD t).symm,h.defers.symm,h.cD.symm,h.round.symm⟩
def oi.refl(a):oi a a:=⟨λ_=>rfl,rfl,rfl,rfl⟩
def oi.eval{a b}(h:oi a b)(x):a.eval x=b.eval x:=by
 cases x with|tmp t=>exact h.hD t|_=>rfl
def oi.wanted{a b:Env}(h:oi a b)(o:Oper):eY ops a o=eY ops b o:=by
 unfold eY;cases o.guard with
 |none=>rfl|some q=>
  simp only;cases (ops[q.1]?).bind (·.dst) with|none=>rfl|some d=>simp only[h.hD d]
variable {b:Array Nat}
end
end Go.AE
end
section
namespace Go.AE
section
variable {P:Program} {G:Nat->Option (List AV)} {R:Rec} {ops:Array Oper} {e:Env} {h:ak} {k:Nat}
inductive asV (ops:Array Oper) (k i:Nat):Prop
 |self (h:i=k)
 |ahead (h1:Dq ops k i=av) (h2:TU ops k i=ah) (h3:i<k) (h4:Ord (Region.before (cut ops k)) i k)
 |beside (h1:Dq ops k i=av) (h2:TU ops k i=ah) (h3:adC ops i=ah) (h4:oJ ops i k=ah)
 |behind (h1:k<i) (h2:Dq ops k i=ah) (h3:Ord (Region.before (cut ops k)) k i)
def Fits.lt{b:Array Nat}(F:Fits P G R ops e h b):∀(j i:Nat),j<ops.size->i<ops.size->Ord b i j->i<j:=by
 intro j
 induction j using Rk with
 |_ j ih=>
  intro i hj hi ho;have hx:ops[j]?=aa ops[j]:=lQ hj;obtain⟨ed,fE,mQ,hq⟩:=F.bits j i _ hx hi ho;have aA:=F.Ik j _ hx ed fE mQ;rcases hq with q|q
  ·omega
  ·have:=ih ed.on aA i (oE aA hj) hi q;omega
structure asU(ops:Array Oper)(k:Nat)(a b:Env):Prop where
 hD:∀t,(∀i,i<ops.size->afh ops k i≠aa t)->a.get t=b.get t
 defers:a.defers=b.defers
 cD:a.cD=b.cD
 round:a.round=b.round
end
end Go.AE
end
section
namespace Go.AE
open Go.RowKit (Below)
section
variable {P:Program} {G:Nat->Option (List AV)} {w0:World} {R:Rec}
def Steps.tail{m m1 m2:Machine}(h:step P m=.next m1)(hs:Steps P m m2)(bH:m≠m2):Steps P m1 m2:=by
 obtain⟨n,hn⟩:=hs;cases n with|zero=>simp[runN] at hn;exact absurd hn bH|succ n=>simp only[runN,h] at hn;exact⟨n,hn⟩
def Js{fr fr'}{cs dB}{w w'}(h:lone fr cs w=lone fr' dB w'):fr=fr':=by unfold lone at h;simp only[Machine.mk.injEq,Array.mk.injEq,Q4,Goroutine.mk.injEq] at h;exact h.2.1.1.1
def nB.swap{K:aS}{m m1 m':Machine}{B:Frame}{k:List Item}{c:Code}{cs cs0:List Frame}{x:Xt}{a a0:Act}{w wz:World}(hc:∀id,c≠ .exit id)(AS:c≠ .ret)(hm:m=lone (B.atR a0 (.code c::k)) cs0 wz)
 (h1:step P m=.next m1) (h2:step P m'=.next m1) (h:nB P K m B k cs x a w):nB P K m' B k cs x a w:=by
 refine nB.of_steps (.one h2) ?_;cases x with
 |normal=>refine Steps.tail h1 h ?_;rw[hm];intro hq;have:=congrArg Frame.todo (Js hq);simp only[Frame.atR] at this;exact absurd (congrArg List.length this) bh|exit id=>obtain⟨t,e1,e2⟩:=h;refine⟨t,e1,Steps.tail h1 e2 ?_⟩;rw[hm];intro hq;have:=congrArg Frame.todo (Js hq);simp only[Frame.atR,Q4,Item.code.injEq] at this;exact hc id this.1
 |ret=>obtain⟨t,e2⟩:=h;refine⟨t,Steps.tail h1 e2 ?_⟩;rw[hm];intro hq;have:=congrArg Frame.todo (Js hq);simp only[Frame.atR,Q4,Item.code.injEq] at this;exact AS this.1
 |panic x=>obtain⟨t,v,e1,e2⟩:=h;refine⟨t,v,e1,Steps.tail h1 e2 ?_⟩;rw[hm];intro hq;have:=congrArg Frame.mode (Js hq);simp[Frame.atR] at this
def Left.refl{K:aS}{w:World}{a:Act}{B:Frame}{ms:List Nat}{base cs:List Frame}{k:List Item}{m:Machine}{out:Xt}{e:Env}{h:ak}(hf:mZ P K e a B ms)(bW:CS K B.kind base e.cD cs)(hs:jT P G w0 K h w)(ha:nB P K m B k cs out a w):
 Left P G w0 K ms B base m k a.tmps.size out e h K w a cs ms:=
 ⟨.refl K,hs,hf,bW,rfl,λ_ hr=>.inl hr,ha⟩
def Left.of_steps{K K':aS}{w':World}{a':Act}{B:Frame}{ms ms':List Nat}{base dB:List Frame}{k:List Item}{m m1:Machine}{out:Xt}{e':Env}{h':ak}{n:Nat}(hs:Steps P m m1)(L:Left P G w0 K ms B base m1 k n out e' h' K' w' a' dB ms'):
 Left P G w0 K ms B base m k n out e' h' K' w' a' dB ms':=
 ⟨L.le,L.pW,L.frame,L.cs,L.size,L.marks,L.arr.of_steps hs⟩
def OX(hn:Co P)(hR:ve P G w0 R){ops:Array Oper}:∀(l:List Nat) (e:Env) (h:ak) (out:Xt) (e':Env) (h':ak),cV P G R ops l e h=aa (out,e',h')->
 ∀(K:aS) (w:World) (a:Act) (B:Frame) (k:List Item) (base cs:List Frame) (ms:List Nat),mZ P K e a B ms->CS K B.kind base e.cD cs->jT P G w0 K h w->DP a.tmps.size ops=ah->
 ∃K' w' a' dB,Left P G w0 K ms B base (lone (B.atR a (.inRegion ops l::k)) cs w) k a.tmps.size out e' h' K' w' a' dB ms:=by
 intro l
 induction l with
 |nil=>intro e h out e' h' he K w a B k base cs ms hf bW hs Be;simp only[cV,dA,cX] at he;obtain⟨rfl,rfl,rfl⟩:=he;exact⟨K,w,a,cs,.refl hf bW hs (.one stepR_region_end)⟩
 |cons i rest ih=>
  intro e h out e' h' he K w a B k base cs ms hf bW hs Be;simp only[cV] at he;cases ho:ops[i]? with
  |none=>rw[ho] at he;cases he
  |some o=>
   rw[ho] at he;simp only at he;have UG:=WI Be ho;cases hw:eY ops e o with
   |none=>rw[hw] at he;cases he
   |some b=>
    rw[hw] at he;have VJ:=ash hf.hD Be hw;cases b with
    |false=>simp only at he;have iH:=stepR_op_skip (P:=P) (b:=B) (a:=a) (k:=k) (cs:=cs) (w:=w) (ops:=ops) (i:=i) (rest:=rest) (by rw[ho];simpa using VJ);have hb:(ops[i]?).bind (·.dst)=o.dst:=(by rw[ho];rfl);rw[hb] at iH;obtain⟨K',w',a',dB,L⟩:=ih _ _ _ _ _ he K w (a.put o.dst undef) B k base cs ms (hf.put UG (.tuple [] #[] .nil)) (by cases o.dst<;>exact bW) hs (by rw[JK];exact Be);rw[JK] at L;exact⟨K',w',a',dB,.of_steps (.one iH) L⟩
    |true=>
     simp only at he;cases bK:dO P G R e h o with
     |none=>rw[bK] at he;cases he
     |some q=>
      obtain⟨r,e1,h1⟩:=q;rw[bK] at he;obtain⟨K1,w1,a1,cs1,le1,s1,f1,c1,z1,gH⟩:=aks (i:=i) (rest:=rest) hn hR bK hf bW hs ho VJ k;cases r with
      |ret x=>obtain⟨v,hx,bZ⟩:=gH;simp only at he;obtain⟨K',w',a',dB,L⟩:=ih _ _ _ _ _ he K1 w1 (a1.put o.dst v) B k base cs1 ms (f1.put (by rw[z1];exact UG) hx) (by cases o.dst<;>exact c1) s1 (by rw[JK,z1];exact Be);rw[JK,z1] at L;refine⟨K',w',a',dB,le1.trans L.le,L.pW,L.frame,L.cs,L.size,λr hr=>.inl hr,L.arr.of_steps bZ⟩
      |panic x=>obtain⟨v,todo,hx,bZ⟩:=gH;simp only[dA,cX] at he;obtain⟨rfl,rfl,rfl⟩:=he;exact⟨K1,w1,a1,cs1,le1,s1,f1,c1,z1,λr hr=>.inl hr,todo,v,hx,bZ⟩
def mZ.same{K:aS}{e e2:Env}{a:Act}{B:Frame}{ms:List Nat}(hf:mZ P K e a B ms)(hs:oi e e2):mZ P K e2 a B ms:=by
 refine⟨λt=>?_,hs.defers ▸ hf.defers,?_,hf.fn⟩
 ·have:=hs.hD t;unfold Env.get at this;rw[<-this];exact hf.hD t
 ·have:=hf.round;rw[hs.round,hs.defers] at this;exact this
def ajP{n:Nat}{ps:Array Tmp}(h:(ps.all λp=>decide (p<n))=ah):∀p∈ps.toList,p<n:=by intro p hp;rw[KK] at h;simpa using h p (Array.mem_toList_iff.1 hp)
end
end Go.AE
end
section
namespace Go.AE
section
variable {P:Program} {G:Nat->Option (List AV)} {R:Rec} {ops:Array Oper} {i:Nat}
end
end Go.AE
end
section
namespace Go.AE
section
variable {K:aS} {G:Nat->Option (List AV)} {ok:FuncId->Nat->Code->Bool} {w0 w:World} {h:ak}
end
end Go.AE
end
section
namespace Go.AE
open Go.RowKit (Below)
section
variable {P:Program} {G:Nat->Option (List AV)} {w0:World} {R:Rec}
structure QM(d:Tmp)(e eh:Env):Prop where
 hD:∀t,t≠d->e.get t=eh.get t
 defers:e.defers=eh.defers
 cD:e.cD=eh.cD
 round:e.round=eh.round
def QM.eval{d}{e eh}(b:QM d e eh){x}(hx:x≠ .tmp d):e.eval x=eh.eval x:=by
 cases x with|tmp t=>exact b.hD t λq=>hx (by rw[q])|_=>rfl
end
end Go.AE
end
section
namespace Go.AE
section
variable {ops:Array Oper} {i:Nat}
def ready_mono{S S':Nat->Bool}{k:Nat}(hr:oh ops S k)(h:∀j,S j=ah->S' j=ah):oh ops S' k:=λo ho ed fE hb=>h _ (hr o ho ed fE hb)
def OU(S)(a b):dK (dK S a) b=dK (dK S b) a:=by funext j;unfold dK;by_cases h1:j=a<;>by_cases h2:j=b<;>simp[h1,h2]
structure asW(ops:Array Oper)(i:Nat)(d2:Tmp):Prop where
 lt:i+1<ops.size
 no:Il ops i (i+1)=av
 all:∀k,k<ops.size->k≠i->k≠i+1->Il ops (i+1) k=ah∨Il ops k i=ah∨(ajr ops d2 k=ah/\Il ops k (i+1)=av)
variable {d2:Tmp}
variable {P:Program} {G:Nat->Option (List AV)} {w0:World} {R:Rec}
end
end Go.AE
end
section
namespace Go.AE
section
variable {ops:Array Oper} {i j:Nat} {P:Program} {G:Nat->Option (List AV)} {R:Rec}
def rf:(gi ops i j).size=ops.size:=by simp[gi]
def CJ(k:Nat):(gi ops i j)[k]?=(ops[k]?).map λo=>if k=j then {o with after:=o.after.push {on:=i,ground:=.data}} else o:=by unfold gi;simp only[jc,List.getElem?_mapIdx,BP]
def Td(k:Nat):((gi ops i j)[k]?).bind (·.dst)=(ops[k]?).bind (·.dst):=by
 rw[CJ];cases ops[k]? with|none=>rfl|some o=>simp only[eJ,ph];split<;>rfl
def asg(e:Env)(o:Oper):eY (gi ops i j) e o=eY ops e o:=by
 unfold eY;cases o.guard with|none=>rfl|some g=>simp only[Td]
def Bv:∀(L:List Nat) (e:Env) (h:ak),cV P G R (gi ops i j) L e h=cV P G R ops L e h:=by
 intro L
 induction L with
 |nil=>intro e h;rfl|cons k L ih=>
  intro e h;unfold cV;rw[CJ];cases ho:ops[k]? with
  |none=>rfl|some o=>
   simp only[eJ];have e1:∀o':Oper,o'.op=o.op->o'.type=o.type->o'.guard=o.guard->o'.dst=o.dst->(eY (gi ops i j) e o'=eY ops e o/\dO P G R e h o'=dO P G R e h o):=(by intro o' q1 q2 q3 q4;refine⟨by rw[asg];unfold eY;rw[q3],?_⟩;unfold dO;rw[q1,q2,q4]);by_cases hk:k=j
   ·rw[aF hk];obtain⟨q1,q2⟩:=e1 {o with after:=o.after.push {on:=i,ground:=.data}} rfl rfl rfl rfl;rw[q1,q2];simp only[ih]
   ·rw[aG hk];obtain⟨q1,q2⟩:=e1 o rfl rfl rfl rfl;rw[q1];simp only[ih]
def x7{S:Nat->Bool}{k:Nat}(hr:oh ops S k)(hk:k=j->S i=ah):oh (gi ops i j) S k:=by
 intro o ho ed fE hb;rw[CJ] at ho;cases hq:ops[k]? with
 |none=>rw[hq] at ho;cases ho
 |some o0=>
  rw[hq] at ho;simp only[eJ,dA] at ho;split at ho
  ·rename_i A3;subst ho;rcases ZJ.1 fE with q|q
   ·exact hr o0 hq ed q hb
   ·subst q;exact hk A3
  ·subst ho;exact hr o0 hq ed fE hb
def ajq:∀(L:List Nat) (S:Nat->Bool),S i=ah->nD ops S L->nD (gi ops i j) S L:=by
 intro L
 induction L with
 |nil=>intro S _ h k hk;exact h k (by rw[rf] at hk;exact hk)
 |cons k L ih=>
  intro S hS h;obtain⟨h1,h2,h3,h4⟩:=h;refine⟨by rw[rf];exact h1,h2,x7 h3 λ_=>hS,ih _ ?_ h4⟩;unfold dK;split
  ·rfl
  ·exact hS
def acp(h:yj (gi ops i j)):yj ops:=by
 intro k o ho ed fE hb;have hg:(gi ops i j)[k]?=aa (if k=j then {o with after:=o.after.push {on:=i,ground:=.data}} else o):=by rw[CJ,ho];rfl
 refine h k _ hg ed ?_ hb;split
 ·exact ZJ.2 (.inl fE)
 ·exact fE
def B4(ops:Array Oper)(S:Nat->Bool):Prop:=∀(k:Nat) (o:Oper),ops[k]?=aa o->S k=ah->∀ed∈o.after,Region.binds .any ed=ah->S ed.on=ah
def B4.one{S:Nat->Bool}{k:Nat}(c:B4 ops S)(hr:oh ops S k):B4 ops (dK S k):=by
 intro m o ho hS ed fE hb;unfold dK at hS ⊢;split
 ·rfl
 ·split at hS
  ·rename_i q;subst q;exact hr o ho ed fE hb
  ·exact c m o ho hS ed fE hb
def acC{S:Nat->Bool}(hB:Al ops (Region.before ops)=ah)(c:B4 ops S){k:Nat}:∀(m:Nat),m<ops.size->oh ops S m->((Region.before ops).getD m 0).testBit k=ah->k<ops.size->S k=ah:=by
 intro m
 induction m using Rk with
 |_ m ih=>
  intro hm hr hb hk;unfold Al at hB;rw[dU] at hB;have:=hB m (fY.2 hm);have ho:ops[m]?=aa ops[m]:=lQ hm;rw[ho] at this;simp only[bC,dU,KK] at this;obtain⟨h1,h2⟩:=this;have h3:=h2 k (fY.2 hk);rw[hb] at h3;simp only[QK,Bool.false_or,Array.any_eq_true',bC,tQ] at h3;obtain⟨ed,fE,mQ,hq⟩:=h3;have hs:=hr _ ho ed fE mQ;rcases hq with hq|hq
  ·rw[<-jw hq];exact hs
  ·have aA:ed.on<m:=(by have:=h1 ed fE;rw[mQ] at this;simpa using this);exact ih ed.on aA ag (λo iz ed' ahu gU=>c _ o iz hs ed' ahu gU) hq hk
def amt{n:Nat}(hB:yj ops)(hn:n+1=ops.size):∀(L:List Nat) (S:Nat->Bool),S n=av->S i=ah->oh ops S n->nD ops (dK S n) L->nD (gi ops i n) S (L++[n]):=by
 intro L
 induction L with
 |nil=>intro S hS hi hr h;refine⟨by rw[rf];omega,hS,x7 hr λ_=>hi,λk hk=>?_⟩;exact h k (by rw[rf] at hk;exact hk)
 |cons k L ih=>
  intro S hS hi hr h;obtain⟨h1,h2,h3,h4⟩:=h;unfold dK at h2;split at h2
  ·cases h2
  ·rename_i rn;have iS:oh ops S k:=by
    intro o ho ed fE hb;have:=h3 o ho ed fE hb;unfold dK at this;split at this
    ·rename_i q;have:=hB k o ho ed fE hb;omega
    ·exact this
   refine⟨by rw[rf];exact h1,h2,x7 iS (λq=>absurd q rn),ih (dK S k) ?_ ?_ ?_ ?_⟩
   ·unfold dK;rw[aG (Ne.symm rn)];exact hS
   ·unfold dK;split;rfl;exact hi
   ·exact ready_mono hr λj hj=>by unfold dK;split;rfl;exact hj
   ·rw[OU];exact h4
def amu{n:Nat}(hB:yj ops)(hn:n+1=ops.size)(iu:i<n):∀(L:List Nat) (S:Nat->Bool),S n=av->S i=av->oh ops S n->nD ops (dK S n) L->
 ∃M1 M2,L=M1++i::M2/\(∀k∈M1,k<ops.size/\k≠i/\k≠n/\S k=av)/\(∀k∈M2,k<ops.size/\k≠i/\k≠n/\S k=av)/\nD (gi ops i n) S (M1++i::(M2++[n])):=by
 intro L
 induction L with
 |nil=>intro S hS hi hr h;have:=h i ag;unfold dK at this;rw[aG ag,hi] at this;cases this
 |cons k L ih=>
  intro S hS hi hr h;obtain⟨h1,h2,h3,h4⟩:=h;unfold dK at h2;split at h2
  ·cases h2
  ·rename_i rn;have iS:oh ops S k:=by
    intro o ho ed fE hb;have:=h3 o ho ed fE hb;unfold dK at this;split at this
    ·rename_i q;have:=hB k o ho ed fE hb;omega
    ·exact this
   have Dh:oh ops (dK S k) n:=ready_mono hr λj hj=>(by unfold dK;split;rfl;exact hj);by_cases Dc:k=i
   ·subst Dc;have mem2:∀(L:List Nat) (S:Nat->Bool),nD ops S L->∀m∈L,m<ops.size/\S m=av:=by
     intro L
     induction L with
     |nil=>intro S _ m hm;cases hm
     |cons a L ih2=>
      intro S hL m hm;obtain⟨q1,q2,q3,q4⟩:=hL;rcases gO.1 hm with rfl|hm
      ·exact⟨q1,q2⟩
      ·obtain⟨p1,p2⟩:=ih2 _ q4 m hm;unfold dK at p2;split at p2
       ·cases p2
       ·exact⟨p1,p2⟩
    refine⟨[],L,rfl,λm hm=>(nomatch hm),λm hm=>?_,?_⟩
    ·obtain⟨p1,p2⟩:=mem2 L _ h4 m hm;unfold dK at p2;split at p2
     ·cases p2
     ·rename_i q1;split at p2
      ·cases p2
      ·rename_i q2;exact⟨p1,q1,q2,p2⟩
    ·refine⟨by rw[rf];exact h1,hi,x7 iS (λq=>absurd q rn),?_⟩;refine amt hB hn L _ ?_ ?_ Dh ?_
     ·unfold dK;rw[aG (Ne.symm rn)];exact hS
     ·unfold dK;rw[aF rfl]
     ·rw[OU];exact h4
   ·rw[OU] at h4;obtain⟨M1,M2,e1,e2,e3,e4⟩:=ih (dK S k) (by unfold dK;rw[aG (Ne.symm rn)];exact hS) (by unfold dK;rw[aG (Ne.symm Dc)];exact hi) Dh h4;have sV:∀m,dK S k m=av->S m=av:=λm q=>by
     unfold dK at q;split at q
     ·cases q
     ·exact q
    refine⟨k::M1,M2,by rw[e1];rfl,λm hm=>?_,λm hm=>?_,by rw[rf];exact h1,h2,x7 iS (λq=>absurd q rn),e4⟩
    ·rcases gO.1 hm with rfl|hm
     ·exact⟨h1,Dc,rn,h2⟩
     ·obtain⟨p1,p2,p3,p4⟩:=e2 m hm;exact⟨p1,p2,p3,sV m p4⟩
    ·obtain⟨p1,p2,p3,p4⟩:=e3 m hm;exact⟨p1,p2,p3,sV m p4⟩
def akM{n:Nat}(hB:yj ops)(hn:n+1=ops.size)(iu:i<n):∀(L:List Nat) (S:Nat->Bool),S n=av->S i=av->B4 ops S->nD ops S L->
 nD (gi ops i n) S L∨∃pre M1 M2 S',L=pre++(n::(M1++i::M2))/\S' i=av/\oh ops S' n/\B4 ops S'/\(∀k∈M1,k<ops.size/\k≠i/\k≠n/\S' k=av)/\(∀k∈M2,k<ops.size/\k≠i/\k≠n/\S' k=av)/\nD (gi ops i n) S (pre++(M1++i::(M2++[n]))):=by
 intro L
 induction L with
 |nil=>intro S h1 h2 _ h;have:=h i ag;rw[h2] at this;cases this
 |cons k L ih=>
  intro S hS hi hc h;obtain⟨h1,h2,h3,h4⟩:=h;by_cases Dc:k=i
  ·subst Dc;exact .inl ⟨by rw[rf];exact h1,h2,x7 h3 (λq=>by omega),ajq L _ (by unfold dK;rw[aF rfl]) h4⟩
  ·by_cases rn:k=n
   ·subst rn;obtain⟨M1,M2,e1,e2,e3,e4⟩:=amu hB hn iu L S hS hi h3 h4;exact .inr ⟨[],M1,M2,S,by rw[e1];rfl,hi,h3,hc,e2,e3,e4⟩
   ·rcases ih (dK S k) (by unfold dK;rw[aG (Ne.symm rn)];exact hS) (by unfold dK;rw[aG (Ne.symm Dc)];exact hi) (hc.one h3) h4 with q|⟨pre,M1,M2,S',e1,e0,e2,e3,e4,e5,e6⟩
    ·exact .inl ⟨by rw[rf];exact h1,h2,x7 h3 (λq=>absurd q rn),q⟩
    ·exact .inr ⟨k::pre,M1,M2,S',by rw[e1];rfl,e0,e2,e3,e4,e5,by rw[rf];exact h1,h2,x7 h3 (λq=>absurd q rn),e6⟩
def ak.qU(h:ak)(c:Nat)(xs:List AV):ak:={h with boxes:=h.boxes.set c xs}
def So{h:ak}{a c}{xs}(bH:a≠c):(h.qU c xs).boxes[a]?=h.boxes[a]?:=by unfold ak.qU;simp only[lR];rw[aG (λq=>bH q.symm)]
variable {e e':Env} {h h':ak} {b:Array Nat}
def Wg(N:cV P G R ops (bO ops.size) e h=aa (.normal,e',h'))(F:Fits P G R ops e h b):∀(A B:List Nat) (S:Nat->Bool) (e1:Env) (h1:ak),Inv P G R ops e h b S e1 h1->nD ops S (A++B)->
 ∃S2 e2 h2,cV P G R ops A e1 h1=aa (.normal,e2,h2)/\Inv P G R ops e h b S2 e2 h2/\nD ops S2 B:=by
 intro A
 induction A with
 |nil=>intro B S e1 h1 I hL;exact⟨S,e1,h1,rfl,I,hL⟩|cons k A ih=>
  intro B S e1 h1 I hL;obtain⟨hk,hu,hr,hL⟩:=hL;obtain⟨x,e2,h2,hs,I'⟩:=next N F I hk hu hr
  obtain⟨S2,e3,h3,nk,I3,L3⟩:=ih B _ _ _ I' hL;exact⟨S2,e3,h3,pS.2 ⟨x,e2,h2,hs,nk⟩,I3,L3⟩
def VV(N:cV P G R ops (bO ops.size) e h=aa (.normal,e',h'))(F:Fits P G R ops e h b){S:Nat->Bool}{e1:Env}{h1:ak}(I:Inv P G R ops e h b S e1 h1){k:Nat}(hk:k<ops.size)
 (hu:S k=av) (hr:oh ops S k):∀o,ops[k]?=aa o->Alike ops (cL P G R ops e h k).1 e1 o:=by
 have ho:ops[k]?=aa ops[k]:=lQ hk;have ahead:∀i,i<ops.size->Ord b i k->S i=ah:=by
  intro i hi xr;obtain⟨ed,fE,mQ,hq⟩:=F.bits k i _ ho hi xr;have hs:=hr _ ho ed fE mQ;have aA:=F.Ik k _ ho ed fE mQ;rcases hq with rfl|hq
  ·exact hs
  ·exact I.closed i ed.on hi (oE aA hk) hs hq
 intro o iz t ht;rw[ho] at iz;injection iz with iz;subst iz;rw[I.hD t,Qt N t k (mJ hk),KC (k:=k) ops.size (mJ hk)]
 ·refine val_congr k λw hw hd=>?_;have hx:ops[w]?=aa ops[w]:=lQ (oE hw hk);rw[Au hx] at hd;exact(ahead w (oE hw hk) (F.looks hw hk hx ho (.inl ⟨hd,ht⟩))).symm
 ·intro w Dd hw hd;rcases dI k w with aA|dM
  ·cases hq:S w with|false=>rfl|true=>have hx:ops[w]?=aa ops[w]:=lQ hw;rw[Au hx] at hd;have:=I.closed k w hk hw hq (F.looks aA hw ho hx (.inr ⟨hd,ht⟩));rw[hu] at this;cases this
  ·rw[Aa dM Dd,hu]
def Ee{k:Nat}{x:AV}{e1:Env}{h1:ak}(hs:xM ops k=ah)(st:jD P G R ops k e h=aa (x,e1,h1)):
 x=.tuple []/\e1=e/\mA ops k=aq/\∃(o:Oper) (t:TypeId) (a v:Operand) (c off n:Nat) (cs cU:List AV),ops[k]?=aa o/\o.op=.store t a v/\o.guard=aq/\e.eval a=.ptr (.box c) off/\(e.eval v).b8=aa cs/\dm P t=aa n/\h.boxes[c]?=aa cU/\cs.length=n/\off+n<=cU.length/\h1=h.qU c (eE cU off cs):=by
 unfold xM at hs;unfold jD at st;cases ho:ops[k]? with
 |none=>rw[ho] at hs;cases hs
 |some o=>
  rw[ho] at hs st;simp only[bC,Option.isNone_iff_eq_none] at hs;obtain⟨q1,q2,q3⟩:=hs;cases bK:o.op<;>rw[bK] at q1<;>try (cases q1;done)
  rename_i t a v;have hw:eY ops e o=aa ah:=by unfold eY;rw[q2]
  simp only[hw] at st;have sC:dO P G R e h o=(dD P G e.eval h (.store t a v)).map λ(x,h)=>(.ret x,e,h):=by unfold dO;rw[bK]
  rw[sC] at st;simp only[dD] at st;cases bZ:ct P h t (e.eval a) (e.eval v) with
  |none=>rw[bZ] at st;simp at st|some hh=>
   rw[bZ] at st;simp only[eJ,dA,cX] at st;obtain⟨rfl,rfl,rfl⟩:=st;unfold ct at bZ;split at bZ
   ·rename_i c off cs n h1 h2 h3;split at bZ
    ·rename_i cU hold;split at bZ
     ·rename_i eg;injection bZ with bZ;exact⟨rfl,rfl,by simp[mA,ho,q3],o,t,a,v,c,off,n,cs,cU,rfl,bK,q2,h1,h2,h3,hold,eg.1,eg.2,bZ.symm⟩
     ·cases bZ
    ·cases bZ
   ·cases bZ
def Qn{k:Nat}{o:Oper}{t:TypeId}{a v:Operand}{c off n:Nat}{cs cU:List AV}(ho:ops[k]?=aa o)(bK:o.op=.store t a v)(hg:o.guard=aq)(ha:e.eval a=.ptr (.box c) off)(hv:(e.eval v).b8=aa cs)(hz:dm P t=aa n)(hb:h.boxes[c]?=aa cU)(hl:cs.length=n)(eg:off+n<=cU.length):
 jD P G R ops k e h=aa (.tuple [],e,h.qU c (eE cU off cs)):=by
 unfold jD;simp only[ho];have hw:eY ops e o=aa ah:=by unfold eY;rw[hg]
 simp only[hw];have sC:dO P G R e h o=(dD P G e.eval h (.store t a v)).map λ(x,h)=>(.ret x,e,h):=by unfold dO;rw[bK]
 rw[sC];simp only[dD];have:ct P h t (e.eval a) (e.eval v)=aa (h.qU c (eE cU off cs)):=by unfold ct;simp only[ha,hv,hz,hb];rw[aF ⟨hl,eg⟩];rfl
 rw[this];rfl
def Wq{n:Nat}(hn:xM ops n=ah):∀(M:List Nat) {e e':Env} {h h':ak},(∀k∈M,k<ops.size/\oM ops k=.pure/\oJ ops k n=ah)->∀rest,cV P G R ops (M++n::rest) e h=aa (.normal,e',h')->cV P G R ops (n::(M++rest)) e h=aa (.normal,e',h'):=by
 intro M
 induction M with
 |nil=>intro e e' h h' _ rest hr;exact hr|cons k M ih=>
  intro e e' h h' hM rest hr;rw[List.cons_append,pS] at hr;obtain⟨x,e1,h1,hs,hr⟩:=hr;obtain⟨hk,hp,tq⟩:=hM k fR;have hr:=ih (λm hm=>hM m (fi _ hm)) rest hr;obtain⟨rfl,rfl,lH⟩:=Qk hp hs;rw[pS] at hr ⊢;obtain⟨x2,e2,h2,lM,hr⟩:=hr;obtain⟨rfl,rfl,hd,o,t,a,v,c,off,m,cs,cU,g1,g2,g3,g4,g5,g6,g7,g8,g9,rfl⟩:=Ee hn lM;have dY:∀z∈o.op.operands,(e1.put (mA ops k) x).eval z=e1.eval z:=by
   intro z hz;cases z with
   |tmp s=>
    show(e1.put (mA ops k) x).get s=e1.get s;rw[Pq];split
    ·rename_i hq;exfalso;unfold oJ at tq;have bA:ops[k]?=aa ops[k]:=lQ hk;rw[bA,g1] at tq;simp only[bC] at tq;rw[Au bA] at hq;have ahO:s∈o.looksAt ops:=(by unfold Oper.looksAt;exact Ra _ (List.mem_filterMap.2 ⟨.tmp s,by simpa using hz,rfl⟩));have h1:=tq.1;unfold Oper.apart at h1;rw[hq] at h1;simp[ahO] at h1
    ·rfl
   |_=>rfl
  rw[dY a (by rw[g2];simp[Op.operands])] at g4;rw[dY v (by rw[g2];simp[Op.operands])] at g5;refine⟨_,e1,_,Qn g1 g2 g3 g4 g5 g6 g7 g8 g9,?_⟩;rw[hd] at hr ⊢;show cV P G R ops (k::(M++rest)) e1 _=_;rw[pS];exact⟨x,e1,_,lH e1 _ (λo ho t ht=>rfl),hr⟩
def arj{n:Nat}(hi:xM ops i=ah)(hn:xM ops n=ah){e e':Env}{h h':ak}{bi bn:Nat}(h1:qA ops i e=aa bi)(h2:qA ops n e=aa bn)(bH:bi≠bn)(rest:List Nat)(hr:cV P G R ops (i::n::rest) e h=aa (.normal,e',h')):cV P G R ops (n::i::rest) e h=aa (.normal,e',h'):=by
 rw[pS] at hr;obtain⟨x,e1,nN,hs,hr⟩:=hr;obtain⟨rfl,rfl,hd,o,t,a,v,c,off,m,cs,cU,g1,g2,g3,g4,g5,g6,g7,g8,g9,rfl⟩:=Ee hi hs;rw[hd] at hr;replace hr:cV P G R ops (n::rest) e1 (h.qU c (eE cU off cs))=aa (.normal,e',h'):=hr;rw[pS] at hr;obtain⟨x2,e2,rm,lM,hr⟩:=hr;obtain⟨rfl,rfl,gu,o2,t2,a2,v2,c2,off2,m2,cs2,old2,k1,k2,k3,k4,k5,k6,k7,k8,k9,rfl⟩:=Ee hn lM;have q1:bi=c:=by unfold qA at h1;rw[g1] at h1;simp only[g2,g4] at h1;injection h1 with h1;exact h1.symm
 have q2:bn=c2:=by unfold qA at h2;rw[k1] at h2;simp only[k2,k4] at h2;injection h2 with h2;exact h2.symm
 subst q1;subst q2;have k7':h.boxes[bn]?=aa old2:=by rw[<-k7];exact(So (λq=>bH q.symm)).symm
 have g7':(h.qU bn (eE old2 off2 cs2)).boxes[bi]?=aa cU:=by rw[So bH];exact g7
 rw[pS];refine⟨_,e2,_,Qn k1 k2 k3 k4 k5 k6 k7' k8 k9,?_⟩;rw[gu];show cV P G R ops (i::rest) e2 _=_;rw[pS];refine⟨_,e2,_,Qn g1 g2 g3 g4 g5 g6 g7' g8 g9,?_⟩;rw[hd];rw[gu] at hr;have ahn:(h.qU bn (eE old2 off2 cs2)).qU bi (eE cU off cs)=(h.qU bi (eE cU off cs)).qU bn (eE old2 off2 cs2):=by unfold ak.qU;simp only[List.set_comm _ _ bH]
 rw[ahn];exact hr
def afk(bA:DQ ops i=ah)(om:rJ P G R ops e h i=ah)(hf:l8 P G R (gi ops i (ops.size - 1)) e h=ah)(he:cV P G R ops (bO ops.size) e h=aa (.normal,e',h'))(tp:Nat):
 ∃e2,cV P G R ops (Region.linearise .any ops tp) e h=aa (.normal,e2,h')/\oi e2 e':=by
 unfold DQ at bA;simp only[bC,decide_eq_true_eq,dU,fY,tQ] at bA;obtain⟨k0,k1,k2,k3,k4⟩:=bA;obtain⟨n,vK⟩:∃n,ops.size - 1=n:=⟨_,rfl⟩;have hn:n+1=ops.size:=by omega
 simp only[vK] at hf k3 k4;have hE:cV P G R (gi ops i n) (bO (gi ops i n).size) e h=aa (.normal,e',h'):=by rw[rf,Bv];exact he
 have uj:=acp (Tx hf);have hL:=Wf uj tp;rcases akM (i:=i) uj hn ag _ (λ_=>av) rfl rfl (λk o ho hS=>by cases hS) hL with q|⟨pre,M1,M2,S',q1,q7,q2,q3,q4,q5,q6⟩
 ·obtain⟨e2,sC,iT⟩:=OF hE (xc hf) _ _ _ _ (Oi hE) q;rw[Bv] at sC;exact⟨e2,sC,iT⟩
 ·have good:∀k,k<ops.size/\k≠i/\k≠n/\S' k=av->k<ops.size/\oM ops k=.pure/\oJ ops k n=ah:=by
   rintro k ⟨p1,p2,p3,p4⟩;rcases k4 k ag with w|w|w
   ·exact absurd (jw w) p2
   ·have:=acC k0 q3 n ag q2 w p1;rw[p4] at this;cases this
   ·refine⟨p1,?_,w.2⟩;have w1:=w.1;unfold Xr at w1;cases ho:ops[k]? with
    |none=>rw[ho] at w1;cases w1
    |some o=>rw[ho] at w1;simpa [oM,ho] using w1
  rw[<-List.append_assoc] at q6;obtain⟨S2,em,hm,ev1,I1,L1⟩:=Wg hE (xc hf) (pre++M1) (i::(M2++[n])) _ _ _ (Oi hE) q6;obtain⟨l1,l2,l3,l4⟩:=L1;have al1:=VV hE (xc hf) I1 l1 l2 l3;obtain⟨x,e2,h2,hs,I2⟩:=next hE (xc hf) I1 l1 l2 l3
  have Jb:jD P G R ops i em hm=aa (x,e2,h2):=by have:=Bv (P:=P) (G:=G) (R:=R) (ops:=ops) (i:=i) (j:=n) [i] em hm;have h3:cV P G R (gi ops i n) [i] em hm=aa (.normal,e2.put (mA (gi ops i n) i) x,h2):=pS.2 ⟨x,e2,h2,hs,rfl⟩;rw[this] at h3;obtain⟨x',e3,h4,pO,Dh⟩:=pS.1 h3;obtain⟨rfl,rfl,su,o3,t3,a3,v3,c3,off3,m3,cs3,old3,z1,z2,z3,z4,z5,z6,z7,z8,z9,rfl⟩:=Ee k2 pO;rw[su] at Dh;simp only[cV,dA,cX,true_and] at Dh;obtain⟨r1,r2⟩:=Dh;have hx:x=.tuple []/\e2=e3:=(by have hgE:(gi ops i n)[i]?=aa o3:=(by rw[CJ,z1,eJ,aG ag]);have hSt:xM (gi ops i n) i=ah:=(by unfold xM at k2 ⊢;rw[hgE];rw[z1] at k2;exact k2);obtain⟨y1,y2,-⟩:=Ee hSt hs;exact⟨y1,y2⟩);rw[hx.1,hx.2,<-r2];exact pO
  obtain⟨rfl,rfl,hd,o,t,a,v,c,off,m,cs,cU,g1,g2,g3,g4,g5,g6,g7,g8,g9,rfl⟩:=Ee k2 Jb;have hdE:mA (gi ops i n) i=aq:=by unfold mA at hd ⊢;rw[Td];exact hd
  rw[hdE] at I2;replace I2:Inv P G R (gi ops i n) e h (Region.before (gi ops i n)) (dK S2 i) e2 (hm.qU c (eE cU off cs)):=I2;obtain⟨Sn,en,hhn,ev2,I3,L3⟩:=Wg hE (xc hf) M2 [n] _ _ _ I2 l4;obtain⟨e5,UI,iT⟩:=OF hE (xc hf) _ _ _ _ I3 L3;have U4:S2 n=av/\oh ops S2 n:=by
   refine⟨?_,?_⟩
   ·have:∀(L:List Nat) (S:Nat->Bool),nD (gi ops i n) S L->∀m∈L,S m=av:=by
     intro L
     induction L with
     |nil=>intro S _ m hm;cases hm
     |cons a L ih2=>
      intro S hL m hm;obtain⟨u1,u2,u3,u4⟩:=hL;rcases gO.1 hm with rfl|hm
      ·exact u2
      ·have p2:=ih2 _ u4 m hm;unfold dK at p2;split at p2
       ·cases p2
       ·exact p2
    have:=this _ _ l4 n bh;unfold dK at this;rw[aG ag] at this;exact this
   ·intro o' iz ed fE hb;have hS:S' ed.on=ah:=q2 o' iz ed fE hb;have aA:ed.on<n:=uj n o' iz ed fE hb;cases hq:S2 ed.on with
    |true=>rfl|false=>
     exfalso;have mem:∀(L:List Nat) (S:Nat->Bool),nD (gi ops i n) S L->∀m,m<ops.size->S m=av->m∈L:=by
      intro L
      induction L with
      |nil=>intro S hL m hm MO;have:=hL m (by rw[rf];exact hm);rw[MO] at this;cases this
      |cons a L ih2=>
       intro S hL m hm MO;obtain⟨u1,u2,u3,u4⟩:=hL;by_cases IY:m=a
       ·subst IY;exact fR
       ·exact fi _ (ih2 _ u4 m hm (by unfold dK;rw[aG IY];exact MO))
     have pJ:=mem (i::(M2++[n])) S2 ⟨l1,l2,l3,l4⟩ ed.on ag hq;rcases gO.1 pJ with w|w
     ·rw[w,q7] at hS;cases hS
     ·rcases uZ.1 w with w|w
      ·have:=(q5 _ w).2.2.2;rw[hS] at this;cases this
      ·rw[List.mem_singleton] at w;omega
  have Ja:oh (gi ops i n) (dK S2 i) n:=x7 (ready_mono U4.2 λj hj=>by unfold dK;split;rfl;exact hj) λ_=>by unfold dK;rw[aF rfl]
  have al2:=VV hE (xc hf) I2 (k:=n) (by rw[rf];omega) (by unfold dK;rw[aG ag];exact U4.1) Ja;have stE:∀k,cL P G R (gi ops i n) e h k=cL P G R ops e h k:=λk=>by unfold cL;rw[Bv]
  have put_congr:∀(k:Nat) (ea eb:Env),(∀o,(gi ops i n)[k]?=aa o->Alike (gi ops i n) ea eb o)->qA ops k ea=qA ops k eb:=by
   intro k ea eb dY;unfold qA;cases ho:ops[k]? with
   |none=>rfl|some o'=>
    have hg:(gi ops i n)[k]?=aa (if k=n then {o' with after:=o'.after.push {on:=i,ground:=.data}} else o'):=(by rw[CJ,ho];rfl);have hz:=EZ (dY _ hg);have gI:∀z∈o'.op.operands,ea.eval z=eb.eval z:=(by intro z hzm;refine hz z ?_;split<;>exact hzm);show(match o'.op with| .store _ a _=>(match ea.eval a with| .ptr (.box b) _=>aa b|_=>aq)|_=>aq)=(match o'.op with| .store _ a _=>(match eb.eval a with| .ptr (.box b) _=>aa b|_=>aq)|_=>aq)
    revert gI
    generalize o'.op=op;intro gI;cases op with|store t' a' v'=>have:ea.eval a'=eb.eval a':=gI a' (by simp[Op.operands]);simp only[this]|_=>rfl
  have hb:∃bi bn,qA ops i e2=aa bi/\qA ops n e2=aa bn/\bi≠bn:=by
   unfold rJ at om;rw[vK] at om;split at om
   ·rename_i ei _ en _ r1 r2;have s1:(cL P G R ops e h i).1=ei:=(by unfold cL;rw[r1]);have s2:(cL P G R ops e h n).1=en:=(by unfold cL;rw[r2]);split at om
    ·rename_i bi bn u1 u2;refine⟨bi,bn,?_,?_,?_⟩
     ·rw[<-u1,<-s1,<-stE];exact(put_congr i _ _ al1).symm
     ·rw[<-u2,<-s2,<-stE];exact(put_congr n _ _ al2).symm
     ·rintro rfl;rw[Nat.beq_refl] at om;cases om
    ·cases om
   ·cases om
  obtain⟨bi,bn,b1,b2,b3⟩:=hb;have t1:cV P G R ops (M2++n::[]) e2 (hm.qU c (eE cU off cs))=aa (.normal,e5,h'):=by rw[Gp];rw[Bv] at ev2 UI;exact⟨_,_,ev2,UI⟩
  have t2:=Wq k3 M2 (λk hk=>good k (q5 k hk)) [] t1;rw[List.append_nil] at t2;have t3:cV P G R ops (i::n::M2) e2 hm=aa (.normal,e5,h'):=by rw[pS];refine⟨_,_,_,Jb,?_⟩;rw[hd];exact t2
  have t4:=arj k2 k3 b1 b2 b3 M2 t3;rw[Bv,Gp] at ev1;obtain⟨e0,h0,v1,v2⟩:=ev1;have t5:cV P G R ops (M1++n::(i::M2)) e0 h0=aa (.normal,e5,h'):=Gp.2 ⟨_,_,v2,t4⟩;have t6:=Wq k3 M1 (λk hk=>good k (q4 k hk)) _ t5;refine⟨e5,?_,iT⟩;rw[q1];exact Gp.2 ⟨_,_,v1,t6⟩
def stores_cases{e:Env}{h:ak}(hb:sT P G R ops e h=ah):∃i,i<ops.size/\DQ ops i=ah/\rJ P G R ops e h i=ah/\l8 P G R (gi ops i (ops.size - 1)) e h=ah:=by unfold sT at hb;simp only[EA,fY,bC] at hb;exact hb
def stores_of{e:Env}{h:ak}{i:Nat}(h1:i<ops.size)(h2:DQ ops i=ah)(h3:rJ P G R ops e h i=ah)(h4:l8 P G R (gi ops i (ops.size - 1)) e h=ah):sT P G R ops e h=ah:=by unfold sT;simp only[EA,fY,bC];exact⟨i,h1,h2,h3,h4⟩
end
end Go.AE
end
section
namespace Go.AE
open Go.RowKit (Below)
section
variable {P:Program} {G:Nat->Option (List AV)} {w0:World} {R:Rec}
def aqM{b:Frame}{a:Act}{k:List Item}{cs:List Frame}{w:World}{c:Code}:step P (lone (b.atR a (.code (.scope c)::k)) cs w)=.next (lone (b.atR a (.code c::.inScope c::k)) cs w):=by rfl
def aqL{b:Frame}{a:Act}{k:List Item}{cs:List Frame}{w:World}{c:Code}:step P (lone (b.atR a (.inScope c::k)) cs w)=.next (lone (b.atR a k) cs w):=by rfl
def nB.akV{K:aS}{m:Machine}{B:Frame}{c:Code}{k:List Item}{cs:List Frame}{x:Xt}{a:Act}{w:World}(hn:x≠ .normal)
 (h:nB P K m B (.inScope c::k) cs x a w):nB P K m B k cs x a w:=by
 cases x with
 |normal=>exact absurd rfl hn|exit id=>obtain⟨t,h1,h2⟩:=h;exact⟨t,h1.trans rfl,h2⟩
 |ret=>exact h|panic x=>exact h
def aeo(hn:Co P)(ahZ:P.follows .mixedOrders=ah)(hR:ve P G w0 R):Ru P G w0 (ff P G R):=by
 intro c e h out e' h' he K w a B k base cs ms hf bW hs bA;cases c with
 |skip=>simp only[ff,dA,cX] at he;obtain⟨rfl,rfl,rfl⟩:=he;exact⟨K,w,a,cs,ms,.refl hf bW hs (.one stepR_skip)⟩
 |label l=>simp only[ff,dA,cX] at he;obtain⟨rfl,rfl,rfl⟩:=he;exact⟨K,w,a,cs,ms,.refl hf bW hs (.one stepR_label)⟩
 |region id ops draw=>
  simp only[codeOk] at bA;cases draw with
  |false=>simp only[ff,jG,if_false] at he;obtain⟨K',w',a',dB,L⟩:=OX hn hR _ _ _ _ _ _ he K w a B k base cs ms hf bW hs bA;exact⟨K',w',a',dB,ms,.of_steps (.one stepR_region) L⟩
  |true=>
   simp only[ff,if_true] at he;split at he
   ·rename_i pH;split at he
    ·rename_i e1 h1 sC;simp only[dA,cX] at he;obtain⟨rfl,rfl,rfl⟩:=he;have iH:=stepR_region_draw (P:=P) (b:=B) (a:=a) (k:=k) (cs:=cs) (w:=w) (ops:=ops) (id:=id);have ah7:Region.schedule (P.follows .mixedOrders) ops (w.tape w.drawn (.order B.fn id))=Region.linearise .any ops (w.tape w.drawn (.order B.fn id)):=(by simp only[Region.schedule,ahZ,ZX,if_true]);rw[ah7] at iH;rcases (tQ _ _).mp pH with pH|bZ
     ·obtain⟨e2,M5,iT⟩:=afj sC pH (w.tape w.drawn (.order B.fn id));obtain⟨K',w',a',dB,L⟩:=OX hn hR _ _ _ _ _ _ M5 K {w with drawn:=w.drawn+1} a B k base cs ms hf bW (hs.drew _) bA;exact⟨K',w',a',dB,ms,L.le,L.pW,L.frame.same iT,iT.cD ▸ L.cs,L.size,L.marks,L.arr.of_steps (.one iH)⟩
     ·obtain⟨i,-,Nf,ot,hi3⟩:=stores_cases bZ;obtain⟨e2,M5,iT⟩:=afk Nf ot hi3 sC (w.tape w.drawn (.order B.fn id));obtain⟨K',w',a',dB,L⟩:=OX hn hR _ _ _ _ _ _ M5 K {w with drawn:=w.drawn+1} a B k base cs ms hf bW (hs.drew _) bA;exact⟨K',w',a',dB,ms,L.le,L.pW,L.frame.same iT,iT.cD ▸ L.cs,L.size,L.marks,L.arr.of_steps (.one iH)⟩
    ·cases he
   ·cases he
 |seq x y=>
  simp only[codeOk,bC] at bA;simp only[ff] at he;cases hx:R.code x e h with
  |none=>rw[hx] at he;cases he
  |some q=>
   obtain⟨o1,e1,h1⟩:=q;rw[hx] at he;obtain⟨K1,w1,a1,cs1,ms1,L1⟩:=hR.code x e h _ _ _ hx K w a B (.code y::k) base cs ms hf bW hs bA.1;have start:=Steps.one (stepR_seq (P:=P) (b:=B) (a:=a) (k:=k) (cs:=cs) (w:=w) (x:=x) (y:=y));by_cases vL:o1=.normal
   ·subst vL;simp only at he;obtain⟨K2,w2,a2,cs2,ms2,L2⟩:=hR.code y e1 h1 _ _ _ he K1 w1 a1 B k base cs1 ms1 L1.frame L1.cs L1.pW (by rw[L1.size];exact bA.2);refine⟨K2,w2,a2,cs2,ms2,L1.le.trans L2.le,L2.pW,L2.frame,L2.cs,L2.size.trans L1.size,λr hr=>?_,(L2.arr.of_steps L1.arr).of_steps start⟩;rcases L2.marks r hr with hq|hq
    ·exact L1.marks r hq
    ·exact .inr λhm=>hq (L1.le.md r hm)
   ·have he:aa (o1,e1,h1)=aa (out,e',h'):=by cases o1<;>first|exact absurd rfl vL|exact he
    simp only[dA,cX] at he;obtain⟨rfl,rfl,rfl⟩:=he;exact⟨K1,w1,a1,cs1,ms1,L1.le,L1.pW,L1.frame,L1.cs,L1.size,L1.marks,(L1.arr.pass rfl vL).of_steps start⟩
 |cond q x y=>
  simp only[codeOk,bC] at bA;simp only[ff] at he;have hv:=yM hf.hD q;split at he
  ·rename_i hq;rw[hq] at hv;obtain⟨K1,w1,a1,cs1,ms1,L1⟩:=hR.code x e h _ _ _ he K w a B k base cs ms hf bW hs bA.1;exact⟨K1,w1,a1,cs1,ms1,L1.of_steps (.one (by have:=stepR_cond (P:=P) (b:=B) (k:=k) (cs:=cs) (w:=w) (x:=x) (y:=y) hv.iB.1;simpa using this))⟩
  ·rename_i hq;rw[hq] at hv;obtain⟨K1,w1,a1,cs1,ms1,L1⟩:=hR.code y e h _ _ _ he K w a B k base cs ms hf bW hs bA.2;exact⟨K1,w1,a1,cs1,ms1,L1.of_steps (.one (by have:=stepR_cond (P:=P) (b:=B) (k:=k) (cs:=cs) (w:=w) (x:=x) (y:=y) hv.iB.1;simpa using this))⟩
  ·cases he
 |block id x=>
  simp only[codeOk] at bA;simp only[ff] at he;cases hx:R.code x e h with
  |none=>rw[hx] at he;cases he
  |some q=>
   obtain⟨o1,e1,h1⟩:=q;rw[hx] at he;obtain⟨K1,w1,a1,cs1,ms1,L1⟩:=hR.code x e h _ _ _ hx K w a B (.inBlock id::k) base cs ms hf bW hs bA;have start:=Steps.one (stepR_block (P:=P) (b:=B) (a:=a) (k:=k) (cs:=cs) (w:=w) (id:=id) (c:=x));have fin:∀{o:Xt},nB P K1 (lone (B.atR a (.code x::.inBlock id::k)) cs w) B k cs1 o a1 w1->Left P G w0 K ms B base (lone (B.atR a (.code (.block id x)::k)) cs w) k a.tmps.size o e1 h1 K1 w1 a1 cs1 ms1:=λha=>
    ⟨L1.le,L1.pW,L1.frame,L1.cs,L1.size,L1.marks,ha.of_steps start⟩
   cases o1 with
   |normal=>simp only[dA,cX] at he;obtain⟨rfl,rfl,rfl⟩:=he;exact⟨K1,w1,a1,cs1,ms1,fin (L1.arr.trans (.one stepR_inBlock))⟩
   |exit id'=>
    simp only at he;obtain⟨t,h2,h3⟩:=L1.arr;split at he
    ·rename_i Nk;subst Nk;simp only[dA,cX] at he;obtain⟨rfl,rfl,rfl⟩:=he;refine⟨K1,w1,a1,cs1,ms1,fin (h3.trans (.one (stepR_exit (h2.trans ?_))))⟩;simp[exitTo]
    ·rename_i Nk;simp only[dA,cX] at he;obtain⟨rfl,rfl,rfl⟩:=he;refine⟨K1,w1,a1,cs1,ms1,fin ⟨t,h2.trans ?_,h3⟩⟩;simp[exitTo,Ne.symm Nk]
   |ret=>simp only[dA,cX] at he;obtain⟨rfl,rfl,rfl⟩:=he;obtain⟨t,h3⟩:=L1.arr;exact⟨K1,w1,a1,cs1,ms1,fin ⟨t,h3⟩⟩
   |panic x=>simp only[dA,cX] at he;obtain⟨rfl,rfl,rfl⟩:=he;obtain⟨t,v,h2,h3⟩:=L1.arr;exact⟨K1,w1,a1,cs1,ms1,fin ⟨t,v,h2,h3⟩⟩
 |loop x=>
  have U7:codeOk a.tmps.size x=ah:=by simpa only[codeOk] using bA
  simp only[ff] at he;cases hx:R.code x e h with
  |none=>rw[hx] at he;cases he
  |some q=>
   obtain⟨o1,e1,h1⟩:=q;rw[hx] at he;obtain⟨K1,w1,a1,cs1,ms1,L1⟩:=hR.code x e h _ _ _ hx K w a B (.inLoop x::k) base cs ms hf bW hs U7;have start:=Steps.one (stepR_loop (P:=P) (b:=B) (a:=a) (k:=k) (cs:=cs) (w:=w) (c:=x));by_cases vL:o1=.normal
   ·subst vL;simp only at he;obtain⟨K2,w2,a2,cs2,ms2,L2⟩:=hR.code (.loop x) e1 h1 _ _ _ he K1 w1 a1 B k base cs1 ms1 L1.frame L1.cs L1.pW (by rw[L1.size];simpa only[codeOk] using U7);have um:=nB.swap (c:=.loop x) (m':=lone (B.atR a1 (.inLoop x::k)) cs1 w1) (λ_=>by simp) bh rfl stepR_loop stepR_inLoop L2.arr;refine⟨K2,w2,a2,cs2,ms2,L1.le.trans L2.le,L2.pW,L2.frame,L2.cs,L2.size.trans L1.size,λr hr=>?_,(um.of_steps L1.arr).of_steps start⟩;rcases L2.marks r hr with hq|hq
    ·exact L1.marks r hq
    ·exact .inr λhm=>hq (L1.le.md r hm)
   ·have he:aa (o1,e1,h1)=aa (out,e',h'):=by cases o1<;>first|exact absurd rfl vL|exact he
    simp only[dA,cX] at he;obtain⟨rfl,rfl,rfl⟩:=he;exact⟨K1,w1,a1,cs1,ms1,L1.le,L1.pW,L1.frame,L1.cs,L1.size,L1.marks,(L1.arr.pass rfl vL).of_steps start⟩
 |scope x=>
  simp only[codeOk] at bA;simp only[ff] at he;obtain⟨K1,w1,a1,cs1,ms1,L1⟩:=hR.code x e h _ _ _ he K w a B (.inScope x::k) base cs ms hf bW hs bA;have start:=Steps.one (aqM (P:=P) (b:=B) (a:=a) (k:=k) (cs:=cs) (w:=w) (c:=x));by_cases vL:out=.normal
  ·subst vL;exact⟨K1,w1,a1,cs1,ms1,L1.le,L1.pW,L1.frame,L1.cs,L1.size,L1.marks,(show nB P K1 _ B k cs1 .normal a1 w1 from L1.arr.trans (.one aqL)).of_steps start⟩
  ·exact⟨K1,w1,a1,cs1,ms1,L1.le,L1.pW,L1.frame,L1.cs,L1.size,L1.marks,(L1.arr.akV vL).of_steps start⟩
 |exit id=>simp only[ff,dA,cX] at he;obtain⟨rfl,rfl,rfl⟩:=he;exact⟨K,w,a,cs,ms,.refl hf bW hs ⟨k,rfl,.refl P _⟩⟩
 |ret=>simp only[ff,dA,cX] at he;obtain⟨rfl,rfl,rfl⟩:=he;exact⟨K,w,a,cs,ms,.refl hf bW hs ⟨k,.refl P _⟩⟩
 |rangeFunc f ps assign body=>
  simp only[codeOk,bC] at bA;obtain⟨⟨xz,Vd⟩,Ve⟩:=bA;have xz:=ajP xz;simp only[ff] at he;split at he
  ·rename_i g first aB sC
   have nq:=yM hf.hD f;rw[sC] at nq;have enter:∃(lg:Nat) (mark:List Deferred) (K1:aS) (w1:World) (ms1:List Nat),(Instr.enterLoop B.fn a.tmps ps assign body B.roundOf).run P w=.ok (lg,mark) w1/\K.Le K1/\
    jT P G w0 K1 {h with loops:=h.loops++[{tmps:=e.tmps,params:=ps,assign,body,state:=.ready,pending:=aq}]} w1/\K1.γ[h.loops.length]?=aa lg/\
    mZ P K1 e {a with defers:=mark++a.defers} B ms1/\∀r∈ms1,r∈ms∨r∉K.md:=by
    have I6:∀c,codeOk a.tmps.size c=ah->DN P B.fn a.tmps.size c=ah:=λc hc=>(by unfold DN;rw[hc,hf.fn];rfl);have xB:=hf.round;cases jO:e.round with
    |none=>
     rw[jO] at xB;simp only at xB;have Df:w.heap.size∉K.md:=λhq=>absurd (nS (hs.md _ hq).2) (Nat.lt_irrefl _);have s1:=hs.aj3;have le1:=K.V9 w.heap.size;obtain⟨s2,hγ⟩:=s1.Wx (r:={tmps:=e.tmps,params:=ps,assign,body,state:=.ready,pending:=aq}) (fn:=B.fn) w.heap.size (hf.hD.mono le1) (I6 _ Vd) (I6 _ Ve) xz;have le2:=(K.mark w.heap.size).Ox (w.alloc (.deferred (aa []))).heap.size;refine⟨_,_,_,_,w.heap.size::ms,by rw[xB];exact run_enterLoop_outer _ _ _ _ _,le1.trans le2,s2,?_,?_,?_⟩
     ·rw[hγ,World.size_alloc]
     ·have y4:=hf.mono (le1.trans le2);refine⟨y4.hD,?_,?_,hf.fn⟩
      ·refine .mark _ _ _ _ (by simp[aS.loop,aS.mark]) (λhq=>Df (hf.defers.sub _ hq)) y4.defers
      ·rw[jO];exact xB
     ·intro r hr;rcases gO.1 hr with rfl|hr
      ·exact .inr Df
      ·exact .inl hr
    |some l=>
     rw[jO] at xB;obtain⟨lg,hl,hb,ahG,hd,hm,fE⟩:=xB;have eR:l<h.loops.length:=(by rw[<-hs.nA];exact(aP.1 hl).1);obtain⟨k1,fn,tmps,d,k2,-⟩:=hs.loop l lg _ hl (aO eR);obtain⟨s2,hγ⟩:=hs.Wx (r:={tmps:=e.tmps,params:=ps,assign,body,state:=.ready,pending:=aq}) (fn:=B.fn) d hf.hD (I6 _ Vd) (I6 _ Ve) xz;have le2:=K.Ox w.heap.size;refine⟨_,[],_,_,ms,?_,le2,s2,hγ,?_,λr hr=>.inl hr⟩
     ·rw[hb];unfold Instr.enterLoop;simp only[Sem.run_bind,run_getLoop k2,run_newObj_alloc,Result.andThen,Sem.run_pure]
     ·have y4:=hf.mono le2;exact⟨y4.hD,y4.defers,by rw[jO];exact⟨lg,le2.γ _ _ hl,hb,ahG,hd,hm,fE⟩,hf.fn⟩
   obtain⟨lg,mark,K1,w1,ms1,IM,le1,s1,hγ,f1,I4⟩:=enter;generalize rC:a.eval f=qv at nq;cases nq with
   |func _ _ _ fs dB g1 g2=>
    cases sn:R.call g (first++[.yield h.loops.length]++aB) {h with loops:=h.loops++[{tmps:=e.tmps,params:=ps,assign,body,state:=.ready,pending:=aq}]} with
    |none=>rw[sn] at he;cases he
    |some q=>
     obtain⟨r,h2⟩:=q;rw[sn] at he;obtain⟨⟨fnn,gG,mD⟩,hc⟩:=hR.call _ _ _ _ _ sn;have fy:aM K1 (first++[.yield h.loops.length]++aB) (fs++#[Value.func (.yield lg) #[] #[]]++dB).toList:=(by simp only[Array.toList_append];exact((g1.mono le1).append (.cons _ _ _ _ (.yield _ _ hγ) .nil)).append (g2.mono le1));obtain⟨K2,w2,fr,le2,s2,bZ,-,hl⟩:=hc K1 w1 _ fy s1 (B.atR {a with defers:=mark++a.defers} (.inRangeFunc lg::k)::cs);have Dn:=stepR_rangeFunc (P:=P) (b:=B) (a:=a) (k:=k) (cs:=cs) (w:=w) (g:=f) (ps:=ps) (assign:=assign) (body:=body) (l:=lg) (mark:=mark) (w₁:=w1) (w₁':=w1) (w₂:=w1) (d:={target:=.fn (.func g) dB,args:=fs++#[Value.func (.yield lg) #[] #[]]}) (f:=g) (args:=fs++#[Value.func (.yield lg) #[] #[]]++dB) IM
      (by have ahp:∀v,a.eval (.const v)=v:=λ_=>rfl;simp[resolve,rangeCall,rC,Deferred.ofValue,ahp]) (by simp only[invoke];exact P2 hn gG mD _ _)
     have start:=Steps.head Dn bZ;have f2:=f1.mono le2;have c2:CS K2 B.kind base e.cD cs:=bW.mono (le1.trans le2);cases r with
     |panic x=>simp only[dA,cX] at he;obtain⟨rfl,rfl,rfl⟩:=he;obtain⟨v,hx,hl⟩:=hl;refine⟨K2,w2,_,cs,ms1,le1.trans le2,s2,f2,c2,rfl,I4,.inRangeFunc lg::k,v,hx,start.trans (.one ?_)⟩;rw[step_leave_panicked hl,Frame.raise_atR]
     |ret x=>
      obtain⟨v,hx,hl⟩:=hl;have back:=start.trans (.one (step_leave_returned hl));rw[finish_atR_inRangeFunc] at back;simp only at he;split at he
      ·rename_i r hr;split at he
       ·cases he
       ·rename_i ahh;obtain⟨mm,m1,m2,m3,-,-,-,-,-,-,-,s3⟩:=s2.eW (le2.γ _ _ hγ) hr .exhausted r.pending;have sw:=run_endLoop (P:=P) m1 (by rw[m2];exact ahh);have lI:({mm with state:=.exhausted,pending:=r.pending}:Loop)={mm with state:=.exhausted}:=(by rw[<-m3]);rw[lI] at s3;have ahw:(Instr.endLoop lg).run P w2=.ok r.pending (w2.putObj lg (.loop {mm with state:=.exhausted})):=(by rw[<-m3];exact sw);have back2:=back.trans (.one (stepR_endRangeFunc ahw));cases hp:r.pending with
        |none=>rw[hp] at he back2 s3;simp only[dA,cX] at he;obtain⟨rfl,rfl,rfl⟩:=he;exact⟨K2,_,_,cs,ms1,le1.trans le2,s3,f2,c2,rfl,I4,back2⟩
        |some code=>
         rw[hp] at he back2 s3;cases code with
         |ret=>simp only[dA,cX] at he;obtain⟨rfl,rfl,rfl⟩:=he;exact⟨K2,_,_,cs,ms1,le1.trans le2,s3,f2,c2,rfl,I4,k,back2⟩
         |exit id=>simp only[dA,cX] at he;obtain⟨rfl,rfl,rfl⟩:=he;exact⟨K2,_,_,cs,ms1,le1.trans le2,s3,f2,c2,rfl,I4,k,rfl,back2⟩
         |_=>cases he
      ·cases he
  ·cases he
 |_=>simp[ff] at he
end
section
variable {P:Program} {G:Nat->Option (List AV)} {w0:World} {R:Rec}
def JO(tmps:Array Value):ResultVar->Sem Value
 | .tmp t=>pure (tmps.getD t undef)
 | .cell a t=>do loadVar t (<-asAddr (tmps.getD a undef))
def amv{K:aS}{e:Env}{h:ak}{w:World}(s:jT P G w0 K h w){tmps:Array Value}(hs:lX K e.tmps tmps):∀{rs:List ResultVar} {l:List AV},uO P G e h rs=aa l->
 ∃vs:List Value,aM K l vs/\(rs.mapM (JO tmps)).run P w=.ok vs w:=by
 intro rs
 induction rs with
 |nil=>intro l hl;simp only[uO,dA] at hl;subst hl;exact⟨[],.nil,by simp⟩|cons r rs ih=>
  intro l hl;cases r with
  |tmp t=>simp only[uO,dh] at hl;obtain⟨l',rq,rfl⟩:=hl;obtain⟨vs,h1,h2⟩:=ih rq;exact⟨_::vs,.cons _ _ _ _ (hs t) h1,by simp[aaD,h2,JO]⟩
  |cell a t=>
   simp only[uO] at hl;split at hl
   ·rename_i x l' hx rq;injection hl with hl;subst hl;obtain⟨vs,h1,h2⟩:=ih rq;obtain⟨g,p,v,hp,A6,hv⟩:=Wh s hx (hs a);refine⟨v::vs,.cons _ _ _ _ hv h1,?_⟩;rw[aaD];simp only[JO,hp,asAddr,Sem.run_bind,Sem.run_pure,Result.andThen_ok,A6,h2]
   ·cases hl
def amw{K:aS}{fn:Func}{e:Env}{h:ak}{w:World}(s:jT P G w0 K h w){tmps:Array Value}(hs:lX K e.tmps tmps){x:AV}(he:GA P G fn e h=aa x):
 ∃v,aT K x v/\(results fn tmps).run P w=.ok v w:=by
 unfold GA at he;have key:∀l,uO P G e h fn.results.toList=aa l->∃vs:List Value,aM K l vs/\(results fn tmps).run P w=.ok (if hh:vs.toArray.size=1 then vs.toArray[0] else .tuple vs.toArray) w:=by
  intro l hl;obtain⟨vs,h1,h2⟩:=amv s hs hl;refine⟨vs,h1,?_⟩;have gH:results fn tmps=(do let vs <-fn.results.mapM (JO tmps);pure (if h:vs.size=1 then vs[0] else .tuple vs)):=by unfold results;congr 2
  rw[gH,Array.mapM_eq_mapM_toList];simp only[Sem.run_bind,Sem.run_map,h2,Result.andThen_ok,Sem.run_pure]
 split at he
 ·rename_i x' hl;injection he with he;subst he;obtain⟨vs,h1,h2⟩:=key _ hl;cases h1 with|cons _ c _ cs h3 h4=>cases h4;exact⟨c,h3,h2⟩
 ·rename_i l bH hl;injection he with he;subst he;obtain⟨vs,h1,h2⟩:=key _ hl;refine⟨.tuple vs.toArray,.tuple _ _ (by simpa using h1),?_⟩;rw[h2];have hlen:vs.length≠1:=by rw[<-h1.length];intro hq;obtain⟨y,rfl⟩:=List.length_eq_one_iff.1 hq;exact bH y rfl
  simp[hlen]
 ·cases he
def qN(K:aS):Option (AV × Bool)->FrameMode->Prop
 |none,u=>u=.returning
 |some (x,r),u=>r=av/\∃v,aT K x v/\u=.panicking [{v,recovered:=av}]
def qN.run{K}{m u}(h:qN K m u):u≠ .run:=by
 cases m with|none=>simp only[qN] at h;rw[h];simp|some p=>obtain⟨x,r⟩:=p;obtain⟨_,v,_,h⟩:=h;rw[h];simp
def qN.un{K}{r}{m u}(h:qN K m u):qN (K.un r) m u:=by
 cases m with|none=>exact h|some p=>obtain⟨x,r⟩:=p;obtain⟨h1,v,h2,h⟩:=h;exact⟨h1,v,aT.un h2,h⟩
def qN.mono{K K'}(le:K.Le K'){m u}(h:qN K m u):qN K' m u:=by
 cases m with|none=>exact h|some p=>obtain⟨x,r⟩:=p;obtain⟨h1,v,h2,h⟩:=h;exact⟨h1,v,h2.mono le,h⟩
def lX.un{K}{r}{s tmps}(h:lX K s tmps):lX (K.un r) s tmps:=λt=>aT.un (h t)
def aqQ{fr:Frame}{cs:List Frame}{w:World}{r:Nat}{args:Array Value}{ds:List Deferred}(hm:fr.mode≠ .run)(hd:fr.defers={target:=.collected r,args}::ds)(hr:w.heap[r]?=aa (.deferred (aa []))):
 step P (lone fr cs w)=.next (lone {fr with defers:=ds} cs (w.putObj r (.deferred aq))):=by
 refine step_lone_go ?_;have ht:=run_takeDeferred (P:=P) hr;cases ru:fr.mode with|run=>exact absurd ru hm|returning=>simp[stepG,unwind,ru,hd,Sem.runT_eq,ht]|panicking chain=>simp[stepG,unwind,ru,hd,Sem.runT_eq,ht]
def settled:Option (AV × Bool)->Option (AV × Bool)
 |some (_,ah)=>aq
 |q=>q
def Es(P:Program)(K:aS)(fn:Func)(fr:Frame)(w:World):eK->Prop
 | .ret x=>fr.mode=.returning/\∃v,aT K x v/\(results fn fr.tmps).run P w=.ok v w
 | .panic x=>∃v,aT K x v/\fr.mode=.panicking [{v,recovered:=av}]
def arY(hR:ve P G w0 R)(hn:Co P){g:FuncId}{fn:Func}(gG:P.funcs[g]?=aa fn){K0:aS}{e:Env}:∀(cds:List Deferred) (ds:List (FuncId × List AV)) (ms:List Nat) (m:Option (AV × Bool)) (h:ak) (res:eK) (h':ak),
 gM P G R fn e ds m h=aa (res,h')->∀(K:aS) (w:World) (fr:Frame) (cs:List Frame),fr.fn=g->fr.defers=cds->pZ K ds cds ms->lX K e.tmps fr.tmps->qN K m fr.mode->jT P G w0 K h w->K0.Le K->
 (∀r∈ms,r∉K0.md)->
 ∃K' w' fr',K0.Le K'/\jT P G w0 K' h' w'/\Steps P (lone fr cs w) (lone fr' cs w')/\fr'.kind=fr.kind/\fr'.defers=[]/\fr'.fn=g/\Es P K' fn fr' w' res/\(∀kind base p cs,CS K kind base p cs->CS K' kind base p cs):=by
 intro cds
 induction cds with
 |nil=>
  intro ds ms m h res h' he K w fr cs hg hd gv mG ru hs eg I0;generalize hq:([]:List Deferred)=q at gv;cases gv with
  |call=>cases hq
  |mark=>cases hq
  |nil=>
   cases m with
   |none=>simp only[gM,dh,cX] at he;obtain⟨x,hx,rfl,rfl⟩:=he;obtain⟨v,h1,h2⟩:=amw hs mG hx;exact⟨K,w,fr,eg,hs,.refl P _,rfl,hd,hg,⟨ru,v,h1,h2⟩,λ_ _ _ _ h=>h⟩
   |some p=>obtain⟨x,r⟩:=p;simp only[gM,dA,cX] at he;obtain⟨rfl,rfl⟩:=he;obtain⟨-,v,h1,h2⟩:=ru;exact⟨K,w,fr,eg,hs,.refl P _,rfl,hd,hg,⟨v,h1,h2⟩,λ_ _ _ _ h=>h⟩
 |cons d cds ih=>
  intro ds ms m h res h' he K w fr cs hg hd gv mG ru hs eg I0;generalize hq:d::cds=q at gv;cases gv with
  |nil=>cases hq
  |mark r ds' cds' ms' hr hnr F1=>injection hq with rz qs;subst rz;subst qs;have A8:=hs.md r hr;have iH:=aqQ (P:=P) (cs:=cs) ru.run hd A8.2;have cJ:r∉K0.md:=I0 r fR;obtain⟨K',w',fr',g1,g2,g3,g4,g5,g6,g7,g8⟩:=ih _ ms' m h res h' he (K.un r) _ {fr with defers:=cds} cs hg rfl (F1.un hnr) mG.un ru.un (hs.drop hr (.deferred aq) (by intro _ _ _ hq;cases hq)) (aiZ eg cJ) (λr' fG=>I0 r' (fi _ fG));exact⟨K',w',fr',g1,g2,.head iH g3,g4,g5,g6,g7,λ_ _ _ _ hc=>g8 _ _ _ _ hc.un⟩
  |call f args vs aB ds' cds' _ hv F1=>
   injection hq with rz qs;subst rz;subst qs;simp only[gM] at he;cases sn:R.jy f args m h with
   |none=>rw[sn] at he;cases he
   |some q=>
    obtain⟨rr,m1,h1⟩:=q;rw[sn] at he;cases rr with
    |panic x=>simp at he|ret x=>
     obtain⟨⟨fnn,M7,mD⟩,hc⟩:=hR.jy _ _ _ _ _ _ _ sn;have hinv:(invoke (.fn (.func f) aB) vs).run P w=.ok (.enter f (vs++aB)) w:=(by simp only[invoke];exact P2 hn M7 mD _ _);have iH:=step_defer (P:=P) (cs:=cs) (d:={target:=.fn (.func f) aB,args:=vs}) ru.run hd rfl hinv;have bW:CS K .deferred ({fr with defers:=cds,mode:=.returning}::cs) m ({fr with defers:=cds}::cs):=by
      cases m with
      |none=>have:({fr with defers:=cds}:Frame)={fr with defers:=cds,mode:=.returning}:=(by rw[<-show fr.mode=.returning from ru]);rw[this];exact .ret _ _ rfl rfl rfl
      |some p=>obtain⟨y,r⟩:=p;obtain⟨rfl,v,hv1,mT⟩:=ru;have:({fr with defers:=cds}:Frame)={({fr with defers:=cds,mode:=.returning}:Frame) with mode:=.panicking [{v,recovered:=av}]}:=(by rw[<-mT]);rw[this];exact .cD _ _ y v av rfl rfl hv1
     obtain⟨K1,w1,fr1,cs1,v1,le1,s1,c1,bZ,y9,nk⟩:=hc K w (vs++aB) _ _ hv bW hs;have pJ:∃u,cs1={fr with defers:=cds,mode:=u}::cs/\qN K1 (settled m1) (settle u):=by
      generalize yW:({fr with defers:=cds,mode:=.returning}:Frame)::cs=base at c1;cases c1 with
      |normal hh=>cases hh
      |ret c0 rest _ hb hm=>refine⟨.returning,yW.symm,?_⟩;simp[qN,settle,settled]|cD c0 rest y v r _ hb hx=>
       rw[hb] at yW;injection yW with jM fk;subst jM;subst fk;refine⟨.panicking [{v,recovered:=r}],rfl,?_⟩;cases r with|true=>simp[qN,settle,settled]|false=>exact⟨rfl,v,hx,rfl⟩
     obtain⟨u,rfl,pJ⟩:=pJ;have ahf:=step_going_returned (c:={fr with defers:=cds,mode:=u}) (cs:=cs) y9 nk;have he':gM P G R fn e ds' (settled m1) h1=aa (res,h'):=by
      rcases m1 with _|⟨y,r⟩
      ·exact he
      ·cases r<;>exact he
     obtain⟨K',w',fr',g1,g2,g3,g4,g5,g6,g7,g8⟩:=ih _ ms _ h1 res h' he' K1 w1 {fr with defers:=cds,mode:=settle u} cs hg rfl (F1.mono le1) (mG.mono le1) pJ s1 (eg.trans le1) I0;exact⟨K',w',fr',g1,g2,.head iH (bZ.trans (.head ahf g3)),g4,g5,g6,g7,λ_ _ _ _ hq=>g8 _ _ _ _ (hq.mono le1)⟩
def aem{n n'}(h:n<=n'):∀{c:Code},codeOk n c=ah->codeOk n' c=ah:=by
 intro c
 induction c with
 |region id ops draw=>
  simp only[codeOk,DP,Ej];intro hq i hi;have:=hq i hi
  revert this
  cases ops[i].dst with|none=>intro _;rfl|some d=>simp only[decide_eq_true_eq];intro hd;exact mq hd h
 |seq a b iha ihb=>simp only[codeOk,bC];exactλhq=>⟨iha hq.1,ihb hq.2⟩|cond q a b iha ihb=>simp only[codeOk,bC];exactλhq=>⟨iha hq.1,ihb hq.2⟩|block id c ih=>simp only[codeOk];exact ih|loop c ih=>simp only[codeOk];exact ih|scope c ih=>simp only[codeOk];exact ih|rangeFunc f ps a b iha ihb=>simp only[codeOk,bC,Ej,decide_eq_true_eq];exactλhq=>⟨⟨λi hi=>mq (hq.1.1 i hi) h,iha hq.1.2⟩,ihb hq.2⟩|_=>intro hq;exact hq
structure Prog(P:Program):Prop where
 names:Co P
 mixed:P.follows .mixedOrders=ah
 code:∀(g:FuncId) (fn:Func) (c:Code),P.funcs[g]?=aa fn->fn.body=aa c->codeOk fn.ntmps c=ah
def aqj{K}{args}{eU}(hv:aM K args eU.toList)(n):lX K {ch:=[],base:=args} (eU++BQ n undef):=by
 intro t;simp only[oG.get,look];have hlen:=hv.length;rcases dI t args.length with aA|dM
 ·obtain⟨c,h1,h2⟩:=hv.get (aO aA);have hb:args.getD t (.tuple [])=args[t]:=by simp[aA]
  rw[hb];have hc:(eU++BQ n undef).getD t undef=c:=by have ahQ:t<eU.size:=(by simpa [hlen] using aA);rw[ZE,Array.getElem?_append_left ahQ,<-BP,h1];rfl
  rw[hc];exact h2
 ·have hb:args.getD t (.tuple [])=.tuple []:=by simp[sZ dM]
  rw[hb];have hc:(eU++BQ n undef).getD t undef=undef:=by have ahC:eU.size<=t:=(by simpa [hlen] using dM);rw[ZE,Array.getElem?_append_right ahC,Array.getElem?_replicate];split<;>rfl
  rw[hc];exact .tuple [] #[] .nil
def Sl(hp:Prog P)(hR:ve P G w0 R){g:FuncId}{args:List AV}{m m':Option (AV × Bool)}{h h':ak}{res:eK}(he:qS P G R g args m h=aa (res,m',h')):
 (∃fn,P.funcs[g]?=aa fn/\fn.body.isSome=ah)/\∀(K:aS) (w:World) (eU:Array Value) (kind:CallKind) (base cs:List Frame),aM K args eU.toList->CS K kind base m cs->jT P G w0 K h w->
 ∃K' w' fr dB fn,P.funcs[g]?=aa fn/\K.Le K'/\jT P G w0 K' h' w'/\CS K' kind base m' dB/\Steps P (lone (Frame.enter P g eU kind) cs w) (lone fr dB w')/\fr.kind=kind/\fr.defers=[]/\fr.fn=g/\Es P K' fn fr w' res:=by
 unfold qS at he;split at he
 ·cases he
 ·rename_i fn gG;split at he
  ·cases he
  ·rename_i body mD;refine⟨⟨fn,gG,by rw[mD];rfl⟩,λK w eU kind base cs hv bW hs=>?_⟩
   let b:Frame:={(default:Frame) with fn:=g,kind:=kind}
   let a:Act:={tmps:=eU++BQ (fn.ntmps - eU.size) undef,defers:=[]}
   have hb:b.roundOf=aq:=rfl;have IN:Frame.enter P g eU kind=b.atR a [.code body]:=(by unfold Frame.enter Frame.atR;simp only[gG,mD,b,a,eJ,Option.getD_some,ph];rfl);have M6:mZ P K {tmps:={ch:=[],base:=args},defers:=[],cD:=m,round:=aq} a b []:=
    ⟨aqj hv _,.nil,rfl,by show(P.funcs[g]?).isSome=ah;rw[gG];rfl⟩
   have bA:codeOk a.tmps.size body=ah:=aem (by simp[a];omega) (hp.code g fn body gG mD);have finish:∀(out:Xt) (e:Env) (h1:ak) (m0:Option (AV × Bool)),R.code body {tmps:={ch:=[],base:=args},defers:=[],cD:=m,round:=aq} h=aa (out,e,h1)->
    (out=.normal/\m0=aq∨out=.ret/\m0=aq∨∃x,out=.panic x/\m0=aa (x,av))->(gM P G R fn e e.defers m0 h1).map (λ(r,h)=>(r,e.cD,h))=aa (res,m',h')->
    ∃K' w' fr dB fn,P.funcs[g]?=aa fn/\K.Le K'/\jT P G w0 K' h' w'/\CS K' kind base m' dB/\Steps P (lone (Frame.enter P g eU kind) cs w) (lone fr dB w')/\fr.kind=kind/\fr.defers=[]/\fr.fn=g/\Es P K' fn fr w' res:=by
    intro out e h1 m0 MV zi Bh;obtain⟨K1,w1,a1,cs1,ms1,L⟩:=hR.code _ _ _ _ _ _ MV K w a b [] base cs [] M6 bW hs bA;simp only[dh,cX] at Bh;obtain⟨⟨r,hh⟩,Bh,rfl,rfl,rfl⟩:=Bh;have um:∃(todo:List Item) (u:FrameMode),qN K1 m0 u/\Steps P (lone (Frame.enter P g eU kind) cs w) (lone {b.atR a1 todo with mode:=u} cs1 w1):=by
     rw[IN];rcases zi with⟨rfl,rfl⟩|⟨rfl,rfl⟩|⟨x,rfl,rfl⟩
     ·exact⟨[],.returning,rfl,Steps.trans L.arr (.one (stepR_end hb))⟩
     ·obtain⟨todo,bZ⟩:=L.arr;exact⟨_,.returning,rfl,Steps.trans bZ (.one (stepR_ret hb))⟩
     ·obtain⟨todo,v,hx,bZ⟩:=L.arr;exact⟨todo,_,⟨rfl,v,hx,rfl⟩,bZ⟩
    obtain⟨todo,u,ru,bZ⟩:=um;obtain⟨K2,w2,fr,g1,g2,g3,g4,g5,g6,g7,g8⟩:=arY hR hp.names gG a1.defers e.defers ms1 m0 h1 r hh Bh K1 w1 {b.atR a1 todo with mode:=u} cs1 rfl rfl L.frame.defers L.frame.hD ru L.pW L.le
     (λr hr=>(L.marks r hr).resolve_left bh)
    exact⟨K2,w2,fr,cs1,fn,gG,g1,g2,g8 _ _ _ _ L.cs,bZ.trans g3,g4,g5,g6,g7⟩
   split at he
   ·rename_i e1 h1 hc;exact finish _ _ _ _ hc (.inl ⟨rfl,rfl⟩) he
   ·rename_i e1 h1 hc;exact finish _ _ _ _ hc (.inr (.inl ⟨rfl,rfl⟩)) he
   ·rename_i x e1 h1 hc;exact finish _ _ _ _ hc (.inr (.inr ⟨x,rfl,rfl⟩)) he
   ·cases he
def Es.anC{K:aS}{fn:Func}{fr:Frame}{w:World}{res:eK}(hg:Es P K fn fr w res)(hf:P.funcs[fr.fn]?=aa fn)(hk:fr.kind=.normal)(hd:fr.defers=[]):Rr P K fr w res:=by
 cases res with
 |ret x=>obtain⟨h1,v,h2,h3⟩:=hg;exact⟨v,h2,h1,hd,hk,fn,hf,h3⟩
 |panic x=>obtain⟨v,h2,h3⟩:=hg;exact⟨v,h2,h3,hd,fn,hf⟩
def rV(P:Program)(G:Nat->Option (List AV))(w0:World)(g:FuncId)(p:List AV->ak->Option (AV × ak)):Prop:=
 (∃fn,P.funcs[g]?=aa fn/\fn.body.isSome=ah)/\
 ∀args h x h',p args h=aa (x,h')->∀(K:aS) (w:World) (eU:Array Value),aM K args eU.toList->jT P G w0 K h w->
  Calls P g eU w λe w'=>∃v K',e=.returned v/\K.Le K'/\aT K' x v/\jT P G w0 K' h' w'
def agi(hp:Prog P){prims:FuncId->Option (List AV->ak->Option (AV × ak))}(nQ:∀g p,prims g=aa p->rV P G w0 g p)(hR:ve P G w0 R):Rt P G w0 (qk P G R prims):=by
 intro g args h r h' he;unfold qk at he;split at he
 ·rename_i p sH;simp only[dh,cX] at he;obtain⟨⟨x,hh⟩,hx,rfl,rfl⟩:=he;obtain⟨gG,ahk⟩:=nQ g p sH;refine⟨gG,λK w eU hv hs cs=>?_⟩;obtain⟨e,w',fr,⟨v,K',rfl,le,hx',s'⟩,hc,vH,hl⟩:=ahk args h x hh hx K w eU hv hs cs;exact⟨K',w',fr,le,s',hc,vH,v,hx',hl⟩
 ·simp only[dh,cX] at he;obtain⟨⟨r',m',hh⟩,hx,rfl,rfl⟩:=he;obtain⟨gG,hb⟩:=Sl hp hR hx;refine⟨gG,λK w eU hv hs cs=>?_⟩;obtain⟨K',w',fr,dB,fn,hf,le,s',c',bZ,hk,hd,hg,Nc⟩:=hb K w eU .normal cs cs hv (.normal rfl) hs;have:dB=cs:=by
   generalize hq:CallKind.normal=q at c';cases c' with|normal=>rfl|ret c0 rest h1=>exact absurd (hq.trans h1) bh|cD c0 rest x v r h1=>exact absurd (hq.trans h1) bh
  subst this;exact⟨K',w',fr,le,s',bZ,hg,Nc.anC (by rw[hg];exact hf) hk hd⟩
def ae5(hp:Prog P)(hR:ve P G w0 R):Rv P G w0 (qS P G R):=by intro g args m h x m' h' he;obtain⟨gG,hb⟩:=Sl hp hR he;refine⟨gG,λK w eU base cs hv bW hs=>?_⟩;obtain⟨K',w',fr,dB,fn,hf,le,s',c',bZ,hk,hd,hg,Nc⟩:=hb K w eU .deferred base cs hv bW hs;obtain⟨h1,v,h2,h3⟩:=Nc;exact⟨K',w',fr,dB,v,le,s',c',bZ,hk,h1,hd,fn,by rw[hg];exact hf,h3⟩
def apO{K}:∀{ps:List Tmp} {args:List AV} {eU:List Value} {s:oG} {tmps:Array Value},aM K args eU->lX K s tmps->(∀p∈ps,p<tmps.size)->
 lX K (Eb ps args s) ((ps.zip eU).foldl (λts p=>ts.setIfInBounds p.1 p.2) tmps)/\((ps.zip eU).foldl (λts p=>ts.setIfInBounds p.1 p.2) tmps).size=tmps.size:=by
 intro ps
 induction ps with
 |nil=>intro args eU s tmps hv hs hp;exact⟨hs,rfl⟩|cons p ps ih=>
  intro args eU s tmps hv hs hp;cases hv with
  |nil=>exact⟨hs,rfl⟩|cons x c xs cs hx Oc=>
   have h1:=lX.set hs (hp p fR) hx;obtain⟨i1,i2⟩:=ih (s:=s.set p x) (tmps:=tmps.setIfInBounds p c) Oc h1 (λq hq=>by simpa using hp q (fi _ hq));refine⟨?_,?_⟩
   ·simpa [Eb] using i1
   ·simpa using i2
def an6(hR:ve P G w0 R):Rw P G w0 (uQ R):=by
 intro l args h r h' he K w eU lg hγ hv hs rY cs;unfold uQ at he;split at he
 ·cases he
 ·rename_i rec zk;split at he
  ·rename_i ah8;obtain⟨mm,m1,m2,m3,m4,m5,m6,m7,m8,m9,m10,-⟩:=hs.eW hγ zk rec.state rec.pending;have vA:eU.size=mm.params.size:=(by rw[m4,ah8,hv.length];simp);have hy:=run_yield (P:=P) m1 vA;split at he
   ·rename_i e1 h1 ahd;split at he
    ·rename_i r1 xA;split at he
     ·rename_i ah5;obtain⟨sp1,sp2⟩:=apO (ps:=rec.params.toList) hv m7 m10;have M8:(mm.params.zip eU).foldl (λtmps (x:Tmp × Value)=>tmps.setIfInBounds x.1 x.2) mm.tmps=(rec.params.toList.zip eU.toList).foldl (λts p=>ts.setIfInBounds p.1 p.2) mm.tmps:=by rw[<-Array.foldl_toList,Array.toList_zip,m4]
      let b:Frame:={(default:Frame) with fn:=mm.fn,kind:=.normal,roundOf:=aa lg}
      let a:Act:={tmps:=(rec.params.toList.zip eU.toList).foldl (λts p=>ts.setIfInBounds p.1 p.2) mm.tmps,defers:=[]}
      have UK:(P.funcs[mm.fn]?).isSome=ah:=(by have:=m8;unfold DN at this;rw[bC] at this;exact this.2);have M6:mZ P K {tmps:=Eb rec.params.toList args rec.tmps,defers:=[],cD:=aq,round:=aa l} a b []:=
       ⟨sp1,.nil,⟨lg,hγ,rfl,rfl,rfl,rfl,rfl⟩,UK⟩
      have rv:codeOk a.tmps.size rec.assign=ah:=(by have:=m8;unfold DN at this;rw[bC] at this;show codeOk (ZL _) _=ah;rw[sp2];exact this.1);have Bb:codeOk a.tmps.size rec.body=ah:=(by have:=m9;unfold DN at this;rw[bC] at this;show codeOk (ZL _) _=ah;rw[sp2];exact this.1);have Dn:Frame.round lg mm.fn ((mm.params.zip eU).foldl (λtmps (x:Tmp × Value)=>tmps.setIfInBounds x.1 x.2) mm.tmps) mm.assign mm.body .normal=b.atR a [.code rec.assign,.beginRound,.code rec.body]:=(by simp only[Frame.round,Frame.atR,b,a,M8,m5,m6]);have nocs:∀{K:aS} {p:Option (AV × Bool)} {base dB:List Frame},CS K .normal base p dB->dB=base:=by
       intro K p base dB c;generalize hq:CallKind.normal=q at c;cases c with|normal=>rfl|ret c0 rest h1=>exact absurd (hq.trans h1) bh|cD c0 rest x v r h1=>exact absurd (hq.trans h1) bh
      obtain⟨K1,w1,a1,cs1,ms1,L1⟩:=hR.code _ _ _ _ _ _ ahd K w a b [.beginRound,.code rec.body] (rY::cs) (rY::cs) [] M6 (.normal rfl) hs rv;have aho:=nocs L1.cs;subst aho;obtain⟨nn,n1,n2,n3,n4,n5,n6,n7,n8,n9,n10,sbusy⟩:=L1.pW.eW (L1.le.γ _ _ hγ) xA .busy r1.pending;have ahg:=run_beginRound (P:=P) n1 (n2.trans ah5);have ahy:({nn with state:=.busy,pending:=r1.pending}:Loop)={nn with state:=.busy}:=(by rw[<-n3]);rw[ahy] at sbusy;have IZ:Steps P (lone (Frame.round lg mm.fn ((mm.params.zip eU).foldl (λtmps (x:Tmp × Value)=>tmps.setIfInBounds x.1 x.2) mm.tmps) mm.assign mm.body .normal) (rY::cs) w)
       (lone (b.atR a1 [.code rec.body]) (rY::cs) (w1.putObj lg (.loop {nn with state:=.busy}))):=by
       rw[Dn];exact Steps.trans L1.arr (.one (stepR_beginRound rfl ahg))
      have atc:∀r∈ms1,r∉K.md:=λr hr=>(L1.marks r hr).resolve_left bh;have body:∀(out:Xt) (e2:Env) (h2:ak),R.code rec.body e1 {h1 with loops:=h1.loops.set l {r1 with state:=.busy}}=aa (out,e2,h2)->
       ∃K2 w2 a2 ms2,K.Le K2/\jT P G w0 K2 h2 w2/\mZ P K2 e2 a2 b ms2/\nB P K2 (lone (b.atR a1 [.code rec.body]) (rY::cs) (w1.putObj lg (.loop {nn with state:=.busy}))) b [] (rY::cs) out a2 w2:=by
       intro out e2 h2 MV;obtain⟨K2,w2,a2,cs2,ms2,L2⟩:=hR.code _ _ _ _ _ _ MV K1 _ a1 b [] (rY::cs) (rY::cs) ms1 L1.frame L1.cs sbusy (by rw[L1.size];exact Bb);have MY:=nocs L2.cs;subst MY;exact⟨K2,w2,a2,ms2,L1.le.trans L2.le,L2.pW,L2.frame,L2.arr⟩
      have ending:∀(h2:ak) (out:eK) (hh:ak) (st:LoopState) (pe:Option Code) (bb:Bool) (K2:aS) (w2:World),K.Le K2->jT P G w0 K2 h2 w2->pe.isNone=bb->(if pe.isNone then LoopState.ready else .done)=st->
       ((h2.loops[l]?).map λr=>(eK.ret (.v (.bool bb)),{h2 with loops:=h2.loops.set l {r with state:=st,pending:=pe}}))=aa (out,hh)->
       ∃v w3,(Instr.endRound lg pe).run P w2=.ok (.bool bb) w3/\jT P G w0 K2 hh w3/\out=.ret (.v (.bool bb))/\aT K2 (.v (.bool bb)) v/\v=.bool bb:=by
       intro h2 out hh st pe bb K2 w2 le2 s2 tu bZ U2;simp only[dh,cX] at U2;obtain⟨r2,iS,rfl,rfl⟩:=U2;obtain⟨qq,q1,q2,q3,-,-,-,-,-,-,-,send⟩:=s2.eW (le2.γ _ _ hγ) iS st pe;have sw:=run_endRound (P:=P) pe q1;rw[bZ,tu] at sw;exact⟨_,_,sw,send,rfl,.v _ rfl,rfl⟩
      have ov:∀{K2:aS} {e2:Env} {a2:Act} {ms2:List Nat},mZ P K2 e2 a2 b ms2->e2.round=aa l->a2.defers=[]:=(by intro K2 e2 a2 ms2 hf hr;have:=hf.round;rw[hr] at this;obtain⟨_,_,_,_,h1,_⟩:=this;exact h1);refine⟨mm.fn,(mm.params.zip eU).foldl (λtmps (x:Tmp × Value)=>tmps.setIfInBounds x.1 x.2) mm.tmps,mm.assign,mm.body,?_⟩;split at he
      ·rename_i e2 h2 mD;obtain⟨K2,w2,a2,ms2,le2,s2,f2,um⟩:=body _ _ _ mD;obtain⟨v,w3,sw,s3,rfl,ie,rfl⟩:=ending h2 r h' .ready aq ah K2 w2 le2 s2 rfl rfl he;exact⟨K2,w3,hy,le2,s3,_,ie,IZ.trans (Steps.trans um (.one (stepR_round_end rfl rfl sw)))⟩
      ·rename_i e2 h2 mD;obtain⟨K2,w2,a2,ms2,le2,s2,f2,todo,um⟩:=body _ _ _ mD;obtain⟨v,w3,sw,s3,rfl,ie,rfl⟩:=ending h2 r h' .done (aa .ret) av K2 w2 le2 s2 rfl rfl he;exact⟨K2,w3,hy,le2,s3,_,ie,IZ.trans (um.trans (.one (stepR_round_ret rfl rfl sw)))⟩
      ·rename_i id e2 h2 mD;obtain⟨K2,w2,a2,ms2,le2,s2,f2,todo,pG,um⟩:=body _ _ _ mD;obtain⟨v,w3,sw,s3,rfl,ie,rfl⟩:=ending h2 r h' .done (aa (.exit id)) av K2 w2 le2 s2 rfl rfl he;exact⟨K2,w3,hy,le2,s3,_,ie,IZ.trans (um.trans (.one (stepR_round_exit rfl rfl (pG.trans rfl) sw)))⟩
      ·rename_i x e2 h2 mD;simp only[dA,cX] at he;obtain⟨rfl,rfl⟩:=he;obtain⟨K2,w2,a2,ms2,le2,s2,f2,todo,v,hx,um⟩:=body _ _ _ mD;have hd:a2.defers=[]:=by
        have:=f2.round;cases hq:e2.round with
        |none=>rw[hq] at this;cases this
        |some l'=>rw[hq] at this;obtain⟨_,_,_,_,h1,_⟩:=this;exact h1
       obtain⟨fnn,M7⟩:=Option.isSome_iff_exists.1 UK;exact⟨K2,w2,hy,le2,s2,v,_,hx,IZ.trans um,rfl,hd,fnn,M7⟩
      ·cases he
     ·cases he
    ·cases he
   ·cases he
  ·cases he
def JM(hp:Prog P){prims:FuncId->Option (List AV->ak->Option (AV × ak))}(nQ:∀g p,prims g=aa p->rV P G w0 g p):∀n,ve P G w0 (ig P G prims n):=by
 intro n
 induction n with
 |zero=>
  refine⟨?_,?_,?_,?_⟩
  ·intro c e h out e' h' he;cases he
  ·intro g args h r h' he;cases he
  ·intro g args m h x m' h' he;cases he
  ·intro l args h r h' he;cases he
 |succ n ih=>exact⟨aeo hp.names hp.mixed ih,agi hp nQ ih,ae5 hp ih,an6 ih⟩
end
end Go.AE
end
section
namespace Go.AE
structure nH(R R':Rec):Prop where
 code:∀c e h r,R.code c e h=aa r->R'.code c e h=aa r
 call:∀g a h r,R.call g a h=aa r->R'.call g a h=aa r
 jy:∀g a m h r,R.jy g a m h=aa r->R'.jy g a m h=aa r
 round:∀l a h r,R.round l a h=aa r->R'.round l a h=aa r
section
variable {P:Program} {G:Nat->Option (List AV)} {R R':Rec}
def adA(le:nH R R'){e:Env}{h:ak}{c:Call}{r:eK × ak}(hc:lE P R e h c=aa r):lE P R' e h c=aa r:=by
 unfold lE at hc ⊢;cases oo:c.callee with
 |builtin b=>rw[oo] at hc;cases hc
 |value f=>
  simp only[oo] at hc ⊢;split at hc
  ·rename_i h1;(try simp only[h1]);exact le.call _ _ _ _ hc
  ·rename_i h1;(try simp only[h1]);exact le.round _ _ _ _ hc
  ·cases hc
 |invoke v m=>
  simp only[oo] at hc ⊢;split at hc
  ·rename_i h1
   (try simp only[h1])
   split at hc
   ·rename_i h2;(try simp only[h2]);exact le.call _ _ _ _ hc
   ·cases hc
  ·cases hc
def DO(le:nH R R'){e:Env}{h:ak}{o:Oper}{r:eK × Env × ak}(ho:dO P G R e h o=aa r):dO P G R' e h o=aa r:=by
 unfold dO at ho ⊢;split at ho
 ·exact ho
 ·exact ho
 ·exact ho
 ·simp only[dh] at ho ⊢;obtain⟨q,hq,he⟩:=ho;exact⟨q,adA le hq,he⟩
 ·exact ho
 ·exact ho
 ·exact ho
def oy(le:nH R R'){ops:Array Oper}:∀{l:List Nat} {e:Env} {h:ak} {r:Xt × Env × ak},cV P G R ops l e h=aa r->cV P G R' ops l e h=aa r:=by
 intro l
 induction l with
 |nil=>intro e h r ho;exact ho|cons i l ih=>
  intro e h r ho;simp only[cV] at ho ⊢;cases FR:ops[i]? with
  |none=>rw[FR] at ho;cases ho
  |some o=>
   rw[FR] at ho;simp only at ho ⊢;cases hw:eY ops e o with
   |none=>rw[hw] at ho;cases ho
   |some b=>
    rw[hw] at ho;cases b with
    |false=>exact ih ho|true=>
     simp only at ho ⊢;cases bK:dO P G R e h o with
     |none=>rw[bK] at ho;cases ho
     |some q=>
      rw[bK] at ho;rw[DO le bK];obtain⟨r1,e1,h1⟩:=q;cases r1 with|ret x=>exact ih ho|panic x=>exact ho
def Kq(le:nH R R'){ops:Array Oper}{e:Env}{h:ak}{r m:Nat}(hs:oX P G R ops e h r m=ah):oX P G R' ops e h r m=ah:=by
 unfold oX at hs ⊢;split at hs
 ·rename_i o er hr em hm h1 h2 h3;rw[h1,oy le h2,oy le h3];exact hs
 ·cases hs
def Fa{ops:Array Oper}{e:Env}{h:ak}{k:Nat}:my P G R ops e h k=ah↔yH P G R ops e h k:=by unfold my;exact @decide_eq_true_iff _ (Classical.propDecidable _)
def H9(le:nH R R'){ops:Array Oper}{e:Env}{h:ak}{k:Nat}(hc:my P G R ops e h k=ah):my P G R' ops e h k=ah:=by rw[Fa] at hc ⊢;obtain⟨o,x,er,hr,h1,h2,h3,h4⟩:=hc;refine⟨o,x,er,hr,h1,h2,oy le h3,λm hm=>?_⟩;obtain⟨em,A7,h5,h6⟩:=h4 m hm;exact⟨em,A7,oy le h5,DO le h6⟩
def Ms(le:nH R R'){ops:Array Oper}{e:Env}{h:ak}(hs:l8 P G R ops e h=ah):l8 P G R' ops e h=ah:=by
 unfold l8 at hs ⊢;simp only[bC,dU,fY,tQ] at hs ⊢;refine⟨hs.1,λj hj i hi=>?_⟩;rcases hs.2 j hj i hi with((h1|h1)|h1)|h1
 ·exact .inl (.inl (.inl h1))
 ·exact .inl (.inl (.inr h1))
 ·refine .inl (.inr ?_);unfold lj at h1 ⊢;rw[bC] at h1 ⊢;refine⟨h1.1,?_⟩;have h2:=h1.2;split at h2
  ·rename_i hx hy;(try simp only[hx,hy]);exact Kq le h2
  ·rename_i hx hy;(try simp only[hx,hy]);exact Kq le h2
  ·cases h2
 ·exact .inr ⟨h1.1,h1.2.imp (H9 le) (H9 le)⟩
def WN(le:nH R R'){ops:Array Oper}{e:Env}{h:ak}{i:Nat}(hs:rJ P G R ops e h i=ah):rJ P G R' ops e h i=ah:=by
 unfold rJ at hs ⊢;split at hs
 ·rename_i h1 h2;rw[oy le h1,oy le h2];exact hs
 ·cases hs
def stores_le(le:nH R R'){ops:Array Oper}{e:Env}{h:ak}(D:sT P G R ops e h=ah):sT P G R' ops e h=ah:=by obtain⟨i,h1,h2,h3,h4⟩:=stores_cases D;exact stores_of h1 h2 (WN le h3) (Ms le h4)
def any_le(le:nH R R'){ops:Array Oper}{e:Env}{h:ak}(D:(l8 P G R ops e h||sT P G R ops e h)=ah):(l8 P G R' ops e h||sT P G R' ops e h)=ah:=by
 rcases (tQ _ _).mp D with q|q
 ·rw[Ms le q];rfl
 ·rw[stores_le le q,QL]
def SU(le:nH R R'){c:Code}{e:Env}{h:ak}{r:Xt × Env × ak}(hc:ff P G R c e h=aa r):ff P G R' c e h=aa r:=by
 cases c with
 |region id ops draw=>
  cases draw with
  |false=>simp only[ff,jG,if_false] at hc ⊢;exact oy le hc|true=>
   simp only[ff,if_true] at hc ⊢;split at hc
   ·rename_i hf;split at hc
    ·rename_i h1;rw[aF (any_le le hf)];simp only[oy le h1];exact hc
    ·cases hc
   ·cases hc
 |seq a b=>
  simp only[ff] at hc ⊢;cases ha:R.code a e h with
  |none=>rw[ha] at hc;cases hc
  |some q=>
   rw[ha] at hc;rw[le.code _ _ _ _ ha];obtain⟨o,e1,h1⟩:=q;cases o with|normal=>exact le.code _ _ _ _ hc|_=>exact hc
 |scope a=>simp only[ff] at hc ⊢;exact le.code _ _ _ _ hc|cond q a b=>
  simp only[ff] at hc ⊢;split at hc
  ·rename_i h1;(try simp only[h1]);exact le.code _ _ _ _ hc
  ·rename_i h1;(try simp only[h1]);exact le.code _ _ _ _ hc
  ·cases hc
 |block id a=>
  simp only[ff] at hc ⊢;cases ha:R.code a e h with
  |none=>rw[ha] at hc;cases hc
  |some q=>rw[ha] at hc;rw[le.code _ _ _ _ ha];exact hc
 |loop a=>
  simp only[ff] at hc ⊢;cases ha:R.code a e h with
  |none=>rw[ha] at hc;cases hc
  |some q=>
   rw[ha] at hc;rw[le.code _ _ _ _ ha];obtain⟨o,e1,h1⟩:=q;cases o with|normal=>exact le.code _ _ _ _ hc|_=>exact hc
 |rangeFunc f ps a b=>
  simp only[ff] at hc ⊢;split at hc
  ·rename_i g first aB sC
   (try simp only[sC])
   generalize dC:R.call g _ _=q at hc;cases q with
   |none=>cases hc
   |some q=>rw[le.call _ _ _ _ dC];exact hc
  ·cases hc
 |_=>exact hc
def QA(le:nH R R'){fn:Func}{e:Env}:∀{ds:List (FuncId × List AV)} {m:Option (AV × Bool)} {h:ak} {r:eK × ak},gM P G R fn e ds m h=aa r->gM P G R' fn e ds m h=aa r:=by
 intro ds
 induction ds with
 |nil=>intro m h r hu;cases m<;>exact hu
 |cons d ds ih=>
  intro m h r hu;obtain⟨g,args⟩:=d;simp only[gM] at hu ⊢;cases hd:R.jy g args m h with
  |none=>rw[hd] at hu;cases hu
  |some q=>
   rw[hd] at hu;rw[le.jy _ _ _ _ _ hd];obtain⟨r1,m1,h1⟩:=q;cases r1 with
   |panic x=>exact hu|ret x=>
    rcases m1 with _|⟨y,b⟩
    ·exact ih hu
    ·cases b<;>exact ih hu
def LW(le:nH R R'){g:FuncId}{args:List AV}{m:Option (AV × Bool)}{h:ak}{r:eK × Option (AV × Bool) × ak}(hb:qS P G R g args m h=aa r):qS P G R' g args m h=aa r:=by
 unfold qS at hb ⊢;split at hb
 ·cases hb
 ·rename_i fn gG;rw[gG] at *
  simp only;split at hb
  ·cases hb
  ·rename_i body mD;rw[mD] at *
   (try simp only)
   generalize AT:R.code body _ h=q at hb;cases q with
   |none=>cases hb
   |some q=>
    rw[le.code _ _ _ _ AT];obtain⟨o,e1,h1⟩:=q;cases o with
    |exit id=>cases hb
    |_=>simp only[dh] at hb ⊢;obtain⟨q,hq,he⟩:=hb;exact⟨q,QA le hq,he⟩
def TR(le:nH R R'){prims:FuncId->Option (List AV->ak->Option (AV × ak))}{g:FuncId}{args:List AV}{h:ak}{r:eK × ak}(hb:qk P G R prims g args h=aa r):qk P G R' prims g args h=aa r:=by
 unfold qk at hb ⊢;split at hb
 ·exact hb
 ·simp only[dh] at hb ⊢;obtain⟨q,hq,he⟩:=hb;exact⟨q,LW le hq,he⟩
def XN(le:nH R R'){l:Nat}{args:List AV}{h:ak}{r:eK × ak}(hb:uQ R l args h=aa r):uQ R' l args h=aa r:=by
 unfold uQ at hb ⊢;split at hb
 ·cases hb
 ·split at hb
  ·rename_i dH;simp only[dH,if_true];split at hb
   ·rename_i e1 h1 ha;simp only[le.code _ _ _ _ ha];split at hb
    ·rename_i r2 iS;split at hb
     ·rename_i bZ;simp only[bZ,if_true];generalize AT:R.code _ e1 _=q at hb;cases q with
      |none=>cases hb
      |some q=>rw[le.code _ _ _ _ AT];exact hb
     ·cases hb
    ·cases hb
   ·cases hb
  ·cases hb
variable {prims:FuncId->Option (List AV->ak->Option (AV × ak))}
def Gx(n:Nat):nH (ig P G prims n) (ig P G prims (n+1)):=by
 induction n with
 |zero=>
  refine⟨?_,?_,?_,?_⟩
  ·intro c e h r hh;cases hh
  ·intro g a h r hh;cases hh
  ·intro g a m h r hh;cases hh
  ·intro l a h r hh;cases hh
 |succ n ih=>exact⟨λc e h r hh=>SU ih hh,λg a h r hh=>TR ih hh,λg a m h r hh=>LW ih hh,λl a h r hh=>XN ih hh⟩
def iV{n m:Nat}(h:n<=m):nH (ig P G prims n) (ig P G prims m):=by
 induction m with
 |zero=>rw[Nat.le_zero.1 h];exact⟨λ_ _ _ _ h=>h,λ_ _ _ _ h=>h,λ_ _ _ _ _ h=>h,λ_ _ _ _ h=>h⟩|succ m ih=>
  rcases dI n (m+1) with aA|dM
  ·have h1:=ih (Ab.1 aA);have h2:=Gx (P:=P) (G:=G) (prims:=prims) m;exact⟨λc e h r hh=>h2.code _ _ _ _ (h1.code _ _ _ _ hh),λg a h r hh=>h2.call _ _ _ _ (h1.call _ _ _ _ hh),λg a m h r hh=>h2.jy _ _ _ _ _ (h1.jy _ _ _ _ _ hh),λl a h r hh=>h2.round _ _ _ _ (h1.round _ _ _ _ hh)⟩
  ·rw[Aa h dM];exact⟨λ_ _ _ _ h=>h,λ_ _ _ _ h=>h,λ_ _ _ _ _ h=>h,λ_ _ _ _ h=>h⟩
end
noncomputable def zr{α:Type}(f:Nat->Option α):Option α:=by
 classical
 exact if h:∃r n,f n=aa r then aa h.choose else aq
def Jq{α}{f}(hm:∀n m r,n<=m->f n=aa r->f m=aa r){n}{r:α}(h:f n=aa r):zr f=aa r:=by unfold zr;have pG:∃r n,f n=aa r:=⟨r,n,h⟩;rw[dif_pos pG];obtain⟨m,tx⟩:=pG.choose_spec;have h1:=hm _ _ _ (EO n m) h;have h2:=hm _ _ _ (Ci n m) tx;rw[h1] at h2;exact h2.symm
def lO{α}{f}{r:α}(h:zr f=aa r):∃n,f n=aa r:=by
 unfold zr at h;split at h
 ·rename_i pG;injection h with h;rw[<-h];exact pG.choose_spec
 ·cases h
section
variable (P:Program) (G:Nat->Option (List AV)) (prims:FuncId->Option (List AV->ak->Option (AV × ak)))
noncomputable def whole:Rec where
 code c e h:=zr λn=>(ig P G prims n).code c e h
 call g a h:=zr λn=>(ig P G prims n).call g a h
 jy g a m h:=zr λn=>(ig P G prims n).jy g a m h
 round l a h:=zr λn=>(ig P G prims n).round l a h
end
section
variable {P:Program} {G:Nat->Option (List AV)} {prims:FuncId->Option (List AV->ak->Option (AV × ak))}
def zI(n:Nat):nH (ig P G prims n) (whole P G prims):=
 ⟨λ_ _ _ _ h=>Jq (λ_ _ _ hl hh=>(iV hl).code _ _ _ _ hh) h,λ_ _ _ _ h=>Jq (λ_ _ _ hl hh=>(iV hl).call _ _ _ _ hh) h,
  λ_ _ _ _ _ h=>Jq (λ_ _ _ hl hh=>(iV hl).jy _ _ _ _ _ hh) h,λ_ _ _ _ h=>Jq (λ_ _ _ hl hh=>(iV hl).round _ _ _ _ hh) h⟩
def QE{w0:World}(hp:Prog P)(nQ:∀g p,prims g=aa p->rV P G w0 g p):ve P G w0 (whole P G prims):=by
 refine⟨?_,?_,?_,?_⟩
 ·intro c e h out e' h' he;obtain⟨n,hn⟩:=lO he;exact(JM hp nQ n).code c e h out e' h' hn
 ·intro g args h r h' he;obtain⟨n,hn⟩:=lO he;exact(JM hp nQ n).call g args h r h' hn
 ·intro g args m h x m' h' he;obtain⟨n,hn⟩:=lO he;exact(JM hp nQ n).jy g args m h x m' h' hn
 ·intro l args h r h' he;obtain⟨n,hn⟩:=lO he;exact(JM hp nQ n).round l args h r h' hn
def two{α β:Type}{f:Nat->Option α}{g:Nat->Option β}{a}{b}(hf:∀n m r,n<=m->f n=aa r->f m=aa r)(hg:∀n m r,n<=m->g n=aa r->g m=aa r)(h1:∃n,f n=aa a)(h2:∃n,g n=aa b):
 ∃n,f n=aa a/\g n=aa b:=by
 obtain⟨n,h1⟩:=h1;obtain⟨m,h2⟩:=h2;exact⟨max n m,hf _ _ _ (EO _ _) h1,hg _ _ _ (Ci _ _) h2⟩
def adz{e:Env}{h:ak}{c:Call}{r:eK × ak}(hc:lE P (whole P G prims) e h c=aa r):∃n,lE P (ig P G prims n) e h c=aa r:=by
 unfold lE at hc ⊢;cases oo:c.callee with
 |builtin b=>rw[oo] at hc;cases hc
 |value f=>
  simp only[oo] at hc ⊢;split at hc
  ·exact lO hc
  ·exact lO hc
  ·cases hc
 |invoke v m=>
  simp only[oo] at hc ⊢;split at hc
  ·split at hc
   ·rename_i h2;(try simp only[h2]);exact lO hc
   ·cases hc
  ·cases hc
def WH{e:Env}{h:ak}{o:Oper}{r:eK × Env × ak}(ho:dO P G (whole P G prims) e h o=aa r):∃n,dO P G (ig P G prims n) e h o=aa r:=by
 unfold dO at ho ⊢;split at ho
 ·exact⟨0,ho⟩
 ·exact⟨0,ho⟩
 ·exact⟨0,ho⟩
 ·simp only[dh] at ho ⊢;obtain⟨q,hq,he⟩:=ho;obtain⟨n,hn⟩:=adz hq;exact⟨n,q,hn,he⟩
 ·exact⟨0,ho⟩
 ·exact⟨0,ho⟩
 ·exact⟨0,ho⟩
def zy{ops:Array Oper}:∀{l:List Nat} {e:Env} {h:ak} {r:Xt × Env × ak},cV P G (whole P G prims) ops l e h=aa r->∃n,cV P G (ig P G prims n) ops l e h=aa r:=by
 intro l
 induction l with
 |nil=>intro e h r ho;exact⟨0,ho⟩|cons i l ih=>
  intro e h r ho;simp only[cV] at ho ⊢;cases FR:ops[i]? with
  |none=>rw[FR] at ho;cases ho
  |some o=>
   rw[FR] at ho;simp only at ho ⊢;cases hw:eY ops e o with
   |none=>rw[hw] at ho;cases ho
   |some b=>
    rw[hw] at ho;cases b with
    |false=>exact ih ho|true=>
     simp only at ho ⊢;cases bK:dO P G (whole P G prims) e h o with
     |none=>rw[bK] at ho;cases ho
     |some q=>
      rw[bK] at ho;have h1:=WH bK;obtain⟨r1,e1,nN⟩:=q;cases r1 with
      |panic x=>obtain⟨n,hn⟩:=h1;exact⟨n,by rw[hn];exact ho⟩
      |ret x=>obtain⟨n,h1,h2⟩:=two (λ_ _ _ hl hh=>DO (iV hl) hh) (λ_ _ _ hl hh=>oy (iV hl) hh) h1 (ih ho);exact⟨n,by rw[h1];exact h2⟩
def YU{ops:Array Oper}{e:Env}{h:ak}{r m:Nat}(hs:oX P G (whole P G prims) ops e h r m=ah):∃n,oX P G (ig P G prims n) ops e h r m=ah:=by
 unfold oX at hs ⊢;split at hs
 ·rename_i o er hr em hm h1 h2 h3;obtain⟨n,h2,h3⟩:=two (λ_ _ _ hl hh=>oy (iV hl) hh) (λ_ _ _ hl hh=>oy (iV hl) hh) (zy h2) (zy h3);refine⟨n,?_⟩;rw[h1,h2,h3];exact hs
 ·cases hs
def many{p:Nat->Nat->Prop}(hm:∀i n m,n<=m->p i n->p i m):∀k,(∀i,i<k->∃n,p i n)->∃n,∀i,i<k->p i n:=by
 intro k
 induction k with
 |zero=>intro _;exact⟨0,λi hi=>absurd hi (Nat.not_lt_zero i)⟩|succ k ih=>
  intro h;obtain⟨n,hn⟩:=ih λi hi=>h i (u6 hi);obtain⟨m,tx⟩:=h k (Nat.lt_succ_self k);refine⟨max n m,λi hi=>?_⟩;rcases dI i k with aA|dM
  ·exact hm _ _ _ (EO _ _) (hn i aA)
  ·rw[Aa (Ab.1 hi) dM];exact hm _ _ _ (Ci _ _) tx
def aqC{R R':Rec}(le:nH R R'){ops:Array Oper}{e:Env}{h:ak}{i j:Nat}(h1:lj P G R ops e h i j=ah):lj P G R' ops e h i j=ah:=by
 unfold lj at h1 ⊢;rw[bC] at h1 ⊢;refine⟨h1.1,?_⟩;have h2:=h1.2;split at h2
 ·rename_i hx hy;(try simp only[hx,hy]);exact Kq le h2
 ·rename_i hx hy;(try simp only[hx,hy]);exact Kq le h2
 ·cases h2
def aqB{ops:Array Oper}{e:Env}{h:ak}{i j:Nat}(h1:lj P G (whole P G prims) ops e h i j=ah):∃n,lj P G (ig P G prims n) ops e h i j=ah:=by
 unfold lj at h1 ⊢;rw[bC] at h1;have h2:=h1.2;split at h2
 ·rename_i hx hy;obtain⟨n,hn⟩:=YU h2;exact⟨n,by rw[bC];exact⟨h1.1,by(try simp only[hx,hy]);exact hn⟩⟩
 ·rename_i hx hy;obtain⟨n,hn⟩:=YU h2;exact⟨n,by rw[bC];exact⟨h1.1,by(try simp only[hx,hy]);exact hn⟩⟩
 ·cases h2
def SB{ops:Array Oper}{e:Env}{h:ak}{k:Nat}(hc:my P G (whole P G prims) ops e h k=ah):∃n,my P G (ig P G prims n) ops e h k=ah:=by
 rw[Fa] at hc;obtain⟨o,x,er,hr,h1,h2,h3,h4⟩:=hc;obtain⟨n0,h3⟩:=zy h3;have key:∀m,m<ops.size+1->∃n,∃em hm,cV P G (ig P G prims n) ops (bO m) e h=aa (.normal,em,hm)/\dO P G (ig P G prims n) er hm o=aa (.ret x,er,hm):=by intro m hm;obtain⟨em,A7,h5,h6⟩:=h4 m (Ab.1 hm);obtain⟨n,q1,q2⟩:=two (λ_ _ _ hl hh=>oy (iV hl) hh) (λ_ _ _ hl hh=>DO (iV hl) hh) (zy h5) (WH h6);exact⟨n,em,A7,q1,q2⟩
 obtain⟨n1,hn⟩:=many (p:=λm n=>∃em hm,cV P G (ig P G prims n) ops (bO m) e h=aa (.normal,em,hm)/\dO P G (ig P G prims n) er hm o=aa (.ret x,er,hm))
  (λm n n' hl ⟨em,hm,q1,q2⟩=>⟨em,hm,oy (iV hl) q1,DO (iV hl) q2⟩) (ops.size+1) key
 refine⟨max n0 n1,?_⟩;rw[Fa];refine⟨o,x,er,hr,h1,h2,oy (iV (EO _ _)) h3,λm hm=>?_⟩;obtain⟨em,A7,q1,q2⟩:=hn m (Ab.2 hm);exact⟨em,A7,oy (iV (Ci _ _)) q1,DO (iV (Ci _ _)) q2⟩
noncomputable def xU(P:Program)(G:Nat->Option (List AV))(R:Rec)(ops:Array Oper)(e:Env)(h:ak)(i j:Nat):Bool:=
 ((Region.before ops).getD j 0).testBit i||xX ops i j||lj P G R ops e h i j||(oJ ops i j&&(my P G R ops e h i||my P G R ops e h j))
def WQ{R R':Rec}(le:nH R R'){ops:Array Oper}{e:Env}{h:ak}{i j:Nat}(hp:xU P G R ops e h i j=ah):xU P G R' ops e h i j=ah:=by
 unfold xU at hp ⊢;simp only[tQ,bC] at hp ⊢;rcases hp with(h1|h1)|h1
 ·exact .inl (.inl h1)
 ·exact .inl (.inr (aqC le h1))
 ·exact .inr ⟨h1.1,h1.2.imp (H9 le) (H9 le)⟩
def akL{ops:Array Oper}{e:Env}{h:ak}{i j:Nat}(hp:xU P G (whole P G prims) ops e h i j=ah):∃n,xU P G (ig P G prims n) ops e h i j=ah:=by
 unfold xU at hp ⊢;simp only[tQ,bC] at hp ⊢;rcases hp with(h1|h1)|⟨h1,h2|h2⟩
 ·exact⟨0,.inl (.inl h1)⟩
 ·obtain⟨n,hn⟩:=aqB h1;exact⟨n,.inl (.inr hn)⟩
 ·obtain⟨n,hn⟩:=SB h2;exact⟨n,.inr ⟨h1,.inl hn⟩⟩
 ·obtain⟨n,hn⟩:=SB h2;exact⟨n,.inr ⟨h1,.inr hn⟩⟩
def Ty{ops:Array Oper}{e:Env}{h:ak}(hs:l8 P G (whole P G prims) ops e h=ah):∃n,l8 P G (ig P G prims n) ops e h=ah:=by
 unfold l8 at hs ⊢;simp only[bC,dU,fY] at hs ⊢;obtain⟨h1,h2⟩:=hs;have key:∀j,j<ops.size->∃n,∀i,i<j->xU P G (ig P G prims n) ops e h i j=ah:=by intro j hj;exact many (p:=λi n=>xU P G (ig P G prims n) ops e h i j=ah) (λi n m hl=>WQ (iV hl)) j λi hi=>akL (h2 j hj i hi)
 obtain⟨n,hn⟩:=many (p:=λj n=>∀i,i<j->xU P G (ig P G prims n) ops e h i j=ah) (λj n m hl hh i hi=>WQ (iV hl) (hh i hi)) ops.size key;exact⟨n,h1,hn⟩
def akI{ops:Array Oper}{e:Env}{h:ak}{i:Nat}(hs:rJ P G (whole P G prims) ops e h i=ah):∃n,rJ P G (ig P G prims n) ops e h i=ah:=by
 unfold rJ at hs ⊢;split at hs
 ·rename_i h1 h2;obtain⟨n,h1,h2⟩:=two (λ_ _ _ hl hh=>oy (iV hl) hh) (λ_ _ _ hl hh=>oy (iV hl) hh) (zy h1) (zy h2);refine⟨n,?_⟩;rw[h1,h2];exact hs
 ·cases hs
def stores_fin{ops:Array Oper}{e:Env}{h:ak}(D:sT P G (whole P G prims) ops e h=ah):∃n,sT P G (ig P G prims n) ops e h=ah:=by obtain⟨i,h1,h2,h3,h4⟩:=stores_cases D;obtain⟨n,hn⟩:=Ty h4;obtain⟨m,hm⟩:=akI h3;exact⟨max n m,stores_of h1 h2 (WN (iV (Ci n m)) hm) (Ms (iV (EO n m)) hn)⟩
def aen{c:Code}{e:Env}{h:ak}{r:Xt × Env × ak}(hc:ff P G (whole P G prims) c e h=aa r):∃n,ff P G (ig P G prims n) c e h=aa r:=by
 cases c with
 |region id ops draw=>
  cases draw with
  |false=>simp only[ff,jG,if_false] at hc ⊢;exact zy hc|true=>
   simp only[ff,if_true] at hc ⊢;split at hc
   ·rename_i hf;split at hc
    ·rename_i h1;obtain⟨n,hn⟩:∃n,(l8 P G (ig P G prims n) ops e h||sT P G (ig P G prims n) ops e h)=ah:=by
      rcases (tQ _ _).mp hf with q|q
      ·obtain⟨n,hn⟩:=Ty q;exact⟨n,by rw[hn];rfl⟩
      ·obtain⟨n,hn⟩:=stores_fin q;exact⟨n,by rw[hn,QL]⟩
     obtain⟨m,hm⟩:=zy h1;refine⟨max n m,?_⟩;rw[aF (any_le (iV (EO n m)) hn)];simp only[oy (iV (Ci n m)) hm];exact hc
    ·cases hc
   ·cases hc
 |seq a b=>
  simp only[ff] at hc ⊢;cases ha:(whole P G prims).code a e h with
  |none=>rw[ha] at hc;cases hc
  |some q=>
   rw[ha] at hc;have h1:=lO ha;obtain⟨o,e1,nN⟩:=q;by_cases iG:o=.normal
   ·subst iG;obtain⟨n,h1,h2⟩:=two (λ_ _ _ hl hh=>(iV hl).code _ _ _ _ hh) (λ_ _ _ hl hh=>(iV hl).code _ _ _ _ hh) h1 (lO hc);exact⟨n,by rw[h1];exact h2⟩
   ·obtain⟨n,h1⟩:=h1;refine⟨n,?_⟩;rw[h1];cases o<;>first|exact absurd rfl iG|exact hc
 |scope a=>simp only[ff] at hc ⊢;exact lO hc|cond q a b=>
  simp only[ff] at hc ⊢;split at hc
  ·exact lO hc
  ·exact lO hc
  ·cases hc
 |block id a=>
  simp only[ff] at hc ⊢;cases ha:(whole P G prims).code a e h with
  |none=>rw[ha] at hc;cases hc
  |some q=>rw[ha] at hc;obtain⟨n,h1⟩:=lO ha;exact⟨n,by rw[h1];exact hc⟩
 |loop a=>
  simp only[ff] at hc ⊢;cases ha:(whole P G prims).code a e h with
  |none=>rw[ha] at hc;cases hc
  |some q=>
   rw[ha] at hc;have h1:=lO ha;obtain⟨o,e1,nN⟩:=q;by_cases iG:o=.normal
   ·subst iG;obtain⟨n,h1,h2⟩:=two (λ_ _ _ hl hh=>(iV hl).code _ _ _ _ hh) (λ_ _ _ hl hh=>(iV hl).code _ _ _ _ hh) h1 (lO hc);exact⟨n,by rw[h1];exact h2⟩
   ·obtain⟨n,h1⟩:=h1;refine⟨n,?_⟩;rw[h1];cases o<;>first|exact absurd rfl iG|exact hc
 |rangeFunc f ps a b=>
  simp only[ff] at hc ⊢;split at hc
  ·generalize dC:(whole P G prims).call _ _ _=q at hc;cases q with
   |none=>cases hc
   |some q=>obtain⟨n,hn⟩:=lO dC;exact⟨n,by rw[hn];exact hc⟩
  ·cases hc
 |_=>exact⟨0,hc⟩
def arU{fn:Func}{e:Env}:∀{ds:List (FuncId × List AV)} {m:Option (AV × Bool)} {h:ak} {r:eK × ak},gM P G (whole P G prims) fn e ds m h=aa r->∃n,gM P G (ig P G prims n) fn e ds m h=aa r:=by
 intro ds
 induction ds with
 |nil=>intro m h r hu;exact⟨0,by cases m<;>exact hu⟩
 |cons d ds ih=>
  intro m h r hu;obtain⟨g,args⟩:=d;simp only[gM] at hu ⊢;cases hd:(whole P G prims).jy g args m h with
  |none=>rw[hd] at hu;cases hu
  |some q=>
   rw[hd] at hu;have h1:=lO hd;obtain⟨r1,m1,nN⟩:=q;cases r1 with
   |panic x=>simp at hu|ret x=>
    have fin:∀m2,gM P G (whole P G prims) fn e ds m2 nN=aa r->∃n,(ig P G prims n).jy g args m h=aa (.ret x,m1,nN)/\gM P G (ig P G prims n) fn e ds m2 nN=aa r:=λm2 hu=>
     two (λ_ _ _ hl hh=>(iV hl).jy _ _ _ _ _ hh) (λ_ _ _ hl hh=>QA (iV hl) hh) h1 (ih hu)
    rcases m1 with _|⟨y,b⟩
    ·obtain⟨n,h1,h2⟩:=fin _ hu;exact⟨n,by rw[h1];exact h2⟩
    ·cases b with
     |true=>obtain⟨n,h1,h2⟩:=fin _ hu;exact⟨n,by rw[h1];exact h2⟩
     |false=>obtain⟨n,h1,h2⟩:=fin _ hu;exact⟨n,by rw[h1];exact h2⟩
def Sk{g:FuncId}{args:List AV}{m:Option (AV × Bool)}{h:ak}{r:eK × Option (AV × Bool) × ak}(hb:qS P G (whole P G prims) g args m h=aa r):∃n,qS P G (ig P G prims n) g args m h=aa r:=by
 unfold qS at hb ⊢;split at hb
 ·cases hb
 ·rename_i fn gG;simp only[gG];split at hb
  ·cases hb
  ·rename_i body mD
   (try simp only[mD])
   generalize AT:(whole P G prims).code body _ h=q at hb;cases q with
   |none=>cases hb
   |some q=>
    have h1:=lO AT;obtain⟨o,e1,nN⟩:=q;cases o with
    |exit id=>cases hb
    |_=>simp only[dh] at hb;obtain⟨q,hq,he⟩:=hb;obtain⟨n,h1,h2⟩:=two (λ_ _ _ hl hh=>(iV hl).code _ _ _ _ hh) (λ_ _ _ hl hh=>QA (iV hl) hh) h1 (arU hq);exact⟨n,by rw[h1];simp only[h2,eJ,he]⟩
def agh{g:FuncId}{args:List AV}{h:ak}{r:eK × ak}(hb:qk P G (whole P G prims) prims g args h=aa r):∃n,qk P G (ig P G prims n) prims g args h=aa r:=by
 unfold qk at hb ⊢;split at hb
 ·exact⟨0,hb⟩
 ·simp only[dh] at hb ⊢;obtain⟨q,hq,he⟩:=hb;obtain⟨n,hn⟩:=Sk hq;exact⟨n,q,hn,he⟩
def an3{l:Nat}{args:List AV}{h:ak}{r:eK × ak}(hb:uQ (whole P G prims) l args h=aa r):∃n,uQ (ig P G prims n) l args h=aa r:=by
 unfold uQ at hb ⊢;split at hb
 ·cases hb
 ·rename_i rc hrc
  (try simp only[hrc])
  split at hb
  ·rename_i dH;simp only[dH,if_true];split at hb
   ·rename_i e1 h1 ha;split at hb
    ·rename_i r2 iS;split at hb
     ·rename_i bZ;generalize AT:(whole P G prims).code _ e1 _=q at hb;cases q with
      |none=>cases hb
      |some q=>obtain⟨n,g1,g2⟩:=two (λ_ _ _ hl hh=>(iV hl).code _ _ _ _ hh) (λ_ _ _ hl hh=>(iV hl).code _ _ _ _ hh) (lO ha) (lO AT);exact⟨n,by rw[g1];simp only[iS,bZ,if_true];rw[g2];exact hb⟩
     ·cases hb
    ·cases hb
   ·cases hb
  ·cases hb
def JD{α:Type}{a b:Option α}(h1:∀r,a=aa r->b=aa r)(h2:∀r,b=aa r->a=aa r):a=b:=by
 cases ha:a with
 |some r=>exact(h1 r ha).symm|none=>
  cases hb:b with|none=>rfl|some r=>rw[h2 r hb] at ha;cases ha
def qK(c:Code)(e:Env)(h:ak):(whole P G prims).code c e h=ff P G (whole P G prims) c e h:=
 JD (λr hr=>by
  obtain⟨n,hn⟩:=lO hr;have:=(Gx (P:=P) (G:=G) (prims:=prims) n).code c e h r hn;exact SU (zI n) this)
  (λr hr=>by obtain⟨n,hn⟩:=aen hr;exact(zI (n+1)).code c e h r hn)
def Hr(g:FuncId)(a:List AV)(h:ak):(whole P G prims).call g a h=qk P G (whole P G prims) prims g a h:=
 JD (λr hr=>by
  obtain⟨n,hn⟩:=lO hr;have:=(Gx (P:=P) (G:=G) (prims:=prims) n).call g a h r hn;exact TR (zI n) this)
  (λr hr=>by obtain⟨n,hn⟩:=agh hr;exact(zI (n+1)).call g a h r hn)
def asj(g:FuncId)(a:List AV)(m:Option (AV × Bool))(h:ak):(whole P G prims).jy g a m h=qS P G (whole P G prims) g a m h:=
 JD (λr hr=>by
  obtain⟨n,hn⟩:=lO hr;have:=(Gx (P:=P) (G:=G) (prims:=prims) n).jy g a m h r hn;exact LW (zI n) this)
  (λr hr=>by obtain⟨n,hn⟩:=Sk hr;exact(zI (n+1)).jy g a m h r hn)
def asl(l:Nat)(a:List AV)(h:ak):(whole P G prims).round l a h=uQ (whole P G prims) l a h:=
 JD (λr hr=>by
  obtain⟨n,hn⟩:=lO hr;have:=(Gx (P:=P) (G:=G) (prims:=prims) n).round l a h r hn;exact XN (zI n) this)
  (λr hr=>by obtain⟨n,hn⟩:=an3 hr;exact(zI (n+1)).round l a h r hn)
end
end Go.AE
end
section
namespace Go.AE
def Env.st(e:Env)(d:Nat)(x:AV):Env:={e with tmps:=e.tmps.set d x}
def alS(e:Env)(d:Nat)(x):e.put (aa d) x=e.st d x:=rfl
def alQ(e:Env)(x):e.put aq x=e:=rfl
def Kp(e:Env)(d t)(x):(e.st d x).get t=if d=t then x else e.get t:=DH e.tmps d t x
def aqx(e:Env)(d)(x):(e.st d x).defers=e.defers:=rfl
def aqy(e:Env)(d)(x):(e.st d x).cD=e.cD:=rfl
def YS(e:Env)(d)(x):(e.st d x).round=e.round:=rfl
def Env.start(args:List AV)(p:Option (AV × Bool)):Env:={tmps:={ch:=[],base:=args},defers:=[],cD:=p,round:=aq}
def aqG(args)(p)(t):(Env.start args p).get t=args.getD t (.tuple []):=rfl
def aqF(args)(p):(Env.start args p).defers=[]:=rfl
def aqH(args)(p):(Env.start args p).cD=p:=rfl
def Qh(args)(p):(Env.start args p).round=aq:=rfl
def Ax(e:Env)(t:Nat):e.eval (.tmp t)=e.get t:=rfl
def eval_const(e:Env)(v):e.eval (.const v)=rG v:=rfl
def eval_func(e:Env)(f):e.eval (.func f)=.func (.func f) [] []:=rfl
def eval_global(e:Env)(g):e.eval (.global g)=.ptr (.eD g) 0:=rfl
def akk(k)(n):rG (.int k n)=.v (.int k n):=rfl
def akj(b):rG (.bool b)=.v (.bool b):=rfl
def akp(s):rG (.string s)=.v (.string s):=rfl
def akm:rG .nilIface=.v .nilIface:=rfl
def akl:rG .nilFunc=.v .nilFunc:=rfl
def akn:rG (.pointer aq)=.v (.pointer aq):=rfl
def ako:rG (.slice aq 0 0)=.list .nil 0 []:=rfl
def aki(cs):rG (.agg ⟨cs⟩)=.agg (cs.map uF):=rfl
section
variable (P:Program) (G:Nat->Option (List AV)) (R:Rec)
def pT(ops:Array Oper):List Oper->Env->ak->Option (Xt × Env × ak)
 | [],e,h=>aa (.normal,e,h)
 |o::rest,e,h=>
  match eY ops e o with
  |none=>aq
  |some av=>pT ops rest (e.put o.dst (.tuple [])) h
  |some ah=>
   match dO P G R e h o with
   |some (.ret x,e,h)=>pT ops rest (e.put o.dst x) h
   |some (.panic x,e,h)=>aa (.panic x,e,h)
   |none=>aq
def OW(ops:Array Oper):∀(n i:Nat),i+n=ops.size->∀(e:Env) (h:ak),cV P G R ops (aaH i n) e h=pT P G R ops (ops.toList.drop i) e h:=by
 intro n
 induction n with
 |zero=>intro i hi e h;rw[List.drop_eq_nil_of_le (by simp;omega)];rfl
 |succ n ih=>
  intro i hi e h;have aA:i<ops.size:=by omega
  have ho:ops[i]?=aa ops[i]:=lQ aA;rw[aaI,zR (by simpa using aA)];simp only[cV,pT,ho,ZH];cases eY ops e ops[i] with
  |none=>rfl|some b=>
   cases b with
   |false=>exact ih (i+1) ag _ _|true=>
    simp only;cases dO P G R e h ops[i] with
    |none=>rfl|some q=>
     obtain⟨r,e1,h1⟩:=q;cases r with|ret x=>exact ih (i+1) ag _ _|panic x=>rfl
def yw(r:Option (Xt × Env × ak))(Q:Xt->Env->ak->Prop):Prop:=∃o e h,r=aa (o,e,h)/\Q o e h
def bG(c:Code)(e:Env)(h:ak)(Q:Xt->Env->ak->Prop):Prop:=yw (R.code c e h) Q
def cB(ops:Array Oper)(l:List Oper)(e:Env)(h:ak)(Q:Xt->Env->ak->Prop):Prop:=yw (pT P G R ops l e h) Q
end
def uI{o}{e}{h}{Q}:yw (aa (o,e,h)) Q=Q o e h:=
 propext ⟨λ⟨_,_,_,h1,h2⟩=>by simp only[dA,cX] at h1;obtain⟨rfl,rfl,rfl⟩:=h1;exact h2,λhq=>⟨o,e,h,rfl,hq⟩⟩
def rI{Q}:yw aq Q=False:=propext ⟨λ⟨_,_,_,h1,_⟩=>(by cases h1),False.elim⟩
def yw.mono{r}{Q Q'}(h:∀o e h,Q o e h->Q' o e h)(hr:yw r Q):yw r Q':=by obtain⟨o,e,h1,h2,h3⟩:=hr;exact⟨o,e,h1,h2,h _ _ _ h3⟩
def guardOf(ops:Array Oper)(j:Nat):Option Tmp:=(ops[j]?).bind (·.dst)
def agK{o}{l}:guardOf ⟨o::l⟩ 0=o.dst:=rfl
def agJ{o}{l}{n}:guardOf ⟨o::l⟩ (n+1)=guardOf ⟨l⟩ n:=by simp[guardOf]
def uY(R:Rec)(a b:Code)(e:Env)(h:ak)(Q:Xt->Env->ak->Prop)(x:AV):Prop:=
 match x with
 | .v (.bool t)=>if t=ah then bG R a e h Q else bG R b e h Q
 |_=>False
def na(P:Program)(G:Nat->Option (List AV))(R:Rec)(ops:Array Oper)(o:Oper)(rest:List Oper)(e:Env)(h:ak)(Q:Xt->Env->ak->Prop)(want:Bool)(x:AV):Prop:=
 match x with
 | .v (.bool b)=>if b=want then cB P G R ops (o::rest) e h Q else cB P G R ops rest (e.put o.dst (.tuple [])) h Q
 | .tuple []=>cB P G R ops rest (e.put o.dst (.tuple [])) h Q
 |_=>False
def Ly(P:Program)(G:Nat->Option (List AV))(R:Rec)(ops:Array Oper)(o:Oper)(rest:List Oper)(e:Env)(h:ak)(Q:Xt->Env->ak->Prop)(want:Bool)(d:Option Tmp):Prop:=
 match d with
 |some g=>na P G R ops o rest e h Q want (e.get g)
 |none=>cB P G R ops rest (e.put o.dst (.tuple [])) h Q
section
variable {P:Program} {G:Nat->Option (List AV)} {R:Rec} {a b:Code} {e:Env} {h:ak} {Q:Xt->Env->ak->Prop} {ops:Array Oper} {o:Oper} {rest:List Oper} {p:Prop} [Decidable p] {t:Bool}
def adp:uY R a b e h Q (.v (.bool ah))=bG R a e h Q:=rfl
def adm:uY R a b e h Q (.v (.bool av))=bG R b e h Q:=rfl
def adl(h1:p->bG R a e h Q)(h2:¬p->bG R b e h Q):uY R a b e h Q (.v (.bool (decide p))):=by
 unfold uY;simp only[decide_eq_true_eq];split
 ·rename_i hp;exact h1 hp
 ·rename_i hp;exact h2 hp
def ado(h1:p->bG R b e h Q)(h2:¬p->bG R a e h Q):uY R a b e h Q (.v (.bool (!decide p))):=by
 unfold uY;by_cases hp:p
 ·simp only[hp,decide_true,QK,jG,if_false];exact h1 hp
 ·simp only[hp,decide_false,yl,if_true];exact h2 hp
def adk(h1:t=ah->bG R a e h Q)(h2:t=av->bG R b e h Q):uY R a b e h Q (.v (.bool t)):=by
 cases t
 ·exact h2 rfl
 ·exact h1 rfl
def agS:na P G R ops o rest e h Q ah (.v (.bool ah))=cB P G R ops (o::rest) e h Q:=rfl
def agR:na P G R ops o rest e h Q ah (.v (.bool av))=cB P G R ops rest (e.put o.dst (.tuple [])) h Q:=rfl
def agO:na P G R ops o rest e h Q av (.v (.bool ah))=cB P G R ops rest (e.put o.dst (.tuple [])) h Q:=rfl
def agN:na P G R ops o rest e h Q av (.v (.bool av))=cB P G R ops (o::rest) e h Q:=rfl
def agT{w:Bool}:na P G R ops o rest e h Q w (.tuple [])=cB P G R ops rest (e.put o.dst (.tuple [])) h Q:=rfl
def agM{w:Bool}(h1:p->na P G R ops o rest e h Q w (.v (.bool ah)))(h2:¬p->na P G R ops o rest e h Q w (.v (.bool av))):na P G R ops o rest e h Q w (.v (.bool (decide p))):=by
 by_cases hp:p
 ·simp only[hp,decide_true];exact h1 hp
 ·simp only[hp,decide_false];exact h2 hp
def agQ{w:Bool}(h1:p->na P G R ops o rest e h Q w (.v (.bool av)))(h2:¬p->na P G R ops o rest e h Q w (.v (.bool ah))):na P G R ops o rest e h Q w (.v (.bool (!decide p))):=by
 by_cases hp:p
 ·simp only[hp,decide_true];exact h1 hp
 ·simp only[hp,decide_false];exact h2 hp
def agL{w:Bool}(h1:t=ah->na P G R ops o rest e h Q w (.v (.bool ah)))(h2:t=av->na P G R ops o rest e h Q w (.v (.bool av))):na P G R ops o rest e h Q w (.v (.bool t)):=by
 cases t
 ·exact h2 rfl
 ·exact h1 rfl
def agP{w:Bool}(h1:t=ah->na P G R ops o rest e h Q w (.v (.bool av)))(h2:t=av->na P G R ops o rest e h Q w (.v (.bool ah))):na P G R ops o rest e h Q w (.v (.bool (!t))):=by
 cases t
 ·exact h2 rfl
 ·exact h1 rfl
def adn(h1:t=ah->bG R b e h Q)(h2:t=av->bG R a e h Q):uY R a b e h Q (.v (.bool (!t))):=by
 cases t
 ·exact h2 rfl
 ·exact h1 rfl
def aqi{w:Bool}{g:Tmp}:Ly P G R ops o rest e h Q w (aa g)=na P G R ops o rest e h Q w (e.get g):=rfl
end
def G8(R:Rec)(c:Code)(Q:Xt->Env->ak->Prop):Xt->Env->ak->Prop
 | .normal,e,h=>bG R c e h Q
 |o,e,h=>Q o e h
def E8(id:Nat)(Q:Xt->Env->ak->Prop):Xt->Env->ak->Prop
 | .exit i,e,h=>if i=id then Q .normal e h else Q (.exit i) e h
 |o,e,h=>Q o e h
def wW(Q:Xt->Env->ak->Prop):Xt->Env->ak->Prop
 | .normal,e,h=>Q .normal e h
 |_,_,_=>False
section
variable {R:Rec} {c:Code} {Q:Xt->Env->ak->Prop} {e:Env} {h:ak}
def apK:G8 R c Q .normal e h=bG R c e h Q:=rfl
def apM:G8 R c Q .ret e h=Q .ret e h:=rfl
def apJ{i:Nat}:G8 R c Q (.exit i) e h=Q (.exit i) e h:=rfl
def apL{x:AV}:G8 R c Q (.panic x) e h=Q (.panic x) e h:=rfl
def ade{id:Nat}:E8 id Q .normal e h=Q .normal e h:=rfl
def adg{id:Nat}:E8 id Q .ret e h=Q .ret e h:=rfl
def Sh{id i:Nat}:E8 id Q (.exit i) e h=if i=id then Q .normal e h else Q (.exit i) e h:=rfl
def adf{id:Nat}{x:AV}:E8 id Q (.panic x) e h=Q (.panic x) e h:=rfl
def adE:wW Q .normal e h=Q .normal e h:=rfl
def adF{x:AV}:wW Q (.panic x) e h=False:=rfl
end
section
variable {P:Program} {G:Nat->Option (List AV)} {prims:FuncId->Option (List AV->ak->Option (AV × ak))} {Q:Xt->Env->ak->Prop} {e:Env} {h:ak}
def apm:bG (whole P G prims) .skip e h Q=Q .normal e h:=by rw[bG,qK];exact uI
def apf{l:Nat}:bG (whole P G prims) (.label l) e h Q=Q .normal e h:=by rw[bG,qK];exact uI
def apl{a:Code}:bG (whole P G prims) (.scope a) e h Q=bG (whole P G prims) a e h Q:=by unfold bG;rw[qK];simp only[ff]
def ape{id:Nat}:bG (whole P G prims) (.exit id) e h Q=Q (.exit id) e h:=by rw[bG,qK];exact uI
def apk:bG (whole P G prims) .ret e h Q=Q .ret e h:=by rw[bG,qK];exact uI
def run_seq{a b:Code}:bG (whole P G prims) (.seq a b) e h Q=bG (whole P G prims) a e h (G8 (whole P G prims) b Q):=by
 unfold bG;rw[qK];simp only[ff];cases ha:(whole P G prims).code a e h with|none=>simp only[rI]|some q=>obtain⟨o,e1,h1⟩:=q;cases o<;>simp only[uI]<;>rfl
def apc{c:Operand}{a b:Code}:bG (whole P G prims) (.cond c a b) e h Q=uY (whole P G prims) a b e h Q (e.eval c):=by
 unfold bG uY;rw[qK];simp only[ff];generalize e.eval c=x;rcases x with _|v|_|_|_|_|_|_|_|_|_
 case v=>
  cases v with
  |bool t=>cases t<;>rfl
  |_=>simp only[rI]
 all_goals (simp only[rI])
def apb{id:Nat}{a:Code}:bG (whole P G prims) (.block id a) e h Q=bG (whole P G prims) a e h (E8 id Q):=by
 unfold bG;rw[qK];simp only[ff];cases ha:(whole P G prims).code a e h with
 |none=>simp only[rI]|some q=>
  obtain⟨o,e1,h1⟩:=q;cases o with
  |exit i=>simp only[uI,Sh];split<;>simp only[uI]
  |_=>simp only[uI]<;>rfl
def apj{id:Nat}{ops:Array Oper}:bG (whole P G prims) (.region id ops av) e h Q=cB P G (whole P G prims) ops ops.toList e h Q:=by unfold bG cB;rw[qK];simp only[ff,jG,if_false];have:=OW P G (whole P G prims) ops ops.size 0 ag e h;rw[iC] at this;rw[<-this,Lc]
def af1{R:Rec}{ops:Array Oper}(hd:Mm ops=ah)(e:Env)(h:ak):l8 P G R ops e h=ah:=by unfold Mm at hd;unfold l8;simp only[bC,dU,fY,tQ] at hd ⊢;exact⟨hd.1,λj hj i hi=>.inl (.inl (hd.2 j hj i hi))⟩
def P5{id:Nat}{ops:Array Oper}(hd:l8 P G (whole P G prims) ops e h=ah)(hr:cB P G (whole P G prims) ops ops.toList e h (wW Q)):bG (whole P G prims) (.region id ops ah) e h Q:=by
 unfold bG cB at *
 rw[qK];simp only[ff,if_true,hd,ZX];have:=OW P G (whole P G prims) ops ops.size 0 ag e h;rw[iC] at this;rw[<-this,<-Lc] at hr;obtain⟨o,e1,h1,h2,h3⟩:=hr;rw[h2];cases o with|normal=>exact⟨_,_,_,rfl,h3⟩|_=>exact h3.elim
def run_draw_stores{id:Nat}{ops:Array Oper}(D:sT P G (whole P G prims) ops e h=ah)(hr:cB P G (whole P G prims) ops ops.toList e h (wW Q)):bG (whole P G prims) (.region id ops ah) e h Q:=by
 unfold bG cB at *
 rw[qK];have:=OW P G (whole P G prims) ops ops.size 0 ag e h;rw[iC] at this;rw[<-this,<-Lc] at hr;obtain⟨o,e1,h1,h2,h3⟩:=hr;simp only[ff,if_true,D,QL,h2];cases o with|normal=>exact⟨_,_,_,rfl,h3⟩|_=>exact h3.elim
def tK{id:Nat}{ops:Array Oper}(hd:Mm ops=ah)(hr:cB P G (whole P G prims) ops ops.toList e h (wW Q)):bG (whole P G prims) (.region id ops ah) e h Q:=
 P5 (af1 hd e h) hr
def Br(I:Nat->Env->ak->Prop)(n:Nat)(Q:Xt->Env->ak->Prop):Xt->Env->ak->Prop
 | .normal,e,h=>∃m,m<n/\I m e h
 |o,e,h=>Q o e h
def ajw{I:Nat->Env->ak->Prop}{n:Nat}:Br I n Q .normal e h=∃m,m<n/\I m e h:=rfl
def ajy{I:Nat->Env->ak->Prop}{n:Nat}:Br I n Q .ret e h=Q .ret e h:=rfl
def ajv{I:Nat->Env->ak->Prop}{n i:Nat}:Br I n Q (.exit i) e h=Q (.exit i) e h:=rfl
def ajx{I:Nat->Env->ak->Prop}{n:Nat}{x:AV}:Br I n Q (.panic x) e h=Q (.panic x) e h:=rfl
def cq{c:Code}(I:Nat->Env->ak->Prop)(iH:∀n e h,I n e h->bG (whole P G prims) c e h (Br I n Q)):
 ∀n e h,I n e h->bG (whole P G prims) (.loop c) e h Q:=by
 intro n
 induction n using Rk with
 |_ n ih=>
  intro e h hi;obtain⟨o,e1,h1,h2,h3⟩:=iH n e h hi;unfold bG;rw[qK];simp only[ff,h2];cases o with
  |normal=>obtain⟨m,hm,A1⟩:=h3;exact ih m hm e1 h1 A1
  |_=>exact⟨_,_,_,rfl,h3⟩
def bG.mono{R:Rec}{c:Code}{Q1:Xt->Env->ak->Prop}{h1:ak}(hq:∀o e h,Q o e h->Q1 o e h)(hr:bG R c e h1 Q):bG R c e h1 Q1:=yw.mono hq hr
def wY(P:Program)(G:Nat->Option (List AV))(R:Rec)(fn:Func)(r:eK)(h':ak):Xt->Env->ak->Prop
 | .normal,e,h=>gM P G R fn e e.defers aq h=aa (r,h')
 | .ret,e,h=>gM P G R fn e e.defers aq h=aa (r,h')
 | .panic x,e,h=>gM P G R fn e e.defers (aa (x,av)) h=aa (r,h')
 | .exit _,_,_=>False
def cC{g:FuncId}{fn:Func}{body:Code}{args:List AV}{r:eK}{h':ak}(hp:prims g=aq)(gG:P.funcs[g]?=aa fn)(hb:fn.body=aa body)
 (hr:bG (whole P G prims) body (Env.start args aq) h (wY P G (whole P G prims) fn r h')):(whole P G prims).call g args h=aa (r,h'):=by
 rw[Hr];unfold qk;rw[hp];unfold qS;rw[gG];simp only[hb];obtain⟨o,e1,h1,h2,h3⟩:=hr;have h2:(whole P G prims).code body {tmps:={ch:=[],base:=args},defers:=[],cD:=aq,round:=aq} h=aa (o,e1,h1):=h2;rw[h2];cases o with|exit i=>exact h3.elim|_=>simp only[wY] at h3;simp only[h3,eJ]
def ae4{g:FuncId}{fn:Func}{body:Code}{args:List AV}{m m':Option (AV × Bool)}{r:eK}{h':ak}(gG:P.funcs[g]?=aa fn)(hb:fn.body=aa body)
 (hr:bG (whole P G prims) body (Env.start args m) h λo e h1=>wY P G (whole P G prims) fn r h' o e h1/\e.cD=m'):(whole P G prims).jy g args m h=aa (r,m',h'):=by
 rw[asj];unfold qS;rw[gG];simp only[hb];obtain⟨o,e1,h1,h2,h3,h4⟩:=hr;have h2:(whole P G prims).code body {tmps:={ch:=[],base:=args},defers:=[],cD:=m,round:=aq} h=aa (o,e1,h1):=h2;rw[h2];cases o with|exit i=>exact h3.elim|_=>simp only[wY] at h3;simp only[h3,eJ,h4]
def afA{R:Rec}{fn:Func}{r:eK}{h':ak}:wY P G R fn r h' .normal e h=(gM P G R fn e e.defers aq h=aa (r,h')):=rfl
def afC{R:Rec}{fn:Func}{r:eK}{h':ak}:wY P G R fn r h' .ret e h=(gM P G R fn e e.defers aq h=aa (r,h')):=rfl
def afB{R:Rec}{fn:Func}{r:eK}{h':ak}{x:AV}:wY P G R fn r h' (.panic x) e h=(gM P G R fn e e.defers (aa (x,av)) h=aa (r,h')):=rfl
def arV{R:Rec}{fn:Func}:gM P G R fn e [] aq h=(GA P G fn e h).map λx=>(.ret x,h):=rfl
def arW{R:Rec}{fn:Func}{x:AV}{b:Bool}:gM P G R fn e [] (aa (x,b)) h=aa (.panic x,h):=rfl
section
variable {R:Rec} {ops:Array Oper} {rest:List Oper} {d:Option Tmp} {ty:TypeId} {pos:String} {af:Array Edge}
def ao7:cB P G R ops [] e h Q=Q .normal e h:=uI
def ao6{op:Op}{j:Nat}{want:Bool}:cB P G R ops (⟨d,op,ty,pos,af,aa (j,want)⟩::rest) e h Q=
 Ly P G R ops ⟨d,op,ty,pos,af,aq⟩ rest e h Q want (guardOf ops j):=by
 unfold cB guardOf Ly na cB;simp only[pT,eY];cases (ops[j]?).bind (·.dst) with
 |none=>rfl|some g=>
  simp only;generalize e.get g=x;rcases x with _|v|_|_|_|cs|_|_|_|_|_
  case v=>
   cases v with
   |bool b=>
    simp only;by_cases hb:b=want
    ·subst hb;simp only[beq_self_eq_true,if_true];rfl
    ·have:(b==want)=av:=(by simpa using hb);simp only[this,aG hb]
   |_=>simp only[rI]
  case tuple=>cases cs<;>simp only[rI]
  all_goals (simp only[rI])
def after(P:Program)(G:Nat->Option (List AV))(R:Rec)(ops:Array Oper)(rest:List Oper)(d:Option Tmp)(e:Env)(Q:Xt->Env->ak->Prop):Option (AV × ak)->Prop
 |some (x,h)=>cB P G R ops rest (e.put d x) h Q
 |none=>False
def abM{x:AV}:after P G R ops rest d e Q (aa (x,h))=cB P G R ops rest (e.put d x) h Q:=rfl
def opsOf(o:Op):Bool:=
 match o with
 | .call _| .defer _| .panic _=>av
 |_=>ah
def mi{op:Op}(ho:opsOf op=ah):cB P G R ops (⟨d,op,ty,pos,af,aq⟩::rest) e h Q=after P G R ops rest d e Q (dD P G e.eval h op):=by
 unfold cB;simp only[pT,eY];have bK:dO P G R e h ⟨d,op,ty,pos,af,aq⟩=(dD P G e.eval h op).map λ(x,h)=>(.ret x,e,h):=by cases op<;>first|rfl|(simp[opsOf] at ho)
 rw[bK];cases dD P G e.eval h op with|none=>simp only[Lv,rI];rfl|some q=>obtain⟨x,h1⟩:=q;rfl
def LA(P:Program)(G:Nat->Option (List AV))(R:Rec)(ops:Array Oper)(rest:List Oper)(d:Option Tmp)(e:Env)(Q:Xt->Env->ak->Prop):Option (eK × ak)->Prop
 |some (.ret x,h)=>cB P G R ops rest (e.put d x) h Q
 |some (.panic x,h)=>Q (.panic x) e h
 |none=>False
def abL{x:AV}:LA P G R ops rest d e Q (aa (.ret x,h))=cB P G R ops rest (e.put d x) h Q:=rfl
def abK{x:AV}:LA P G R ops rest d e Q (aa (.panic x,h))=Q (.panic x) e h:=rfl
def apa{f:Operand}{args:Array Operand}{ts:Array TypeId}:cB P G R ops (⟨d,.call {callee:=.value f,args,argTypes:=ts},ty,pos,af,aq⟩::rest) e h Q=
 LA P G R ops rest d e Q (lE P R e h {callee:=.value f,args,argTypes:=ts}):=by
 unfold cB;simp only[pT,eY,dO];cases lE P R e h {callee:=.value f,args,argTypes:=ts} with|none=>simp only[Lv,rI];rfl|some q=>obtain⟨r,h1⟩:=q;cases r<;>simp only[eJ,uI]<;>rfl
def Su{g:FuncId}{args:Array Operand}{ts:Array TypeId}:lE P R e h {callee:=.value (.func g),args,argTypes:=ts}=R.call g (args.toList.map e.eval) h:=by simp[lE,eval_func]
def Sv{t:Nat}{args:Array Operand}{ts:Array TypeId}:lE P R e h {callee:=.value (.tmp t),args,argTypes:=ts}=
 (match e.get t with
  | .func (.func g) first aB=>R.call g (first++args.toList.map e.eval++aB) h
  | .yield l=>R.round l (args.toList.map e.eval) h
  |_=>aq):=rfl
def Xe:Builtin->Bool
 | .recover| .panic| .append=>av
 |_=>ah
def GX{b:Builtin}{args:Array Operand}{ts:Array TypeId}(hb:Xe b=ah):cB P G R ops (⟨d,.call {callee:=.builtin b,args,argTypes:=ts},ty,pos,af,aq⟩::rest) e h Q=
 after P G R ops rest d e Q (ji P h b ts ty (args.toList.map e.eval)):=by
 unfold cB;simp only[pT,eY];have bK:dO P G R e h ⟨d,.call {callee:=.builtin b,args,argTypes:=ts},ty,pos,af,aq⟩=(ji P h b ts ty (args.toList.map e.eval)).map λ(x,h)=>(.ret x,e,h):=by cases b<;>first|rfl|(simp[Xe] at hb)
 rw[bK];cases ji P h b ts ty (args.toList.map e.eval) with|none=>simp only[Lv,rI];rfl|some q=>obtain⟨x,h1⟩:=q;rfl
def ant(x:Operand):cB P G R ops (⟨d,.move x,ty,pos,af,aq⟩::rest) e h Q=after P G R ops rest d e Q (dD P G e.eval h (.move x)):=mi rfl
def am7(x:Operand):cB P G R ops (⟨d,.assign x,ty,pos,af,aq⟩::rest) e h Q=after P G R ops rest d e Q (dD P G e.eval h (.assign x)):=mi rfl
def anv(c a b:Operand):cB P G R ops (⟨d,.pick c a b,ty,pos,af,aq⟩::rest) e h Q=after P G R ops rest d e Q (dD P G e.eval h (.pick c a b)):=mi rfl
def am5(t:TypeId):cB P G R ops (⟨d,.alloc t,ty,pos,af,aq⟩::rest) e h Q=after P G R ops rest d e Q (dD P G e.eval h (.alloc t)):=mi rfl
def am9(t:TypeId)(x:Operand):cB P G R ops (⟨d,.box t x,ty,pos,af,aq⟩::rest) e h Q=after P G R ops rest d e Q (dD P G e.eval h (.box t x)):=mi rfl
def ana(t:TypeId)(ps:Array (Nat × Operand)):cB P G R ops (⟨d,.build t ps,ty,pos,af,aq⟩::rest) e h Q=after P G R ops rest d e Q (dD P G e.eval h (.build t ps)):=mi rfl
def anb(t:TypeId)(n:Nat)(ps:Array (Nat × Operand)):cB P G R ops (⟨d,.buildSlice t n ps,ty,pos,af,aq⟩::rest) e h Q=after P G R ops rest d e Q (dD P G e.eval h (.buildSlice t n ps)):=mi rfl
def ann(t:TypeId)(a:Operand):cB P G R ops (⟨d,.load t a,ty,pos,af,aq⟩::rest) e h Q=after P G R ops rest d e Q (dD P G e.eval h (.load t a)):=mi rfl
def anz(t:TypeId)(a x:Operand):cB P G R ops (⟨d,.store t a x,ty,pos,af,aq⟩::rest) e h Q=after P G R ops rest d e Q (dD P G e.eval h (.store t a x)):=mi rfl
def anu(x:Operand):cB P G R ops (⟨d,.nilCheck x,ty,pos,af,aq⟩::rest) e h Q=after P G R ops rest d e Q (dD P G e.eval h (.nilCheck x)):=mi rfl
def am8(o:BinOp)(t:TypeId)(x y:Operand)(yt:TypeId):cB P G R ops (⟨d,.binOp o t x y yt,ty,pos,af,aq⟩::rest) e h Q=after P G R ops rest d e Q (dD P G e.eval h (.binOp o t x y yt)):=mi rfl
def anB(o:UnOp)(t:TypeId)(x:Operand):cB P G R ops (⟨d,.unOp o t x,ty,pos,af,aq⟩::rest) e h Q=after P G R ops rest d e Q (dD P G e.eval h (.unOp o t x)):=mi rfl
def ane(s t:TypeId)(x:Operand):cB P G R ops (⟨d,.convert s t x,ty,pos,af,aq⟩::rest) e h Q=after P G R ops rest d e Q (dD P G e.eval h (.convert s t x)):=mi rfl
def anp(t:TypeId)(x:Operand):cB P G R ops (⟨d,.makeInterface t x,ty,pos,af,aq⟩::rest) e h Q=after P G R ops rest d e Q (dD P G e.eval h (.makeInterface t x)):=mi rfl
def ano(fn:Fn)(first aB:Array Operand):cB P G R ops (⟨d,.makeFunc fn first aB,ty,pos,af,aq⟩::rest) e h Q=after P G R ops rest d e Q (dD P G e.eval h (.makeFunc fn first aB)):=mi rfl
def anq(t:TypeId)(l c:Operand):cB P G R ops (⟨d,.makeSlice t l c,ty,pos,af,aq⟩::rest) e h Q=after P G R ops rest d e Q (dD P G e.eval h (.makeSlice t l c)):=mi rfl
def anx(t:TypeId)(x:Operand)(lo hi mx:Option Operand):cB P G R ops (⟨d,.slice t x lo hi mx,ty,pos,af,aq⟩::rest) e h Q=after P G R ops rest d e Q (dD P G e.eval h (.slice t x lo hi mx)):=mi rfl
def anj(t:TypeId)(x:Operand)(f:Nat):cB P G R ops (⟨d,.fieldAddr t x f,ty,pos,af,aq⟩::rest) e h Q=after P G R ops rest d e Q (dD P G e.eval h (.fieldAddr t x f)):=mi rfl
def ani(t:TypeId)(x:Operand)(f:Nat):cB P G R ops (⟨d,.field t x f,ty,pos,af,aq⟩::rest) e h Q=after P G R ops rest d e Q (dD P G e.eval h (.field t x f)):=mi rfl
def anl(t:TypeId)(x i:Operand):cB P G R ops (⟨d,.indexAddr t x i,ty,pos,af,aq⟩::rest) e h Q=after P G R ops rest d e Q (dD P G e.eval h (.indexAddr t x i)):=mi rfl
def ank(t:TypeId)(x i:Operand):cB P G R ops (⟨d,.index t x i,ty,pos,af,aq⟩::rest) e h Q=after P G R ops rest d e Q (dD P G e.eval h (.index t x i)):=mi rfl
def anA(x:Operand)(xt t:TypeId)(ok:Bool):cB P G R ops (⟨d,.typeAssert x xt t ok,ty,pos,af,aq⟩::rest) e h Q=after P G R ops rest d e Q (dD P G e.eval h (.typeAssert x xt t ok)):=mi rfl
def anh(x:Operand)(i:Nat):cB P G R ops (⟨d,.extract x i,ty,pos,af,aq⟩::rest) e h Q=after P G R ops rest d e Q (dD P G e.eval h (.extract x i)):=mi rfl
def anm(args:Array Operand)(ts:Array TypeId):cB P G R ops (⟨d,.call {callee:=.builtin .len,args,argTypes:=ts},ty,pos,af,aq⟩::rest) e h Q=after P G R ops rest d e Q (ji P h .len ts ty (args.toList.map e.eval)):=GX rfl
def anc(args:Array Operand)(ts:Array TypeId):cB P G R ops (⟨d,.call {callee:=.builtin .cap,args,argTypes:=ts},ty,pos,af,aq⟩::rest) e h Q=after P G R ops rest d e Q (ji P h .cap ts ty (args.toList.map e.eval)):=GX rfl
def am6(args:Array Operand)(ts:Array TypeId):cB P G R ops (⟨d,.call {callee:=.builtin .append,args,argTypes:=ts},ty,pos,af,aq⟩::rest) e h Q=after P G R ops rest d e Q (qV P G d h .append ts ty (args.toList.map e.eval)):=by
 unfold cB;simp only[pT,eY];have bK:dO P G R e h ⟨d,.call {callee:=.builtin .append,args,argTypes:=ts},ty,pos,af,aq⟩=(qV P G d h .append ts ty (args.toList.map e.eval)).map λ(x,h)=>(.ret x,e,h):=rfl;rw[bK];cases qV P G d h .append ts ty (args.toList.map e.eval) with|none=>simp only[Lv,rI];rfl|some q=>obtain⟨x,h1⟩:=q;rfl
def anf(args:Array Operand)(ts:Array TypeId):cB P G R ops (⟨d,.call {callee:=.builtin .copy,args,argTypes:=ts},ty,pos,af,aq⟩::rest) e h Q=after P G R ops rest d e Q (ji P h .copy ts ty (args.toList.map e.eval)):=GX rfl
def ans(args:Array Operand)(ts:Array TypeId):cB P G R ops (⟨d,.call {callee:=.builtin .min,args,argTypes:=ts},ty,pos,af,aq⟩::rest) e h Q=after P G R ops rest d e Q (ji P h .min ts ty (args.toList.map e.eval)):=GX rfl
def anr(args:Array Operand)(ts:Array TypeId):cB P G R ops (⟨d,.call {callee:=.builtin .max,args,argTypes:=ts},ty,pos,af,aq⟩::rest) e h Q=after P G R ops rest d e Q (ji P h .max ts ty (args.toList.map e.eval)):=GX rfl
def ao8{x:Operand}:cB P G R ops (⟨d,.panic x,ty,pos,af,aq⟩::rest) e h Q=(match e.eval x with| .iface t y=>Q (.panic (.iface t y)) e h|_=>False):=by unfold cB;simp only[pT,eY,dO];generalize e.eval x=y;cases y<;>first|exact uI|exact rI
def ao9{args:Array Operand}{ts:Array TypeId}(hr:e.round=aq):cB P G R ops (⟨d,.call {callee:=.builtin .recover,args,argTypes:=ts},ty,pos,af,aq⟩::rest) e h Q=
 (match e.cD with
  |some (x,av)=>cB P G R ops rest (({e with cD:=aa (x,ah)}:Env).put d x) h Q
  |_=>cB P G R ops rest (e.put d (.v .nilIface)) h Q):=by
 unfold cB;simp only[pT,eY,dO,hr,Af,jG,if_false];rcases hp:e.cD with _|⟨x,b⟩
 ·rfl
 ·cases b<;>rfl
def ao5{f:Operand}{args:Array Operand}{ts:Array TypeId}(hr:e.round=aq):cB P G R ops (⟨d,.defer {callee:=.value f,args,argTypes:=ts},ty,pos,af,aq⟩::rest) e h Q=
 (match e.eval f with
  | .func (.func g) first aB=>cB P G R ops rest (({e with defers:=(g,first++args.toList.map e.eval++aB)::e.defers}:Env).put d (.tuple [])) h Q
  |_=>False):=by
 unfold cB;simp only[pT,eY,dO,hr,Af,jG,if_false];generalize e.eval f=y;rcases y with _|_|_|_|_|_|_|_|⟨fn,a,b⟩|_|_
 case func=>cases fn<;>first|rfl|exact rI
 all_goals exact rI
end
end
end Go.AE
end
section
namespace Go.AE
def bs(l:List UInt8):ByteArray:=⟨l.toArray⟩
def str(l:List UInt8):AV:=.v (.string (bs l))
def int(n:Int):AV:=.v (.int .i64 n)
def bool(b:Bool):AV:=.v (.bool b)
def adr(l):ByteArray.mk l.toArray=bs l:=rfl
def Ao(l):(bs l).size=l.length:=rfl
def adq(a b):bs a++bs b=bs (a++b):=by apply ByteArray.ext;rw[ByteArray.data_append];simp[bs]
def LY(l)(i j):(bs l).extract i j=bs ((l.take j).drop i):=by apply ByteArray.ext;rw[ByteArray.data_extract];simp[bs,List.extract_eq_take_drop,List.drop_take]
def By{α β}{P}(m)(f:α->Sem β):gy P (m>>=f)=(gy P m).bind λa=>gy P (f a):=by
 show gy P (m.bind f)=_
 induction m with
 |pure a=>rfl|program k ih=>simp only[Sem.bind,gy];exact ih _|mark m k ih=>simp only[Sem.bind,gy];exact ih|_=>rfl
section
variable {P:Program} {t:TypeId} {x y:Operand} {k:IntKind} {a b:Int}
def qQ{op:BinOp}{v:Value}(h:gy P (binOp op t (.int k a) (.int k b))=aa v):cN P op t x y (.v (.int k a)) (.v (.int k b))=oB v:=by
 have hg:gy P (eqGuard op t x y (.int k a) (.int k b))=aa ():=by cases op<;>rfl
 show(gy P (do eqGuard op t x y (.int k a) (.int k b);binOp op t (.int k a) (.int k b))).bind oB=_;rw[By,hg];simp only[ph,h]
def Se:cN P .add t x y (.v (.int k a)) (.v (.int k b))=aa (.v (.int k (k.wrap (a+b)))):=qQ (v:=.int k (k.wrap (a+b))) (by simp[binOp,Op.intArith];rfl)
def acS:cN P .sub t x y (.v (.int k a)) (.v (.int k b))=aa (.v (.int k (k.wrap (a - b)))):=qQ (v:=.int k (k.wrap (a - b))) (by simp[binOp,Op.intArith];rfl)
def acJ:cN P .mul t x y (.v (.int k a)) (.v (.int k b))=aa (.v (.int k (k.wrap (a * b)))):=qQ (v:=.int k (k.wrap (a * b))) (by simp[binOp,Op.intArith];rfl)
def acM(h:b≠0):cN P .quo t x y (.v (.int k a)) (.v (.int k b))=aa (.v (.int k (k.wrap (a.tdiv b)))):=qQ (v:=.int k (k.wrap (a.tdiv b))) (by simp[binOp,Op.intDiv,h];rfl)
def acO(h:b≠0):cN P .rem t x y (.v (.int k a)) (.v (.int k b))=aa (.v (.int k (a.tmod b))):=qQ (v:=.int k (a.tmod b)) (by simp[binOp,Op.intDiv,h];rfl)
def acE:cN P .eql t x y (.v (.int k a)) (.v (.int k b))=aa (.v (.bool (decide (a=b)))):=qQ (v:=.bool (decide (a=b))) (by
 have:(a==b)=decide (a=b):=by rw[Ek];simp
 simp[binOp,Op.intCmp,this];rfl)
def acK:cN P .neq t x y (.v (.int k a)) (.v (.int k b))=aa (.v (.bool (!decide (a=b)))):=qQ (v:=.bool (!decide (a=b))) (by
 have:(a !=b)= !decide (a=b):=by rw[Ek];simp
 simp[binOp,Op.intCmp,this];rfl)
def acI:cN P .lss t x y (.v (.int k a)) (.v (.int k b))=aa (.v (.bool (decide (a<b)))):=qQ (v:=.bool (decide (a<b))) (by simp[binOp,Op.intCmp];rfl)
def acH:cN P .leq t x y (.v (.int k a)) (.v (.int k b))=aa (.v (.bool (decide (a<=b)))):=qQ (v:=.bool (decide (a<=b))) (by simp[binOp,Op.intCmp];rfl)
def acG:cN P .gtr t x y (.v (.int k a)) (.v (.int k b))=aa (.v (.bool (decide (b<a)))):=qQ (v:=.bool (decide (b<a))) (by simp[binOp,Op.intCmp];rfl)
def acF:cN P .geq t x y (.v (.int k a)) (.v (.int k b))=aa (.v (.bool (decide (b<=a)))):=qQ (v:=.bool (decide (b<=a))) (by simp[binOp,Op.intCmp];rfl)
def acQ{p q:List UInt8}:cN P .eql t x y (.v (.string (bs p))) (.v (.string (bs q)))=aa (.v (.bool (decide (p=q)))):=by show aa (AV.v (.bool (p==q)))=_;rw[Ek.2 (by simp:(p==q)=ah↔decide (p=q)=ah)]
def acR{p q:List UInt8}:cN P .neq t x y (.v (.string (bs p))) (.v (.string (bs q)))=aa (.v (.bool (!decide (p=q)))):=by show aa (AV.v (.bool (!(p==q))))=_;rw[Ek.2 (by simp:(p==q)=ah↔decide (p=q)=ah)]
def acP{p q:List UInt8}(h:p.length+q.length<=9223372036854775807):cN P .add t x y (.v (.string (bs p))) (.v (.string (bs q)))=aa (.v (.string (bs (p++q)))):=by show(if (bs p).size+(bs q).size<=9223372036854775807 then aa (AV.v (.string (bs p++bs q))) else aq)=_;rw[Ao,Ao,aF h,adq]
def arQ{c:Bool}:BJ P .not (.v (.bool c))=aa (.v (.bool (!c))):=rfl
def arP:BJ P .neg (.v (.int k a))=aa (.v (.int k (k.wrap (0 - a)))):=rfl
def Wd{s:ByteArray}(hu:P.underlying t=aa .string):ej P t (.v (.string s))=aa (.v (.int .i64 s.size)):=by unfold ej;rw[hu]
def OC{e:TypeId}{tk:Tok}{sz:Nat}{es:List (List AV)}(hu:P.underlying t=aa (.slice e)):ej P t (.list tk sz es)=aa (.v (.int .i64 es.length)):=by unfold ej;rw[hu]
def OB{e:TypeId}{b o l c:Nat}(hu:P.underlying t=aa (.slice e)):ej P t (.arr b o l c)=aa (.v (.int .i64 l)):=by unfold ej;rw[hu]
def aiv{l:List UInt8}(hu:P.underlying t=aa .string)(h0:0<=a)(h1:a<l.length):Bo P t (.v (.string (bs l))) (.v (.int k a))=aa (.v (.int .u8 (l.getD a.toNat 0).toNat)):=by
 unfold Bo;rw[hu];have aA:a.toNat<l.length:=by omega
 simp only[aF h0,bs,jc,aO aA];simp[aA]
def ak1{c}{u v}:JH (.v (.bool c)) u v=aa (if c=ah then u else v):=by cases c<;>rfl
def gf(h0: -9223372036854775808<=a)(h1:a<=9223372036854775807):IntKind.i64.wrap a=a:=by rw[IntKind.wrap_i64];omega
def Mt(h0:0<=a)(h1:a<=255):IntKind.u8.wrap a=a:=by rw[IntKind.wrap_u8];omega
end
end Go.AE
end
section
namespace Go.AE
open Go.RowKit (Below)
def aS.init(W:World):aS:={base:=W.heap.size,ic:=λg j=>W.cell? ⟨g,j,aq⟩,β:=[],γ:=[],tn:=0,tk:=λ_=>(0,0,0),md:=[],lb:=λ_=>aq}
def ak.init:ak:=⟨[],[],0,[]⟩
def ap6{G}{ok}(W)(hG:∀g cs,G g=aa cs->∃cells,aM (aS.init W) cs cells/\∀(j:Nat) (c:Value),cells[j]?=aa c->W.cell? ⟨g,j,aq⟩=aa c):
 bN (aS.init W) G ok W ak.init W:=by
 refine⟨.refl _ _,aJ _,λg j c h=>h,hG,rfl,λb b' g h=>?_,λb g cs h=>?_,rfl,λb b' g h=>?_,λl g r h=>?_,rfl,λt ht=>?_,λt t' ht=>?_,λr hr=>?_,rfl⟩
 ·simp[aS.init] at h
 ·simp[aS.init] at h
 ·simp[aS.init] at h
 ·simp[aS.init] at h
 ·simp[alive,ak.init] at ht
 ·simp[alive,ak.init] at ht
 ·simp[aS.init] at hr
def BH(P:Program):Nat->List Field->Nat->Bool
 |off,[],total=>jq off total
 |off,f::fs,total=>jq f.offset off&&BH P (off+P.cellsOf f.type) fs total
def JC(P:Program):Nat->TypeId->Bool
 |0,_=>av
 |n+1,t=>
  match P.underlying t with
  |some .bool|some (.int _)|some .string=>ah
  |some (.slice e)=>JC P n e&&decide (0<P.cellsOf e)
  |some (.struct fs)=>BH P 0 fs.toList (P.cellsOf t)&&fs.toList.all λf=>JC P n f.type
  |some (.array m e)=>jq (P.cellsOf t) (m * P.cellsOf e)&&JC P n e
  |_=>av
inductive Has {H:Type} (P:Program):TypeId->List AV->DataW H->Prop
 |bool {t:TypeId} (hu:P.underlying t=aa .bool) (b:Bool):Has P t [.v (.bool b)] (.lit (.bool b))
 |int {t:TypeId} {k:IntKind} (hu:P.underlying t=aa (.int k)) (n:Int) (hn:(Lit.int k n).wf=ah):Has P t [.v (.int k n)] (.lit (.int k n))
 |str {t:TypeId} (hu:P.underlying t=aa .string) (s:ByteArray) (hs:s.size<=maxLen):Has P t [.v (.string s)] (.lit (.string s.data.toList))
 |none {t e:TypeId} (hu:P.underlying t=aa (.slice e)):Has P t [.list .nil (P.cellsOf e) []] .nil
 |list {t e:TypeId} (hu:P.underlying t=aa (.slice e)) (k:Tok) (es:List (List AV)) (ds sp:List (DataW H)) (hk:k=.held∨(k=.tight/\es=[])) (hl:es.length<=maxLen) (hd:ds.length=es.length)
  (he:∀(i:Nat) (r:List AV) (d:DataW H),es[i]?=aa r->ds[i]?=aa d->Has P e r d) (hs:∀r∈es,r.length=P.cellsOf e):Has P t [.list k (P.cellsOf e) es] (.slice ds sp)
 |struct {t:TypeId} {fs:Array Field} (hu:P.underlying t=aa (.struct fs)) (xs:List AV) (ds:List (DataW H)) (hl:xs.length=P.cellsOf t) (hd:ds.length=fs.size)
  (hf:∀(i:Nat) (f:Field) (d:DataW H),fs[i]?=aa f->ds[i]?=aa d->Has P f.type ((xs.drop f.offset).take (P.cellsOf f.type)) d):Has P t xs (.agg ds)
 |array {t e:TypeId} {n:Nat} (hu:P.underlying t=aa (.array n e)) (xs:List AV) (ds:List (DataW H)) (hl:xs.length=P.cellsOf t) (hd:ds.length=n)
  (he:∀(i:Nat) (d:DataW H),ds[i]?=aa d->Has P e ((xs.drop (i * P.cellsOf e)).take (P.cellsOf e)) d):Has P t xs (.agg ds)
section
variable {H:Type} {enc:TypeId × Value->H} {P:Program} {W:World}
def SK{a:Addr}{n:Nat}{vs:List Value}(h:W.cells? 0 a n=aa vs):vs.length=n/\∀j,j<n->W.cell? (a.add j)=vs[j]?:=by unfold World.cells? at h;rw[aF (cr _)] at h;refine⟨by simpa using mapM_some_length h,λj hj=>mapM_some_get h j j (by simp[hj])⟩
def aqo{a:Addr}{v:Value}(h:W.cell? a=aa v):a.spot=aq:=by
 unfold World.cell? at h;split at h
 ·cases hs:a.spot with|none=>rfl|some s=>rw[hs] at h;simp at h
 ·cases h
def af4{α:Type}{sz}:∀{es:List (List α)},(∀r∈es,r.length=sz)->∀(i j:Nat),j<sz->es.flatten[i * sz+j]?=(es[i]?).bind (·[j]?):=by
 intro es
 induction es with
 |nil=>intro _ i j _;simp|cons r es ih=>
  intro hr i j hj;have h1:r.length=sz:=hr r fR;cases i with|zero=>simp[List.getElem?_append_left (by omega:j<r.length)]|succ i=>rw[List.flatten_cons,List.getElem?_append_right (by rw[h1,gg];omega),h1];have:(i+1) * sz+j - sz=i * sz+j:=(by rw[gg];omega);rw[this,ih (λr hm=>hr r (fi _ hm)) i j hj];simp
end
end Go.AE
end
section
namespace Go.AE
open Go.RowKit Go.WideShapes Go.ChangeShapes
def lD{H:Type}(P:Program)(t:TypeId)(x:AV)(d:DataW H):Prop:=
 match P.underlying t with
 |some (.struct _)|some (.array _ _)=>∃cs,x=.agg cs/\Has P t cs d
 |_=>Has P t [x] d
def sY{H:Type}(P:Program):List TypeId->List AV->List (DataW H)->Prop
 | [],[],[]=>True
 |t::ts,x::xs,d::ds=>lD P t x d/\sY P ts xs ds
 |_,_,_=>False
section
variable {H:Type} {enc:TypeId × Value->H} {P:Program} {W:World}
def aca(hl:laidOutB P=ah){W':World}{sp:Nat->Bool}:∀{ts:List TypeId} {vs:List Value} {ds:List (DataW H)} {p:List MemPlace},DataW.TrodAll enc P W 0 (λ_=>ah) ah ts vs ds p->
 (∀t∈ts,P.readableRec t=true/\t<P.types.size)->(∀x∈p,W.sameAt W' x)->(∀x∈p,sp x.block=true)->DataW.TrodAll enc P W' 0 sp true ts vs ds p:=by
 intro ts
 induction ts with
 |nil=>intro vs ds p h _ _ _;obtain⟨rfl,rfl,rfl⟩:=trodAll_nil h;exact trodAll_mk0
 |cons t ts ih=>
  intro vs ds p h hr hs kL;obtain⟨v,vs',d,ds',p1,q1,rfl,rfl,rfl,h1,h2⟩:=trodAll_cons h;exact trodAll_cons_mk (WideElems.Trod_stays hl (hr t fR).1 (hr t fR).2 h1 (λx hx=>hs x (Ra _ hx)) (λx hx=>kL x (Ra _ hx)))
   (ih h2 (λt ht=>hr t (fi _ ht)) (λx hx=>hs x (aaG _ hx)) (λx hx=>kL x (aaG _ hx)))
def alm{f:Func}{s:ChangeSpec}{apart fresh handsOn again:Bool}{W W':World}{args:Array Value}{v:Value}{ds gs:List (DataW H)}{before pa pv:List MemPlace}
 (hW:DataW.Whole enc P f.params.toList s.vars apart W args.toList ds gs before)
 (gH:∀(b:Nat) (sp:Nat->Bool) (hd:Bool),DataW.TrodAll enc P W' b sp hd f.resultTypes.toList (v.resultList f.resultTypes.size) (s.fn H (ds++gs)).results [])
 (vA:∀sp:Nat->Bool,(∀p∈before,sp p.block=ah)->DataW.TrodAll enc P W' 0 sp ah f.params.toList args.toList (s.fn H (ds++gs)).args pa)
 (F7:∀sp:Nat->Bool,(∀p∈before,sp p.block=ah)->DataW.TrodVars enc P W' sp s.vars (s.fn H (ds++gs)).vars pv)
 (xz:before=pa++pv) (hb:Below W.heap.size W W')
 (bA:∀(j:Nat) (t:TypeId) (r:Value),f.resultTypes[j]?=aa t->(v.resultList f.resultTypes.size)[j]?=aa r->Value.okWide P W' .any 0 t r):
 s.post enc P f apart fresh handsOn again W args v W':=by
 have aA:∀p∈before,p.block<W.heap.size:=λp hp=>hW.lt p hp;have hold:∀p∈before,(λb=>decide (b<W.heap.size)) p.block=ah:=λp hp=>by simpa using aA p hp
 refine⟨ds,gs,before,[],pa,pv,hW,gH _ _ _,vA _ hold,F7 _ hold,World.keptBut_mono (λp hp=>⟨hp,?_⟩) (hb.frame (·∈before)),λ_=>?_⟩
 ·rw[xz,uZ] at hp;exact Or.inr hp
 ·obtain⟨_,_,_,_,_,hz,hn⟩:=hW;refine⟨bA,_,_,([]++pa)++pv,⟨[]++pa,pv,trodAll_append (vA _ (λ_ _=>rfl)) (gH _ _ _),F7 _ (λ_ _=>rfl),rfl,?_,?_⟩,?_⟩
  ·intro b off hp;have iu:MemPlace.cell b off∈before:=(by rw[xz];simpa using hp);rw[hb.frozen (aA _ iu)];exact hz b off iu
  ·intro ha;have:=hn ha;rw[xz] at this;simpa using this
  ·intro p hp _;rw[xz];simpa using hp
structure asT(P:Program)(f:FuncId)(fn:Func)(tb:TypeId):Prop where
 func:P.funcs[f]?=aa fn
 laid:laidOutB P=ah
 o5:∀t∈fn.params.toList,JC P 9 t=ah/\P.readableRec t=ah/\t<P.types.size
 res:fn.resultTypes=#[tb]
 bool:P.underlying tb=aa .bool
variable {G:Nat->Option (List AV)} {prims:FuncId->Option (List AV->ak->Option (AV × ak))}
end
end Go.AE
end
section
namespace Go.AE
open Go.RowKit (Below)
section
variable {K:aS} {G:Nat->Option (List AV)} {ok:FuncId->Nat->Code->Bool} {w0 w w':World} {h:ak}
def bN.grown(s:bN K G ok w0 h w)(hb:Below w.heap.size w w'):bN K G ok w0 h w':=by
 have hk:∀{k:Nat} {o:Obj},w.heap[k]?=aa o->w'.heap[k]?=aa o:=λhk=>(hb.block _ (nS hk)).trans hk;refine⟨s.cU.trans (hb.mono s.size),fe s.size hb.size,λg j c hg=>?_,s.eD,s.ki,s.o7,λb g cs gU hc=>?_,s.nA,s.pY,λl g r hl hr=>?_,s.tn,λt ht=>?_,s.oZ,λr hr=>?_,s.all⟩
 ·rw[<-s.ic g j c hg];exact World.cell?_of_block (w:=w) (hb.block g (s.zt hg))
 ·obtain⟨h1,h2,ha,cells,e,h3,h4⟩:=s.box b g cs gU hc;exact⟨h1,h2,ha,cells,e,hk h3,h4⟩
 ·obtain⟨h1,fn,tmps,d,h2,h3⟩:=s.loop l g r hl hr;exact⟨h1,fn,tmps,d,hk h2,h3⟩
 ·obtain⟨h1,h2,h3,cells,e,fz,h4,h5,h6⟩:=s.tok t ht;refine⟨h1,h2,h3,cells,e,fz,hk h4,h5,λj hj hl=>?_⟩;rw[<-h6 j hj hl];exact World.frozen?_of_block (w:=w) (hb.block _ (nS h4))
 ·exact⟨(s.md r hr).1,hk (s.md r hr).2⟩
end
end Go.AE
end
section
namespace Go.AE
def ak.push(h:ak)(cs:List AV):ak:={h with boxes:=h.boxes++[cs]}
def ak.put(h:ak)(b:Nat)(cs:List AV):ak:={h with boxes:=h.boxes.set b cs}
def bL(h:ak)(cs):h.box cs=(.ptr (.box h.boxes.length) 0,h.push cs):=rfl
def cK(h:ak)(cs):(h.push cs).boxes.length=h.boxes.length+1:=by simp[ak.push]
def a9(h:ak)(cs):(h.push cs).boxes[h.boxes.length]?=aa cs:=by simp[ak.push]
def bg{h:ak}{cs ds}{b:Nat}(hb:h.boxes[b]?=aa ds):(h.push cs).boxes[b]?=aa ds:=uh hb
def ev{h:ak}{cs}{b}(hb:b<h.boxes.length):(h.put b cs).boxes[b]?=aa cs:=by simp[ak.put,hb]
def cS{h:ak}{cs}{b c}(hb:c≠b):(h.put b cs).boxes[c]?=h.boxes[c]?:=by simp[ak.put,lR,Ne.symm hb]
def mh(h:ak)(b)(cs):(h.put b cs).boxes.length=h.boxes.length:=by simp[ak.put]
def cA(h:ak):Bool:=h.dead.all λn=>decide (n<h.tn)
structure Ext(h h':ak):Prop where
 box:∀(b:Nat) (cs:List AV),h.boxes[b]?=aa cs->h'.boxes[b]?=aa cs
 loop:∀(l:Nat) (r:ij),h.loops[l]?=aa r->h'.loops[l]?=aa r
 tn:h.tn<=h'.tn
 dead:∀n,n<h.tn->n∈h'.dead->n∈h.dead
 ok:cA h=ah->cA h'=ah
def Ext.refl(h):Ext h h:=⟨λ_ _ h=>h,λ_ _ h=>h,aJ _,λ_ _ h=>h,λh=>h⟩
def Ext.trans{a b c}(h:Ext a b)(k:Ext b c):Ext a c:=
 ⟨λi cs hb=>k.box i cs (h.box i cs hb),λl r hl=>k.loop l r (h.loop l r hl),fe h.tn k.tn,λn hn hd=>h.dead n hn (k.dead n (mq hn h.tn) hd),λho=>k.ok (h.ok ho)⟩
def Ext.push(h)(cs):Ext h (h.push cs):=⟨λ_ _ hb=>bg hb,λ_ _ h=>h,aJ _,λ_ _ h=>h,λh=>h⟩
def Ext.fresh(h)(sz)(es):Ext h (h.fresh sz es).2:=⟨λ_ _ hb=>hb,λ_ _ h=>h,EP _,λ_ _ h=>h,λho=>by
 unfold cA at *
 simp only[ak.fresh,dU,decide_eq_true_eq] at *
 exactλn hn=>bX (u6 (ho n hn))⟩
def Ext.alive{h h'}(x:Ext h h'){n}(ha:alive h n=ah):alive h' n=ah:=by
 unfold AE.alive at *
 simp only[bC,decide_eq_true_eq,Bool.not_eq_true',List.contains_eq_mem,decide_eq_false_iff_not] at *
 exact⟨mq ha.1 x.tn,λhd=>ha.2 (x.dead n ha.1 hd)⟩
def Ext.len{h h'}(x:Ext h h'):h.boxes.length<=h'.boxes.length:=by
 rcases dI h'.boxes.length h.boxes.length with aA|dM
 ·have h1:=x.box h'.boxes.length _ (aO aA);have:=(aP.1 h1).1;omega
 ·exact dM
noncomputable def M3(R:Rec)(g:FuncId)(args:List AV)(h:ak):ak:=
 match R.call g args h with
 |some (_,h')=>h'
 |none=>h
def aht{R}{g}{args}{h h'}{r}(hc:R.call g args h=aa (r,h')):M3 R g args h=h':=by unfold M3;rw[hc]
def Rs(R:Rec)(g:FuncId)(args:List AV)(h:ak)(r:eK):Prop:=∃h',R.call g args h=aa (r,h')/\Ext h h'
def Rs.ext{R}{g}{args}{h}{r}(hs:Rs R g args h r):Ext h (M3 R g args h):=by obtain⟨h',h1,h2⟩:=hs;rw[aht h1];exact h2
def yL(P:Program)(G:Nat->Option (List AV))(R:Rec)(fn:Func)(r:eK)(Post:ak->Prop):Xt->Env->ak->Prop:=λo e h=>∃h',wY P G R fn r h' o e h/\Post h'
def afD{P}{G}{R}{fn}{r}{Post}{e}{h}:yL P G R fn r Post .normal e h=∃h',gM P G R fn e e.defers aq h=aa (r,h')/\Post h':=rfl
def afF{P}{G}{R}{fn}{r}{Post}{e}{h}:yL P G R fn r Post .ret e h=∃h',gM P G R fn e e.defers aq h=aa (r,h')/\Post h':=rfl
def afE{P}{G}{R}{fn}{r}{Post}{e}{h}{x}:yL P G R fn r Post (.panic x) e h=∃h',gM P G R fn e e.defers (aa (x,av)) h=aa (r,h')/\Post h':=rfl
def gP{P}{G}{prims}{g}{fn}{body}{args}{r}{h}{Post}(hp:prims g=aq)(gG:P.funcs[g]?=aa fn)(hb:fn.body=aa body)
 (hr:bG (whole P G prims) body (Env.start args aq) h (yL P G (whole P G prims) fn r Post)):∃h',(whole P G prims).call g args h=aa (r,h')/\Post h':=by
 obtain⟨o,e1,h1,h2,h',h3,h4⟩:=hr;exact⟨h',cC hp gG hb ⟨o,e1,h1,h2,h3⟩,h4⟩
section
variable {P:Program} {G:Nat->Option (List AV)} {h:ak} {t:TypeId} {b off n:Nat} {cs:List AV}
def lP(ha:gx P t=aa av)(hb:h.boxes[b]?=aa cs):aI P G h t (.ptr (.box b) off)=(cs.drop off).head?:=by unfold aI As Pt;simp only[ha,hb,eJ]
def ja(ha:gx P t=aa ah)(hs:dm P t=aa n)(hb:h.boxes[b]?=aa cs)(hl:off+n<=cs.length):aI P G h t (.ptr (.box b) off)=aa (.agg ((cs.drop off).take n)):=by unfold aI As Pt;simp only[ha,hb,hs,eJ];rw[aF (by simp;omega)]
def qw{sz i:Nat}{es:List (List AV)}{row:List AV}(ha:gx P t=aa av)(hb:es[i]?=aa row):aI P G h t (.elem sz es i off)=(row.drop off).head?:=by unfold aI As;simp only[ha,hb,eJ]
def Jr{sz i:Nat}{es:List (List AV)}{row:List AV}(ha:gx P t=aa ah)(hs:dm P t=aa n)(hb:es[i]?=aa row)(hl:off+n<=row.length):aI P G h t (.elem sz es i off)=aa (.agg ((row.drop off).take n)):=by unfold aI As;simp only[ha,hb,hs,eJ];rw[aF (by simp;omega)]
def a8{e:TypeId}{k:Tok}{kk:IntKind}{sz:Nat}{es:List (List AV)}{a:Int}(hu:P.underlying t=aa (.slice e))(hs:dm P e=aa sz)(h0:0<=a)(h1:a<es.length):dy P t (.list k sz es) (.v (.int kk a))=aa (.elem sz es a.toNat 0):=by unfold dy;rw[hu];simp only;rw[aF ⟨h0,h1,hs⟩]
def Du{e:TypeId}{kk:IntKind}{bb o l c sz:Nat}{a:Int}(hu:P.underlying t=aa (.slice e))(hs:dm P e=aa sz)(h0:0<=a)(h1:a<l):dy P t (.arr bb o l c) (.v (.int kk a))=aa (.ptr (.box bb) (o+a.toNat * sz)):=by unfold dy;rw[hu];simp only[hs];rw[aF ⟨h0,h1⟩]
def gL{x:AV}{xs:List AV}(hx:x.b8=aa xs)(hs:dm P t=aa n)(hb:h.boxes[b]?=aa cs)(hn:xs.length=n)(hl:off+n<=cs.length):ct P h t (.ptr (.box b) off) x=aa (h.put b (eE cs off xs)):=by unfold ct;simp only[hx,hs,hb];rw[aF ⟨hn,hl⟩];rfl
def oA(h:ak)(z cs):(h.push z).put h.boxes.length cs=h.push cs:=by simp[ak.push,ak.put,List.set_append_right]
def wx{z xs}(hl:xs.length=z.length):eE z 0 xs=xs:=by simp[eE,hl]
def lq{x:AV}{xs z:List AV}(hx:x.b8=aa xs)(hs:dm P t=aa n)(hn:xs.length=n)(hz:z.length=n):ct P (h.push z) t (.ptr (.box h.boxes.length) 0) x=aa (h.push xs):=by rw[gL hx hs (a9 h z) hn ag,wx ag,oA]
end
end Go.AE
end
section
namespace Go.AE
section
variable {P:Program} {G:Nat->Option (List AV)} {R:Rec}
def akt(ops:Array Oper):∀(n i:Nat),i+n<=ops.size->∀(e:Env) (h:ak),cV P G R ops (aaH i n) e h=pT P G R ops ((ops.toList.drop i).take n) e h:=by
 intro n
 induction n with
 |zero=>intro i hi e h;rfl|succ n ih=>
  intro i hi e h;have aA:i<ops.size:=by omega
  have ho:ops[i]?=aa ops[i]:=lQ aA;rw[aaI,zR (by simpa using aA),List.take_succ_cons];simp only[cV,pT,ho,ZH];cases eY ops e ops[i] with
  |none=>rfl|some b=>
   cases b with
   |false=>exact ih (i+1) ag _ _|true=>
    simp only;cases dO P G R e h ops[i] with
    |none=>rfl|some q=>
     obtain⟨r,e1,h1⟩:=q;cases r with|ret x=>exact ih (i+1) ag _ _|panic x=>rfl
def rH{ops:Array Oper}{m:Nat}(hm:m<=ops.size)(e:Env)(h:ak):cV P G R ops (bO m) e h=pT P G R ops (ops.toList.take m) e h:=by rw[Lc,akt ops m 0 ag];rfl
def CH(ops:Array Oper)(cs:List Nat)(ps:List (Nat × Nat)):Bool:=
 let b:=Region.before ops
 Al ops b&&(bO ops.size).all λj=>(bO j).all λi=>(b.getD j 0).testBit i||xX ops i j||ps.contains (i,j)||(oJ ops i j&&(cs.contains i||cs.contains j))
def Mr{ops:Array Oper}{cs:List Nat}{ps:List (Nat × Nat)}{e:Env}{h:ak}(hd:CH ops cs ps=ah)(hc:∀k∈cs,yH P G R ops e h k)(hs:∀p∈ps,lj P G R ops e h p.1 p.2=ah):l8 P G R ops e h=ah:=by
 unfold CH at hd;unfold l8;simp only[bC,dU,fY,tQ] at hd ⊢;refine⟨hd.1,λj hj i hi=>?_⟩;rcases hd.2 j hj i hi with((h1|h1)|h1)|⟨h1,h2⟩
 ·exact .inl (.inl (.inl h1))
 ·exact .inl (.inl (.inr h1))
 ·exact .inl (.inr (hs (i,j) (by simpa using h1)))
 ·exact .inr ⟨h1,h2.imp (λq=>Fa.2 (hc i (by simpa using q))) (λq=>Fa.2 (hc j (by simpa using q)))⟩
def Cz{ops:Array Oper}{e:Env}{h:ak}{k:Nat}{o:Oper}{c:Call}{x:AV}(ho:ops[k]?=aa o)(bK:o.op=.call c)
 (h1:cB P G R ops (ops.toList.take k) e h (λq er _=>q=.normal/\∀hm,lE P R er hm c=aa (.ret x,hm)))
 (h2:cB P G R ops ops.toList e h (λq _ _=>q=.normal)):yH P G R ops e h k:=by
 have hk:k<ops.size:=(Array.getElem?_eq_some_iff.1 ho).1;obtain⟨q1,er,hr,e1,rfl,e2⟩:=h1;obtain⟨q2,en,hn,f1,rfl⟩:=h2;rw[<-rH ag] at e1;have ec:cV P G R ops (bO ops.size) e h=aa (.normal,en,hn):=by rw[rH (aJ _),<-Array.length_toList,fA];exact f1
 obtain⟨-,tr,-⟩:=trace ec;refine⟨o,x,er,hr,ho,?_,e1,λm hm=>⟨_,_,tr m hm,ady bK (e2 _)⟩⟩;have ahj:∀b,c.callee≠ .builtin b:=λb hb=>by have:=e2 hr;unfold lE at this;rw[hb] at this;cases this
 rw[bK];obtain⟨callee,args,ts⟩:=c;cases callee with|builtin b=>exact absurd rfl (ahj b)|value f=>rfl|invoke r n=>rfl
def zH{ops:Array Oper}{e:Env}{h:ak}{i j:Nat}{o:Oper}{t:TypeId}{a:Operand}(tq:oJ ops i j=ah)(ho:ops[i]?=aa o)(bK:o.op=.load t a)(hg:o.guard=aq)
 (hj:(ops[j]?).map (λo=>jj o.op)=aa .acts) {x v:AV} (hv:eT v v=ah)
 (h1:cB P G R ops (ops.toList.take i) e h (λq er hr=>q=.normal/\er.eval a=x/\aI P G hr t x=aa v))
 (h2:cB P G R ops (ops.toList.take (j+1)) e h (λq _ hm=>q=.normal/\aI P G hm t x=aa v)):lj P G R ops e h i j=ah:=by
 have hi:i<ops.size:=by
  rcases dI i ops.size with hh|hh
  ·exact hh
  ·rw[wF hh] at ho;cases ho
 have Nn:j<ops.size:=by
  rcases dI j ops.size with hh|hh
  ·exact hh
  ·rw[wF hh] at hj;cases hj
 have hc:(ops[i]?).map (λo=>jj o.op)=aa .reads:=by rw[ho];simp only[eJ,bK];rfl
 unfold lj;rw[tq,hc,hj];simp only[rP];unfold oX;rw[ho,rH ag,rH ag];obtain⟨q1,er,hr,e1,rfl,e2,e3⟩:=h1;obtain⟨q2,em,hm,f1,rfl,f2⟩:=h2;rw[e1,f1];simp only[eY,hg,bK,e2,e3,f2,hv]
def qH{ops:Array Oper}{e:Env}{h:ak}{i j:Nat}{o:Oper}{t:TypeId}{a:Operand}(tq:oJ ops i j=ah)(ho:ops[j]?=aa o)(bK:o.op=.load t a)(hg:o.guard=aq)
 (hj:(ops[i]?).map (λo=>jj o.op)=aa .acts) {x v:AV} (hv:eT v v=ah)
 (h1:cB P G R ops (ops.toList.take j) e h (λq er hr=>q=.normal/\er.eval a=x/\aI P G hr t x=aa v))
 (h2:cB P G R ops (ops.toList.take i) e h (λq _ hm=>q=.normal/\aI P G hm t x=aa v)):lj P G R ops e h i j=ah:=by
 have hi:i<ops.size:=by
  rcases dI i ops.size with hh|hh
  ·exact hh
  ·rw[wF hh] at hj;cases hj
 have Nn:j<ops.size:=by
  rcases dI j ops.size with hh|hh
  ·exact hh
  ·rw[wF hh] at ho;cases ho
 have hc:(ops[j]?).map (λo=>jj o.op)=aa .reads:=by rw[ho];simp only[eJ,bK];rfl
 unfold lj;rw[tq,hc,hj];simp only[rP];unfold oX;rw[ho,rH ag,rH ag];obtain⟨q1,er,hr,e1,rfl,e2,e3⟩:=h1;obtain⟨q2,em,hm,f1,rfl,f2⟩:=h2;rw[e1,f1];simp only[eY,hg,bK,e2,e3,f2,hv]
end
section
variable {P:Program} {G:Nat->Option (List AV)} {prims:FuncId->Option (List AV->ak->Option (AV × ak))} {Q:Xt->Env->ak->Prop} {e:Env} {h:ak}
def P4{id:Nat}{ops:Array Oper}(cs:List Nat)(ps:List (Nat × Nat))(hd:CH ops cs ps=ah)(hc:∀k∈cs,yH P G (whole P G prims) ops e h k)(hs:∀p∈ps,lj P G (whole P G prims) ops e h p.1 p.2=ah)
 (hr:cB P G (whole P G prims) ops ops.toList e h (wW Q)):bG (whole P G prims) (.region id ops ah) e h Q:=
 P5 (Mr hd hc hs) hr
end
structure fx(b n0:Nat)(h h':ak):Prop where
 box:∀(c:Nat) (cs:List AV),c≠b->h.boxes[c]?=aa cs->h'.boxes[c]?=aa cs
 len:h.boxes.length<=h'.boxes.length
 loop:∀(l:Nat) (r:ij),h.loops[l]?=aa r->h'.loops[l]?=aa r
 tn:h.tn<=h'.tn
 dead:∀n,n<n0->n∈h'.dead->n∈h.dead
 ok:cA h=ah->cA h'=ah
def fx.refl(b n0)(h):fx b n0 h h:=⟨λ_ _ _ h=>h,aJ _,λ_ _ h=>h,aJ _,λ_ _ h=>h,λh=>h⟩
def fx.trans{b n0}{x y z}(h:fx b n0 x y)(k:fx b n0 y z):fx b n0 x z:=
 ⟨λi cs hi hb=>k.box i cs hi (h.box i cs hi hb),fe h.len k.len,λl r hl=>k.loop l r (h.loop l r hl),fe h.tn k.tn,λn hn hd=>h.dead n hn (k.dead n hn hd),λho=>k.ok (h.ok ho)⟩
def fx.DM{b n0}{h h'}(x:Ext h h')(hn:n0<=h.tn):fx b n0 h h':=
 ⟨λc cs _ hc=>x.box c cs hc,x.len,x.loop,x.tn,λn h1 h2=>x.dead n (mq h1 hn) h2,x.ok⟩
def fx.put(b n0)(h)(cs):fx b n0 h (h.put b cs):=
 ⟨λc ds hc hb=>by rw[cS hc];exact hb,by rw[mh];exact aJ _,λ_ _ h=>h,aJ _,λ_ _ h=>h,λh=>h⟩
def Ext.mut{b}{h0 h h'}(x:Ext h0 h)(m:fx b h0.tn h h')(hb:h0.boxes.length<=b):Ext h0 h':=
 ⟨λc cs hc=>by have aA:=(aP.1 hc).1;exact m.box c cs ag (x.box c cs hc),λl r hl=>m.loop l r (x.loop l r hl),fe x.tn m.tn,λn hn hd=>x.dead n hn (m.dead n hn hd),λho=>m.ok (x.ok ho)⟩
def ak.app(h:ak)(k:Tok):ak:=
 match k with
 | .free n=>{h with dead:=n::h.dead,tn:=h.tn+1}
 |_=>{h with tn:=h.tn+1}
def eu(h:ak)(k):(h.app k).boxes=h.boxes:=by cases k<;>rfl
def yB(h:ak)(k):(h.app k).loops=h.loops:=by cases k<;>rfl
def Cv(h:ak)(k):(h.app k).tn=h.tn+1:=by cases k<;>rfl
def dj(n0:Nat)(h:ak)(k:Tok):Prop:=k=.nil∨k=.tight∨∃n,k=.free n/\n0<=n/\alive h n=ah
def fx.app{b n0}{h}{k}(hk:dj n0 h k):fx b n0 h (h.app k):=by
 refine⟨λc cs _ hc=>by rw[eu];exact hc,by rw[eu];exact aJ _,λl r hl=>by rw[yB];exact hl,by rw[Cv];exact EP _,?_,?_⟩
 ·rcases hk with rfl|rfl|⟨m,rfl,hm,ha⟩
  ·exactλn _ hn=>hn
  ·exactλn _ hn=>hn
  ·intro n hn hd;rcases gO.1 hd with rfl|hd
   ·omega
   ·exact hd
 ·intro ho;have Nt:∀n∈h.dead,n<h.tn+1:=λn hn=>by have:=dU.1 ho n hn;simp only[decide_eq_true_eq] at this;omega
  rcases hk with rfl|rfl|⟨m,rfl,hm,ha⟩
  ·exact dU.2 λn hn=>bX (Nt n hn)
  ·exact dU.2 λn hn=>bX (Nt n hn)
  ·refine dU.2 λn hn=>bX ?_;rcases gO.1 hn with rfl|hn
   ·unfold alive at ha;simp only[bC,decide_eq_true_eq] at ha;show n<h.tn+1;omega
   ·exact Nt n hn
def Ext.app{h0 h}{k}(x:Ext h0 h)(hk:dj h0.tn h k):Ext h0 (h.app k):=by have m:=fx.app (b:=h.boxes.length) hk;exact x.mut m x.len
def ab2{h}{k}(ho:cA h=ah)(hk:dj 0 h k):alive (h.app k) h.tn=ah:=by
 have iG:h.dead.contains h.tn=av:=by rw[Bool.eq_false_iff];intro hc;have:=dU.1 ho h.tn (by simpa using hc);simp at this
 unfold alive;rw[Cv];rcases hk with rfl|rfl|⟨m,rfl,-,ha⟩
 ·simp only[ak.app,iG];simp
 ·simp only[ak.app,iG];simp
 ·unfold alive at ha;simp only[bC,decide_eq_true_eq] at ha;have h1:¬(h.tn=m):=by omega
  have h2:¬(h.tn∈h.dead):=by simpa using iG
  simp[ak.app,h1,h2]
def dj.mono{n0}{h}{k}(hk:dj n0 h k){n1}(hn:n1<=n0):dj n1 h k:=by
 rcases hk with rfl|rfl|⟨m,rfl,hm,ha⟩
 ·exact .inl rfl
 ·exact .inr (.inl rfl)
 ·exact .inr (.inr ⟨m,rfl,by omega,ha⟩)
def dj.ext{n0}{h h'}{k}(hk:dj n0 h k)(x:Ext h h'):dj n0 h' k:=by
 rcases hk with rfl|rfl|⟨m,rfl,hm,ha⟩
 ·exact .inl rfl
 ·exact .inr (.inl rfl)
 ·exact .inr (.inr ⟨m,rfl,hm,x.alive ha⟩)
def dj.next{n0}{h}{k}(hk:dj n0 h k)(ho:cA h=ah)(hn:n0<=h.tn):dj n0 (h.app k) (.free h.tn):=
 .inr (.inr ⟨h.tn,rfl,hn,ab2 ho (hk.mono (cr _))⟩)
end Go.AE
end
section
namespace Go.AE
def sY.cons_inv{H}{P}{t}{ts}{xs}{ds:List (DataW H)}(h:sY P (t::ts) xs ds):∃x xs' d ds',xs=x::xs'/\ds=d::ds'/\lD P t x d/\sY P ts xs' ds':=by
 cases xs with
 |nil=>cases ds<;>exact h.elim
 |cons x xs=>
  cases ds with|nil=>exact h.elim|cons d ds=>exact⟨x,xs,d,ds,rfl,rfl,h.1,h.2⟩
def sY.aj5{H}{P}{xs}{ds:List (DataW H)}(h:sY P [] xs ds):xs=[]:=by
 cases xs with|nil=>rfl|cons x xs=>cases ds<;>exact h.elim
section
variable {P:Program} {t:TypeId} {x y:Operand}
def alL{d:TypeDesc}(hu:P.underlying t=aa d):gy P (underlying t)=aa d:=by unfold underlying;simp only[By];show(aa P).bind _=_;simp only[ph,hu];rfl
def acL{v:Value}{ms:Array (String × TypeId)}(hu:P.underlying t=aa (.interface ms)):cN P .neq t x (.const v) (.v .nilIface) (.v .nilIface)=aa (.v (.bool av)):=by
 have h1:cN P .neq t x (.const v) (.v .nilIface) (.v .nilIface)=(gy P (do eqGuard .neq t x (.const v) .nilIface .nilIface;binOp .neq t .nilIface .nilIface)).bind oB:=rfl;have h2:gy P (eqGuard .neq t x (.const v) .nilIface .nilIface)=aa ():=by cases x<;>rfl
 have h3:gy P (Op.equal t .nilIface .nilIface)=aa ah:=by unfold Op.equal Op.maxDepth Op.equalIn;rw[By,alL hu];rfl
 have h4:gy P (binOp .neq t .nilIface .nilIface)=aa (.bool av):=by show gy P (do pure (Value.bool (!(<-Op.equal t .nilIface .nilIface))))=_;rw[By,h3];rfl
 rw[h1,By,h2,ph,h4];rfl
end
end Go.AE
end
section
namespace Go.AE
section
variable {h:ak} {cs:List AV} {b c:Nat} {k:Tok}
def agl:(h.push cs).boxes[h.boxes.length]?=aa cs:=a9 h cs
def mB(hc:c=h.boxes.length):(h.push cs).boxes[c]?=aa cs:=by subst hc;exact a9 h cs
def IC(hc:c≠h.boxes.length):(h.push cs).boxes[c]?=h.boxes[c]?:=by
 unfold ak.push;simp only[List.getElem?_append];split
 ·rfl
 ·rename_i h1;rw[sZ (by simp;omega),sZ ag]
def agm(hb:b<h.boxes.length):(h.put b cs).boxes[b]?=aa cs:=ev hb
def agn(hc:c≠b):(h.put b cs).boxes[c]?=h.boxes[c]?:=cS hc
def agk:(h.app k).boxes[c]?=h.boxes[c]?:=by rw[eu]
def Wc:(h.app k).boxes.length=h.boxes.length:=by rw[eu]
end
def CA{n0}{h}{cs}{k}:dj n0 (h.push cs) k=dj n0 h k:=rfl
def CB{n0 b}{h}{cs}{k}:dj n0 (h.put b cs) k=dj n0 h k:=rfl
def Ext.fO{h h'}(x:Ext h h'){b}(hb:h.boxes.length<=b)(cs):Ext h (h'.put b cs):=by refine⟨λc ds hc=>?_,x.loop,x.tn,x.dead,x.ok⟩;have aA:c<h.boxes.length:=(aP.1 hc).1;rw[cS ag];exact x.box c ds hc
section
variable {P:Program} {G:Nat->Option (List AV)} {h:ak} {t:TypeId} {b off n:Nat} {cs:List AV}
def aq0{z:Value}(hs:dm P t=aa 1)(hb:h.boxes[b]?=aa cs)(hl:off+1<=cs.length):ct P h t (.ptr (.box b) off) (.v z)=aa (h.put b (eE cs off [.v z])):=gL rfl hs hb rfl hl
def aqY{k:Tok}{sz:Nat}{es:List (List AV)}(hs:dm P t=aa 1)(hb:h.boxes[b]?=aa cs)(hl:off+1<=cs.length):ct P h t (.ptr (.box b) off) (.list k sz es)=aa (h.put b (eE cs off [.list k sz es])):=gL rfl hs hb rfl hl
def aqf{l:List UInt8}{k k':IntKind}{lo hi:Int}(hu:P.underlying t=aa .string)(h0:0<=lo)(h1:lo<=hi)(h2:hi<=l.length):
 gC P t (.v (.string (bs l))) (aa (.v (.int k lo))) (aa (.v (.int k' hi))) aq=aa (.v (.string (bs ((l.take hi.toNat).drop lo.toNat)))):=by
 unfold gC;simp only[Af,zL,jG,if_false,hu,Ao];have e1:ga l.length (aa (AV.v (.int k' hi))) l.length=aa hi.toNat:=by unfold ga;simp only;rw[aF ⟨ag,h2⟩]
 have e2:ga hi.toNat (aa (AV.v (.int k lo))) 0=aa lo.toNat:=by unfold ga;simp only;rw[aF ⟨h0,by omega⟩]
 simp only[e1,e2,LY]
def aqg{l:List UInt8}{k:IntKind}{lo:Int}(hu:P.underlying t=aa .string)(h0:0<=lo)(h1:lo<=l.length):
 gC P t (.v (.string (bs l))) (aa (.v (.int k lo))) aq aq=aa (.v (.string (bs (l.drop lo.toNat)))):=by
 unfold gC;simp only[Af,zL,jG,if_false,hu,Ao];have e1:ga l.length aq l.length=aa l.length:=rfl;have e2:ga l.length (aa (AV.v (.int k lo))) 0=aa lo.toNat:=by unfold ga;simp only;rw[aF ⟨h0,h1⟩]
 simp only[e1,e2,LY,fA]
def aqh{l:List UInt8}{k':IntKind}{hi:Int}(hu:P.underlying t=aa .string)(h0:0<=hi)(h2:hi<=l.length):
 gC P t (.v (.string (bs l))) aq (aa (.v (.int k' hi))) aq=aa (.v (.string (bs (l.take hi.toNat)))):=by
 unfold gC;simp only[Af,zL,jG,if_false,hu,Ao];have e1:ga l.length (aa (AV.v (.int k' hi))) l.length=aa hi.toNat:=by unfold ga;simp only;rw[aF ⟨h0,h2⟩]
 have e2:ga hi.toNat aq 0=aa 0:=rfl;simp only[e1,e2,LY,iC]
def aj6{r:Ref}:OQ (.ptr r off)=aa (.ptr r off):=rfl
end
end Go.AE
end
section
namespace Go.AE
def Env.CG(e:Env)(d:FuncId × List AV):Env:={e with defers:=d::e.defers}
def Env.pn(e:Env)(p:Option (AV × Bool)):Env:={e with cD:=p}
section
variable {e:Env} {d:FuncId × List AV} {p:Option (AV × Bool)} {t:Nat}
def aff:(e.CG d).get t=e.get t:=rfl
def afe:(e.CG d).defers=d::e.defers:=rfl
def afg:(e.CG d).cD=e.cD:=rfl
def Tb:(e.CG d).round=e.round:=rfl
def ak5:(e.pn p).get t=e.get t:=rfl
def ak4:(e.pn p).defers=e.defers:=rfl
def ak6:(e.pn p).cD=p:=rfl
def Xg:(e.pn p).round=e.round:=rfl
end
def QO(P:Program)(G:Nat->Option (List AV))(R:Rec)(ops:Array Oper)(rest:List Oper)(d:Option Tmp)(args:List AV)(e:Env)(h:ak)(Q:Xt->Env->ak->Prop)(x:AV):Prop:=
 match x with
 | .func (.func g) first aB=>cB P G R ops rest ((e.CG (g,first++args++aB)).put d (.tuple [])) h Q
 |_=>False
def Lx(P:Program)(G:Nat->Option (List AV))(R:Rec)(ops:Array Oper)(rest:List Oper)(d:Option Tmp)(e:Env)(h:ak)(Q:Xt->Env->ak->Prop)(p:Option (AV × Bool)):Prop:=
 match p with
 |some (x,av)=>cB P G R ops rest ((e.pn (aa (x,ah))).put d x) h Q
 |_=>cB P G R ops rest (e.put d (.v .nilIface)) h Q
section
variable {P:Program} {G:Nat->Option (List AV)} {R:Rec} {ops:Array Oper} {rest:List Oper} {e:Env} {h:ak} {Q:Xt->Env->ak->Prop} {d:Option Tmp} {ty:TypeId} {pos:String} {af:Array Edge}
def ang{f:Operand}{args:Array Operand}{ts:Array TypeId}(hr:e.round=aq):cB P G R ops (⟨d,.defer {callee:=.value f,args,argTypes:=ts},ty,pos,af,aq⟩::rest) e h Q=QO P G R ops rest d (args.toList.map e.eval) e h Q (e.eval f):=by
 rw[ao5 hr];generalize e.eval f=y;rcases y with _|_|_|_|_|_|_|_|⟨fn,a,b⟩|_|_
 case func=>cases fn<;>rfl
 all_goals rfl
def afd{g:FuncId}{first aB args:List AV}:QO P G R ops rest d args e h Q (.func (.func g) first aB)=cB P G R ops rest ((e.CG (g,first++args++aB)).put d (.tuple [])) h Q:=rfl
def anw{args:Array Operand}{ts:Array TypeId}(hr:e.round=aq):cB P G R ops (⟨d,.call {callee:=.builtin .recover,args,argTypes:=ts},ty,pos,af,aq⟩::rest) e h Q=Lx P G R ops rest d e h Q e.cD:=by
 rw[ao9 hr];rcases hp:e.cD with _|⟨x,b⟩
 ·rfl
 ·cases b<;>rfl
def amd{x:AV}:Lx P G R ops rest d e h Q (aa (x,av))=cB P G R ops rest ((e.pn (aa (x,ah))).put d x) h Q:=rfl
def amc:Lx P G R ops rest d e h Q aq=cB P G R ops rest (e.put d (.v .nilIface)) h Q:=rfl
def Qz{fn:Func}{g:FuncId}{args:List AV}{ds:List (FuncId × List AV)}{x:AV}{h':ak}(hc:R.jy g args aq h=aa (.ret x,aq,h')):gM P G R fn e ((g,args)::ds) aq h=gM P G R fn e ds aq h':=by rw[gM,hc]
def arX{fn:Func}{g:FuncId}{args:List AV}{ds:List (FuncId × List AV)}{x y z:AV}{h':ak}(hc:R.jy g args (aa (y,av)) h=aa (.ret x,aa (z,ah),h')):gM P G R fn e ((g,args)::ds) (aa (y,av)) h=gM P G R fn e ds aq h':=by rw[gM,hc]
end
end Go.AE
end
section
namespace Go.AE
def Ip(P:Program)(G:Nat->Option (List AV))(R:Rec)(fn:Func)(Post:eK->ak->Prop):Xt->Env->ak->Prop:=λo e h=>∃r h',wY P G R fn r h' o e h/\Post r h'
def afx{P}{G}{R}{fn}{Post}{e}{h}:Ip P G R fn Post .normal e h=∃r h',gM P G R fn e e.defers aq h=aa (r,h')/\Post r h':=rfl
def afz{P}{G}{R}{fn}{Post}{e}{h}:Ip P G R fn Post .ret e h=∃r h',gM P G R fn e e.defers aq h=aa (r,h')/\Post r h':=rfl
def afy{P}{G}{R}{fn}{Post}{e}{h}{x}:Ip P G R fn Post (.panic x) e h=∃r h',gM P G R fn e e.defers (aa (x,av)) h=aa (r,h')/\Post r h':=rfl
def df{P}{G}{prims}{g}{fn}{body}{args}{h}{Post}(hp:prims g=aq)(gG:P.funcs[g]?=aa fn)(hb:fn.body=aa body)
 (hr:bG (whole P G prims) body (Env.start args aq) h (Ip P G (whole P G prims) fn Post)):∃r h',(whole P G prims).call g args h=aa (r,h')/\Post r h':=by
 obtain⟨o,e1,h1,h2,r,h',h3,h4⟩:=hr;exact⟨r,h',cC hp gG hb ⟨o,e1,h1,h2,h3⟩,h4⟩
end Go.AE
end
section
namespace Go.AE
section
variable {P:Program} {h:ak} {ts:Array TypeId} {ty:TypeId} {k:IntKind} {a b:Int}
def Bt:ji P h .max ts ty [.v (.int k a),.v (.int k b)]=aa (.v (.int k (if a<b then b else a)),h):=by
 have h1:ji P h .max ts ty [.v (.int k a),.v (.int k b)]=((gy P (Builtin.max_ ts ty #[.int k a,.int k b])).bind oB).map (·,h):=rfl;rw[h1];have h2:gy P (Builtin.max_ ts ty #[.int k a,.int k b])=aa (.int k (if a<b then b else a)):=by simp[Builtin.max_,Builtin.max2];split<;>simp_all<;>rfl
 rw[h2];split<;>rfl
def Gh:ji P h .min ts ty [.v (.int k a),.v (.int k b)]=aa (.v (.int k (if b<a then b else a)),h):=by
 have h1:ji P h .min ts ty [.v (.int k a),.v (.int k b)]=((gy P (Builtin.min_ ts ty #[.int k a,.int k b])).bind oB).map (·,h):=rfl;rw[h1];have h2:gy P (Builtin.min_ ts ty #[.int k a,.int k b])=aa (.int k (if b<a then b else a)):=by simp[Builtin.min_,Builtin.min2];split<;>simp_all<;>rfl
 rw[h2];split<;>rfl
def ai8{t:TypeId}{x:AV}:ji P h .len #[t] ty [x]=(ej P t x).map (·,h):=rfl
def Fb{t:TypeId}{x:AV}:ji P h .cap #[t] ty [x]=(CC P t x).map (·,h):=rfl
def append_eq{d:Option Tmp}{s x:AV}:qV P (λ_=>aq) d h .append ts ty [s,x]=gq P h ts s x:=rfl
def ab6{G:Nat->Option (List AV)}{d:Option Tmp}{s x:AV}(ht:Hl G d ty=av):qV P G d h .append ts ty [s,x]=gq P h ts s x:=by unfold qV;simp only[ht,jG,if_false]
def ab7{G:Nat->Option (List AV)}{d:Option Tmp}{s x:AV}(ht:Hl G d ty=ah):qV P G d h .append ts ty [s,x]=qI P h ts s x:=by unfold qV;simp only[ht,if_true]
def copy_eq{s x:AV}:ji P h .copy ts ty [s,x]=yI P h ts s x:=rfl
end
end Go.AE
end
section
namespace Go.AE
section
variable {H:Type} {P:Program} {t e:TypeId} {cs xs:List AV} {x:AV} {d:DataW H}
def Has.VT{k:IntKind}(h:Has P t cs d)(hu:P.underlying t=aa (.int k)):∃n:Int,cs=[.v (.int k n)]/\k.min<=n/\n<=k.max:=by
 cases h with
 |int cZ n hn=>rw[hu] at cZ;injection cZ with cZ;injection cZ with cZ;subst cZ;exact⟨n,rfl,by simpa [Lit.wf] using hn⟩
 |bool cZ=>rw[hu] at cZ;cases cZ
 |str cZ=>rw[hu] at cZ;cases cZ
 |none cZ=>rw[hu] at cZ;cases cZ
 |list cZ=>rw[hu] at cZ;cases cZ
 |struct cZ=>rw[hu] at cZ;cases cZ
 |array cZ=>rw[hu] at cZ;cases cZ
def Has.zq(h:Has P t cs d)(hu:P.underlying t=aa (.int .i64)):∃n:Int,cs=[.v (.int .i64 n)]/\ -9223372036854775808<=n/\n<=9223372036854775807:=by obtain⟨n,h1,h2,h3⟩:=h.VT hu;simp[IntKind.min,IntKind.max,IntKind.signed,IntKind.bits] at h2 h3;exact⟨n,h1,h2,h3⟩
def Has.Qx(h:Has P t cs d)(hu:P.underlying t=aa (.int .u8)):∃b:UInt8,cs=jJ b:=by
 obtain⟨n,h1,h2,h4⟩:=h.VT hu;simp[IntKind.min,IntKind.max,IntKind.signed,IntKind.bits] at h2 h4;refine⟨UInt8.ofNat n.toNat,?_⟩;have h3:((UInt8.ofNat n.toNat).toNat:Int)=n:=by
  have:(UInt8.ofNat n.toNat).toNat=n.toNat:=by simp;omega
  rw[this];omega
 rw[h1,jJ,h3]
def Has.Ed(h:Has P t cs d)(hu:P.underlying t=aa (.slice e)):∃(k:Tok) (es:List (List AV)),cs=[.list k (P.cellsOf e) es]/\es.length<=maxLen/\(k=.nil∨k=.held∨(k=.tight/\es=[]))/\(k=.nil->es=[])/\
 ∀r∈es,r.length=P.cellsOf e/\∃d:DataW H,Has P e r d:=by
 cases h with
 |bool cZ=>rw[hu] at cZ;cases cZ
 |int cZ=>rw[hu] at cZ;cases cZ
 |str cZ=>rw[hu] at cZ;cases cZ
 |none cZ=>rw[hu] at cZ;injection cZ with cZ;injection cZ with cZ;subst cZ;exact⟨.nil,[],rfl,by simp,.inl rfl,λ_=>rfl,λr hr=>by cases hr⟩
 |list cZ k es ds sp hk hl hd he hs=>
  rw[hu] at cZ;injection cZ with cZ;injection cZ with cZ;subst cZ;refine⟨k,es,rfl,hl,.inr hk,?_,λr hr=>⟨hs r hr,?_⟩⟩
  ·rintro rfl;rcases hk with hk|⟨hk,-⟩<;>cases hk
  ·obtain⟨i,hi,rfl⟩:=List.mem_iff_getElem.1 hr;exact⟨ds[i],he i _ _ (aO hi) (aO ag)⟩
 |struct cZ=>rw[hu] at cZ;cases cZ
 |array cZ=>rw[hu] at cZ;cases cZ
def Has.Kt{fs:Array Field}{o5:List (TypeId × Nat)}(h:Has P t xs d)(hu:P.underlying t=aa (.struct fs))(hf:(fs.toList.map λf=>(f.type,f.offset))=o5):
 xs.length=P.cellsOf t/\∀(i:Nat) (u:TypeId) (o:Nat),o5[i]?=aa (u,o)->∃d:DataW H,Has P u ((xs.drop o).take (P.cellsOf u)) d:=by
 cases h with
 |bool cZ=>rw[hu] at cZ;cases cZ
 |int cZ=>rw[hu] at cZ;cases cZ
 |str cZ=>rw[hu] at cZ;cases cZ
 |none cZ=>rw[hu] at cZ;cases cZ
 |list cZ=>rw[hu] at cZ;cases cZ
 |array cZ=>rw[hu] at cZ;cases cZ
 |struct cZ xs ds hl hd hff=>
  rw[hu] at cZ;injection cZ with cZ;injection cZ with cZ;subst cZ;refine⟨hl,λi u o ho=>?_⟩;rw[<-hf,List.getElem?_map] at ho;cases hq:fs.toList[i]? with
  |none=>rw[hq] at ho;cases ho
  |some f=>rw[hq] at ho;simp only[eJ,dA,cX] at ho;have hi:i<ds.length:=(by have:=(aP.1 hq).1;simp at this;omega);have:=hff i f ds[i] (by rw[<-BP];exact hq) (aO hi);rw[ho.1,ho.2] at this;exact⟨_,this⟩
def lD.plain(h:lD P t x d)(hu:∀fs,P.underlying t≠aa (.struct fs))(N9:∀n e,P.underlying t≠aa (.array n e)):Has P t [x] d:=by
 unfold lD at h;split at h
 ·rename_i h1;exact absurd h1 (hu _)
 ·rename_i h1;exact absurd h1 (N9 _ _)
 ·exact h
def lD.zq(h:lD P t x d)(hu:P.underlying t=aa (.int .i64)):∃n:Int,x=.v (.int .i64 n)/\ -9223372036854775808<=n/\n<=9223372036854775807:=by obtain⟨l,h1,h2⟩:=(h.plain (λ_ hq=>by rw[hu] at hq;cases hq) (λ_ _ hq=>by rw[hu] at hq;cases hq)).zq hu;injection h1 with h1;exact⟨l,h1,h2⟩
def lD.Qx(h:lD P t x d)(hu:P.underlying t=aa (.int .u8)):∃b:UInt8,x=.v (.int .u8 b.toNat):=by obtain⟨l,h1⟩:=(h.plain (λ_ hq=>by rw[hu] at hq;cases hq) (λ_ _ hq=>by rw[hu] at hq;cases hq)).Qx hu;injection h1 with h1;exact⟨l,h1⟩
def lD.Ed(h:lD P t x d)(hu:P.underlying t=aa (.slice e)):∃(k:Tok) (es:List (List AV)),x=.list k (P.cellsOf e) es/\es.length<=maxLen/\(k=.nil∨k=.held∨(k=.tight/\es=[]))/\(k=.nil->es=[])/\
 ∀r∈es,r.length=P.cellsOf e/\∃d:DataW H,Has P e r d:=by
 obtain⟨k,es,h1,h2⟩:=(h.plain (λ_ hq=>by rw[hu] at hq;cases hq) (λ_ _ hq=>by rw[hu] at hq;cases hq)).Ed hu;injection h1 with h1;exact⟨k,es,h1,h2⟩
def lD.Kt{fs:Array Field}(h:lD P t x d)(hu:P.underlying t=aa (.struct fs)):∃xs,x=.agg xs/\Has P t xs d:=by unfold lD at h;rw[hu] at h;exact h
def BG(P:Program)(t:TypeId)(o5:List (TypeId × Nat)):Bool:=
 match P.underlying t with
 |some (.struct fs)=>decide ((fs.toList.map λf=>(f.type,f.offset))=o5)
 |_=>av
def Za{o5:List (TypeId × Nat)}(h:BG P t o5=ah):∃fs:Array Field,P.underlying t=aa (.struct fs)/\(fs.toList.map λf=>(f.type,f.offset))=o5:=by
 unfold BG at h;split at h
 ·rename_i fs hu;exact⟨fs,hu,by simpa using h⟩
 ·cases h
def lD.fields{o5:List (TypeId × Nat)}(h:lD P t x d)(hs:BG P t o5=ah):∃xs,x=.agg xs/\xs.length=P.cellsOf t/\∀(i:Nat) (u:TypeId) (o:Nat),o5[i]?=aa (u,o)->∃d:DataW H,Has P u ((xs.drop o).take (P.cellsOf u)) d:=by obtain⟨fs,hu,hf⟩:=Za hs;obtain⟨xs,h1,h2⟩:=h.Kt hu;exact⟨xs,h1,h2.Kt hu hf⟩
def Has.fields{o5:List (TypeId × Nat)}(h:Has P t xs d)(hs:BG P t o5=ah):xs.length=P.cellsOf t/\∀(i:Nat) (u:TypeId) (o:Nat),o5[i]?=aa (u,o)->∃d:DataW H,Has P u ((xs.drop o).take (P.cellsOf u)) d:=by obtain⟨fs,hu,hf⟩:=Za hs;exact h.Kt hu hf
def ai4{α:Type}{l:List α}(h:l.length=2):∃a b,l=[a,b]:=by
 match l,h with
 | [a,b],_=>exact⟨a,b,rfl⟩
def OA{α:Type}{l:List α}(h:l.length=4):∃a b c d,l=[a,b,c,d]:=by
 match l,h with
 | [a,b,c,d],_=>exact⟨a,b,c,d,rfl⟩
def Py{α:Type}{f}:∀{es:List (List AV)},(∀r∈es,∃a,r=f a)->∃l:List α,es=l.map f:=by
 intro es
 induction es with
 |nil=>intro _;exact⟨[],rfl⟩|cons r es ih=>intro h;obtain⟨a,rfl⟩:=h r fR;obtain⟨l,rfl⟩:=ih λr hr=>h r (fi _ hr);exact⟨a::l,rfl⟩
end
end Go.AE
end
section
namespace Go.AE
end Go.AE
end
section
namespace Go.AE
section
variable {a b:Nat × Operand} {i k:Nat} {n:Int} {x:ByteArray} {l:List (Nat × Operand)}
def adO:vq #[]=av:=rfl
def adP:vq #[a]=av:=by
 obtain⟨i,o⟩:=a;cases o with
 |const v=>
  cases v with
  |int k n=>cases k<;>rfl
  |_=>rfl
 |_=>rfl
def adR:vq (Lg ((i,.tmp k)::l))=av:=rfl
def adN:vq (Lg ((i,.const (.int .i64 n))::l))=av:=rfl
def adQ:vq (Lg ((i,.const (.string x))::l))=av:=rfl
def adS:vq (Lg ((i,.const (.int .u8 n))::b::l))=ah:=rfl
end
set_option linter.defProp false in
def goS:=ar @run_seq (ar @apj (ar @apc (ar @apb (ar @ape (ar @apk (ar @apm (ar @apf (ar @apl (ar @apK (ar @apM (ar @apJ (ar @apL (ar @ade (ar @adg (ar @Sh (ar @adf (ar @ajw (ar @ajy (ar @ajv (ar @ajx (ar @adE (ar @adF (ar @adp (ar @adm (ar @agS (ar @agR (ar @agO (ar @agN (ar @agT (ar @agK (ar @agJ (ar @aqi (ar @ao7 (ar @ao6 (ar @ant (ar @am7 (ar @anv (ar @am5 (ar @am9 (ar @ana (ar @anb (ar @ann (ar @anz (ar @anu (ar @am8 (ar @anB (ar @ane (ar @anp (ar @ano (ar @anq (ar @anx (ar @anj (ar @ani (ar @anl (ar @ank (ar @anA (ar @anh (ar @anm (ar @anc (ar @am6 (ar @anf (ar @ans (ar @anr (ar @apa (ar @abM (ar @abL (ar @abK (ar @Su (ar @Sv (ar @alS (ar @alQ (ar @Kp (ar @aqx (ar @aqy (ar @YS (ar @aqG (ar @aqF (ar @aqH (ar @Qh (ar @Ax (ar @eval_const (ar @eval_func (ar @eval_global (ar @akk (ar @akj (ar @akp (ar @akm (ar @akl (ar @akn (ar @ako (ar @aki (ar @adr (ar @Ao (ar @Se (ar @acS (ar @acJ (ar @acM (ar @acO (ar @acE (ar @acK (ar @acI (ar @acH (ar @acG (ar @acF (ar @acQ (ar @acR (ar @acP (ar @arQ (ar @arP (ar @Wd (ar @OC (ar @OB (ar @aiv (ar @ak1 (ar @gf (ar @Mt (ar @afA (ar @afC (ar @afB (ar @afD (ar @afF (ar @afE (ar @arV (ar @arW (ar @QK (ar @yl (ar @jG (ar @decide_true (ar @decide_false (ar @not_true_eq_false (ar @not_false_eq_true (ar @Int.toNat_natCast (ar @Int.toNat_zero (ar @Nat.succ_ne_zero (ar @Bt (ar @Gh (ar @ai8 (ar @Fb (ar @append_eq (ar @copy_eq (ar @adO (ar @adP (ar @adR (ar @adN (ar @adQ (@adS))))))))))))))))))))))))))))))))))))))))))))))))))))))))))))))))))))))))))))))))))))))))))))))))))))))))))))))))))))))))))))))))))))))))))))))))))
set_option linter.defProp false in
def goH:=ar @afx (ar @afz (ar @afy (ar @Qz (ar @arX (ar @ao8 (ar @ang (ar @afd (ar @anw (ar @amd (ar @amc (ar @aff (ar @afe (ar @afg (ar @Tb (ar @ak5 (ar @ak4 (ar @ak6 (ar @Xg (ar @lP (ar @ja (ar @aq0 (ar @aqY (ar @aqf (ar @aqg (ar @aqh (ar @aj6 (ar @bL (ar @Nat.zero_add (@Nat.add_zero)))))))))))))))))))))))))))))
end Go.AE
end
section
namespace Go.AE
section
variable {P:Program} {G:Nat->Option (List AV)} {prims:FuncId->Option (List AV->ak->Option (AV × ak))} {Q:Xt->Env->ak->Prop} {e:Env} {h:ak}
def Jt(e:Env)(params:Array Tmp)(assign body:Code):ij:={tmps:=e.tmps,params,assign,body,state:=.ready,pending:=aq}
def ak.loop(h:ak)(r:ij):ak:={h with loops:=h.loops++[r]}
def ak.done(h:ak)(l:Nat)(r:ij):ak:={h with loops:=h.loops.set l {r with state:=.exhausted}}
def aph{f:Operand}{params:Array Tmp}{assign body:Code}{g:FuncId}{first aB:List AV}(hf:e.eval f=.func (.func g) first aB){x:AV}{h':ak}
 (hc:(whole P G prims).call g (first++[.yield h.loops.length]++aB) (h.loop (Jt e params assign body))=aa (.panic x,h')) (hq:Q (.panic x) e h'):
 bG (whole P G prims) (.rangeFunc f params assign body) e h Q:=by
 unfold bG;rw[qK];unfold ff;have gV:(whole P G prims).call g (first++[.yield h.loops.length]++aB) {h with loops:=h.loops++[{tmps:=e.tmps,params,assign,body,state:=.ready,pending:=aq}]}=aa (.panic x,h'):=hc;simp only[hf,gV];exact⟨_,_,_,rfl,hq⟩
def apg{f:Operand}{params:Array Tmp}{assign body:Code}{g:FuncId}{first aB:List AV}(hf:e.eval f=.func (.func g) first aB){x:AV}{h':ak}{r:ij}
 (hc:(whole P G prims).call g (first++[.yield h.loops.length]++aB) (h.loop (Jt e params assign body))=aa (.ret x,h')) (hr:h'.loops[h.loops.length]?=aa r) (hb:r.state≠ .busy) (hp:r.pending=aq)
 (hq:Q .normal e (h'.done h.loops.length r)):bG (whole P G prims) (.rangeFunc f params assign body) e h Q:=by
 unfold bG;rw[qK];unfold ff;have gV:(whole P G prims).call g (first++[.yield h.loops.length]++aB) {h with loops:=h.loops++[{tmps:=e.tmps,params,assign,body,state:=.ready,pending:=aq}]}=aa (.ret x,h'):=hc;simp only[hf,gV,hr,hp];rw[aG hb];refine⟨_,_,_,rfl,?_⟩;simpa only[ak.done,hp] using hq
def api{f:Operand}{params:Array Tmp}{assign body:Code}{g:FuncId}{first aB:List AV}(hf:e.eval f=.func (.func g) first aB){x:AV}{h':ak}{r:ij}
 (hc:(whole P G prims).call g (first++[.yield h.loops.length]++aB) (h.loop (Jt e params assign body))=aa (.ret x,h')) (hr:h'.loops[h.loops.length]?=aa r) (hb:r.state≠ .busy) (hp:r.pending=aa .ret)
 (hq:Q .ret e (h'.done h.loops.length r)):bG (whole P G prims) (.rangeFunc f params assign body) e h Q:=by
 unfold bG;rw[qK];unfold ff;have gV:(whole P G prims).call g (first++[.yield h.loops.length]++aB) {h with loops:=h.loops++[{tmps:=e.tmps,params,assign,body,state:=.ready,pending:=aq}]}=aa (.ret x,h'):=hc;simp only[hf,gV,hr,hp];rw[aG hb];refine⟨_,_,_,rfl,?_⟩;simpa only[ak.done,hp] using hq
def nx(l:Nat)(r:ij)(args:List AV):Env:={tmps:=Eb r.params.toList args r.tmps,defers:=[],cD:=aq,round:=aa l}
def ak.busy(h:ak)(l:Nat)(r:ij):ak:={h with loops:=h.loops.set l {r with state:=.busy}}
def an2(l:Nat)(x:eK)(h':ak):Xt->Env->ak->Prop
 | .normal,_,h2=>∃r,h2.loops[l]?=aa r/\x=.ret (.v (.bool ah))/\h'={h2 with loops:=h2.loops.set l {r with state:=.ready,pending:=aq}}
 | .ret,_,h2=>∃r,h2.loops[l]?=aa r/\x=.ret (.v (.bool av))/\h'={h2 with loops:=h2.loops.set l {r with state:=.done,pending:=aa .ret}}
 | .exit id,_,h2=>∃r,h2.loops[l]?=aa r/\x=.ret (.v (.bool av))/\h'={h2 with loops:=h2.loops.set l {r with state:=.done,pending:=aa (.exit id)}}
 | .panic z,_,h2=>x=.panic z/\h'=h2
def JS{l:Nat}{args:List AV}{r:ij}{x:eK}{h':ak}(hr:h.loops[l]?=aa r)(hs:r.params.size=args.length)
 (ha:bG (whole P G prims) r.assign (nx l r args) h (λo e1 h1=>o=.normal/\∃r2,h1.loops[l]?=aa r2/\r2.state=.ready/\bG (whole P G prims) r.body e1 (h1.busy l r2) (an2 l x h'))):
 (whole P G prims).round l args h=aa (x,h'):=by
 rw[asl];unfold uQ;obtain⟨o,e1,h1,e2,rfl,r2,q1,q2,o2,e3,h3,q3,q4⟩:=ha;have e2':(whole P G prims).code r.assign {tmps:=Eb r.params.toList args r.tmps,defers:=[],cD:=aq,round:=aa l} h=aa (.normal,e1,h1):=e2;have q3':(whole P G prims).code r.body e1 {h1 with loops:=h1.loops.set l {r2 with state:=.busy}}=aa (o2,e3,h3):=q3;simp only[hr,hs,if_true,e2',q1,q2];rw[show({h1 with loops:=h1.loops.set l {tmps:=r2.tmps,params:=r2.params,assign:=r2.assign,body:=r2.body,state:=LoopState.busy,pending:=r2.pending}}:ak)={h1 with loops:=h1.loops.set l {r2 with state:=.busy}} from rfl,q3'];cases o2 with
 |normal=>obtain⟨r3,w1,rfl,rfl⟩:=q4;simp only[w1,eJ]
 |ret=>obtain⟨r3,w1,rfl,rfl⟩:=q4;simp only[w1,eJ]
 |exit id=>obtain⟨r3,w1,rfl,rfl⟩:=q4;simp only[w1,eJ]
 |panic z=>obtain⟨rfl,rfl⟩:=q4;rfl
end
end Go.AE
end
section
namespace Go.AE
structure Fr(bn l0 n0:Nat)(h h':ak):Prop where
 box:∀(c:Nat) (cs:List AV),c≠bn->h.boxes[c]?=aa cs->h'.boxes[c]?=aa cs
 len:h.boxes.length<=h'.boxes.length
 loop:∀(l:Nat) (r:ij),l<l0->h.loops[l]?=aa r->h'.loops[l]?=aa r
 Ge:h.loops.length<=h'.loops.length
 tn:h.tn<=h'.tn
 dead:∀n,n<n0->n∈h'.dead->n∈h.dead
 ok:cA h=ah->cA h'=ah
def Fr.refl(bn l0 n0)(h):Fr bn l0 n0 h h:=⟨λ_ _ _ h=>h,aJ _,λ_ _ _ h=>h,aJ _,aJ _,λ_ _ h=>h,λh=>h⟩
def Fr.trans{bn l0 n0}{a b c}(h:Fr bn l0 n0 a b)(k:Fr bn l0 n0 b c):Fr bn l0 n0 a c:=
 ⟨λi cs hi hb=>k.box i cs hi (h.box i cs hi hb),fe h.len k.len,λl r hl hr=>k.loop l r hl (h.loop l r hl hr),fe h.Ge k.Ge,fe h.tn k.tn,λn hn hd=>h.dead n hn (k.dead n hn hd),λho=>k.ok (h.ok ho)⟩
def Ext.Ge{h h'}(x:Ext h h'):h.loops.length<=h'.loops.length:=by
 rcases dI h'.loops.length h.loops.length with aA|dM
 ·have h1:=x.loop h'.loops.length _ (aO aA);have:=(aP.1 h1).1;omega
 ·exact dM
def Fr.DM{bn l0 n0}{h h'}(x:Ext h h')(hn:n0<=h.tn):Fr bn l0 n0 h h':=
 ⟨λc cs _ hc=>x.box c cs hc,x.len,λl r _ hl=>x.loop l r hl,x.Ge,x.tn,λn h1 h2=>x.dead n (mq h1 hn) h2,x.ok⟩
def Fr.push(bn l0 n0)(h)(cs):Fr bn l0 n0 h (h.push cs):=
 ⟨λ_ _ _ hb=>bg hb,by rw[cK];exact EP _,λ_ _ _ h=>h,aJ _,aJ _,λ_ _ h=>h,λh=>h⟩
def Fr.put(bn l0 n0)(h)(cs):Fr bn l0 n0 h (h.put bn cs):=
 ⟨λc ds hc hb=>by rw[cS hc];exact hb,by rw[mh];exact aJ _,λ_ _ _ h=>h,aJ _,aJ _,λ_ _ h=>h,λh=>h⟩
def ak.eW(h:ak)(l:Nat)(r:ij):ak:={h with loops:=h.loops.set l r}
def Fr.eW{bn l0 n0}{h}{l}(hl:l0<=l)(r):Fr bn l0 n0 h (h.eW l r):=
 ⟨λ_ _ _ hb=>hb,aJ _,λm q hm hq=>by rw[<-hq];exact HG ag,by simp[ak.eW],aJ _,λ_ _ h=>h,λh=>h⟩
def Fr.Bs{bn l0 n0}(h)(r):Fr bn l0 n0 h (h.loop r):=
 ⟨λ_ _ _ hb=>hb,aJ _,λm q hm hq=>uh hq,by simp[ak.loop],aJ _,λ_ _ h=>h,λh=>h⟩
def Fr.ext{bn l0 n0}{h h'}(x:Fr bn l0 n0 h h')(hb:h.boxes.length<=bn)(hl:h.loops.length<=l0)(hn:h.tn<=n0):Ext h h':=
 ⟨λc cs hc=>x.box c cs (by have:=(aP.1 hc).1;omega) hc,λl r hr=>x.loop l r (by have:=(aP.1 hr).1;omega) hr,x.tn,λn h1 h2=>x.dead n (mq h1 hn) h2,x.ok⟩
def Yx{h:ak}{l}{r}(hl:l<h.loops.length):(h.eW l r).loops[l]?=aa r:=by simp[ak.eW,hl]
def Yw{h:ak}{l m}{r}(hl:m≠l):(h.eW l r).loops[m]?=h.loops[m]?:=by simp[ak.eW,HG (Ne.symm hl)]
def DI{h:ak}{r}:(h.loop r).loops[h.loops.length]?=aa r:=by simp[ak.loop]
def Wi{h:ak}{r q}{l:Nat}(hq:h.loops[l]?=aa q):(h.loop r).loops[l]?=aa q:=uh hq
def St(l:Nat)(h h':ak):Prop:=(∀(b:Nat) (cs:List AV),h.boxes[b]?=aa cs->h'.boxes[b]?=aa cs)/\∀(m:Nat) (r:ij),m<=l->h.loops[m]?=aa r->h'.loops[m]?=aa r
def St.refl(l)(h):St l h h:=⟨λ_ _ h=>h,λ_ _ _ h=>h⟩
def St.trans{l}{a b c}(h:St l a b)(k:St l b c):St l a c:=⟨λi cs hb=>k.1 i cs (h.1 i cs hb),λm r hm hr=>k.2 m r hm (h.2 m r hm hr)⟩
def St.push(l)(h)(cs):St l h (h.push cs):=⟨λ_ _ hb=>bg hb,λ_ _ _ h=>h⟩
def St.DM{l}{h h'}(x:Ext h h'):St l h h':=⟨x.box,λm r _ hr=>x.loop m r hr⟩
def St.eW{l k}{h}(hl:l<k)(r):St l h (h.eW k r):=⟨λ_ _ hb=>hb,λm q hm hq=>by rw[Yw ag];exact hq⟩
def St.Bs(l)(h)(r):St l h (h.loop r):=⟨λ_ _ hb=>hb,λm q _ hq=>Wi hq⟩
def St.fO{l}{h h'}(x:St l h h'){b}(hb:h.boxes.length<=b)(cs):St l h (h'.put b cs):=
 ⟨λc ds hc=>by have aA:c<h.boxes.length:=(aP.1 hc).1;rw[cS ag];exact x.1 c ds hc,x.2⟩
inductive Nx (α:Type) where
 |cont (a:α)|stop (a:α)|panic (v:AV)
def bG.gen{R}{c}{e}{h}{Q}(hq:∀e2:Env,(∀t,e2.get t=e.get t)->e2.defers=e.defers->e2.cD=e.cD->e2.round=e.round->bG R c e2 h Q):bG R c e h Q:=hq e (λ_=>rfl) rfl rfl rfl
section
variable {P:Program} {G:Nat->Option (List AV)} {prims:FuncId->Option (List AV->ak->Option (AV × ak))} {Q:Xt->Env->ak->Prop} {e:Env} {h:ak}
def D7{f:Operand}{params:Array Tmp}{assign body:Code}{g:FuncId}{first aB:List AV}(hf:e.eval f=.func (.func g) first aB)
 (H:∀rec:ij,rec.tmps=e.tmps->rec.params=params->rec.assign=assign->rec.body=body->rec.state=.ready->rec.pending=aq->∃r h',(whole P G prims).call g (first++[.yield h.loops.length]++aB) (h.loop rec)=aa (r,h')/\
  match r with
  | .panic x=>Q (.panic x) e h'
  | .ret _=>∃rc,h'.loops[h.loops.length]?=aa rc/\rc.state≠ .busy/\((rc.pending=aq/\Q .normal e (h'.eW h.loops.length {rc with state:=.exhausted}))∨(rc.pending=aa .ret/\Q .ret e (h'.eW h.loops.length {rc with state:=.exhausted})))):
 bG (whole P G prims) (.rangeFunc f params assign body) e h Q:=by
 obtain⟨r,h',hc,hm⟩:=H (Jt e params assign body) rfl rfl rfl rfl rfl rfl;cases r with
 |panic x=>exact aph hf hc hm|ret x=>
  obtain⟨rc,h1,h2,h3|h3⟩:=hm
  ·exact apg hf hc h1 h2 h3.1 h3.2
  ·exact api hf hc h1 h2 h3.1 h3.2
def XM{l p t:Nat}{r:ij}{x:AV}(hp:r.params=#[p])(ht:r.tmps=e.tmps):(nx l r [x]).get t=if p=t then x else e.get t:=by unfold nx;rw[hp,ht];exact DH e.tmps p t x
def St.mono{l l'}(hl:l<=l'){h h'}(x:St l' h h'):St l h h':=⟨x.1,λm r hm hr=>x.2 m r ag hr⟩
end
end Go.AE
end
section
namespace Go.AE
section
variable {P:Program} {G:Nat->Option (List AV)} {R:Rec}
end
section
variable {P:Program} {G:Nat->Option (List AV)} {prims:FuncId->Option (List AV->ak->Option (AV × ak))} {Q:Xt->Env->ak->Prop} {e:Env} {h:ak}
end
end Go.AE
end
section
namespace Go.AE
section
variable {P:Program} {G:Nat->Option (List AV)} {R:Rec} {ops:Array Oper} {k:Nat}
end
section
variable {P:Program} {G:Nat->Option (List AV)} {prims:FuncId->Option (List AV->ak->Option (AV × ak))} {Q:Xt->Env->ak->Prop} {e:Env} {h:ak}
def fm(ops:Array Oper)(k:Nat)(ps:List (Nat × Nat)):Bool:=ps.all λp=>oJ (cut ops k) p.1 p.2&&(decide (p.1<k)&&decide (p.2<k))
end
end Go.AE
end
