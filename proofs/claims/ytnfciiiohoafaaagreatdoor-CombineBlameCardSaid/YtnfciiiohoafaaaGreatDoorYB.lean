/-
  The engine, part 13b: a region that draws, and is ended by a panic of its last operation.
-/
import Derived.Test.YtnfciiiohoafaaaGreatDoorYA
import Derived.Laws.BitsLemmas
import Derived.ChangeArms
import Derived.OpenShut
import Derived.Carry
import Derived.ProofKit
import Derived.ChangeSame
open Go renaming Program->bB,World->bX,Frame->eW,FuncId->bq,TypeId->aH,Operand->bH,Value->aL,IntKind->tS
open Bool renaming false->ay,true->ai,and_eq_true->bA,not_true->HX,or_eq_true->uM,false_eq_true->ju,true_or->ZR,or_true->Q4,not_false->yQ,eq_iff_iff->EG,true_and->vR,false_and->xw
open Nat renaming strongRecOn->Ry,lt_trans->pj,eq_of_beq_eq_true->jF,le_of_lt->mV,lt_or_ge->dT,le_antisymm->AR,lt_of_lt_of_le->mD,lt_succ_iff->AS,le_max_left->Fb,le_max_right->CR,lt_succ_of_lt->vV,le_refl->aJ,beq->jw,zero_le->df,add_mul->fW,le_trans->fc,le_succ->Rr
open Array renaming getElem?_eq_getElem->mf,all_eq_true'->K6,getElem?_toList->CD,mem_push->ZD,all_eq_true->EE,replicate->CE,getD_eq_getD_getElem?->Zx,size->ZF,getElem_toList->ZB,getElem?_eq_none->xu
open Option renaming some->aa,some.injEq->dE,map_some->eX,bind_some->oa,none->au,map_eq_some_iff->dt,map_none->LN,isSome_none->AW
open List renaming cons.injEq->Rf,getElem?_toArray->ja,all_eq_true->eE,mem_range->fD,mem_cons->jm,getElem?_set->mU,range->bL,mem_cons_self->ga,mem_cons_of_mem->fR,mem_append_left->Rm,mem_append->xF,any_eq_true->EP,getElem?_eq_some_iff->aQ,getElem?_eq_getElem->a9,mapM_cons->aav,getElem?_eq_none->qB,range'->aaz,range'_succ->aaA,drop_eq_getElem_cons->ER,drop_zero->iB,range_eq_range'->Lu,mem_append_right->aay,take_length->gM,toArray->Lx,getElem?_set_ne->Ik
open Prod renaming mk.injEq->cW
open And renaming intro->ax
set_option linter.unusedSimpArgs false
set_option linter.unusedVariables false
set_option linter.constructorNameAsVariable false
set_option linter.defProp false
section
namespace Go.AE
section
variable {P:bB} {G:Nat->Option (List AV)} {R:Rec} {ops:Array Oper} {e:Env} {h:ao}
def oQ.trans{a b c}(h:oQ a b)(k:oQ b c):oQ a c:=⟨λt=>(h.gX t).trans (k.gX t),h.defers.trans k.defers,h.cO.trans k.cO,h.round.trans k.round⟩
def oQ.symm{a b}(h:oQ a b):oQ b a:=⟨λt=>(h.gX t).symm,h.defers.symm,h.cO.symm,h.round.symm⟩
def oQ.refl(a):oQ a a:=⟨λ_=>rfl,rfl,rfl,rfl⟩
def oQ.eval{a b}(h:oQ a b)(x):a.eval x=b.eval x:=by
 cases x with|tmp t=>exact h.gX t|_=>rfl
def oQ.wanted{a b:Env}(h:oQ a b)(o:Oper):fg ops a o=fg ops b o:=by
 unfold fg;cases o.guard with
 |none=>rfl|some q=>
  simp only;cases (ops[q.1]?).bind (·.dst) with|none=>rfl|some d=>simp only[h.gX d]
variable {b:Array Nat}
end
end Go.AE
end
section
namespace Go.AE
section
variable {P:bB} {G:Nat->Option (List AV)} {R:Rec} {ops:Array Oper} {e:Env} {h:ao} {k:Nat}
inductive arz (ops:Array Oper) (k i:Nat):Prop
 |self (h:i=k)
 |ahead (h1:DW ops k i=ay) (h2:Uf ops k i=ai) (h3:i<k) (h4:Ord (Region.before (cut ops k)) i k)
 |beside (h1:DW ops k i=ay) (h2:Uf ops k i=ai) (h3:adv ops i=ai) (h4:px ops i k=ai)
 |behind (h1:k<i) (h2:DW ops k i=ai) (h3:Ord (Region.before (cut ops k)) k i)
def Fits.lt{b:Array Nat}(F:Fits P G R ops e h b):∀(j i:Nat),j<ops.size->i<ops.size->Ord b i j->i<j:=by
 intro j
 induction j using Ry with
 |_ j ih=>
  intro i hj hi ho;have hx:ops[j]?=aa ops[j]:=mf hj;obtain⟨ed,gj,ni,hq⟩:=F.bits j i _ hx hi ho;have az:=F.IT j _ hx ed gj ni;rcases hq with q|q
  ·omega
  ·have:=ih ed.on az i (pj az hj) hi q;omega
structure ary(ops:Array Oper)(k:Nat)(a b:Env):Prop where
 gX:∀t,(∀i,i<ops.size->aeL ops k i≠aa t)->a.get t=b.get t
 defers:a.defers=b.defers
 cO:a.cO=b.cO
 round:a.round=b.round
end
end Go.AE
end
section
namespace Go.AE
open Go.RowKit (Below)
section
variable {P:bB} {G:Nat->Option (List AV)} {w0:bX} {R:Rec}
def Steps.tail{m m1 m2:Machine}(h:step P m=.next m1)(hs:Steps P m m2)(bE:m≠m2):Steps P m1 m2:=by
 obtain⟨n,hn⟩:=hs;cases n with|zero=>simp[runN] at hn;exact absurd hn bE|succ n=>simp only[runN,h] at hn;exact⟨n,hn⟩
def JT{fr fr'}{cs dF}{w w'}(h:lone fr cs w=lone fr' dF w'):fr=fr':=by unfold lone at h;simp only[Machine.mk.injEq,Array.mk.injEq,Rf,Goroutine.mk.injEq] at h;exact h.2.1.1.1
def nT.swap{K:aP}{m m1 m':Machine}{B:eW}{k:List Item}{c:Code}{cs cs0:List eW}{x:Xt}{a a0:Act}{w wz:bX}(hc:∀id,c≠ .exit id)(Bo:c≠ .ret)(hm:m=lone (B.atR a0 (.code c::k)) cs0 wz)
 (h1:step P m=.next m1) (h2:step P m'=.next m1) (h:nT P K m B k cs x a w):nT P K m' B k cs x a w:=by
 refine nT.of_steps (.one h2) ?_;cases x with
 |normal=>refine Steps.tail h1 h ?_;rw[hm];intro hq;have:=congrArg Frame.todo (JT hq);simp only[Frame.atR] at this;exact absurd (congrArg List.length this) bG|exit id=>obtain⟨t,e1,e2⟩:=h;refine⟨t,e1,Steps.tail h1 e2 ?_⟩;rw[hm];intro hq;have:=congrArg Frame.todo (JT hq);simp only[Frame.atR,Rf,Item.code.injEq] at this;exact hc id this.1
 |ret=>obtain⟨t,e2⟩:=h;refine⟨t,Steps.tail h1 e2 ?_⟩;rw[hm];intro hq;have:=congrArg Frame.todo (JT hq);simp only[Frame.atR,Rf,Item.code.injEq] at this;exact Bo this.1
 |panic x=>obtain⟨t,v,e1,e2⟩:=h;refine⟨t,v,e1,Steps.tail h1 e2 ?_⟩;rw[hm];intro hq;have:=congrArg Frame.mode (JT hq);simp[Frame.atR] at this
def Left.refl{K:aP}{w:bX}{a:Act}{B:eW}{ms:List Nat}{base cs:List eW}{k:List Item}{m:Machine}{out:Xt}{e:Env}{h:ao}(hf:nC P K e a B ms)(bZ:CS K B.kind base e.cO cs)(hs:ki P G w0 K h w)(ha:nT P K m B k cs out a w):
 Left P G w0 K ms B base m k a.tmps.size out e h K w a cs ms:=
 ⟨.refl K,hs,hf,bZ,rfl,λ_ hr=>.inl hr,ha⟩
def Left.of_steps{K K':aP}{w':bX}{a':Act}{B:eW}{ms ms':List Nat}{base dF:List eW}{k:List Item}{m m1:Machine}{out:Xt}{e':Env}{h':ao}{n:Nat}(hs:Steps P m m1)(L:Left P G w0 K ms B base m1 k n out e' h' K' w' a' dF ms'):
 Left P G w0 K ms B base m k n out e' h' K' w' a' dF ms':=
 ⟨L.le,L.qs,L.frame,L.cs,L.size,L.marks,L.arr.of_steps hs⟩
def Pn(hn:CY P)(hR:vX P G w0 R){ops:Array Oper}:∀(l:List Nat) (e:Env) (h:ao) (out:Xt) (e':Env) (h':ao),da P G R ops l e h=aa (out,e',h')->
 ∀(K:aP) (w:bX) (a:Act) (B:eW) (k:List Item) (base cs:List eW) (ms:List Nat),nC P K e a B ms->CS K B.kind base e.cO cs->ki P G w0 K h w->Ee a.tmps.size ops=ai->
 ∃K' w' a' dF,Left P G w0 K ms B base (lone (B.atR a (.inRegion ops l::k)) cs w) k a.tmps.size out e' h' K' w' a' dF ms:=by
 intro l
 induction l with
 |nil=>intro e h out e' h' he K w a B k base cs ms hf bZ hs BO;simp only[da,dE,cW] at he;obtain⟨rfl,rfl,rfl⟩:=he;exact⟨K,w,a,cs,.refl hf bZ hs (.one stepR_region_end)⟩
 |cons i rest ih=>
  intro e h out e' h' he K w a B k base cs ms hf bZ hs BO;simp only[da] at he;cases ho:ops[i]? with
  |none=>rw[ho] at he;cases he
  |some o=>
   rw[ho] at he;simp only at he;have UY:=WV BO ho;cases hw:fg ops e o with
   |none=>rw[hw] at he;cases he
   |some b=>
    rw[hw] at he;have VS:=aqQ hf.gX BO hw;cases b with
    |false=>simp only at he;have lD:=stepR_op_skip (P:=P) (b:=B) (a:=a) (k:=k) (cs:=cs) (w:=w) (ops:=ops) (i:=i) (rest:=rest) (by rw[ho];simpa using VS);have hb:(ops[i]?).bind (·.dst)=o.dst:=(by rw[ho];rfl);rw[hb] at lD;obtain⟨K',w',a',dF,L⟩:=ih _ _ _ _ _ he K w (a.put o.dst undef) B k base cs ms (hf.put UY (.tuple [] #[] .nil)) (by cases o.dst<;>exact bZ) hs (by rw[Kd];exact BO);rw[Kd] at L;exact⟨K',w',a',dF,.of_steps (.one lD) L⟩
    |true=>
     simp only at he;cases bI:dY P G R e h o with
     |none=>rw[bI] at he;cases he
     |some q=>
      obtain⟨r,e1,h1⟩:=q;rw[bI] at he;obtain⟨K1,w1,a1,cs1,le1,s1,f1,c1,z1,gH⟩:=ajx (i:=i) (rest:=rest) hn hR bI hf bZ hs ho VS k;cases r with
      |ret x=>obtain⟨v,hx,cd⟩:=gH;simp only at he;obtain⟨K',w',a',dF,L⟩:=ih _ _ _ _ _ he K1 w1 (a1.put o.dst v) B k base cs1 ms (f1.put (by rw[z1];exact UY) hx) (by cases o.dst<;>exact c1) s1 (by rw[Kd,z1];exact BO);rw[Kd,z1] at L;refine⟨K',w',a',dF,le1.trans L.le,L.qs,L.frame,L.cs,L.size,λr hr=>.inl hr,L.arr.of_steps cd⟩
      |panic x=>obtain⟨v,todo,hx,cd⟩:=gH;simp only[dE,cW] at he;obtain⟨rfl,rfl,rfl⟩:=he;exact⟨K1,w1,a1,cs1,le1,s1,f1,c1,z1,λr hr=>.inl hr,todo,v,hx,cd⟩
def nC.same{K:aP}{e e2:Env}{a:Act}{B:eW}{ms:List Nat}(hf:nC P K e a B ms)(hs:oQ e e2):nC P K e2 a B ms:=by
 refine⟨λt=>?_,hs.defers ▸ hf.defers,?_,hf.fn⟩
 ·have:=hs.gX t;unfold Env.get at this;rw[<-this];exact hf.gX t
 ·have:=hf.round;rw[hs.round,hs.defers] at this;exact this
def aiR{n:Nat}{ps:Array Tmp}(h:(ps.all λp=>decide (p<n))=ai):∀p∈ps.toList,p<n:=by intro p hp;rw[K6] at h;simpa using h p (Array.mem_toList_iff.1 hp)
end
end Go.AE
end
section
namespace Go.AE
section
variable {P:bB} {G:Nat->Option (List AV)} {R:Rec} {ops:Array Oper} {i:Nat}
end
end Go.AE
end
section
namespace Go.AE
section
variable {K:aP} {G:Nat->Option (List AV)} {ok:bq->Nat->Code->Bool} {w0 w:bX} {h:ao}
end
end Go.AE
end
section
namespace Go.AE
open Go.RowKit (Below)
section
variable {P:bB} {G:Nat->Option (List AV)} {w0:bX} {R:Rec}
structure Q5(d:Tmp)(e eh:Env):Prop where
 gX:∀t,t≠d->e.get t=eh.get t
 defers:e.defers=eh.defers
 cO:e.cO=eh.cO
 round:e.round=eh.round
def Q5.eval{d}{e eh}(b:Q5 d e eh){x}(hx:x≠ .tmp d):e.eval x=eh.eval x:=by
 cases x with|tmp t=>exact b.gX t λq=>hx (by rw[q])|_=>rfl
end
end Go.AE
end
section
namespace Go.AE
section
variable {ops:Array Oper} {i:Nat}
def ready_mono{S S':Nat->Bool}{k:Nat}(hr:oP ops S k)(h:∀j,S j=ai->S' j=ai):oP ops S' k:=λo ho ed gj hb=>h _ (hr o ho ed gj hb)
def Pk(S)(a b):dP (dP S a) b=dP (dP S b) a:=by funext j;unfold dP;by_cases h1:j=a<;>by_cases h2:j=b<;>simp[h1,h2]
structure arA(ops:Array Oper)(i:Nat)(d2:Tmp):Prop where
 lt:i+1<ops.size
 no:IU ops i (i+1)=ay
 all:∀k,k<ops.size->k≠i->k≠i+1->IU ops (i+1) k=ai∨IU ops k i=ai∨(aiw ops d2 k=ai/\IU ops k (i+1)=ay)
variable {d2:Tmp}
variable {P:bB} {G:Nat->Option (List AV)} {w0:bX} {R:Rec}
end
end Go.AE
end
section
namespace Go.AE
section
variable {ops:Array Oper} {i j:Nat} {P:bB} {G:Nat->Option (List AV)} {R:Rec}
def rK:(gh ops i j).size=ops.size:=by simp[gh]
def Dg(k:Nat):(gh ops i j)[k]?=(ops[k]?).map λo=>if k=j then {o with after:=o.after.push {on:=i,ground:=.data}} else o:=by unfold gh;simp only[ja,List.getElem?_mapIdx,CD]
def Tp(k:Nat):((gh ops i j)[k]?).bind (·.dst)=(ops[k]?).bind (·.dst):=by
 rw[Dg];cases ops[k]? with|none=>rfl|some o=>simp only[eX,oa];split<;>rfl
def aqP(e:Env)(o:Oper):fg (gh ops i j) e o=fg ops e o:=by
 unfold fg;cases o.guard with|none=>rfl|some g=>simp only[Tp]
def Cm:∀(L:List Nat) (e:Env) (h:ao),da P G R (gh ops i j) L e h=da P G R ops L e h:=by
 intro L
 induction L with
 |nil=>intro e h;rfl|cons k L ih=>
  intro e h;unfold da;rw[Dg];cases ho:ops[k]? with
  |none=>rfl|some o=>
   simp only[eX];have e1:∀o':Oper,o'.op=o.op->o'.type=o.type->o'.guard=o.guard->o'.dst=o.dst->(fg (gh ops i j) e o'=fg ops e o/\dY P G R e h o'=dY P G R e h o):=(by intro o' q1 q2 q3 q4;refine⟨by rw[aqP];unfold fg;rw[q3],?_⟩;unfold dY;rw[q1,q2,q4]);by_cases hk:k=j
   ·rw[aD hk];obtain⟨q1,q2⟩:=e1 {o with after:=o.after.push {on:=i,ground:=.data}} rfl rfl rfl rfl;rw[q1,q2];simp only[ih]
   ·rw[aG hk];obtain⟨q1,q2⟩:=e1 o rfl rfl rfl rfl;rw[q1];simp only[ih]
def yD{S:Nat->Bool}{k:Nat}(hr:oP ops S k)(hk:k=j->S i=ai):oP (gh ops i j) S k:=by
 intro o ho ed gj hb;rw[Dg] at ho;cases hq:ops[k]? with
 |none=>rw[hq] at ho;cases ho
 |some o0=>
  rw[hq] at ho;simp only[eX,dE] at ho;split at ho
  ·rename_i BA;subst ho;rcases ZD.1 gj with q|q
   ·exact hr o0 hq ed q hb
   ·subst q;exact hk BA
  ·subst ho;exact hr o0 hq ed gj hb
def aiv:∀(L:List Nat) (S:Nat->Bool),S i=ai->nV ops S L->nV (gh ops i j) S L:=by
 intro L
 induction L with
 |nil=>intro S _ h k hk;exact h k (by rw[rK] at hk;exact hk)
 |cons k L ih=>
  intro S hS h;obtain⟨h1,h2,h3,h4⟩:=h;refine⟨by rw[rK];exact h1,h2,yD h3 λ_=>hS,ih _ ?_ h4⟩;unfold dP;split
  ·rfl
  ·exact hS
def aci(h:yO (gh ops i j)):yO ops:=by
 intro k o ho ed gj hb;have hg:(gh ops i j)[k]?=aa (if k=j then {o with after:=o.after.push {on:=i,ground:=.data}} else o):=by rw[Dg,ho];rfl
 refine h k _ hg ed ?_ hb;split
 ·exact ZD.2 (.inl gj)
 ·exact gj
def CH(ops:Array Oper)(S:Nat->Bool):Prop:=∀(k:Nat) (o:Oper),ops[k]?=aa o->S k=ai->∀ed∈o.after,Region.binds .any ed=ai->S ed.on=ai
def CH.one{S:Nat->Bool}{k:Nat}(c:CH ops S)(hr:oP ops S k):CH ops (dP S k):=by
 intro m o ho hS ed gj hb;unfold dP at hS ⊢;split
 ·rfl
 ·split at hS
  ·rename_i q;subst q;exact hr o ho ed gj hb
  ·exact c m o ho hS ed gj hb
def acw{S:Nat->Bool}(hB:AZ ops (Region.before ops)=ai)(c:CH ops S){k:Nat}:∀(m:Nat),m<ops.size->oP ops S m->((Region.before ops).getD m 0).testBit k=ai->k<ops.size->S k=ai:=by
 intro m
 induction m using Ry with
 |_ m ih=>
  intro hm hr hb hk;unfold AZ at hB;rw[eE] at hB;have:=hB m (fD.2 hm);have ho:ops[m]?=aa ops[m]:=mf hm;rw[ho] at this;simp only[bA,eE,K6] at this;obtain⟨h1,h2⟩:=this;have h3:=h2 k (fD.2 hk);rw[hb] at h3;simp only[HX,Bool.false_or,Array.any_eq_true',bA,uM] at h3;obtain⟨ed,gj,ni,hq⟩:=h3;have hs:=hr _ ho ed gj ni;rcases hq with hq|hq
  ·rw[<-jF hq];exact hs
  ·have az:ed.on<m:=(by have:=h1 ed gj;rw[ni] at this;simpa using this);exact ih ed.on az ah (λo iu ed' agK gQ=>c _ o iu hs ed' agK gQ) hq hk
def alk{n:Nat}(hB:yO ops)(hn:n+1=ops.size):∀(L:List Nat) (S:Nat->Bool),S n=ay->S i=ai->oP ops S n->nV ops (dP S n) L->nV (gh ops i n) S (L++[n]):=by
 intro L
 induction L with
 |nil=>intro S hS hi hr h;refine⟨by rw[rK];omega,hS,yD hr λ_=>hi,λk hk=>?_⟩;exact h k (by rw[rK] at hk;exact hk)
 |cons k L ih=>
  intro S hS hi hr h;obtain⟨h1,h2,h3,h4⟩:=h;unfold dP at h2;split at h2
  ·cases h2
  ·rename_i tD;have jg:oP ops S k:=by
    intro o ho ed gj hb;have:=h3 o ho ed gj hb;unfold dP at this;split at this
    ·rename_i q;have:=hB k o ho ed gj hb;omega
    ·exact this
   refine⟨by rw[rK];exact h1,h2,yD jg (λq=>absurd q tD),ih (dP S k) ?_ ?_ ?_ ?_⟩
   ·unfold dP;rw[aG (Ne.symm tD)];exact hS
   ·unfold dP;split;rfl;exact hi
   ·exact ready_mono hr λj hj=>by unfold dP;split;rfl;exact hj
   ·rw[Pk];exact h4
def alm{n:Nat}(hB:yO ops)(hn:n+1=ops.size)(lU:i<n):∀(L:List Nat) (S:Nat->Bool),S n=ay->S i=ay->oP ops S n->nV ops (dP S n) L->
 ∃M1 M2,L=M1++i::M2/\(∀k∈M1,k<ops.size/\k≠i/\k≠n/\S k=ay)/\(∀k∈M2,k<ops.size/\k≠i/\k≠n/\S k=ay)/\nV (gh ops i n) S (M1++i::(M2++[n])):=by
 intro L
 induction L with
 |nil=>intro S hS hi hr h;have:=h i ah;unfold dP at this;rw[aG ah,hi] at this;cases this
 |cons k L ih=>
  intro S hS hi hr h;obtain⟨h1,h2,h3,h4⟩:=h;unfold dP at h2;split at h2
  ·cases h2
  ·rename_i tD;have jg:oP ops S k:=by
    intro o ho ed gj hb;have:=h3 o ho ed gj hb;unfold dP at this;split at this
    ·rename_i q;have:=hB k o ho ed gj hb;omega
    ·exact this
   have DM:oP ops (dP S k) n:=ready_mono hr λj hj=>(by unfold dP;split;rfl;exact hj);by_cases DD:k=i
   ·subst DD;have mem2:∀(L:List Nat) (S:Nat->Bool),nV ops S L->∀m∈L,m<ops.size/\S m=ay:=by
     intro L
     induction L with
     |nil=>intro S _ m hm;cases hm
     |cons a L ih2=>
      intro S hL m hm;obtain⟨q1,q2,q3,q4⟩:=hL;rcases jm.1 hm with rfl|hm
      ·exact⟨q1,q2⟩
      ·obtain⟨p1,p2⟩:=ih2 _ q4 m hm;unfold dP at p2;split at p2
       ·cases p2
       ·exact⟨p1,p2⟩
    refine⟨[],L,rfl,λm hm=>(nomatch hm),λm hm=>?_,?_⟩
    ·obtain⟨p1,p2⟩:=mem2 L _ h4 m hm;unfold dP at p2;split at p2
     ·cases p2
     ·rename_i q1;split at p2
      ·cases p2
      ·rename_i q2;exact⟨p1,q1,q2,p2⟩
    ·refine⟨by rw[rK];exact h1,hi,yD jg (λq=>absurd q tD),?_⟩;refine alk hB hn L _ ?_ ?_ DM ?_
     ·unfold dP;rw[aG (Ne.symm tD)];exact hS
     ·unfold dP;rw[aD rfl]
     ·rw[Pk];exact h4
   ·rw[Pk] at h4;obtain⟨M1,M2,e1,e2,e3,e4⟩:=ih (dP S k) (by unfold dP;rw[aG (Ne.symm tD)];exact hS) (by unfold dP;rw[aG (Ne.symm DD)];exact hi) DM h4;have tO:∀m,dP S k m=ay->S m=ay:=λm q=>by
     unfold dP at q;split at q
     ·cases q
     ·exact q
    refine⟨k::M1,M2,by rw[e1];rfl,λm hm=>?_,λm hm=>?_,by rw[rK];exact h1,h2,yD jg (λq=>absurd q tD),e4⟩
    ·rcases jm.1 hm with rfl|hm
     ·exact⟨h1,DD,tD,h2⟩
     ·obtain⟨p1,p2,p3,p4⟩:=e2 m hm;exact⟨p1,p2,p3,tO m p4⟩
    ·obtain⟨p1,p2,p3,p4⟩:=e3 m hm;exact⟨p1,p2,p3,tO m p4⟩
def ajP{n:Nat}(hB:yO ops)(hn:n+1=ops.size)(lU:i<n):∀(L:List Nat) (S:Nat->Bool),S n=ay->S i=ay->CH ops S->nV ops S L->
 nV (gh ops i n) S L∨∃pre M1 M2 S',L=pre++(n::(M1++i::M2))/\S' i=ay/\oP ops S' n/\CH ops S'/\(∀k∈M1,k<ops.size/\k≠i/\k≠n/\S' k=ay)/\(∀k∈M2,k<ops.size/\k≠i/\k≠n/\S' k=ay)/\nV (gh ops i n) S (pre++(M1++i::(M2++[n]))):=by
 intro L
 induction L with
 |nil=>intro S h1 h2 _ h;have:=h i ah;rw[h2] at this;cases this
 |cons k L ih=>
  intro S hS hi hc h;obtain⟨h1,h2,h3,h4⟩:=h;by_cases DD:k=i
  ·subst DD;exact .inl ⟨by rw[rK];exact h1,h2,yD h3 (λq=>by omega),aiv L _ (by unfold dP;rw[aD rfl]) h4⟩
  ·by_cases tD:k=n
   ·subst tD;obtain⟨M1,M2,e1,e2,e3,e4⟩:=alm hB hn lU L S hS hi h3 h4;exact .inr ⟨[],M1,M2,S,by rw[e1];rfl,hi,h3,hc,e2,e3,e4⟩
   ·rcases ih (dP S k) (by unfold dP;rw[aG (Ne.symm tD)];exact hS) (by unfold dP;rw[aG (Ne.symm DD)];exact hi) (hc.one h3) h4 with q|⟨pre,M1,M2,S',e1,e0,e2,e3,e4,e5,e6⟩
    ·exact .inl ⟨by rw[rK];exact h1,h2,yD h3 (λq=>absurd q tD),q⟩
    ·exact .inr ⟨k::pre,M1,M2,S',by rw[e1];rfl,e0,e2,e3,e4,e5,by rw[rK];exact h1,h2,yD h3 (λq=>absurd q tD),e6⟩
def ao.rH(h:ao)(c:Nat)(xs:List AV):ao:={h with boxes:=h.boxes.set c xs}
def SE{h:ao}{a c}{xs}(bE:a≠c):(h.rH c xs).boxes[a]?=h.boxes[a]?:=by unfold ao.rH;simp only[mU];rw[aG (λq=>bE q.symm)]
variable {e e':Env} {h h':ao} {b:Array Nat}
def Ws(N:da P G R ops (bL ops.size) e h=aa (.normal,e',h'))(F:Fits P G R ops e h b):∀(A B:List Nat) (S:Nat->Bool) (e1:Env) (h1:ao),Inv P G R ops e h b S e1 h1->nV ops S (A++B)->
 ∃S2 e2 h2,da P G R ops A e1 h1=aa (.normal,e2,h2)/\Inv P G R ops e h b S2 e2 h2/\nV ops S2 B:=by
 intro A
 induction A with
 |nil=>intro B S e1 h1 I hL;exact⟨S,e1,h1,rfl,I,hL⟩|cons k A ih=>
  intro B S e1 h1 I hL;obtain⟨hk,hu,hr,hL⟩:=hL;obtain⟨x,e2,h2,hs,I'⟩:=next N F I hk hu hr
  obtain⟨S2,e3,h3,nK,I3,L3⟩:=ih B _ _ _ I' hL;exact⟨S2,e3,h3,qn.2 ⟨x,e2,h2,hs,nK⟩,I3,L3⟩
def V3(N:da P G R ops (bL ops.size) e h=aa (.normal,e',h'))(F:Fits P G R ops e h b){S:Nat->Bool}{e1:Env}{h1:ao}(I:Inv P G R ops e h b S e1 h1){k:Nat}(hk:k<ops.size)
 (hu:S k=ay) (hr:oP ops S k):∀o,ops[k]?=aa o->Alike ops (cR P G R ops e h k).1 e1 o:=by
 have ho:ops[k]?=aa ops[k]:=mf hk;have ahead:∀i,i<ops.size->Ord b i k->S i=ai:=by
  intro i hi yi;obtain⟨ed,gj,ni,hq⟩:=F.bits k i _ ho hi yi;have hs:=hr _ ho ed gj ni;have az:=F.IT k _ ho ed gj ni;rcases hq with rfl|hq
  ·exact hs
  ·exact I.closed i ed.on hi (pj az hk) hs hq
 intro o iu t ht;rw[ho] at iu;injection iu with iu;subst iu;rw[I.gX t,QL N t k (mV hk),KU (k:=k) ops.size (mV hk)]
 ·refine val_congr k λw hw hd=>?_;have hx:ops[w]?=aa ops[w]:=mf (pj hw hk);rw[A6 hx] at hd;exact(ahead w (pj hw hk) (F.looks hw hk hx ho (.inl ⟨hd,ht⟩))).symm
 ·intro w DE hw hd;rcases dT k w with az|eo
  ·cases hq:S w with|false=>rfl|true=>have hx:ops[w]?=aa ops[w]:=mf hw;rw[A6 hx] at hd;have:=I.closed k w hk hw hq (F.looks az hw ho hx (.inr ⟨hd,ht⟩));rw[hu] at this;cases this
  ·rw[AR eo DE,hu]
def EA{k:Nat}{x:AV}{e1:Env}{h1:ao}(hs:yr ops k=ai)(st:jM P G R ops k e h=aa (x,e1,h1)):
 x=.tuple []/\e1=e/\mI ops k=au/\∃(o:Oper) (t:aH) (a v:bH) (c off n:Nat) (cs cZ:List AV),ops[k]?=aa o/\o.op=.store t a v/\o.guard=au/\e.eval a=.ptr (.box c) off/\(e.eval v).bU=aa cs/\dm P t=aa n/\h.boxes[c]?=aa cZ/\cs.length=n/\off+n<=cZ.length/\h1=h.rH c (eK cZ off cs):=by
 unfold yr at hs;unfold jM at st;cases ho:ops[k]? with
 |none=>rw[ho] at hs;cases hs
 |some o=>
  rw[ho] at hs st;simp only[bA,Option.isNone_iff_eq_none] at hs;obtain⟨q1,q2,q3⟩:=hs;cases bI:o.op<;>rw[bI] at q1<;>try (cases q1;done)
  rename_i t a v;have hw:fg ops e o=aa ai:=by unfold fg;rw[q2]
  simp only[hw] at st;have tA:dY P G R e h o=(dK P G e.eval h (.store t a v)).map λ(x,h)=>(.ret x,e,h):=by unfold dY;rw[bI]
  rw[tA] at st;simp only[dK] at st;cases cd:b8 P h t (e.eval a) (e.eval v) with
  |none=>rw[cd] at st;simp at st|some hh=>
   rw[cd] at st;simp only[eX,dE,cW] at st;obtain⟨rfl,rfl,rfl⟩:=st;unfold b8 at cd;split at cd
   ·rename_i c off cs n h1 h2 h3;split at cd
    ·rename_i cZ hold;split at cd
     ·rename_i eC;injection cd with cd;exact⟨rfl,rfl,by simp[mI,ho,q3],o,t,a,v,c,off,n,cs,cZ,rfl,bI,q2,h1,h2,h3,hold,eC.1,eC.2,cd.symm⟩
     ·cases cd
    ·cases cd
   ·cases cd
def QF{k:Nat}{o:Oper}{t:aH}{a v:bH}{c off n:Nat}{cs cZ:List AV}(ho:ops[k]?=aa o)(bI:o.op=.store t a v)(hg:o.guard=au)(ha:e.eval a=.ptr (.box c) off)(hv:(e.eval v).bU=aa cs)(hz:dm P t=aa n)(hb:h.boxes[c]?=aa cZ)(hl:cs.length=n)(eC:off+n<=cZ.length):
 jM P G R ops k e h=aa (.tuple [],e,h.rH c (eK cZ off cs)):=by
 unfold jM;simp only[ho];have hw:fg ops e o=aa ai:=by unfold fg;rw[hg]
 simp only[hw];have tA:dY P G R e h o=(dK P G e.eval h (.store t a v)).map λ(x,h)=>(.ret x,e,h):=by unfold dY;rw[bI]
 rw[tA];simp only[dK];have:b8 P h t (e.eval a) (e.eval v)=aa (h.rH c (eK cZ off cs)):=by unfold b8;simp only[ha,hv,hz,hb];rw[aD ⟨hl,eC⟩];rfl
 rw[this];rfl
def WD{n:Nat}(hn:yr ops n=ai):∀(M:List Nat) {e e':Env} {h h':ao},(∀k∈M,k<ops.size/\py ops k=.pure/\px ops k n=ai)->∀rest,da P G R ops (M++n::rest) e h=aa (.normal,e',h')->da P G R ops (n::(M++rest)) e h=aa (.normal,e',h'):=by
 intro M
 induction M with
 |nil=>intro e e' h h' _ rest hr;exact hr|cons k M ih=>
  intro e e' h h' hM rest hr;rw[List.cons_append,qn] at hr;obtain⟨x,e1,h1,hs,hr⟩:=hr;obtain⟨hk,hp,ue⟩:=hM k ga;have hr:=ih (λm hm=>hM m (fR _ hm)) rest hr;obtain⟨rfl,rfl,jS⟩:=QB hp hs;rw[qn] at hr ⊢;obtain⟨x2,e2,h2,oB,hr⟩:=hr;obtain⟨rfl,rfl,hd,o,t,a,v,c,off,m,cs,cZ,g1,g2,g3,g4,g5,g6,g7,g8,g9,rfl⟩:=EA hn oB;have fM:∀z∈o.op.operands,(e1.put (mI ops k) x).eval z=e1.eval z:=by
   intro z hz;cases z with
   |tmp s=>
    show(e1.put (mI ops k) x).get s=e1.get s;rw[PK];split
    ·rename_i hq;exfalso;unfold px at ue;have bD:ops[k]?=aa ops[k]:=mf hk;rw[bD,g1] at ue;simp only[bA] at ue;rw[A6 bD] at hq;have ag6:s∈o.looksAt ops:=(by unfold Oper.looksAt;exact Rm _ (List.mem_filterMap.2 ⟨.tmp s,by simpa using hz,rfl⟩));have h1:=ue.1;unfold Oper.apart at h1;rw[hq] at h1;simp[ag6] at h1
    ·rfl
   |_=>rfl
  rw[fM a (by rw[g2];simp[Op.operands])] at g4;rw[fM v (by rw[g2];simp[Op.operands])] at g5;refine⟨_,e1,_,QF g1 g2 g3 g4 g5 g6 g7 g8 g9,?_⟩;rw[hd] at hr ⊢;show da P G R ops (k::(M++rest)) e1 _=_;rw[qn];exact⟨x,e1,_,jS e1 _ (λo ho t ht=>rfl),hr⟩
def ap6{n:Nat}(hi:yr ops i=ai)(hn:yr ops n=ai){e e':Env}{h h':ao}{bi bn:Nat}(h1:rf ops i e=aa bi)(h2:rf ops n e=aa bn)(bE:bi≠bn)(rest:List Nat)(hr:da P G R ops (i::n::rest) e h=aa (.normal,e',h')):da P G R ops (n::i::rest) e h=aa (.normal,e',h'):=by
 rw[qn] at hr;obtain⟨x,e1,ov,hs,hr⟩:=hr;obtain⟨rfl,rfl,hd,o,t,a,v,c,off,m,cs,cZ,g1,g2,g3,g4,g5,g6,g7,g8,g9,rfl⟩:=EA hi hs;rw[hd] at hr;replace hr:da P G R ops (n::rest) e1 (h.rH c (eK cZ off cs))=aa (.normal,e',h'):=hr;rw[qn] at hr;obtain⟨x2,e2,vi,oB,hr⟩:=hr;obtain⟨rfl,rfl,jJ,o2,t2,a2,v2,c2,off2,m2,cs2,old2,k1,k2,k3,k4,k5,k6,k7,k8,k9,rfl⟩:=EA hn oB;have q1:bi=c:=by unfold rf at h1;rw[g1] at h1;simp only[g2,g4] at h1;injection h1 with h1;exact h1.symm
 have q2:bn=c2:=by unfold rf at h2;rw[k1] at h2;simp only[k2,k4] at h2;injection h2 with h2;exact h2.symm
 subst q1;subst q2;have k7':h.boxes[bn]?=aa old2:=by rw[<-k7];exact(SE (λq=>bE q.symm)).symm
 have g7':(h.rH bn (eK old2 off2 cs2)).boxes[bi]?=aa cZ:=by rw[SE bE];exact g7
 rw[qn];refine⟨_,e2,_,QF k1 k2 k3 k4 k5 k6 k7' k8 k9,?_⟩;rw[jJ];show da P G R ops (i::rest) e2 _=_;rw[qn];refine⟨_,e2,_,QF g1 g2 g3 g4 g5 g6 g7' g8 g9,?_⟩;rw[hd];rw[jJ] at hr;have agD:(h.rH bn (eK old2 off2 cs2)).rH bi (eK cZ off cs)=(h.rH bi (eK cZ off cs)).rH bn (eK old2 off2 cs2):=by unfold ao.rH;simp only[List.set_comm _ _ bE]
 rw[agD];exact hr
def aeO(bD:Ef ops i=ai)(rN:si P G R ops e h i=ai)(hf:mj P G R (gh ops i (ops.size - 1)) e h=ai)(he:da P G R ops (bL ops.size) e h=aa (.normal,e',h'))(tp:Nat):
 ∃e2,da P G R ops (Region.linearise .any ops tp) e h=aa (.normal,e2,h')/\oQ e2 e':=by
 unfold Ef at bD;simp only[bA,decide_eq_true_eq,eE,fD,uM] at bD;obtain⟨k0,k1,k2,k3,k4⟩:=bD;obtain⟨n,iW⟩:∃n,ops.size - 1=n:=⟨_,rfl⟩;have hn:n+1=ops.size:=by omega
 simp only[iW] at hf k3 k4;have hE:da P G R (gh ops i n) (bL (gh ops i n).size) e h=aa (.normal,e',h'):=by rw[rK,Cm];exact he
 have u7:=aci (TN hf);have hL:=Wr u7 tp;rcases ajP (i:=i) u7 hn ah _ (λ_=>ay) rfl rfl (λk o ho hS=>by cases hS) hL with q|⟨pre,M1,M2,S',q1,q7,q2,q3,q4,q5,q6⟩
 ·obtain⟨e2,tA,iM⟩:=OZ hE (xX hf) _ _ _ _ (OH hE) q;rw[Cm] at tA;exact⟨e2,tA,iM⟩
 ·have good:∀k,k<ops.size/\k≠i/\k≠n/\S' k=ay->k<ops.size/\py ops k=.pure/\px ops k n=ai:=by
   rintro k ⟨p1,p2,p3,p4⟩;rcases k4 k ah with w|w|w
   ·exact absurd (jF w) p2
   ·have:=acw k0 q3 n ah q2 w p1;rw[p4] at this;cases this
   ·refine⟨p1,?_,w.2⟩;have w1:=w.1;unfold Xs at w1;cases ho:ops[k]? with
    |none=>rw[ho] at w1;cases w1
    |some o=>rw[ho] at w1;simpa [py,ho] using w1
  rw[<-List.append_assoc] at q6;obtain⟨S2,em,hm,ev1,I1,L1⟩:=Ws hE (xX hf) (pre++M1) (i::(M2++[n])) _ _ _ (OH hE) q6;obtain⟨l1,l2,l3,l4⟩:=L1;have al1:=V3 hE (xX hf) I1 l1 l2 l3;obtain⟨x,e2,h2,hs,I2⟩:=next hE (xX hf) I1 l1 l2 l3
  have BU:jM P G R ops i em hm=aa (x,e2,h2):=by have:=Cm (P:=P) (G:=G) (R:=R) (ops:=ops) (i:=i) (j:=n) [i] em hm;have h3:da P G R (gh ops i n) [i] em hm=aa (.normal,e2.put (mI (gh ops i n) i) x,h2):=qn.2 ⟨x,e2,h2,hs,rfl⟩;rw[this] at h3;obtain⟨x',e3,h4,qh,DM⟩:=qn.1 h3;obtain⟨rfl,rfl,wK,o3,t3,a3,v3,c3,off3,m3,cs3,old3,z1,z2,z3,z4,z5,z6,z7,z8,z9,rfl⟩:=EA k2 qh;rw[wK] at DM;simp only[da,dE,cW,true_and] at DM;obtain⟨r1,r2⟩:=DM;have hx:x=.tuple []/\e2=e3:=(by have hgE:(gh ops i n)[i]?=aa o3:=(by rw[Dg,z1,eX,aG ah]);have hSt:yr (gh ops i n) i=ai:=(by unfold yr at k2 ⊢;rw[hgE];rw[z1] at k2;exact k2);obtain⟨y1,y2,-⟩:=EA hSt hs;exact⟨y1,y2⟩);rw[hx.1,hx.2,<-r2];exact qh
  obtain⟨rfl,rfl,hd,o,t,a,v,c,off,m,cs,cZ,g1,g2,g3,g4,g5,g6,g7,g8,g9,rfl⟩:=EA k2 BU;have hdE:mI (gh ops i n) i=au:=by unfold mI at hd ⊢;rw[Tp];exact hd
  rw[hdE] at I2;replace I2:Inv P G R (gh ops i n) e h (Region.before (gh ops i n)) (dP S2 i) e2 (hm.rH c (eK cZ off cs)):=I2;obtain⟨Sn,en,hhn,ev2,I3,L3⟩:=Ws hE (xX hf) M2 [n] _ _ _ I2 l4;obtain⟨e5,UZ,iM⟩:=OZ hE (xX hf) _ _ _ _ I3 L3;have Vf:S2 n=ay/\oP ops S2 n:=by
   refine⟨?_,?_⟩
   ·have:∀(L:List Nat) (S:Nat->Bool),nV (gh ops i n) S L->∀m∈L,S m=ay:=by
     intro L
     induction L with
     |nil=>intro S _ m hm;cases hm
     |cons a L ih2=>
      intro S hL m hm;obtain⟨u1,u2,u3,u4⟩:=hL;rcases jm.1 hm with rfl|hm
      ·exact u2
      ·have p2:=ih2 _ u4 m hm;unfold dP at p2;split at p2
       ·cases p2
       ·exact p2
    have:=this _ _ l4 n bG;unfold dP at this;rw[aG ah] at this;exact this
   ·intro o' iu ed gj hb;have hS:S' ed.on=ai:=q2 o' iu ed gj hb;have az:ed.on<n:=u7 n o' iu ed gj hb;cases hq:S2 ed.on with
    |true=>rfl|false=>
     exfalso;have mem:∀(L:List Nat) (S:Nat->Bool),nV (gh ops i n) S L->∀m,m<ops.size->S m=ay->m∈L:=by
      intro L
      induction L with
      |nil=>intro S hL m hm Ng;have:=hL m (by rw[rK];exact hm);rw[Ng] at this;cases this
      |cons a L ih2=>
       intro S hL m hm Ng;obtain⟨u1,u2,u3,u4⟩:=hL;by_cases Ju:m=a
       ·subst Ju;exact ga
       ·exact fR _ (ih2 _ u4 m hm (by unfold dP;rw[aG Ju];exact Ng))
     have qa:=mem (i::(M2++[n])) S2 ⟨l1,l2,l3,l4⟩ ed.on ah hq;rcases jm.1 qa with w|w
     ·rw[w,q7] at hS;cases hS
     ·rcases xF.1 w with w|w
      ·have:=(q5 _ w).2.2.2;rw[hS] at this;cases this
      ·rw[List.mem_singleton] at w;omega
  have JD:oP (gh ops i n) (dP S2 i) n:=yD (ready_mono Vf.2 λj hj=>by unfold dP;split;rfl;exact hj) λ_=>by unfold dP;rw[aD rfl]
  have al2:=V3 hE (xX hf) I2 (k:=n) (by rw[rK];omega) (by unfold dP;rw[aG ah];exact Vf.1) JD;have stE:∀k,cR P G R (gh ops i n) e h k=cR P G R ops e h k:=λk=>by unfold cR;rw[Cm]
  have put_congr:∀(k:Nat) (ea eb:Env),(∀o,(gh ops i n)[k]?=aa o->Alike (gh ops i n) ea eb o)->rf ops k ea=rf ops k eb:=by
   intro k ea eb fM;unfold rf;cases ho:ops[k]? with
   |none=>rfl|some o'=>
    have hg:(gh ops i n)[k]?=aa (if k=n then {o' with after:=o'.after.push {on:=i,ground:=.data}} else o'):=(by rw[Dg,ho];rfl);have hz:=Fk (fM _ hg);have fO:∀z∈o'.op.operands,ea.eval z=eb.eval z:=(by intro z hzm;refine hz z ?_;split<;>exact hzm);show(match o'.op with| .store _ a _=>(match ea.eval a with| .ptr (.box b) _=>aa b|_=>au)|_=>au)=(match o'.op with| .store _ a _=>(match eb.eval a with| .ptr (.box b) _=>aa b|_=>au)|_=>au)
    revert fO
    generalize o'.op=op;intro fO;cases op with|store t' a' v'=>have:ea.eval a'=eb.eval a':=fO a' (by simp[Op.operands]);simp only[this]|_=>rfl
  have hb:∃bi bn,rf ops i e2=aa bi/\rf ops n e2=aa bn/\bi≠bn:=by
   unfold si at rN;rw[iW] at rN;split at rN
   ·rename_i ei _ en _ r1 r2;have s1:(cR P G R ops e h i).1=ei:=(by unfold cR;rw[r1]);have s2:(cR P G R ops e h n).1=en:=(by unfold cR;rw[r2]);split at rN
    ·rename_i bi bn u1 u2;refine⟨bi,bn,?_,?_,?_⟩
     ·rw[<-u1,<-s1,<-stE];exact(put_congr i _ _ al1).symm
     ·rw[<-u2,<-s2,<-stE];exact(put_congr n _ _ al2).symm
     ·rintro rfl;rw[Nat.beq_refl] at rN;cases rN
    ·cases rN
   ·cases rN
  obtain⟨bi,bn,b1,b2,b3⟩:=hb;have t1:da P G R ops (M2++n::[]) e2 (hm.rH c (eK cZ off cs))=aa (.normal,e5,h'):=by rw[GR];rw[Cm] at ev2 UZ;exact⟨_,_,ev2,UZ⟩
  have t2:=WD k3 M2 (λk hk=>good k (q5 k hk)) [] t1;rw[List.append_nil] at t2;have t3:da P G R ops (i::n::M2) e2 hm=aa (.normal,e5,h'):=by rw[qn];refine⟨_,_,_,BU,?_⟩;rw[hd];exact t2
  have t4:=ap6 k2 k3 b1 b2 b3 M2 t3;rw[Cm,GR] at ev1;obtain⟨e0,h0,v1,v2⟩:=ev1;have t5:da P G R ops (M1++n::(i::M2)) e0 h0=aa (.normal,e5,h'):=GR.2 ⟨_,_,v2,t4⟩;have t6:=WD k3 M1 (λk hk=>good k (q4 k hk)) _ t5;refine⟨e5,?_,iM⟩;rw[q1];exact GR.2 ⟨_,_,v1,t6⟩
def stores_cases{e:Env}{h:ao}(hb:tN P G R ops e h=ai):∃i,i<ops.size/\Ef ops i=ai/\si P G R ops e h i=ai/\mj P G R (gh ops i (ops.size - 1)) e h=ai:=by unfold tN at hb;simp only[EP,fD,bA] at hb;exact hb
def stores_of{e:Env}{h:ao}{i:Nat}(h1:i<ops.size)(h2:Ef ops i=ai)(h3:si P G R ops e h i=ai)(h4:mj P G R (gh ops i (ops.size - 1)) e h=ai):tN P G R ops e h=ai:=by unfold tN;simp only[EP,fD,bA];exact⟨i,h1,h2,h3,h4⟩
end
end Go.AE
end
section
namespace Go.AE
open Go.RowKit (Below)
section
variable {P:bB} {G:Nat->Option (List AV)} {w0:bX} {R:Rec}
def apy{b:eW}{a:Act}{k:List Item}{cs:List eW}{w:bX}{c:Code}:step P (lone (b.atR a (.code (.scope c)::k)) cs w)=.next (lone (b.atR a (.code c::.inScope c::k)) cs w):=by rfl
def apx{b:eW}{a:Act}{k:List Item}{cs:List eW}{w:bX}{c:Code}:step P (lone (b.atR a (.inScope c::k)) cs w)=.next (lone (b.atR a k) cs w):=by rfl
def nT.ajV{K:aP}{m:Machine}{B:eW}{c:Code}{k:List Item}{cs:List eW}{x:Xt}{a:Act}{w:bX}(hn:x≠ .normal)
 (h:nT P K m B (.inScope c::k) cs x a w):nT P K m B k cs x a w:=by
 cases x with
 |normal=>exact absurd rfl hn|exit id=>obtain⟨t,h1,h2⟩:=h;exact⟨t,h1.trans rfl,h2⟩
 |ret=>exact h|panic x=>exact h
def ad4(hn:CY P)(ahh:P.follows .mixedOrders=ai)(hR:vX P G w0 R):RJ P G w0 (fy P G R):=by
 intro c e h out e' h' he K w a B k base cs ms hf bZ hs bD;cases c with
 |skip=>simp only[fy,dE,cW] at he;obtain⟨rfl,rfl,rfl⟩:=he;exact⟨K,w,a,cs,ms,.refl hf bZ hs (.one stepR_skip)⟩
 |label l=>simp only[fy,dE,cW] at he;obtain⟨rfl,rfl,rfl⟩:=he;exact⟨K,w,a,cs,ms,.refl hf bZ hs (.one stepR_label)⟩
 |region id ops draw=>
  simp only[codeOk] at bD;cases draw with
  |false=>simp only[fy,ju,if_false] at he;obtain⟨K',w',a',dF,L⟩:=Pn hn hR _ _ _ _ _ _ he K w a B k base cs ms hf bZ hs bD;exact⟨K',w',a',dF,ms,.of_steps (.one stepR_region) L⟩
  |true=>
   simp only[fy,if_true] at he;split at he
   ·rename_i nk;split at he
    ·rename_i e1 h1 tA;simp only[dE,cW] at he;obtain⟨rfl,rfl,rfl⟩:=he;have lD:=stepR_region_draw (P:=P) (b:=B) (a:=a) (k:=k) (cs:=cs) (w:=w) (ops:=ops) (id:=id);have aht:Region.schedule (P.follows .mixedOrders) ops (w.tape w.drawn (.order B.fn id))=Region.linearise .any ops (w.tape w.drawn (.order B.fn id)):=(by simp only[Region.schedule,ahh,ZR,if_true]);rw[aht] at lD;rcases (uM _ _).mp nk with nk|cd
     ·obtain⟨e2,NA,iM⟩:=aeN tA nk (w.tape w.drawn (.order B.fn id));obtain⟨K',w',a',dF,L⟩:=Pn hn hR _ _ _ _ _ _ NA K {w with drawn:=w.drawn+1} a B k base cs ms hf bZ (hs.drew _) bD;exact⟨K',w',a',dF,ms,L.le,L.qs,L.frame.same iM,iM.cO ▸ L.cs,L.size,L.marks,L.arr.of_steps (.one lD)⟩
     ·obtain⟨i,-,NJ,pD,hi3⟩:=stores_cases cd;obtain⟨e2,NA,iM⟩:=aeO NJ pD hi3 tA (w.tape w.drawn (.order B.fn id));obtain⟨K',w',a',dF,L⟩:=Pn hn hR _ _ _ _ _ _ NA K {w with drawn:=w.drawn+1} a B k base cs ms hf bZ (hs.drew _) bD;exact⟨K',w',a',dF,ms,L.le,L.qs,L.frame.same iM,iM.cO ▸ L.cs,L.size,L.marks,L.arr.of_steps (.one lD)⟩
    ·cases he
   ·cases he
 |seq x y=>
  simp only[codeOk,bA] at bD;simp only[fy] at he;cases hx:R.code x e h with
  |none=>rw[hx] at he;cases he
  |some q=>
   obtain⟨o1,e1,h1⟩:=q;rw[hx] at he;obtain⟨K1,w1,a1,cs1,ms1,L1⟩:=hR.code x e h _ _ _ hx K w a B (.code y::k) base cs ms hf bZ hs bD.1;have start:=Steps.one (stepR_seq (P:=P) (b:=B) (a:=a) (k:=k) (cs:=cs) (w:=w) (x:=x) (y:=y));by_cases wR:o1=.normal
   ·subst wR;simp only at he;obtain⟨K2,w2,a2,cs2,ms2,L2⟩:=hR.code y e1 h1 _ _ _ he K1 w1 a1 B k base cs1 ms1 L1.frame L1.cs L1.qs (by rw[L1.size];exact bD.2);refine⟨K2,w2,a2,cs2,ms2,L1.le.trans L2.le,L2.qs,L2.frame,L2.cs,L2.size.trans L1.size,λr hr=>?_,(L2.arr.of_steps L1.arr).of_steps start⟩;rcases L2.marks r hr with hq|hq
    ·exact L1.marks r hq
    ·exact .inr λhm=>hq (L1.le.md r hm)
   ·have he:aa (o1,e1,h1)=aa (out,e',h'):=by cases o1<;>first|exact absurd rfl wR|exact he
    simp only[dE,cW] at he;obtain⟨rfl,rfl,rfl⟩:=he;exact⟨K1,w1,a1,cs1,ms1,L1.le,L1.qs,L1.frame,L1.cs,L1.size,L1.marks,(L1.arr.pass rfl wR).of_steps start⟩
 |cond q x y=>
  simp only[codeOk,bA] at bD;simp only[fy] at he;have hv:=zv hf.gX q;split at he
  ·rename_i hq;rw[hq] at hv;obtain⟨K1,w1,a1,cs1,ms1,L1⟩:=hR.code x e h _ _ _ he K w a B k base cs ms hf bZ hs bD.1;exact⟨K1,w1,a1,cs1,ms1,L1.of_steps (.one (by have:=stepR_cond (P:=P) (b:=B) (k:=k) (cs:=cs) (w:=w) (x:=x) (y:=y) hv.iA.1;simpa using this))⟩
  ·rename_i hq;rw[hq] at hv;obtain⟨K1,w1,a1,cs1,ms1,L1⟩:=hR.code y e h _ _ _ he K w a B k base cs ms hf bZ hs bD.2;exact⟨K1,w1,a1,cs1,ms1,L1.of_steps (.one (by have:=stepR_cond (P:=P) (b:=B) (k:=k) (cs:=cs) (w:=w) (x:=x) (y:=y) hv.iA.1;simpa using this))⟩
  ·cases he
 |block id x=>
  simp only[codeOk] at bD;simp only[fy] at he;cases hx:R.code x e h with
  |none=>rw[hx] at he;cases he
  |some q=>
   obtain⟨o1,e1,h1⟩:=q;rw[hx] at he;obtain⟨K1,w1,a1,cs1,ms1,L1⟩:=hR.code x e h _ _ _ hx K w a B (.inBlock id::k) base cs ms hf bZ hs bD;have start:=Steps.one (stepR_block (P:=P) (b:=B) (a:=a) (k:=k) (cs:=cs) (w:=w) (id:=id) (c:=x));have fin:∀{o:Xt},nT P K1 (lone (B.atR a (.code x::.inBlock id::k)) cs w) B k cs1 o a1 w1->Left P G w0 K ms B base (lone (B.atR a (.code (.block id x)::k)) cs w) k a.tmps.size o e1 h1 K1 w1 a1 cs1 ms1:=λha=>
    ⟨L1.le,L1.qs,L1.frame,L1.cs,L1.size,L1.marks,ha.of_steps start⟩
   cases o1 with
   |normal=>simp only[dE,cW] at he;obtain⟨rfl,rfl,rfl⟩:=he;exact⟨K1,w1,a1,cs1,ms1,fin (L1.arr.trans (.one stepR_inBlock))⟩
   |exit id'=>
    simp only at he;obtain⟨t,h2,h3⟩:=L1.arr;split at he
    ·rename_i NO;subst NO;simp only[dE,cW] at he;obtain⟨rfl,rfl,rfl⟩:=he;refine⟨K1,w1,a1,cs1,ms1,fin (h3.trans (.one (stepR_exit (h2.trans ?_))))⟩;simp[exitTo]
    ·rename_i NO;simp only[dE,cW] at he;obtain⟨rfl,rfl,rfl⟩:=he;refine⟨K1,w1,a1,cs1,ms1,fin ⟨t,h2.trans ?_,h3⟩⟩;simp[exitTo,Ne.symm NO]
   |ret=>simp only[dE,cW] at he;obtain⟨rfl,rfl,rfl⟩:=he;obtain⟨t,h3⟩:=L1.arr;exact⟨K1,w1,a1,cs1,ms1,fin ⟨t,h3⟩⟩
   |panic x=>simp only[dE,cW] at he;obtain⟨rfl,rfl,rfl⟩:=he;obtain⟨t,v,h2,h3⟩:=L1.arr;exact⟨K1,w1,a1,cs1,ms1,fin ⟨t,v,h2,h3⟩⟩
 |loop x=>
  have Vi:codeOk a.tmps.size x=ai:=by simpa only[codeOk] using bD
  simp only[fy] at he;cases hx:R.code x e h with
  |none=>rw[hx] at he;cases he
  |some q=>
   obtain⟨o1,e1,h1⟩:=q;rw[hx] at he;obtain⟨K1,w1,a1,cs1,ms1,L1⟩:=hR.code x e h _ _ _ hx K w a B (.inLoop x::k) base cs ms hf bZ hs Vi;have start:=Steps.one (stepR_loop (P:=P) (b:=B) (a:=a) (k:=k) (cs:=cs) (w:=w) (c:=x));by_cases wR:o1=.normal
   ·subst wR;simp only at he;obtain⟨K2,w2,a2,cs2,ms2,L2⟩:=hR.code (.loop x) e1 h1 _ _ _ he K1 w1 a1 B k base cs1 ms1 L1.frame L1.cs L1.qs (by rw[L1.size];simpa only[codeOk] using Vi);have ve:=nT.swap (c:=.loop x) (m':=lone (B.atR a1 (.inLoop x::k)) cs1 w1) (λ_=>by simp) bG rfl stepR_loop stepR_inLoop L2.arr;refine⟨K2,w2,a2,cs2,ms2,L1.le.trans L2.le,L2.qs,L2.frame,L2.cs,L2.size.trans L1.size,λr hr=>?_,(ve.of_steps L1.arr).of_steps start⟩;rcases L2.marks r hr with hq|hq
    ·exact L1.marks r hq
    ·exact .inr λhm=>hq (L1.le.md r hm)
   ·have he:aa (o1,e1,h1)=aa (out,e',h'):=by cases o1<;>first|exact absurd rfl wR|exact he
    simp only[dE,cW] at he;obtain⟨rfl,rfl,rfl⟩:=he;exact⟨K1,w1,a1,cs1,ms1,L1.le,L1.qs,L1.frame,L1.cs,L1.size,L1.marks,(L1.arr.pass rfl wR).of_steps start⟩
 |scope x=>
  simp only[codeOk] at bD;simp only[fy] at he;obtain⟨K1,w1,a1,cs1,ms1,L1⟩:=hR.code x e h _ _ _ he K w a B (.inScope x::k) base cs ms hf bZ hs bD;have start:=Steps.one (apy (P:=P) (b:=B) (a:=a) (k:=k) (cs:=cs) (w:=w) (c:=x));by_cases wR:out=.normal
  ·subst wR;exact⟨K1,w1,a1,cs1,ms1,L1.le,L1.qs,L1.frame,L1.cs,L1.size,L1.marks,(show nT P K1 _ B k cs1 .normal a1 w1 from L1.arr.trans (.one apx)).of_steps start⟩
  ·exact⟨K1,w1,a1,cs1,ms1,L1.le,L1.qs,L1.frame,L1.cs,L1.size,L1.marks,(L1.arr.ajV wR).of_steps start⟩
 |exit id=>simp only[fy,dE,cW] at he;obtain⟨rfl,rfl,rfl⟩:=he;exact⟨K,w,a,cs,ms,.refl hf bZ hs ⟨k,rfl,.refl P _⟩⟩
 |ret=>simp only[fy,dE,cW] at he;obtain⟨rfl,rfl,rfl⟩:=he;exact⟨K,w,a,cs,ms,.refl hf bZ hs ⟨k,.refl P _⟩⟩
 |rangeFunc f ps assign body=>
  simp only[codeOk,bA] at bD;obtain⟨⟨yj,Vo⟩,Vp⟩:=bD;have yj:=aiR yj;simp only[fy] at he;split at he
  ·rename_i g first aA tA
   have nO:=zv hf.gX f;rw[tA] at nO;have enter:∃(lg:Nat) (mark:List Deferred) (K1:aP) (w1:bX) (ms1:List Nat),(Instr.enterLoop B.fn a.tmps ps assign body B.roundOf).run P w=.ok (lg,mark) w1/\K.Le K1/\
    ki P G w0 K1 {h with loops:=h.loops++[{tmps:=e.tmps,params:=ps,assign,body,state:=.ready,pending:=au}]} w1/\K1.γ[h.loops.length]?=aa lg/\
    nC P K1 e {a with defers:=mark++a.defers} B ms1/\∀r∈ms1,r∈ms∨r∉K.md:=by
    have JA:∀c,codeOk a.tmps.size c=ai->Ec P B.fn a.tmps.size c=ai:=λc hc=>(by unfold Ec;rw[hc,hf.fn];rfl);have yk:=hf.round;cases mM:e.round with
    |none=>
     rw[mM] at yk;simp only at yk;have DI:w.heap.size∉K.md:=λhq=>absurd (oF (hs.md _ hq).2) (Nat.lt_irrefl _);have s1:=hs.ai3;have le1:=K.Wl w.heap.size;obtain⟨s2,hγ⟩:=s1.WJ (r:={tmps:=e.tmps,params:=ps,assign,body,state:=.ready,pending:=au}) (fn:=B.fn) w.heap.size (hf.gX.mono le1) (JA _ Vo) (JA _ Vp) yj;have le2:=(K.mark w.heap.size).OT (w.alloc (.deferred (aa []))).heap.size;refine⟨_,_,_,_,w.heap.size::ms,by rw[yk];exact run_enterLoop_outer _ _ _ _ _,le1.trans le2,s2,?_,?_,?_⟩
     ·rw[hγ,World.size_alloc]
     ·have zN:=hf.mono (le1.trans le2);refine⟨zN.gX,?_,?_,hf.fn⟩
      ·refine .mark _ _ _ _ (by simp[aP.loop,aP.mark]) (λhq=>DI (hf.defers.sub _ hq)) zN.defers
      ·rw[mM];exact yk
     ·intro r hr;rcases jm.1 hr with rfl|hr
      ·exact .inr DI
      ·exact .inl hr
    |some l=>
     rw[mM] at yk;obtain⟨lg,hl,hb,agV,hd,hm,gj⟩:=yk;have dy:l<h.loops.length:=(by rw[<-hs.nS];exact(aQ.1 hl).1);obtain⟨k1,fn,tmps,d,k2,-⟩:=hs.loop l lg _ hl (a9 dy);obtain⟨s2,hγ⟩:=hs.WJ (r:={tmps:=e.tmps,params:=ps,assign,body,state:=.ready,pending:=au}) (fn:=B.fn) d hf.gX (JA _ Vo) (JA _ Vp) yj;have le2:=K.OT w.heap.size;refine⟨_,[],_,_,ms,?_,le2,s2,hγ,?_,λr hr=>.inl hr⟩
     ·rw[hb];unfold Instr.enterLoop;simp only[Sem.run_bind,run_getLoop k2,run_newObj_alloc,Result.andThen,Sem.run_pure]
     ·have zN:=hf.mono le2;exact⟨zN.gX,zN.defers,by rw[mM];exact⟨lg,le2.γ _ _ hl,hb,agV,hd,hm,gj⟩,hf.fn⟩
   obtain⟨lg,mark,K1,w1,ms1,Jm,le1,s1,hγ,f1,Jx⟩:=enter;generalize wS:a.eval f=qv at nO;cases nO with
   |func _ _ _ fs dF g1 g2=>
    cases tu:R.call g (first++[.yield h.loops.length]++aA) {h with loops:=h.loops++[{tmps:=e.tmps,params:=ps,assign,body,state:=.ready,pending:=au}]} with
    |none=>rw[tu] at he;cases he
    |some q=>
     obtain⟨r,h2⟩:=q;rw[tu] at he;obtain⟨⟨fnn,gG,mK⟩,hc⟩:=hR.call _ _ _ _ _ tu;have fH:aM K1 (first++[.yield h.loops.length]++aA) (fs++#[Value.func (.yield lg) #[] #[]]++dF).toList:=(by simp only[Array.toList_append];exact((g1.mono le1).append (.cons _ _ _ _ (.yield _ _ hγ) .nil)).append (g2.mono le1));obtain⟨K2,w2,fr,le2,s2,cd,-,hl⟩:=hc K1 w1 _ fH s1 (B.atR {a with defers:=mark++a.defers} (.inRangeFunc lg::k)::cs);have DU:=stepR_rangeFunc (P:=P) (b:=B) (a:=a) (k:=k) (cs:=cs) (w:=w) (g:=f) (ps:=ps) (assign:=assign) (body:=body) (l:=lg) (mark:=mark) (w₁:=w1) (w₁':=w1) (w₂:=w1) (d:={target:=.fn (.func g) dF,args:=fs++#[Value.func (.yield lg) #[] #[]]}) (f:=g) (args:=fs++#[Value.func (.yield lg) #[] #[]]++dF) Jm
      (by have agF:∀v,a.eval (.const v)=v:=λ_=>rfl;simp[resolve,rangeCall,wS,Deferred.ofValue,agF]) (by simp only[invoke];exact Qk hn gG mK _ _)
     have start:=Steps.head DU cd;have f2:=f1.mono le2;have c2:CS K2 B.kind base e.cO cs:=bZ.mono (le1.trans le2);cases r with
     |panic x=>simp only[dE,cW] at he;obtain⟨rfl,rfl,rfl⟩:=he;obtain⟨v,hx,hl⟩:=hl;refine⟨K2,w2,_,cs,ms1,le1.trans le2,s2,f2,c2,rfl,Jx,.inRangeFunc lg::k,v,hx,start.trans (.one ?_)⟩;rw[step_leave_panicked hl,Frame.raise_atR]
     |ret x=>
      obtain⟨v,hx,hl⟩:=hl;have back:=start.trans (.one (step_leave_returned hl));rw[finish_atR_inRangeFunc] at back;simp only at he;split at he
      ·rename_i r hr;split at he
       ·cases he
       ·rename_i agx;obtain⟨mm,m1,m2,m3,-,-,-,-,-,-,-,s3⟩:=s2.eH (le2.γ _ _ hγ) hr .exhausted r.pending;have tx:=run_endLoop (P:=P) m1 (by rw[m2];exact agx);have lQ:({mm with state:=.exhausted,pending:=r.pending}:Loop)={mm with state:=.exhausted}:=(by rw[<-m3]);rw[lQ] at s3;have agM:(Instr.endLoop lg).run P w2=.ok r.pending (w2.putObj lg (.loop {mm with state:=.exhausted})):=(by rw[<-m3];exact tx);have back2:=back.trans (.one (stepR_endRangeFunc agM));cases hp:r.pending with
        |none=>rw[hp] at he back2 s3;simp only[dE,cW] at he;obtain⟨rfl,rfl,rfl⟩:=he;exact⟨K2,_,_,cs,ms1,le1.trans le2,s3,f2,c2,rfl,Jx,back2⟩
        |some code=>
         rw[hp] at he back2 s3;cases code with
         |ret=>simp only[dE,cW] at he;obtain⟨rfl,rfl,rfl⟩:=he;exact⟨K2,_,_,cs,ms1,le1.trans le2,s3,f2,c2,rfl,Jx,k,back2⟩
         |exit id=>simp only[dE,cW] at he;obtain⟨rfl,rfl,rfl⟩:=he;exact⟨K2,_,_,cs,ms1,le1.trans le2,s3,f2,c2,rfl,Jx,k,rfl,back2⟩
         |_=>cases he
      ·cases he
  ·cases he
 |_=>simp[fy] at he
end
section
variable {P:bB} {G:Nat->Option (List AV)} {w0:bX} {R:Rec}
def Kh(tmps:Array aL):ResultVar->Sem aL
 | .tmp t=>pure (tmps.getD t undef)
 | .cell a t=>do loadVar t (<-asAddr (tmps.getD a undef))
def aln{K:aP}{e:Env}{h:ao}{w:bX}(s:ki P G w0 K h w){tmps:Array aL}(hs:mg K e.tmps tmps):∀{rs:List ResultVar} {l:List AV},vJ P G e h rs=aa l->
 ∃vs:List aL,aM K l vs/\(rs.mapM (Kh tmps)).run P w=.ok vs w:=by
 intro rs
 induction rs with
 |nil=>intro l hl;simp only[vJ,dE] at hl;subst hl;exact⟨[],.nil,by simp⟩|cons r rs ih=>
  intro l hl;cases r with
  |tmp t=>simp only[vJ,dt] at hl;obtain⟨l',rR,rfl⟩:=hl;obtain⟨vs,h1,h2⟩:=ih rR;exact⟨_::vs,.cons _ _ _ _ (hs t) h1,by simp[aav,h2,Kh]⟩
  |cell a t=>
   simp only[vJ] at hl;split at hl
   ·rename_i x l' hx rR;injection hl with hl;subst hl;obtain⟨vs,h1,h2⟩:=ih rR;obtain⟨g,p,v,hp,BD,hv⟩:=Wu s hx (hs a);refine⟨v::vs,.cons _ _ _ _ hv h1,?_⟩;rw[aav];simp only[Kh,hp,asAddr,Sem.run_bind,Sem.run_pure,Result.andThen_ok,BD,h2]
   ·cases hl
def alo{K:aP}{fn:Func}{e:Env}{h:ao}{w:bX}(s:ki P G w0 K h w){tmps:Array aL}(hs:mg K e.tmps tmps){x:AV}(he:Hc P G fn e h=aa x):
 ∃v,aU K x v/\(results fn tmps).run P w=.ok v w:=by
 unfold Hc at he;have key:∀l,vJ P G e h fn.results.toList=aa l->∃vs:List aL,aM K l vs/\(results fn tmps).run P w=.ok (if hh:vs.toArray.size=1 then vs.toArray[0] else .tuple vs.toArray) w:=by
  intro l hl;obtain⟨vs,h1,h2⟩:=aln s hs hl;refine⟨vs,h1,?_⟩;have gH:results fn tmps=(do let vs <-fn.results.mapM (Kh tmps);pure (if h:vs.size=1 then vs[0] else .tuple vs)):=by unfold results;congr 2
  rw[gH,Array.mapM_eq_mapM_toList];simp only[Sem.run_bind,Sem.run_map,h2,Result.andThen_ok,Sem.run_pure]
 split at he
 ·rename_i x' hl;injection he with he;subst he;obtain⟨vs,h1,h2⟩:=key _ hl;cases h1 with|cons _ c _ cs h3 h4=>cases h4;exact⟨c,h3,h2⟩
 ·rename_i l bE hl;injection he with he;subst he;obtain⟨vs,h1,h2⟩:=key _ hl;refine⟨.tuple vs.toArray,.tuple _ _ (by simpa using h1),?_⟩;rw[h2];have bO:vs.length≠1:=by rw[<-h1.length];intro hq;obtain⟨y,rfl⟩:=List.length_eq_one_iff.1 hq;exact bE y rfl
  simp[bO]
 ·cases he
def rv(K:aP):Option (AV × Bool)->FrameMode->Prop
 |none,u=>u=.returning
 |some (x,r),u=>r=ay/\∃v,aU K x v/\u=.panicking [{v,recovered:=ay}]
def rv.run{K}{m u}(h:rv K m u):u≠ .run:=by
 cases m with|none=>simp only[rv] at h;rw[h];simp|some p=>obtain⟨x,r⟩:=p;obtain⟨_,v,_,h⟩:=h;rw[h];simp
def rv.un{K}{r}{m u}(h:rv K m u):rv (K.un r) m u:=by
 cases m with|none=>exact h|some p=>obtain⟨x,r⟩:=p;obtain⟨h1,v,h2,h⟩:=h;exact⟨h1,v,aU.un h2,h⟩
def rv.mono{K K'}(le:K.Le K'){m u}(h:rv K m u):rv K' m u:=by
 cases m with|none=>exact h|some p=>obtain⟨x,r⟩:=p;obtain⟨h1,v,h2,h⟩:=h;exact⟨h1,v,h2.mono le,h⟩
def mg.un{K}{r}{s tmps}(h:mg K s tmps):mg (K.un r) s tmps:=λt=>aU.un (h t)
def apC{fr:eW}{cs:List eW}{w:bX}{r:Nat}{args:Array aL}{ds:List Deferred}(hm:fr.mode≠ .run)(hd:fr.defers={target:=.collected r,args}::ds)(hr:w.heap[r]?=aa (.deferred (aa []))):
 step P (lone fr cs w)=.next (lone {fr with defers:=ds} cs (w.putObj r (.deferred au))):=by
 refine step_lone_go ?_;have ht:=run_takeDeferred (P:=P) hr;cases rT:fr.mode with|run=>exact absurd rT hm|returning=>simp[stepG,unwind,rT,hd,Sem.runT_eq,ht]|panicking chain=>simp[stepG,unwind,rT,hd,Sem.runT_eq,ht]
def settled:Option (AV × Bool)->Option (AV × Bool)
 |some (_,ai)=>au
 |q=>q
def EI(P:bB)(K:aP)(fn:Func)(fr:eW)(w:bX):eL->Prop
 | .ret x=>fr.mode=.returning/\∃v,aU K x v/\(results fn fr.tmps).run P w=.ok v w
 | .panic x=>∃v,aU K x v/\fr.mode=.panicking [{v,recovered:=ay}]
def aqB(hR:vX P G w0 R)(hn:CY P){g:bq}{fn:Func}(gG:P.funcs[g]?=aa fn){K0:aP}{e:Env}:∀(cds:List Deferred) (ds:List (bq × List AV)) (ms:List Nat) (m:Option (AV × Bool)) (h:ao) (res:eL) (h':ao),
 gK P G R fn e ds m h=aa (res,h')->∀(K:aP) (w:bX) (fr:eW) (cs:List eW),fr.fn=g->fr.defers=cds->qx K ds cds ms->mg K e.tmps fr.tmps->rv K m fr.mode->ki P G w0 K h w->K0.Le K->
 (∀r∈ms,r∉K0.md)->
 ∃K' w' fr',K0.Le K'/\ki P G w0 K' h' w'/\Steps P (lone fr cs w) (lone fr' cs w')/\fr'.kind=fr.kind/\fr'.defers=[]/\fr'.fn=g/\EI P K' fn fr' w' res/\(∀kind base p cs,CS K kind base p cs->CS K' kind base p cs):=by
 intro cds
 induction cds with
 |nil=>
  intro ds ms m h res h' he K w fr cs hg hd hY mO rT hs eC Jw;generalize hq:([]:List Deferred)=q at hY;cases hY with
  |call=>cases hq
  |mark=>cases hq
  |nil=>
   cases m with
   |none=>simp only[gK,dt,cW] at he;obtain⟨x,hx,rfl,rfl⟩:=he;obtain⟨v,h1,h2⟩:=alo hs mO hx;exact⟨K,w,fr,eC,hs,.refl P _,rfl,hd,hg,⟨rT,v,h1,h2⟩,λ_ _ _ _ h=>h⟩
   |some p=>obtain⟨x,r⟩:=p;simp only[gK,dE,cW] at he;obtain⟨rfl,rfl⟩:=he;obtain⟨-,v,h1,h2⟩:=rT;exact⟨K,w,fr,eC,hs,.refl P _,rfl,hd,hg,⟨v,h1,h2⟩,λ_ _ _ _ h=>h⟩
 |cons d cds ih=>
  intro ds ms m h res h' he K w fr cs hg hd hY mO rT hs eC Jw;generalize hq:d::cds=q at hY;cases hY with
  |nil=>cases hq
  |mark r ds' cds' ms' hr hnr BS=>injection hq with rV qT;subst rV;subst qT;have BF:=hs.md r hr;have lD:=apC (P:=P) (cs:=cs) rT.run hd BF.2;have eO:r∉K0.md:=Jw r ga;obtain⟨K',w',fr',g1,g2,g3,g4,g5,g6,g7,g8⟩:=ih _ ms' m h res h' he (K.un r) _ {fr with defers:=cds} cs hg rfl (BS.un hnr) mO.un rT.un (hs.drop hr (.deferred au) (by intro _ _ _ hq;cases hq)) (aic eC eO) (λr' fN=>Jw r' (fR _ fN));exact⟨K',w',fr',g1,g2,.head lD g3,g4,g5,g6,g7,λ_ _ _ _ hc=>g8 _ _ _ _ hc.un⟩
  |call f args vs aA ds' cds' _ hv BS=>
   injection hq with rV qT;subst rV;subst qT;simp only[gK] at he;cases tu:R.jH f args m h with
   |none=>rw[tu] at he;cases he
   |some q=>
    obtain⟨rr,m1,h1⟩:=q;rw[tu] at he;cases rr with
    |panic x=>simp at he|ret x=>
     obtain⟨⟨fnn,NC,mK⟩,hc⟩:=hR.jH _ _ _ _ _ _ _ tu;have hinv:(invoke (.fn (.func f) aA) vs).run P w=.ok (.enter f (vs++aA)) w:=(by simp only[invoke];exact Qk hn NC mK _ _);have lD:=step_defer (P:=P) (cs:=cs) (d:={target:=.fn (.func f) aA,args:=vs}) rT.run hd rfl hinv;have bZ:CS K .deferred ({fr with defers:=cds,mode:=.returning}::cs) m ({fr with defers:=cds}::cs):=by
      cases m with
      |none=>have:({fr with defers:=cds}:eW)={fr with defers:=cds,mode:=.returning}:=(by rw[<-show fr.mode=.returning from rT]);rw[this];exact .ret _ _ rfl rfl rfl
      |some p=>obtain⟨y,r⟩:=p;obtain⟨rfl,v,hv1,pG⟩:=rT;have:({fr with defers:=cds}:eW)={({fr with defers:=cds,mode:=.returning}:eW) with mode:=.panicking [{v,recovered:=ay}]}:=(by rw[<-pG]);rw[this];exact .cO _ _ y v ay rfl rfl hv1
     obtain⟨K1,w1,fr1,cs1,v1,le1,s1,c1,cd,zR,nK⟩:=hc K w (vs++aA) _ _ hv bZ hs;have qa:∃u,cs1={fr with defers:=cds,mode:=u}::cs/\rv K1 (settled m1) (settle u):=by
      generalize zH:({fr with defers:=cds,mode:=.returning}:eW)::cs=base at c1;cases c1 with
      |normal hh=>cases hh
      |ret c0 rest _ hb hm=>refine⟨.returning,zH.symm,?_⟩;simp[rv,settle,settled]|cO c0 rest y v r _ hb hx=>
       rw[hb] at zH;injection zH with jI fG;subst jI;subst fG;refine⟨.panicking [{v,recovered:=r}],rfl,?_⟩;cases r with|true=>simp[rv,settle,settled]|false=>exact⟨rfl,v,hx,rfl⟩
     obtain⟨u,rfl,qa⟩:=qa;have agv:=step_going_returned (c:={fr with defers:=cds,mode:=u}) (cs:=cs) zR nK;have he':gK P G R fn e ds' (settled m1) h1=aa (res,h'):=by
      rcases m1 with _|⟨y,r⟩
      ·exact he
      ·cases r<;>exact he
     obtain⟨K',w',fr',g1,g2,g3,g4,g5,g6,g7,g8⟩:=ih _ ms _ h1 res h' he' K1 w1 {fr with defers:=cds,mode:=settle u} cs hg rfl (BS.mono le1) (mO.mono le1) qa s1 (eC.trans le1) Jw;exact⟨K',w',fr',g1,g2,.head lD (cd.trans (.head agv g3)),g4,g5,g6,g7,λ_ _ _ _ hq=>g8 _ _ _ _ (hq.mono le1)⟩
def ad2{n n'}(h:n<=n'):∀{c:Code},codeOk n c=ai->codeOk n' c=ai:=by
 intro c
 induction c with
 |region id ops draw=>
  simp only[codeOk,Ee,EE];intro hq i hi;have:=hq i hi
  revert this
  cases ops[i].dst with|none=>intro _;rfl|some d=>simp only[decide_eq_true_eq];intro hd;exact mD hd h
 |seq a b iha ihb=>simp only[codeOk,bA];exactλhq=>⟨iha hq.1,ihb hq.2⟩|cond q a b iha ihb=>simp only[codeOk,bA];exactλhq=>⟨iha hq.1,ihb hq.2⟩|block id c ih=>simp only[codeOk];exact ih|loop c ih=>simp only[codeOk];exact ih|scope c ih=>simp only[codeOk];exact ih|rangeFunc f ps a b iha ihb=>simp only[codeOk,bA,EE,decide_eq_true_eq];exactλhq=>⟨⟨λi hi=>mD (hq.1.1 i hi) h,iha hq.1.2⟩,ihb hq.2⟩|_=>intro hq;exact hq
structure Prog(P:bB):Prop where
 names:CY P
 mixed:P.follows .mixedOrders=ai
 code:∀(g:bq) (fn:Func) (c:Code),P.funcs[g]?=aa fn->fn.body=aa c->codeOk fn.ntmps c=ai
def aoX{K}{args}{fa}(hv:aM K args fa.toList)(n):mg K {ch:=[],base:=args} (fa++CE n undef):=by
 intro t;simp only[po.get,look];have bO:=hv.length;rcases dT t args.length with az|eo
 ·obtain⟨c,h1,h2⟩:=hv.get (a9 az);have hb:args.getD t (.tuple [])=args[t]:=by simp[az]
  rw[hb];have hc:(fa++CE n undef).getD t undef=c:=by have ag8:t<fa.size:=(by simpa [bO] using az);rw[Zx,Array.getElem?_append_left ag8,<-CD,h1];rfl
  rw[hc];exact h2
 ·have hb:args.getD t (.tuple [])=.tuple []:=by simp[qB eo]
  rw[hb];have hc:(fa++CE n undef).getD t undef=undef:=by have agS:fa.size<=t:=(by simpa [bO] using eo);rw[Zx,Array.getElem?_append_right agS,Array.getElem?_replicate];split<;>rfl
  rw[hc];exact .tuple [] #[] .nil
def SC(hp:Prog P)(hR:vX P G w0 R){g:bq}{args:List AV}{m m':Option (AV × Bool)}{h h':ao}{res:eL}(he:rF P G R g args m h=aa (res,m',h')):
 (∃fn,P.funcs[g]?=aa fn/\fn.body.isSome=ai)/\∀(K:aP) (w:bX) (fa:Array aL) (kind:CallKind) (base cs:List eW),aM K args fa.toList->CS K kind base m cs->ki P G w0 K h w->
 ∃K' w' fr dF fn,P.funcs[g]?=aa fn/\K.Le K'/\ki P G w0 K' h' w'/\CS K' kind base m' dF/\Steps P (lone (Frame.enter P g fa kind) cs w) (lone fr dF w')/\fr.kind=kind/\fr.defers=[]/\fr.fn=g/\EI P K' fn fr w' res:=by
 unfold rF at he;split at he
 ·cases he
 ·rename_i fn gG;split at he
  ·cases he
  ·rename_i body mK;refine⟨⟨fn,gG,by rw[mK];rfl⟩,λK w fa kind base cs hv bZ hs=>?_⟩
   let b:eW:={(default:eW) with fn:=g,kind:=kind}
   let a:Act:={tmps:=fa++CE (fn.ntmps - fa.size) undef,defers:=[]}
   have hb:b.roundOf=au:=rfl;have Jn:Frame.enter P g fa kind=b.atR a [.code body]:=(by unfold Frame.enter Frame.atR;simp only[gG,mK,b,a,eX,Option.getD_some,oa];rfl);have NB:nC P K {tmps:={ch:=[],base:=args},defers:=[],cO:=m,round:=au} a b []:=
    ⟨aoX hv _,.nil,rfl,by show(P.funcs[g]?).isSome=ai;rw[gG];rfl⟩
   have bD:codeOk a.tmps.size body=ai:=ad2 (by simp[a];omega) (hp.code g fn body gG mK);have finish:∀(out:Xt) (e:Env) (h1:ao) (m0:Option (AV × Bool)),R.code body {tmps:={ch:=[],base:=args},defers:=[],cO:=m,round:=au} h=aa (out,e,h1)->
    (out=.normal/\m0=au∨out=.ret/\m0=au∨∃x,out=.panic x/\m0=aa (x,ay))->(gK P G R fn e e.defers m0 h1).map (λ(r,h)=>(r,e.cO,h))=aa (res,m',h')->
    ∃K' w' fr dF fn,P.funcs[g]?=aa fn/\K.Le K'/\ki P G w0 K' h' w'/\CS K' kind base m' dF/\Steps P (lone (Frame.enter P g fa kind) cs w) (lone fr dF w')/\fr.kind=kind/\fr.defers=[]/\fr.fn=g/\EI P K' fn fr w' res:=by
    intro out e h1 m0 Nq zX BX;obtain⟨K1,w1,a1,cs1,ms1,L⟩:=hR.code _ _ _ _ _ _ Nq K w a b [] base cs [] NB bZ hs bD;simp only[dt,cW] at BX;obtain⟨⟨r,hh⟩,BX,rfl,rfl,rfl⟩:=BX;have ve:∃(todo:List Item) (u:FrameMode),rv K1 m0 u/\Steps P (lone (Frame.enter P g fa kind) cs w) (lone {b.atR a1 todo with mode:=u} cs1 w1):=by
     rw[Jn];rcases zX with⟨rfl,rfl⟩|⟨rfl,rfl⟩|⟨x,rfl,rfl⟩
     ·exact⟨[],.returning,rfl,Steps.trans L.arr (.one (stepR_end hb))⟩
     ·obtain⟨todo,cd⟩:=L.arr;exact⟨_,.returning,rfl,Steps.trans cd (.one (stepR_ret hb))⟩
     ·obtain⟨todo,v,hx,cd⟩:=L.arr;exact⟨todo,_,⟨rfl,v,hx,rfl⟩,cd⟩
    obtain⟨todo,u,rT,cd⟩:=ve;obtain⟨K2,w2,fr,g1,g2,g3,g4,g5,g6,g7,g8⟩:=aqB hR hp.names gG a1.defers e.defers ms1 m0 h1 r hh BX K1 w1 {b.atR a1 todo with mode:=u} cs1 rfl rfl L.frame.defers L.frame.gX rT L.qs L.le
     (λr hr=>(L.marks r hr).resolve_left bG)
    exact⟨K2,w2,fr,cs1,fn,gG,g1,g2,g8 _ _ _ _ L.cs,cd.trans g3,g4,g5,g6,g7⟩
   split at he
   ·rename_i e1 h1 hc;exact finish _ _ _ _ hc (.inl ⟨rfl,rfl⟩) he
   ·rename_i e1 h1 hc;exact finish _ _ _ _ hc (.inr (.inl ⟨rfl,rfl⟩)) he
   ·rename_i x e1 h1 hc;exact finish _ _ _ _ hc (.inr (.inr ⟨x,rfl,rfl⟩)) he
   ·cases he
def EI.amp{K:aP}{fn:Func}{fr:eW}{w:bX}{res:eL}(hg:EI P K fn fr w res)(hf:P.funcs[fr.fn]?=aa fn)(hk:fr.kind=.normal)(hd:fr.defers=[]):RG P K fr w res:=by
 cases res with
 |ret x=>obtain⟨h1,v,h2,h3⟩:=hg;exact⟨v,h2,h1,hd,hk,fn,hf,h3⟩
 |panic x=>obtain⟨v,h2,h3⟩:=hg;exact⟨v,h2,h3,hd,fn,hf⟩
def sP(P:bB)(G:Nat->Option (List AV))(w0:bX)(g:bq)(p:List AV->ao->Option (AV × ao)):Prop:=
 (∃fn,P.funcs[g]?=aa fn/\fn.body.isSome=ai)/\
 ∀args h x h',p args h=aa (x,h')->∀(K:aP) (w:bX) (fa:Array aL),aM K args fa.toList->ki P G w0 K h w->
  Calls P g fa w λe w'=>∃v K',e=.returned v/\K.Le K'/\aU K' x v/\ki P G w0 K' h' w'
def afH(hp:Prog P){aK:bq->Option (List AV->ao->Option (AV × ao))}(oA:∀g p,aK g=aa p->sP P G w0 g p)(hR:vX P G w0 R):RI P G w0 (qK P G R aK):=by
 intro g args h r h' he;unfold qK at he;split at he
 ·rename_i p tH;simp only[dt,cW] at he;obtain⟨⟨x,hh⟩,hx,rfl,rfl⟩:=he;obtain⟨gG,agA⟩:=oA g p tH;refine⟨gG,λK w fa hv hs cs=>?_⟩;obtain⟨e,w',fr,⟨v,K',rfl,le,hx',s'⟩,hc,wP,hl⟩:=agA args h x hh hx K w fa hv hs cs;exact⟨K',w',fr,le,s',hc,wP,v,hx',hl⟩
 ·simp only[dt,cW] at he;obtain⟨⟨r',m',hh⟩,hx,rfl,rfl⟩:=he;obtain⟨gG,hb⟩:=SC hp hR hx;refine⟨gG,λK w fa hv hs cs=>?_⟩;obtain⟨K',w',fr,dF,fn,hf,le,s',c',cd,hk,hd,hg,NI⟩:=hb K w fa .normal cs cs hv (.normal rfl) hs;have:dF=cs:=by
   generalize hq:CallKind.normal=q at c';cases c' with|normal=>rfl|ret c0 rest h1=>exact absurd (hq.trans h1) bG|cO c0 rest x v r h1=>exact absurd (hq.trans h1) bG
  subst this;exact⟨K',w',fr,le,s',cd,hg,NI.amp (by rw[hg];exact hf) hk hd⟩
def aeC(hp:Prog P)(hR:vX P G w0 R):RK P G w0 (rF P G R):=by intro g args m h x m' h' he;obtain⟨gG,hb⟩:=SC hp hR he;refine⟨gG,λK w fa base cs hv bZ hs=>?_⟩;obtain⟨K',w',fr,dF,fn,hf,le,s',c',cd,hk,hd,hg,NI⟩:=hb K w fa .deferred base cs hv bZ hs;obtain⟨h1,v,h2,h3⟩:=NI;exact⟨K',w',fr,dF,v,le,s',c',cd,hk,h1,hd,fn,by rw[hg];exact hf,h3⟩
def aoB{K}:∀{ps:List Tmp} {args:List AV} {fa:List aL} {s:po} {tmps:Array aL},aM K args fa->mg K s tmps->(∀p∈ps,p<tmps.size)->
 mg K (Ex ps args s) ((ps.zip fa).foldl (λts p=>ts.setIfInBounds p.1 p.2) tmps)/\((ps.zip fa).foldl (λts p=>ts.setIfInBounds p.1 p.2) tmps).size=tmps.size:=by
 intro ps
 induction ps with
 |nil=>intro args fa s tmps hv hs hp;exact⟨hs,rfl⟩|cons p ps ih=>
  intro args fa s tmps hv hs hp;cases hv with
  |nil=>exact⟨hs,rfl⟩|cons x c xs cs hx Oz=>
   have h1:=mg.set hs (hp p ga) hx;obtain⟨i1,i2⟩:=ih (s:=s.set p x) (tmps:=tmps.setIfInBounds p c) Oz h1 (λq hq=>by simpa using hp q (fR _ hq));refine⟨?_,?_⟩
   ·simpa [Ex] using i1
   ·simpa using i2
def amR(hR:vX P G w0 R):RM P G w0 (vL R):=by
 intro l args h r h' he K w fa lg hγ hv hs sT cs;unfold vL at he;split at he
 ·cases he
 ·rename_i rec zZ;split at he
  ·rename_i ahu;obtain⟨mm,m1,m2,m3,m4,m5,m6,m7,m8,m9,m10,-⟩:=hs.eH hγ zZ rec.state rec.pending;have wG:fa.size=mm.params.size:=(by rw[m4,ahu,hv.length];simp);have hy:=run_yield (P:=P) m1 wG;split at he
   ·rename_i e1 h1 agt;split at he
    ·rename_i r1 BR;split at he
     ·rename_i ahn;obtain⟨sp1,sp2⟩:=aoB (ps:=rec.params.toList) hv m7 m10;have ND:(mm.params.zip fa).foldl (λtmps (x:Tmp × aL)=>tmps.setIfInBounds x.1 x.2) mm.tmps=(rec.params.toList.zip fa.toList).foldl (λts p=>ts.setIfInBounds p.1 p.2) mm.tmps:=by rw[<-Array.foldl_toList,Array.toList_zip,m4]
      let b:eW:={(default:eW) with fn:=mm.fn,kind:=.normal,roundOf:=aa lg}
      let a:Act:={tmps:=(rec.params.toList.zip fa.toList).foldl (λts p=>ts.setIfInBounds p.1 p.2) mm.tmps,defers:=[]}
      have U1:(P.funcs[mm.fn]?).isSome=ai:=(by have:=m8;unfold Ec at this;rw[bA] at this;exact this.2);have NB:nC P K {tmps:=Ex rec.params.toList args rec.tmps,defers:=[],cO:=au,round:=aa l} a b []:=
       ⟨sp1,.nil,⟨lg,hγ,rfl,rfl,rfl,rfl,rfl⟩,U1⟩
      have oy:codeOk a.tmps.size rec.assign=ai:=(by have:=m8;unfold Ec at this;rw[bA] at this;show codeOk (ZF _) _=ai;rw[sp2];exact this.1);have Jz:codeOk a.tmps.size rec.body=ai:=(by have:=m9;unfold Ec at this;rw[bA] at this;show codeOk (ZF _) _=ai;rw[sp2];exact this.1);have DU:Frame.round lg mm.fn ((mm.params.zip fa).foldl (λtmps (x:Tmp × aL)=>tmps.setIfInBounds x.1 x.2) mm.tmps) mm.assign mm.body .normal=b.atR a [.code rec.assign,.beginRound,.code rec.body]:=(by simp only[Frame.round,Frame.atR,b,a,ND,m5,m6]);have nocs:∀{K:aP} {p:Option (AV × Bool)} {base dF:List eW},CS K .normal base p dF->dF=base:=by
       intro K p base dF c;generalize hq:CallKind.normal=q at c;cases c with|normal=>rfl|ret c0 rest h1=>exact absurd (hq.trans h1) bG|cO c0 rest x v r h1=>exact absurd (hq.trans h1) bG
      obtain⟨K1,w1,a1,cs1,ms1,L1⟩:=hR.code _ _ _ _ _ _ agt K w a b [.beginRound,.code rec.body] (sT::cs) (sT::cs) [] NB (.normal rfl) hs oy;have agE:=nocs L1.cs;subst agE;obtain⟨nn,n1,n2,n3,n4,n5,n6,n7,n8,n9,n10,sbusy⟩:=L1.qs.eH (L1.le.γ _ _ hγ) BR .busy r1.pending;have agw:=run_beginRound (P:=P) n1 (n2.trans ahn);have agO:({nn with state:=.busy,pending:=r1.pending}:Loop)={nn with state:=.busy}:=(by rw[<-n3]);rw[agO] at sbusy;have Jv:Steps P (lone (Frame.round lg mm.fn ((mm.params.zip fa).foldl (λtmps (x:Tmp × aL)=>tmps.setIfInBounds x.1 x.2) mm.tmps) mm.assign mm.body .normal) (sT::cs) w)
       (lone (b.atR a1 [.code rec.body]) (sT::cs) (w1.putObj lg (.loop {nn with state:=.busy}))):=by
       rw[DU];exact Steps.trans L1.arr (.one (stepR_beginRound rfl agw))
      have arU:∀r∈ms1,r∉K.md:=λr hr=>(L1.marks r hr).resolve_left bG;have body:∀(out:Xt) (e2:Env) (h2:ao),R.code rec.body e1 {h1 with loops:=h1.loops.set l {r1 with state:=.busy}}=aa (out,e2,h2)->
       ∃K2 w2 a2 ms2,K.Le K2/\ki P G w0 K2 h2 w2/\nC P K2 e2 a2 b ms2/\nT P K2 (lone (b.atR a1 [.code rec.body]) (sT::cs) (w1.putObj lg (.loop {nn with state:=.busy}))) b [] (sT::cs) out a2 w2:=by
       intro out e2 h2 Nq;obtain⟨K2,w2,a2,cs2,ms2,L2⟩:=hR.code _ _ _ _ _ _ Nq K1 _ a1 b [] (sT::cs) (sT::cs) ms1 L1.frame L1.cs sbusy (by rw[L1.size];exact Jz);have Nt:=nocs L2.cs;subst Nt;exact⟨K2,w2,a2,ms2,L1.le.trans L2.le,L2.qs,L2.frame,L2.arr⟩
      have ending:∀(h2:ao) (out:eL) (hh:ao) (st:LoopState) (pe:Option Code) (bb:Bool) (K2:aP) (w2:bX),K.Le K2->ki P G w0 K2 h2 w2->pe.isNone=bb->(if pe.isNone then LoopState.ready else .done)=st->
       ((h2.loops[l]?).map λr=>(eL.ret (.v (.bool bb)),{h2 with loops:=h2.loops.set l {r with state:=st,pending:=pe}}))=aa (out,hh)->
       ∃v w3,(Instr.endRound lg pe).run P w2=.ok (.bool bb) w3/\ki P G w0 K2 hh w3/\out=.ret (.v (.bool bb))/\aU K2 (.v (.bool bb)) v/\v=.bool bb:=by
       intro h2 out hh st pe bb K2 w2 le2 s2 vg cd Ve;simp only[dt,cW] at Ve;obtain⟨r2,jg,rfl,rfl⟩:=Ve;obtain⟨qq,q1,q2,q3,-,-,-,-,-,-,-,send⟩:=s2.eH (le2.γ _ _ hγ) jg st pe;have tx:=run_endRound (P:=P) pe q1;rw[cd,vg] at tx;exact⟨_,_,tx,send,rfl,.v _ rfl,rfl⟩
      have nL:∀{K2:aP} {e2:Env} {a2:Act} {ms2:List Nat},nC P K2 e2 a2 b ms2->e2.round=aa l->a2.defers=[]:=(by intro K2 e2 a2 ms2 hf hr;have:=hf.round;rw[hr] at this;obtain⟨_,_,_,_,h1,_⟩:=this;exact h1);refine⟨mm.fn,(mm.params.zip fa).foldl (λtmps (x:Tmp × aL)=>tmps.setIfInBounds x.1 x.2) mm.tmps,mm.assign,mm.body,?_⟩;split at he
      ·rename_i e2 h2 mK;obtain⟨K2,w2,a2,ms2,le2,s2,f2,ve⟩:=body _ _ _ mK;obtain⟨v,w3,tx,s3,rfl,jU,rfl⟩:=ending h2 r h' .ready au ai K2 w2 le2 s2 rfl rfl he;exact⟨K2,w3,hy,le2,s3,_,jU,Jv.trans (Steps.trans ve (.one (stepR_round_end rfl rfl tx)))⟩
      ·rename_i e2 h2 mK;obtain⟨K2,w2,a2,ms2,le2,s2,f2,todo,ve⟩:=body _ _ _ mK;obtain⟨v,w3,tx,s3,rfl,jU,rfl⟩:=ending h2 r h' .done (aa .ret) ay K2 w2 le2 s2 rfl rfl he;exact⟨K2,w3,hy,le2,s3,_,jU,Jv.trans (ve.trans (.one (stepR_round_ret rfl rfl tx)))⟩
      ·rename_i id e2 h2 mK;obtain⟨K2,w2,a2,ms2,le2,s2,f2,todo,p8,ve⟩:=body _ _ _ mK;obtain⟨v,w3,tx,s3,rfl,jU,rfl⟩:=ending h2 r h' .done (aa (.exit id)) ay K2 w2 le2 s2 rfl rfl he;exact⟨K2,w3,hy,le2,s3,_,jU,Jv.trans (ve.trans (.one (stepR_round_exit rfl rfl (p8.trans rfl) tx)))⟩
      ·rename_i x e2 h2 mK;simp only[dE,cW] at he;obtain⟨rfl,rfl⟩:=he;obtain⟨K2,w2,a2,ms2,le2,s2,f2,todo,v,hx,ve⟩:=body _ _ _ mK;have hd:a2.defers=[]:=by
        have:=f2.round;cases hq:e2.round with
        |none=>rw[hq] at this;cases this
        |some l'=>rw[hq] at this;obtain⟨_,_,_,_,h1,_⟩:=this;exact h1
       obtain⟨fnn,NC⟩:=Option.isSome_iff_exists.1 U1;exact⟨K2,w2,hy,le2,s2,v,_,hx,Jv.trans ve,rfl,hd,fnn,NC⟩
      ·cases he
     ·cases he
    ·cases he
   ·cases he
  ·cases he
def Ke(hp:Prog P){aK:bq->Option (List AV->ao->Option (AV × ao))}(oA:∀g p,aK g=aa p->sP P G w0 g p):∀n,vX P G w0 (ia P G aK n):=by
 intro n
 induction n with
 |zero=>
  refine⟨?_,?_,?_,?_⟩
  ·intro c e h out e' h' he;cases he
  ·intro g args h r h' he;cases he
  ·intro g args m h x m' h' he;cases he
  ·intro l args h r h' he;cases he
 |succ n ih=>exact⟨ad4 hp.names hp.mixed ih,afH hp oA ih,aeC hp ih,amR ih⟩
end
end Go.AE
end
section
namespace Go.AE
structure ob(R R':Rec):Prop where
 code:∀c e h r,R.code c e h=aa r->R'.code c e h=aa r
 call:∀g a h r,R.call g a h=aa r->R'.call g a h=aa r
 jH:∀g a m h r,R.jH g a m h=aa r->R'.jH g a m h=aa r
 round:∀l a h r,R.round l a h=aa r->R'.round l a h=aa r
section
variable {P:bB} {G:Nat->Option (List AV)} {R R':Rec}
def adu(le:ob R R'){e:Env}{h:ao}{c:Call}{r:eL × ao}(hc:lO P R e h c=aa r):lO P R' e h c=aa r:=by
 unfold lO at hc ⊢;cases oV:c.callee with
 |builtin b=>rw[oV] at hc;cases hc
 |value f=>
  simp only[oV] at hc ⊢;split at hc
  ·rename_i h1;(try simp only[h1]);exact le.call _ _ _ _ hc
  ·rename_i h1;(try simp only[h1]);exact le.round _ _ _ _ hc
  ·cases hc
 |invoke v m=>
  simp only[oV] at hc ⊢;split at hc
  ·rename_i h1
   (try simp only[h1])
   split at hc
   ·rename_i h2;(try simp only[h2]);exact le.call _ _ _ _ hc
   ·cases hc
  ·cases hc
def Ed(le:ob R R'){e:Env}{h:ao}{o:Oper}{r:eL × Env × ao}(ho:dY P G R e h o=aa r):dY P G R' e h o=aa r:=by
 unfold dY at ho ⊢;split at ho
 ·exact ho
 ·exact ho
 ·exact ho
 ·simp only[dt] at ho ⊢;obtain⟨q,hq,he⟩:=ho;exact⟨q,adu le hq,he⟩
 ·exact ho
 ·exact ho
 ·exact ho
def o6(le:ob R R'){ops:Array Oper}:∀{l:List Nat} {e:Env} {h:ao} {r:Xt × Env × ao},da P G R ops l e h=aa r->da P G R' ops l e h=aa r:=by
 intro l
 induction l with
 |nil=>intro e h r ho;exact ho|cons i l ih=>
  intro e h r ho;simp only[da] at ho ⊢;cases Gm:ops[i]? with
  |none=>rw[Gm] at ho;cases ho
  |some o=>
   rw[Gm] at ho;simp only at ho ⊢;cases hw:fg ops e o with
   |none=>rw[hw] at ho;cases ho
   |some b=>
    rw[hw] at ho;cases b with
    |false=>exact ih ho|true=>
     simp only at ho ⊢;cases bI:dY P G R e h o with
     |none=>rw[bI] at ho;cases ho
     |some q=>
      rw[bI] at ho;rw[Ed le bI];obtain⟨r1,e1,h1⟩:=q;cases r1 with|ret x=>exact ih ho|panic x=>exact ho
def KG(le:ob R R'){ops:Array Oper}{e:Env}{h:ao}{r m:Nat}(hs:pM P G R ops e h r m=ai):pM P G R' ops e h r m=ai:=by
 unfold pM at hs ⊢;split at hs
 ·rename_i o er hr em hm h1 h2 h3;rw[h1,o6 le h2,o6 le h3];exact hs
 ·cases hs
def FB{ops:Array Oper}{e:Env}{h:ao}{k:Nat}:mG P G R ops e h k=ai↔zl P G R ops e h k:=by unfold mG;exact @decide_eq_true_iff _ (Classical.propDecidable _)
def II(le:ob R R'){ops:Array Oper}{e:Env}{h:ao}{k:Nat}(hc:mG P G R ops e h k=ai):mG P G R' ops e h k=ai:=by rw[FB] at hc ⊢;obtain⟨o,x,er,hr,h1,h2,h3,h4⟩:=hc;refine⟨o,x,er,hr,h1,h2,o6 le h3,λm hm=>?_⟩;obtain⟨em,BE,h5,h6⟩:=h4 m hm;exact⟨em,BE,o6 le h5,Ed le h6⟩
def MK(le:ob R R'){ops:Array Oper}{e:Env}{h:ao}(hs:mj P G R ops e h=ai):mj P G R' ops e h=ai:=by
 unfold mj at hs ⊢;simp only[bA,eE,fD,uM] at hs ⊢;refine⟨hs.1,λj hj i hi=>?_⟩;rcases hs.2 j hj i hi with((h1|h1)|h1)|h1
 ·exact .inl (.inl (.inl h1))
 ·exact .inl (.inl (.inr h1))
 ·refine .inl (.inr ?_);unfold lJ at h1 ⊢;rw[bA] at h1 ⊢;refine⟨h1.1,?_⟩;have h2:=h1.2;split at h2
  ·rename_i hx hy;(try simp only[hx,hy]);exact KG le h2
  ·rename_i hx hy;(try simp only[hx,hy]);exact KG le h2
  ·cases h2
 ·exact .inr ⟨h1.1,h1.2.imp (II le) (II le)⟩
def WY(le:ob R R'){ops:Array Oper}{e:Env}{h:ao}{i:Nat}(hs:si P G R ops e h i=ai):si P G R' ops e h i=ai:=by
 unfold si at hs ⊢;split at hs
 ·rename_i h1 h2;rw[o6 le h1,o6 le h2];exact hs
 ·cases hs
def stores_le(le:ob R R'){ops:Array Oper}{e:Env}{h:ao}(D:tN P G R ops e h=ai):tN P G R' ops e h=ai:=by obtain⟨i,h1,h2,h3,h4⟩:=stores_cases D;exact stores_of h1 h2 (WY le h3) (MK le h4)
def any_le(le:ob R R'){ops:Array Oper}{e:Env}{h:ao}(D:(mj P G R ops e h||tN P G R ops e h)=ai):(mj P G R' ops e h||tN P G R' ops e h)=ai:=by
 rcases (uM _ _).mp D with q|q
 ·rw[MK le q];rfl
 ·rw[stores_le le q,Q4]
def Ta(le:ob R R'){c:Code}{e:Env}{h:ao}{r:Xt × Env × ao}(hc:fy P G R c e h=aa r):fy P G R' c e h=aa r:=by
 cases c with
 |region id ops draw=>
  cases draw with
  |false=>simp only[fy,ju,if_false] at hc ⊢;exact o6 le hc|true=>
   simp only[fy,if_true] at hc ⊢;split at hc
   ·rename_i hf;split at hc
    ·rename_i h1;rw[aD (any_le le hf)];simp only[o6 le h1];exact hc
    ·cases hc
   ·cases hc
 |seq a b=>
  simp only[fy] at hc ⊢;cases ha:R.code a e h with
  |none=>rw[ha] at hc;cases hc
  |some q=>
   rw[ha] at hc;rw[le.code _ _ _ _ ha];obtain⟨o,e1,h1⟩:=q;cases o with|normal=>exact le.code _ _ _ _ hc|_=>exact hc
 |scope a=>simp only[fy] at hc ⊢;exact le.code _ _ _ _ hc|cond q a b=>
  simp only[fy] at hc ⊢;split at hc
  ·rename_i h1;(try simp only[h1]);exact le.code _ _ _ _ hc
  ·rename_i h1;(try simp only[h1]);exact le.code _ _ _ _ hc
  ·cases hc
 |block id a=>
  simp only[fy] at hc ⊢;cases ha:R.code a e h with
  |none=>rw[ha] at hc;cases hc
  |some q=>rw[ha] at hc;rw[le.code _ _ _ _ ha];exact hc
 |loop a=>
  simp only[fy] at hc ⊢;cases ha:R.code a e h with
  |none=>rw[ha] at hc;cases hc
  |some q=>
   rw[ha] at hc;rw[le.code _ _ _ _ ha];obtain⟨o,e1,h1⟩:=q;cases o with|normal=>exact le.code _ _ _ _ hc|_=>exact hc
 |rangeFunc f ps a b=>
  simp only[fy] at hc ⊢;split at hc
  ·rename_i g first aA tA
   (try simp only[tA])
   generalize cV:R.call g _ _=q at hc;cases q with
   |none=>cases hc
   |some q=>rw[le.call _ _ _ _ cV];exact hc
  ·cases hc
 |_=>exact hc
def QQ(le:ob R R'){fn:Func}{e:Env}:∀{ds:List (bq × List AV)} {m:Option (AV × Bool)} {h:ao} {r:eL × ao},gK P G R fn e ds m h=aa r->gK P G R' fn e ds m h=aa r:=by
 intro ds
 induction ds with
 |nil=>intro m h r hu;cases m<;>exact hu
 |cons d ds ih=>
  intro m h r hu;obtain⟨g,args⟩:=d;simp only[gK] at hu ⊢;cases hd:R.jH g args m h with
  |none=>rw[hd] at hu;cases hu
  |some q=>
   rw[hd] at hu;rw[le.jH _ _ _ _ _ hd];obtain⟨r1,m1,h1⟩:=q;cases r1 with
   |panic x=>exact hu|ret x=>
    rcases m1 with _|⟨y,b⟩
    ·exact ih hu
    ·cases b<;>exact ih hu
def Mo(le:ob R R'){g:bq}{args:List AV}{m:Option (AV × Bool)}{h:ao}{r:eL × Option (AV × Bool) × ao}(hb:rF P G R g args m h=aa r):rF P G R' g args m h=aa r:=by
 unfold rF at hb ⊢;split at hb
 ·cases hb
 ·rename_i fn gG;rw[gG] at *
  simp only;split at hb
  ·cases hb
  ·rename_i body mK;rw[mK] at *
   (try simp only)
   generalize Bp:R.code body _ h=q at hb;cases q with
   |none=>cases hb
   |some q=>
    rw[le.code _ _ _ _ Bp];obtain⟨o,e1,h1⟩:=q;cases o with
    |exit id=>cases hb
    |_=>simp only[dt] at hb ⊢;obtain⟨q,hq,he⟩:=hb;exact⟨q,QQ le hq,he⟩
def Ub(le:ob R R'){aK:bq->Option (List AV->ao->Option (AV × ao))}{g:bq}{args:List AV}{h:ao}{r:eL × ao}(hb:qK P G R aK g args h=aa r):qK P G R' aK g args h=aa r:=by
 unfold qK at hb ⊢;split at hb
 ·exact hb
 ·simp only[dt] at hb ⊢;obtain⟨q,hq,he⟩:=hb;exact⟨q,Mo le hq,he⟩
def XJ(le:ob R R'){l:Nat}{args:List AV}{h:ao}{r:eL × ao}(hb:vL R l args h=aa r):vL R' l args h=aa r:=by
 unfold vL at hb ⊢;split at hb
 ·cases hb
 ·split at hb
  ·rename_i dV;simp only[dV,if_true];split at hb
   ·rename_i e1 h1 ha;simp only[le.code _ _ _ _ ha];split at hb
    ·rename_i r2 jg;split at hb
     ·rename_i cd;simp only[cd,if_true];generalize Bp:R.code _ e1 _=q at hb;cases q with
      |none=>cases hb
      |some q=>rw[le.code _ _ _ _ Bp];exact hb
     ·cases hb
    ·cases hb
   ·cases hb
  ·cases hb
variable {aK:bq->Option (List AV->ao->Option (AV × ao))}
def G8(n:Nat):ob (ia P G aK n) (ia P G aK (n+1)):=by
 induction n with
 |zero=>
  refine⟨?_,?_,?_,?_⟩
  ·intro c e h r hh;cases hh
  ·intro g a h r hh;cases hh
  ·intro g a m h r hh;cases hh
  ·intro l a h r hh;cases hh
 |succ n ih=>exact⟨λc e h r hh=>Ta ih hh,λg a h r hh=>Ub ih hh,λg a m h r hh=>Mo ih hh,λl a h r hh=>XJ ih hh⟩
def iO{n m:Nat}(h:n<=m):ob (ia P G aK n) (ia P G aK m):=by
 induction m with
 |zero=>rw[Nat.le_zero.1 h];exact⟨λ_ _ _ _ h=>h,λ_ _ _ _ h=>h,λ_ _ _ _ _ h=>h,λ_ _ _ _ h=>h⟩|succ m ih=>
  rcases dT n (m+1) with az|eo
  ·have h1:=ih (AS.1 az);have h2:=G8 (P:=P) (G:=G) (aK:=aK) m;exact⟨λc e h r hh=>h2.code _ _ _ _ (h1.code _ _ _ _ hh),λg a h r hh=>h2.call _ _ _ _ (h1.call _ _ _ _ hh),λg a m h r hh=>h2.jH _ _ _ _ _ (h1.jH _ _ _ _ _ hh),λl a h r hh=>h2.round _ _ _ _ (h1.round _ _ _ _ hh)⟩
  ·rw[AR h eo];exact⟨λ_ _ _ _ h=>h,λ_ _ _ _ h=>h,λ_ _ _ _ _ h=>h,λ_ _ _ _ h=>h⟩
end
noncomputable def Ah{α:Type}(f:Nat->Option α):Option α:=by
 classical
 exact if h:∃r n,f n=aa r then aa h.choose else au
def JR{α}{f}(hm:∀n m r,n<=m->f n=aa r->f m=aa r){n}{r:α}(h:f n=aa r):Ah f=aa r:=by unfold Ah;have p8:∃r n,f n=aa r:=⟨r,n,h⟩;rw[dif_pos p8];obtain⟨m,uj⟩:=p8.choose_spec;have h1:=hm _ _ _ (Fb n m) h;have h2:=hm _ _ _ (CR n m) uj;rw[h1] at h2;exact h2.symm
def lY{α}{f}{r:α}(h:Ah f=aa r):∃n,f n=aa r:=by
 unfold Ah at h;split at h
 ·rename_i p8;injection h with h;rw[<-h];exact p8.choose_spec
 ·cases h
section
variable (P:bB) (G:Nat->Option (List AV)) (aK:bq->Option (List AV->ao->Option (AV × ao)))
noncomputable def whole:Rec where
 code c e h:=Ah λn=>(ia P G aK n).code c e h
 call g a h:=Ah λn=>(ia P G aK n).call g a h
 jH g a m h:=Ah λn=>(ia P G aK n).jH g a m h
 round l a h:=Ah λn=>(ia P G aK n).round l a h
end
section
variable {P:bB} {G:Nat->Option (List AV)} {aK:bq->Option (List AV->ao->Option (AV × ao))}
def AF(n:Nat):ob (ia P G aK n) (whole P G aK):=
 ⟨λ_ _ _ _ h=>JR (λ_ _ _ hl hh=>(iO hl).code _ _ _ _ hh) h,λ_ _ _ _ h=>JR (λ_ _ _ hl hh=>(iO hl).call _ _ _ _ hh) h,
  λ_ _ _ _ _ h=>JR (λ_ _ _ hl hh=>(iO hl).jH _ _ _ _ _ hh) h,λ_ _ _ _ h=>JR (λ_ _ _ hl hh=>(iO hl).round _ _ _ _ hh) h⟩
def QV{w0:bX}(hp:Prog P)(oA:∀g p,aK g=aa p->sP P G w0 g p):vX P G w0 (whole P G aK):=by
 refine⟨?_,?_,?_,?_⟩
 ·intro c e h out e' h' he;obtain⟨n,hn⟩:=lY he;exact(Ke hp oA n).code c e h out e' h' hn
 ·intro g args h r h' he;obtain⟨n,hn⟩:=lY he;exact(Ke hp oA n).call g args h r h' hn
 ·intro g args m h x m' h' he;obtain⟨n,hn⟩:=lY he;exact(Ke hp oA n).jH g args m h x m' h' hn
 ·intro l args h r h' he;obtain⟨n,hn⟩:=lY he;exact(Ke hp oA n).round l args h r h' hn
def two{α β:Type}{f:Nat->Option α}{g:Nat->Option β}{a}{b}(hf:∀n m r,n<=m->f n=aa r->f m=aa r)(hg:∀n m r,n<=m->g n=aa r->g m=aa r)(h1:∃n,f n=aa a)(h2:∃n,g n=aa b):
 ∃n,f n=aa a/\g n=aa b:=by
 obtain⟨n,h1⟩:=h1;obtain⟨m,h2⟩:=h2;exact⟨max n m,hf _ _ _ (Fb _ _) h1,hg _ _ _ (CR _ _) h2⟩
def adt{e:Env}{h:ao}{c:Call}{r:eL × ao}(hc:lO P (whole P G aK) e h c=aa r):∃n,lO P (ia P G aK n) e h c=aa r:=by
 unfold lO at hc ⊢;cases oV:c.callee with
 |builtin b=>rw[oV] at hc;cases hc
 |value f=>
  simp only[oV] at hc ⊢;split at hc
  ·exact lY hc
  ·exact lY hc
  ·cases hc
 |invoke v m=>
  simp only[oV] at hc ⊢;split at hc
  ·split at hc
   ·rename_i h2;(try simp only[h2]);exact lY hc
   ·cases hc
  ·cases hc
def WU{e:Env}{h:ao}{o:Oper}{r:eL × Env × ao}(ho:dY P G (whole P G aK) e h o=aa r):∃n,dY P G (ia P G aK n) e h o=aa r:=by
 unfold dY at ho ⊢;split at ho
 ·exact⟨0,ho⟩
 ·exact⟨0,ho⟩
 ·exact⟨0,ho⟩
 ·simp only[dt] at ho ⊢;obtain⟨q,hq,he⟩:=ho;obtain⟨n,hn⟩:=adt hq;exact⟨n,q,hn,he⟩
 ·exact⟨0,ho⟩
 ·exact⟨0,ho⟩
 ·exact⟨0,ho⟩
def Ao{ops:Array Oper}:∀{l:List Nat} {e:Env} {h:ao} {r:Xt × Env × ao},da P G (whole P G aK) ops l e h=aa r->∃n,da P G (ia P G aK n) ops l e h=aa r:=by
 intro l
 induction l with
 |nil=>intro e h r ho;exact⟨0,ho⟩|cons i l ih=>
  intro e h r ho;simp only[da] at ho ⊢;cases Gm:ops[i]? with
  |none=>rw[Gm] at ho;cases ho
  |some o=>
   rw[Gm] at ho;simp only at ho ⊢;cases hw:fg ops e o with
   |none=>rw[hw] at ho;cases ho
   |some b=>
    rw[hw] at ho;cases b with
    |false=>exact ih ho|true=>
     simp only at ho ⊢;cases bI:dY P G (whole P G aK) e h o with
     |none=>rw[bI] at ho;cases ho
     |some q=>
      rw[bI] at ho;have h1:=WU bI;obtain⟨r1,e1,ov⟩:=q;cases r1 with
      |panic x=>obtain⟨n,hn⟩:=h1;exact⟨n,by rw[hn];exact ho⟩
      |ret x=>obtain⟨n,h1,h2⟩:=two (λ_ _ _ hl hh=>Ed (iO hl) hh) (λ_ _ _ hl hh=>o6 (iO hl) hh) h1 (ih ho);exact⟨n,by rw[h1];exact h2⟩
def YN{ops:Array Oper}{e:Env}{h:ao}{r m:Nat}(hs:pM P G (whole P G aK) ops e h r m=ai):∃n,pM P G (ia P G aK n) ops e h r m=ai:=by
 unfold pM at hs ⊢;split at hs
 ·rename_i o er hr em hm h1 h2 h3;obtain⟨n,h2,h3⟩:=two (λ_ _ _ hl hh=>o6 (iO hl) hh) (λ_ _ _ hl hh=>o6 (iO hl) hh) (Ao h2) (Ao h3);refine⟨n,?_⟩;rw[h1,h2,h3];exact hs
 ·cases hs
def many{p:Nat->Nat->Prop}(hm:∀i n m,n<=m->p i n->p i m):∀k,(∀i,i<k->∃n,p i n)->∃n,∀i,i<k->p i n:=by
 intro k
 induction k with
 |zero=>intro _;exact⟨0,λi hi=>absurd hi (Nat.not_lt_zero i)⟩|succ k ih=>
  intro h;obtain⟨n,hn⟩:=ih λi hi=>h i (vV hi);obtain⟨m,uj⟩:=h k (Nat.lt_succ_self k);refine⟨max n m,λi hi=>?_⟩;rcases dT i k with az|eo
  ·exact hm _ _ _ (Fb _ _) (hn i az)
  ·rw[AR (AS.1 hi) eo];exact hm _ _ _ (CR _ _) uj
def apo{R R':Rec}(le:ob R R'){ops:Array Oper}{e:Env}{h:ao}{i j:Nat}(h1:lJ P G R ops e h i j=ai):lJ P G R' ops e h i j=ai:=by
 unfold lJ at h1 ⊢;rw[bA] at h1 ⊢;refine⟨h1.1,?_⟩;have h2:=h1.2;split at h2
 ·rename_i hx hy;(try simp only[hx,hy]);exact KG le h2
 ·rename_i hx hy;(try simp only[hx,hy]);exact KG le h2
 ·cases h2
def apn{ops:Array Oper}{e:Env}{h:ao}{i j:Nat}(h1:lJ P G (whole P G aK) ops e h i j=ai):∃n,lJ P G (ia P G aK n) ops e h i j=ai:=by
 unfold lJ at h1 ⊢;rw[bA] at h1;have h2:=h1.2;split at h2
 ·rename_i hx hy;obtain⟨n,hn⟩:=YN h2;exact⟨n,by rw[bA];exact⟨h1.1,by(try simp only[hx,hy]);exact hn⟩⟩
 ·rename_i hx hy;obtain⟨n,hn⟩:=YN h2;exact⟨n,by rw[bA];exact⟨h1.1,by(try simp only[hx,hy]);exact hn⟩⟩
 ·cases h2
def SO{ops:Array Oper}{e:Env}{h:ao}{k:Nat}(hc:mG P G (whole P G aK) ops e h k=ai):∃n,mG P G (ia P G aK n) ops e h k=ai:=by
 rw[FB] at hc;obtain⟨o,x,er,hr,h1,h2,h3,h4⟩:=hc;obtain⟨n0,h3⟩:=Ao h3;have key:∀m,m<ops.size+1->∃n,∃em hm,da P G (ia P G aK n) ops (bL m) e h=aa (.normal,em,hm)/\dY P G (ia P G aK n) er hm o=aa (.ret x,er,hm):=by intro m hm;obtain⟨em,BE,h5,h6⟩:=h4 m (AS.1 hm);obtain⟨n,q1,q2⟩:=two (λ_ _ _ hl hh=>o6 (iO hl) hh) (λ_ _ _ hl hh=>Ed (iO hl) hh) (Ao h5) (WU h6);exact⟨n,em,BE,q1,q2⟩
 obtain⟨n1,hn⟩:=many (p:=λm n=>∃em hm,da P G (ia P G aK n) ops (bL m) e h=aa (.normal,em,hm)/\dY P G (ia P G aK n) er hm o=aa (.ret x,er,hm))
  (λm n n' hl ⟨em,hm,q1,q2⟩=>⟨em,hm,o6 (iO hl) q1,Ed (iO hl) q2⟩) (ops.size+1) key
 refine⟨max n0 n1,?_⟩;rw[FB];refine⟨o,x,er,hr,h1,h2,o6 (iO (Fb _ _)) h3,λm hm=>?_⟩;obtain⟨em,BE,q1,q2⟩:=hn m (AS.2 hm);exact⟨em,BE,o6 (iO (CR _ _)) q1,Ed (iO (CR _ _)) q2⟩
noncomputable def yA(P:bB)(G:Nat->Option (List AV))(R:Rec)(ops:Array Oper)(e:Env)(h:ao)(i j:Nat):Bool:=
 ((Region.before ops).getD j 0).testBit i||yB ops i j||lJ P G R ops e h i j||(px ops i j&&(mG P G R ops e h i||mG P G R ops e h j))
def Xa{R R':Rec}(le:ob R R'){ops:Array Oper}{e:Env}{h:ao}{i j:Nat}(hp:yA P G R ops e h i j=ai):yA P G R' ops e h i j=ai:=by
 unfold yA at hp ⊢;simp only[uM,bA] at hp ⊢;rcases hp with(h1|h1)|h1
 ·exact .inl (.inl h1)
 ·exact .inl (.inr (apo le h1))
 ·exact .inr ⟨h1.1,h1.2.imp (II le) (II le)⟩
def ajO{ops:Array Oper}{e:Env}{h:ao}{i j:Nat}(hp:yA P G (whole P G aK) ops e h i j=ai):∃n,yA P G (ia P G aK n) ops e h i j=ai:=by
 unfold yA at hp ⊢;simp only[uM,bA] at hp ⊢;rcases hp with(h1|h1)|⟨h1,h2|h2⟩
 ·exact⟨0,.inl (.inl h1)⟩
 ·obtain⟨n,hn⟩:=apn h1;exact⟨n,.inl (.inr hn)⟩
 ·obtain⟨n,hn⟩:=SO h2;exact⟨n,.inr ⟨h1,.inl hn⟩⟩
 ·obtain⟨n,hn⟩:=SO h2;exact⟨n,.inr ⟨h1,.inr hn⟩⟩
def TO{ops:Array Oper}{e:Env}{h:ao}(hs:mj P G (whole P G aK) ops e h=ai):∃n,mj P G (ia P G aK n) ops e h=ai:=by
 unfold mj at hs ⊢;simp only[bA,eE,fD] at hs ⊢;obtain⟨h1,h2⟩:=hs;have key:∀j,j<ops.size->∃n,∀i,i<j->yA P G (ia P G aK n) ops e h i j=ai:=by intro j hj;exact many (p:=λi n=>yA P G (ia P G aK n) ops e h i j=ai) (λi n m hl=>Xa (iO hl)) j λi hi=>ajO (h2 j hj i hi)
 obtain⟨n,hn⟩:=many (p:=λj n=>∀i,i<j->yA P G (ia P G aK n) ops e h i j=ai) (λj n m hl hh i hi=>Xa (iO hl) (hh i hi)) ops.size key;exact⟨n,h1,hn⟩
def ajL{ops:Array Oper}{e:Env}{h:ao}{i:Nat}(hs:si P G (whole P G aK) ops e h i=ai):∃n,si P G (ia P G aK n) ops e h i=ai:=by
 unfold si at hs ⊢;split at hs
 ·rename_i h1 h2;obtain⟨n,h1,h2⟩:=two (λ_ _ _ hl hh=>o6 (iO hl) hh) (λ_ _ _ hl hh=>o6 (iO hl) hh) (Ao h1) (Ao h2);refine⟨n,?_⟩;rw[h1,h2];exact hs
 ·cases hs
def stores_fin{ops:Array Oper}{e:Env}{h:ao}(D:tN P G (whole P G aK) ops e h=ai):∃n,tN P G (ia P G aK n) ops e h=ai:=by obtain⟨i,h1,h2,h3,h4⟩:=stores_cases D;obtain⟨n,hn⟩:=TO h4;obtain⟨m,hm⟩:=ajL h3;exact⟨max n m,stores_of h1 h2 (WY (iO (CR n m)) hm) (MK (iO (Fb n m)) hn)⟩
def ad3{c:Code}{e:Env}{h:ao}{r:Xt × Env × ao}(hc:fy P G (whole P G aK) c e h=aa r):∃n,fy P G (ia P G aK n) c e h=aa r:=by
 cases c with
 |region id ops draw=>
  cases draw with
  |false=>simp only[fy,ju,if_false] at hc ⊢;exact Ao hc|true=>
   simp only[fy,if_true] at hc ⊢;split at hc
   ·rename_i hf;split at hc
    ·rename_i h1;obtain⟨n,hn⟩:∃n,(mj P G (ia P G aK n) ops e h||tN P G (ia P G aK n) ops e h)=ai:=by
      rcases (uM _ _).mp hf with q|q
      ·obtain⟨n,hn⟩:=TO q;exact⟨n,by rw[hn];rfl⟩
      ·obtain⟨n,hn⟩:=stores_fin q;exact⟨n,by rw[hn,Q4]⟩
     obtain⟨m,hm⟩:=Ao h1;refine⟨max n m,?_⟩;rw[aD (any_le (iO (Fb n m)) hn)];simp only[o6 (iO (CR n m)) hm];exact hc
    ·cases hc
   ·cases hc
 |seq a b=>
  simp only[fy] at hc ⊢;cases ha:(whole P G aK).code a e h with
  |none=>rw[ha] at hc;cases hc
  |some q=>
   rw[ha] at hc;have h1:=lY ha;obtain⟨o,e1,ov⟩:=q;by_cases iE:o=.normal
   ·subst iE;obtain⟨n,h1,h2⟩:=two (λ_ _ _ hl hh=>(iO hl).code _ _ _ _ hh) (λ_ _ _ hl hh=>(iO hl).code _ _ _ _ hh) h1 (lY hc);exact⟨n,by rw[h1];exact h2⟩
   ·obtain⟨n,h1⟩:=h1;refine⟨n,?_⟩;rw[h1];cases o<;>first|exact absurd rfl iE|exact hc
 |scope a=>simp only[fy] at hc ⊢;exact lY hc|cond q a b=>
  simp only[fy] at hc ⊢;split at hc
  ·exact lY hc
  ·exact lY hc
  ·cases hc
 |block id a=>
  simp only[fy] at hc ⊢;cases ha:(whole P G aK).code a e h with
  |none=>rw[ha] at hc;cases hc
  |some q=>rw[ha] at hc;obtain⟨n,h1⟩:=lY ha;exact⟨n,by rw[h1];exact hc⟩
 |loop a=>
  simp only[fy] at hc ⊢;cases ha:(whole P G aK).code a e h with
  |none=>rw[ha] at hc;cases hc
  |some q=>
   rw[ha] at hc;have h1:=lY ha;obtain⟨o,e1,ov⟩:=q;by_cases iE:o=.normal
   ·subst iE;obtain⟨n,h1,h2⟩:=two (λ_ _ _ hl hh=>(iO hl).code _ _ _ _ hh) (λ_ _ _ hl hh=>(iO hl).code _ _ _ _ hh) h1 (lY hc);exact⟨n,by rw[h1];exact h2⟩
   ·obtain⟨n,h1⟩:=h1;refine⟨n,?_⟩;rw[h1];cases o<;>first|exact absurd rfl iE|exact hc
 |rangeFunc f ps a b=>
  simp only[fy] at hc ⊢;split at hc
  ·generalize cV:(whole P G aK).call _ _ _=q at hc;cases q with
   |none=>cases hc
   |some q=>obtain⟨n,hn⟩:=lY cV;exact⟨n,by rw[hn];exact hc⟩
  ·cases hc
 |_=>exact⟨0,hc⟩
def aqx{fn:Func}{e:Env}:∀{ds:List (bq × List AV)} {m:Option (AV × Bool)} {h:ao} {r:eL × ao},gK P G (whole P G aK) fn e ds m h=aa r->∃n,gK P G (ia P G aK n) fn e ds m h=aa r:=by
 intro ds
 induction ds with
 |nil=>intro m h r hu;exact⟨0,by cases m<;>exact hu⟩
 |cons d ds ih=>
  intro m h r hu;obtain⟨g,args⟩:=d;simp only[gK] at hu ⊢;cases hd:(whole P G aK).jH g args m h with
  |none=>rw[hd] at hu;cases hu
  |some q=>
   rw[hd] at hu;have h1:=lY hd;obtain⟨r1,m1,ov⟩:=q;cases r1 with
   |panic x=>simp at hu|ret x=>
    have fin:∀m2,gK P G (whole P G aK) fn e ds m2 ov=aa r->∃n,(ia P G aK n).jH g args m h=aa (.ret x,m1,ov)/\gK P G (ia P G aK n) fn e ds m2 ov=aa r:=λm2 hu=>
     two (λ_ _ _ hl hh=>(iO hl).jH _ _ _ _ _ hh) (λ_ _ _ hl hh=>QQ (iO hl) hh) h1 (ih hu)
    rcases m1 with _|⟨y,b⟩
    ·obtain⟨n,h1,h2⟩:=fin _ hu;exact⟨n,by rw[h1];exact h2⟩
    ·cases b with
     |true=>obtain⟨n,h1,h2⟩:=fin _ hu;exact⟨n,by rw[h1];exact h2⟩
     |false=>obtain⟨n,h1,h2⟩:=fin _ hu;exact⟨n,by rw[h1];exact h2⟩
def SB{g:bq}{args:List AV}{m:Option (AV × Bool)}{h:ao}{r:eL × Option (AV × Bool) × ao}(hb:rF P G (whole P G aK) g args m h=aa r):∃n,rF P G (ia P G aK n) g args m h=aa r:=by
 unfold rF at hb ⊢;split at hb
 ·cases hb
 ·rename_i fn gG;simp only[gG];split at hb
  ·cases hb
  ·rename_i body mK
   (try simp only[mK])
   generalize Bp:(whole P G aK).code body _ h=q at hb;cases q with
   |none=>cases hb
   |some q=>
    have h1:=lY Bp;obtain⟨o,e1,ov⟩:=q;cases o with
    |exit id=>cases hb
    |_=>simp only[dt] at hb;obtain⟨q,hq,he⟩:=hb;obtain⟨n,h1,h2⟩:=two (λ_ _ _ hl hh=>(iO hl).code _ _ _ _ hh) (λ_ _ _ hl hh=>QQ (iO hl) hh) h1 (aqx hq);exact⟨n,by rw[h1];simp only[h2,eX,he]⟩
def afG{g:bq}{args:List AV}{h:ao}{r:eL × ao}(hb:qK P G (whole P G aK) aK g args h=aa r):∃n,qK P G (ia P G aK n) aK g args h=aa r:=by
 unfold qK at hb ⊢;split at hb
 ·exact⟨0,hb⟩
 ·simp only[dt] at hb ⊢;obtain⟨q,hq,he⟩:=hb;obtain⟨n,hn⟩:=SB hq;exact⟨n,q,hn,he⟩
def amO{l:Nat}{args:List AV}{h:ao}{r:eL × ao}(hb:vL (whole P G aK) l args h=aa r):∃n,vL (ia P G aK n) l args h=aa r:=by
 unfold vL at hb ⊢;split at hb
 ·cases hb
 ·rename_i rc hrc
  (try simp only[hrc])
  split at hb
  ·rename_i dV;simp only[dV,if_true];split at hb
   ·rename_i e1 h1 ha;split at hb
    ·rename_i r2 jg;split at hb
     ·rename_i cd;generalize Bp:(whole P G aK).code _ e1 _=q at hb;cases q with
      |none=>cases hb
      |some q=>obtain⟨n,g1,g2⟩:=two (λ_ _ _ hl hh=>(iO hl).code _ _ _ _ hh) (λ_ _ _ hl hh=>(iO hl).code _ _ _ _ hh) (lY ha) (lY Bp);exact⟨n,by rw[g1];simp only[jg,cd,if_true];rw[g2];exact hb⟩
     ·cases hb
    ·cases hb
   ·cases hb
  ·cases hb
def J7{α:Type}{a b:Option α}(h1:∀r,a=aa r->b=aa r)(h2:∀r,b=aa r->a=aa r):a=b:=by
 cases ha:a with
 |some r=>exact(h1 r ha).symm|none=>
  cases hb:b with|none=>rfl|some r=>rw[h2 r hb] at ha;cases ha
def rq(c:Code)(e:Env)(h:ao):(whole P G aK).code c e h=fy P G (whole P G aK) c e h:=
 J7 (λr hr=>by
  obtain⟨n,hn⟩:=lY hr;have:=(G8 (P:=P) (G:=G) (aK:=aK) n).code c e h r hn;exact Ta (AF n) this)
  (λr hr=>by obtain⟨n,hn⟩:=ad3 hr;exact(AF (n+1)).code c e h r hn)
def HU(g:bq)(a:List AV)(h:ao):(whole P G aK).call g a h=qK P G (whole P G aK) aK g a h:=
 J7 (λr hr=>by
  obtain⟨n,hn⟩:=lY hr;have:=(G8 (P:=P) (G:=G) (aK:=aK) n).call g a h r hn;exact Ub (AF n) this)
  (λr hr=>by obtain⟨n,hn⟩:=afG hr;exact(AF (n+1)).call g a h r hn)
def aqS(g:bq)(a:List AV)(m:Option (AV × Bool))(h:ao):(whole P G aK).jH g a m h=rF P G (whole P G aK) g a m h:=
 J7 (λr hr=>by
  obtain⟨n,hn⟩:=lY hr;have:=(G8 (P:=P) (G:=G) (aK:=aK) n).jH g a m h r hn;exact Mo (AF n) this)
  (λr hr=>by obtain⟨n,hn⟩:=SB hr;exact(AF (n+1)).jH g a m h r hn)
def aqT(l:Nat)(a:List AV)(h:ao):(whole P G aK).round l a h=vL (whole P G aK) l a h:=
 J7 (λr hr=>by
  obtain⟨n,hn⟩:=lY hr;have:=(G8 (P:=P) (G:=G) (aK:=aK) n).round l a h r hn;exact XJ (AF n) this)
  (λr hr=>by obtain⟨n,hn⟩:=amO hr;exact(AF (n+1)).round l a h r hn)
end
end Go.AE
end
section
namespace Go.AE
def Env.st(e:Env)(d:Nat)(x:AV):Env:={e with tmps:=e.tmps.set d x}
def akQ(e:Env)(d:Nat)(x):e.put (aa d) x=e.st d x:=rfl
def akO(e:Env)(x):e.put au x=e:=rfl
def KF(e:Env)(d t)(x):(e.st d x).get t=if d=t then x else e.get t:=D7 e.tmps d t x
def apj(e:Env)(d)(x):(e.st d x).defers=e.defers:=rfl
def apk(e:Env)(d)(x):(e.st d x).cO=e.cO:=rfl
def YL(e:Env)(d)(x):(e.st d x).round=e.round:=rfl
def Env.start(args:List AV)(p:Option (AV × Bool)):Env:={tmps:={ch:=[],base:=args},defers:=[],cO:=p,round:=au}
def apt(args)(p)(t):(Env.start args p).get t=args.getD t (.tuple []):=rfl
def aps(args)(p):(Env.start args p).defers=[]:=rfl
def apu(args)(p):(Env.start args p).cO=p:=rfl
def Qz(args)(p):(Env.start args p).round=au:=rfl
def zw(e:Env)(t:Nat):e.eval (.tmp t)=e.get t:=rfl
def eval_const(e:Env)(v):e.eval (.const v)=sd v:=rfl
def eval_func(e:Env)(f):e.eval (.func f)=.func (.func f) [] []:=rfl
def eval_global(e:Env)(g):e.eval (.global g)=.ptr (.eG g) 0:=rfl
def ajo(k)(n):sd (.int k n)=.v (.int k n):=rfl
def ajn(b):sd (.bool b)=.v (.bool b):=rfl
def ajt(s):sd (.string s)=.v (.string s):=rfl
def ajq:sd .nilIface=.v .nilIface:=rfl
def ajp:sd .nilFunc=.v .nilFunc:=rfl
def ajr:sd (.pointer au)=.v (.pointer au):=rfl
def ajs:sd (.slice au 0 0)=.list .nil 0 []:=rfl
def ajm(cs):sd (.agg ⟨cs⟩)=.agg (cs.map vA):=rfl
section
variable (P:bB) (G:Nat->Option (List AV)) (R:Rec)
def qo(ops:Array Oper):List Oper->Env->ao->Option (Xt × Env × ao)
 | [],e,h=>aa (.normal,e,h)
 |o::rest,e,h=>
  match fg ops e o with
  |none=>au
  |some ay=>qo ops rest (e.put o.dst (.tuple [])) h
  |some ai=>
   match dY P G R e h o with
   |some (.ret x,e,h)=>qo ops rest (e.put o.dst x) h
   |some (.panic x,e,h)=>aa (.panic x,e,h)
   |none=>au
def Pm(ops:Array Oper):∀(n i:Nat),i+n=ops.size->∀(e:Env) (h:ao),da P G R ops (aaz i n) e h=qo P G R ops (ops.toList.drop i) e h:=by
 intro n
 induction n with
 |zero=>intro i hi e h;rw[List.drop_eq_nil_of_le (by simp;omega)];rfl
 |succ n ih=>
  intro i hi e h;have az:i<ops.size:=by omega
  have ho:ops[i]?=aa ops[i]:=mf az;rw[aaA,ER (by simpa using az)];simp only[da,qo,ho,ZB];cases fg ops e ops[i] with
  |none=>rfl|some b=>
   cases b with
   |false=>exact ih (i+1) ah _ _|true=>
    simp only;cases dY P G R e h ops[i] with
    |none=>rfl|some q=>
     obtain⟨r,e1,h1⟩:=q;cases r with|ret x=>exact ih (i+1) ah _ _|panic x=>rfl
def yZ(r:Option (Xt × Env × ao))(Q:Xt->Env->ao->Prop):Prop:=∃o e h,r=aa (o,e,h)/\Q o e h
def bM(c:Code)(e:Env)(h:ao)(Q:Xt->Env->ao->Prop):Prop:=yZ (R.code c e h) Q
def cJ(ops:Array Oper)(l:List Oper)(e:Env)(h:ao)(Q:Xt->Env->ao->Prop):Prop:=yZ (qo P G R ops l e h) Q
end
def vC{o}{e}{h}{Q}:yZ (aa (o,e,h)) Q=Q o e h:=
 propext ⟨λ⟨_,_,_,h1,h2⟩=>by simp only[dE,cW] at h1;obtain⟨rfl,rfl,rfl⟩:=h1;exact h2,λhq=>⟨o,e,h,rfl,hq⟩⟩
def sg{Q}:yZ au Q=False:=propext ⟨λ⟨_,_,_,h1,_⟩=>(by cases h1),False.elim⟩
def yZ.mono{r}{Q Q'}(h:∀o e h,Q o e h->Q' o e h)(hr:yZ r Q):yZ r Q':=by obtain⟨o,e,h1,h2,h3⟩:=hr;exact⟨o,e,h1,h2,h _ _ _ h3⟩
def guardOf(ops:Array Oper)(j:Nat):Option Tmp:=(ops[j]?).bind (·.dst)
def af9{o}{l}:guardOf ⟨o::l⟩ 0=o.dst:=rfl
def af8{o}{l}{n}:guardOf ⟨o::l⟩ (n+1)=guardOf ⟨l⟩ n:=by simp[guardOf]
def vS(R:Rec)(a b:Code)(e:Env)(h:ao)(Q:Xt->Env->ao->Prop)(x:AV):Prop:=
 match x with
 | .v (.bool t)=>if t=ai then bM R a e h Q else bM R b e h Q
 |_=>False
def nD(P:bB)(G:Nat->Option (List AV))(R:Rec)(ops:Array Oper)(o:Oper)(rest:List Oper)(e:Env)(h:ao)(Q:Xt->Env->ao->Prop)(want:Bool)(x:AV):Prop:=
 match x with
 | .v (.bool b)=>if b=want then cJ P G R ops (o::rest) e h Q else cJ P G R ops rest (e.put o.dst (.tuple [])) h Q
 | .tuple []=>cJ P G R ops rest (e.put o.dst (.tuple [])) h Q
 |_=>False
def LR(P:bB)(G:Nat->Option (List AV))(R:Rec)(ops:Array Oper)(o:Oper)(rest:List Oper)(e:Env)(h:ao)(Q:Xt->Env->ao->Prop)(want:Bool)(d:Option Tmp):Prop:=
 match d with
 |some g=>nD P G R ops o rest e h Q want (e.get g)
 |none=>cJ P G R ops rest (e.put o.dst (.tuple [])) h Q
section
variable {P:bB} {G:Nat->Option (List AV)} {R:Rec} {a b:Code} {e:Env} {h:ao} {Q:Xt->Env->ao->Prop} {ops:Array Oper} {o:Oper} {rest:List Oper} {p:Prop} [Decidable p] {t:Bool}
def adj:vS R a b e h Q (.v (.bool ai))=bM R a e h Q:=rfl
def adg:vS R a b e h Q (.v (.bool ay))=bM R b e h Q:=rfl
def adf(h1:p->bM R a e h Q)(h2:¬p->bM R b e h Q):vS R a b e h Q (.v (.bool (decide p))):=by
 unfold vS;simp only[decide_eq_true_eq];split
 ·rename_i hp;exact h1 hp
 ·rename_i hp;exact h2 hp
def adi(h1:p->bM R b e h Q)(h2:¬p->bM R a e h Q):vS R a b e h Q (.v (.bool (!decide p))):=by
 unfold vS;by_cases hp:p
 ·simp only[hp,decide_true,HX,ju,if_false];exact h1 hp
 ·simp only[hp,decide_false,yQ,if_true];exact h2 hp
def ade(h1:t=ai->bM R a e h Q)(h2:t=ay->bM R b e h Q):vS R a b e h Q (.v (.bool t)):=by
 cases t
 ·exact h2 rfl
 ·exact h1 rfl
def agi:nD P G R ops o rest e h Q ai (.v (.bool ai))=cJ P G R ops (o::rest) e h Q:=rfl
def agh:nD P G R ops o rest e h Q ai (.v (.bool ay))=cJ P G R ops rest (e.put o.dst (.tuple [])) h Q:=rfl
def agd:nD P G R ops o rest e h Q ay (.v (.bool ai))=cJ P G R ops rest (e.put o.dst (.tuple [])) h Q:=rfl
def agc:nD P G R ops o rest e h Q ay (.v (.bool ay))=cJ P G R ops (o::rest) e h Q:=rfl
def agj{w:Bool}:nD P G R ops o rest e h Q w (.tuple [])=cJ P G R ops rest (e.put o.dst (.tuple [])) h Q:=rfl
def agb{w:Bool}(h1:p->nD P G R ops o rest e h Q w (.v (.bool ai)))(h2:¬p->nD P G R ops o rest e h Q w (.v (.bool ay))):nD P G R ops o rest e h Q w (.v (.bool (decide p))):=by
 by_cases hp:p
 ·simp only[hp,decide_true];exact h1 hp
 ·simp only[hp,decide_false];exact h2 hp
def agf{w:Bool}(h1:p->nD P G R ops o rest e h Q w (.v (.bool ay)))(h2:¬p->nD P G R ops o rest e h Q w (.v (.bool ai))):nD P G R ops o rest e h Q w (.v (.bool (!decide p))):=by
 by_cases hp:p
 ·simp only[hp,decide_true];exact h1 hp
 ·simp only[hp,decide_false];exact h2 hp
def aga{w:Bool}(h1:t=ai->nD P G R ops o rest e h Q w (.v (.bool ai)))(h2:t=ay->nD P G R ops o rest e h Q w (.v (.bool ay))):nD P G R ops o rest e h Q w (.v (.bool t)):=by
 cases t
 ·exact h2 rfl
 ·exact h1 rfl
def age{w:Bool}(h1:t=ai->nD P G R ops o rest e h Q w (.v (.bool ay)))(h2:t=ay->nD P G R ops o rest e h Q w (.v (.bool ai))):nD P G R ops o rest e h Q w (.v (.bool (!t))):=by
 cases t
 ·exact h2 rfl
 ·exact h1 rfl
def adh(h1:t=ai->bM R b e h Q)(h2:t=ay->bM R a e h Q):vS R a b e h Q (.v (.bool (!t))):=by
 cases t
 ·exact h2 rfl
 ·exact h1 rfl
def aoW{w:Bool}{g:Tmp}:LR P G R ops o rest e h Q w (aa g)=nD P G R ops o rest e h Q w (e.get g):=rfl
end
def HA(R:Rec)(c:Code)(Q:Xt->Env->ao->Prop):Xt->Env->ao->Prop
 | .normal,e,h=>bM R c e h Q
 |o,e,h=>Q o e h
def Fx(id:Nat)(Q:Xt->Env->ao->Prop):Xt->Env->ao->Prop
 | .exit i,e,h=>if i=id then Q .normal e h else Q (.exit i) e h
 |o,e,h=>Q o e h
def xT(Q:Xt->Env->ao->Prop):Xt->Env->ao->Prop
 | .normal,e,h=>Q .normal e h
 |_,_,_=>False
section
variable {R:Rec} {c:Code} {Q:Xt->Env->ao->Prop} {e:Env} {h:ao}
def aox:HA R c Q .normal e h=bM R c e h Q:=rfl
def aoz:HA R c Q .ret e h=Q .ret e h:=rfl
def aow{i:Nat}:HA R c Q (.exit i) e h=Q (.exit i) e h:=rfl
def aoy{x:AV}:HA R c Q (.panic x) e h=Q (.panic x) e h:=rfl
def ac4{id:Nat}:Fx id Q .normal e h=Q .normal e h:=rfl
def ac6{id:Nat}:Fx id Q .ret e h=Q .ret e h:=rfl
def Sy{id i:Nat}:Fx id Q (.exit i) e h=if i=id then Q .normal e h else Q (.exit i) e h:=rfl
def ac5{id:Nat}{x:AV}:Fx id Q (.panic x) e h=Q (.panic x) e h:=rfl
def adx:xT Q .normal e h=Q .normal e h:=rfl
def ady{x:AV}:xT Q (.panic x) e h=False:=rfl
end
section
variable {P:bB} {G:Nat->Option (List AV)} {aK:bq->Option (List AV->ao->Option (AV × ao))} {Q:Xt->Env->ao->Prop} {e:Env} {h:ao}
def an7:bM (whole P G aK) .skip e h Q=Q .normal e h:=by rw[bM,rq];exact vC
def an0{l:Nat}:bM (whole P G aK) (.label l) e h Q=Q .normal e h:=by rw[bM,rq];exact vC
def an6{a:Code}:bM (whole P G aK) (.scope a) e h Q=bM (whole P G aK) a e h Q:=by unfold bM;rw[rq];simp only[fy]
def anZ{id:Nat}:bM (whole P G aK) (.exit id) e h Q=Q (.exit id) e h:=by rw[bM,rq];exact vC
def an5:bM (whole P G aK) .ret e h Q=Q .ret e h:=by rw[bM,rq];exact vC
def run_seq{a b:Code}:bM (whole P G aK) (.seq a b) e h Q=bM (whole P G aK) a e h (HA (whole P G aK) b Q):=by
 unfold bM;rw[rq];simp only[fy];cases ha:(whole P G aK).code a e h with|none=>simp only[sg]|some q=>obtain⟨o,e1,h1⟩:=q;cases o<;>simp only[vC]<;>rfl
def anX{c:bH}{a b:Code}:bM (whole P G aK) (.cond c a b) e h Q=vS (whole P G aK) a b e h Q (e.eval c):=by
 unfold bM vS;rw[rq];simp only[fy];generalize e.eval c=x;rcases x with _|v|_|_|_|_|_|_|_|_|_
 case v=>
  cases v with
  |bool t=>cases t<;>rfl
  |_=>simp only[sg]
 all_goals (simp only[sg])
def anW{id:Nat}{a:Code}:bM (whole P G aK) (.block id a) e h Q=bM (whole P G aK) a e h (Fx id Q):=by
 unfold bM;rw[rq];simp only[fy];cases ha:(whole P G aK).code a e h with
 |none=>simp only[sg]|some q=>
  obtain⟨o,e1,h1⟩:=q;cases o with
  |exit i=>simp only[vC,Sy];split<;>simp only[vC]
  |_=>simp only[vC]<;>rfl
def an4{id:Nat}{ops:Array Oper}:bM (whole P G aK) (.region id ops ay) e h Q=cJ P G (whole P G aK) ops ops.toList e h Q:=by unfold bM cJ;rw[rq];simp only[fy,ju,if_false];have:=Pm P G (whole P G aK) ops ops.size 0 ah e h;rw[iB] at this;rw[<-this,Lu]
def afo{R:Rec}{ops:Array Oper}(hd:MF ops=ai)(e:Env)(h:ao):mj P G R ops e h=ai:=by unfold MF at hd;unfold mj;simp only[bA,eE,fD,uM] at hd ⊢;exact⟨hd.1,λj hj i hi=>.inl (.inl (hd.2 j hj i hi))⟩
def Qm{id:Nat}{ops:Array Oper}(hd:mj P G (whole P G aK) ops e h=ai)(hr:cJ P G (whole P G aK) ops ops.toList e h (xT Q)):bM (whole P G aK) (.region id ops ai) e h Q:=by
 unfold bM cJ at *
 rw[rq];simp only[fy,if_true,hd,ZR];have:=Pm P G (whole P G aK) ops ops.size 0 ah e h;rw[iB] at this;rw[<-this,<-Lu] at hr;obtain⟨o,e1,h1,h2,h3⟩:=hr;rw[h2];cases o with|normal=>exact⟨_,_,_,rfl,h3⟩|_=>exact h3.elim
def run_draw_stores{id:Nat}{ops:Array Oper}(D:tN P G (whole P G aK) ops e h=ai)(hr:cJ P G (whole P G aK) ops ops.toList e h (xT Q)):bM (whole P G aK) (.region id ops ai) e h Q:=by
 unfold bM cJ at *
 rw[rq];have:=Pm P G (whole P G aK) ops ops.size 0 ah e h;rw[iB] at this;rw[<-this,<-Lu] at hr;obtain⟨o,e1,h1,h2,h3⟩:=hr;simp only[fy,if_true,D,Q4,h2];cases o with|normal=>exact⟨_,_,_,rfl,h3⟩|_=>exact h3.elim
def uF{id:Nat}{ops:Array Oper}(hd:MF ops=ai)(hr:cJ P G (whole P G aK) ops ops.toList e h (xT Q)):bM (whole P G aK) (.region id ops ai) e h Q:=
 Qm (afo hd e h) hr
def Cg(I:Nat->Env->ao->Prop)(n:Nat)(Q:Xt->Env->ao->Prop):Xt->Env->ao->Prop
 | .normal,e,h=>∃m,m<n/\I m e h
 |o,e,h=>Q o e h
def aiB{I:Nat->Env->ao->Prop}{n:Nat}:Cg I n Q .normal e h=∃m,m<n/\I m e h:=rfl
def aiD{I:Nat->Env->ao->Prop}{n:Nat}:Cg I n Q .ret e h=Q .ret e h:=rfl
def aiA{I:Nat->Env->ao->Prop}{n i:Nat}:Cg I n Q (.exit i) e h=Q (.exit i) e h:=rfl
def aiC{I:Nat->Env->ao->Prop}{n:Nat}{x:AV}:Cg I n Q (.panic x) e h=Q (.panic x) e h:=rfl
def de{c:Code}(I:Nat->Env->ao->Prop)(lD:∀n e h,I n e h->bM (whole P G aK) c e h (Cg I n Q)):
 ∀n e h,I n e h->bM (whole P G aK) (.loop c) e h Q:=by
 intro n
 induction n using Ry with
 |_ n ih=>
  intro e h hi;obtain⟨o,e1,h1,h2,h3⟩:=lD n e h hi;unfold bM;rw[rq];simp only[fy,h2];cases o with
  |normal=>obtain⟨m,hm,Bx⟩:=h3;exact ih m hm e1 h1 Bx
  |_=>exact⟨_,_,_,rfl,h3⟩
def bM.mono{R:Rec}{c:Code}{Q1:Xt->Env->ao->Prop}{h1:ao}(hq:∀o e h,Q o e h->Q1 o e h)(hr:bM R c e h1 Q):bM R c e h1 Q1:=yZ.mono hq hr
def xU(P:bB)(G:Nat->Option (List AV))(R:Rec)(fn:Func)(r:eL)(h':ao):Xt->Env->ao->Prop
 | .normal,e,h=>gK P G R fn e e.defers au h=aa (r,h')
 | .ret,e,h=>gK P G R fn e e.defers au h=aa (r,h')
 | .panic x,e,h=>gK P G R fn e e.defers (aa (x,ay)) h=aa (r,h')
 | .exit _,_,_=>False
def cN{g:bq}{fn:Func}{body:Code}{args:List AV}{r:eL}{h':ao}(hp:aK g=au)(gG:P.funcs[g]?=aa fn)(hb:fn.body=aa body)
 (hr:bM (whole P G aK) body (Env.start args au) h (xU P G (whole P G aK) fn r h')):(whole P G aK).call g args h=aa (r,h'):=by
 rw[HU];unfold qK;rw[hp];unfold rF;rw[gG];simp only[hb];obtain⟨o,e1,h1,h2,h3⟩:=hr;have h2:(whole P G aK).code body {tmps:={ch:=[],base:=args},defers:=[],cO:=au,round:=au} h=aa (o,e1,h1):=h2;rw[h2];cases o with|exit i=>exact h3.elim|_=>simp only[xU] at h3;simp only[h3,eX]
def aeB{g:bq}{fn:Func}{body:Code}{args:List AV}{m m':Option (AV × Bool)}{r:eL}{h':ao}(gG:P.funcs[g]?=aa fn)(hb:fn.body=aa body)
 (hr:bM (whole P G aK) body (Env.start args m) h λo e h1=>xU P G (whole P G aK) fn r h' o e h1/\e.cO=m'):(whole P G aK).jH g args m h=aa (r,m',h'):=by
 rw[aqS];unfold rF;rw[gG];simp only[hb];obtain⟨o,e1,h1,h2,h3,h4⟩:=hr;have h2:(whole P G aK).code body {tmps:={ch:=[],base:=args},defers:=[],cO:=m,round:=au} h=aa (o,e1,h1):=h2;rw[h2];cases o with|exit i=>exact h3.elim|_=>simp only[xU] at h3;simp only[h3,eX,h4]
def ae1{R:Rec}{fn:Func}{r:eL}{h':ao}:xU P G R fn r h' .normal e h=(gK P G R fn e e.defers au h=aa (r,h')):=rfl
def ae3{R:Rec}{fn:Func}{r:eL}{h':ao}:xU P G R fn r h' .ret e h=(gK P G R fn e e.defers au h=aa (r,h')):=rfl
def ae2{R:Rec}{fn:Func}{r:eL}{h':ao}{x:AV}:xU P G R fn r h' (.panic x) e h=(gK P G R fn e e.defers (aa (x,ay)) h=aa (r,h')):=rfl
def aqy{R:Rec}{fn:Func}:gK P G R fn e [] au h=(Hc P G fn e h).map λx=>(.ret x,h):=rfl
def aqz{R:Rec}{fn:Func}{x:AV}{b:Bool}:gK P G R fn e [] (aa (x,b)) h=aa (.panic x,h):=rfl
section
variable {R:Rec} {ops:Array Oper} {rest:List Oper} {d:Option Tmp} {ty:aH} {pos:String} {af:Array Edge}
def anS:cJ P G R ops [] e h Q=Q .normal e h:=vC
def anR{op:Op}{j:Nat}{want:Bool}:cJ P G R ops (⟨d,op,ty,pos,af,aa (j,want)⟩::rest) e h Q=
 LR P G R ops ⟨d,op,ty,pos,af,au⟩ rest e h Q want (guardOf ops j):=by
 unfold cJ guardOf LR nD cJ;simp only[qo,fg];cases (ops[j]?).bind (·.dst) with
 |none=>rfl|some g=>
  simp only;generalize e.get g=x;rcases x with _|v|_|_|_|cs|_|_|_|_|_
  case v=>
   cases v with
   |bool b=>
    simp only;by_cases hb:b=want
    ·subst hb;simp only[beq_self_eq_true,if_true];rfl
    ·have:(b==want)=ay:=(by simpa using hb);simp only[this,aG hb]
   |_=>simp only[sg]
  case tuple=>cases cs<;>simp only[sg]
  all_goals (simp only[sg])
def after(P:bB)(G:Nat->Option (List AV))(R:Rec)(ops:Array Oper)(rest:List Oper)(d:Option Tmp)(e:Env)(Q:Xt->Env->ao->Prop):Option (AV × ao)->Prop
 |some (x,h)=>cJ P G R ops rest (e.put d x) h Q
 |none=>False
def abE{x:AV}:after P G R ops rest d e Q (aa (x,h))=cJ P G R ops rest (e.put d x) h Q:=rfl
def opsOf(o:Op):Bool:=
 match o with
 | .call _| .defer _| .panic _=>ay
 |_=>ai
def mB{op:Op}(ho:opsOf op=ai):cJ P G R ops (⟨d,op,ty,pos,af,au⟩::rest) e h Q=after P G R ops rest d e Q (dK P G e.eval h op):=by
 unfold cJ;simp only[qo,fg];have bI:dY P G R e h ⟨d,op,ty,pos,af,au⟩=(dK P G e.eval h op).map λ(x,h)=>(.ret x,e,h):=by cases op<;>first|rfl|(simp[opsOf] at ho)
 rw[bI];cases dK P G e.eval h op with|none=>simp only[LN,sg];rfl|some q=>obtain⟨x,h1⟩:=q;rfl
def LW(P:bB)(G:Nat->Option (List AV))(R:Rec)(ops:Array Oper)(rest:List Oper)(d:Option Tmp)(e:Env)(Q:Xt->Env->ao->Prop):Option (eL × ao)->Prop
 |some (.ret x,h)=>cJ P G R ops rest (e.put d x) h Q
 |some (.panic x,h)=>Q (.panic x) e h
 |none=>False
def abD{x:AV}:LW P G R ops rest d e Q (aa (.ret x,h))=cJ P G R ops rest (e.put d x) h Q:=rfl
def abC{x:AV}:LW P G R ops rest d e Q (aa (.panic x,h))=Q (.panic x) e h:=rfl
def anV{f:bH}{args:Array bH}{ts:Array aH}:cJ P G R ops (⟨d,.call {callee:=.value f,args,argTypes:=ts},ty,pos,af,au⟩::rest) e h Q=
 LW P G R ops rest d e Q (lO P R e h {callee:=.value f,args,argTypes:=ts}):=by
 unfold cJ;simp only[qo,fg,dY];cases lO P R e h {callee:=.value f,args,argTypes:=ts} with|none=>simp only[LN,sg];rfl|some q=>obtain⟨r,h1⟩:=q;cases r<;>simp only[eX,vC]<;>rfl
def SJ{g:bq}{args:Array bH}{ts:Array aH}:lO P R e h {callee:=.value (.func g),args,argTypes:=ts}=R.call g (args.toList.map e.eval) h:=by simp[lO,eval_func]
def SK{t:Nat}{args:Array bH}{ts:Array aH}:lO P R e h {callee:=.value (.tmp t),args,argTypes:=ts}=
 (match e.get t with
  | .func (.func g) first aA=>R.call g (first++args.toList.map e.eval++aA) h
  | .yield l=>R.round l (args.toList.map e.eval) h
  |_=>au):=rfl
def Xi:Builtin->Bool
 | .recover| .panic| .append=>ay
 |_=>ai
def Hw{b:Builtin}{args:Array bH}{ts:Array aH}(hb:Xi b=ai):cJ P G R ops (⟨d,.call {callee:=.builtin b,args,argTypes:=ts},ty,pos,af,au⟩::rest) e h Q=
 after P G R ops rest d e Q (jn P h b ts ty (args.toList.map e.eval)):=by
 unfold cJ;simp only[qo,fg];have bI:dY P G R e h ⟨d,.call {callee:=.builtin b,args,argTypes:=ts},ty,pos,af,au⟩=(jn P h b ts ty (args.toList.map e.eval)).map λ(x,h)=>(.ret x,e,h):=by cases b<;>first|rfl|(simp[Xi] at hb)
 rw[bI];cases jn P h b ts ty (args.toList.map e.eval) with|none=>simp only[LN,sg];rfl|some q=>obtain⟨x,h1⟩:=q;rfl
def amh(x:bH):cJ P G R ops (⟨d,.move x,ty,pos,af,au⟩::rest) e h Q=after P G R ops rest d e Q (dK P G e.eval h (.move x)):=mB rfl
def alU(x:bH):cJ P G R ops (⟨d,.assign x,ty,pos,af,au⟩::rest) e h Q=after P G R ops rest d e Q (dK P G e.eval h (.assign x)):=mB rfl
def amj(c a b:bH):cJ P G R ops (⟨d,.pick c a b,ty,pos,af,au⟩::rest) e h Q=after P G R ops rest d e Q (dK P G e.eval h (.pick c a b)):=mB rfl
def alS(t:aH):cJ P G R ops (⟨d,.alloc t,ty,pos,af,au⟩::rest) e h Q=after P G R ops rest d e Q (dK P G e.eval h (.alloc t)):=mB rfl
def alW(t:aH)(x:bH):cJ P G R ops (⟨d,.box t x,ty,pos,af,au⟩::rest) e h Q=after P G R ops rest d e Q (dK P G e.eval h (.box t x)):=mB rfl
def alX(t:aH)(ps:Array (Nat × bH)):cJ P G R ops (⟨d,.build t ps,ty,pos,af,au⟩::rest) e h Q=after P G R ops rest d e Q (dK P G e.eval h (.build t ps)):=mB rfl
def alY(t:aH)(n:Nat)(ps:Array (Nat × bH)):cJ P G R ops (⟨d,.buildSlice t n ps,ty,pos,af,au⟩::rest) e h Q=after P G R ops rest d e Q (dK P G e.eval h (.buildSlice t n ps)):=mB rfl
def amb(t:aH)(a:bH):cJ P G R ops (⟨d,.load t a,ty,pos,af,au⟩::rest) e h Q=after P G R ops rest d e Q (dK P G e.eval h (.load t a)):=mB rfl
def amm(t:aH)(a x:bH):cJ P G R ops (⟨d,.store t a x,ty,pos,af,au⟩::rest) e h Q=after P G R ops rest d e Q (dK P G e.eval h (.store t a x)):=mB rfl
def ami(x:bH):cJ P G R ops (⟨d,.nilCheck x,ty,pos,af,au⟩::rest) e h Q=after P G R ops rest d e Q (dK P G e.eval h (.nilCheck x)):=mB rfl
def alV(o:BinOp)(t:aH)(x y:bH)(yt:aH):cJ P G R ops (⟨d,.binOp o t x y yt,ty,pos,af,au⟩::rest) e h Q=after P G R ops rest d e Q (dK P G e.eval h (.binOp o t x y yt)):=mB rfl
def amo(o:UnOp)(t:aH)(x:bH):cJ P G R ops (⟨d,.unOp o t x,ty,pos,af,au⟩::rest) e h Q=after P G R ops rest d e Q (dK P G e.eval h (.unOp o t x)):=mB rfl
def al0(s t:aH)(x:bH):cJ P G R ops (⟨d,.convert s t x,ty,pos,af,au⟩::rest) e h Q=after P G R ops rest d e Q (dK P G e.eval h (.convert s t x)):=mB rfl
def amd(t:aH)(x:bH):cJ P G R ops (⟨d,.makeInterface t x,ty,pos,af,au⟩::rest) e h Q=after P G R ops rest d e Q (dK P G e.eval h (.makeInterface t x)):=mB rfl
def amc(fn:Fn)(first aA:Array bH):cJ P G R ops (⟨d,.makeFunc fn first aA,ty,pos,af,au⟩::rest) e h Q=after P G R ops rest d e Q (dK P G e.eval h (.makeFunc fn first aA)):=mB rfl
def ame(t:aH)(l c:bH):cJ P G R ops (⟨d,.makeSlice t l c,ty,pos,af,au⟩::rest) e h Q=after P G R ops rest d e Q (dK P G e.eval h (.makeSlice t l c)):=mB rfl
def aml(t:aH)(x:bH)(lo hi mx:Option bH):cJ P G R ops (⟨d,.slice t x lo hi mx,ty,pos,af,au⟩::rest) e h Q=after P G R ops rest d e Q (dK P G e.eval h (.slice t x lo hi mx)):=mB rfl
def al7(t:aH)(x:bH)(f:Nat):cJ P G R ops (⟨d,.fieldAddr t x f,ty,pos,af,au⟩::rest) e h Q=after P G R ops rest d e Q (dK P G e.eval h (.fieldAddr t x f)):=mB rfl
def al6(t:aH)(x:bH)(f:Nat):cJ P G R ops (⟨d,.field t x f,ty,pos,af,au⟩::rest) e h Q=after P G R ops rest d e Q (dK P G e.eval h (.field t x f)):=mB rfl
def al9(t:aH)(x i:bH):cJ P G R ops (⟨d,.indexAddr t x i,ty,pos,af,au⟩::rest) e h Q=after P G R ops rest d e Q (dK P G e.eval h (.indexAddr t x i)):=mB rfl
def al8(t:aH)(x i:bH):cJ P G R ops (⟨d,.index t x i,ty,pos,af,au⟩::rest) e h Q=after P G R ops rest d e Q (dK P G e.eval h (.index t x i)):=mB rfl
def amn(x:bH)(xt t:aH)(ok:Bool):cJ P G R ops (⟨d,.typeAssert x xt t ok,ty,pos,af,au⟩::rest) e h Q=after P G R ops rest d e Q (dK P G e.eval h (.typeAssert x xt t ok)):=mB rfl
def al5(x:bH)(i:Nat):cJ P G R ops (⟨d,.extract x i,ty,pos,af,au⟩::rest) e h Q=after P G R ops rest d e Q (dK P G e.eval h (.extract x i)):=mB rfl
def ama(args:Array bH)(ts:Array aH):cJ P G R ops (⟨d,.call {callee:=.builtin .len,args,argTypes:=ts},ty,pos,af,au⟩::rest) e h Q=after P G R ops rest d e Q (jn P h .len ts ty (args.toList.map e.eval)):=Hw rfl
def alZ(args:Array bH)(ts:Array aH):cJ P G R ops (⟨d,.call {callee:=.builtin .cap,args,argTypes:=ts},ty,pos,af,au⟩::rest) e h Q=after P G R ops rest d e Q (jn P h .cap ts ty (args.toList.map e.eval)):=Hw rfl
def alT(args:Array bH)(ts:Array aH):cJ P G R ops (⟨d,.call {callee:=.builtin .append,args,argTypes:=ts},ty,pos,af,au⟩::rest) e h Q=after P G R ops rest d e Q (rI P G d h .append ts ty (args.toList.map e.eval)):=by
 unfold cJ;simp only[qo,fg];have bI:dY P G R e h ⟨d,.call {callee:=.builtin .append,args,argTypes:=ts},ty,pos,af,au⟩=(rI P G d h .append ts ty (args.toList.map e.eval)).map λ(x,h)=>(.ret x,e,h):=rfl;rw[bI];cases rI P G d h .append ts ty (args.toList.map e.eval) with|none=>simp only[LN,sg];rfl|some q=>obtain⟨x,h1⟩:=q;rfl
def al3(args:Array bH)(ts:Array aH):cJ P G R ops (⟨d,.call {callee:=.builtin .copy,args,argTypes:=ts},ty,pos,af,au⟩::rest) e h Q=after P G R ops rest d e Q (jn P h .copy ts ty (args.toList.map e.eval)):=Hw rfl
def amg(args:Array bH)(ts:Array aH):cJ P G R ops (⟨d,.call {callee:=.builtin .min,args,argTypes:=ts},ty,pos,af,au⟩::rest) e h Q=after P G R ops rest d e Q (jn P h .min ts ty (args.toList.map e.eval)):=Hw rfl
def amf(args:Array bH)(ts:Array aH):cJ P G R ops (⟨d,.call {callee:=.builtin .max,args,argTypes:=ts},ty,pos,af,au⟩::rest) e h Q=after P G R ops rest d e Q (jn P h .max ts ty (args.toList.map e.eval)):=Hw rfl
def anT{x:bH}:cJ P G R ops (⟨d,.panic x,ty,pos,af,au⟩::rest) e h Q=(match e.eval x with| .iface t y=>Q (.panic (.iface t y)) e h|_=>False):=by unfold cJ;simp only[qo,fg,dY];generalize e.eval x=y;cases y<;>first|exact vC|exact sg
def anU{args:Array bH}{ts:Array aH}(hr:e.round=au):cJ P G R ops (⟨d,.call {callee:=.builtin .recover,args,argTypes:=ts},ty,pos,af,au⟩::rest) e h Q=
 (match e.cO with
  |some (x,ay)=>cJ P G R ops rest (({e with cO:=aa (x,ai)}:Env).put d x) h Q
  |_=>cJ P G R ops rest (e.put d (.v .nilIface)) h Q):=by
 unfold cJ;simp only[qo,fg,dY,hr,AW,ju,if_false];rcases hp:e.cO with _|⟨x,b⟩
 ·rfl
 ·cases b<;>rfl
def anQ{f:bH}{args:Array bH}{ts:Array aH}(hr:e.round=au):cJ P G R ops (⟨d,.defer {callee:=.value f,args,argTypes:=ts},ty,pos,af,au⟩::rest) e h Q=
 (match e.eval f with
  | .func (.func g) first aA=>cJ P G R ops rest (({e with defers:=(g,first++args.toList.map e.eval++aA)::e.defers}:Env).put d (.tuple [])) h Q
  |_=>False):=by
 unfold cJ;simp only[qo,fg,dY,hr,AW,ju,if_false];generalize e.eval f=y;rcases y with _|_|_|_|_|_|_|_|⟨fn,a,b⟩|_|_
 case func=>cases fn<;>first|rfl|exact sg
 all_goals exact sg
end
end
end Go.AE
end
section
namespace Go.AE
def bs(l:List UInt8):ByteArray:=⟨l.toArray⟩
def str(l:List UInt8):AV:=.v (.string (bs l))
def int(n:Int):AV:=.v (.int .i64 n)
def bool(b:Bool):AV:=.v (.bool b)
def adl(l):ByteArray.mk l.toArray=bs l:=rfl
def A1(l):(bs l).size=l.length:=rfl
def adk(a b):bs a++bs b=bs (a++b):=by apply ByteArray.ext;rw[ByteArray.data_append];simp[bs]
def Mq(l)(i j):(bs l).extract i j=bs ((l.take j).drop i):=by apply ByteArray.ext;rw[ByteArray.data_extract];simp[bs,List.extract_eq_take_drop,List.drop_take]
def uz{α β}{P}(m)(f:α->Sem β):fj P (m>>=f)=(fj P m).bind λa=>fj P (f a):=by
 show fj P (m.bind f)=_
 induction m with
 |pure a=>rfl|program k ih=>simp only[Sem.bind,fj];exact ih _|mark m k ih=>simp only[Sem.bind,fj];exact ih|_=>rfl
section
variable {P:bB} {t:aH} {x y:bH} {k:tS} {a b:Int}
def rB{op:BinOp}{v:aL}(h:fj P (binOp op t (.int k a) (.int k b))=aa v):cQ P op t x y (.v (.int k a)) (.v (.int k b))=nR v:=by
 have hg:fj P (eqGuard op t x y (.int k a) (.int k b))=aa ():=by cases op<;>rfl
 show(fj P (do eqGuard op t x y (.int k a) (.int k b);binOp op t (.int k a) (.int k b))).bind nR=_;rw[uz,hg];simp only[oa,h]
def Sq:cQ P .add t x y (.v (.int k a)) (.v (.int k b))=aa (.v (.int k (k.wrap (a+b)))):=rB (v:=.int k (k.wrap (a+b))) (by simp[binOp,Op.intArith];rfl)
def acM:cQ P .sub t x y (.v (.int k a)) (.v (.int k b))=aa (.v (.int k (k.wrap (a - b)))):=rB (v:=.int k (k.wrap (a - b))) (by simp[binOp,Op.intArith];rfl)
def acD:cQ P .mul t x y (.v (.int k a)) (.v (.int k b))=aa (.v (.int k (k.wrap (a * b)))):=rB (v:=.int k (k.wrap (a * b))) (by simp[binOp,Op.intArith];rfl)
def acG(h:b≠0):cQ P .quo t x y (.v (.int k a)) (.v (.int k b))=aa (.v (.int k (k.wrap (a.tdiv b)))):=rB (v:=.int k (k.wrap (a.tdiv b))) (by simp[binOp,Op.intDiv,h];rfl)
def acI(h:b≠0):cQ P .rem t x y (.v (.int k a)) (.v (.int k b))=aa (.v (.int k (a.tmod b))):=rB (v:=.int k (a.tmod b)) (by simp[binOp,Op.intDiv,h];rfl)
def acy:cQ P .eql t x y (.v (.int k a)) (.v (.int k b))=aa (.v (.bool (decide (a=b)))):=rB (v:=.bool (decide (a=b))) (by
 have:(a==b)=decide (a=b):=by rw[EG];simp
 simp[binOp,Op.intCmp,this];rfl)
def acE:cQ P .neq t x y (.v (.int k a)) (.v (.int k b))=aa (.v (.bool (!decide (a=b)))):=rB (v:=.bool (!decide (a=b))) (by
 have:(a !=b)= !decide (a=b):=by rw[EG];simp
 simp[binOp,Op.intCmp,this];rfl)
def acC:cQ P .lss t x y (.v (.int k a)) (.v (.int k b))=aa (.v (.bool (decide (a<b)))):=rB (v:=.bool (decide (a<b))) (by simp[binOp,Op.intCmp];rfl)
def acB:cQ P .leq t x y (.v (.int k a)) (.v (.int k b))=aa (.v (.bool (decide (a<=b)))):=rB (v:=.bool (decide (a<=b))) (by simp[binOp,Op.intCmp];rfl)
def acA:cQ P .gtr t x y (.v (.int k a)) (.v (.int k b))=aa (.v (.bool (decide (b<a)))):=rB (v:=.bool (decide (b<a))) (by simp[binOp,Op.intCmp];rfl)
def acz:cQ P .geq t x y (.v (.int k a)) (.v (.int k b))=aa (.v (.bool (decide (b<=a)))):=rB (v:=.bool (decide (b<=a))) (by simp[binOp,Op.intCmp];rfl)
def acK{p q:List UInt8}:cQ P .eql t x y (.v (.string (bs p))) (.v (.string (bs q)))=aa (.v (.bool (decide (p=q)))):=by show aa (AV.v (.bool (p==q)))=_;rw[EG.2 (by simp:(p==q)=ai↔decide (p=q)=ai)]
def acL{p q:List UInt8}:cQ P .neq t x y (.v (.string (bs p))) (.v (.string (bs q)))=aa (.v (.bool (!decide (p=q)))):=by show aa (AV.v (.bool (!(p==q))))=_;rw[EG.2 (by simp:(p==q)=ai↔decide (p=q)=ai)]
def acJ{p q:List UInt8}(h:p.length+q.length<=9223372036854775807):cQ P .add t x y (.v (.string (bs p))) (.v (.string (bs q)))=aa (.v (.string (bs (p++q)))):=by show(if (bs p).size+(bs q).size<=9223372036854775807 then aa (AV.v (.string (bs p++bs q))) else au)=_;rw[A1,A1,aD h,adk]
def aqt{c:Bool}:Cx P .not (.v (.bool c))=aa (.v (.bool (!c))):=rfl
def aqs:Cx P .neg (.v (.int k a))=aa (.v (.int k (k.wrap (0 - a)))):=rfl
def Wq{s:ByteArray}(hu:P.underlying t=aa .string):dN P t (.v (.string s))=aa (.v (.int .i64 s.size)):=by unfold dN;rw[hu]
def OX{e:aH}{tk:Tok}{sz:Nat}{es:List (List AV)}(hu:P.underlying t=aa (.slice e)):dN P t (.list tk sz es)=aa (.v (.int .i64 es.length)):=by unfold dN;rw[hu]
def OW{e:aH}{b o l c:Nat}(hu:P.underlying t=aa (.slice e)):dN P t (.arr b o l c)=aa (.v (.int .i64 l)):=by unfold dN;rw[hu]
def ahR{l:List UInt8}(hu:P.underlying t=aa .string)(h0:0<=a)(h1:a<l.length):Cc P t (.v (.string (bs l))) (.v (.int k a))=aa (.v (.int .u8 (l.getD a.toNat 0).toNat)):=by
 unfold Cc;rw[hu];have az:a.toNat<l.length:=by omega
 simp only[aD h0,bs,ja,a9 az];simp[az]
def aj8{c}{u v}:Ka (.v (.bool c)) u v=aa (if c=ai then u else v):=by cases c<;>rfl
def fh(h0: -9223372036854775808<=a)(h1:a<=9223372036854775807):IntKind.i64.wrap a=a:=by rw[IntKind.wrap_i64];omega
def ML(h0:0<=a)(h1:a<=255):IntKind.u8.wrap a=a:=by rw[IntKind.wrap_u8];omega
end
end Go.AE
end
section
namespace Go.AE
open Go.RowKit (Below)
def aP.init(W:bX):aP:={base:=W.heap.size,ic:=λg j=>W.cell? ⟨g,j,au⟩,β:=[],γ:=[],tn:=0,tk:=λ_=>(0,0,0),md:=[],lb:=λ_=>au}
def ao.init:ao:=⟨[],[],0,[]⟩
def aoN{G}{ok}(W)(hG:∀g cs,G g=aa cs->∃cells,aM (aP.init W) cs cells/\∀(j:Nat) (c:aL),cells[j]?=aa c->W.cell? ⟨g,j,au⟩=aa c):
 bN (aP.init W) G ok W ao.init W:=by
 refine⟨.refl _ _,aJ _,λg j c h=>h,hG,rfl,λb b' g h=>?_,λb g cs h=>?_,rfl,λb b' g h=>?_,λl g r h=>?_,rfl,λt ht=>?_,λt t' ht=>?_,λr hr=>?_,rfl⟩
 ·simp[aP.init] at h
 ·simp[aP.init] at h
 ·simp[aP.init] at h
 ·simp[aP.init] at h
 ·simp[alive,ao.init] at ht
 ·simp[alive,ao.init] at ht
 ·simp[aP.init] at hr
def Cv(P:bB):Nat->List Field->Nat->Bool
 |off,[],total=>jw off total
 |off,f::fs,total=>jw f.offset off&&Cv P (off+P.cellsOf f.type) fs total
def J6(P:bB):Nat->aH->Bool
 |0,_=>ay
 |n+1,t=>
  match P.underlying t with
  |some .bool|some (.int _)|some .string=>ai
  |some (.slice e)=>J6 P n e&&decide (0<P.cellsOf e)
  |some (.struct fs)=>Cv P 0 fs.toList (P.cellsOf t)&&fs.toList.all λf=>J6 P n f.type
  |some (.array m e)=>jw (P.cellsOf t) (m * P.cellsOf e)&&J6 P n e
  |_=>ay
inductive Has {H:Type} (P:bB):aH->List AV->DataW H->Prop
 |bool {t:aH} (hu:P.underlying t=aa .bool) (b:Bool):Has P t [.v (.bool b)] (.lit (.bool b))
 |int {t:aH} {k:tS} (hu:P.underlying t=aa (.int k)) (n:Int) (hn:(Lit.int k n).wf=ai):Has P t [.v (.int k n)] (.lit (.int k n))
 |str {t:aH} (hu:P.underlying t=aa .string) (s:ByteArray) (hs:s.size<=maxLen):Has P t [.v (.string s)] (.lit (.string s.data.toList))
 |none {t e:aH} (hu:P.underlying t=aa (.slice e)):Has P t [.list .nil (P.cellsOf e) []] .nil
 |list {t e:aH} (hu:P.underlying t=aa (.slice e)) (k:Tok) (es:List (List AV)) (ds sp:List (DataW H)) (hk:k=.held∨(k=.tight/\es=[])) (hl:es.length<=maxLen) (hd:ds.length=es.length)
  (he:∀(i:Nat) (r:List AV) (d:DataW H),es[i]?=aa r->ds[i]?=aa d->Has P e r d) (hs:∀r∈es,r.length=P.cellsOf e):Has P t [.list k (P.cellsOf e) es] (.slice ds sp)
 |struct {t:aH} {fs:Array Field} (hu:P.underlying t=aa (.struct fs)) (xs:List AV) (ds:List (DataW H)) (hl:xs.length=P.cellsOf t) (hd:ds.length=fs.size)
  (hf:∀(i:Nat) (f:Field) (d:DataW H),fs[i]?=aa f->ds[i]?=aa d->Has P f.type ((xs.drop f.offset).take (P.cellsOf f.type)) d):Has P t xs (.agg ds)
 |array {t e:aH} {n:Nat} (hu:P.underlying t=aa (.array n e)) (xs:List AV) (ds:List (DataW H)) (hl:xs.length=P.cellsOf t) (hd:ds.length=n)
  (he:∀(i:Nat) (d:DataW H),ds[i]?=aa d->Has P e ((xs.drop (i * P.cellsOf e)).take (P.cellsOf e)) d):Has P t xs (.agg ds)
section
variable {H:Type} {enc:aH × aL->H} {P:bB} {W:bX}
def SZ{a:Addr}{n:Nat}{vs:List aL}(h:W.cells? 0 a n=aa vs):vs.length=n/\∀j,j<n->W.cell? (a.add j)=vs[j]?:=by unfold World.cells? at h;rw[aD (df _)] at h;refine⟨by simpa using mapM_some_length h,λj hj=>mapM_some_get h j j (by simp[hj])⟩
def ao4{a:Addr}{v:aL}(h:W.cell? a=aa v):a.spot=au:=by
 unfold World.cell? at h;split at h
 ·cases hs:a.spot with|none=>rfl|some s=>rw[hs] at h;simp at h
 ·cases h
def aft{α:Type}{sz}:∀{es:List (List α)},(∀r∈es,r.length=sz)->∀(i j:Nat),j<sz->es.flatten[i * sz+j]?=(es[i]?).bind (·[j]?):=by
 intro es
 induction es with
 |nil=>intro _ i j _;simp|cons r es ih=>
  intro hr i j hj;have h1:r.length=sz:=hr r ga;cases i with|zero=>simp[List.getElem?_append_left (by omega:j<r.length)]|succ i=>rw[List.flatten_cons,List.getElem?_append_right (by rw[h1,fW];omega),h1];have:(i+1) * sz+j - sz=i * sz+j:=(by rw[fW];omega);rw[this,ih (λr hm=>hr r (fR _ hm)) i j hj];simp
end
end Go.AE
end
section
namespace Go.AE
open Go.RowKit Go.WideShapes Go.ChangeShapes
def lq{H:Type}(P:bB)(t:aH)(x:AV)(d:DataW H):Prop:=
 match P.underlying t with
 |some (.struct _)|some (.array _ _)=>∃cs,x=.agg cs/\Has P t cs d
 |_=>Has P t [x] d
def tT{H:Type}(P:bB):List aH->List AV->List (DataW H)->Prop
 | [],[],[]=>True
 |t::ts,x::xs,d::ds=>lq P t x d/\tT P ts xs ds
 |_,_,_=>False
section
variable {H:Type} {enc:aH × aL->H} {P:bB} {W:bX}
def ab4(hl:laidOutB P=ai){W':bX}{sp:Nat->Bool}:∀{ts:List aH} {vs:List aL} {ds:List (DataW H)} {p:List MemPlace},DataW.TrodAll enc P W 0 (λ_=>ai) ai ts vs ds p->
 (∀t∈ts,P.readableRec t=true/\t<P.types.size)->(∀x∈p,W.sameAt W' x)->(∀x∈p,sp x.block=true)->DataW.TrodAll enc P W' 0 sp true ts vs ds p:=by
 intro ts
 induction ts with
 |nil=>intro vs ds p h _ _ _;obtain⟨rfl,rfl,rfl⟩:=trodAll_nil h;exact trodAll_mk0
 |cons t ts ih=>
  intro vs ds p h hr hs uo;obtain⟨v,vs',d,ds',p1,q1,rfl,rfl,rfl,h1,h2⟩:=trodAll_cons h;exact trodAll_cons_mk (WideElems.Trod_stays hl (hr t ga).1 (hr t ga).2 h1 (λx hx=>hs x (Rm _ hx)) (λx hx=>uo x (Rm _ hx)))
   (ih h2 (λt ht=>hr t (fR _ ht)) (λx hx=>hs x (aay _ hx)) (λx hx=>uo x (aay _ hx)))
def akp{f:Func}{s:ChangeSpec}{apart fresh handsOn again:Bool}{W W':bX}{args:Array aL}{v:aL}{ds gs:List (DataW H)}{before pa pv:List MemPlace}
 (hW:DataW.Whole enc P f.params.toList s.vars apart W args.toList ds gs before)
 (gH:∀(b:Nat) (sp:Nat->Bool) (hd:Bool),DataW.TrodAll enc P W' b sp hd f.resultTypes.toList (v.resultList f.resultTypes.size) (s.fn H (ds++gs)).results [])
 (wG:∀sp:Nat->Bool,(∀p∈before,sp p.block=ai)->DataW.TrodAll enc P W' 0 sp ai f.params.toList args.toList (s.fn H (ds++gs)).args pa)
 (Gz:∀sp:Nat->Bool,(∀p∈before,sp p.block=ai)->DataW.TrodVars enc P W' sp s.vars (s.fn H (ds++gs)).vars pv)
 (yj:before=pa++pv) (hb:Below W.heap.size W W')
 (bD:∀(j:Nat) (t:aH) (r:aL),f.resultTypes[j]?=aa t->(v.resultList f.resultTypes.size)[j]?=aa r->Value.okWide P W' .any 0 t r):
 s.post enc P f apart fresh handsOn again W args v W':=by
 have az:∀p∈before,p.block<W.heap.size:=λp hp=>hW.lt p hp;have hold:∀p∈before,(λb=>decide (b<W.heap.size)) p.block=ai:=λp hp=>by simpa using az p hp
 refine⟨ds,gs,before,[],pa,pv,hW,gH _ _ _,wG _ hold,Gz _ hold,World.keptBut_mono (λp hp=>⟨hp,?_⟩) (hb.frame (·∈before)),λ_=>?_⟩
 ·rw[yj,xF] at hp;exact Or.inr hp
 ·obtain⟨_,_,_,_,_,hz,hn⟩:=hW;refine⟨bD,_,_,([]++pa)++pv,⟨[]++pa,pv,trodAll_append (wG _ (λ_ _=>rfl)) (gH _ _ _),Gz _ (λ_ _=>rfl),rfl,?_,?_⟩,?_⟩
  ·intro b off hp;have lU:MemPlace.cell b off∈before:=(by rw[yj];simpa using hp);rw[hb.frozen (az _ lU)];exact hz b off lU
  ·intro ha;have:=hn ha;rw[yj] at this;simpa using this
  ·intro p hp _;rw[yj];simpa using hp
structure arx(P:bB)(f:bq)(fn:Func)(tb:aH):Prop where
 func:P.funcs[f]?=aa fn
 laid:laidOutB P=ai
 pO:∀t∈fn.params.toList,J6 P 9 t=ai/\P.readableRec t=ai/\t<P.types.size
 res:fn.resultTypes=#[tb]
 bool:P.underlying tb=aa .bool
variable {G:Nat->Option (List AV)} {aK:bq->Option (List AV->ao->Option (AV × ao))}
end
end Go.AE
end
section
namespace Go.AE
open Go.RowKit (Below)
section
variable {K:aP} {G:Nat->Option (List AV)} {ok:bq->Nat->Code->Bool} {w0 w w':bX} {h:ao}
def bN.grown(s:bN K G ok w0 h w)(hb:Below w.heap.size w w'):bN K G ok w0 h w':=by
 have hk:∀{k:Nat} {o:Obj},w.heap[k]?=aa o->w'.heap[k]?=aa o:=λhk=>(hb.block _ (oF hk)).trans hk;refine⟨s.cZ.trans (hb.mono s.size),fc s.size hb.size,λg j c hg=>?_,s.eG,s.lj,s.pQ,λb g cs gQ hc=>?_,s.nS,s.qw,λl g r hl hr=>?_,s.tn,λt ht=>?_,s.pN,λr hr=>?_,s.all⟩
 ·rw[<-s.ic g j c hg];exact World.cell?_of_block (w:=w) (hb.block g (s.Aj hg))
 ·obtain⟨h1,h2,ha,cells,e,h3,h4⟩:=s.box b g cs gQ hc;exact⟨h1,h2,ha,cells,e,hk h3,h4⟩
 ·obtain⟨h1,fn,tmps,d,h2,h3⟩:=s.loop l g r hl hr;exact⟨h1,fn,tmps,d,hk h2,h3⟩
 ·obtain⟨h1,h2,h3,cells,e,fz,h4,h5,h6⟩:=s.tok t ht;refine⟨h1,h2,h3,cells,e,fz,hk h4,h5,λj hj hl=>?_⟩;rw[<-h6 j hj hl];exact World.frozen?_of_block (w:=w) (hb.block _ (oF h4))
 ·exact⟨(s.md r hr).1,hk (s.md r hr).2⟩
end
end Go.AE
end
section
namespace Go.AE
def ao.push(h:ao)(cs:List AV):ao:={h with boxes:=h.boxes++[cs]}
def ao.put(h:ao)(b:Nat)(cs:List AV):ao:={h with boxes:=h.boxes.set b cs}
def bK(h:ao)(cs):h.box cs=(.ptr (.box h.boxes.length) 0,h.push cs):=rfl
def cH(h:ao)(cs):(h.push cs).boxes.length=h.boxes.length+1:=by simp[ao.push]
def bp(h:ao)(cs):(h.push cs).boxes[h.boxes.length]?=aa cs:=by simp[ao.push]
def aZ{h:ao}{cs ds}{b:Nat}(hb:h.boxes[b]?=aa ds):(h.push cs).boxes[b]?=aa ds:=uZ hb
def ey{h:ao}{cs}{b}(hb:b<h.boxes.length):(h.put b cs).boxes[b]?=aa cs:=by simp[ao.put,hb]
def cP{h:ao}{cs}{b c}(hb:c≠b):(h.put b cs).boxes[c]?=h.boxes[c]?:=by simp[ao.put,mU,Ne.symm hb]
def mc(h:ao)(b)(cs):(h.put b cs).boxes.length=h.boxes.length:=by simp[ao.put]
def dj(h:ao):Bool:=h.dead.all λn=>decide (n<h.tn)
structure Ext(h h':ao):Prop where
 box:∀(b:Nat) (cs:List AV),h.boxes[b]?=aa cs->h'.boxes[b]?=aa cs
 loop:∀(l:Nat) (r:gZ),h.loops[l]?=aa r->h'.loops[l]?=aa r
 tn:h.tn<=h'.tn
 dead:∀n,n<h.tn->n∈h'.dead->n∈h.dead
 ok:dj h=ai->dj h'=ai
def Ext.refl(h):Ext h h:=⟨λ_ _ h=>h,λ_ _ h=>h,aJ _,λ_ _ h=>h,λh=>h⟩
def Ext.trans{a b c}(h:Ext a b)(k:Ext b c):Ext a c:=
 ⟨λi cs hb=>k.box i cs (h.box i cs hb),λl r hl=>k.loop l r (h.loop l r hl),fc h.tn k.tn,λn hn hd=>h.dead n hn (k.dead n (mD hn h.tn) hd),λho=>k.ok (h.ok ho)⟩
def Ext.push(h)(cs):Ext h (h.push cs):=⟨λ_ _ hb=>aZ hb,λ_ _ h=>h,aJ _,λ_ _ h=>h,λh=>h⟩
def Ext.fresh(h)(sz)(es):Ext h (h.fresh sz es).2:=⟨λ_ _ hb=>hb,λ_ _ h=>h,Rr _,λ_ _ h=>h,λho=>by
 unfold dj at *
 simp only[ao.fresh,eE,decide_eq_true_eq] at *
 exactλn hn=>cz (vV (ho n hn))⟩
def Ext.alive{h h'}(x:Ext h h'){n}(ha:alive h n=ai):alive h' n=ai:=by
 unfold AE.alive at *
 simp only[bA,decide_eq_true_eq,Bool.not_eq_true',List.contains_eq_mem,decide_eq_false_iff_not] at *
 exact⟨mD ha.1 x.tn,λhd=>ha.2 (x.dead n ha.1 hd)⟩
def Ext.len{h h'}(x:Ext h h'):h.boxes.length<=h'.boxes.length:=by
 rcases dT h'.boxes.length h.boxes.length with az|eo
 ·have h1:=x.box h'.boxes.length _ (a9 az);have:=(aQ.1 h1).1;omega
 ·exact eo
noncomputable def Ny(R:Rec)(g:bq)(args:List AV)(h:ao):ao:=
 match R.call g args h with
 |some (_,h')=>h'
 |none=>h
def agJ{R}{g}{args}{h h'}{r}(hc:R.call g args h=aa (r,h')):Ny R g args h=h':=by unfold Ny;rw[hc]
def RH(R:Rec)(g:bq)(args:List AV)(h:ao)(r:eL):Prop:=∃h',R.call g args h=aa (r,h')/\Ext h h'
def RH.ext{R}{g}{args}{h}{r}(hs:RH R g args h r):Ext h (Ny R g args h):=by obtain⟨h',h1,h2⟩:=hs;rw[agJ h1];exact h2
def zu(P:bB)(G:Nat->Option (List AV))(R:Rec)(fn:Func)(r:eL)(Post:ao->Prop):Xt->Env->ao->Prop:=λo e h=>∃h',xU P G R fn r h' o e h/\Post h'
def ae4{P}{G}{R}{fn}{r}{Post}{e}{h}:zu P G R fn r Post .normal e h=∃h',gK P G R fn e e.defers au h=aa (r,h')/\Post h':=rfl
def ae6{P}{G}{R}{fn}{r}{Post}{e}{h}:zu P G R fn r Post .ret e h=∃h',gK P G R fn e e.defers au h=aa (r,h')/\Post h':=rfl
def ae5{P}{G}{R}{fn}{r}{Post}{e}{h}{x}:zu P G R fn r Post (.panic x) e h=∃h',gK P G R fn e e.defers (aa (x,ay)) h=aa (r,h')/\Post h':=rfl
def ij{P}{G}{aK}{g}{fn}{body}{args}{r}{h}{Post}(hp:aK g=au)(gG:P.funcs[g]?=aa fn)(hb:fn.body=aa body)
 (hr:bM (whole P G aK) body (Env.start args au) h (zu P G (whole P G aK) fn r Post)):∃h',(whole P G aK).call g args h=aa (r,h')/\Post h':=by
 obtain⟨o,e1,h1,h2,h',h3,h4⟩:=hr;exact⟨h',cN hp gG hb ⟨o,e1,h1,h2,h3⟩,h4⟩
section
variable {P:bB} {G:Nat->Option (List AV)} {h:ao} {t:aH} {b off n:Nat} {cs:List AV}
def ma(ha:fY P t=aa ay)(hb:h.boxes[b]?=aa cs):aF P G h t (.ptr (.box b) off)=(cs.drop off).head?:=by unfold aF A4 PM;simp only[ha,hb,eX]
def jj(ha:fY P t=aa ai)(hs:dm P t=aa n)(hb:h.boxes[b]?=aa cs)(hl:off+n<=cs.length):aF P G h t (.ptr (.box b) off)=aa (.agg ((cs.drop off).take n)):=by unfold aF A4 PM;simp only[ha,hb,hs,eX];rw[aD (by simp;omega)]
def r9{sz i:Nat}{es:List (List AV)}{row:List AV}(ha:fY P t=aa ay)(hb:es[i]?=aa row):aF P G h t (.elem sz es i off)=(row.drop off).head?:=by unfold aF A4;simp only[ha,hb,eX]
def JS{sz i:Nat}{es:List (List AV)}{row:List AV}(ha:fY P t=aa ai)(hs:dm P t=aa n)(hb:es[i]?=aa row)(hl:off+n<=row.length):aF P G h t (.elem sz es i off)=aa (.agg ((row.drop off).take n)):=by unfold aF A4;simp only[ha,hb,hs,eX];rw[aD (by simp;omega)]
def ck{e:aH}{k:Tok}{kk:tS}{sz:Nat}{es:List (List AV)}{a:Int}(hu:P.underlying t=aa (.slice e))(hs:dm P e=aa sz)(h0:0<=a)(h1:a<es.length):dx P t (.list k sz es) (.v (.int kk a))=aa (.elem sz es a.toNat 0):=by unfold dx;rw[hu];simp only;rw[aD ⟨h0,h1,hs⟩]
def GF{e:aH}{kk:tS}{bb o l c sz:Nat}{a:Int}(hu:P.underlying t=aa (.slice e))(hs:dm P e=aa sz)(h0:0<=a)(h1:a<l):dx P t (.arr bb o l c) (.v (.int kk a))=aa (.ptr (.box bb) (o+a.toNat * sz)):=by unfold dx;rw[hu];simp only[hs];rw[aD ⟨h0,h1⟩]
def fw{x:AV}{xs:List AV}(hx:x.bU=aa xs)(hs:dm P t=aa n)(hb:h.boxes[b]?=aa cs)(hn:xs.length=n)(hl:off+n<=cs.length):b8 P h t (.ptr (.box b) off) x=aa (h.put b (eK cs off xs)):=by unfold b8;simp only[hx,hs,hb];rw[aD ⟨hn,hl⟩];rfl
def ss(h:ao)(z cs):(h.push z).put h.boxes.length cs=h.push cs:=by simp[ao.push,ao.put,List.set_append_right]
def xn{z xs}(hl:xs.length=z.length):eK z 0 xs=xs:=by simp[eK,hl]
def jt{x:AV}{xs z:List AV}(hx:x.bU=aa xs)(hs:dm P t=aa n)(hn:xs.length=n)(hz:z.length=n):b8 P (h.push z) t (.ptr (.box h.boxes.length) 0) x=aa (h.push xs):=by rw[fw hx hs (bp h z) hn ah,xn ah,ss]
end
end Go.AE
end
section
namespace Go.AE
section
variable {P:bB} {G:Nat->Option (List AV)} {R:Rec}
def ajy(ops:Array Oper):∀(n i:Nat),i+n<=ops.size->∀(e:Env) (h:ao),da P G R ops (aaz i n) e h=qo P G R ops ((ops.toList.drop i).take n) e h:=by
 intro n
 induction n with
 |zero=>intro i hi e h;rfl|succ n ih=>
  intro i hi e h;have az:i<ops.size:=by omega
  have ho:ops[i]?=aa ops[i]:=mf az;rw[aaA,ER (by simpa using az),List.take_succ_cons];simp only[da,qo,ho,ZB];cases fg ops e ops[i] with
  |none=>rfl|some b=>
   cases b with
   |false=>exact ih (i+1) ah _ _|true=>
    simp only;cases dY P G R e h ops[i] with
    |none=>rfl|some q=>
     obtain⟨r,e1,h1⟩:=q;cases r with|ret x=>exact ih (i+1) ah _ _|panic x=>rfl
def sf{ops:Array Oper}{m:Nat}(hm:m<=ops.size)(e:Env)(h:ao):da P G R ops (bL m) e h=qo P G R ops (ops.toList.take m) e h:=by rw[Lu,ajy ops m 0 ah];rfl
def De(ops:Array Oper)(cs:List Nat)(ps:List (Nat × Nat)):Bool:=
 let b:=Region.before ops
 AZ ops b&&(bL ops.size).all λj=>(bL j).all λi=>(b.getD j 0).testBit i||yB ops i j||ps.contains (i,j)||(px ops i j&&(cs.contains i||cs.contains j))
def MJ{ops:Array Oper}{cs:List Nat}{ps:List (Nat × Nat)}{e:Env}{h:ao}(hd:De ops cs ps=ai)(hc:∀k∈cs,zl P G R ops e h k)(hs:∀p∈ps,lJ P G R ops e h p.1 p.2=ai):mj P G R ops e h=ai:=by
 unfold De at hd;unfold mj;simp only[bA,eE,fD,uM] at hd ⊢;refine⟨hd.1,λj hj i hi=>?_⟩;rcases hd.2 j hj i hi with((h1|h1)|h1)|⟨h1,h2⟩
 ·exact .inl (.inl (.inl h1))
 ·exact .inl (.inl (.inr h1))
 ·exact .inl (.inr (hs (i,j) (by simpa using h1)))
 ·exact .inr ⟨h1,h2.imp (λq=>FB.2 (hc i (by simpa using q))) (λq=>FB.2 (hc j (by simpa using q)))⟩
def Da{ops:Array Oper}{e:Env}{h:ao}{k:Nat}{o:Oper}{c:Call}{x:AV}(ho:ops[k]?=aa o)(bI:o.op=.call c)
 (h1:cJ P G R ops (ops.toList.take k) e h (λq er _=>q=.normal/\∀hm,lO P R er hm c=aa (.ret x,hm)))
 (h2:cJ P G R ops ops.toList e h (λq _ _=>q=.normal)):zl P G R ops e h k:=by
 have hk:k<ops.size:=(Array.getElem?_eq_some_iff.1 ho).1;obtain⟨q1,er,hr,e1,rfl,e2⟩:=h1;obtain⟨q2,en,hn,f1,rfl⟩:=h2;rw[<-sf ah] at e1;have eI:da P G R ops (bL ops.size) e h=aa (.normal,en,hn):=by rw[sf (aJ _),<-Array.length_toList,gM];exact f1
 obtain⟨-,tr,-⟩:=trace eI;refine⟨o,x,er,hr,ho,?_,e1,λm hm=>⟨_,_,tr m hm,ads bI (e2 _)⟩⟩;have agz:∀b,c.callee≠ .builtin b:=λb hb=>by have:=e2 hr;unfold lO at this;rw[hb] at this;cases this
 rw[bI];obtain⟨callee,args,ts⟩:=c;cases callee with|builtin b=>exact absurd rfl (agz b)|value f=>rfl|invoke r n=>rfl
def yH{ops:Array Oper}{e:Env}{h:ao}{i j:Nat}{o:Oper}{t:aH}{a:bH}(ue:px ops i j=ai)(ho:ops[i]?=aa o)(bI:o.op=.load t a)(hg:o.guard=au)
 (hj:(ops[j]?).map (λo=>jo o.op)=aa .acts) {x v:AV} (hv:fC v v=ai)
 (h1:cJ P G R ops (ops.toList.take i) e h (λq er hr=>q=.normal/\er.eval a=x/\aF P G hr t x=aa v))
 (h2:cJ P G R ops (ops.toList.take (j+1)) e h (λq _ hm=>q=.normal/\aF P G hm t x=aa v)):lJ P G R ops e h i j=ai:=by
 have hi:i<ops.size:=by
  rcases dT i ops.size with hh|hh
  ·exact hh
  ·rw[xu hh] at ho;cases ho
 have NS:j<ops.size:=by
  rcases dT j ops.size with hh|hh
  ·exact hh
  ·rw[xu hh] at hj;cases hj
 have hc:(ops[i]?).map (λo=>jo o.op)=aa .reads:=by rw[ho];simp only[eX,bI];rfl
 unfold lJ;rw[ue,hc,hj];simp only[vR];unfold pM;rw[ho,sf ah,sf ah];obtain⟨q1,er,hr,e1,rfl,e2,e3⟩:=h1;obtain⟨q2,em,hm,f1,rfl,f2⟩:=h2;rw[e1,f1];simp only[fg,hg,bI,e2,e3,f2,hv]
def vM{ops:Array Oper}{e:Env}{h:ao}{i j:Nat}{o:Oper}{t:aH}{a:bH}(ue:px ops i j=ai)(ho:ops[j]?=aa o)(bI:o.op=.load t a)(hg:o.guard=au)
 (hj:(ops[i]?).map (λo=>jo o.op)=aa .acts) {x v:AV} (hv:fC v v=ai)
 (h1:cJ P G R ops (ops.toList.take j) e h (λq er hr=>q=.normal/\er.eval a=x/\aF P G hr t x=aa v))
 (h2:cJ P G R ops (ops.toList.take i) e h (λq _ hm=>q=.normal/\aF P G hm t x=aa v)):lJ P G R ops e h i j=ai:=by
 have hi:i<ops.size:=by
  rcases dT i ops.size with hh|hh
  ·exact hh
  ·rw[xu hh] at hj;cases hj
 have NS:j<ops.size:=by
  rcases dT j ops.size with hh|hh
  ·exact hh
  ·rw[xu hh] at ho;cases ho
 have hc:(ops[j]?).map (λo=>jo o.op)=aa .reads:=by rw[ho];simp only[eX,bI];rfl
 unfold lJ;rw[ue,hc,hj];simp only[vR];unfold pM;rw[ho,sf ah,sf ah];obtain⟨q1,er,hr,e1,rfl,e2,e3⟩:=h1;obtain⟨q2,em,hm,f1,rfl,f2⟩:=h2;rw[e1,f1];simp only[fg,hg,bI,e2,e3,f2,hv]
end
section
variable {P:bB} {G:Nat->Option (List AV)} {aK:bq->Option (List AV->ao->Option (AV × ao))} {Q:Xt->Env->ao->Prop} {e:Env} {h:ao}
def Ql{id:Nat}{ops:Array Oper}(cs:List Nat)(ps:List (Nat × Nat))(hd:De ops cs ps=ai)(hc:∀k∈cs,zl P G (whole P G aK) ops e h k)(hs:∀p∈ps,lJ P G (whole P G aK) ops e h p.1 p.2=ai)
 (hr:cJ P G (whole P G aK) ops ops.toList e h (xT Q)):bM (whole P G aK) (.region id ops ai) e h Q:=
 Qm (MJ hd hc hs) hr
end
structure fF(b n0:Nat)(h h':ao):Prop where
 box:∀(c:Nat) (cs:List AV),c≠b->h.boxes[c]?=aa cs->h'.boxes[c]?=aa cs
 len:h.boxes.length<=h'.boxes.length
 loop:∀(l:Nat) (r:gZ),h.loops[l]?=aa r->h'.loops[l]?=aa r
 tn:h.tn<=h'.tn
 dead:∀n,n<n0->n∈h'.dead->n∈h.dead
 ok:dj h=ai->dj h'=ai
def fF.refl(b n0)(h):fF b n0 h h:=⟨λ_ _ _ h=>h,aJ _,λ_ _ h=>h,aJ _,λ_ _ h=>h,λh=>h⟩
def fF.trans{b n0}{x y z}(h:fF b n0 x y)(k:fF b n0 y z):fF b n0 x z:=
 ⟨λi cs hi hb=>k.box i cs hi (h.box i cs hi hb),fc h.len k.len,λl r hl=>k.loop l r (h.loop l r hl),fc h.tn k.tn,λn hn hd=>h.dead n hn (k.dead n hn hd),λho=>k.ok (h.ok ho)⟩
def fF.Cj{b n0}{h h'}(x:Ext h h')(hn:n0<=h.tn):fF b n0 h h':=
 ⟨λc cs _ hc=>x.box c cs hc,x.len,x.loop,x.tn,λn h1 h2=>x.dead n (mD h1 hn) h2,x.ok⟩
def fF.put(b n0)(h)(cs):fF b n0 h (h.put b cs):=
 ⟨λc ds hc hb=>by rw[cP hc];exact hb,by rw[mc];exact aJ _,λ_ _ h=>h,aJ _,λ_ _ h=>h,λh=>h⟩
def Ext.mut{b}{h0 h h'}(x:Ext h0 h)(m:fF b h0.tn h h')(hb:h0.boxes.length<=b):Ext h0 h':=
 ⟨λc cs hc=>by have az:=(aQ.1 hc).1;exact m.box c cs ah (x.box c cs hc),λl r hl=>m.loop l r (x.loop l r hl),fc x.tn m.tn,λn hn hd=>x.dead n hn (m.dead n hn hd),λho=>m.ok (x.ok ho)⟩
def ao.app(h:ao)(k:Tok):ao:=
 match k with
 | .free n=>{h with dead:=n::h.dead,tn:=h.tn+1}
 |_=>{h with tn:=h.tn+1}
def eS(h:ao)(k):(h.app k).boxes=h.boxes:=by cases k<;>rfl
def wc(h:ao)(k):(h.app k).loops=h.loops:=by cases k<;>rfl
def Fp(h:ao)(k):(h.app k).tn=h.tn+1:=by cases k<;>rfl
def dQ(n0:Nat)(h:ao)(k:Tok):Prop:=k=.nil∨k=.tight∨∃n,k=.free n/\n0<=n/\alive h n=ai
def fF.app{b n0}{h}{k}(hk:dQ n0 h k):fF b n0 h (h.app k):=by
 refine⟨λc cs _ hc=>by rw[eS];exact hc,by rw[eS];exact aJ _,λl r hl=>by rw[wc];exact hl,by rw[Fp];exact Rr _,?_,?_⟩
 ·rcases hk with rfl|rfl|⟨m,rfl,hm,ha⟩
  ·exactλn _ hn=>hn
  ·exactλn _ hn=>hn
  ·intro n hn hd;rcases jm.1 hd with rfl|hd
   ·omega
   ·exact hd
 ·intro ho;have N0:∀n∈h.dead,n<h.tn+1:=λn hn=>by have:=eE.1 ho n hn;simp only[decide_eq_true_eq] at this;omega
  rcases hk with rfl|rfl|⟨m,rfl,hm,ha⟩
  ·exact eE.2 λn hn=>cz (N0 n hn)
  ·exact eE.2 λn hn=>cz (N0 n hn)
  ·refine eE.2 λn hn=>cz ?_;rcases jm.1 hn with rfl|hn
   ·unfold alive at ha;simp only[bA,decide_eq_true_eq] at ha;show n<h.tn+1;omega
   ·exact N0 n hn
def Ext.app{h0 h}{k}(x:Ext h0 h)(hk:dQ h0.tn h k):Ext h0 (h.app k):=by have m:=fF.app (b:=h.boxes.length) hk;exact x.mut m x.len
def abV{h}{k}(ho:dj h=ai)(hk:dQ 0 h k):alive (h.app k) h.tn=ai:=by
 have iE:h.dead.contains h.tn=ay:=by rw[Bool.eq_false_iff];intro hc;have:=eE.1 ho h.tn (by simpa using hc);simp at this
 unfold alive;rw[Fp];rcases hk with rfl|rfl|⟨m,rfl,-,ha⟩
 ·simp only[ao.app,iE];simp
 ·simp only[ao.app,iE];simp
 ·unfold alive at ha;simp only[bA,decide_eq_true_eq] at ha;have h1:¬(h.tn=m):=by omega
  have h2:¬(h.tn∈h.dead):=by simpa using iE
  simp[ao.app,h1,h2]
def dQ.mono{n0}{h}{k}(hk:dQ n0 h k){n1}(hn:n1<=n0):dQ n1 h k:=by
 rcases hk with rfl|rfl|⟨m,rfl,hm,ha⟩
 ·exact .inl rfl
 ·exact .inr (.inl rfl)
 ·exact .inr (.inr ⟨m,rfl,by omega,ha⟩)
def dQ.ext{n0}{h h'}{k}(hk:dQ n0 h k)(x:Ext h h'):dQ n0 h' k:=by
 rcases hk with rfl|rfl|⟨m,rfl,hm,ha⟩
 ·exact .inl rfl
 ·exact .inr (.inl rfl)
 ·exact .inr (.inr ⟨m,rfl,hm,x.alive ha⟩)
def dQ.next{n0}{h}{k}(hk:dQ n0 h k)(ho:dj h=ai)(hn:n0<=h.tn):dQ n0 (h.app k) (.free h.tn):=
 .inr (.inr ⟨h.tn,rfl,hn,abV ho (hk.mono (df _))⟩)
end Go.AE
end
section
namespace Go.AE
def tT.cons_inv{H}{P}{t}{ts}{xs}{ds:List (DataW H)}(h:tT P (t::ts) xs ds):∃x xs' d ds',xs=x::xs'/\ds=d::ds'/\lq P t x d/\tT P ts xs' ds':=by
 cases xs with
 |nil=>cases ds<;>exact h.elim
 |cons x xs=>
  cases ds with|nil=>exact h.elim|cons d ds=>exact⟨x,xs,d,ds,rfl,rfl,h.1,h.2⟩
def tT.ai5{H}{P}{xs}{ds:List (DataW H)}(h:tT P [] xs ds):xs=[]:=by
 cases xs with|nil=>rfl|cons x xs=>cases ds<;>exact h.elim
section
variable {P:bB} {t:aH} {x y:bH}
def PI{d:TypeDesc}(hu:P.underlying t=aa d):fj P (underlying t)=aa d:=by unfold underlying;simp only[uz];show(aa P).bind _=_;simp only[oa,hu];rfl
def acF{v:aL}{ms:Array (String × aH)}(hu:P.underlying t=aa (.interface ms)):cQ P .neq t x (.const v) (.v .nilIface) (.v .nilIface)=aa (.v (.bool ay)):=by
 have h1:cQ P .neq t x (.const v) (.v .nilIface) (.v .nilIface)=(fj P (do eqGuard .neq t x (.const v) .nilIface .nilIface;binOp .neq t .nilIface .nilIface)).bind nR:=rfl;have h2:fj P (eqGuard .neq t x (.const v) .nilIface .nilIface)=aa ():=by cases x<;>rfl
 have h3:fj P (Op.equal t .nilIface .nilIface)=aa ai:=by unfold Op.equal Op.maxDepth Op.equalIn;rw[uz,PI hu];rfl
 have h4:fj P (binOp .neq t .nilIface .nilIface)=aa (.bool ay):=by show fj P (do pure (Value.bool (!(<-Op.equal t .nilIface .nilIface))))=_;rw[uz,h3];rfl
 rw[h1,uz,h2,oa,h4];rfl
end
end Go.AE
end
section
namespace Go.AE
section
variable {h:ao} {cs:List AV} {b c:Nat} {k:Tok}
def afK:(h.push cs).boxes[h.boxes.length]?=aa cs:=bp h cs
def ng(hc:c=h.boxes.length):(h.push cs).boxes[c]?=aa cs:=by subst hc;exact bp h cs
def Je(hc:c≠h.boxes.length):(h.push cs).boxes[c]?=h.boxes[c]?:=by
 unfold ao.push;simp only[List.getElem?_append];split
 ·rfl
 ·rename_i h1;rw[qB (by simp;omega),qB ah]
def afL(hb:b<h.boxes.length):(h.put b cs).boxes[b]?=aa cs:=ey hb
def afM(hc:c≠b):(h.put b cs).boxes[c]?=h.boxes[c]?:=cP hc
def afJ:(h.app k).boxes[c]?=h.boxes[c]?:=by rw[eS]
def Wp:(h.app k).boxes.length=h.boxes.length:=by rw[eS]
end
def zn{n0}{h}{cs}{k}:dQ n0 (h.push cs) k=dQ n0 h k:=rfl
def A3{n0 b}{h}{cs}{k}:dQ n0 (h.put b cs) k=dQ n0 h k:=rfl
def Ext.fI{h h'}(x:Ext h h'){b}(hb:h.boxes.length<=b)(cs):Ext h (h'.put b cs):=by refine⟨λc ds hc=>?_,x.loop,x.tn,x.dead,x.ok⟩;have az:c<h.boxes.length:=(aQ.1 hc).1;rw[cP ah];exact x.box c ds hc
section
variable {P:bB} {G:Nat->Option (List AV)} {h:ao} {t:aH} {b off n:Nat} {cs:List AV}
def apM{z:aL}(hs:dm P t=aa 1)(hb:h.boxes[b]?=aa cs)(hl:off+1<=cs.length):b8 P h t (.ptr (.box b) off) (.v z)=aa (h.put b (eK cs off [.v z])):=fw rfl hs hb rfl hl
def apK{k:Tok}{sz:Nat}{es:List (List AV)}(hs:dm P t=aa 1)(hb:h.boxes[b]?=aa cs)(hl:off+1<=cs.length):b8 P h t (.ptr (.box b) off) (.list k sz es)=aa (h.put b (eK cs off [.list k sz es])):=fw rfl hs hb rfl hl
def aoT{l:List UInt8}{k k':tS}{lo hi:Int}(hu:P.underlying t=aa .string)(h0:0<=lo)(h1:lo<=hi)(h2:hi<=l.length):
 ie P t (.v (.string (bs l))) (aa (.v (.int k lo))) (aa (.v (.int k' hi))) au=aa (.v (.string (bs ((l.take hi.toNat).drop lo.toNat)))):=by
 unfold ie;simp only[AW,xw,ju,if_false,hu,A1];have e1:fX l.length (aa (AV.v (.int k' hi))) l.length=aa hi.toNat:=by unfold fX;simp only;rw[aD ⟨ah,h2⟩]
 have e2:fX hi.toNat (aa (AV.v (.int k lo))) 0=aa lo.toNat:=by unfold fX;simp only;rw[aD ⟨h0,by omega⟩]
 simp only[e1,e2,Mq]
def aoU{l:List UInt8}{k:tS}{lo:Int}(hu:P.underlying t=aa .string)(h0:0<=lo)(h1:lo<=l.length):
 ie P t (.v (.string (bs l))) (aa (.v (.int k lo))) au au=aa (.v (.string (bs (l.drop lo.toNat)))):=by
 unfold ie;simp only[AW,xw,ju,if_false,hu,A1];have e1:fX l.length au l.length=aa l.length:=rfl;have e2:fX l.length (aa (AV.v (.int k lo))) 0=aa lo.toNat:=by unfold fX;simp only;rw[aD ⟨h0,h1⟩]
 simp only[e1,e2,Mq,gM]
def aoV{l:List UInt8}{k':tS}{hi:Int}(hu:P.underlying t=aa .string)(h0:0<=hi)(h2:hi<=l.length):
 ie P t (.v (.string (bs l))) au (aa (.v (.int k' hi))) au=aa (.v (.string (bs (l.take hi.toNat)))):=by
 unfold ie;simp only[AW,xw,ju,if_false,hu,A1];have e1:fX l.length (aa (AV.v (.int k' hi))) l.length=aa hi.toNat:=by unfold fX;simp only;rw[aD ⟨h0,h2⟩]
 have e2:fX hi.toNat au 0=aa 0:=rfl;simp only[e1,e2,Mq,iB]
def WK{r:Ref}:Pd (.ptr r off)=aa (.ptr r off):=rfl
end
end Go.AE
end
section
namespace Go.AE
def Env.Dd(e:Env)(d:bq × List AV):Env:={e with defers:=d::e.defers}
def Env.pn(e:Env)(p:Option (AV × Bool)):Env:={e with cO:=p}
section
variable {e:Env} {d:bq × List AV} {p:Option (AV × Bool)} {t:Nat}
def aeJ:(e.Dd d).get t=e.get t:=rfl
def aeI:(e.Dd d).defers=d::e.defers:=rfl
def aeK:(e.Dd d).cO=e.cO:=rfl
def Tn:(e.Dd d).round=e.round:=rfl
def akc:(e.pn p).get t=e.get t:=rfl
def akb:(e.pn p).defers=e.defers:=rfl
def akd:(e.pn p).cO=p:=rfl
def Xk:(e.pn p).round=e.round:=rfl
end
def Q6(P:bB)(G:Nat->Option (List AV))(R:Rec)(ops:Array Oper)(rest:List Oper)(d:Option Tmp)(args:List AV)(e:Env)(h:ao)(Q:Xt->Env->ao->Prop)(x:AV):Prop:=
 match x with
 | .func (.func g) first aA=>cJ P G R ops rest ((e.Dd (g,first++args++aA)).put d (.tuple [])) h Q
 |_=>False
def LQ(P:bB)(G:Nat->Option (List AV))(R:Rec)(ops:Array Oper)(rest:List Oper)(d:Option Tmp)(e:Env)(h:ao)(Q:Xt->Env->ao->Prop)(p:Option (AV × Bool)):Prop:=
 match p with
 |some (x,ay)=>cJ P G R ops rest ((e.pn (aa (x,ai))).put d x) h Q
 |_=>cJ P G R ops rest (e.put d (.v .nilIface)) h Q
section
variable {P:bB} {G:Nat->Option (List AV)} {R:Rec} {ops:Array Oper} {rest:List Oper} {e:Env} {h:ao} {Q:Xt->Env->ao->Prop} {d:Option Tmp} {ty:aH} {pos:String} {af:Array Edge}
def al4{f:bH}{args:Array bH}{ts:Array aH}(hr:e.round=au):cJ P G R ops (⟨d,.defer {callee:=.value f,args,argTypes:=ts},ty,pos,af,au⟩::rest) e h Q=Q6 P G R ops rest d (args.toList.map e.eval) e h Q (e.eval f):=by
 rw[anQ hr];generalize e.eval f=y;rcases y with _|_|_|_|_|_|_|_|⟨fn,a,b⟩|_|_
 case func=>cases fn<;>rfl
 all_goals rfl
def aeH{g:bq}{first aA args:List AV}:Q6 P G R ops rest d args e h Q (.func (.func g) first aA)=cJ P G R ops rest ((e.Dd (g,first++args++aA)).put d (.tuple [])) h Q:=rfl
def amk{args:Array bH}{ts:Array aH}(hr:e.round=au):cJ P G R ops (⟨d,.call {callee:=.builtin .recover,args,argTypes:=ts},ty,pos,af,au⟩::rest) e h Q=LQ P G R ops rest d e h Q e.cO:=by
 rw[anU hr];rcases hp:e.cO with _|⟨x,b⟩
 ·rfl
 ·cases b<;>rfl
def ak7{x:AV}:LQ P G R ops rest d e h Q (aa (x,ay))=cJ P G R ops rest ((e.pn (aa (x,ai))).put d x) h Q:=rfl
def ak6:LQ P G R ops rest d e h Q au=cJ P G R ops rest (e.put d (.v .nilIface)) h Q:=rfl
def QP{fn:Func}{g:bq}{args:List AV}{ds:List (bq × List AV)}{x:AV}{h':ao}(hc:R.jH g args au h=aa (.ret x,au,h')):gK P G R fn e ((g,args)::ds) au h=gK P G R fn e ds au h':=by rw[gK,hc]
def aqA{fn:Func}{g:bq}{args:List AV}{ds:List (bq × List AV)}{x y z:AV}{h':ao}(hc:R.jH g args (aa (y,ay)) h=aa (.ret x,aa (z,ai),h')):gK P G R fn e ((g,args)::ds) (aa (y,ay)) h=gK P G R fn e ds au h':=by rw[gK,hc]
end
end Go.AE
end
section
namespace Go.AE
def IW(P:bB)(G:Nat->Option (List AV))(R:Rec)(fn:Func)(Post:eL->ao->Prop):Xt->Env->ao->Prop:=λo e h=>∃r h',xU P G R fn r h' o e h/\Post r h'
def aeY{P}{G}{R}{fn}{Post}{e}{h}:IW P G R fn Post .normal e h=∃r h',gK P G R fn e e.defers au h=aa (r,h')/\Post r h':=rfl
def ae0{P}{G}{R}{fn}{Post}{e}{h}:IW P G R fn Post .ret e h=∃r h',gK P G R fn e e.defers au h=aa (r,h')/\Post r h':=rfl
def aeZ{P}{G}{R}{fn}{Post}{e}{h}{x}:IW P G R fn Post (.panic x) e h=∃r h',gK P G R fn e e.defers (aa (x,ay)) h=aa (r,h')/\Post r h':=rfl
def ec{P}{G}{aK}{g}{fn}{body}{args}{h}{Post}(hp:aK g=au)(gG:P.funcs[g]?=aa fn)(hb:fn.body=aa body)
 (hr:bM (whole P G aK) body (Env.start args au) h (IW P G (whole P G aK) fn Post)):∃r h',(whole P G aK).call g args h=aa (r,h')/\Post r h':=by
 obtain⟨o,e1,h1,h2,r,h',h3,h4⟩:=hr;exact⟨r,h',cN hp gG hb ⟨o,e1,h1,h2,h3⟩,h4⟩
end Go.AE
end
section
namespace Go.AE
section
variable {P:bB} {h:ao} {ts:Array aH} {ty:aH} {k:tS} {a b:Int}
def Ci:jn P h .max ts ty [.v (.int k a),.v (.int k b)]=aa (.v (.int k (if a<b then b else a)),h):=by
 have h1:jn P h .max ts ty [.v (.int k a),.v (.int k b)]=((fj P (Builtin.max_ ts ty #[.int k a,.int k b])).bind nR).map (·,h):=rfl;rw[h1];have h2:fj P (Builtin.max_ ts ty #[.int k a,.int k b])=aa (.int k (if a<b then b else a)):=by simp[Builtin.max_,Builtin.max2];split<;>simp_all<;>rfl
 rw[h2];split<;>rfl
def GL:jn P h .min ts ty [.v (.int k a),.v (.int k b)]=aa (.v (.int k (if b<a then b else a)),h):=by
 have h1:jn P h .min ts ty [.v (.int k a),.v (.int k b)]=((fj P (Builtin.min_ ts ty #[.int k a,.int k b])).bind nR).map (·,h):=rfl;rw[h1];have h2:fj P (Builtin.min_ ts ty #[.int k a,.int k b])=aa (.int k (if b<a then b else a)):=by simp[Builtin.min_,Builtin.min2];split<;>simp_all<;>rfl
 rw[h2];split<;>rfl
def ail{t:aH}{x:AV}:jn P h .len #[t] ty [x]=(dN P t x).map (·,h):=rfl
def FD{t:aH}{x:AV}:jn P h .cap #[t] ty [x]=(Db P t x).map (·,h):=rfl
def append_eq{d:Option Tmp}{s x:AV}:rI P (λ_=>au) d h .append ts ty [s,x]=gd P h ts s x:=rfl
def ab0{G:Nat->Option (List AV)}{d:Option Tmp}{s x:AV}(ht:HP G d ty=ay):rI P G d h .append ts ty [s,x]=gd P h ts s x:=by unfold rI;simp only[ht,ju,if_false]
def ab1{G:Nat->Option (List AV)}{d:Option Tmp}{s x:AV}(ht:HP G d ty=ai):rI P G d h .append ts ty [s,x]=sI P h ts s x:=by unfold rI;simp only[ht,if_true]
def copy_eq{s x:AV}:jn P h .copy ts ty [s,x]=zr P h ts s x:=rfl
end
end Go.AE
end
section
namespace Go.AE
section
variable {H:Type} {P:bB} {t e:aH} {cs xs:List AV} {x:AV} {d:DataW H}
def Has.OF{k:tS}(h:Has P t cs d)(hu:P.underlying t=aa (.int k)):∃n:Int,cs=[.v (.int k n)]/\k.min<=n/\n<=k.max:=by
 cases h with
 |int di n hn=>rw[hu] at di;injection di with di;injection di with di;subst di;exact⟨n,rfl,by simpa [Lit.wf] using hn⟩
 |bool di=>rw[hu] at di;cases di
 |str di=>rw[hu] at di;cases di
 |none di=>rw[hu] at di;cases di
 |list di=>rw[hu] at di;cases di
 |struct di=>rw[hu] at di;cases di
 |array di=>rw[hu] at di;cases di
def Has.DY(h:Has P t cs d)(hu:P.underlying t=aa (.int .i64)):∃n:Int,cs=[.v (.int .i64 n)]/\ -9223372036854775808<=n/\n<=9223372036854775807:=by obtain⟨n,h1,h2,h3⟩:=h.OF hu;simp[IntKind.min,IntKind.max,IntKind.signed,IntKind.bits] at h2 h3;exact⟨n,h1,h2,h3⟩
def Has.QN(h:Has P t cs d)(hu:P.underlying t=aa (.int .u8)):∃b:UInt8,cs=jQ b:=by
 obtain⟨n,h1,h2,h4⟩:=h.OF hu;simp[IntKind.min,IntKind.max,IntKind.signed,IntKind.bits] at h2 h4;refine⟨UInt8.ofNat n.toNat,?_⟩;have h3:((UInt8.ofNat n.toNat).toNat:Int)=n:=by
  have:(UInt8.ofNat n.toNat).toNat=n.toNat:=by simp;omega
  rw[this];omega
 rw[h1,jQ,h3]
def Has.Ey(h:Has P t cs d)(hu:P.underlying t=aa (.slice e)):∃(k:Tok) (es:List (List AV)),cs=[.list k (P.cellsOf e) es]/\es.length<=maxLen/\(k=.nil∨k=.held∨(k=.tight/\es=[]))/\(k=.nil->es=[])/\
 ∀r∈es,r.length=P.cellsOf e/\∃d:DataW H,Has P e r d:=by
 cases h with
 |bool di=>rw[hu] at di;cases di
 |int di=>rw[hu] at di;cases di
 |str di=>rw[hu] at di;cases di
 |none di=>rw[hu] at di;injection di with di;injection di with di;subst di;exact⟨.nil,[],rfl,by simp,.inl rfl,λ_=>rfl,λr hr=>by cases hr⟩
 |list di k es ds sp hk hl hd he hs=>
  rw[hu] at di;injection di with di;injection di with di;subst di;refine⟨k,es,rfl,hl,.inr hk,?_,λr hr=>⟨hs r hr,?_⟩⟩
  ·rintro rfl;rcases hk with hk|⟨hk,-⟩<;>cases hk
  ·obtain⟨i,hi,rfl⟩:=List.mem_iff_getElem.1 hr;exact⟨ds[i],he i _ _ (a9 hi) (a9 ah)⟩
 |struct di=>rw[hu] at di;cases di
 |array di=>rw[hu] at di;cases di
def Has.KI{fs:Array Field}{pO:List (aH × Nat)}(h:Has P t xs d)(hu:P.underlying t=aa (.struct fs))(hf:(fs.toList.map λf=>(f.type,f.offset))=pO):
 xs.length=P.cellsOf t/\∀(i:Nat) (u:aH) (o:Nat),pO[i]?=aa (u,o)->∃d:DataW H,Has P u ((xs.drop o).take (P.cellsOf u)) d:=by
 cases h with
 |bool di=>rw[hu] at di;cases di
 |int di=>rw[hu] at di;cases di
 |str di=>rw[hu] at di;cases di
 |none di=>rw[hu] at di;cases di
 |list di=>rw[hu] at di;cases di
 |array di=>rw[hu] at di;cases di
 |struct di xs ds hl hd hff=>
  rw[hu] at di;injection di with di;injection di with di;subst di;refine⟨hl,λi u o ho=>?_⟩;rw[<-hf,List.getElem?_map] at ho;cases hq:fs.toList[i]? with
  |none=>rw[hq] at ho;cases ho
  |some f=>rw[hq] at ho;simp only[eX,dE,cW] at ho;have hi:i<ds.length:=(by have:=(aQ.1 hq).1;simp at this;omega);have:=hff i f ds[i] (by rw[<-CD];exact hq) (a9 hi);rw[ho.1,ho.2] at this;exact⟨_,this⟩
def lq.plain(h:lq P t x d)(hu:∀fs,P.underlying t≠aa (.struct fs))(Ow:∀n e,P.underlying t≠aa (.array n e)):Has P t [x] d:=by
 unfold lq at h;split at h
 ·rename_i h1;exact absurd h1 (hu _)
 ·rename_i h1;exact absurd h1 (Ow _ _)
 ·exact h
def lq.DY(h:lq P t x d)(hu:P.underlying t=aa (.int .i64)):∃n:Int,x=.v (.int .i64 n)/\ -9223372036854775808<=n/\n<=9223372036854775807:=by obtain⟨l,h1,h2⟩:=(h.plain (λ_ hq=>by rw[hu] at hq;cases hq) (λ_ _ hq=>by rw[hu] at hq;cases hq)).DY hu;injection h1 with h1;exact⟨l,h1,h2⟩
def lq.QN(h:lq P t x d)(hu:P.underlying t=aa (.int .u8)):∃b:UInt8,x=.v (.int .u8 b.toNat):=by obtain⟨l,h1⟩:=(h.plain (λ_ hq=>by rw[hu] at hq;cases hq) (λ_ _ hq=>by rw[hu] at hq;cases hq)).QN hu;injection h1 with h1;exact⟨l,h1⟩
def lq.Ey(h:lq P t x d)(hu:P.underlying t=aa (.slice e)):∃(k:Tok) (es:List (List AV)),x=.list k (P.cellsOf e) es/\es.length<=maxLen/\(k=.nil∨k=.held∨(k=.tight/\es=[]))/\(k=.nil->es=[])/\
 ∀r∈es,r.length=P.cellsOf e/\∃d:DataW H,Has P e r d:=by
 obtain⟨k,es,h1,h2⟩:=(h.plain (λ_ hq=>by rw[hu] at hq;cases hq) (λ_ _ hq=>by rw[hu] at hq;cases hq)).Ey hu;injection h1 with h1;exact⟨k,es,h1,h2⟩
def lq.KI{fs:Array Field}(h:lq P t x d)(hu:P.underlying t=aa (.struct fs)):∃xs,x=.agg xs/\Has P t xs d:=by unfold lq at h;rw[hu] at h;exact h
def HK(P:bB)(t:aH)(pO:List (aH × Nat)):Bool:=
 match P.underlying t with
 |some (.struct fs)=>decide ((fs.toList.map λf=>(f.type,f.offset))=pO)
 |_=>ay
def YY{pO:List (aH × Nat)}(h:HK P t pO=ai):∃fs:Array Field,P.underlying t=aa (.struct fs)/\(fs.toList.map λf=>(f.type,f.offset))=pO:=by
 unfold HK at h;split at h
 ·rename_i fs hu;exact⟨fs,hu,by simpa using h⟩
 ·cases h
def lq.fields{pO:List (aH × Nat)}(h:lq P t x d)(hs:HK P t pO=ai):∃xs,x=.agg xs/\xs.length=P.cellsOf t/\∀(i:Nat) (u:aH) (o:Nat),pO[i]?=aa (u,o)->∃d:DataW H,Has P u ((xs.drop o).take (P.cellsOf u)) d:=by obtain⟨fs,hu,hf⟩:=YY hs;obtain⟨xs,h1,h2⟩:=h.KI hu;exact⟨xs,h1,h2.KI hu hf⟩
def Has.fields{pO:List (aH × Nat)}(h:Has P t xs d)(hs:HK P t pO=ai):xs.length=P.cellsOf t/\∀(i:Nat) (u:aH) (o:Nat),pO[i]?=aa (u,o)->∃d:DataW H,Has P u ((xs.drop o).take (P.cellsOf u)) d:=by obtain⟨fs,hu,hf⟩:=YY hs;exact h.KI hu hf
def Wn{α:Type}{l:List α}(h:l.length=2):∃a b,l=[a,b]:=by
 match l,h with
 | [a,b],_=>exact⟨a,b,rfl⟩
def PS{α:Type}{f}:∀{es:List (List AV)},(∀r∈es,∃a,r=f a)->∃l:List α,es=l.map f:=by
 intro es
 induction es with
 |nil=>intro _;exact⟨[],rfl⟩|cons r es ih=>intro h;obtain⟨a,rfl⟩:=h r ga;obtain⟨l,rfl⟩:=ih λr hr=>h r (fR _ hr);exact⟨a::l,rfl⟩
end
end Go.AE
end
section
namespace Go.AE
end Go.AE
end
section
namespace Go.AE
section
variable {a b:Nat × bH} {i k:Nat} {n:Int} {x:ByteArray} {l:List (Nat × bH)}
def adI:wu #[]=ay:=rfl
def adJ:wu #[a]=ay:=by
 obtain⟨i,o⟩:=a;cases o with
 |const v=>
  cases v with
  |int k n=>cases k<;>rfl
  |_=>rfl
 |_=>rfl
def adL:wu (Lx ((i,.tmp k)::l))=ay:=rfl
def adH:wu (Lx ((i,.const (.int .i64 n))::l))=ay:=rfl
def adK:wu (Lx ((i,.const (.string x))::l))=ay:=rfl
def adM:wu (Lx ((i,.const (.int .u8 n))::b::l))=ai:=rfl
end
set_option linter.defProp false in
def goS:=ax @run_seq (ax @an4 (ax @anX (ax @anW (ax @anZ (ax @an5 (ax @an7 (ax @an0 (ax @an6 (ax @aox (ax @aoz (ax @aow (ax @aoy (ax @ac4 (ax @ac6 (ax @Sy (ax @ac5 (ax @aiB (ax @aiD (ax @aiA (ax @aiC (ax @adx (ax @ady (ax @adj (ax @adg (ax @agi (ax @agh (ax @agd (ax @agc (ax @agj (ax @af9 (ax @af8 (ax @aoW (ax @anS (ax @anR (ax @amh (ax @alU (ax @amj (ax @alS (ax @alW (ax @alX (ax @alY (ax @amb (ax @amm (ax @ami (ax @alV (ax @amo (ax @al0 (ax @amd (ax @amc (ax @ame (ax @aml (ax @al7 (ax @al6 (ax @al9 (ax @al8 (ax @amn (ax @al5 (ax @ama (ax @alZ (ax @alT (ax @al3 (ax @amg (ax @amf (ax @anV (ax @abE (ax @abD (ax @abC (ax @SJ (ax @SK (ax @akQ (ax @akO (ax @KF (ax @apj (ax @apk (ax @YL (ax @apt (ax @aps (ax @apu (ax @Qz (ax @zw (ax @eval_const (ax @eval_func (ax @eval_global (ax @ajo (ax @ajn (ax @ajt (ax @ajq (ax @ajp (ax @ajr (ax @ajs (ax @ajm (ax @adl (ax @A1 (ax @Sq (ax @acM (ax @acD (ax @acG (ax @acI (ax @acy (ax @acE (ax @acC (ax @acB (ax @acA (ax @acz (ax @acK (ax @acL (ax @acJ (ax @aqt (ax @aqs (ax @Wq (ax @OX (ax @OW (ax @ahR (ax @aj8 (ax @fh (ax @ML (ax @ae1 (ax @ae3 (ax @ae2 (ax @ae4 (ax @ae6 (ax @ae5 (ax @aqy (ax @aqz (ax @HX (ax @yQ (ax @ju (ax @decide_true (ax @decide_false (ax @not_true_eq_false (ax @not_false_eq_true (ax @Int.toNat_natCast (ax @Int.toNat_zero (ax @Nat.succ_ne_zero (ax @Ci (ax @GL (ax @ail (ax @FD (ax @append_eq (ax @copy_eq (ax @adI (ax @adJ (ax @adL (ax @adH (ax @adK (@adM))))))))))))))))))))))))))))))))))))))))))))))))))))))))))))))))))))))))))))))))))))))))))))))))))))))))))))))))))))))))))))))))))))))))))))))))))
set_option linter.defProp false in
def goH:=ax @aeY (ax @ae0 (ax @aeZ (ax @QP (ax @aqA (ax @anT (ax @al4 (ax @aeH (ax @amk (ax @ak7 (ax @ak6 (ax @aeJ (ax @aeI (ax @aeK (ax @Tn (ax @akc (ax @akb (ax @akd (ax @Xk (ax @ma (ax @jj (ax @apM (ax @apK (ax @aoT (ax @aoU (ax @aoV (ax @WK (ax @bK (ax @Nat.zero_add (@Nat.add_zero)))))))))))))))))))))))))))))
end Go.AE
end
section
namespace Go.AE
section
variable {P:bB} {G:Nat->Option (List AV)} {aK:bq->Option (List AV->ao->Option (AV × ao))} {Q:Xt->Env->ao->Prop} {e:Env} {h:ao}
def JU(e:Env)(params:Array Tmp)(assign body:Code):gZ:={tmps:=e.tmps,params,assign,body,state:=.ready,pending:=au}
def ao.loop(h:ao)(r:gZ):ao:={h with loops:=h.loops++[r]}
def ao.done(h:ao)(l:Nat)(r:gZ):ao:={h with loops:=h.loops.set l {r with state:=.exhausted}}
def an2{f:bH}{params:Array Tmp}{assign body:Code}{g:bq}{first aA:List AV}(hf:e.eval f=.func (.func g) first aA){x:AV}{h':ao}
 (hc:(whole P G aK).call g (first++[.yield h.loops.length]++aA) (h.loop (JU e params assign body))=aa (.panic x,h')) (hq:Q (.panic x) e h'):
 bM (whole P G aK) (.rangeFunc f params assign body) e h Q:=by
 unfold bM;rw[rq];unfold fy;have gT:(whole P G aK).call g (first++[.yield h.loops.length]++aA) {h with loops:=h.loops++[{tmps:=e.tmps,params,assign,body,state:=.ready,pending:=au}]}=aa (.panic x,h'):=hc;simp only[hf,gT];exact⟨_,_,_,rfl,hq⟩
def an1{f:bH}{params:Array Tmp}{assign body:Code}{g:bq}{first aA:List AV}(hf:e.eval f=.func (.func g) first aA){x:AV}{h':ao}{r:gZ}
 (hc:(whole P G aK).call g (first++[.yield h.loops.length]++aA) (h.loop (JU e params assign body))=aa (.ret x,h')) (hr:h'.loops[h.loops.length]?=aa r) (hb:r.state≠ .busy) (hp:r.pending=au)
 (hq:Q .normal e (h'.done h.loops.length r)):bM (whole P G aK) (.rangeFunc f params assign body) e h Q:=by
 unfold bM;rw[rq];unfold fy;have gT:(whole P G aK).call g (first++[.yield h.loops.length]++aA) {h with loops:=h.loops++[{tmps:=e.tmps,params,assign,body,state:=.ready,pending:=au}]}=aa (.ret x,h'):=hc;simp only[hf,gT,hr,hp];rw[aG hb];refine⟨_,_,_,rfl,?_⟩;simpa only[ao.done,hp] using hq
def an3{f:bH}{params:Array Tmp}{assign body:Code}{g:bq}{first aA:List AV}(hf:e.eval f=.func (.func g) first aA){x:AV}{h':ao}{r:gZ}
 (hc:(whole P G aK).call g (first++[.yield h.loops.length]++aA) (h.loop (JU e params assign body))=aa (.ret x,h')) (hr:h'.loops[h.loops.length]?=aa r) (hb:r.state≠ .busy) (hp:r.pending=aa .ret)
 (hq:Q .ret e (h'.done h.loops.length r)):bM (whole P G aK) (.rangeFunc f params assign body) e h Q:=by
 unfold bM;rw[rq];unfold fy;have gT:(whole P G aK).call g (first++[.yield h.loops.length]++aA) {h with loops:=h.loops++[{tmps:=e.tmps,params,assign,body,state:=.ready,pending:=au}]}=aa (.ret x,h'):=hc;simp only[hf,gT,hr,hp];rw[aG hb];refine⟨_,_,_,rfl,?_⟩;simpa only[ao.done,hp] using hq
def mT(l:Nat)(r:gZ)(args:List AV):Env:={tmps:=Ex r.params.toList args r.tmps,defers:=[],cO:=au,round:=aa l}
def ao.busy(h:ao)(l:Nat)(r:gZ):ao:={h with loops:=h.loops.set l {r with state:=.busy}}
def amN(l:Nat)(x:eL)(h':ao):Xt->Env->ao->Prop
 | .normal,_,h2=>∃r,h2.loops[l]?=aa r/\x=.ret (.v (.bool ai))/\h'={h2 with loops:=h2.loops.set l {r with state:=.ready,pending:=au}}
 | .ret,_,h2=>∃r,h2.loops[l]?=aa r/\x=.ret (.v (.bool ay))/\h'={h2 with loops:=h2.loops.set l {r with state:=.done,pending:=aa .ret}}
 | .exit id,_,h2=>∃r,h2.loops[l]?=aa r/\x=.ret (.v (.bool ay))/\h'={h2 with loops:=h2.loops.set l {r with state:=.done,pending:=aa (.exit id)}}
 | .panic z,_,h2=>x=.panic z/\h'=h2
def Ki{l:Nat}{args:List AV}{r:gZ}{x:eL}{h':ao}(hr:h.loops[l]?=aa r)(hs:r.params.size=args.length)
 (ha:bM (whole P G aK) r.assign (mT l r args) h (λo e1 h1=>o=.normal/\∃r2,h1.loops[l]?=aa r2/\r2.state=.ready/\bM (whole P G aK) r.body e1 (h1.busy l r2) (amN l x h'))):
 (whole P G aK).round l args h=aa (x,h'):=by
 rw[aqT];unfold vL;obtain⟨o,e1,h1,e2,rfl,r2,q1,q2,o2,e3,h3,q3,q4⟩:=ha;have e2':(whole P G aK).code r.assign {tmps:=Ex r.params.toList args r.tmps,defers:=[],cO:=au,round:=aa l} h=aa (.normal,e1,h1):=e2;have q3':(whole P G aK).code r.body e1 {h1 with loops:=h1.loops.set l {r2 with state:=.busy}}=aa (o2,e3,h3):=q3;simp only[hr,hs,if_true,e2',q1,q2];rw[show({h1 with loops:=h1.loops.set l {tmps:=r2.tmps,params:=r2.params,assign:=r2.assign,body:=r2.body,state:=LoopState.busy,pending:=r2.pending}}:ao)={h1 with loops:=h1.loops.set l {r2 with state:=.busy}} from rfl,q3'];cases o2 with
 |normal=>obtain⟨r3,w1,rfl,rfl⟩:=q4;simp only[w1,eX]
 |ret=>obtain⟨r3,w1,rfl,rfl⟩:=q4;simp only[w1,eX]
 |exit id=>obtain⟨r3,w1,rfl,rfl⟩:=q4;simp only[w1,eX]
 |panic z=>obtain⟨rfl,rfl⟩:=q4;rfl
end
end Go.AE
end
section
namespace Go.AE
structure Fr(bn l0 n0:Nat)(h h':ao):Prop where
 box:∀(c:Nat) (cs:List AV),c≠bn->h.boxes[c]?=aa cs->h'.boxes[c]?=aa cs
 len:h.boxes.length<=h'.boxes.length
 loop:∀(l:Nat) (r:gZ),l<l0->h.loops[l]?=aa r->h'.loops[l]?=aa r
 D5:h.loops.length<=h'.loops.length
 tn:h.tn<=h'.tn
 dead:∀n,n<n0->n∈h'.dead->n∈h.dead
 ok:dj h=ai->dj h'=ai
def Fr.refl(bn l0 n0)(h):Fr bn l0 n0 h h:=⟨λ_ _ _ h=>h,aJ _,λ_ _ _ h=>h,aJ _,aJ _,λ_ _ h=>h,λh=>h⟩
def Fr.trans{bn l0 n0}{a b c}(h:Fr bn l0 n0 a b)(k:Fr bn l0 n0 b c):Fr bn l0 n0 a c:=
 ⟨λi cs hi hb=>k.box i cs hi (h.box i cs hi hb),fc h.len k.len,λl r hl hr=>k.loop l r hl (h.loop l r hl hr),fc h.D5 k.D5,fc h.tn k.tn,λn hn hd=>h.dead n hn (k.dead n hn hd),λho=>k.ok (h.ok ho)⟩
def Ext.D5{h h'}(x:Ext h h'):h.loops.length<=h'.loops.length:=by
 rcases dT h'.loops.length h.loops.length with az|eo
 ·have h1:=x.loop h'.loops.length _ (a9 az);have:=(aQ.1 h1).1;omega
 ·exact eo
def Fr.Cj{bn l0 n0}{h h'}(x:Ext h h')(hn:n0<=h.tn):Fr bn l0 n0 h h':=
 ⟨λc cs _ hc=>x.box c cs hc,x.len,λl r _ hl=>x.loop l r hl,x.D5,x.tn,λn h1 h2=>x.dead n (mD h1 hn) h2,x.ok⟩
def Fr.push(bn l0 n0)(h)(cs):Fr bn l0 n0 h (h.push cs):=
 ⟨λ_ _ _ hb=>aZ hb,by rw[cH];exact Rr _,λ_ _ _ h=>h,aJ _,aJ _,λ_ _ h=>h,λh=>h⟩
def Fr.put(bn l0 n0)(h)(cs):Fr bn l0 n0 h (h.put bn cs):=
 ⟨λc ds hc hb=>by rw[cP hc];exact hb,by rw[mc];exact aJ _,λ_ _ _ h=>h,aJ _,aJ _,λ_ _ h=>h,λh=>h⟩
def ao.eH(h:ao)(l:Nat)(r:gZ):ao:={h with loops:=h.loops.set l r}
def Fr.eH{bn l0 n0}{h}{l}(hl:l0<=l)(r):Fr bn l0 n0 h (h.eH l r):=
 ⟨λ_ _ _ hb=>hb,aJ _,λm q hm hq=>by rw[<-hq];exact Ik ah,by simp[ao.eH],aJ _,λ_ _ h=>h,λh=>h⟩
def Fr.Ai{bn l0 n0}(h)(r):Fr bn l0 n0 h (h.loop r):=
 ⟨λ_ _ _ hb=>hb,aJ _,λm q hm hq=>uZ hq,by simp[ao.loop],aJ _,λ_ _ h=>h,λh=>h⟩
def Fr.ext{bn l0 n0}{h h'}(x:Fr bn l0 n0 h h')(hb:h.boxes.length<=bn)(hl:h.loops.length<=l0)(hn:h.tn<=n0):Ext h h':=
 ⟨λc cs hc=>x.box c cs (by have:=(aQ.1 hc).1;omega) hc,λl r hr=>x.loop l r (by have:=(aQ.1 hr).1;omega) hr,x.tn,λn h1 h2=>x.dead n (mD h1 hn) h2,x.ok⟩
def Yq{h:ao}{l}{r}(hl:l<h.loops.length):(h.eH l r).loops[l]?=aa r:=by simp[ao.eH,hl]
def Yp{h:ao}{l m}{r}(hl:m≠l):(h.eH l r).loops[m]?=h.loops[m]?:=by simp[ao.eH,Ik (Ne.symm hl)]
def Ch{h:ao}{r}:(h.loop r).loops[h.loops.length]?=aa r:=by simp[ao.loop]
def Wv{h:ao}{r q}{l:Nat}(hq:h.loops[l]?=aa q):(h.loop r).loops[l]?=aa q:=uZ hq
def St(l:Nat)(h h':ao):Prop:=(∀(b:Nat) (cs:List AV),h.boxes[b]?=aa cs->h'.boxes[b]?=aa cs)/\∀(m:Nat) (r:gZ),m<=l->h.loops[m]?=aa r->h'.loops[m]?=aa r
def St.refl(l)(h):St l h h:=⟨λ_ _ h=>h,λ_ _ _ h=>h⟩
def St.trans{l}{a b c}(h:St l a b)(k:St l b c):St l a c:=⟨λi cs hb=>k.1 i cs (h.1 i cs hb),λm r hm hr=>k.2 m r hm (h.2 m r hm hr)⟩
def St.push(l)(h)(cs):St l h (h.push cs):=⟨λ_ _ hb=>aZ hb,λ_ _ _ h=>h⟩
def St.Cj{l}{h h'}(x:Ext h h'):St l h h':=⟨x.box,λm r _ hr=>x.loop m r hr⟩
def St.eH{l k}{h}(hl:l<k)(r):St l h (h.eH k r):=⟨λ_ _ hb=>hb,λm q hm hq=>by rw[Yp ah];exact hq⟩
def St.Ai(l)(h)(r):St l h (h.loop r):=⟨λ_ _ hb=>hb,λm q _ hq=>Wv hq⟩
def St.fI{l}{h h'}(x:St l h h'){b}(hb:h.boxes.length<=b)(cs):St l h (h'.put b cs):=
 ⟨λc ds hc=>by have az:c<h.boxes.length:=(aQ.1 hc).1;rw[cP ah];exact x.1 c ds hc,x.2⟩
inductive Nx (α:Type) where
 |cont (a:α)|stop (a:α)|panic (v:AV)
def bM.gen{R}{c}{e}{h}{Q}(hq:∀e2:Env,(∀t,e2.get t=e.get t)->e2.defers=e.defers->e2.cO=e.cO->e2.round=e.round->bM R c e2 h Q):bM R c e h Q:=hq e (λ_=>rfl) rfl rfl rfl
section
variable {P:bB} {G:Nat->Option (List AV)} {aK:bq->Option (List AV->ao->Option (AV × ao))} {Q:Xt->Env->ao->Prop} {e:Env} {h:ao}
def Ct{f:bH}{params:Array Tmp}{assign body:Code}{g:bq}{first aA:List AV}(hf:e.eval f=.func (.func g) first aA)
 (H:∀rec:gZ,rec.tmps=e.tmps->rec.params=params->rec.assign=assign->rec.body=body->rec.state=.ready->rec.pending=au->∃r h',(whole P G aK).call g (first++[.yield h.loops.length]++aA) (h.loop rec)=aa (r,h')/\
  match r with
  | .panic x=>Q (.panic x) e h'
  | .ret _=>∃rc,h'.loops[h.loops.length]?=aa rc/\rc.state≠ .busy/\((rc.pending=au/\Q .normal e (h'.eH h.loops.length {rc with state:=.exhausted}))∨(rc.pending=aa .ret/\Q .ret e (h'.eH h.loops.length {rc with state:=.exhausted})))):
 bM (whole P G aK) (.rangeFunc f params assign body) e h Q:=by
 obtain⟨r,h',hc,hm⟩:=H (JU e params assign body) rfl rfl rfl rfl rfl rfl;cases r with
 |panic x=>exact an2 hf hc hm|ret x=>
  obtain⟨rc,h1,h2,h3|h3⟩:=hm
  ·exact an1 hf hc h1 h2 h3.1 h3.2
  ·exact an3 hf hc h1 h2 h3.1 h3.2
def XI{l p t:Nat}{r:gZ}{x:AV}(hp:r.params=#[p])(ht:r.tmps=e.tmps):(mT l r [x]).get t=if p=t then x else e.get t:=by unfold mT;rw[hp,ht];exact D7 e.tmps p t x
def St.mono{l l'}(hl:l<=l'){h h'}(x:St l' h h'):St l h h':=⟨x.1,λm r hm hr=>x.2 m r ah hr⟩
end
end Go.AE
end
section
namespace Go.AE
section
variable {P:bB} {G:Nat->Option (List AV)} {R:Rec}
end
section
variable {P:bB} {G:Nat->Option (List AV)} {aK:bq->Option (List AV->ao->Option (AV × ao))} {Q:Xt->Env->ao->Prop} {e:Env} {h:ao}
end
end Go.AE
end
section
namespace Go.AE
section
variable {P:bB} {G:Nat->Option (List AV)} {R:Rec} {ops:Array Oper} {k:Nat}
end
section
variable {P:bB} {G:Nat->Option (List AV)} {aK:bq->Option (List AV->ao->Option (AV × ao))} {Q:Xt->Env->ao->Prop} {e:Env} {h:ao}
def mb(ops:Array Oper)(k:Nat)(ps:List (Nat × Nat)):Bool:=ps.all λp=>px (cut ops k) p.1 p.2&&(decide (p.1<k)&&decide (p.2<k))
end
end Go.AE
end
