/-
  The engine, part 13b: a region that draws, and is ended by a panic of its last operation.
-/
import Derived.Test.YtnfciiiohoafaaaGreatDoorVA
import Derived.Laws.BitsLemmas
import Derived.ChangeArms
import Derived.OpenShut
import Derived.Carry
import Derived.ProofKit
import Derived.ChangeSame
open Go renaming Program->bK,World->cB,Frame->fh,FuncId->bm,TypeId->aK,Operand->bT,Value->aR,IntKind->tQ
open Bool renaming false->az,true->ai,and_eq_true->bL,not_true->R5,or_eq_true->uH,false_eq_true->jW,true_or->abx,or_true->R7,not_false->zk,eq_iff_iff->Fk,true_and->oc,false_and->xG
open Nat renaming strongRecOn->SG,lt_trans->pk,eq_of_beq_eq_true->jP,le_of_lt->nk,lt_or_ge->dV,le_antisymm->A5,lt_of_lt_of_le->mU,lt_succ_iff->A6,le_max_left->FU,le_max_right->Dc,lt_succ_of_lt->vZ,le_refl->aM,beq->jG,zero_le->cG,add_mul->gI,le_trans->fJ,le_succ->FV
open Array renaming getElem?_eq_getElem->mz,all_eq_true'->LZ,getElem?_toList->CK,mem_push->abl,all_eq_true->Fj,replicate->CL,getD_eq_getD_getElem?->abg,size->abn,getElem_toList->abj,getElem?_eq_none->xE
open Option renaming some->aa,some.injEq->dM,map_some->eW,bind_some->pq,none->ar,map_eq_some_iff->dy,map_none->MO,isSome_none->Ba
open List renaming cons.injEq->Sp,getElem?_toArray->jt,all_eq_true->ej,mem_range->gB,mem_cons->iq,getElem?_set->mA,range->bR,mem_cons_self->gj,mem_cons_of_mem->fN,mem_append_left->Sw,mem_append->vX,any_eq_true->FE,getElem?_eq_some_iff->aV,getElem?_eq_getElem->aT,mapM_cons->ab9,getElem?_eq_none->tS,range'->ace,range'_succ->acf,drop_eq_getElem_cons->xP,drop_zero->iX,range_eq_range'->Mw,mem_append_right->acd,take_length->fI,toArray->Mz,getElem?_set_ne->IW
open Prod renaming mk.injEq->dj
open And renaming intro->av
set_option linter.unusedSimpArgs false
set_option linter.unusedVariables false
set_option linter.constructorNameAsVariable false
set_option linter.defProp false
section
namespace Go.AE
section
variable {P:bK} {G:Nat->Option (List AV)} {R:Rec} {ops:Array Oper} {e:Env} {h:ao}
def oR.trans{a b c}(h:oR a b)(k:oR b c):oR a c:=⟨λt=>(h.iF t).trans (k.iF t),h.defers.trans k.defers,h.cV.trans k.cV,h.round.trans k.round⟩
def oR.symm{a b}(h:oR a b):oR b a:=⟨λt=>(h.iF t).symm,h.defers.symm,h.cV.symm,h.round.symm⟩
def oR.refl(a):oR a a:=⟨λ_=>rfl,rfl,rfl,rfl⟩
def oR.eval{a b}(h:oR a b)(x):a.eval x=b.eval x:=by
 cases x with|tmp t=>exact h.iF t|_=>rfl
def oR.wanted{a b:Env}(h:oR a b)(o:Oper):ff ops a o=ff ops b o:=by
 unfold ff;cases o.guard with
 |none=>rfl|some q=>
  simp only;cases (ops[q.1]?).bind (·.dst) with|none=>rfl|some d=>simp only[h.iF d]
variable {b:Array Nat}
end
end Go.AE
end
section
namespace Go.AE
section
variable {P:bK} {G:Nat->Option (List AV)} {R:Rec} {ops:Array Oper} {e:Env} {h:ao} {k:Nat}
inductive auW (ops:Array Oper) (k i:Nat):Prop
 |self (h:i=k)
 |ahead (h1:El ops k i=az) (h2:Vr ops k i=ai) (h3:i<k) (h4:Ord (Region.before (cut ops k)) i k)
 |beside (h1:El ops k i=az) (h2:Vr ops k i=ai) (h3:afe ops i=ai) (h4:pD ops i k=ai)
 |behind (h1:k<i) (h2:El ops k i=ai) (h3:Ord (Region.before (cut ops k)) k i)
def Fits.lt{b:Array Nat}(F:Fits P G R ops e h b):∀(j i:Nat),j<ops.size->i<ops.size->Ord b i j->i<j:=by
 intro j
 induction j using SG with
 |_ j ih=>
  intro i hj hi ho;have hx:ops[j]?=aa ops[j]:=mz hj;obtain⟨ed,fF,nu,hq⟩:=F.bits j i _ hx hi ho;have aB:=F.Ju j _ hx ed fF nu;rcases hq with q|q
  ·omega
  ·have:=ih ed.on aB i (pk aB hj) hi q;omega
structure auV(ops:Array Oper)(k:Nat)(a b:Env):Prop where
 iF:∀t,(∀i,i<ops.size->agU ops k i≠aa t)->a.get t=b.get t
 defers:a.defers=b.defers
 cV:a.cV=b.cV
 round:a.round=b.round
end
end Go.AE
end
section
namespace Go.AE
open Go.RowKit (Below)
section
variable {P:bK} {G:Nat->Option (List AV)} {w0:cB} {R:Rec}
def Steps.tail{m m1 m2:Machine}(h:step P m=.next m1)(hs:Steps P m m2)(bO:m≠m2):Steps P m1 m2:=by
 obtain⟨n,hn⟩:=hs;cases n with|zero=>simp[runN] at hn;exact absurd hn bO|succ n=>simp only[runN,h] at hn;exact⟨n,hn⟩
def Kx{fr fr'}{cs dO}{w w'}(h:lone fr cs w=lone fr' dO w'):fr=fr':=by unfold lone at h;simp only[Machine.mk.injEq,Array.mk.injEq,Sp,Goroutine.mk.injEq] at h;exact h.2.1.1.1
def ob.swap{K:aY}{m m1 m':Machine}{B:fh}{k:List Item}{c:Code}{cs cs0:List fh}{x:Xt}{a a0:Act}{w wz:cB}(hc:∀id,c≠ .exit id)(BJ:c≠ .ret)(hm:m=lone (B.atR a0 (.code c::k)) cs0 wz)
 (h1:step P m=.next m1) (h2:step P m'=.next m1) (h:ob P K m B k cs x a w):ob P K m' B k cs x a w:=by
 refine ob.of_steps (.one h2) ?_;cases x with
 |normal=>refine Steps.tail h1 h ?_;rw[hm];intro hq;have:=congrArg Frame.todo (Kx hq);simp only[Frame.atR] at this;exact absurd (congrArg List.length this) bH|exit id=>obtain⟨t,e1,e2⟩:=h;refine⟨t,e1,Steps.tail h1 e2 ?_⟩;rw[hm];intro hq;have:=congrArg Frame.todo (Kx hq);simp only[Frame.atR,Sp,Item.code.injEq] at this;exact hc id this.1
 |ret=>obtain⟨t,e2⟩:=h;refine⟨t,Steps.tail h1 e2 ?_⟩;rw[hm];intro hq;have:=congrArg Frame.todo (Kx hq);simp only[Frame.atR,Sp,Item.code.injEq] at this;exact BJ this.1
 |panic x=>obtain⟨t,v,e1,e2⟩:=h;refine⟨t,v,e1,Steps.tail h1 e2 ?_⟩;rw[hm];intro hq;have:=congrArg Frame.mode (Kx hq);simp[Frame.atR] at this
def Left.refl{K:aY}{w:cB}{a:Act}{B:fh}{ms:List Nat}{base cs:List fh}{k:List Item}{m:Machine}{out:Xt}{e:Env}{h:ao}(hf:nF P K e a B ms)(cC:CS K B.kind base e.cV cs)(hs:lD P G w0 K h w)(ha:ob P K m B k cs out a w):
 Left P G w0 K ms B base m k a.tmps.size out e h K w a cs ms:=
 ⟨.refl K,hs,hf,cC,rfl,λ_ hr=>.inl hr,ha⟩
def Left.of_steps{K K':aY}{w':cB}{a':Act}{B:fh}{ms ms':List Nat}{base dO:List fh}{k:List Item}{m m1:Machine}{out:Xt}{e':Env}{h':ao}{n:Nat}(hs:Steps P m m1)(L:Left P G w0 K ms B base m1 k n out e' h' K' w' a' dO ms'):
 Left P G w0 K ms B base m k n out e' h' K' w' a' dO ms':=
 ⟨L.le,L.qG,L.frame,L.cs,L.size,L.marks,L.arr.of_steps hs⟩
def Ql(hn:Di P)(hR:wc P G w0 R){ops:Array Oper}:∀(l:List Nat) (e:Env) (h:ao) (out:Xt) (e':Env) (h':ao),di P G R ops l e h=aa (out,e',h')->
 ∀(K:aY) (w:cB) (a:Act) (B:fh) (k:List Item) (base cs:List fh) (ms:List Nat),nF P K e a B ms->CS K B.kind base e.cV cs->lD P G w0 K h w->EH a.tmps.size ops=ai->
 ∃K' w' a' dO,Left P G w0 K ms B base (lone (B.atR a (.inRegion ops l::k)) cs w) k a.tmps.size out e' h' K' w' a' dO ms:=by
 intro l
 induction l with
 |nil=>intro e h out e' h' he K w a B k base cs ms hf cC hs Ca;simp only[di,dM,dj] at he;obtain⟨rfl,rfl,rfl⟩:=he;exact⟨K,w,a,cs,.refl hf cC hs (.one stepR_region_end)⟩
 |cons i rest ih=>
  intro e h out e' h' he K w a B k base cs ms hf cC hs Ca;simp only[di] at he;cases ho:ops[i]? with
  |none=>rw[ho] at he;cases he
  |some o=>
   rw[ho] at he;simp only at he;have V6:=YA Ca ho;cases hw:ff ops e o with
   |none=>rw[hw] at he;cases he
   |some b=>
    rw[hw] at he;have Xl:=auj hf.iF Ca hw;cases b with
    |false=>simp only at he;have jA:=stepR_op_skip (P:=P) (b:=B) (a:=a) (k:=k) (cs:=cs) (w:=w) (ops:=ops) (i:=i) (rest:=rest) (by rw[ho];simpa using Xl);have hb:(ops[i]?).bind (·.dst)=o.dst:=(by rw[ho];rfl);rw[hb] at jA;obtain⟨K',w',a',dO,L⟩:=ih _ _ _ _ _ he K w (a.put o.dst undef) B k base cs ms (hf.put V6 (.tuple [] #[] .nil)) (by cases o.dst<;>exact cC) hs (by rw[KR];exact Ca);rw[KR] at L;exact⟨K',w',a',dO,.of_steps (.one jA) L⟩
    |true=>
     simp only at he;cases bU:eo P G R e h o with
     |none=>rw[bU] at he;cases he
     |some q=>
      obtain⟨r,e1,h1⟩:=q;rw[bU] at he;obtain⟨K1,w1,a1,cs1,le1,s1,f1,c1,z1,gG⟩:=amb (i:=i) (rest:=rest) hn hR bU hf cC hs ho Xl k;cases r with
      |ret x=>obtain⟨v,hx,ct⟩:=gG;simp only at he;obtain⟨K',w',a',dO,L⟩:=ih _ _ _ _ _ he K1 w1 (a1.put o.dst v) B k base cs1 ms (f1.put (by rw[z1];exact V6) hx) (by cases o.dst<;>exact c1) s1 (by rw[KR,z1];exact Ca);rw[KR,z1] at L;refine⟨K',w',a',dO,le1.trans L.le,L.qG,L.frame,L.cs,L.size,λr hr=>.inl hr,L.arr.of_steps ct⟩
      |panic x=>obtain⟨v,todo,hx,ct⟩:=gG;simp only[dM,dj] at he;obtain⟨rfl,rfl,rfl⟩:=he;exact⟨K1,w1,a1,cs1,le1,s1,f1,c1,z1,λr hr=>.inl hr,todo,v,hx,ct⟩
def nF.same{K:aY}{e e2:Env}{a:Act}{B:fh}{ms:List Nat}(hf:nF P K e a B ms)(hs:oR e e2):nF P K e2 a B ms:=by
 refine⟨λt=>?_,hs.defers ▸ hf.defers,?_,hf.fn⟩
 ·have:=hs.iF t;unfold Env.get at this;rw[<-this];exact hf.iF t
 ·have:=hf.round;rw[hs.round,hs.defers] at this;exact this
def als{n:Nat}{ps:Array Tmp}(h:(ps.all λp=>decide (p<n))=ai):∀p∈ps.toList,p<n:=by intro p hp;rw[LZ] at h;simpa using h p (Array.mem_toList_iff.1 hp)
end
end Go.AE
end
section
namespace Go.AE
section
variable {P:bK} {G:Nat->Option (List AV)} {R:Rec} {ops:Array Oper} {i:Nat}
end
end Go.AE
end
section
namespace Go.AE
section
variable {K:aY} {G:Nat->Option (List AV)} {ok:bm->Nat->Code->Bool} {w0 w:cB} {h:ao}
end
end Go.AE
end
section
namespace Go.AE
open Go.RowKit (Below)
section
variable {P:bK} {G:Nat->Option (List AV)} {w0:cB} {R:Rec}
structure R8(d:Tmp)(e eh:Env):Prop where
 iF:∀t,t≠d->e.get t=eh.get t
 defers:e.defers=eh.defers
 cV:e.cV=eh.cV
 round:e.round=eh.round
def R8.eval{d}{e eh}(b:R8 d e eh){x}(hx:x≠ .tmp d):e.eval x=eh.eval x:=by
 cases x with|tmp t=>exact b.iF t λq=>hx (by rw[q])|_=>rfl
end
end Go.AE
end
section
namespace Go.AE
section
variable {ops:Array Oper} {i:Nat}
def ready_mono{S S':Nat->Bool}{k:Nat}(hr:oQ ops S k)(h:∀j,S j=ai->S' j=ai):oQ ops S' k:=λo ho ed fF hb=>h _ (hr o ho ed fF hb)
def Qh(S)(a b):dY (dY S a) b=dY (dY S b) a:=by funext j;unfold dY;by_cases h1:j=a<;>by_cases h2:j=b<;>simp[h1,h2]
structure auX(ops:Array Oper)(i:Nat)(d2:Tmp):Prop where
 lt:i+1<ops.size
 no:Jv ops i (i+1)=az
 all:∀k,k<ops.size->k≠i->k≠i+1->Jv ops (i+1) k=ai∨Jv ops k i=ai∨(ak5 ops d2 k=ai/\Jv ops k (i+1)=az)
variable {d2:Tmp}
variable {P:bK} {G:Nat->Option (List AV)} {w0:cB} {R:Rec}
end
end Go.AE
end
section
namespace Go.AE
section
variable {ops:Array Oper} {i j:Nat} {P:bK} {G:Nat->Option (List AV)} {R:Rec}
def r8:(gK ops i j).size=ops.size:=by simp[gK]
def DH(k:Nat):(gK ops i j)[k]?=(ops[k]?).map λo=>if k=j then {o with after:=o.after.push {on:=i,ground:=.data}} else o:=by unfold gK;simp only[jt,List.getElem?_mapIdx,CK]
def UK(k:Nat):((gK ops i j)[k]?).bind (·.dst)=(ops[k]?).bind (·.dst):=by
 rw[DH];cases ops[k]? with|none=>rfl|some o=>simp only[eW,pq];split<;>rfl
def aui(e:Env)(o:Oper):ff (gK ops i j) e o=ff ops e o:=by
 unfold ff;cases o.guard with|none=>rfl|some g=>simp only[UK]
def Ct:∀(L:List Nat) (e:Env) (h:ao),di P G R (gK ops i j) L e h=di P G R ops L e h:=by
 intro L
 induction L with
 |nil=>intro e h;rfl|cons k L ih=>
  intro e h;unfold di;rw[DH];cases ho:ops[k]? with
  |none=>rfl|some o=>
   simp only[eW];have e1:∀o':Oper,o'.op=o.op->o'.type=o.type->o'.guard=o.guard->o'.dst=o.dst->(ff (gK ops i j) e o'=ff ops e o/\eo P G R e h o'=eo P G R e h o):=(by intro o' q1 q2 q3 q4;refine⟨by rw[aui];unfold ff;rw[q3],?_⟩;unfold eo;rw[q1,q2,q4]);by_cases hk:k=j
   ·rw[aG hk];obtain⟨q1,q2⟩:=e1 {o with after:=o.after.push {on:=i,ground:=.data}} rfl rfl rfl rfl;rw[q1,q2];simp only[ih]
   ·rw[aH hk];obtain⟨q1,q2⟩:=e1 o rfl rfl rfl rfl;rw[q1];simp only[ih]
def yZ{S:Nat->Bool}{k:Nat}(hr:oQ ops S k)(hk:k=j->S i=ai):oQ (gK ops i j) S k:=by
 intro o ho ed fF hb;rw[DH] at ho;cases hq:ops[k]? with
 |none=>rw[hq] at ho;cases ho
 |some o0=>
  rw[hq] at ho;simp only[eW,dM] at ho;split at ho
  ·rename_i BU;subst ho;rcases abl.1 fF with q|q
   ·exact hr o0 hq ed q hb
   ·subst q;exact hk BU
  ·subst ho;exact hr o0 hq ed fF hb
def ak4:∀(L:List Nat) (S:Nat->Bool),S i=ai->oi ops S L->oi (gK ops i j) S L:=by
 intro L
 induction L with
 |nil=>intro S _ h k hk;exact h k (by rw[r8] at hk;exact hk)
 |cons k L ih=>
  intro S hS h;obtain⟨h1,h2,h3,h4⟩:=h;refine⟨by rw[r8];exact h1,h2,yZ h3 λ_=>hS,ih _ ?_ h4⟩;unfold dY;split
  ·rfl
  ·exact hS
def ad2(h:zi (gK ops i j)):zi ops:=by
 intro k o ho ed fF hb;have hg:(gK ops i j)[k]?=aa (if k=j then {o with after:=o.after.push {on:=i,ground:=.data}} else o):=by rw[DH,ho];rfl
 refine h k _ hg ed ?_ hb;split
 ·exact abl.2 (.inl fF)
 ·exact fF
def CZ(ops:Array Oper)(S:Nat->Bool):Prop:=∀(k:Nat) (o:Oper),ops[k]?=aa o->S k=ai->∀ed∈o.after,Region.binds .any ed=ai->S ed.on=ai
def CZ.one{S:Nat->Bool}{k:Nat}(c:CZ ops S)(hr:oQ ops S k):CZ ops (dY S k):=by
 intro m o ho hS ed fF hb;unfold dY at hS ⊢;split
 ·rfl
 ·split at hS
  ·rename_i q;subst q;exact hr o ho ed fF hb
  ·exact c m o ho hS ed fF hb
def aee{S:Nat->Bool}(hB:Bf ops (Region.before ops)=ai)(c:CZ ops S){k:Nat}:∀(m:Nat),m<ops.size->oQ ops S m->((Region.before ops).getD m 0).testBit k=ai->k<ops.size->S k=ai:=by
 intro m
 induction m using SG with
 |_ m ih=>
  intro hm hr hb hk;unfold Bf at hB;rw[ej] at hB;have:=hB m (gB.2 hm);have ho:ops[m]?=aa ops[m]:=mz hm;rw[ho] at this;simp only[bL,ej,LZ] at this;obtain⟨h1,h2⟩:=this;have h3:=h2 k (gB.2 hk);rw[hb] at h3;simp only[R5,Bool.false_or,Array.any_eq_true',bL,uH] at h3;obtain⟨ed,fF,nu,hq⟩:=h3;have hs:=hr _ ho ed fF nu;rcases hq with hq|hq
  ·rw[<-jP hq];exact hs
  ·have aB:ed.on<m:=(by have:=h1 ed fF;rw[nu] at this;simpa using this);exact ih ed.on aB ah (λo iS ed' ajc iA=>c _ o iS hs ed' ajc iA) hq hk
def aog{n:Nat}(hB:zi ops)(hn:n+1=ops.size):∀(L:List Nat) (S:Nat->Bool),S n=az->S i=ai->oQ ops S n->oi ops (dY S n) L->oi (gK ops i n) S (L++[n]):=by
 intro L
 induction L with
 |nil=>intro S hS hi hr h;refine⟨by rw[r8];omega,hS,yZ hr λ_=>hi,λk hk=>?_⟩;exact h k (by rw[r8] at hk;exact hk)
 |cons k L ih=>
  intro S hS hi hr h;obtain⟨h1,h2,h3,h4⟩:=h;unfold dY at h2;split at h2
  ·cases h2
  ·rename_i sn;have jj:oQ ops S k:=by
    intro o ho ed fF hb;have:=h3 o ho ed fF hb;unfold dY at this;split at this
    ·rename_i q;have:=hB k o ho ed fF hb;omega
    ·exact this
   refine⟨by rw[r8];exact h1,h2,yZ jj (λq=>absurd q sn),ih (dY S k) ?_ ?_ ?_ ?_⟩
   ·unfold dY;rw[aH (Ne.symm sn)];exact hS
   ·unfold dY;split;rfl;exact hi
   ·exact ready_mono hr λj hj=>by unfold dY;split;rfl;exact hj
   ·rw[Qh];exact h4
def aoh{n:Nat}(hB:zi ops)(hn:n+1=ops.size)(iR:i<n):∀(L:List Nat) (S:Nat->Bool),S n=az->S i=az->oQ ops S n->oi ops (dY S n) L->
 ∃M1 M2,L=M1++i::M2/\(∀k∈M1,k<ops.size/\k≠i/\k≠n/\S k=az)/\(∀k∈M2,k<ops.size/\k≠i/\k≠n/\S k=az)/\oi (gK ops i n) S (M1++i::(M2++[n])):=by
 intro L
 induction L with
 |nil=>intro S hS hi hr h;have:=h i ah;unfold dY at this;rw[aH ah,hi] at this;cases this
 |cons k L ih=>
  intro S hS hi hr h;obtain⟨h1,h2,h3,h4⟩:=h;unfold dY at h2;split at h2
  ·cases h2
  ·rename_i sn;have jj:oQ ops S k:=by
    intro o ho ed fF hb;have:=h3 o ho ed fF hb;unfold dY at this;split at this
    ·rename_i q;have:=hB k o ho ed fF hb;omega
    ·exact this
   have Eb:oQ ops (dY S k) n:=ready_mono hr λj hj=>(by unfold dY;split;rfl;exact hj);by_cases D6:k=i
   ·subst D6;have mem2:∀(L:List Nat) (S:Nat->Bool),oi ops S L->∀m∈L,m<ops.size/\S m=az:=by
     intro L
     induction L with
     |nil=>intro S _ m hm;cases hm
     |cons a L ih2=>
      intro S hL m hm;obtain⟨q1,q2,q3,q4⟩:=hL;rcases iq.1 hm with rfl|hm
      ·exact⟨q1,q2⟩
      ·obtain⟨p1,p2⟩:=ih2 _ q4 m hm;unfold dY at p2;split at p2
       ·cases p2
       ·exact⟨p1,p2⟩
    refine⟨[],L,rfl,λm hm=>(nomatch hm),λm hm=>?_,?_⟩
    ·obtain⟨p1,p2⟩:=mem2 L _ h4 m hm;unfold dY at p2;split at p2
     ·cases p2
     ·rename_i q1;split at p2
      ·cases p2
      ·rename_i q2;exact⟨p1,q1,q2,p2⟩
    ·refine⟨by rw[r8];exact h1,hi,yZ jj (λq=>absurd q sn),?_⟩;refine aog hB hn L _ ?_ ?_ Eb ?_
     ·unfold dY;rw[aH (Ne.symm sn)];exact hS
     ·unfold dY;rw[aG rfl]
     ·rw[Qh];exact h4
   ·rw[Qh] at h4;obtain⟨M1,M2,e1,e2,e3,e4⟩:=ih (dY S k) (by unfold dY;rw[aH (Ne.symm sn)];exact hS) (by unfold dY;rw[aH (Ne.symm D6)];exact hi) Eb h4;have tN:∀m,dY S k m=az->S m=az:=λm q=>by
     unfold dY at q;split at q
     ·cases q
     ·exact q
    refine⟨k::M1,M2,by rw[e1];rfl,λm hm=>?_,λm hm=>?_,by rw[r8];exact h1,h2,yZ jj (λq=>absurd q sn),e4⟩
    ·rcases iq.1 hm with rfl|hm
     ·exact⟨h1,D6,sn,h2⟩
     ·obtain⟨p1,p2,p3,p4⟩:=e2 m hm;exact⟨p1,p2,p3,tN m p4⟩
    ·obtain⟨p1,p2,p3,p4⟩:=e3 m hm;exact⟨p1,p2,p3,tN m p4⟩
def amx{n:Nat}(hB:zi ops)(hn:n+1=ops.size)(iR:i<n):∀(L:List Nat) (S:Nat->Bool),S n=az->S i=az->CZ ops S->oi ops S L->
 oi (gK ops i n) S L∨∃pre M1 M2 S',L=pre++(n::(M1++i::M2))/\S' i=az/\oQ ops S' n/\CZ ops S'/\(∀k∈M1,k<ops.size/\k≠i/\k≠n/\S' k=az)/\(∀k∈M2,k<ops.size/\k≠i/\k≠n/\S' k=az)/\oi (gK ops i n) S (pre++(M1++i::(M2++[n]))):=by
 intro L
 induction L with
 |nil=>intro S h1 h2 _ h;have:=h i ah;rw[h2] at this;cases this
 |cons k L ih=>
  intro S hS hi hc h;obtain⟨h1,h2,h3,h4⟩:=h;by_cases D6:k=i
  ·subst D6;exact .inl ⟨by rw[r8];exact h1,h2,yZ h3 (λq=>by omega),ak4 L _ (by unfold dY;rw[aG rfl]) h4⟩
  ·by_cases sn:k=n
   ·subst sn;obtain⟨M1,M2,e1,e2,e3,e4⟩:=aoh hB hn iR L S hS hi h3 h4;exact .inr ⟨[],M1,M2,S,by rw[e1];rfl,hi,h3,hc,e2,e3,e4⟩
   ·rcases ih (dY S k) (by unfold dY;rw[aH (Ne.symm sn)];exact hS) (by unfold dY;rw[aH (Ne.symm D6)];exact hi) (hc.one h3) h4 with q|⟨pre,M1,M2,S',e1,e0,e2,e3,e4,e5,e6⟩
    ·exact .inl ⟨by rw[r8];exact h1,h2,yZ h3 (λq=>absurd q sn),q⟩
    ·exact .inr ⟨k::pre,M1,M2,S',by rw[e1];rfl,e0,e2,e3,e4,e5,by rw[r8];exact h1,h2,yZ h3 (λq=>absurd q sn),e6⟩
def ao.rU(h:ao)(c:Nat)(xs:List AV):ao:={h with boxes:=h.boxes.set c xs}
def TK{h:ao}{a c}{xs}(bO:a≠c):(h.rU c xs).boxes[a]?=h.boxes[a]?:=by unfold ao.rU;simp only[mA];rw[aH (λq=>bO q.symm)]
variable {e e':Env} {h h':ao} {b:Array Nat}
def XZ(N:di P G R ops (bR ops.size) e h=aa (.normal,e',h'))(F:Fits P G R ops e h b):∀(A B:List Nat) (S:Nat->Bool) (e1:Env) (h1:ao),Inv P G R ops e h b S e1 h1->oi ops S (A++B)->
 ∃S2 e2 h2,di P G R ops A e1 h1=aa (.normal,e2,h2)/\Inv P G R ops e h b S2 e2 h2/\oi ops S2 B:=by
 intro A
 induction A with
 |nil=>intro B S e1 h1 I hL;exact⟨S,e1,h1,rfl,I,hL⟩|cons k A ih=>
  intro B S e1 h1 I hL;obtain⟨hk,hu,hr,hL⟩:=hL;obtain⟨x,e2,h2,hs,I'⟩:=next N F I hk hu hr
  obtain⟨S2,e3,h3,nO,I3,L3⟩:=ih B _ _ _ I' hL;exact⟨S2,e3,h3,qB.2 ⟨x,e2,h2,hs,nO⟩,I3,L3⟩
def Xy(N:di P G R ops (bR ops.size) e h=aa (.normal,e',h'))(F:Fits P G R ops e h b){S:Nat->Bool}{e1:Env}{h1:ao}(I:Inv P G R ops e h b S e1 h1){k:Nat}(hk:k<ops.size)
 (hu:S k=az) (hr:oQ ops S k):∀o,ops[k]?=aa o->Alike ops (db P G R ops e h k).1 e1 o:=by
 have ho:ops[k]?=aa ops[k]:=mz hk;have ahead:∀i,i<ops.size->Ord b i k->S i=ai:=by
  intro i hi yx;obtain⟨ed,fF,nu,hq⟩:=F.bits k i _ ho hi yx;have hs:=hr _ ho ed fF nu;have aB:=F.Ju k _ ho ed fF nu;rcases hq with rfl|hq
  ·exact hs
  ·exact I.closed i ed.on hi (pk aB hk) hs hq
 intro o iS t ht;rw[ho] at iS;injection iS with iS;subst iS;rw[I.iF t,RJ N t k (nk hk),LO (k:=k) ops.size (nk hk)]
 ·refine val_congr k λw hw hd=>?_;have hx:ops[w]?=aa ops[w]:=mz (pk hw hk);rw[Bn hx] at hd;exact(ahead w (pk hw hk) (F.looks hw hk hx ho (.inl ⟨hd,ht⟩))).symm
 ·intro w D7 hw hd;rcases dV k w with aB|ec
  ·cases hq:S w with|false=>rfl|true=>have hx:ops[w]?=aa ops[w]:=mz hw;rw[Bn hx] at hd;have:=I.closed k w hk hw hq (F.looks aB hw ho hx (.inr ⟨hd,ht⟩));rw[hu] at this;cases this
  ·rw[A5 ec D7,hu]
def Fc{k:Nat}{x:AV}{e1:Env}{h1:ao}(hs:yN ops k=ai)(st:jU P G R ops k e h=aa (x,e1,h1)):
 x=.tuple []/\e1=e/\mZ ops k=ar/\∃(o:Oper) (t:aK) (a v:bT) (c off n:Nat) (cs dh:List AV),ops[k]?=aa o/\o.op=.store t a v/\o.guard=ar/\e.eval a=.ptr (.box c) off/\(e.eval v).cD=aa cs/\dC P t=aa n/\h.boxes[c]?=aa dh/\cs.length=n/\off+n<=dh.length/\h1=h.rU c (eT dh off cs):=by
 unfold yN at hs;unfold jU at st;cases ho:ops[k]? with
 |none=>rw[ho] at hs;cases hs
 |some o=>
  rw[ho] at hs st;simp only[bL,Option.isNone_iff_eq_none] at hs;obtain⟨q1,q2,q3⟩:=hs;cases bU:o.op<;>rw[bU] at q1<;>try (cases q1;done)
  rename_i t a v;have hw:ff ops e o=aa ai:=by unfold ff;rw[q2]
  simp only[hw] at st;have tu:eo P G R e h o=(dP P G e.eval h (.store t a v)).map λ(x,h)=>(.ret x,e,h):=by unfold eo;rw[bU]
  rw[tu] at st;simp only[dP] at st;cases ct:cI P h t (e.eval a) (e.eval v) with
  |none=>rw[ct] at st;simp at st|some hh=>
   rw[ct] at st;simp only[eW,dM,dj] at st;obtain⟨rfl,rfl,rfl⟩:=st;unfold cI at ct;split at ct
   ·rename_i c off cs n h1 h2 h3;split at ct
    ·rename_i dh hold;split at ct
     ·rename_i eI;injection ct with ct;exact⟨rfl,rfl,by simp[mZ,ho,q3],o,t,a,v,c,off,n,cs,dh,rfl,bU,q2,h1,h2,h3,hold,eI.1,eI.2,ct.symm⟩
     ·cases ct
    ·cases ct
   ·cases ct
def RD{k:Nat}{o:Oper}{t:aK}{a v:bT}{c off n:Nat}{cs dh:List AV}(ho:ops[k]?=aa o)(bU:o.op=.store t a v)(hg:o.guard=ar)(ha:e.eval a=.ptr (.box c) off)(hv:(e.eval v).cD=aa cs)(hz:dC P t=aa n)(hb:h.boxes[c]?=aa dh)(hl:cs.length=n)(eI:off+n<=dh.length):
 jU P G R ops k e h=aa (.tuple [],e,h.rU c (eT dh off cs)):=by
 unfold jU;simp only[ho];have hw:ff ops e o=aa ai:=by unfold ff;rw[hg]
 simp only[hw];have tu:eo P G R e h o=(dP P G e.eval h (.store t a v)).map λ(x,h)=>(.ret x,e,h):=by unfold eo;rw[bU]
 rw[tu];simp only[dP];have:cI P h t (e.eval a) (e.eval v)=aa (h.rU c (eT dh off cs)):=by unfold cI;simp only[ha,hv,hz,hb];rw[aG ⟨hl,eI⟩];rfl
 rw[this];rfl
def Yj{n:Nat}(hn:yN ops n=ai):∀(M:List Nat) {e e':Env} {h h':ao},(∀k∈M,k<ops.size/\pF ops k=.pure/\pD ops k n=ai)->∀rest,di P G R ops (M++n::rest) e h=aa (.normal,e',h')->di P G R ops (n::(M++rest)) e h=aa (.normal,e',h'):=by
 intro M
 induction M with
 |nil=>intro e e' h h' _ rest hr;exact hr|cons k M ih=>
  intro e e' h h' hM rest hr;rw[List.cons_append,qB] at hr;obtain⟨x,e1,h1,hs,hr⟩:=hr;obtain⟨hk,hp,ud⟩:=hM k gj;have hr:=ih (λm hm=>hM m (fN _ hm)) rest hr;obtain⟨rfl,rfl,mg⟩:=Rz hp hs;rw[qB] at hr ⊢;obtain⟨x2,e2,h2,jr,hr⟩:=hr;obtain⟨rfl,rfl,hd,o,t,a,v,c,off,m,cs,dh,g1,g2,g3,g4,g5,g6,g7,g8,g9,rfl⟩:=Fc hn jr;have eM:∀z∈o.op.operands,(e1.put (mZ ops k) x).eval z=e1.eval z:=by
   intro z hz;cases z with
   |tmp s=>
    show(e1.put (mZ ops k) x).get s=e1.get s;rw[QJ];split
    ·rename_i hq;exfalso;unfold pD at ud;have bJ:ops[k]?=aa ops[k]:=mz hk;rw[bJ,g1] at ud;simp only[bL] at ud;rw[Bn bJ] at hq;have ajw:s∈o.looksAt ops:=(by unfold Oper.looksAt;exact Sw _ (List.mem_filterMap.2 ⟨.tmp s,by simpa using hz,rfl⟩));have h1:=ud.1;unfold Oper.apart at h1;rw[hq] at h1;simp[ajw] at h1
    ·rfl
   |_=>rfl
  rw[eM a (by rw[g2];simp[Op.operands])] at g4;rw[eM v (by rw[g2];simp[Op.operands])] at g5;refine⟨_,e1,_,RD g1 g2 g3 g4 g5 g6 g7 g8 g9,?_⟩;rw[hd] at hr ⊢;show di P G R ops (k::(M++rest)) e1 _=_;rw[qB];exact⟨x,e1,_,mg e1 _ (λo ho t ht=>rfl),hr⟩
def ath{n:Nat}(hi:yN ops i=ai)(hn:yN ops n=ai){e e':Env}{h h':ao}{bi bn:Nat}(h1:rn ops i e=aa bi)(h2:rn ops n e=aa bn)(bO:bi≠bn)(rest:List Nat)(hr:di P G R ops (i::n::rest) e h=aa (.normal,e',h')):di P G R ops (n::i::rest) e h=aa (.normal,e',h'):=by
 rw[qB] at hr;obtain⟨x,e1,oz,hs,hr⟩:=hr;obtain⟨rfl,rfl,hd,o,t,a,v,c,off,m,cs,dh,g1,g2,g3,g4,g5,g6,g7,g8,g9,rfl⟩:=Fc hi hs;rw[hd] at hr;replace hr:di P G R ops (n::rest) e1 (h.rU c (eT dh off cs))=aa (.normal,e',h'):=hr;rw[qB] at hr;obtain⟨x2,e2,si,jr,hr⟩:=hr;obtain⟨rfl,rfl,gu,o2,t2,a2,v2,c2,off2,m2,cs2,old2,k1,k2,k3,k4,k5,k6,k7,k8,k9,rfl⟩:=Fc hn jr;have q1:bi=c:=by unfold rn at h1;rw[g1] at h1;simp only[g2,g4] at h1;injection h1 with h1;exact h1.symm
 have q2:bn=c2:=by unfold rn at h2;rw[k1] at h2;simp only[k2,k4] at h2;injection h2 with h2;exact h2.symm
 subst q1;subst q2;have k7':h.boxes[bn]?=aa old2:=by rw[<-k7];exact(TK (λq=>bO q.symm)).symm
 have g7':(h.rU bn (eT old2 off2 cs2)).boxes[bi]?=aa dh:=by rw[TK bO];exact g7
 rw[qB];refine⟨_,e2,_,RD k1 k2 k3 k4 k5 k6 k7' k8 k9,?_⟩;rw[gu];show di P G R ops (i::rest) e2 _=_;rw[qB];refine⟨_,e2,_,RD g1 g2 g3 g4 g5 g6 g7' g8 g9,?_⟩;rw[hd];rw[gu] at hr;have ai5:(h.rU bn (eT old2 off2 cs2)).rU bi (eT dh off cs)=(h.rU bi (eT dh off cs)).rU bn (eT old2 off2 cs2):=by unfold ao.rU;simp only[List.set_comm _ _ bO]
 rw[ai5];exact hr
def agX(bJ:EI ops i=ai)(oT:sK P G R ops e h i=ai)(hf:mH P G R (gK ops i (ops.size - 1)) e h=ai)(he:di P G R ops (bR ops.size) e h=aa (.normal,e',h'))(tp:Nat):
 ∃e2,di P G R ops (Region.linearise .any ops tp) e h=aa (.normal,e2,h')/\oR e2 e':=by
 unfold EI at bJ;simp only[bL,decide_eq_true_eq,ej,gB,uH] at bJ;obtain⟨k0,k1,k2,k3,k4⟩:=bJ;obtain⟨n,nP⟩:∃n,ops.size - 1=n:=⟨_,rfl⟩;have hn:n+1=ops.size:=by omega
 simp only[nP] at hf k3 k4;have hE:di P G R (gK ops i n) (bR (gK ops i n).size) e h=aa (.normal,e',h'):=by rw[r8,Ct];exact he
 have u7:=ad2 (U5 hf);have hL:=XY u7 tp;rcases amx (i:=i) u7 hn ah _ (λ_=>az) rfl rfl (λk o ho hS=>by cases hS) hL with q|⟨pre,M1,M2,S',q1,q7,q2,q3,q4,q5,q6⟩
 ·obtain⟨e2,tu,iJ⟩:=PZ hE (yf hf) _ _ _ _ (PD hE) q;rw[Ct] at tu;exact⟨e2,tu,iJ⟩
 ·have good:∀k,k<ops.size/\k≠i/\k≠n/\S' k=az->k<ops.size/\pF ops k=.pure/\pD ops k n=ai:=by
   rintro k ⟨p1,p2,p3,p4⟩;rcases k4 k ah with w|w|w
   ·exact absurd (jP w) p2
   ·have:=aee k0 q3 n ah q2 w p1;rw[p4] at this;cases this
   ·refine⟨p1,?_,w.2⟩;have w1:=w.1;unfold Zd at w1;cases ho:ops[k]? with
    |none=>rw[ho] at w1;cases w1
    |some o=>rw[ho] at w1;simpa [pF,ho] using w1
  rw[<-List.append_assoc] at q6;obtain⟨S2,em,hm,ev1,I1,L1⟩:=XZ hE (yf hf) (pre++M1) (i::(M2++[n])) _ _ _ (PD hE) q6;obtain⟨l1,l2,l3,l4⟩:=L1;have al1:=Xy hE (yf hf) I1 l1 l2 l3;obtain⟨x,e2,h2,hs,I2⟩:=next hE (yf hf) I1 l1 l2 l3
  have Kg:jU P G R ops i em hm=aa (x,e2,h2):=by have:=Ct (P:=P) (G:=G) (R:=R) (ops:=ops) (i:=i) (j:=n) [i] em hm;have h3:di P G R (gK ops i n) [i] em hm=aa (.normal,e2.put (mZ (gK ops i n) i) x,h2):=qB.2 ⟨x,e2,h2,hs,rfl⟩;rw[this] at h3;obtain⟨x',e3,h4,qw,Eb⟩:=qB.1 h3;obtain⟨rfl,rfl,tm,o3,t3,a3,v3,c3,off3,m3,cs3,old3,z1,z2,z3,z4,z5,z6,z7,z8,z9,rfl⟩:=Fc k2 qw;rw[tm] at Eb;simp only[di,dM,dj,true_and] at Eb;obtain⟨r1,r2⟩:=Eb;have hx:x=.tuple []/\e2=e3:=(by have hgE:(gK ops i n)[i]?=aa o3:=(by rw[DH,z1,eW,aH ah]);have hSt:yN (gK ops i n) i=ai:=(by unfold yN at k2 ⊢;rw[hgE];rw[z1] at k2;exact k2);obtain⟨y1,y2,-⟩:=Fc hSt hs;exact⟨y1,y2⟩);rw[hx.1,hx.2,<-r2];exact qw
  obtain⟨rfl,rfl,hd,o,t,a,v,c,off,m,cs,dh,g1,g2,g3,g4,g5,g6,g7,g8,g9,rfl⟩:=Fc k2 Kg;have hdE:mZ (gK ops i n) i=ar:=by unfold mZ at hd ⊢;rw[UK];exact hd
  rw[hdE] at I2;replace I2:Inv P G R (gK ops i n) e h (Region.before (gK ops i n)) (dY S2 i) e2 (hm.rU c (eT dh off cs)):=I2;obtain⟨Sn,en,hhn,ev2,I3,L3⟩:=XZ hE (yf hf) M2 [n] _ _ _ I2 l4;obtain⟨e5,V8,iJ⟩:=PZ hE (yf hf) _ _ _ _ I3 L3;have Ws:S2 n=az/\oQ ops S2 n:=by
   refine⟨?_,?_⟩
   ·have:∀(L:List Nat) (S:Nat->Bool),oi (gK ops i n) S L->∀m∈L,S m=az:=by
     intro L
     induction L with
     |nil=>intro S _ m hm;cases hm
     |cons a L ih2=>
      intro S hL m hm;obtain⟨u1,u2,u3,u4⟩:=hL;rcases iq.1 hm with rfl|hm
      ·exact u2
      ·have p2:=ih2 _ u4 m hm;unfold dY at p2;split at p2
       ·cases p2
       ·exact p2
    have:=this _ _ l4 n bH;unfold dY at this;rw[aH ah] at this;exact this
   ·intro o' iS ed fF hb;have hS:S' ed.on=ai:=q2 o' iS ed fF hb;have aB:ed.on<n:=u7 n o' iS ed fF hb;cases hq:S2 ed.on with
    |true=>rfl|false=>
     exfalso;have mem:∀(L:List Nat) (S:Nat->Bool),oi (gK ops i n) S L->∀m,m<ops.size->S m=az->m∈L:=by
      intro L
      induction L with
      |nil=>intro S hL m hm N9;have:=hL m (by rw[r8];exact hm);rw[N9] at this;cases this
      |cons a L ih2=>
       intro S hL m hm N9;obtain⟨u1,u2,u3,u4⟩:=hL;by_cases J6:m=a
       ·subst J6;exact gj
       ·exact fN _ (ih2 _ u4 m hm (by unfold dY;rw[aH J6];exact N9))
     have qp:=mem (i::(M2++[n])) S2 ⟨l1,l2,l3,l4⟩ ed.on ah hq;rcases iq.1 qp with w|w
     ·rw[w,q7] at hS;cases hS
     ·rcases vX.1 w with w|w
      ·have:=(q5 _ w).2.2.2;rw[hS] at this;cases this
      ·rw[List.mem_singleton] at w;omega
  have Kf:oQ (gK ops i n) (dY S2 i) n:=yZ (ready_mono Ws.2 λj hj=>by unfold dY;split;rfl;exact hj) λ_=>by unfold dY;rw[aG rfl]
  have al2:=Xy hE (yf hf) I2 (k:=n) (by rw[r8];omega) (by unfold dY;rw[aH ah];exact Ws.1) Kf;have stE:∀k,db P G R (gK ops i n) e h k=db P G R ops e h k:=λk=>by unfold db;rw[Ct]
  have put_congr:∀(k:Nat) (ea eb:Env),(∀o,(gK ops i n)[k]?=aa o->Alike (gK ops i n) ea eb o)->rn ops k ea=rn ops k eb:=by
   intro k ea eb eM;unfold rn;cases ho:ops[k]? with
   |none=>rfl|some o'=>
    have hg:(gK ops i n)[k]?=aa (if k=n then {o' with after:=o'.after.push {on:=i,ground:=.data}} else o'):=(by rw[DH,ho];rfl);have hz:=F4 (eM _ hg);have ia:∀z∈o'.op.operands,ea.eval z=eb.eval z:=(by intro z hzm;refine hz z ?_;split<;>exact hzm);show(match o'.op with| .store _ a _=>(match ea.eval a with| .ptr (.box b) _=>aa b|_=>ar)|_=>ar)=(match o'.op with| .store _ a _=>(match eb.eval a with| .ptr (.box b) _=>aa b|_=>ar)|_=>ar)
    revert ia
    generalize o'.op=op;intro ia;cases op with|store t' a' v'=>have:ea.eval a'=eb.eval a':=ia a' (by simp[Op.operands]);simp only[this]|_=>rfl
  have hb:∃bi bn,rn ops i e2=aa bi/\rn ops n e2=aa bn/\bi≠bn:=by
   unfold sK at oT;rw[nP] at oT;split at oT
   ·rename_i ei _ en _ r1 r2;have s1:(db P G R ops e h i).1=ei:=(by unfold db;rw[r1]);have s2:(db P G R ops e h n).1=en:=(by unfold db;rw[r2]);split at oT
    ·rename_i bi bn u1 u2;refine⟨bi,bn,?_,?_,?_⟩
     ·rw[<-u1,<-s1,<-stE];exact(put_congr i _ _ al1).symm
     ·rw[<-u2,<-s2,<-stE];exact(put_congr n _ _ al2).symm
     ·rintro rfl;rw[Nat.beq_refl] at oT;cases oT
    ·cases oT
   ·cases oT
  obtain⟨bi,bn,b1,b2,b3⟩:=hb;have t1:di P G R ops (M2++n::[]) e2 (hm.rU c (eT dh off cs))=aa (.normal,e5,h'):=by rw[HG];rw[Ct] at ev2 V8;exact⟨_,_,ev2,V8⟩
  have t2:=Yj k3 M2 (λk hk=>good k (q5 k hk)) [] t1;rw[List.append_nil] at t2;have t3:di P G R ops (i::n::M2) e2 hm=aa (.normal,e5,h'):=by rw[qB];refine⟨_,_,_,Kg,?_⟩;rw[hd];exact t2
  have t4:=ath k2 k3 b1 b2 b3 M2 t3;rw[Ct,HG] at ev1;obtain⟨e0,h0,v1,v2⟩:=ev1;have t5:di P G R ops (M1++n::(i::M2)) e0 h0=aa (.normal,e5,h'):=HG.2 ⟨_,_,v2,t4⟩;have t6:=Yj k3 M1 (λk hk=>good k (q4 k hk)) _ t5;refine⟨e5,?_,iJ⟩;rw[q1];exact HG.2 ⟨_,_,v1,t6⟩
def stores_cases{e:Env}{h:ao}(hb:tL P G R ops e h=ai):∃i,i<ops.size/\EI ops i=ai/\sK P G R ops e h i=ai/\mH P G R (gK ops i (ops.size - 1)) e h=ai:=by unfold tL at hb;simp only[FE,gB,bL] at hb;exact hb
def stores_of{e:Env}{h:ao}{i:Nat}(h1:i<ops.size)(h2:EI ops i=ai)(h3:sK P G R ops e h i=ai)(h4:mH P G R (gK ops i (ops.size - 1)) e h=ai):tL P G R ops e h=ai:=by unfold tL;simp only[FE,gB,bL];exact⟨i,h1,h2,h3,h4⟩
end
end Go.AE
end
section
namespace Go.AE
open Go.RowKit (Below)
section
variable {P:bK} {G:Nat->Option (List AV)} {w0:cB} {R:Rec}
def asL{b:fh}{a:Act}{k:List Item}{cs:List fh}{w:cB}{c:Code}:step P (lone (b.atR a (.code (.scope c)::k)) cs w)=.next (lone (b.atR a (.code c::.inScope c::k)) cs w):=by rfl
def asK{b:fh}{a:Act}{k:List Item}{cs:List fh}{w:cB}{c:Code}:step P (lone (b.atR a (.inScope c::k)) cs w)=.next (lone (b.atR a k) cs w):=by rfl
def ob.amG{K:aY}{m:Machine}{B:fh}{c:Code}{k:List Item}{cs:List fh}{x:Xt}{a:Act}{w:cB}(hn:x≠ .normal)
 (h:ob P K m B (.inScope c::k) cs x a w):ob P K m B k cs x a w:=by
 cases x with
 |normal=>exact absurd rfl hn|exit id=>obtain⟨t,h1,h2⟩:=h;exact⟨t,h1.trans rfl,h2⟩
 |ret=>exact h|panic x=>exact h
def af0(hn:Di P)(ajH:P.follows .mixedOrders=ai)(hR:wc P G w0 R):SR P G w0 (fK P G R):=by
 intro c e h out e' h' he K w a B k base cs ms hf cC hs bJ;cases c with
 |skip=>simp only[fK,dM,dj] at he;obtain⟨rfl,rfl,rfl⟩:=he;exact⟨K,w,a,cs,ms,.refl hf cC hs (.one stepR_skip)⟩
 |label l=>simp only[fK,dM,dj] at he;obtain⟨rfl,rfl,rfl⟩:=he;exact⟨K,w,a,cs,ms,.refl hf cC hs (.one stepR_label)⟩
 |region id ops draw=>
  simp only[codeOk] at bJ;cases draw with
  |false=>simp only[fK,jW,if_false] at he;obtain⟨K',w',a',dO,L⟩:=Ql hn hR _ _ _ _ _ _ he K w a B k base cs ms hf cC hs bJ;exact⟨K',w',a',dO,ms,.of_steps (.one stepR_region) L⟩
  |true=>
   simp only[fK,if_true] at he;split at he
   ·rename_i qn;split at he
    ·rename_i e1 h1 tu;simp only[dM,dj] at he;obtain⟨rfl,rfl,rfl⟩:=he;have jA:=stepR_region_draw (P:=P) (b:=B) (a:=a) (k:=k) (cs:=cs) (w:=w) (ops:=ops) (id:=id);have ajP:Region.schedule (P.follows .mixedOrders) ops (w.tape w.drawn (.order B.fn id))=Region.linearise .any ops (w.tape w.drawn (.order B.fn id)):=(by simp only[Region.schedule,ajH,abx,if_true]);rw[ajP] at jA;rcases (uH _ _).mp qn with qn|ct
     ·obtain⟨e2,On,iJ⟩:=agW tu qn (w.tape w.drawn (.order B.fn id));obtain⟨K',w',a',dO,L⟩:=Ql hn hR _ _ _ _ _ _ On K {w with drawn:=w.drawn+1} a B k base cs ms hf cC (hs.drew _) bJ;exact⟨K',w',a',dO,ms,L.le,L.qG,L.frame.same iJ,iJ.cV ▸ L.cs,L.size,L.marks,L.arr.of_steps (.one jA)⟩
     ·obtain⟨i,-,Ox,oW,hi3⟩:=stores_cases ct;obtain⟨e2,On,iJ⟩:=agX Ox oW hi3 tu (w.tape w.drawn (.order B.fn id));obtain⟨K',w',a',dO,L⟩:=Ql hn hR _ _ _ _ _ _ On K {w with drawn:=w.drawn+1} a B k base cs ms hf cC (hs.drew _) bJ;exact⟨K',w',a',dO,ms,L.le,L.qG,L.frame.same iJ,iJ.cV ▸ L.cs,L.size,L.marks,L.arr.of_steps (.one jA)⟩
    ·cases he
   ·cases he
 |seq x y=>
  simp only[codeOk,bL] at bJ;simp only[fK] at he;cases hx:R.code x e h with
  |none=>rw[hx] at he;cases he
  |some q=>
   obtain⟨o1,e1,h1⟩:=q;rw[hx] at he;obtain⟨K1,w1,a1,cs1,ms1,L1⟩:=hR.code x e h _ _ _ hx K w a B (.code y::k) base cs ms hf cC hs bJ.1;have start:=Steps.one (stepR_seq (P:=P) (b:=B) (a:=a) (k:=k) (cs:=cs) (w:=w) (x:=x) (y:=y));by_cases wS:o1=.normal
   ·subst wS;simp only at he;obtain⟨K2,w2,a2,cs2,ms2,L2⟩:=hR.code y e1 h1 _ _ _ he K1 w1 a1 B k base cs1 ms1 L1.frame L1.cs L1.qG (by rw[L1.size];exact bJ.2);refine⟨K2,w2,a2,cs2,ms2,L1.le.trans L2.le,L2.qG,L2.frame,L2.cs,L2.size.trans L1.size,λr hr=>?_,(L2.arr.of_steps L1.arr).of_steps start⟩;rcases L2.marks r hr with hq|hq
    ·exact L1.marks r hq
    ·exact .inr λhm=>hq (L1.le.md r hm)
   ·have he:aa (o1,e1,h1)=aa (out,e',h'):=by cases o1<;>first|exact absurd rfl wS|exact he
    simp only[dM,dj] at he;obtain⟨rfl,rfl,rfl⟩:=he;exact⟨K1,w1,a1,cs1,ms1,L1.le,L1.qG,L1.frame,L1.cs,L1.size,L1.marks,(L1.arr.pass rfl wS).of_steps start⟩
 |cond q x y=>
  simp only[codeOk,bL] at bJ;simp only[fK] at he;have hv:=zT hf.iF q;split at he
  ·rename_i hq;rw[hq] at hv;obtain⟨K1,w1,a1,cs1,ms1,L1⟩:=hR.code x e h _ _ _ he K w a B k base cs ms hf cC hs bJ.1;exact⟨K1,w1,a1,cs1,ms1,L1.of_steps (.one (by have:=stepR_cond (P:=P) (b:=B) (k:=k) (cs:=cs) (w:=w) (x:=x) (y:=y) hv.iV.1;simpa using this))⟩
  ·rename_i hq;rw[hq] at hv;obtain⟨K1,w1,a1,cs1,ms1,L1⟩:=hR.code y e h _ _ _ he K w a B k base cs ms hf cC hs bJ.2;exact⟨K1,w1,a1,cs1,ms1,L1.of_steps (.one (by have:=stepR_cond (P:=P) (b:=B) (k:=k) (cs:=cs) (w:=w) (x:=x) (y:=y) hv.iV.1;simpa using this))⟩
  ·cases he
 |block id x=>
  simp only[codeOk] at bJ;simp only[fK] at he;cases hx:R.code x e h with
  |none=>rw[hx] at he;cases he
  |some q=>
   obtain⟨o1,e1,h1⟩:=q;rw[hx] at he;obtain⟨K1,w1,a1,cs1,ms1,L1⟩:=hR.code x e h _ _ _ hx K w a B (.inBlock id::k) base cs ms hf cC hs bJ;have start:=Steps.one (stepR_block (P:=P) (b:=B) (a:=a) (k:=k) (cs:=cs) (w:=w) (id:=id) (c:=x));have fin:∀{o:Xt},ob P K1 (lone (B.atR a (.code x::.inBlock id::k)) cs w) B k cs1 o a1 w1->Left P G w0 K ms B base (lone (B.atR a (.code (.block id x)::k)) cs w) k a.tmps.size o e1 h1 K1 w1 a1 cs1 ms1:=λha=>
    ⟨L1.le,L1.qG,L1.frame,L1.cs,L1.size,L1.marks,ha.of_steps start⟩
   cases o1 with
   |normal=>simp only[dM,dj] at he;obtain⟨rfl,rfl,rfl⟩:=he;exact⟨K1,w1,a1,cs1,ms1,fin (L1.arr.trans (.one stepR_inBlock))⟩
   |exit id'=>
    simp only at he;obtain⟨t,h2,h3⟩:=L1.arr;split at he
    ·rename_i OC;subst OC;simp only[dM,dj] at he;obtain⟨rfl,rfl,rfl⟩:=he;refine⟨K1,w1,a1,cs1,ms1,fin (h3.trans (.one (stepR_exit (h2.trans ?_))))⟩;simp[exitTo]
    ·rename_i OC;simp only[dM,dj] at he;obtain⟨rfl,rfl,rfl⟩:=he;refine⟨K1,w1,a1,cs1,ms1,fin ⟨t,h2.trans ?_,h3⟩⟩;simp[exitTo,Ne.symm OC]
   |ret=>simp only[dM,dj] at he;obtain⟨rfl,rfl,rfl⟩:=he;obtain⟨t,h3⟩:=L1.arr;exact⟨K1,w1,a1,cs1,ms1,fin ⟨t,h3⟩⟩
   |panic x=>simp only[dM,dj] at he;obtain⟨rfl,rfl,rfl⟩:=he;obtain⟨t,v,h2,h3⟩:=L1.arr;exact⟨K1,w1,a1,cs1,ms1,fin ⟨t,v,h2,h3⟩⟩
 |loop x=>
  have Ww:codeOk a.tmps.size x=ai:=by simpa only[codeOk] using bJ
  simp only[fK] at he;cases hx:R.code x e h with
  |none=>rw[hx] at he;cases he
  |some q=>
   obtain⟨o1,e1,h1⟩:=q;rw[hx] at he;obtain⟨K1,w1,a1,cs1,ms1,L1⟩:=hR.code x e h _ _ _ hx K w a B (.inLoop x::k) base cs ms hf cC hs Ww;have start:=Steps.one (stepR_loop (P:=P) (b:=B) (a:=a) (k:=k) (cs:=cs) (w:=w) (c:=x));by_cases wS:o1=.normal
   ·subst wS;simp only at he;obtain⟨K2,w2,a2,cs2,ms2,L2⟩:=hR.code (.loop x) e1 h1 _ _ _ he K1 w1 a1 B k base cs1 ms1 L1.frame L1.cs L1.qG (by rw[L1.size];simpa only[codeOk] using Ww);have ve:=ob.swap (c:=.loop x) (m':=lone (B.atR a1 (.inLoop x::k)) cs1 w1) (λ_=>by simp) bH rfl stepR_loop stepR_inLoop L2.arr;refine⟨K2,w2,a2,cs2,ms2,L1.le.trans L2.le,L2.qG,L2.frame,L2.cs,L2.size.trans L1.size,λr hr=>?_,(ve.of_steps L1.arr).of_steps start⟩;rcases L2.marks r hr with hq|hq
    ·exact L1.marks r hq
    ·exact .inr λhm=>hq (L1.le.md r hm)
   ·have he:aa (o1,e1,h1)=aa (out,e',h'):=by cases o1<;>first|exact absurd rfl wS|exact he
    simp only[dM,dj] at he;obtain⟨rfl,rfl,rfl⟩:=he;exact⟨K1,w1,a1,cs1,ms1,L1.le,L1.qG,L1.frame,L1.cs,L1.size,L1.marks,(L1.arr.pass rfl wS).of_steps start⟩
 |scope x=>
  simp only[codeOk] at bJ;simp only[fK] at he;obtain⟨K1,w1,a1,cs1,ms1,L1⟩:=hR.code x e h _ _ _ he K w a B (.inScope x::k) base cs ms hf cC hs bJ;have start:=Steps.one (asL (P:=P) (b:=B) (a:=a) (k:=k) (cs:=cs) (w:=w) (c:=x));by_cases wS:out=.normal
  ·subst wS;exact⟨K1,w1,a1,cs1,ms1,L1.le,L1.qG,L1.frame,L1.cs,L1.size,L1.marks,(show ob P K1 _ B k cs1 .normal a1 w1 from L1.arr.trans (.one asK)).of_steps start⟩
  ·exact⟨K1,w1,a1,cs1,ms1,L1.le,L1.qG,L1.frame,L1.cs,L1.size,L1.marks,(L1.arr.amG wS).of_steps start⟩
 |exit id=>simp only[fK,dM,dj] at he;obtain⟨rfl,rfl,rfl⟩:=he;exact⟨K,w,a,cs,ms,.refl hf cC hs ⟨k,rfl,.refl P _⟩⟩
 |ret=>simp only[fK,dM,dj] at he;obtain⟨rfl,rfl,rfl⟩:=he;exact⟨K,w,a,cs,ms,.refl hf cC hs ⟨k,.refl P _⟩⟩
 |rangeFunc f ps assign body=>
  simp only[codeOk,bL] at bJ;obtain⟨⟨yB,WC⟩,WD⟩:=bJ;have yB:=als yB;simp only[fK] at he;split at he
  ·rename_i g first aC tu
   have nT:=zT hf.iF f;rw[tu] at nT;have enter:∃(lg:Nat) (mark:List Deferred) (K1:aY) (w1:cB) (ms1:List Nat),(Instr.enterLoop B.fn a.tmps ps assign body B.roundOf).run P w=.ok (lg,mark) w1/\K.Le K1/\
    lD P G w0 K1 {h with loops:=h.loops++[{tmps:=e.tmps,params:=ps,assign,body,state:=.ready,pending:=ar}]} w1/\K1.γ[h.loops.length]?=aa lg/\
    nF P K1 e {a with defers:=mark++a.defers} B ms1/\∀r∈ms1,r∈ms∨r∉K.md:=by
    have Kc:∀c,codeOk a.tmps.size c=ai->EF P B.fn a.tmps.size c=ai:=λc hc=>(by unfold EF;rw[hc,hf.fn];rfl);have yD:=hf.round;cases kC:e.round with
    |none=>
     rw[kC] at yD;simp only at yD;have D9:w.heap.size∉K.md:=λhq=>absurd (oE (hs.md _ hq).2) (Nat.lt_irrefl _);have s1:=hs.alH;have le1:=K.XS w.heap.size;obtain⟨s2,hγ⟩:=s1.Yp (r:={tmps:=e.tmps,params:=ps,assign,body,state:=.ready,pending:=ar}) (fn:=B.fn) w.heap.size (hf.iF.mono le1) (Kc _ WC) (Kc _ WD) yB;have le2:=(K.mark w.heap.size).PQ (w.alloc (.deferred (aa []))).heap.size;refine⟨_,_,_,_,w.heap.size::ms,by rw[yD];exact run_enterLoop_outer _ _ _ _ _,le1.trans le2,s2,?_,?_,?_⟩
     ·rw[hγ,World.size_alloc]
     ·have Af:=hf.mono (le1.trans le2);refine⟨Af.iF,?_,?_,hf.fn⟩
      ·refine .mark _ _ _ _ (by simp[aY.loop,aY.mark]) (λhq=>D9 (hf.defers.sub _ hq)) Af.defers
      ·rw[kC];exact yD
     ·intro r hr;rcases iq.1 hr with rfl|hr
      ·exact .inr D9
      ·exact .inl hr
    |some l=>
     rw[kC] at yD;obtain⟨lg,hl,hb,ajo,hd,hm,fF⟩:=yD;have eO:l<h.loops.length:=(by rw[<-hs.oa];exact(aV.1 hl).1);obtain⟨k1,fn,tmps,d,k2,-⟩:=hs.loop l lg _ hl (aT eO);obtain⟨s2,hγ⟩:=hs.Yp (r:={tmps:=e.tmps,params:=ps,assign,body,state:=.ready,pending:=ar}) (fn:=B.fn) d hf.iF (Kc _ WC) (Kc _ WD) yB;have le2:=K.PQ w.heap.size;refine⟨_,[],_,_,ms,?_,le2,s2,hγ,?_,λr hr=>.inl hr⟩
     ·rw[hb];unfold Instr.enterLoop;simp only[Sem.run_bind,run_getLoop k2,run_newObj_alloc,Result.andThen,Sem.run_pure]
     ·have Af:=hf.mono le2;exact⟨Af.iF,Af.defers,by rw[kC];exact⟨lg,le2.γ _ _ hl,hb,ajo,hd,hm,fF⟩,hf.fn⟩
   obtain⟨lg,mark,K1,w1,ms1,JT,le1,s1,hγ,f1,J9⟩:=enter;generalize o5:a.eval f=qv at nT;cases nT with
   |func _ _ _ fs dO g1 g2=>
    cases th:R.call g (first++[.yield h.loops.length]++aC) {h with loops:=h.loops++[{tmps:=e.tmps,params:=ps,assign,body,state:=.ready,pending:=ar}]} with
    |none=>rw[th] at he;cases he
    |some q=>
     obtain⟨r,h2⟩:=q;rw[th] at he;obtain⟨⟨fnn,hY,ng⟩,hc⟩:=hR.call _ _ _ _ _ th;have fU:aS K1 (first++[.yield h.loops.length]++aC) (fs++#[Value.func (.yield lg) #[] #[]]++dO).toList:=(by simp only[Array.toList_append];exact((g1.mono le1).append (.cons _ _ _ _ (.yield _ _ hγ) .nil)).append (g2.mono le1));obtain⟨K2,w2,fr,le2,s2,ct,-,hl⟩:=hc K1 w1 _ fU s1 (B.atR {a with defers:=mark++a.defers} (.inRangeFunc lg::k)::cs);have Ei:=stepR_rangeFunc (P:=P) (b:=B) (a:=a) (k:=k) (cs:=cs) (w:=w) (g:=f) (ps:=ps) (assign:=assign) (body:=body) (l:=lg) (mark:=mark) (w₁:=w1) (w₁':=w1) (w₂:=w1) (d:={target:=.fn (.func g) dO,args:=fs++#[Value.func (.yield lg) #[] #[]]}) (f:=g) (args:=fs++#[Value.func (.yield lg) #[] #[]]++dO) JT
      (by have ai7:∀v,a.eval (.const v)=v:=λ_=>rfl;simp[resolve,rangeCall,o5,Deferred.ofValue,ai7]) (by simp only[invoke];exact Rj hn hY ng _ _)
     have start:=Steps.head Ei ct;have f2:=f1.mono le2;have c2:CS K2 B.kind base e.cV cs:=cC.mono (le1.trans le2);cases r with
     |panic x=>simp only[dM,dj] at he;obtain⟨rfl,rfl,rfl⟩:=he;obtain⟨v,hx,hl⟩:=hl;refine⟨K2,w2,_,cs,ms1,le1.trans le2,s2,f2,c2,rfl,J9,.inRangeFunc lg::k,v,hx,start.trans (.one ?_)⟩;rw[step_leave_panicked hl,Frame.raise_atR]
     |ret x=>
      obtain⟨v,hx,hl⟩:=hl;have back:=start.trans (.one (step_leave_returned hl));rw[finish_atR_inRangeFunc] at back;simp only at he;split at he
      ·rename_i r hr;split at he
       ·cases he
       ·rename_i aiZ;obtain⟨mm,m1,m2,m3,-,-,-,-,-,-,-,s3⟩:=s2.fx (le2.γ _ _ hγ) hr .exhausted r.pending;have tq:=run_endLoop (P:=P) m1 (by rw[m2];exact aiZ);have mi:({mm with state:=.exhausted,pending:=r.pending}:Loop)={mm with state:=.exhausted}:=(by rw[<-m3]);rw[mi] at s3;have aje:(Instr.endLoop lg).run P w2=.ok r.pending (w2.putObj lg (.loop {mm with state:=.exhausted})):=(by rw[<-m3];exact tq);have back2:=back.trans (.one (stepR_endRangeFunc aje));cases hp:r.pending with
        |none=>rw[hp] at he back2 s3;simp only[dM,dj] at he;obtain⟨rfl,rfl,rfl⟩:=he;exact⟨K2,_,_,cs,ms1,le1.trans le2,s3,f2,c2,rfl,J9,back2⟩
        |some code=>
         rw[hp] at he back2 s3;cases code with
         |ret=>simp only[dM,dj] at he;obtain⟨rfl,rfl,rfl⟩:=he;exact⟨K2,_,_,cs,ms1,le1.trans le2,s3,f2,c2,rfl,J9,k,back2⟩
         |exit id=>simp only[dM,dj] at he;obtain⟨rfl,rfl,rfl⟩:=he;exact⟨K2,_,_,cs,ms1,le1.trans le2,s3,f2,c2,rfl,J9,k,rfl,back2⟩
         |_=>cases he
      ·cases he
  ·cases he
 |_=>simp[fK] at he
end
section
variable {P:bK} {G:Nat->Option (List AV)} {w0:cB} {R:Rec}
def KV(tmps:Array aR):ResultVar->Sem aR
 | .tmp t=>pure (tmps.getD t undef)
 | .cell a t=>do loadVar t (<-asAddr (tmps.getD a undef))
def aoi{K:aY}{e:Env}{h:ao}{w:cB}(s:lD P G w0 K h w){tmps:Array aR}(hs:mD K e.tmps tmps):∀{rs:List ResultVar} {l:List AV},vM P G e h rs=aa l->
 ∃vs:List aR,aS K l vs/\(rs.mapM (KV tmps)).run P w=.ok vs w:=by
 intro rs
 induction rs with
 |nil=>intro l hl;simp only[vM,dM] at hl;subst hl;exact⟨[],.nil,by simp⟩|cons r rs ih=>
  intro l hl;cases r with
  |tmp t=>simp only[vM,dy] at hl;obtain⟨l',ss,rfl⟩:=hl;obtain⟨vs,h1,h2⟩:=ih ss;exact⟨_::vs,.cons _ _ _ _ (hs t) h1,by simp[ab9,h2,KV]⟩
  |cell a t=>
   simp only[vM] at hl;split at hl
   ·rename_i x l' hx ss;injection hl with hl;subst hl;obtain⟨vs,h1,h2⟩:=ih ss;obtain⟨g,p,v,hp,BX,hv⟩:=X7 s hx (hs a);refine⟨v::vs,.cons _ _ _ _ hv h1,?_⟩;rw[ab9];simp only[KV,hp,asAddr,Sem.run_bind,Sem.run_pure,Result.andThen_ok,BX,h2]
   ·cases hl
def aoj{K:aY}{fn:Func}{e:Env}{h:ao}{w:cB}(s:lD P G w0 K h w){tmps:Array aR}(hs:mD K e.tmps tmps){x:AV}(he:HQ P G fn e h=aa x):
 ∃v,a8 K x v/\(results fn tmps).run P w=.ok v w:=by
 unfold HQ at he;have key:∀l,vM P G e h fn.results.toList=aa l->∃vs:List aR,aS K l vs/\(results fn tmps).run P w=.ok (if hh:vs.toArray.size=1 then vs.toArray[0] else .tuple vs.toArray) w:=by
  intro l hl;obtain⟨vs,h1,h2⟩:=aoi s hs hl;refine⟨vs,h1,?_⟩;have gG:results fn tmps=(do let vs <-fn.results.mapM (KV tmps);pure (if h:vs.size=1 then vs[0] else .tuple vs)):=by unfold results;congr 2
  rw[gG,Array.mapM_eq_mapM_toList];simp only[Sem.run_bind,Sem.run_map,h2,Result.andThen_ok,Sem.run_pure]
 split at he
 ·rename_i x' hl;injection he with he;subst he;obtain⟨vs,h1,h2⟩:=key _ hl;cases h1 with|cons _ c _ cs h3 h4=>cases h4;exact⟨c,h3,h2⟩
 ·rename_i l bO hl;injection he with he;subst he;obtain⟨vs,h1,h2⟩:=key _ hl;refine⟨.tuple vs.toArray,.tuple _ _ (by simpa using h1),?_⟩;rw[h2];have bZ:vs.length≠1:=by rw[<-h1.length];intro hq;obtain⟨y,rfl⟩:=List.length_eq_one_iff.1 hq;exact bO y rfl
  simp[bZ]
 ·cases he
def rL(K:aY):Option (AV × Bool)->FrameMode->Prop
 |none,u=>u=.returning
 |some (x,r),u=>r=az/\∃v,a8 K x v/\u=.panicking [{v,recovered:=az}]
def rL.run{K}{m u}(h:rL K m u):u≠ .run:=by
 cases m with|none=>simp only[rL] at h;rw[h];simp|some p=>obtain⟨x,r⟩:=p;obtain⟨_,v,_,h⟩:=h;rw[h];simp
def rL.un{K}{r}{m u}(h:rL K m u):rL (K.un r) m u:=by
 cases m with|none=>exact h|some p=>obtain⟨x,r⟩:=p;obtain⟨h1,v,h2,h⟩:=h;exact⟨h1,v,a8.un h2,h⟩
def rL.mono{K K'}(le:K.Le K'){m u}(h:rL K m u):rL K' m u:=by
 cases m with|none=>exact h|some p=>obtain⟨x,r⟩:=p;obtain⟨h1,v,h2,h⟩:=h;exact⟨h1,v,h2.mono le,h⟩
def mD.un{K}{r}{s tmps}(h:mD K s tmps):mD (K.un r) s tmps:=λt=>a8.un (h t)
def asP{fr:fh}{cs:List fh}{w:cB}{r:Nat}{args:Array aR}{ds:List Deferred}(hm:fr.mode≠ .run)(hd:fr.defers={target:=.collected r,args}::ds)(hr:w.heap[r]?=aa (.deferred (aa []))):
 step P (lone fr cs w)=.next (lone {fr with defers:=ds} cs (w.putObj r (.deferred ar))):=by
 refine step_lone_go ?_;have ht:=run_takeDeferred (P:=P) hr;cases su:fr.mode with|run=>exact absurd su hm|returning=>simp[stepG,unwind,su,hd,Sem.runT_eq,ht]|panicking chain=>simp[stepG,unwind,su,hd,Sem.runT_eq,ht]
def settled:Option (AV × Bool)->Option (AV × Bool)
 |some (_,ai)=>ar
 |q=>q
def Fx(P:bK)(K:aY)(fn:Func)(fr:fh)(w:cB):eX->Prop
 | .ret x=>fr.mode=.returning/\∃v,a8 K x v/\(results fn fr.tmps).run P w=.ok v w
 | .panic x=>∃v,a8 K x v/\fr.mode=.panicking [{v,recovered:=az}]
def atV(hR:wc P G w0 R)(hn:Di P){g:bm}{fn:Func}(hY:P.funcs[g]?=aa fn){K0:aY}{e:Env}:∀(cds:List Deferred) (ds:List (bm × List AV)) (ms:List Nat) (m:Option (AV × Bool)) (h:ao) (res:eX) (h':ao),
 ij P G R fn e ds m h=aa (res,h')->∀(K:aY) (w:cB) (fr:fh) (cs:List fh),fr.fn=g->fr.defers=cds->qJ K ds cds ms->mD K e.tmps fr.tmps->rL K m fr.mode->lD P G w0 K h w->K0.Le K->
 (∀r∈ms,r∉K0.md)->
 ∃K' w' fr',K0.Le K'/\lD P G w0 K' h' w'/\Steps P (lone fr cs w) (lone fr' cs w')/\fr'.kind=fr.kind/\fr'.defers=[]/\fr'.fn=g/\Fx P K' fn fr' w' res/\(∀kind base p cs,CS K kind base p cs->CS K' kind base p cs):=by
 intro cds
 induction cds with
 |nil=>
  intro ds ms m h res h' he K w fr cs hg hd gQ kK su hs eI J8;generalize hq:([]:List Deferred)=q at gQ;cases gQ with
  |call=>cases hq
  |mark=>cases hq
  |nil=>
   cases m with
   |none=>simp only[ij,dy,dj] at he;obtain⟨x,hx,rfl,rfl⟩:=he;obtain⟨v,h1,h2⟩:=aoj hs kK hx;exact⟨K,w,fr,eI,hs,.refl P _,rfl,hd,hg,⟨su,v,h1,h2⟩,λ_ _ _ _ h=>h⟩
   |some p=>obtain⟨x,r⟩:=p;simp only[ij,dM,dj] at he;obtain⟨rfl,rfl⟩:=he;obtain⟨-,v,h1,h2⟩:=su;exact⟨K,w,fr,eI,hs,.refl P _,rfl,hd,hg,⟨v,h1,h2⟩,λ_ _ _ _ h=>h⟩
 |cons d cds ih=>
  intro ds ms m h res h' he K w fr cs hg hd gQ kK su hs eI J8;generalize hq:d::cds=q at gQ;cases gQ with
  |nil=>cases hq
  |mark r ds' cds' ms' hr hnr Hd=>injection hq with oZ nQ;subst oZ;subst nQ;have BZ:=hs.md r hr;have jA:=asP (P:=P) (cs:=cs) su.run hd BZ.2;have cH:r∉K0.md:=J8 r gj;obtain⟨K',w',fr',g1,g2,g3,g4,g5,g6,g7,g8⟩:=ih _ ms' m h res h' he (K.un r) _ {fr with defers:=cds} cs hg rfl (Hd.un hnr) kK.un su.un (hs.drop hr (.deferred ar) (by intro _ _ _ hq;cases hq)) (akD eI cH) (λr' fY=>J8 r' (fN _ fY));exact⟨K',w',fr',g1,g2,.head jA g3,g4,g5,g6,g7,λ_ _ _ _ hc=>g8 _ _ _ _ hc.un⟩
  |call f args vs aC ds' cds' _ hv Hd=>
   injection hq with oZ nQ;subst oZ;subst nQ;simp only[ij] at he;cases th:R.jR f args m h with
   |none=>rw[th] at he;cases he
   |some q=>
    obtain⟨rr,m1,h1⟩:=q;rw[th] at he;cases rr with
    |panic x=>simp at he|ret x=>
     obtain⟨⟨fnn,Oq,ng⟩,hc⟩:=hR.jR _ _ _ _ _ _ _ th;have hinv:(invoke (.fn (.func f) aC) vs).run P w=.ok (.enter f (vs++aC)) w:=(by simp only[invoke];exact Rj hn Oq ng _ _);have jA:=step_defer (P:=P) (cs:=cs) (d:={target:=.fn (.func f) aC,args:=vs}) su.run hd rfl hinv;have cC:CS K .deferred ({fr with defers:=cds,mode:=.returning}::cs) m ({fr with defers:=cds}::cs):=by
      cases m with
      |none=>have:({fr with defers:=cds}:fh)={fr with defers:=cds,mode:=.returning}:=(by rw[<-show fr.mode=.returning from su]);rw[this];exact .ret _ _ rfl rfl rfl
      |some p=>obtain⟨y,r⟩:=p;obtain⟨rfl,v,hv1,nA⟩:=su;have:({fr with defers:=cds}:fh)={({fr with defers:=cds,mode:=.returning}:fh) with mode:=.panicking [{v,recovered:=az}]}:=(by rw[<-nA]);rw[this];exact .cV _ _ y v az rfl rfl hv1
     obtain⟨K1,w1,fr1,cs1,v1,le1,s1,c1,ct,Ak,nO⟩:=hc K w (vs++aC) _ _ hv cC hs;have qp:∃u,cs1={fr with defers:=cds,mode:=u}::cs/\rL K1 (settled m1) (settle u):=by
      generalize Aa:({fr with defers:=cds,mode:=.returning}:fh)::cs=base at c1;cases c1 with
      |normal hh=>cases hh
      |ret c0 rest _ hb hm=>refine⟨.returning,Aa.symm,?_⟩;simp[rL,settle,settled]|cV c0 rest y v r _ hb hx=>
       rw[hb] at Aa;injection Aa with kj fP;subst kj;subst fP;refine⟨.panicking [{v,recovered:=r}],rfl,?_⟩;cases r with|true=>simp[rL,settle,settled]|false=>exact⟨rfl,v,hx,rfl⟩
     obtain⟨u,rfl,qp⟩:=qp;have aiX:=step_going_returned (c:={fr with defers:=cds,mode:=u}) (cs:=cs) Ak nO;have he':ij P G R fn e ds' (settled m1) h1=aa (res,h'):=by
      rcases m1 with _|⟨y,r⟩
      ·exact he
      ·cases r<;>exact he
     obtain⟨K',w',fr',g1,g2,g3,g4,g5,g6,g7,g8⟩:=ih _ ms _ h1 res h' he' K1 w1 {fr with defers:=cds,mode:=settle u} cs hg rfl (Hd.mono le1) (kK.mono le1) qp s1 (eI.trans le1) J8;exact⟨K',w',fr',g1,g2,.head jA (ct.trans (.head aiX g3)),g4,g5,g6,g7,λ_ _ _ _ hq=>g8 _ _ _ _ (hq.mono le1)⟩
def afY{n n'}(h:n<=n'):∀{c:Code},codeOk n c=ai->codeOk n' c=ai:=by
 intro c
 induction c with
 |region id ops draw=>
  simp only[codeOk,EH,Fj];intro hq i hi;have:=hq i hi
  revert this
  cases ops[i].dst with|none=>intro _;rfl|some d=>simp only[decide_eq_true_eq];intro hd;exact mU hd h
 |seq a b iha ihb=>simp only[codeOk,bL];exactλhq=>⟨iha hq.1,ihb hq.2⟩|cond q a b iha ihb=>simp only[codeOk,bL];exactλhq=>⟨iha hq.1,ihb hq.2⟩|block id c ih=>simp only[codeOk];exact ih|loop c ih=>simp only[codeOk];exact ih|scope c ih=>simp only[codeOk];exact ih|rangeFunc f ps a b iha ihb=>simp only[codeOk,bL,Fj,decide_eq_true_eq];exactλhq=>⟨⟨λi hi=>mU (hq.1.1 i hi) h,iha hq.1.2⟩,ihb hq.2⟩|_=>intro hq;exact hq
structure Prog(P:bK):Prop where
 names:Di P
 mixed:P.follows .mixedOrders=ai
 code:∀(g:bm) (fn:Func) (c:Code),P.funcs[g]?=aa fn->fn.body=aa c->codeOk fn.ntmps c=ai
def asi{K}{args}{fk}(hv:aS K args fk.toList)(n):mD K {ch:=[],base:=args} (fk++CL n undef):=by
 intro t;simp only[px.get,look];have bZ:=hv.length;rcases dV t args.length with aB|ec
 ·obtain⟨c,h1,h2⟩:=hv.get (aT aB);have hb:args.getD t (.tuple [])=args[t]:=by simp[aB]
  rw[hb];have hc:(fk++CL n undef).getD t undef=c:=by have ajy:t<fk.size:=(by simpa [bZ] using aB);rw[abg,Array.getElem?_append_left ajy,<-CK,h1];rfl
  rw[hc];exact h2
 ·have hb:args.getD t (.tuple [])=.tuple []:=by simp[tS ec]
  rw[hb];have hc:(fk++CL n undef).getD t undef=undef:=by have ajk:fk.size<=t:=(by simpa [bZ] using ec);rw[abg,Array.getElem?_append_right ajk,Array.getElem?_replicate];split<;>rfl
  rw[hc];exact .tuple [] #[] .nil
def TH(hp:Prog P)(hR:wc P G w0 R){g:bm}{args:List AV}{m m':Option (AV × Bool)}{h h':ao}{res:eX}(he:rR P G R g args m h=aa (res,m',h')):
 (∃fn,P.funcs[g]?=aa fn/\fn.body.isSome=ai)/\∀(K:aY) (w:cB) (fk:Array aR) (kind:CallKind) (base cs:List fh),aS K args fk.toList->CS K kind base m cs->lD P G w0 K h w->
 ∃K' w' fr dO fn,P.funcs[g]?=aa fn/\K.Le K'/\lD P G w0 K' h' w'/\CS K' kind base m' dO/\Steps P (lone (Frame.enter P g fk kind) cs w) (lone fr dO w')/\fr.kind=kind/\fr.defers=[]/\fr.fn=g/\Fx P K' fn fr w' res:=by
 unfold rR at he;split at he
 ·cases he
 ·rename_i fn hY;split at he
  ·cases he
  ·rename_i body ng;refine⟨⟨fn,hY,by rw[ng];rfl⟩,λK w fk kind base cs hv cC hs=>?_⟩
   let b:fh:={(default:fh) with fn:=g,kind:=kind}
   let a:Act:={tmps:=fk++CL (fn.ntmps - fk.size) undef,defers:=[]}
   have hb:b.roundOf=ar:=rfl;have JU:Frame.enter P g fk kind=b.atR a [.code body]:=(by unfold Frame.enter Frame.atR;simp only[hY,ng,b,a,eW,Option.getD_some,pq];rfl);have Oo:nF P K {tmps:={ch:=[],base:=args},defers:=[],cV:=m,round:=ar} a b []:=
    ⟨asi hv _,.nil,rfl,by show(P.funcs[g]?).isSome=ai;rw[hY];rfl⟩
   have bJ:codeOk a.tmps.size body=ai:=afY (by simp[a];omega) (hp.code g fn body hY ng);have finish:∀(out:Xt) (e:Env) (h1:ao) (m0:Option (AV × Bool)),R.code body {tmps:={ch:=[],base:=args},defers:=[],cV:=m,round:=ar} h=aa (out,e,h1)->
    (out=.normal/\m0=ar∨out=.ret/\m0=ar∨∃x,out=.panic x/\m0=aa (x,az))->(ij P G R fn e e.defers m0 h1).map (λ(r,h)=>(r,e.cV,h))=aa (res,m',h')->
    ∃K' w' fr dO fn,P.funcs[g]?=aa fn/\K.Le K'/\lD P G w0 K' h' w'/\CS K' kind base m' dO/\Steps P (lone (Frame.enter P g fk kind) cs w) (lone fr dO w')/\fr.kind=kind/\fr.defers=[]/\fr.fn=g/\Fx P K' fn fr w' res:=by
    intro out e h1 m0 Og Ap Cd;obtain⟨K1,w1,a1,cs1,ms1,L⟩:=hR.code _ _ _ _ _ _ Og K w a b [] base cs [] Oo cC hs bJ;simp only[dy,dj] at Cd;obtain⟨⟨r,hh⟩,Cd,rfl,rfl,rfl⟩:=Cd;have ve:∃(todo:List Item) (u:FrameMode),rL K1 m0 u/\Steps P (lone (Frame.enter P g fk kind) cs w) (lone {b.atR a1 todo with mode:=u} cs1 w1):=by
     rw[JU];rcases Ap with⟨rfl,rfl⟩|⟨rfl,rfl⟩|⟨x,rfl,rfl⟩
     ·exact⟨[],.returning,rfl,Steps.trans L.arr (.one (stepR_end hb))⟩
     ·obtain⟨todo,ct⟩:=L.arr;exact⟨_,.returning,rfl,Steps.trans ct (.one (stepR_ret hb))⟩
     ·obtain⟨todo,v,hx,ct⟩:=L.arr;exact⟨todo,_,⟨rfl,v,hx,rfl⟩,ct⟩
    obtain⟨todo,u,su,ct⟩:=ve;obtain⟨K2,w2,fr,g1,g2,g3,g4,g5,g6,g7,g8⟩:=atV hR hp.names hY a1.defers e.defers ms1 m0 h1 r hh Cd K1 w1 {b.atR a1 todo with mode:=u} cs1 rfl rfl L.frame.defers L.frame.iF su L.qG L.le
     (λr hr=>(L.marks r hr).resolve_left bH)
    exact⟨K2,w2,fr,cs1,fn,hY,g1,g2,g8 _ _ _ _ L.cs,ct.trans g3,g4,g5,g6,g7⟩
   split at he
   ·rename_i e1 h1 hc;exact finish _ _ _ _ hc (.inl ⟨rfl,rfl⟩) he
   ·rename_i e1 h1 hc;exact finish _ _ _ _ hc (.inr (.inl ⟨rfl,rfl⟩)) he
   ·rename_i x e1 h1 hc;exact finish _ _ _ _ hc (.inr (.inr ⟨x,rfl,rfl⟩)) he
   ·cases he
def Fx.apm{K:aY}{fn:Func}{fr:fh}{w:cB}{res:eX}(hg:Fx P K fn fr w res)(hf:P.funcs[fr.fn]?=aa fn)(hk:fr.kind=.normal)(hd:fr.defers=[]):SO P K fr w res:=by
 cases res with
 |ret x=>obtain⟨h1,v,h2,h3⟩:=hg;exact⟨v,h2,h1,hd,hk,fn,hf,h3⟩
 |panic x=>obtain⟨v,h2,h3⟩:=hg;exact⟨v,h2,h3,hd,fn,hf⟩
def sT(P:bK)(G:Nat->Option (List AV))(w0:cB)(g:bm)(p:List AV->ao->Option (AV × ao)):Prop:=
 (∃fn,P.funcs[g]?=aa fn/\fn.body.isSome=ai)/\
 ∀args h x h',p args h=aa (x,h')->∀(K:aY) (w:cB) (fk:Array aR),aS K args fk.toList->lD P G w0 K h w->
  Calls P g fk w λe w'=>∃v K',e=.returned v/\K.Le K'/\a8 K' x v/\lD P G w0 K' h' w'
def ah2(hp:Prog P){aN:bm->Option (List AV->ao->Option (AV × ao))}(oC:∀g p,aN g=aa p->sT P G w0 g p)(hR:wc P G w0 R):SQ P G w0 (qU P G R aN):=by
 intro g args h r h' he;unfold qU at he;split at he
 ·rename_i p tA;simp only[dy,dj] at he;obtain⟨⟨x,hh⟩,hx,rfl,rfl⟩:=he;obtain⟨hY,ai2⟩:=oC g p tA;refine⟨hY,λK w fk hv hs cs=>?_⟩;obtain⟨e,w',fr,⟨v,K',rfl,le,hx',s'⟩,hc,wP,hl⟩:=ai2 args h x hh hx K w fk hv hs cs;exact⟨K',w',fr,le,s',hc,wP,v,hx',hl⟩
 ·simp only[dy,dj] at he;obtain⟨⟨r',m',hh⟩,hx,rfl,rfl⟩:=he;obtain⟨hY,hb⟩:=TH hp hR hx;refine⟨hY,λK w fk hv hs cs=>?_⟩;obtain⟨K',w',fr,dO,fn,hf,le,s',c',ct,hk,hd,hg,Ow⟩:=hb K w fk .normal cs cs hv (.normal rfl) hs;have:dO=cs:=by
   generalize hq:CallKind.normal=q at c';cases c' with|normal=>rfl|ret c0 rest h1=>exact absurd (hq.trans h1) bH|cV c0 rest x v r h1=>exact absurd (hq.trans h1) bH
  subst this;exact⟨K',w',fr,le,s',ct,hg,Ow.apm (by rw[hg];exact hf) hk hd⟩
def agI(hp:Prog P)(hR:wc P G w0 R):SS P G w0 (rR P G R):=by intro g args m h x m' h' he;obtain⟨hY,hb⟩:=TH hp hR he;refine⟨hY,λK w fk base cs hv cC hs=>?_⟩;obtain⟨K',w',fr,dO,fn,hf,le,s',c',ct,hk,hd,hg,Ow⟩:=hb K w fk .deferred base cs hv cC hs;obtain⟨h1,v,h2,h3⟩:=Ow;exact⟨K',w',fr,dO,v,le,s',c',ct,hk,h1,hd,fn,by rw[hg];exact hf,h3⟩
def arL{K}:∀{ps:List Tmp} {args:List AV} {fk:List aR} {s:px} {tmps:Array aR},aS K args fk->mD K s tmps->(∀p∈ps,p<tmps.size)->
 mD K (E9 ps args s) ((ps.zip fk).foldl (λts p=>ts.setIfInBounds p.1 p.2) tmps)/\((ps.zip fk).foldl (λts p=>ts.setIfInBounds p.1 p.2) tmps).size=tmps.size:=by
 intro ps
 induction ps with
 |nil=>intro args fk s tmps hv hs hp;exact⟨hs,rfl⟩|cons p ps ih=>
  intro args fk s tmps hv hs hp;cases hv with
  |nil=>exact⟨hs,rfl⟩|cons x c xs cs hx Py=>
   have h1:=mD.set hs (hp p gj) hx;obtain⟨i1,i2⟩:=ih (s:=s.set p x) (tmps:=tmps.setIfInBounds p c) Py h1 (λq hq=>by simpa using hp q (fN _ hq));refine⟨?_,?_⟩
   ·simpa [E9] using i1
   ·simpa using i2
def apU(hR:wc P G w0 R):SU P G w0 (vN R):=by
 intro l args h r h' he K w fk lg hγ hv hs sY cs;unfold vN at he;split at he
 ·cases he
 ·rename_i rec Ar;split at he
  ·rename_i ajQ;obtain⟨mm,m1,m2,m3,m4,m5,m6,m7,m8,m9,m10,-⟩:=hs.fx hγ Ar rec.state rec.pending;have wI:fk.size=mm.params.size:=(by rw[m4,ajQ,hv.length];simp);have hy:=run_yield (P:=P) m1 wI;split at he
   ·rename_i e1 h1 aiV;split at he
    ·rename_i r1 yC;split at he
     ·rename_i ajN;obtain⟨sp1,sp2⟩:=arL (ps:=rec.params.toList) hv m7 m10;have Ot:(mm.params.zip fk).foldl (λtmps (x:Tmp × aR)=>tmps.setIfInBounds x.1 x.2) mm.tmps=(rec.params.toList.zip fk.toList).foldl (λts p=>ts.setIfInBounds p.1 p.2) mm.tmps:=by rw[<-Array.foldl_toList,Array.toList_zip,m4]
      let b:fh:={(default:fh) with fn:=mm.fn,kind:=.normal,roundOf:=aa lg}
      let a:Act:={tmps:=(rec.params.toList.zip fk.toList).foldl (λts p=>ts.setIfInBounds p.1 p.2) mm.tmps,defers:=[]}
      have Wa:(P.funcs[mm.fn]?).isSome=ai:=(by have:=m8;unfold EF at this;rw[bL] at this;exact this.2);have Oo:nF P K {tmps:=E9 rec.params.toList args rec.tmps,defers:=[],cV:=ar,round:=aa l} a b []:=
       ⟨sp1,.nil,⟨lg,hγ,rfl,rfl,rfl,rfl,rfl⟩,Wa⟩
      have sC:codeOk a.tmps.size rec.assign=ai:=(by have:=m8;unfold EF at this;rw[bL] at this;show codeOk (abn _) _=ai;rw[sp2];exact this.1);have B4:codeOk a.tmps.size rec.body=ai:=(by have:=m9;unfold EF at this;rw[bL] at this;show codeOk (abn _) _=ai;rw[sp2];exact this.1);have Ei:Frame.round lg mm.fn ((mm.params.zip fk).foldl (λtmps (x:Tmp × aR)=>tmps.setIfInBounds x.1 x.2) mm.tmps) mm.assign mm.body .normal=b.atR a [.code rec.assign,.beginRound,.code rec.body]:=(by simp only[Frame.round,Frame.atR,b,a,Ot,m5,m6]);have nocs:∀{K:aY} {p:Option (AV × Bool)} {base dO:List fh},CS K .normal base p dO->dO=base:=by
       intro K p base dO c;generalize hq:CallKind.normal=q at c;cases c with|normal=>rfl|ret c0 rest h1=>exact absurd (hq.trans h1) bH|cV c0 rest x v r h1=>exact absurd (hq.trans h1) bH
      obtain⟨K1,w1,a1,cs1,ms1,L1⟩:=hR.code _ _ _ _ _ _ aiV K w a b [.beginRound,.code rec.body] (sY::cs) (sY::cs) [] Oo (.normal rfl) hs sC;have ai6:=nocs L1.cs;subst ai6;obtain⟨nn,n1,n2,n3,n4,n5,n6,n7,n8,n9,n10,sbusy⟩:=L1.qG.fx (L1.le.γ _ _ hγ) yC .busy r1.pending;have aiY:=run_beginRound (P:=P) n1 (n2.trans ajN);have ajg:({nn with state:=.busy,pending:=r1.pending}:Loop)={nn with state:=.busy}:=(by rw[<-n3]);rw[ajg] at sbusy;have J7:Steps P (lone (Frame.round lg mm.fn ((mm.params.zip fk).foldl (λtmps (x:Tmp × aR)=>tmps.setIfInBounds x.1 x.2) mm.tmps) mm.assign mm.body .normal) (sY::cs) w)
       (lone (b.atR a1 [.code rec.body]) (sY::cs) (w1.putObj lg (.loop {nn with state:=.busy}))):=by
       rw[Ei];exact Steps.trans L1.arr (.one (stepR_beginRound rfl aiY))
      have avd:∀r∈ms1,r∉K.md:=λr hr=>(L1.marks r hr).resolve_left bH;have body:∀(out:Xt) (e2:Env) (h2:ao),R.code rec.body e1 {h1 with loops:=h1.loops.set l {r1 with state:=.busy}}=aa (out,e2,h2)->
       ∃K2 w2 a2 ms2,K.Le K2/\lD P G w0 K2 h2 w2/\nF P K2 e2 a2 b ms2/\ob P K2 (lone (b.atR a1 [.code rec.body]) (sY::cs) (w1.putObj lg (.loop {nn with state:=.busy}))) b [] (sY::cs) out a2 w2:=by
       intro out e2 h2 Og;obtain⟨K2,w2,a2,cs2,ms2,L2⟩:=hR.code _ _ _ _ _ _ Og K1 _ a1 b [] (sY::cs) (sY::cs) ms1 L1.frame L1.cs sbusy (by rw[L1.size];exact B4);have Oj:=nocs L2.cs;subst Oj;exact⟨K2,w2,a2,ms2,L1.le.trans L2.le,L2.qG,L2.frame,L2.arr⟩
      have ending:∀(h2:ao) (out:eX) (hh:ao) (st:LoopState) (pe:Option Code) (bb:Bool) (K2:aY) (w2:cB),K.Le K2->lD P G w0 K2 h2 w2->pe.isNone=bb->(if pe.isNone then LoopState.ready else .done)=st->
       ((h2.loops[l]?).map λr=>(eX.ret (.v (.bool bb)),{h2 with loops:=h2.loops.set l {r with state:=st,pending:=pe}}))=aa (out,hh)->
       ∃v w3,(Instr.endRound lg pe).run P w2=.ok (.bool bb) w3/\lD P G w0 K2 hh w3/\out=.ret (.v (.bool bb))/\a8 K2 (.v (.bool bb)) v/\v=.bool bb:=by
       intro h2 out hh st pe bb K2 w2 le2 s2 ue ct Wq;simp only[dy,dj] at Wq;obtain⟨r2,jj,rfl,rfl⟩:=Wq;obtain⟨qq,q1,q2,q3,-,-,-,-,-,-,-,send⟩:=s2.fx (le2.γ _ _ hγ) jj st pe;have tq:=run_endRound (P:=P) pe q1;rw[ct,ue] at tq;exact⟨_,_,tq,send,rfl,.v _ rfl,rfl⟩
      have oX:∀{K2:aY} {e2:Env} {a2:Act} {ms2:List Nat},nF P K2 e2 a2 b ms2->e2.round=aa l->a2.defers=[]:=(by intro K2 e2 a2 ms2 hf hr;have:=hf.round;rw[hr] at this;obtain⟨_,_,_,_,h1,_⟩:=this;exact h1);refine⟨mm.fn,(mm.params.zip fk).foldl (λtmps (x:Tmp × aR)=>tmps.setIfInBounds x.1 x.2) mm.tmps,mm.assign,mm.body,?_⟩;split at he
      ·rename_i e2 h2 ng;obtain⟨K2,w2,a2,ms2,le2,s2,f2,ve⟩:=body _ _ _ ng;obtain⟨v,w3,tq,s3,rfl,iK,rfl⟩:=ending h2 r h' .ready ar ai K2 w2 le2 s2 rfl rfl he;exact⟨K2,w3,hy,le2,s3,_,iK,J7.trans (Steps.trans ve (.one (stepR_round_end rfl rfl tq)))⟩
      ·rename_i e2 h2 ng;obtain⟨K2,w2,a2,ms2,le2,s2,f2,todo,ve⟩:=body _ _ _ ng;obtain⟨v,w3,tq,s3,rfl,iK,rfl⟩:=ending h2 r h' .done (aa .ret) az K2 w2 le2 s2 rfl rfl he;exact⟨K2,w3,hy,le2,s3,_,iK,J7.trans (ve.trans (.one (stepR_round_ret rfl rfl tq)))⟩
      ·rename_i id e2 h2 ng;obtain⟨K2,w2,a2,ms2,le2,s2,f2,todo,qm,ve⟩:=body _ _ _ ng;obtain⟨v,w3,tq,s3,rfl,iK,rfl⟩:=ending h2 r h' .done (aa (.exit id)) az K2 w2 le2 s2 rfl rfl he;exact⟨K2,w3,hy,le2,s3,_,iK,J7.trans (ve.trans (.one (stepR_round_exit rfl rfl (qm.trans rfl) tq)))⟩
      ·rename_i x e2 h2 ng;simp only[dM,dj] at he;obtain⟨rfl,rfl⟩:=he;obtain⟨K2,w2,a2,ms2,le2,s2,f2,todo,v,hx,ve⟩:=body _ _ _ ng;have hd:a2.defers=[]:=by
        have:=f2.round;cases hq:e2.round with
        |none=>rw[hq] at this;cases this
        |some l'=>rw[hq] at this;obtain⟨_,_,_,_,h1,_⟩:=this;exact h1
       obtain⟨fnn,Oq⟩:=Option.isSome_iff_exists.1 Wa;exact⟨K2,w2,hy,le2,s2,v,_,hx,J7.trans ve,rfl,hd,fnn,Oq⟩
      ·cases he
     ·cases he
    ·cases he
   ·cases he
  ·cases he
def KT(hp:Prog P){aN:bm->Option (List AV->ao->Option (AV × ao))}(oC:∀g p,aN g=aa p->sT P G w0 g p):∀n,wc P G w0 (iM P G aN n):=by
 intro n
 induction n with
 |zero=>
  refine⟨?_,?_,?_,?_⟩
  ·intro c e h out e' h' he;cases he
  ·intro g args h r h' he;cases he
  ·intro g args m h x m' h' he;cases he
  ·intro l args h r h' he;cases he
 |succ n ih=>exact⟨af0 hp.names hp.mixed ih,ah2 hp oC ih,agI hp ih,apU ih⟩
end
end Go.AE
end
section
namespace Go.AE
structure oq(R R':Rec):Prop where
 code:∀c e h r,R.code c e h=aa r->R'.code c e h=aa r
 call:∀g a h r,R.call g a h=aa r->R'.call g a h=aa r
 jR:∀g a m h r,R.jR g a m h=aa r->R'.jR g a m h=aa r
 round:∀l a h r,R.round l a h=aa r->R'.round l a h=aa r
section
variable {P:bK} {G:Nat->Option (List AV)} {R R':Rec}
def afd(le:oq R R'){e:Env}{h:ao}{c:Call}{r:eX × ao}(hc:mb P R e h c=aa r):mb P R' e h c=aa r:=by
 unfold mb at hc ⊢;cases oU:c.callee with
 |builtin b=>rw[oU] at hc;cases hc
 |value f=>
  simp only[oU] at hc ⊢;split at hc
  ·rename_i h1;(try simp only[h1]);exact le.call _ _ _ _ hc
  ·rename_i h1;(try simp only[h1]);exact le.round _ _ _ _ hc
  ·cases hc
 |invoke v m=>
  simp only[oU] at hc ⊢;split at hc
  ·rename_i h1
   (try simp only[h1])
   split at hc
   ·rename_i h2;(try simp only[h2]);exact le.call _ _ _ _ hc
   ·cases hc
  ·cases hc
def EG(le:oq R R'){e:Env}{h:ao}{o:Oper}{r:eX × Env × ao}(ho:eo P G R e h o=aa r):eo P G R' e h o=aa r:=by
 unfold eo at ho ⊢;split at ho
 ·exact ho
 ·exact ho
 ·exact ho
 ·simp only[dy] at ho ⊢;obtain⟨q,hq,he⟩:=ho;exact⟨q,afd le hq,he⟩
 ·exact ho
 ·exact ho
 ·exact ho
def o7(le:oq R R'){ops:Array Oper}:∀{l:List Nat} {e:Env} {h:ao} {r:Xt × Env × ao},di P G R ops l e h=aa r->di P G R' ops l e h=aa r:=by
 intro l
 induction l with
 |nil=>intro e h r ho;exact ho|cons i l ih=>
  intro e h r ho;simp only[di] at ho ⊢;cases GX:ops[i]? with
  |none=>rw[GX] at ho;cases ho
  |some o=>
   rw[GX] at ho;simp only at ho ⊢;cases hw:ff ops e o with
   |none=>rw[hw] at ho;cases ho
   |some b=>
    rw[hw] at ho;cases b with
    |false=>exact ih ho|true=>
     simp only at ho ⊢;cases bU:eo P G R e h o with
     |none=>rw[bU] at ho;cases ho
     |some q=>
      rw[bU] at ho;rw[EG le bU];obtain⟨r1,e1,h1⟩:=q;cases r1 with|ret x=>exact ih ho|panic x=>exact ho
def LB(le:oq R R'){ops:Array Oper}{e:Env}{h:ao}{r m:Nat}(hs:pR P G R ops e h r m=ai):pR P G R' ops e h r m=ai:=by
 unfold pR at hs ⊢;split at hs
 ·rename_i o er hr em hm h1 h2 h3;rw[h1,o7 le h2,o7 le h3];exact hs
 ·cases hs
def Gc{ops:Array Oper}{e:Env}{h:ao}{k:Nat}:mX P G R ops e h k=ai↔zP P G R ops e h k:=by unfold mX;exact @decide_eq_true_iff _ (Classical.propDecidable _)
def Jk(le:oq R R'){ops:Array Oper}{e:Env}{h:ao}{k:Nat}(hc:mX P G R ops e h k=ai):mX P G R' ops e h k=ai:=by rw[Gc] at hc ⊢;obtain⟨o,x,er,hr,h1,h2,h3,h4⟩:=hc;refine⟨o,x,er,hr,h1,h2,o7 le h3,λm hm=>?_⟩;obtain⟨em,BY,h5,h6⟩:=h4 m hm;exact⟨em,BY,o7 le h5,EG le h6⟩
def NL(le:oq R R'){ops:Array Oper}{e:Env}{h:ao}(hs:mH P G R ops e h=ai):mH P G R' ops e h=ai:=by
 unfold mH at hs ⊢;simp only[bL,ej,gB,uH] at hs ⊢;refine⟨hs.1,λj hj i hi=>?_⟩;rcases hs.2 j hj i hi with((h1|h1)|h1)|h1
 ·exact .inl (.inl (.inl h1))
 ·exact .inl (.inl (.inr h1))
 ·refine .inl (.inr ?_);unfold l8 at h1 ⊢;rw[bL] at h1 ⊢;refine⟨h1.1,?_⟩;have h2:=h1.2;split at h2
  ·rename_i hx hy;(try simp only[hx,hy]);exact LB le h2
  ·rename_i hx hy;(try simp only[hx,hy]);exact LB le h2
  ·cases h2
 ·exact .inr ⟨h1.1,h1.2.imp (Jk le) (Jk le)⟩
def YG(le:oq R R'){ops:Array Oper}{e:Env}{h:ao}{i:Nat}(hs:sK P G R ops e h i=ai):sK P G R' ops e h i=ai:=by
 unfold sK at hs ⊢;split at hs
 ·rename_i h1 h2;rw[o7 le h1,o7 le h2];exact hs
 ·cases hs
def stores_le(le:oq R R'){ops:Array Oper}{e:Env}{h:ao}(D:tL P G R ops e h=ai):tL P G R' ops e h=ai:=by obtain⟨i,h1,h2,h3,h4⟩:=stores_cases D;exact stores_of h1 h2 (YG le h3) (NL le h4)
def any_le(le:oq R R'){ops:Array Oper}{e:Env}{h:ao}(D:(mH P G R ops e h||tL P G R ops e h)=ai):(mH P G R' ops e h||tL P G R' ops e h)=ai:=by
 rcases (uH _ _).mp D with q|q
 ·rw[NL le q];rfl
 ·rw[stores_le le q,R7]
def Up(le:oq R R'){c:Code}{e:Env}{h:ao}{r:Xt × Env × ao}(hc:fK P G R c e h=aa r):fK P G R' c e h=aa r:=by
 cases c with
 |region id ops draw=>
  cases draw with
  |false=>simp only[fK,jW,if_false] at hc ⊢;exact o7 le hc|true=>
   simp only[fK,if_true] at hc ⊢;split at hc
   ·rename_i hf;split at hc
    ·rename_i h1;rw[aG (any_le le hf)];simp only[o7 le h1];exact hc
    ·cases hc
   ·cases hc
 |seq a b=>
  simp only[fK] at hc ⊢;cases ha:R.code a e h with
  |none=>rw[ha] at hc;cases hc
  |some q=>
   rw[ha] at hc;rw[le.code _ _ _ _ ha];obtain⟨o,e1,h1⟩:=q;cases o with|normal=>exact le.code _ _ _ _ hc|_=>exact hc
 |scope a=>simp only[fK] at hc ⊢;exact le.code _ _ _ _ hc|cond q a b=>
  simp only[fK] at hc ⊢;split at hc
  ·rename_i h1;(try simp only[h1]);exact le.code _ _ _ _ hc
  ·rename_i h1;(try simp only[h1]);exact le.code _ _ _ _ hc
  ·cases hc
 |block id a=>
  simp only[fK] at hc ⊢;cases ha:R.code a e h with
  |none=>rw[ha] at hc;cases hc
  |some q=>rw[ha] at hc;rw[le.code _ _ _ _ ha];exact hc
 |loop a=>
  simp only[fK] at hc ⊢;cases ha:R.code a e h with
  |none=>rw[ha] at hc;cases hc
  |some q=>
   rw[ha] at hc;rw[le.code _ _ _ _ ha];obtain⟨o,e1,h1⟩:=q;cases o with|normal=>exact le.code _ _ _ _ hc|_=>exact hc
 |rangeFunc f ps a b=>
  simp only[fK] at hc ⊢;split at hc
  ·rename_i g first aC tu
   (try simp only[tu])
   generalize dF:R.call g _ _=q at hc;cases q with
   |none=>cases hc
   |some q=>rw[le.call _ _ _ _ dF];exact hc
  ·cases hc
 |_=>exact hc
def RS(le:oq R R'){fn:Func}{e:Env}:∀{ds:List (bm × List AV)} {m:Option (AV × Bool)} {h:ao} {r:eX × ao},ij P G R fn e ds m h=aa r->ij P G R' fn e ds m h=aa r:=by
 intro ds
 induction ds with
 |nil=>intro m h r hu;cases m<;>exact hu
 |cons d ds ih=>
  intro m h r hu;obtain⟨g,args⟩:=d;simp only[ij] at hu ⊢;cases hd:R.jR g args m h with
  |none=>rw[hd] at hu;cases hu
  |some q=>
   rw[hd] at hu;rw[le.jR _ _ _ _ _ hd];obtain⟨r1,m1,h1⟩:=q;cases r1 with
   |panic x=>exact hu|ret x=>
    rcases m1 with _|⟨y,b⟩
    ·exact ih hu
    ·cases b<;>exact ih hu
def Ni(le:oq R R'){g:bm}{args:List AV}{m:Option (AV × Bool)}{h:ao}{r:eX × Option (AV × Bool) × ao}(hb:rR P G R g args m h=aa r):rR P G R' g args m h=aa r:=by
 unfold rR at hb ⊢;split at hb
 ·cases hb
 ·rename_i fn hY;rw[hY] at *
  simp only;split at hb
  ·cases hb
  ·rename_i body ng;rw[ng] at *
   (try simp only)
   generalize BK:R.code body _ h=q at hb;cases q with
   |none=>cases hb
   |some q=>
    rw[le.code _ _ _ _ BK];obtain⟨o,e1,h1⟩:=q;cases o with
    |exit id=>cases hb
    |_=>simp only[dy] at hb ⊢;obtain⟨q,hq,he⟩:=hb;exact⟨q,RS le hq,he⟩
def Vo(le:oq R R'){aN:bm->Option (List AV->ao->Option (AV × ao))}{g:bm}{args:List AV}{h:ao}{r:eX × ao}(hb:qU P G R aN g args h=aa r):qU P G R' aN g args h=aa r:=by
 unfold qU at hb ⊢;split at hb
 ·exact hb
 ·simp only[dy] at hb ⊢;obtain⟨q,hq,he⟩:=hb;exact⟨q,Ni le hq,he⟩
def ZB(le:oq R R'){l:Nat}{args:List AV}{h:ao}{r:eX × ao}(hb:vN R l args h=aa r):vN R' l args h=aa r:=by
 unfold vN at hb ⊢;split at hb
 ·cases hb
 ·split at hb
  ·rename_i dm;simp only[dm,if_true];split at hb
   ·rename_i e1 h1 ha;simp only[le.code _ _ _ _ ha];split at hb
    ·rename_i r2 jj;split at hb
     ·rename_i ct;simp only[ct,if_true];generalize BK:R.code _ e1 _=q at hb;cases q with
      |none=>cases hb
      |some q=>rw[le.code _ _ _ _ BK];exact hb
     ·cases hb
    ·cases hb
   ·cases hb
  ·cases hb
variable {aN:bm->Option (List AV->ao->Option (AV × ao))}
def HN(n:Nat):oq (iM P G aN n) (iM P G aN (n+1)):=by
 induction n with
 |zero=>
  refine⟨?_,?_,?_,?_⟩
  ·intro c e h r hh;cases hh
  ·intro g a h r hh;cases hh
  ·intro g a m h r hh;cases hh
  ·intro l a h r hh;cases hh
 |succ n ih=>exact⟨λc e h r hh=>Up ih hh,λg a h r hh=>Vo ih hh,λg a m h r hh=>Ni ih hh,λl a h r hh=>ZB ih hh⟩
def jl{n m:Nat}(h:n<=m):oq (iM P G aN n) (iM P G aN m):=by
 induction m with
 |zero=>rw[Nat.le_zero.1 h];exact⟨λ_ _ _ _ h=>h,λ_ _ _ _ h=>h,λ_ _ _ _ _ h=>h,λ_ _ _ _ h=>h⟩|succ m ih=>
  rcases dV n (m+1) with aB|ec
  ·have h1:=ih (A6.1 aB);have h2:=HN (P:=P) (G:=G) (aN:=aN) m;exact⟨λc e h r hh=>h2.code _ _ _ _ (h1.code _ _ _ _ hh),λg a h r hh=>h2.call _ _ _ _ (h1.call _ _ _ _ hh),λg a m h r hh=>h2.jR _ _ _ _ _ (h1.jR _ _ _ _ _ hh),λl a h r hh=>h2.round _ _ _ _ (h1.round _ _ _ _ hh)⟩
  ·rw[A5 h ec];exact⟨λ_ _ _ _ h=>h,λ_ _ _ _ h=>h,λ_ _ _ _ _ h=>h,λ_ _ _ _ h=>h⟩
end
noncomputable def Ax{α:Type}(f:Nat->Option α):Option α:=by
 classical
 exact if h:∃r n,f n=aa r then aa h.choose else ar
def Kv{α}{f}(hm:∀n m r,n<=m->f n=aa r->f m=aa r){n}{r:α}(h:f n=aa r):Ax f=aa r:=by unfold Ax;have qm:∃r n,f n=aa r:=⟨r,n,h⟩;rw[dif_pos qm];obtain⟨m,uh⟩:=qm.choose_spec;have h1:=hm _ _ _ (FU n m) h;have h2:=hm _ _ _ (Dc n m) uh;rw[h1] at h2;exact h2.symm
def mr{α}{f}{r:α}(h:Ax f=aa r):∃n,f n=aa r:=by
 unfold Ax at h;split at h
 ·rename_i qm;injection h with h;rw[<-h];exact qm.choose_spec
 ·cases h
section
variable (P:bK) (G:Nat->Option (List AV)) (aN:bm->Option (List AV->ao->Option (AV × ao)))
noncomputable def whole:Rec where
 code c e h:=Ax λn=>(iM P G aN n).code c e h
 call g a h:=Ax λn=>(iM P G aN n).call g a h
 jR g a m h:=Ax λn=>(iM P G aN n).jR g a m h
 round l a h:=Ax λn=>(iM P G aN n).round l a h
end
section
variable {P:bK} {G:Nat->Option (List AV)} {aN:bm->Option (List AV->ao->Option (AV × ao))}
def AR(n:Nat):oq (iM P G aN n) (whole P G aN):=
 ⟨λ_ _ _ _ h=>Kv (λ_ _ _ hl hh=>(jl hl).code _ _ _ _ hh) h,λ_ _ _ _ h=>Kv (λ_ _ _ hl hh=>(jl hl).call _ _ _ _ hh) h,
  λ_ _ _ _ _ h=>Kv (λ_ _ _ hl hh=>(jl hl).jR _ _ _ _ _ hh) h,λ_ _ _ _ h=>Kv (λ_ _ _ hl hh=>(jl hl).round _ _ _ _ hh) h⟩
def RW{w0:cB}(hp:Prog P)(oC:∀g p,aN g=aa p->sT P G w0 g p):wc P G w0 (whole P G aN):=by
 refine⟨?_,?_,?_,?_⟩
 ·intro c e h out e' h' he;obtain⟨n,hn⟩:=mr he;exact(KT hp oC n).code c e h out e' h' hn
 ·intro g args h r h' he;obtain⟨n,hn⟩:=mr he;exact(KT hp oC n).call g args h r h' hn
 ·intro g args m h x m' h' he;obtain⟨n,hn⟩:=mr he;exact(KT hp oC n).jR g args m h x m' h' hn
 ·intro l args h r h' he;obtain⟨n,hn⟩:=mr he;exact(KT hp oC n).round l args h r h' hn
def two{α β:Type}{f:Nat->Option α}{g:Nat->Option β}{a}{b}(hf:∀n m r,n<=m->f n=aa r->f m=aa r)(hg:∀n m r,n<=m->g n=aa r->g m=aa r)(h1:∃n,f n=aa a)(h2:∃n,g n=aa b):
 ∃n,f n=aa a/\g n=aa b:=by
 obtain⟨n,h1⟩:=h1;obtain⟨m,h2⟩:=h2;exact⟨max n m,hf _ _ _ (FU _ _) h1,hg _ _ _ (Dc _ _) h2⟩
def afc{e:Env}{h:ao}{c:Call}{r:eX × ao}(hc:mb P (whole P G aN) e h c=aa r):∃n,mb P (iM P G aN n) e h c=aa r:=by
 unfold mb at hc ⊢;cases oU:c.callee with
 |builtin b=>rw[oU] at hc;cases hc
 |value f=>
  simp only[oU] at hc ⊢;split at hc
  ·exact mr hc
  ·exact mr hc
  ·cases hc
 |invoke v m=>
  simp only[oU] at hc ⊢;split at hc
  ·split at hc
   ·rename_i h2;(try simp only[h2]);exact mr hc
   ·cases hc
  ·cases hc
def Yz{e:Env}{h:ao}{o:Oper}{r:eX × Env × ao}(ho:eo P G (whole P G aN) e h o=aa r):∃n,eo P G (iM P G aN n) e h o=aa r:=by
 unfold eo at ho ⊢;split at ho
 ·exact⟨0,ho⟩
 ·exact⟨0,ho⟩
 ·exact⟨0,ho⟩
 ·simp only[dy] at ho ⊢;obtain⟨q,hq,he⟩:=ho;obtain⟨n,hn⟩:=afc hq;exact⟨n,q,hn,he⟩
 ·exact⟨0,ho⟩
 ·exact⟨0,ho⟩
 ·exact⟨0,ho⟩
def AF{ops:Array Oper}:∀{l:List Nat} {e:Env} {h:ao} {r:Xt × Env × ao},di P G (whole P G aN) ops l e h=aa r->∃n,di P G (iM P G aN n) ops l e h=aa r:=by
 intro l
 induction l with
 |nil=>intro e h r ho;exact⟨0,ho⟩|cons i l ih=>
  intro e h r ho;simp only[di] at ho ⊢;cases GX:ops[i]? with
  |none=>rw[GX] at ho;cases ho
  |some o=>
   rw[GX] at ho;simp only at ho ⊢;cases hw:ff ops e o with
   |none=>rw[hw] at ho;cases ho
   |some b=>
    rw[hw] at ho;cases b with
    |false=>exact ih ho|true=>
     simp only at ho ⊢;cases bU:eo P G (whole P G aN) e h o with
     |none=>rw[bU] at ho;cases ho
     |some q=>
      rw[bU] at ho;have h1:=Yz bU;obtain⟨r1,e1,oz⟩:=q;cases r1 with
      |panic x=>obtain⟨n,hn⟩:=h1;exact⟨n,by rw[hn];exact ho⟩
      |ret x=>obtain⟨n,h1,h2⟩:=two (λ_ _ _ hl hh=>EG (jl hl) hh) (λ_ _ _ hl hh=>o7 (jl hl) hh) h1 (ih ho);exact⟨n,by rw[h1];exact h2⟩
def aaB{ops:Array Oper}{e:Env}{h:ao}{r m:Nat}(hs:pR P G (whole P G aN) ops e h r m=ai):∃n,pR P G (iM P G aN n) ops e h r m=ai:=by
 unfold pR at hs ⊢;split at hs
 ·rename_i o er hr em hm h1 h2 h3;obtain⟨n,h2,h3⟩:=two (λ_ _ _ hl hh=>o7 (jl hl) hh) (λ_ _ _ hl hh=>o7 (jl hl) hh) (AF h2) (AF h3);refine⟨n,?_⟩;rw[h1,h2,h3];exact hs
 ·cases hs
def many{p:Nat->Nat->Prop}(hm:∀i n m,n<=m->p i n->p i m):∀k,(∀i,i<k->∃n,p i n)->∃n,∀i,i<k->p i n:=by
 intro k
 induction k with
 |zero=>intro _;exact⟨0,λi hi=>absurd hi (Nat.not_lt_zero i)⟩|succ k ih=>
  intro h;obtain⟨n,hn⟩:=ih λi hi=>h i (vZ hi);obtain⟨m,uh⟩:=h k (Nat.lt_succ_self k);refine⟨max n m,λi hi=>?_⟩;rcases dV i k with aB|ec
  ·exact hm _ _ _ (FU _ _) (hn i aB)
  ·rw[A5 (A6.1 hi) ec];exact hm _ _ _ (Dc _ _) uh
def asC{R R':Rec}(le:oq R R'){ops:Array Oper}{e:Env}{h:ao}{i j:Nat}(h1:l8 P G R ops e h i j=ai):l8 P G R' ops e h i j=ai:=by
 unfold l8 at h1 ⊢;rw[bL] at h1 ⊢;refine⟨h1.1,?_⟩;have h2:=h1.2;split at h2
 ·rename_i hx hy;(try simp only[hx,hy]);exact LB le h2
 ·rename_i hx hy;(try simp only[hx,hy]);exact LB le h2
 ·cases h2
def asB{ops:Array Oper}{e:Env}{h:ao}{i j:Nat}(h1:l8 P G (whole P G aN) ops e h i j=ai):∃n,l8 P G (iM P G aN n) ops e h i j=ai:=by
 unfold l8 at h1 ⊢;rw[bL] at h1;have h2:=h1.2;split at h2
 ·rename_i hx hy;obtain⟨n,hn⟩:=aaB h2;exact⟨n,by rw[bL];exact⟨h1.1,by(try simp only[hx,hy]);exact hn⟩⟩
 ·rename_i hx hy;obtain⟨n,hn⟩:=aaB h2;exact⟨n,by rw[bL];exact⟨h1.1,by(try simp only[hx,hy]);exact hn⟩⟩
 ·cases h2
def TU{ops:Array Oper}{e:Env}{h:ao}{k:Nat}(hc:mX P G (whole P G aN) ops e h k=ai):∃n,mX P G (iM P G aN n) ops e h k=ai:=by
 rw[Gc] at hc;obtain⟨o,x,er,hr,h1,h2,h3,h4⟩:=hc;obtain⟨n0,h3⟩:=AF h3;have key:∀m,m<ops.size+1->∃n,∃em hm,di P G (iM P G aN n) ops (bR m) e h=aa (.normal,em,hm)/\eo P G (iM P G aN n) er hm o=aa (.ret x,er,hm):=by intro m hm;obtain⟨em,BY,h5,h6⟩:=h4 m (A6.1 hm);obtain⟨n,q1,q2⟩:=two (λ_ _ _ hl hh=>o7 (jl hl) hh) (λ_ _ _ hl hh=>EG (jl hl) hh) (AF h5) (Yz h6);exact⟨n,em,BY,q1,q2⟩
 obtain⟨n1,hn⟩:=many (p:=λm n=>∃em hm,di P G (iM P G aN n) ops (bR m) e h=aa (.normal,em,hm)/\eo P G (iM P G aN n) er hm o=aa (.ret x,er,hm))
  (λm n n' hl ⟨em,hm,q1,q2⟩=>⟨em,hm,o7 (jl hl) q1,EG (jl hl) q2⟩) (ops.size+1) key
 refine⟨max n0 n1,?_⟩;rw[Gc];refine⟨o,x,er,hr,h1,h2,o7 (jl (FU _ _)) h3,λm hm=>?_⟩;obtain⟨em,BY,q1,q2⟩:=hn m (A6.2 hm);exact⟨em,BY,o7 (jl (Dc _ _)) q1,EG (jl (Dc _ _)) q2⟩
noncomputable def yU(P:bK)(G:Nat->Option (List AV))(R:Rec)(ops:Array Oper)(e:Env)(h:ao)(i j:Nat):Bool:=
 ((Region.before ops).getD j 0).testBit i||yW ops i j||l8 P G R ops e h i j||(pD ops i j&&(mX P G R ops e h i||mX P G R ops e h j))
def YH{R R':Rec}(le:oq R R'){ops:Array Oper}{e:Env}{h:ao}{i j:Nat}(hp:yU P G R ops e h i j=ai):yU P G R' ops e h i j=ai:=by
 unfold yU at hp ⊢;simp only[uH,bL] at hp ⊢;rcases hp with(h1|h1)|h1
 ·exact .inl (.inl h1)
 ·exact .inl (.inr (asC le h1))
 ·exact .inr ⟨h1.1,h1.2.imp (Jk le) (Jk le)⟩
def amw{ops:Array Oper}{e:Env}{h:ao}{i j:Nat}(hp:yU P G (whole P G aN) ops e h i j=ai):∃n,yU P G (iM P G aN n) ops e h i j=ai:=by
 unfold yU at hp ⊢;simp only[uH,bL] at hp ⊢;rcases hp with(h1|h1)|⟨h1,h2|h2⟩
 ·exact⟨0,.inl (.inl h1)⟩
 ·obtain⟨n,hn⟩:=asB h1;exact⟨n,.inl (.inr hn)⟩
 ·obtain⟨n,hn⟩:=TU h2;exact⟨n,.inr ⟨h1,.inl hn⟩⟩
 ·obtain⟨n,hn⟩:=TU h2;exact⟨n,.inr ⟨h1,.inr hn⟩⟩
def U6{ops:Array Oper}{e:Env}{h:ao}(hs:mH P G (whole P G aN) ops e h=ai):∃n,mH P G (iM P G aN n) ops e h=ai:=by
 unfold mH at hs ⊢;simp only[bL,ej,gB] at hs ⊢;obtain⟨h1,h2⟩:=hs;have key:∀j,j<ops.size->∃n,∀i,i<j->yU P G (iM P G aN n) ops e h i j=ai:=by intro j hj;exact many (p:=λi n=>yU P G (iM P G aN n) ops e h i j=ai) (λi n m hl=>YH (jl hl)) j λi hi=>amw (h2 j hj i hi)
 obtain⟨n,hn⟩:=many (p:=λj n=>∀i,i<j->yU P G (iM P G aN n) ops e h i j=ai) (λj n m hl hh i hi=>YH (jl hl) (hh i hi)) ops.size key;exact⟨n,h1,hn⟩
def amt{ops:Array Oper}{e:Env}{h:ao}{i:Nat}(hs:sK P G (whole P G aN) ops e h i=ai):∃n,sK P G (iM P G aN n) ops e h i=ai:=by
 unfold sK at hs ⊢;split at hs
 ·rename_i h1 h2;obtain⟨n,h1,h2⟩:=two (λ_ _ _ hl hh=>o7 (jl hl) hh) (λ_ _ _ hl hh=>o7 (jl hl) hh) (AF h1) (AF h2);refine⟨n,?_⟩;rw[h1,h2];exact hs
 ·cases hs
def stores_fin{ops:Array Oper}{e:Env}{h:ao}(D:tL P G (whole P G aN) ops e h=ai):∃n,tL P G (iM P G aN n) ops e h=ai:=by obtain⟨i,h1,h2,h3,h4⟩:=stores_cases D;obtain⟨n,hn⟩:=U6 h4;obtain⟨m,hm⟩:=amt h3;exact⟨max n m,stores_of h1 h2 (YG (jl (Dc n m)) hm) (NL (jl (FU n m)) hn)⟩
def afZ{c:Code}{e:Env}{h:ao}{r:Xt × Env × ao}(hc:fK P G (whole P G aN) c e h=aa r):∃n,fK P G (iM P G aN n) c e h=aa r:=by
 cases c with
 |region id ops draw=>
  cases draw with
  |false=>simp only[fK,jW,if_false] at hc ⊢;exact AF hc|true=>
   simp only[fK,if_true] at hc ⊢;split at hc
   ·rename_i hf;split at hc
    ·rename_i h1;obtain⟨n,hn⟩:∃n,(mH P G (iM P G aN n) ops e h||tL P G (iM P G aN n) ops e h)=ai:=by
      rcases (uH _ _).mp hf with q|q
      ·obtain⟨n,hn⟩:=U6 q;exact⟨n,by rw[hn];rfl⟩
      ·obtain⟨n,hn⟩:=stores_fin q;exact⟨n,by rw[hn,R7]⟩
     obtain⟨m,hm⟩:=AF h1;refine⟨max n m,?_⟩;rw[aG (any_le (jl (FU n m)) hn)];simp only[o7 (jl (Dc n m)) hm];exact hc
    ·cases hc
   ·cases hc
 |seq a b=>
  simp only[fK] at hc ⊢;cases ha:(whole P G aN).code a e h with
  |none=>rw[ha] at hc;cases hc
  |some q=>
   rw[ha] at hc;have h1:=mr ha;obtain⟨o,e1,oz⟩:=q;by_cases ja:o=.normal
   ·subst ja;obtain⟨n,h1,h2⟩:=two (λ_ _ _ hl hh=>(jl hl).code _ _ _ _ hh) (λ_ _ _ hl hh=>(jl hl).code _ _ _ _ hh) h1 (mr hc);exact⟨n,by rw[h1];exact h2⟩
   ·obtain⟨n,h1⟩:=h1;refine⟨n,?_⟩;rw[h1];cases o<;>first|exact absurd rfl ja|exact hc
 |scope a=>simp only[fK] at hc ⊢;exact mr hc|cond q a b=>
  simp only[fK] at hc ⊢;split at hc
  ·exact mr hc
  ·exact mr hc
  ·cases hc
 |block id a=>
  simp only[fK] at hc ⊢;cases ha:(whole P G aN).code a e h with
  |none=>rw[ha] at hc;cases hc
  |some q=>rw[ha] at hc;obtain⟨n,h1⟩:=mr ha;exact⟨n,by rw[h1];exact hc⟩
 |loop a=>
  simp only[fK] at hc ⊢;cases ha:(whole P G aN).code a e h with
  |none=>rw[ha] at hc;cases hc
  |some q=>
   rw[ha] at hc;have h1:=mr ha;obtain⟨o,e1,oz⟩:=q;by_cases ja:o=.normal
   ·subst ja;obtain⟨n,h1,h2⟩:=two (λ_ _ _ hl hh=>(jl hl).code _ _ _ _ hh) (λ_ _ _ hl hh=>(jl hl).code _ _ _ _ hh) h1 (mr hc);exact⟨n,by rw[h1];exact h2⟩
   ·obtain⟨n,h1⟩:=h1;refine⟨n,?_⟩;rw[h1];cases o<;>first|exact absurd rfl ja|exact hc
 |rangeFunc f ps a b=>
  simp only[fK] at hc ⊢;split at hc
  ·generalize dF:(whole P G aN).call _ _ _=q at hc;cases q with
   |none=>cases hc
   |some q=>obtain⟨n,hn⟩:=mr dF;exact⟨n,by rw[hn];exact hc⟩
  ·cases hc
 |_=>exact⟨0,hc⟩
def atQ{fn:Func}{e:Env}:∀{ds:List (bm × List AV)} {m:Option (AV × Bool)} {h:ao} {r:eX × ao},ij P G (whole P G aN) fn e ds m h=aa r->∃n,ij P G (iM P G aN n) fn e ds m h=aa r:=by
 intro ds
 induction ds with
 |nil=>intro m h r hu;exact⟨0,by cases m<;>exact hu⟩
 |cons d ds ih=>
  intro m h r hu;obtain⟨g,args⟩:=d;simp only[ij] at hu ⊢;cases hd:(whole P G aN).jR g args m h with
  |none=>rw[hd] at hu;cases hu
  |some q=>
   rw[hd] at hu;have h1:=mr hd;obtain⟨r1,m1,oz⟩:=q;cases r1 with
   |panic x=>simp at hu|ret x=>
    have fin:∀m2,ij P G (whole P G aN) fn e ds m2 oz=aa r->∃n,(iM P G aN n).jR g args m h=aa (.ret x,m1,oz)/\ij P G (iM P G aN n) fn e ds m2 oz=aa r:=λm2 hu=>
     two (λ_ _ _ hl hh=>(jl hl).jR _ _ _ _ _ hh) (λ_ _ _ hl hh=>RS (jl hl) hh) h1 (ih hu)
    rcases m1 with _|⟨y,b⟩
    ·obtain⟨n,h1,h2⟩:=fin _ hu;exact⟨n,by rw[h1];exact h2⟩
    ·cases b with
     |true=>obtain⟨n,h1,h2⟩:=fin _ hu;exact⟨n,by rw[h1];exact h2⟩
     |false=>obtain⟨n,h1,h2⟩:=fin _ hu;exact⟨n,by rw[h1];exact h2⟩
def TG{g:bm}{args:List AV}{m:Option (AV × Bool)}{h:ao}{r:eX × Option (AV × Bool) × ao}(hb:rR P G (whole P G aN) g args m h=aa r):∃n,rR P G (iM P G aN n) g args m h=aa r:=by
 unfold rR at hb ⊢;split at hb
 ·cases hb
 ·rename_i fn hY;simp only[hY];split at hb
  ·cases hb
  ·rename_i body ng
   (try simp only[ng])
   generalize BK:(whole P G aN).code body _ h=q at hb;cases q with
   |none=>cases hb
   |some q=>
    have h1:=mr BK;obtain⟨o,e1,oz⟩:=q;cases o with
    |exit id=>cases hb
    |_=>simp only[dy] at hb;obtain⟨q,hq,he⟩:=hb;obtain⟨n,h1,h2⟩:=two (λ_ _ _ hl hh=>(jl hl).code _ _ _ _ hh) (λ_ _ _ hl hh=>RS (jl hl) hh) h1 (atQ hq);exact⟨n,by rw[h1];simp only[h2,eW,he]⟩
def ah1{g:bm}{args:List AV}{h:ao}{r:eX × ao}(hb:qU P G (whole P G aN) aN g args h=aa r):∃n,qU P G (iM P G aN n) aN g args h=aa r:=by
 unfold qU at hb ⊢;split at hb
 ·exact⟨0,hb⟩
 ·simp only[dy] at hb ⊢;obtain⟨q,hq,he⟩:=hb;obtain⟨n,hn⟩:=TG hq;exact⟨n,q,hn,he⟩
def apQ{l:Nat}{args:List AV}{h:ao}{r:eX × ao}(hb:vN (whole P G aN) l args h=aa r):∃n,vN (iM P G aN n) l args h=aa r:=by
 unfold vN at hb ⊢;split at hb
 ·cases hb
 ·rename_i rc hrc
  (try simp only[hrc])
  split at hb
  ·rename_i dm;simp only[dm,if_true];split at hb
   ·rename_i e1 h1 ha;split at hb
    ·rename_i r2 jj;split at hb
     ·rename_i ct;generalize BK:(whole P G aN).code _ e1 _=q at hb;cases q with
      |none=>cases hb
      |some q=>obtain⟨n,g1,g2⟩:=two (λ_ _ _ hl hh=>(jl hl).code _ _ _ _ hh) (λ_ _ _ hl hh=>(jl hl).code _ _ _ _ hh) (mr ha) (mr BK);exact⟨n,by rw[g1];simp only[jj,ct,if_true];rw[g2];exact hb⟩
     ·cases hb
    ·cases hb
   ·cases hb
  ·cases hb
def KJ{α:Type}{a b:Option α}(h1:∀r,a=aa r->b=aa r)(h2:∀r,b=aa r->a=aa r):a=b:=by
 cases ha:a with
 |some r=>exact(h1 r ha).symm|none=>
  cases hb:b with|none=>rfl|some r=>rw[h2 r hb] at ha;cases ha
def rH(c:Code)(e:Env)(h:ao):(whole P G aN).code c e h=fK P G (whole P G aN) c e h:=
 KJ (λr hr=>by
  obtain⟨n,hn⟩:=mr hr;have:=(HN (P:=P) (G:=G) (aN:=aN) n).code c e h r hn;exact Up (AR n) this)
  (λr hr=>by obtain⟨n,hn⟩:=afZ hr;exact(AR (n+1)).code c e h r hn)
def IE(g:bm)(a:List AV)(h:ao):(whole P G aN).call g a h=qU P G (whole P G aN) aN g a h:=
 KJ (λr hr=>by
  obtain⟨n,hn⟩:=mr hr;have:=(HN (P:=P) (G:=G) (aN:=aN) n).call g a h r hn;exact Vo (AR n) this)
  (λr hr=>by obtain⟨n,hn⟩:=ah1 hr;exact(AR (n+1)).call g a h r hn)
def aul(g:bm)(a:List AV)(m:Option (AV × Bool))(h:ao):(whole P G aN).jR g a m h=rR P G (whole P G aN) g a m h:=
 KJ (λr hr=>by
  obtain⟨n,hn⟩:=mr hr;have:=(HN (P:=P) (G:=G) (aN:=aN) n).jR g a m h r hn;exact Ni (AR n) this)
  (λr hr=>by obtain⟨n,hn⟩:=TG hr;exact(AR (n+1)).jR g a m h r hn)
def aum(l:Nat)(a:List AV)(h:ao):(whole P G aN).round l a h=vN (whole P G aN) l a h:=
 KJ (λr hr=>by
  obtain⟨n,hn⟩:=mr hr;have:=(HN (P:=P) (G:=G) (aN:=aN) n).round l a h r hn;exact ZB (AR n) this)
  (λr hr=>by obtain⟨n,hn⟩:=apQ hr;exact(AR (n+1)).round l a h r hn)
end
end Go.AE
end
section
namespace Go.AE
def Env.st(e:Env)(d:Nat)(x:AV):Env:={e with tmps:=e.tmps.set d x}
def anG(e:Env)(d:Nat)(x):e.put (aa d) x=e.st d x:=rfl
def anE(e:Env)(x):e.put ar x=e:=rfl
def CC(e:Env)(d t)(x):(e.st d x).get t=if d=t then x else e.get t:=EA e.tmps d t x
def asx(e:Env)(d)(x):(e.st d x).defers=e.defers:=rfl
def asy(e:Env)(d)(x):(e.st d x).cV=e.cV:=rfl
def aaA(e:Env)(d)(x):(e.st d x).round=e.round:=rfl
def Env.start(args:List AV)(p:Option (AV × Bool)):Env:={tmps:={ch:=[],base:=args},defers:=[],cV:=p,round:=ar}
def asF(args)(p)(t):(Env.start args p).get t=args.getD t (.tuple []):=rfl
def asE(args)(p):(Env.start args p).defers=[]:=rfl
def asG(args)(p):(Env.start args p).cV=p:=rfl
def Rx(args)(p):(Env.start args p).round=ar:=rfl
def Bq(e:Env)(t:Nat):e.eval (.tmp t)=e.get t:=rfl
def eval_const(e:Env)(v):e.eval (.const v)=sH v:=rfl
def eval_func(e:Env)(f):e.eval (.func f)=.func (.func f) [] []:=rfl
def eval_global(e:Env)(g):e.eval (.global g)=.ptr (.eR g) 0:=rfl
def al3(k)(n):sH (.int k n)=.v (.int k n):=rfl
def al0(b):sH (.bool b)=.v (.bool b):=rfl
def al8(s):sH (.string s)=.v (.string s):=rfl
def al5:sH .nilIface=.v .nilIface:=rfl
def al4:sH .nilFunc=.v .nilFunc:=rfl
def al6:sH (.pointer ar)=.v (.pointer ar):=rfl
def al7:sH (.slice ar 0 0)=.list .nil 0 []:=rfl
def alZ(cs):sH (.agg ⟨cs⟩)=.agg (cs.map vA):=rfl
section
variable (P:bK) (G:Nat->Option (List AV)) (R:Rec)
def qC(ops:Array Oper):List Oper->Env->ao->Option (Xt × Env × ao)
 | [],e,h=>aa (.normal,e,h)
 |o::rest,e,h=>
  match ff ops e o with
  |none=>ar
  |some az=>qC ops rest (e.put o.dst (.tuple [])) h
  |some ai=>
   match eo P G R e h o with
   |some (.ret x,e,h)=>qC ops rest (e.put o.dst x) h
   |some (.panic x,e,h)=>aa (.panic x,e,h)
   |none=>ar
def Qk(ops:Array Oper):∀(n i:Nat),i+n=ops.size->∀(e:Env) (h:ao),di P G R ops (ace i n) e h=qC P G R ops (ops.toList.drop i) e h:=by
 intro n
 induction n with
 |zero=>intro i hi e h;rw[List.drop_eq_nil_of_le (by simp;omega)];rfl
 |succ n ih=>
  intro i hi e h;have aB:i<ops.size:=by omega
  have ho:ops[i]?=aa ops[i]:=mz aB;rw[acf,xP (by simpa using aB)];simp only[di,qC,ho,abj];cases ff ops e ops[i] with
  |none=>rfl|some b=>
   cases b with
   |false=>exact ih (i+1) ah _ _|true=>
    simp only;cases eo P G R e h ops[i] with
    |none=>rfl|some q=>
     obtain⟨r,e1,h1⟩:=q;cases r with|ret x=>exact ih (i+1) ah _ _|panic x=>rfl
def zE(r:Option (Xt × Env × ao))(Q:Xt->Env->ao->Prop):Prop:=∃o e h,r=aa (o,e,h)/\Q o e h
def bM(c:Code)(e:Env)(h:ao)(Q:Xt->Env->ao->Prop):Prop:=zE (R.code c e h) Q
def cP(ops:Array Oper)(l:List Oper)(e:Env)(h:ao)(Q:Xt->Env->ao->Prop):Prop:=zE (qC P G R ops l e h) Q
end
def vD{o}{e}{h}{Q}:zE (aa (o,e,h)) Q=Q o e h:=
 propext ⟨λ⟨_,_,_,h1,h2⟩=>by simp only[dM,dj] at h1;obtain⟨rfl,rfl,rfl⟩:=h1;exact h2,λhq=>⟨o,e,h,rfl,hq⟩⟩
def sJ{Q}:zE ar Q=False:=propext ⟨λ⟨_,_,_,h1,_⟩=>(by cases h1),False.elim⟩
def zE.mono{r}{Q Q'}(h:∀o e h,Q o e h->Q' o e h)(hr:zE r Q):zE r Q':=by obtain⟨o,e,h1,h2,h3⟩:=hr;exact⟨o,e,h1,h2,h _ _ _ h3⟩
def guardOf(ops:Array Oper)(j:Nat):Option Tmp:=(ops[j]?).bind (·.dst)
def aiv{o}{l}:guardOf ⟨o::l⟩ 0=o.dst:=rfl
def aiu{o}{l}{n}:guardOf ⟨o::l⟩ (n+1)=guardOf ⟨l⟩ n:=by simp[guardOf]
def vW(R:Rec)(a b:Code)(e:Env)(h:ao)(Q:Xt->Env->ao->Prop)(x:AV):Prop:=
 match x with
 | .v (.bool t)=>if t=ai then bM R a e h Q else bM R b e h Q
 |_=>False
def nG(P:bK)(G:Nat->Option (List AV))(R:Rec)(ops:Array Oper)(o:Oper)(rest:List Oper)(e:Env)(h:ao)(Q:Xt->Env->ao->Prop)(want:Bool)(x:AV):Prop:=
 match x with
 | .v (.bool b)=>if b=want then cP P G R ops (o::rest) e h Q else cP P G R ops rest (e.put o.dst (.tuple [])) h Q
 | .tuple []=>cP P G R ops rest (e.put o.dst (.tuple [])) h Q
 |_=>False
def MR(P:bK)(G:Nat->Option (List AV))(R:Rec)(ops:Array Oper)(o:Oper)(rest:List Oper)(e:Env)(h:ao)(Q:Xt->Env->ao->Prop)(want:Bool)(d:Option Tmp):Prop:=
 match d with
 |some g=>nG P G R ops o rest e h Q want (e.get g)
 |none=>cP P G R ops rest (e.put o.dst (.tuple [])) h Q
section
variable {P:bK} {G:Nat->Option (List AV)} {R:Rec} {a b:Code} {e:Env} {h:ao} {Q:Xt->Env->ao->Prop} {ops:Array Oper} {o:Oper} {rest:List Oper} {p:Prop} [Decidable p] {t:Bool}
def ae0:vW R a b e h Q (.v (.bool ai))=bM R a e h Q:=rfl
def aeX:vW R a b e h Q (.v (.bool az))=bM R b e h Q:=rfl
def aeW(h1:p->bM R a e h Q)(h2:¬p->bM R b e h Q):vW R a b e h Q (.v (.bool (decide p))):=by
 unfold vW;simp only[decide_eq_true_eq];split
 ·rename_i hp;exact h1 hp
 ·rename_i hp;exact h2 hp
def aeZ(h1:p->bM R b e h Q)(h2:¬p->bM R a e h Q):vW R a b e h Q (.v (.bool (!decide p))):=by
 unfold vW;by_cases hp:p
 ·simp only[hp,decide_true,R5,jW,if_false];exact h1 hp
 ·simp only[hp,decide_false,zk,if_true];exact h2 hp
def aeV(h1:t=ai->bM R a e h Q)(h2:t=az->bM R b e h Q):vW R a b e h Q (.v (.bool t)):=by
 cases t
 ·exact h2 rfl
 ·exact h1 rfl
def aiD:nG P G R ops o rest e h Q ai (.v (.bool ai))=cP P G R ops (o::rest) e h Q:=rfl
def aiC:nG P G R ops o rest e h Q ai (.v (.bool az))=cP P G R ops rest (e.put o.dst (.tuple [])) h Q:=rfl
def aiz:nG P G R ops o rest e h Q az (.v (.bool ai))=cP P G R ops rest (e.put o.dst (.tuple [])) h Q:=rfl
def aiy:nG P G R ops o rest e h Q az (.v (.bool az))=cP P G R ops (o::rest) e h Q:=rfl
def aiE{w:Bool}:nG P G R ops o rest e h Q w (.tuple [])=cP P G R ops rest (e.put o.dst (.tuple [])) h Q:=rfl
def aix{w:Bool}(h1:p->nG P G R ops o rest e h Q w (.v (.bool ai)))(h2:¬p->nG P G R ops o rest e h Q w (.v (.bool az))):nG P G R ops o rest e h Q w (.v (.bool (decide p))):=by
 by_cases hp:p
 ·simp only[hp,decide_true];exact h1 hp
 ·simp only[hp,decide_false];exact h2 hp
def aiB{w:Bool}(h1:p->nG P G R ops o rest e h Q w (.v (.bool az)))(h2:¬p->nG P G R ops o rest e h Q w (.v (.bool ai))):nG P G R ops o rest e h Q w (.v (.bool (!decide p))):=by
 by_cases hp:p
 ·simp only[hp,decide_true];exact h1 hp
 ·simp only[hp,decide_false];exact h2 hp
def aiw{w:Bool}(h1:t=ai->nG P G R ops o rest e h Q w (.v (.bool ai)))(h2:t=az->nG P G R ops o rest e h Q w (.v (.bool az))):nG P G R ops o rest e h Q w (.v (.bool t)):=by
 cases t
 ·exact h2 rfl
 ·exact h1 rfl
def aiA{w:Bool}(h1:t=ai->nG P G R ops o rest e h Q w (.v (.bool az)))(h2:t=az->nG P G R ops o rest e h Q w (.v (.bool ai))):nG P G R ops o rest e h Q w (.v (.bool (!t))):=by
 cases t
 ·exact h2 rfl
 ·exact h1 rfl
def aeY(h1:t=ai->bM R b e h Q)(h2:t=az->bM R a e h Q):vW R a b e h Q (.v (.bool (!t))):=by
 cases t
 ·exact h2 rfl
 ·exact h1 rfl
def ash{w:Bool}{g:Tmp}:MR P G R ops o rest e h Q w (aa g)=nG P G R ops o rest e h Q w (e.get g):=rfl
end
def Ip(R:Rec)(c:Code)(Q:Xt->Env->ao->Prop):Xt->Env->ao->Prop
 | .normal,e,h=>bM R c e h Q
 |o,e,h=>Q o e h
def F9(id:Nat)(Q:Xt->Env->ao->Prop):Xt->Env->ao->Prop
 | .exit i,e,h=>if i=id then Q .normal e h else Q (.exit i) e h
 |o,e,h=>Q o e h
def xX(Q:Xt->Env->ao->Prop):Xt->Env->ao->Prop
 | .normal,e,h=>Q .normal e h
 |_,_,_=>False
section
variable {R:Rec} {c:Code} {Q:Xt->Env->ao->Prop} {e:Env} {h:ao}
def arH:Ip R c Q .normal e h=bM R c e h Q:=rfl
def arJ:Ip R c Q .ret e h=Q .ret e h:=rfl
def arG{i:Nat}:Ip R c Q (.exit i) e h=Q (.exit i) e h:=rfl
def arI{x:AV}:Ip R c Q (.panic x) e h=Q (.panic x) e h:=rfl
def aeP{id:Nat}:F9 id Q .normal e h=Q .normal e h:=rfl
def aeR{id:Nat}:F9 id Q .ret e h=Q .ret e h:=rfl
def TD{id i:Nat}:F9 id Q (.exit i) e h=if i=id then Q .normal e h else Q (.exit i) e h:=rfl
def aeQ{id:Nat}{x:AV}:F9 id Q (.panic x) e h=Q (.panic x) e h:=rfl
def afg:xX Q .normal e h=Q .normal e h:=rfl
def afh{x:AV}:xX Q (.panic x) e h=False:=rfl
end
section
variable {P:bK} {G:Nat->Option (List AV)} {aN:bm->Option (List AV->ao->Option (AV × ao))} {Q:Xt->Env->ao->Prop} {e:Env} {h:ao}
def arj:bM (whole P G aN) .skip e h Q=Q .normal e h:=by rw[bM,rH];exact vD
def ara{l:Nat}:bM (whole P G aN) (.label l) e h Q=Q .normal e h:=by rw[bM,rH];exact vD
def ari{a:Code}:bM (whole P G aN) (.scope a) e h Q=bM (whole P G aN) a e h Q:=by unfold bM;rw[rH];simp only[fK]
def aq9{id:Nat}:bM (whole P G aN) (.exit id) e h Q=Q (.exit id) e h:=by rw[bM,rH];exact vD
def arh:bM (whole P G aN) .ret e h Q=Q .ret e h:=by rw[bM,rH];exact vD
def run_seq{a b:Code}:bM (whole P G aN) (.seq a b) e h Q=bM (whole P G aN) a e h (Ip (whole P G aN) b Q):=by
 unfold bM;rw[rH];simp only[fK];cases ha:(whole P G aN).code a e h with|none=>simp only[sJ]|some q=>obtain⟨o,e1,h1⟩:=q;cases o<;>simp only[vD]<;>rfl
def aq7{c:bT}{a b:Code}:bM (whole P G aN) (.cond c a b) e h Q=vW (whole P G aN) a b e h Q (e.eval c):=by
 unfold bM vW;rw[rH];simp only[fK];generalize e.eval c=x;rcases x with _|v|_|_|_|_|_|_|_|_|_
 case v=>
  cases v with
  |bool t=>cases t<;>rfl
  |_=>simp only[sJ]
 all_goals (simp only[sJ])
def aq6{id:Nat}{a:Code}:bM (whole P G aN) (.block id a) e h Q=bM (whole P G aN) a e h (F9 id Q):=by
 unfold bM;rw[rH];simp only[fK];cases ha:(whole P G aN).code a e h with
 |none=>simp only[sJ]|some q=>
  obtain⟨o,e1,h1⟩:=q;cases o with
  |exit i=>simp only[vD,TD];split<;>simp only[vD]
  |_=>simp only[vD]<;>rfl
def arf{id:Nat}{ops:Array Oper}:bM (whole P G aN) (.region id ops az) e h Q=cP P G (whole P G aN) ops ops.toList e h Q:=by unfold bM cP;rw[rH];simp only[fK,jW,if_false];have:=Qk P G (whole P G aN) ops ops.size 0 ah e h;rw[iX] at this;rw[<-this,Mw]
def ahK{R:Rec}{ops:Array Oper}(hd:ND ops=ai)(e:Env)(h:ao):mH P G R ops e h=ai:=by unfold ND at hd;unfold mH;simp only[bL,ej,gB,uH] at hd ⊢;exact⟨hd.1,λj hj i hi=>.inl (.inl (hd.2 j hj i hi))⟩
def Rl{id:Nat}{ops:Array Oper}(hd:mH P G (whole P G aN) ops e h=ai)(hr:cP P G (whole P G aN) ops ops.toList e h (xX Q)):bM (whole P G aN) (.region id ops ai) e h Q:=by
 unfold bM cP at *
 rw[rH];simp only[fK,if_true,hd,abx];have:=Qk P G (whole P G aN) ops ops.size 0 ah e h;rw[iX] at this;rw[<-this,<-Mw] at hr;obtain⟨o,e1,h1,h2,h3⟩:=hr;rw[h2];cases o with|normal=>exact⟨_,_,_,rfl,h3⟩|_=>exact h3.elim
def run_draw_stores{id:Nat}{ops:Array Oper}(D:tL P G (whole P G aN) ops e h=ai)(hr:cP P G (whole P G aN) ops ops.toList e h (xX Q)):bM (whole P G aN) (.region id ops ai) e h Q:=by
 unfold bM cP at *
 rw[rH];have:=Qk P G (whole P G aN) ops ops.size 0 ah e h;rw[iX] at this;rw[<-this,<-Mw] at hr;obtain⟨o,e1,h1,h2,h3⟩:=hr;simp only[fK,if_true,D,R7,h2];cases o with|normal=>exact⟨_,_,_,rfl,h3⟩|_=>exact h3.elim
def uA{id:Nat}{ops:Array Oper}(hd:ND ops=ai)(hr:cP P G (whole P G aN) ops ops.toList e h (xX Q)):bM (whole P G aN) (.region id ops ai) e h Q:=
 Rl (ahK hd e h) hr
def Co(I:Nat->Env->ao->Prop)(n:Nat)(Q:Xt->Env->ao->Prop):Xt->Env->ao->Prop
 | .normal,e,h=>∃m,m<n/\I m e h
 |o,e,h=>Q o e h
def ala{I:Nat->Env->ao->Prop}{n:Nat}:Co I n Q .normal e h=∃m,m<n/\I m e h:=rfl
def alc{I:Nat->Env->ao->Prop}{n:Nat}:Co I n Q .ret e h=Q .ret e h:=rfl
def ak9{I:Nat->Env->ao->Prop}{n i:Nat}:Co I n Q (.exit i) e h=Q (.exit i) e h:=rfl
def alb{I:Nat->Env->ao->Prop}{n:Nat}{x:AV}:Co I n Q (.panic x) e h=Q (.panic x) e h:=rfl
def cE{c:Code}(I:Nat->Env->ao->Prop)(jA:∀n e h,I n e h->bM (whole P G aN) c e h (Co I n Q)):
 ∀n e h,I n e h->bM (whole P G aN) (.loop c) e h Q:=by
 intro n
 induction n using SG with
 |_ n ih=>
  intro e h hi;obtain⟨o,e1,h1,h2,h3⟩:=jA n e h hi;unfold bM;rw[rH];simp only[fK,h2];cases o with
  |normal=>obtain⟨m,hm,BS⟩:=h3;exact ih m hm e1 h1 BS
  |_=>exact⟨_,_,_,rfl,h3⟩
def bM.mono{R:Rec}{c:Code}{Q1:Xt->Env->ao->Prop}{h1:ao}(hq:∀o e h,Q o e h->Q1 o e h)(hr:bM R c e h1 Q):bM R c e h1 Q1:=zE.mono hq hr
def xZ(P:bK)(G:Nat->Option (List AV))(R:Rec)(fn:Func)(r:eX)(h':ao):Xt->Env->ao->Prop
 | .normal,e,h=>ij P G R fn e e.defers ar h=aa (r,h')
 | .ret,e,h=>ij P G R fn e e.defers ar h=aa (r,h')
 | .panic x,e,h=>ij P G R fn e e.defers (aa (x,az)) h=aa (r,h')
 | .exit _,_,_=>False
def cL{g:bm}{fn:Func}{body:Code}{args:List AV}{r:eX}{h':ao}(hp:aN g=ar)(hY:P.funcs[g]?=aa fn)(hb:fn.body=aa body)
 (hr:bM (whole P G aN) body (Env.start args ar) h (xZ P G (whole P G aN) fn r h')):(whole P G aN).call g args h=aa (r,h'):=by
 rw[IE];unfold qU;rw[hp];unfold rR;rw[hY];simp only[hb];obtain⟨o,e1,h1,h2,h3⟩:=hr;have h2:(whole P G aN).code body {tmps:={ch:=[],base:=args},defers:=[],cV:=ar,round:=ar} h=aa (o,e1,h1):=h2;rw[h2];cases o with|exit i=>exact h3.elim|_=>simp only[xZ] at h3;simp only[h3,eW]
def agH{g:bm}{fn:Func}{body:Code}{args:List AV}{m m':Option (AV × Bool)}{r:eX}{h':ao}(hY:P.funcs[g]?=aa fn)(hb:fn.body=aa body)
 (hr:bM (whole P G aN) body (Env.start args m) h λo e h1=>xZ P G (whole P G aN) fn r h' o e h1/\e.cV=m'):(whole P G aN).jR g args m h=aa (r,m',h'):=by
 rw[aul];unfold rR;rw[hY];simp only[hb];obtain⟨o,e1,h1,h2,h3,h4⟩:=hr;have h2:(whole P G aN).code body {tmps:={ch:=[],base:=args},defers:=[],cV:=m,round:=ar} h=aa (o,e1,h1):=h2;rw[h2];cases o with|exit i=>exact h3.elim|_=>simp only[xZ] at h3;simp only[h3,eW,h4]
def ahh{R:Rec}{fn:Func}{r:eX}{h':ao}:xZ P G R fn r h' .normal e h=(ij P G R fn e e.defers ar h=aa (r,h')):=rfl
def ahj{R:Rec}{fn:Func}{r:eX}{h':ao}:xZ P G R fn r h' .ret e h=(ij P G R fn e e.defers ar h=aa (r,h')):=rfl
def ahi{R:Rec}{fn:Func}{r:eX}{h':ao}{x:AV}:xZ P G R fn r h' (.panic x) e h=(ij P G R fn e e.defers (aa (x,az)) h=aa (r,h')):=rfl
def atS{R:Rec}{fn:Func}:ij P G R fn e [] ar h=(HQ P G fn e h).map λx=>(.ret x,h):=rfl
def atT{R:Rec}{fn:Func}{x:AV}{b:Bool}:ij P G R fn e [] (aa (x,b)) h=aa (.panic x,h):=rfl
section
variable {R:Rec} {ops:Array Oper} {rest:List Oper} {d:Option Tmp} {ty:aK} {pos:String} {af:Array Edge}
def aq2:cP P G R ops [] e h Q=Q .normal e h:=vD
def aq1{op:Op}{j:Nat}{want:Bool}:cP P G R ops (⟨d,op,ty,pos,af,aa (j,want)⟩::rest) e h Q=
 MR P G R ops ⟨d,op,ty,pos,af,ar⟩ rest e h Q want (guardOf ops j):=by
 unfold cP guardOf MR nG cP;simp only[qC,ff];cases (ops[j]?).bind (·.dst) with
 |none=>rfl|some g=>
  simp only;generalize e.get g=x;rcases x with _|v|_|_|_|cs|_|_|_|_|_
  case v=>
   cases v with
   |bool b=>
    simp only;by_cases hb:b=want
    ·subst hb;simp only[beq_self_eq_true,if_true];rfl
    ·have:(b==want)=az:=(by simpa using hb);simp only[this,aH hb]
   |_=>simp only[sJ]
  case tuple=>cases cs<;>simp only[sJ]
  all_goals (simp only[sJ])
def after(P:bK)(G:Nat->Option (List AV))(R:Rec)(ops:Array Oper)(rest:List Oper)(d:Option Tmp)(e:Env)(Q:Xt->Env->ao->Prop):Option (AV × ao)->Prop
 |some (x,h)=>cP P G R ops rest (e.put d x) h Q
 |none=>False
def adp{x:AV}:after P G R ops rest d e Q (aa (x,h))=cP P G R ops rest (e.put d x) h Q:=rfl
def opsOf(o:Op):Bool:=
 match o with
 | .call _| .defer _| .panic _=>az
 |_=>ai
def mQ{op:Op}(ho:opsOf op=ai):cP P G R ops (⟨d,op,ty,pos,af,ar⟩::rest) e h Q=after P G R ops rest d e Q (dP P G e.eval h op):=by
 unfold cP;simp only[qC,ff];have bU:eo P G R e h ⟨d,op,ty,pos,af,ar⟩=(dP P G e.eval h op).map λ(x,h)=>(.ret x,e,h):=by cases op<;>first|rfl|(simp[opsOf] at ho)
 rw[bU];cases dP P G e.eval h op with|none=>simp only[MO,sJ];rfl|some q=>obtain⟨x,h1⟩:=q;rfl
def MT(P:bK)(G:Nat->Option (List AV))(R:Rec)(ops:Array Oper)(rest:List Oper)(d:Option Tmp)(e:Env)(Q:Xt->Env->ao->Prop):Option (eX × ao)->Prop
 |some (.ret x,h)=>cP P G R ops rest (e.put d x) h Q
 |some (.panic x,h)=>Q (.panic x) e h
 |none=>False
def ado{x:AV}:MT P G R ops rest d e Q (aa (.ret x,h))=cP P G R ops rest (e.put d x) h Q:=rfl
def adn{x:AV}:MT P G R ops rest d e Q (aa (.panic x,h))=Q (.panic x) e h:=rfl
def aq5{f:bT}{args:Array bT}{ts:Array aK}:cP P G R ops (⟨d,.call {callee:=.value f,args,argTypes:=ts},ty,pos,af,ar⟩::rest) e h Q=
 MT P G R ops rest d e Q (mb P R e h {callee:=.value f,args,argTypes:=ts}):=by
 unfold cP;simp only[qC,ff,eo];cases mb P R e h {callee:=.value f,args,argTypes:=ts} with|none=>simp only[MO,sJ];rfl|some q=>obtain⟨r,h1⟩:=q;cases r<;>simp only[eW,vD]<;>rfl
def TP{g:bm}{args:Array bT}{ts:Array aK}:mb P R e h {callee:=.value (.func g),args,argTypes:=ts}=R.call g (args.toList.map e.eval) h:=by simp[mb,eval_func]
def TQ{t:Nat}{args:Array bT}{ts:Array aK}:mb P R e h {callee:=.value (.tmp t),args,argTypes:=ts}=
 (match e.get t with
  | .func (.func g) first aC=>R.call g (first++args.toList.map e.eval++aC) h
  | .yield l=>R.round l (args.toList.map e.eval) h
  |_=>ar):=rfl
def YV:Builtin->Bool
 | .recover| .panic| .append=>az
 |_=>ai
def Ik{b:Builtin}{args:Array bT}{ts:Array aK}(hb:YV b=ai):cP P G R ops (⟨d,.call {callee:=.builtin b,args,argTypes:=ts},ty,pos,af,ar⟩::rest) e h Q=
 after P G R ops rest d e Q (jC P h b ts ty (args.toList.map e.eval)):=by
 unfold cP;simp only[qC,ff];have bU:eo P G R e h ⟨d,.call {callee:=.builtin b,args,argTypes:=ts},ty,pos,af,ar⟩=(jC P h b ts ty (args.toList.map e.eval)).map λ(x,h)=>(.ret x,e,h):=by cases b<;>first|rfl|(simp[YV] at hb)
 rw[bU];cases jC P h b ts ty (args.toList.map e.eval) with|none=>simp only[MO,sJ];rfl|some q=>obtain⟨x,h1⟩:=q;rfl
def ape(x:bT):cP P G R ops (⟨d,.move x,ty,pos,af,ar⟩::rest) e h Q=after P G R ops rest d e Q (dP P G e.eval h (.move x)):=mQ rfl
def aoT(x:bT):cP P G R ops (⟨d,.assign x,ty,pos,af,ar⟩::rest) e h Q=after P G R ops rest d e Q (dP P G e.eval h (.assign x)):=mQ rfl
def apg(c a b:bT):cP P G R ops (⟨d,.pick c a b,ty,pos,af,ar⟩::rest) e h Q=after P G R ops rest d e Q (dP P G e.eval h (.pick c a b)):=mQ rfl
def aoR(t:aK):cP P G R ops (⟨d,.alloc t,ty,pos,af,ar⟩::rest) e h Q=after P G R ops rest d e Q (dP P G e.eval h (.alloc t)):=mQ rfl
def aoV(t:aK)(x:bT):cP P G R ops (⟨d,.box t x,ty,pos,af,ar⟩::rest) e h Q=after P G R ops rest d e Q (dP P G e.eval h (.box t x)):=mQ rfl
def aoW(t:aK)(ps:Array (Nat × bT)):cP P G R ops (⟨d,.build t ps,ty,pos,af,ar⟩::rest) e h Q=after P G R ops rest d e Q (dP P G e.eval h (.build t ps)):=mQ rfl
def aoX(t:aK)(n:Nat)(ps:Array (Nat × bT)):cP P G R ops (⟨d,.buildSlice t n ps,ty,pos,af,ar⟩::rest) e h Q=after P G R ops rest d e Q (dP P G e.eval h (.buildSlice t n ps)):=mQ rfl
def ao8(t:aK)(a:bT):cP P G R ops (⟨d,.load t a,ty,pos,af,ar⟩::rest) e h Q=after P G R ops rest d e Q (dP P G e.eval h (.load t a)):=mQ rfl
def apj(t:aK)(a x:bT):cP P G R ops (⟨d,.store t a x,ty,pos,af,ar⟩::rest) e h Q=after P G R ops rest d e Q (dP P G e.eval h (.store t a x)):=mQ rfl
def apf(x:bT):cP P G R ops (⟨d,.nilCheck x,ty,pos,af,ar⟩::rest) e h Q=after P G R ops rest d e Q (dP P G e.eval h (.nilCheck x)):=mQ rfl
def aoU(o:BinOp)(t:aK)(x y:bT)(yt:aK):cP P G R ops (⟨d,.binOp o t x y yt,ty,pos,af,ar⟩::rest) e h Q=after P G R ops rest d e Q (dP P G e.eval h (.binOp o t x y yt)):=mQ rfl
def apl(o:UnOp)(t:aK)(x:bT):cP P G R ops (⟨d,.unOp o t x,ty,pos,af,ar⟩::rest) e h Q=after P G R ops rest d e Q (dP P G e.eval h (.unOp o t x)):=mQ rfl
def aoZ(s t:aK)(x:bT):cP P G R ops (⟨d,.convert s t x,ty,pos,af,ar⟩::rest) e h Q=after P G R ops rest d e Q (dP P G e.eval h (.convert s t x)):=mQ rfl
def apa(t:aK)(x:bT):cP P G R ops (⟨d,.makeInterface t x,ty,pos,af,ar⟩::rest) e h Q=after P G R ops rest d e Q (dP P G e.eval h (.makeInterface t x)):=mQ rfl
def ao9(fn:Fn)(first aC:Array bT):cP P G R ops (⟨d,.makeFunc fn first aC,ty,pos,af,ar⟩::rest) e h Q=after P G R ops rest d e Q (dP P G e.eval h (.makeFunc fn first aC)):=mQ rfl
def apb(t:aK)(l c:bT):cP P G R ops (⟨d,.makeSlice t l c,ty,pos,af,ar⟩::rest) e h Q=after P G R ops rest d e Q (dP P G e.eval h (.makeSlice t l c)):=mQ rfl
def api(t:aK)(x:bT)(lo hi mx:Option bT):cP P G R ops (⟨d,.slice t x lo hi mx,ty,pos,af,ar⟩::rest) e h Q=after P G R ops rest d e Q (dP P G e.eval h (.slice t x lo hi mx)):=mQ rfl
def ao4(t:aK)(x:bT)(f:Nat):cP P G R ops (⟨d,.fieldAddr t x f,ty,pos,af,ar⟩::rest) e h Q=after P G R ops rest d e Q (dP P G e.eval h (.fieldAddr t x f)):=mQ rfl
def ao3(t:aK)(x:bT)(f:Nat):cP P G R ops (⟨d,.field t x f,ty,pos,af,ar⟩::rest) e h Q=after P G R ops rest d e Q (dP P G e.eval h (.field t x f)):=mQ rfl
def ao6(t:aK)(x i:bT):cP P G R ops (⟨d,.indexAddr t x i,ty,pos,af,ar⟩::rest) e h Q=after P G R ops rest d e Q (dP P G e.eval h (.indexAddr t x i)):=mQ rfl
def ao5(t:aK)(x i:bT):cP P G R ops (⟨d,.index t x i,ty,pos,af,ar⟩::rest) e h Q=after P G R ops rest d e Q (dP P G e.eval h (.index t x i)):=mQ rfl
def apk(x:bT)(xt t:aK)(ok:Bool):cP P G R ops (⟨d,.typeAssert x xt t ok,ty,pos,af,ar⟩::rest) e h Q=after P G R ops rest d e Q (dP P G e.eval h (.typeAssert x xt t ok)):=mQ rfl
def ao2(x:bT)(i:Nat):cP P G R ops (⟨d,.extract x i,ty,pos,af,ar⟩::rest) e h Q=after P G R ops rest d e Q (dP P G e.eval h (.extract x i)):=mQ rfl
def ao7(args:Array bT)(ts:Array aK):cP P G R ops (⟨d,.call {callee:=.builtin .len,args,argTypes:=ts},ty,pos,af,ar⟩::rest) e h Q=after P G R ops rest d e Q (jC P h .len ts ty (args.toList.map e.eval)):=Ik rfl
def aoY(args:Array bT)(ts:Array aK):cP P G R ops (⟨d,.call {callee:=.builtin .cap,args,argTypes:=ts},ty,pos,af,ar⟩::rest) e h Q=after P G R ops rest d e Q (jC P h .cap ts ty (args.toList.map e.eval)):=Ik rfl
def aoS(args:Array bT)(ts:Array aK):cP P G R ops (⟨d,.call {callee:=.builtin .append,args,argTypes:=ts},ty,pos,af,ar⟩::rest) e h Q=after P G R ops rest d e Q (rV P G d h .append ts ty (args.toList.map e.eval)):=by
 unfold cP;simp only[qC,ff];have bU:eo P G R e h ⟨d,.call {callee:=.builtin .append,args,argTypes:=ts},ty,pos,af,ar⟩=(rV P G d h .append ts ty (args.toList.map e.eval)).map λ(x,h)=>(.ret x,e,h):=rfl;rw[bU];cases rV P G d h .append ts ty (args.toList.map e.eval) with|none=>simp only[MO,sJ];rfl|some q=>obtain⟨x,h1⟩:=q;rfl
def ao0(args:Array bT)(ts:Array aK):cP P G R ops (⟨d,.call {callee:=.builtin .copy,args,argTypes:=ts},ty,pos,af,ar⟩::rest) e h Q=after P G R ops rest d e Q (jC P h .copy ts ty (args.toList.map e.eval)):=Ik rfl
def apd(args:Array bT)(ts:Array aK):cP P G R ops (⟨d,.call {callee:=.builtin .min,args,argTypes:=ts},ty,pos,af,ar⟩::rest) e h Q=after P G R ops rest d e Q (jC P h .min ts ty (args.toList.map e.eval)):=Ik rfl
def apc(args:Array bT)(ts:Array aK):cP P G R ops (⟨d,.call {callee:=.builtin .max,args,argTypes:=ts},ty,pos,af,ar⟩::rest) e h Q=after P G R ops rest d e Q (jC P h .max ts ty (args.toList.map e.eval)):=Ik rfl
def aq3{x:bT}:cP P G R ops (⟨d,.panic x,ty,pos,af,ar⟩::rest) e h Q=(match e.eval x with| .iface t y=>Q (.panic (.iface t y)) e h|_=>False):=by unfold cP;simp only[qC,ff,eo];generalize e.eval x=y;cases y<;>first|exact vD|exact sJ
def aq4{args:Array bT}{ts:Array aK}(hr:e.round=ar):cP P G R ops (⟨d,.call {callee:=.builtin .recover,args,argTypes:=ts},ty,pos,af,ar⟩::rest) e h Q=
 (match e.cV with
  |some (x,az)=>cP P G R ops rest (({e with cV:=aa (x,ai)}:Env).put d x) h Q
  |_=>cP P G R ops rest (e.put d (.v .nilIface)) h Q):=by
 unfold cP;simp only[qC,ff,eo,hr,Ba,jW,if_false];rcases hp:e.cV with _|⟨x,b⟩
 ·rfl
 ·cases b<;>rfl
def aq0{f:bT}{args:Array bT}{ts:Array aK}(hr:e.round=ar):cP P G R ops (⟨d,.defer {callee:=.value f,args,argTypes:=ts},ty,pos,af,ar⟩::rest) e h Q=
 (match e.eval f with
  | .func (.func g) first aC=>cP P G R ops rest (({e with defers:=(g,first++args.toList.map e.eval++aC)::e.defers}:Env).put d (.tuple [])) h Q
  |_=>False):=by
 unfold cP;simp only[qC,ff,eo,hr,Ba,jW,if_false];generalize e.eval f=y;rcases y with _|_|_|_|_|_|_|_|⟨fn,a,b⟩|_|_
 case func=>cases fn<;>first|rfl|exact sJ
 all_goals exact sJ
end
end
end Go.AE
end
section
namespace Go.AE
def bs(l:List UInt8):ByteArray:=⟨l.toArray⟩
def str(l:List UInt8):AV:=.v (.string (bs l))
def int(n:Int):AV:=.v (.int .i64 n)
def bool(b:Bool):AV:=.v (.bool b)
def ae2(l):ByteArray.mk l.toArray=bs l:=rfl
def Bi(l):(bs l).size=l.length:=rfl
def ae1(a b):bs a++bs b=bs (a++b):=by apply ByteArray.ext;rw[ByteArray.data_append];simp[bs]
def Nk(l)(i j):(bs l).extract i j=bs ((l.take j).drop i):=by apply ByteArray.ext;rw[ByteArray.data_extract];simp[bs,List.extract_eq_take_drop,List.drop_take]
def xe{α β}{P}(m)(f:α->Sem β):fZ P (m>>=f)=(fZ P m).bind λa=>fZ P (f a):=by
 show fZ P (m.bind f)=_
 induction m with
 |pure a=>rfl|program k ih=>simp only[Sem.bind,fZ];exact ih _|mark m k ih=>simp only[Sem.bind,fZ];exact ih|_=>rfl
section
variable {P:bK} {t:aK} {x y:bT} {k:tQ} {a b:Int}
def rP{op:BinOp}{v:aR}(h:fZ P (binOp op t (.int k a) (.int k b))=aa v):cZ P op t x y (.v (.int k a)) (.v (.int k b))=oG v:=by
 have hg:fZ P (eqGuard op t x y (.int k a) (.int k b))=aa ():=by cases op<;>rfl
 show(fZ P (do eqGuard op t x y (.int k a) (.int k b);binOp op t (.int k a) (.int k b))).bind oG=_;rw[xe,hg];simp only[pq,h]
def Ty:cZ P .add t x y (.v (.int k a)) (.v (.int k b))=aa (.v (.int k (k.wrap (a+b)))):=rP (v:=.int k (k.wrap (a+b))) (by simp[binOp,Op.intArith];rfl)
def aev:cZ P .sub t x y (.v (.int k a)) (.v (.int k b))=aa (.v (.int k (k.wrap (a - b)))):=rP (v:=.int k (k.wrap (a - b))) (by simp[binOp,Op.intArith];rfl)
def aem:cZ P .mul t x y (.v (.int k a)) (.v (.int k b))=aa (.v (.int k (k.wrap (a * b)))):=rP (v:=.int k (k.wrap (a * b))) (by simp[binOp,Op.intArith];rfl)
def aep(h:b≠0):cZ P .quo t x y (.v (.int k a)) (.v (.int k b))=aa (.v (.int k (k.wrap (a.tdiv b)))):=rP (v:=.int k (k.wrap (a.tdiv b))) (by simp[binOp,Op.intDiv,h];rfl)
def aer(h:b≠0):cZ P .rem t x y (.v (.int k a)) (.v (.int k b))=aa (.v (.int k (a.tmod b))):=rP (v:=.int k (a.tmod b)) (by simp[binOp,Op.intDiv,h];rfl)
def aeh:cZ P .eql t x y (.v (.int k a)) (.v (.int k b))=aa (.v (.bool (decide (a=b)))):=rP (v:=.bool (decide (a=b))) (by
 have:(a==b)=decide (a=b):=by rw[Fk];simp
 simp[binOp,Op.intCmp,this];rfl)
def aen:cZ P .neq t x y (.v (.int k a)) (.v (.int k b))=aa (.v (.bool (!decide (a=b)))):=rP (v:=.bool (!decide (a=b))) (by
 have:(a !=b)= !decide (a=b):=by rw[Fk];simp
 simp[binOp,Op.intCmp,this];rfl)
def ael:cZ P .lss t x y (.v (.int k a)) (.v (.int k b))=aa (.v (.bool (decide (a<b)))):=rP (v:=.bool (decide (a<b))) (by simp[binOp,Op.intCmp];rfl)
def aek:cZ P .leq t x y (.v (.int k a)) (.v (.int k b))=aa (.v (.bool (decide (a<=b)))):=rP (v:=.bool (decide (a<=b))) (by simp[binOp,Op.intCmp];rfl)
def aej:cZ P .gtr t x y (.v (.int k a)) (.v (.int k b))=aa (.v (.bool (decide (b<a)))):=rP (v:=.bool (decide (b<a))) (by simp[binOp,Op.intCmp];rfl)
def aei:cZ P .geq t x y (.v (.int k a)) (.v (.int k b))=aa (.v (.bool (decide (b<=a)))):=rP (v:=.bool (decide (b<=a))) (by simp[binOp,Op.intCmp];rfl)
def aet{p q:List UInt8}:cZ P .eql t x y (.v (.string (bs p))) (.v (.string (bs q)))=aa (.v (.bool (decide (p=q)))):=by show aa (AV.v (.bool (p==q)))=_;rw[Fk.2 (by simp:(p==q)=ai↔decide (p=q)=ai)]
def aeu{p q:List UInt8}:cZ P .neq t x y (.v (.string (bs p))) (.v (.string (bs q)))=aa (.v (.bool (!decide (p=q)))):=by show aa (AV.v (.bool (!(p==q))))=_;rw[Fk.2 (by simp:(p==q)=ai↔decide (p=q)=ai)]
def aes{p q:List UInt8}(h:p.length+q.length<=9223372036854775807):cZ P .add t x y (.v (.string (bs p))) (.v (.string (bs q)))=aa (.v (.string (bs (p++q)))):=by show(if (bs p).size+(bs q).size<=9223372036854775807 then aa (AV.v (.string (bs p++bs q))) else ar)=_;rw[Bi,Bi,aG h,ae1]
def atM{c:Bool}:CF P .not (.v (.bool c))=aa (.v (.bool (!c))):=rfl
def atL:CF P .neg (.v (.int k a))=aa (.v (.int k (k.wrap (0 - a)))):=rfl
def XW{s:ByteArray}(hu:P.underlying t=aa .string):dW P t (.v (.string s))=aa (.v (.int .i64 s.size)):=by unfold dW;rw[hu]
def PW{e:aK}{tk:Tok}{sz:Nat}{es:List (List AV)}(hu:P.underlying t=aa (.slice e)):dW P t (.list tk sz es)=aa (.v (.int .i64 es.length)):=by unfold dW;rw[hu]
def PV{e:aK}{b o l c:Nat}(hu:P.underlying t=aa (.slice e)):dW P t (.arr b o l c)=aa (.v (.int .i64 l)):=by unfold dW;rw[hu]
def akd{l:List UInt8}(hu:P.underlying t=aa .string)(h0:0<=a)(h1:a<l.length):Ck P t (.v (.string (bs l))) (.v (.int k a))=aa (.v (.int .u8 (l.getD a.toNat 0).toNat)):=by
 unfold Ck;rw[hu];have aB:a.toNat<l.length:=by omega
 simp only[aG h0,bs,jt,aT aB];simp[aB]
def amM{c}{u v}:KO (.v (.bool c)) u v=aa (if c=ai then u else v):=by cases c<;>rfl
def gF(h0: -9223372036854775808<=a)(h1:a<=9223372036854775807):IntKind.i64.wrap a=a:=by rw[IntKind.wrap_i64];omega
def NM(h0:0<=a)(h1:a<=255):IntKind.u8.wrap a=a:=by rw[IntKind.wrap_u8];omega
end
end Go.AE
end
section
namespace Go.AE
open Go.RowKit (Below)
def aY.init(W:cB):aY:={base:=W.heap.size,ic:=λg j=>W.cell? ⟨g,j,ar⟩,β:=[],γ:=[],tn:=0,tk:=λ_=>(0,0,0),md:=[],lb:=λ_=>ar}
def ao.init:ao:=⟨[],[],0,[]⟩
def ar5{G}{ok}(W)(hG:∀g cs,G g=aa cs->∃cells,aS (aY.init W) cs cells/\∀(j:Nat) (c:aR),cells[j]?=aa c->W.cell? ⟨g,j,ar⟩=aa c):
 bW (aY.init W) G ok W ao.init W:=by
 refine⟨.refl _ _,aM _,λg j c h=>h,hG,rfl,λb b' g h=>?_,λb g cs h=>?_,rfl,λb b' g h=>?_,λl g r h=>?_,rfl,λt ht=>?_,λt t' ht=>?_,λr hr=>?_,rfl⟩
 ·simp[aY.init] at h
 ·simp[aY.init] at h
 ·simp[aY.init] at h
 ·simp[aY.init] at h
 ·simp[alive,ao.init] at ht
 ·simp[alive,ao.init] at ht
 ·simp[aY.init] at hr
def CE(P:bK):Nat->List Field->Nat->Bool
 |off,[],total=>jG off total
 |off,f::fs,total=>jG f.offset off&&CE P (off+P.cellsOf f.type) fs total
def KI(P:bK):Nat->aK->Bool
 |0,_=>az
 |n+1,t=>
  match P.underlying t with
  |some .bool|some (.int _)|some .string=>ai
  |some (.slice e)=>KI P n e&&decide (0<P.cellsOf e)
  |some (.struct fs)=>CE P 0 fs.toList (P.cellsOf t)&&fs.toList.all λf=>KI P n f.type
  |some (.array m e)=>jG (P.cellsOf t) (m * P.cellsOf e)&&KI P n e
  |_=>az
inductive Has {H:Type} (P:bK):aK->List AV->DataW H->Prop
 |bool {t:aK} (hu:P.underlying t=aa .bool) (b:Bool):Has P t [.v (.bool b)] (.lit (.bool b))
 |int {t:aK} {k:tQ} (hu:P.underlying t=aa (.int k)) (n:Int) (hn:(Lit.int k n).wf=ai):Has P t [.v (.int k n)] (.lit (.int k n))
 |str {t:aK} (hu:P.underlying t=aa .string) (s:ByteArray) (hs:s.size<=maxLen):Has P t [.v (.string s)] (.lit (.string s.data.toList))
 |none {t e:aK} (hu:P.underlying t=aa (.slice e)):Has P t [.list .nil (P.cellsOf e) []] .nil
 |list {t e:aK} (hu:P.underlying t=aa (.slice e)) (k:Tok) (es:List (List AV)) (ds sp:List (DataW H)) (hk:k=.held∨(k=.tight/\es=[])) (hl:es.length<=maxLen) (hd:ds.length=es.length)
  (he:∀(i:Nat) (r:List AV) (d:DataW H),es[i]?=aa r->ds[i]?=aa d->Has P e r d) (hs:∀r∈es,r.length=P.cellsOf e):Has P t [.list k (P.cellsOf e) es] (.slice ds sp)
 |struct {t:aK} {fs:Array Field} (hu:P.underlying t=aa (.struct fs)) (xs:List AV) (ds:List (DataW H)) (hl:xs.length=P.cellsOf t) (hd:ds.length=fs.size)
  (hf:∀(i:Nat) (f:Field) (d:DataW H),fs[i]?=aa f->ds[i]?=aa d->Has P f.type ((xs.drop f.offset).take (P.cellsOf f.type)) d):Has P t xs (.agg ds)
 |array {t e:aK} {n:Nat} (hu:P.underlying t=aa (.array n e)) (xs:List AV) (ds:List (DataW H)) (hl:xs.length=P.cellsOf t) (hd:ds.length=n)
  (he:∀(i:Nat) (d:DataW H),ds[i]?=aa d->Has P e ((xs.drop (i * P.cellsOf e)).take (P.cellsOf e)) d):Has P t xs (.agg ds)
section
variable {H:Type} {enc:aK × aR->H} {P:bK} {W:cB}
def Uf{a:Addr}{n:Nat}{vs:List aR}(h:W.cells? 0 a n=aa vs):vs.length=n/\∀j,j<n->W.cell? (a.add j)=vs[j]?:=by unfold World.cells? at h;rw[aG (cG _)] at h;refine⟨by simpa using mapM_some_length h,λj hj=>mapM_some_get h j j (by simp[hj])⟩
def aso{a:Addr}{v:aR}(h:W.cell? a=aa v):a.spot=ar:=by
 unfold World.cell? at h;split at h
 ·cases hs:a.spot with|none=>rfl|some s=>rw[hs] at h;simp at h
 ·cases h
def ahO{α:Type}{sz}:∀{es:List (List α)},(∀r∈es,r.length=sz)->∀(i j:Nat),j<sz->es.flatten[i * sz+j]?=(es[i]?).bind (·[j]?):=by
 intro es
 induction es with
 |nil=>intro _ i j _;simp|cons r es ih=>
  intro hr i j hj;have h1:r.length=sz:=hr r gj;cases i with|zero=>simp[List.getElem?_append_left (by omega:j<r.length)]|succ i=>rw[List.flatten_cons,List.getElem?_append_right (by rw[h1,gI];omega),h1];have:(i+1) * sz+j - sz=i * sz+j:=(by rw[gI];omega);rw[this,ih (λr hm=>hr r (fN _ hm)) i j hj];simp
end
end Go.AE
end
section
namespace Go.AE
open Go.RowKit Go.WideShapes Go.ChangeShapes
def lM{H:Type}(P:bK)(t:aK)(x:AV)(d:DataW H):Prop:=
 match P.underlying t with
 |some (.struct _)|some (.array _ _)=>∃cs,x=.agg cs/\Has P t cs d
 |_=>Has P t [x] d
def tR{H:Type}(P:bK):List aK->List AV->List (DataW H)->Prop
 | [],[],[]=>True
 |t::ts,x::xs,d::ds=>lM P t x d/\tR P ts xs ds
 |_,_,_=>False
section
variable {H:Type} {enc:aK × aR->H} {P:bK} {W:cB}
def adP(hl:laidOutB P=ai){W':cB}{sp:Nat->Bool}:∀{ts:List aK} {vs:List aR} {ds:List (DataW H)} {p:List MemPlace},DataW.TrodAll enc P W 0 (λ_=>ai) ai ts vs ds p->
 (∀t∈ts,P.readableRec t=true/\t<P.types.size)->(∀x∈p,W.sameAt W' x)->(∀x∈p,sp x.block=true)->DataW.TrodAll enc P W' 0 sp true ts vs ds p:=by
 intro ts
 induction ts with
 |nil=>intro vs ds p h _ _ _;obtain⟨rfl,rfl,rfl⟩:=trodAll_nil h;exact trodAll_mk0
 |cons t ts ih=>
  intro vs ds p h hr hs lH;obtain⟨v,vs',d,ds',p1,q1,rfl,rfl,rfl,h1,h2⟩:=trodAll_cons h;exact trodAll_cons_mk (WideElems.Trod_stays hl (hr t gj).1 (hr t gj).2 h1 (λx hx=>hs x (Sw _ hx)) (λx hx=>lH x (Sw _ hx)))
   (ih h2 (λt ht=>hr t (fN _ ht)) (λx hx=>hs x (acd _ hx)) (λx hx=>lH x (acd _ hx)))
def am7{f:Func}{s:ChangeSpec}{apart fresh handsOn again:Bool}{W W':cB}{args:Array aR}{v:aR}{ds gs:List (DataW H)}{before pa pv:List MemPlace}
 (hW:DataW.Whole enc P f.params.toList s.vars apart W args.toList ds gs before)
 (gG:∀(b:Nat) (sp:Nat->Bool) (hd:Bool),DataW.TrodAll enc P W' b sp hd f.resultTypes.toList (v.resultList f.resultTypes.size) (s.fn H (ds++gs)).results [])
 (wI:∀sp:Nat->Bool,(∀p∈before,sp p.block=ai)->DataW.TrodAll enc P W' 0 sp ai f.params.toList args.toList (s.fn H (ds++gs)).args pa)
 (Hj:∀sp:Nat->Bool,(∀p∈before,sp p.block=ai)->DataW.TrodVars enc P W' sp s.vars (s.fn H (ds++gs)).vars pv)
 (yB:before=pa++pv) (hb:Below W.heap.size W W')
 (bJ:∀(j:Nat) (t:aK) (r:aR),f.resultTypes[j]?=aa t->(v.resultList f.resultTypes.size)[j]?=aa r->Value.okWide P W' .any 0 t r):
 s.post enc P f apart fresh handsOn again W args v W':=by
 have aB:∀p∈before,p.block<W.heap.size:=λp hp=>hW.lt p hp;have hold:∀p∈before,(λb=>decide (b<W.heap.size)) p.block=ai:=λp hp=>by simpa using aB p hp
 refine⟨ds,gs,before,[],pa,pv,hW,gG _ _ _,wI _ hold,Hj _ hold,World.keptBut_mono (λp hp=>⟨hp,?_⟩) (hb.frame (·∈before)),λ_=>?_⟩
 ·rw[yB,vX] at hp;exact Or.inr hp
 ·obtain⟨_,_,_,_,_,hz,hn⟩:=hW;refine⟨bJ,_,_,([]++pa)++pv,⟨[]++pa,pv,trodAll_append (wI _ (λ_ _=>rfl)) (gG _ _ _),Hj _ (λ_ _=>rfl),rfl,?_,?_⟩,?_⟩
  ·intro b off hp;have iR:MemPlace.cell b off∈before:=(by rw[yB];simpa using hp);rw[hb.frozen (aB _ iR)];exact hz b off iR
  ·intro ha;have:=hn ha;rw[yB] at this;simpa using this
  ·intro p hp _;rw[yB];simpa using hp
structure auU(P:bK)(f:bm)(fn:Func)(tb:aK):Prop where
 func:P.funcs[f]?=aa fn
 laid:laidOutB P=ai
 pU:∀t∈fn.params.toList,KI P 9 t=ai/\P.readableRec t=ai/\t<P.types.size
 res:fn.resultTypes=#[tb]
 bool:P.underlying tb=aa .bool
variable {G:Nat->Option (List AV)} {aN:bm->Option (List AV->ao->Option (AV × ao))}
end
end Go.AE
end
section
namespace Go.AE
open Go.RowKit (Below)
section
variable {K:aY} {G:Nat->Option (List AV)} {ok:bm->Nat->Code->Bool} {w0 w w':cB} {h:ao}
def bW.grown(s:bW K G ok w0 h w)(hb:Below w.heap.size w w'):bW K G ok w0 h w':=by
 have hk:∀{k:Nat} {o:Obj},w.heap[k]?=aa o->w'.heap[k]?=aa o:=λhk=>(hb.block _ (oE hk)).trans hk;refine⟨s.dh.trans (hb.mono s.size),fJ s.size hb.size,λg j c hg=>?_,s.eR,s.lL,s.pW,λb g cs iA hc=>?_,s.oa,s.qI,λl g r hl hr=>?_,s.tn,λt ht=>?_,s.pT,λr hr=>?_,s.all⟩
 ·rw[<-s.ic g j c hg];exact World.cell?_of_block (w:=w) (hb.block g (s.Ay hg))
 ·obtain⟨h1,h2,ha,cells,e,h3,h4⟩:=s.box b g cs iA hc;exact⟨h1,h2,ha,cells,e,hk h3,h4⟩
 ·obtain⟨h1,fn,tmps,d,h2,h3⟩:=s.loop l g r hl hr;exact⟨h1,fn,tmps,d,hk h2,h3⟩
 ·obtain⟨h1,h2,h3,cells,e,fz,h4,h5,h6⟩:=s.tok t ht;refine⟨h1,h2,h3,cells,e,fz,hk h4,h5,λj hj hl=>?_⟩;rw[<-h6 j hj hl];exact World.frozen?_of_block (w:=w) (hb.block _ (oE h4))
 ·exact⟨(s.md r hr).1,hk (s.md r hr).2⟩
end
end Go.AE
end
section
namespace Go.AE
def ao.push(h:ao)(cs:List AV):ao:={h with boxes:=h.boxes++[cs]}
def ao.put(h:ao)(b:Nat)(cs:List AV):ao:={h with boxes:=h.boxes.set b cs}
def bB(h:ao)(cs):h.box cs=(.ptr (.box h.boxes.length) 0,h.push cs):=rfl
def cX(h:ao)(cs):(h.push cs).boxes.length=h.boxes.length+1:=by simp[ao.push]
def bh(h:ao)(cs):(h.push cs).boxes[h.boxes.length]?=aa cs:=by simp[ao.push]
def bA{h:ao}{cs ds}{b:Nat}(hb:h.boxes[b]?=aa ds):(h.push cs).boxes[b]?=aa ds:=u0 hb
def eP{h:ao}{cs}{b}(hb:b<h.boxes.length):(h.put b cs).boxes[b]?=aa cs:=by simp[ao.put,hb]
def dg{h:ao}{cs}{b c}(hb:c≠b):(h.put b cs).boxes[c]?=h.boxes[c]?:=by simp[ao.put,mA,Ne.symm hb]
def mP(h:ao)(b)(cs):(h.put b cs).boxes.length=h.boxes.length:=by simp[ao.put]
def cO(h:ao):Bool:=h.dead.all λn=>decide (n<h.tn)
structure Ext(h h':ao):Prop where
 box:∀(b:Nat) (cs:List AV),h.boxes[b]?=aa cs->h'.boxes[b]?=aa cs
 loop:∀(l:Nat) (r:iN),h.loops[l]?=aa r->h'.loops[l]?=aa r
 tn:h.tn<=h'.tn
 dead:∀n,n<h.tn->n∈h'.dead->n∈h.dead
 ok:cO h=ai->cO h'=ai
def Ext.refl(h):Ext h h:=⟨λ_ _ h=>h,λ_ _ h=>h,aM _,λ_ _ h=>h,λh=>h⟩
def Ext.trans{a b c}(h:Ext a b)(k:Ext b c):Ext a c:=
 ⟨λi cs hb=>k.box i cs (h.box i cs hb),λl r hl=>k.loop l r (h.loop l r hl),fJ h.tn k.tn,λn hn hd=>h.dead n hn (k.dead n (mU hn h.tn) hd),λho=>k.ok (h.ok ho)⟩
def Ext.push(h)(cs):Ext h (h.push cs):=⟨λ_ _ hb=>bA hb,λ_ _ h=>h,aM _,λ_ _ h=>h,λh=>h⟩
def Ext.fresh(h)(sz)(es):Ext h (h.fresh sz es).2:=⟨λ_ _ hb=>hb,λ_ _ h=>h,FV _,λ_ _ h=>h,λho=>by
 unfold cO at *
 simp only[ao.fresh,ej,decide_eq_true_eq] at *
 exactλn hn=>cz (vZ (ho n hn))⟩
def Ext.alive{h h'}(x:Ext h h'){n}(ha:alive h n=ai):alive h' n=ai:=by
 unfold AE.alive at *
 simp only[bL,decide_eq_true_eq,Bool.not_eq_true',List.contains_eq_mem,decide_eq_false_iff_not] at *
 exact⟨mU ha.1 x.tn,λhd=>ha.2 (x.dead n ha.1 hd)⟩
def Ext.len{h h'}(x:Ext h h'):h.boxes.length<=h'.boxes.length:=by
 rcases dV h'.boxes.length h.boxes.length with aB|ec
 ·have h1:=x.box h'.boxes.length _ (aT aB);have:=(aV.1 h1).1;omega
 ·exact ec
noncomputable def Ol(R:Rec)(g:bm)(args:List AV)(h:ao):ao:=
 match R.call g args h with
 |some (_,h')=>h'
 |none=>h
def ajb{R}{g}{args}{h h'}{r}(hc:R.call g args h=aa (r,h')):Ol R g args h=h':=by unfold Ol;rw[hc]
def SP(R:Rec)(g:bm)(args:List AV)(h:ao)(r:eX):Prop:=∃h',R.call g args h=aa (r,h')/\Ext h h'
def SP.ext{R}{g}{args}{h}{r}(hs:SP R g args h r):Ext h (Ol R g args h):=by obtain⟨h',h1,h2⟩:=hs;rw[ajb h1];exact h2
def zS(P:bK)(G:Nat->Option (List AV))(R:Rec)(fn:Func)(r:eX)(Post:ao->Prop):Xt->Env->ao->Prop:=λo e h=>∃h',xZ P G R fn r h' o e h/\Post h'
def ahk{P}{G}{R}{fn}{r}{Post}{e}{h}:zS P G R fn r Post .normal e h=∃h',ij P G R fn e e.defers ar h=aa (r,h')/\Post h':=rfl
def ahm{P}{G}{R}{fn}{r}{Post}{e}{h}:zS P G R fn r Post .ret e h=∃h',ij P G R fn e e.defers ar h=aa (r,h')/\Post h':=rfl
def ahl{P}{G}{R}{fn}{r}{Post}{e}{h}{x}:zS P G R fn r Post (.panic x) e h=∃h',ij P G R fn e e.defers (aa (x,az)) h=aa (r,h')/\Post h':=rfl
def iu{P}{G}{aN}{g}{fn}{body}{args}{r}{h}{Post}(hp:aN g=ar)(hY:P.funcs[g]?=aa fn)(hb:fn.body=aa body)
 (hr:bM (whole P G aN) body (Env.start args ar) h (zS P G (whole P G aN) fn r Post)):∃h',(whole P G aN).call g args h=aa (r,h')/\Post h':=by
 obtain⟨o,e1,h1,h2,h',h3,h4⟩:=hr;exact⟨h',cL hp hY hb ⟨o,e1,h1,h2,h3⟩,h4⟩
section
variable {P:bK} {G:Nat->Option (List AV)} {h:ao} {t:aK} {b off n:Nat} {cs:List AV}
def mw(ha:gU P t=aa az)(hb:h.boxes[b]?=aa cs):aI P G h t (.ptr (.box b) off)=(cs.drop off).head?:=by unfold aI Bl QL;simp only[ha,hb,eW]
def iC(ha:gU P t=aa ai)(hs:dC P t=aa n)(hb:h.boxes[b]?=aa cs)(hl:off+n<=cs.length):aI P G h t (.ptr (.box b) off)=aa (.agg ((cs.drop off).take n)):=by unfold aI Bl QL;simp only[ha,hb,hs,eW];rw[aG (by simp;omega)]
def rm{sz i:Nat}{es:List (List AV)}{row:List AV}(ha:gU P t=aa az)(hb:es[i]?=aa row):aI P G h t (.elem sz es i off)=(row.drop off).head?:=by unfold aI Bl;simp only[ha,hb,eW]
def Kw{sz i:Nat}{es:List (List AV)}{row:List AV}(ha:gU P t=aa ai)(hs:dC P t=aa n)(hb:es[i]?=aa row)(hl:off+n<=row.length):aI P G h t (.elem sz es i off)=aa (.agg ((row.drop off).take n)):=by unfold aI Bl;simp only[ha,hb,hs,eW];rw[aG (by simp;omega)]
def a9{e:aK}{k:Tok}{kk:tQ}{sz:Nat}{es:List (List AV)}{a:Int}(hu:P.underlying t=aa (.slice e))(hs:dC P e=aa sz)(h0:0<=a)(h1:a<es.length):dG P t (.list k sz es) (.v (.int kk a))=aa (.elem sz es a.toNat 0):=by unfold dG;rw[hu];simp only;rw[aG ⟨h0,h1,hs⟩]
def Ep{e:aK}{kk:tQ}{bb o l c sz:Nat}{a:Int}(hu:P.underlying t=aa (.slice e))(hs:dC P e=aa sz)(h0:0<=a)(h1:a<l):dG P t (.arr bb o l c) (.v (.int kk a))=aa (.ptr (.box bb) (o+a.toNat * sz)):=by unfold dG;rw[hu];simp only[hs];rw[aG ⟨h0,h1⟩]
def ig{x:AV}{xs:List AV}(hx:x.cD=aa xs)(hs:dC P t=aa n)(hb:h.boxes[b]?=aa cs)(hn:xs.length=n)(hl:off+n<=cs.length):cI P h t (.ptr (.box b) off) x=aa (h.put b (eT cs off xs)):=by unfold cI;simp only[hx,hs,hb];rw[aG ⟨hn,hl⟩];rfl
def pg(h:ao)(z cs):(h.push z).put h.boxes.length cs=h.push cs:=by simp[ao.push,ao.put,List.set_append_right]
def xz{z xs}(hl:xs.length=z.length):eT z 0 xs=xs:=by simp[eT,hl]
def l9{x:AV}{xs z:List AV}(hx:x.cD=aa xs)(hs:dC P t=aa n)(hn:xs.length=n)(hz:z.length=n):cI P (h.push z) t (.ptr (.box h.boxes.length) 0) x=aa (h.push xs):=by rw[ig hx hs (bh h z) hn ah,xz ah,pg]
end
end Go.AE
end
section
namespace Go.AE
section
variable {P:bK} {G:Nat->Option (List AV)} {R:Rec}
def amc(ops:Array Oper):∀(n i:Nat),i+n<=ops.size->∀(e:Env) (h:ao),di P G R ops (ace i n) e h=qC P G R ops ((ops.toList.drop i).take n) e h:=by
 intro n
 induction n with
 |zero=>intro i hi e h;rfl|succ n ih=>
  intro i hi e h;have aB:i<ops.size:=by omega
  have ho:ops[i]?=aa ops[i]:=mz aB;rw[acf,xP (by simpa using aB),List.take_succ_cons];simp only[di,qC,ho,abj];cases ff ops e ops[i] with
  |none=>rfl|some b=>
   cases b with
   |false=>exact ih (i+1) ah _ _|true=>
    simp only;cases eo P G R e h ops[i] with
    |none=>rfl|some q=>
     obtain⟨r,e1,h1⟩:=q;cases r with|ret x=>exact ih (i+1) ah _ _|panic x=>rfl
def sI{ops:Array Oper}{m:Nat}(hm:m<=ops.size)(e:Env)(h:ao):di P G R ops (bR m) e h=qC P G R ops (ops.toList.take m) e h:=by rw[Mw,amc ops m 0 ah];rfl
def DF(ops:Array Oper)(cs:List Nat)(ps:List (Nat × Nat)):Bool:=
 let b:=Region.before ops
 Bf ops b&&(bR ops.size).all λj=>(bR j).all λi=>(b.getD j 0).testBit i||yW ops i j||ps.contains (i,j)||(pD ops i j&&(cs.contains i||cs.contains j))
def NK{ops:Array Oper}{cs:List Nat}{ps:List (Nat × Nat)}{e:Env}{h:ao}(hd:DF ops cs ps=ai)(hc:∀k∈cs,zP P G R ops e h k)(hs:∀p∈ps,l8 P G R ops e h p.1 p.2=ai):mH P G R ops e h=ai:=by
 unfold DF at hd;unfold mH;simp only[bL,ej,gB,uH] at hd ⊢;refine⟨hd.1,λj hj i hi=>?_⟩;rcases hd.2 j hj i hi with((h1|h1)|h1)|⟨h1,h2⟩
 ·exact .inl (.inl (.inl h1))
 ·exact .inl (.inl (.inr h1))
 ·exact .inl (.inr (hs (i,j) (by simpa using h1)))
 ·exact .inr ⟨h1,h2.imp (λq=>Gc.2 (hc i (by simpa using q))) (λq=>Gc.2 (hc j (by simpa using q)))⟩
def Dx{ops:Array Oper}{e:Env}{h:ao}{k:Nat}{o:Oper}{c:Call}{x:AV}(ho:ops[k]?=aa o)(bU:o.op=.call c)
 (h1:cP P G R ops (ops.toList.take k) e h (λq er _=>q=.normal/\∀hm,mb P R er hm c=aa (.ret x,hm)))
 (h2:cP P G R ops ops.toList e h (λq _ _=>q=.normal)):zP P G R ops e h k:=by
 have hk:k<ops.size:=(Array.getElem?_eq_some_iff.1 ho).1;obtain⟨q1,er,hr,e1,rfl,e2⟩:=h1;obtain⟨q2,en,hn,f1,rfl⟩:=h2;rw[<-sI ah] at e1;have eH:di P G R ops (bR ops.size) e h=aa (.normal,en,hn):=by rw[sI (aM _),<-Array.length_toList,fI];exact f1
 obtain⟨-,tr,-⟩:=trace eH;refine⟨o,x,er,hr,ho,?_,e1,λm hm=>⟨_,_,tr m hm,afb bU (e2 _)⟩⟩;have ai1:∀b,c.callee≠ .builtin b:=λb hb=>by have:=e2 hr;unfold mb at this;rw[hb] at this;cases this
 rw[bU];obtain⟨callee,args,ts⟩:=c;cases callee with|builtin b=>exact absurd rfl (ai1 b)|value f=>rfl|invoke r n=>rfl
def AP{ops:Array Oper}{e:Env}{h:ao}{i j:Nat}{o:Oper}{t:aK}{a:bT}(ud:pD ops i j=ai)(ho:ops[i]?=aa o)(bU:o.op=.load t a)(hg:o.guard=ar)
 (hj:(ops[j]?).map (λo=>jD o.op)=aa .acts) {x v:AV} (hv:fe v v=ai)
 (h1:cP P G R ops (ops.toList.take i) e h (λq er hr=>q=.normal/\er.eval a=x/\aI P G hr t x=aa v))
 (h2:cP P G R ops (ops.toList.take (j+1)) e h (λq _ hm=>q=.normal/\aI P G hm t x=aa v)):l8 P G R ops e h i j=ai:=by
 have hi:i<ops.size:=by
  rcases dV i ops.size with hh|hh
  ·exact hh
  ·rw[xE hh] at ho;cases ho
 have OF:j<ops.size:=by
  rcases dV j ops.size with hh|hh
  ·exact hh
  ·rw[xE hh] at hj;cases hj
 have hc:(ops[i]?).map (λo=>jD o.op)=aa .reads:=by rw[ho];simp only[eW,bU];rfl
 unfold l8;rw[ud,hc,hj];simp only[oc];unfold pR;rw[ho,sI ah,sI ah];obtain⟨q1,er,hr,e1,rfl,e2,e3⟩:=h1;obtain⟨q2,em,hm,f1,rfl,f2⟩:=h2;rw[e1,f1];simp only[ff,hg,bU,e2,e3,f2,hv]
def rD{ops:Array Oper}{e:Env}{h:ao}{i j:Nat}{o:Oper}{t:aK}{a:bT}(ud:pD ops i j=ai)(ho:ops[j]?=aa o)(bU:o.op=.load t a)(hg:o.guard=ar)
 (hj:(ops[i]?).map (λo=>jD o.op)=aa .acts) {x v:AV} (hv:fe v v=ai)
 (h1:cP P G R ops (ops.toList.take j) e h (λq er hr=>q=.normal/\er.eval a=x/\aI P G hr t x=aa v))
 (h2:cP P G R ops (ops.toList.take i) e h (λq _ hm=>q=.normal/\aI P G hm t x=aa v)):l8 P G R ops e h i j=ai:=by
 have hi:i<ops.size:=by
  rcases dV i ops.size with hh|hh
  ·exact hh
  ·rw[xE hh] at hj;cases hj
 have OF:j<ops.size:=by
  rcases dV j ops.size with hh|hh
  ·exact hh
  ·rw[xE hh] at ho;cases ho
 have hc:(ops[j]?).map (λo=>jD o.op)=aa .reads:=by rw[ho];simp only[eW,bU];rfl
 unfold l8;rw[ud,hc,hj];simp only[oc];unfold pR;rw[ho,sI ah,sI ah];obtain⟨q1,er,hr,e1,rfl,e2,e3⟩:=h1;obtain⟨q2,em,hm,f1,rfl,f2⟩:=h2;rw[e1,f1];simp only[ff,hg,bU,e2,e3,f2,hv]
end
section
variable {P:bK} {G:Nat->Option (List AV)} {aN:bm->Option (List AV->ao->Option (AV × ao))} {Q:Xt->Env->ao->Prop} {e:Env} {h:ao}
def Rk{id:Nat}{ops:Array Oper}(cs:List Nat)(ps:List (Nat × Nat))(hd:DF ops cs ps=ai)(hc:∀k∈cs,zP P G (whole P G aN) ops e h k)(hs:∀p∈ps,l8 P G (whole P G aN) ops e h p.1 p.2=ai)
 (hr:cP P G (whole P G aN) ops ops.toList e h (xX Q)):bM (whole P G aN) (.region id ops ai) e h Q:=
 Rl (NK hd hc hs) hr
end
structure fT(b n0:Nat)(h h':ao):Prop where
 box:∀(c:Nat) (cs:List AV),c≠b->h.boxes[c]?=aa cs->h'.boxes[c]?=aa cs
 len:h.boxes.length<=h'.boxes.length
 loop:∀(l:Nat) (r:iN),h.loops[l]?=aa r->h'.loops[l]?=aa r
 tn:h.tn<=h'.tn
 dead:∀n,n<n0->n∈h'.dead->n∈h.dead
 ok:cO h=ai->cO h'=ai
def fT.refl(b n0)(h):fT b n0 h h:=⟨λ_ _ _ h=>h,aM _,λ_ _ h=>h,aM _,λ_ _ h=>h,λh=>h⟩
def fT.trans{b n0}{x y z}(h:fT b n0 x y)(k:fT b n0 y z):fT b n0 x z:=
 ⟨λi cs hi hb=>k.box i cs hi (h.box i cs hi hb),fJ h.len k.len,λl r hl=>k.loop l r (h.loop l r hl),fJ h.tn k.tn,λn hn hd=>h.dead n hn (k.dead n hn hd),λho=>k.ok (h.ok ho)⟩
def fT.EE{b n0}{h h'}(x:Ext h h')(hn:n0<=h.tn):fT b n0 h h':=
 ⟨λc cs _ hc=>x.box c cs hc,x.len,x.loop,x.tn,λn h1 h2=>x.dead n (mU h1 hn) h2,x.ok⟩
def fT.put(b n0)(h)(cs):fT b n0 h (h.put b cs):=
 ⟨λc ds hc hb=>by rw[dg hc];exact hb,by rw[mP];exact aM _,λ_ _ h=>h,aM _,λ_ _ h=>h,λh=>h⟩
def Ext.mut{b}{h0 h h'}(x:Ext h0 h)(m:fT b h0.tn h h')(hb:h0.boxes.length<=b):Ext h0 h':=
 ⟨λc cs hc=>by have aB:=(aV.1 hc).1;exact m.box c cs ah (x.box c cs hc),λl r hl=>m.loop l r (x.loop l r hl),fJ x.tn m.tn,λn hn hd=>x.dead n hn (m.dead n hn hd),λho=>m.ok (x.ok ho)⟩
def ao.app(h:ao)(k:Tok):ao:=
 match k with
 | .free n=>{h with dead:=n::h.dead,tn:=h.tn+1}
 |_=>{h with tn:=h.tn+1}
def eL(h:ao)(k):(h.app k).boxes=h.boxes:=by cases k<;>rfl
def zJ(h:ao)(k):(h.app k).loops=h.loops:=by cases k<;>rfl
def Dr(h:ao)(k):(h.app k).tn=h.tn+1:=by cases k<;>rfl
def dD(n0:Nat)(h:ao)(k:Tok):Prop:=k=.nil∨k=.tight∨∃n,k=.free n/\n0<=n/\alive h n=ai
def fT.app{b n0}{h}{k}(hk:dD n0 h k):fT b n0 h (h.app k):=by
 refine⟨λc cs _ hc=>by rw[eL];exact hc,by rw[eL];exact aM _,λl r hl=>by rw[zJ];exact hl,by rw[Dr];exact FV _,?_,?_⟩
 ·rcases hk with rfl|rfl|⟨m,rfl,hm,ha⟩
  ·exactλn _ hn=>hn
  ·exactλn _ hn=>hn
  ·intro n hn hd;rcases iq.1 hd with rfl|hd
   ·omega
   ·exact hd
 ·intro ho;have OK:∀n∈h.dead,n<h.tn+1:=λn hn=>by have:=ej.1 ho n hn;simp only[decide_eq_true_eq] at this;omega
  rcases hk with rfl|rfl|⟨m,rfl,hm,ha⟩
  ·exact ej.2 λn hn=>cz (OK n hn)
  ·exact ej.2 λn hn=>cz (OK n hn)
  ·refine ej.2 λn hn=>cz ?_;rcases iq.1 hn with rfl|hn
   ·unfold alive at ha;simp only[bL,decide_eq_true_eq] at ha;show n<h.tn+1;omega
   ·exact OK n hn
def Ext.app{h0 h}{k}(x:Ext h0 h)(hk:dD h0.tn h k):Ext h0 (h.app k):=by have m:=fT.app (b:=h.boxes.length) hk;exact x.mut m x.len
def adH{h}{k}(ho:cO h=ai)(hk:dD 0 h k):alive (h.app k) h.tn=ai:=by
 have ja:h.dead.contains h.tn=az:=by rw[Bool.eq_false_iff];intro hc;have:=ej.1 ho h.tn (by simpa using hc);simp at this
 unfold alive;rw[Dr];rcases hk with rfl|rfl|⟨m,rfl,-,ha⟩
 ·simp only[ao.app,ja];simp
 ·simp only[ao.app,ja];simp
 ·unfold alive at ha;simp only[bL,decide_eq_true_eq] at ha;have h1:¬(h.tn=m):=by omega
  have h2:¬(h.tn∈h.dead):=by simpa using ja
  simp[ao.app,h1,h2]
def dD.mono{n0}{h}{k}(hk:dD n0 h k){n1}(hn:n1<=n0):dD n1 h k:=by
 rcases hk with rfl|rfl|⟨m,rfl,hm,ha⟩
 ·exact .inl rfl
 ·exact .inr (.inl rfl)
 ·exact .inr (.inr ⟨m,rfl,by omega,ha⟩)
def dD.ext{n0}{h h'}{k}(hk:dD n0 h k)(x:Ext h h'):dD n0 h' k:=by
 rcases hk with rfl|rfl|⟨m,rfl,hm,ha⟩
 ·exact .inl rfl
 ·exact .inr (.inl rfl)
 ·exact .inr (.inr ⟨m,rfl,hm,x.alive ha⟩)
def dD.next{n0}{h}{k}(hk:dD n0 h k)(ho:cO h=ai)(hn:n0<=h.tn):dD n0 (h.app k) (.free h.tn):=
 .inr (.inr ⟨h.tn,rfl,hn,adH ho (hk.mono (cG _))⟩)
end Go.AE
end
section
namespace Go.AE
def tR.cons_inv{H}{P}{t}{ts}{xs}{ds:List (DataW H)}(h:tR P (t::ts) xs ds):∃x xs' d ds',xs=x::xs'/\ds=d::ds'/\lM P t x d/\tR P ts xs' ds':=by
 cases xs with
 |nil=>cases ds<;>exact h.elim
 |cons x xs=>
  cases ds with|nil=>exact h.elim|cons d ds=>exact⟨x,xs,d,ds,rfl,rfl,h.1,h.2⟩
def tR.alJ{H}{P}{xs}{ds:List (DataW H)}(h:tR P [] xs ds):xs=[]:=by
 cases xs with|nil=>rfl|cons x xs=>cases ds<;>exact h.elim
section
variable {P:bK} {t:aK} {x y:bT}
def Ze{d:TypeDesc}(hu:P.underlying t=aa d):fZ P (underlying t)=aa d:=by unfold underlying;simp only[xe];show(aa P).bind _=_;simp only[pq,hu];rfl
def aeg{a b:Bool}(hu:P.underlying t=aa .bool):cZ P .eql t x y (.v (.bool a)) (.v (.bool b))=aa (.v (.bool (a==b))):=by
 have h1:cZ P .eql t x y (.v (.bool a)) (.v (.bool b))=(fZ P (do eqGuard .eql t x y (.bool a) (.bool b);binOp .eql t (.bool a) (.bool b))).bind oG:=rfl;have h2:fZ P (eqGuard .eql t x y (.bool a) (.bool b))=aa ():=rfl;have h3:fZ P (Op.equal t (.bool a) (.bool b))=aa (a==b):=by unfold Op.equal Op.maxDepth Op.equalIn;rw[xe,Ze hu];rfl
 have h4:fZ P (binOp .eql t (.bool a) (.bool b))=aa (.bool (a==b)):=by show fZ P (do pure (Value.bool (<-Op.equal t (.bool a) (.bool b))))=_;rw[xe,h3];rfl
 rw[h1,xe,h2,pq,h4];rfl
def aeo{v:aR}{ms:Array (String × aK)}(hu:P.underlying t=aa (.interface ms)):cZ P .neq t x (.const v) (.v .nilIface) (.v .nilIface)=aa (.v (.bool az)):=by
 have h1:cZ P .neq t x (.const v) (.v .nilIface) (.v .nilIface)=(fZ P (do eqGuard .neq t x (.const v) .nilIface .nilIface;binOp .neq t .nilIface .nilIface)).bind oG:=rfl;have h2:fZ P (eqGuard .neq t x (.const v) .nilIface .nilIface)=aa ():=by cases x<;>rfl
 have h3:fZ P (Op.equal t .nilIface .nilIface)=aa ai:=by unfold Op.equal Op.maxDepth Op.equalIn;rw[xe,Ze hu];rfl
 have h4:fZ P (binOp .neq t .nilIface .nilIface)=aa (.bool az):=by show fZ P (do pure (Value.bool (!(<-Op.equal t .nilIface .nilIface))))=_;rw[xe,h3];rfl
 rw[h1,xe,h2,pq,h4];rfl
end
end Go.AE
end
section
namespace Go.AE
section
variable {h:ao} {cs:List AV} {b c:Nat} {k:Tok}
def ah5:(h.push cs).boxes[h.boxes.length]?=aa cs:=bh h cs
def nb(hc:c=h.boxes.length):(h.push cs).boxes[c]?=aa cs:=by subst hc;exact bh h cs
def JL(hc:c≠h.boxes.length):(h.push cs).boxes[c]?=h.boxes[c]?:=by
 unfold ao.push;simp only[List.getElem?_append];split
 ·rfl
 ·rename_i h1;rw[tS (by simp;omega),tS ah]
def ah6(hb:b<h.boxes.length):(h.put b cs).boxes[b]?=aa cs:=eP hb
def ah7(hc:c≠b):(h.put b cs).boxes[c]?=h.boxes[c]?:=dg hc
def ah4:(h.app k).boxes[c]?=h.boxes[c]?:=by rw[eL]
def XV:(h.app k).boxes.length=h.boxes.length:=by rw[eL]
end
def Dy{n0}{h}{cs}{k}:dD n0 (h.push cs) k=dD n0 h k:=rfl
def Dz{n0 b}{h}{cs}{k}:dD n0 (h.put b cs) k=dD n0 h k:=rfl
def Ext.gh{h h'}(x:Ext h h'){b}(hb:h.boxes.length<=b)(cs):Ext h (h'.put b cs):=by refine⟨λc ds hc=>?_,x.loop,x.tn,x.dead,x.ok⟩;have aB:c<h.boxes.length:=(aV.1 hc).1;rw[dg ah];exact x.box c ds hc
section
variable {P:bK} {G:Nat->Option (List AV)} {h:ao} {t:aK} {b off n:Nat} {cs:List AV}
def asZ{z:aR}(hs:dC P t=aa 1)(hb:h.boxes[b]?=aa cs)(hl:off+1<=cs.length):cI P h t (.ptr (.box b) off) (.v z)=aa (h.put b (eT cs off [.v z])):=ig rfl hs hb rfl hl
def asX{k:Tok}{sz:Nat}{es:List (List AV)}(hs:dC P t=aa 1)(hb:h.boxes[b]?=aa cs)(hl:off+1<=cs.length):cI P h t (.ptr (.box b) off) (.list k sz es)=aa (h.put b (eT cs off [.list k sz es])):=ig rfl hs hb rfl hl
def ase{l:List UInt8}{k k':tQ}{lo hi:Int}(hu:P.underlying t=aa .string)(h0:0<=lo)(h1:lo<=hi)(h2:hi<=l.length):
 gY P t (.v (.string (bs l))) (aa (.v (.int k lo))) (aa (.v (.int k' hi))) ar=aa (.v (.string (bs ((l.take hi.toNat).drop lo.toNat)))):=by
 unfold gY;simp only[Ba,xG,jW,if_false,hu,Bi];have e1:gE l.length (aa (AV.v (.int k' hi))) l.length=aa hi.toNat:=by unfold gE;simp only;rw[aG ⟨ah,h2⟩]
 have e2:gE hi.toNat (aa (AV.v (.int k lo))) 0=aa lo.toNat:=by unfold gE;simp only;rw[aG ⟨h0,by omega⟩]
 simp only[e1,e2,Nk]
def asf{l:List UInt8}{k:tQ}{lo:Int}(hu:P.underlying t=aa .string)(h0:0<=lo)(h1:lo<=l.length):
 gY P t (.v (.string (bs l))) (aa (.v (.int k lo))) ar ar=aa (.v (.string (bs (l.drop lo.toNat)))):=by
 unfold gY;simp only[Ba,xG,jW,if_false,hu,Bi];have e1:gE l.length ar l.length=aa l.length:=rfl;have e2:gE l.length (aa (AV.v (.int k lo))) 0=aa lo.toNat:=by unfold gE;simp only;rw[aG ⟨h0,h1⟩]
 simp only[e1,e2,Nk,fI]
def asg{l:List UInt8}{k':tQ}{hi:Int}(hu:P.underlying t=aa .string)(h0:0<=hi)(h2:hi<=l.length):
 gY P t (.v (.string (bs l))) ar (aa (.v (.int k' hi))) ar=aa (.v (.string (bs (l.take hi.toNat)))):=by
 unfold gY;simp only[Ba,xG,jW,if_false,hu,Bi];have e1:gE l.length (aa (AV.v (.int k' hi))) l.length=aa hi.toNat:=by unfold gE;simp only;rw[aG ⟨h0,h2⟩]
 have e2:gE hi.toNat ar 0=aa 0:=rfl;simp only[e1,e2,Nk,iX]
def alK{r:Ref}:Qd (.ptr r off)=aa (.ptr r off):=rfl
end
end Go.AE
end
section
namespace Go.AE
def Env.DE(e:Env)(d:bm × List AV):Env:={e with defers:=d::e.defers}
def Env.pn(e:Env)(p:Option (AV × Bool)):Env:={e with cV:=p}
section
variable {e:Env} {d:bm × List AV} {p:Option (AV × Bool)} {t:Nat}
def agS:(e.DE d).get t=e.get t:=rfl
def agR:(e.DE d).defers=d::e.defers:=rfl
def agT:(e.DE d).cV=e.cV:=rfl
def UI:(e.DE d).round=e.round:=rfl
def amQ:(e.pn p).get t=e.get t:=rfl
def amP:(e.pn p).defers=e.defers:=rfl
def amR:(e.pn p).cV=p:=rfl
def YX:(e.pn p).round=e.round:=rfl
end
def Sa(P:bK)(G:Nat->Option (List AV))(R:Rec)(ops:Array Oper)(rest:List Oper)(d:Option Tmp)(args:List AV)(e:Env)(h:ao)(Q:Xt->Env->ao->Prop)(x:AV):Prop:=
 match x with
 | .func (.func g) first aC=>cP P G R ops rest ((e.DE (g,first++args++aC)).put d (.tuple [])) h Q
 |_=>False
def MQ(P:bK)(G:Nat->Option (List AV))(R:Rec)(ops:Array Oper)(rest:List Oper)(d:Option Tmp)(e:Env)(h:ao)(Q:Xt->Env->ao->Prop)(p:Option (AV × Bool)):Prop:=
 match p with
 |some (x,az)=>cP P G R ops rest ((e.pn (aa (x,ai))).put d x) h Q
 |_=>cP P G R ops rest (e.put d (.v .nilIface)) h Q
section
variable {P:bK} {G:Nat->Option (List AV)} {R:Rec} {ops:Array Oper} {rest:List Oper} {e:Env} {h:ao} {Q:Xt->Env->ao->Prop} {d:Option Tmp} {ty:aK} {pos:String} {af:Array Edge}
def ao1{f:bT}{args:Array bT}{ts:Array aK}(hr:e.round=ar):cP P G R ops (⟨d,.defer {callee:=.value f,args,argTypes:=ts},ty,pos,af,ar⟩::rest) e h Q=Sa P G R ops rest d (args.toList.map e.eval) e h Q (e.eval f):=by
 rw[aq0 hr];generalize e.eval f=y;rcases y with _|_|_|_|_|_|_|_|⟨fn,a,b⟩|_|_
 case func=>cases fn<;>rfl
 all_goals rfl
def agQ{g:bm}{first aC args:List AV}:Sa P G R ops rest d args e h Q (.func (.func g) first aC)=cP P G R ops rest ((e.DE (g,first++args++aC)).put d (.tuple [])) h Q:=rfl
def aph{args:Array bT}{ts:Array aK}(hr:e.round=ar):cP P G R ops (⟨d,.call {callee:=.builtin .recover,args,argTypes:=ts},ty,pos,af,ar⟩::rest) e h Q=MQ P G R ops rest d e h Q e.cV:=by
 rw[aq4 hr];rcases hp:e.cV with _|⟨x,b⟩
 ·rfl
 ·cases b<;>rfl
def an0{x:AV}:MQ P G R ops rest d e h Q (aa (x,az))=cP P G R ops rest ((e.pn (aa (x,ai))).put d x) h Q:=rfl
def anZ:MQ P G R ops rest d e h Q ar=cP P G R ops rest (e.put d (.v .nilIface)) h Q:=rfl
def RR{fn:Func}{g:bm}{args:List AV}{ds:List (bm × List AV)}{x:AV}{h':ao}(hc:R.jR g args ar h=aa (.ret x,ar,h')):ij P G R fn e ((g,args)::ds) ar h=ij P G R fn e ds ar h':=by rw[ij,hc]
def atU{fn:Func}{g:bm}{args:List AV}{ds:List (bm × List AV)}{x y z:AV}{h':ao}(hc:R.jR g args (aa (y,az)) h=aa (.ret x,aa (z,ai),h')):ij P G R fn e ((g,args)::ds) (aa (y,az)) h=ij P G R fn e ds ar h':=by rw[ij,hc]
end
end Go.AE
end
section
namespace Go.AE
def Jy(P:bK)(G:Nat->Option (List AV))(R:Rec)(fn:Func)(Post:eX->ao->Prop):Xt->Env->ao->Prop:=λo e h=>∃r h',xZ P G R fn r h' o e h/\Post r h'
def ahe{P}{G}{R}{fn}{Post}{e}{h}:Jy P G R fn Post .normal e h=∃r h',ij P G R fn e e.defers ar h=aa (r,h')/\Post r h':=rfl
def ahg{P}{G}{R}{fn}{Post}{e}{h}:Jy P G R fn Post .ret e h=∃r h',ij P G R fn e e.defers ar h=aa (r,h')/\Post r h':=rfl
def ahf{P}{G}{R}{fn}{Post}{e}{h}{x}:Jy P G R fn Post (.panic x) e h=∃r h',ij P G R fn e e.defers (aa (x,az)) h=aa (r,h')/\Post r h':=rfl
def da{P}{G}{aN}{g}{fn}{body}{args}{h}{Post}(hp:aN g=ar)(hY:P.funcs[g]?=aa fn)(hb:fn.body=aa body)
 (hr:bM (whole P G aN) body (Env.start args ar) h (Jy P G (whole P G aN) fn Post)):∃r h',(whole P G aN).call g args h=aa (r,h')/\Post r h':=by
 obtain⟨o,e1,h1,h2,r,h',h3,h4⟩:=hr;exact⟨r,h',cL hp hY hb ⟨o,e1,h1,h2,h3⟩,h4⟩
end Go.AE
end
section
namespace Go.AE
section
variable {P:bK} {h:ao} {ts:Array aK} {ty:aK} {k:tQ} {a b:Int}
def Cq:jC P h .max ts ty [.v (.int k a),.v (.int k b)]=aa (.v (.int k (if a<b then b else a)),h):=by
 have h1:jC P h .max ts ty [.v (.int k a),.v (.int k b)]=((fZ P (Builtin.max_ ts ty #[.int k a,.int k b])).bind oG).map (·,h):=rfl;rw[h1];have h2:fZ P (Builtin.max_ ts ty #[.int k a,.int k b])=aa (.int k (if a<b then b else a)):=by simp[Builtin.max_,Builtin.max2];split<;>simp_all<;>rfl
 rw[h2];split<;>rfl
def Hz:jC P h .min ts ty [.v (.int k a),.v (.int k b)]=aa (.v (.int k (if b<a then b else a)),h):=by
 have h1:jC P h .min ts ty [.v (.int k a),.v (.int k b)]=((fZ P (Builtin.min_ ts ty #[.int k a,.int k b])).bind oG).map (·,h):=rfl;rw[h1];have h2:fZ P (Builtin.min_ ts ty #[.int k a,.int k b])=aa (.int k (if b<a then b else a)):=by simp[Builtin.min_,Builtin.min2];split<;>simp_all<;>rfl
 rw[h2];split<;>rfl
def akM{t:aK}{x:AV}:jC P h .len #[t] ty [x]=(dW P t x).map (·,h):=rfl
def Gd{t:aK}{x:AV}:jC P h .cap #[t] ty [x]=(DA P t x).map (·,h):=rfl
def append_eq{d:Option Tmp}{s x:AV}:rV P (λ_=>ar) d h .append ts ty [s,x]=gP P h ts s x:=rfl
def adL{G:Nat->Option (List AV)}{d:Option Tmp}{s x:AV}(ht:Iz G d ty=az):rV P G d h .append ts ty [s,x]=gP P h ts s x:=by unfold rV;simp only[ht,jW,if_false]
def adM{G:Nat->Option (List AV)}{d:Option Tmp}{s x:AV}(ht:Iz G d ty=ai):rV P G d h .append ts ty [s,x]=rF P h ts s x:=by unfold rV;simp only[ht,if_true]
def copy_eq{s x:AV}:jC P h .copy ts ty [s,x]=zQ P h ts s x:=rfl
end
end Go.AE
end
section
namespace Go.AE
section
variable {H:Type} {P:bK} {t e:aK} {cs xs:List AV} {x:AV} {d:DataW H}
def Has.Xw{k:tQ}(h:Has P t cs d)(hu:P.underlying t=aa (.int k)):∃n:Int,cs=[.v (.int k n)]/\k.min<=n/\n<=k.max:=by
 cases h with
 |int dt n hn=>rw[hu] at dt;injection dt with dt;injection dt with dt;subst dt;exact⟨n,rfl,by simpa [Lit.wf] using hn⟩
 |bool dt=>rw[hu] at dt;cases dt
 |str dt=>rw[hu] at dt;cases dt
 |none dt=>rw[hu] at dt;cases dt
 |list dt=>rw[hu] at dt;cases dt
 |struct dt=>rw[hu] at dt;cases dt
 |array dt=>rw[hu] at dt;cases dt
def Has.sF(h:Has P t cs d)(hu:P.underlying t=aa (.int .i64)):∃n:Int,cs=[.v (.int .i64 n)]/\ -9223372036854775808<=n/\n<=9223372036854775807:=by obtain⟨n,h1,h2,h3⟩:=h.Xw hu;simp[IntKind.min,IntKind.max,IntKind.signed,IntKind.bits] at h2 h3;exact⟨n,h1,h2,h3⟩
def Has.RP(h:Has P t cs d)(hu:P.underlying t=aa (.int .u8)):∃b:UInt8,cs=j8 b:=by
 obtain⟨n,h1,h2,h4⟩:=h.Xw hu;simp[IntKind.min,IntKind.max,IntKind.signed,IntKind.bits] at h2 h4;refine⟨UInt8.ofNat n.toNat,?_⟩;have h3:((UInt8.ofNat n.toNat).toNat:Int)=n:=by
  have:(UInt8.ofNat n.toNat).toNat=n.toNat:=by simp;omega
  rw[this];omega
 rw[h1,j8,h3]
def Has.CB(h:Has P t cs d)(hu:P.underlying t=aa (.slice e)):∃(k:Tok) (es:List (List AV)),cs=[.list k (P.cellsOf e) es]/\es.length<=maxLen/\(k=.nil∨k=.held∨(k=.tight/\es=[]))/\(k=.nil->es=[])/\
 ∀r∈es,r.length=P.cellsOf e/\∃d:DataW H,Has P e r d:=by
 cases h with
 |bool dt=>rw[hu] at dt;cases dt
 |int dt=>rw[hu] at dt;cases dt
 |str dt=>rw[hu] at dt;cases dt
 |none dt=>rw[hu] at dt;injection dt with dt;injection dt with dt;subst dt;exact⟨.nil,[],rfl,by simp,.inl rfl,λ_=>rfl,λr hr=>by cases hr⟩
 |list dt k es ds sp hk hl hd he hs=>
  rw[hu] at dt;injection dt with dt;injection dt with dt;subst dt;refine⟨k,es,rfl,hl,.inr hk,?_,λr hr=>⟨hs r hr,?_⟩⟩
  ·rintro rfl;rcases hk with hk|⟨hk,-⟩<;>cases hk
  ·obtain⟨i,hi,rfl⟩:=List.mem_iff_getElem.1 hr;exact⟨ds[i],he i _ _ (aT hi) (aT ah)⟩
 |struct dt=>rw[hu] at dt;cases dt
 |array dt=>rw[hu] at dt;cases dt
def Has.LF{fs:Array Field}{pU:List (aK × Nat)}(h:Has P t xs d)(hu:P.underlying t=aa (.struct fs))(hf:(fs.toList.map λf=>(f.type,f.offset))=pU):
 xs.length=P.cellsOf t/\∀(i:Nat) (u:aK) (o:Nat),pU[i]?=aa (u,o)->∃d:DataW H,Has P u ((xs.drop o).take (P.cellsOf u)) d:=by
 cases h with
 |bool dt=>rw[hu] at dt;cases dt
 |int dt=>rw[hu] at dt;cases dt
 |str dt=>rw[hu] at dt;cases dt
 |none dt=>rw[hu] at dt;cases dt
 |list dt=>rw[hu] at dt;cases dt
 |array dt=>rw[hu] at dt;cases dt
 |struct dt xs ds hl hd hff=>
  rw[hu] at dt;injection dt with dt;injection dt with dt;subst dt;refine⟨hl,λi u o ho=>?_⟩;rw[<-hf,List.getElem?_map] at ho;cases hq:fs.toList[i]? with
  |none=>rw[hq] at ho;cases ho
  |some f=>rw[hq] at ho;simp only[eW,dM,dj] at ho;have hi:i<ds.length:=(by have:=(aV.1 hq).1;simp at this;omega);have:=hff i f ds[i] (by rw[<-CK];exact hq) (aT hi);rw[ho.1,ho.2] at this;exact⟨_,this⟩
def lM.plain(h:lM P t x d)(hu:∀fs,P.underlying t≠aa (.struct fs))(Pt:∀n e,P.underlying t≠aa (.array n e)):Has P t [x] d:=by
 unfold lM at h;split at h
 ·rename_i h1;exact absurd h1 (hu _)
 ·rename_i h1;exact absurd h1 (Pt _ _)
 ·exact h
def lM.sF(h:lM P t x d)(hu:P.underlying t=aa (.int .i64)):∃n:Int,x=.v (.int .i64 n)/\ -9223372036854775808<=n/\n<=9223372036854775807:=by obtain⟨l,h1,h2⟩:=(h.plain (λ_ hq=>by rw[hu] at hq;cases hq) (λ_ _ hq=>by rw[hu] at hq;cases hq)).sF hu;injection h1 with h1;exact⟨l,h1,h2⟩
def lM.RP(h:lM P t x d)(hu:P.underlying t=aa (.int .u8)):∃b:UInt8,x=.v (.int .u8 b.toNat):=by obtain⟨l,h1⟩:=(h.plain (λ_ hq=>by rw[hu] at hq;cases hq) (λ_ _ hq=>by rw[hu] at hq;cases hq)).RP hu;injection h1 with h1;exact⟨l,h1⟩
def lM.CB(h:lM P t x d)(hu:P.underlying t=aa (.slice e)):∃(k:Tok) (es:List (List AV)),x=.list k (P.cellsOf e) es/\es.length<=maxLen/\(k=.nil∨k=.held∨(k=.tight/\es=[]))/\(k=.nil->es=[])/\
 ∀r∈es,r.length=P.cellsOf e/\∃d:DataW H,Has P e r d:=by
 obtain⟨k,es,h1,h2⟩:=(h.plain (λ_ hq=>by rw[hu] at hq;cases hq) (λ_ _ hq=>by rw[hu] at hq;cases hq)).CB hu;injection h1 with h1;exact⟨k,es,h1,h2⟩
def lM.LF{fs:Array Field}(h:lM P t x d)(hu:P.underlying t=aa (.struct fs)):∃xs,x=.agg xs/\Has P t xs d:=by unfold lM at h;rw[hu] at h;exact h
def AQ(P:bK)(t:aK)(pU:List (aK × Nat)):Bool:=
 match P.underlying t with
 |some (.struct fs)=>decide ((fs.toList.map λf=>(f.type,f.offset))=pU)
 |_=>az
def aaO{pU:List (aK × Nat)}(h:AQ P t pU=ai):∃fs:Array Field,P.underlying t=aa (.struct fs)/\(fs.toList.map λf=>(f.type,f.offset))=pU:=by
 unfold AQ at h;split at h
 ·rename_i fs hu;exact⟨fs,hu,by simpa using h⟩
 ·cases h
def lM.fields{pU:List (aK × Nat)}(h:lM P t x d)(hs:AQ P t pU=ai):∃xs,x=.agg xs/\xs.length=P.cellsOf t/\∀(i:Nat) (u:aK) (o:Nat),pU[i]?=aa (u,o)->∃d:DataW H,Has P u ((xs.drop o).take (P.cellsOf u)) d:=by obtain⟨fs,hu,hf⟩:=aaO hs;obtain⟨xs,h1,h2⟩:=h.LF hu;exact⟨xs,h1,h2.LF hu hf⟩
def Has.fields{pU:List (aK × Nat)}(h:Has P t xs d)(hs:AQ P t pU=ai):xs.length=P.cellsOf t/\∀(i:Nat) (u:aK) (o:Nat),pU[i]?=aa (u,o)->∃d:DataW H,Has P u ((xs.drop o).take (P.cellsOf u)) d:=by obtain⟨fs,hu,hf⟩:=aaO hs;exact h.LF hu hf
def akI{α:Type}{l:List α}(h:l.length=2):∃a b,l=[a,b]:=by
 match l,h with
 | [a,b],_=>exact⟨a,b,rfl⟩
def PU{α:Type}{l:List α}(h:l.length=4):∃a b c d,l=[a,b,c,d]:=by
 match l,h with
 | [a,b,c,d],_=>exact⟨a,b,c,d,rfl⟩
def K5{α:Type}{f}:∀{es:List (List AV)},(∀r∈es,∃a,r=f a)->∃l:List α,es=l.map f:=by
 intro es
 induction es with
 |nil=>intro _;exact⟨[],rfl⟩|cons r es ih=>intro h;obtain⟨a,rfl⟩:=h r gj;obtain⟨l,rfl⟩:=ih λr hr=>h r (fN _ hr);exact⟨a::l,rfl⟩
end
end Go.AE
end
section
namespace Go.AE
end Go.AE
end
section
namespace Go.AE
section
variable {a b:Nat × bT} {i k:Nat} {n:Int} {x:ByteArray} {l:List (Nat × bT)}
def afq:wB #[]=az:=rfl
def afr:wB #[a]=az:=by
 obtain⟨i,o⟩:=a;cases o with
 |const v=>
  cases v with
  |int k n=>cases k<;>rfl
  |_=>rfl
 |_=>rfl
def aft:wB (Mz ((i,.tmp k)::l))=az:=rfl
def afp:wB (Mz ((i,.const (.int .i64 n))::l))=az:=rfl
def afs:wB (Mz ((i,.const (.string x))::l))=az:=rfl
def afu:wB (Mz ((i,.const (.int .u8 n))::b::l))=ai:=rfl
end
set_option linter.defProp false in
def goS:=av @run_seq (av @arf (av @aq7 (av @aq6 (av @aq9 (av @arh (av @arj (av @ara (av @ari (av @arH (av @arJ (av @arG (av @arI (av @aeP (av @aeR (av @TD (av @aeQ (av @ala (av @alc (av @ak9 (av @alb (av @afg (av @afh (av @ae0 (av @aeX (av @aiD (av @aiC (av @aiz (av @aiy (av @aiE (av @aiv (av @aiu (av @ash (av @aq2 (av @aq1 (av @ape (av @aoT (av @apg (av @aoR (av @aoV (av @aoW (av @aoX (av @ao8 (av @apj (av @apf (av @aoU (av @apl (av @aoZ (av @apa (av @ao9 (av @apb (av @api (av @ao4 (av @ao3 (av @ao6 (av @ao5 (av @apk (av @ao2 (av @ao7 (av @aoY (av @aoS (av @ao0 (av @apd (av @apc (av @aq5 (av @adp (av @ado (av @adn (av @TP (av @TQ (av @anG (av @anE (av @CC (av @asx (av @asy (av @aaA (av @asF (av @asE (av @asG (av @Rx (av @Bq (av @eval_const (av @eval_func (av @eval_global (av @al3 (av @al0 (av @al8 (av @al5 (av @al4 (av @al6 (av @al7 (av @alZ (av @ae2 (av @Bi (av @Ty (av @aev (av @aem (av @aep (av @aer (av @aeh (av @aen (av @ael (av @aek (av @aej (av @aei (av @aet (av @aeu (av @aes (av @atM (av @atL (av @XW (av @PW (av @PV (av @akd (av @amM (av @gF (av @NM (av @ahh (av @ahj (av @ahi (av @ahk (av @ahm (av @ahl (av @atS (av @atT (av @R5 (av @zk (av @jW (av @decide_true (av @decide_false (av @not_true_eq_false (av @not_false_eq_true (av @Int.toNat_natCast (av @Int.toNat_zero (av @Nat.succ_ne_zero (av @Cq (av @Hz (av @akM (av @Gd (av @append_eq (av @copy_eq (av @afq (av @afr (av @aft (av @afp (av @afs (@afu))))))))))))))))))))))))))))))))))))))))))))))))))))))))))))))))))))))))))))))))))))))))))))))))))))))))))))))))))))))))))))))))))))))))))))))))))
set_option linter.defProp false in
def goH:=av @ahe (av @ahg (av @ahf (av @RR (av @atU (av @aq3 (av @ao1 (av @agQ (av @aph (av @an0 (av @anZ (av @agS (av @agR (av @agT (av @UI (av @amQ (av @amP (av @amR (av @YX (av @mw (av @iC (av @asZ (av @asX (av @ase (av @asf (av @asg (av @alK (av @bB (av @Nat.zero_add (@Nat.add_zero)))))))))))))))))))))))))))))
end Go.AE
end
section
namespace Go.AE
section
variable {P:bK} {G:Nat->Option (List AV)} {aN:bm->Option (List AV->ao->Option (AV × ao))} {Q:Xt->Env->ao->Prop} {e:Env} {h:ao}
def Ky(e:Env)(params:Array Tmp)(assign body:Code):iN:={tmps:=e.tmps,params,assign,body,state:=.ready,pending:=ar}
def ao.loop(h:ao)(r:iN):ao:={h with loops:=h.loops++[r]}
def ao.done(h:ao)(l:Nat)(r:iN):ao:={h with loops:=h.loops.set l {r with state:=.exhausted}}
def arc{f:bT}{params:Array Tmp}{assign body:Code}{g:bm}{first aC:List AV}(hf:e.eval f=.func (.func g) first aC){x:AV}{h':ao}
 (hc:(whole P G aN).call g (first++[.yield h.loops.length]++aC) (h.loop (Ky e params assign body))=aa (.panic x,h')) (hq:Q (.panic x) e h'):
 bM (whole P G aN) (.rangeFunc f params assign body) e h Q:=by
 unfold bM;rw[rH];unfold fK;have iB:(whole P G aN).call g (first++[.yield h.loops.length]++aC) {h with loops:=h.loops++[{tmps:=e.tmps,params,assign,body,state:=.ready,pending:=ar}]}=aa (.panic x,h'):=hc;simp only[hf,iB];exact⟨_,_,_,rfl,hq⟩
def arb{f:bT}{params:Array Tmp}{assign body:Code}{g:bm}{first aC:List AV}(hf:e.eval f=.func (.func g) first aC){x:AV}{h':ao}{r:iN}
 (hc:(whole P G aN).call g (first++[.yield h.loops.length]++aC) (h.loop (Ky e params assign body))=aa (.ret x,h')) (hr:h'.loops[h.loops.length]?=aa r) (hb:r.state≠ .busy) (hp:r.pending=ar)
 (hq:Q .normal e (h'.done h.loops.length r)):bM (whole P G aN) (.rangeFunc f params assign body) e h Q:=by
 unfold bM;rw[rH];unfold fK;have iB:(whole P G aN).call g (first++[.yield h.loops.length]++aC) {h with loops:=h.loops++[{tmps:=e.tmps,params,assign,body,state:=.ready,pending:=ar}]}=aa (.ret x,h'):=hc;simp only[hf,iB,hr,hp];rw[aH hb];refine⟨_,_,_,rfl,?_⟩;simpa only[ao.done,hp] using hq
def ard{f:bT}{params:Array Tmp}{assign body:Code}{g:bm}{first aC:List AV}(hf:e.eval f=.func (.func g) first aC){x:AV}{h':ao}{r:iN}
 (hc:(whole P G aN).call g (first++[.yield h.loops.length]++aC) (h.loop (Ky e params assign body))=aa (.ret x,h')) (hr:h'.loops[h.loops.length]?=aa r) (hb:r.state≠ .busy) (hp:r.pending=aa .ret)
 (hq:Q .ret e (h'.done h.loops.length r)):bM (whole P G aN) (.rangeFunc f params assign body) e h Q:=by
 unfold bM;rw[rH];unfold fK;have iB:(whole P G aN).call g (first++[.yield h.loops.length]++aC) {h with loops:=h.loops++[{tmps:=e.tmps,params,assign,body,state:=.ready,pending:=ar}]}=aa (.ret x,h'):=hc;simp only[hf,iB,hr,hp];rw[aH hb];refine⟨_,_,_,rfl,?_⟩;simpa only[ao.done,hp] using hq
def nX(l:Nat)(r:iN)(args:List AV):Env:={tmps:=E9 r.params.toList args r.tmps,defers:=[],cV:=ar,round:=aa l}
def ao.busy(h:ao)(l:Nat)(r:iN):ao:={h with loops:=h.loops.set l {r with state:=.busy}}
def apP(l:Nat)(x:eX)(h':ao):Xt->Env->ao->Prop
 | .normal,_,h2=>∃r,h2.loops[l]?=aa r/\x=.ret (.v (.bool ai))/\h'={h2 with loops:=h2.loops.set l {r with state:=.ready,pending:=ar}}
 | .ret,_,h2=>∃r,h2.loops[l]?=aa r/\x=.ret (.v (.bool az))/\h'={h2 with loops:=h2.loops.set l {r with state:=.done,pending:=aa .ret}}
 | .exit id,_,h2=>∃r,h2.loops[l]?=aa r/\x=.ret (.v (.bool az))/\h'={h2 with loops:=h2.loops.set l {r with state:=.done,pending:=aa (.exit id)}}
 | .panic z,_,h2=>x=.panic z/\h'=h2
def KZ{l:Nat}{args:List AV}{r:iN}{x:eX}{h':ao}(hr:h.loops[l]?=aa r)(hs:r.params.size=args.length)
 (ha:bM (whole P G aN) r.assign (nX l r args) h (λo e1 h1=>o=.normal/\∃r2,h1.loops[l]?=aa r2/\r2.state=.ready/\bM (whole P G aN) r.body e1 (h1.busy l r2) (apP l x h'))):
 (whole P G aN).round l args h=aa (x,h'):=by
 rw[aum];unfold vN;obtain⟨o,e1,h1,e2,rfl,r2,q1,q2,o2,e3,h3,q3,q4⟩:=ha;have e2':(whole P G aN).code r.assign {tmps:=E9 r.params.toList args r.tmps,defers:=[],cV:=ar,round:=aa l} h=aa (.normal,e1,h1):=e2;have q3':(whole P G aN).code r.body e1 {h1 with loops:=h1.loops.set l {r2 with state:=.busy}}=aa (o2,e3,h3):=q3;simp only[hr,hs,if_true,e2',q1,q2];rw[show({h1 with loops:=h1.loops.set l {tmps:=r2.tmps,params:=r2.params,assign:=r2.assign,body:=r2.body,state:=LoopState.busy,pending:=r2.pending}}:ao)={h1 with loops:=h1.loops.set l {r2 with state:=.busy}} from rfl,q3'];cases o2 with
 |normal=>obtain⟨r3,w1,rfl,rfl⟩:=q4;simp only[w1,eW]
 |ret=>obtain⟨r3,w1,rfl,rfl⟩:=q4;simp only[w1,eW]
 |exit id=>obtain⟨r3,w1,rfl,rfl⟩:=q4;simp only[w1,eW]
 |panic z=>obtain⟨rfl,rfl⟩:=q4;rfl
end
end Go.AE
end
section
namespace Go.AE
structure Fr(bn l0 n0:Nat)(h h':ao):Prop where
 box:∀(c:Nat) (cs:List AV),c≠bn->h.boxes[c]?=aa cs->h'.boxes[c]?=aa cs
 len:h.boxes.length<=h'.boxes.length
 loop:∀(l:Nat) (r:iN),l<l0->h.loops[l]?=aa r->h'.loops[l]?=aa r
 Hv:h.loops.length<=h'.loops.length
 tn:h.tn<=h'.tn
 dead:∀n,n<n0->n∈h'.dead->n∈h.dead
 ok:cO h=ai->cO h'=ai
def Fr.refl(bn l0 n0)(h):Fr bn l0 n0 h h:=⟨λ_ _ _ h=>h,aM _,λ_ _ _ h=>h,aM _,aM _,λ_ _ h=>h,λh=>h⟩
def Fr.trans{bn l0 n0}{a b c}(h:Fr bn l0 n0 a b)(k:Fr bn l0 n0 b c):Fr bn l0 n0 a c:=
 ⟨λi cs hi hb=>k.box i cs hi (h.box i cs hi hb),fJ h.len k.len,λl r hl hr=>k.loop l r hl (h.loop l r hl hr),fJ h.Hv k.Hv,fJ h.tn k.tn,λn hn hd=>h.dead n hn (k.dead n hn hd),λho=>k.ok (h.ok ho)⟩
def Ext.Hv{h h'}(x:Ext h h'):h.loops.length<=h'.loops.length:=by
 rcases dV h'.loops.length h.loops.length with aB|ec
 ·have h1:=x.loop h'.loops.length _ (aT aB);have:=(aV.1 h1).1;omega
 ·exact ec
def Fr.EE{bn l0 n0}{h h'}(x:Ext h h')(hn:n0<=h.tn):Fr bn l0 n0 h h':=
 ⟨λc cs _ hc=>x.box c cs hc,x.len,λl r _ hl=>x.loop l r hl,x.Hv,x.tn,λn h1 h2=>x.dead n (mU h1 hn) h2,x.ok⟩
def Fr.push(bn l0 n0)(h)(cs):Fr bn l0 n0 h (h.push cs):=
 ⟨λ_ _ _ hb=>bA hb,by rw[cX];exact FV _,λ_ _ _ h=>h,aM _,aM _,λ_ _ h=>h,λh=>h⟩
def Fr.put(bn l0 n0)(h)(cs):Fr bn l0 n0 h (h.put bn cs):=
 ⟨λc ds hc hb=>by rw[dg hc];exact hb,by rw[mP];exact aM _,λ_ _ _ h=>h,aM _,aM _,λ_ _ h=>h,λh=>h⟩
def ao.fx(h:ao)(l:Nat)(r:iN):ao:={h with loops:=h.loops.set l r}
def Fr.fx{bn l0 n0}{h}{l}(hl:l0<=l)(r):Fr bn l0 n0 h (h.fx l r):=
 ⟨λ_ _ _ hb=>hb,aM _,λm q hm hq=>by rw[<-hq];exact IW ah,by simp[ao.fx],aM _,λ_ _ h=>h,λh=>h⟩
def Fr.Cp{bn l0 n0}(h)(r):Fr bn l0 n0 h (h.loop r):=
 ⟨λ_ _ _ hb=>hb,aM _,λm q hm hq=>u0 hq,by simp[ao.loop],aM _,λ_ _ h=>h,λh=>h⟩
def Fr.ext{bn l0 n0}{h h'}(x:Fr bn l0 n0 h h')(hb:h.boxes.length<=bn)(hl:h.loops.length<=l0)(hn:h.tn<=n0):Ext h h':=
 ⟨λc cs hc=>x.box c cs (by have:=(aV.1 hc).1;omega) hc,λl r hr=>x.loop l r (by have:=(aV.1 hr).1;omega) hr,x.tn,λn h1 h2=>x.dead n (mU h1 hn) h2,x.ok⟩
def aaf{h:ao}{l}{r}(hl:l<h.loops.length):(h.fx l r).loops[l]?=aa r:=by simp[ao.fx,hl]
def aae{h:ao}{l m}{r}(hl:m≠l):(h.fx l r).loops[m]?=h.loops[m]?:=by simp[ao.fx,IW (Ne.symm hl)]
def EB{h:ao}{r}:(h.loop r).loops[h.loops.length]?=aa r:=by simp[ao.loop]
def X9{h:ao}{r q}{l:Nat}(hq:h.loops[l]?=aa q):(h.loop r).loops[l]?=aa q:=u0 hq
def St(l:Nat)(h h':ao):Prop:=(∀(b:Nat) (cs:List AV),h.boxes[b]?=aa cs->h'.boxes[b]?=aa cs)/\∀(m:Nat) (r:iN),m<=l->h.loops[m]?=aa r->h'.loops[m]?=aa r
def St.refl(l)(h):St l h h:=⟨λ_ _ h=>h,λ_ _ _ h=>h⟩
def St.trans{l}{a b c}(h:St l a b)(k:St l b c):St l a c:=⟨λi cs hb=>k.1 i cs (h.1 i cs hb),λm r hm hr=>k.2 m r hm (h.2 m r hm hr)⟩
def St.push(l)(h)(cs):St l h (h.push cs):=⟨λ_ _ hb=>bA hb,λ_ _ _ h=>h⟩
def St.EE{l}{h h'}(x:Ext h h'):St l h h':=⟨x.box,λm r _ hr=>x.loop m r hr⟩
def St.fx{l k}{h}(hl:l<k)(r):St l h (h.fx k r):=⟨λ_ _ hb=>hb,λm q hm hq=>by rw[aae ah];exact hq⟩
def St.Cp(l)(h)(r):St l h (h.loop r):=⟨λ_ _ hb=>hb,λm q _ hq=>X9 hq⟩
def St.gh{l}{h h'}(x:St l h h'){b}(hb:h.boxes.length<=b)(cs):St l h (h'.put b cs):=
 ⟨λc ds hc=>by have aB:c<h.boxes.length:=(aV.1 hc).1;rw[dg ah];exact x.1 c ds hc,x.2⟩
inductive Nx (α:Type) where
 |cont (a:α)|stop (a:α)|panic (v:AV)
def bM.gen{R}{c}{e}{h}{Q}(hq:∀e2:Env,(∀t,e2.get t=e.get t)->e2.defers=e.defers->e2.cV=e.cV->e2.round=e.round->bM R c e2 h Q):bM R c e h Q:=hq e (λ_=>rfl) rfl rfl rfl
section
variable {P:bK} {G:Nat->Option (List AV)} {aN:bm->Option (List AV->ao->Option (AV × ao))} {Q:Xt->Env->ao->Prop} {e:Env} {h:ao}
def E4{f:bT}{params:Array Tmp}{assign body:Code}{g:bm}{first aC:List AV}(hf:e.eval f=.func (.func g) first aC)
 (H:∀rec:iN,rec.tmps=e.tmps->rec.params=params->rec.assign=assign->rec.body=body->rec.state=.ready->rec.pending=ar->∃r h',(whole P G aN).call g (first++[.yield h.loops.length]++aC) (h.loop rec)=aa (r,h')/\
  match r with
  | .panic x=>Q (.panic x) e h'
  | .ret _=>∃rc,h'.loops[h.loops.length]?=aa rc/\rc.state≠ .busy/\((rc.pending=ar/\Q .normal e (h'.fx h.loops.length {rc with state:=.exhausted}))∨(rc.pending=aa .ret/\Q .ret e (h'.fx h.loops.length {rc with state:=.exhausted})))):
 bM (whole P G aN) (.rangeFunc f params assign body) e h Q:=by
 obtain⟨r,h',hc,hm⟩:=H (Ky e params assign body) rfl rfl rfl rfl rfl rfl;cases r with
 |panic x=>exact arc hf hc hm|ret x=>
  obtain⟨rc,h1,h2,h3|h3⟩:=hm
  ·exact arb hf hc h1 h2 h3.1 h3.2
  ·exact ard hf hc h1 h2 h3.1 h3.2
def ZA{l p t:Nat}{r:iN}{x:AV}(hp:r.params=#[p])(ht:r.tmps=e.tmps):(nX l r [x]).get t=if p=t then x else e.get t:=by unfold nX;rw[hp,ht];exact EA e.tmps p t x
def St.mono{l l'}(hl:l<=l'){h h'}(x:St l' h h'):St l h h':=⟨x.1,λm r hm hr=>x.2 m r ah hr⟩
end
end Go.AE
end
section
namespace Go.AE
section
variable {P:bK} {G:Nat->Option (List AV)} {R:Rec}
end
section
variable {P:bK} {G:Nat->Option (List AV)} {aN:bm->Option (List AV->ao->Option (AV × ao))} {Q:Xt->Env->ao->Prop} {e:Env} {h:ao}
end
end Go.AE
end
section
namespace Go.AE
section
variable {P:bK} {G:Nat->Option (List AV)} {R:Rec} {ops:Array Oper} {k:Nat}
end
section
variable {P:bK} {G:Nat->Option (List AV)} {aN:bm->Option (List AV->ao->Option (AV × ao))} {Q:Xt->Env->ao->Prop} {e:Env} {h:ao}
def fQ(ops:Array Oper)(k:Nat)(ps:List (Nat × Nat)):Bool:=ps.all λp=>pD (cut ops k) p.1 p.2&&(decide (p.1<k)&&decide (p.2<k))
end
end Go.AE
end
