/-
  The engine, part 16: calls, deferred calls, rounds; and the whole.
-/
import Derived.Test.YtcbhpkjbiehcpaaGreatDoorSA
import Derived.Laws.BitsLemmas
import Derived.ChangeArms
import Derived.OpenShut
import Derived.Carry
import Derived.ProofKit
import Derived.ChangeSame
import Derived.KernelRfl
import Derived.Test.YtcbhpkjbiehcpaaGreatDoorChecked
open True renaming intro->br
open Go renaming Program->bL,World->b_,Value->aQ,Frame->fj,FuncId->a_,Operand->ck,TypeId->aO,IntKind->rz
open Option renaming some->J,some.injEq->d_,map_eq_some_iff->dK,none->aq,map_some->gc,getD_some->vR,bind_some->jO,filter_eq_some_iff->Su,map_none->Hq,isSome_none->Ho
open List renaming mapM_cons->acA,length->F,mem_cons_self->gt,mem_cons_of_mem->gr,getElem?_eq_getElem->aY,getElem?_eq_none->sQ,all_eq_true->ff,mem_range->hy,range->bT,range'->Se,range'_succ->acH,drop_eq_getElem_cons->uw,drop_zero->gP,range_eq_range'->Sf,drop_take->Ly,getElem?_toArray->je,flatten_cons->kJ,getElem?_append_right->xm,mem_append_left->LL,mem_append_right->acD,getElem?_set->mq,contains_eq_mem->xk,set_append_right->Hh,take_length->gy,getElem?_eq_some_iff->bk,mem_cons->hh,mem_iff_getElem->xo,getElem?_map->eF,toArray->LN,getElem?_set_ne->LI,range_succ->lP,take_of_length_le->fK,cons_append->eY,map_cons->dR,map_nil->sV,getElem?_cons_zero->jy,getElem?_cons_succ->nR,append_nil->iB,nil_append->eP,length_cons->eZ,length_append->de,take_take->Hi,drop_drop->rB,mem_of_mem_take->Bf,length_drop->fJ,length_take->dJ,ext_getElem->He,getElem_map->qQ,replicate->bR,all_cons->DV,getElem?_take->o0,mem_map->iX,map_map->xn,map_append->jN,map_congr_left->yN,zipWith->Hj,getD_eq_getElem?_getD->fg,getElem_zipWith->acy,length_map->bJ,getElem_drop->Sb,getElem_mem->jf,getElem_set_ne->Sc,getElem_set->DY,mem_or_eq_of_mem_set->vO,foldl_append->ot,foldl_cons->A',foldl_nil->DX,getElem_zipIdx->acx,append_assoc->jx,set_eq_of_length_le->acM,ext_getElem?->oq,set_set->D',head?_drop->Hg,getElem?_drop->rD
open Bool renaming false->au,true->aa,and_eq_true->bQ,or_eq_true->oX,false_eq_true->jw,eq_iff_iff->Lc,not_eq_true'->DO,true_and->pF,eq_false_iff->abX,false_and->A2,and_assoc->abV
open Prod renaming mk.injEq->dz
open Array renaming all_eq_true->AZ,replicate->yG,getD_eq_getD_getElem?->GX,size->abT,getElem?_eq_getElem->kn,getElem_toList->abR
open Nat renaming lt_or_ge->eg,lt_succ_iff->Bh,le_max_left->LS,le_max_right->Hk,le_refl->bh,beq->jn,zero_le->cC,add_mul->jm,le_trans->fB,lt_of_lt_of_le->mQ,zero_add->nT,add_zero->yR,mul_le_mul_right->mR,min_eq_left->Ed,shiftLeft_eq->ac9,Coprime->nm,Coprime.symm->LQ,dvd_of_mod_eq_zero->Ec,le_of_dvd->Bg,mod_lt->lT,eq_zero_or_pos->LR,mul_add->Sl,add_mod->Si,mul_assoc->Sm,mul_mod_mod->ac1,mod_eq_of_lt->nq,one_mul->Bi,div_add_mod->Sj,mul_mod->qS,mul_one->mr,mul_comm->So,mod_two_eq_zero_or_one->Ee,pow_pos->LX,mul_add_mod->acZ,Coprime.coprime_mul_left->acR,pow_succ->yS,mul_le_mul->kL,pow_mod->Ef,pow_mul->Hl,pow_two->Sq,pow_succ'->ac7,eq_of_beq_eq_true->ou,one_pow->ac3,mod_mul_mod->acY,pow_add->ac5,lt_trans->o7,reduceEqDiff->aT,le_of_lt->np
open And renaming intro->ar
open Int renaming toNat_natCast->fe,pow_succ->xi,pow_add->RV,sub_mul->RX,mul_sub->G_,dvd_add->vN,dvd_mul_of_dvd_right->DQ,natAbs_dvd_natAbs->aca,natAbs_natCast->acb,pow_mul->G',natCast_dvd_natCast->RS,emod_nonneg->RP,emod_lt_of_pos->RN,emod_eq_of_lt->ab5,mul_emod->yI,mul_zero->Ls,zero_mul->R4,sub_emod->acg,emod_emod_of_dvd->DS,dvd_refl->DR,neg_zero->ace,neg_mul->acd,zero_add->Hc,mul_comm->G9,mul_assoc->ab7,mul_add->RR,ofNat_lt->acf,natCast_mul->A9,natCast_emod->RT,mul_one->Lr,sub_self->RY,emod_add_mul_ediv->ab3,dvd_sub->RM,tmod_eq_emod_of_nonneg->Ha,mul_nonneg->ab9,mul_le_mul->ab8,pow_zero->RW,one_mul->Lt,tdiv_eq_ediv_of_nonneg->ach,natCast_zero->uu,natCast_one->RU
open Go.Proofs.Tryz renaming prog->ag,underlying23->dp,func222->adn,func66->SX,func231->adq,func111->SO,func67->SY,func75->adw,func256->vV,func257->adr,underlying266->adC
set_option maxHeartbeats 64000000
set_option maxRecDepth 100000
set_option linter.unusedSimpArgs false
set_option linter.unusedVariables false
set_option linter.constructorNameAsVariable false
set_option linter.defProp false
section
namespace Go.AE
open Go.RowKit (Below)
section
variable {P:bL} {G:Nat->Option (List V)} {w0:b_} {R:Rec}
def J6(tmps:Array aQ):ResultVar->Sem aQ
 | .tmp t=>pure (tmps.getD t undef)
 | .cell a t=>do loadVar t (<-asAddr (tmps.getD a undef))
def aqO{K:bA}{e:Env}{h:ah}{w:b_}(s:jB P G w0 K h w){tmps:Array aQ}(z:kQ K e.tmps tmps):∀{m:List ResultVar} {l:List V},uf P G e h m=J l->
 ∃vs:List aQ,aR K l vs/\(m.mapM (J6 tmps)).run P w=.ok vs w:=by
 intro m
 induction m with
 |nil=>intro l f;simp only[uf,d_]at f;subst f;exact⟨[],.nil,by simp⟩|cons N m A=>
  intro l f;cases N with
  |tmp t=>simp only[uf,dK]at f;obtain⟨E,j,rfl⟩:=f;obtain⟨vs,r,h2⟩:=A j;exact⟨_::vs,.cons _ _ _ _ (z t) r,by simp[acA,h2,J6]⟩
  |cell a t=>
   simp only[uf]at f;split at f
   .rename_i x E D j;injection f with f;subst f;obtain⟨vs,r,h2⟩:=A j;obtain⟨g,p,v,B,q,C⟩:=YA s D (z a);refine⟨v::vs,.cons _ _ _ _ C r,?_⟩;rw[acA];simp only[J6,B,asAddr,Sem.run_bind,Sem.run_pure,Result.andThen_ok,q,h2]
   grind
def aqP{K:bA}{fn:Func}{e:Env}{h:ah}{w:b_}(s:jB P G w0 K h w){tmps:Array aQ}(N:kQ K e.tmps tmps){x:V}(j:Gc P G fn e h=J x):
 ∃v,aZ K x v/\(results fn tmps).run P w=.ok v w:=by
 unfold Gc at j;have r:∀l,uf P G e h fn.results.toList=J l->∃f:List aQ,aR K l f/\(results fn tmps).run P w=.ok (if T:f.toArray.size=1 then f.toArray[0] else .tuple f.toArray) w:=by
  intro l q;obtain⟨f,m,h2⟩:=aqO s N q;refine⟨f,m,?_⟩;have z:results fn tmps=(do let f <-fn.results.mapM (J6 tmps);pure (if h:f.size=1 then f[0] else .tuple f)):=by unfold results;congr 2
  rw[z,Array.mapM_eq_mapM_toList];simp only[Sem.run_bind,Sem.run_map,h2,Result.andThen_ok,Sem.run_pure]
 split at j
 .rename_i X q;injection j with j;subst j;obtain⟨f,m,h2⟩:=r _ q;cases m with|cons _ c _ cs S B=>cases B;simp_all
 .rename_i l A q;injection j with j;subst j;obtain⟨f,m,h2⟩:=r _ q;refine⟨.tuple f.toArray,.tuple _ _ af,?_⟩;rw[h2];have C:F f≠1:=by rw[<-m.length];intro E;obtain⟨y,rfl⟩:=List.length_eq_one_iff.1 E;exact A y O
  grind
 grind
def pZ(K:bA):Option (V × Bool)->FrameMode->Prop
 |none,u=>u=.returning
 |some (x,f),u=>f=au/\∃v,aZ K x v/\u=.panicking [{v,recovered:=au}]
def pZ.run{K}{m u}(h:pZ K m u):u≠ .run:=by
 cases m with|none=>simp only[pZ]at h;simp_all|some p=>obtain⟨x,f⟩:=p;obtain⟨_,v,_,h⟩:=h;simp_all
def pZ.un{K}{r}{m u}(h:pZ K m u):pZ (K.un r) m u:=by
 cases m with|none=>exact h|some p=>obtain⟨x,r⟩:=p;obtain⟨f,v,h2,h⟩:=h;exact⟨f,v,aZ.un h2,h⟩
def pZ.mono{K K'}(le:K.Le K'){m u}(h:pZ K m u):pZ K' m u:=by
 cases m with|none=>exact h|some p=>obtain⟨x,j⟩:=p;obtain⟨f,v,h2,h⟩:=h;exact⟨f,v,h2.mono le,h⟩
def kQ.un{K}{r}{s tmps}(h:kQ K s tmps):kQ (K.un r) s tmps:=λt=>aZ.un (h t)
def au8{fr:fj}{cs:List fj}{w:b_}{r:Nat}{args:Array aQ}{j:List Deferred}(A:fr.mode≠ .run)(m:fr.defers={target:=.collected r,args}::j)(z:w.heap[r]?=J (.deferred (J []))):
 step P (lone fr cs w)=.next (lone {fr with defers:=j} cs (w.putObj r (.deferred aq))):=by
 refine step_lone_go ?_;have q:=run_takeDeferred (P:=P) z;cases f:fr.mode with|run=>simp_all|returning=>simp[stepG,unwind,f,m,Sem.runT_eq,q]|panicking s=>simp[stepG,unwind,f,m,Sem.runT_eq,q]
def settled:Option (V × Bool)->Option (V × Bool)
 |some (_,aa)=>aq
 |q=>q
def DP(P:bL)(K:bA)(fn:Func)(f:fj)(w:b_):dV->Prop
 | .ret x=>f.mode=.returning/\∃v,aZ K x v/\(results fn f.tmps).run P w=.ok v w
 | .panic x=>∃v,aZ K x v/\f.mode=.panicking [{v,recovered:=au}]
def awt(hR:uA P G w0 R)(hn:Bl P){g:a_}{fn:Func}(Fh:P.funcs[g]?=J fn){K0:bA}{e:Env}:∀(f:List Deferred) (ds:List (a_ × List V)) (ms:List Nat) (m:Option (V × Bool)) (h:ah) (res:dV) (h':ah),
 gN P G R fn e ds m h=J (res,h')->∀(K:bA) (w:b_) (fr:fj) (cs:List fj),fr.fn=g->fr.defers=f->pG K ds f ms->kQ K e.tmps fr.tmps->pZ K m fr.mode->jB P G w0 K h w->K0.Le K->
 (∀r∈ms,r∉K0.md)->
 ∃K' w' q,K0.Le K'/\jB P G w0 K' h' w'/\Steps P (lone fr cs w) (lone q cs w')/\q.kind=fr.kind/\q.defers=[]/\q.fn=g/\DP P K' fn q w' res/\(∀kind S p cs,CS K kind S p cs->CS K' kind S p cs):=by
 intro f
 induction f with
 |nil=>
  intro ds ms m h res h' s K w fr cs hg hd C nX j T E Z;generalize N:([]:List Deferred)=z1 at C;cases C with
  |call=>cases N
  |mark=>cases N
  |nil=>
   cases m with
   |none=>simp only[gN,dK,dz]at s;obtain⟨x,hx,rfl,rfl⟩:=s;obtain⟨v,h1,h2⟩:=aqP T nX hx;exact⟨K,w,fr,E,T,.refl P _,O,hd,hg,⟨j,v,h1,h2⟩,λ_ _ _ _ h=>h⟩
   |some p=>obtain⟨x,r⟩:=p;simp only[gN,d_,dz]at s;obtain⟨rfl,rfl⟩:=s;obtain⟨-,v,h1,h2⟩:=j;exact⟨K,w,fr,E,T,.refl P _,O,hd,hg,⟨v,h1,h2⟩,λ_ _ _ _ h=>h⟩
 |cons d f ih=>
  intro ds ms m h res h' s K w fr cs hg hd C nX j T E Z;generalize N:d::f=z1 at C;cases C with
  |nil=>cases N
  |mark r ds' cds' ms' hr hnr A=>injection N with vf wq;subst vf;subst wq;have hmd:=T.md r hr;have B:=au8 (P:=P) (cs:=cs) j.run hd hmd.2;have eS:r∉K0.md:=Z r gt;obtain⟨K',w',q,g1,g2,g3,g4,g5,g6,g7,g8⟩:=ih _ ms' m h res h' s (K.un r) _ {fr with defers:=f} cs hg O (A.un hnr) nX.un j.un (T.drop hr (.deferred aq) (by simp_all)) (amv E eS) (λr' Ah=>Z r' (gr _ Ah));exact⟨K',w',q,g1,g2,.head B g3,g4,g5,g6,g7,λ_ _ _ _ hc=>g8 _ _ _ _ hc.un⟩
  |call z0 args vs X ds' cds' _ hv A=>
   injection N with vf wq;subst vf;subst wq;simp only[gN]at s;cases Y:R.iS z0 args m h with
   |none=>simp_all|some z1=>
    obtain⟨rr,m1,h1⟩:=z1;rw[Y]at s;cases rr with
    |panic x=>grind
    |ret x=>
     obtain⟨⟨fnn,N0,Cb⟩,hc⟩:=hR.iS _ _ _ _ _ _ _ Y;have hinv:(invoke (.fn (.func z0) X) vs).run P w=.ok (.enter z0 (vs++X)) w:=(by simp only[invoke];exact QS hn N0 Cb _ _);have B:=step_defer (P:=P) (cs:=cs) (d:={target:=.fn (.func z0) X,args:=vs}) j.run hd O hinv;have jr:CS K .deferred ({fr with defers:=f,mode:=.returning}::cs) m ({fr with defers:=f}::cs):=by
      cases m with
      |none=>have:({fr with defers:=f}:fj)={fr with defers:=f,mode:=.returning}:=(by rw[<-show fr.mode=.returning from j]);rw[this];exact .ret _ _ O O O
      |some p=>obtain⟨y,r⟩:=p;obtain⟨rfl,v,hv1,yb⟩:=j;have:({fr with defers:=f}:fj)={({fr with defers:=f,mode:=.returning}:fj) with mode:=.panicking [{v,recovered:=au}]}:=(by simp_all);rw[this];exact .dg _ _ y v au O O hv1
     obtain⟨K1,w1,fr1,cs1,v1,le1,s1,c1,iq,Fk,u7⟩:=hc K w (vs++X) _ _ hv jr T;have qw:∃u,cs1={fr with defers:=f,mode:=u}::cs/\pZ K1 (settled m1) (settle u):=by
      generalize z:({fr with defers:=f,mode:=.returning}:fj)::cs=S at c1;cases c1 with
      |normal D=>cases D
      |ret c0 rest _ hb hm=>refine⟨.returning,z.symm,?_⟩;simp[pZ,settle,settled]|dg c0 rest y v r _ hb hx=>
       rw[hb]at z;injection z with qp mC;subst qp;subst mC;refine⟨.panicking [{v,recovered:=r}],O,?_⟩;cases r with|true=>simp[pZ,settle,settled]|false=>exact⟨O,v,hx,O⟩
     obtain⟨u,rfl,qw⟩:=qw;have ajZ:=step_going_returned (c:={fr with defers:=f,mode:=u}) (cs:=cs) Fk u7;have he':gN P G R fn e ds' (settled m1) h1=J (res,h'):=by
      rcases m1 with _|⟨y,r⟩
      .exact s
      .cases r<;>exact s
     obtain⟨K',w',q,g1,g2,g3,g4,g5,g6,g7,g8⟩:=ih _ ms _ h1 res h' he' K1 w1 {fr with defers:=f,mode:=settle u} cs hg O (A.mono le1) (nX.mono le1) qw s1 (E.trans le1) Z;exact⟨K',w',q,g1,g2,.head B (iq.trans (.head ajZ g3)),g4,g5,g6,g7,λ_ _ _ _ N=>g8 _ _ _ _ (N.mono le1)⟩
def agW{n n'}(h:n<=n'):∀{c:Code},codeOk n c=aa->codeOk n' c=aa:=by
 intro c
 induction c with
 |region id ops q=>
  simp only[codeOk,CZ,AZ]
  grind
 |seq a b j m=>simp only[codeOk,bQ];simp_all|cond A a b j m=>simp only[codeOk,bQ];simp_all|block id c f=>simp only[codeOk];exact f|loop c f=>simp only[codeOk];exact f|scope c f=>simp only[codeOk];exact f|rangeFunc z s a b j m=>
  simp only[codeOk,bQ,AZ,decide_eq_true_eq]
  grind
 |_=>intro r;exact r
structure Prog(P:bL):Prop where
 names:Bl P
 mixed:P.follows .mixedOrders=aa
 code:∀(g:a_) (fn:Func) (c:Code),P.funcs[g]?=J fn->fn.body=J c->codeOk fn.ntmps c=aa
def auv{K}{args}{f}(B:aR K args f.toList)(n):kQ K {ch:=[],base:=args} (f++yG n undef):=by
 intro t;simp only[oA.get,look];have j:=B.length;rcases eg t (F args) with m|q
 .obtain⟨c,C,h2⟩:=B.get (aY m);have r:args.getD t (.tuple [])=args[t]:=by simp[m]
  rw[r];have A:(f++yG n undef).getD t undef=c:=by have z:t<f.size:=(by simpa [j] using m);rw[GX,Array.getElem?_append_left z,<-Array.getElem?_toList,C];rfl
  simp_all
 .have r:args.getD t (.tuple [])=.tuple []:=by simp[sQ q]
  rw[r];have A:(f++yG n undef).getD t undef=undef:=by
   have s:f.size<=t:=(by simpa [j] using q);rw[GX,Array.getElem?_append_right s,Array.getElem?_replicate]
   grind
  rw[A];exact .tuple [] #[] .nil
def TK(hp:Prog P)(hR:uA P G w0 R){g:a_}{args:List V}{m m':Option (V × Bool)}{h h':ah}{res:dV}(C:qb P G R g args m h=J (res,m',h')):
 (∃fn,P.funcs[g]?=J fn/\fn.body.isSome=aa)/\∀(K:bA) (w:b_) (f:Array aQ) (kind:CallKind) (base cs:List fj),aR K args f.toList->CS K kind base m cs->jB P G w0 K h w->
 ∃K' w' j s fn,P.funcs[g]?=J fn/\K.Le K'/\jB P G w0 K' h' w'/\CS K' kind base m' s/\Steps P (lone (Frame.enter P g f kind) cs w) (lone j s w')/\j.kind=kind/\j.defers=[]/\j.fn=g/\DP P K' fn j w' res:=by
 unfold qb at C;split at C
 .cases C
 .rename_i fn z;split at C
  .cases C
  .rename_i r N;refine⟨⟨fn,z,by simp_all⟩,λK w f kind base cs hv jr hs=>?_⟩
   let b:fj:={(default:fj) with fn:=g,kind:=kind}
   let a:Act:={tmps:=f++yG (fn.ntmps-f.size) undef,defers:=[]}
   have hb:b.roundOf=aq:=rfl;have Z:Frame.enter P g f kind=b.atR a [.code r]:=(by unfold Frame.enter Frame.atR;simp only[z,N,b,a,gc,vR,jO];rfl);have NZ:mO P K {tmps:={ch:=[],base:=args},defers:=[],dg:=m,round:=aq} a b []:=
    ⟨auv hv _,.nil,O,by grind⟩
   have fR:codeOk a.tmps.size r=aa:=agW (by grind) (hp.code g fn r z N);have X:∀(B:Xt) (e:Env) (Y:ah) (E:Option (V × Bool)),R.code r {tmps:={ch:=[],base:=args},defers:=[],dg:=m,round:=aq} h=J (B,e,Y)->
    (B=.normal/\E=aq∨B=.ret/\E=aq∨∃x,B=.panic x/\E=J (x,au))->(gN P G R fn e e.defers E Y).map (λ(z0,h)=>(z0,e.dg,h))=J (res,m',h')->
    ∃K' w' j s fn,P.funcs[g]?=J fn/\K.Le K'/\jB P G w0 K' h' w'/\CS K' kind base m' s/\Steps P (lone (Frame.enter P g f kind) cs w) (lone j s w')/\j.kind=kind/\j.defers=[]/\j.fn=g/\DP P K' fn j w' res:=by
    intro B e Y E NO On S;obtain⟨K1,w1,a1,T,ms1,L⟩:=hR.code _ _ _ _ _ _ NO K w a b [] base cs [] NZ jr hs fR;simp only[dK,dz]at S;obtain⟨⟨z0,D⟩,S,rfl,rfl,rfl⟩:=S;have ND:∃(q:List Item) (u:FrameMode),pZ K1 E u/\Steps P (lone (Frame.enter P g f kind) cs w) (lone {b.atR a1 q with mode:=u} T w1):=by
     rw[Z];rcases On with⟨rfl,rfl⟩|⟨rfl,rfl⟩|⟨x,rfl,rfl⟩
     .exact⟨[],.returning,O,Steps.trans L.arr (.one (stepR_end hb))⟩
     .obtain⟨q,A⟩:=L.arr;exact⟨_,.returning,O,Steps.trans A (.one (stepR_ret hb))⟩
     .obtain⟨q,v,hx,A⟩:=L.arr;exact⟨q,_,⟨O,v,hx,O⟩,A⟩
    obtain⟨q,u,akx,A⟩:=ND;obtain⟨K2,w2,j,g1,g2,g3,g4,g5,g6,g7,g8⟩:=awt hR hp.names z a1.defers e.defers ms1 E Y z0 D S K1 w1 {b.atR a1 q with mode:=u} T O O L.frame.defers L.frame.gM akx L.pU L.le
     (λz0 hr=>(L.marks z0 hr).resolve_left cE)
    exact⟨K2,w2,j,T,fn,z,g1,g2,g8 _ _ _ _ L.cs,A.trans g3,g4,g5,g6,g7⟩
   split at C
   .grind
   .grind
   .rename_i x e1 Y hc;exact X _ _ _ _ hc (.inr (.inr ⟨x,O,O⟩)) C
   grind
def DP.arM{K:bA}{fn:Func}{f:fj}{w:b_}{res:dV}(r:DP P K fn f w res)(q:P.funcs[f.fn]?=J fn)(z:f.kind=.normal)(m:f.defers=[]):SI P K f w res:=by
 cases res with
 |ret x=>obtain⟨s,v,h2,j⟩:=r;exact⟨v,h2,s,m,z,fn,q,j⟩
 |panic x=>obtain⟨v,h2,j⟩:=r;exact⟨v,h2,j,m,fn,q⟩
def lV(P:bL)(G:Nat->Option (List V))(w0:b_)(g:a_)(p:List V->ah->Option (V × ah)):Prop:=
 (∃j,P.funcs[g]?=J j/\j.body.isSome=aa)/\
 ∀args h x h',p args h=J (x,h')->∀(K:bA) (w:b_) (f:Array aQ),aR K args f.toList->jB P G w0 K h w->
  Calls P g f w λe w'=>∃v K',e=.returned v/\K.Le K'/\aZ K' x v/\jB P G w0 K' h' w'
def aiZ(hp:Prog P){aS:a_->Option (List V->ah->Option (V × ah))}(s:∀g p,aS g=J p->lV P G w0 g p)(hR:uA P G w0 R):SJ P G w0 (mf P G R aS):=by
 intro g args h z0 h' j;unfold mf at j;split at j
 .rename_i p Y;simp only[dK,dz]at j;obtain⟨⟨x,X⟩,C,rfl,rfl⟩:=j;obtain⟨q,m⟩:=s g p Y;refine⟨q,λK w f B A cs=>?_⟩;obtain⟨e,w',z,⟨v,K',rfl,le,hx',E⟩,hc,T,hl⟩:=m args h x X C K w f B A cs;exact⟨K',w',z,le,E,hc,T,v,hx',hl⟩
 .simp only[dK,dz]at j;obtain⟨⟨r',m',X⟩,C,rfl,rfl⟩:=j;obtain⟨q,hb⟩:=TK hp hR C;refine⟨q,λK w f B A cs=>?_⟩;obtain⟨K',w',z,S,fn,hf,le,E,N,Z,hk,hd,hg,r⟩:=hb K w f .normal cs cs B (.normal O) A;have:S=cs:=by
   generalize hq:CallKind.normal=z1 at N;cases N with|normal=>rfl|ret c0 rest h1=>simp_all|dg c0 rest x v z0 h1=>simp_all
  subst this;exact⟨K',w',z,le,E,Z,hg,r.arM (by simp_all) hk hd⟩
def ahD(Z:Prog P)(N:uA P G w0 R):SM P G w0 (qb P G R):=by intro g args z0 h x m' h' X;obtain⟨s,S⟩:=TK Z N X;refine⟨s,λK w j m cs hv r hs=>?_⟩;obtain⟨K',w',C,q,B,hf,le,s',A,z,Y,T,hg,f⟩:=S K w j .deferred m cs hv r hs;obtain⟨D,v,h2,E⟩:=f;exact⟨K',w',C,q,v,le,s',A,z,Y,D,T,B,by simp_all,E⟩
def at8{K}:∀{ps:List Tmp} {args:List V} {f:List aQ} {s:oA} {tmps:Array aQ},aR K args f->kQ K s tmps->(∀p∈ps,p<tmps.size)->
 kQ K (Dz ps args s) ((ps.zip f).foldl (λts p=>ts.setIfInBounds p.1 p.2) tmps)/\((ps.zip f).foldl (λts p=>ts.setIfInBounds p.1 p.2) tmps).size=tmps.size:=by
 intro ps
 induction ps with
 |nil=>intro args f s tmps q j m;exact⟨j,O⟩|cons p ps C=>
  intro args f s tmps q j m;cases q with
  |nil=>exact⟨j,O⟩|cons x c xs cs A r=>
   have z:=kQ.set j (m p gt) A;obtain⟨B,E⟩:=C (s:=s.set p x) (tmps:=tmps.setIfInBounds p c) r z (λN D=>by simp_all);refine⟨?_,?_⟩
   .simpa [Dz] using B
   simp_all
def ase(hR:uA P G w0 R):SN P G w0 (uh R):=by
 intro l args h r h' T K w s lg hγ hv hs j cs;unfold uh at T;split at T
 .cases T
 .rename_i rec akH;split at T
  .rename_i akR;obtain⟨m,m1,m2,m3,m4,m5,m6,m7,m8,m9,m10,-⟩:=hs.fV hγ akH rec.state rec.pending;have ajN:s.size=m.params.size:=(by rw[m4,akR,hv.length];simp);have E:=run_yield (P:=P) m1 ajN;split at T
   .rename_i e1 h1 ajX;split at T
    .rename_i r1 Cq;split at T
     .rename_i akG;obtain⟨sp1,sp2⟩:=at8 (ps:=rec.params.toList) hv m7 m10;have akf:(m.params.zip s).foldl (λtmps (x:Tmp × aQ)=>tmps.setIfInBounds x.1 x.2) m.tmps=(rec.params.toList.zip s.toList).foldl (λts p=>ts.setIfInBounds p.1 p.2) m.tmps:=by rw[<-Array.foldl_toList,Array.toList_zip,m4]
      let b:fj:={(default:fj) with fn:=m.fn,kind:=.normal,roundOf:=J lg}
      let a:Act:={tmps:=(rec.params.toList.zip s.toList).foldl (λts p=>ts.setIfInBounds p.1 p.2) m.tmps,defers:=[]}
      have Ww:(P.funcs[m.fn]?).isSome=aa:=(by have:=m8;unfold CW at this;rw[bQ]at this;exact this.2);have NZ:mO P K {tmps:=Dz rec.params.toList args rec.tmps,defers:=[],dg:=aq,round:=J l} a b []:=
       ⟨sp1,.nil,⟨lg,hγ,O,O,O,O,O⟩,Ww⟩
      have Fs:codeOk a.tmps.size rec.assign=aa:=(by have:=m8;unfold CW at this;rw[bQ]at this;show codeOk (abT _) _=aa;rw[sp2];exact this.1);have Ck:codeOk a.tmps.size rec.body=aa:=(by have:=m9;unfold CW at this;rw[bQ]at this;show codeOk (abT _) _=aa;rw[sp2];exact this.1);have OE:Frame.round lg m.fn ((m.params.zip s).foldl (λtmps (x:Tmp × aQ)=>tmps.setIfInBounds x.1 x.2) m.tmps) m.assign m.body .normal=b.atR a [.code rec.assign,.beginRound,.code rec.body]:=(by simp only[Frame.round,Frame.atR,b,a,akf,m5,m6]);have nocs:∀{K:bA} {p:Option (V × Bool)} {base BE:List fj},CS K .normal base p BE->BE=base:=by
       intro K p base BE c;generalize hq:CallKind.normal=z0 at c;cases c with|normal=>rfl|ret c0 rest h1=>simp_all|dg c0 rest x v r h1=>simp_all
      obtain⟨K1,w1,a1,cs1,ms1,L1⟩:=hR.code _ _ _ _ _ _ ajX K w a b [.beginRound,.code rec.body] (j::cs) (j::cs) [] NZ (.normal O) hs Fs;have aj6:=nocs L1.cs;subst aj6;obtain⟨nn,n1,n2,n3,n4,n5,n6,n7,n8,n9,n10,sbusy⟩:=L1.pU.fV (L1.le.γ _ _ hγ) Cq .busy r1.pending;have aj1:=run_beginRound (P:=P) n1 (n2.trans akG);have akd:({nn with state:=.busy,pending:=r1.pending}:Loop)={nn with state:=.busy}:=(by grind);rw[akd]at sbusy;have IW:Steps P (lone (Frame.round lg m.fn ((m.params.zip s).foldl (λtmps (x:Tmp × aQ)=>tmps.setIfInBounds x.1 x.2) m.tmps) m.assign m.body .normal) (j::cs) w)
       (lone (b.atR a1 [.code rec.body]) (j::cs) (w1.putObj lg (.loop {nn with state:=.busy}))):=by
       rw[OE];exact Steps.trans L1.arr (.one (stepR_beginRound O aj1))
      have ayn:∀r∈ms1,r∉K.md:=λr hr=>(L1.marks r hr).resolve_left cE;have body:∀(Z:Xt) (X:Env) (h2:ah),R.code rec.body e1 {h1 with aI:=h1.aI.set l {r1 with state:=.busy}}=J (Z,X,h2)->
       ∃f B S C,K.Le f/\jB P G w0 f h2 B/\mO P f X S b C/\ni P f (lone (b.atR a1 [.code rec.body]) (j::cs) (w1.putObj lg (.loop {nn with state:=.busy}))) b [] (j::cs) Z S B:=by
       intro Z X h2 NO;obtain⟨f,B,S,cs2,C,L2⟩:=hR.code _ _ _ _ _ _ NO K1 _ a1 b [] (j::cs) (j::cs) ms1 L1.frame L1.cs sbusy (by rw[L1.size];omega);have NR:=nocs L2.cs;subst NR;exact⟨f,B,S,C,L1.le.trans L2.le,L2.pU,L2.frame,L2.arr⟩
      have Y:∀(h2:ah) (Z:dV) (D:ah) (st:LoopState) (pe:Option Code) (bb:Bool) (f:bA) (B:b_),K.Le f->jB P G w0 f h2 B->pe.isNone=bb->(if pe.isNone then LoopState.ready else .done)=st->
       ((h2.aI[l]?).map λr=>(dV.ret (.v (.bool bb)),{h2 with aI:=h2.aI.set l {r with state:=st,pending:=pe}}))=J (Z,D)->
       ∃v w3,(Instr.endRound lg pe).run P B=.ok (.bool bb) w3/\jB P G w0 f D w3/\Z=.ret (.v (.bool bb))/\aZ f (.v (.bool bb)) v/\v=.bool bb:=by
       intro h2 Z D st pe bb f B z s2 nD iq WN;simp only[dK,dz]at WN;obtain⟨r2,I8,rfl,rfl⟩:=WN;obtain⟨qq,q1,q2,q3,-,-,-,-,-,-,-,send⟩:=s2.fV (z.γ _ _ hγ) I8 st pe;have A:=run_endRound (P:=P) pe q1;rw[iq,nD]at A;exact⟨_,_,A,send,O,.v _ O,O⟩
      have Fp:∀{f:bA} {X:Env} {S:Act} {C:List Nat},mO P f X S b C->X.round=J l->S.defers=[]:=(by intro f X S C hf hr;have:=hf.round;rw[hr]at this;obtain⟨_,_,_,_,h1,_⟩:=this;exact h1);refine⟨m.fn,(m.params.zip s).foldl (λtmps (x:Tmp × aQ)=>tmps.setIfInBounds x.1 x.2) m.tmps,m.assign,m.body,?_⟩;split at T
      .rename_i X h2 q;obtain⟨f,B,S,C,z,s2,f2,N⟩:=body _ _ _ q;obtain⟨v,w3,A,s3,rfl,yc,rfl⟩:=Y h2 r h' .ready aq aa f B z s2 O O T;exact⟨f,w3,E,z,s3,_,yc,IW.trans (Steps.trans N (.one (stepR_round_end O O A)))⟩
      .rename_i X h2 q;obtain⟨f,B,S,C,z,s2,f2,todo,N⟩:=body _ _ _ q;obtain⟨v,w3,A,s3,rfl,yc,rfl⟩:=Y h2 r h' .done (J .ret) au f B z s2 O O T;exact⟨f,w3,E,z,s3,_,yc,IW.trans (N.trans (.one (stepR_round_ret O O A)))⟩
      .rename_i id X h2 q;obtain⟨f,B,S,C,z,s2,f2,todo,hex,N⟩:=body _ _ _ q;obtain⟨v,w3,A,s3,rfl,yc,rfl⟩:=Y h2 r h' .done (J (.exit id)) au f B z s2 O O T;exact⟨f,w3,E,z,s3,_,yc,IW.trans (N.trans (.one (stepR_round_exit O O (hex.trans O) A)))⟩
      .rename_i x X h2 q;simp only[d_,dz]at T;obtain⟨rfl,rfl⟩:=T;obtain⟨f,B,S,C,z,s2,f2,todo,v,hx,N⟩:=body _ _ _ q;have hd:S.defers=[]:=by
        have:=f2.round;cases hq:X.round with|none=>simp_all|some l'=>grind
       obtain⟨fnn,N0⟩:=Option.isSome_iff_exists.1 Ww;exact⟨f,B,E,z,s2,v,_,hx,IW.trans N,O,hd,fnn,N0⟩
      grind
     grind
    grind
   grind
  grind
def J4(j:Prog P){aS:a_->Option (List V->ah->Option (V × ah))}(m:∀g p,aS g=J p->lV P G w0 g p):∀n,uA P G w0 (h_ P G aS n):=by
 intro n
 induction n with
 |zero=>
  refine⟨?_,?_,?_,?_⟩
  .intro c e h r s h' f;cases f
  .intro g args h A h' f;cases f
  .intro g args B h x z h' f;cases f
  .intro l args h A h' f;cases f
 |succ n q=>exact⟨agY j.names j.mixed q,aiZ j m q,ahD j q,ase q⟩
end
end Go.AE
end
section
namespace Go.AE
structure mU(R R':Rec):Prop where
 code:∀c e h r,R.code c e h=J r->R'.code c e h=J r
 call:∀g a h r,R.call g a h=J r->R'.call g a h=J r
 iS:∀g a m h r,R.iS g a m h=J r->R'.iS g a m h=J r
 round:∀l a h r,R.round l a h=J r->R'.round l a h=J r
section
variable {P:bL} {G:Nat->Option (List V)} {R R':Rec}
def afY(le:mU R R'){e:Env}{h:ah}{c:Call}{r:dV × ah}(f:kZ P R e h c=J r):kZ P R' e h c=J r:=by
 unfold kZ at f ⊢;cases m:c.callee with
 |builtin b=>simp_all|value q=>
  simp only[m]at f ⊢;split at f
  .rename_i j;(try simp only[j]);exact le.call _ _ _ _ f
  .rename_i j;(try simp only[j]);exact le.round _ _ _ _ f
  omega
 |invoke v s=>
  simp only[m]at f ⊢;split at f
  .rename_i j
   (try simp only[j])
   split at f
   .rename_i h2;(try simp only[h2]);exact le.call _ _ _ _ f
   omega
  omega
def CX(le:mU R R'){e:Env}{h:ah}{o:Oper}{r:dV × Env × ah}(f:ev P G R e h o=J r):ev P G R' e h o=J r:=by
 unfold ev at f ⊢;split at f
 .exact f
 .exact f
 .exact f
 .simp only[dK]at f ⊢;obtain⟨q,m,j⟩:=f;exact⟨q,afY le m,j⟩
 .exact f
 .exact f
 omega
def nI(le:mU R R'){ops:Array Oper}:∀{l:List Nat} {e:Env} {h:ah} {r:Xt × Env × ah},cB P G R ops l e h=J r->cB P G R' ops l e h=J r:=by
 intro l
 induction l with
 |nil=>intro e h r f;exact f|cons i l s=>
  intro e h r f;simp only[cB]at f ⊢;cases m:ops[i]? with
  |none=>simp_all|some o=>
   rw[m]at f;simp only at f ⊢;cases q:fh ops e o with
   |none=>simp_all|some b=>
    rw[q]at f;cases b with
    |false=>grind
    |true=>
     simp only at f ⊢;cases j:ev P G R e h o with
     |none=>simp_all|some z=>
      rw[j]at f;rw[CX le j]
      grind
def KB(le:mU R R'){ops:Array Oper}{e:Env}{h:ah}{r m:Nat}(f:oV P G R ops e h r m=aa):oV P G R' ops e h r m=aa:=by
 unfold oV at f ⊢;split at f
 .rename_i o z B s A j h2 q;rw[j,nI le h2,nI le q];exact f
 grind
def Ex{ops:Array Oper}{e:Env}{h:ah}{k:Nat}:k' P G R ops e h k=aa↔vZ P G R ops e h k:=by unfold k';simp_all
def HN(le:mU R R'){ops:Array Oper}{e:Env}{h:ah}{k:Nat}(f:k' P G R ops e h k=aa):k' P G R' ops e h k=aa:=by rw[Ex]at f ⊢;obtain⟨o,x,q,D,r,h2,s,z⟩:=f;refine⟨o,x,q,D,r,h2,nI le s,λE C=>?_⟩;obtain⟨m,j,A,B⟩:=z E C;exact⟨m,j,nI le A,CX le B⟩
def EN(le:mU R R'){ops:Array Oper}{e:Env}{h:ah}(f:mb P G R ops e h=aa):mb P G R' ops e h=aa:=by
 unfold mb at f ⊢;simp only[bQ,ff,hy,oX]at f ⊢;refine⟨f.1,λs r i q=>?_⟩;rcases f.2 s r i q with((h1|h1)|h1)|h1
 .simp_all
 .simp_all
 .refine .inl (.inr ?_);unfold jZ at h1 ⊢;rw[bQ]at h1 ⊢;refine⟨h1.1,?_⟩;have h2:=h1.2;split at h2
  .rename_i j m;(try simp only[j,m]);exact KB le h2
  .rename_i j m;(try simp only[j,m]);exact KB le h2
  omega
 .exact .inr ⟨h1.1,h1.2.imp (HN le) (HN le)⟩
def Y3(le:mU R R'){ops:Array Oper}{l:List Nat}{e:Env}{h:ah}(f:Au (cB P G R ops l e h)=aa):Au (cB P G R' ops l e h)=aa:=by
 cases j:cB P G R ops l e h with
 |none=>rw[j]at f;cases f
 |some m=>rw[j]at f;rw[nI le j];exact f
def Zm(le:mU R R'){ops:Array Oper}{e:Env}{h:ah}{i:Nat}(f:qE P G R ops e h i=aa):qE P G R' ops e h i=aa:=by
 unfold qE at f ⊢;split at f
 .rename_i j h2;rw[nI le j,nI le h2];exact f
 grind
def stores_le(le:mU R R'){ops:Array Oper}{e:Env}{h:ah}(D:yC P G R ops e h=aa):yC P G R' ops e h=aa:=by obtain⟨i,f,h2,j,m⟩:=stores_cases D;exact stores_of f h2 (Zm le j) (EN le m)
def drawC_le(le:mU R R'){ops:Array Oper}{e:Env}{h:ah}{o:Xt}(D:drawC P G R ops e h o=aa):drawC P G R' ops e h o=aa:=by
 cases o with|normal=>exact(oX _ _).mpr (((oX _ _).mp D).imp (EN le) (stores_le le))|panic x=>simp only[drawC,bQ]at D ⊢;exact⟨D.1,EN le D.2.1,Y3 le D.2.2⟩|_=>cases D
def draw_code{R:Rec}{id:Nat}{ops:Array Oper}{e:Env}{h:ah}{r:Xt × Env × ah}(f:cB P G R ops (bT ops.size) e h=J r)(D:drawC P G R ops e h r.1=aa):fQ P G R (.region id ops aa) e h=J r:=by simp only[fQ,if_true,Su];simp_all
def Ux(le:mU R R'){c:Code}{e:Env}{h:ah}{r:Xt × Env × ah}(f:fQ P G R c e h=J r):fQ P G R' c e h=J r:=by
 cases c with
 |region id ops s=>
  cases s with|false=>simp only[fQ,jw,if_false]at f ⊢;exact nI le f|true=>simp only[fQ,if_true,Su]at f;exact draw_code (nI le f.1) (drawC_le le f.2)
 |seq a b=>
  simp only[fQ]at f ⊢;cases j:R.code a e h with
  |none=>simp_all|some q=>
   rw[j]at f;rw[le.code _ _ _ _ j];obtain⟨o,B,m⟩:=q;cases o with|normal=>exact le.code _ _ _ _ f|_=>exact f
 |scope a=>simp only[fQ]at f ⊢;exact le.code _ _ _ _ f|cond q a b=>
  simp only[fQ]at f ⊢;split at f
  .rename_i m;(try simp only[m]);exact le.code _ _ _ _ f
  .rename_i m;(try simp only[m]);exact le.code _ _ _ _ f
  omega
 |block id a=>
  simp only[fQ]at f ⊢;cases j:R.code a e h with|none=>simp_all|some q=>rw[j]at f;rw[le.code _ _ _ _ j];exact f
 |loop a=>
  simp only[fQ]at f ⊢;cases j:R.code a e h with
  |none=>simp_all|some q=>
   rw[j]at f;rw[le.code _ _ _ _ j];obtain⟨o,B,m⟩:=q;cases o with|normal=>exact le.code _ _ _ _ f|_=>exact f
 |rangeFunc E D a b=>
  simp only[fQ]at f ⊢;split at f
  .rename_i g first C A
   (try simp only[A])
   generalize z:R.call g _ _=q at f;cases q with
   |none=>cases f
   |some q=>rw[le.call _ _ _ _ z];exact f
  omega
 |_=>exact f
def Rt(le:mU R R'){fn:Func}{e:Env}:∀{f:List (a_ × List V)} {m:Option (V × Bool)} {h:ah} {r:dV × ah},gN P G R fn e f m h=J r->gN P G R' fn e f m h=J r:=by
 intro f
 induction f with
 |nil=>intro m h r j;cases m<;>exact j
 |cons d f s=>
  intro m h r j;obtain⟨g,args⟩:=d;simp only[gN]at j ⊢;cases q:R.iS g args m h with
  |none=>simp_all|some z=>
   rw[q]at j;rw[le.iS _ _ _ _ _ q]
   grind
def Mz(le:mU R R'){g:a_}{args:List V}{m:Option (V × Bool)}{h:ah}{r:dV × Option (V × Bool) × ah}(f:qb P G R g args m h=J r):qb P G R' g args m h=J r:=by
 unfold qb at f ⊢;split at f
 .cases f
 .rename_i E z;rw[z]at *
  simp only;split at f
  .cases f
  .rename_i q j;rw[j]at *
   (try simp only)
   generalize s:R.code q _ h=A at f;cases A with
   |none=>cases f
   |some A=>
    rw[le.code _ _ _ _ s];obtain⟨o,D,N⟩:=A;cases o with
    |exit id=>cases f
    |_=>simp only[dK]at f ⊢;obtain⟨A,C,B⟩:=f;exact⟨A,Rt le C,B⟩
def Vu(le:mU R R'){aS:a_->Option (List V->ah->Option (V × ah))}{g:a_}{args:List V}{h:ah}{r:dV × ah}(f:mf P G R aS g args h=J r):mf P G R' aS g args h=J r:=by
 unfold mf at f ⊢;split at f
 .exact f
 .simp only[dK]at f ⊢;obtain⟨q,m,j⟩:=f;exact⟨q,Mz le m,j⟩
def aao(le:mU R R'){l:Nat}{args:List V}{h:ah}{r:dV × ah}(f:uh R l args h=J r):uh R' l args h=J r:=by
 unfold uh at f ⊢;split at f
 .cases f
 .split at f
  .rename_i q;simp only[q,if_true];split at f
   .rename_i s C z;simp only[le.code _ _ _ _ z];split at f
    .rename_i D A;split at f
     .rename_i m;simp only[m,if_true];generalize j:R.code _ s _=B at f;cases B with
      |none=>cases f
      |some B=>rw[le.code _ _ _ _ j];exact f
     grind
    omega
   grind
  grind
variable {aS:a_->Option (List V->ah->Option (V × ah))}
def F'(n:Nat):mU (h_ P G aS n) (h_ P G aS (n+1)):=by
 induction n with
 |zero=>
  refine⟨?_,?_,?_,?_⟩
  .intro c e h m f;cases f
  .intro g a h m f;cases f
  .intro g a q h m f;cases f
  .intro l a h m f;cases f
 |succ n j=>exact⟨λc e h m f=>Ux j f,λg a h m f=>Vu j f,λg a q h m f=>Mz j f,λl a h m f=>aao j f⟩
def ie{n m:Nat}(h:n<=m):mU (h_ P G aS n) (h_ P G aS m):=by
 induction m with
 |zero=>rw[Nat.le_zero.1 h];exact⟨λ_ _ _ _ h=>h,λ_ _ _ _ h=>h,λ_ _ _ _ _ h=>h,λ_ _ _ _ h=>h⟩|succ m s=>
  rcases eg n (m+1) with r|q
  .have j:=s (Bh.1 r);have h2:=F' (P:=P) (G:=G) (aS:=aS) m;exact⟨λc e h z f=>h2.code _ _ _ _ (j.code _ _ _ _ f),λg a h z f=>h2.call _ _ _ _ (j.call _ _ _ _ f),λg a m h z f=>h2.iS _ _ _ _ _ (j.iS _ _ _ _ _ f),λl a h z f=>h2.round _ _ _ _ (j.round _ _ _ _ f)⟩
  .rw[Nat.le_antisymm h q];exact⟨λ_ _ _ _ h=>h,λ_ _ _ _ h=>h,λ_ _ _ _ _ h=>h,λ_ _ _ _ h=>h⟩
end
noncomputable def rt{α:Type}(f:Nat->Option α):Option α:=by
 classical
 exact if h:∃j n,f n=J j then J h.choose else aq
def Ju{α}{f}(q:∀n m r,n<=m->f n=J r->f m=J r){n}{r:α}(h:f n=J r):rt f=J r:=by
 unfold rt;have j:∃r n,f n=J r:=⟨r,n,h⟩
 grind
def j'{α}{f}{r:α}(h:rt f=J r):∃n,f n=J r:=by unfold rt at h;split at h<;>grind
section
variable (P:bL) (G:Nat->Option (List V)) (aS:a_->Option (List V->ah->Option (V × ah)))
noncomputable def whole:Rec where
 code c e h:=rt λn=>(h_ P G aS n).code c e h
 call g a h:=rt λn=>(h_ P G aS n).call g a h
 iS g a m h:=rt λn=>(h_ P G aS n).iS g a m h
 round l a h:=rt λn=>(h_ P G aS n).round l a h
end
section
variable {P:bL} {G:Nat->Option (List V)} {aS:a_->Option (List V->ah->Option (V × ah))}
def yE(n:Nat):mU (h_ P G aS n) (whole P G aS):=
 ⟨λ_ _ _ _ h=>Ju (λ_ _ _ j f=>(ie j).code _ _ _ _ f) h,λ_ _ _ _ h=>Ju (λ_ _ _ j f=>(ie j).call _ _ _ _ f) h,
  λ_ _ _ _ _ h=>Ju (λ_ _ _ j f=>(ie j).iS _ _ _ _ _ f) h,λ_ _ _ _ h=>Ju (λ_ _ _ j f=>(ie j).round _ _ _ _ f) h⟩
def KR{w0:b_}(q:Prog P)(f:∀g p,aS g=J p->lV P G w0 g p):uA P G w0 (whole P G aS):=by
 refine⟨?_,?_,?_,?_⟩
 .intro c e h r s h' j;obtain⟨n,m⟩:=j' j;exact(J4 q f n).code c e h r s h' m
 .intro g args h A h' j;obtain⟨n,m⟩:=j' j;exact(J4 q f n).call g args h A h' m
 .intro g args B h x z h' j;obtain⟨n,m⟩:=j' j;exact(J4 q f n).iS g args B h x z h' m
 .intro l args h A h' j;obtain⟨n,m⟩:=j' j;exact(J4 q f n).round l args h A h' m
def two{α z:Type}{f:Nat->Option α}{g:Nat->Option z}{a}{b}(q:∀n m r,n<=m->f n=J r->f m=J r)(s:∀n m r,n<=m->g n=J r->g m=J r)(j:∃n,f n=J a)(h2:∃n,g n=J b):
 ∃n,f n=J a/\g n=J b:=by
 grind
def afX{e:Env}{h:ah}{c:Call}{r:dV × ah}(f:kZ P (whole P G aS) e h c=J r):∃n,kZ P (h_ P G aS n) e h c=J r:=by
 unfold kZ at f ⊢;cases j:c.callee with
 |builtin b=>simp_all|value m=>
  simp only[j]at f ⊢;split at f
  .exact j' f
  .exact j' f
  grind
 |invoke v q=>
  simp only[j]at f ⊢;split at f
  .split at f
   .rename_i h2;(try simp only[h2]);exact j' f
   grind
  grind
def Zc{e:Env}{h:ah}{o:Oper}{r:dV × Env × ah}(f:ev P G (whole P G aS) e h o=J r):∃n,ev P G (h_ P G aS n) e h o=J r:=by
 unfold ev at f ⊢;split at f
 .exact⟨0,f⟩
 .simp_all
 .simp_all
 .simp only[dK]at f ⊢;obtain⟨s,j,m⟩:=f;obtain⟨n,q⟩:=afX j
  grind
 .exact⟨0,f⟩
 .simp_all
 simp_all
def wJ{ops:Array Oper}:∀{l:List Nat} {e:Env} {h:ah} {r:Xt × Env × ah},cB P G (whole P G aS) ops l e h=J r->∃n,cB P G (h_ P G aS n) ops l e h=J r:=by
 intro l
 induction l with
 |nil=>intro e h r f;exact⟨0,f⟩|cons i l B=>
  intro e h r f;simp only[cB]at f ⊢;cases z:ops[i]? with
  |none=>simp_all|some o=>
   rw[z]at f;simp only at f ⊢;cases A:fh ops e o with
   |none=>simp_all|some b=>
    rw[A]at f;cases b with
    |false=>grind
    |true=>
     simp only at f ⊢;cases j:ev P G (whole P G aS) e h o with
     |none=>simp_all|some S=>
      rw[j]at f;have s:=Zc j;obtain⟨C,N,E⟩:=S;cases C with
      |panic x=>
       grind
      |ret x=>
       obtain⟨n,s,h2⟩:=two (λ_ _ _ q m=>CX (ie q) m) (λ_ _ _ q m=>nI (ie q) m) s (B f)
       grind
def aa5{ops:Array Oper}{e:Env}{h:ah}{r m:Nat}(s:oV P G (whole P G aS) ops e h r m=aa):∃n,oV P G (h_ P G aS n) ops e h r m=aa:=by
 unfold oV at s ⊢;split at s
 .rename_i o A E z C B h2 q;obtain⟨n,h2,q⟩:=two (λ_ _ _ j f=>nI (ie j) f) (λ_ _ _ j f=>nI (ie j) f) (wJ h2) (wJ q)
  grind
 grind
def many{p:Nat->Nat->Prop}(z:∀i n m,n<=m->p i n->p i m):∀k,(∀i,i<k->∃n,p i n)->∃n,∀i,i<k->p i n:=by
 intro k
 induction k with
 |zero=>simp_all|succ k j=>intro h;obtain⟨n,A⟩:=j λi f=>h i (Nat.lt_succ_of_lt f);obtain⟨m,s⟩:=h k (Nat.lt_succ_self k);refine⟨max n m,λi f=>?_⟩;rcases eg i k with r|q<;>grind
def auU{R R':Rec}(le:mU R R'){ops:Array Oper}{e:Env}{h:ah}{i j:Nat}(f:jZ P G R ops e h i j=aa):jZ P G R' ops e h i j=aa:=by
 unfold jZ at f ⊢;rw[bQ]at f ⊢;refine⟨f.1,?_⟩;have h2:=f.2;split at h2
 .rename_i m q;(try simp only[m,q]);exact KB le h2
 .rename_i m q;(try simp only[m,q]);exact KB le h2
 omega
def auT{ops:Array Oper}{e:Env}{h:ah}{i j:Nat}(f:jZ P G (whole P G aS) ops e h i j=aa):∃n,jZ P G (h_ P G aS n) ops e h i j=aa:=by
 unfold jZ at f ⊢;rw[bQ]at f;have h2:=f.2;split at h2
 .rename_i q r;obtain⟨n,m⟩:=aa5 h2
  grind
 .rename_i q r;obtain⟨n,m⟩:=aa5 h2
  grind
 grind
def Ub{ops:Array Oper}{e:Env}{h:ah}{k:Nat}(E:k' P G (whole P G aS) ops e h k=aa):∃n,k' P G (h_ P G aS n) ops e h k=aa:=by
 rw[Ex]at E;obtain⟨o,x,q,hr,S,h2,B,T⟩:=E;obtain⟨n0,B⟩:=wJ B;have N:∀A,A<ops.size+1->∃n,∃j f,cB P G (h_ P G aS n) ops (bT A) e h=J (.normal,j,f)/\ev P G (h_ P G aS n) q f o=J (.ret x,q,f):=by intro A f;obtain⟨j,r,X,Y⟩:=T A (Bh.1 f);obtain⟨n,s,z⟩:=two (λ_ _ _ m C=>nI (ie m) C) (λ_ _ _ m C=>CX (ie m) C) (wJ X) (Zc Y);exact⟨n,j,r,s,z⟩
 obtain⟨n1,Z⟩:=many (p:=λA n=>∃j f,cB P G (h_ P G aS n) ops (bT A) e h=J (.normal,j,f)/\ev P G (h_ P G aS n) q f o=J (.ret x,q,f))
  (λA n n' m ⟨j,f,s,z⟩=>⟨j,f,nI (ie m) s,CX (ie m) z⟩) (ops.size+1) N
 refine⟨max n0 n1,?_⟩;rw[Ex];refine⟨o,x,q,hr,S,h2,nI (ie (LS _ _)) B,λA f=>?_⟩;obtain⟨j,r,s,z⟩:=Z A (Bh.2 f);exact⟨j,r,nI (ie (Hk _ _)) s,CX (ie (Hk _ _)) z⟩
noncomputable def wK(P:bL)(G:Nat->Option (List V))(R:Rec)(ops:Array Oper)(e:Env)(h:ah)(i j:Nat):Bool:=
 ((Region.before ops).getD j 0).testBit i||wL ops i j||jZ P G R ops e h i j||(oB ops i j&&(k' P G R ops e h i||k' P G R ops e h j))
def Zs{R R':Rec}(le:mU R R'){ops:Array Oper}{e:Env}{h:ah}{i j:Nat}(f:wK P G R ops e h i j=aa):wK P G R' ops e h i j=aa:=by
 unfold wK at f ⊢;simp only[oX,bQ]at f ⊢;rcases f with(h1|h1)|h1
 .simp_all
 .exact .inl (.inr (auU le h1))
 .exact .inr ⟨h1.1,h1.2.imp (HN le) (HN le)⟩
def aoH{ops:Array Oper}{e:Env}{h:ah}{i j:Nat}(f:wK P G (whole P G aS) ops e h i j=aa):∃n,wK P G (h_ P G aS n) ops e h i j=aa:=by
 unfold wK at f ⊢;simp only[oX,bQ]at f ⊢;rcases f with(h1|h1)|⟨h1,h2|h2⟩
 .simp_all
 .obtain⟨n,m⟩:=auT h1
  grind
 .obtain⟨n,m⟩:=Ub h2
  grind
 .obtain⟨n,m⟩:=Ub h2
  grind
def Nb{ops:Array Oper}{e:Env}{h:ah}(q:mb P G (whole P G aS) ops e h=aa):∃n,mb P G (h_ P G aS n) ops e h=aa:=by
 unfold mb at q ⊢;simp only[bQ,ff,hy]at q ⊢;obtain⟨s,h2⟩:=q;have r:∀f,f<ops.size->∃n,∀i,i<f->wK P G (h_ P G aS n) ops e h i f=aa:=by intro f A;exact many (p:=λi n=>wK P G (h_ P G aS n) ops e h i f=aa) (λi n C m=>Zs (ie m)) f λi j=>aoH (h2 f A i j)
 obtain⟨n,B⟩:=many (p:=λf n=>∀i,i<f->wK P G (h_ P G aS n) ops e h i f=aa) (λf n C m z i j=>Zs (ie m) (z i j)) ops.size r;exact⟨n,s,B⟩
def aon{ops:Array Oper}{l:List Nat}{e:Env}{h:ah}{p:Option (Xt × Env × ah)->Bool}(j:p aq=au)(q:p (cB P G (whole P G aS) ops l e h)=aa):∃n,p (cB P G (h_ P G aS n) ops l e h)=aa:=by
 cases f:cB P G (whole P G aS) ops l e h with
 |none=>simp_all|some r=>
  obtain⟨n,m⟩:=wJ f
  grind
def aoE{ops:Array Oper}{e:Env}{h:ah}{i:Nat}(q:qE P G (whole P G aS) ops e h i=aa):∃n,qE P G (h_ P G aS n) ops e h i=aa:=by
 unfold qE at q ⊢;split at q
 .rename_i m h2;obtain⟨n,m,h2⟩:=two (λ_ _ _ j f=>nI (ie j) f) (λ_ _ _ j f=>nI (ie j) f) (wJ m) (wJ h2)
  grind
 grind
def drawC_fin{ops:Array Oper}{e:Env}{h:ah}{o:Xt}(D:drawC P G (whole P G aS) ops e h o=aa):∃n,drawC P G (h_ P G aS n) ops e h o=aa:=by
 cases o with
 |normal=>
  rcases (oX _ _).mp D with q|q
  .obtain⟨n,m⟩:=Nb q;exact⟨n,(oX _ _).mpr (.inl m)⟩
  .obtain⟨i,s,h2,f,j⟩:=stores_cases q;obtain⟨n,f⟩:=aoE f;obtain⟨r,j⟩:=Nb j;exact⟨max n r,(oX _ _).mpr (.inr (stores_of s h2 (Zm (ie (LS n r)) f) (EN (ie (Hk n r)) j)))⟩
 |panic x=>simp only[drawC,bQ]at D ⊢;obtain⟨n,m⟩:=Nb D.2.1;obtain⟨r,z⟩:=aon (p:=Au) O D.2.2;exact⟨max n r,D.1,EN (ie (LS n r)) m,Y3 (ie (Hk n r)) z⟩
 |_=>cases D
def agX{c:Code}{e:Env}{h:ah}{r:Xt × Env × ah}(f:fQ P G (whole P G aS) c e h=J r):∃n,fQ P G (h_ P G aS n) c e h=J r:=by
 cases c with
 |region id ops B=>
  cases B with|false=>simp only[fQ,jw,if_false]at f ⊢;exact wJ f|true=>simp only[fQ,if_true,Su]at f;obtain⟨n,j⟩:=wJ f.1;obtain⟨S,h2⟩:=drawC_fin f.2;exact⟨max n S,draw_code (nI (ie (LS n S)) j) (drawC_le (ie (Hk n S)) h2)⟩
 |seq a b=>
  simp only[fQ]at f ⊢;cases m:(whole P G aS).code a e h with
  |none=>simp_all|some A=>
   rw[m]at f;have j:=j' m;obtain⟨o,N,E⟩:=A;by_cases z:o=.normal
   .subst z;obtain⟨n,j,h2⟩:=two (λ_ _ _ s q=>(ie s).code _ _ _ _ q) (λ_ _ _ s q=>(ie s).code _ _ _ _ q) j (j' f)
    grind
   grind
 |scope a=>simp only[fQ]at f ⊢;exact j' f|cond A a b=>
  simp only[fQ]at f ⊢;split at f
  .exact j' f
  .exact j' f
  grind
 |block id a=>
  simp only[fQ]at f ⊢;cases m:(whole P G aS).code a e h with
  |none=>simp_all|some A=>
   rw[m]at f;obtain⟨n,j⟩:=j' m
   grind
 |loop a=>
  simp only[fQ]at f ⊢;cases m:(whole P G aS).code a e h with
  |none=>simp_all|some A=>
   rw[m]at f;have j:=j' m;obtain⟨o,N,E⟩:=A;by_cases z:o=.normal
   .subst z;obtain⟨n,j,h2⟩:=two (λ_ _ _ s q=>(ie s).code _ _ _ _ q) (λ_ _ _ s q=>(ie s).code _ _ _ _ q) j (j' f)
    grind
   grind
 |rangeFunc Y X a b=>
  simp only[fQ]at f ⊢;split at f
  .generalize C:(whole P G aS).call _ _ _=A at f;cases A with
   |none=>cases f
   |some A=>
    obtain⟨n,T⟩:=j' C
    grind
  grind
 |_=>exact⟨0,f⟩
def awp{fn:Func}{e:Env}:∀{f:List (a_ × List V)} {m:Option (V × Bool)} {h:ah} {r:dV × ah},gN P G (whole P G aS) fn e f m h=J r->∃n,gN P G (h_ P G aS n) fn e f m h=J r:=by
 intro f
 induction f with
 |nil=>intro m h r j;exact⟨0,by cases m<;>exact j⟩
 |cons d f E=>
  intro m h r j;obtain⟨g,args⟩:=d;simp only[gN]at j ⊢;cases B:(whole P G aS).iS g args m h with
  |none=>simp_all|some X=>
   rw[B]at j;have C:=j' B;obtain⟨S,N,q⟩:=X;cases S with
   |panic x=>grind
   |ret x=>
    have T:∀A,gN P G (whole P G aS) fn e f A q=J r->∃n,(h_ P G aS n).iS g args m h=J (.ret x,N,q)/\gN P G (h_ P G aS n) fn e f A q=J r:=λA j=>
     two (λ_ _ _ z s=>(ie z).iS _ _ _ _ _ s) (λ_ _ _ z s=>Rt (ie z) s) C (E j)
    grind
def TJ{g:a_}{args:List V}{m:Option (V × Bool)}{h:ah}{r:dV × Option (V × Bool) × ah}(f:qb P G (whole P G aS) g args m h=J r):∃n,qb P G (h_ P G aS n) g args m h=J r:=by
 unfold qb at f ⊢;split at f
 .cases f
 .rename_i X C;simp only[C];split at f
  .cases f
  .rename_i q j
   (try simp only[j])
   generalize B:(whole P G aS).code q _ h=E at f;cases E with
   |none=>cases f
   |some E=>
    have A:=j' B;obtain⟨o,T,S⟩:=E;cases o with
    |exit id=>cases f
    |_=>
     simp only[dK]at f;obtain⟨E,N,Y⟩:=f;obtain⟨n,A,h2⟩:=two (λ_ _ _ z s=>(ie z).code _ _ _ _ s) (λ_ _ _ z s=>Rt (ie z) s) A (awp N)
     grind
def aiY{g:a_}{args:List V}{h:ah}{r:dV × ah}(f:mf P G (whole P G aS) aS g args h=J r):∃n,mf P G (h_ P G aS n) aS g args h=J r:=by
 unfold mf at f ⊢;split at f
 .simp_all
 .simp only[dK]at f ⊢;obtain⟨s,j,m⟩:=f;obtain⟨n,q⟩:=TJ j
  grind
def asb{l:Nat}{args:List V}{h:ah}{r:dV × ah}(f:uh (whole P G aS) l args h=J r):∃n,uh (h_ P G aS n) l args h=J r:=by
 unfold uh at f ⊢;split at f
 .cases f
 .rename_i Z s
  (try simp only[s])
  split at f
  .rename_i z;simp only[z,if_true];split at f
   .rename_i A X B;split at f
    .rename_i Y C;split at f
     .rename_i E;generalize q:(whole P G aS).code _ A _=N at f;cases N with
      |none=>cases f
      |some N=>
       obtain⟨n,S,T⟩:=two (λ_ _ _ m j=>(ie m).code _ _ _ _ j) (λ_ _ _ m j=>(ie m).code _ _ _ _ j) (j' B) (j' q)
       grind
     grind
    grind
   grind
  grind
def JI{α:Type}{a b:Option α}(f:∀r,a=J r->b=J r)(h2:∀r,b=J r->a=J r):a=b:=by
 cases j:a with
 |some r=>simp_all|none=>
  cases m:b with|none=>rfl|some r=>simp_all
def qM(c:Code)(e:Env)(h:ah):(whole P G aS).code c e h=fQ P G (whole P G aS) c e h:=
 JI (λm j=>by
  obtain⟨n,f⟩:=j' j;have:=(F' (P:=P) (G:=G) (aS:=aS) n).code c e h m f;exact Ux (yE n) this)
  (λm j=>by obtain⟨n,f⟩:=agX j;exact(yE (n+1)).code c e h m f)
def sM(g:a_)(a:List V)(h:ah):(whole P G aS).call g a h=mf P G (whole P G aS) aS g a h:=
 JI (λm j=>by
  obtain⟨n,f⟩:=j' j;have:=(F' (P:=P) (G:=G) (aS:=aS) n).call g a h m f;exact Vu (yE n) this)
  (λm j=>by obtain⟨n,f⟩:=aiY j;exact(yE (n+1)).call g a h m f)
def awK(g:a_)(a:List V)(m:Option (V × Bool))(h:ah):(whole P G aS).iS g a m h=qb P G (whole P G aS) g a m h:=
 JI (λq j=>by
  obtain⟨n,f⟩:=j' j;have:=(F' (P:=P) (G:=G) (aS:=aS) n).iS g a m h q f;exact Mz (yE n) this)
  (λq j=>by obtain⟨n,f⟩:=TJ j;exact(yE (n+1)).iS g a m h q f)
def awL(l:Nat)(a:List V)(h:ah):(whole P G aS).round l a h=uh (whole P G aS) l a h:=
 JI (λm j=>by
  obtain⟨n,f⟩:=j' j;have:=(F' (P:=P) (G:=G) (aS:=aS) n).round l a h m f;exact aao (yE n) this)
  (λm j=>by obtain⟨n,f⟩:=asb j;exact(yE (n+1)).round l a h m f)
end
end Go.AE
end
section
namespace Go.AE
def Env.st(e:Env)(d:Nat)(x:V):Env:={e with tmps:=e.tmps.set d x}
def apW(e:Env)(d:Nat)(x):e.put (J d) x=e.st d x:=rfl
def apU(e:Env)(x):e.put aq x=e:=rfl
def KA(e:Env)(d t)(x):(e.st d x).get t=if d=t then x else e.get t:=CP e.tmps d t x
def auP(e:Env)(d)(x):(e.st d x).defers=e.defers:=rfl
def auQ(e:Env)(d)(x):(e.st d x).dg=e.dg:=rfl
def aa3(e:Env)(d)(x):(e.st d x).round=e.round:=rfl
def Env.start(args:List V)(p:Option (V × Bool)):Env:={tmps:={ch:=[],base:=args},defers:=[],dg:=p,round:=aq}
def auY(args)(p)(t):(Env.start args p).get t=args.getD t (.tuple []):=rfl
def auX(args)(p):(Env.start args p).defers=[]:=rfl
def auZ(args)(p):(Env.start args p).dg=p:=rfl
def Rb(args)(p):(Env.start args p).round=aq:=rfl
def BS(e:Env)(t:Nat):e.eval (.tmp t)=e.get t:=rfl
def eval_const(e:Env)(v):e.eval (.const v)=pP v:=rfl
def eval_func(e:Env)(f):e.eval (.func f)=.func (.func f) [] []:=rfl
def eval_global(e:Env)(g):e.eval (.global g)=.ptr (.ec g) 0:=rfl
def aof(k)(n):pP (.int k n)=.v (.int k n):=rfl
def aoe(b):pP (.bool b)=.v (.bool b):=rfl
def aok(s):pP (.string s)=.v (.string s):=rfl
def aoh:pP .nilIface=.v .nilIface:=rfl
def aog:pP .nilFunc=.v .nilFunc:=rfl
def aoi:pP (.pointer aq)=.v (.pointer aq):=rfl
def aoj:pP (.slice aq 0 0)=.ac .nil 0 []:=rfl
def aod(cs):pP (.agg ⟨cs⟩)=.agg (cs.map tU):=rfl
section
variable (P:bL) (G:Nat->Option (List V)) (R:Rec)
def opsL(ops:Array Oper):List Oper->Env->ah->Option (Xt × Env × ah)
 | [],e,h=>J (.normal,e,h)
 |o::rest,e,h=>
  match fh ops e o with
  |none=>aq
  |some au=>opsL ops rest (e.put o.dst (.tuple [])) h
  |some aa=>
   match ev P G R e h o with
   |some (.ret x,e,h)=>opsL ops rest (e.put o.dst x) h
   |some (.panic x,e,h)=>J (.panic x,e,h)
   |none=>aq
def Zd(ops:Array Oper):∀(n i:Nat),i+n=ops.size->∀(e:Env) (h:ah),cB P G R ops (Se i n) e h=opsL P G R ops (ops.toList.drop i) e h:=by
 intro n
 induction n with
 |zero=>intro i j e h;rw[List.drop_eq_nil_of_le (by grind)];rfl|succ n q=>
  intro i j e h;have f:i<ops.size:=by omega
  have m:ops[i]?=J ops[i]:=kn f;rw[acH,uw af];simp only[cB,opsL,m,abR]
  grind
def vT(r:Option (Xt × Env × ah))(Q:Xt->Env->ah->Prop):Prop:=∃o e h,r=J (o,e,h)/\Q o e h
def bM(c:Code)(e:Env)(h:ah)(Q:Xt->Env->ah->Prop):Prop:=vT (R.code c e h) Q
def cO(ops:Array Oper)(l:List Oper)(e:Env)(h:ah)(Q:Xt->Env->ah->Prop):Prop:=vT (opsL P G R ops l e h) Q
end
def tX{o}{e}{h}{Q}:vT (J (o,e,h)) Q=Q o e h:=
 propext ⟨λ⟨_,_,_,h1,h2⟩=>by simp_all,λf=>⟨o,e,h,O,f⟩⟩
def qD{Q}:vT aq Q=False:=propext ⟨λ⟨_,_,_,f,_⟩=>(by cases f),False.elim⟩
def vT.mono{r}{Q f}(h:∀o e h,Q o e h->f o e h)(q:vT r Q):vT r f:=by obtain⟨o,e,j,h2,m⟩:=q;exact⟨o,e,j,h2,h _ _ _ m⟩
def guardOf(ops:Array Oper)(j:Nat):Option Tmp:=(ops[j]?).bind (·.dst)
def ajA{o}{l}:guardOf ⟨o::l⟩ 0=o.dst:=rfl
def ajz{o}{l}{n}:guardOf ⟨o::l⟩ (n+1)=guardOf ⟨l⟩ n:=by simp[guardOf]
def us(R:Rec)(a b:Code)(e:Env)(h:ah)(Q:Xt->Env->ah->Prop)(x:V):Prop:=
 match x with
 | .v (.bool t)=>if t=aa then bM R a e h Q else bM R b e h Q
 |_=>False
def mP(P:bL)(G:Nat->Option (List V))(R:Rec)(ops:Array Oper)(o:Oper)(rest:List Oper)(e:Env)(h:ah)(Q:Xt->Env->ah->Prop)(f:Bool)(x:V):Prop:=
 match x with
 | .v (.bool b)=>if b=f then cO P G R ops (o::rest) e h Q else cO P G R ops rest (e.put o.dst (.tuple [])) h Q
 | .tuple []=>cO P G R ops rest (e.put o.dst (.tuple [])) h Q
 |_=>False
def Me(P:bL)(G:Nat->Option (List V))(R:Rec)(ops:Array Oper)(o:Oper)(rest:List Oper)(e:Env)(h:ah)(Q:Xt->Env->ah->Prop)(f:Bool)(d:Option Tmp):Prop:=
 match d with
 |some g=>mP P G R ops o rest e h Q f (e.get g)
 |none=>cO P G R ops rest (e.put o.dst (.tuple [])) h Q
section
variable {P:bL} {G:Nat->Option (List V)} {R:Rec} {a b:Code} {e:Env} {h:ah} {Q:Xt->Env->ah->Prop} {ops:Array Oper} {o:Oper} {rest:List Oper} {p:Prop} [Decidable p] {t:Bool}
def afM:us R a b e h Q (.v (.bool aa))=bM R a e h Q:=rfl
def afJ:us R a b e h Q (.v (.bool au))=bM R b e h Q:=rfl
def afI(f:p->bM R a e h Q)(h2:¬p->bM R b e h Q):us R a b e h Q (.v (.bool (decide p))):=by unfold us;simp_all
def afL(f:p->bM R b e h Q)(h2:¬p->bM R a e h Q):us R a b e h Q (.v (.bool (!decide p))):=by unfold us;simp_all
def afH(f:t=aa->bM R a e h Q)(h2:t=au->bM R b e h Q):us R a b e h Q (.v (.bool t)):=by
 cases t
 .exact h2 O
 .exact f rfl
def ajI:mP P G R ops o rest e h Q aa (.v (.bool aa))=cO P G R ops (o::rest) e h Q:=rfl
def ajH:mP P G R ops o rest e h Q aa (.v (.bool au))=cO P G R ops rest (e.put o.dst (.tuple [])) h Q:=rfl
def ajE:mP P G R ops o rest e h Q au (.v (.bool aa))=cO P G R ops rest (e.put o.dst (.tuple [])) h Q:=rfl
def ajD:mP P G R ops o rest e h Q au (.v (.bool au))=cO P G R ops (o::rest) e h Q:=rfl
def ajJ{w:Bool}:mP P G R ops o rest e h Q w (.tuple [])=cO P G R ops rest (e.put o.dst (.tuple [])) h Q:=rfl
def ajC{w:Bool}(f:p->mP P G R ops o rest e h Q w (.v (.bool aa)))(h2:¬p->mP P G R ops o rest e h Q w (.v (.bool au))):mP P G R ops o rest e h Q w (.v (.bool (decide p))):=by by_cases j:p<;>simp_all
def ajG{w:Bool}(f:p->mP P G R ops o rest e h Q w (.v (.bool au)))(h2:¬p->mP P G R ops o rest e h Q w (.v (.bool aa))):mP P G R ops o rest e h Q w (.v (.bool (!decide p))):=by by_cases j:p<;>simp_all
def ajB{w:Bool}(f:t=aa->mP P G R ops o rest e h Q w (.v (.bool aa)))(h2:t=au->mP P G R ops o rest e h Q w (.v (.bool au))):mP P G R ops o rest e h Q w (.v (.bool t)):=by cases t<;>simp_all
def ajF{w:Bool}(f:t=aa->mP P G R ops o rest e h Q w (.v (.bool au)))(h2:t=au->mP P G R ops o rest e h Q w (.v (.bool aa))):mP P G R ops o rest e h Q w (.v (.bool (!t))):=by cases t<;>simp_all
def afK(f:t=aa->bM R b e h Q)(h2:t=au->bM R a e h Q):us R a b e h Q (.v (.bool (!t))):=by
 cases t
 .exact h2 O
 .exact f rfl
def auu{w:Bool}{g:Tmp}:Me P G R ops o rest e h Q w (J g)=mP P G R ops o rest e h Q w (e.get g):=rfl
end
def Gy(R:Rec)(c:Code)(Q:Xt->Env->ah->Prop):Xt->Env->ah->Prop
 | .normal,e,h=>bM R c e h Q
 |o,e,h=>Q o e h
def Ev(id:Nat)(Q:Xt->Env->ah->Prop):Xt->Env->ah->Prop
 | .exit i,e,h=>if i=id then Q .normal e h else Q (.exit i) e h
 |o,e,h=>Q o e h
def uJ(Q:Xt->Env->ah->Prop):Xt->Env->ah->Prop
 | .normal,e,h=>Q .normal e h
 |_,_,_=>False
section
variable {R:Rec} {c:Code} {Q:Xt->Env->ah->Prop} {e:Env} {h:ah}
def at4:Gy R c Q .normal e h=bM R c e h Q:=rfl
def at6:Gy R c Q .ret e h=Q .ret e h:=rfl
def at3{i:Nat}:Gy R c Q (.exit i) e h=Q (.exit i) e h:=rfl
def at5{x:V}:Gy R c Q (.panic x) e h=Q (.panic x) e h:=rfl
def afB{id:Nat}:Ev id Q .normal e h=Q .normal e h:=rfl
def afD{id:Nat}:Ev id Q .ret e h=Q .ret e h:=rfl
def TF{id i:Nat}:Ev id Q (.exit i) e h=if i=id then Q .normal e h else Q (.exit i) e h:=rfl
def afC{id:Nat}{x:V}:Ev id Q (.panic x) e h=Q (.panic x) e h:=rfl
def af3:uJ Q .normal e h=Q .normal e h:=rfl
def af4{x:V}:uJ Q (.panic x) e h=False:=rfl
end
section
variable {P:bL} {G:Nat->Option (List V)} {aS:a_->Option (List V->ah->Option (V × ah))} {Q:Xt->Env->ah->Prop} {e:Env} {h:ah}
def att:bM (whole P G aS) .skip e h Q=Q .normal e h:=by rw[bM,qM];exact tX
def atl{l:Nat}:bM (whole P G aS) (.label l) e h Q=Q .normal e h:=by rw[bM,qM];exact tX
def ats{a:Code}:bM (whole P G aS) (.scope a) e h Q=bM (whole P G aS) a e h Q:=by unfold bM;rw[qM];simp only[fQ]
def atk{id:Nat}:bM (whole P G aS) (.exit id) e h Q=Q (.exit id) e h:=by rw[bM,qM];exact tX
def atr:bM (whole P G aS) .ret e h Q=Q .ret e h:=by rw[bM,qM];exact tX
def run_seq{a b:Code}:bM (whole P G aS) (.seq a b) e h Q=bM (whole P G aS) a e h (Gy (whole P G aS) b Q):=by
 unfold bM;rw[qM];simp only[fQ];cases m:(whole P G aS).code a e h with|none=>simp only[qD]|some q=>obtain⟨o,f,j⟩:=q;cases o<;>simp only[tX]<;>rfl
def ath{c:ck}{a b:Code}:bM (whole P G aS) (.cond c a b) e h Q=us (whole P G aS) a b e h Q (e.eval c):=by
 unfold bM us;rw[qM];simp only[fQ];generalize e.eval c=x;rcases x with _|v|_|_|_|_|_|_|_|_|_
 case v=>
  cases v with
  |bool t=>cases t<;>rfl
  |_=>simp only[qD]
 all_goals (simp only[qD])
def atg{id:Nat}{a:Code}:bM (whole P G aS) (.block id a) e h Q=bM (whole P G aS) a e h (Ev id Q):=by
 unfold bM;rw[qM];simp only[fQ];cases m:(whole P G aS).code a e h with
 |none=>simp only[qD]|some q=>
  obtain⟨o,f,j⟩:=q;cases o with
  |exit i=>simp only[tX,TF];split<;>simp only[tX]
  |_=>simp only[tX]<;>rfl
def atq{id:Nat}{ops:Array Oper}:bM (whole P G aS) (.region id ops au) e h Q=cO P G (whole P G aS) ops ops.toList e h Q:=by unfold bM cO;rw[qM];simp only[fQ,jw,if_false];have:=Zd P G (whole P G aS) ops ops.size 0 af e h;rw[gP]at this;rw[<-this,Sf]
def Nc{R:Rec}{ops:Array Oper}(f:EH ops=aa)(e:Env)(h:ah):mb P G R ops e h=aa:=by unfold EH at f;unfold mb;simp_all
def run_draw_c{id:Nat}{ops:Array Oper}(D:drawC P G (whole P G aS) ops e h .normal=aa)(j:cO P G (whole P G aS) ops ops.toList e h (uJ Q)):bM (whole P G aS) (.region id ops aa) e h Q:=by
 unfold bM cO at *
 rw[qM];have:=Zd P G (whole P G aS) ops ops.size 0 af e h;rw[gP]at this;rw[<-this,<-Sf]at j;obtain⟨o,m,q,h2,f⟩:=j;cases o with|normal=>exact⟨_,_,_,draw_code h2 D,f⟩|_=>exact f.elim
def QT{id:Nat}{ops:Array Oper}(f:mb P G (whole P G aS) ops e h=aa)(j:cO P G (whole P G aS) ops ops.toList e h (uJ Q)):bM (whole P G aS) (.region id ops aa) e h Q:=run_draw_c ((oX _ _).mpr (.inl f)) j
def run_draw_stores{id:Nat}{ops:Array Oper}(D:yC P G (whole P G aS) ops e h=aa)(f:cO P G (whole P G aS) ops ops.toList e h (uJ Q)):bM (whole P G aS) (.region id ops aa) e h Q:=run_draw_c ((oX _ _).mpr (.inr D)) f
def sC{id:Nat}{ops:Array Oper}(f:EH ops=aa)(j:cO P G (whole P G aS) ops ops.toList e h (uJ Q)):bM (whole P G aS) (.region id ops aa) e h Q:=
 QT (Nc f e h) j
def AA(j:Nat->Env->ah->Prop)(n:Nat)(Q:Xt->Env->ah->Prop):Xt->Env->ah->Prop
 | .normal,e,h=>∃f,f<n/\j f e h
 |o,e,h=>Q o e h
def am4{f:Nat->Env->ah->Prop}{n:Nat}:AA f n Q .normal e h=∃m,m<n/\f m e h:=rfl
def am6{f:Nat->Env->ah->Prop}{n:Nat}:AA f n Q .ret e h=Q .ret e h:=rfl
def am3{f:Nat->Env->ah->Prop}{n i:Nat}:AA f n Q (.exit i) e h=Q (.exit i) e h:=rfl
def am5{f:Nat->Env->ah->Prop}{n:Nat}{x:V}:AA f n Q (.panic x) e h=Q (.panic x) e h:=rfl
def cJ{c:Code}(q:Nat->Env->ah->Prop)(f:∀n e h,q n e h->bM (whole P G aS) c e h (AA q n Q)):
 ∀n e h,q n e h->bM (whole P G aS) (.loop c) e h Q:=by
 intro n
 induction n using Nat.strongRecOn with
 |_ n B=>
  intro e h z;obtain⟨o,r,s,h2,j⟩:=f n e h z;unfold bM;rw[qM];simp only[fQ,h2];cases o with
  |normal=>obtain⟨C,A,m⟩:=j;exact B C A r s m
  |_=>exact⟨_,_,_,O,j⟩
def bM.mono{R:Rec}{c:Code}{f:Xt->Env->ah->Prop}{j:ah}(m:∀o e h,Q o e h->f o e h)(q:bM R c e j Q):bM R c e j f:=vT.mono m q
def v_(P:bL)(G:Nat->Option (List V))(R:Rec)(fn:Func)(r:dV)(h':ah):Xt->Env->ah->Prop
 | .normal,e,h=>gN P G R fn e e.defers aq h=J (r,h')
 | .ret,e,h=>gN P G R fn e e.defers aq h=J (r,h')
 | .panic x,e,h=>gN P G R fn e e.defers (J (x,au)) h=J (r,h')
 | .exit _,_,_=>False
def da{g:a_}{fn:Func}{body:Code}{args:List V}{r:dV}{h':ah}(z:aS g=aq)(j:P.funcs[g]?=J fn)(s:fn.body=J body)
 (A:bM (whole P G aS) body (Env.start args aq) h (v_ P G (whole P G aS) fn r h')):(whole P G aS).call g args h=J (r,h'):=by
 rw[sM];unfold mf;rw[z];unfold qb;rw[j];simp only[s];obtain⟨o,m,q,h2,f⟩:=A;have h2:(whole P G aS).code body {tmps:={ch:=[],base:=args},defers:=[],dg:=aq,round:=aq} h=J (o,m,q):=h2;rw[h2];cases o with|exit i=>exact f.elim|_=>simp only[v_]at f;simp_all
def MU{g:a_}{fn:Func}{body:Code}{args:List V}{m m':Option (V × Bool)}{r:dV}{h':ah}(q:P.funcs[g]?=J fn)(z:fn.body=J body)
 (A:bM (whole P G aS) body (Env.start args m) h λo e f=>v_ P G (whole P G aS) fn r h' o e f/\e.dg=m'):(whole P G aS).iS g args m h=J (r,m',h'):=by
 rw[awK];unfold qb;rw[q];simp only[z];obtain⟨o,s,f,h2,j,B⟩:=A;have h2:(whole P G aS).code body {tmps:={ch:=[],base:=args},defers:=[],dg:=m,round:=aq} h=J (o,s,f):=h2;rw[h2];cases o with|exit i=>exact j.elim|_=>simp only[v_]at j;simp_all
def aia{R:Rec}{fn:Func}{r:dV}{h':ah}:v_ P G R fn r h' .normal e h=(gN P G R fn e e.defers aq h=J (r,h')):=rfl
def aic{R:Rec}{fn:Func}{r:dV}{h':ah}:v_ P G R fn r h' .ret e h=(gN P G R fn e e.defers aq h=J (r,h')):=rfl
def aib{R:Rec}{fn:Func}{r:dV}{h':ah}{x:V}:v_ P G R fn r h' (.panic x) e h=(gN P G R fn e e.defers (J (x,au)) h=J (r,h')):=rfl
def awq{R:Rec}{fn:Func}:gN P G R fn e [] aq h=(Gc P G fn e h).map λx=>(.ret x,h):=rfl
def awr{R:Rec}{fn:Func}{x:V}{b:Bool}:gN P G R fn e [] (J (x,b)) h=J (.panic x,h):=rfl
section
variable {R:Rec} {ops:Array Oper} {rest:List Oper} {d:Option Tmp} {ty:aO} {pos:String} {Y:Array Edge}
def atc:cO P G R ops [] e h Q=Q .normal e h:=tX
def atb{m:Op}{j:Nat}{f:Bool}:cO P G R ops (⟨d,m,ty,pos,Y,J (j,f)⟩::rest) e h Q=
 Me P G R ops ⟨d,m,ty,pos,Y,aq⟩ rest e h Q f (guardOf ops j):=by
 unfold cO guardOf Me mP cO;simp only[opsL,fh];cases (ops[j]?).bind (·.dst) with
 |none=>rfl|some g=>
  simp only;generalize e.get g=x;rcases x with _|v|_|_|_|cs|_|_|_|_|_
  case v=>
   cases v with
   |bool b=>
    simp only;by_cases q:b=f
    .subst q;simp only[beq_self_eq_true,if_true];rfl
    grind
   |_=>simp only[qD]
  case tuple=>cases cs<;>simp only[qD]
  all_goals (simp only[qD])
def after(P:bL)(G:Nat->Option (List V))(R:Rec)(ops:Array Oper)(rest:List Oper)(d:Option Tmp)(e:Env)(Q:Xt->Env->ah->Prop):Option (V × ah)->Prop
 |some (x,h)=>cO P G R ops rest (e.put d x) h Q
 |none=>False
def adZ{x:V}:after P G R ops rest d e Q (J (x,h))=cO P G R ops rest (e.put d x) h Q:=rfl
def opsOf(o:Op):Bool:=
 match o with
 | .call _| .defer _| .panic _=>au
 |_=>aa
def lF{f:Op}(m:opsOf f=aa):cO P G R ops (⟨d,f,ty,pos,Y,aq⟩::rest) e h Q=after P G R ops rest d e Q (dP P G e.eval h f):=by
 unfold cO;simp only[opsL,fh];have j:ev P G R e h ⟨d,f,ty,pos,Y,aq⟩=(dP P G e.eval h f).map λ(x,h)=>(.ret x,e,h):=by cases f<;>first|rfl|(simp[opsOf]at m)
 rw[j];cases dP P G e.eval h f with|none=>simp only[Hq,qD];rfl|some r=>obtain⟨x,q⟩:=r;rfl
def Mj(P:bL)(G:Nat->Option (List V))(R:Rec)(ops:Array Oper)(rest:List Oper)(d:Option Tmp)(e:Env)(Q:Xt->Env->ah->Prop):Option (dV × ah)->Prop
 |some (.ret x,h)=>cO P G R ops rest (e.put d x) h Q
 |some (.panic x,h)=>Q (.panic x) e h
 |none=>False
def adY{x:V}:Mj P G R ops rest d e Q (J (.ret x,h))=cO P G R ops rest (e.put d x) h Q:=rfl
def adX{x:V}:Mj P G R ops rest d e Q (J (.panic x,h))=Q (.panic x) e h:=rfl
def atf{f:ck}{args:Array ck}{ts:Array aO}:cO P G R ops (⟨d,.call {callee:=.value f,args,argTypes:=ts},ty,pos,Y,aq⟩::rest) e h Q=
 Mj P G R ops rest d e Q (kZ P R e h {callee:=.value f,args,argTypes:=ts}):=by
 unfold cO;simp only[opsL,fh,ev];cases kZ P R e h {callee:=.value f,args,argTypes:=ts} with|none=>simp only[Hq,qD];rfl|some m=>obtain⟨q,j⟩:=m;cases q<;>simp only[gc,tX]<;>rfl
def TW{g:a_}{args:Array ck}{ts:Array aO}:kZ P R e h {callee:=.value (.func g),args,argTypes:=ts}=R.call g (args.toList.map e.eval) h:=by simp[kZ,eval_func]
def TX{t:Nat}{args:Array ck}{ts:Array aO}:kZ P R e h {callee:=.value (.tmp t),args,argTypes:=ts}=
 (match e.get t with
  | .func (.func g) first ba=>R.call g (first++args.toList.map e.eval++ba) h
  | .yield l=>R.round l (args.toList.map e.eval) h
  |_=>aq):=rfl
def ZG:Builtin->Bool
 | .recover| .panic| .append=>au
 |_=>aa
def Gq{b:Builtin}{args:Array ck}{ts:Array aO}(j:ZG b=aa):cO P G R ops (⟨d,.call {callee:=.builtin b,args,argTypes:=ts},ty,pos,Y,aq⟩::rest) e h Q=
 after P G R ops rest d e Q (iQ P h b ts ty (args.toList.map e.eval)):=by
 unfold cO;simp only[opsL,fh];have f:ev P G R e h ⟨d,.call {callee:=.builtin b,args,argTypes:=ts},ty,pos,Y,aq⟩=(iQ P h b ts ty (args.toList.map e.eval)).map λ(x,h)=>(.ret x,e,h):=by cases b<;>first|rfl|(simp[ZG]at j)
 rw[f];cases iQ P h b ts ty (args.toList.map e.eval) with|none=>simp only[Hq,qD];rfl|some q=>obtain⟨x,m⟩:=q;rfl
def arE(x:ck):cO P G R ops (⟨d,.move x,ty,pos,Y,aq⟩::rest) e h Q=after P G R ops rest d e Q (dP P G e.eval h (.move x)):=lF rfl
def ari(x:ck):cO P G R ops (⟨d,.assign x,ty,pos,Y,aq⟩::rest) e h Q=after P G R ops rest d e Q (dP P G e.eval h (.assign x)):=lF rfl
def arG(c a b:ck):cO P G R ops (⟨d,.pick c a b,ty,pos,Y,aq⟩::rest) e h Q=after P G R ops rest d e Q (dP P G e.eval h (.pick c a b)):=lF rfl
def arf(t:aO):cO P G R ops (⟨d,.alloc t,ty,pos,Y,aq⟩::rest) e h Q=after P G R ops rest d e Q (dP P G e.eval h (.alloc t)):=lF rfl
def ark(t:aO)(x:ck):cO P G R ops (⟨d,.box t x,ty,pos,Y,aq⟩::rest) e h Q=after P G R ops rest d e Q (dP P G e.eval h (.box t x)):=lF rfl
def arl(t:aO)(ps:Array (Nat × ck)):cO P G R ops (⟨d,.build t ps,ty,pos,Y,aq⟩::rest) e h Q=after P G R ops rest d e Q (dP P G e.eval h (.build t ps)):=lF rfl
def arm(t:aO)(n:Nat)(ps:Array (Nat × ck)):cO P G R ops (⟨d,.buildSlice t n ps,ty,pos,Y,aq⟩::rest) e h Q=after P G R ops rest d e Q (dP P G e.eval h (.buildSlice t n ps)):=lF rfl
def ary(t:aO)(a:ck):cO P G R ops (⟨d,.load t a,ty,pos,Y,aq⟩::rest) e h Q=after P G R ops rest d e Q (dP P G e.eval h (.load t a)):=lF rfl
def arJ(t:aO)(a x:ck):cO P G R ops (⟨d,.store t a x,ty,pos,Y,aq⟩::rest) e h Q=after P G R ops rest d e Q (dP P G e.eval h (.store t a x)):=lF rfl
def arF(x:ck):cO P G R ops (⟨d,.nilCheck x,ty,pos,Y,aq⟩::rest) e h Q=after P G R ops rest d e Q (dP P G e.eval h (.nilCheck x)):=lF rfl
def arj(o:BinOp)(t:aO)(x y:ck)(f:aO):cO P G R ops (⟨d,.binOp o t x y f,ty,pos,Y,aq⟩::rest) e h Q=after P G R ops rest d e Q (dP P G e.eval h (.binOp o t x y f)):=lF rfl
def arL(o:UnOp)(t:aO)(x:ck):cO P G R ops (⟨d,.unOp o t x,ty,pos,Y,aq⟩::rest) e h Q=after P G R ops rest d e Q (dP P G e.eval h (.unOp o t x)):=lF rfl
def aro(s t:aO)(x:ck):cO P G R ops (⟨d,.convert s t x,ty,pos,Y,aq⟩::rest) e h Q=after P G R ops rest d e Q (dP P G e.eval h (.convert s t x)):=lF rfl
def arA(t:aO)(x:ck):cO P G R ops (⟨d,.makeInterface t x,ty,pos,Y,aq⟩::rest) e h Q=after P G R ops rest d e Q (dP P G e.eval h (.makeInterface t x)):=lF rfl
def arz(fn:Fn)(first ba:Array ck):cO P G R ops (⟨d,.makeFunc fn first ba,ty,pos,Y,aq⟩::rest) e h Q=after P G R ops rest d e Q (dP P G e.eval h (.makeFunc fn first ba)):=lF rfl
def arB(t:aO)(l c:ck):cO P G R ops (⟨d,.makeSlice t l c,ty,pos,Y,aq⟩::rest) e h Q=after P G R ops rest d e Q (dP P G e.eval h (.makeSlice t l c)):=lF rfl
def arI(t:aO)(x:ck)(lo hi mx:Option ck):cO P G R ops (⟨d,.slice t x lo hi mx,ty,pos,Y,aq⟩::rest) e h Q=after P G R ops rest d e Q (dP P G e.eval h (.slice t x lo hi mx)):=lF rfl
def aru(t:aO)(x:ck)(f:Nat):cO P G R ops (⟨d,.fieldAddr t x f,ty,pos,Y,aq⟩::rest) e h Q=after P G R ops rest d e Q (dP P G e.eval h (.fieldAddr t x f)):=lF rfl
def art(t:aO)(x:ck)(f:Nat):cO P G R ops (⟨d,.field t x f,ty,pos,Y,aq⟩::rest) e h Q=after P G R ops rest d e Q (dP P G e.eval h (.field t x f)):=lF rfl
def arw(t:aO)(x i:ck):cO P G R ops (⟨d,.indexAddr t x i,ty,pos,Y,aq⟩::rest) e h Q=after P G R ops rest d e Q (dP P G e.eval h (.indexAddr t x i)):=lF rfl
def arv(t:aO)(x i:ck):cO P G R ops (⟨d,.index t x i,ty,pos,Y,aq⟩::rest) e h Q=after P G R ops rest d e Q (dP P G e.eval h (.index t x i)):=lF rfl
def arK(x:ck)(xt t:aO)(ok:Bool):cO P G R ops (⟨d,.typeAssert x xt t ok,ty,pos,Y,aq⟩::rest) e h Q=after P G R ops rest d e Q (dP P G e.eval h (.typeAssert x xt t ok)):=lF rfl
def ars(x:ck)(i:Nat):cO P G R ops (⟨d,.extract x i,ty,pos,Y,aq⟩::rest) e h Q=after P G R ops rest d e Q (dP P G e.eval h (.extract x i)):=lF rfl
def arx(args:Array ck)(ts:Array aO):cO P G R ops (⟨d,.call {callee:=.builtin .len,args,argTypes:=ts},ty,pos,Y,aq⟩::rest) e h Q=after P G R ops rest d e Q (iQ P h .len ts ty (args.toList.map e.eval)):=Gq rfl
def arn(args:Array ck)(ts:Array aO):cO P G R ops (⟨d,.call {callee:=.builtin .cap,args,argTypes:=ts},ty,pos,Y,aq⟩::rest) e h Q=after P G R ops rest d e Q (iQ P h .cap ts ty (args.toList.map e.eval)):=Gq rfl
def arh(args:Array ck)(ts:Array aO):cO P G R ops (⟨d,.call {callee:=.builtin .append,args,argTypes:=ts},ty,pos,Y,aq⟩::rest) e h Q=after P G R ops rest d e Q (qh P G d h .append ts ty (args.toList.map e.eval)):=by
 unfold cO;simp only[opsL,fh];have f:ev P G R e h ⟨d,.call {callee:=.builtin .append,args,argTypes:=ts},ty,pos,Y,aq⟩=(qh P G d h .append ts ty (args.toList.map e.eval)).map λ(x,h)=>(.ret x,e,h):=rfl;rw[f];cases qh P G d h .append ts ty (args.toList.map e.eval) with|none=>simp only[Hq,qD];rfl|some m=>obtain⟨x,j⟩:=m;rfl
def arp(args:Array ck)(ts:Array aO):cO P G R ops (⟨d,.call {callee:=.builtin .copy,args,argTypes:=ts},ty,pos,Y,aq⟩::rest) e h Q=after P G R ops rest d e Q (iQ P h .copy ts ty (args.toList.map e.eval)):=Gq rfl
def arD(args:Array ck)(ts:Array aO):cO P G R ops (⟨d,.call {callee:=.builtin .min,args,argTypes:=ts},ty,pos,Y,aq⟩::rest) e h Q=after P G R ops rest d e Q (iQ P h .min ts ty (args.toList.map e.eval)):=Gq rfl
def arC(args:Array ck)(ts:Array aO):cO P G R ops (⟨d,.call {callee:=.builtin .max,args,argTypes:=ts},ty,pos,Y,aq⟩::rest) e h Q=after P G R ops rest d e Q (iQ P h .max ts ty (args.toList.map e.eval)):=Gq rfl
def atd{x:ck}:cO P G R ops (⟨d,.panic x,ty,pos,Y,aq⟩::rest) e h Q=(match e.eval x with| .iface t y=>Q (.panic (.iface t y)) e h|_=>False):=by unfold cO;simp only[opsL,fh,ev];generalize e.eval x=y;cases y<;>first|exact tX|exact qD
def ate{args:Array ck}{ts:Array aO}(f:e.round=aq):cO P G R ops (⟨d,.call {callee:=.builtin .recover,args,argTypes:=ts},ty,pos,Y,aq⟩::rest) e h Q=
 (match e.dg with
  |some (x,au)=>cO P G R ops rest (({e with dg:=J (x,aa)}:Env).put d x) h Q
  |_=>cO P G R ops rest (e.put d (.v .nilIface)) h Q):=by
 unfold cO;simp only[opsL,fh,ev,f,Ho,jw,if_false]
 grind
def ata{f:ck}{args:Array ck}{ts:Array aO}(q:e.round=aq):cO P G R ops (⟨d,.defer {callee:=.value f,args,argTypes:=ts},ty,pos,Y,aq⟩::rest) e h Q=
 (match e.eval f with
  | .func (.func g) first ba=>cO P G R ops rest (({e with defers:=(g,first++args.toList.map e.eval++ba)::e.defers}:Env).put d (.tuple [])) h Q
  |_=>False):=by
 unfold cO;simp only[opsL,fh,ev,q,Ho,jw,if_false];generalize e.eval f=y;rcases y with _|_|_|_|_|_|_|_|⟨j,a,b⟩|_|_
 case func=>cases j<;>first|rfl|exact qD
 all_goals exact qD
end
end
end Go.AE
end
section
namespace Go.AE
def bs(l:List UInt8):ByteArray:=⟨l.toArray⟩
def str(l:List UInt8):V:=.v (.string (bs l))
def int(n:Int):V:=.v (.int .i64 n)
def bool(b:Bool):V:=.v (.bool b)
def afO(l):ByteArray.mk l.toArray=bs l:=rfl
def zn(l):(bs l).size=F l:=rfl
def afN(a b):bs a++bs b=bs (a++b):=by apply ByteArray.ext;rw[ByteArray.data_append];simp[bs]
def MB(l)(i j):(bs l).extract i j=bs ((l.take j).drop i):=by apply ByteArray.ext;rw[ByteArray.data_extract];simp[bs,List.extract_eq_take_drop,Ly]
def iD{α q}{P}(m)(f:α->Sem q):dQ P (m>>=f)=(dQ P m).bind λa=>dQ P (f a):=by
 show dQ P (m.bind f)=_
 induction m with
 |pure a=>rfl|program k j=>simp only[Sem.bind,dQ];grind
 |mark m k j=>simp only[Sem.bind,dQ];exact j|_=>rfl
section
variable {P:bL} {t:aO} {x y:ck} {k:rz} {a b:Int}
def p9{f:BinOp}{v:aQ}(h:dQ P (binOp f t (.int k a) (.int k b))=J v):df P f t x y (.v (.int k a)) (.v (.int k b))=lH v:=by
 have j:dQ P (eqGuard f t x y (.int k a) (.int k b))=J ():=by cases f<;>rfl
 show(dQ P (do eqGuard f t x y (.int k a) (.int k b);binOp f t (.int k a) (.int k b))).bind lH=_;rw[iD,j];simp_all
def Tx:df P .add t x y (.v (.int k a)) (.v (.int k b))=J (.v (.int k (k.wrap (a+b)))):=p9 (v:=.int k (k.wrap (a+b))) (by simp[binOp,Op.intArith];rfl)
def afj:df P .sub t x y (.v (.int k a)) (.v (.int k b))=J (.v (.int k (k.wrap (a-b)))):=p9 (v:=.int k (k.wrap (a-b))) (by simp[binOp,Op.intArith];rfl)
def afc:df P .mul t x y (.v (.int k a)) (.v (.int k b))=J (.v (.int k (k.wrap (a*b)))):=p9 (v:=.int k (k.wrap (a*b))) (by simp[binOp,Op.intArith];rfl)
def afe(h:b≠0):df P .quo t x y (.v (.int k a)) (.v (.int k b))=J (.v (.int k (k.wrap (a.tdiv b)))):=p9 (v:=.int k (k.wrap (a.tdiv b))) (by simp[binOp,Op.intDiv,h];rfl)
def afg(h:b≠0):df P .rem t x y (.v (.int k a)) (.v (.int k b))=J (.v (.int k (a.tmod b))):=p9 (v:=.int k (a.tmod b)) (by simp[binOp,Op.intDiv,h];rfl)
def ae6:df P .eql t x y (.v (.int k a)) (.v (.int k b))=J (.v (.bool (decide (a=b)))):=p9 (v:=.bool (decide (a=b))) (by
 have:(a==b)=decide (a=b):=by rw[Lc];simp
 simp[binOp,Op.intCmp,this];rfl)
def afd:df P .neq t x y (.v (.int k a)) (.v (.int k b))=J (.v (.bool (!decide (a=b)))):=p9 (v:=.bool (!decide (a=b))) (by
 have:(a !=b)= !decide (a=b):=by rw[Lc];simp
 simp[binOp,Op.intCmp,this];rfl)
def afb:df P .lss t x y (.v (.int k a)) (.v (.int k b))=J (.v (.bool (decide (a<b)))):=p9 (v:=.bool (decide (a<b))) (by simp[binOp,Op.intCmp];rfl)
def afa:df P .leq t x y (.v (.int k a)) (.v (.int k b))=J (.v (.bool (decide (a<=b)))):=p9 (v:=.bool (decide (a<=b))) (by simp[binOp,Op.intCmp];rfl)
def ae8:df P .gtr t x y (.v (.int k a)) (.v (.int k b))=J (.v (.bool (decide (b<a)))):=p9 (v:=.bool (decide (b<a))) (by simp[binOp,Op.intCmp];rfl)
def ae7:df P .geq t x y (.v (.int k a)) (.v (.int k b))=J (.v (.bool (decide (b<=a)))):=p9 (v:=.bool (decide (b<=a))) (by simp[binOp,Op.intCmp];rfl)
def afh{p q:List UInt8}:df P .eql t x y (.v (.string (bs p))) (.v (.string (bs q)))=J (.v (.bool (decide (p=q)))):=by
 show J (V.v (.bool (p==q)))=_
 grind
def afi{p q:List UInt8}:df P .neq t x y (.v (.string (bs p))) (.v (.string (bs q)))=J (.v (.bool (!decide (p=q)))):=by
 show J (V.v (.bool (!(p==q))))=_
 grind
def Tz{p q:List UInt8}(h:F p+F q<=9223372036854775807):df P .add t x y (.v (.string (bs p))) (.v (.string (bs q)))=J (.v (.string (bs (p++q)))):=by show(if (bs p).size+(bs q).size<=9223372036854775807 then J (V.v (.string (bs p++bs q))) else aq)=_;rw[zn,zn,aH h,afN]
def awl{c:Bool}:GP P .not (.v (.bool c))=J (.v (.bool (!c))):=rfl
def awk:GP P .neg (.v (.int k a))=J (.v (.int k (k.wrap (0-a)))):=rfl
def Yu{s:ByteArray}(f:P.underlying t=J .string):dw P t (.v (.string s))=J (.v (.int .i64 s.size)):=by unfold dw;rw[f]
def Pl{e:aO}{j:Tok}{sz:Nat}{es:List (List V)}(f:P.underlying t=J (.slice e)):dw P t (.ac j sz es)=J (.v (.int .i64 (F es))):=by unfold dw;rw[f]
def Jt{e:aO}{b o l c:Nat}(f:P.underlying t=J (.slice e)):dw P t (.arr b o l c)=J (.v (.int .i64 l)):=by unfold dw;rw[f]
def alp{l:List UInt8}(m:P.underlying t=J .string)(j:0<=a)(q:a<F l):As P t (.v (.string (bs l))) (.v (.int k a))=J (.v (.int .u8 (l.getD a.toNat 0).toNat)):=by
 unfold As;rw[m];have f:a.toNat<F l:=by omega
 simp only[aH j,bs,je,aY f]
 grind
def ao6{c}{u v}:JP (.v (.bool c)) u v=J (if c=aa then u else v):=by cases c<;>rfl
def jq(f: -9223372036854775808<=a)(j:a<=9223372036854775807):IntKind.i64.wrap a=a:=by rw[IntKind.wrap_i64];omega
def Nd(f:0<=a)(j:a<=255):IntKind.u8.wrap a=a:=by rw[IntKind.wrap_u8];omega
end
end Go.AE
end
section
namespace Go.AE
open Go.RowKit (Below)
def bA.init(W:b_):bA:={base:=W.heap.size,ic:=λg f=>W.cell? ⟨g,f,aq⟩,β:=[],γ:=[],tn:=0,tk:=λ_=>(0,0,0),md:=[],lb:=λ_=>aq}
def ah.init:ah:=⟨[],[],0,[]⟩
def auh{G}{ok}(W)(q:∀g cs,G g=J cs->∃cells,aR (bA.init W) cs cells/\∀(j:Nat) (c:aQ),cells[j]?=J c->W.cell? ⟨g,j,aq⟩=J c):
 bZ (bA.init W) G ok W ah.init W:=by
 refine⟨.refl _ _,bh _,λg j c h=>h,q,O,λb m g h=>?_,λb g cs h=>?_,O,λb m g h=>?_,λl g s h=>?_,O,λt f=>?_,λt z f=>?_,λs r=>?_,O⟩
 .simp[bA.init]at h
 .simp[bA.init]at h
 .simp[bA.init]at h
 .simp[bA.init]at h
 .simp[alive,ah.init]at f
 .simp[alive,ah.init]at f
 .simp[bA.init]at r
def AU(P:bL):Nat->List Field->Nat->Bool
 |off,[],f=>jn off f
 |off,m::j,f=>jn m.offset off&&AU P (off+P.cellsOf m.type) j f
def JG(P:bL):Nat->aO->Bool
 |0,_=>au
 |n+1,t=>
  match P.underlying t with
  |some .bool|some (.int _)|some .string=>aa
  |some (.slice e)=>JG P n e&&decide (0<P.cellsOf e)
  |some (.struct f)=>AU P 0 f.toList (P.cellsOf t)&&f.toList.all λj=>JG P n j.type
  |some (.array m e)=>jn (P.cellsOf t) (m*P.cellsOf e)&&JG P n e
  |_=>au
inductive Has {H:Type} (P:bL):aO->List V->DataW H->Prop
 |bool {t:aO} (hu:P.underlying t=J .bool) (b:Bool):Has P t [.v (.bool b)] (.lit (.bool b))
 |int {t:aO} {k:rz} (hu:P.underlying t=J (.int k)) (n:Int) (hn:(Lit.int k n).wf=aa):Has P t [.v (.int k n)] (.lit (.int k n))
 |str {t:aO} (hu:P.underlying t=J .string) (s:ByteArray) (hs:s.size<=maxLen):Has P t [.v (.string s)] (.lit (.string s.data.toList))
 |none {t e:aO} (hu:P.underlying t=J (.slice e)):Has P t [.ac .nil (P.cellsOf e) []] .nil
 |ac {t e:aO} (hu:P.underlying t=J (.slice e)) (k:Tok) (es:List (List V)) (ds sp:List (DataW H)) (hk:k=.held∨(k=.aP/\es=[])) (hl:es.length<=maxLen) (hd:ds.length=es.length)
  (he:∀(i:Nat) (r:List V) (d:DataW H),es[i]?=J r->ds[i]?=J d->Has P e r d) (hs:∀r∈es,r.length=P.cellsOf e):Has P t [.ac k (P.cellsOf e) es] (.slice ds sp)
 |struct {t:aO} {fs:Array Field} (hu:P.underlying t=J (.struct fs)) (xs:List V) (ds:List (DataW H)) (hl:xs.length=P.cellsOf t) (hd:ds.length=fs.size)
  (hf:∀(i:Nat) (f:Field) (d:DataW H),fs[i]?=J f->ds[i]?=J d->Has P f.type ((xs.drop f.offset).take (P.cellsOf f.type)) d):Has P t xs (.agg ds)
 |array {t e:aO} {n:Nat} (hu:P.underlying t=J (.array n e)) (xs:List V) (ds:List (DataW H)) (hl:xs.length=P.cellsOf t) (hd:ds.length=n)
  (he:∀(i:Nat) (d:DataW H),ds[i]?=J d->Has P e ((xs.drop (i * P.cellsOf e)).take (P.cellsOf e)) d):Has P t xs (.agg ds)
section
variable {H:Type} {Z:aO × aQ->H} {P:bL} {W:b_}
def Ul{a:Addr}{n:Nat}{vs:List aQ}(h:W.cells? 0 a n=J vs):F vs=n/\∀j,j<n->W.cell? (a.add j)=vs[j]?:=by unfold World.cells? at h;rw[aH (cC _)]at h;refine⟨by simpa using mapM_some_length h,λj f=>mapM_some_get h j j (by grind)⟩
def auE{a:Addr}{v:aQ}(h:W.cell? a=J v):a.spot=aq:=by unfold World.cell? at h;split at h<;>simp_all
def aiE{α:Type}{sz}:∀{es:List (List α)},(∀r∈es,F r=sz)->∀(i j:Nat),j<sz->es.flatten[i*sz+j]?=(es[i]?).bind (·[j]?):=by
 intro es
 induction es with
 |nil=>simp_all|cons r es s=>
  intro m i j q;have f:F r=sz:=m r gt;cases i with
  |zero=>grind
  |succ i=>rw[kJ,xm (by grind),f];have:(i+1)*sz+j-sz=i*sz+j:=(by rw[jm];omega);simp_all
end
end Go.AE
end
section
namespace Go.AE
open Go.RowKit Go.WideShapes Go.ChangeShapes
def kC{H:Type}(P:bL)(t:aO)(x:V)(d:DataW H):Prop:=
 match P.underlying t with
 |some (.struct _)|some (.array _ _)=>∃cs,x=.agg cs/\Has P t cs d
 |_=>Has P t [x] d
def rA{H:Type}(P:bL):List aO->List V->List (DataW H)->Prop
 | [],[],[]=>True
 |t::ts,x::xs,d::f=>kC P t x d/\rA P ts xs f
 |_,_,_=>False
section
variable {H:Type} {Z:aO × aQ->H} {P:bL} {W:b_}
def aer(B:laidOutB P=aa){r:b_}{z:Nat->Bool}:∀{ts:List aO} {vs:List aQ} {j:List (DataW H)} {p:List MemPlace},DataW.TrodAll Z P W 0 (λ_=>aa) aa ts vs j p->
 (∀t∈ts,P.readableRec t=true/\t<P.types.size)->(∀x∈p,W.sameAt r x)->(∀x∈p,z x.block=true)->DataW.TrodAll Z P r 0 z true ts vs j p:=by
 intro ts
 induction ts with
 |nil=>intro vs j p h _ _ _;obtain⟨rfl,rfl,rfl⟩:=trodAll_nil h;exact trodAll_mk0
 |cons t ts D=>
  intro vs j p h q s m;obtain⟨v,N,d,E,S,T,rfl,rfl,rfl,A,h2⟩:=trodAll_cons h;exact trodAll_cons_mk (WideElems.Trod_stays B (q t gt).1 (q t gt).2 A (λx f=>s x (LL _ f)) (λx f=>m x (LL _ f)))
   (D h2 (λt C=>q t (gr _ C)) (λx f=>s x (acD _ f)) (λx f=>m x (acD _ f)))
def apw{f:Func}{s:ChangeSpec}{apart fresh C T:Bool}{W B:b_}{args:Array aQ}{v:aQ}{E N:List (DataW H)}{m pa pv:List MemPlace}
 (Y:DataW.Whole Z P f.params.toList s.vars apart W args.toList E N m)
 (S:∀(b:Nat) (q:Nat->Bool) (hd:Bool),DataW.TrodAll Z P B b q hd f.resultTypes.toList (v.resultList f.resultTypes.size) (s.fn H (E++N)).results [])
 (z:∀q:Nat->Bool,(∀p∈m,q p.block=aa)->DataW.TrodAll Z P B 0 q aa f.params.toList args.toList (s.fn H (E++N)).args pa)
 (A:∀q:Nat->Bool,(∀p∈m,q p.block=aa)->DataW.TrodVars Z P B q s.vars (s.fn H (E++N)).vars pv)
 (Cp:m=pa++pv) (hb:Below W.heap.size W B)
 (fR:∀(j:Nat) (t:aO) (r:aQ),f.resultTypes[j]?=J t->(v.resultList f.resultTypes.size)[j]?=J r->Value.okWide P B .any 0 t r):
 s.post Z P f apart fresh C T W args v B:=by
 have dD:∀p∈m,p.block<W.heap.size:=λp D=>Y.lt p D;have hold:∀p∈m,(λb=>decide (b<W.heap.size)) p.block=aa:=λp D=>by simp_all
 refine⟨E,N,m,[],pa,pv,Y,S _ _ _,z _ hold,A _ hold,World.keptBut_mono (λp D=>⟨D,?_⟩) (hb.frame (·∈m)),λ_=>?_⟩
 .simp_all
 .obtain⟨_,_,_,_,_,hz,hn⟩:=Y;refine⟨fR,_,_,([]++pa)++pv,⟨[]++pa,pv,trodAll_append (z _ (λ_ _=>rfl)) (S _ _ _),A _ (λ_ _=>rfl),O,?_,?_⟩,?_⟩
  .intro b off D;have X:MemPlace.cell b off∈m:=(by rw[Cp];simpa using D);rw[hb.frozen (dD _ X)];exact hz b off X
  .simp_all
  simp_all
structure axq(P:bL)(f:a_)(fn:Func)(tb:aO):Prop where
 func:P.funcs[f]?=J fn
 laid:laidOutB P=aa
 Rr:∀t∈fn.params.toList,JG P 9 t=aa/\P.readableRec t=aa/\t<P.types.size
 res:fn.resultTypes=#[tb]
 bool:P.underlying tb=J .bool
variable {G:Nat->Option (List V)} {aS:a_->Option (List V->ah->Option (V × ah))}
end
end Go.AE
end
section
namespace Go.AE
open Go.RowKit (Below)
section
variable {K:bA} {G:Nat->Option (List V)} {ok:a_->Nat->Code->Bool} {w0 w w':b_} {h:ah}
def bZ.grown(s:bZ K G ok w0 h w)(f:Below w.heap.size w w'):bZ K G ok w0 h w':=by
 have j:∀{k:Nat} {o:Obj},w.heap[k]?=J o->w'.heap[k]?=J o:=λj=>(f.block _ (pO j)).trans j;refine⟨s.fG.trans (f.mono s.size),fB s.size f.size,λg Z c C=>?_,s.ec,s.jd,s.nQ,λb g cs B T=>?_,s.mM,s.oW,λl g D A m=>?_,s.tn,λt Y=>?_,s.oj,λD m=>?_,s.all⟩
 .rw[<-s.ic g Z c C];exact World.cell?_of_block (w:=w) (f.block g (s.wD C))
 .obtain⟨q,h2,ha,cells,e,r,z⟩:=s.box b g cs B T;simp_all
 .obtain⟨q,fn,tmps,d,h2,r⟩:=s.loop l g D A m
  grind
 .obtain⟨q,h2,r,cells,e,E,z,N,S⟩:=s.tok t Y;refine⟨q,h2,r,cells,e,E,j z,N,λZ X A=>?_⟩;rw[<-S Z X A];exact World.frozen?_of_block (w:=w) (f.block _ (pO z))
 .exact⟨(s.md D m).1,j (s.md D m).2⟩
end
end Go.AE
end
section
namespace Go.AE
def ah.push(h:ah)(cs:List V):ah:={h with I:=h.I++[cs]}
def ah.put(h:ah)(b:Nat)(cs:List V):ah:={h with I:=h.I.set b cs}
def bC(h:ah)(cs):h.box cs=(.ptr (.box (F h.I)) 0,h.push cs):=rfl
def bV(h:ah)(cs):F (h.push cs).I=F h.I+1:=by simp[ah.push]
def aU(h:ah)(cs):(h.push cs).I[F h.I]?=J cs:=by simp[ah.push]
def aX{h:ah}{cs f}{b:Nat}(j:h.I[b]?=J f):(h.push cs).I[b]?=J f:=EV j
def dM{h:ah}{cs}{b}(f:b<F h.I):(h.put b cs).I[b]?=J cs:=by simp[ah.put,f]
def cS{h:ah}{cs}{b c}(f:c≠b):(h.put b cs).I[c]?=h.I[c]?:=by simp[ah.put,mq,Ne.symm f]
def jV(h:ah)(b)(cs):F (h.put b cs).I=F h.I:=by simp[ah.put]
def du(h:ah):Bool:=h.dead.all λn=>decide (n<h.tn)
structure Ext(h h':ah):Prop where
 box:∀(b:Nat) (cs:List V),h.I[b]?=J cs->h'.I[b]?=J cs
 loop:∀(l:Nat) (r:ij),h.aI[l]?=J r->h'.aI[l]?=J r
 tn:h.tn<=h'.tn
 dead:∀n,n<h.tn->n∈h'.dead->n∈h.dead
 ok:du h=aa->du h'=aa
def Ext.refl(h):Ext h h:=⟨λ_ _ h=>h,λ_ _ h=>h,bh _,λ_ _ h=>h,λh=>h⟩
def Ext.trans{a b c}(h:Ext a b)(k:Ext b c):Ext a c:=
 ⟨λi cs j=>k.box i cs (h.box i cs j),λl s q=>k.loop l s (h.loop l s q),fB h.tn k.tn,λn f m=>h.dead n f (k.dead n (mQ f h.tn) m),λr=>k.ok (h.ok r)⟩
def Ext.push(h)(cs):Ext h (h.push cs):=⟨λ_ _ f=>aX f,λ_ _ h=>h,bh _,λ_ _ h=>h,λh=>h⟩
def Ext.fresh(h)(sz)(es):Ext h (h.fresh sz es).2:=⟨λ_ _ f=>f,λ_ _ h=>h,Nat.le_succ _,λ_ _ h=>h,λj=>by
 unfold du at *
 simp only[ah.fresh,ff,decide_eq_true_eq]at *
 grind⟩
def Ext.alive{h h'}(x:Ext h h'){n}(f:alive h n=aa):alive h' n=aa:=by
 unfold AE.alive at *
 simp only[bQ,decide_eq_true_eq,DO,xk,decide_eq_false_iff_not]at *
 exact⟨mQ f.1 x.tn,λj=>f.2 (x.dead n f.1 j)⟩
def Ext.len{h h'}(x:Ext h h'):F h.I<=F h'.I:=by
 rcases eg (F h'.I) (F h.I) with f|j
 .have m:=x.box (F h'.I) _ (aY f);simp_all
 omega
noncomputable def ID(R:Rec)(g:a_)(args:List V)(h:ah):ah:=
 match R.call g args h with
 |some (_,h')=>h'
 |none=>h
def Wu{R}{g}{args}{h h'}{r}(f:R.call g args h=J (r,h')):ID R g args h=h':=by unfold ID;rw[f]
def Hs(R:Rec)(g:a_)(args:List V)(h:ah)(r:dV):Prop:=∃h',R.call g args h=J (r,h')/\Ext h h'
def Hs.eq{R}{g}{args}{h}{r}(j:Hs R g args h r):R.call g args h=J (r,ID R g args h):=by obtain⟨h',f,-⟩:=j;rw[Wu f];exact f
def Hs.ext{R}{g}{args}{h}{r}(j:Hs R g args h r):Ext h (ID R g args h):=by obtain⟨h',f,h2⟩:=j;rw[Wu f];exact h2
def xI(P:bL)(G:Nat->Option (List V))(R:Rec)(fn:Func)(r:dV)(Post:ah->Prop):Xt->Env->ah->Prop:=λo e h=>∃h',v_ P G R fn r h' o e h/\Post h'
def aid{P}{G}{R}{fn}{r}{Post}{e}{h}:xI P G R fn r Post .normal e h=∃h',gN P G R fn e e.defers aq h=J (r,h')/\Post h':=rfl
def aif{P}{G}{R}{fn}{r}{Post}{e}{h}:xI P G R fn r Post .ret e h=∃h',gN P G R fn e e.defers aq h=J (r,h')/\Post h':=rfl
def aie{P}{G}{R}{fn}{r}{Post}{e}{h}{x}:xI P G R fn r Post (.panic x) e h=∃h',gN P G R fn e e.defers (J (x,au)) h=J (r,h')/\Post h':=rfl
def iG{P}{G}{aS}{g}{fn}{body}{args}{r}{h}{Post}(A:aS g=aq)(f:P.funcs[g]?=J fn)(z:fn.body=J body)
 (B:bM (whole P G aS) body (Env.start args aq) h (xI P G (whole P G aS) fn r Post)):∃h',(whole P G aS).call g args h=J (r,h')/\Post h':=by
 obtain⟨o,j,m,h2,h',q,s⟩:=B;exact⟨h',da A f z ⟨o,j,m,h2,q⟩,s⟩
section
variable {P:bL} {G:Nat->Option (List V)} {h:ah} {t:aO} {b off n:Nat} {cs:List V}
def fx(f:f' P t=J au)(j:h.I[b]?=J cs):aL P G h t (.ptr (.box b) off)=(cs.drop off).head?:=by unfold aL zw Qo;simp_all
def fS(f:f' P t=J aa)(q:cQ P t=J n)(j:h.I[b]?=J cs)(m:off+n<=F cs):aL P G h t (.ptr (.box b) off)=J (.agg ((cs.drop off).take n)):=by
 unfold aL zw Qo
 grind
def ru{sz i:Nat}{es:List (List V)}{row:List V}(f:f' P t=J au)(j:es[i]?=J row):aL P G h t (.elem sz es i off)=(row.drop off).head?:=by unfold aL zw;simp_all
def CO{sz i:Nat}{es:List (List V)}{row:List V}(f:f' P t=J aa)(q:cQ P t=J n)(j:es[i]?=J row)(m:off+n<=F row):aL P G h t (.elem sz es i off)=J (.agg ((row.drop off).take n)):=by
 unfold aL zw
 grind
def bj{e:aO}{k:Tok}{kk:rz}{sz:Nat}{es:List (List V)}{a:Int}(q:P.underlying t=J (.slice e))(m:cQ P e=J sz)(f:0<=a)(j:a<F es):dU P t (.ac k sz es) (.v (.int kk a))=J (.elem sz es a.toNat 0):=by unfold dU;simp_all
def At{e:aO}{kk:rz}{f o l c sz:Nat}{a:Int}(r:P.underlying t=J (.slice e))(q:cQ P e=J sz)(j:0<=a)(m:a<l):dU P t (.arr f o l c) (.v (.int kk a))=J (.ptr (.box f) (o+a.toNat*sz)):=by unfold dU;simp_all
def fI{x:V}{xs:List V}(r:x.bP=J xs)(q:cQ P t=J n)(f:h.I[b]?=J cs)(m:F xs=n)(j:off+n<=F cs):b9 P h t (.ptr (.box b) off) x=J (h.put b (ej cs off xs)):=by unfold b9;simp only[r,q,f];rw[aH ⟨m,j⟩];rfl
def ml(h:ah)(z cs):(h.push z).put (F h.I) cs=h.push cs:=by simp[ah.push,ah.put,Hh]
def vA{z xs}(f:F xs=F z):ej z 0 xs=xs:=by simp[ej,f]
def j3{x:V}{xs z:List V}(m:x.bP=J xs)(j:cQ P t=J n)(f:F xs=n)(q:F z=n):b9 P (h.push z) t (.ptr (.box (F h.I)) 0) x=J (h.push xs):=by rw[fI m j (aU h z) f af,vA af,ml]
end
end Go.AE
end
section
namespace Go.AE
section
variable {P:bL} {G:Nat->Option (List V)} {R:Rec}
def Ze(ops:Array Oper):∀(n i:Nat),i+n<=ops.size->∀(e:Env) (h:ah),cB P G R ops (Se i n) e h=opsL P G R ops ((ops.toList.drop i).take n) e h:=by
 intro n
 induction n with
 |zero=>intro i j e h;rfl|succ n q=>
  intro i j e h;have f:i<ops.size:=by omega
  have m:ops[i]?=J ops[i]:=kn f;rw[acH,uw af,List.take_succ_cons];simp only[cB,opsL,m,abR]
  grind
def oR{ops:Array Oper}{m:Nat}(f:m<=ops.size)(e:Env)(h:ah):cB P G R ops (bT m) e h=opsL P G R ops (ops.toList.take m) e h:=by rw[Sf,Ze ops m 0 af];rfl
def BK(ops:Array Oper)(cs:List Nat)(ps:List (Nat × Nat)):Bool:=
 let b:=Region.before ops
 y9 ops b&&(bT ops.size).all λf=>(bT f).all λi=>(b.getD f 0).testBit i||wL ops i f||ps.contains (i,f)||(oB ops i f&&(cs.contains i||cs.contains f))
def Na{ops:Array Oper}{cs:List Nat}{ps:List (Nat × Nat)}{e:Env}{h:ah}(f:BK ops cs ps=aa)(j:∀k∈cs,vZ P G R ops e h k)(s:∀p∈ps,jZ P G R ops e h p.1 p.2=aa):mb P G R ops e h=aa:=by
 unfold BK at f;unfold mb;simp only[bQ,ff,hy,oX]at f ⊢;refine⟨f.1,λr q i m=>?_⟩;rcases f.2 r q i m with((h1|h1)|h1)|⟨h1,h2⟩
 .simp_all
 .simp_all
 .simp_all
 .exact .inr ⟨h1,h2.imp (λz=>Ex.2 (j i (by simp_all))) (λz=>Ex.2 (j r (by simp_all)))⟩
def xC{ops:Array Oper}{e:Env}{h:ah}{k:Nat}{o:Oper}{c:Call}{x:V}(B:ops[k]?=J o)(m:o.op=.call c)
 (E:cO P G R ops (ops.toList.take k) e h (λq r _=>q=.normal/\∀j,kZ P R r j c=J (.ret x,j)))
 (h2:cO P G R ops ops.toList e h (λq _ _=>q=.normal)):vZ P G R ops e h k:=by
 have Y:k<ops.size:=(Array.getElem?_eq_some_iff.1 B).1;obtain⟨q1,r,C,z,rfl,A⟩:=E;obtain⟨q2,D,S,f1,rfl⟩:=h2;rw[<-oR af]at z;have s:cB P G R ops (bT ops.size) e h=J (.normal,D,S):=by rw[oR (bh _),<-Array.length_toList,gy];exact f1
 obtain⟨-,T,-⟩:=trace s;refine⟨o,x,r,C,B,?_,z,λZ j=>⟨_,_,T Z j,afW m (A _)⟩⟩;have N:∀b,c.callee≠ .builtin b:=λb X=>by have:=A C;unfold kZ at this;simp_all
 rw[m];obtain⟨f,args,ts⟩:=c;cases f with|builtin b=>simp_all|value z0=>rfl|invoke z1 n=>rfl
def jL{ops:Array Oper}{e:Env}{h:ah}{i j:Nat}{o:Oper}{t:aO}{a:ck}(s:oB ops i j=aa)(A:ops[i]?=J o)(m:o.op=.load t a)(X:o.guard=aq)
 (Y:(ops[j]?).map (λo=>iR o.op)=J .iO) {x v:V} (Z:dh v v=aa)
 (S:cO P G R ops (ops.toList.take i) e h (λq r B=>q=.normal/\r.eval a=x/\aL P G B t x=J v))
 (h2:cO P G R ops (ops.toList.take (j+1)) e h (λq _ z=>q=.normal/\aL P G z t x=J v)):jZ P G R ops e h i j=aa:=by
 have hi:i<ops.size:=by
  rcases eg i ops.size with f|f
  .exact f
  .simp_all
 have hjs:j<ops.size:=by
  rcases eg j ops.size with f|f
  .exact f
  .simp_all
 have T:(ops[i]?).map (λo=>iR o.op)=J .reads:=by rw[A];simp only[gc,m];rfl
 unfold jZ;rw[s,T,Y];simp only[pF];unfold oV;rw[A,oR af,oR af];obtain⟨q1,r,B,C,rfl,E,N⟩:=S;obtain⟨q2,em,z,f1,rfl,f2⟩:=h2;rw[C,f1];simp only[fh,X,m,E,N,f2,Z]
def nO{ops:Array Oper}{e:Env}{h:ah}{i j:Nat}{o:Oper}{t:aO}{a:ck}(s:oB ops i j=aa)(A:ops[j]?=J o)(m:o.op=.load t a)(X:o.guard=aq)
 (Y:(ops[i]?).map (λo=>iR o.op)=J .iO) {x v:V} (Z:dh v v=aa)
 (S:cO P G R ops (ops.toList.take j) e h (λq r B=>q=.normal/\r.eval a=x/\aL P G B t x=J v))
 (h2:cO P G R ops (ops.toList.take i) e h (λq _ z=>q=.normal/\aL P G z t x=J v)):jZ P G R ops e h i j=aa:=by
 have hi:i<ops.size:=by
  rcases eg i ops.size with f|f
  .exact f
  .simp_all
 have hjs:j<ops.size:=by
  rcases eg j ops.size with f|f
  .exact f
  .simp_all
 have T:(ops[j]?).map (λo=>iR o.op)=J .reads:=by rw[A];simp only[gc,m];rfl
 unfold jZ;rw[s,T,Y];simp only[pF];unfold oV;rw[A,oR af,oR af];obtain⟨q1,r,B,C,rfl,E,N⟩:=S;obtain⟨q2,em,z,f1,rfl,f2⟩:=h2;rw[C,f1];simp only[fh,X,m,E,N,f2,Z]
end
section
variable {P:bL} {G:Nat->Option (List V)} {aS:a_->Option (List V->ah->Option (V × ah))} {Q:Xt->Env->ah->Prop} {e:Env} {h:ah}
def Dw{id:Nat}{ops:Array Oper}(cs:List Nat)(ps:List (Nat × Nat))(j:BK ops cs ps=aa)(f:∀k∈cs,vZ P G (whole P G aS) ops e h k)(q:∀p∈ps,jZ P G (whole P G aS) ops e h p.1 p.2=aa)
 (m:cO P G (whole P G aS) ops ops.toList e h (uJ Q)):bM (whole P G aS) (.region id ops aa) e h Q:=
 QT (Na j f q) m
end
structure fY(b n0:Nat)(h h':ah):Prop where
 box:∀(c:Nat) (cs:List V),c≠b->h.I[c]?=J cs->h'.I[c]?=J cs
 len:h.I.length<=h'.I.length
 loop:∀(l:Nat) (r:ij),h.aI[l]?=J r->h'.aI[l]?=J r
 tn:h.tn<=h'.tn
 dead:∀n,n<n0->n∈h'.dead->n∈h.dead
 ok:du h=aa->du h'=aa
def fY.refl(b n0)(h):fY b n0 h h:=⟨λ_ _ _ h=>h,bh _,λ_ _ h=>h,bh _,λ_ _ h=>h,λh=>h⟩
def fY.trans{b n0}{x y z}(h:fY b n0 x y)(k:fY b n0 y z):fY b n0 x z:=
 ⟨λi cs f m=>k.box i cs f (h.box i cs f m),fB h.len k.len,λl A r=>k.loop l A (h.loop l A r),fB h.tn k.tn,λn j q=>h.dead n j (k.dead n j q),λs=>k.ok (h.ok s)⟩
def fY.F2{b n0}{h h'}(x:Ext h h')(m:n0<=h.tn):fY b n0 h h':=
 ⟨λc cs _ j=>x.box c cs j,x.len,x.loop,x.tn,λn f h2=>x.dead n (mQ f m) h2,x.ok⟩
def fY.put(b n0)(h)(cs):fY b n0 h (h.put b cs):=
 ⟨λc m j f=>by rw[cS j];exact f,by rw[jV];omega,λ_ _ h=>h,bh _,λ_ _ h=>h,λh=>h⟩
def Ext.mut{b}{f h h'}(x:Ext f h)(m:fY b f.tn h h')(C:F f.I<=b):Ext f h':=
 ⟨λc cs j=>by have A:=(bk.1 j).1;exact m.box c cs af (x.box c cs j),λl B s=>m.loop l B (x.loop l B s),fB x.tn m.tn,λn q r=>x.dead n q (m.dead n q r),λz=>m.ok (x.ok z)⟩
def ah.app(h:ah)(k:Tok):ah:=
 match k with
 | .free n=>{h with dead:=n::h.dead,tn:=h.tn+1}
 |_=>{h with tn:=h.tn+1}
def ey(h:ah)(k):(h.app k).I=h.I:=by cases k<;>rfl
def Br(h:ah)(k):(h.app k).aI=h.aI:=by cases k<;>rfl
def Et(h:ah)(k):(h.app k).tn=h.tn+1:=by cases k<;>rfl
def dm(n0:Nat)(h:ah)(k:Tok):Prop:=k=.nil∨k=.aP∨∃n,k=.free n/\n0<=n/\alive h n=aa
def fY.app{b n0}{h}{k}(r:dm n0 h k):fY b n0 h (h.app k):=by
 refine⟨λc cs _ s=>by rw[ey];exact s,by rw[ey];omega,λl D z=>by rw[Br];exact z,by rw[Et];omega,?_,?_⟩
 .rcases r with rfl|rfl|⟨C,rfl,A,m⟩
  .exact λn _ f=>f
  .exact λn _ f=>f
  .intro n f q;rcases hh.1 q with rfl|q<;>omega
 .intro B;have j:∀n∈h.dead,n<h.tn+1:=λn f=>by
   have:=ff.1 B n f
   grind
  rcases r with rfl|rfl|⟨C,rfl,A,m⟩
  .exact ff.2 λn f=>cD (j n f)
  .exact ff.2 λn f=>cD (j n f)
  .refine ff.2 λn f=>cD ?_;rcases hh.1 f with rfl|f
   .unfold alive at m;simp only[bQ,decide_eq_true_eq]at m;show n<h.tn+1;omega
   .exact j n f
def Ext.app{f h}{k}(x:Ext f h)(j:dm f.tn h k):Ext f (h.app k):=by have m:=fY.app (b:=h.I.length) j;exact x.mut m x.len
def aei{h}{k}(r:du h=aa)(q:dm 0 h k):alive (h.app k) h.tn=aa:=by
 have f:h.dead.contains h.tn=au:=by rw[abX];intro s;have:=ff.1 r h.tn (by simp_all);simp at this
 unfold alive;rw[Et];rcases q with rfl|rfl|⟨z,rfl,-,j⟩
 .simp only[ah.app,f];simp
 .simp only[ah.app,f];simp
 .unfold alive at j;simp only[bQ,decide_eq_true_eq]at j;have m:¬(h.tn=z):=by omega
  have h2:¬(h.tn∈h.dead):=by simpa using f
  simp[ah.app,m,h2]
def dm.mono{n0}{h}{k}(m:dm n0 h k){f}(r:f<=n0):dm f h k:=by
 rcases m with rfl|rfl|⟨s,rfl,q,j⟩
 .exact .inl O
 .exact .inr (.inl O)
 .exact .inr (.inr ⟨s,O,by omega,j⟩)
def dm.ext{n0}{h h'}{k}(j:dm n0 h k)(x:Ext h h'):dm n0 h' k:=by
 rcases j with rfl|rfl|⟨q,rfl,m,f⟩
 .exact .inl O
 .exact .inr (.inl O)
 .exact .inr (.inr ⟨q,O,m,x.alive f⟩)
def dm.next{n0}{h}{k}(f:dm n0 h k)(m:du h=aa)(j:n0<=h.tn):dm n0 (h.app k) (.free h.tn):=
 .inr (.inr ⟨h.tn,O,j,aei m (f.mono (cC _))⟩)
end Go.AE
end
section
namespace Go.AE
def rA.cons_inv{H}{P}{t}{ts}{xs}{f:List (DataW H)}(h:rA P (t::ts) xs f):∃x m d j,xs=x::m/\f=d::j/\kC P t x d/\rA P ts m j:=by
 cases xs with
 |nil=>cases f<;>exact h.elim
 |cons x xs=>
  cases f with|nil=>exact h.elim|cons d f=>exact⟨x,xs,d,f,O,O,h.1,h.2⟩
def rA.anO{H}{P}{xs}{f:List (DataW H)}(h:rA P [] xs f):xs=[]:=by
 cases xs with|nil=>rfl|cons x xs=>cases f<;>exact h.elim
section
variable {P:bL} {t:aO} {x y:ck}
def Dd{d:TypeDesc}(f:P.underlying t=J d):dQ P (underlying t)=J d:=by unfold underlying;simp only[iD];show(J P).bind _=_;simp only[jO,f];rfl
def Ty{v:aQ}{r:Array (String × aO)}(q:P.underlying t=J (.interface r)):df P .neq t x (.const v) (.v .nilIface) (.v .nilIface)=J (.v (.bool au)):=by
 have f:df P .neq t x (.const v) (.v .nilIface) (.v .nilIface)=(dQ P (do eqGuard .neq t x (.const v) .nilIface .nilIface;binOp .neq t .nilIface .nilIface)).bind lH:=rfl;have h2:dQ P (eqGuard .neq t x (.const v) .nilIface .nilIface)=J ():=by cases x<;>rfl
 have j:dQ P (Op.equal t .nilIface .nilIface)=J aa:=by unfold Op.equal Op.maxDepth Op.equalIn;rw[iD,Dd q];rfl
 have m:dQ P (binOp .neq t .nilIface .nilIface)=J (.bool au):=by show dQ P (do pure (Value.bool (!(<-Op.equal t .nilIface .nilIface))))=_;rw[iD,j];rfl
 rw[f,iD,h2,jO,m];rfl
def ae9{u:aO}{z:V}(hi:isIface P t=J aa):df P .neq t x y (.iface u z) (.v .nilIface)=J (.v (.bool aa)):=by show(if isIface P t=J aa then s_ .neq au else aq)=_;rw[aH hi];rfl
end
end Go.AE
end
section
namespace Go.AE
section
variable {h:ah} {cs:List V} {b c:Nat} {k:Tok}
def ajc:(h.push cs).I[F h.I]?=J cs:=aU h cs
def nB(f:c=F h.I):(h.push cs).I[c]?=J cs:=by subst f;exact aU h cs
def ajd(f:c≠F h.I):(h.push cs).I[c]?=h.I[c]?:=by
 unfold ah.push
 grind
def aje(f:b<F h.I):(h.put b cs).I[b]?=J cs:=dM f
def ajf(f:c≠b):(h.put b cs).I[c]?=h.I[c]?:=cS f
def ajb:(h.app k).I[c]?=h.I[c]?:=by rw[ey]
def Yt:F (h.app k).I=F h.I:=by rw[ey]
end
def tj{n0}{h}{cs}{k}:dm n0 (h.push cs) k=dm n0 h k:=rfl
def Bz{n0 b}{h}{cs}{k}:dm n0 (h.put b cs) k=dm n0 h k:=rfl
def Ext.gw{h h'}(x:Ext h h'){b}(q:F h.I<=b)(cs):Ext h (h'.put b cs):=by refine⟨λc j f=>?_,x.loop,x.tn,x.dead,x.ok⟩;have m:c<F h.I:=(bk.1 f).1;rw[cS af];exact x.box c j f
section
variable {P:bL} {G:Nat->Option (List V)} {h:ah} {t:aO} {b off n:Nat} {cs:List V}
def avj{z:aQ}(m:cQ P t=J 1)(f:h.I[b]?=J cs)(j:off+1<=F cs):b9 P h t (.ptr (.box b) off) (.v z)=J (h.put b (ej cs off [.v z])):=fI O m f O j
def avh{k:Tok}{sz:Nat}{es:List (List V)}(m:cQ P t=J 1)(f:h.I[b]?=J cs)(j:off+1<=F cs):b9 P h t (.ptr (.box b) off) (.ac k sz es)=J (h.put b (ej cs off [.ac k sz es])):=fI O m f O j
def aur{l:List UInt8}{k N:rz}{lo hi:Int}(m:P.underlying t=J .string)(q:0<=lo)(r:lo<=hi)(h2:hi<=F l):
 gY P t (.v (.string (bs l))) (J (.v (.int k lo))) (J (.v (.int N hi))) aq=J (.v (.string (bs ((l.take hi.toNat).drop lo.toNat)))):=by
 unfold gY;simp only[Ho,A2,jw,if_false,m,zn];have f:gE (F l) (J (V.v (.int N hi))) (F l)=J hi.toNat:=by unfold gE;simp only;grind
 have j:gE hi.toNat (J (V.v (.int k lo))) 0=J lo.toNat:=by unfold gE;simp only;grind
 simp only[f,j,MB]
def aus{l:List UInt8}{k:rz}{lo:Int}(m:P.underlying t=J .string)(q:0<=lo)(r:lo<=F l):
 gY P t (.v (.string (bs l))) (J (.v (.int k lo))) aq aq=J (.v (.string (bs (l.drop lo.toNat)))):=by
 unfold gY;simp only[Ho,A2,jw,if_false,m,zn];have f:gE (F l) aq (F l)=J (F l):=rfl;have j:gE (F l) (J (V.v (.int k lo))) 0=J lo.toNat:=by unfold gE;simp only;simp_all
 simp only[f,j,MB,gy]
def aut{l:List UInt8}{N:rz}{hi:Int}(m:P.underlying t=J .string)(q:0<=hi)(h2:hi<=F l):
 gY P t (.v (.string (bs l))) aq (J (.v (.int N hi))) aq=J (.v (.string (bs (l.take hi.toNat)))):=by
 unfold gY;simp only[Ho,A2,jw,if_false,m,zn];have f:gE (F l) (J (V.v (.int N hi))) (F l)=J hi.toNat:=by unfold gE;simp only;simp_all
 have j:gE hi.toNat aq 0=J 0:=rfl;simp only[f,j,MB,gP]
def anQ{r:Ref}:PK (.ptr r off)=J (.ptr r off):=rfl
end
end Go.AE
end
section
namespace Go.AE
def Env.BJ(e:Env)(d:a_ × List V):Env:={e with defers:=d::e.defers}
def Env.pn(e:Env)(p:Option (V × Bool)):Env:={e with dg:=p}
section
variable {e:Env} {d:a_ × List V} {p:Option (V × Bool)} {t:Nat}
def ahM:(e.BJ d).get t=e.get t:=rfl
def ahL:(e.BJ d).defers=d::e.defers:=rfl
def ahN:(e.BJ d).dg=e.dg:=rfl
def UO:(e.BJ d).round=e.round:=rfl
def apc:(e.pn p).get t=e.get t:=rfl
def apb:(e.pn p).defers=e.defers:=rfl
def apd:(e.pn p).dg=p:=rfl
def ZI:(e.pn p).round=e.round:=rfl
end
def RK(P:bL)(G:Nat->Option (List V))(R:Rec)(ops:Array Oper)(rest:List Oper)(d:Option Tmp)(args:List V)(e:Env)(h:ah)(Q:Xt->Env->ah->Prop)(x:V):Prop:=
 match x with
 | .func (.func g) first f=>cO P G R ops rest ((e.BJ (g,first++args++f)).put d (.tuple [])) h Q
 |_=>False
def Mc(P:bL)(G:Nat->Option (List V))(R:Rec)(ops:Array Oper)(rest:List Oper)(d:Option Tmp)(e:Env)(h:ah)(Q:Xt->Env->ah->Prop)(p:Option (V × Bool)):Prop:=
 match p with
 |some (x,au)=>cO P G R ops rest ((e.pn (J (x,aa))).put d x) h Q
 |_=>cO P G R ops rest (e.put d (.v .nilIface)) h Q
section
variable {P:bL} {G:Nat->Option (List V)} {R:Rec} {ops:Array Oper} {rest:List Oper} {e:Env} {h:ah} {Q:Xt->Env->ah->Prop} {d:Option Tmp} {ty:aO} {pos:String} {Y:Array Edge}
def arq{f:ck}{args:Array ck}{ts:Array aO}(q:e.round=aq):cO P G R ops (⟨d,.defer {callee:=.value f,args,argTypes:=ts},ty,pos,Y,aq⟩::rest) e h Q=RK P G R ops rest d (args.toList.map e.eval) e h Q (e.eval f):=by
 rw[ata q];generalize e.eval f=y;rcases y with _|_|_|_|_|_|_|_|⟨j,a,b⟩|_|_
 case func=>cases j<;>rfl
 all_goals rfl
def ahK{g:a_}{first ba args:List V}:RK P G R ops rest d args e h Q (.func (.func g) first ba)=cO P G R ops rest ((e.BJ (g,first++args++ba)).put d (.tuple [])) h Q:=rfl
def arH{args:Array ck}{ts:Array aO}(f:e.round=aq):cO P G R ops (⟨d,.call {callee:=.builtin .recover,args,argTypes:=ts},ty,pos,Y,aq⟩::rest) e h Q=Mc P G R ops rest d e h Q e.dg:=by
 rw[ate f];rcases hp:e.dg with _|⟨x,b⟩
 .rfl
 .cases b<;>rfl
def aqz{x:V}:Mc P G R ops rest d e h Q (J (x,au))=cO P G R ops rest ((e.pn (J (x,aa))).put d x) h Q:=rfl
def aqy:Mc P G R ops rest d e h Q aq=cO P G R ops rest (e.put d (.v .nilIface)) h Q:=rfl
def Rs{fn:Func}{g:a_}{args:List V}{f:List (a_ × List V)}{x:V}{h':ah}(j:R.iS g args aq h=J (.ret x,aq,h')):gN P G R fn e ((g,args)::f) aq h=gN P G R fn e f aq h':=by rw[gN,j]
def aws{fn:Func}{g:a_}{args:List V}{f:List (a_ × List V)}{x y z:V}{h':ah}(j:R.iS g args (J (y,au)) h=J (.ret x,J (z,aa),h')):gN P G R fn e ((g,args)::f) (J (y,au)) h=gN P G R fn e f aq h':=by rw[gN,j]
end
end Go.AE
end
section
namespace Go.AE
def BR(P:bL)(G:Nat->Option (List V))(R:Rec)(fn:Func)(Post:dV->ah->Prop):Xt->Env->ah->Prop:=λo e h=>∃f h',v_ P G R fn f h' o e h/\Post f h'
def ah7{P}{G}{R}{fn}{Post}{e}{h}:BR P G R fn Post .normal e h=∃r h',gN P G R fn e e.defers aq h=J (r,h')/\Post r h':=rfl
def ah9{P}{G}{R}{fn}{Post}{e}{h}:BR P G R fn Post .ret e h=∃r h',gN P G R fn e e.defers aq h=J (r,h')/\Post r h':=rfl
def ah8{P}{G}{R}{fn}{Post}{e}{h}{x}:BR P G R fn Post (.panic x) e h=∃r h',gN P G R fn e e.defers (J (x,au)) h=J (r,h')/\Post r h':=rfl
def cA{P}{G}{aS}{g}{fn}{body}{args}{h}{Post}(A:aS g=aq)(f:P.funcs[g]?=J fn)(z:fn.body=J body)
 (B:bM (whole P G aS) body (Env.start args aq) h (BR P G (whole P G aS) fn Post)):∃r h',(whole P G aS).call g args h=J (r,h')/\Post r h':=by
 obtain⟨o,j,m,h2,r,h',q,s⟩:=B;exact⟨r,h',da A f z ⟨o,j,m,h2,q⟩,s⟩
end Go.AE
end
section
namespace Go.AE
section
variable {P:bL} {h:ah} {ts:Array aO} {ty:aO} {k:rz} {a b:Int}
def AB:iQ P h .max ts ty [.v (.int k a),.v (.int k b)]=J (.v (.int k (if a<b then b else a)),h):=by
 have f:iQ P h .max ts ty [.v (.int k a),.v (.int k b)]=((dQ P (Builtin.max_ ts ty #[.int k a,.int k b])).bind lH).map (·,h):=rfl;rw[f];have h2:dQ P (Builtin.max_ ts ty #[.int k a,.int k b])=J (.int k (if a<b then b else a)):=by simp[Builtin.max_,Builtin.max2];split<;>simp_all<;>rfl
 rw[h2];split<;>rfl
def FR:iQ P h .min ts ty [.v (.int k a),.v (.int k b)]=J (.v (.int k (if b<a then b else a)),h):=by
 have f:iQ P h .min ts ty [.v (.int k a),.v (.int k b)]=((dQ P (Builtin.min_ ts ty #[.int k a,.int k b])).bind lH).map (·,h):=rfl;rw[f];have h2:dQ P (Builtin.min_ ts ty #[.int k a,.int k b])=J (.int k (if b<a then b else a)):=by simp[Builtin.min_,Builtin.min2];split<;>simp_all<;>rfl
 rw[h2];split<;>rfl
def amC{t:aO}{x:V}:iQ P h .len #[t] ty [x]=(dw P t x).map (·,h):=rfl
def HP{t:aO}{x:V}:iQ P h .cap #[t] ty [x]=(BB P t x).map (·,h):=rfl
def append_eq{d:Option Tmp}{s x:V}:qh P (λ_=>aq) d h .append ts ty [s,x]=gC P h ts s x:=rfl
def ael{G:Nat->Option (List V)}{d:Option Tmp}{s x:V}(f:GK G d ty=au):qh P G d h .append ts ty [s,x]=gC P h ts s x:=by unfold qh;simp_all
def aem{G:Nat->Option (List V)}{d:Option Tmp}{s x:V}(f:GK G d ty=aa):qh P G d h .append ts ty [s,x]=ng P h ts s x:=by unfold qh;simp_all
def copy_eq{s x:V}:iQ P h .copy ts ty [s,x]=xE P h ts s x:=rfl
end
end Go.AE
end
section
namespace Go.AE
section
variable {H:Type} {P:bL} {t e:aO} {cs xs:List V} {x:V} {d:DataW H}
def Has.XO{k:rz}(h:Has P t cs d)(m:P.underlying t=J (.int k)):∃n:Int,cs=[.v (.int k n)]/\k.min<=n/\n<=k.max:=by
 cases h with
 |int f n j=>rw[m]at f;injection f with f;injection f with f;subst f;exact⟨n,O,by simpa [Lit.wf] using j⟩
 |bool f=>simp_all|str f=>simp_all|none f=>simp_all|ac f=>simp_all|struct f=>simp_all|array f=>simp_all
def Has.tL(h:Has P t cs d)(j:P.underlying t=J (.int .i64)):∃n:Int,cs=[.v (.int .i64 n)]/\ -9223372036854775808<=n/\n<=9223372036854775807:=by obtain⟨n,m,h2,f⟩:=h.XO j;simp[IntKind.min,IntKind.max,IntKind.signed,IntKind.bits]at h2 f;simp_all
def Has.KL(h:Has P t cs d)(q:P.underlying t=J (.int .u8)):∃b:UInt8,cs=iF b:=by
 obtain⟨n,f,h2,m⟩:=h.XO q;simp[IntKind.min,IntKind.max,IntKind.signed,IntKind.bits]at h2 m;refine⟨UInt8.ofNat n.toNat,?_⟩;have j:((UInt8.ofNat n.toNat).toNat:Int)=n:=by
  have:(UInt8.ofNat n.toNat).toNat=n.toNat:=by simp;omega
  rw[this];omega
 rw[f,iF,j]
def Has.AP(h:Has P t cs d)(m:P.underlying t=J (.slice e)):∃(k:Tok) (es:List (List V)),cs=[.ac k (P.cellsOf e) es]/\F es<=maxLen/\(k=.nil∨k=.held∨(k=.aP/\es=[]))/\(k=.nil->es=[])/\
 ∀r∈es,F r=P.cellsOf e/\∃d:DataW H,Has P e r d:=by
 cases h with
 |bool f=>simp_all|int f=>simp_all|str f=>simp_all|none f=>
  rw[m]at f;injection f with f;injection f with f;subst f
  grind
 |ac f k es q E A B D s C=>
  rw[m]at f;injection f with f;injection f with f;subst f;refine⟨k,es,O,B,.inr A,?_,λr j=>⟨C r j,?_⟩⟩
  .grind
  .obtain⟨i,z,rfl⟩:=xo.1 j;exact⟨q[i],s i _ _ (aY z) (aY af)⟩
 |struct f=>simp_all|array f=>simp_all
def Has.KE{q:Array Field}{m:List (aO × Nat)}(h:Has P t xs d)(E:P.underlying t=J (.struct q))(B:(q.toList.map λf=>(f.type,f.offset))=m):
 xs.length=P.cellsOf t/\∀(i:Nat) (u:aO) (o:Nat),m[i]?=J (u,o)->∃d:DataW H,Has P u ((xs.drop o).take (P.cellsOf u)) d:=by
 cases h with
 |bool j=>simp_all|int j=>simp_all|str j=>simp_all|none j=>simp_all|ac j=>simp_all|array j=>simp_all|struct j xs s D N z=>
  rw[E]at j;injection j with j;injection j with j;subst j;refine⟨D,λi u o r=>?_⟩;rw[<-B,eF]at r;cases A:q.toList[i]? with
  |none=>simp_all|some f=>
   rw[A]at r;simp only[gc,d_,dz]at r;have C:i<F s:=(by have:=(bk.1 A).1;simp at this;omega);have:=z i f s[i] (by simp_all) (aY C)
   grind
def kC.plain(h:kC P t x d)(m:∀f,P.underlying t≠J (.struct f))(j:∀n e,P.underlying t≠J (.array n e)):Has P t [x] d:=by unfold kC at h;simp_all
def kC.tL(h:kC P t x d)(j:P.underlying t=J (.int .i64)):∃n:Int,x=.v (.int .i64 n)/\ -9223372036854775808<=n/\n<=9223372036854775807:=by obtain⟨l,m,h2⟩:=(h.plain (λ_ f=>by simp_all) (λ_ _ f=>by simp_all)).tL j;simp_all
def kC.KL(h:kC P t x d)(m:P.underlying t=J (.int .u8)):∃b:UInt8,x=.v (.int .u8 b.toNat):=by
 obtain⟨l,f⟩:=(h.plain (λ_ j=>by simp_all) (λ_ _ j=>by simp_all)).KL m;injection f with f
 grind
def kC.AP(h:kC P t x d)(j:P.underlying t=J (.slice e)):∃(k:Tok) (es:List (List V)),x=.ac k (P.cellsOf e) es/\F es<=maxLen/\(k=.nil∨k=.held∨(k=.aP/\es=[]))/\(k=.nil->es=[])/\
 ∀r∈es,F r=P.cellsOf e/\∃d:DataW H,Has P e r d:=by
 obtain⟨k,es,m,h2⟩:=(h.plain (λ_ f=>by simp_all) (λ_ _ f=>by simp_all)).AP j
 grind
def kC.KE{f:Array Field}(h:kC P t x d)(j:P.underlying t=J (.struct f)):∃xs,x=.agg xs/\Has P t xs d:=by unfold kC at h;simp_all
def AR(P:bL)(t:aO)(f:List (aO × Nat)):Bool:=
 match P.underlying t with
 |some (.struct j)=>decide ((j.toList.map λm=>(m.type,m.offset))=f)
 |_=>au
def abj{j:List (aO × Nat)}(h:AR P t j=aa):∃m:Array Field,P.underlying t=J (.struct m)/\(m.toList.map λf=>(f.type,f.offset))=j:=by
 unfold AR at h
 grind
def kC.fields{f:List (aO × Nat)}(h:kC P t x d)(r:AR P t f=aa):∃xs,x=.agg xs/\F xs=P.cellsOf t/\∀(i:Nat) (u:aO) (o:Nat),f[i]?=J (u,o)->∃d:DataW H,Has P u ((xs.drop o).take (P.cellsOf u)) d:=by obtain⟨s,j,q⟩:=abj r;obtain⟨xs,m,h2⟩:=h.KE j;exact⟨xs,m,h2.KE j q⟩
def Has.fields{f:List (aO × Nat)}(h:Has P t xs d)(m:AR P t f=aa):F xs=P.cellsOf t/\∀(i:Nat) (u:aO) (o:Nat),f[i]?=J (u,o)->∃d:DataW H,Has P u ((xs.drop o).take (P.cellsOf u)) d:=by obtain⟨r,q,j⟩:=abj m;exact h.KE q j
def tP{α:Type}{l:List α}(h:F l=2):∃a b,l=[a,b]:=by
 match l,h with
 | [a,b],_=>exact⟨a,b,O⟩
def Qw{α:Type}{f}:∀{es:List (List V)},(∀r∈es,∃a,r=f a)->∃l:List α,es=l.map f:=by
 intro es
 induction es with
 |nil=>simp_all|cons r es m=>intro h;obtain⟨a,rfl⟩:=h r gt;obtain⟨l,rfl⟩:=m λr j=>h r (gr _ j);exact⟨a::l,O⟩
end
end Go.AE
end
section
namespace Go.AE
end Go.AE
end
section
namespace Go.AE
section
variable {a b:Nat × ck} {i k:Nat} {n:Int} {x:ByteArray} {l:List (Nat × ck)}
def agk:uM #[]=au:=rfl
def agl:uM #[a]=au:=by
 obtain⟨i,o⟩:=a;cases o with
 |const v=>
  cases v with
  |int k n=>cases k<;>rfl
  |_=>rfl
 |_=>rfl
def agn:uM (LN ((i,.tmp k)::l))=au:=rfl
def agj:uM (LN ((i,.const (.int .i64 n))::l))=au:=rfl
def agm:uM (LN ((i,.const (.string x))::l))=au:=rfl
def ago:uM (LN ((i,.const (.int .u8 n))::b::l))=aa:=rfl
end
set_option linter.defProp false in
def goS:=ar @run_seq (ar @atq (ar @ath (ar @atg (ar @atk (ar @atr (ar @att (ar @atl (ar @ats (ar @at4 (ar @at6 (ar @at3 (ar @at5 (ar @afB (ar @afD (ar @TF (ar @afC (ar @am4 (ar @am6 (ar @am3 (ar @am5 (ar @af3 (ar @af4 (ar @afM (ar @afJ (ar @ajI (ar @ajH (ar @ajE (ar @ajD (ar @ajJ (ar @ajA (ar @ajz (ar @auu (ar @atc (ar @atb (ar @arE (ar @ari (ar @arG (ar @arf (ar @ark (ar @arl (ar @arm (ar @ary (ar @arJ (ar @arF (ar @arj (ar @arL (ar @aro (ar @arA (ar @arz (ar @arB (ar @arI (ar @aru (ar @art (ar @arw (ar @arv (ar @arK (ar @ars (ar @arx (ar @arn (ar @arh (ar @arp (ar @arD (ar @arC (ar @atf (ar @adZ (ar @adY (ar @adX (ar @TW (ar @TX (ar @apW (ar @apU (ar @KA (ar @auP (ar @auQ (ar @aa3 (ar @auY (ar @auX (ar @auZ (ar @Rb (ar @BS (ar @eval_const (ar @eval_func (ar @eval_global (ar @aof (ar @aoe (ar @aok (ar @aoh (ar @aog (ar @aoi (ar @aoj (ar @aod (ar @afO (ar @zn (ar @Tx (ar @afj (ar @afc (ar @afe (ar @afg (ar @ae6 (ar @afd (ar @afb (ar @afa (ar @ae8 (ar @ae7 (ar @afh (ar @afi (ar @Tz (ar @awl (ar @awk (ar @Yu (ar @Pl (ar @Jt (ar @alp (ar @ao6 (ar @jq (ar @Nd (ar @aia (ar @aic (ar @aib (ar @aid (ar @aif (ar @aie (ar @awq (ar @awr (ar @Bool.not_true (ar @Bool.not_false (ar @jw (ar @decide_true (ar @decide_false (ar @not_true_eq_false (ar @not_false_eq_true (ar @fe (ar @Int.toNat_zero (ar @Nat.succ_ne_zero (ar @AB (ar @FR (ar @amC (ar @HP (ar @append_eq (ar @copy_eq (ar @agk (ar @agl (ar @agn (ar @agj (ar @agm (@ago))))))))))))))))))))))))))))))))))))))))))))))))))))))))))))))))))))))))))))))))))))))))))))))))))))))))))))))))))))))))))))))))))))))))))))))))))
set_option linter.defProp false in
def goH:=ar @ah7 (ar @ah9 (ar @ah8 (ar @Rs (ar @aws (ar @atd (ar @arq (ar @ahK (ar @arH (ar @aqz (ar @aqy (ar @ahM (ar @ahL (ar @ahN (ar @UO (ar @apc (ar @apb (ar @apd (ar @ZI (ar @fx (ar @fS (ar @avj (ar @avh (ar @aur (ar @aus (ar @aut (ar @anQ (ar @bC (ar @nT (@yR)))))))))))))))))))))))))))))
end Go.AE
end
section
namespace Go.AE
section
variable {P:bL} {G:Nat->Option (List V)} {aS:a_->Option (List V->ah->Option (V × ah))} {Q:Xt->Env->ah->Prop} {e:Env} {h:ah}
def Jw(e:Env)(params:Array Tmp)(assign body:Code):ij:={tmps:=e.tmps,params,assign,body,state:=.ready,pending:=aq}
def ah.loop(h:ah)(r:ij):ah:={h with aI:=h.aI++[r]}
def ah.done(h:ah)(l:Nat)(r:ij):ah:={h with aI:=h.aI.set l {r with state:=.exhausted}}
def ato{f:ck}{params:Array Tmp}{assign body:Code}{g:a_}{first ba:List V}(q:e.eval f=.func (.func g) first ba){x:V}{h':ah}
 (m:(whole P G aS).call g (first++[.yield (F h.aI)]++ba) (h.loop (Jw e params assign body))=J (.panic x,h')) (r:Q (.panic x) e h'):
 bM (whole P G aS) (.rangeFunc f params assign body) e h Q:=by
 unfold bM;rw[qM];unfold fQ;have j:(whole P G aS).call g (first++[.yield (F h.aI)]++ba) {h with aI:=h.aI++[{tmps:=e.tmps,params,assign,body,state:=.ready,pending:=aq}]}=J (.panic x,h'):=m;simp only[q,j];exact⟨_,_,_,O,r⟩
def ZS1{p:Prop}(h:p:=by
 unfold bM;rw[qM];unfold fQ;have j:(whole P G aS).call g (first++[.yield (F h.aI)]++ba) {h with aI:=h.aI++[{tmps:=e.tmps,params,assign,body,state:=.ready,pending:=aq}]}=J (.ret x,h'):=s;simp only[z,j,B,m];rw[aV q];refine⟨_,_,_,O,?_⟩;simpa only[ah.done,m] using A):p:=h
def atn{f:ck}{params:Array Tmp}{assign body:Code}{g:a_}{first ba:List V}(z:e.eval f=.func (.func g) first ba){x:V}{h':ah}{r:ij}
 (s:(whole P G aS).call g (first++[.yield (F h.aI)]++ba) (h.loop (Jw e params assign body))=J (.ret x,h')) (B:h'.aI[F h.aI]?=J r) (q:r.state≠ .busy) (m:r.pending=aq)
 (A:Q .normal e (h'.done (F h.aI) r)):bM (whole P G aS) (.rangeFunc f params assign body) e h Q:=ZS1
def atp{f:ck}{params:Array Tmp}{assign body:Code}{g:a_}{first ba:List V}(z:e.eval f=.func (.func g) first ba){x:V}{h':ah}{r:ij}
 (s:(whole P G aS).call g (first++[.yield (F h.aI)]++ba) (h.loop (Jw e params assign body))=J (.ret x,h')) (B:h'.aI[F h.aI]?=J r) (q:r.state≠ .busy) (m:r.pending=J .ret)
 (A:Q .ret e (h'.done (F h.aI) r)):bM (whole P G aS) (.rangeFunc f params assign body) e h Q:=ZS1
def oe(l:Nat)(r:ij)(args:List V):Env:={tmps:=Dz r.params.toList args r.tmps,defers:=[],dg:=aq,round:=J l}
def ah.busy(h:ah)(l:Nat)(r:ij):ah:={h with aI:=h.aI.set l {r with state:=.busy}}
def asa(l:Nat)(x:dV)(h':ah):Xt->Env->ah->Prop
 | .normal,_,h2=>∃r,h2.aI[l]?=J r/\x=.ret (.v (.bool aa))/\h'={h2 with aI:=h2.aI.set l {r with state:=.ready,pending:=aq}}
 | .ret,_,h2=>∃r,h2.aI[l]?=J r/\x=.ret (.v (.bool au))/\h'={h2 with aI:=h2.aI.set l {r with state:=.done,pending:=J .ret}}
 | .exit id,_,h2=>∃r,h2.aI[l]?=J r/\x=.ret (.v (.bool au))/\h'={h2 with aI:=h2.aI.set l {r with state:=.done,pending:=J (.exit id)}}
 | .panic f,_,h2=>x=.panic f/\h'=h2
def J9{l:Nat}{args:List V}{r:ij}{x:dV}{h':ah}(N:h.aI[l]?=J r)(S:r.params.size=F args)
 (E:bM (whole P G aS) r.assign (oe l r args) h (λo j h1=>o=.normal/\∃r2,h1.aI[l]?=J r2/\r2.state=.ready/\bM (whole P G aS) r.body j (h1.busy l r2) (asa l x h'))):
 (whole P G aS).round l args h=J (x,h'):=by
 rw[awL];unfold uh;obtain⟨o,j,h1,B,rfl,r2,T,X,s,C,D,Y,m⟩:=E;have q:(whole P G aS).code r.assign {tmps:=Dz r.params.toList args r.tmps,defers:=[],dg:=aq,round:=J l} h=J (.normal,j,h1):=B;have z:(whole P G aS).code r.body j {h1 with aI:=h1.aI.set l {r2 with state:=.busy}}=J (s,C,D):=Y;simp only[N,S,if_true,q,T,X];rw[show({h1 with aI:=h1.aI.set l {tmps:=r2.tmps,params:=r2.params,assign:=r2.assign,body:=r2.body,state:=LoopState.busy,pending:=r2.pending}}:ah)={h1 with aI:=h1.aI.set l {r2 with state:=.busy}} from O,z];cases s with
 |normal=>obtain⟨A,f,rfl,rfl⟩:=m;simp only[f,gc]
 |ret=>obtain⟨A,f,rfl,rfl⟩:=m;simp only[f,gc]
 |exit id=>obtain⟨A,f,rfl,rfl⟩:=m;simp only[f,gc]
 |panic Z=>obtain⟨rfl,rfl⟩:=m;rfl
end
end Go.AE
end
section
namespace Go.AE
structure Fr(bn l0 n0:Nat)(h h':ah):Prop where
 box:∀(c:Nat) (cs:List V),c≠bn->h.I[c]?=J cs->h'.I[c]?=J cs
 len:h.I.length<=h'.I.length
 loop:∀(l:Nat) (r:ij),l<l0->h.aI[l]?=J r->h'.aI[l]?=J r
 FN:h.aI.length<=h'.aI.length
 tn:h.tn<=h'.tn
 dead:∀n,n<n0->n∈h'.dead->n∈h.dead
 ok:du h=aa->du h'=aa
def Fr.refl(bn l0 n0)(h):Fr bn l0 n0 h h:=⟨λ_ _ _ h=>h,bh _,λ_ _ _ h=>h,bh _,bh _,λ_ _ h=>h,λh=>h⟩
def Fr.trans{bn l0 n0}{a b c}(h:Fr bn l0 n0 a b)(k:Fr bn l0 n0 b c):Fr bn l0 n0 a c:=
 ⟨λi cs f q=>k.box i cs f (h.box i cs f q),fB h.len k.len,λl A j z=>k.loop l A j (h.loop l A j z),fB h.FN k.FN,fB h.tn k.tn,λn m r=>h.dead n m (k.dead n m r),λs=>k.ok (h.ok s)⟩
def Ext.FN{h h'}(x:Ext h h'):F h.aI<=F h'.aI:=by
 rcases eg (F h'.aI) (F h.aI) with f|j
 .have m:=x.loop (F h'.aI) _ (aY f);simp_all
 omega
def Fr.F2{bn l0 n0}{h h'}(x:Ext h h')(q:n0<=h.tn):Fr bn l0 n0 h h':=
 ⟨λc cs _ j=>x.box c cs j,x.len,λl r _ m=>x.loop l r m,x.FN,x.tn,λn f h2=>x.dead n (mQ f q) h2,x.ok⟩
def Fr.push(bn l0 n0)(h)(cs):Fr bn l0 n0 h (h.push cs):=
 ⟨λ_ _ _ f=>aX f,by rw[bV];omega,λ_ _ _ h=>h,bh _,bh _,λ_ _ h=>h,λh=>h⟩
def Fr.put(bn l0 n0)(h)(cs):Fr bn l0 n0 h (h.put bn cs):=
 ⟨λc m j f=>by rw[cS j];exact f,by rw[jV];omega,λ_ _ _ h=>h,bh _,bh _,λ_ _ h=>h,λh=>h⟩
def ah.fV(h:ah)(l:Nat)(r:ij):ah:={h with aI:=h.aI.set l r}
def Fr.fV{bn l0 n0}{h}{l}(m:l0<=l)(r):Fr bn l0 n0 h (h.fV l r):=
 ⟨λ_ _ _ f=>f,bh _,λs z q j=>by rw[<-j];exact LI af,by simp[ah.fV],bh _,λ_ _ h=>h,λh=>h⟩
def Fr.CQ{bn l0 n0}(h)(r):Fr bn l0 n0 h (h.loop r):=
 ⟨λ_ _ _ f=>f,bh _,λq s m j=>EV j,by simp[ah.loop],bh _,λ_ _ h=>h,λh=>h⟩
def Fr.ext{bn l0 n0}{h h'}(x:Fr bn l0 n0 h h')(r:F h.I<=bn)(s:F h.aI<=l0)(m:h.tn<=n0):Ext h h':=
 ⟨λc cs j=>x.box c cs (by grind) j,λl z q=>x.loop l z (by grind) q,x.tn,λn f h2=>x.dead n (mQ f m) h2,x.ok⟩
def aaO{h:ah}{l}{r}(f:l<F h.aI):(h.fV l r).aI[l]?=J r:=by simp[ah.fV,f]
def aaN{h:ah}{l m}{r}(f:m≠l):(h.fV l r).aI[m]?=h.aI[m]?:=by simp[ah.fV,LI (Ne.symm f)]
def FO{h:ah}{r}:(h.loop r).aI[F h.aI]?=J r:=by simp[ah.loop]
def YC{h:ah}{r q}{l:Nat}(f:h.aI[l]?=J q):(h.loop r).aI[l]?=J q:=EV f
def St(l:Nat)(h h':ah):Prop:=(∀(b:Nat) (cs:List V),h.I[b]?=J cs->h'.I[b]?=J cs)/\∀(f:Nat) (j:ij),f<=l->h.aI[f]?=J j->h'.aI[f]?=J j
def St.refl(l)(h):St l h h:=⟨λ_ _ h=>h,λ_ _ _ h=>h⟩
def St.trans{l}{a b c}(h:St l a b)(k:St l b c):St l a c:=⟨λi cs j=>k.1 i cs (h.1 i cs j),λq r f m=>k.2 q r f (h.2 q r f m)⟩
def St.push(l)(h)(cs):St l h (h.push cs):=⟨λ_ _ f=>aX f,λ_ _ _ h=>h⟩
def St.F2{l}{h h'}(x:Ext h h'):St l h h':=⟨x.box,λj m _ f=>x.loop j m f⟩
def St.fV{l k}{h}(m:l<k)(r):St l h (h.fV k r):=⟨λ_ _ f=>f,λs z q j=>by rw[aaN af];exact j⟩
def St.CQ(l)(h)(r):St l h (h.loop r):=⟨λ_ _ f=>f,λm q _ j=>YC j⟩
def St.gw{l}{h h'}(x:St l h h'){b}(q:F h.I<=b)(cs):St l h (h'.put b cs):=
 ⟨λc j f=>by have m:c<F h.I:=(bk.1 f).1;rw[cS af];exact x.1 c j f,x.2⟩
inductive Nx (α:Type) where
 |cont (a:α)|stop (a:α)|panic (v:V)
def bM.gen{R}{c}{e}{h}{Q}(f:∀e2:Env,(∀t,e2.get t=e.get t)->e2.defers=e.defers->e2.dg=e.dg->e2.round=e.round->bM R c e2 h Q):bM R c e h Q:=f e (λ_=>rfl) O O rfl
section
variable {P:bL} {G:Nat->Option (List V)} {aS:a_->Option (List V->ah->Option (V × ah))} {Q:Xt->Env->ah->Prop} {e:Env} {h:ah}
def Gu{f:ck}{j:Array Tmp}{assign body:Code}{g:a_}{first ba:List V}(s:e.eval f=.func (.func g) first ba)
 (H:∀rec:ij,rec.tmps=e.tmps->rec.params=j->rec.assign=assign->rec.body=body->rec.state=.ready->rec.pending=aq->∃r h',(whole P G aS).call g (first++[.yield (F h.aI)]++ba) (h.loop rec)=J (r,h')/\
  match r with
  | .panic x=>Q (.panic x) e h'
  | .ret _=>∃rc,h'.aI[F h.aI]?=J rc/\rc.state≠ .busy/\((rc.pending=aq/\Q .normal e (h'.fV (F h.aI) {rc with state:=.exhausted}))∨(rc.pending=J .ret/\Q .ret e (h'.fV (F h.aI) {rc with state:=.exhausted})))):
 bM (whole P G aS) (.rangeFunc f j assign body) e h Q:=by
 obtain⟨r,h',q,A⟩:=H (Jw e j assign body) O O O O O O;cases r with
 |panic x=>exact ato s q A|ret x=>
  obtain⟨rc,z,h2,m|m⟩:=A
  .exact atn s q z h2 m.1 m.2
  .exact atp s q z h2 m.1 m.2
def ar8{l p t:Nat}{r:ij}{x:V}(f:r.params=#[p])(j:r.tmps=e.tmps):(oe l r [x]).get t=if p=t then x else e.get t:=by unfold oe;rw[f,j];exact CP e.tmps p t x
def St.mono{l f}(m:l<=f){h h'}(x:St f h h'):St l h h':=⟨x.1,λr s q j=>x.2 r s af j⟩
end
end Go.AE
end
section
namespace Go.AE
section
variable {P:bL} {G:Nat->Option (List V)} {R:Rec}
def GI(Q:Xt->Env->ah->Prop):Xt->Env->ah->Prop
 | .normal,e,h=>Q .normal e h
 | .panic x,e,h=>Q (.panic x) e h
 |_,_,_=>False
def Yc(P:bL)(G:Nat->Option (List V))(R:Rec)(ops:Array Oper)(l:List Oper)(Q:Xt->Env->ah->Prop):Xt->Env->ah->Prop
 | .normal,e,h=>cO P G R ops l e h (GI Q)
 |_,_,_=>False
def avP{Q}{e}{h}:GI Q .normal e h=Q .normal e h:=rfl
def avQ{Q}{e}{h}{x}:GI Q (.panic x) e h=Q (.panic x) e h:=rfl
def amh{ops:Array Oper}{l:List Oper}{Q:Xt->Env->ah->Prop}{e:Env}{h:ah}:Yc P G R ops l Q .normal e h=cO P G R ops l e h (GI Q):=rfl
end
section
variable {P:bL} {G:Nat->Option (List V)} {aS:a_->Option (List V->ah->Option (V × ah))} {Q:Xt->Env->ah->Prop} {e:Env} {h:ah}
def ak2{R:Rec}{ops:Array Oper}{n:Nat}(f:n+1=ops.size)(r:rV ops=aa){m:Env}{q:ah}(h2:cB P G R ops (bT n) e h=J (.normal,m,q)):Au (cB P G R (g' ops) (bT (g' ops).size) e h)=aa:=by rw[OJ,<-f,lP];have j:=h2;rw[<-YE r (λi z=>by grind)]at j;rw[PT j,cB,FH,aH f];have s:ops[n]?=J ops[n]:=kn af;rw[s];rfl
def ati{id n:Nat}{ops:Array Oper}(B:n+1=ops.size)(S:EH ops=aa)(s:EH (g' ops)=aa)(A:rV ops=aa)
 (X:cO P G (whole P G aS) ops (ops.toList.take n) e h (Yc P G (whole P G aS) ops (ops.toList.drop n) Q)):bM (whole P G aS) (.region id ops aa) e h Q:=by
 obtain⟨o,q,r,m,E⟩:=X;have T:o=.normal:=by cases o<;>first|rfl|exact E.elim
 subst T;obtain⟨C,N,h2,Y,j⟩:vT (opsL P G (whole P G aS) ops (ops.toList.drop n) q r) (GI Q):=E;rw[<-oR af]at m;have z:(ops.toList.drop n).take 1=ops.toList.drop n:=fK (by grind);have D:=Ze (P:=P) (G:=G) (R:=whole P G aS) ops 1 n af q r;rw[z,Y]at D;have f:cB P G (whole P G aS) ops (bT ops.size) e h=J (C,N,h2):=by rw[<-B,lP,PT m];exact D
 unfold bM;rw[qM];cases C with|normal=>exact⟨_,_,_,draw_code f ((oX _ _).mpr (.inl (Nc S e h))),j⟩|panic x=>refine⟨_,_,_,draw_code f ?_,j⟩;simp only[drawC,bQ];exact⟨A,Nc s e h,ak2 B A m⟩|exit i=>exact j.elim|ret=>exact j.elim
end
end Go.AE
end
section
namespace Go.AE
section
variable {P:bL} {G:Nat->Option (List V)} {R:Rec} {ops:Array Oper} {k:Nat}
end
section
variable {P:bL} {G:Nat->Option (List V)} {aS:a_->Option (List V->ah->Option (V × ah))} {Q:Xt->Env->ah->Prop} {e:Env} {h:ah}
def jU(ops:Array Oper)(k:Nat)(ps:List (Nat × Nat)):Bool:=ps.all λp=>oB (cut ops k) p.1 p.2&&(decide (p.1<k)&&decide (p.2<k))
end
end Go.AE
end
section
namespace Go.AE
mutual
def mE(n:Nat):V->Bool
 | .ac _ _ es=>FP n es
 | .arr b _ _ _=>decide (b<n)
 | .agg cs=>oa n cs
 | .tuple cs=>oa n cs
 | .ptr (.box b) _=>decide (b<n)
 | .elem _ es _ _=>FP n es
 | .func _ a b=>oa n a&&oa n b
 | .iface _ x=>mE n x
 |_=>aa
def oa(n:Nat):List V->Bool
 | []=>aa
 |x::f=>mE n x&&oa n f
def FP(n:Nat):List (List V)->Bool
 | []=>aa
 |r::f=>oa n r&&FP n f
end
def YD(n):∀(a b:List V),oa n (a++b)=(oa n a&&oa n b)
 | [],b=>by simp[oa]
 |x::a,b=>by rw[eY,oa,oa,YD n a b,abV]
def FQ(n):∀es:List (List V),oa n es.flatten=FP n es
 | []=>rfl
 |r::es=>by rw[kJ,YD,FP,FQ n es]
def bA.low(K:bA)(n:Nat):bA:={K with β:=K.β.take n}
section
variable {K:bA}
def KV{b g:Nat}(h:K.β[b]?=J g):b<F K.β:=(bk.1 h).1
mutual
def aZ.low:∀{x:V} {c:aQ},aZ K x c->mE (F K.β) x=aa
 |_,_,.bad _=>rfl
 |_,_,.v _ _=>rfl
 |_,_,.nil _=>rfl
 |_,_,.gH _ _=>rfl
 |_,_,.ac _ _ es _ _ _ _ _ _ _ f _ _ _=>by rw[mE,<-FQ];exact aR.low f
 |_,_,.arr _ _ _ _ _ _ _ m _ _ _ _=>by rw[mE];grind
 |_,_,.agg _ _ f=>by rw[mE];exact aR.low f
 |_,_,.tuple _ _ f=>by rw[mE];exact aR.low f
 |_,_,.box _ _ _ m=>by rw[mE];grind
 |_,_,.ec _ _=>rfl
 |_,_,.elem _ es _ _ _ _ _ _ _ f _ _ _ _=>by rw[mE,<-FQ];exact aR.low f
 |_,_,.func _ _ _ _ _ j h2=>by rw[mE,aR.low j,aR.low h2];rfl
 |_,_,.yield _ _ _=>rfl
 |_,_,.iface _ _ _ q=>by rw[mE];exact aZ.low q
def aR.low:∀{xs:List V} {cs:List aQ},aR K xs cs->oa (F K.β) xs=aa
 |_,_,.nil=>rfl
 |_,_,.cons _ _ _ _ j f=>by rw[oa,aZ.low j,aR.low f];rfl
end
def YG{n b g:Nat}(f:K.β[b]?=J g)(j:b<n):(K.low n).β[b]?=J g:=by show(K.β.take n)[b]?=J g;simp_all
def uB.low{n:Nat}{k:Tok}{g off sz m ba:Nat}(h:uB K k g off sz m ba):uB (K.low n) k g off sz m ba:=h
mutual
def aZ.cut{n:Nat}:∀{x:V} {c:aQ},aZ K x c->mE n x=aa->aZ (K.low n) x c
 |_,_,.bad c,_=>.bad c
 |_,_,.v x B,_=>.v x B
 |_,_,.nil sz,_=>.nil sz
 |_,_,.gH sz a,_=>.gH sz a
 |_,_,.ac k sz es g off z0 f cells X q j m ht s,h=>.ac k sz es g off z0 f cells X q (aR.cut j (by rw[FQ];rw[mE]at h;exact h)) m ht.low s
 |_,_,.arr b g off len f C r z A m Y q,h=>.arr b g off len f C r (YG z (by rw[mE]at h;simp_all)) A m Y q
 |_,_,.agg cs D j,h=>.agg cs D (aR.cut j (by rw[mE]at h;exact h))
 |_,_,.tuple cs D j,h=>.tuple cs D (aR.cut j (by rw[mE]at h;exact h))
 |_,_,.box b g off z,h=>.box b g off (YG z (by rw[mE]at h;simp_all))
 |_,_,.ec g off,_=>.ec g off
 |_,_,.elem sz es i off g o p cells q j m T Z s,h=>.elem sz es i off g o p cells q (aR.cut j (by rw[FQ];rw[mE]at h;exact h)) m T Z s
 |_,_,.func E first f N cs S h2,h=>.func E first f N cs (aR.cut S (by rw[mE,bQ]at h;grind)) (aR.cut h2 (by rw[mE,bQ]at h;grind))
 |_,_,.yield l g A,_=>.yield l g A
 |_,_,.iface t x c B,h=>.iface t x c (aZ.cut B (by rw[mE]at h;exact h))
def aR.cut{n:Nat}:∀{xs:List V} {cs:List aQ},aR K xs cs->oa n xs=aa->aR (K.low n) xs cs
 |_,_,.nil,_=>.nil
 |_,_,.cons x c xs cs j f,h=>.cons x c xs cs (aZ.cut j (by rw[oa,bQ]at h;grind)) (aR.cut f (by rw[oa,bQ]at h;grind))
end
end
section
variable {P:bL} {G:Nat->Option (List V)} {w0 w w':b_} {K K':bA} {h h':ah} {ok:a_->Nat->Code->Bool}
end
end Go.AE
end
section
namespace Go.AE
section
universe u
set_option linter.defProp false in
def goT:=ar @gc.{0,0} (ar @Hq.{0,0} (ar @jO.{0,0} (ar @dR.{0,0} (ar @sV.{0,0} (ar @List.getD_cons_zero.{0} (ar @List.getD_cons_succ.{0} (ar @je.{0} (ar @jy.{0} @nR.{0}))))))))
set_option linter.defProp false in
def goU:=ar @iB.{0} @eP.{0}
set_option linter.defProp false in
def Ys:=ar @bV (ar @jV @Yt)
set_option linter.defProp false in
def amB:=ar @eZ.{0} (ar @List.length_nil.{0} (ar @de.{0} (ar @bV (ar @jV @Yt))))
set_option linter.defProp false in
def aja:=ar @ajc (ar @nB (ar @ajd (ar @aje (ar @ajf @ajb))))
set_option linter.defProp false in
def af9:=ar @tj @Bz
set_option linter.defProp false in
def arU:=ar @aa3 (ar @UO @ZI)
end
set_option linter.defProp false in
def G_d:=@ajC
set_option linter.defProp false in
def G_n:=@ajG
set_option linter.defProp false in
def B_d:=@afI
set_option linter.defProp false in
def B_n:=@afL
set_option linter.defProp false in
def G_m:=@ajF
set_option linter.defProp false in
def B_m:=@afK
set_option linter.defProp false in
def G_b:=@ajB
set_option linter.defProp false in
def B_b:=@afH
def dZ{p:Prop}(h:p:=by first|assumption|(exact Nat.le_refl _)|omega|(simp only[amB]<;>omega)|(simp(disch:=(first|assumption|omega|(exact(bV _ _).symm)|(simp only[Ys];omega)|(refine Nat.le_antisymm ?_ ?_<;>simp only[Ys]<;>omega)|fail)) only[aja]<;>first|assumption|rfl)|(simp only[af9];assumption)|(exact Rb _ _)|(simp only[arU];first|assumption|exact Rb _ _)):p:=h
def dX{a b p:Prop}(x:a)(y:b)(f:a->b->p:=by first|exact G_d|exact G_n|exact B_d|exact B_n|exact G_m|exact B_m|exact G_b|exact B_b):p:=f x y
end Go.AE
end
section
namespace Go.AE
section
variable {P:bL} {t0 t1 t elem:aO} {i:TypeInfo} {h:ah} {k N:Tok} {sz:Nat} {es new:List (List V)}
def AT(m:P.underlying t0=J (.slice elem))(q:P.underlying t1=J (.slice elem))(hi:P.info? elem=J i)(j:0<i.size)(D:(i.zero.map λz=>z.cells.size)=J i.size)(f:new≠[])
 (r:(F es+F new)*i.bytes<=140737488355328) (A:F es+F new<=9223372036854775807) (B:sz=i.size∨es=[]) (s:k=.nil∨k=.aP) {x:V} (C:jT h i.size x=J new):
 ng P h #[t0,t1] (.ac k sz es) x=J (.arr (F h.I) 0 (F es+F new) (F es+F new),h.push (es++new).flatten):=by
 unfold ng;simp only[je,jy,nR,jO,m,q,hi,C];rw[aH ⟨j,D⟩,aH B,aV f,aH ⟨r,A⟩];rcases s with rfl|rfl<;>rfl
def GJ{b len:Nat}{cs:List V}(m:P.underlying t0=J (.slice elem))(q:P.underlying t1=J (.slice elem))(hi:P.info? elem=J i)(j:0<i.size)(D:(i.zero.map λz=>z.cells.size)=J i.size)(B:new≠[])
 (s:(len+F new)*i.bytes<=140737488355328) (A:len+F new<=9223372036854775807) (f:h.I[b]?=J cs) (h2:0<len) (r:len*i.size=F cs) {x:V} (C:jT h i.size x=J new):
 ng P h #[t0,t1] (.arr b 0 len len) x=J (.arr (F h.I) 0 (len+F new) (len+F new),(h.put b []).push (cs++new.flatten)):=by
 have E:0<F new:=by cases new with|nil=>simp_all|cons _ _=>simp
 unfold ng;simp only[je,jy,nR,jO,m,q,hi,C,f];rw[aH ⟨j,D⟩,aV af,aH ⟨br,h2,br,r,s,A⟩];rfl
def CU:jT h sz (.ac k sz es)=J es:=by unfold jT rowsOf;simp
def aup{b off len ba n:Nat}{m:Int}{kk:rz}(r:P.underlying t=J (.slice elem))(B:cQ P elem=J n)(A:n≠0)(s:0<=m)(h2:m<=ba)(z:0<ba):gY P t (.arr b off len ba) aq (J (.v (.int kk m))) aq=J (.arr b off m.toNat ba):=by
 have f:gE ba aq ba=J ba:=rfl;have j:gE ba (J (.v (.int kk m))) len=J m.toNat:=by show(if 0<=m/\m<=(ba:Int) then J m.toNat else aq)=_;simp_all
 have q:gE m.toNat aq 0=J 0:=rfl;unfold gY;simp_all
end
end Go.AE
end
section
namespace Go.AE
def ek(sz:Nat)(h:ah)(x:V)(U:List (List V)):Prop:=
 (∀m∈U,F m=sz)/\
 ((∃k j,x=.ac k j U/\(U≠[]->j=sz))∨
  (∃b off f cs,x=.arr b off (F U) f/\F U<=f/\h.I[b]?=J cs/\(cs.drop off).take (F U*sz)=U.flatten/\off+F U*sz<=F cs))
section
variable {P:bL} {G:Nat->Option (List V)} {h h':ah} {t e:aO} {sz:Nat} {x:V} {U:List (List V)}
def ek.ac{k:Tok}{s:Nat}(f:∀r∈U,F r=sz)(j:U≠[]->s=sz):ek sz h (.ac k s U) U:=⟨f,.inl ⟨k,s,O,j⟩⟩
def ek.box{b n:Nat}(f:∀r∈U,F r=sz)(m:n=F U)(j:h.I[b]?=J U.flatten):ek sz h (.arr b 0 n n) U:=by
 subst m;refine⟨f,.inr ⟨b,0,U.length,U.flatten,O,bh _,j,?_,?_⟩⟩
 .rw[gP,<-nA f,gy]
 .rw[nA f];omega
def ek.mono(s:ek sz h x U)(m:∀(b:Nat) (cs:List V),h.I[b]?=J cs->h'.I[b]?=J cs):ek sz h' x U:=by
 obtain⟨z,s⟩:=s;refine⟨z,?_⟩;rcases s with s|⟨b,off,f,cs,j,h2,q,r⟩
 .simp_all
 .exact .inr ⟨b,off,f,cs,j,h2,m _ _ q,r⟩
def ek.ext(s:ek sz h x U)(m:Ext h h'):ek sz h' x U:=s.mono m.box
def ek.len(s:ek sz h x U)(f:P.underlying t=J (.slice e)):dw P t x=J (.v (.int .i64 (F U))):=by
 rcases s.2 with⟨k,s,rfl,-⟩|⟨b,off,j,cs,rfl,-⟩
 .exact Pl f
 .exact Jt f
def ek.index(s:ek sz h x U)(T:0<sz)(B:P.underlying t=J (.slice e))(m:cQ P e=J sz){i:Nat}{row:List V}(hi:U[i]?=J row):
 ∃p,(∀kk,dU P t x (.v (.int kk (i:Int)))=J p)/\(f' P e=J au->aL P G h e p=row.head?)/\(f' P e=J aa->aL P G h e p=J (.agg row)):=by
 have q:=(bk.1 hi).1;have A:=s.1 row (List.mem_of_getElem? hi);rcases s.2 with⟨k,C,rfl,E⟩|⟨b,off,N,cs,rfl,h2,z,D,S⟩
 .have:C=sz:=E (by grind);subst this;refine⟨.elem C U i 0,λkk=>?_,λf=>?_,λf=>?_⟩
  .rw[bj B m af af,fe]
  .rw[ru f hi,gP]
  .rw[CO f m hi af,gP,<-A,gy]
 .have j:(cs.drop (off+i*sz)).take sz=row:=by have:=Nj s.1 hi;rw[<-D,Ly,Hi,rB]at this;rw[<-this];congr 1;have:(i+1)*sz<=F U*sz:=mR _ q;rw[jm]at this;omega
  have r:off+i*sz+sz<=F cs:=by have:(i+1)*sz<=F U*sz:=mR _ q;rw[jm]at this;omega
  refine⟨.ptr (.box b) (off+i*sz),λkk=>?_,λf=>?_,λf=>?_⟩
  .rw[At B m af af,fe]
  .rw[fx f z,<-j];obtain⟨n,rfl⟩:∃n,sz=n+1:=⟨sz-1,by omega⟩;cases cs.drop (off+i*(n+1)) with|nil=>rfl|cons a l=>rfl
  .rw[fS f m z r,j]
def ek.slice(s:ek sz h x U)(hp:0<sz)(hu:P.underlying t=J (.slice e))(hs:cQ P e=J sz){lo hi:Option V}{l m:Nat}
 (D:(hi=aq/\m=F U)∨∃kk,hi=J (.v (.int kk (m:Int)))/\m<=F U) (N:(lo=aq/\l=0)∨∃kk,lo=J (.v (.int kk (l:Int)))) (E:l<=m):
 ∃y,gY P t x lo hi aq=J y/\ek sz h y ((U.take m).drop l):=by
 have S:m<=F U:=by omega
 have bound:∀q,F U<=q->gE q hi (F U)=J m:=λq ayI=>by
  rcases D with⟨rfl,rfl⟩|⟨kk,rfl,T⟩
  .rfl
  .show(if 0<=(m:Int)/\(m:Int)<=(q:Int) then J (m:Int).toNat else aq)=_
   grind
 have A:gE m lo 0=J l:=by
  rcases N with⟨rfl,rfl⟩|⟨kk,rfl⟩
  .rfl
  .show(if 0<=(l:Int)/\(l:Int)<=(m:Int) then J (l:Int).toNat else aq)=_;simp_all
 have r:∀X∈(U.take m).drop l,F X=sz:=λX z=>s.1 X (Bf (List.mem_of_mem_drop z));rcases s.2 with⟨k,Y,rfl,hk⟩|⟨b,off,f,cs,rfl,h2,Z,h4,h5⟩
 .have C:gE (F U) aq (F U)=J (F U):=rfl;have fR:sz=Y∨U=[]:=by
   by_cases T:U=[]
   .simp_all
   .simp_all
  refine⟨.ac (qj k (decide (m=F U)) au (m-l)) Y ((U.take m).drop l),?_,r,.inl ⟨_,_,O,λT=>hk (by grind)⟩⟩;unfold gY;simp_all
 .have C:gE f aq f=J f:=rfl;have j:F ((U.take m).drop l)=m-l:=by rw[fJ,dJ];omega
  refine⟨.arr b (if f=l then off else off+l*sz) (m-l) (f-l),?_,r,.inr ⟨b,_,f-l,cs,by rw[j],by omega,Z,?_,?_⟩⟩
  .unfold gY
   grind
  .rw[j];by_cases T:f=l
   .have:m-l=0:=(by omega);rw[aH T,this,Nat.zero_mul,List.take_zero]
    grind
   .rw[aV T,Ve (λX z=>s.1 X (Bf z)),Nk s.1,<-h4,Hi,<-rB];have B:min (m*sz) (F U*sz)=m*sz:=Ed (mR _ S);rw[B,Ly,<-Nat.sub_mul]
  .rw[j];have B:m*sz<=F U*sz:=mR _ S;have e2:(m-l)*sz+l*sz=m*sz:=by rw[<-jm,Nat.sub_add_cancel E]
   grind
def ek.got(s:ek sz h x U):rowsOf h sz x=J U:=by
 rcases s.2 with⟨k,B,rfl,A⟩|⟨b,off,r,cs,rfl,h2,j,m,q⟩
 .unfold rowsOf
  grind
 .unfold rowsOf;simp only[j,aH q,d_];apply He
  .simp
  .intro i z f;rw[qQ,List.getElem_range];have:=Nj s.1 (aY f);rw[<-m,Ly,Hi,rB]at this;rw[<-this];congr 1;have:(i+1)*sz<=F U*sz:=mR _ f
   grind
def ek.news(s:ek sz h x U):jT h sz x=J U:=by have:=s.got;rcases s.2 with⟨k,j,rfl,-⟩|⟨b,off,f,cs,rfl,-⟩<;>exact this
end
end Go.AE
end
section
namespace Go.AE
section
variable {P:bL} {G:Nat->Option (List V)} {t:aO} {x y:ck} {k N:rz} {a b:Int}
def qW:df P .and t x y (.v (.int k a)) (.v (.int k b))=J (.v (.int k (k.wrap (BitVec.ofInt k.bits a&&&BitVec.ofInt k.bits b).toNat))):=p9 (v:=.int k (k.wrap (BitVec.ofInt k.bits a&&&BitVec.ofInt k.bits b).toNat)) (by simp[binOp,Op.intBits];rfl)
def Mv:df P .or t x y (.v (.int k a)) (.v (.int k b))=J (.v (.int k (k.wrap (BitVec.ofInt k.bits a|||BitVec.ofInt k.bits b).toNat))):=p9 (v:=.int k (k.wrap (BitVec.ofInt k.bits a|||BitVec.ofInt k.bits b).toNat)) (by simp[binOp,Op.intBits];rfl)
def TA:df P .xor t x y (.v (.int k a)) (.v (.int k b))=J (.v (.int k (k.wrap (BitVec.ofInt k.bits a^^^BitVec.ofInt k.bits b).toNat))):=p9 (v:=.int k (k.wrap (BitVec.ofInt k.bits a^^^BitVec.ofInt k.bits b).toNat)) (by simp[binOp,Op.intBits];rfl)
def Mw(h:0<=b):df P .shl t x y (.v (.int k a)) (.v (.int N b))=J (.v (.int k (k.wrap (a*2^min b.toNat k.bits)))):=by
 have j:¬b<0:=by omega
 show(dQ P (do eqGuard .shl t x y (.int k a) (.int N b);binOp .shl t (.int k a) (.int N b))).bind lH=_;rw[iD];have f:dQ P (eqGuard .shl t x y (.int k a) (.int N b))=J ():=rfl;rw[f];simp[binOp,Op.shift,j];rfl
def Bv(h:0<=b):df P .shr t x y (.v (.int k a)) (.v (.int N b))=J (.v (.int k (a.fdiv (2^min b.toNat k.bits)))):=by
 have j:¬b<0:=by omega
 show(dQ P (do eqGuard .shr t x y (.int k a) (.int N b);binOp .shr t (.int k a) (.int N b))).bind lH=_;rw[iD];have f:dQ P (eqGuard .shr t x y (.int k a) (.int N b))=J ():=rfl;rw[f];simp[binOp,Op.shift,j];rfl
end
def b7(v:BitVec 32):V:=.v (.int .u32 (v.toNat:Int))
section
variable {P:bL} {t:aO} {x y:ck} {N:rz} {u v:BitVec 32}
def wrap32(n):IntKind.u32.wrap n=n%4294967296:=by unfold IntKind.wrap;simp[IntKind.signed,IntKind.bits]
def ofInt32(v):BitVec.ofInt 32 (v.toNat:Int)=v:=by simp_all
def Rw(v:BitVec 32):IntKind.u32.wrap (v.toNat:Int)=(v.toNat:Int):=by rw[wrap32];omega
def Eo:df P .and t x y (b7 u) (b7 v)=J (b7 (u&&&v)):=by unfold b7;rw[qW,show IntKind.u32.bits=32 from O,ofInt32,ofInt32,Rw]
def pC:df P .or t x y (b7 u) (b7 v)=J (b7 (u|||v)):=by unfold b7;rw[Mv,show IntKind.u32.bits=32 from O,ofInt32,ofInt32,Rw]
def pE:df P .xor t x y (b7 u) (b7 v)=J (b7 (u^^^v)):=by unfold b7;rw[TA,show IntKind.u32.bits=32 from O,ofInt32,ofInt32,Rw]
def pg:df P .add t x y (b7 u) (b7 v)=J (b7 (u+v)):=by unfold b7;rw[Tx,wrap32,BitVec.toNat_add];congr 3
def sI{n:Nat}(f:n<32):df P .shr t x y (b7 u) (.v (.int N (n:Int)))=J (b7 (u>>>n)):=by
 unfold b7;rw[Bv af,fe,show IntKind.u32.bits=32 from O,Ed af,BitVec.toNat_ushiftRight,Nat.shiftRight_eq_div_pow]
 grind
def uk{n:Nat}(f:n<32):df P .shl t x y (b7 u) (.v (.int N (n:Int)))=J (b7 (u<<<n)):=by unfold b7;rw[Mw af,fe,show IntKind.u32.bits=32 from O,Ed af,wrap32,BitVec.toNat_shiftLeft,ac9];congr 3
end
end Go.AE
end
section
namespace Go.AE
section
variable {P:bL} {h:ah} {t0 t1 elem:aO} {f k:rz} {i:TypeInfo} {zero:List V} {sz n:Nat}
def Tk(m:P.underlying t0=J (.slice elem))(q:P.underlying t1=J (.int f))(hi:P.info? elem=J i)(A:(gp P elem).bind V.bP=J zero)(C:0<n)(r:n*i.bytes<=140737488355328)(B:n<=9223372036854775807)(z:0<i.size)(s:F zero=i.size):
 gC P h #[t0,t1] (.ac .nil sz []) (.v (.int k (n:Nat)))=J (.arr (F h.I) 0 n n,h.push (bR n zero).flatten):=by
 unfold gC KU;have j:((n:Nat):Int)*i.bytes<=140737488355328:=by have:((n*i.bytes:Nat):Int)<=140737488355328:=Int.ofNat_le.2 r;omega
 simp only[je,jy,nR,jO,m,q,hi,A];rw[aH ⟨O,by omega,j,by omega,z,s⟩,fe];rfl
def Ti{b off len ba:Nat}{cs:List V}{new:List (List V)}{x:V}(f:P.underlying t0=J (.slice elem))(j:P.underlying t1=J (.slice elem))(hi:P.info? elem=J i)(r:0<i.size)(A:(i.zero.map λz=>z.cells.size)=J i.size)
 (s:jT h i.size x=J new) (q:h.I[b]?=J cs) (h2:len+F new<=ba) (m:off+ba*i.size<=F cs):
 gC P h #[t0,t1] (.arr b off len ba) x=J (.arr b off (len+F new) ba,h.put b (ej cs (off+len*i.size) new.flatten)):=by
 unfold gC;simp only[je,jy,nR,jO,f,j,hi,s,q];rw[aH ⟨r,A⟩,aH ⟨h2,m⟩];rfl
end
end Go.AE
end
section
namespace Go.AE
def pX(t:Nat):Tok->Bool
 | .free i=>decide (i<t)
 |_=>aa
mutual
def aK(n l t:Nat):V->Bool
 | .ac k _ es=>pX t k&&fZ n l t es
 | .arr b _ _ _=>decide (b<n)
 | .agg cs=>aM n l t cs
 | .tuple cs=>aM n l t cs
 | .ptr (.box b) _=>decide (b<n)
 | .elem _ es _ _=>fZ n l t es
 | .func _ a b=>aM n l t a&&aM n l t b
 | .yield i=>decide (i<l)
 | .iface _ x=>aK n l t x
 |_=>aa
def aM(n l t:Nat):List V->Bool
 | []=>aa
 |x::f=>aK n l t x&&aM n l t f
def fZ(n l t:Nat):List (List V)->Bool
 | []=>aa
 |r::f=>aM n l t r&&fZ n l t f
end
def U_(n l t):∀(a b:List V),aM n l t (a++b)=(aM n l t a&&aM n l t b)
 | [],b=>by simp[aM]
 |x::a,b=>by rw[eY,aM,aM,U_ n l t a b,abV]
def pq(n l t):∀es:List (List V),aM n l t es.flatten=fZ n l t es
 | []=>rfl
 |r::es=>by rw[kJ,U_,fZ,pq n l t es]
def cK:Tok->Tok
 | .free _=>.held
 |k=>k
mutual
def aA:V->V
 | .ac k sz es=>.ac (cK k) sz (ef es)
 | .tuple cs=>.tuple (bE cs)
 | .agg cs=>.agg (bE cs)
 | .iface t x=>.iface t (aA x)
 |x=>x
def bE:List V->List V
 | []=>[]
 |x::f=>aA x::bE f
def ef:List (List V)->List (List V)
 | []=>[]
 |r::f=>bE r::ef f
end
def Ab:∀a b:List V,bE (a++b)=bE a++bE b
 | [],b=>rfl
 |x::a,b=>by rw[eY,bE,Ab a b,bE,eY]
def Cm:∀es:List (List V),(ef es).flatten=bE es.flatten
 | []=>rfl
 |r::es=>by rw[ef,kJ,kJ,Ab,Cm es]
def WV:∀a:List V,F (bE a)=F a
 | []=>rfl
 |x::a=>by rw[bE,eZ,WV a,eZ]
def Ft:∀a:List (List V),F (ef a)=F a
 | []=>rfl
 |x::a=>by rw[ef,eZ,Ft a,eZ]
def IY{sz}:∀{es:List (List V)},(∀r∈es,F r=sz)->∀r∈ef es,F r=sz
 | [],_,r,h=>by cases h
 |a::es,h,r,f=>by
  rw[ef]at f;rcases hh.1 f with rfl|f
  .rw[WV];exact h a gt
  .exact IY (λr f=>h r (gr _ f)) r f
def akD(x):(aA x).dt=x.dt:=by cases x<;>rfl
def Oi:∀a:List V,(bE a).all V.dt=a.all V.dt
 | []=>rfl
 |x::a=>by rw[bE,DV,akD,Oi a,DV]
def bA.qB(K:bA)(n l t:Nat):bA:={K with β:=K.β.take n,γ:=K.γ.take l,tn:=t}
section
variable {K:bA}
def axo{b g:Nat}(h:K.γ[b]?=J g):b<F K.γ:=(bk.1 h).1
mutual
def aZ.fit:∀{x:V} {c:aQ},aZ K x c->aK (F K.β) (F K.γ) K.tn x=aa
 |_,_,.bad _=>rfl
 |_,_,.v _ _=>rfl
 |_,_,.nil _=>rfl
 |_,_,.gH _ _=>rfl
 |_,_,.ac k _ es _ _ _ _ _ _ _ f _ r _=>by
  rw[aK,bQ,<-pq];refine⟨?_,aR.fit f⟩;cases k with|free i=>exact cD r.2.1|_=>rfl
 |_,_,.arr _ _ _ _ _ _ _ j _ _ _ _=>by rw[aK];exact cD (KV j)
 |_,_,.agg _ _ f=>by rw[aK];exact aR.fit f
 |_,_,.tuple _ _ f=>by rw[aK];exact aR.fit f
 |_,_,.box _ _ _ j=>by rw[aK];exact cD (KV j)
 |_,_,.ec _ _=>rfl
 |_,_,.elem _ es _ _ _ _ _ _ _ f _ _ _ _=>by rw[aK,<-pq];exact aR.fit f
 |_,_,.func _ _ _ _ _ m h2=>by rw[aK,aR.fit m,aR.fit h2];rfl
 |_,_,.yield _ _ q=>by rw[aK];exact cD (axo q)
 |_,_,.iface _ _ _ s=>by rw[aK];exact aZ.fit s
def aR.fit:∀{xs:List V} {cs:List aQ},aR K xs cs->aM (F K.β) (F K.γ) K.tn xs=aa
 |_,_,.nil=>rfl
 |_,_,.cons _ _ _ _ j f=>by rw[aM,aZ.fit j,aR.fit f];rfl
end
def KH{α:Type}{l:List α}{i n}{x}(h:l[i]?=J x)(f:i<n):(l.take n)[i]?=J x:=by rw[o0,aH f,h]
def AS{α:Type}{l:List α}{i n}{x}(h:(l.take n)[i]?=J x):i<n/\l[i]?=J x:=by
 rw[o0]at h;split at h
 .exact⟨by assumption,h⟩
 .cases h
mutual
def aZ.rT{K2:bA}{n l t:Nat}(s:∀b g:Nat,b<n->K.β[b]?=J g->K2.β[b]?=J g)(A:∀b g:Nat,b<l->K.γ[b]?=J g->K2.γ[b]?=J g)(f:∀g j c,K.ic g j=J c->K2.ic g j=J c)(q:K2.tk=K.tk)(r:K2.tn=t)(m:∀b,b<n->K2.lb b=K.lb b):
 ∀{x:V} {c:aQ},aZ K x c->aK n l t x=aa->aZ K2 x c
 |_,_,.bad c,_=>.bad c
 |_,_,.v x hx,_=>.v x hx
 |_,_,.nil sz,_=>.nil sz
 |_,_,.gH sz a,_=>.gH sz a
 |_,_,.ac k sz es g off z0 z cells hn D B C ht T,h=>by
  rw[aK,bQ]at h;refine .ac k sz es g off z0 z cells hn D (aR.rT s A f q r m B (by rw[pq];exact h.2)) (λj c Y=>f _ _ _ (C j c Y)) ⟨ht.1,?_⟩ T;have S:=h.1;have h2:=ht.2;cases k with|free i=>simp only at h2 ⊢;rw[q,r];exact⟨of_decide_eq_true S,h2.2⟩|_=>exact h2
 |_,_,.arr b g off len z tV N X Z C ho D,h=>by rw[aK]at h;have E:=of_decide_eq_true h;exact .arr b g off len z tV N (s _ _ E X) Z C ho (by rw[m b E];exact D)
 |_,_,.agg cs vs B,h=>.agg cs vs (aR.rT s A f q r m B (by rw[aK]at h;exact h))
 |_,_,.tuple cs vs B,h=>.tuple cs vs (aR.rT s A f q r m B (by rw[aK]at h;exact h))
 |_,_,.box b g off X,h=>.box b g off (s _ _ (by rw[aK]at h;exact of_decide_eq_true h) X)
 |_,_,.ec g off,_=>.ec g off
 |_,_,.elem sz es i off g o p cells D B C hi hp T,h=>.elem sz es i off g o p cells D (aR.rT s A f q r m B (by rw[pq];rw[aK]at h;exact h)) (λj c Y=>f _ _ _ (C j c Y)) hi hp T
 |_,_,.func fn first z fs cs S h2,h=>.func fn first z fs cs (aR.rT s A f q r m S (by rw[aK,bQ]at h;exact h.1)) (aR.rT s A f q r m h2 (by rw[aK,bQ]at h;exact h.2))
 |_,_,.yield i g Z,h=>.yield i g (A _ _ (by rw[aK]at h;exact of_decide_eq_true h) Z)
 |_,_,.iface t x c hx,h=>.iface t x c (aZ.rT s A f q r m hx (by rw[aK]at h;exact h))
def aR.rT{K2:bA}{n l t:Nat}(s:∀b g:Nat,b<n->K.β[b]?=J g->K2.β[b]?=J g)(z:∀b g:Nat,b<l->K.γ[b]?=J g->K2.γ[b]?=J g)(f:∀g j c,K.ic g j=J c->K2.ic g j=J c)(q:K2.tk=K.tk)(r:K2.tn=t)(m:∀b,b<n->K2.lb b=K.lb b):
 ∀{xs:List V} {cs:List aQ},aR K xs cs->aM n l t xs=aa->aR K2 xs cs
 |_,_,.nil,_=>.nil
 |_,_,.cons x c xs cs B A,h=>.cons x c xs cs (aZ.rT s z f q r m B (by rw[aM,bQ]at h;exact h.1)) (aR.rT s z f q r m A (by rw[aM,bQ]at h;exact h.2))
end
mutual
def aZ.hold:∀{x:V} {c:aQ},aZ K x c->aZ K (aA x) c
 |_,_,.bad c=>.bad c
 |_,_,.v x E=>.v x E
 |_,_,.nil sz=>.nil sz
 |_,_,.gH sz a=>.gH sz a
 |_,_,.ac k sz es g off z0 f cells hn q j m T B=>by
  have z:aR K (ef es).flatten cells:=by rw[Cm];exact aR.hold j
  have r:(ef es).flatten.all V.dt=aa:=by rw[Cm,Oi];exact B
  have s:z0=F (ef es):=by rw[Ft];exact hn
  cases k with|free i=>exact .ac .held sz _ g off z0 f cells s (IY q) z m ⟨T.1,br⟩ r|_=>exact .ac _ sz _ g off z0 f cells s (IY q) z m T r
 |_,_,.arr b g off len f N A C D m ho q=>.arr b g off len f N A C D m ho q
 |_,_,.agg cs S j=>.agg _ S (aR.hold j)
 |_,_,.tuple cs S j=>.tuple _ S (aR.hold j)
 |_,_,.box b g off C=>.box b g off C
 |_,_,.ec g off=>.ec g off
 |_,_,.elem sz es i off g o p cells q j m hi hp B=>.elem sz es i off g o p cells q j m hi hp B
 |_,_,.func X first f Y cs Z h2=>.func X first f Y cs Z h2
 |_,_,.yield l g D=>.yield l g D
 |_,_,.iface t x c E=>.iface t _ c (aZ.hold E)
def aR.hold:∀{xs:List V} {cs:List aQ},aR K xs cs->aR K (bE xs) cs
 |_,_,.nil=>.nil
 |_,_,.cons x c xs cs j f=>.cons _ c _ cs (aZ.hold j) (aR.hold f)
end
end
section
variable {P:bL} {G:Nat->Option (List V)} {w0 w w':b_} {K K':bA} {h h':ah} {ok:a_->Nat->Code->Bool}
def aZ.qB{n l t:Nat}{x:V}{c:aQ}(q:aZ K x c)(m:aK n l t x=aa):aZ (K.qB n l t) x c:=
 q.rT (K:=K) (K2:=K.qB n l t) (n:=n) (l:=l) (λ_ _ f j=>KH j f) (λ_ _ f j=>KH j f) (λ_ _ _ h=>h) O O (λ_ _=>rfl) m
def aR.qB{n l t:Nat}{x:List V}{c:List aQ}(q:aR K x c)(m:aM n l t x=aa):aR (K.qB n l t) x c:=
 q.rT (K:=K) (K2:=K.qB n l t) (n:=n) (l:=l) (λ_ _ f j=>KH j f) (λ_ _ f j=>KH j f) (λ_ _ _ h=>h) O O (λ_ _=>rfl) m
def bZ.qB(s:bZ K G ok w0 h w)(j:bZ K' G ok w0 h' w')(le:K.Le K')(x:Ext h h'):bZ (K'.qB (F h.I) (F h.aI) h.tn) G ok w0 h w':=by
 have qu:=x.len;have gU:F h.aI<=F h'.aI:=by
  rcases eg (F h'.aI) (F h.aI) with dD|pN
  .have f:=x.loop (F h'.aI) _ (aY dD);have:=(bk.1 f).1;omega
  .exact pN
 have βl:=s.jd;have X:=s.mM;have Y:∀{y:List V} {c:List aQ},aR K y c->aM (F h.I) (F h.aI) h.tn y=aa:=λE=>by
  have:=E.fit
  rwa [βl,X,s.tn]at this
 refine⟨j.fG,j.size,j.ic,λg cs hg=>?_,?_,λb D g f h2=>?_,λb g cs f h2=>?_,?_,λb D g f h2=>?_,λl g z0 f h2=>?_,O,λt N=>?_,λt t' N OG=>j.oj t t' (x.alive N) (x.alive OG),j.md,j.all⟩
 .obtain⟨cells,q,r⟩:=j.ec g cs hg;obtain⟨z,p1,-⟩:=s.ec g cs hg;exact⟨cells,q.qB (Y p1),r⟩
 .show(F (K'.β.take h.I.length))=F h.I;rw[dJ,j.jd];omega
 .have f:=AS f;have h2:=AS h2;have C:∀k,k<F h.I->h'.I[k]?=J []->h.I[k]?=J []:=λk hk z1=>by have:=x.box k _ (aY hk);rw[z1]at this;rw[aY hk,<-this]
  rcases j.nQ b D g f.2 h2.2 with p|p|p
  .exact .inl p
  .exact .inr (.inl (C _ f.1 p))
  .exact .inr (.inr (C _ h2.1 p))
 .have f:=AS f;obtain⟨q,r,B,cells,e,S,q5⟩:=j.box b g cs f.2 (x.box _ _ h2);obtain⟨m,A⟩:∃m,K.β[b]?=J m:=⟨_,aY af⟩;obtain⟨-,-,-,z,e0,-,p5⟩:=s.box b m cs A h2;exact⟨q,r,B,cells,e,S,q5.1.qB (Y p5.1),q5.2⟩
 .show(F (K'.γ.take h.aI.length))=F h.aI;rw[dJ,j.mM];omega
 .exact j.oW b D g (AS f).2 (AS h2).2
 .have f:=AS f;obtain⟨q,fn,T,d,r,B,S⟩:=j.loop l g z0 f.2 (x.loop _ _ h2);obtain⟨m,A⟩:∃m,K.γ[l]?=J m:=⟨_,aY (by rw[X];exact f.1)⟩;obtain⟨-,fn0,tmps0,d0,-,p3,-⟩:=s.loop l m z0 A h2;refine⟨q,fn,T,d,r,λt=>?_,S⟩;have:=aZ.fit (p3 t);rw[βl,X,s.tn]at this;exact(B t).qB this
 .obtain⟨q,r,B⟩:=j.tok t (x.alive N);exact⟨q,λb Z=>r b (AS Z).2,B⟩
end
end Go.AE
end
section
namespace Go.AE
section
variable {P:bL} {G:Nat->Option (List V)} {w0:b_} {aS:a_->Option (List V->ah->Option (V × ah))}
def lY{L:List a_}(h:(L.all λg=>match P.funcs[g]? with|some fn=>fn.body.isSome|none=>au)=aa):∀g∈L,∃fn,P.funcs[g]?=J fn/\fn.body.isSome=aa:=by
 intro g j;have:=ff.1 h g j;split at this
 .rename_i fn f;exact⟨fn,f,this⟩
 .cases this
variable {L:List a_} {R:Rec} {g:a_} {args:List V} {h h2:ah} {x y:V}
end
end Go.AE
end
section
namespace Go.NT
def eJ:List Nat->Nat
 | []=>0
 |x::l=>x+eJ l
def mH:List Int->Int
 | []=>1
 |x::l=>x*mH l
def abq{l m}(h:l.Perm m):eJ l=eJ m:=by
 induction h with
 |nil=>rfl|cons x _ f=>simp only[eJ,f]|swap x y l=>simp only[eJ];omega|trans _ _ j h2=>omega
def apD{l m}(h:l.Perm m):mH l=mH m:=by
 induction h with
 |nil=>rfl|cons x _ f=>simp only[mH,f]|swap x y l=>simp only[mH];grind
 |trans _ _ j h2=>omega
def abp(l m):eJ (l++m)=eJ l+eJ m:=by
 induction l with
 |nil=>simp[eJ]|cons x l f=>simp only[eY,eJ,f];omega
def fD(h:Nat):List Nat:=Se 1 h
def tS{k h}:k∈fD h↔1<=k/\k<=h:=by
 unfold fD;rw[List.mem_range'];constructor
 .omega
 .rintro⟨f,h2⟩;exact⟨k-1,by omega,by omega⟩
def aan(h):fD (h+1)=fD h++[h+1]:=by unfold fD;rw[List.range'_1_concat,Nat.add_comm 1 h]
def Qr(h):F (fD h)=h:=by simp[fD]
def arV(h):(fD h).Nodup:=List.nodup_range' 1
def ao3:∀{l m:List Nat},l.Nodup->(∀x∈l,x∈m)->F m<=F l->l.Perm m:=by
 intro l
 induction l with
 |nil=>simp_all|cons x l z=>intro m f r j;have s:=r x gt;have q:=List.perm_cons_erase s;rw[List.nodup_cons]at f;refine List.Perm.trans (.cons x (z f.2 (λy A=>?_) ?_)) q.symm<;>grind
def anS{f:Nat->Nat}:∀{l:List Nat},l.Nodup->(∀x∈l,∀y∈l,f x=f y->x=y)->(l.map f).Nodup:=by
 intro l
 induction l with
 |nil=>simp_all|cons x l j=>
  grind
def fl(a n k:Nat):Nat:=if n<2*(a*k%n) then 1 else 0
def ab(a n k:Nat):Nat:=if n<2*(a*k%n) then n-a*k%n else a*k%n
def mu(a n:Nat):Nat:=eJ ((fD (n/2)).map (fl a n))
section
variable {a b n h:Nat}
def aai(j:nm a n){k:Nat}(f:0<k)(m:k<n):a*k%n≠0:=λq=>by have:n∣k:=(LQ j).dvd_of_dvd_mul_left (Ec q);have:=Bg f this;omega
def SZ(q:n=2*h+1)(f:nm a n){k:Nat}(m:1<=k/\k<=h):1<=ab a n k/\ab a n k<=h:=by
 have j:=aai f (k:=k) af af;have h2:=lT (a*k) (af:0<n);unfold ab
 grind
def adD(N:n=2*h+1)(j:nm a n){k l:Nat}(C:1<=k/\k<=h)(D:1<=l/\l<=h)(m:ab a n k=ab a n l):k=l:=by
 have s:=lT (a*k) (af:0<n);have z:=lT (a*l) (af:0<n);have B:∀{x y:Nat},x<=y->y<n->a*x%n=a*y%n->x=y:=by
  intro x y A S q;have f:n∣a*y-a*x:=Ec (Nat.sub_mod_eq_zero_of_mod_eq q.symm);rw[<-Nat.mul_sub]at f;have:=(LQ j).dvd_of_dvd_mul_left f;rcases LR (y-x) with q|q
  .omega
  .have:=Bg q this;omega
 have r:a*k%n+a*l%n≠n:=λq=>by
  have f:n∣a*(k+l):=by rw[Sl];apply Ec;rw[Si,q,Nat.mod_self]
  have:=(LQ j).dvd_of_dvd_mul_left f;have:=Bg af this;omega
 have same:a*k%n=a*l%n->k=l:=λq=>by rcases Nat.le_total k l with p|p<;>grind
 unfold ab at m
 grind
def PZ(q:n=2*h+1)(m:nm a n):((fD h).map (ab a n)).Perm (fD h):=by refine ao3 (anS (arV h) λx f y j r=>adD q m (tS.1 f) (tS.1 j) r) (λx f=>?_) cE;obtain⟨y,j,rfl⟩:=iX.1 f;exact tS.2 (SZ q m (tS.1 j))
def abt{f g q}:∀{l:List Nat},(∀k∈l,f k%2=(g k+q k)%2)->eJ (l.map f)%2=(eJ (l.map g)+eJ (l.map q))%2:=by
 intro l
 induction l with
 |nil=>intro _;rfl|cons x l r=>intro j;have s:=j x gt;have h2:=r λk m=>j k (gr _ m);simp only[dR,eJ];omega
def aiA(z:n=2*h+1)(m:nm a n)(q:nm b n){k:Nat}(s:1<=k/\k<=h):fl (a*b) n k%2=(fl b n k+fl a n (ab b n k))%2:=by
 have D:=SZ z q s;have N:=aai m (k:=ab b n k) af af;have S:=lT (a*ab b n k) (af:0<n);have E:=lT (b*k) (af:0<n);have j:a*b*k%n=a*(b*k%n)%n:=by rw[Sm,ac1]
 unfold fl;rw[j];by_cases A:n<2*(b*k%n)
 .have f:ab b n k=n-b*k%n:=by unfold ab;simp_all
  rw[aH A];have T:=lT (a*(b*k%n)) (af:0<n);have B:(a*(b*k%n)%n+a*ab b n k%n)%n=0:=by rw[<-Si,<-Sl,f,(af:b*k%n+(n-b*k%n)=n),Nat.mul_mod_left]
  have C:a*(b*k%n)%n+a*ab b n k%n=n:=by
   have r:=Ec B;obtain⟨c,X⟩:=r;rcases c with _|_|c
   .omega
   .omega
   .grind
  grind
 .have f:ab b n k=b*k%n:=by unfold ab;grind
  grind
def anz(j:n=2*h+1)(m:nm a n)(f:nm b n):mu (a*b) n%2=(mu a n+mu b n)%2:=by
 have r:n/2=h:=by omega
 unfold mu;rw[r,abt (g:=fl b n) (q:=λk=>fl a n (ab b n k)) λk s=>aiA j m f (tS.1 s)];have e:(fD h).map (λk=>fl a n (ab b n k))=((fD h).map (ab b n)).map (fl a n):=by rw[xn];rfl
 rw[e,abq ((PZ j f).map (fl a n))];omega
def abr(c):∀m:Nat,eJ ((fD m).map λk=>if c<k then 1 else 0)=m-c:=by
 intro m
 induction m with
 |zero=>simp[fD,eJ]|succ m f=>
  rw[aan,jN,abp,f];simp only[dR,sV,eJ]
  grind
def avA(c):∀m:Nat,eJ ((fD m).map λk=>if k<=c then 1 else 0)=min c m:=by
 intro m
 induction m with
 |zero=>simp[fD,eJ]|succ m f=>
  rw[aan,jN,abp,f];simp only[dR,sV,eJ]
  grind
def KG{f g}:∀{l:List Nat},(∀k∈l,f k=g k)->eJ (l.map f)=eJ (l.map g):=by
 intro l
 induction l with
 |nil=>simp_all|cons x l m=>intro j;simp only[dR,eJ];simp_all
def anB(m:n=2*h+1):mu 2 n=h-h/2:=by
 have f:n/2=h:=by omega
 unfold mu;rw[f,<-abr (h/2) h];refine KG λk j=>?_;have:=tS.1 j;unfold fl;rw[nq af]
 grind
def anA(m:n=2*h+1):mu 1 n=0:=by
 have f:n/2=h:=by omega
 unfold mu;rw[f];have:(fD h).map (fl 1 n)=(fD h).map λk=>if h<k then 1 else 0:=by
  apply yN;intro k j;have:=tS.1 j;unfold fl;rw[Bi,nq af]
  grind
 rw[this,abr];omega
def anx:mu (a%n) n=mu a n:=by unfold mu;refine KG λk _=>?_;unfold fl;simp_all
def YQ(q:n=2*h+1)(j:nm a n)(f:a%2=1):mu a n%2=eJ ((fD h).map λk=>a*k/n)%2:=by
 have m:n/2=h:=by omega
 have step:∀k∈fD h,fl a n k%2=((a*k/n)+(ab a n k+k))%2:=by
  intro k _;have r:=Sj (a*k) n;have s:=lT (a*k) (af:0<n);have A:a*k%2=k%2:=by rw[qS,f];simp
  have B:n*(a*k/n)%2=(a*k/n)%2:=by rw[qS,(af:n%2=1)];simp
  generalize n*(a*k/n)=u at *
  generalize a*k/n=v at *
  unfold fl ab;generalize a*k%n=C at *
  grind
 unfold mu;rw[m,abt step];have e:eJ ((fD h).map λk=>ab a n k+k)=eJ ((fD h).map (ab a n))+eJ ((fD h).map λk=>k):=by
  generalize fD h=l
  induction l with
  |nil=>rfl|cons x l z=>simp only[dR,eJ];omega
 rw[e,abq (PZ q j),List.map_id'];omega
end
def aiX(f:Nat->Nat->Nat):∀(l m:List Nat),eJ (l.map λk=>eJ (m.map λj=>f k j))=eJ (m.map λj=>eJ (l.map λk=>f k j)):=by
 intro l m
 induction l with
 |nil=>
  simp only[sV,eJ]
  induction m with
  |nil=>rfl|cons x m q=>simp only[dR,eJ];omega
 |cons x l q=>
  simp only[dR,eJ];rw[q];clear q
  induction m with
  |nil=>rfl|cons y m q=>simp only[dR,eJ];omega
def Vg{m n g h k}(q:n=2*h+1)(j:m=2*g+1)(f:k<=h):m*k/n=eJ ((fD g).map λl=>if n*l<=m*k then 1 else 0):=by
 have r:m*k/n<=g:=by
  have:m*k/n<g+1:=by rw[Nat.div_lt_iff_lt_mul af];have s:m*k<=m*h:=Nat.mul_le_mul_left m f;have h2:(g+1)*n=m*h+(g+1+h):=(by subst q j;simp only[jm,Sl,mr,Bi];have:g*(2*h)=2*g*h:=(by grind);omega);omega
  omega
 have:(fD g).map (λl=>if n*l<=m*k then 1 else 0)=(fD g).map λl=>if l<=m*k/n then 1 else 0:=by
  apply yN;intro l _;have:(n*l<=m*k)↔l<=m*k/n:=by rw[Nat.le_div_iff_mul_le af,So]
  simp only[this]
 rw[this,avA];omega
def ami{m n g h}(E:n=2*h+1)(D:m=2*g+1)(T:nm m n):
 eJ ((fD h).map λk=>m*k/n)+eJ ((fD g).map λl=>n*l/m)=h*g:=by
 have N:eJ ((fD h).map λk=>m*k/n)=eJ ((fD h).map λk=>eJ ((fD g).map λl=>if n*l<=m*k then 1 else 0)):=
  KG λk q=>Vg E D (tS.1 q).2
 have S:eJ ((fD g).map λl=>n*l/m)=eJ ((fD g).map λl=>eJ ((fD h).map λk=>if m*k<=n*l then 1 else 0)):=
  KG λl r=>Vg D E (tS.1 r).2
 rw[N,S,aiX (λl k=>if m*k<=n*l then 1 else 0)];have one:∀k∈fD h,∀l∈fD g,(if n*l<=m*k then 1 else 0)+(if m*k<=n*l then 1 else 0)=1:=by
  intro k q l r;have q:=tS.1 q;have Y:m*k≠n*l:=λZ=>by have X:n∣m*k:=⟨l,Z⟩;have:=(LQ T).dvd_of_dvd_mul_left X;have:=Bg af this;omega
  grind
 have z:∀(k:Nat) (j:List Nat),k∈fD h->(∀l∈j,l∈fD g)->eJ (j.map λl=>if n*l<=m*k then 1 else 0)+eJ (j.map λl=>if m*k<=n*l then 1 else 0)=F j:=by
  intro k j q
  induction j with
  |nil=>intro _;rfl|cons x j B=>intro s;have C:=one k q x (s x gt);have h2:=B λl r=>s l (gr _ r);simp only[dR,eJ,eZ];omega
 have A:∀(f:List Nat),(∀k∈f,k∈fD h)->eJ (f.map λk=>eJ ((fD g).map λl=>if n*l<=m*k then 1 else 0))+eJ (f.map λk=>eJ ((fD g).map λl=>if m*k<=n*l then 1 else 0))=F f*g:=by
  intro f
  induction f with
  |nil=>intro _;simp[eJ]|cons x f B=>intro s;have C:=z x (fD g) (s x gt) (λ_ h=>h);rw[Qr]at C;have h2:=B λl r=>s l (gr _ r);simp only[dR,eJ,eZ,jm,Bi];omega
 have:=A (fD h) (λ_ h=>h);rw[Qr]at this;omega
def aqx{m n g h}(q:n=2*h+1)(j:m=2*g+1)(f:nm m n):(mu m n+mu n m)%2=h*g%2:=by have r:=YQ q f af;have s:=YQ j f.symm af;have:=ami q j f;omega
end Go.NT
end
section
namespace Go.NT
def PS:∀c:Nat,(1:Int)^c=1:=by
 grind
def wu(p:Nat):Prop:=2<=p/\∀d,d∣p->d=1∨d=p
def wu.coprime{p k}(m:wu p)(f:0<k)(r:k<p):Nat.Coprime k p:=by
 have j:Nat.gcd k p∣p:=Nat.gcd_dvd_right k p;rcases m.2 _ j with q|q
 .exact q
 .have:=Bg f (Nat.gcd_dvd_left k p);omega
def apF(a):∀l:List Nat,mH (l.map λ(k:Nat)=>a*(k:Int))=a^F l*mH (l.map λ(k:Nat)=>(k:Int)):=by
 intro l
 induction l with
 |nil=>simp_all|cons x l f=>
  simp only[dR,mH,f,eZ,xi]
  grind
def apG(f)(g):∀l:List Nat,mH (l.map λk=>(-1)^f k*g k)=(-1)^eJ (l.map f)*mH (l.map g):=by
 intro l
 induction l with
 |nil=>simp[mH,eJ]|cons x l j=>
  simp only[dR,mH,eJ,j,RV]
  grind
def apE{p}{f g}:∀{l:List Nat},(∀k∈l,p∣f k-g k)->p∣mH (l.map f)-mH (l.map g):=by
 intro l
 induction l with
 |nil=>simp_all|cons x l r=>
  intro h;have m:=h x gt;have h2:=r λk q=>h k (gr _ q);simp only[dR,mH];generalize mH (l.map f)=j at *
  generalize mH (l.map g)=G at *
  have e:f x*j-g x*G=(f x-g x)*j+g x*(j-G):=by rw[RX,G_];omega
  rw[e];exact vN (Int.dvd_mul_of_dvd_left m) (DQ h2)
def cancel{p}(s:wu p):∀(l:List Nat) (x:Int),(∀k∈l,0<k/\k<p)->(p:Int)∣x*mH (l.map λ(k:Nat)=>(k:Int))->(p:Int)∣x:=by
 intro l
 induction l with
 |nil=>intro x _ h;simpa [mH] using h|cons k l z=>
  intro x f h;obtain⟨m,q⟩:=f k gt;refine z x (λA r=>f A (gr _ r)) ?_;simp only[dR,mH]at h;rw[Int.mul_left_comm]at h;generalize x*mH (l.map λ(k:Nat)=>(k:Int))=y at *
  have j:=aca.2 h;rw[Int.natAbs_mul,acb,acb]at j;have:=(s.coprime m q).symm.dvd_of_dvd_mul_left j;exact aca.1 (by simp_all)
def Vz{p h a}(A:wu p)(z:p=2 * h+1)(r:Nat.Coprime a p):(p:Int)∣(a:Int)^h - (-1)^mu a p:=by
 have C:p/2=h:=by omega
 have step:∀k∈fD h,(p:Int)∣(a:Int) * (k:Int) - (-1)^fl a p k * (ab a p k:Int):=by
  intro k _;have B:=Sj (a * k) p;have E:=lT (a * k) (af:0<p);have f:(a:Int) * (k:Int)=(p:Int) * ((a * k/p:Nat):Int)+((a * k%p:Nat):Int):=by omega
  unfold fl ab;by_cases m:p<2 * (a * k%p)
  .rw[aH m,aH m,f];have e:((p - a * k%p:Nat):Int)=(p:Int) - ((a * k%p:Nat):Int):=(by omega);rw[e];refine⟨((a * k/p:Nat):Int)+1,?_⟩
   grind
  .rw[aV m,aV m,f];refine⟨((a * k/p:Nat):Int),?_⟩;omega
 have j:=apE step;rw[apF,apG,Qr] at j;have q:(fD h).map (λk=>(ab a p k:Int))=((fD h).map (ab a p)).map λ(k:Nat)=>(k:Int):=by rw[xn];rfl
 rw[q,apD ((PZ z r).map λ(k:Nat)=>(k:Int)),<-RX] at j;have:=cancel A (fD h) _ (λk s=>by have:=tS.1 s;omega) j;unfold mu;simp_all
def aij{p h a}(q:wu p)(C:p=2*h+1)(z:0<a)(A:a<p):(a^h%p=1)↔mu a p%2=0:=by
 have f:=Vz q C (q.coprime z A);have E:=q.1;have s:((a^h:Nat):Int)=(a:Int)^h:=by simp
 rw[<-s]at f;constructor
 .intro N;rcases Ee (mu a p) with r|r
  .exact r
  .exfalso;have:((-1:Int))^mu a p= -1:=(by obtain⟨c,j⟩:∃c,mu a p=2*c+1:=⟨mu a p/2,by omega⟩;rw[j,xi,G'];simp[PS]);rw[this]at f;have m:p∣a^h+1:=(by have e:((a^h:Nat):Int) - -1=((a^h+1:Nat):Int):=(by omega);rw[e]at f;exact RS.1 f);have:=Nat.mod_eq_zero_of_dvd m;rw[Si,N]at this;have B:1%p=1:=nq af;rw[B]at this;have:p∣2:=Ec this;have:=Bg af this;omega
 .intro r;have:((-1:Int))^mu a p=1:=by obtain⟨c,j⟩:∃c,mu a p=2*c:=⟨mu a p/2,by omega⟩;rw[j,G'];simp[PS]
  rw[this]at f;have D:0<a^h:=LX z;have m:p∣a^h-1:=by have e:((a^h:Nat):Int)-1=((a^h-1:Nat):Int):=(by omega);rw[e]at f;exact RS.1 f
  obtain⟨c,j⟩:=m;have:a^h=p*c+1:=by omega
  rw[this,acZ,nq af]
def au7{x n}(q:n%2=1)(f:nm (2*x) n):mu (2*x) n%2=(mu x n+(if n%8=3∨n%8=5 then 1 else 0))%2:=by
 have j:n=2*(n/2)+1:=by omega
 have h2:nm 2 n:=Nat.Coprime.coprime_mul_right f;have m:nm x n:=acR f;rw[anz j h2 m,anB j]
 grind
def au9{x n}(q:n%2=1)(r:x%2=1)(f:nm x n):mu x n%2=(mu (n%x) x+(if x%4=3/\n%4=3 then 1 else 0))%2:=by
 have m:n=2*(n/2)+1:=by omega
 have j:x=2*(x/2)+1:=by omega
 have h:=aqx m j f;rw[anx];have e:(n/2)*(x/2)%2=(if x%4=3/\n%4=3 then 1 else 0):=by
  rw[qS]
  grind
 omega
def ahr{x n}(f:nm x n):nm (n%x) x:=by
 unfold nm at *
 rw[<-Nat.gcd_rec,f]
def CV(p:Nat):Nat->Nat->Bool
 |0,f=>Nat.blt 0 (p%f)
 |k+1,f=>CV p k f&&CV p k (f+2^k)
def anR{p}:∀{k lo:Nat},CV p k lo=aa->∀d,lo<=d->d<lo+2^k->p%d≠0:=by
 intro k
 induction k with
 |zero=>
  intro lo h d f h2;have:d=lo:=by simp at h2;omega
  subst this;unfold CV at h;have:1<=p%d:=by simpa [Nat.blt] using h
  omega
 |succ k j=>
  intro lo h d f h2;unfold CV at h;rw[bQ]at h;rw[yS]at h2
  grind
def XU{p k}(h2:2<=p)(h:CV p k 2=true)(N:p<(2^k+2) * (2^k+2)):wu p:=by
 refine⟨h2,λd z=>?_⟩;obtain⟨e,f⟩:=z;have B:d≠0:=by rintro rfl;simp at f;omega
 have D:e≠0:=by rintro rfl;simp at f;omega
 by_cases C:d=1
 .omega
 by_cases E:e=1
 .simp_all
 exfalso;have s:∀{x y:Nat},p=x * y->2<=x->x<2+2^k->False:=by intro x y m A j;exact anR h x A j (by rw[m,Nat.mul_mod_right])
 rcases eg d (2+2^k) with q|q
 .grind
 .rcases eg e (2+2^k) with r|r
  .exact s (by rw[f,So]) af r
  .have:=kL q r
   grind
def P:Nat:=2147483579
def Q:Nat:=1073741789
def Sv:wu P:=XU (k:=16) bm (by decide+kernel) bm
def adg:wu Q:=XU (k:=15) bm (by decide+kernel) bm
end Go.NT
end
section
namespace Go.NT
def BW:Nat->Nat->Nat->Nat->Nat->Nat
 |0,_,_,_,c=>c
 |k+1,f,a,n,c=>if n=0 then c else BW k f (a*a%f) (n/2) (if n%2=1 then c*a%f else c)
def Ib{m}(A:0<m):∀{k a n c:Nat},n<2^k->c<m->BW k m a n c=c*a^n%m:=by
 intro k
 induction k with
 |zero=>
  intro a n c j f;have:n=0:=by simp at j;exact j
  subst this;simp[BW,nq f]
 |succ k z=>
  intro a n c j f;unfold BW;by_cases s:n=0
  .subst s;simp[nq f]
  .rw[aV s];have q:n/2<2^k:=(by rw[yS]at j;omega);have r:∀e,(a*a%m)^e%m=a^(2*e)%m:=λe=>(by rw[<-Ef,Hl,Sq]);split
   .rename_i B;rw[z q (lT _ A),qS,r,Nat.mod_mod,<-qS,Sm,<-ac7,show(2*(n/2)).succ=n by omega]
   .rename_i B;rw[z q f,qS,r,<-qS,(af:2*(n/2)=n)]
def qH(a n:Nat):Nat:=BW 31 P a n 1
def P5{a n}(f:n<2^31):qH a n=a^n%P:=by unfold qH;rw[Ib bm f bm,Bi]
def elem(x:Nat):Bool:=decide (1<=x)&&decide (x<P)&&jn (qH x Q) 1
def elem_iff{x}:elem x=aa↔1<=x/\x<P/\x^Q%P=1:=by unfold elem;rw[P5 bm];simp only[bQ,decide_eq_true_eq];exact⟨λh=>⟨h.1.1,h.1.2,ou h.2⟩,λh=>⟨⟨h.1,h.2.1⟩,by simp_all⟩⟩
def ah0{x}(j:1<=x)(f:x<P):elem x=decide (mu x P%2=0):=by have:=aij Sv (h:=Q) (a:=x) bm af f;rw[Lc,elem_iff,decide_eq_true_eq,<-this];omega
def HZ:elem 1=aa:=by rw[elem_iff];exact⟨bm,by decide,by rw[ac3];rfl⟩
def EJ{x y}(j:elem x=aa)(m:elem y=aa):elem (x*y%P)=aa:=by
 rw[elem_iff]at *
 obtain⟨r,s,x3⟩:=j;obtain⟨z,A,y3⟩:=m;have f:(x*y%P)^Q%P=1:=by rw[<-Ef,Nat.mul_pow,qS,x3,y3];rfl
 refine⟨?_,lT _ bm,f⟩;rcases LR (x*y%P) with q|q
 .rw[q]at f;have:(0:Nat)^Q=0:=Nat.zero_pow bm;simp_all
 omega
def ah1{x}(f:elem x=aa)(n):elem (x^n%P)=aa:=by
 induction n with
 |zero=>exact HZ|succ n j=>
  have:=EJ j f
  rwa [acY,<-yS]at this
def apz{x}(f:elem x=aa)(n):x^(n%Q)%P=x^n%P:=by obtain⟨-,-,h⟩:=elem_iff.1 f;have e:n=Q*(n/Q)+n%Q:=(Sj n Q).symm;rw[show x^n=x^(Q*(n/Q)+n%Q) by rw[<-e],ac5,Hl,qS,Ef (x^Q),h,ac3];simp
end Go.NT
end
section
namespace Go.NT
def Qi:Int:=1073741789
def fmod(n:Int):Int:=n%Qi
def cX(a b:Int):Int:=(fmod a+fmod b)%Qi
def cV(a b:Int):Int:=fmod a*fmod b%Qi
def e8(n:Int):Int:=((BW 31 Q (fmod n).toNat (Q-2) 1:Nat):Int)
def okF(x:Int):Prop:=0<=x/\x<Qi
def Mb:(0:Int)<Qi:=by decide
def yT:Qi=(Q:Int):=rfl
def Ii(n):okF (fmod n):=⟨RP _ bm,RN _ Mb⟩
def BX{x}(h:okF x):fmod x=x:=ab5 h.1 h.2
def zC(a b):cX a b=(a+b)%Qi:=by unfold cX fmod;simp_all
def tw(a b):cV a b=a*b%Qi:=by unfold cV fmod;rw[<-yI]
def Ia(a b):okF (cX a b):=⟨RP _ bm,RN _ Mb⟩
def EP(a b):okF (cV a b):=⟨RP _ bm,RN _ Mb⟩
def yo:okF 0:=by unfold okF;decide
def U6{x}(h:okF x):cX x 0=x:=by rw[zC,Int.add_zero,<-fmod];exact BX h
def aiK(n):cV n 0=0:=by rw[tw,Ls];rfl
def axg(n):cV 0 n=0:=by rw[tw,R4];rfl
def jj(n x y:Int):Int:=cX x (-(cV n y))
def Ih(n x y):jj n x y=(x-n*y)%Qi:=by unfold jj;rw[zC,tw,<-Int.sub_eq_add_neg,acg,DS _ (DR _),<-acg]
def aiF(n x y):okF (jj n x y):=Ia _ _
def Nl{n x}(h:okF x):jj n x 0=x:=by unfold jj;rw[aiK,ace];exact U6 h
def aiH{x y}(h:okF x):jj 0 x y=x:=by unfold jj;rw[axg,ace];exact U6 h
def aiG(n y):jj (-n) 0 y=cV y n:=by rw[Ih,tw,acd,Int.sub_neg,Hc,G9]
def aiq{p h a}(f:wu p)(B:p=2*h+1)(m:0<a)(s:a<p):a^(p-1)%p=1:=by
 have A:=Vz f B (f.coprime m s);have D:=f.1;have h2:(p:Int)∣(a:Int)^(2*h)-1:=by
  obtain⟨c,q⟩:=A;have e:((-1:Int)^mu a p)*((-1:Int)^mu a p)=1:=by rw[<-RV,(af:mu a p+mu a p=2*mu a p),G'];simp[PS]
  have r:(a:Int)^(2*h)=(a:Int)^h*(a:Int)^h:=by rw[<-RV,(af:2*h=h+h)]
  refine⟨c*((a:Int)^h+(-1)^mu a p),?_⟩;rw[<-ab7,<-q,RX,RR,RR,r,G9 ((-1)^mu a p) ((a:Int)^h),e];omega
 rw[(af:p-1=2*h)];have C:0<a^(2*h):=LX m;have j:((a^(2*h):Nat):Int)=(a:Int)^(2*h):=by simp
 rw[<-j]at h2;have z:p∣a^(2*h)-1:=by
  have e:((a^(2*h):Nat):Int)-1=((a^(2*h)-1:Nat):Int):=by omega
  rw[e]at h2;exact RS.1 h2
 obtain⟨c,q⟩:=z;have:a^(2*h)=p*c+1:=by omega
 rw[this,acZ,nq af]
def M_(n):okF (e8 n):=by unfold e8 okF;rw[Ib bm bm bm];exact⟨af,by rw[yT];exact acf.2 (lT _ bm)⟩
def Vh{x}(h:okF x)(m:x≠0):cV x (e8 x)=1:=by
 obtain⟨n,rfl⟩:∃n:Nat,x=n:=⟨x.toNat,by have:=h.1;omega⟩;have j:n<Q:=by have:=h.2;rw[yT]at this;exact acf.1 this
 have f:=aiq (h:=536870894) adg bm (af:0<n) j;unfold e8;rw[BX h,fe,Ib bm bm bm,Bi,tw,yT,<-A9,<-RT,ac1,So,<-yS,
  (bm:(Q-2).succ=Q-1),f]
 rfl
def al(l:List Int)(i:Nat):Int:=l.getD i 0
def ir(n:Int)(a b:List Int):List Int:=Hj (jj n) a b
def tt(c:Nat)(a own:List Int):List Int:=if al a c=0 then a else a.take c++ir (al a c) (a.drop c) (own.drop c)
def gX(c:Nat)(a:List Int)(n:Int):List Int:=a.take c++(a.drop c).map (cV · n)
def scaleB(a:List Int)(n:Int):List Int:=ir (-n) (bR (F a) 0) a
def ny(t:List (List Int))(r c:Nat):Option Nat:=(bT (F t)).find? λk=>decide (r<=k)&& !(decide (al (t.getD k []) c=0))
def vC(st:List (List Int) × List Nat)(c:Nat):List (List Int) × List Nat:=
 match ny st.1 (F st.2) c with
 |none=>st
 |some k=>
  let f:=gX c (st.1.getD k []) (e8 (al (st.1.getD k []) c))
  let t1:=(st.1.set k (st.1.getD (F st.2) [])).set (F st.2) f
  (t1.mapIdx λi a=>if i=F st.2 then f else tt c a f,st.2++[c])
def mK(st:List (List Int) × List Nat)(c:Nat):List (List Int) × List Nat:=
 match ny st.1 (F st.2) c with
 |none=>st
 |some k=>
  let f:=scaleB (st.1.getD k []) (e8 (al (st.1.getD k []) c))
  let t1:=st.1.set k (st.1.getD (F st.2) [])
  ((t1.map λa=>ir (al a c) a f).set (F st.2) f,st.2++[c])
def Dj(t:List (List Int))(many:Nat):List (List Int) × List Nat:=(bT many).foldl vC (t,[])
def iy(t:List (List Int))(many:Nat):List (List Int) × List Nat:=(bT many).foldl mK (t,[])
structure uz(w c:Nat)(st:List (List Int) × List Nat):Prop where
 len:∀a∈st.1,a.length=w
 ok:∀a∈st.1,∀x∈a,okF x
 zero:∀i a,st.2.length<=i->st.1[i]?=J a->∀j,j<c->al a j=0
def fL{l}{i}(h):al l i=l[i]:=by unfold al;simp_all
def ph{l}(h:∀x∈l,okF x)(i):okF (al l i):=by
 unfold al;rw[fg];rcases eg i (F l) with q|q
 .simp_all
 .rw[sQ q];exact yo
def vu{a b}(j:F a=F b)(h:∀i,i<F a->al a i=al b i):a=b:=by apply He j;intro i f h2;rw[<-fL f,<-fL h2];simp_all
def uG{n}{a b}(j:F a=F b){i}(hi:i<F a):al (ir n a b) i=jj n (al a i) (al b i):=by
 unfold ir;have f:i<F (Hj (jj n) a b):=by rw[List.length_zipWith];omega
 rw[fL f,acy,fL hi,fL af]
def tQ{n}{a b}(f:F a=F b):F (ir n a b)=F a:=by unfold ir;simp_all
def Bt{a x}{c}(f:c<=F a)(i):al (a.take c++x) i=if i<c then al a i else al x (i-c):=by
 unfold al
 grind
def HD(a)(c i):al (a.drop c) i=al a (c+i):=by unfold al;simp_all
def agL{c}{a own}(f:F a=F own)(B:c<F a)(r:∀x∈a,okF x)(z:∀j,j<c->al own j=0):tt c a own=ir (al a c) a own:=by
 unfold tt;split
 .rename_i h;rw[h];refine(vu (tQ f) λi m=>?_).symm;rw[tQ f]at m;rw[uG f m,aiH (ph r i)]
 .have q:F (a.drop c)=F (own.drop c):=by simp[f]
  refine vu ?_ λi m=>?_
  .rw[de,tQ q,tQ f,dJ,fJ];omega
  .have s:i<F a:=(by rw[de,tQ q,dJ,fJ]at m;omega);rw[Bt af,uG f s];split
   .rename_i A;rw[z i A,Nl (ph r i)]
   .rename_i A;rw[uG q (by grind),HD,HD,(af:c+(i-c)=i)]
def Ku{c}{a}{n}(q:c<=F a)(z:∀j,j<c->al a j=0):gX c a n=scaleB a n:=by
 unfold gX scaleB;have f:F (bR a.length (0:Int))=F a:=by simp
 refine vu ?_ λi r=>?_
 .rw[tQ f,de,bJ,dJ,fJ,f];omega
 .have A:i<F a:=by rw[de,bJ,dJ,fJ]at r;omega
  have m:al (bR (F a) (0:Int)) i=0:=by rw[fL af];simp
  rw[Bt q,uG f af,m,aiG];split
  .rename_i B;rw[z i B,tw,R4];rfl
  .rename_i B;have s:i-c<F ((a.drop c).map (cV · n)):=(by rw[bJ,fJ];omega);rw[fL s,qQ,Sb,<-fL (af:c+(i-c)<F a),(af:c+(i-c)=i)]
end Go.NT
end
section
namespace Go.NT
def zF{t}{r c k}(h:ny t r c=J k):k<F t/\r<=k/\al (t.getD k []) c≠0:=by
 unfold ny at h
 grind
def U9{t}{r c}(h:ny t r c=aq){k}(f:k<F t)(j:r<=k):al (t.getD k []) c=0:=by unfold ny at h;simp_all
def mB{t:List (List Int)}{k}(f):t.getD k []=t[k]:=by simp_all
section
variable {w c:Nat} {st:List (List Int) × List Nat}
structure Own(w c:Nat)(own:List Int):Prop where
 len:own.length=w
 ok:∀x∈own,okF x
 zero:∀j,j<c->al own j=0
 one:al own c=1
def JJ{a:List Int}(B:F a=w)(A:c<w)(r:∀x∈a,okF x)(C:∀j,j<c->al a j=0)(m:al a c≠0):Own w c (gX c a (e8 (al a c))):=by
 refine⟨?_,?_,?_,?_⟩
 .unfold gX;grind
 .intro x f;unfold gX at f;rcases List.mem_append.1 f with q|q
  .grind
  .obtain⟨y,-,rfl⟩:=iX.1 q;exact EP _ _
 .intro j s;unfold gX;rw[Bt af,aH s];simp_all
 .unfold gX;rw[Bt af,aV af];have z:c-c<F ((a.drop c).map (cV · (e8 (al a c)))):=by rw[bJ,fJ];omega
  rw[fL z,qQ,Sb];have e:a[c+(c-c)]' af=al a c:=by rw[fL af];congr 1;omega
  rw[e];exact Vh (ph r c) m
def abb(R:uz w c st)(r:c<w):vC st c=mK st c:=by
 unfold vC mK;cases B:ny st.1 (F st.2) c with
 |none=>rfl|some k=>
  obtain⟨f,D,z⟩:=zF B;rw[mB f]at z;have C:=R.len _ (jf f);have s:=R.ok _ (jf f);have j:=R.zero k _ D (aY f);simp only[mB f];have N:=JJ C r s j z;rw[<-Ku af j];generalize gX c st.1[k] (e8 (al st.1[k] c))=T at *
  congr 1;apply He
  .simp
  .intro i A h2;rw[List.getElem_mapIdx];by_cases m:i=F st.2
   .simp_all
   .rw[aV m,Sc (λE=>m E.symm),Sc (λE=>m E.symm),qQ];have S:i<F st.1:=(by simpa using A);have q:(st.1.set k (st.1.getD (F st.2) []))[i]'(by simp_all)∈st.1:=by
     rw[DY];split
     .grind
     .simp_all
    exact agL ((R.len _ q).trans N.len.symm) (by rw[R.len _ q];exact r) (R.ok _ q) N.zero
def KC(R:uz w c st)(hc:c<w):uz w (c+1) (mK st c):=by
 unfold mK;cases N:ny st.1 (F st.2) c with
 |none=>
  refine⟨R.len,R.ok,λi a A f m B=>?_⟩;rcases eg m c with q|q
  .exact R.zero i a A f m q
  .have:m=c:=(by omega);subst this;have r:=(bk.1 f).1;have:=U9 N r A;simp_all
 |some k=>
  obtain⟨s,k2,Y⟩:=zF N;rw[mB s]at Y;have hk:=R.len _ (jf s);have S:=R.ok _ (jf s);have C:=R.zero k _ k2 (aY s);simp only[mB s];have E:=JJ hk hc S C Y;rw[<-Ku af C];generalize gX c st.1[k] (e8 (al st.1[k] c))=own at *
  have D:F st.2<F st.1:=by omega
  have j:∀a∈st.1.set k (st.1.getD (F st.2) []),a∈st.1:=λa f=>by
   grind
  refine⟨λa f=>?_,λa f=>?_,λi a A f m B=>?_⟩
  .rcases vO f with q|q
   .obtain⟨b,z,rfl⟩:=iX.1 q;have:=R.len _ (j b z);rw[tQ (this.trans E.len.symm)];omega
   .rw[q];exact E.len
  .rcases vO f with q|q
   .obtain⟨b,z,rfl⟩:=iX.1 q;intro x X;unfold ir at X;obtain⟨i,h1,rfl⟩:=xo.1 X;rw[acy];exact aiF _ _ _
   .rw[q];exact E.ok
  .simp only[de,List.length_singleton]at A;have T:F st.2≠i:=(by omega);rw[LI T,eF]at f;have r:i<F st.1:=by
    rcases eg i (F st.1) with q|q
    .exact q
    .simp_all
   rw[aY (by simp_all),gc,d_]at f;have z:∃b,(st.1.set k (st.1.getD (F st.2) []))[i]'(by simp_all)=b/\F b=w/\(∀x∈b,okF x)/\∀m,m<c->al b m=0:=by
    refine⟨_,O,R.len _ (j _ (jf _)),R.ok _ (j _ (jf _)),λm B=>?_⟩;rw[DY];split
    .rw[mB D];exact R.zero (F st.2) _ (bh _) (aY D) m B
    .exact R.zero i _ af (aY r) m B
   obtain⟨b,e,Z,b2,b3⟩:=z;rw[e]at f;subst f;rw[uG (Z.trans E.len.symm) af];rcases eg m c with q|q
   .rw[b3 m q,E.zero m q,Nl yo]
   .have:m=c:=(by omega);subst this;rw[E.one,Ih,Lr,RY];rfl
end
def aqB{t}{w many}(j:∀a∈t,F a=w)(m:∀a∈t,∀x∈a,okF x)(z:many<=w):Dj t many=iy t many:=by
 unfold Dj iy;have r:∀n,n<=w->(bT n).foldl vC (t,[])=(bT n).foldl mK (t,[])/\uz w n ((bT n).foldl mK (t,[])):=by
  intro n
  induction n with
  |zero=>intro _;exact⟨O,j,m,λ_ _ _ _ B s=>by omega⟩|succ n q=>intro A;obtain⟨f,h2⟩:=q af;rw[lP,ot,ot,f];simp only[A',DX];exact⟨abb h2 af,KC h2 af⟩
 simp_all
end Go.NT
end
section
namespace Go.NT
def cU:List Int->Int
 | []=>0
 |x::l=>x+cU l
def avu(l m):cU (l++m)=cU l+cU m:=by
 induction l with
 |nil=>simp[cU]|cons x l f=>simp only[eY,cU,f];omega
def dot(y row:List Int):Int:=cU ((bT (F y)).map λi=>al y i*al row i)
def res(y row:List Int):Int:=dot y row-al row (F y)
def Sat(y row:List Int):Prop:=Qi∣res y row
def avB{f g q}{n}:∀{l:List Nat},(∀i∈l,Qi∣f i-(g i-n*q i))->Qi∣cU (l.map f)-(cU (l.map g)-n*cU (l.map q)):=by
 intro l
 induction l with
 |nil=>intro _;simp[cU]|cons x l r=>
  intro h;have j:=h x gt;have h2:=r λi m=>h i (gr _ m);simp only[dR,cU,RR];have e:f x+cU (l.map f)-(g x+cU (l.map g)-(n*q x+n*cU (l.map q)))=(f x-(g x-n*q x))+(cU (l.map f)-(cU (l.map g)-n*cU (l.map q))):=by omega
  rw[e];exact vN j h2
def Vf(n x y):Qi∣jj n x y-(x-n*y):=by
 rw[Ih];have:=ab3 (x-n*y) Qi;refine⟨-((x-n*y)/Qi),?_⟩
 grind
def aak{n}{y a b}(j:F a=F b)(q:F y<F a):Qi∣res y (ir n a b)-(res y a-n*res y b):=by
 have m:Qi∣dot y (ir n a b)-(dot y a-n*dot y b):=by
  unfold dot;refine avB λi f=>?_;have f:=hy.1 f;rw[uG j af];obtain⟨c,r⟩:=Vf n (al a i) (al b i);refine⟨al y i*c,?_⟩;have:al y i*jj n (al a i) (al b i)-(al y i*al a i-n*(al y i*al b i))=al y i*(jj n (al a i) (al b i)-(al a i-n*al b i)):=by
   grind
  grind
 have h2:Qi∣al (ir n a b) (F y)-(al a (F y)-n*al b (F y)):=by rw[uG j q];exact Vf _ _ _
 unfold res;have e:dot y (ir n a b)-al (ir n a b) (F y)-(dot y a-al a (F y)-n*(dot y b-al b (F y)))=(dot y (ir n a b)-(dot y a-n*dot y b))-(al (ir n a b) (F y)-(al a (F y)-n*al b (F y))):=by rw[G_];omega
 rw[e];exact RM m h2
def atT{n}{y a b}(m:F a=F b)(q:F y<F a)(f:Sat y (ir n a b))(h2:Sat y b):Sat y a:=by
 unfold Sat at *
 have j:=aak (n:=n) m q;have e:res y a=res y (ir n a b)-(res y (ir n a b)-(res y a-n*res y b))+n*res y b:=by omega
 rw[e];exact vN (RM f j) (DQ h2)
def aqL(y)(n):res y (bR n 0)=0:=by
 have f:∀i,al (bR n (0:Int)) i=0:=λi=>by
  unfold al
  grind
 unfold res dot;simp only[f,Ls];generalize bT (F y)=l
 induction l with
 |nil=>rfl|cons x l j=>simp only[dR,cU];omega
def atU{y a}{x}(A:F y<F a)(r:okF x)(j:x≠0)(h:Sat y (scaleB a (e8 x))):Sat y a:=by
 unfold Sat scaleB at *
 have f:=aak (n:= -(e8 x)) (y:=y) (a:=bR (F a) (0:Int)) (b:=a) cE (by simp_all);rw[aqL]at f;have h2:Qi∣e8 x*res y a:=by
  have e:e8 x*res y a=res y (ir (-(e8 x)) (bR (F a) 0) a)-(res y (ir (-(e8 x)) (bR (F a) 0) a)-(0 - -(e8 x)*res y a)):=by rw[acd];omega
  rw[e];exact RM h f
 have m:Qi∣x*e8 x-1:=by have:=Vh r j;rw[tw]at this;have q:=ab3 (x*e8 x) Qi;rw[this]at q;exact⟨x*e8 x/Qi,by omega⟩
 obtain⟨c,s⟩:=h2;obtain⟨d,z⟩:=m;refine⟨x*c-d*res y a,?_⟩
 grind
section
variable {w c:Nat} {st:List (List Int) × List Nat}
def ave{y:List Int}(R:uz w c st)(Y:c<w)(E:F y<w)(h:∀a∈(mK st c).1,Sat y a):∀a∈st.1,Sat y a:=by
 unfold mK at h;cases r:ny st.1 (F st.2) c with
 |none=>simp_all|some k=>
  rw[r]at h;obtain⟨f,k2,q⟩:=zF r;rw[mB f]at q;simp only[mB f]at h;have Z:=R.len _ (jf f);have j:=R.ok _ (jf f);have m:=R.zero k _ k2 (aY f);have z0:=JJ Z Y j m q;have N:F st.2<F st.1:=by omega
  have S:=Ku (n:=e8 (al st.1[k] c)) (af:c<=F st.1[k]) m;rw[mB N]at h;have C:Sat y (scaleB st.1[k] (e8 (al st.1[k] c))):=h _ (xo.2 ⟨F st.2,by simp_all,by simp_all⟩);have D:∀i (s:i<F st.1),i≠F st.2->Sat y ((st.1.set k st.1[st.2.length])[i]'(by simp_all)):=λi s B=>by
   have z:=h ((((st.1.set k st.1[st.2.length]).map λa=>ir (al a c) a (scaleB st.1[k] (e8 (al st.1[k] c)))).set (F st.2) (scaleB st.1[k] (e8 (al st.1[k] c))))[i]'(by simp_all)) (jf _);rw[Sc (λz1=>B z1.symm),qQ]at z;have A:F ((st.1.set k st.1[st.2.length])[i]'(by simp_all))=w:=by
    rw[DY];split
    .exact R.len _ (jf _)
    .exact R.len _ (jf _)
   refine atT ?_ af z C;rw[A,<-S,z0.len]
  intro a X;obtain⟨i,s,rfl⟩:=xo.1 X;by_cases T:i=k
  .subst T;exact atU af (ph j c) q C
  grind
end
end Go.NT
end
section
namespace Go.NT
structure Bk(c:Nat)(st:List (List Int) × List Nat):Prop where
 lt:∀k p:Nat,st.2[k]?=J p->p<c
 inc:∀j k p q:Nat,j<k->st.2[j]?=J p->st.2[k]?=J q->p<q
 val:∀k p:Nat,st.2[k]?=J p->∀(i:Nat) (a:List Int),st.1[i]?=J a->al a p=if i=k then 1 else 0
 len:st.2.length<=st.1.length
section
variable {w c:Nat} {st:List (List Int) × List Nat}
def ava(R:uz w c st)(q:Bk c st)(E:c<w):Bk (c+1) (mK st c):=by
 unfold mK;cases hf:ny st.1 (F st.2) c with
 |none=>exact⟨λk p h=>by have:=q.lt k p h;omega,q.inc,q.val,q.len⟩
 |some k=>
  obtain⟨r,k2,T⟩:=zF hf;rw[mB r]at T;have hk:=R.len _ (jf r);have S:=R.ok _ (jf r);have z:=R.zero k _ k2 (aY r);simp only[mB r];have D:=JJ hk E S z T;have A:F st.2<F st.1:=by omega
  rw[<-Ku af z,mB A];generalize gX c st.1[k] (e8 (al st.1[k] c))=own at *
  refine⟨λj p h=>?_,λj l p z0 s f C=>?_,λj p f i a m=>?_,?_⟩
  .rcases zJ h with h|⟨-,rfl⟩
   .have:=q.lt j p h;omega
   .omega
  .rcases zJ C with C|⟨rfl,rfl⟩
   .rcases zJ f with f|⟨rfl,-⟩
    .exact q.inc j l p z0 s f C
    grind
   .rcases zJ f with f|⟨rfl,-⟩
    .exact q.lt j p f
    .omega
  .-- the row at i
   have N:i<F st.1:=(by have:=(bk.1 m).1;simpa using this);by_cases B:i=F st.2
   .subst B;rw[aY (by simp_all),List.getElem_set_self,d_]at m;subst m;rcases zJ f with f|⟨rfl,rfl⟩
    .have Z:=q.lt j p f;have h2:=(bk.1 f).1;rw[D.zero p Z,aV af]
    .rw[D.one,aH O]
   .rw[LI (λz0=>B z0.symm),eF,aY (by simp_all),gc,d_]at m;have hb:∃b,(st.1.set k st.1[st.2.length])[i]'(by simp_all)=b/\F b=w/\(∀x∈b,okF x)/\∀j p,st.2[j]?=J p->al b p=if i=j then 1 else 0:=by
     refine⟨_,O,?_,?_,λj p f=>?_⟩
     .rw[DY];split<;>exact R.len _ (jf _)
     .rw[DY];split<;>exact R.ok _ (jf _)
     .rw[DY];have s:=(bk.1 f).1;split
      .rename_i e;rw[q.val j p f (F st.2) _ (aY A),aV af,aV af]
      .exact q.val j p f i _ (aY N)
    obtain⟨b,e,X,Y,b3⟩:=hb;rw[e]at m;subst m;have hpw:p<w:=by
     rcases zJ f with h|⟨-,rfl⟩
     .have:=q.lt j p h;omega
     .exact E
    rw[uG (X.trans D.len.symm) af];rcases zJ f with f|⟨rfl,rfl⟩
    .rw[D.zero p (q.lt j p f),Nl (ph Y p)]
     grind
    .rw[D.one,Ih,Lr,RY,aV B];rfl
  grind
where
 zJ {l:List Nat} {x i y:Nat} (h:(l++[x])[i]?=J y):l[i]?=J y∨(i=F l/\y=x):=by
  grind
end
def Ga{t}{w many}(j:∀a∈t,F a=w)(m:∀a∈t,∀x∈a,okF x)(s:many<=w):uz w many (iy t many)/\Bk many (iy t many):=by
 unfold iy
 induction many with
 |zero=>exact⟨⟨j,m,λ_ _ _ _ z r=>by omega⟩,⟨λk p h=>by grind,λz k p A _ h=>by grind,λk p h=>by grind,cC _⟩⟩|succ n q=>obtain⟨f,h2⟩:=q af;rw[lP,ot];simp only[A',DX];exact⟨KC f af,ava f h2 af⟩
def aqC{t}{w many}{y}(j:∀a∈t,F a=w)(m:∀a∈t,∀x∈a,okF x)(s:many<=w)(q:F y<w)(h:∀a∈(iy t many).1,Sat y a):∀a∈t,Sat y a:=by
 induction many with
 |zero=>exact h|succ n r=>
  refine r af ?_;have f:=(Ga j m (af:n<=w)).1;have e:iy t (n+1)=mK (iy t n) n:=by unfold iy;rw[lP,ot];rfl
  rw[e]at h;exact ave f af q h
def oi(st:List (List Int) × List Nat)(n:Nat):List Int:=st.2.zipIdx.foldl (λy p=>y.set p.1 (al (st.1.getD p.2 []) n)) (bR n 0)
def HE{l}{i j}{x}(hi:i<F l):al (l.set i x) j=if j=i then x else al l j:=by
 unfold al
 grind
def EQ(f:Nat × Nat->Int):∀(l:List (Nat × Nat)) (y:List Int),F (l.foldl (λy p=>y.set p.1 (f p)) y)=F y:=by
 intro l
 induction l with
 |nil=>simp_all|cons p l j=>simp_all
def Ik(f:Nat × Nat->Int){i}:∀(l:List (Nat × Nat)) (y:List Int),(∀p∈l,p.1≠i)->al (l.foldl (λy p=>y.set p.1 (f p)) y) i=al y i:=by
 intro l
 induction l with
 |nil=>simp_all|cons p l m=>intro y h;rw[A',m _ λq j=>h q (gr _ j)];have:=h p gt;unfold al;simp_all
def Kx(st)(n):F (oi st n)=n:=by unfold oi;rw[EQ (λp=>al (st.1.getD p.2 []) n)];simp
def auA{st}{n i}(h:i∉st.2):al (oi st n) i=0:=by
 unfold oi;rw[Ik (λp=>al (st.1.getD p.2 []) n) _ _ λp f j=>?_]
 .unfold al
  grind
 grind
def auC{c}{st}{n k p}(A:Bk c st)(B:c<=n)(h:st.2[k]?=J p):al (oi st n) p=al (st.1.getD k []) n:=by
 unfold oi;obtain⟨q,r⟩:=bk.1 h;have z:st.2.zipIdx=(st.2.zipIdx.take k)++(p,k)::(st.2.zipIdx.drop (k+1)):=by
  have j:k<F st.2.zipIdx:=by simpa using q
  have:=(List.take_append_drop k st.2.zipIdx).symm;rw[uw j]at this;rw[acx,r]at this;simpa using this
 rw[z,ot,A',Ik (λp=>al (st.1.getD p.2 []) n) _ _ λC s e=>?_]
 .rw[HE,aH O];rw[EQ (λp=>al (st.1.getD p.2 []) n)];have:=A.lt k p h
  grind
 .obtain⟨i,m,rfl⟩:=xo.1 s;rw[Sb,acx]at e;simp only at e;have f:k+1+i<F st.2:=by simp at m;omega
  have:=A.inc k (k+1+i) p _ af h (aY f);omega
def abs{f}{p}:∀n,p<n->(∀i,i<n->i≠p->f i=0)->cU ((List.range n).map f)=f p:=by
 intro n
 induction n with
 |zero=>omega|succ n A=>
  intro s h;rw[lP,jN,avu];simp only[dR,sV,cU];rcases eg p n with q|q
  .grind
  .have:p=n:=(by omega);subst this;have z:cU ((bT p).map f)=0:=by
    have:∀l:List Nat,(∀i∈l,f i=0)->cU (l.map f)=0:=by
     intro l
     induction l with
     |nil=>intro _;rfl|cons x l j=>intro r;simp only[dR,cU];simp_all
    exact this _ λi m=>h i (by grind) (by grind)
   omega
def auB{t}{n}(z:∀a∈t,F a=n+1)(D:∀a∈t,∀x∈a,okF x)(j:∀i a,F (iy t n).2<=i->(iy t n).1[i]?=J a->al a n=0):
 ∀a∈t,Sat (oi (iy t n) n) a:=by
 obtain⟨R,E⟩:=Ga z D (af:n<=n+1);refine aqC z D (af:n<=n+1) (by rw[Kx];omega) λa N=>?_;obtain⟨k,s,rfl⟩:=xo.1 N;have f:=aY s;unfold Sat res dot;rw[Kx];rcases eg k (F (iy t n).2) with q|q
 .have m:=aY q;have A:=E.lt k _ m;rw[abs (p:=(iy t n).2[k]) n A,auC E (bh _) m,E.val k _ m k _ f,aH O,mB s,Lr,RY]
  .simp_all
  .intro i r C;by_cases B:i∈(iy t n).2
   .obtain⟨Y,S,rfl⟩:=xo.1 B;rw[E.val Y _ (aY S) k _ f,aV (λe=>C (by simp_all)),Ls]
   .rw[auA B,R4]
 .rw[j k _ q f];have X:∀l:List Nat,(∀i∈l,i<n)->cU (l.map λi=>al (oi (iy t n) n) i*al (iy t n).1[k] i)=0:=by
   intro l
   induction l with
   |nil=>intro _;rfl|cons x l T=>intro h;simp only[dR,cU];rw[R.zero k _ q f x (h x gt),Ls,T λi r=>h i (gr _ r)];rfl
  simp_all
end Go.NT
end
section
namespace Go.NT
abbrev fk:=BitVec 32
def fO(x:fk)(n:Nat):fk:=(x>>>n)|||(x<<<(32-n))
def CI:List Nat:=[
 0x428a2f98,0x71374491,0xb5c0fbcf,0xe9b5dba5,0x3956c25b,0x59f111f1,0x923f82a4,0xab1c5ed5,
 0xd807aa98,0x12835b01,0x243185be,0x550c7dc3,0x72be5d74,0x80deb1fe,0x9bdc06a7,0xc19bf174,
 0xe49b69c1,0xefbe4786,0x0fc19dc6,0x240ca1cc,0x2de92c6f,0x4a7484aa,0x5cb0a9dc,0x76f988da,
 0x983e5152,0xa831c66d,0xb00327c8,0xbf597fc7,0xc6e00bf3,0xd5a79147,0x06ca6351,0x14292967,
 0x27b70a85,0x2e1b2138,0x4d2c6dfc,0x53380d13,0x650a7354,0x766a0abb,0x81c2c92e,0x92722c85,
 0xa2bfe8a1,0xa81a664b,0xc24b8b70,0xc76c51a3,0xd192e819,0xd6990624,0xf40e3585,0x106aa070,
 0x19a4c116,0x1e376c08,0x2748774c,0x34b0bcb5,0x391c0cb3,0x4ed8aa4a,0x5b9cca4f,0x682e6ff3,
 0x748f82ee,0x78a5636f,0x84c87814,0x8cc70208,0x90befffa,0xa4506ceb,0xbef9a3f7,0xc67178f2]
def CH(t:Nat):fk:=BitVec.ofNat 32 (CI.getD t 0)
def start:List fk:=[0x6a09e667#32,0xbb67ae85#32,0x3c6ef372#32,0xa54ff53a#32,0x510e527f#32,0x9b05688c#32,0x1f83d9ab#32,0x5be0cd19#32]
def e7(b:List UInt8)(i:Nat):UInt8:=b.getD i 0
def fb(w:List fk)(i:Nat):fk:=w.getD i 0#32
def wY(b:List UInt8)(i:Nat):fk:=BitVec.ofNat 32 (((e7 b i).toNat*256+(e7 b (i+1)).toNat)*256*256+(e7 b (i+2)).toNat*256+(e7 b (i+3)).toNat)
def JA(w:List fk)(t:Nat):fk:=
 fb w (t-16)+(fO (fb w (t-15)) 7^^^fO (fb w (t-15)) 18^^^(fb w (t-15))>>>3)+fb w (t-7)+(fO (fb w (t-2)) 17^^^fO (fb w (t-2)) 19^^^(fb w (t-2))>>>10)
def lI(b:List UInt8):Nat->List fk
 |0=>[]
 |n+1=>lI b n++[if n<16 then wY b (4*n) else JA (lI b n) n]
def J8(w:List fk)(v:List fk)(t:Nat):List fk:=
 let e:=fb v 4
 let a:=fb v 0
 let p:=fb v 7+(fO e 6^^^fO e 11^^^fO e 25)+((e&&&fb v 5)^^^(~~~e&&&fb v 6))+CH t+fb w t
 let f:=(fO a 2^^^fO a 13^^^fO a 22)+((a&&&fb v 1)^^^(a&&&fb v 2)^^^(fb v 1&&&fb v 2))
 [p+f,a,fb v 1,fb v 2,fb v 3+p,e,fb v 5,fb v 6]
def zj(s:List fk)(b:List UInt8):List fk:=
 let w:=lI b 64
 let v:=(bT 64).foldl (J8 w) s
 Hj (·+·) s v
def Ry(n:Nat):Nat:=(119-n%64)%64
def CL(n:Nat):List UInt8:=(bT 8).map λi=>UInt8.ofNat (n*8/2^(8*(7-i)))
def JK(b:List UInt8):List UInt8:=b++0x80::bR (Ry (F b)) 0++CL (F b)
def iY:Nat->List fk->List UInt8->List fk
 |0,f,_=>f
 |n+1,f,b=>iY n (zj f (b.take 64)) (b.drop 64)
def od(s:List fk):List UInt8:=s.flatMap λx=>[UInt8.ofNat (x.toNat/16777216),UInt8.ofNat (x.toNat/65536),UInt8.ofNat (x.toNat/256),UInt8.ofNat x.toNat]
def jK(b:List UInt8):List UInt8:=od (iY (F (JK b)/64) start (JK b))
def lK(f b:List UInt8):List UInt8:=jK (jK f++b)
def agy(e f g:fk):g^^^(e&&&(f^^^g))=(e&&&f)^^^(~~~e&&&g):=by apply BitVec.eq_of_getLsbD_eq;intro i j;simp only[BitVec.getLsbD_xor,BitVec.getLsbD_and,BitVec.getLsbD_not,j,decide_true,pF];cases e.getLsbD i<;>cases f.getLsbD i<;>cases g.getLsbD i<;>rfl
def ane(a b c:fk):(a&&&b)|||(c&&&(a|||b))=(a&&&b)^^^(a&&&c)^^^(b&&&c):=by apply BitVec.eq_of_getLsbD_eq;intro i f;simp only[BitVec.getLsbD_xor,BitVec.getLsbD_and,BitVec.getLsbD_or];cases a.getLsbD i<;>cases b.getLsbD i<;>cases c.getLsbD i<;>rfl
end Go.NT
end
section
namespace Go.NT
inductive Vl where
 |int (n:Int)
 |aC (s:List UInt8)
 |ac (l:List Vl)
def fN:Nat->Nat->List UInt8
 |0,u=>[UInt8.ofNat u]
 |k+1,u=>if u<128 then [UInt8.ofNat u] else UInt8.ofNat (u%128+128)::fN k (u/128)
def iE(n:Int):Nat:=if 0<=n then 2*n.toNat else 2*(-(n+1)).toNat+1
mutual
def cH:Vl->List UInt8
 | .int n=>1::fN 9 (iE n)
 | .aC f=>2::(fN 9 (F f)++f)
 | .ac l=>3::(fN 9 (F l)++gK l)
def gK:List Vl->List UInt8
 | []=>[]
 |v::l=>cH v++gK l
end
mutual
def gf:Vl->Nat
 | .ac l=>gF l+1
 |_=>0
def gF:List Vl->Nat
 | []=>0
 |v::l=>max (gf v) (gF l)
end
def UY(l m):gK (l++m)=gK l++gK m:=by
 induction l with
 |nil=>simp[gK]|cons v l f=>simp only[eY,gK,f,jx]
def Y6{k u}(h:128<=u):fN (k+1) u=UInt8.ofNat (u%128+128)::fN k (u/128):=by rw[fN,aV af]
def Y5{k u}(h:u<128):fN k u=[UInt8.ofNat u]:=by
 cases k with|zero=>rfl|succ k=>rw[fN,aH h]
end Go.NT
end
section
namespace Go.NT
def cG(n:Int):Bool:=decide (0<=n)&&decide (n<Qi)
def cI(U:List (List Int))(ae:List Int):Int:=
 if decide (64<F U)||U.any (λf=>decide (64<F f)) then 2
 else if F U≠F ae then 230
 else if (bT (F U)).all λi=> !(U.getD i []).isEmpty&&decide (F (U.getD i [])=F (U.getD 0 []))&&(decide (0<=al ae i)&&decide (al ae i<=63))&&(U.getD i []).all cG then 0
 else 230
def cr(U:List (List Int)):Nat:=if F U=0 then 1 else F (U.getD 0 [])
def fW(n:Nat):List Int:=1::bR (n-1) 0
def dL:Int->List Int->Bool
 |_,[]=>aa
 |last,n::l=>decide (last<n)&&decide (n<=63)&&dL n l
def eE(ae am:List Int):List Nat:=(bT (F ae)).filter λi=>am.contains (al ae i)
def fX(U:List (List Int))(f:List Int):List (List Int):=(bT (F f)).map λk=>U.map (λj=>al j k)++[al f k]
def oE(U:List (List Int))(f:List Int):Option (List Int):=
 let st:=iy (fX U f) (F U)
 if (st.1.drop (F st.2)).all (λa=>decide (al a (F U)=0)) then J (oi st (F U)) else aq
def pV(n:Nat)(f:List Nat)(l:List Int):List Int:=f.zipIdx.foldl (λy p=>y.set p.1 (al l p.2)) (bR n 0)
def fm(U:List (List Int))(ae am:List Int):List Int × Bool × Int:=
 if cI U ae≠0 then ([],au,cI U ae)
 else if !dL (-1) am then ([],au,1)
 else match oE ((eE ae am).map λi=>U.getD i []) (fW (cr U)) with
  |none=>([],au,0)
  |some l=>(pV (F U) (eE ae am) l,aa,0)
structure Pr where
 bN:Int
 no:Int
 d:Int
 e:Int
def cq(x:Int):Bool:=decide (1<=x)&&elem x.toNat
def Pr.val(p:Pr):Vl:=.ac [.int p.bN,.int p.no,.int p.d,.int p.e]
def C7(l:List Pr):Vl:=.ac (l.map Pr.val)
def qo(b:List UInt8):Nat:=((b.take 8).foldl (λn c=>n*256+c.toNat) 0%9223372036854775808)%Q
def q_(f:List UInt8)(v:Vl):Nat:=qo (lK f (cH v))
def Kq:List UInt8:=[98,105,110,100]
def AN:List UInt8:=[115,105,103,110]
def gJ(c0:Int)(aC:List UInt8)(l:List Pr)(f:Int):Nat:=q_ Kq (.ac [.int c0,.aC aC,C7 l,.int f])
def tT(c0:Int)(aC:List UInt8)(l:List Pr)(p:Pr):Nat:=p.d.toNat*qH p.e.toNat (gJ c0 aC l p.bN)%P
def jt(c0:Int)(aC:List UInt8)(l:List Pr):Nat:=l.foldl (λx p=>x*tT c0 aC l p%P) 1
def yA(f j:Int)(aC:List UInt8):Nat:=q_ AN (.ac [.int f,.int j,.aC aC])
def jU:Int->List Pr->Bool
 |_,[]=>aa
 |last,x::l=>decide (last<x.bN)&&decide (x.bN<64)&&decide (0<=x.no)&&decide (x.no<4096)&&cq x.d&&cq x.e&&jU x.bN l
def eK(U:List (List Int))(ae:List Int)(j:Int)(f:List Int)(aC:List UInt8)(l:List Pr):Int:=
 if cI U ae≠0 then cI U ae
 else if !(decide (0<=j)&&decide (j<=64)&&decide (F f=cr U)&&f.all cq) then 380
 else if 65536<F aC then 2
 else if 64<F l then 420
 else if !jU (-1) l then 420
 else match fm U ae (l.map Pr.bN) with
  |(_,ok,e)=>if e≠0∨ok=au∨F l=0 then 420 else 0
end Go.NT
end
section
namespace Go.NT
def cN(x:Nat)(n:Int):Nat:=qH x (fmod n).toNat
def Nm(n):(fmod n).toNat<Q:=by have:=Ii n;obtain⟨f,h2⟩:=this;rw[yT]at h2;omega
def AI(x)(n):cN x n=x^(fmod n).toNat%P:=P5 (o7 (Nm n) bm)
def ZL{x}(f:elem x=aa)(n:Nat):cN x (n:Int)=x^n%P:=by
 have e:(fmod (n:Int)).toNat=n%Q:=by unfold fmod;rw[yT,<-RT,fe]
 rw[AI,e,apz f]
def C9{x}(f:elem x=aa)(n):elem (cN x n)=aa:=by rw[AI];exact ah1 f _
def P2{x}{a b}(h:a%Qi=b%Qi):cN x a=cN x b:=by unfold cN fmod;rw[h]
def zI(n):((fmod n).toNat:Int)=fmod n:=by have:=(Ii n).1;omega
def P1{x}(f:elem x=aa)(a b):cN x (a+b)=cN x a*cN x b%P:=by
 have h:(a+b)%Qi=(((fmod a).toNat+(fmod b).toNat:Nat):Int)%Qi:=by rw[Int.natCast_add,zI,zI,Int.add_emod];rfl
 rw[P2 h,ZL f,ac5,qS,<-AI,<-AI]
def P4{x}(f:elem x=aa)(a b):cN x (a*b)=cN (cN x a) b:=by
 have h:(a*b)%Qi=(((fmod a).toNat*(fmod b).toNat:Nat):Int)%Qi:=by rw[A9,zI,zI,yI];rfl
 rw[P2 h,ZL f,Hl,AI (cN x a) b,AI x a,<-Ef]
def apy(x):cN x 0=1:=by rw[AI];rfl
end Go.NT
end
section
namespace Go.Proofs.YtcbhpkjbiehcpaaGreatDoor
open Go.AE Go.RowKit
def Ra:List V:=NT.start.map b7
def FY:List V:=NT.CI.map λ(n:Nat)=>V.v (.int .u32 (n:Int))
def Gt:Nat->Option (List V):=λg=>if g=0 then J Ra else if g=1 then J FY else if g=1022017∨g=1022035∨g=1023037∨g=1023048∨g=1023063∨g=1023125∨g=1116104∨g=1032007∨g=1033007∨g=1033257 then J [] else aq
def aS:a_->Option (List V->ah->Option (V × ah)):=λ_=>aq
noncomputable abbrev W:=whole ag Gt aS
structure aj(p:Prop):Prop where
 M:p
def im(n:Int):V:=.v (.int .i64 n)
def wt(n:Int):List V:=[im n]
def aF(l:List Int):List (List V):=l.map wt
def db(l):F (aF l)=F l:=by simp[aF]
def XQ(l)(i:Nat):(aF l)[i]?=(l[i]?).map wt:=by simp[aF]
def i64(n:Int):Prop:= -9223372036854775808<=n/\n<=9223372036854775807
def eH:f' ag 3=J au:=by kernel_rfl
def fa:cQ ag 3=J 1:=by kernel_rfl
def Yk{h}{l}{i}{x}(j:l[i]?=J x):aL ag Gt h 3 (.elem 1 (aF l) i 0)=J (im x):=by
 have f:(aF l)[i]?=J (wt x):=by rw[XQ,j];rfl
 rw[ru eH f];rfl
def aej{h}{d}{ts}{ty:Nat}{s x}(f:1000*ty+d≠22017/\1000*ty+d≠22035/\1000*ty+d≠23037/\1000*ty+d≠23048/\1000*ty+d≠23063/\1000*ty+d≠23125/\1000*ty+d≠116104/\1000*ty+d≠32007/\1000*ty+d≠33007/\1000*ty+d≠33257):qh ag Gt (J d) h .append ts ty [s,x]=gC ag h ts s x:=by refine ael ?_;unfold GK Gt;rw[aV af,aV af,aV (by simp only[vR];omega)];rfl
def aek{h}{d}{ts}{ty:Nat}{s x}(f:1000*ty+d=22017∨1000*ty+d=22035∨1000*ty+d=23037∨1000*ty+d=23048∨1000*ty+d=23063∨1000*ty+d=23125∨1000*ty+d=116104∨1000*ty+d=32007∨1000*ty+d=33007∨1000*ty+d=33257):qh ag Gt (J d) h .append ts ty [s,x]=ng ag h ts s x:=by refine aem ?_;unfold GK Gt;rw[aV af,aV af,aH (by simp only[vR];omega)];rfl
def aN{α:Type}[BEq α][ReflBEq α](a:α):(a==a)=aa:=beq_self_eq_true a
def aB{p:Prop}(h:p:=by kernel_rfl):p:=h
set_option linter.defProp false in
def gW:=ar goS (ar goT (ar goH (ar goU (ar @aej (ar @aek (ar @Gc.eq_1 (ar @uf.eq_1 (ar @uf.eq_2 (ar @uf.eq_3 (ar @dP.eq_1 (ar @dP.eq_2 (ar @dP.eq_3 (ar @dP.eq_4 (ar @dP.eq_5 (ar @dP.eq_6 (ar @dP.eq_7 (ar @dP.eq_8 (ar @dP.eq_9 (ar @dP.eq_10 (ar @dP.eq_11 (ar @dP.eq_12 (ar @dP.eq_13 (ar @dP.eq_14 (ar @dP.eq_15 (ar @dP.eq_16 (ar @dP.eq_17 (ar @dP.eq_18 (ar @dP.eq_19 (ar @dP.eq_20 (ar @dP.eq_21 (ar @dP.eq_22 @dP.eq_23)))))))))))))))))))))))))))))))
def gS{p:Prop}(h:p:=by simp only[gW,reduceIte,Nat.reduceEqDiff,aN]):p:=h
def gR{p:Prop}(h:p:=by simp only[gW,reduceIte,Nat.reduceEqDiff,aN]<;>rfl):p:=h
def gA{p:Prop}(h:p:=by simp only[gW,reduceIte,Nat.reduceEqDiff,aN]<;>assumption):p:=h
def xO{p q:Prop}(x:q)(f:aj q->p:=by intro h;(repeat' (first|simp(maxSteps:=9999999) (disch:=first|exact dZ|fail) only[gW,reduceIte,Nat.reduceEqDiff,aN, *,-h]|refine dX ?_ ?_<;>(intro _;try omega)));exact h.M;fail_if_success refine ?_):p:=f ⟨x⟩
def bD{a0:Prop}{p q:Prop}(j:a0)(x:q)(f:a0->aj q->p:=by intro j h;(repeat' (first|simp(maxSteps:=9999999) (disch:=first|exact dZ|fail) only[gW,reduceIte,Nat.reduceEqDiff,aN, *,-h]|refine dX ?_ ?_<;>(intro _;try omega)));exact h.M;fail_if_success refine ?_):p:=f j ⟨x⟩
def iU{a0:Prop}{p:Prop}(j:a0)(f:a0->p:=by intro j;(repeat' (first|simp(maxSteps:=9999999) (disch:=first|exact dZ|fail) only[gW,reduceIte,Nat.reduceEqDiff,aN, *]|refine dX ?_ ?_<;>(intro _;try omega)));fail_if_success refine ?_):p:=f j
def bF{a0 j:Prop}{p q:Prop}(m:a0)(r:j)(x:q)(f:a0->j->aj q->p:=by intro m r h;(repeat' (first|simp(maxSteps:=9999999) (disch:=first|exact dZ|fail) only[gW,reduceIte,Nat.reduceEqDiff,aN, *,-h]|refine dX ?_ ?_<;>(intro _;try omega)));exact h.M;fail_if_success refine ?_):p:=f m r ⟨x⟩
def f_{a0 j:Prop}{p:Prop}(m:a0)(q:j)(f:a0->j->p:=by intro m q;(repeat' (first|simp(maxSteps:=9999999) (disch:=first|exact dZ|fail) only[gW,reduceIte,Nat.reduceEqDiff,aN, *]|refine dX ?_ ?_<;>(intro _;try omega)));fail_if_success refine ?_):p:=f m q
def dA{a0 j m:Prop}{p q:Prop}(r:a0)(s:j)(z:m)(x:q)(f:a0->j->m->aj q->p:=by intro r s z h;(repeat' (first|simp(maxSteps:=9999999) (disch:=first|exact dZ|fail) only[gW,reduceIte,Nat.reduceEqDiff,aN, *,-h]|refine dX ?_ ?_<;>(intro _;try omega)));exact h.M;fail_if_success refine ?_):p:=f r s z ⟨x⟩
def qn{a0 j m:Prop}{p:Prop}(q:a0)(r:j)(s:m)(f:a0->j->m->p:=by intro q r s;(repeat' (first|simp(maxSteps:=9999999) (disch:=first|exact dZ|fail) only[gW,reduceIte,Nat.reduceEqDiff,aN, *]|refine dX ?_ ?_<;>(intro _;try omega)));fail_if_success refine ?_):p:=f q r s
def cg{a0 j m r:Prop}{p q:Prop}(s:a0)(z:j)(A:m)(y3:r)(x:q)(f:a0->j->m->r->aj q->p:=by intro s z A y3 h;(repeat' (first|simp(maxSteps:=9999999) (disch:=first|exact dZ|fail) only[gW,reduceIte,Nat.reduceEqDiff,aN, *,-h]|refine dX ?_ ?_<;>(intro _;try omega)));exact h.M;fail_if_success refine ?_):p:=f s z A y3 ⟨x⟩
def iH{a0 j m q:Prop}{p:Prop}(r:a0)(s:j)(z:m)(y3:q)(f:a0->j->m->q->p:=by intro r s z y3;(repeat' (first|simp(maxSteps:=9999999) (disch:=first|exact dZ|fail) only[gW,reduceIte,Nat.reduceEqDiff,aN, *]|refine dX ?_ ?_<;>(intro _;try omega)));fail_if_success refine ?_):p:=f r s z y3
def nC{a0:Prop}{p q:Prop}(j:a0)(x:q)(f:a0->aj q->p:=by intro j h;(repeat' (first|simp(maxSteps:=9999999) (disch:=first|exact dZ|fail) only[gW,reduceIte,Nat.reduceEqDiff,aN, *,-h]|(refine dX ?_ ?_<;>(intro _;try omega))|refine sC aB ?_));exact h.M;fail_if_success refine ?_):p:=f j ⟨x⟩
def jP{a0:Prop}{p:Prop}(j:a0)(f:a0->p:=by intro j;(repeat' (first|simp(maxSteps:=9999999) (disch:=first|exact dZ|fail) only[gW,reduceIte,Nat.reduceEqDiff,aN, *]|(refine dX ?_ ?_<;>(intro _;try omega))|refine sC aB ?_));fail_if_success refine ?_):p:=f j
def Nr{a0 j:Prop}{p q:Prop}(m:a0)(r:j)(x:q)(f:a0->j->aj q->p:=by intro m r h;(repeat' (first|simp(maxSteps:=9999999) (disch:=first|exact dZ|fail) only[gW,reduceIte,Nat.reduceEqDiff,aN, *,-h]|(refine dX ?_ ?_<;>(intro _;try omega))|refine sC aB ?_));exact h.M;fail_if_success refine ?_):p:=f m r ⟨x⟩
def VC{a0 j:Prop}{p:Prop}(m:a0)(q:j)(f:a0->j->p:=by intro m q;(repeat' (first|simp(maxSteps:=9999999) (disch:=first|exact dZ|fail) only[gW,reduceIte,Nat.reduceEqDiff,aN, *]|(refine dX ?_ ?_<;>(intro _;try omega))|refine sC aB ?_));fail_if_success refine ?_):p:=f m q
def Ns{a0 j m:Prop}{p q:Prop}(r:a0)(s:j)(z:m)(x:q)(f:a0->j->m->aj q->p:=by intro r s z h;(repeat' (first|simp(maxSteps:=9999999) (disch:=first|exact dZ|fail) only[gW,reduceIte,Nat.reduceEqDiff,aN, *,-h]|(refine dX ?_ ?_<;>(intro _;try omega))|refine sC aB ?_));exact h.M;fail_if_success refine ?_):p:=f r s z ⟨x⟩
def uS{a0 j m:Prop}{p:Prop}(q:a0)(r:j)(s:m)(f:a0->j->m->p:=by intro q r s;(repeat' (first|simp(maxSteps:=9999999) (disch:=first|exact dZ|fail) only[gW,reduceIte,Nat.reduceEqDiff,aN, *]|(refine dX ?_ ?_<;>(intro _;try omega))|refine sC aB ?_));fail_if_success refine ?_):p:=f q r s
def Nt{a0 j m q:Prop}{p:Prop}(r:a0)(s:j)(z:m)(y3:q)(f:a0->j->m->q->p:=by intro r s z y3;(repeat' (first|simp(maxSteps:=9999999) (disch:=first|exact dZ|fail) only[gW,reduceIte,Nat.reduceEqDiff,aN, *]|(refine dX ?_ ?_<;>(intro _;try omega))|refine sC aB ?_));fail_if_success refine ?_):p:=f r s z y3
end Go.Proofs.YtcbhpkjbiehcpaaGreatDoor
end
section
namespace Go.Proofs.YtcbhpkjbiehcpaaGreatDoor
open Go.AE Go.NT
def KJ(n):(n.tmod 1073741789<0->fmod n=n.tmod 1073741789+1073741789)/\(¬n.tmod 1073741789<0->fmod n=n.tmod 1073741789)/\ -1073741789<n.tmod 1073741789/\n.tmod 1073741789<1073741789:=by
 unfold fmod Qi;rcases Int.le_total 0 n with h|h
 .rw[Ha h];omega
 .obtain⟨f,rfl⟩:∃f,n= -f:=⟨-n,by omega⟩;rw[Int.neg_tmod,Ha af];omega
def azA:Tryz.f162.results.toList=[.tmp 2]:=aB
def QO:Tryz.f161.results.toList=[.tmp 2]:=aB
def asX:Tryz.f80.results.toList=[.tmp 4]:=aB
def azx:Tryz.f81.results.toList=[.tmp 4]:=aB
def ZS2{p:Prop}(h:p:=by
 obtain⟨f,j,m,q⟩:=KJ n;unfold im;refine da O Q0 O ?_;by_cases c:n.tmod 1073741789<0
 .have e:=f c;clear f j;exact jP @Q1
 .have e:=j c;clear f j;exact jP @Q1):p:=h
section
open Go.Proofs.Tryz renaming func162->Q0
open Go.Proofs.YtcbhpkjbiehcpaaGreatDoor renaming azA->Q1
def YO(n:Int)(h:ah):W.call 162 [im n] h=J (.ret (im (fmod n)),h):=ZS2
end
def EO(n):0<=fmod n/\fmod n<1073741789:=Ii n
def GL{a:Int}(h:0<=a):a.tmod 1073741789=a%1073741789:=Ha h
def ZS3{p:Prop}(h:p:=by
 have ca:=Q2 a;have s:=Q2 b;obtain⟨j,q⟩:=EO a;obtain⟨f,r⟩:=EO b;have m:0<=fmod a*fmod b:=ab9 j f;have z:fmod a*fmod b<=1073741789*1073741789:=ab8 af af f af;have e:cV a b=(fmod a*fmod b).tmod 1073741789:=by rw[GL m];rfl
 rw[e];unfold im at *
 refine da O Q3 O ?_;exact jP @Q4):p:=h
section
open Go.Proofs.YtcbhpkjbiehcpaaGreatDoor renaming YO->Q2,azx->Q4
open Go.Proofs.Tryz renaming func81->Q3
def PC(a b:Int)(h:ah):W.call 81 [im a,im b] h=J (.ret (im (cV a b)),h):=ZS3
end
def sK(l:List Int):Int:=l.foldl cX 0
def abl(l)(x):sK (l++[x])=cX (sK l) x:=by unfold sK;rw[ot];rfl
def abk(l):okF (sK l):=by
 rcases List.eq_nil_or_concat l with rfl|⟨f,x,rfl⟩
 .exact yo
 .rw[List.concat_eq_append,abl];exact Ia _ _
def ga{α:Type}{l:List α}{i}{x}(h:l[i]?=J x):l.take (i+1)=l.take i++[x]:=by obtain⟨f,rfl⟩:=bk.1 h;rw[List.take_succ_eq_append_getElem f]
def avz(l:List Int)(k:Tok)(Y:F l<=9223372036854775807)(h:ah):W.call 161 [.ac k 1 (aF l)] h=J (.ret (im (sK l)),h):=by
 have C:=dp;have D:=eH;have s3:=fa;refine da O Tryz.func161 O ?_;refine Nr @QO @db ?_;refine cJ (λB e h'=>∃i:Nat,i<=F l/\B=F l-i/\e.get 6=.ac k 1 (aF l)/\e.get 7=(F l:Nat)/\e.get 8=(i:Int)/\e.get 3=(sK (l.take i):Int)/\e.defers=[]/\h'=h) ?_ (F l) _ _ ?_;rotate_left 1
 .refine⟨0,cC _,O,?_,?_,?_,?_,?_,O⟩<;>(first|assumption|(simp only[gW,reduceIte,aT,aN,db]<;>rfl))
 rintro B e h' ⟨i,X,rfl,E,N,S,z,T,rfl⟩;by_cases m:i<F l
 .obtain⟨x,f⟩:∃x,l[i]?=J x:=⟨_,aY m⟩;have Z:(aF l)[i]?=J (wt x):=by rw[XQ,f];rfl
  have A:(i:Int)<(F (aF l):Int):=by rw[db];omega
  have r:=YO x;obtain⟨x1,x2⟩:=EO x;obtain⟨s1,q⟩:=abk (l.take i);have q:sK (l.take i)<1073741789:=q;have s:sK (l.take (i+1))=(sK (l.take i)+fmod x).tmod 1073741789:=by rw[ga f,abl,GL af];show(fmod (sK (l.take i))+fmod x)%Qi=_;rw[BX (abk _)];rfl
  unfold im at r;generalize sK (l.take i)=z0 at *
  have j:=Yk (h:=h') f;unfold im at j;refine Ns @QO @db @bj ?_;exact⟨F l-(i+1),by omega,i+1,by omega,O,by trivial,by trivial,by simp,by rw[s],by trivial,by trivial⟩
 .have:i=F l:=by omega
  subst this;rw[gy]at z
  repeat' (first|simp(maxSteps:=9999999) (disch:=first|exact dZ|fail) only[gW,reduceIte,aT,aN,QO,db,im, *]|(refine dX ?_ ?_<;>(intro _;try omega))|refine sC aB ?_)
def adU(a b:Int)(h:ah):W.call 80 [im a,im b] h=J (.ret (im (cX a b)),h):=by
 have c:=avz [a,b] .aP cE h;have e:sK [a,b]=cX a b:=by show cX (cX 0 a) b=cX a b;rw[zC,zC,zC,Hc,Int.emod_add_emod]
 rw[e]at c;have f:fC ag 23 2 [(0,im a),(1,im b)]=J (.ac .aP 1 (aF [a,b])):=aB;unfold im at *
 refine da O Tryz.func80 O ?_;exact jP @asX
def P8(a):∀k:Nat,(a%Qi)^k%Qi=a^k%Qi:=by
 intro k
 induction k with
 |zero=>simp|succ k f=>rw[xi,xi,yI,f,DS _ (DR _),<-yI]
def anF(n)(k):(((fmod n).toNat^k%Q:Nat):Int)=n^k%Qi:=by rw[RT,Int.natCast_pow,zI,<-yT];exact P8 n k
def pH(r:Int)(l:Nat)(s x:Int):Prop:=okF x/\(x*s^l)%Qi=r
def pH.odd{r s x}{l}(h:pH r l s x)(f:l%2=1):pH r (l/2) (cV s s) (cV x s):=by
 refine⟨EP _ _,?_⟩;rw[<-h.2,tw,tw,yI,P8,DS _ (DR _),<-yI,ab7];congr 2;have e:l=2*(l/2)+1:=by omega
 rw[show s^l=s^(2*(l/2)+1) by rw[<-e],xi,G',G9,show s*s=s^2 by rw[xi,xi,RW,Lt]]
def pH.even{r s x}{l}(h:pH r l s x)(f:l%2=0):pH r (l/2) (cV s s) x:=by
 refine⟨h.1,?_⟩;rw[<-h.2,tw,yI,P8,<-yI];congr 2;have e:l=2*(l/2):=by omega
 rw[show s^l=s^(2*(l/2)) by rw[<-e],G',show s*s=s^2 by rw[xi,xi,RW,Lt]]
def pH.done{r s x}(h:pH r 0 s x):x=r:=by rw[<-h.2,RW,Lr];exact(ab5 h.1.1 h.1.2).symm
def pH.start(n):pH (e8 n) 1073741787 n 1:=by
 refine⟨by unfold okF;decide,?_⟩;have e:(e8 n)=(((fmod n).toNat^(Q-2)%Q:Nat):Int):=by unfold e8;rw[Ib bm bm bm,Bi]
 rw[e,anF,Lt];rfl
def Gm:Tryz.f222.results.toList=[.tmp 2,.tmp 3]:=aB
def alM(n:Int)(h:ah):W.call 222 [im n] h=J (.ret (.tuple [im (if fmod n=0 then 0 else e8 n),im (if fmod n=0 then 90 else 0)]),h):=by
 have S:=YO n;by_cases q:fmod n=0
 .rw[aH q,aH q];unfold im at *
  refine da O adn O ?_;exact jP @Gm
 .rw[aV q,aV q];have z:=aj.mk (pH.start n);unfold im at *
  refine da O adn O ?_;refine nC @Gm ?_;refine cJ (λE e h'=>∃(r x:Int),E<=1073741787/\pH (e8 n) E r x/\e.get 4=(E:Nat)/\e.get 5=(r:Int)/\e.get 2=(x:Int)/\e.defers=[]/\h'=h) ?_ 1073741787 _ _ ?_;rotate_left 1
  .exact⟨n,1,bh _,z.M,by exact gR,by exact gR,by exact gR,by exact gR,O⟩
  rintro l e h' ⟨r,x,hl,m,X,Y,T,Z,rfl⟩;have s:=aj.mk m;have A:=PC x r;have B:=PC r r;unfold im at A B;by_cases C:l=0
  .subst C;have hx:=m.done;clear m;exact jP @Gm
  .have D:((l:Nat):Int).tdiv 2=((l/2:Nat):Int):=(by rw[ach af];omega);have f:((l:Nat):Int).tmod 2=((l%2:Nat):Int):=(by rw[Ha af];omega);have N:¬((l:Nat):Int)=0:=(by omega);clear m;rcases Ee l with j|j
   .rw[j]at f;refine nC @Gm ?_;exact⟨l/2,by omega,_,_,by omega,s.M.even j,by trivial,by trivial,by trivial,by trivial,by trivial⟩
   .rw[j]at f;refine nC @Gm ?_;exact⟨l/2,by omega,_,_,by omega,s.M.odd j,by trivial,by trivial,by trivial,by trivial,by trivial⟩
def Kv(b:Bool):Nat:=if b=aa then 0 else 1
def p8(x a n:Nat)(f:Bool):Prop:=1<=a/\n%2=1/\nm a n/\a<=P/\n<=P/\mu x P%2=(mu a n+Kv f)%2
def aaP(b):(Kv (!b)+1)%2=Kv b%2:=by cases b<;>rfl
def p8.even{x a n}{f}(h:p8 x a n f)(C:a%2=0):p8 x (a/2) n (if n%8=3∨n%8=5 then !f else f):=by
 obtain⟨A,h2,q,B,r,s⟩:=h;have e:a=2*(a/2):=by omega
 have j:nm (2*(a/2)) n:=by rw[<-e];exact q
 have m:=au7 h2 j;rw[<-e]at m;refine⟨af,h2,acR j,by omega,r,?_⟩;rw[s];have:=aaP f;split at m<;>rename_i z
 .rw[aH z];omega
 .rw[aV z];omega
def p8.odd{x a n}{f}(h:p8 x a n f)(m:a%2=1)(E:1<a):p8 x (n%a) a (if a%4=3/\n%4=3 then !f else f):=by
 obtain⟨C,h2,j,r,D,s⟩:=h;have A:=au9 h2 m j;have N:=lT n (af:0<a);have B:n%a≠0:=λq=>by have z:=Ec q;have:=Nat.dvd_gcd (Nat.dvd_refl a) z;rw[j]at this;have:=Bg bm this;omega
 refine⟨af,m,ahr j,by omega,r,?_⟩;rw[s];have:=aaP f;split at A<;>rename_i q
 .rw[aH q];omega
 .rw[aV q];omega
def p8.done{x n}{j}(m:1<=x)(q:x<P)(h:p8 x 1 n j):elem x=j:=by
 obtain⟨-,h2,-,-,-,f⟩:=h;rw[anA (h:=n/2) af]at f;rw[ah0 m q];cases j
 .rw[cR];rw[f];decide
 .rw[cD];rw[f];rfl
def p8.start{x}(f:1<=x)(j:x<P):p8 x x P aa:=⟨f,by decide,Sv.coprime f j,np j,bh _,by rw[show Kv aa=0 from O,yR]⟩
def si:Tryz.f66.results.toList=[.tmp 2]:=aB
def KI(a b):((a:Nat):Int).tdiv (b:Nat)=((a/b:Nat):Int):=by rw[ach af];simp
def qL(a b):((a:Nat):Int).tmod (b:Nat)=((a%b:Nat):Int):=by rw[Ha af];simp
def HY{x}(h:x<1∨2147483579<=x):cq x=au:=by
 unfold cq;rcases h with h|h
 .rw[cR af];rfl
 .have:elem x.toNat=au:=by rw[abX];intro j;have:=(elem_iff.1 j).2.1;have f:P=2147483579:=rfl;omega
  rw[this,Bool.and_false]
def KQ(x:Int)(h:ah):W.call 66 [im x] h=J (.ret (.v (.bool (cq x))),h):=by
 by_cases hx:x<1
 .rw[HY (.inl hx)];unfold im;refine da O SX O ?_;exact jP @si
 by_cases E:2147483579<=x
 .rw[HY (.inr E)];unfold im;refine da O SX O ?_;exact jP @si
 obtain⟨n0,rfl⟩:∃n:Nat,x=n:=⟨x.toNat,by omega⟩;have h1:1<=n0:=by omega
 have h2:n0<P:=by have:P=2147483579:=rfl;omega
 have B:∀{X:Nat} {j:Bool},p8 n0 1 X j->cq (n0:Int)=j:=λD=>by unfold cq;rw[cD af,fe,D.done h1 h2];rfl
 have k0:=aj.mk (p8.start h1 h2);have kf:=aj.mk @B;clear B;unfold im;generalize cq (n0:Int)=res at *
 have hnP:(n0:Int)<2147483579:=by omega
 clear h2;refine da O SX O ?_;refine nC @si ?_;refine cJ (λX e h'=>∃(n:Nat) (j:Bool),p8 n0 X n j/\e.get 0=(X:Nat)/\e.get 3=(n:Nat)/\e.get 4=(j:Bool)/\e.defers=[]/\h'=h) ?_ n0 _ _ ?_;rotate_left 1
 .exact⟨2147483579,aa,k0.M,by exact gR,by exact gR,by exact gR,by exact gR,O⟩
 rintro a e h' ⟨n,j,f,g0,g3,g4,hd,rfl⟩;have s:=aj.mk f;have Iz:=f.1;have ha4:a<=2147483579:=f.2.2.2.1;by_cases akE:a=1
 .subst akE;have hr:=kf.M f;clear f;exact jP @si
 have hgt:(1:Int)<(a:Int):=by omega
 clear f;refine nC @si ?_;refine cJ (λX e T=>∃(j:Bool),X<=a/\p8 n0 X n j/\e.get 0=(X:Nat)/\e.get 3=(n:Nat)/\e.get 4=(j:Bool)/\e.defers=[]/\T=h') ?_ a _ _ ?_;rotate_left 1
 .exact⟨j,bh _,s.M,by first|assumption|(exact gA),by first|assumption|(exact gA),by first|assumption|(exact gA),by first|assumption|(exact gA),O⟩
 clear g0 g3 g4 hd s j;rintro b e T ⟨j,hba,f,g0,g3,g4,hd,rfl⟩;have s:=aj.mk f;have qp:=f.1;have hn2:=f.2.1;have ayp:n<=2147483579:=f.2.2.2.2.1;clear f;have m2:((b:Nat):Int).tmod 2=((b%2:Nat):Int):=qL b 2;have d2:((b:Nat):Int).tdiv 2=((b/2:Nat):Int):=KI b 2;have S:((n:Nat):Int).tmod 8=((n%8:Nat):Int):=qL n 8;have r:((b:Nat):Int).tmod 4=((b%4:Nat):Int):=qL b 4;have Y:((n:Nat):Int).tmod 4=((n%4:Nat):Int):=qL n 4;have mnb:=qL n b;rcases Ee b with A|A
 .have m:=s.M.even A;rw[A,uu]at m2;by_cases c3:n%8=3
  .rw[aH (.inl c3)]at m;have S:((n:Nat):Int).tmod 8=3:=(by rw[S,c3];rfl);have C:=aj.mk m;clear m;refine nC @si ?_;exact⟨b/2,by omega,_,by omega,C.M,(by first|exact br|exact rfl),(by first|exact br|exact rfl),(by first|exact br|exact rfl),(by first|exact br|exact rfl),(by first|exact br|exact rfl)⟩
  .by_cases z:n%8=5
   .rw[aH (.inr z)]at m;have S:((n:Nat):Int).tmod 8=5:=(by rw[S,z];rfl);have C:=aj.mk m;clear m;refine nC @si ?_;exact⟨b/2,by omega,_,by omega,C.M,(by first|exact br|exact rfl),(by first|exact br|exact rfl),(by first|exact br|exact rfl),(by first|exact br|exact rfl),(by first|exact br|exact rfl)⟩
   .rw[aV af]at m;have C:=aj.mk m;have c3':¬(((n%8:Nat):Int)=3):=(by omega);have c5':¬(((n%8:Nat):Int)=5):=(by omega);clear m;refine nC @si ?_;exact⟨b/2,by omega,_,by omega,C.M,(by first|exact br|exact rfl),(by first|exact br|exact rfl),(by first|exact br|exact rfl),(by first|exact br|exact rfl),(by first|exact br|exact rfl)⟩
 .rw[A,RU]at m2;by_cases ajY:b=1
  .subst ajY;have hr:=kf.M s.M;exact jP @si
  .have q:=s.M.odd A af;have gb:¬((b:Nat):Int)=1:=(by omega);have hnz:¬((b:Nat):Int)=0:=(by omega);have dD:=lT n (af:0<b);by_cases Z:b%4=3
   .by_cases z:n%4=3
    .rw[aH ⟨Z,z⟩]at q;have r:((b:Nat):Int).tmod 4=3:=(by rw[r,Z];rfl);have Y:((n:Nat):Int).tmod 4=3:=(by rw[Y,z];rfl);have N:=aj.mk q;clear q;refine nC @si ?_;exact⟨n%b,by omega,b,_,N.M,(by first|exact br|exact rfl),(by first|exact br|exact rfl),(by first|exact br|exact rfl),(by first|exact br|exact rfl),(by first|exact br|exact rfl)⟩
    .rw[aV af]at q;have r:((b:Nat):Int).tmod 4=3:=(by rw[r,Z];rfl);have c5':¬(((n%4:Nat):Int)=3):=(by omega);have N:=aj.mk q;clear q;refine nC @si ?_;exact⟨n%b,by omega,b,_,N.M,(by first|exact br|exact rfl),(by first|exact br|exact rfl),(by first|exact br|exact rfl),(by first|exact br|exact rfl),(by first|exact br|exact rfl)⟩
   .rw[aV af]at q;have c4':¬(((b%4:Nat):Int)=3):=(by omega);have N:=aj.mk q;clear q;refine nC @si ?_;exact⟨n%b,by omega,b,_,N.M,(by first|exact br|exact rfl),(by first|exact br|exact rfl),(by first|exact br|exact rfl),(by first|exact br|exact rfl),(by first|exact br|exact rfl)⟩
def azr:Tryz.f193.results.toList=[.tmp 2]:=aB
def as0:Tryz.f130.results.toList=[.tmp 4]:=aB
def azz:Tryz.f202.results.toList=[.tmp 4]:=aB
def Kj:Tryz.f250.results.toList=[.tmp 4]:=aB
def aaw:Tryz.f231.results.toList=[.tmp 2,.tmp 3]:=aB
def azu:Tryz.f244.results.toList=[.tmp 2]:=aB
def Kg:Tryz.f177.results.toList=[.tmp 4]:=aB
def QR:Tryz.f111.results.toList=[.tmp 2]:=aB
def aar:Tryz.f203.results.toList=[.tmp 4,.tmp 5]:=aB
section
open Go.Proofs.Tryz renaming func193->Q0
open Go.Proofs.YtcbhpkjbiehcpaaGreatDoor renaming azr->Q1
def Qp(n:Int)(h:ah):W.call 193 [im n] h=J (.ret (im (fmod n)),h):=ZS2
end
section
open Go.Proofs.Tryz renaming func244->Q0
open Go.Proofs.YtcbhpkjbiehcpaaGreatDoor renaming azu->Q1
def aim(n:Int)(h:ah):W.call 244 [im n] h=J (.ret (im (fmod n)),h):=ZS2
end
section
open Go.Proofs.YtcbhpkjbiehcpaaGreatDoor renaming Qp->Q2,azz->Q4
open Go.Proofs.Tryz renaming func202->Q3
def Qq(a b:Int)(h:ah):W.call 202 [im a,im b] h=J (.ret (im (cV a b)),h):=ZS3
end
def aqr(a b:Int)(h:ah):W.call 130 [im a,im b] h=J (.ret (im (cX a b)),h):=by
 have ca:=Qp a;have r:=Qp b;obtain⟨f,j⟩:=EO a;obtain⟨m,q⟩:=EO b;have e:cX a b=(fmod a+fmod b).tmod 1073741789:=by rw[GL af];rfl
 rw[e];unfold im at *
 refine da O Tryz.func130 O ?_;exact jP @as0
def asp(r a:Int)(n:Nat)(E:n<=1073741787)(f:pH r n a 1)(h:ah):W.call 250 [im a,im (n:Nat)] h=J (.ret (im r),h):=by
 have z:=aj.mk f;clear f;unfold im at *
 refine da O Tryz.func250 O ?_;refine nC @Kj ?_;refine cJ (λN e h'=>∃(q x:Int),N<=1073741787/\pH r N q x/\e.get 1=(N:Nat)/\e.get 0=(q:Int)/\e.get 5=(x:Int)/\e.defers=[]/\h'=h) ?_ n _ _ ?_;rotate_left 1
 .exact⟨a,1,E,z.M,by exact gR,by exact gR,by exact gR,by exact gR,O⟩
 rintro l e h' ⟨q,x,hl,f,X,T,Y,Z,rfl⟩;have s:=aj.mk f;have A:=Qq x q;have B:=Qq q q;unfold im at A B;by_cases C:l=0
 .subst C;have hx:=f.done;clear f;exact jP @Kj
 .have D:((l:Nat):Int).tdiv 2=((l/2:Nat):Int):=KI l 2;have j:((l:Nat):Int).tmod 2=((l%2:Nat):Int):=qL l 2;have S:(0:Int)<((l:Nat):Int):=by omega
  clear f;rcases Ee l with m|m
  .rw[m,uu]at j;refine nC @Kj ?_;exact⟨l/2,by omega,_,_,by omega,s.M.even m,(by first|exact br|exact rfl),(by first|exact br|exact rfl),(by first|exact br|exact rfl),(by first|exact br|exact rfl),(by first|exact br|exact rfl)⟩
  .rw[m,RU]at j;refine nC @Kj ?_;exact⟨l/2,by omega,_,_,by omega,s.M.odd m,(by first|exact br|exact rfl),(by first|exact br|exact rfl),(by first|exact br|exact rfl),(by first|exact br|exact rfl),(by first|exact br|exact rfl)⟩
def ard(n:Int)(h:ah):W.call 231 [im n] h=J (.ret (.tuple [im (if fmod n=0 then 0 else e8 n),im (if fmod n=0 then 90 else 0)]),h):=by
 have m:=Qp n;have j:=asp (e8 n) n 1073741787 (bh _) (pH.start n);by_cases f:fmod n=0
 .rw[aH f,aH f];clear j;unfold im at *
  refine da O adq O ?_;exact jP @aaw
 .rw[aV f,aV f];have j:∀h,W.call 250 [((n:Int):V),.v (.int .i64 1073741787)] h=J (.ret ((e8 n:Int):V),h):=j;unfold im at *
  refine da O adq O ?_;exact jP @aaw
def mS(r n a c:Nat):Prop:=c<P/\a<P/\c*a^n%P=r
def mS.odd{r n a c}(h:mS r n a c)(f:n%2=1):mS r (n/2) (a*a%P) (c*a%P):=by refine⟨lT _ bm,lT _ bm,?_⟩;rw[<-h.2.2,acY,qS,<-Ef,<-qS,Sm,<-Sq,<-Hl,<-ac7,show(2*(n/2)).succ=n by omega]
def mS.even{r n a c}(h:mS r n a c)(f:n%2=0):mS r (n/2) (a*a%P) c:=by refine⟨h.1,lT _ bm,?_⟩;rw[<-h.2.2,qS,<-Ef,<-qS,<-Sq,<-Hl,(af:2*(n/2)=n)]
def mS.done{r a c}(h:mS r 0 a c):c=r:=by rw[<-h.2.2,Nat.pow_zero,mr,nq h.1]
def mS.start{a n}(f:a<P)(j:n<2^31):mS (qH a n) n a 1:=⟨bm,f,by rw[P5 j,Bi]⟩
def mS.bound{r n a c}(h:mS r n a c):c*a<=4611685722074649241/\a*a<=4611685722074649241:=by obtain⟨f,h2,-⟩:=h;have f:c<=2147483579:=np f;have h2:a<=2147483579:=np h2;exact⟨kL f h2,kL h2 h2⟩
def aaq(r a n:Nat)(C:n<=2147483647)(j:mS r n a 1)(h:ah):W.call 177 [im (a:Nat),im (n:Nat)] h=J (.ret (im (r:Nat)),h):=by
 have z:=aj.mk j;clear j;unfold im at *
 refine da O Tryz.func177 O ?_;refine nC @Kg ?_;refine cJ (λD e h'=>∃(f x:Nat),D<=2147483647/\mS r D f x/\e.get 1=(D:Nat)/\e.get 0=(f:Nat)/\e.get 5=(x:Nat)/\e.defers=[]/\h'=h) ?_ n _ _ ?_;rotate_left 1
 .exact⟨a,1,C,z.M,by exact gR,by exact gR,by exact gR,by exact gR,O⟩
 rintro l e h' ⟨f,x,hl,j,g1,g0,g5,hd,rfl⟩;have s:=aj.mk j;obtain⟨N,S⟩:=j.bound;by_cases A:l=0
 .subst A;have hx:=j.done;clear j;exact jP @Kg
 .have B:((l:Nat):Int).tdiv 2=((l/2:Nat):Int):=KI l 2;have m:((l:Nat):Int).tmod 2=((l%2:Nat):Int):=qL l 2;have E:(0:Int)<((l:Nat):Int):=by omega
  have T:((x:Nat):Int)*(f:Nat)=((x*f:Nat):Int):=(A9 _ _).symm;have X:((f:Nat):Int)*(f:Nat)=((f*f:Nat):Int):=(A9 _ _).symm;have Y:((x*f:Nat):Int).tmod 2147483579=((x*f%P:Nat):Int):=qL (x*f) 2147483579;have Z:((f*f:Nat):Int).tmod 2147483579=((f*f%P:Nat):Int):=qL (f*f) 2147483579;clear j;rcases Ee l with q|q
  .rw[q,uu]at m;refine nC @Kg ?_;exact⟨l/2,by omega,_,_,by omega,s.M.even q,(by first|exact br|exact rfl),(by first|exact br|exact rfl),(by first|exact br|exact rfl),(by first|exact br|exact rfl),(by first|exact br|exact rfl)⟩
  .rw[q,RU]at m;refine nC @Kg ?_;exact⟨l/2,by omega,_,_,by omega,s.M.odd q,(by first|exact br|exact rfl),(by first|exact br|exact rfl),(by first|exact br|exact rfl),(by first|exact br|exact rfl),(by first|exact br|exact rfl)⟩
def eR(a n:Int):Int:=if cq a=aa then ((cN a.toNat n:Nat):Int) else 0
def lm(a:Int):Int:=if cq a=aa then 0 else 100
def oI(a b:Int):Int:=if cq a=aa/\cq b=aa then ((a.toNat*b.toNat%P:Nat):Int) else 0
def tC(a b:Int):Int:=if cq a=aa/\cq b=aa then 0 else 100
def EI{a}(h:cq a=aa):∃n:Nat,a=n/\elem n=aa/\1<=n/\n<P:=by unfold cq at h;rw[bQ,decide_eq_true_eq]at h;have:=elem_iff.1 h.2;exact⟨a.toNat,by omega,h.2,this.1,this.2.1⟩
def aaB(x:Int)(h:ah):W.call 111 [im x] h=J (.ret (.v (.bool (cq x))),h):=by
 by_cases f:x<1
 .rw[HY (.inl f)];unfold im;refine da O SO O ?_;exact jP @QR
 by_cases j:2147483579<=x
 .rw[HY (.inr j)];unfold im;refine da O SO O ?_;exact jP @QR
 obtain⟨n0,rfl⟩:∃n:Nat,x=n:=⟨x.toNat,by omega⟩;have h2:n0<P:=by have:P=2147483579:=rfl;omega
 have s:∀h,W.call 177 [((n0:Nat):V),.v (.int .i64 1073741789)] h=J (.ret ((qH n0 Q:Nat):V),h):=aaq (qH n0 Q) n0 1073741789 bm (mS.start h2 bm);have e:cq (n0:Int)=decide (((qH n0 Q:Nat):Int)=1):=by
  unfold cq elem;rw[cD af,fe,cD af,cD h2,pF,pF,pF,Lc,decide_eq_true_eq];constructor
  .intro r;rw[ou r];rfl
  .intro r;have:qH n0 Q=1:=(by omega);rw[this];rfl
 rw[e];generalize qH n0 Q=z at *
 have m:(1:Int)<=(n0:Int):=by omega
 have q:(n0:Int)<2147483579:=by omega
 clear e h2 f j;unfold im;refine da O SO O ?_;exact jP @QR
def QM:Tryz.f67.results.toList=[.tmp 4,.tmp 5]:=aB
def QP:Tryz.f148.results.toList=[.tmp 2]:=aB
def mul_tmod{a b}(j:a<P)(m:b<P):((a:Nat):Int)*(b:Nat)<=4611685722074649241/\(0:Int)<=((a:Nat):Int)*(b:Nat)/\(((a:Nat):Int)*(b:Nat)).tmod 2147483579=((a*b%P:Nat):Int):=by have f:a<=2147483579:=np j;have h2:b<=2147483579:=np m;have:=kL f h2;have e:((a:Nat):Int)*(b:Nat)=((a*b:Nat):Int):=(A9 _ _).symm;rw[e];exact⟨af,by omega,qL (a*b) 2147483579⟩
def ajp(a b:Int)(h:ah):W.call 67 [im a,im b] h=J (.ret (.tuple [im (oI a b),im (tC a b)]),h):=by
 have ca:=KQ a;have q:=KQ b;unfold oI tC;by_cases f:cq a=aa
 .by_cases j:cq b=aa
  .rw[aH ⟨f,j⟩,aH ⟨f,j⟩];rw[f]at ca;rw[j]at q;obtain⟨x,rfl,-,-,C⟩:=EI f;obtain⟨y,rfl,-,-,D⟩:=EI j;obtain⟨A,B,-⟩:=mul_tmod C D;simp only[fe];have z:((x:Nat):Int)*(y:Nat)=((x*y:Nat):Int):=(A9 _ _).symm;have E:((x*y:Nat):Int).tmod 2147483579=((x*y%P:Nat):Int):=qL (x*y) 2147483579;rw[z]at A B;have N:x*y%P<2147483579:=lT _ bm;clear f j;unfold im at *
   refine da O SY O ?_;exact jP @QM
  .have s:cq b=au:=(by simpa using j);rw[aV (λm=>j m.2),aV (λm=>j m.2)];rw[f]at ca;rw[s]at q;unfold im at *
   refine da O SY O ?_;exact jP @QM
 .have r:cq a=au:=by simpa using f
  rw[aV (λm=>f m.1),aV (λm=>f m.1)];rw[r]at ca;unfold im at *
  refine da O SY O ?_;exact jP @QM
def rX(l:List Int):Int:=l.foldl (λa x=>(a*(x.tmod 1073741789+1073741789)).tmod 1073741789) 1
def amy(l)(x):rX (l++[x])=(rX l*(x.tmod 1073741789+1073741789)).tmod 1073741789:=by unfold rX;rw[ot];rfl
def amx(n):rX [n]=fmod n:=by
 obtain⟨f,j,m,q⟩:=KJ n;show(1*(n.tmod 1073741789+1073741789)).tmod 1073741789=fmod n;rw[Lt,GL af];by_cases c:n.tmod 1073741789<0
 .rw[f c];omega
 .rw[j c];omega
def Yq{a x:Int}(h:0<=a/\a<1073741789):0<=a*(x.tmod 1073741789+1073741789)/\a*(x.tmod 1073741789+1073741789)<=2305843013508661242/\0<=(a*(x.tmod 1073741789+1073741789)).tmod 1073741789/\(a*(x.tmod 1073741789+1073741789)).tmod 1073741789<1073741789:=by obtain⟨-,-,j,m⟩:=KJ x;have f:0<=a*(x.tmod 1073741789+1073741789):=ab9 h.1 af;have q:a*(x.tmod 1073741789+1073741789)<=1073741789*2147483578:=ab8 af af af af;rw[GL f];omega
def amw(l):0<=rX l/\rX l<1073741789:=by
 unfold rX;have f:∀(l:List Int) (a:Int),0<=a/\a<1073741789->0<=l.foldl (λa x=>(a*(x.tmod 1073741789+1073741789)).tmod 1073741789) a/\l.foldl (λa x=>(a*(x.tmod 1073741789+1073741789)).tmod 1073741789) a<1073741789:=by
  intro l
  induction l with
  |nil=>intro a h;exact h|cons x l j=>intro a h;exact j _ (Yq h).2.2
 exact f l 1 ⟨bm,by decide⟩
def amz(l:List Int)(k:Tok)(X:F l<=9223372036854775807)(h:ah):W.call 148 [.ac k 1 (aF l)] h=J (.ret (im (rX l)),h):=by
 have B:=dp;have C:=eH;have s3:=fa;refine da O Tryz.func148 O ?_;refine Nr @QP @db ?_;refine cJ (λz e h'=>∃i:Nat,i<=F l/\z=F l-i/\e.get 6=.ac k 1 (aF l)/\e.get 7=(F l:Nat)/\e.get 8=(i:Int)/\e.get 3=(rX (l.take i):Int)/\e.defers=[]/\h'=h) ?_ (F l) _ _ ?_;rotate_left 1
 .refine⟨0,cC _,O,?_,?_,?_,?_,?_,O⟩<;>(first|assumption|(simp only[gW,reduceIte,aT,aN,db]<;>rfl))
 rintro z e h' ⟨i,T,rfl,D,E,N,r,S,rfl⟩;by_cases j:i<F l
 .obtain⟨x,m⟩:∃x,l[i]?=J x:=⟨_,aY j⟩;have s:(i:Int)<(F (aF l):Int):=by rw[db];omega
  obtain⟨-,-,x1,x2⟩:=KJ x;obtain⟨Y,Z,A,s4⟩:=Yq (x:=x) (amw (l.take i));have q:rX (l.take (i+1))=(rX (l.take i)*(x.tmod 1073741789+1073741789)).tmod 1073741789:=by rw[ga m,amy]
  generalize rX (l.take i)=z0 at *
  have f:=Yk (h:=h') m;unfold im at f;refine Ns @QP @db @bj ?_;exact⟨F l-(i+1),by omega,i+1,by omega,O,by trivial,by trivial,by simp,by rw[q],by trivial,by trivial⟩
 .have:i=F l:=by omega
  subst this;rw[gy]at r
  repeat' (first|simp(maxSteps:=9999999) (disch:=first|exact dZ|fail) only[gW,reduceIte,aT,aN,QP,db,im, *]|(refine dX ?_ ?_<;>(intro _;try omega))|refine sC aB ?_)
def ZZ{h:ah}{z cs}{b}(f:b=F h.I):(h.push z).put b cs=h.push cs:=by subst f;exact ml h z cs
def apV{h:ah}{z cs}{b}(m:b≠F h.I):(h.push z).put b cs=(h.put b cs).push z:=by
 unfold ah.push ah.put;simp only;congr 1;rcases eg b (F h.I) with j|f
 .rw[List.set_append_left _ _ j]
 .rw[Hh _ _ f,acM (by simp;omega),acM f]
def as2:Tryz.f147.results.toList=[.tmp 4]:=aB
def QB:Tryz.f216.results.toList=[]:=aB
def QJ:Tryz.f75.results.toList=[.cell 4 3,.tmp 5]:=aB
def KT:(gp ag 3).bind V.bP=J [im 0]:=aB
def aed{t}{x y}{n}(q:n<=9223372036854775807):df ag .and t x y ((n:Nat):V) (.v (.int .i64 1))=J ((n%2:Nat):V):=by
 rw[qW];congr 3;have f:BitVec.ofInt IntKind.i64.bits (n:Int)=BitVec.ofNat 64 n:=by apply BitVec.eq_of_toNat_eq;show(BitVec.ofInt 64 (n:Int)).toNat=(BitVec.ofNat 64 n).toNat;rw[BitVec.toNat_ofInt,BitVec.toNat_ofNat];omega
 have j:(BitVec.ofNat 64 n&&&1#64).toNat=n%2:=by rw[BitVec.toNat_and,BitVec.toNat_ofNat,show(1#64:BitVec 64).toNat=1 from O,Nat.and_one_is_mod];omega
 have m:(BitVec.ofInt IntKind.i64.bits (n:Int)&&&BitVec.ofInt IntKind.i64.bits 1).toNat=n%2:=by rw[f];exact j
 rw[m,jq af af]
def aug{t}{x y}{n}:df ag .shr t x y ((n:Nat):V) (.v (.int .u64 1))=J ((n/2:Nat):V):=by rw[Bv bm];congr 3;show((n:Nat):Int).fdiv (2^1)=_;rw[Int.fdiv_eq_ediv_of_nonneg _ bm];simp
def ju{h:ah}{b}{cs}(f:h.I[b]?=J cs):h.put b cs=h:=by
 unfold ah.put;have:h.I.set b cs=h.I:=by
  apply oq;intro k;rw[mq];split
  .rename_i e;subst e;rw[aH (bk.1 f).1,f]
  .rfl
 rw[this]
def mh{H}{b}{x}(f:H.I[b]?=J [x]):aL ag Gt H 3 (.ptr (.box b) 0)=J x:=by rw[fx eH f];rfl
def DF{H}{b}{x}{n}(f:H.I[b]?=J [x]):b9 ag H 3 (.ptr (.box b) 0) ((n:Int):V)=J (H.put b [((n:Int):V)]):=fI (off:=0) (cs:=[x]) (xs:=[im n]) O fa f O (bh 1)
def Sw(l f:Nat)(rec:ij):Prop:=∀(j c:Nat) (b:Bool) (H:ah),j<P->c<P->H.aI[l]?=J rec->H.I[f]?=J [im (c:Nat)]->W.round l [im (j:Nat),((b:Bool):V)] H=J (.ret (aa:V),H.put f [im ((if b=aa then c*j%P else c:Nat):Int)])
def zr{P}{R}{e}{h}{t l:Nat}{args}{ts}(f:e.get t=.yield l):kZ P R e h {callee:=.value (.tmp t),args,argTypes:=ts}=R.round l (args.toList.map e.eval) h:=by rw[TX,f]
def auJ(l bn j m:Nat)(rec:ij)(hR:Sw l m rec)(N:bn≠j)(h2:bn≠m)(S:j≠m)(r n a c:Nat)(hn:n<=2147483647)(q:mS r n a c)(h:ah)
 (z:h.I[bn]?=J [im (n:Nat)]) (s:h.I[j]?=J [im (a:Nat)]) (A:h.I[m]?=J [im (c:Nat)]) (hl:h.aI[l]?=J rec):
 ∃h',W.call 216 [.yield l,.ptr (.box bn) 0,.ptr (.box j) 0] h=J (.ret (.tuple []),h')/\h'.I[m]?=J [im (r:Nat)]/\h'.aI=h.aI/\∀f:ah,Ext f h->F f.I<=bn->F f.I<=j->F f.I<=m->Ext f h':=by
 have kR:=aj.mk hR;have Z:=aj.mk q;clear hR q;refine iG O Tryz.func216 O ?_;refine bD @QB ?_;refine cJ (λB e h'=>∃(a c:Nat),B<=2147483647/\mS r B a c/\e.get 0=.yield l/\e.get 1=.ptr (.box bn) 0/\e.get 2=.ptr (.box j) 0/\e.defers=[]/\h'.I[bn]?=J [im (B:Nat)]/\h'.I[j]?=J [im (a:Nat)]/\h'.I[m]?=J [im (c:Nat)]/\h'.aI=h.aI/\∀f:ah,Ext f h->F f.I<=bn->F f.I<=j->F f.I<=m->Ext f h') ?_ n _ _ ?_;rotate_left 1
 .exact⟨a,c,hn,Z.M,by exact gR,by exact gR,by exact gR,by exact gR,z,s,A,O,λ_ x _ _ _=>x⟩
 clear z s A Z n a c hn;rintro B e H ⟨a,c,hm,q,g0,g1,g2,hd,z,s,A,C,hX⟩;have Z:=aj.mk q;have kX:=aj.mk hX;have ln:=mh z;have la:=mh s;clear hX;by_cases f:B=0
 .subst f;have hx:=q.done;subst hx;unfold im at ln la;clear q;refine bD @QB ?_;exact⟨_,O,A,C,kX.M⟩
 have Co:(0:Int)<((B:Nat):Int):=by omega
 have q1:∀(t:aO) (x y:ck),df ag .and t x y ((B:Nat):V) (.v (.int .i64 1))=J ((B%2:Nat):V):=λt x y=>aed af;obtain⟨m1,m2,m3⟩:=mul_tmod q.2.1 q.2.1;have E6:H.aI[l]?=J rec:=by rw[C];exact hl
 have rd:=kR.M a c (decide ((B%2:Nat)=1)) H q.2.1 q.1 E6 A;have E:mS r (B/2) (a*a%P) (if decide (B%2=1)=aa then c*a%P else c):=by
  rcases Ee B with D|D
  .rw[D];exact q.even D
  .rw[D];exact q.odd D
 have kI2:=aj.mk E;have ayc:decide (((B%2:Nat):Int)=1)=decide (B%2=1):=by rw[decide_eq_decide];omega
 have Y:=(bk.1 z).1;have T:=(bk.1 s).1;have X:=(bk.1 A).1;clear q E hl;generalize (if decide (B%2=1)=aa then c*a%P else c)=c2 at *
 generalize decide (B%2=1)=bt at *
 unfold im at *
 have la2:∀x,aL ag Gt (H.put m x) 3 (.ptr (.box j) 0)=J ((a:Nat):V):=λx=>mh (by rw[cS S];exact s);have sa2:∀x n,b9 ag (H.put m x) 3 (.ptr (.box j) 0) ((n:Int):V)=J ((H.put m x).put j [((n:Int):V)]):=λx n=>DF (by rw[cS S];exact s);have ln2:∀x y,aL ag Gt ((H.put m x).put j y) 3 (.ptr (.box bn) 0)=J ((B:Nat):V):=λx y=>mh (by rw[cS N,cS h2];exact z);have sn2:∀x y n,b9 ag ((H.put m x).put j y) 3 (.ptr (.box bn) 0) ((n:Int):V)=J (((H.put m x).put j y).put bn [((n:Int):V)]):=λx y n=>DF (by rw[cS N,cS h2];exact z);refine dA @QB @zr @aug ?_;refine⟨B/2,by omega,a*a%P,c2,by omega,kI2.M,br,br,br,br,?_,?_,?_,C,λf x p1 p2 p3=>(((kX.M f x p1 p2 p3).gw p3 _).gw p2 _).gw p1 _⟩
 .exact dM (by rw[jV,jV];exact Y)
 .rw[cS (Ne.symm N)];exact dM (by rw[jV];exact T)
 .rw[cS (Ne.symm h2),cS (Ne.symm S)];exact dM X
def J7{e:Env}{l p q t:Nat}{r:ij}{x y}(j:r.params=#[p,q])(m:r.tmps=e.tmps):(oe l r [x,y]).get t=if q=t then y else if p=t then x else e.get t:=by unfold oe;rw[j,m];have f:=CP (e.tmps.set p x) q t y;have h2:=CP e.tmps p t x;show((e.tmps.set p x).set q y).get t=_;rw[f,h2];rfl
def auK(a n:Int)(h:ah):W.call 147 [im a,im n] h=J (.ret (.func (.func 216) [] [.ptr (.box (F h.I+1)) 0,.ptr (.box (F h.I)) 0]),(h.push [im a]).push [im n]):=by have f:∀n:Int,(V.v (.int .i64 n)).bP=J [((n:Int):V)]:=λ_=>rfl;unfold im;refine da O Tryz.func147 O ?_;exact qn @as2 @bC @bV
def ajv(a n:Int)(h:ah):∃h',W.call 75 [im a,im n] h=J (.ret (.tuple [im (eR a n),im (lm a)]),h')/\Ext h h':=by
 have ca:=KQ a;have z3:=KT;have a3:=eH;unfold eR lm;by_cases f:cq a=aa;rotate_left 1
 .have V0:cq a=au:=by simpa using f
  rw[aV f,aV f];rw[V0]at ca;unfold im at *
  refine iG O adw O ?_;refine cg @QJ @DF @mh (ar @ZZ @bV) ?_;exact⟨_,O,.push _ _⟩
 rw[aH f,aH f];rw[f]at ca;obtain⟨x,rfl,-,x1,x2⟩:=EI f;clear f;have cl:=amz [n] .aP cE;rw[amx]at cl;obtain⟨z,N⟩:∃z:Nat,fmod n=z:=⟨(fmod n).toNat,(zI n).symm⟩;have m:z<Q:=by have:=Nm n;rw[N,fe]at this;exact this
 have B:cN (x:Int).toNat n=qH x z:=by unfold cN;rw[N,fe,fe]
 rw[B];rw[N]at cl;have bl:fC ag 23 1 [(0,im n)]=J (.ac .aP 1 (aF [n])):=aB;have bx:∀n:Int,(im n).bP=J [im n]:=λ_=>rfl;have csq:=λH=>auK (x:Nat) (z:Nat) H;have q:=mS.start (n:=z) x2 (o7 m bm);generalize qH x z=z2 at *
 clear B N;have kS:=aj.mk (ar q (ar x2 (ar m x1)));clear q x2 m x1;unfold im at *
 refine iG O adw O ?_;refine cg @QJ @DF @mh (ar @ZZ @bV) ?_;refine bM.gen λe B hd hp rP=>?_;have g4:e.get 4=.ptr (.box (F h.I)) 0:=by rw[B];exact gS
 have T:e.get 15=.func (.func 216) [] [.ptr (.box (F h.I+1+1)) 0,.ptr (.box (F h.I+1)) 0]:=by rw[B];exact gS
 have hdf:e.defers=[]:=by rw[hd];exact gS
 clear B hd hp rP;refine Gu (by rw[BS];exact T) λrec w1 w2 w3 w4 E w6=>?_;have hL:F (((h.push [V.v (.int .i64 1)]).push [V.v (.int .i64 (x:Nat))]).push [V.v (.int .i64 (z:Nat))]).aI=F h.aI:=rfl;rw[hL];have PR:Sw (F h.aI) (F h.I) rec:=by
  intro z0 c b H hs hc hl A;obtain⟨m1,m2,-⟩:=mul_tmod hc hs;have e1:((c:Nat):Int)*(z0:Nat)=((c*z0:Nat):Int):=(A9 _ _).symm;have e3:((c*z0:Nat):Int).tmod 2147483579=((c*z0%P:Nat):Int):=qL (c*z0) 2147483579;rw[e1]at m1 m2;have S:∀t,(oe (F h.aI) rec [im (z0:Nat),((b:Bool):V)]).get t=if 17=t then ((b:Bool):V) else if 16=t then im (z0:Nat) else e.get t:=λt=>J7 w2 w1
  have j:(H.busy (F h.aI) rec).I[F h.I]?=J [im (c:Nat)]:=A;have l1:=mh j;have N':=A;have s1:=λn=>DF (n:=n) j;refine J9 hl (by rw[w2];rfl) ?_;rw[w3];unfold im at *
  refine bM.gen λe2 r jQ oL Cs=>?_;have q16:e2.get 16=(z0:Nat):=by rw[r,S];rfl
  have q17:e2.get 17=(b:Bool):=by rw[r,S];rfl
  have q4:e2.get 4=.ptr (.box (F h.I)) 0:=by rw[r,S];exact g4
  clear r S g4 T cl csq ca bl;have Z:F h.aI<F H.aI:=(bk.1 hl).1;have s:H.aI.set (F h.aI) rec=H.aI:=by
   apply oq;intro k;rw[mq];split
   .rename_i e;subst e;exact hl.symm
   .rfl
  have D:{rec with state:=LoopState.ready,pending:=aq}=rec:=by cases rec;cases E;cases w6;rfl
  cases b with
  |true=>
   refine xO ?_;refine⟨br,rec,O,E,?_⟩;refine bF @l1 @s1 ?_;refine⟨{rec with state:=.busy},?_,O,?_⟩
   .show(H.aI.set (F h.aI) _)[F h.aI]?=_;simp[Z]
   .show(H.put (F h.I) _)=_;simp only[ah.put,ah.busy,D',D,s]
  |false=>
   refine xO ?_;refine⟨br,rec,O,E,{rec with state:=.busy},?_,O,?_⟩
   .show(H.aI.set (F h.aI) _)[F h.aI]?=_;simp[Z]
   .have hq:H.put (F h.I) [V.v (Value.int IntKind.i64 (c:Nat))]=H:=ju N';refine(show H.put (F h.I) _=H from hq).trans ?_;simp only[ah.busy,D',D,s]
 have X:∀{z1:ij},((((h.push [V.v (.int .i64 1)]).push [V.v (.int .i64 (x:Nat))]).push [V.v (.int .i64 (z:Nat))]).loop z1).I[F h.I]?=J [im ((1:Nat):Int)]:=λ{z1}=>aX (aX (aU _ _));have Y:∀{z1:ij},((((h.push [V.v (.int .i64 1)]).push [V.v (.int .i64 (x:Nat))]).push [V.v (.int .i64 (z:Nat))]).loop z1).I[F h.I+1]?=J [im (x:Nat)]:=λ{z1}=>aX (nB (by rw[bV]));have j:∀{z1:ij},((((h.push [V.v (.int .i64 1)]).push [V.v (.int .i64 (x:Nat))]).push [V.v (.int .i64 (z:Nat))]).loop z1).I[F h.I+1+1]?=J [im (z:Nat)]:=λ{z1}=>nB (by rw[bV,bV]);have C:=@FO (((h.push [V.v (.int .i64 1)]).push [V.v (.int .i64 (x:Nat))]).push [V.v (.int .i64 (z:Nat))]) rec;have m:=kS.M.2.2.1;obtain⟨h',c1,c2,c3,c4⟩:=auJ (F h.aI) (F h.I+1+1) (F h.I+1) (F h.I) rec PR af af af z2 z x 1 (by unfold Q at m;omega) kS.M.1 _ j Y X C;refine⟨_,h',c1,rec,by rw[c3];exact C,by rw[E];decide,.inl ⟨w6,?_⟩⟩;have hX:Ext h h':=c4 h ((((Ext.push h _).trans (Ext.push _ _)).trans (Ext.push _ _)).trans ((Fr.CQ (bn:=F h.I+3) (l0:=h.aI.length) (n0:=h.tn) _ _).ext (by simp only[bV];omega) (bh _) (bh _))) af af (bh _);have dD:F h.I<F h'.I:=(bk.1 c2).1;generalize hH:h'.fV (F h.aI) {rec with state:=.exhausted}=H;have A:H.I[F h.I]?=J [im (z2:Nat)]:=by rw[<-hH];exact c2
 have NA:Ext h H:=by rw[<-hH];exact((Fr.F2 (bn:=h.I.length) (l0:=h.aI.length) (n0:=h.tn) hX (bh _)).trans (.fV (bh _) _)).ext (bh _) (bh _) (bh _)
 clear c1 c2 c3 c4 hH C X Y j PR w1 w2 w3 w4 E w6 hX dD;have l1:=mh A;unfold im at *
 have s1:=λn=>DF (n:=n) A;have l2:∀y,aL ag Gt (H.put (F h.I) [((y:Int):V)]) 3 (.ptr (.box (F h.I)) 0)=J ((y:Int):V):=λy=>mh (dM (bk.1 A).1);refine bD @QJ ?_;exact⟨_,O,NA.gw (bh _) _⟩
abbrev bW(b:List UInt8):List (List V):=b.map iF
def aax:Tryz.f255.results.toList=[.tmp 2]:=aB
def vy:Tryz.f256.results.toList=[.tmp 4]:=aB
def aay:Tryz.f257.results.toList=[.tmp 8]:=aB
def Hz:f' ag 5=J au:=aB
def sL:cQ ag 5=J 1:=aB
def ahB(n)(h):l_ ag h 5 69 (.v (.int .u8 n))=J (.v (.int .u32 (IntKind.u32.wrap n)),h):=aB
def po(n)(h):l_ ag h 3 176 ((n:Int):V)=J (.v (.int .u64 (IntKind.u64.wrap n)),h):=aB
def lX(b:List UInt8):Nat->Nat
 |0=>0
 |i+1=>lX b i*256+(e7 b i).toNat
def GN(b:UInt8):b.toNat<256:=b.toNat_lt
def S3(b):∀i,lX b i<256^i
 |0=>Nat.zero_lt_one
 |i+1=>by have:=S3 b i;have:=GN (e7 b i);unfold lX;rw[yS];omega
def adH(b):BitVec.ofNat 32 (lX b 4)=wY b 0:=by unfold wY;refine congrArg (BitVec.ofNat 32) ?_;show(((0*256+(e7 b 0).toNat)*256+(e7 b 1).toNat)*256+(e7 b 2).toNat)*256+(e7 b 3).toNat=((e7 b 0).toNat*256+(e7 b 1).toNat)*256*256+(e7 b 2).toNat*256+(e7 b 3).toNat;omega
def or8{t}{x y}{n m}(r:n<16777216)(q:m<256):df ag .or t x y (b7 (BitVec.ofNat 32 n<<<8)) (.v (.int .u32 (IntKind.u32.wrap (m:Nat))))=J (b7 (BitVec.ofNat 32 (n*256+m))):=by
 have f:V.v (.int .u32 (IntKind.u32.wrap (m:Nat)))=b7 (BitVec.ofNat 32 m):=by unfold b7;rw[wrap32,BitVec.toNat_ofNat];congr 2
 rw[f,pC];congr 2;apply BitVec.eq_of_toNat_eq;rw[BitVec.toNat_or,BitVec.toNat_shiftLeft,BitVec.toNat_ofNat,BitVec.toNat_ofNat,BitVec.toNat_ofNat];have:n%2^32=n:=nq af;rw[this];have j:n<<<8=n*256:=by rw[ac9]
 have h2:n<<<8%2^32=n<<<8:=nq af;rw[h2,nq (af:m<2^32),<-Nat.shiftLeft_add_eq_or_of_lt (af:m<2^8),j];exact(nq af).symm
def auc{t}{x y}{u}:df ag .shl t x y (b7 u) (.v (.int .u64 8))=J (b7 (u<<<8)):=uk (n:=8) bm
def awQ(b:List UInt8)(x:V)(h:ah)(s:ek 1 h x (bW b))(C:4<=F b):W.call 255 [x] h=J (.ret (b7 (wY b 0)),h):=by
 have f:=Tryz.underlying60;have X:=Hz;have s5:=sL;obtain⟨y,y1,m⟩:=s.slice (t:=60) (lo:=aq) (hi:=J (.v (.int .i64 4))) (l:=0) (m:=4) bm f sL (.inr ⟨.i64,O,by simpa using C⟩) (.inl ⟨O,O⟩) bm;have y3:=m.len f;rw[show(F ((List.take 4 (bW b)).drop 0))=4 by simp;omega]at y3;have N:=aj.mk m;clear s m;refine da O Tryz.func255 O ?_;refine nC @aax ?_;refine cJ (λS e h'=>∃i:Nat,i<=4/\S=4-i/\e.get 6=y/\e.get 7=(4:Nat)/\e.get 8=(i:Int)/\e.get 2=b7 (BitVec.ofNat 32 (lX b i))/\e.defers=[]/\h'=h) ?_ 4 _ _ ?_;rotate_left 1
 .refine⟨0,cC _,O,?_,?_,?_,?_,?_,O⟩<;>(first|assumption|(exact gR))
 rintro S e h' ⟨i,E,rfl,Y,Z,g8,B,hd,rfl⟩;by_cases D:i=4
 .subst D;rw[adH]at B;exact jP @aax
 .have r:i<4:=by omega
  have j:i<F b:=by omega
  obtain⟨p,p1,A,-⟩:=N.M.index (G:=Gt) (t:=60) (i:=i) (row:=iF (b[i])) bm f sL (by simp[r,j]);have T:=A Hz;have q:(iF b[i]).head?=J (.v (.int .u8 (((e7 b i).toNat:Nat):Int))):=by unfold e7;rw[fg,aY j];rfl
  rw[q]at T;have z:=S3 b i;have l2:lX b i<16777216:=mQ z (by have:256^i<=256^3:=Nat.pow_le_pow_right bm af;exact this);have l3:=GN (e7 b i);clear A q z;refine Ns @ahB @or8 @auc ?_;refine⟨4-(i+1),by omega,i+1,by omega,O,br,br,?_,?_,br,br⟩
  .rfl
  .rfl
def vt(v:fk)(n)(f:n<32):(v<<<(32-n))|||(v>>>n)=NT.fO v n:=by unfold NT.fO;rw[BitVec.or_comm]
def ar1(v:fk)(h:ah):W.call 256 [b7 v,.v (.int .i64 (-2))] h=J (.ret (b7 (NT.fO v 2)),h):=by
 have f:∀(t:aO) (x y:ck),df ag .and t x y (.v (.int .u64 (IntKind.u64.wrap (-2)))) (.v (.int .u64 31))=J (.v (.int .u64 30)):=λt x y=>by rw[qW];rfl
 have j:∀(t:aO) (x y:ck),df ag .shl t x y (b7 v) (.v (.int .u64 30))=J (b7 (v<<<30)):=λt x y=>uk (n:=30) bm;have m:∀(t:aO) (x y:ck),df ag .shr t x y (b7 v) (.v (.int .u64 (IntKind.u64.wrap (32-30))))=J (b7 (v>>>2)):=λt x y=>sI (n:=2) bm;have q:=vt v 2 bm;refine da O vV O ?_;exact uS @vy @po @pC
def ar4(v:fk)(h:ah):W.call 256 [b7 v,.v (.int .i64 (-6))] h=J (.ret (b7 (NT.fO v 6)),h):=by
 have f:∀(t:aO) (x y:ck),df ag .and t x y (.v (.int .u64 (IntKind.u64.wrap (-6)))) (.v (.int .u64 31))=J (.v (.int .u64 26)):=λt x y=>by rw[qW];rfl
 have j:∀(t:aO) (x y:ck),df ag .shl t x y (b7 v) (.v (.int .u64 26))=J (b7 (v<<<26)):=λt x y=>uk (n:=26) bm;have m:∀(t:aO) (x y:ck),df ag .shr t x y (b7 v) (.v (.int .u64 (IntKind.u64.wrap (32-26))))=J (b7 (v>>>6)):=λt x y=>sI (n:=6) bm;have q:=vt v 6 bm;refine da O vV O ?_;exact uS @vy @po @pC
def ar5(v:fk)(h:ah):W.call 256 [b7 v,.v (.int .i64 (-7))] h=J (.ret (b7 (NT.fO v 7)),h):=by
 have f:∀(t:aO) (x y:ck),df ag .and t x y (.v (.int .u64 (IntKind.u64.wrap (-7)))) (.v (.int .u64 31))=J (.v (.int .u64 25)):=λt x y=>by rw[qW];rfl
 have j:∀(t:aO) (x y:ck),df ag .shl t x y (b7 v) (.v (.int .u64 25))=J (b7 (v<<<25)):=λt x y=>uk (n:=25) bm;have m:∀(t:aO) (x y:ck),df ag .shr t x y (b7 v) (.v (.int .u64 (IntKind.u64.wrap (32-25))))=J (b7 (v>>>7)):=λt x y=>sI (n:=7) bm;have q:=vt v 7 bm;refine da O vV O ?_;exact uS @vy @po @pC
def arW(v:fk)(h:ah):W.call 256 [b7 v,.v (.int .i64 (-11))] h=J (.ret (b7 (NT.fO v 11)),h):=by
 have f:∀(t:aO) (x y:ck),df ag .and t x y (.v (.int .u64 (IntKind.u64.wrap (-11)))) (.v (.int .u64 31))=J (.v (.int .u64 21)):=λt x y=>by rw[qW];rfl
 have j:∀(t:aO) (x y:ck),df ag .shl t x y (b7 v) (.v (.int .u64 21))=J (b7 (v<<<21)):=λt x y=>uk (n:=21) bm;have m:∀(t:aO) (x y:ck),df ag .shr t x y (b7 v) (.v (.int .u64 (IntKind.u64.wrap (32-21))))=J (b7 (v>>>11)):=λt x y=>sI (n:=11) bm;have q:=vt v 11 bm;refine da O vV O ?_;exact uS @vy @po @pC
def arX(v:fk)(h:ah):W.call 256 [b7 v,.v (.int .i64 (-13))] h=J (.ret (b7 (NT.fO v 13)),h):=by
 have f:∀(t:aO) (x y:ck),df ag .and t x y (.v (.int .u64 (IntKind.u64.wrap (-13)))) (.v (.int .u64 31))=J (.v (.int .u64 19)):=λt x y=>by rw[qW];rfl
 have j:∀(t:aO) (x y:ck),df ag .shl t x y (b7 v) (.v (.int .u64 19))=J (b7 (v<<<19)):=λt x y=>uk (n:=19) bm;have m:∀(t:aO) (x y:ck),df ag .shr t x y (b7 v) (.v (.int .u64 (IntKind.u64.wrap (32-19))))=J (b7 (v>>>13)):=λt x y=>sI (n:=13) bm;have q:=vt v 13 bm;refine da O vV O ?_;exact uS @vy @po @pC
def arY(v:fk)(h:ah):W.call 256 [b7 v,.v (.int .i64 (-17))] h=J (.ret (b7 (NT.fO v 17)),h):=by
 have f:∀(t:aO) (x y:ck),df ag .and t x y (.v (.int .u64 (IntKind.u64.wrap (-17)))) (.v (.int .u64 31))=J (.v (.int .u64 15)):=λt x y=>by rw[qW];rfl
 have j:∀(t:aO) (x y:ck),df ag .shl t x y (b7 v) (.v (.int .u64 15))=J (b7 (v<<<15)):=λt x y=>uk (n:=15) bm;have m:∀(t:aO) (x y:ck),df ag .shr t x y (b7 v) (.v (.int .u64 (IntKind.u64.wrap (32-15))))=J (b7 (v>>>17)):=λt x y=>sI (n:=17) bm;have q:=vt v 17 bm;refine da O vV O ?_;exact uS @vy @po @pC
def arZ(v:fk)(h:ah):W.call 256 [b7 v,.v (.int .i64 (-18))] h=J (.ret (b7 (NT.fO v 18)),h):=by
 have f:∀(t:aO) (x y:ck),df ag .and t x y (.v (.int .u64 (IntKind.u64.wrap (-18)))) (.v (.int .u64 31))=J (.v (.int .u64 14)):=λt x y=>by rw[qW];rfl
 have j:∀(t:aO) (x y:ck),df ag .shl t x y (b7 v) (.v (.int .u64 14))=J (b7 (v<<<14)):=λt x y=>uk (n:=14) bm;have m:∀(t:aO) (x y:ck),df ag .shr t x y (b7 v) (.v (.int .u64 (IntKind.u64.wrap (32-14))))=J (b7 (v>>>18)):=λt x y=>sI (n:=18) bm;have q:=vt v 18 bm;refine da O vV O ?_;exact uS @vy @po @pC
def ar0(v:fk)(h:ah):W.call 256 [b7 v,.v (.int .i64 (-19))] h=J (.ret (b7 (NT.fO v 19)),h):=by
 have f:∀(t:aO) (x y:ck),df ag .and t x y (.v (.int .u64 (IntKind.u64.wrap (-19)))) (.v (.int .u64 31))=J (.v (.int .u64 13)):=λt x y=>by rw[qW];rfl
 have j:∀(t:aO) (x y:ck),df ag .shl t x y (b7 v) (.v (.int .u64 13))=J (b7 (v<<<13)):=λt x y=>uk (n:=13) bm;have m:∀(t:aO) (x y:ck),df ag .shr t x y (b7 v) (.v (.int .u64 (IntKind.u64.wrap (32-13))))=J (b7 (v>>>19)):=λt x y=>sI (n:=19) bm;have q:=vt v 19 bm;refine da O vV O ?_;exact uS @vy @po @pC
def ar2(v:fk)(h:ah):W.call 256 [b7 v,.v (.int .i64 (-22))] h=J (.ret (b7 (NT.fO v 22)),h):=by
 have f:∀(t:aO) (x y:ck),df ag .and t x y (.v (.int .u64 (IntKind.u64.wrap (-22)))) (.v (.int .u64 31))=J (.v (.int .u64 10)):=λt x y=>by rw[qW];rfl
 have j:∀(t:aO) (x y:ck),df ag .shl t x y (b7 v) (.v (.int .u64 10))=J (b7 (v<<<10)):=λt x y=>uk (n:=10) bm;have m:∀(t:aO) (x y:ck),df ag .shr t x y (b7 v) (.v (.int .u64 (IntKind.u64.wrap (32-10))))=J (b7 (v>>>22)):=λt x y=>sI (n:=22) bm;have q:=vt v 22 bm;refine da O vV O ?_;exact uS @vy @po @pC
def ar3(v:fk)(h:ah):W.call 256 [b7 v,.v (.int .i64 (-25))] h=J (.ret (b7 (NT.fO v 25)),h):=by
 have f:∀(t:aO) (x y:ck),df ag .and t x y (.v (.int .u64 (IntKind.u64.wrap (-25)))) (.v (.int .u64 31))=J (.v (.int .u64 7)):=λt x y=>by rw[qW];rfl
 have j:∀(t:aO) (x y:ck),df ag .shl t x y (b7 v) (.v (.int .u64 7))=J (b7 (v<<<7)):=λt x y=>uk (n:=7) bm;have m:∀(t:aO) (x y:ck),df ag .shr t x y (b7 v) (.v (.int .u64 (IntKind.u64.wrap (32-7))))=J (b7 (v>>>25)):=λt x y=>sI (n:=25) bm;have q:=vt v 25 bm;refine da O vV O ?_;exact uS @vy @po @pC
def ar7(v:fk)(h:ah):W.call 257 [b7 v,.v (.int .i64 6),.v (.int .i64 11),.v (.int .i64 25)] h=J (.ret (b7 (NT.fO v 6^^^NT.fO v 11^^^NT.fO v 25)),h):=by
 have q:IntKind.i64.wrap (0-6)= -6:=by decide
 have r:IntKind.i64.wrap (0-11)= -11:=by decide
 have s:IntKind.i64.wrap (0-25)= -25:=by decide
 have f:=ar4 v;have j:=arW v;have m:=ar3 v;refine da O adr O ?_;exact VC @aay @pE
def ar6(v:fk)(h:ah):W.call 257 [b7 v,.v (.int .i64 2),.v (.int .i64 13),.v (.int .i64 22)] h=J (.ret (b7 (NT.fO v 2^^^NT.fO v 13^^^NT.fO v 22)),h):=by
 have q:IntKind.i64.wrap (0-2)= -2:=by decide
 have r:IntKind.i64.wrap (0-13)= -13:=by decide
 have s:IntKind.i64.wrap (0-22)= -22:=by decide
 have f:=ar1 v;have j:=arX v;have m:=ar2 v;refine da O adr O ?_;exact VC @aay @pE
def pS:Tryz.f245.results.toList=[]:=aB
def Em:f' ag 69=J au:=aB
def wV:cQ ag 69=J 1:=aB
def Hy:f' ag 257=J aa:=aB
def DI:cQ ag 257=J 8:=aB
def aw5:(gp ag 266).bind V.bP=J (bR 64 (b7 0#32)):=aB
def abP:(gp ag 257).bind V.bP=J (bR 8 (b7 0#32)):=aB
abbrev eO(l:List fk):List V:=l.map b7
def Av{b n}{k}(j:n<64):dU ag 266 (.ptr (.box b) 0) (.v (.int k (n:Nat)))=J (.ptr (.box b) n):=by have f:=adC;unfold dU;rw[f];simp only[wV];rw[aH ⟨af,by omega⟩];simp
def alQ{g n}{k}(j:n<64):dU ag 266 (.ptr (.ec g) 0) (.v (.int k (n:Nat)))=J (.ptr (.ec g) n):=by have f:=adC;unfold dU;rw[f];simp only[wV];rw[aH ⟨af,by omega⟩];simp
def wx{b n}{k}(j:n<8):dU ag 257 (.ptr (.box b) 0) (.v (.int k (n:Nat)))=J (.ptr (.box b) n):=by have f:=Tryz.underlying257;unfold dU;rw[f];simp only[wV];rw[aH ⟨af,by omega⟩];simp
def Ay{H}{b n}{l}(f:H.I[b]?=J (eO l))(j:n<F l):aL ag Gt H 69 (.ptr (.box b) n)=J (b7 (fb l n)):=by rw[fx Em f,Hg,fb,fg,eF,aY j];rfl
def Q_{H}{b n}{l}{x:fk}(j:H.I[b]?=J (eO l))(m:n<F l):b9 ag H 69 (.ptr (.box b) n) (b7 x)=J (H.put b (eO (l.set n x))):=by
 have f:n+1<=F (eO l):=by rw[bJ];omega
 rw[fI (xs:=[b7 x]) O wV j O f];congr 2;unfold ej eO;rw[List.set_eq_take_append_cons_drop,aH m];simp
def amr{H}{t}(j:t<64):aL ag Gt H 69 (.ptr (.ec 1) t)=J (b7 (CH t)):=by
 have f:t<F CI:=j;unfold aL;rw[Em];show((FY.drop t).head?)=_;rw[Hg];unfold FY CH;rw[eF,fg,aY f];show J _=J (b7 (BitVec.ofNat 32 CI[t]));unfold b7;rw[BitVec.toNat_ofNat];have:∀x∈CI,x<2^32:=by decide
 rw[nq (this _ (jf f))]
def Gx(b):∀n,F (lI b n)=n
 |0=>rfl|n+1=>by rw[lI,de,Gx b n];rfl
def wl(b:List UInt8)(i:Nat):List fk:=lI b i++bR (64-i) 0#32
def DK{b}{i}(hi:i<=64):F (wl b i)=64:=by unfold wl;rw[de,Gx,List.length_replicate];omega
def awN{b}{i k}(f:k<i):fb (wl b i) k=fb (lI b i) k:=by unfold wl fb;rw[fg,List.getElem?_append_left (by rw[Gx];exact f),fg]
def abN{b}{i}{x}(hi:i<64)(m:x=if i<16 then wY b (4*i) else JA (lI b i) i):(wl b i).set i x=wl b (i+1):=by subst m;unfold wl;have f:=Gx b i;obtain⟨k,j⟩:∃k,64-i=k+1:=⟨63-i,by omega⟩;rw[Hh _ _ af,f,Nat.sub_self,j,List.replicate_succ,List.set_cons_zero,(af:64-(i+1)=k),lI,jx];rfl
def awO(b):eO (wl b 0)=bR 64 (b7 0#32):=by show List.map b7 ([]++bR 64 0#32)=_;rw[eP,List.map_replicate]
def awM(b):wl b 64=lI b 64:=by unfold wl;simp
def awP(b)(k):wY (b.drop k) 0=wY b k:=by unfold wY e7;simp only[fg,rD,yR,nT]
def ar9(w v)(t)(a b c d e f g i)(j:v=[a,b,c,d,e,f,g,i]):J8 w v t=
 [i+(NT.fO e 6^^^NT.fO e 11^^^NT.fO e 25)+(g^^^(e&&&(f^^^g)))+CH t+fb w t+((NT.fO a 2^^^NT.fO a 13^^^NT.fO a 22)+((a&&&b)|||(c&&&(a|||b)))),
  a,b,c,d+(i+(NT.fO e 6^^^NT.fO e 11^^^NT.fO e 25)+(g^^^(e&&&(f^^^g)))+CH t+fb w t),e,f,g]:=by
 subst j;rw[agy,ane];rfl
def eight{l:List fk}(h:F l=8):∃a b c d e f g i,l=[a,b,c,d,e,f,g,i]:=by
 match l,h with
 | [a,b,c,d,e,f,g,i],_=>exact⟨a,b,c,d,e,f,g,i,O⟩
def vF(s:List fk)(b:List UInt8)(t:Nat):List fk:=(bT t).foldl (J8 (lI b 64)) s
def abH(s)(b)(t):vF s b (t+1)=J8 (lI b 64) (vF s b t) t:=by unfold vF;rw[lP,ot];rfl
def Ru{s}(b)(f:F s=8):∀t,F (vF s b t)=8
 |0=>f
 |t+1=>by rw[abH];rfl
def w7(s v:List fk)(i:Nat):List fk:=Hj (·+·) (s.take i) (v.take i)++s.drop i
def axl{s v}(f:F s=8)(j:F v=8){i}(hi:i<=8):F (w7 s v i)=8:=by unfold w7;simp;omega
def axk{s v}(f:F s=8)(j:F v=8){i}(hi:i<8):fb (w7 s v i) i=fb s i:=by unfold w7 fb;rw[fg,xm (by simp;omega),rD,fg];congr 2;simp;omega
def axm{s v}(f:F s=8)(j:F v=8){i}(hi:i<8):(w7 s v i).set i (fb s i+fb v i)=w7 s v (i+1):=by
 obtain⟨a,b,c,d,e,E,g,N,rfl⟩:=eight f;obtain⟨m,q,r,z,A,B,C,D,rfl⟩:=eight j;have:i=0∨i=1∨i=2∨i=3∨i=4∨i=5∨i=6∨i=7:=by omega
 rcases this with rfl|rfl|rfl|rfl|rfl|rfl|rfl|rfl<;>rfl
def axj{s b}(f:F s=8)(j:F b=8):w7 s b 8=Hj (·+·) s b:=by unfold w7;rw[fK af,fK af,List.drop_of_length_le af,iB]
end Go.Proofs.YtcbhpkjbiehcpaaGreatDoor
end
section
namespace Go.AE
section
variable {b n0:Nat} {h h':ah}
def fY.gw(m:fY b n0 h h'){c:Nat}(s:F h.I<=c)(cs:List V):fY b n0 h (h'.put c cs):=by refine⟨λd j q f=>?_,by rw[jV];exact m.len,m.loop,m.tn,m.dead,m.ok⟩;have r:d<F h.I:=(bk.1 f).1;rw[cS af];exact m.box d j q f
def fY.push(m:fY b n0 h h')(cs:List V):fY b n0 h (h'.push cs):=
 ⟨λd f q j=>aX (m.box d f q j),by rw[bV];exact Nat.le_succ_of_le m.len,m.loop,m.tn,m.dead,m.ok⟩
end
def fY.um{b n0 f}{h h'}(m:fY b f h h')(r:n0<=f):fY b n0 h h':=⟨m.box,m.len,m.loop,m.tn,λk q j=>m.dead k (mQ q r) j,m.ok⟩
def dm.mut{b n0 j}{h h'}{k}(s:dm n0 h k)(m:fY b j h h')(z:h.tn<=j):dm n0 h' k:=by
 rcases s with q|q|⟨B,q,A,f⟩
 .exact .inl q
 .exact .inr (.inl q)
 .refine .inr (.inr ⟨B,q,A,?_⟩);unfold alive at f ⊢;simp only[bQ,decide_eq_true_eq,DO,xk,decide_eq_false_iff_not]at f ⊢;exact⟨mQ f.1 m.tn,λr=>f.2 (m.dead B (mQ f.1 z) r)⟩
end Go.AE
end
