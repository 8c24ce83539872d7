/-
  The engine, part 16: calls, deferred calls, rounds; and the whole.
-/
import Derived.Test.YtcbhpkjbiehcpaaGreatDoorRA
import Derived.Laws.BitsLemmas
import Derived.ChangeArms
import Derived.OpenShut
import Derived.Carry
import Derived.ProofKit
import Derived.ChangeSame
import Derived.KernelRfl
import Derived.Test.YtcbhpkjbiehcpaaGreatDoorChecked
open True renaming intro->aX
open Go renaming Program->bj,World->bO,Value->aG,Frame->ex,FuncId->aQ,Operand->bP,TypeId->aC,IntKind->qk
open Option renaming some->J,some.injEq->dt,map_eq_some_iff->dg,none->af,map_some->fk,getD_some->zO,bind_some->iH,filter_eq_some_iff->Qn,map_none->Fy,isSome_none->Fx
open List renaming mapM_cons->aao,length->F,mem_cons_self->gx,mem_cons_of_mem->gj,getElem?_eq_getElem->aN,getElem?_eq_none->uy,all_eq_true->eF,mem_range->hy,range->bZ,range'->P_,range'_succ->aat,drop_eq_getElem_cons->ss,drop_zero->gw,range_eq_range'->P',drop_take->JE,getElem?_toArray->iG,flatten_cons->jA,getElem?_append_right->v_,mem_append_left->JK,mem_append_right->aar,getElem?_set->kQ,contains_eq_mem->v9,set_append_right->Fq,take_length->fB,getElem?_eq_some_iff->aS,mem_cons->gL,mem_iff_getElem->wc,getElem?_map->dW,toArray->JO,getElem?_set_ne->JG,range_succ->jT,take_of_length_le->fR,cons_append->eu,map_cons->eD,map_nil->uz,getElem?_cons_zero->iF,getElem?_cons_succ->jS,append_nil->ga,nil_append->dM,length_cons->dY,length_append->cg,take_take->Fs,drop_drop->pF,mem_of_mem_take->xy,length_drop->ev,length_take->cR,ext_getElem->Fm,getElem_map->sH,replicate->bB,all_cons->Ch,getElem?_take->mr,mem_map->iV,map_map->zK,map_append->jB,map_congr_left->Cl,zipWith->Ft,getD_eq_getElem?_getD->eG,getElem_zipWith->aam,length_map->br,getElem_drop->P7,getElem_mem->iP,getElem_set_ne->P8,getElem_set->Ck,mem_or_eq_of_mem_set->uB,foldl_append->oj,foldl_cons->JF,foldl_nil->Cj,getElem_zipIdx->aal,append_assoc->iE,set_eq_of_length_le->aaz,ext_getElem?->nV,set_set->Cp,head?_drop->Fo,getElem?_drop->oL
open Bool renaming false->ai,true->V,and_eq_true->bm,or_eq_true->nU,false_eq_true->jo,eq_iff_iff->Jj,not_eq_true'->Ca,true_and->mq,eq_false_iff->ZH,false_and->ut,and_assoc->ZE
open Prod renaming mk.injEq->cL
open Array renaming all_eq_true->zC,replicate->xq,getD_eq_getD_getElem?->E',size->Zx,getElem?_eq_getElem->jz,getElem_toList->Zv
open Nat renaming lt_or_ge->dp,lt_succ_iff->zM,le_max_left->JT,le_max_right->Fu,le_refl->aV,beq->gX,zero_le->bV,add_mul->jh,le_trans->eS,lt_of_lt_of_le->l_,zero_add->nX,add_zero->xA,mul_le_mul_right->ma,min_eq_left->Ct,shiftLeft_eq->aaU,Coprime->my,Coprime.symm->JQ,dvd_of_mod_eq_zero->Cs,le_of_dvd->zL,mod_lt->jU,eq_zero_or_pos->JS,mul_add->Qe,add_mod->Qc,mul_assoc->Qf,mul_mod_mod->aaO,mod_eq_of_lt->mA,one_mul->zN,div_add_mod->aaH,mul_mod->rf,mul_one->jC,mul_comm->Qg,mod_two_eq_zero_or_one->Cu,pow_pos->JX,mul_add_mod->aaM,Coprime.coprime_mul_left->aaD,pow_succ->xC,mul_le_mul->ji,pow_mod->JW,pow_mul->Qj,pow_two->Qk,pow_succ'->aaS,eq_of_beq_eq_true->kU,mod_mul_mod->aaL,lt_trans->nW,reduceEqDiff->aJ,le_of_lt->mz
open And renaming intro->aj
open Int renaming toNat_natCast->fh,pow_succ->vZ,pow_add->PU,sub_mul->PW,mul_sub->ZY,dvd_add->PE,dvd_mul_of_dvd_right->ZT,natAbs_dvd_natAbs->ZZ,natAbs_natCast->Z3,pow_mul->Fj,natCast_dvd_natCast->PS,emod_nonneg->PK,emod_lt_of_pos->PJ,emod_eq_of_lt->ZV,mul_emod->zG,mul_zero->Jx,zero_mul->PY,sub_emod->Z8,emod_emod_of_dvd->PI,dvd_refl->PG,neg_zero->Z6,neg_mul->Z5,zero_add->Z_,mul_comm->PO,mul_assoc->ZX,mul_add->PN,ofNat_lt->Z7,natCast_mul->Cf,natCast_emod->Z4,mul_one->Jw,sub_self->PX,emod_add_mul_ediv->ZU,dvd_sub->PH,tmod_eq_emod_of_nonneg->Fk,mul_nonneg->PQ,mul_le_mul->PP,pow_zero->PV,one_mul->Jy,tdiv_eq_ediv_of_nonneg->Z9,natCast_zero->qm,natCast_one->PT
open Go.Proofs.Tryz renaming prog->aa,underlying23->cT,func222->aa9,func66->QF,func231->abb,func111->Qw,func67->QG,func75->abj,func256->uF,func257->abe,underlying266->abp
set_option maxHeartbeats 64000000
set_option maxRecDepth 100000
set_option linter.unusedSimpArgs false
set_option linter.unusedVariables false
set_option linter.constructorNameAsVariable false
set_option linter.defProp false
section
namespace Go.AE
open Go.RowKit (Below)
section
variable {P:bj} {G:Nat->Option (List U)} {w0:bO} {R:Rec}
def Ik(tmps:Array aG):ResultVar->Sem aG
 | .tmp t=>pure (tmps.getD t undef)
 | .cell a t=>do loadVar t (<-asAddr (tmps.getD a undef))
def an1{K:aW}{e:Env}{h:Heap}{w:bO}(s:iX P G w0 K h w){tmps:Array aG}(z:jD K e.tmps tmps):∀{m:List ResultVar} {l:List U},rT P G e h m=J l->
 ∃vs:List aG,aH K l vs/\(m.mapM (Ik tmps)).run P w=.ok vs w:=by
 intro m
 induction m with
 |nil=>intro l f;simp only[rT,dt]at f;subst f;exact⟨[],.nil,by simp⟩|cons N m A=>
  intro l f;cases N with
  |tmp t=>simp only[rT,dg]at f;obtain⟨E,j,rfl⟩:=f;obtain⟨vs,r,h2⟩:=A j;exact⟨_::vs,.cons _ _ _ _ (z t) r,by simp[aao,h2,Ik]⟩
  |cell a t=>
   simp only[rT]at f;split at f
   .rename_i x E D j;injection f with f;subst f;obtain⟨vs,r,h2⟩:=A j;obtain⟨g,p,v,B,q,C⟩:=VU s D (z a);refine⟨v::vs,.cons _ _ _ _ C r,?_⟩;rw[aao];simp only[Ik,B,asAddr,Sem.run_bind,Sem.run_pure,Result.andThen_ok,q,h2]
   grind
def an2{K:aW}{fn:Func}{e:Env}{h:Heap}{w:bO}(s:iX P G w0 K h w){tmps:Array aG}(N:jD K e.tmps tmps){x:U}(j:Ex P G fn e h=J x):
 ∃v,aO K x v/\(results fn tmps).run P w=.ok v w:=by
 unfold Ex at j;have r:∀l,rT P G e h fn.results.toList=J l->∃f:List aG,aH K l f/\(results fn tmps).run P w=.ok (if T:f.toArray.size=1 then f.toArray[0] else .tuple f.toArray) w:=by
  intro l q;obtain⟨f,m,h2⟩:=an1 s N q;refine⟨f,m,?_⟩;have z:results fn tmps=(do let f <-fn.results.mapM (Ik tmps);pure (if h:f.size=1 then f[0] else .tuple f)):=by unfold results;congr 2
  rw[z,Array.mapM_eq_mapM_toList];simp only[Sem.run_bind,Sem.run_map,h2,Result.andThen_ok,Sem.run_pure]
 split at j
 .rename_i X q;injection j with j;subst j;obtain⟨f,m,h2⟩:=r _ q;cases m with|cons _ c _ cs S B=>cases B;simp_all
 .rename_i l A q;injection j with j;subst j;obtain⟨f,m,h2⟩:=r _ q;refine⟨.tuple f.toArray,.tuple _ _ M,?_⟩;rw[h2];have C:F f≠1:=by rw[<-m.length];intro E;obtain⟨y,rfl⟩:=List.length_eq_one_iff.1 E;exact A y O
  grind
 grind
def oM(K:aW):Option (U × Bool)->FrameMode->Prop
 |none,u=>u=.returning
 |some (x,f),u=>f=ai/\∃v,aO K x v/\u=.panicking [{v,recovered:=ai}]
def oM.run{K}{m u}(h:oM K m u):u≠ .run:=by
 cases m with|none=>simp only[oM]at h;simp_all|some p=>obtain⟨x,f⟩:=p;obtain⟨_,v,_,h⟩:=h;simp_all
def oM.un{K}{r}{m u}(h:oM K m u):oM (K.un r) m u:=by
 cases m with|none=>exact h|some p=>obtain⟨x,r⟩:=p;obtain⟨f,v,h2,h⟩:=h;exact⟨f,v,aO.un h2,h⟩
def oM.mono{K K'}(le:K.Le K'){m u}(h:oM K m u):oM K' m u:=by
 cases m with|none=>exact h|some p=>obtain⟨x,j⟩:=p;obtain⟨f,v,h2,h⟩:=h;exact⟨f,v,h2.mono le,h⟩
def jD.un{K}{r}{s tmps}(h:jD K s tmps):jD (K.un r) s tmps:=λt=>aO.un (h t)
def ase{fr:ex}{cs:List ex}{w:bO}{r:Nat}{args:Array aG}{j:List Deferred}(A:fr.mode≠ .run)(m:fr.defers={target:=.collected r,args}::j)(z:w.heap[r]?=J (.deferred (J []))):
 step P (lone fr cs w)=.next (lone {fr with defers:=j} cs (w.putObj r (.deferred af))):=by
 refine step_lone_go ?_;have q:=run_takeDeferred (P:=P) z;cases f:fr.mode with|run=>simp_all|returning=>simp[stepG,unwind,f,m,Sem.runT_eq,q]|panicking s=>simp[stepG,unwind,f,m,Sem.runT_eq,q]
def settled:Option (U × Bool)->Option (U × Bool)
 |some (_,V)=>af
 |q=>q
def Cc(P:bj)(K:aW)(fn:Func)(f:ex)(w:bO):dO->Prop
 | .ret x=>f.mode=.returning/\∃v,aO K x v/\(results fn f.tmps).run P w=.ok v w
 | .panic x=>∃v,aO K x v/\f.mode=.panicking [{v,recovered:=ai}]
def atA(hR:sK P G w0 R)(hn:zR P){g:aQ}{fn:Func}(Dx:P.funcs[g]?=J fn){K0:aW}{e:Env}:∀(f:List Deferred) (ds:List (aQ × List U)) (ms:List Nat) (m:Option (U × Bool)) (h:Heap) (res:dO) (h':Heap),
 fZ P G R fn e ds m h=J (res,h')->∀(K:aW) (w:bO) (fr:ex) (cs:List ex),fr.fn=g->fr.defers=f->oh K ds f ms->jD K e.tmps fr.tmps->oM K m fr.mode->iX P G w0 K h w->K0.Le K->
 (∀r∈ms,r∉K0.md)->
 ∃K' w' q,K0.Le K'/\iX P G w0 K' h' w'/\Steps P (lone fr cs w) (lone q cs w')/\q.kind=fr.kind/\q.defers=[]/\q.fn=g/\Cc P K' fn q w' res/\(∀kind S p cs,CS K kind S p cs->CS K' kind S p cs):=by
 intro f
 induction f with
 |nil=>
  intro ds ms m h res h' s K w fr cs hg hd C qG j T E Z;generalize N:([]:List Deferred)=z1 at C;cases C with
  |call=>cases N
  |mark=>cases N
  |nil=>
   cases m with
   |none=>simp only[fZ,dg,cL]at s;obtain⟨x,hx,rfl,rfl⟩:=s;obtain⟨v,h1,h2⟩:=an2 T qG hx;exact⟨K,w,fr,E,T,.refl P _,O,hd,hg,⟨j,v,h1,h2⟩,λ_ _ _ _ h=>h⟩
   |some p=>obtain⟨x,r⟩:=p;simp only[fZ,dt,cL]at s;obtain⟨rfl,rfl⟩:=s;obtain⟨-,v,h1,h2⟩:=j;exact⟨K,w,fr,E,T,.refl P _,O,hd,hg,⟨v,h1,h2⟩,λ_ _ _ _ h=>h⟩
 |cons d f ih=>
  intro ds ms m h res h' s K w fr cs hg hd C qG j T E Z;generalize N:d::f=z1 at C;cases C with
  |nil=>cases N
  |mark r ds' cds' ms' hr hnr A=>injection N with tO uV;subst tO;subst uV;have hmd:=T.md r hr;have B:=ase (P:=P) (cs:=cs) j.run hd hmd.2;have dm:r∉K0.md:=Z r gx;obtain⟨K',w',q,g1,g2,g3,g4,g5,g6,g7,g8⟩:=ih _ ms' m h res h' s (K.un r) _ {fr with defers:=f} cs hg O (A.un hnr) qG.un j.un (T.drop hr (.deferred af) (by simp_all)) (aj5 E dm) (λr' yD=>Z r' (gj _ yD));exact⟨K',w',q,g1,g2,.head B g3,g4,g5,g6,g7,λ_ _ _ _ hc=>g8 _ _ _ _ hc.un⟩
  |call z0 args vs X ds' cds' _ hv A=>
   injection N with tO uV;subst tO;subst uV;simp only[fZ]at s;cases Y:R.ii z0 args m h with
   |none=>simp_all|some z1=>
    obtain⟨rr,m1,h1⟩:=z1;rw[Y]at s;cases rr with
    |panic x=>grind
    |ret x=>
     obtain⟨⟨fnn,LS,AA⟩,hc⟩:=hR.ii _ _ _ _ _ _ _ Y;have hinv:(invoke (.fn (.func z0) X) vs).run P w=.ok (.enter z0 (vs++X)) w:=(by simp only[invoke];exact OM hn LS AA _ _);have B:=step_defer (P:=P) (cs:=cs) (d:={target:=.fn (.func z0) X,args:=vs}) j.run hd O hinv;have iT:CS K .deferred ({fr with defers:=f,mode:=.returning}::cs) m ({fr with defers:=f}::cs):=by
      cases m with
      |none=>have:({fr with defers:=f}:ex)={fr with defers:=f,mode:=.returning}:=(by rw[<-show fr.mode=.returning from j]);rw[this];exact .ret _ _ O O O
      |some p=>obtain⟨y,r⟩:=p;obtain⟨rfl,v,hv1,wX⟩:=j;have:({fr with defers:=f}:ex)={({fr with defers:=f,mode:=.returning}:ex) with mode:=.panicking [{v,recovered:=ai}]}:=(by simp_all);rw[this];exact .cC _ _ y v ai O O hv1
     obtain⟨K1,w1,fr1,cs1,v1,le1,s1,c1,gP,wR,tJ⟩:=hc K w (vs++X) _ _ hv iT T;have nK:∃u,cs1={fr with defers:=f,mode:=u}::cs/\oM K1 (settled m1) (settle u):=by
      generalize z:({fr with defers:=f,mode:=.returning}:ex)::cs=S at c1;cases c1 with
      |normal D=>cases D
      |ret c0 rest _ hb hm=>refine⟨.returning,z.symm,?_⟩;simp[oM,settle,settled]|cC c0 rest y v r _ hb hx=>
       rw[hb]at z;injection z with ob j_;subst ob;subst j_;refine⟨.panicking [{v,recovered:=r}],O,?_⟩;cases r with|true=>simp[oM,settle,settled]|false=>exact⟨O,v,hx,O⟩
     obtain⟨u,rfl,nK⟩:=nK;have ahO:=step_going_returned (c:={fr with defers:=f,mode:=u}) (cs:=cs) wR tJ;have he':fZ P G R fn e ds' (settled m1) h1=J (res,h'):=by
      rcases m1 with _|⟨y,r⟩
      .exact s
      .cases r<;>exact s
     obtain⟨K',w',q,g1,g2,g3,g4,g5,g6,g7,g8⟩:=ih _ ms _ h1 res h' he' K1 w1 {fr with defers:=f,mode:=settle u} cs hg O (A.mono le1) (qG.mono le1) nK s1 (E.trans le1) Z;exact⟨K',w',q,g1,g2,.head B (gP.trans (.head ahO g3)),g4,g5,g6,g7,λ_ _ _ _ N=>g8 _ _ _ _ (N.mono le1)⟩
def aeE{n n'}(h:n<=n'):∀{c:Code},codeOk n c=V->codeOk n' c=V:=by
 intro c
 induction c with
 |region id ops q=>
  simp only[codeOk,Bm,zC]
  grind
 |seq a b j m=>simp only[codeOk,bm];simp_all|cond A a b j m=>simp only[codeOk,bm];simp_all|block id c f=>simp only[codeOk];exact f|loop c f=>simp only[codeOk];exact f|scope c f=>simp only[codeOk];exact f|rangeFunc z s a b j m=>
  simp only[codeOk,bm,zC,decide_eq_true_eq]
  grind
 |_=>intro r;exact r
structure Prog(P:bj):Prop where
 names:zR P
 mixed:P.follows .mixedOrders=V
 code:∀(g:aQ) (fn:Func) (c:Code),P.funcs[g]?=J fn->fn.body=J c->codeOk fn.ntmps c=V
def arE{K}{args}{f}(B:aH K args f.toList)(n):jD K {ch:=[],base:=args} (f++xq n undef):=by
 intro t;simp only[nA.get,look];have j:=B.length;rcases dp t (F args) with m|q
 .obtain⟨c,C,h2⟩:=B.get (aN m);have r:args.getD t (.tuple [])=args[t]:=by simp[m]
  rw[r];have A:(f++xq n undef).getD t undef=c:=by have z:t<f.size:=(by simpa [j] using m);rw[E',Array.getElem?_append_left z,<-Array.getElem?_toList,C];rfl
  simp_all
 .have r:args.getD t (.tuple [])=.tuple []:=by simp[uy q]
  rw[r];have A:(f++xq n undef).getD t undef=undef:=by
   have s:f.size<=t:=(by simpa [j] using q);rw[E',Array.getElem?_append_right s,Array.getElem?_replicate]
   grind
  rw[A];exact .tuple [] #[] .nil
def Rl(hp:Prog P)(hR:sK P G w0 R){g:aQ}{args:List U}{m m':Option (U × Bool)}{h h':Heap}{res:dO}(C:oR P G R g args m h=J (res,m',h')):
 (∃fn,P.funcs[g]?=J fn/\fn.body.isSome=V)/\∀(K:aW) (w:bO) (f:Array aG) (kind:CallKind) (base cs:List ex),aH K args f.toList->CS K kind base m cs->iX P G w0 K h w->
 ∃K' w' j s fn,P.funcs[g]?=J fn/\K.Le K'/\iX P G w0 K' h' w'/\CS K' kind base m' s/\Steps P (lone (Frame.enter P g f kind) cs w) (lone j s w')/\j.kind=kind/\j.defers=[]/\j.fn=g/\Cc P K' fn j w' res:=by
 unfold oR at C;split at C
 .cases C
 .rename_i fn z;split at C
  .cases C
  .rename_i r N;refine⟨⟨fn,z,by simp_all⟩,λK w f kind base cs hv iT hs=>?_⟩
   let b:ex:={(default:ex) with fn:=g,kind:=kind}
   let a:Act:={tmps:=f++xq (fn.ntmps-f.size) undef,defers:=[]}
   have hb:b.roundOf=af:=rfl;have Z:Frame.enter P g f kind=b.atR a [.code r]:=(by unfold Frame.enter Frame.atR;simp only[z,N,b,a,fk,zO,iH];rfl);have LR:lX P K {tmps:={ch:=[],base:=args},defers:=[],cC:=m,round:=af} a b []:=
    ⟨arE hv _,.nil,O,by grind⟩
   have fJ:codeOk a.tmps.size r=V:=aeE (by grind) (hp.code g fn r z N);have X:∀(B:Xt) (e:Env) (Y:Heap) (E:Option (U × Bool)),R.code r {tmps:={ch:=[],base:=args},defers:=[],cC:=m,round:=af} h=J (B,e,Y)->
    (B=.normal/\E=af∨B=.ret/\E=af∨∃x,B=.panic x/\E=J (x,ai))->(fZ P G R fn e e.defers E Y).map (λ(z0,h)=>(z0,e.cC,h))=J (res,m',h')->
    ∃K' w' j s fn,P.funcs[g]?=J fn/\K.Le K'/\iX P G w0 K' h' w'/\CS K' kind base m' s/\Steps P (lone (Frame.enter P g f kind) cs w) (lone j s w')/\j.kind=kind/\j.defers=[]/\j.fn=g/\Cc P K' fn j w' res:=by
    intro B e Y E LK Ms S;obtain⟨K1,w1,a1,T,ms1,L⟩:=hR.code _ _ _ _ _ _ LK K w a b [] base cs [] LR iT hs fJ;simp only[dg,cL]at S;obtain⟨⟨z0,D⟩,S,rfl,rfl,rfl⟩:=S;have Lr:∃(q:List Item) (u:FrameMode),oM K1 E u/\Steps P (lone (Frame.enter P g f kind) cs w) (lone {b.atR a1 q with mode:=u} T w1):=by
     rw[Z];rcases Ms with⟨rfl,rfl⟩|⟨rfl,rfl⟩|⟨x,rfl,rfl⟩
     .exact⟨[],.returning,O,Steps.trans L.arr (.one (stepR_end hb))⟩
     .obtain⟨q,A⟩:=L.arr;exact⟨_,.returning,O,Steps.trans A (.one (stepR_ret hb))⟩
     .obtain⟨q,v,hx,A⟩:=L.arr;exact⟨q,_,⟨O,v,hx,O⟩,A⟩
    obtain⟨q,u,aij,A⟩:=Lr;obtain⟨K2,w2,j,g1,g2,g3,g4,g5,g6,g7,g8⟩:=atA hR hp.names z a1.defers e.defers ms1 E Y z0 D S K1 w1 {b.atR a1 q with mode:=u} T O O L.frame.defers L.frame.fX aij L.oH L.le
     (λz0 hr=>(L.marks z0 hr).resolve_left b7)
    exact⟨K2,w2,j,T,fn,z,g1,g2,g8 _ _ _ _ L.cs,A.trans g3,g4,g5,g6,g7⟩
   split at C
   .grind
   .grind
   .rename_i x e1 Y hc;exact X _ _ _ _ hc (.inr (.inr ⟨x,O,O⟩)) C
   grind
def Cc.aoQ{K:aW}{fn:Func}{f:ex}{w:bO}{res:dO}(r:Cc P K fn f w res)(q:P.funcs[f.fn]?=J fn)(z:f.kind=.normal)(m:f.defers=[]):Qr P K f w res:=by
 cases res with
 |ret x=>obtain⟨s,v,h2,j⟩:=r;exact⟨v,h2,s,m,z,fn,q,j⟩
 |panic x=>obtain⟨v,h2,j⟩:=r;exact⟨v,h2,j,m,fn,q⟩
def jV(P:bj)(G:Nat->Option (List U))(w0:bO)(g:aQ)(p:List U->Heap->Option (U × Heap)):Prop:=
 (∃j,P.funcs[g]?=J j/\j.body.isSome=V)/\
 ∀args h x h',p args h=J (x,h')->∀(K:aW) (w:bO) (f:Array aG),aH K args f.toList->iX P G w0 K h w->
  Calls P g f w λe w'=>∃v K',e=.returned v/\K.Le K'/\aO K' x v/\iX P G w0 K' h' w'
def agB(hp:Prog P){aI:aQ->Option (List U->Heap->Option (U × Heap))}(s:∀g p,aI g=J p->jV P G w0 g p)(hR:sK P G w0 R):Qs P G w0 (j9 P G R aI):=by
 intro g args h z0 h' j;unfold j9 at j;split at j
 .rename_i p Y;simp only[dg,cL]at j;obtain⟨⟨x,X⟩,C,rfl,rfl⟩:=j;obtain⟨q,m⟩:=s g p Y;refine⟨q,λK w f B A cs=>?_⟩;obtain⟨e,w',z,⟨v,K',rfl,le,hx',E⟩,hc,T,hl⟩:=m args h x X C K w f B A cs;exact⟨K',w',z,le,E,hc,T,v,hx',hl⟩
 .simp only[dg,cL]at j;obtain⟨⟨r',m',X⟩,C,rfl,rfl⟩:=j;obtain⟨q,hb⟩:=Rl hp hR C;refine⟨q,λK w f B A cs=>?_⟩;obtain⟨K',w',z,S,fn,hf,le,E,N,Z,hk,hd,hg,r⟩:=hb K w f .normal cs cs B (.normal O) A;have:S=cs:=by
   generalize hq:CallKind.normal=z1 at N;cases N with|normal=>rfl|ret c0 rest h1=>simp_all|cC c0 rest x v z0 h1=>simp_all
  subst this;exact⟨K',w',z,le,E,Z,hg,r.aoQ (by simp_all) hk hd⟩
def afg(Z:Prog P)(N:sK P G w0 R):Qu P G w0 (oR P G R):=by intro g args z0 h x m' h' X;obtain⟨s,S⟩:=Rl Z N X;refine⟨s,λK w j m cs hv r hs=>?_⟩;obtain⟨K',w',C,q,B,hf,le,s',A,z,Y,T,hg,f⟩:=S K w j .deferred m cs hv r hs;obtain⟨D,v,h2,E⟩:=f;exact⟨K',w',C,q,v,le,s',A,z,Y,D,T,B,by simp_all,E⟩
def arc{K}:∀{ps:List Tmp} {args:List U} {f:List aG} {s:nA} {tmps:Array aG},aH K args f->jD K s tmps->(∀p∈ps,p<tmps.size)->
 jD K (BQ ps args s) ((ps.zip f).foldl (λts p=>ts.setIfInBounds p.1 p.2) tmps)/\((ps.zip f).foldl (λts p=>ts.setIfInBounds p.1 p.2) tmps).size=tmps.size:=by
 intro ps
 induction ps with
 |nil=>intro args f s tmps q j m;exact⟨j,O⟩|cons p ps C=>
  intro args f s tmps q j m;cases q with
  |nil=>exact⟨j,O⟩|cons x c xs cs A r=>
   have z:=jD.set j (m p gx) A;obtain⟨B,E⟩:=C (s:=s.set p x) (tmps:=tmps.setIfInBounds p c) r z (λN D=>by simp_all);refine⟨?_,?_⟩
   .simpa [BQ] using B
   simp_all
def apl(hR:sK P G w0 R):Qv P G w0 (rV R):=by
 intro l args h r h' T K w s lg hγ hv hs j cs;unfold rV at T;split at T
 .cases T
 .rename_i rec ais;split at T
  .rename_i aiy;obtain⟨m,m1,m2,m3,m4,m5,m6,m7,m8,m9,m10,-⟩:=hs.eY hγ ais rec.state rec.pending;have ahz:s.size=m.params.size:=(by rw[m4,aiy,hv.length];simp);have E:=run_yield (P:=P) m1 ahz;split at T
   .rename_i e1 h1 ahM;split at T
    .rename_i r1 uW;split at T
     .rename_i air;obtain⟨sp1,sp2⟩:=arc (ps:=rec.params.toList) hv m7 m10;have ah4:(m.params.zip s).foldl (λtmps (x:Tmp × aG)=>tmps.setIfInBounds x.1 x.2) m.tmps=(rec.params.toList.zip s.toList).foldl (λts p=>ts.setIfInBounds p.1 p.2) m.tmps:=by rw[<-Array.foldl_toList,Array.toList_zip,m4]
      let b:ex:={(default:ex) with fn:=m.fn,kind:=.normal,roundOf:=J lg}
      let a:Act:={tmps:=(rec.params.toList.zip s.toList).foldl (λts p=>ts.setIfInBounds p.1 p.2) m.tmps,defers:=[]}
      have Ua:(P.funcs[m.fn]?).isSome=V:=(by have:=m8;unfold Bh at this;rw[bm]at this;exact this.2);have LR:lX P K {tmps:=BQ rec.params.toList args rec.tmps,defers:=[],cC:=af,round:=J l} a b []:=
       ⟨sp1,.nil,⟨lg,hγ,O,O,O,O,O⟩,Ua⟩
      have DG:codeOk a.tmps.size rec.assign=V:=(by have:=m8;unfold Bh at this;rw[bm]at this;show codeOk (Zx _) _=V;rw[sp2];exact this.1);have AK:codeOk a.tmps.size rec.body=V:=(by have:=m9;unfold Bh at this;rw[bm]at this;show codeOk (Zx _) _=V;rw[sp2];exact this.1);have MK:Frame.round lg m.fn ((m.params.zip s).foldl (λtmps (x:Tmp × aG)=>tmps.setIfInBounds x.1 x.2) m.tmps) m.assign m.body .normal=b.atR a [.code rec.assign,.beginRound,.code rec.body]:=(by simp only[Frame.round,Frame.atR,b,a,ah4,m5,m6]);have nocs:∀{K:aW} {p:Option (U × Bool)} {base Ah:List ex},CS K .normal base p Ah->Ah=base:=by
       intro K p base Ah c;generalize hq:CallKind.normal=z0 at c;cases c with|normal=>rfl|ret c0 rest h1=>simp_all|cC c0 rest x v r h1=>simp_all
      obtain⟨K1,w1,a1,cs1,ms1,L1⟩:=hR.code _ _ _ _ _ _ ahM K w a b [.beginRound,.code rec.body] (j::cs) (j::cs) [] LR (.normal O) hs DG;have ahV:=nocs L1.cs;subst ahV;obtain⟨nn,n1,n2,n3,n4,n5,n6,n7,n8,n9,n10,sbusy⟩:=L1.oH.eY (L1.le.γ _ _ hγ) uW .busy r1.pending;have ahQ:=run_beginRound (P:=P) n1 (n2.trans air);have ah2:({nn with state:=.busy,pending:=r1.pending}:Loop)={nn with state:=.busy}:=(by grind);rw[ah2]at sbusy;have GO:Steps P (lone (Frame.round lg m.fn ((m.params.zip s).foldl (λtmps (x:Tmp × aG)=>tmps.setIfInBounds x.1 x.2) m.tmps) m.assign m.body .normal) (j::cs) w)
       (lone (b.atR a1 [.code rec.body]) (j::cs) (w1.putObj lg (.loop {nn with state:=.busy}))):=by
       rw[MK];exact Steps.trans L1.arr (.one (stepR_beginRound O ahQ))
      have auX:∀r∈ms1,r∉K.md:=λr hr=>(L1.marks r hr).resolve_left b7;have body:∀(Z:Xt) (X:Env) (h2:Heap),R.code rec.body e1 {h1 with loops:=h1.loops.set l {r1 with state:=.busy}}=J (Z,X,h2)->
       ∃f B S C,K.Le f/\iX P G w0 f h2 B/\lX P f X S b C/\mo P f (lone (b.atR a1 [.code rec.body]) (j::cs) (w1.putObj lg (.loop {nn with state:=.busy}))) b [] (j::cs) Z S B:=by
       intro Z X h2 LK;obtain⟨f,B,S,cs2,C,L2⟩:=hR.code _ _ _ _ _ _ LK K1 _ a1 b [] (j::cs) (j::cs) ms1 L1.frame L1.cs sbusy (by rw[L1.size];omega);have LL:=nocs L2.cs;subst LL;exact⟨f,B,S,C,L1.le.trans L2.le,L2.oH,L2.frame,L2.arr⟩
      have Y:∀(h2:Heap) (Z:dO) (D:Heap) (st:LoopState) (pe:Option Code) (bb:Bool) (f:aW) (B:bO),K.Le f->iX P G w0 f h2 B->pe.isNone=bb->(if pe.isNone then LoopState.ready else .done)=st->
       ((h2.loops[l]?).map λr=>(dO.ret (.v (.bool bb)),{h2 with loops:=h2.loops.set l {r with state:=st,pending:=pe}}))=J (Z,D)->
       ∃v w3,(Instr.endRound lg pe).run P B=.ok (.bool bb) w3/\iX P G w0 f D w3/\Z=.ret (.v (.bool bb))/\aO f (.v (.bool bb)) v/\v=.bool bb:=by
       intro h2 Z D st pe bb f B z s2 tH gP Uq;simp only[dg,cL]at Uq;obtain⟨r2,GZ,rfl,rfl⟩:=Uq;obtain⟨qq,q1,q2,q3,-,-,-,-,-,-,-,send⟩:=s2.eY (z.γ _ _ hγ) GZ st pe;have A:=run_endRound (P:=P) pe q1;rw[gP,tH]at A;exact⟨_,_,A,send,O,.v _ O,O⟩
      have DE:∀{f:aW} {X:Env} {S:Act} {C:List Nat},lX P f X S b C->X.round=J l->S.defers=[]:=(by intro f X S C hf hr;have:=hf.round;rw[hr]at this;obtain⟨_,_,_,_,h1,_⟩:=this;exact h1);refine⟨m.fn,(m.params.zip s).foldl (λtmps (x:Tmp × aG)=>tmps.setIfInBounds x.1 x.2) m.tmps,m.assign,m.body,?_⟩;split at T
      .rename_i X h2 q;obtain⟨f,B,S,C,z,s2,f2,N⟩:=body _ _ _ q;obtain⟨v,w3,A,s3,rfl,wY,rfl⟩:=Y h2 r h' .ready af V f B z s2 O O T;exact⟨f,w3,E,z,s3,_,wY,GO.trans (Steps.trans N (.one (stepR_round_end O O A)))⟩
      .rename_i X h2 q;obtain⟨f,B,S,C,z,s2,f2,todo,N⟩:=body _ _ _ q;obtain⟨v,w3,A,s3,rfl,wY,rfl⟩:=Y h2 r h' .done (J .ret) ai f B z s2 O O T;exact⟨f,w3,E,z,s3,_,wY,GO.trans (N.trans (.one (stepR_round_ret O O A)))⟩
      .rename_i id X h2 q;obtain⟨f,B,S,C,z,s2,f2,todo,hex,N⟩:=body _ _ _ q;obtain⟨v,w3,A,s3,rfl,wY,rfl⟩:=Y h2 r h' .done (J (.exit id)) ai f B z s2 O O T;exact⟨f,w3,E,z,s3,_,wY,GO.trans (N.trans (.one (stepR_round_exit O O (hex.trans O) A)))⟩
      .rename_i x X h2 q;simp only[dt,cL]at T;obtain⟨rfl,rfl⟩:=T;obtain⟨f,B,S,C,z,s2,f2,todo,v,hx,N⟩:=body _ _ _ q;have hd:S.defers=[]:=by
        have:=f2.round;cases hq:X.round with|none=>simp_all|some l'=>grind
       obtain⟨fnn,LS⟩:=Option.isSome_iff_exists.1 Ua;exact⟨f,B,E,z,s2,v,_,hx,GO.trans N,O,hd,fnn,LS⟩
      grind
     grind
    grind
   grind
  grind
def Ii(j:Prog P){aI:aQ->Option (List U->Heap->Option (U × Heap))}(m:∀g p,aI g=J p->jV P G w0 g p):∀n,sK P G w0 (gF P G aI n):=by
 intro n
 induction n with
 |zero=>
  refine⟨?_,?_,?_,?_⟩
  .intro c e h r s h' f;cases f
  .intro g args h A h' f;cases f
  .intro g args B h x z h' f;cases f
  .intro l args h A h' f;cases f
 |succ n q=>exact⟨aeG j.names j.mixed q,agB j m q,afg j q,apl q⟩
end
end Go.AE
end
section
namespace Go.AE
structure mc(R R':Rec):Prop where
 code:∀c e h r,R.code c e h=J r->R'.code c e h=J r
 call:∀g a h r,R.call g a h=J r->R'.call g a h=J r
 ii:∀g a m h r,R.ii g a m h=J r->R'.ii g a m h=J r
 round:∀l a h r,R.round l a h=J r->R'.round l a h=J r
section
variable {P:bj} {G:Nat->Option (List U)} {R R':Rec}
def adI(le:mc R R'){e:Env}{h:Heap}{c:Call}{r:dO × Heap}(f:jE P R e h c=J r):jE P R' e h c=J r:=by
 unfold jE at f ⊢;cases m:c.callee with
 |builtin b=>simp_all|value q=>
  simp only[m]at f ⊢;split at f
  .rename_i j;(try simp only[j]);exact le.call _ _ _ _ f
  .rename_i j;(try simp only[j]);exact le.round _ _ _ _ f
  omega
 |invoke v s=>
  simp only[m]at f ⊢;split at f
  .rename_i j
   (try simp only[j])
   split at f
   .rename_i h2;(try simp only[h2]);exact le.call _ _ _ _ f
   omega
  omega
def Bk(le:mc R R'){e:Env}{h:Heap}{o:Oper}{r:dO × Env × Heap}(f:dF P G R e h o=J r):dF P G R' e h o=J r:=by
 unfold dF at f ⊢;split at f
 .exact f
 .exact f
 .exact f
 .simp only[dg]at f ⊢;obtain⟨q,m,j⟩:=f;exact⟨q,adI le m,j⟩
 .exact f
 .exact f
 omega
def mR(le:mc R R'){ops:Array Oper}:∀{l:List Nat} {e:Env} {h:Heap} {r:Xt × Env × Heap},bW P G R ops l e h=J r->bW P G R' ops l e h=J r:=by
 intro l
 induction l with
 |nil=>intro e h r f;exact f|cons i l s=>
  intro e h r f;simp only[bW]at f ⊢;cases m:ops[i]? with
  |none=>simp_all|some o=>
   rw[m]at f;simp only at f ⊢;cases q:et ops e o with
   |none=>simp_all|some b=>
    rw[q]at f;cases b with
    |false=>grind
    |true=>
     simp only at f ⊢;cases j:dF P G R e h o with
     |none=>simp_all|some z=>
      rw[j]at f;rw[Bk le j]
      grind
def IV(le:mc R R'){ops:Array Oper}{e:Env}{h:Heap}{r m:Nat}(f:nS P G R ops e h r m=V):nS P G R' ops e h r m=V:=by
 unfold nS at f ⊢;split at f
 .rename_i o z B s A j h2 q;rw[j,mR le h2,mR le q];exact f
 grind
def CM{ops:Array Oper}{e:Env}{h:Heap}{k:Nat}:jG P G R ops e h k=V↔uH P G R ops e h k:=by unfold jG;simp_all
def FP(le:mc R R'){ops:Array Oper}{e:Env}{h:Heap}{k:Nat}(f:jG P G R ops e h k=V):jG P G R' ops e h k=V:=by rw[CM]at f ⊢;obtain⟨o,x,q,D,r,h2,s,z⟩:=f;refine⟨o,x,q,D,r,h2,mR le s,λE C=>?_⟩;obtain⟨m,j,A,B⟩:=z E C;exact⟨m,j,mR le A,Bk le B⟩
def CY(le:mc R R'){ops:Array Oper}{e:Env}{h:Heap}(j:jZ P G R ops e h=V):jZ P G R' ops e h=V:=by
 unfold jZ at j ⊢;simp only[bm,eF,hy,nU]at j ⊢;refine⟨j.1,λz s i r=>?_⟩;rcases j.2 z s i r with((f|f)|f)|f
 .simp_all
 .simp_all
 .refine .inl (.inr ?_);unfold jn at f ⊢;rw[bm]at f ⊢;refine⟨f.1,?_⟩;have h2:=f.2;split at h2
  .rename_i m q;(try simp only[m,q]);exact IV le h2
  .rename_i m q;(try simp only[m,q]);exact IV le h2
  omega
 .exact .inr ⟨f.1,f.2.imp (FP le) (FP le)⟩
def Wm(le:mc R R'){ops:Array Oper}{l:List Nat}{e:Env}{h:Heap}(f:yM (bW P G R ops l e h)=V):yM (bW P G R' ops l e h)=V:=by
 cases j:bW P G R ops l e h with
 |none=>rw[j]at f;cases f
 |some m=>rw[j]at f;rw[mR le j];exact f
def WH(le:mc R R'){ops:Array Oper}{e:Env}{h:Heap}{i:Nat}(f:px P G R ops e h i=V):px P G R' ops e h i=V:=by
 unfold px at f ⊢;split at f
 .rename_i j h2;rw[mR le j,mR le h2];exact f
 grind
def stores_le(le:mc R R'){ops:Array Oper}{e:Env}{h:Heap}(D:xj P G R ops e h=V):xj P G R' ops e h=V:=by obtain⟨i,f,h2,j,m⟩:=stores_cases D;exact stores_of f h2 (WH le j) (CY le m)
def drawC_le(le:mc R R'){ops:Array Oper}{e:Env}{h:Heap}{o:Xt}(D:drawC P G R ops e h o=V):drawC P G R' ops e h o=V:=by
 cases o with|normal=>exact(nU _ _).mpr (((nU _ _).mp D).imp (CY le) (stores_le le))|panic x=>simp only[drawC,bm]at D ⊢;exact⟨D.1,CY le D.2.1,Wm le D.2.2⟩|_=>cases D
def draw_code{R:Rec}{id:Nat}{ops:Array Oper}{e:Env}{h:Heap}{r:Xt × Env × Heap}(f:bW P G R ops (bZ ops.size) e h=J r)(D:drawC P G R ops e h r.1=V):eO P G R (.region id ops V) e h=J r:=by simp only[eO,if_true,Qn];simp_all
def R_(le:mc R R'){c:Code}{e:Env}{h:Heap}{r:Xt × Env × Heap}(f:eO P G R c e h=J r):eO P G R' c e h=J r:=by
 cases c with
 |region id ops s=>
  cases s with|false=>simp only[eO,jo,if_false]at f ⊢;exact mR le f|true=>simp only[eO,if_true,Qn]at f;exact draw_code (mR le f.1) (drawC_le le f.2)
 |seq a b=>
  simp only[eO]at f ⊢;cases j:R.code a e h with
  |none=>simp_all|some q=>
   rw[j]at f;rw[le.code _ _ _ _ j];obtain⟨o,B,m⟩:=q;cases o with|normal=>exact le.code _ _ _ _ f|_=>exact f
 |scope a=>simp only[eO]at f ⊢;exact le.code _ _ _ _ f|cond q a b=>
  simp only[eO]at f ⊢;split at f
  .rename_i m;(try simp only[m]);exact le.code _ _ _ _ f
  .rename_i m;(try simp only[m]);exact le.code _ _ _ _ f
  omega
 |block id a=>
  simp only[eO]at f ⊢;cases j:R.code a e h with|none=>simp_all|some q=>rw[j]at f;rw[le.code _ _ _ _ j];exact f
 |loop a=>
  simp only[eO]at f ⊢;cases j:R.code a e h with
  |none=>simp_all|some q=>
   rw[j]at f;rw[le.code _ _ _ _ j];obtain⟨o,B,m⟩:=q;cases o with|normal=>exact le.code _ _ _ _ f|_=>exact f
 |rangeFunc E D a b=>
  simp only[eO]at f ⊢;split at f
  .rename_i g first C A
   (try simp only[A])
   generalize z:R.call g _ _=q at f;cases q with
   |none=>cases f
   |some q=>rw[le.call _ _ _ _ z];exact f
  omega
 |_=>exact f
def Po(le:mc R R'){fn:Func}{e:Env}:∀{f:List (aQ × List U)} {m:Option (U × Bool)} {h:Heap} {r:dO × Heap},fZ P G R fn e f m h=J r->fZ P G R' fn e f m h=J r:=by
 intro f
 induction f with
 |nil=>intro m h r j;cases m<;>exact j
 |cons d f s=>
  intro m h r j;obtain⟨g,args⟩:=d;simp only[fZ]at j ⊢;cases q:R.ii g args m h with
  |none=>simp_all|some z=>
   rw[q]at j;rw[le.ii _ _ _ _ _ q]
   grind
def Kz(le:mc R R'){g:aQ}{args:List U}{m:Option (U × Bool)}{h:Heap}{r:dO × Option (U × Bool) × Heap}(f:oR P G R g args m h=J r):oR P G R' g args m h=J r:=by
 unfold oR at f ⊢;split at f
 .cases f
 .rename_i E z;rw[z]at *
  simp only;split at f
  .cases f
  .rename_i q j;rw[j]at *
   (try simp only)
   generalize s:R.code q _ h=A at f;cases A with
   |none=>cases f
   |some A=>
    rw[le.code _ _ _ _ s];obtain⟨o,D,N⟩:=A;cases o with
    |exit id=>cases f
    |_=>simp only[dg]at f ⊢;obtain⟨A,C,B⟩:=f;exact⟨A,Po le C,B⟩
def Te(le:mc R R'){aI:aQ->Option (List U->Heap->Option (U × Heap))}{g:aQ}{args:List U}{h:Heap}{r:dO × Heap}(f:j9 P G R aI g args h=J r):j9 P G R' aI g args h=J r:=by
 unfold j9 at f ⊢;split at f
 .exact f
 .simp only[dg]at f ⊢;obtain⟨q,m,j⟩:=f;exact⟨q,Kz le m,j⟩
def XG(le:mc R R'){l:Nat}{args:List U}{h:Heap}{r:dO × Heap}(f:rV R l args h=J r):rV R' l args h=J r:=by
 unfold rV at f ⊢;split at f
 .cases f
 .split at f
  .rename_i q;simp only[q,if_true];split at f
   .rename_i s C z;simp only[le.code _ _ _ _ z];split at f
    .rename_i D A;split at f
     .rename_i m;simp only[m,if_true];generalize j:R.code _ s _=B at f;cases B with
      |none=>cases f
      |some B=>rw[le.code _ _ _ _ j];exact f
     grind
    omega
   grind
  grind
variable {aI:aQ->Option (List U->Heap->Option (U × Heap))}
def Eu(n:Nat):mc (gF P G aI n) (gF P G aI (n+1)):=by
 induction n with
 |zero=>
  refine⟨?_,?_,?_,?_⟩
  .intro c e h m f;cases f
  .intro g a h m f;cases f
  .intro g a q h m f;cases f
  .intro l a h m f;cases f
 |succ n j=>exact⟨λc e h m f=>R_ j f,λg a h m f=>Te j f,λg a q h m f=>Kz j f,λl a h m f=>XG j f⟩
def gG{n m:Nat}(h:n<=m):mc (gF P G aI n) (gF P G aI m):=by
 induction m with
 |zero=>rw[Nat.le_zero.1 h];exact⟨λ_ _ _ _ h=>h,λ_ _ _ _ h=>h,λ_ _ _ _ _ h=>h,λ_ _ _ _ h=>h⟩|succ m s=>
  rcases dp n (m+1) with r|q
  .have j:=s (zM.1 r);have h2:=Eu (P:=P) (G:=G) (aI:=aI) m;exact⟨λc e h z f=>h2.code _ _ _ _ (j.code _ _ _ _ f),λg a h z f=>h2.call _ _ _ _ (j.call _ _ _ _ f),λg a m h z f=>h2.ii _ _ _ _ _ (j.ii _ _ _ _ _ f),λl a h z f=>h2.round _ _ _ _ (j.round _ _ _ _ f)⟩
  .rw[Nat.le_antisymm h q];exact⟨λ_ _ _ _ h=>h,λ_ _ _ _ h=>h,λ_ _ _ _ _ h=>h,λ_ _ _ _ h=>h⟩
end
noncomputable def qb{α:Type}(f:Nat->Option α):Option α:=by
 classical
 exact if h:∃j n,f n=J j then J h.choose else af
def Hs{α}{f}(q:∀n m r,n<=m->f n=J r->f m=J r){n}{r:α}(h:f n=J r):qb f=J r:=by
 unfold qb;have j:∃r n,f n=J r:=⟨r,n,h⟩
 grind
def jw{α}{f}{r:α}(h:qb f=J r):∃n,f n=J r:=by unfold qb at h;split at h<;>grind
section
variable (P:bj) (G:Nat->Option (List U)) (aI:aQ->Option (List U->Heap->Option (U × Heap)))
noncomputable def whole:Rec where
 code c e h:=qb λn=>(gF P G aI n).code c e h
 call g a h:=qb λn=>(gF P G aI n).call g a h
 ii g a m h:=qb λn=>(gF P G aI n).ii g a m h
 round l a h:=qb λn=>(gF P G aI n).round l a h
end
section
variable {P:bj} {G:Nat->Option (List U)} {aI:aQ->Option (List U->Heap->Option (U × Heap))}
def xn(n:Nat):mc (gF P G aI n) (whole P G aI):=
 ⟨λ_ _ _ _ h=>Hs (λ_ _ _ j f=>(gG j).code _ _ _ _ f) h,λ_ _ _ _ h=>Hs (λ_ _ _ j f=>(gG j).call _ _ _ _ f) h,
  λ_ _ _ _ _ h=>Hs (λ_ _ _ j f=>(gG j).ii _ _ _ _ _ f) h,λ_ _ _ _ h=>Hs (λ_ _ _ j f=>(gG j).round _ _ _ _ f) h⟩
def E9{w0:bO}(q:Prog P)(f:∀g p,aI g=J p->jV P G w0 g p):sK P G w0 (whole P G aI):=by
 refine⟨?_,?_,?_,?_⟩
 .intro c e h r s h' j;obtain⟨n,m⟩:=jw j;exact(Ii q f n).code c e h r s h' m
 .intro g args h A h' j;obtain⟨n,m⟩:=jw j;exact(Ii q f n).call g args h A h' m
 .intro g args B h x z h' j;obtain⟨n,m⟩:=jw j;exact(Ii q f n).ii g args B h x z h' m
 .intro l args h A h' j;obtain⟨n,m⟩:=jw j;exact(Ii q f n).round l args h A h' m
def two{α z:Type}{f:Nat->Option α}{g:Nat->Option z}{a}{b}(q:∀n m r,n<=m->f n=J r->f m=J r)(s:∀n m r,n<=m->g n=J r->g m=J r)(j:∃n,f n=J a)(h2:∃n,g n=J b):
 ∃n,f n=J a/\g n=J b:=by
 grind
def adH{e:Env}{h:Heap}{c:Call}{r:dO × Heap}(f:jE P (whole P G aI) e h c=J r):∃n,jE P (gF P G aI n) e h c=J r:=by
 unfold jE at f ⊢;cases j:c.callee with
 |builtin b=>simp_all|value m=>
  simp only[j]at f ⊢;split at f
  .exact jw f
  .exact jw f
  grind
 |invoke v q=>
  simp only[j]at f ⊢;split at f
  .split at f
   .rename_i h2;(try simp only[h2]);exact jw f
   grind
  grind
def Ww{e:Env}{h:Heap}{o:Oper}{r:dO × Env × Heap}(f:dF P G (whole P G aI) e h o=J r):∃n,dF P G (gF P G aI n) e h o=J r:=by
 unfold dF at f ⊢;split at f
 .exact⟨0,f⟩
 .simp_all
 .simp_all
 .simp only[dg]at f ⊢;obtain⟨s,j,m⟩:=f;obtain⟨n,q⟩:=adH j
  grind
 .exact⟨0,f⟩
 .simp_all
 simp_all
def vq{ops:Array Oper}:∀{l:List Nat} {e:Env} {h:Heap} {r:Xt × Env × Heap},bW P G (whole P G aI) ops l e h=J r->∃n,bW P G (gF P G aI n) ops l e h=J r:=by
 intro l
 induction l with
 |nil=>intro e h r f;exact⟨0,f⟩|cons i l C=>
  intro e h r f;simp only[bW]at f ⊢;cases z:ops[i]? with
  |none=>simp_all|some o=>
   rw[z]at f;simp only at f ⊢;cases B:et ops e o with
   |none=>simp_all|some b=>
    rw[B]at f;cases b with
    |false=>grind
    |true=>
     simp only at f ⊢;cases j:dF P G (whole P G aI) e h o with
     |none=>simp_all|some T=>
      rw[j]at f;have s:=Ww j;obtain⟨E,S,N⟩:=T;cases E with
      |panic x=>
       grind
      |ret x=>
       obtain⟨n,s,h2⟩:=two (λ_ _ _ q m=>Bk (gG q) m) (λ_ _ _ q m=>mR (gG q) m) s (C f)
       grind
def YA{ops:Array Oper}{e:Env}{h:Heap}{r m:Nat}(s:nS P G (whole P G aI) ops e h r m=V):∃n,nS P G (gF P G aI n) ops e h r m=V:=by
 unfold nS at s ⊢;split at s
 .rename_i o A E z C B h2 q;obtain⟨n,h2,q⟩:=two (λ_ _ _ j f=>mR (gG j) f) (λ_ _ _ j f=>mR (gG j) f) (vq h2) (vq q)
  grind
 grind
def many{p:Nat->Nat->Prop}(z:∀i n m,n<=m->p i n->p i m):∀k,(∀i,i<k->∃n,p i n)->∃n,∀i,i<k->p i n:=by
 intro k
 induction k with
 |zero=>simp_all|succ k j=>intro h;obtain⟨n,A⟩:=j λi f=>h i (Nat.lt_succ_of_lt f);obtain⟨m,s⟩:=h k (Nat.lt_succ_self k);refine⟨max n m,λi f=>?_⟩;rcases dp i k with r|q<;>grind
def ar0{R R':Rec}(le:mc R R'){ops:Array Oper}{e:Env}{h:Heap}{i j:Nat}(f:jn P G R ops e h i j=V):jn P G R' ops e h i j=V:=by
 unfold jn at f ⊢;rw[bm]at f ⊢;refine⟨f.1,?_⟩;have h2:=f.2;split at h2
 .rename_i m q;(try simp only[m,q]);exact IV le h2
 .rename_i m q;(try simp only[m,q]);exact IV le h2
 omega
def arZ{ops:Array Oper}{e:Env}{h:Heap}{i j:Nat}(f:jn P G (whole P G aI) ops e h i j=V):∃n,jn P G (gF P G aI n) ops e h i j=V:=by
 unfold jn at f ⊢;rw[bm]at f;have h2:=f.2;split at h2
 .rename_i q r;obtain⟨n,m⟩:=YA h2
  grind
 .rename_i q r;obtain⟨n,m⟩:=YA h2
  grind
 grind
def RC{ops:Array Oper}{e:Env}{h:Heap}{k:Nat}(E:jG P G (whole P G aI) ops e h k=V):∃n,jG P G (gF P G aI n) ops e h k=V:=by
 rw[CM]at E;obtain⟨o,x,q,hr,S,h2,B,T⟩:=E;obtain⟨n0,B⟩:=vq B;have N:∀A,A<ops.size+1->∃n,∃j f,bW P G (gF P G aI n) ops (bZ A) e h=J (.normal,j,f)/\dF P G (gF P G aI n) q f o=J (.ret x,q,f):=by intro A f;obtain⟨j,r,X,Y⟩:=T A (zM.1 f);obtain⟨n,s,z⟩:=two (λ_ _ _ m C=>mR (gG m) C) (λ_ _ _ m C=>Bk (gG m) C) (vq X) (Ww Y);exact⟨n,j,r,s,z⟩
 obtain⟨n1,Z⟩:=many (p:=λA n=>∃j f,bW P G (gF P G aI n) ops (bZ A) e h=J (.normal,j,f)/\dF P G (gF P G aI n) q f o=J (.ret x,q,f))
  (λA n n' m ⟨j,f,s,z⟩=>⟨j,f,mR (gG m) s,Bk (gG m) z⟩) (ops.size+1) N
 refine⟨max n0 n1,?_⟩;rw[CM];refine⟨o,x,q,hr,S,h2,mR (gG (JT _ _)) B,λA f=>?_⟩;obtain⟨j,r,s,z⟩:=Z A (zM.2 f);exact⟨j,r,mR (gG (Fu _ _)) s,Bk (gG (Fu _ _)) z⟩
noncomputable def vt(P:bj)(G:Nat->Option (List U))(R:Rec)(ops:Array Oper)(e:Env)(h:Heap)(i j:Nat):Bool:=
 ((Region.before ops).getD j 0).testBit i||vw ops i j||jn P G R ops e h i j||(nB ops i j&&(jG P G R ops e h i||jG P G R ops e h j))
def WK{R R':Rec}(le:mc R R'){ops:Array Oper}{e:Env}{h:Heap}{i j:Nat}(m:vt P G R ops e h i j=V):vt P G R' ops e h i j=V:=by
 unfold vt at m ⊢;simp only[nU,bm]at m ⊢;rcases m with(f|f)|f
 .simp_all
 .exact .inl (.inr (ar0 le f))
 .exact .inr ⟨f.1,f.2.imp (FP le) (FP le)⟩
def al3{ops:Array Oper}{e:Env}{h:Heap}{i j:Nat}(m:vt P G (whole P G aI) ops e h i j=V):∃n,vt P G (gF P G aI n) ops e h i j=V:=by
 unfold vt at m ⊢;simp only[nU,bm]at m ⊢;rcases m with(f|f)|⟨f,h2|h2⟩
 .simp_all
 .obtain⟨n,q⟩:=arZ f
  grind
 .obtain⟨n,q⟩:=RC h2
  grind
 .obtain⟨n,q⟩:=RC h2
  grind
def K5{ops:Array Oper}{e:Env}{h:Heap}(q:jZ P G (whole P G aI) ops e h=V):∃n,jZ P G (gF P G aI n) ops e h=V:=by
 unfold jZ at q ⊢;simp only[bm,eF,hy]at q ⊢;obtain⟨s,h2⟩:=q;have r:∀f,f<ops.size->∃n,∀i,i<f->vt P G (gF P G aI n) ops e h i f=V:=by intro f A;exact many (p:=λi n=>vt P G (gF P G aI n) ops e h i f=V) (λi n C m=>WK (gG m)) f λi j=>al3 (h2 f A i j)
 obtain⟨n,B⟩:=many (p:=λf n=>∀i,i<f->vt P G (gF P G aI n) ops e h i f=V) (λf n C m z i j=>WK (gG m) (z i j)) ops.size r;exact⟨n,s,B⟩
def alG{ops:Array Oper}{l:List Nat}{e:Env}{h:Heap}{p:Option (Xt × Env × Heap)->Bool}(j:p af=ai)(q:p (bW P G (whole P G aI) ops l e h)=V):∃n,p (bW P G (gF P G aI n) ops l e h)=V:=by
 cases f:bW P G (whole P G aI) ops l e h with
 |none=>simp_all|some r=>
  obtain⟨n,m⟩:=vq f
  grind
def alX{ops:Array Oper}{e:Env}{h:Heap}{i:Nat}(q:px P G (whole P G aI) ops e h i=V):∃n,px P G (gF P G aI n) ops e h i=V:=by
 unfold px at q ⊢;split at q
 .rename_i m h2;obtain⟨n,m,h2⟩:=two (λ_ _ _ j f=>mR (gG j) f) (λ_ _ _ j f=>mR (gG j) f) (vq m) (vq h2)
  grind
 grind
def drawC_fin{ops:Array Oper}{e:Env}{h:Heap}{o:Xt}(D:drawC P G (whole P G aI) ops e h o=V):∃n,drawC P G (gF P G aI n) ops e h o=V:=by
 cases o with
 |normal=>
  rcases (nU _ _).mp D with q|q
  .obtain⟨n,m⟩:=K5 q;exact⟨n,(nU _ _).mpr (.inl m)⟩
  .obtain⟨i,s,h2,f,j⟩:=stores_cases q;obtain⟨n,f⟩:=alX f;obtain⟨r,j⟩:=K5 j;exact⟨max n r,(nU _ _).mpr (.inr (stores_of s h2 (WH (gG (JT n r)) f) (CY (gG (Fu n r)) j)))⟩
 |panic x=>simp only[drawC,bm]at D ⊢;obtain⟨n,m⟩:=K5 D.2.1;obtain⟨r,z⟩:=alG (p:=yM) O D.2.2;exact⟨max n r,D.1,CY (gG (JT n r)) m,Wm (gG (Fu n r)) z⟩
 |_=>cases D
def aeF{c:Code}{e:Env}{h:Heap}{r:Xt × Env × Heap}(f:eO P G (whole P G aI) c e h=J r):∃n,eO P G (gF P G aI n) c e h=J r:=by
 cases c with
 |region id ops B=>
  cases B with|false=>simp only[eO,jo,if_false]at f ⊢;exact vq f|true=>simp only[eO,if_true,Qn]at f;obtain⟨n,j⟩:=vq f.1;obtain⟨S,h2⟩:=drawC_fin f.2;exact⟨max n S,draw_code (mR (gG (JT n S)) j) (drawC_le (gG (Fu n S)) h2)⟩
 |seq a b=>
  simp only[eO]at f ⊢;cases m:(whole P G aI).code a e h with
  |none=>simp_all|some A=>
   rw[m]at f;have j:=jw m;obtain⟨o,N,E⟩:=A;by_cases z:o=.normal
   .subst z;obtain⟨n,j,h2⟩:=two (λ_ _ _ s q=>(gG s).code _ _ _ _ q) (λ_ _ _ s q=>(gG s).code _ _ _ _ q) j (jw f)
    grind
   grind
 |scope a=>simp only[eO]at f ⊢;exact jw f|cond A a b=>
  simp only[eO]at f ⊢;split at f
  .exact jw f
  .exact jw f
  grind
 |block id a=>
  simp only[eO]at f ⊢;cases m:(whole P G aI).code a e h with
  |none=>simp_all|some A=>
   rw[m]at f;obtain⟨n,j⟩:=jw m
   grind
 |loop a=>
  simp only[eO]at f ⊢;cases m:(whole P G aI).code a e h with
  |none=>simp_all|some A=>
   rw[m]at f;have j:=jw m;obtain⟨o,N,E⟩:=A;by_cases z:o=.normal
   .subst z;obtain⟨n,j,h2⟩:=two (λ_ _ _ s q=>(gG s).code _ _ _ _ q) (λ_ _ _ s q=>(gG s).code _ _ _ _ q) j (jw f)
    grind
   grind
 |rangeFunc Y X a b=>
  simp only[eO]at f ⊢;split at f
  .generalize C:(whole P G aI).call _ _ _=A at f;cases A with
   |none=>cases f
   |some A=>
    obtain⟨n,T⟩:=jw C
    grind
  grind
 |_=>exact⟨0,f⟩
def atw{fn:Func}{e:Env}:∀{f:List (aQ × List U)} {m:Option (U × Bool)} {h:Heap} {r:dO × Heap},fZ P G (whole P G aI) fn e f m h=J r->∃n,fZ P G (gF P G aI n) fn e f m h=J r:=by
 intro f
 induction f with
 |nil=>intro m h r j;exact⟨0,by cases m<;>exact j⟩
 |cons d f E=>
  intro m h r j;obtain⟨g,args⟩:=d;simp only[fZ]at j ⊢;cases B:(whole P G aI).ii g args m h with
  |none=>simp_all|some X=>
   rw[B]at j;have C:=jw B;obtain⟨S,N,q⟩:=X;cases S with
   |panic x=>grind
   |ret x=>
    have T:∀A,fZ P G (whole P G aI) fn e f A q=J r->∃n,(gF P G aI n).ii g args m h=J (.ret x,N,q)/\fZ P G (gF P G aI n) fn e f A q=J r:=λA j=>
     two (λ_ _ _ z s=>(gG z).ii _ _ _ _ _ s) (λ_ _ _ z s=>Po (gG z) s) C (E j)
    grind
def Rk{g:aQ}{args:List U}{m:Option (U × Bool)}{h:Heap}{r:dO × Option (U × Bool) × Heap}(f:oR P G (whole P G aI) g args m h=J r):∃n,oR P G (gF P G aI n) g args m h=J r:=by
 unfold oR at f ⊢;split at f
 .cases f
 .rename_i X C;simp only[C];split at f
  .cases f
  .rename_i q j
   (try simp only[j])
   generalize B:(whole P G aI).code q _ h=E at f;cases E with
   |none=>cases f
   |some E=>
    have A:=jw B;obtain⟨o,T,S⟩:=E;cases o with
    |exit id=>cases f
    |_=>
     simp only[dg]at f;obtain⟨E,N,Y⟩:=f;obtain⟨n,A,h2⟩:=two (λ_ _ _ z s=>(gG z).code _ _ _ _ s) (λ_ _ _ z s=>Po (gG z) s) A (atw N)
     grind
def agA{g:aQ}{args:List U}{h:Heap}{r:dO × Heap}(f:j9 P G (whole P G aI) aI g args h=J r):∃n,j9 P G (gF P G aI n) aI g args h=J r:=by
 unfold j9 at f ⊢;split at f
 .simp_all
 .simp only[dg]at f ⊢;obtain⟨s,j,m⟩:=f;obtain⟨n,q⟩:=Rk j
  grind
def api{l:Nat}{args:List U}{h:Heap}{r:dO × Heap}(f:rV (whole P G aI) l args h=J r):∃n,rV (gF P G aI n) l args h=J r:=by
 unfold rV at f ⊢;split at f
 .cases f
 .rename_i Z s
  (try simp only[s])
  split at f
  .rename_i z;simp only[z,if_true];split at f
   .rename_i A X B;split at f
    .rename_i Y C;split at f
     .rename_i E;generalize q:(whole P G aI).code _ A _=N at f;cases N with
      |none=>cases f
      |some N=>
       obtain⟨n,S,T⟩:=two (λ_ _ _ m j=>(gG m).code _ _ _ _ j) (λ_ _ _ m j=>(gG m).code _ _ _ _ j) (jw B) (jw q)
       grind
     grind
    grind
   grind
  grind
def HL{α:Type}{a b:Option α}(f:∀r,a=J r->b=J r)(h2:∀r,b=J r->a=J r):a=b:=by
 cases j:a with
 |some r=>simp_all|none=>
  cases m:b with|none=>rfl|some r=>simp_all
def oK(c:Code)(e:Env)(h:Heap):(whole P G aI).code c e h=eO P G (whole P G aI) c e h:=
 HL (λm j=>by
  obtain⟨n,f⟩:=jw j;have:=(Eu (P:=P) (G:=G) (aI:=aI) n).code c e h m f;exact R_ (xn n) this)
  (λm j=>by obtain⟨n,f⟩:=aeF j;exact(xn (n+1)).code c e h m f)
def qZ(g:aQ)(a:List U)(h:Heap):(whole P G aI).call g a h=j9 P G (whole P G aI) aI g a h:=
 HL (λm j=>by
  obtain⟨n,f⟩:=jw j;have:=(Eu (P:=P) (G:=G) (aI:=aI) n).call g a h m f;exact Te (xn n) this)
  (λm j=>by obtain⟨n,f⟩:=agA j;exact(xn (n+1)).call g a h m f)
def atQ(g:aQ)(a:List U)(m:Option (U × Bool))(h:Heap):(whole P G aI).ii g a m h=oR P G (whole P G aI) g a m h:=
 HL (λq j=>by
  obtain⟨n,f⟩:=jw j;have:=(Eu (P:=P) (G:=G) (aI:=aI) n).ii g a m h q f;exact Kz (xn n) this)
  (λq j=>by obtain⟨n,f⟩:=Rk j;exact(xn (n+1)).ii g a m h q f)
def atS(l:Nat)(a:List U)(h:Heap):(whole P G aI).round l a h=rV (whole P G aI) l a h:=
 HL (λm j=>by
  obtain⟨n,f⟩:=jw j;have:=(Eu (P:=P) (G:=G) (aI:=aI) n).round l a h m f;exact XG (xn n) this)
  (λm j=>by obtain⟨n,f⟩:=api j;exact(xn (n+1)).round l a h m f)
end
end Go.AE
end
section
namespace Go.AE
def Env.st(e:Env)(d:Nat)(x:U):Env:={e with tmps:=e.tmps.set d x}
def am2(e:Env)(d:Nat)(x):e.put (J d) x=e.st d x:=rfl
def am0(e:Env)(x):e.put af x=e:=rfl
def ET(e:Env)(d t)(x):(e.st d x).get t=if d=t then x else e.get t:=A' e.tmps d t x
def arV(e:Env)(d)(x):(e.st d x).defers=e.defers:=rfl
def arW(e:Env)(d)(x):(e.st d x).cC=e.cC:=rfl
def Yy(e:Env)(d)(x):(e.st d x).round=e.round:=rfl
def Env.start(args:List U)(p:Option (U × Bool)):Env:={tmps:={ch:=[],base:=args},defers:=[],cC:=p,round:=af}
def ar4(args)(p)(t):(Env.start args p).get t=args.getD t (.tuple []):=rfl
def ar3(args)(p):(Env.start args p).defers=[]:=rfl
def ar5(args)(p):(Env.start args p).cC=p:=rfl
def O6(args)(p):(Env.start args p).round=af:=rfl
def Aq(e:Env)(t:Nat):e.eval (.tmp t)=e.get t:=rfl
def eval_const(e:Env)(v):e.eval (.const v)=oB v:=rfl
def eval_func(e:Env)(f):e.eval (.func f)=.func (.func f) [] []:=rfl
def eval_global(e:Env)(g):e.eval (.global g)=.ptr (.dB g) 0:=rfl
def alz(k)(n):oB (.int k n)=.v (.int k n):=rfl
def aly(b):oB (.bool b)=.v (.bool b):=rfl
def alE(s):oB (.string s)=.v (.string s):=rfl
def alB:oB .nilIface=.v .nilIface:=rfl
def alA:oB .nilFunc=.v .nilFunc:=rfl
def alC:oB (.pointer af)=.v (.pointer af):=rfl
def alD:oB (.slice af 0 0)=.list .nil 0 []:=rfl
def alx(cs):oB (.agg ⟨cs⟩)=.agg (cs.map rJ):=rfl
section
variable (P:bj) (G:Nat->Option (List U)) (R:Rec)
def opsL(ops:Array Oper):List Oper->Env->Heap->Option (Xt × Env × Heap)
 | [],e,h=>J (.normal,e,h)
 |o::rest,e,h=>
  match et ops e o with
  |none=>af
  |some ai=>opsL ops rest (e.put o.dst (.tuple [])) h
  |some V=>
   match dF P G R e h o with
   |some (.ret x,e,h)=>opsL ops rest (e.put o.dst x) h
   |some (.panic x,e,h)=>J (.panic x,e,h)
   |none=>af
def Wx(ops:Array Oper):∀(n i:Nat),i+n=ops.size->∀(e:Env) (h:Heap),bW P G R ops (P_ i n) e h=opsL P G R ops (ops.toList.drop i) e h:=by
 intro n
 induction n with
 |zero=>intro i j e h;rw[List.drop_eq_nil_of_le (by grind)];rfl|succ n q=>
  intro i j e h;have f:i<ops.size:=by omega
  have m:ops[i]?=J ops[i]:=jz f;rw[aat,ss M];simp only[bW,opsL,m,Zv]
  grind
def uD(r:Option (Xt × Env × Heap))(Q:Xt->Env->Heap->Prop):Prop:=∃o e h,r=J (o,e,h)/\Q o e h
def bC(c:Code)(e:Env)(h:Heap)(Q:Xt->Env->Heap->Prop):Prop:=uD (R.code c e h) Q
def ck(ops:Array Oper)(l:List Oper)(e:Env)(h:Heap)(Q:Xt->Env->Heap->Prop):Prop:=uD (opsL P G R ops l e h) Q
end
def rL{o}{e}{h}{Q}:uD (J (o,e,h)) Q=Q o e h:=
 propext ⟨λ⟨_,_,_,h1,h2⟩=>by simp_all,λf=>⟨o,e,h,O,f⟩⟩
def pu{Q}:uD af Q=False:=propext ⟨λ⟨_,_,_,f,_⟩=>(by cases f),False.elim⟩
def uD.mono{r}{Q f}(h:∀o e h,Q o e h->f o e h)(q:uD r Q):uD r f:=by obtain⟨o,e,j,h2,m⟩:=q;exact⟨o,e,j,h2,h _ _ _ m⟩
def guardOf(ops:Array Oper)(j:Nat):Option Tmp:=(ops[j]?).bind (·.dst)
def ahk{o}{l}:guardOf ⟨o::l⟩ 0=o.dst:=rfl
def ahj{o}{l}{n}:guardOf ⟨o::l⟩ (n+1)=guardOf ⟨l⟩ n:=by simp[guardOf]
def si(R:Rec)(a b:Code)(e:Env)(h:Heap)(Q:Xt->Env->Heap->Prop)(x:U):Prop:=
 match x with
 | .v (.bool t)=>if t=V then bC R a e h Q else bC R b e h Q
 |_=>False
def lY(P:bj)(G:Nat->Option (List U))(R:Rec)(ops:Array Oper)(o:Oper)(rest:List Oper)(e:Env)(h:Heap)(Q:Xt->Env->Heap->Prop)(f:Bool)(x:U):Prop:=
 match x with
 | .v (.bool b)=>if b=f then ck P G R ops (o::rest) e h Q else ck P G R ops rest (e.put o.dst (.tuple [])) h Q
 | .tuple []=>ck P G R ops rest (e.put o.dst (.tuple [])) h Q
 |_=>False
def J8(P:bj)(G:Nat->Option (List U))(R:Rec)(ops:Array Oper)(o:Oper)(rest:List Oper)(e:Env)(h:Heap)(Q:Xt->Env->Heap->Prop)(f:Bool)(d:Option Tmp):Prop:=
 match d with
 |some g=>lY P G R ops o rest e h Q f (e.get g)
 |none=>ck P G R ops rest (e.put o.dst (.tuple [])) h Q
section
variable {P:bj} {G:Nat->Option (List U)} {R:Rec} {a b:Code} {e:Env} {h:Heap} {Q:Xt->Env->Heap->Prop} {ops:Array Oper} {o:Oper} {rest:List Oper} {p:Prop} [Decidable p] {t:Bool}
def adx:si R a b e h Q (.v (.bool V))=bC R a e h Q:=rfl
def adu:si R a b e h Q (.v (.bool ai))=bC R b e h Q:=rfl
def adt(f:p->bC R a e h Q)(h2:¬p->bC R b e h Q):si R a b e h Q (.v (.bool (decide p))):=by unfold si;simp_all
def adw(f:p->bC R b e h Q)(h2:¬p->bC R a e h Q):si R a b e h Q (.v (.bool (!decide p))):=by unfold si;simp_all
def ads(f:t=V->bC R a e h Q)(h2:t=ai->bC R b e h Q):si R a b e h Q (.v (.bool t)):=by
 cases t
 .exact h2 O
 .exact f rfl
def ahs:lY P G R ops o rest e h Q V (.v (.bool V))=ck P G R ops (o::rest) e h Q:=rfl
def ahr:lY P G R ops o rest e h Q V (.v (.bool ai))=ck P G R ops rest (e.put o.dst (.tuple [])) h Q:=rfl
def aho:lY P G R ops o rest e h Q ai (.v (.bool V))=ck P G R ops rest (e.put o.dst (.tuple [])) h Q:=rfl
def ahn:lY P G R ops o rest e h Q ai (.v (.bool ai))=ck P G R ops (o::rest) e h Q:=rfl
def aht{w:Bool}:lY P G R ops o rest e h Q w (.tuple [])=ck P G R ops rest (e.put o.dst (.tuple [])) h Q:=rfl
def ahm{w:Bool}(f:p->lY P G R ops o rest e h Q w (.v (.bool V)))(h2:¬p->lY P G R ops o rest e h Q w (.v (.bool ai))):lY P G R ops o rest e h Q w (.v (.bool (decide p))):=by by_cases j:p<;>simp_all
def ahq{w:Bool}(f:p->lY P G R ops o rest e h Q w (.v (.bool ai)))(h2:¬p->lY P G R ops o rest e h Q w (.v (.bool V))):lY P G R ops o rest e h Q w (.v (.bool (!decide p))):=by by_cases j:p<;>simp_all
def ahl{w:Bool}(f:t=V->lY P G R ops o rest e h Q w (.v (.bool V)))(h2:t=ai->lY P G R ops o rest e h Q w (.v (.bool ai))):lY P G R ops o rest e h Q w (.v (.bool t)):=by cases t<;>simp_all
def ahp{w:Bool}(f:t=V->lY P G R ops o rest e h Q w (.v (.bool ai)))(h2:t=ai->lY P G R ops o rest e h Q w (.v (.bool V))):lY P G R ops o rest e h Q w (.v (.bool (!t))):=by cases t<;>simp_all
def adv(f:t=V->bC R b e h Q)(h2:t=ai->bC R a e h Q):si R a b e h Q (.v (.bool (!t))):=by
 cases t
 .exact h2 O
 .exact f rfl
def arD{w:Bool}{g:Tmp}:J8 P G R ops o rest e h Q w (J g)=lY P G R ops o rest e h Q w (e.get g):=rfl
end
def EO(R:Rec)(c:Code)(Q:Xt->Env->Heap->Prop):Xt->Env->Heap->Prop
 | .normal,e,h=>bC R c e h Q
 |o,e,h=>Q o e h
def CK(id:Nat)(Q:Xt->Env->Heap->Prop):Xt->Env->Heap->Prop
 | .exit i,e,h=>if i=id then Q .normal e h else Q (.exit i) e h
 |o,e,h=>Q o e h
def sX(Q:Xt->Env->Heap->Prop):Xt->Env->Heap->Prop
 | .normal,e,h=>Q .normal e h
 |_,_,_=>False
section
variable {R:Rec} {c:Code} {Q:Xt->Env->Heap->Prop} {e:Env} {h:Heap}
def aq8:EO R c Q .normal e h=bC R c e h Q:=rfl
def ara:EO R c Q .ret e h=Q .ret e h:=rfl
def aq7{i:Nat}:EO R c Q (.exit i) e h=Q (.exit i) e h:=rfl
def aq9{x:U}:EO R c Q (.panic x) e h=Q (.panic x) e h:=rfl
def adm{id:Nat}:CK id Q .normal e h=Q .normal e h:=rfl
def ado{id:Nat}:CK id Q .ret e h=Q .ret e h:=rfl
def Rh{id i:Nat}:CK id Q (.exit i) e h=if i=id then Q .normal e h else Q (.exit i) e h:=rfl
def adn{id:Nat}{x:U}:CK id Q (.panic x) e h=Q (.panic x) e h:=rfl
def adO:sX Q .normal e h=Q .normal e h:=rfl
def adP{x:U}:sX Q (.panic x) e h=False:=rfl
end
section
variable {P:bj} {G:Nat->Option (List U)} {aI:aQ->Option (List U->Heap->Option (U × Heap))} {Q:Xt->Env->Heap->Prop} {e:Env} {h:Heap}
def aqB:bC (whole P G aI) .skip e h Q=Q .normal e h:=by rw[bC,oK];exact rL
def aqt{l:Nat}:bC (whole P G aI) (.label l) e h Q=Q .normal e h:=by rw[bC,oK];exact rL
def aqA{a:Code}:bC (whole P G aI) (.scope a) e h Q=bC (whole P G aI) a e h Q:=by unfold bC;rw[oK];simp only[eO]
def aqs{id:Nat}:bC (whole P G aI) (.exit id) e h Q=Q (.exit id) e h:=by rw[bC,oK];exact rL
def aqz:bC (whole P G aI) .ret e h Q=Q .ret e h:=by rw[bC,oK];exact rL
def run_seq{a b:Code}:bC (whole P G aI) (.seq a b) e h Q=bC (whole P G aI) a e h (EO (whole P G aI) b Q):=by
 unfold bC;rw[oK];simp only[eO];cases m:(whole P G aI).code a e h with|none=>simp only[pu]|some q=>obtain⟨o,f,j⟩:=q;cases o<;>simp only[rL]<;>rfl
def aqq{c:bP}{a b:Code}:bC (whole P G aI) (.cond c a b) e h Q=si (whole P G aI) a b e h Q (e.eval c):=by
 unfold bC si;rw[oK];simp only[eO];generalize e.eval c=x;rcases x with _|v|_|_|_|_|_|_|_|_|_
 case v=>
  cases v with
  |bool t=>cases t<;>rfl
  |_=>simp only[pu]
 all_goals (simp only[pu])
def aqp{id:Nat}{a:Code}:bC (whole P G aI) (.block id a) e h Q=bC (whole P G aI) a e h (CK id Q):=by
 unfold bC;rw[oK];simp only[eO];cases m:(whole P G aI).code a e h with
 |none=>simp only[pu]|some q=>
  obtain⟨o,f,j⟩:=q;cases o with
  |exit i=>simp only[rL,Rh];split<;>simp only[rL]
  |_=>simp only[rL]<;>rfl
def aqy{id:Nat}{ops:Array Oper}:bC (whole P G aI) (.region id ops ai) e h Q=ck P G (whole P G aI) ops ops.toList e h Q:=by unfold bC ck;rw[oK];simp only[eO,jo,if_false];have:=Wx P G (whole P G aI) ops ops.size 0 M e h;rw[gw]at this;rw[<-this,P']
def K6{R:Rec}{ops:Array Oper}(f:CV ops=V)(e:Env)(h:Heap):jZ P G R ops e h=V:=by unfold CV at f;unfold jZ;simp_all
def run_draw_c{id:Nat}{ops:Array Oper}(D:drawC P G (whole P G aI) ops e h .normal=V)(j:ck P G (whole P G aI) ops ops.toList e h (sX Q)):bC (whole P G aI) (.region id ops V) e h Q:=by
 unfold bC ck at *
 rw[oK];have:=Wx P G (whole P G aI) ops ops.size 0 M e h;rw[gw]at this;rw[<-this,<-P']at j;obtain⟨o,m,q,h2,f⟩:=j;cases o with|normal=>exact⟨_,_,_,draw_code h2 D,f⟩|_=>exact f.elim
def ON{id:Nat}{ops:Array Oper}(f:jZ P G (whole P G aI) ops e h=V)(j:ck P G (whole P G aI) ops ops.toList e h (sX Q)):bC (whole P G aI) (.region id ops V) e h Q:=run_draw_c ((nU _ _).mpr (.inl f)) j
def run_draw_stores{id:Nat}{ops:Array Oper}(D:xj P G (whole P G aI) ops e h=V)(f:ck P G (whole P G aI) ops ops.toList e h (sX Q)):bC (whole P G aI) (.region id ops V) e h Q:=run_draw_c ((nU _ _).mpr (.inr D)) f
def qT{id:Nat}{ops:Array Oper}(f:CV ops=V)(j:ck P G (whole P G aI) ops ops.toList e h (sX Q)):bC (whole P G aI) (.region id ops V) e h Q:=
 ON (K6 f e h) j
def yW(j:Nat->Env->Heap->Prop)(n:Nat)(Q:Xt->Env->Heap->Prop):Xt->Env->Heap->Prop
 | .normal,e,h=>∃f,f<n/\j f e h
 |o,e,h=>Q o e h
def akE{f:Nat->Env->Heap->Prop}{n:Nat}:yW f n Q .normal e h=∃m,m<n/\f m e h:=rfl
def akG{f:Nat->Env->Heap->Prop}{n:Nat}:yW f n Q .ret e h=Q .ret e h:=rfl
def akD{f:Nat->Env->Heap->Prop}{n i:Nat}:yW f n Q (.exit i) e h=Q (.exit i) e h:=rfl
def akF{f:Nat->Env->Heap->Prop}{n:Nat}{x:U}:yW f n Q (.panic x) e h=Q (.panic x) e h:=rfl
def b9{c:Code}(q:Nat->Env->Heap->Prop)(f:∀n e h,q n e h->bC (whole P G aI) c e h (yW q n Q)):
 ∀n e h,q n e h->bC (whole P G aI) (.loop c) e h Q:=by
 intro n
 induction n using Nat.strongRecOn with
 |_ n B=>
  intro e h z;obtain⟨o,r,s,h2,j⟩:=f n e h z;unfold bC;rw[oK];simp only[eO,h2];cases o with
  |normal=>obtain⟨C,A,m⟩:=j;exact B C A r s m
  |_=>exact⟨_,_,_,O,j⟩
def bC.mono{R:Rec}{c:Code}{f:Xt->Env->Heap->Prop}{j:Heap}(m:∀o e h,Q o e h->f o e h)(q:bC R c e j Q):bC R c e j f:=uD.mono m q
def uJ(P:bj)(G:Nat->Option (List U))(R:Rec)(fn:Func)(r:dO)(h':Heap):Xt->Env->Heap->Prop
 | .normal,e,h=>fZ P G R fn e e.defers af h=J (r,h')
 | .ret,e,h=>fZ P G R fn e e.defers af h=J (r,h')
 | .panic x,e,h=>fZ P G R fn e e.defers (J (x,ai)) h=J (r,h')
 | .exit _,_,_=>False
def cq{g:aQ}{fn:Func}{body:Code}{args:List U}{r:dO}{h':Heap}(z:aI g=af)(j:P.funcs[g]?=J fn)(s:fn.body=J body)
 (A:bC (whole P G aI) body (Env.start args af) h (uJ P G (whole P G aI) fn r h')):(whole P G aI).call g args h=J (r,h'):=by
 rw[qZ];unfold j9;rw[z];unfold oR;rw[j];simp only[s];obtain⟨o,m,q,h2,f⟩:=A;have h2:(whole P G aI).code body {tmps:={ch:=[],base:=args},defers:=[],cC:=af,round:=af} h=J (o,m,q):=h2;rw[h2];cases o with|exit i=>exact f.elim|_=>simp only[uJ]at f;simp_all
def KR{g:aQ}{fn:Func}{body:Code}{args:List U}{m m':Option (U × Bool)}{r:dO}{h':Heap}(q:P.funcs[g]?=J fn)(z:fn.body=J body)
 (A:bC (whole P G aI) body (Env.start args m) h λo e f=>uJ P G (whole P G aI) fn r h' o e f/\e.cC=m'):(whole P G aI).ii g args m h=J (r,m',h'):=by
 rw[atQ];unfold oR;rw[q];simp only[z];obtain⟨o,s,f,h2,j,B⟩:=A;have h2:(whole P G aI).code body {tmps:={ch:=[],base:=args},defers:=[],cC:=m,round:=af} h=J (o,s,f):=h2;rw[h2];cases o with|exit i=>exact j.elim|_=>simp only[uJ]at j;simp_all
def afN{R:Rec}{fn:Func}{r:dO}{h':Heap}:uJ P G R fn r h' .normal e h=(fZ P G R fn e e.defers af h=J (r,h')):=rfl
def afP{R:Rec}{fn:Func}{r:dO}{h':Heap}:uJ P G R fn r h' .ret e h=(fZ P G R fn e e.defers af h=J (r,h')):=rfl
def afO{R:Rec}{fn:Func}{r:dO}{h':Heap}{x:U}:uJ P G R fn r h' (.panic x) e h=(fZ P G R fn e e.defers (J (x,ai)) h=J (r,h')):=rfl
def atx{R:Rec}{fn:Func}:fZ P G R fn e [] af h=(Ex P G fn e h).map λx=>(.ret x,h):=rfl
def aty{R:Rec}{fn:Func}{x:U}{b:Bool}:fZ P G R fn e [] (J (x,b)) h=J (.panic x,h):=rfl
section
variable {R:Rec} {ops:Array Oper} {rest:List Oper} {d:Option Tmp} {ty:aC} {pos:String} {Y:Array Edge}
def aql:ck P G R ops [] e h Q=Q .normal e h:=rL
def aqk{m:Op}{j:Nat}{f:Bool}:ck P G R ops (⟨d,m,ty,pos,Y,J (j,f)⟩::rest) e h Q=
 J8 P G R ops ⟨d,m,ty,pos,Y,af⟩ rest e h Q f (guardOf ops j):=by
 unfold ck guardOf J8 lY ck;simp only[opsL,et];cases (ops[j]?).bind (·.dst) with
 |none=>rfl|some g=>
  simp only;generalize e.get g=x;rcases x with _|v|_|_|_|cs|_|_|_|_|_
  case v=>
   cases v with
   |bool b=>
    simp only;by_cases q:b=f
    .subst q;simp only[beq_self_eq_true,if_true];rfl
    grind
   |_=>simp only[pu]
  case tuple=>cases cs<;>simp only[pu]
  all_goals (simp only[pu])
def after(P:bj)(G:Nat->Option (List U))(R:Rec)(ops:Array Oper)(rest:List Oper)(d:Option Tmp)(e:Env)(Q:Xt->Env->Heap->Prop):Option (U × Heap)->Prop
 |some (x,h)=>ck P G R ops rest (e.put d x) h Q
 |none=>False
def abL{x:U}:after P G R ops rest d e Q (J (x,h))=ck P G R ops rest (e.put d x) h Q:=rfl
def opsOf(o:Op):Bool:=
 match o with
 | .call _| .defer _| .panic _=>ai
 |_=>V
def jL{f:Op}(m:opsOf f=V):ck P G R ops (⟨d,f,ty,pos,Y,af⟩::rest) e h Q=after P G R ops rest d e Q (di P G e.eval h f):=by
 unfold ck;simp only[opsL,et];have j:dF P G R e h ⟨d,f,ty,pos,Y,af⟩=(di P G e.eval h f).map λ(x,h)=>(.ret x,e,h):=by cases f<;>first|rfl|(simp[opsOf]at m)
 rw[j];cases di P G e.eval h f with|none=>simp only[Fy,pu];rfl|some r=>obtain⟨x,q⟩:=r;rfl
def Kd(P:bj)(G:Nat->Option (List U))(R:Rec)(ops:Array Oper)(rest:List Oper)(d:Option Tmp)(e:Env)(Q:Xt->Env->Heap->Prop):Option (dO × Heap)->Prop
 |some (.ret x,h)=>ck P G R ops rest (e.put d x) h Q
 |some (.panic x,h)=>Q (.panic x) e h
 |none=>False
def abK{x:U}:Kd P G R ops rest d e Q (J (.ret x,h))=ck P G R ops rest (e.put d x) h Q:=rfl
def abJ{x:U}:Kd P G R ops rest d e Q (J (.panic x,h))=Q (.panic x) e h:=rfl
def aqo{f:bP}{args:Array bP}{ts:Array aC}:ck P G R ops (⟨d,.call {callee:=.value f,args,argTypes:=ts},ty,pos,Y,af⟩::rest) e h Q=
 Kd P G R ops rest d e Q (jE P R e h {callee:=.value f,args,argTypes:=ts}):=by
 unfold ck;simp only[opsL,et,dF];cases jE P R e h {callee:=.value f,args,argTypes:=ts} with|none=>simp only[Fy,pu];rfl|some m=>obtain⟨q,j⟩:=m;cases q<;>simp only[fk,rL]<;>rfl
def Rv{g:aQ}{args:Array bP}{ts:Array aC}:jE P R e h {callee:=.value (.func g),args,argTypes:=ts}=R.call g (args.toList.map e.eval) h:=by simp[jE,eval_func]
def Rw{t:Nat}{args:Array bP}{ts:Array aC}:jE P R e h {callee:=.value (.tmp t),args,argTypes:=ts}=
 (match e.get t with
  | .func (.func g) first aR=>R.call g (first++args.toList.map e.eval++aR) h
  | .yield l=>R.round l (args.toList.map e.eval) h
  |_=>af):=rfl
def WU:Builtin->Bool
 | .recover| .panic| .append=>ai
 |_=>V
def EK{b:Builtin}{args:Array bP}{ts:Array aC}(j:WU b=V):ck P G R ops (⟨d,.call {callee:=.builtin b,args,argTypes:=ts},ty,pos,Y,af⟩::rest) e h Q=
 after P G R ops rest d e Q (ia P h b ts ty (args.toList.map e.eval)):=by
 unfold ck;simp only[opsL,et];have f:dF P G R e h ⟨d,.call {callee:=.builtin b,args,argTypes:=ts},ty,pos,Y,af⟩=(ia P h b ts ty (args.toList.map e.eval)).map λ(x,h)=>(.ret x,e,h):=by cases b<;>first|rfl|(simp[WU]at j)
 rw[f];cases ia P h b ts ty (args.toList.map e.eval) with|none=>simp only[Fy,pu];rfl|some q=>obtain⟨x,m⟩:=q;rfl
def aoI(x:bP):ck P G R ops (⟨d,.move x,ty,pos,Y,af⟩::rest) e h Q=after P G R ops rest d e Q (di P G e.eval h (.move x)):=jL rfl
def aon(x:bP):ck P G R ops (⟨d,.assign x,ty,pos,Y,af⟩::rest) e h Q=after P G R ops rest d e Q (di P G e.eval h (.assign x)):=jL rfl
def aoK(c a b:bP):ck P G R ops (⟨d,.pick c a b,ty,pos,Y,af⟩::rest) e h Q=after P G R ops rest d e Q (di P G e.eval h (.pick c a b)):=jL rfl
def aol(t:aC):ck P G R ops (⟨d,.alloc t,ty,pos,Y,af⟩::rest) e h Q=after P G R ops rest d e Q (di P G e.eval h (.alloc t)):=jL rfl
def aop(t:aC)(x:bP):ck P G R ops (⟨d,.box t x,ty,pos,Y,af⟩::rest) e h Q=after P G R ops rest d e Q (di P G e.eval h (.box t x)):=jL rfl
def aoq(t:aC)(ps:Array (Nat × bP)):ck P G R ops (⟨d,.build t ps,ty,pos,Y,af⟩::rest) e h Q=after P G R ops rest d e Q (di P G e.eval h (.build t ps)):=jL rfl
def aor(t:aC)(n:Nat)(ps:Array (Nat × bP)):ck P G R ops (⟨d,.buildSlice t n ps,ty,pos,Y,af⟩::rest) e h Q=after P G R ops rest d e Q (di P G e.eval h (.buildSlice t n ps)):=jL rfl
def aoC(t:aC)(a:bP):ck P G R ops (⟨d,.load t a,ty,pos,Y,af⟩::rest) e h Q=after P G R ops rest d e Q (di P G e.eval h (.load t a)):=jL rfl
def aoN(t:aC)(a x:bP):ck P G R ops (⟨d,.store t a x,ty,pos,Y,af⟩::rest) e h Q=after P G R ops rest d e Q (di P G e.eval h (.store t a x)):=jL rfl
def aoJ(x:bP):ck P G R ops (⟨d,.nilCheck x,ty,pos,Y,af⟩::rest) e h Q=after P G R ops rest d e Q (di P G e.eval h (.nilCheck x)):=jL rfl
def aoo(o:BinOp)(t:aC)(x y:bP)(f:aC):ck P G R ops (⟨d,.binOp o t x y f,ty,pos,Y,af⟩::rest) e h Q=after P G R ops rest d e Q (di P G e.eval h (.binOp o t x y f)):=jL rfl
def aoP(o:UnOp)(t:aC)(x:bP):ck P G R ops (⟨d,.unOp o t x,ty,pos,Y,af⟩::rest) e h Q=after P G R ops rest d e Q (di P G e.eval h (.unOp o t x)):=jL rfl
def aot(s t:aC)(x:bP):ck P G R ops (⟨d,.convert s t x,ty,pos,Y,af⟩::rest) e h Q=after P G R ops rest d e Q (di P G e.eval h (.convert s t x)):=jL rfl
def aoE(t:aC)(x:bP):ck P G R ops (⟨d,.makeInterface t x,ty,pos,Y,af⟩::rest) e h Q=after P G R ops rest d e Q (di P G e.eval h (.makeInterface t x)):=jL rfl
def aoD(fn:Fn)(first aR:Array bP):ck P G R ops (⟨d,.makeFunc fn first aR,ty,pos,Y,af⟩::rest) e h Q=after P G R ops rest d e Q (di P G e.eval h (.makeFunc fn first aR)):=jL rfl
def aoF(t:aC)(l c:bP):ck P G R ops (⟨d,.makeSlice t l c,ty,pos,Y,af⟩::rest) e h Q=after P G R ops rest d e Q (di P G e.eval h (.makeSlice t l c)):=jL rfl
def aoM(t:aC)(x:bP)(lo hi mx:Option bP):ck P G R ops (⟨d,.slice t x lo hi mx,ty,pos,Y,af⟩::rest) e h Q=after P G R ops rest d e Q (di P G e.eval h (.slice t x lo hi mx)):=jL rfl
def aoy(t:aC)(x:bP)(f:Nat):ck P G R ops (⟨d,.fieldAddr t x f,ty,pos,Y,af⟩::rest) e h Q=after P G R ops rest d e Q (di P G e.eval h (.fieldAddr t x f)):=jL rfl
def aox(t:aC)(x:bP)(f:Nat):ck P G R ops (⟨d,.field t x f,ty,pos,Y,af⟩::rest) e h Q=after P G R ops rest d e Q (di P G e.eval h (.field t x f)):=jL rfl
def aoA(t:aC)(x i:bP):ck P G R ops (⟨d,.indexAddr t x i,ty,pos,Y,af⟩::rest) e h Q=after P G R ops rest d e Q (di P G e.eval h (.indexAddr t x i)):=jL rfl
def aoz(t:aC)(x i:bP):ck P G R ops (⟨d,.index t x i,ty,pos,Y,af⟩::rest) e h Q=after P G R ops rest d e Q (di P G e.eval h (.index t x i)):=jL rfl
def aoO(x:bP)(xt t:aC)(ok:Bool):ck P G R ops (⟨d,.typeAssert x xt t ok,ty,pos,Y,af⟩::rest) e h Q=after P G R ops rest d e Q (di P G e.eval h (.typeAssert x xt t ok)):=jL rfl
def aow(x:bP)(i:Nat):ck P G R ops (⟨d,.extract x i,ty,pos,Y,af⟩::rest) e h Q=after P G R ops rest d e Q (di P G e.eval h (.extract x i)):=jL rfl
def aoB(args:Array bP)(ts:Array aC):ck P G R ops (⟨d,.call {callee:=.builtin .len,args,argTypes:=ts},ty,pos,Y,af⟩::rest) e h Q=after P G R ops rest d e Q (ia P h .len ts ty (args.toList.map e.eval)):=EK rfl
def aos(args:Array bP)(ts:Array aC):ck P G R ops (⟨d,.call {callee:=.builtin .cap,args,argTypes:=ts},ty,pos,Y,af⟩::rest) e h Q=after P G R ops rest d e Q (ia P h .cap ts ty (args.toList.map e.eval)):=EK rfl
def aom(args:Array bP)(ts:Array aC):ck P G R ops (⟨d,.call {callee:=.builtin .append,args,argTypes:=ts},ty,pos,Y,af⟩::rest) e h Q=after P G R ops rest d e Q (oU P G d h .append ts ty (args.toList.map e.eval)):=by
 unfold ck;simp only[opsL,et];have f:dF P G R e h ⟨d,.call {callee:=.builtin .append,args,argTypes:=ts},ty,pos,Y,af⟩=(oU P G d h .append ts ty (args.toList.map e.eval)).map λ(x,h)=>(.ret x,e,h):=rfl;rw[f];cases oU P G d h .append ts ty (args.toList.map e.eval) with|none=>simp only[Fy,pu];rfl|some m=>obtain⟨x,j⟩:=m;rfl
def aou(args:Array bP)(ts:Array aC):ck P G R ops (⟨d,.call {callee:=.builtin .copy,args,argTypes:=ts},ty,pos,Y,af⟩::rest) e h Q=after P G R ops rest d e Q (ia P h .copy ts ty (args.toList.map e.eval)):=EK rfl
def aoH(args:Array bP)(ts:Array aC):ck P G R ops (⟨d,.call {callee:=.builtin .min,args,argTypes:=ts},ty,pos,Y,af⟩::rest) e h Q=after P G R ops rest d e Q (ia P h .min ts ty (args.toList.map e.eval)):=EK rfl
def aoG(args:Array bP)(ts:Array aC):ck P G R ops (⟨d,.call {callee:=.builtin .max,args,argTypes:=ts},ty,pos,Y,af⟩::rest) e h Q=after P G R ops rest d e Q (ia P h .max ts ty (args.toList.map e.eval)):=EK rfl
def aqm{x:bP}:ck P G R ops (⟨d,.panic x,ty,pos,Y,af⟩::rest) e h Q=(match e.eval x with| .iface t y=>Q (.panic (.iface t y)) e h|_=>False):=by unfold ck;simp only[opsL,et,dF];generalize e.eval x=y;cases y<;>first|exact rL|exact pu
def aqn{args:Array bP}{ts:Array aC}(f:e.round=af):ck P G R ops (⟨d,.call {callee:=.builtin .recover,args,argTypes:=ts},ty,pos,Y,af⟩::rest) e h Q=
 (match e.cC with
  |some (x,ai)=>ck P G R ops rest (({e with cC:=J (x,V)}:Env).put d x) h Q
  |_=>ck P G R ops rest (e.put d (.v .nilIface)) h Q):=by
 unfold ck;simp only[opsL,et,dF,f,Fx,jo,if_false]
 grind
def aqj{f:bP}{args:Array bP}{ts:Array aC}(q:e.round=af):ck P G R ops (⟨d,.defer {callee:=.value f,args,argTypes:=ts},ty,pos,Y,af⟩::rest) e h Q=
 (match e.eval f with
  | .func (.func g) first aR=>ck P G R ops rest (({e with defers:=(g,first++args.toList.map e.eval++aR)::e.defers}:Env).put d (.tuple [])) h Q
  |_=>False):=by
 unfold ck;simp only[opsL,et,dF,q,Fx,jo,if_false];generalize e.eval f=y;rcases y with _|_|_|_|_|_|_|_|⟨j,a,b⟩|_|_
 case func=>cases j<;>first|rfl|exact pu
 all_goals exact pu
end
end
end Go.AE
end
section
namespace Go.AE
def bs(l:List UInt8):ByteArray:=⟨l.toArray⟩
def str(l:List UInt8):U:=.v (.string (bs l))
def int(n:Int):U:=.v (.int .i64 n)
def bool(b:Bool):U:=.v (.bool b)
def adz(l):ByteArray.mk l.toArray=bs l:=rfl
def xL(l):(bs l).size=F l:=rfl
def ady(a b):bs a++bs b=bs (a++b):=by apply ByteArray.ext;rw[ByteArray.data_append];simp[bs]
def KB(l)(i j):(bs l).extract i j=bs ((l.take j).drop i):=by apply ByteArray.ext;rw[ByteArray.data_extract];simp[bs,List.extract_eq_take_drop,JE]
def gg{α q}{P}(m)(f:α->Sem q):cV P (m>>=f)=(cV P m).bind λa=>cV P (f a):=by
 show cV P (m.bind f)=_
 induction m with
 |pure a=>rfl|program k j=>simp only[Sem.bind,cV];grind
 |mark m k j=>simp only[Sem.bind,cV];exact j|_=>rfl
section
variable {P:bj} {t:aC} {x y:bP} {k:qk} {a b:Int}
def oP{f:BinOp}{v:aG}(h:cV P (binOp f t (.int k a) (.int k b))=J v):cy P f t x y (.v (.int k a)) (.v (.int k b))=iU v:=by
 have j:cV P (eqGuard f t x y (.int k a) (.int k b))=J ():=by cases f<;>rfl
 show(cV P (do eqGuard f t x y (.int k a) (.int k b);binOp f t (.int k a) (.int k b))).bind iU=_;rw[gg,j];simp_all
def Rb:cy P .add t x y (.v (.int k a)) (.v (.int k b))=J (.v (.int k (k.wrap (a+b)))):=oP (v:=.int k (k.wrap (a+b))) (by simp[binOp,Op.intArith];rfl)
def ac1:cy P .sub t x y (.v (.int k a)) (.v (.int k b))=J (.v (.int k (k.wrap (a-b)))):=oP (v:=.int k (k.wrap (a-b))) (by simp[binOp,Op.intArith];rfl)
def acU:cy P .mul t x y (.v (.int k a)) (.v (.int k b))=J (.v (.int k (k.wrap (a*b)))):=oP (v:=.int k (k.wrap (a*b))) (by simp[binOp,Op.intArith];rfl)
def acW(h:b≠0):cy P .quo t x y (.v (.int k a)) (.v (.int k b))=J (.v (.int k (k.wrap (a.tdiv b)))):=oP (v:=.int k (k.wrap (a.tdiv b))) (by simp[binOp,Op.intDiv,h];rfl)
def acY(h:b≠0):cy P .rem t x y (.v (.int k a)) (.v (.int k b))=J (.v (.int k (a.tmod b))):=oP (v:=.int k (a.tmod b)) (by simp[binOp,Op.intDiv,h];rfl)
def acO:cy P .eql t x y (.v (.int k a)) (.v (.int k b))=J (.v (.bool (decide (a=b)))):=oP (v:=.bool (decide (a=b))) (by
 have:(a==b)=decide (a=b):=by rw[Jj];simp
 simp[binOp,Op.intCmp,this];rfl)
def acV:cy P .neq t x y (.v (.int k a)) (.v (.int k b))=J (.v (.bool (!decide (a=b)))):=oP (v:=.bool (!decide (a=b))) (by
 have:(a !=b)= !decide (a=b):=by rw[Jj];simp
 simp[binOp,Op.intCmp,this];rfl)
def acT:cy P .lss t x y (.v (.int k a)) (.v (.int k b))=J (.v (.bool (decide (a<b)))):=oP (v:=.bool (decide (a<b))) (by simp[binOp,Op.intCmp];rfl)
def acS:cy P .leq t x y (.v (.int k a)) (.v (.int k b))=J (.v (.bool (decide (a<=b)))):=oP (v:=.bool (decide (a<=b))) (by simp[binOp,Op.intCmp];rfl)
def acQ:cy P .gtr t x y (.v (.int k a)) (.v (.int k b))=J (.v (.bool (decide (b<a)))):=oP (v:=.bool (decide (b<a))) (by simp[binOp,Op.intCmp];rfl)
def acP:cy P .geq t x y (.v (.int k a)) (.v (.int k b))=J (.v (.bool (decide (b<=a)))):=oP (v:=.bool (decide (b<=a))) (by simp[binOp,Op.intCmp];rfl)
def acZ{p q:List UInt8}:cy P .eql t x y (.v (.string (bs p))) (.v (.string (bs q)))=J (.v (.bool (decide (p=q)))):=by
 show J (U.v (.bool (p==q)))=_
 grind
def ac0{p q:List UInt8}:cy P .neq t x y (.v (.string (bs p))) (.v (.string (bs q)))=J (.v (.bool (!decide (p=q)))):=by
 show J (U.v (.bool (!(p==q))))=_
 grind
def Rd{p q:List UInt8}(h:F p+F q<=9223372036854775807):cy P .add t x y (.v (.string (bs p))) (.v (.string (bs q)))=J (.v (.string (bs (p++q)))):=by show(if (bs p).size+(bs q).size<=9223372036854775807 then J (U.v (.string (bs p++bs q))) else af)=_;rw[xL,xL,av h,ady]
def ats{c:Bool}:E4 P .not (.v (.bool c))=J (.v (.bool (!c))):=rfl
def atr:E4 P .neg (.v (.int k a))=J (.v (.int k (k.wrap (0-a)))):=rfl
def VP{s:ByteArray}(f:P.underlying t=J .string):dK P t (.v (.string s))=J (.v (.int .i64 s.size)):=by unfold dK;rw[f]
def Nn{e:aC}{j:Tok}{sz:Nat}{es:List (List U)}(f:P.underlying t=J (.slice e)):dK P t (.list j sz es)=J (.v (.int .i64 (F es))):=by unfold dK;rw[f]
def Nm{e:aC}{b o l c:Nat}(f:P.underlying t=J (.slice e)):dK P t (.arr b o l c)=J (.v (.int .i64 l)):=by unfold dK;rw[f]
def aiZ{l:List UInt8}(m:P.underlying t=J .string)(j:0<=a)(q:a<F l):yL P t (.v (.string (bs l))) (.v (.int k a))=J (.v (.int .u8 (l.getD a.toNat 0).toNat)):=by
 unfold yL;rw[m];have f:a.toNat<F l:=by omega
 simp only[av j,bs,iG,aN f]
 grind
def aml{c}{u v}:HQ (.v (.bool c)) u v=J (if c=V then u else v):=by cases c<;>rfl
def ja(f: -9223372036854775808<=a)(j:a<=9223372036854775807):IntKind.i64.wrap a=a:=by rw[IntKind.wrap_i64];omega
def K7(f:0<=a)(j:a<=255):IntKind.u8.wrap a=a:=by rw[IntKind.wrap_u8];omega
end
end Go.AE
end
section
namespace Go.AE
open Go.RowKit (Below)
def aW.init(W:bO):aW:={base:=W.heap.size,ic:=λg f=>W.cell? ⟨g,f,af⟩,β:=[],γ:=[],tn:=0,tk:=λ_=>(0,0,0),md:=[],lb:=λ_=>af}
def Heap.init:Heap:=⟨[],[],0,[]⟩
def ars{G}{ok}(W)(q:∀g cs,G g=J cs->∃cells,aH (aW.init W) cs cells/\∀(j:Nat) (c:aG),cells[j]?=J c->W.cell? ⟨g,j,af⟩=J c):
 bJ (aW.init W) G ok W Heap.init W:=by
 refine⟨.refl _ _,aV _,λg j c h=>h,q,O,λb m g h=>?_,λb g cs h=>?_,O,λb m g h=>?_,λl g s h=>?_,O,λt f=>?_,λt z f=>?_,λs r=>?_,O⟩
 .simp[aW.init]at h
 .simp[aW.init]at h
 .simp[aW.init]at h
 .simp[aW.init]at h
 .simp[alive,Heap.init]at f
 .simp[alive,Heap.init]at f
 .simp[aW.init]at r
def zw(P:bj):Nat->List Field->Nat->Bool
 |off,[],f=>gX off f
 |off,m::j,f=>gX m.offset off&&zw P (off+P.cellsOf m.type) j f
def HJ(P:bj):Nat->aC->Bool
 |0,_=>ai
 |n+1,t=>
  match P.underlying t with
  |some .bool|some (.int _)|some .string=>V
  |some (.slice e)=>HJ P n e&&decide (0<P.cellsOf e)
  |some (.struct f)=>zw P 0 f.toList (P.cellsOf t)&&f.toList.all λj=>HJ P n j.type
  |some (.array m e)=>gX (P.cellsOf t) (m*P.cellsOf e)&&HJ P n e
  |_=>ai
inductive Has {H:Type} (P:bj):aC->List U->DataW H->Prop
 |bool {t:aC} (hu:P.underlying t=J .bool) (b:Bool):Has P t [.v (.bool b)] (.lit (.bool b))
 |int {t:aC} {k:qk} (hu:P.underlying t=J (.int k)) (n:Int) (hn:(Lit.int k n).wf=V):Has P t [.v (.int k n)] (.lit (.int k n))
 |str {t:aC} (hu:P.underlying t=J .string) (s:ByteArray) (hs:s.size<=maxLen):Has P t [.v (.string s)] (.lit (.string s.data.toList))
 |none {t e:aC} (hu:P.underlying t=J (.slice e)):Has P t [.list .nil (P.cellsOf e) []] .nil
 |list {t e:aC} (hu:P.underlying t=J (.slice e)) (k:Tok) (es:List (List U)) (ds sp:List (DataW H)) (hk:k=.held∨(k=.tight/\es=[])) (hl:es.length<=maxLen) (hd:ds.length=es.length)
  (he:∀(i:Nat) (r:List U) (d:DataW H),es[i]?=J r->ds[i]?=J d->Has P e r d) (hs:∀r∈es,r.length=P.cellsOf e):Has P t [.list k (P.cellsOf e) es] (.slice ds sp)
 |struct {t:aC} {fs:Array Field} (hu:P.underlying t=J (.struct fs)) (xs:List U) (ds:List (DataW H)) (hl:xs.length=P.cellsOf t) (hd:ds.length=fs.size)
  (hf:∀(i:Nat) (f:Field) (d:DataW H),fs[i]?=J f->ds[i]?=J d->Has P f.type ((xs.drop f.offset).take (P.cellsOf f.type)) d):Has P t xs (.agg ds)
 |array {t e:aC} {n:Nat} (hu:P.underlying t=J (.array n e)) (xs:List U) (ds:List (DataW H)) (hl:xs.length=P.cellsOf t) (hd:ds.length=n)
  (he:∀(i:Nat) (d:DataW H),ds[i]?=J d->Has P e ((xs.drop (i * P.cellsOf e)).take (P.cellsOf e)) d):Has P t xs (.agg ds)
section
variable {H:Type} {Z:aC × aG->H} {P:bj} {W:bO}
def RQ{a:Addr}{n:Nat}{vs:List aG}(h:W.cells? 0 a n=J vs):F vs=n/\∀j,j<n->W.cell? (a.add j)=vs[j]?:=by unfold World.cells? at h;rw[av (bV _)]at h;refine⟨by simpa using mapM_some_length h,λj f=>mapM_some_get h j j (by grind)⟩
def arL{a:Addr}{v:aG}(h:W.cell? a=J v):a.spot=af:=by unfold World.cell? at h;split at h<;>simp_all
def agl{α:Type}{sz}:∀{es:List (List α)},(∀r∈es,F r=sz)->∀(i j:Nat),j<sz->es.flatten[i*sz+j]?=(es[i]?).bind (·[j]?):=by
 intro es
 induction es with
 |nil=>simp_all|cons r es s=>
  intro m i j q;have f:F r=sz:=m r gx;cases i with
  |zero=>grind
  |succ i=>rw[jA,v_ (by grind),f];have:(i+1)*sz+j-sz=i*sz+j:=(by rw[jh];omega);simp_all
end
end Go.AE
end
section
namespace Go.AE
open Go.RowKit Go.WideShapes Go.ChangeShapes
def jg{H:Type}(P:bj)(t:aC)(x:U)(d:DataW H):Prop:=
 match P.underlying t with
 |some (.struct _)|some (.array _ _)=>∃cs,x=.agg cs/\Has P t cs d
 |_=>Has P t [x] d
def ql{H:Type}(P:bj):List aC->List U->List (DataW H)->Prop
 | [],[],[]=>True
 |t::ts,x::xs,d::f=>jg P t x d/\ql P ts xs f
 |_,_,_=>False
section
variable {H:Type} {Z:aC × aG->H} {P:bj} {W:bO}
def ace(B:laidOutB P=V){r:bO}{z:Nat->Bool}:∀{ts:List aC} {vs:List aG} {j:List (DataW H)} {p:List MemPlace},DataW.TrodAll Z P W 0 (λ_=>V) V ts vs j p->
 (∀t∈ts,P.readableRec t=true/\t<P.types.size)->(∀x∈p,W.sameAt r x)->(∀x∈p,z x.block=true)->DataW.TrodAll Z P r 0 z true ts vs j p:=by
 intro ts
 induction ts with
 |nil=>intro vs j p h _ _ _;obtain⟨rfl,rfl,rfl⟩:=trodAll_nil h;exact trodAll_mk0
 |cons t ts D=>
  intro vs j p h q s m;obtain⟨v,N,d,E,S,T,rfl,rfl,rfl,A,h2⟩:=trodAll_cons h;exact trodAll_cons_mk (WideElems.Trod_stays B (q t gx).1 (q t gx).2 A (λx f=>s x (JK _ f)) (λx f=>m x (JK _ f)))
   (D h2 (λt C=>q t (gj _ C)) (λx f=>s x (aar _ f)) (λx f=>m x (aar _ f)))
def amI{f:Func}{s:ChangeSpec}{apart fresh C T:Bool}{W B:bO}{args:Array aG}{v:aG}{E N:List (DataW H)}{m pa pv:List MemPlace}
 (Y:DataW.Whole Z P f.params.toList s.vars apart W args.toList E N m)
 (S:∀(b:Nat) (q:Nat->Bool) (hd:Bool),DataW.TrodAll Z P B b q hd f.resultTypes.toList (v.resultList f.resultTypes.size) (s.fn H (E++N)).results [])
 (z:∀q:Nat->Bool,(∀p∈m,q p.block=V)->DataW.TrodAll Z P B 0 q V f.params.toList args.toList (s.fn H (E++N)).args pa)
 (A:∀q:Nat->Bool,(∀p∈m,q p.block=V)->DataW.TrodVars Z P B q s.vars (s.fn H (E++N)).vars pv)
 (AO:m=pa++pv) (hb:Below W.heap.size W B)
 (fJ:∀(j:Nat) (t:aC) (r:aG),f.resultTypes[j]?=J t->(v.resultList f.resultTypes.size)[j]?=J r->Value.okWide P B .any 0 t r):
 s.post Z P f apart fresh C T W args v B:=by
 have dj:∀p∈m,p.block<W.heap.size:=λp D=>Y.lt p D;have hold:∀p∈m,(λb=>decide (b<W.heap.size)) p.block=V:=λp D=>by simp_all
 refine⟨E,N,m,[],pa,pv,Y,S _ _ _,z _ hold,A _ hold,World.keptBut_mono (λp D=>⟨D,?_⟩) (hb.frame (·∈m)),λ_=>?_⟩
 .simp_all
 .obtain⟨_,_,_,_,_,hz,hn⟩:=Y;refine⟨fJ,_,_,([]++pa)++pv,⟨[]++pa,pv,trodAll_append (z _ (λ_ _=>rfl)) (S _ _ _),A _ (λ_ _=>rfl),O,?_,?_⟩,?_⟩
  .intro b off D;have X:MemPlace.cell b off∈m:=(by rw[AO];simpa using D);rw[hb.frozen (dj _ X)];exact hz b off X
  .simp_all
  simp_all
structure auv(P:bj)(f:aQ)(fn:Func)(tb:aC):Prop where
 func:P.funcs[f]?=J fn
 laid:laidOutB P=V
 Pl:∀t∈fn.params.toList,HJ P 9 t=V/\P.readableRec t=V/\t<P.types.size
 res:fn.resultTypes=#[tb]
 bool:P.underlying tb=J .bool
variable {G:Nat->Option (List U)} {aI:aQ->Option (List U->Heap->Option (U × Heap))}
end
end Go.AE
end
section
namespace Go.AE
open Go.RowKit (Below)
section
variable {K:aW} {G:Nat->Option (List U)} {ok:aQ->Nat->Code->Bool} {w0 w w':bO} {h:Heap}
def bJ.grown(s:bJ K G ok w0 h w)(f:Below w.heap.size w w'):bJ K G ok w0 h w':=by
 have j:∀{k:Nat} {o:Obj},w.heap[k]?=J o->w'.heap[k]?=J o:=λj=>(f.block _ (od j)).trans j;refine⟨s.fD.trans (f.mono s.size),eS s.size f.size,λg Z c C=>?_,s.dB,s.iD,s.mV,λb g cs B T=>?_,s.lV,s.nT,λl g D A m=>?_,s.tn,λt Y=>?_,s.nw,λD m=>?_,s.all⟩
 .rw[<-s.ic g Z c C];exact World.cell?_of_block (w:=w) (f.block g (s.tX C))
 .obtain⟨q,h2,ha,cells,e,r,z⟩:=s.box b g cs B T;simp_all
 .obtain⟨q,fn,tmps,d,h2,r⟩:=s.loop l g D A m
  grind
 .obtain⟨q,h2,r,cells,e,E,z,N,S⟩:=s.tok t Y;refine⟨q,h2,r,cells,e,E,j z,N,λZ X A=>?_⟩;rw[<-S Z X A];exact World.frozen?_of_block (w:=w) (f.block _ (od z))
 .exact⟨(s.md D m).1,j (s.md D m).2⟩
end
end Go.AE
end
section
namespace Go.AE
def Heap.push(h:Heap)(cs:List U):Heap:={h with boxes:=h.boxes++[cs]}
def Heap.put(h:Heap)(b:Nat)(cs:List U):Heap:={h with boxes:=h.boxes.set b cs}
def a_(h:Heap)(cs):h.box cs=(.ptr (.box (F h.boxes)) 0,h.push cs):=rfl
def bF(h:Heap)(cs):F (h.push cs).boxes=F h.boxes+1:=by simp[Heap.push]
def aK(h:Heap)(cs):(h.push cs).boxes[h.boxes.length]?=J cs:=by simp[Heap.push]
def aM{h:Heap}{cs f}{b:Nat}(j:h.boxes[b]?=J f):(h.push cs).boxes[b]?=J f:=C8 j
def dn{h:Heap}{cs}{b}(f:b<F h.boxes):(h.put b cs).boxes[b]?=J cs:=by simp[Heap.put,f]
def cr{h:Heap}{cs}{b c}(f:c≠b):(h.put b cs).boxes[c]?=h.boxes[c]?:=by simp[Heap.put,kQ,Ne.symm f]
def jd(h:Heap)(b)(cs):F (h.put b cs).boxes=F h.boxes:=by simp[Heap.put]
def c_(h:Heap):Bool:=h.dead.all λn=>decide (n<h.tn)
structure Ext(h h':Heap):Prop where
 box:∀(b:Nat) (cs:List U),h.boxes[b]?=J cs->h'.boxes[b]?=J cs
 loop:∀(l:Nat) (r:gM),h.loops[l]?=J r->h'.loops[l]?=J r
 tn:h.tn<=h'.tn
 dead:∀n,n<h.tn->n∈h'.dead->n∈h.dead
 ok:c_ h=V->c_ h'=V
def Ext.refl(h):Ext h h:=⟨λ_ _ h=>h,λ_ _ h=>h,aV _,λ_ _ h=>h,λh=>h⟩
def Ext.trans{a b c}(h:Ext a b)(k:Ext b c):Ext a c:=
 ⟨λi cs j=>k.box i cs (h.box i cs j),λl s q=>k.loop l s (h.loop l s q),eS h.tn k.tn,λn f m=>h.dead n f (k.dead n (l_ f h.tn) m),λr=>k.ok (h.ok r)⟩
def Ext.push(h)(cs):Ext h (h.push cs):=⟨λ_ _ f=>aM f,λ_ _ h=>h,aV _,λ_ _ h=>h,λh=>h⟩
def Ext.fresh(h)(sz)(es):Ext h (h.fresh sz es).2:=⟨λ_ _ f=>f,λ_ _ h=>h,Nat.le_succ _,λ_ _ h=>h,λj=>by
 unfold c_ at *
 simp only[Heap.fresh,eF,decide_eq_true_eq]at *
 grind⟩
def Ext.alive{h h'}(x:Ext h h'){n}(f:alive h n=V):alive h' n=V:=by
 unfold AE.alive at *
 simp only[bm,decide_eq_true_eq,Ca,v9,decide_eq_false_iff_not]at *
 exact⟨l_ f.1 x.tn,λj=>f.2 (x.dead n f.1 j)⟩
def Ext.len{h h'}(x:Ext h h'):F h.boxes<=F h'.boxes:=by
 rcases dp (F h'.boxes) (F h.boxes) with f|j
 .have m:=x.box (F h'.boxes) _ (aN f);simp_all
 omega
noncomputable def GB(R:Rec)(g:aQ)(args:List U)(h:Heap):Heap:=
 match R.call g args h with
 |some (_,h')=>h'
 |none=>h
def T9{R}{g}{args}{h h'}{r}(f:R.call g args h=J (r,h')):GB R g args h=h':=by unfold GB;rw[f]
def FA(R:Rec)(g:aQ)(args:List U)(h:Heap)(r:dO):Prop:=∃h',R.call g args h=J (r,h')/\Ext h h'
def FA.eq{R}{g}{args}{h}{r}(j:FA R g args h r):R.call g args h=J (r,GB R g args h):=by obtain⟨h',f,-⟩:=j;rw[T9 f];exact f
def FA.ext{R}{g}{args}{h}{r}(j:FA R g args h r):Ext h (GB R g args h):=by obtain⟨h',f,h2⟩:=j;rw[T9 f];exact h2
def wy(P:bj)(G:Nat->Option (List U))(R:Rec)(fn:Func)(r:dO)(Post:Heap->Prop):Xt->Env->Heap->Prop:=λo e h=>∃h',uJ P G R fn r h' o e h/\Post h'
def afQ{P}{G}{R}{fn}{r}{Post}{e}{h}:wy P G R fn r Post .normal e h=∃h',fZ P G R fn e e.defers af h=J (r,h')/\Post h':=rfl
def afS{P}{G}{R}{fn}{r}{Post}{e}{h}:wy P G R fn r Post .ret e h=∃h',fZ P G R fn e e.defers af h=J (r,h')/\Post h':=rfl
def afR{P}{G}{R}{fn}{r}{Post}{e}{h}{x}:wy P G R fn r Post (.panic x) e h=∃h',fZ P G R fn e e.defers (J (x,ai)) h=J (r,h')/\Post h':=rfl
def gy{P}{G}{aI}{g}{fn}{body}{args}{r}{h}{Post}(A:aI g=af)(f:P.funcs[g]?=J fn)(z:fn.body=J body)
 (B:bC (whole P G aI) body (Env.start args af) h (wy P G (whole P G aI) fn r Post)):∃h',(whole P G aI).call g args h=J (r,h')/\Post h':=by
 obtain⟨o,j,m,h2,h',q,s⟩:=B;exact⟨h',cq A f z ⟨o,j,m,h2,q⟩,s⟩
section
variable {P:bj} {G:Nat->Option (List U)} {h:Heap} {t:aC} {b off n:Nat} {cs:List U}
def fe(f:fx P t=J ai)(j:h.boxes[b]?=J cs):aD P G h t (.ptr (.box b) off)=(cs.drop off).head?:=by unfold aD xQ Oe;simp_all
def fC(f:fx P t=J V)(q:cB P t=J n)(j:h.boxes[b]?=J cs)(m:off+n<=F cs):aD P G h t (.ptr (.box b) off)=J (.agg ((cs.drop off).take n)):=by
 unfold aD xQ Oe
 grind
def oA{sz i:Nat}{es:List (List U)}{row:List U}(f:fx P t=J ai)(j:es[i]?=J row):aD P G h t (.elem sz es i off)=(row.drop off).head?:=by unfold aD xQ;simp_all
def D_{sz i:Nat}{es:List (List U)}{row:List U}(f:fx P t=J V)(q:cB P t=J n)(j:es[i]?=J row)(m:off+n<=F row):aD P G h t (.elem sz es i off)=J (.agg ((row.drop off).take n)):=by
 unfold aD xQ
 grind
def aT{e:aC}{k:Tok}{kk:qk}{sz:Nat}{es:List (List U)}{a:Int}(q:P.underlying t=J (.slice e))(m:cB P e=J sz)(f:0<=a)(j:a<F es):dH P t (.list k sz es) (.v (.int kk a))=J (.elem sz es a.toNat 0):=by unfold dH;simp_all
def A1{e:aC}{kk:qk}{f o l c sz:Nat}{a:Int}(r:P.underlying t=J (.slice e))(q:cB P e=J sz)(j:0<=a)(m:a<l):dH P t (.arr f o l c) (.v (.int kk a))=J (.ptr (.box f) (o+a.toNat*sz)):=by unfold dH;simp_all
def fE{x:U}{xs:List U}(r:x.bG=J xs)(q:cB P t=J n)(f:h.boxes[b]?=J cs)(m:F xs=n)(j:off+n<=F cs):bY P h t (.ptr (.box b) off) x=J (h.put b (dC cs off xs)):=by unfold bY;simp only[r,q,f];rw[av ⟨m,j⟩];rfl
def lO(h:Heap)(z cs):(h.push z).put (F h.boxes) cs=h.push cs:=by simp[Heap.push,Heap.put,Fq]
def xh{z xs}(f:F xs=F z):dC z 0 xs=xs:=by simp[dC,f]
def kL{x:U}{xs z:List U}(m:x.bG=J xs)(j:cB P t=J n)(f:F xs=n)(q:F z=n):bY P (h.push z) t (.ptr (.box (F h.boxes)) 0) x=J (h.push xs):=by rw[fE m j (aK h z) f M,xh M,lO]
end
end Go.AE
end
section
namespace Go.AE
section
variable {P:bj} {G:Nat->Option (List U)} {R:Rec}
def Wy(ops:Array Oper):∀(n i:Nat),i+n<=ops.size->∀(e:Env) (h:Heap),bW P G R ops (P_ i n) e h=opsL P G R ops ((ops.toList.drop i).take n) e h:=by
 intro n
 induction n with
 |zero=>intro i j e h;rfl|succ n q=>
  intro i j e h;have f:i<ops.size:=by omega
  have m:ops[i]?=J ops[i]:=jz f;rw[aat,ss M,List.take_succ_cons];simp only[bW,opsL,m,Zv]
  grind
def nP{ops:Array Oper}{m:Nat}(f:m<=ops.size)(e:Env)(h:Heap):bW P G R ops (bZ m) e h=opsL P G R ops (ops.toList.take m) e h:=by rw[P',Wy ops m 0 M];rfl
def Al(ops:Array Oper)(cs:List Nat)(ps:List (Nat × Nat)):Bool:=
 let b:=Region.before ops
 xH ops b&&(bZ ops.size).all λf=>(bZ f).all λi=>(b.getD f 0).testBit i||vw ops i f||ps.contains (i,f)||(nB ops i f&&(cs.contains i||cs.contains f))
def K4{ops:Array Oper}{cs:List Nat}{ps:List (Nat × Nat)}{e:Env}{h:Heap}(j:Al ops cs ps=V)(m:∀k∈cs,uH P G R ops e h k)(z:∀p∈ps,jn P G R ops e h p.1 p.2=V):jZ P G R ops e h=V:=by
 unfold Al at j;unfold jZ;simp only[bm,eF,hy,nU]at j ⊢;refine⟨j.1,λs r i q=>?_⟩;rcases j.2 s r i q with((f|f)|f)|⟨f,h2⟩
 .simp_all
 .simp_all
 .simp_all
 .exact .inr ⟨f,h2.imp (λA=>CM.2 (m i (by simp_all))) (λA=>CM.2 (m s (by simp_all)))⟩
def Ab{ops:Array Oper}{e:Env}{h:Heap}{k:Nat}{o:Oper}{c:Call}{x:U}(B:ops[k]?=J o)(m:o.op=.call c)
 (E:ck P G R ops (ops.toList.take k) e h (λq r _=>q=.normal/\∀j,jE P R r j c=J (.ret x,j)))
 (h2:ck P G R ops ops.toList e h (λq _ _=>q=.normal)):uH P G R ops e h k:=by
 have Y:k<ops.size:=(Array.getElem?_eq_some_iff.1 B).1;obtain⟨q1,r,C,z,rfl,A⟩:=E;obtain⟨q2,D,S,f1,rfl⟩:=h2;rw[<-nP M]at z;have s:bW P G R ops (bZ ops.size) e h=J (.normal,D,S):=by rw[nP (aV _),<-Array.length_toList,fB];exact f1
 obtain⟨-,T,-⟩:=trace s;refine⟨o,x,r,C,B,?_,z,λZ j=>⟨_,_,T Z j,adG m (A _)⟩⟩;have N:∀b,c.callee≠ .builtin b:=λb X=>by have:=A C;unfold jE at this;simp_all
 rw[m];obtain⟨f,args,ts⟩:=c;cases f with|builtin b=>simp_all|value z0=>rfl|invoke z1 n=>rfl
def kJ{ops:Array Oper}{e:Env}{h:Heap}{i j:Nat}{o:Oper}{t:aC}{a:bP}(s:nB ops i j=V)(A:ops[i]?=J o)(m:o.op=.load t a)(X:o.guard=af)
 (Y:(ops[j]?).map (λo=>ig o.op)=J .h_) {x v:U} (Z:cH v v=V)
 (S:ck P G R ops (ops.toList.take i) e h (λq r B=>q=.normal/\r.eval a=x/\aD P G B t x=J v))
 (h2:ck P G R ops (ops.toList.take (j+1)) e h (λq _ z=>q=.normal/\aD P G z t x=J v)):jn P G R ops e h i j=V:=by
 have hi:i<ops.size:=by
  rcases dp i ops.size with f|f
  .exact f
  .simp_all
 have hjs:j<ops.size:=by
  rcases dp j ops.size with f|f
  .exact f
  .simp_all
 have T:(ops[i]?).map (λo=>ig o.op)=J .reads:=by rw[A];simp only[fk,m];rfl
 unfold jn;rw[s,T,Y];simp only[mq];unfold nS;rw[A,nP M,nP M];obtain⟨q1,r,B,C,rfl,E,N⟩:=S;obtain⟨q2,em,z,f1,rfl,f2⟩:=h2;rw[C,f1];simp only[et,X,m,E,N,f2,Z]
def jP{ops:Array Oper}{e:Env}{h:Heap}{i j:Nat}{o:Oper}{t:aC}{a:bP}(s:nB ops i j=V)(A:ops[j]?=J o)(m:o.op=.load t a)(X:o.guard=af)
 (Y:(ops[i]?).map (λo=>ig o.op)=J .h_) {x v:U} (Z:cH v v=V)
 (S:ck P G R ops (ops.toList.take j) e h (λq r B=>q=.normal/\r.eval a=x/\aD P G B t x=J v))
 (h2:ck P G R ops (ops.toList.take i) e h (λq _ z=>q=.normal/\aD P G z t x=J v)):jn P G R ops e h i j=V:=by
 have hi:i<ops.size:=by
  rcases dp i ops.size with f|f
  .exact f
  .simp_all
 have hjs:j<ops.size:=by
  rcases dp j ops.size with f|f
  .exact f
  .simp_all
 have T:(ops[j]?).map (λo=>ig o.op)=J .reads:=by rw[A];simp only[fk,m];rfl
 unfold jn;rw[s,T,Y];simp only[mq];unfold nS;rw[A,nP M,nP M];obtain⟨q1,r,B,C,rfl,E,N⟩:=S;obtain⟨q2,em,z,f1,rfl,f2⟩:=h2;rw[C,f1];simp only[et,X,m,E,N,f2,Z]
end
section
variable {P:bj} {G:Nat->Option (List U)} {aI:aQ->Option (List U->Heap->Option (U × Heap))} {Q:Xt->Env->Heap->Prop} {e:Env} {h:Heap}
def IE{id:Nat}{ops:Array Oper}(cs:List Nat)(ps:List (Nat × Nat))(j:Al ops cs ps=V)(f:∀k∈cs,uH P G (whole P G aI) ops e h k)(q:∀p∈ps,jn P G (whole P G aI) ops e h p.1 p.2=V)
 (m:ck P G (whole P G aI) ops ops.toList e h (sX Q)):bC (whole P G aI) (.region id ops V) e h Q:=
 ON (K4 j f q) m
end
structure e8(b n0:Nat)(h h':Heap):Prop where
 box:∀(c:Nat) (cs:List U),c≠b->h.boxes[c]?=J cs->h'.boxes[c]?=J cs
 len:h.boxes.length<=h'.boxes.length
 loop:∀(l:Nat) (r:gM),h.loops[l]?=J r->h'.loops[l]?=J r
 tn:h.tn<=h'.tn
 dead:∀n,n<n0->n∈h'.dead->n∈h.dead
 ok:c_ h=V->c_ h'=V
def e8.refl(b n0)(h):e8 b n0 h h:=⟨λ_ _ _ h=>h,aV _,λ_ _ h=>h,aV _,λ_ _ h=>h,λh=>h⟩
def e8.trans{b n0}{x y z}(h:e8 b n0 x y)(k:e8 b n0 y z):e8 b n0 x z:=
 ⟨λi cs f m=>k.box i cs f (h.box i cs f m),eS h.len k.len,λl A r=>k.loop l A (h.loop l A r),eS h.tn k.tn,λn j q=>h.dead n j (k.dead n j q),λs=>k.ok (h.ok s)⟩
def e8.Ei{b n0}{h h'}(x:Ext h h')(m:n0<=h.tn):e8 b n0 h h':=
 ⟨λc cs _ j=>x.box c cs j,x.len,x.loop,x.tn,λn f h2=>x.dead n (l_ f m) h2,x.ok⟩
def e8.put(b n0)(h)(cs):e8 b n0 h (h.put b cs):=
 ⟨λc m j f=>by rw[cr j];exact f,by rw[jd];omega,λ_ _ h=>h,aV _,λ_ _ h=>h,λh=>h⟩
def Ext.mut{b}{f h h'}(x:Ext f h)(m:e8 b f.tn h h')(C:F f.boxes<=b):Ext f h':=
 ⟨λc cs j=>by have A:=(aS.1 j).1;exact m.box c cs M (x.box c cs j),λl B s=>m.loop l B (x.loop l B s),eS x.tn m.tn,λn q r=>x.dead n q (m.dead n q r),λz=>m.ok (x.ok z)⟩
def Heap.app(h:Heap)(k:Tok):Heap:=
 match k with
 | .free n=>{h with dead:=n::h.dead,tn:=h.tn+1}
 |_=>{h with tn:=h.tn+1}
def dP(h:Heap)(k):(h.app k).boxes=h.boxes:=by cases k<;>rfl
def zW(h:Heap)(k):(h.app k).loops=h.loops:=by cases k<;>rfl
def CJ(h:Heap)(k):(h.app k).tn=h.tn+1:=by cases k<;>rfl
def db(n0:Nat)(h:Heap)(k:Tok):Prop:=k=.nil∨k=.tight∨∃n,k=.free n/\n0<=n/\alive h n=V
def e8.app{b n0}{h}{k}(r:db n0 h k):e8 b n0 h (h.app k):=by
 refine⟨λc cs _ s=>by rw[dP];exact s,by rw[dP];omega,λl D z=>by rw[zW];exact z,by rw[CJ];omega,?_,?_⟩
 .rcases r with rfl|rfl|⟨C,rfl,A,m⟩
  .exact λn _ f=>f
  .exact λn _ f=>f
  .intro n f q;rcases gL.1 q with rfl|q<;>omega
 .intro B;have j:∀n∈h.dead,n<h.tn+1:=λn f=>by
   have:=eF.1 B n f
   grind
  rcases r with rfl|rfl|⟨C,rfl,A,m⟩
  .exact eF.2 λn f=>bQ (j n f)
  .exact eF.2 λn f=>bQ (j n f)
  .refine eF.2 λn f=>bQ ?_;rcases gL.1 f with rfl|f
   .unfold alive at m;simp only[bm,decide_eq_true_eq]at m;show n<h.tn+1;omega
   .exact j n f
def Ext.app{f h}{k}(x:Ext f h)(j:db f.tn h k):Ext f (h.app k):=by have m:=e8.app (b:=h.boxes.length) j;exact x.mut m x.len
def ab5{h}{k}(r:c_ h=V)(q:db 0 h k):alive (h.app k) h.tn=V:=by
 have f:h.dead.contains h.tn=ai:=by rw[ZH];intro s;have:=eF.1 r h.tn (by simp_all);simp at this
 unfold alive;rw[CJ];rcases q with rfl|rfl|⟨z,rfl,-,j⟩
 .simp only[Heap.app,f];simp
 .simp only[Heap.app,f];simp
 .unfold alive at j;simp only[bm,decide_eq_true_eq]at j;have m:¬(h.tn=z):=by omega
  have h2:¬(h.tn∈h.dead):=by simpa using f
  simp[Heap.app,m,h2]
def db.mono{n0}{h}{k}(m:db n0 h k){f}(r:f<=n0):db f h k:=by
 rcases m with rfl|rfl|⟨s,rfl,q,j⟩
 .exact .inl O
 .exact .inr (.inl O)
 .exact .inr (.inr ⟨s,O,by omega,j⟩)
def db.ext{n0}{h h'}{k}(j:db n0 h k)(x:Ext h h'):db n0 h' k:=by
 rcases j with rfl|rfl|⟨q,rfl,m,f⟩
 .exact .inl O
 .exact .inr (.inl O)
 .exact .inr (.inr ⟨q,O,m,x.alive f⟩)
def db.next{n0}{h}{k}(f:db n0 h k)(m:c_ h=V)(j:n0<=h.tn):db n0 (h.app k) (.free h.tn):=
 .inr (.inr ⟨h.tn,O,j,ab5 m (f.mono (bV _))⟩)
end Go.AE
end
section
namespace Go.AE
def ql.cons_inv{H}{P}{t}{ts}{xs}{f:List (DataW H)}(h:ql P (t::ts) xs f):∃x m d j,xs=x::m/\f=d::j/\jg P t x d/\ql P ts m j:=by
 cases xs with
 |nil=>cases f<;>exact h.elim
 |cons x xs=>
  cases f with|nil=>exact h.elim|cons d f=>exact⟨x,xs,d,f,O,O,h.1,h.2⟩
def ql.ali{H}{P}{xs}{f:List (DataW H)}(h:ql P [] xs f):xs=[]:=by
 cases xs with|nil=>rfl|cons x xs=>cases f<;>exact h.elim
section
variable {P:bj} {t:aC} {x y:bP}
def Bv{d:TypeDesc}(f:P.underlying t=J d):cV P (underlying t)=J d:=by unfold underlying;simp only[gg];show(J P).bind _=_;simp only[iH,f];rfl
def Rc{v:aG}{r:Array (String × aC)}(q:P.underlying t=J (.interface r)):cy P .neq t x (.const v) (.v .nilIface) (.v .nilIface)=J (.v (.bool ai)):=by
 have f:cy P .neq t x (.const v) (.v .nilIface) (.v .nilIface)=(cV P (do eqGuard .neq t x (.const v) .nilIface .nilIface;binOp .neq t .nilIface .nilIface)).bind iU:=rfl;have h2:cV P (eqGuard .neq t x (.const v) .nilIface .nilIface)=J ():=by cases x<;>rfl
 have j:cV P (Op.equal t .nilIface .nilIface)=J V:=by unfold Op.equal Op.maxDepth Op.equalIn;rw[gg,Bv q];rfl
 have m:cV P (binOp .neq t .nilIface .nilIface)=J (.bool ai):=by show cV P (do pure (Value.bool (!(<-Op.equal t .nilIface .nilIface))))=_;rw[gg,j];rfl
 rw[f,gg,h2,iH,m];rfl
def acR{u:aC}{z:U}(hi:isIface P t=J V):cy P .neq t x y (.iface u z) (.v .nilIface)=J (.v (.bool V)):=by show(if isIface P t=J V then ri .neq ai else af)=_;rw[av hi];rfl
end
end Go.AE
end
section
namespace Go.AE
section
variable {h:Heap} {cs:List U} {b c:Nat} {k:Tok}
def agO:(h.push cs).boxes[h.boxes.length]?=J cs:=aK h cs
def mJ(f:c=F h.boxes):(h.push cs).boxes[c]?=J cs:=by subst f;exact aK h cs
def agP(f:c≠F h.boxes):(h.push cs).boxes[c]?=h.boxes[c]?:=by
 unfold Heap.push
 grind
def agQ(f:b<F h.boxes):(h.put b cs).boxes[b]?=J cs:=dn f
def agR(f:c≠b):(h.put b cs).boxes[c]?=h.boxes[c]?:=cr f
def agN:(h.app k).boxes[c]?=h.boxes[c]?:=by rw[dP]
def VO:F (h.app k).boxes=F h.boxes:=by rw[dP]
end
def xP{n0}{h}{cs}{k}:db n0 (h.push cs) k=db n0 h k:=rfl
def Ac{n0 b}{h}{cs}{k}:db n0 (h.put b cs) k=db n0 h k:=rfl
def Ext.fy{h h'}(x:Ext h h'){b}(q:F h.boxes<=b)(cs):Ext h (h'.put b cs):=by refine⟨λc j f=>?_,x.loop,x.tn,x.dead,x.ok⟩;have m:c<F h.boxes:=(aS.1 f).1;rw[cr M];exact x.box c j f
section
variable {P:bj} {G:Nat->Option (List U)} {h:Heap} {t:aC} {b off n:Nat} {cs:List U}
def asq{z:aG}(m:cB P t=J 1)(f:h.boxes[b]?=J cs)(j:off+1<=F cs):bY P h t (.ptr (.box b) off) (.v z)=J (h.put b (dC cs off [.v z])):=fE O m f O j
def aso{k:Tok}{sz:Nat}{es:List (List U)}(m:cB P t=J 1)(f:h.boxes[b]?=J cs)(j:off+1<=F cs):bY P h t (.ptr (.box b) off) (.list k sz es)=J (h.put b (dC cs off [.list k sz es])):=fE O m f O j
def arA{l:List UInt8}{k N:qk}{lo hi:Int}(m:P.underlying t=J .string)(q:0<=lo)(r:lo<=hi)(h2:hi<=F l):
 gi P t (.v (.string (bs l))) (J (.v (.int k lo))) (J (.v (.int N hi))) af=J (.v (.string (bs ((l.take hi.toNat).drop lo.toNat)))):=by
 unfold gi;simp only[Fx,ut,jo,if_false,m,xL];have f:fT (F l) (J (U.v (.int N hi))) (F l)=J hi.toNat:=by unfold fT;simp only;grind
 have j:fT hi.toNat (J (U.v (.int k lo))) 0=J lo.toNat:=by unfold fT;simp only;grind
 simp only[f,j,KB]
def arB{l:List UInt8}{k:qk}{lo:Int}(m:P.underlying t=J .string)(q:0<=lo)(r:lo<=F l):
 gi P t (.v (.string (bs l))) (J (.v (.int k lo))) af af=J (.v (.string (bs (l.drop lo.toNat)))):=by
 unfold gi;simp only[Fx,ut,jo,if_false,m,xL];have f:fT (F l) af (F l)=J (F l):=rfl;have j:fT (F l) (J (U.v (.int k lo))) 0=J lo.toNat:=by unfold fT;simp only;simp_all
 simp only[f,j,KB,fB]
def arC{l:List UInt8}{N:qk}{hi:Int}(m:P.underlying t=J .string)(q:0<=hi)(h2:hi<=F l):
 gi P t (.v (.string (bs l))) af (J (.v (.int N hi))) af=J (.v (.string (bs (l.take hi.toNat)))):=by
 unfold gi;simp only[Fx,ut,jo,if_false,m,xL];have f:fT (F l) (J (U.v (.int N hi))) (F l)=J hi.toNat:=by unfold fT;simp only;simp_all
 have j:fT hi.toNat af 0=J 0:=rfl;simp only[f,j,KB,gw]
def alj{r:Ref}:NJ (.ptr r off)=J (.ptr r off):=rfl
end
end Go.AE
end
section
namespace Go.AE
def Env.Ak(e:Env)(d:aQ × List U):Env:={e with defers:=d::e.defers}
def Env.pn(e:Env)(p:Option (U × Bool)):Env:={e with cC:=p}
section
variable {e:Env} {d:aQ × List U} {p:Option (U × Bool)} {t:Nat}
def afq:(e.Ak d).get t=e.get t:=rfl
def afp:(e.Ak d).defers=d::e.defers:=rfl
def afr:(e.Ak d).cC=e.cC:=rfl
def Sl:(e.Ak d).round=e.round:=rfl
def amp:(e.pn p).get t=e.get t:=rfl
def amo:(e.pn p).defers=e.defers:=rfl
def amq:(e.pn p).cC=p:=rfl
def WW:(e.pn p).round=e.round:=rfl
end
def PD(P:bj)(G:Nat->Option (List U))(R:Rec)(ops:Array Oper)(rest:List Oper)(d:Option Tmp)(args:List U)(e:Env)(h:Heap)(Q:Xt->Env->Heap->Prop)(x:U):Prop:=
 match x with
 | .func (.func g) first f=>ck P G R ops rest ((e.Ak (g,first++args++f)).put d (.tuple [])) h Q
 |_=>False
def J7(P:bj)(G:Nat->Option (List U))(R:Rec)(ops:Array Oper)(rest:List Oper)(d:Option Tmp)(e:Env)(h:Heap)(Q:Xt->Env->Heap->Prop)(p:Option (U × Bool)):Prop:=
 match p with
 |some (x,ai)=>ck P G R ops rest ((e.pn (J (x,V))).put d x) h Q
 |_=>ck P G R ops rest (e.put d (.v .nilIface)) h Q
section
variable {P:bj} {G:Nat->Option (List U)} {R:Rec} {ops:Array Oper} {rest:List Oper} {e:Env} {h:Heap} {Q:Xt->Env->Heap->Prop} {d:Option Tmp} {ty:aC} {pos:String} {Y:Array Edge}
def aov{f:bP}{args:Array bP}{ts:Array aC}(q:e.round=af):ck P G R ops (⟨d,.defer {callee:=.value f,args,argTypes:=ts},ty,pos,Y,af⟩::rest) e h Q=PD P G R ops rest d (args.toList.map e.eval) e h Q (e.eval f):=by
 rw[aqj q];generalize e.eval f=y;rcases y with _|_|_|_|_|_|_|_|⟨j,a,b⟩|_|_
 case func=>cases j<;>rfl
 all_goals rfl
def afo{g:aQ}{first aR args:List U}:PD P G R ops rest d args e h Q (.func (.func g) first aR)=ck P G R ops rest ((e.Ak (g,first++args++aR)).put d (.tuple [])) h Q:=rfl
def aoL{args:Array bP}{ts:Array aC}(f:e.round=af):ck P G R ops (⟨d,.call {callee:=.builtin .recover,args,argTypes:=ts},ty,pos,Y,af⟩::rest) e h Q=J7 P G R ops rest d e h Q e.cC:=by
 rw[aqn f];rcases hp:e.cC with _|⟨x,b⟩
 .rfl
 .cases b<;>rfl
def anH{x:U}:J7 P G R ops rest d e h Q (J (x,ai))=ck P G R ops rest ((e.pn (J (x,V))).put d x) h Q:=rfl
def anG:J7 P G R ops rest d e h Q af=ck P G R ops rest (e.put d (.v .nilIface)) h Q:=rfl
def Pn{fn:Func}{g:aQ}{args:List U}{f:List (aQ × List U)}{x:U}{h':Heap}(j:R.ii g args af h=J (.ret x,af,h')):fZ P G R fn e ((g,args)::f) af h=fZ P G R fn e f af h':=by rw[fZ,j]
def atz{fn:Func}{g:aQ}{args:List U}{f:List (aQ × List U)}{x y z:U}{h':Heap}(j:R.ii g args (J (y,ai)) h=J (.ret x,J (z,V),h')):fZ P G R fn e ((g,args)::f) (J (y,ai)) h=fZ P G R fn e f af h':=by rw[fZ,j]
end
end Go.AE
end
section
namespace Go.AE
def F4(P:bj)(G:Nat->Option (List U))(R:Rec)(fn:Func)(Post:dO->Heap->Prop):Xt->Env->Heap->Prop:=λo e h=>∃f h',uJ P G R fn f h' o e h/\Post f h'
def afK{P}{G}{R}{fn}{Post}{e}{h}:F4 P G R fn Post .normal e h=∃r h',fZ P G R fn e e.defers af h=J (r,h')/\Post r h':=rfl
def afM{P}{G}{R}{fn}{Post}{e}{h}:F4 P G R fn Post .ret e h=∃r h',fZ P G R fn e e.defers af h=J (r,h')/\Post r h':=rfl
def afL{P}{G}{R}{fn}{Post}{e}{h}{x}:F4 P G R fn Post (.panic x) e h=∃r h',fZ P G R fn e e.defers (J (x,ai)) h=J (r,h')/\Post r h':=rfl
def bL{P}{G}{aI}{g}{fn}{body}{args}{h}{Post}(A:aI g=af)(f:P.funcs[g]?=J fn)(z:fn.body=J body)
 (B:bC (whole P G aI) body (Env.start args af) h (F4 P G (whole P G aI) fn Post)):∃r h',(whole P G aI).call g args h=J (r,h')/\Post r h':=by
 obtain⟨o,j,m,h2,r,h',q,s⟩:=B;exact⟨r,h',cq A f z ⟨o,j,m,h2,q⟩,s⟩
end Go.AE
end
section
namespace Go.AE
section
variable {P:bj} {h:Heap} {ts:Array aC} {ty:aC} {k:qk} {a b:Int}
def yX:ia P h .max ts ty [.v (.int k a),.v (.int k b)]=J (.v (.int k (if a<b then b else a)),h):=by
 have f:ia P h .max ts ty [.v (.int k a),.v (.int k b)]=((cV P (Builtin.max_ ts ty #[.int k a,.int k b])).bind iU).map (·,h):=rfl;rw[f];have h2:cV P (Builtin.max_ ts ty #[.int k a,.int k b])=J (.int k (if a<b then b else a)):=by simp[Builtin.max_,Builtin.max2];split<;>simp_all<;>rfl
 rw[h2];split<;>rfl
def Ec:ia P h .min ts ty [.v (.int k a),.v (.int k b)]=J (.v (.int k (if b<a then b else a)),h):=by
 have f:ia P h .min ts ty [.v (.int k a),.v (.int k b)]=((cV P (Builtin.min_ ts ty #[.int k a,.int k b])).bind iU).map (·,h):=rfl;rw[f];have h2:cV P (Builtin.min_ ts ty #[.int k a,.int k b])=J (.int k (if b<a then b else a)):=by simp[Builtin.min_,Builtin.min2];split<;>simp_all<;>rfl
 rw[h2];split<;>rfl
def akd{t:aC}{x:U}:ia P h .len #[t] ty [x]=(dK P t x).map (·,h):=rfl
def CO{t:aC}{x:U}:ia P h .cap #[t] ty [x]=(Ad P t x).map (·,h):=rfl
def append_eq{d:Option Tmp}{s x:U}:oU P (λ_=>af) d h .append ts ty [s,x]=gb P h ts s x:=rfl
def ab8{G:Nat->Option (List U)}{d:Option Tmp}{s x:U}(f:EY G d ty=ai):oU P G d h .append ts ty [s,x]=gb P h ts s x:=by unfold oU;simp_all
def aca{G:Nat->Option (List U)}{d:Option Tmp}{s x:U}(f:EY G d ty=V):oU P G d h .append ts ty [s,x]=lU P h ts s x:=by unfold oU;simp_all
def copy_eq{s x:U}:ia P h .copy ts ty [s,x]=wr P h ts s x:=rfl
end
end Go.AE
end
section
namespace Go.AE
section
variable {H:Type} {P:bj} {t e:aC} {cs xs:List U} {x:U} {d:DataW H}
def Has.U'{k:qk}(h:Has P t cs d)(m:P.underlying t=J (.int k)):∃n:Int,cs=[.v (.int k n)]/\k.min<=n/\n<=k.max:=by
 cases h with
 |int f n j=>rw[m]at f;injection f with f;injection f with f;subst f;exact⟨n,O,by simpa [Lit.wf] using j⟩
 |bool f=>simp_all|str f=>simp_all|none f=>simp_all|list f=>simp_all|struct f=>simp_all|array f=>simp_all
def Has.nL(h:Has P t cs d)(j:P.underlying t=J (.int .i64)):∃n:Int,cs=[.v (.int .i64 n)]/\ -9223372036854775808<=n/\n<=9223372036854775807:=by obtain⟨n,m,h2,f⟩:=h.U' j;simp[IntKind.min,IntKind.max,IntKind.signed,IntKind.bits]at h2 f;simp_all
def Has.Pm(h:Has P t cs d)(q:P.underlying t=J (.int .u8)):∃b:UInt8,cs=ie b:=by
 obtain⟨n,f,h2,m⟩:=h.U' q;simp[IntKind.min,IntKind.max,IntKind.signed,IntKind.bits]at h2 m;refine⟨UInt8.ofNat n.toNat,?_⟩;have j:((UInt8.ofNat n.toNat).toNat:Int)=n:=by
  have:(UInt8.ofNat n.toNat).toNat=n.toNat:=by simp;omega
  rw[this];omega
 rw[f,ie,j]
def Has.zo(h:Has P t cs d)(m:P.underlying t=J (.slice e)):∃(k:Tok) (es:List (List U)),cs=[.list k (P.cellsOf e) es]/\F es<=maxLen/\(k=.nil∨k=.held∨(k=.tight/\es=[]))/\(k=.nil->es=[])/\
 ∀r∈es,F r=P.cellsOf e/\∃d:DataW H,Has P e r d:=by
 cases h with
 |bool f=>simp_all|int f=>simp_all|str f=>simp_all|none f=>
  rw[m]at f;injection f with f;injection f with f;subst f
  grind
 |list f k es q E A B D s C=>
  rw[m]at f;injection f with f;injection f with f;subst f;refine⟨k,es,O,B,.inr A,?_,λr j=>⟨C r j,?_⟩⟩
  .grind
  .obtain⟨i,z,rfl⟩:=wc.1 j;exact⟨q[i],s i _ _ (aN z) (aN M)⟩
 |struct f=>simp_all|array f=>simp_all
def Has.BX{q:Array Field}{m:List (aC × Nat)}(h:Has P t xs d)(E:P.underlying t=J (.struct q))(B:(q.toList.map λf=>(f.type,f.offset))=m):
 xs.length=P.cellsOf t/\∀(i:Nat) (u:aC) (o:Nat),m[i]?=J (u,o)->∃d:DataW H,Has P u ((xs.drop o).take (P.cellsOf u)) d:=by
 cases h with
 |bool j=>simp_all|int j=>simp_all|str j=>simp_all|none j=>simp_all|list j=>simp_all|array j=>simp_all|struct j xs s D N z=>
  rw[E]at j;injection j with j;injection j with j;subst j;refine⟨D,λi u o r=>?_⟩;rw[<-B,dW]at r;cases A:q.toList[i]? with
  |none=>simp_all|some f=>
   rw[A]at r;simp only[fk,dt,cL]at r;have C:i<F s:=(by have:=(aS.1 A).1;simp at this;omega);have:=z i f s[i] (by simp_all) (aN C)
   grind
def jg.plain(h:jg P t x d)(m:∀f,P.underlying t≠J (.struct f))(j:∀n e,P.underlying t≠J (.array n e)):Has P t [x] d:=by unfold jg at h;simp_all
def jg.nL(h:jg P t x d)(j:P.underlying t=J (.int .i64)):∃n:Int,x=.v (.int .i64 n)/\ -9223372036854775808<=n/\n<=9223372036854775807:=by obtain⟨l,m,h2⟩:=(h.plain (λ_ f=>by simp_all) (λ_ _ f=>by simp_all)).nL j;simp_all
def jg.Pm(h:jg P t x d)(m:P.underlying t=J (.int .u8)):∃b:UInt8,x=.v (.int .u8 b.toNat):=by
 obtain⟨l,f⟩:=(h.plain (λ_ j=>by simp_all) (λ_ _ j=>by simp_all)).Pm m;injection f with f
 grind
def jg.zo(h:jg P t x d)(j:P.underlying t=J (.slice e)):∃(k:Tok) (es:List (List U)),x=.list k (P.cellsOf e) es/\F es<=maxLen/\(k=.nil∨k=.held∨(k=.tight/\es=[]))/\(k=.nil->es=[])/\
 ∀r∈es,F r=P.cellsOf e/\∃d:DataW H,Has P e r d:=by
 obtain⟨k,es,m,h2⟩:=(h.plain (λ_ f=>by simp_all) (λ_ _ f=>by simp_all)).zo j
 grind
def jg.BX{f:Array Field}(h:jg P t x d)(j:P.underlying t=J (.struct f)):∃xs,x=.agg xs/\Has P t xs d:=by unfold jg at h;simp_all
def uq(P:bj)(t:aC)(f:List (aC × Nat)):Bool:=
 match P.underlying t with
 |some (.struct j)=>decide ((j.toList.map λm=>(m.type,m.offset))=f)
 |_=>ai
def YO{j:List (aC × Nat)}(h:uq P t j=V):∃m:Array Field,P.underlying t=J (.struct m)/\(m.toList.map λf=>(f.type,f.offset))=j:=by
 unfold uq at h
 grind
def jg.fields{f:List (aC × Nat)}(h:jg P t x d)(r:uq P t f=V):∃xs,x=.agg xs/\F xs=P.cellsOf t/\∀(i:Nat) (u:aC) (o:Nat),f[i]?=J (u,o)->∃d:DataW H,Has P u ((xs.drop o).take (P.cellsOf u)) d:=by obtain⟨s,j,q⟩:=YO r;obtain⟨xs,m,h2⟩:=h.BX j;exact⟨xs,m,h2.BX j q⟩
def Has.fields{f:List (aC × Nat)}(h:Has P t xs d)(m:uq P t f=V):F xs=P.cellsOf t/\∀(i:Nat) (u:aC) (o:Nat),f[i]?=J (u,o)->∃d:DataW H,Has P u ((xs.drop o).take (P.cellsOf u)) d:=by obtain⟨r,q,j⟩:=YO m;exact h.BX q j
def VM{α:Type}{l:List α}(h:F l=2):∃a b,l=[a,b]:=by
 match l,h with
 | [a,b],_=>exact⟨a,b,O⟩
def Nl{α:Type}{l:List α}(h:F l=4):∃a b c d,l=[a,b,c,d]:=by
 match l,h with
 | [a,b,c,d],_=>exact⟨a,b,c,d,O⟩
def Iq{α:Type}{f}:∀{es:List (List U)},(∀r∈es,∃a,r=f a)->∃l:List α,es=l.map f:=by
 intro es
 induction es with
 |nil=>simp_all|cons r es m=>intro h;obtain⟨a,rfl⟩:=h r gx;obtain⟨l,rfl⟩:=m λr j=>h r (gj _ j);exact⟨a::l,O⟩
end
end Go.AE
end
section
namespace Go.AE
end Go.AE
end
section
namespace Go.AE
section
variable {a b:Nat × bP} {i k:Nat} {n:Int} {x:ByteArray} {l:List (Nat × bP)}
def ad2:tf #[]=ai:=rfl
def ad3:tf #[a]=ai:=by
 obtain⟨i,o⟩:=a;cases o with
 |const v=>
  cases v with
  |int k n=>cases k<;>rfl
  |_=>rfl
 |_=>rfl
def ad5:tf (JO ((i,.tmp k)::l))=ai:=rfl
def ad1:tf (JO ((i,.const (.int .i64 n))::l))=ai:=rfl
def ad4:tf (JO ((i,.const (.string x))::l))=ai:=rfl
def ad6:tf (JO ((i,.const (.int .u8 n))::b::l))=V:=rfl
end
set_option linter.defProp false in
def goS:=aj @run_seq (aj @aqy (aj @aqq (aj @aqp (aj @aqs (aj @aqz (aj @aqB (aj @aqt (aj @aqA (aj @aq8 (aj @ara (aj @aq7 (aj @aq9 (aj @adm (aj @ado (aj @Rh (aj @adn (aj @akE (aj @akG (aj @akD (aj @akF (aj @adO (aj @adP (aj @adx (aj @adu (aj @ahs (aj @ahr (aj @aho (aj @ahn (aj @aht (aj @ahk (aj @ahj (aj @arD (aj @aql (aj @aqk (aj @aoI (aj @aon (aj @aoK (aj @aol (aj @aop (aj @aoq (aj @aor (aj @aoC (aj @aoN (aj @aoJ (aj @aoo (aj @aoP (aj @aot (aj @aoE (aj @aoD (aj @aoF (aj @aoM (aj @aoy (aj @aox (aj @aoA (aj @aoz (aj @aoO (aj @aow (aj @aoB (aj @aos (aj @aom (aj @aou (aj @aoH (aj @aoG (aj @aqo (aj @abL (aj @abK (aj @abJ (aj @Rv (aj @Rw (aj @am2 (aj @am0 (aj @ET (aj @arV (aj @arW (aj @Yy (aj @ar4 (aj @ar3 (aj @ar5 (aj @O6 (aj @Aq (aj @eval_const (aj @eval_func (aj @eval_global (aj @alz (aj @aly (aj @alE (aj @alB (aj @alA (aj @alC (aj @alD (aj @alx (aj @adz (aj @xL (aj @Rb (aj @ac1 (aj @acU (aj @acW (aj @acY (aj @acO (aj @acV (aj @acT (aj @acS (aj @acQ (aj @acP (aj @acZ (aj @ac0 (aj @Rd (aj @ats (aj @atr (aj @VP (aj @Nn (aj @Nm (aj @aiZ (aj @aml (aj @ja (aj @K7 (aj @afN (aj @afP (aj @afO (aj @afQ (aj @afS (aj @afR (aj @atx (aj @aty (aj @Bool.not_true (aj @Bool.not_false (aj @jo (aj @decide_true (aj @decide_false (aj @not_true_eq_false (aj @not_false_eq_true (aj @fh (aj @Int.toNat_zero (aj @Nat.succ_ne_zero (aj @yX (aj @Ec (aj @akd (aj @CO (aj @append_eq (aj @copy_eq (aj @ad2 (aj @ad3 (aj @ad5 (aj @ad1 (aj @ad4 (@ad6))))))))))))))))))))))))))))))))))))))))))))))))))))))))))))))))))))))))))))))))))))))))))))))))))))))))))))))))))))))))))))))))))))))))))))))))))
set_option linter.defProp false in
def goH:=aj @afK (aj @afM (aj @afL (aj @Pn (aj @atz (aj @aqm (aj @aov (aj @afo (aj @aoL (aj @anH (aj @anG (aj @afq (aj @afp (aj @afr (aj @Sl (aj @amp (aj @amo (aj @amq (aj @WW (aj @fe (aj @fC (aj @asq (aj @aso (aj @arA (aj @arB (aj @arC (aj @alj (aj @a_ (aj @nX (@xA)))))))))))))))))))))))))))))
end Go.AE
end
section
namespace Go.AE
section
variable {P:bj} {G:Nat->Option (List U)} {aI:aQ->Option (List U->Heap->Option (U × Heap))} {Q:Xt->Env->Heap->Prop} {e:Env} {h:Heap}
def Hu(e:Env)(params:Array Tmp)(assign body:Code):gM:={tmps:=e.tmps,params,assign,body,state:=.ready,pending:=af}
def Heap.loop(h:Heap)(r:gM):Heap:={h with loops:=h.loops++[r]}
def Heap.done(h:Heap)(l:Nat)(r:gM):Heap:={h with loops:=h.loops.set l {r with state:=.exhausted}}
def aqw{f:bP}{params:Array Tmp}{assign body:Code}{g:aQ}{first aR:List U}(q:e.eval f=.func (.func g) first aR){x:U}{h':Heap}
 (m:(whole P G aI).call g (first++[.yield (F h.loops)]++aR) (h.loop (Hu e params assign body))=J (.panic x,h')) (r:Q (.panic x) e h'):
 bC (whole P G aI) (.rangeFunc f params assign body) e h Q:=by
 unfold bC;rw[oK];unfold eO;have j:(whole P G aI).call g (first++[.yield (F h.loops)]++aR) {h with loops:=h.loops++[{tmps:=e.tmps,params,assign,body,state:=.ready,pending:=af}]}=J (.panic x,h'):=m;simp only[q,j];exact⟨_,_,_,O,r⟩
def aqv{f:bP}{params:Array Tmp}{assign body:Code}{g:aQ}{first aR:List U}(z:e.eval f=.func (.func g) first aR){x:U}{h':Heap}{r:gM}
 (s:(whole P G aI).call g (first++[.yield (F h.loops)]++aR) (h.loop (Hu e params assign body))=J (.ret x,h')) (B:h'.loops[h.loops.length]?=J r) (q:r.state≠ .busy) (m:r.pending=af)
 (A:Q .normal e (h'.done (F h.loops) r)):bC (whole P G aI) (.rangeFunc f params assign body) e h Q:=by
 unfold bC;rw[oK];unfold eO;have j:(whole P G aI).call g (first++[.yield (F h.loops)]++aR) {h with loops:=h.loops++[{tmps:=e.tmps,params,assign,body,state:=.ready,pending:=af}]}=J (.ret x,h'):=s;simp only[z,j,B,m];rw[aP q];refine⟨_,_,_,O,?_⟩;simpa only[Heap.done,m] using A
def aqx{f:bP}{params:Array Tmp}{assign body:Code}{g:aQ}{first aR:List U}(z:e.eval f=.func (.func g) first aR){x:U}{h':Heap}{r:gM}
 (s:(whole P G aI).call g (first++[.yield (F h.loops)]++aR) (h.loop (Hu e params assign body))=J (.ret x,h')) (B:h'.loops[h.loops.length]?=J r) (q:r.state≠ .busy) (m:r.pending=J .ret)
 (A:Q .ret e (h'.done (F h.loops) r)):bC (whole P G aI) (.rangeFunc f params assign body) e h Q:=by
 unfold bC;rw[oK];unfold eO;have j:(whole P G aI).call g (first++[.yield (F h.loops)]++aR) {h with loops:=h.loops++[{tmps:=e.tmps,params,assign,body,state:=.ready,pending:=af}]}=J (.ret x,h'):=s;simp only[z,j,B,m];rw[aP q];refine⟨_,_,_,O,?_⟩;simpa only[Heap.done,m] using A
def nq(l:Nat)(r:gM)(args:List U):Env:={tmps:=BQ r.params.toList args r.tmps,defers:=[],cC:=af,round:=J l}
def Heap.busy(h:Heap)(l:Nat)(r:gM):Heap:={h with loops:=h.loops.set l {r with state:=.busy}}
def aph(l:Nat)(x:dO)(h':Heap):Xt->Env->Heap->Prop
 | .normal,_,h2=>∃r,h2.loops[l]?=J r/\x=.ret (.v (.bool V))/\h'={h2 with loops:=h2.loops.set l {r with state:=.ready,pending:=af}}
 | .ret,_,h2=>∃r,h2.loops[l]?=J r/\x=.ret (.v (.bool ai))/\h'={h2 with loops:=h2.loops.set l {r with state:=.done,pending:=J .ret}}
 | .exit id,_,h2=>∃r,h2.loops[l]?=J r/\x=.ret (.v (.bool ai))/\h'={h2 with loops:=h2.loops.set l {r with state:=.done,pending:=J (.exit id)}}
 | .panic f,_,h2=>x=.panic f/\h'=h2
def In{l:Nat}{args:List U}{r:gM}{x:dO}{h':Heap}(N:h.loops[l]?=J r)(S:r.params.size=F args)
 (E:bC (whole P G aI) r.assign (nq l r args) h (λo j h1=>o=.normal/\∃r2,h1.loops[l]?=J r2/\r2.state=.ready/\bC (whole P G aI) r.body j (h1.busy l r2) (aph l x h'))):
 (whole P G aI).round l args h=J (x,h'):=by
 rw[atS];unfold rV;obtain⟨o,j,h1,B,rfl,r2,T,X,s,C,D,Y,m⟩:=E;have q:(whole P G aI).code r.assign {tmps:=BQ r.params.toList args r.tmps,defers:=[],cC:=af,round:=J l} h=J (.normal,j,h1):=B;have z:(whole P G aI).code r.body j {h1 with loops:=h1.loops.set l {r2 with state:=.busy}}=J (s,C,D):=Y;simp only[N,S,if_true,q,T,X];rw[show({h1 with loops:=h1.loops.set l {tmps:=r2.tmps,params:=r2.params,assign:=r2.assign,body:=r2.body,state:=LoopState.busy,pending:=r2.pending}}:Heap)={h1 with loops:=h1.loops.set l {r2 with state:=.busy}} from O,z];cases s with
 |normal=>obtain⟨A,f,rfl,rfl⟩:=m;simp only[f,fk]
 |ret=>obtain⟨A,f,rfl,rfl⟩:=m;simp only[f,fk]
 |exit id=>obtain⟨A,f,rfl,rfl⟩:=m;simp only[f,fk]
 |panic Z=>obtain⟨rfl,rfl⟩:=m;rfl
end
end Go.AE
end
section
namespace Go.AE
structure Fr(bn l0 n0:Nat)(h h':Heap):Prop where
 box:∀(c:Nat) (cs:List U),c≠bn->h.boxes[c]?=J cs->h'.boxes[c]?=J cs
 len:h.boxes.length<=h'.boxes.length
 loop:∀(l:Nat) (r:gM),l<l0->h.loops[l]?=J r->h'.loops[l]?=J r
 D4:h.loops.length<=h'.loops.length
 tn:h.tn<=h'.tn
 dead:∀n,n<n0->n∈h'.dead->n∈h.dead
 ok:c_ h=V->c_ h'=V
def Fr.refl(bn l0 n0)(h):Fr bn l0 n0 h h:=⟨λ_ _ _ h=>h,aV _,λ_ _ _ h=>h,aV _,aV _,λ_ _ h=>h,λh=>h⟩
def Fr.trans{bn l0 n0}{a b c}(h:Fr bn l0 n0 a b)(k:Fr bn l0 n0 b c):Fr bn l0 n0 a c:=
 ⟨λi cs f q=>k.box i cs f (h.box i cs f q),eS h.len k.len,λl A j z=>k.loop l A j (h.loop l A j z),eS h.D4 k.D4,eS h.tn k.tn,λn m r=>h.dead n m (k.dead n m r),λs=>k.ok (h.ok s)⟩
def Ext.D4{h h'}(x:Ext h h'):F h.loops<=F h'.loops:=by
 rcases dp (F h'.loops) (F h.loops) with f|j
 .have m:=x.loop (F h'.loops) _ (aN f);simp_all
 omega
def Fr.Ei{bn l0 n0}{h h'}(x:Ext h h')(q:n0<=h.tn):Fr bn l0 n0 h h':=
 ⟨λc cs _ j=>x.box c cs j,x.len,λl r _ m=>x.loop l r m,x.D4,x.tn,λn f h2=>x.dead n (l_ f q) h2,x.ok⟩
def Fr.push(bn l0 n0)(h)(cs):Fr bn l0 n0 h (h.push cs):=
 ⟨λ_ _ _ f=>aM f,by rw[bF];omega,λ_ _ _ h=>h,aV _,aV _,λ_ _ h=>h,λh=>h⟩
def Fr.put(bn l0 n0)(h)(cs):Fr bn l0 n0 h (h.put bn cs):=
 ⟨λc m j f=>by rw[cr j];exact f,by rw[jd];omega,λ_ _ _ h=>h,aV _,aV _,λ_ _ h=>h,λh=>h⟩
def Heap.eY(h:Heap)(l:Nat)(r:gM):Heap:={h with loops:=h.loops.set l r}
def Fr.eY{bn l0 n0}{h}{l}(m:l0<=l)(r):Fr bn l0 n0 h (h.eY l r):=
 ⟨λ_ _ _ f=>f,aV _,λs z q j=>by rw[<-j];exact JG M,by simp[Heap.eY],aV _,λ_ _ h=>h,λh=>h⟩
def Fr.Ba{bn l0 n0}(h)(r):Fr bn l0 n0 h (h.loop r):=
 ⟨λ_ _ _ f=>f,aV _,λq s m j=>C8 j,by simp[Heap.loop],aV _,λ_ _ h=>h,λh=>h⟩
def Fr.ext{bn l0 n0}{h h'}(x:Fr bn l0 n0 h h')(r:F h.boxes<=bn)(s:F h.loops<=l0)(m:h.tn<=n0):Ext h h':=
 ⟨λc cs j=>x.box c cs (by grind) j,λl z q=>x.loop l z (by grind) q,x.tn,λn f h2=>x.dead n (l_ f m) h2,x.ok⟩
def Yj{h:Heap}{l}{r}(f:l<F h.loops):(h.eY l r).loops[l]?=J r:=by simp[Heap.eY,f]
def Yi{h:Heap}{l m}{r}(f:m≠l):(h.eY l r).loops[m]?=h.loops[m]?:=by simp[Heap.eY,JG (Ne.symm f)]
def D'{h:Heap}{r}:(h.loop r).loops[h.loops.length]?=J r:=by simp[Heap.loop]
def VV{h:Heap}{r q}{l:Nat}(f:h.loops[l]?=J q):(h.loop r).loops[l]?=J q:=C8 f
def St(l:Nat)(h h':Heap):Prop:=(∀(b:Nat) (cs:List U),h.boxes[b]?=J cs->h'.boxes[b]?=J cs)/\∀(f:Nat) (j:gM),f<=l->h.loops[f]?=J j->h'.loops[f]?=J j
def St.refl(l)(h):St l h h:=⟨λ_ _ h=>h,λ_ _ _ h=>h⟩
def St.trans{l}{a b c}(h:St l a b)(k:St l b c):St l a c:=⟨λi cs j=>k.1 i cs (h.1 i cs j),λq r f m=>k.2 q r f (h.2 q r f m)⟩
def St.push(l)(h)(cs):St l h (h.push cs):=⟨λ_ _ f=>aM f,λ_ _ _ h=>h⟩
def St.Ei{l}{h h'}(x:Ext h h'):St l h h':=⟨x.box,λj m _ f=>x.loop j m f⟩
def St.eY{l k}{h}(m:l<k)(r):St l h (h.eY k r):=⟨λ_ _ f=>f,λs z q j=>by rw[Yi M];exact j⟩
def St.Ba(l)(h)(r):St l h (h.loop r):=⟨λ_ _ f=>f,λm q _ j=>VV j⟩
def St.fy{l}{h h'}(x:St l h h'){b}(q:F h.boxes<=b)(cs):St l h (h'.put b cs):=
 ⟨λc j f=>by have m:c<F h.boxes:=(aS.1 f).1;rw[cr M];exact x.1 c j f,x.2⟩
inductive Nx (α:Type) where
 |cont (a:α)|stop (a:α)|panic (v:U)
def bC.gen{R}{c}{e}{h}{Q}(f:∀e2:Env,(∀t,e2.get t=e.get t)->e2.defers=e.defers->e2.cC=e.cC->e2.round=e.round->bC R c e2 h Q):bC R c e h Q:=f e (λ_=>rfl) O O rfl
section
variable {P:bj} {G:Nat->Option (List U)} {aI:aQ->Option (List U->Heap->Option (U × Heap))} {Q:Xt->Env->Heap->Prop} {e:Env} {h:Heap}
def EL{f:bP}{j:Array Tmp}{assign body:Code}{g:aQ}{first aR:List U}(s:e.eval f=.func (.func g) first aR)
 (H:∀rec:gM,rec.tmps=e.tmps->rec.params=j->rec.assign=assign->rec.body=body->rec.state=.ready->rec.pending=af->∃r h',(whole P G aI).call g (first++[.yield (F h.loops)]++aR) (h.loop rec)=J (r,h')/\
  match r with
  | .panic x=>Q (.panic x) e h'
  | .ret _=>∃rc,h'.loops[h.loops.length]?=J rc/\rc.state≠ .busy/\((rc.pending=af/\Q .normal e (h'.eY (F h.loops) {rc with state:=.exhausted}))∨(rc.pending=J .ret/\Q .ret e (h'.eY (F h.loops) {rc with state:=.exhausted})))):
 bC (whole P G aI) (.rangeFunc f j assign body) e h Q:=by
 obtain⟨r,h',q,A⟩:=H (Hu e j assign body) O O O O O O;cases r with
 |panic x=>exact aqw s q A|ret x=>
  obtain⟨rc,z,h2,m|m⟩:=A
  .exact aqv s q z h2 m.1 m.2
  .exact aqx s q z h2 m.1 m.2
def apf{l p t:Nat}{r:gM}{x:U}(f:r.params=#[p])(j:r.tmps=e.tmps):(nq l r [x]).get t=if p=t then x else e.get t:=by unfold nq;rw[f,j];exact A' e.tmps p t x
def St.mono{l f}(m:l<=f){h h'}(x:St f h h'):St l h h':=⟨x.1,λr s q j=>x.2 r s M j⟩
end
end Go.AE
end
section
namespace Go.AE
section
variable {P:bj} {G:Nat->Option (List U)} {R:Rec}
def EX(Q:Xt->Env->Heap->Prop):Xt->Env->Heap->Prop
 | .normal,e,h=>Q .normal e h
 | .panic x,e,h=>Q (.panic x) e h
 |_,_,_=>False
def Vw(P:bj)(G:Nat->Option (List U))(R:Rec)(ops:Array Oper)(l:List Oper)(Q:Xt->Env->Heap->Prop):Xt->Env->Heap->Prop
 | .normal,e,h=>ck P G R ops l e h (EX Q)
 |_,_,_=>False
def Y1{Q}{e}{h}:EX Q .normal e h=Q .normal e h:=rfl
def Y2{Q}{e}{h}{x}:EX Q (.panic x) e h=Q (.panic x) e h:=rfl
def Vx{ops:Array Oper}{l:List Oper}{Q:Xt->Env->Heap->Prop}{e:Env}{h:Heap}:Vw P G R ops l Q .normal e h=ck P G R ops l e h (EX Q):=rfl
end
section
variable {P:bj} {G:Nat->Option (List U)} {aI:aQ->Option (List U->Heap->Option (U × Heap))} {Q:Xt->Env->Heap->Prop} {e:Env} {h:Heap}
def aiH{R:Rec}{ops:Array Oper}{n:Nat}(f:n+1=ops.size)(r:qI ops=V){m:Env}{q:Heap}(h2:bW P G R ops (bZ n) e h=J (.normal,m,q)):yM (bW P G R (gp ops) (bZ (gp ops).size) e h)=V:=by rw[MP,<-f,jT];have j:=h2;rw[<-VX r (λi z=>by grind)]at j;rw[NP j,bW,DR,av f];have s:ops[n]?=J ops[n]:=jz M;rw[s];rfl
def X7{id n:Nat}{ops:Array Oper}(B:n+1=ops.size)(S:CV ops=V)(s:CV (gp ops)=V)(A:qI ops=V)
 (X:ck P G (whole P G aI) ops (ops.toList.take n) e h (Vw P G (whole P G aI) ops (ops.toList.drop n) Q)):bC (whole P G aI) (.region id ops V) e h Q:=by
 obtain⟨o,q,r,m,E⟩:=X;have T:o=.normal:=by cases o<;>first|rfl|exact E.elim
 subst T;obtain⟨C,N,h2,Y,j⟩:uD (opsL P G (whole P G aI) ops (ops.toList.drop n) q r) (EX Q):=E;rw[<-nP M]at m;have z:(ops.toList.drop n).take 1=ops.toList.drop n:=fR (by grind);have D:=Wy (P:=P) (G:=G) (R:=whole P G aI) ops 1 n M q r;rw[z,Y]at D;have f:bW P G (whole P G aI) ops (bZ ops.size) e h=J (C,N,h2):=by rw[<-B,jT,NP m];exact D
 unfold bC;rw[oK];cases C with|normal=>exact⟨_,_,_,draw_code f ((nU _ _).mpr (.inl (K6 S e h))),j⟩|panic x=>refine⟨_,_,_,draw_code f ?_,j⟩;simp only[drawC,bm];exact⟨A,K6 s e h,aiH B A m⟩|exit i=>exact j.elim|ret=>exact j.elim
end
end Go.AE
end
section
namespace Go.AE
section
variable {P:bj} {G:Nat->Option (List U)} {R:Rec} {ops:Array Oper} {k:Nat}
end
section
variable {P:bj} {G:Nat->Option (List U)} {aI:aQ->Option (List U->Heap->Option (U × Heap))} {Q:Xt->Env->Heap->Prop} {e:Env} {h:Heap}
def mh(ops:Array Oper)(k:Nat)(ps:List (Nat × Nat)):Bool:=ps.all λp=>nB (cut ops k) p.1 p.2&&(decide (p.1<k)&&decide (p.2<k))
end
end Go.AE
end
section
namespace Go.AE
mutual
def lI(n:Nat):U->Bool
 | .list _ _ es=>Ea n es
 | .arr b _ _ _=>decide (b<n)
 | .agg cs=>nk n cs
 | .tuple cs=>nk n cs
 | .ptr (.box b) _=>decide (b<n)
 | .elem _ es _ _=>Ea n es
 | .func _ a b=>nk n a&&nk n b
 | .iface _ x=>lI n x
 |_=>V
def nk(n:Nat):List U->Bool
 | []=>V
 |x::f=>lI n x&&nk n f
def Ea(n:Nat):List (List U)->Bool
 | []=>V
 |r::f=>nk n r&&Ea n f
end
def VW(n):∀(a b:List U),nk n (a++b)=(nk n a&&nk n b)
 | [],b=>by simp[nk]
 |x::a,b=>by rw[eu,nk,nk,VW n a b,ZE]
def Eb(n):∀es:List (List U),nk n es.flatten=Ea n es
 | []=>rfl
 |r::es=>by rw[jA,VW,Ea,Eb n es]
def aW.low(K:aW)(n:Nat):aW:={K with β:=K.β.take n}
section
variable {K:aW}
def Jf{b g:Nat}(h:K.β[b]?=J g):b<F K.β:=(aS.1 h).1
mutual
def aO.low:∀{x:U} {c:aG},aO K x c->lI (F K.β) x=V
 |_,_,.bad _=>rfl
 |_,_,.v _ _=>rfl
 |_,_,.nil _=>rfl
 |_,_,.fP _ _=>rfl
 |_,_,.list _ _ es _ _ _ _ _ _ _ f _ _ _=>by rw[lI,<-Eb];exact aH.low f
 |_,_,.arr _ _ _ _ _ _ _ m _ _ _ _=>by rw[lI];grind
 |_,_,.agg _ _ f=>by rw[lI];exact aH.low f
 |_,_,.tuple _ _ f=>by rw[lI];exact aH.low f
 |_,_,.box _ _ _ m=>by rw[lI];grind
 |_,_,.dB _ _=>rfl
 |_,_,.elem _ es _ _ _ _ _ _ _ f _ _ _ _=>by rw[lI,<-Eb];exact aH.low f
 |_,_,.func _ _ _ _ _ j h2=>by rw[lI,aH.low j,aH.low h2];rfl
 |_,_,.yield _ _ _=>rfl
 |_,_,.iface _ _ _ q=>by rw[lI];exact aO.low q
def aH.low:∀{xs:List U} {cs:List aG},aH K xs cs->nk (F K.β) xs=V
 |_,_,.nil=>rfl
 |_,_,.cons _ _ _ _ j f=>by rw[nk,aO.low j,aH.low f];rfl
end
def VZ{n b g:Nat}(f:K.β[b]?=J g)(j:b<n):(K.low n).β[b]?=J g:=by show(K.β.take n)[b]?=J g;simp_all
def sL.low{n:Nat}{k:Tok}{g off sz m aR:Nat}(h:sL K k g off sz m aR):sL (K.low n) k g off sz m aR:=h
mutual
def aO.cut{n:Nat}:∀{x:U} {c:aG},aO K x c->lI n x=V->aO (K.low n) x c
 |_,_,.bad c,_=>.bad c
 |_,_,.v x B,_=>.v x B
 |_,_,.nil sz,_=>.nil sz
 |_,_,.fP sz a,_=>.fP sz a
 |_,_,.list k sz es g off z0 f cells X q j m ht s,h=>.list k sz es g off z0 f cells X q (aH.cut j (by rw[Eb];rw[lI]at h;exact h)) m ht.low s
 |_,_,.arr b g off len f C r z A m Y q,h=>.arr b g off len f C r (VZ z (by rw[lI]at h;simp_all)) A m Y q
 |_,_,.agg cs D j,h=>.agg cs D (aH.cut j (by rw[lI]at h;exact h))
 |_,_,.tuple cs D j,h=>.tuple cs D (aH.cut j (by rw[lI]at h;exact h))
 |_,_,.box b g off z,h=>.box b g off (VZ z (by rw[lI]at h;simp_all))
 |_,_,.dB g off,_=>.dB g off
 |_,_,.elem sz es i off g o p cells q j m T Z s,h=>.elem sz es i off g o p cells q (aH.cut j (by rw[Eb];rw[lI]at h;exact h)) m T Z s
 |_,_,.func E first f N cs S h2,h=>.func E first f N cs (aH.cut S (by rw[lI,bm]at h;grind)) (aH.cut h2 (by rw[lI,bm]at h;grind))
 |_,_,.yield l g A,_=>.yield l g A
 |_,_,.iface t x c B,h=>.iface t x c (aO.cut B (by rw[lI]at h;exact h))
def aH.cut{n:Nat}:∀{xs:List U} {cs:List aG},aH K xs cs->nk n xs=V->aH (K.low n) xs cs
 |_,_,.nil,_=>.nil
 |_,_,.cons x c xs cs j f,h=>.cons x c xs cs (aO.cut j (by rw[nk,bm]at h;grind)) (aH.cut f (by rw[nk,bm]at h;grind))
end
end
section
variable {P:bj} {G:Nat->Option (List U)} {w0 w w':bO} {K K':aW} {h h':Heap} {ok:aQ->Nat->Code->Bool}
end
end Go.AE
end
section
namespace Go.AE
section
universe u
set_option linter.defProp false in
def goT:=aj @fk.{0,0} (aj @Fy.{0,0} (aj @iH.{0,0} (aj @eD.{0,0} (aj @uz.{0,0} (aj @List.getD_cons_zero.{0} (aj @List.getD_cons_succ.{0} (aj @iG.{0} (aj @iF.{0} @jS.{0}))))))))
set_option linter.defProp false in
def goU:=aj @ga.{0} @dM.{0}
set_option linter.defProp false in
def VN:=aj @bF (aj @jd @VO)
set_option linter.defProp false in
def akc:=aj @dY.{0} (aj @List.length_nil.{0} (aj @cg.{0} (aj @bF (aj @jd @VO))))
set_option linter.defProp false in
def agM:=aj @agO (aj @mJ (aj @agP (aj @agQ (aj @agR @agN))))
set_option linter.defProp false in
def adU:=aj @xP @Ac
set_option linter.defProp false in
def ao0:=aj @Yy (aj @Sl @WW)
end
set_option linter.defProp false in
def ZP:=@ahm
set_option linter.defProp false in
def ZS:=@ahq
set_option linter.defProp false in
def ZA:=@adt
set_option linter.defProp false in
def ZC:=@adw
set_option linter.defProp false in
def ZR:=@ahp
set_option linter.defProp false in
def ZB:=@adv
set_option linter.defProp false in
def ZO:=@ahl
set_option linter.defProp false in
def Zz:=@ads
def dZ{p:Prop}(h:p:=by first|assumption|(exact Nat.le_refl _)|omega|(simp only[akc]<;>omega)|(simp(disch:=(first|assumption|omega|(exact(bF _ _).symm)|(simp only[VN];omega)|(refine Nat.le_antisymm ?_ ?_<;>simp only[VN]<;>omega)|fail)) only[agM]<;>first|assumption|rfl)|(simp only[adU];assumption)|(exact O6 _ _)|(simp only[ao0];first|assumption|exact O6 _ _)):p:=h
def dX{a b p:Prop}(x:a)(y:b)(f:a->b->p:=by first|exact ZP|exact ZS|exact ZA|exact ZC|exact ZR|exact ZB|exact ZO|exact Zz):p:=f x y
end Go.AE
end
section
namespace Go.AE
section
variable {P:bj} {t0 t1 t elem:aC} {i:TypeInfo} {h:Heap} {k N:Tok} {sz:Nat} {es new:List (List U)}
def zu(m:P.underlying t0=J (.slice elem))(q:P.underlying t1=J (.slice elem))(hi:P.info? elem=J i)(j:0<i.size)(D:(i.zero.map λz=>z.cells.size)=J i.size)(f:new≠[])
 (r:(F es+F new)*i.bytes<=140737488355328) (A:F es+F new<=9223372036854775807) (B:sz=i.size∨es=[]) (s:k=.nil∨k=.tight) {x:U} (C:jx h i.size x=J new):
 lU P h #[t0,t1] (.list k sz es) x=J (.arr (F h.boxes) 0 (F es+F new) (F es+F new),h.push (es++new).flatten):=by
 unfold lU;simp only[iG,iF,jS,iH,m,q,hi,C];rw[av ⟨j,D⟩,av B,aP f,av ⟨r,A⟩];rcases s with rfl|rfl<;>rfl
def I5{b len:Nat}{cs:List U}(m:P.underlying t0=J (.slice elem))(q:P.underlying t1=J (.slice elem))(hi:P.info? elem=J i)(j:0<i.size)(D:(i.zero.map λz=>z.cells.size)=J i.size)(B:new≠[])
 (s:(len+F new)*i.bytes<=140737488355328) (A:len+F new<=9223372036854775807) (f:h.boxes[b]?=J cs) (h2:0<len) (r:len*i.size=F cs) {x:U} (C:jx h i.size x=J new):
 lU P h #[t0,t1] (.arr b 0 len len) x=J (.arr (F h.boxes) 0 (len+F new) (len+F new),(h.put b []).push (cs++new.flatten)):=by
 have E:0<F new:=by cases new with|nil=>simp_all|cons _ _=>simp
 unfold lU;simp only[iG,iF,jS,iH,m,q,hi,C,f];rw[av ⟨j,D⟩,aP M,av ⟨aX,h2,aX,r,s,A⟩];rfl
def Ef:jx h sz (.list k sz es)=J es:=by unfold jx rowsOf;simp
def Yp{b off len aR n:Nat}{m:Int}{kk:qk}(r:P.underlying t=J (.slice elem))(B:cB P elem=J n)(A:n≠0)(s:0<=m)(h2:m<=aR)(z:0<aR):gi P t (.arr b off len aR) af (J (.v (.int kk m))) af=J (.arr b off m.toNat aR):=by
 have f:fT aR af aR=J aR:=rfl;have j:fT aR (J (.v (.int kk m))) len=J m.toNat:=by show(if 0<=m/\m<=(aR:Int) then J m.toNat else af)=_;simp_all
 have q:fT m.toNat af 0=J 0:=rfl;unfold gi;simp_all
end
end Go.AE
end
section
namespace Go.AE
def dA(sz:Nat)(h:Heap)(x:U)(rows:List (List U)):Prop:=
 (∀m∈rows,F m=sz)/\
 ((∃k j,x=.list k j rows/\(rows≠[]->j=sz))∨
  (∃b off f cs,x=.arr b off (F rows) f/\F rows<=f/\h.boxes[b]?=J cs/\(cs.drop off).take (F rows*sz)=rows.flatten/\off+F rows*sz<=F cs))
section
variable {P:bj} {G:Nat->Option (List U)} {h h':Heap} {t e:aC} {sz:Nat} {x:U} {rows:List (List U)}
def dA.list{k:Tok}{s:Nat}(f:∀r∈rows,F r=sz)(j:rows≠[]->s=sz):dA sz h (.list k s rows) rows:=⟨f,.inl ⟨k,s,O,j⟩⟩
def dA.box{b n:Nat}(f:∀r∈rows,F r=sz)(m:n=F rows)(j:h.boxes[b]?=J rows.flatten):dA sz h (.arr b 0 n n) rows:=by
 subst m;refine⟨f,.inr ⟨b,0,rows.length,rows.flatten,O,aV _,j,?_,?_⟩⟩
 .rw[gw,<-lu f,fB]
 .rw[lu f];omega
def dA.mono(s:dA sz h x rows)(m:∀(b:Nat) (cs:List U),h.boxes[b]?=J cs->h'.boxes[b]?=J cs):dA sz h' x rows:=by
 obtain⟨z,s⟩:=s;refine⟨z,?_⟩;rcases s with s|⟨b,off,f,cs,j,h2,q,r⟩
 .simp_all
 .exact .inr ⟨b,off,f,cs,j,h2,m _ _ q,r⟩
def dA.ext(s:dA sz h x rows)(m:Ext h h'):dA sz h' x rows:=s.mono m.box
def dA.len(s:dA sz h x rows)(f:P.underlying t=J (.slice e)):dK P t x=J (.v (.int .i64 (F rows))):=by
 rcases s.2 with⟨k,s,rfl,-⟩|⟨b,off,j,cs,rfl,-⟩
 .exact Nn f
 .exact Nm f
def dA.index(s:dA sz h x rows)(T:0<sz)(B:P.underlying t=J (.slice e))(m:cB P e=J sz){i:Nat}{row:List U}(hi:rows[i]?=J row):
 ∃p,(∀kk,dH P t x (.v (.int kk (i:Int)))=J p)/\(fx P e=J ai->aD P G h e p=row.head?)/\(fx P e=J V->aD P G h e p=J (.agg row)):=by
 have q:=(aS.1 hi).1;have A:=s.1 row (List.mem_of_getElem? hi);rcases s.2 with⟨k,C,rfl,E⟩|⟨b,off,N,cs,rfl,h2,z,D,S⟩
 .have:C=sz:=E (by grind);subst this;refine⟨.elem C rows i 0,λkk=>?_,λf=>?_,λf=>?_⟩
  .rw[aT B m M M,fh]
  .rw[oA f hi,gw]
  .rw[D_ f m hi M,gw,<-A,fB]
 .have j:(cs.drop (off+i*sz)).take sz=row:=by have:=Lb s.1 hi;rw[<-D,JE,Fs,pF]at this;rw[<-this];congr 1;have:(i+1)*sz<=F rows*sz:=ma _ q;rw[jh]at this;omega
  have r:off+i*sz+sz<=F cs:=by have:(i+1)*sz<=F rows*sz:=ma _ q;rw[jh]at this;omega
  refine⟨.ptr (.box b) (off+i*sz),λkk=>?_,λf=>?_,λf=>?_⟩
  .rw[A1 B m M M,fh]
  .rw[fe f z,<-j];obtain⟨n,rfl⟩:∃n,sz=n+1:=⟨sz-1,by omega⟩;cases cs.drop (off+i*(n+1)) with|nil=>rfl|cons a l=>rfl
  .rw[fC f m z r,j]
def dA.slice(s:dA sz h x rows)(hp:0<sz)(hu:P.underlying t=J (.slice e))(hs:cB P e=J sz){lo hi:Option U}{l m:Nat}
 (D:(hi=af/\m=F rows)∨∃kk,hi=J (.v (.int kk (m:Int)))/\m<=F rows) (N:(lo=af/\l=0)∨∃kk,lo=J (.v (.int kk (l:Int)))) (E:l<=m):
 ∃y,gi P t x lo hi af=J y/\dA sz h y ((rows.take m).drop l):=by
 have S:m<=F rows:=by omega
 have bound:∀q,F rows<=q->fT q hi (F rows)=J m:=λq avi=>by
  rcases D with⟨rfl,rfl⟩|⟨kk,rfl,T⟩
  .rfl
  .show(if 0<=(m:Int)/\(m:Int)<=(q:Int) then J (m:Int).toNat else af)=_
   grind
 have A:fT m lo 0=J l:=by
  rcases N with⟨rfl,rfl⟩|⟨kk,rfl⟩
  .rfl
  .show(if 0<=(l:Int)/\(l:Int)<=(m:Int) then J (l:Int).toNat else af)=_;simp_all
 have r:∀X∈(rows.take m).drop l,F X=sz:=λX z=>s.1 X (xy (List.mem_of_mem_drop z));rcases s.2 with⟨k,Y,rfl,hk⟩|⟨b,off,f,cs,rfl,h2,Z,h4,h5⟩
 .have C:fT (F rows) af (F rows)=J (F rows):=rfl;have fJ:sz=Y∨rows=[]:=by
   by_cases T:rows=[]
   .simp_all
   .simp_all
  refine⟨.list (pK k (decide (m=F rows)) ai (m-l)) Y ((rows.take m).drop l),?_,r,.inl ⟨_,_,O,λT=>hk (by grind)⟩⟩;unfold gi;simp_all
 .have C:fT f af f=J f:=rfl;have j:F ((rows.take m).drop l)=m-l:=by rw[ev,cR];omega
  refine⟨.arr b (if f=l then off else off+l*sz) (m-l) (f-l),?_,r,.inr ⟨b,_,f-l,cs,by rw[j],by omega,Z,?_,?_⟩⟩
  .unfold gi
   grind
  .rw[j];by_cases T:f=l
   .have:m-l=0:=(by omega);rw[av T,this,Nat.zero_mul,List.take_zero]
    grind
   .rw[aP T,SZ (λX z=>s.1 X (xy z)),Lc s.1,<-h4,Fs,<-pF];have B:min (m*sz) (F rows*sz)=m*sz:=Ct (ma _ S);rw[B,JE,<-Nat.sub_mul]
  .rw[j];have B:m*sz<=F rows*sz:=ma _ S;have e2:(m-l)*sz+l*sz=m*sz:=by rw[<-jh,Nat.sub_add_cancel E]
   grind
def dA.got(s:dA sz h x rows):rowsOf h sz x=J rows:=by
 rcases s.2 with⟨k,B,rfl,A⟩|⟨b,off,r,cs,rfl,h2,j,m,q⟩
 .unfold rowsOf
  grind
 .unfold rowsOf;simp only[j,av q,dt];apply Fm
  .simp
  .intro i z f;rw[sH,List.getElem_range];have:=Lb s.1 (aN f);rw[<-m,JE,Fs,pF]at this;rw[<-this];congr 1;have:(i+1)*sz<=F rows*sz:=ma _ f
   grind
def dA.news(s:dA sz h x rows):jx h sz x=J rows:=by have:=s.got;rcases s.2 with⟨k,j,rfl,-⟩|⟨b,off,f,cs,rfl,-⟩<;>exact this
end
end Go.AE
end
section
namespace Go.AE
section
variable {P:bj} {G:Nat->Option (List U)} {t:aC} {x y:bP} {k N:qk} {a b:Int}
def pI:cy P .and t x y (.v (.int k a)) (.v (.int k b))=J (.v (.int k (k.wrap (BitVec.ofInt k.bits a&&&BitVec.ofInt k.bits b).toNat))):=oP (v:=.int k (k.wrap (BitVec.ofInt k.bits a&&&BitVec.ofInt k.bits b).toNat)) (by simp[binOp,Op.intBits];rfl)
def Kv:cy P .or t x y (.v (.int k a)) (.v (.int k b))=J (.v (.int k (k.wrap (BitVec.ofInt k.bits a|||BitVec.ofInt k.bits b).toNat))):=oP (v:=.int k (k.wrap (BitVec.ofInt k.bits a|||BitVec.ofInt k.bits b).toNat)) (by simp[binOp,Op.intBits];rfl)
def Re:cy P .xor t x y (.v (.int k a)) (.v (.int k b))=J (.v (.int k (k.wrap (BitVec.ofInt k.bits a^^^BitVec.ofInt k.bits b).toNat))):=oP (v:=.int k (k.wrap (BitVec.ofInt k.bits a^^^BitVec.ofInt k.bits b).toNat)) (by simp[binOp,Op.intBits];rfl)
def Kw(h:0<=b):cy P .shl t x y (.v (.int k a)) (.v (.int N b))=J (.v (.int k (k.wrap (a*2^min b.toNat k.bits)))):=by
 have j:¬b<0:=by omega
 show(cV P (do eqGuard .shl t x y (.int k a) (.int N b);binOp .shl t (.int k a) (.int N b))).bind iU=_;rw[gg];have f:cV P (eqGuard .shl t x y (.int k a) (.int N b))=J ():=rfl;rw[f];simp[binOp,Op.shift,j];rfl
def z_(h:0<=b):cy P .shr t x y (.v (.int k a)) (.v (.int N b))=J (.v (.int k (a.fdiv (2^min b.toNat k.bits)))):=by
 have j:¬b<0:=by omega
 show(cV P (do eqGuard .shr t x y (.int k a) (.int N b);binOp .shr t (.int k a) (.int N b))).bind iU=_;rw[gg];have f:cV P (eqGuard .shr t x y (.int k a) (.int N b))=J ():=rfl;rw[f];simp[binOp,Op.shift,j];rfl
end
def bM(v:BitVec 32):U:=.v (.int .u32 (v.toNat:Int))
section
variable {P:bj} {t:aC} {x y:bP} {N:qk} {u v:BitVec 32}
def wrap32(n):IntKind.u32.wrap n=n%4294967296:=by unfold IntKind.wrap;simp[IntKind.signed,IntKind.bits]
def ofInt32(v):BitVec.ofInt 32 (v.toNat:Int)=v:=by simp_all
def Pt(v:BitVec 32):IntKind.u32.wrap (v.toNat:Int)=(v.toNat:Int):=by rw[wrap32];omega
def CE:cy P .and t x y (bM u) (bM v)=J (bM (u&&&v)):=by unfold bM;rw[pI,show IntKind.u32.bits=32 from O,ofInt32,ofInt32,Pt]
def oe:cy P .or t x y (bM u) (bM v)=J (bM (u|||v)):=by unfold bM;rw[Kv,show IntKind.u32.bits=32 from O,ofInt32,ofInt32,Pt]
def og:cy P .xor t x y (bM u) (bM v)=J (bM (u^^^v)):=by unfold bM;rw[Re,show IntKind.u32.bits=32 from O,ofInt32,ofInt32,Pt]
def nY:cy P .add t x y (bM u) (bM v)=J (bM (u+v)):=by unfold bM;rw[Rb,wrap32,BitVec.toNat_add];congr 3
def qV{n:Nat}(f:n<32):cy P .shr t x y (bM u) (.v (.int N (n:Int)))=J (bM (u>>>n)):=by
 unfold bM;rw[z_ M,fh,show IntKind.u32.bits=32 from O,Ct M,BitVec.toNat_ushiftRight,Nat.shiftRight_eq_div_pow]
 grind
def rY{n:Nat}(f:n<32):cy P .shl t x y (bM u) (.v (.int N (n:Int)))=J (bM (u<<<n)):=by unfold bM;rw[Kw M,fh,show IntKind.u32.bits=32 from O,Ct M,wrap32,BitVec.toNat_shiftLeft,aaU];congr 3
end
end Go.AE
end
section
namespace Go.AE
section
variable {P:bj} {h:Heap} {t0 t1 elem:aC} {f k:qk} {i:TypeInfo} {zero:List U} {sz n:Nat}
def Q4(m:P.underlying t0=J (.slice elem))(q:P.underlying t1=J (.int f))(hi:P.info? elem=J i)(A:(fM P elem).bind U.bG=J zero)(C:0<n)(r:n*i.bytes<=140737488355328)(B:n<=9223372036854775807)(z:0<i.size)(s:F zero=i.size):
 gb P h #[t0,t1] (.list .nil sz []) (.v (.int k (n:Nat)))=J (.arr (F h.boxes) 0 n n,h.push (bB n zero).flatten):=by
 unfold gb Je;have j:((n:Nat):Int)*i.bytes<=140737488355328:=by have:((n*i.bytes:Nat):Int)<=140737488355328:=Int.ofNat_le.2 r;omega
 simp only[iG,iF,jS,iH,m,q,hi,A];rw[av ⟨O,by omega,j,by omega,z,s⟩,fh];rfl
def Q3{b off len aR:Nat}{cs:List U}{new:List (List U)}{x:U}(f:P.underlying t0=J (.slice elem))(j:P.underlying t1=J (.slice elem))(hi:P.info? elem=J i)(r:0<i.size)(A:(i.zero.map λz=>z.cells.size)=J i.size)
 (s:jx h i.size x=J new) (q:h.boxes[b]?=J cs) (h2:len+F new<=aR) (m:off+aR*i.size<=F cs):
 gb P h #[t0,t1] (.arr b off len aR) x=J (.arr b off (len+F new) aR,h.put b (dC cs (off+len*i.size) new.flatten)):=by
 unfold gb;simp only[iG,iF,jS,iH,f,j,hi,s,q];rw[av ⟨r,A⟩,av ⟨h2,m⟩];rfl
end
end Go.AE
end
section
namespace Go.AE
def oJ(t:Nat):Tok->Bool
 | .free i=>decide (i<t)
 |_=>V
mutual
def au(n l t:Nat):U->Bool
 | .list k _ es=>oJ t k&&e_ n l t es
 | .arr b _ _ _=>decide (b<n)
 | .agg cs=>aA n l t cs
 | .tuple cs=>aA n l t cs
 | .ptr (.box b) _=>decide (b<n)
 | .elem _ es _ _=>e_ n l t es
 | .func _ a b=>aA n l t a&&aA n l t b
 | .yield i=>decide (i<l)
 | .iface _ x=>au n l t x
 |_=>V
def aA(n l t:Nat):List U->Bool
 | []=>V
 |x::f=>au n l t x&&aA n l t f
def e_(n l t:Nat):List (List U)->Bool
 | []=>V
 |r::f=>aA n l t r&&e_ n l t f
end
def SS(n l t):∀(a b:List U),aA n l t (a++b)=(aA n l t a&&aA n l t b)
 | [],b=>by simp[aA]
 |x::a,b=>by rw[eu,aA,aA,SS n l t a b,ZE]
def oa(n l t):∀es:List (List U),aA n l t es.flatten=e_ n l t es
 | []=>rfl
 |r::es=>by rw[jA,SS,e_,oa n l t es]
def bU:Tok->Tok
 | .free _=>.held
 |k=>k
mutual
def al:U->U
 | .list k sz es=>.list (bU k) sz (dk es)
 | .tuple cs=>.tuple (aZ cs)
 | .agg cs=>.agg (aZ cs)
 | .iface t x=>.iface t (al x)
 |x=>x
def aZ:List U->List U
 | []=>[]
 |x::f=>al x::aZ f
def dk:List (List U)->List (List U)
 | []=>[]
 |r::f=>aZ r::dk f
end
def uU:∀a b:List U,aZ (a++b)=aZ a++aZ b
 | [],b=>rfl
 |x::a,b=>by rw[eu,aZ,uU a b,aZ,eu]
def AL:∀es:List (List U),(dk es).flatten=aZ es.flatten
 | []=>rfl
 |r::es=>by rw[dk,jA,jA,uU,AL es]
def Uy:∀a:List U,F (aZ a)=F a
 | []=>rfl
 |x::a=>by rw[aZ,dY,Uy a,dY]
def DH:∀a:List (List U),F (dk a)=F a
 | []=>rfl
 |x::a=>by rw[dk,dY,DH a,dY]
def GR{sz}:∀{es:List (List U)},(∀r∈es,F r=sz)->∀r∈dk es,F r=sz
 | [],_,r,h=>by cases h
 |a::es,h,r,f=>by
  rw[dk]at f;rcases gL.1 f with rfl|f
  .rw[Uy];exact h a gx
  .exact GR (λr f=>h r (gj _ f)) r f
def aio(x):(al x).cW=x.cW:=by cases x<;>rfl
def Mn:∀a:List U,(aZ a).all U.cW=a.all U.cW
 | []=>rfl
 |x::a=>by rw[aZ,Ch,aio,Mn a,Ch]
def aW.pm(K:aW)(n l t:Nat):aW:={K with β:=K.β.take n,γ:=K.γ.take l,tn:=t}
section
variable {K:aW}
def aus{b g:Nat}(h:K.γ[b]?=J g):b<F K.γ:=(aS.1 h).1
mutual
def aO.fit:∀{x:U} {c:aG},aO K x c->au (F K.β) (F K.γ) K.tn x=V
 |_,_,.bad _=>rfl
 |_,_,.v _ _=>rfl
 |_,_,.nil _=>rfl
 |_,_,.fP _ _=>rfl
 |_,_,.list k _ es _ _ _ _ _ _ _ f _ r _=>by
  rw[au,bm,<-oa];refine⟨?_,aH.fit f⟩;cases k with|free i=>exact bQ r.2.1|_=>rfl
 |_,_,.arr _ _ _ _ _ _ _ j _ _ _ _=>by rw[au];exact bQ (Jf j)
 |_,_,.agg _ _ f=>by rw[au];exact aH.fit f
 |_,_,.tuple _ _ f=>by rw[au];exact aH.fit f
 |_,_,.box _ _ _ j=>by rw[au];exact bQ (Jf j)
 |_,_,.dB _ _=>rfl
 |_,_,.elem _ es _ _ _ _ _ _ _ f _ _ _ _=>by rw[au,<-oa];exact aH.fit f
 |_,_,.func _ _ _ _ _ m h2=>by rw[au,aH.fit m,aH.fit h2];rfl
 |_,_,.yield _ _ q=>by rw[au];exact bQ (aus q)
 |_,_,.iface _ _ _ s=>by rw[au];exact aO.fit s
def aH.fit:∀{xs:List U} {cs:List aG},aH K xs cs->aA (F K.β) (F K.γ) K.tn xs=V
 |_,_,.nil=>rfl
 |_,_,.cons _ _ _ _ j f=>by rw[aA,aO.fit j,aH.fit f];rfl
end
def I0{α:Type}{l:List α}{i n}{x}(h:l[i]?=J x)(f:i<n):(l.take n)[i]?=J x:=by rw[mr,av f,h]
def zt{α:Type}{l:List α}{i n}{x}(h:(l.take n)[i]?=J x):i<n/\l[i]?=J x:=by
 rw[mr]at h;split at h
 .exact⟨by assumption,h⟩
 .cases h
mutual
def aO.qH{K2:aW}{n l t:Nat}(s:∀b g:Nat,b<n->K.β[b]?=J g->K2.β[b]?=J g)(A:∀b g:Nat,b<l->K.γ[b]?=J g->K2.γ[b]?=J g)(f:∀g j c,K.ic g j=J c->K2.ic g j=J c)(q:K2.tk=K.tk)(r:K2.tn=t)(m:∀b,b<n->K2.lb b=K.lb b):
 ∀{x:U} {c:aG},aO K x c->au n l t x=V->aO K2 x c
 |_,_,.bad c,_=>.bad c
 |_,_,.v x hx,_=>.v x hx
 |_,_,.nil sz,_=>.nil sz
 |_,_,.fP sz a,_=>.fP sz a
 |_,_,.list k sz es g off z0 z cells hn D B C ht T,h=>by
  rw[au,bm]at h;refine .list k sz es g off z0 z cells hn D (aH.qH s A f q r m B (by rw[oa];exact h.2)) (λj c Y=>f _ _ _ (C j c Y)) ⟨ht.1,?_⟩ T;have S:=h.1;have h2:=ht.2;cases k with|free i=>simp only at h2 ⊢;rw[q,r];exact⟨of_decide_eq_true S,h2.2⟩|_=>exact h2
 |_,_,.arr b g off len z rK N X Z C ho D,h=>by rw[au]at h;have E:=of_decide_eq_true h;exact .arr b g off len z rK N (s _ _ E X) Z C ho (by rw[m b E];exact D)
 |_,_,.agg cs vs B,h=>.agg cs vs (aH.qH s A f q r m B (by rw[au]at h;exact h))
 |_,_,.tuple cs vs B,h=>.tuple cs vs (aH.qH s A f q r m B (by rw[au]at h;exact h))
 |_,_,.box b g off X,h=>.box b g off (s _ _ (by rw[au]at h;exact of_decide_eq_true h) X)
 |_,_,.dB g off,_=>.dB g off
 |_,_,.elem sz es i off g o p cells D B C hi hp T,h=>.elem sz es i off g o p cells D (aH.qH s A f q r m B (by rw[oa];rw[au]at h;exact h)) (λj c Y=>f _ _ _ (C j c Y)) hi hp T
 |_,_,.func fn first z fs cs S h2,h=>.func fn first z fs cs (aH.qH s A f q r m S (by rw[au,bm]at h;exact h.1)) (aH.qH s A f q r m h2 (by rw[au,bm]at h;exact h.2))
 |_,_,.yield i g Z,h=>.yield i g (A _ _ (by rw[au]at h;exact of_decide_eq_true h) Z)
 |_,_,.iface t x c hx,h=>.iface t x c (aO.qH s A f q r m hx (by rw[au]at h;exact h))
def aH.qH{K2:aW}{n l t:Nat}(s:∀b g:Nat,b<n->K.β[b]?=J g->K2.β[b]?=J g)(z:∀b g:Nat,b<l->K.γ[b]?=J g->K2.γ[b]?=J g)(f:∀g j c,K.ic g j=J c->K2.ic g j=J c)(q:K2.tk=K.tk)(r:K2.tn=t)(m:∀b,b<n->K2.lb b=K.lb b):
 ∀{xs:List U} {cs:List aG},aH K xs cs->aA n l t xs=V->aH K2 xs cs
 |_,_,.nil,_=>.nil
 |_,_,.cons x c xs cs B A,h=>.cons x c xs cs (aO.qH s z f q r m B (by rw[aA,bm]at h;exact h.1)) (aH.qH s z f q r m A (by rw[aA,bm]at h;exact h.2))
end
mutual
def aO.hold:∀{x:U} {c:aG},aO K x c->aO K (al x) c
 |_,_,.bad c=>.bad c
 |_,_,.v x E=>.v x E
 |_,_,.nil sz=>.nil sz
 |_,_,.fP sz a=>.fP sz a
 |_,_,.list k sz es g off z0 f cells hn q j m T B=>by
  have z:aH K (dk es).flatten cells:=by rw[AL];exact aH.hold j
  have r:(dk es).flatten.all U.cW=V:=by rw[AL,Mn];exact B
  have s:z0=F (dk es):=by rw[DH];exact hn
  cases k with|free i=>exact .list .held sz _ g off z0 f cells s (GR q) z m ⟨T.1,aX⟩ r|_=>exact .list _ sz _ g off z0 f cells s (GR q) z m T r
 |_,_,.arr b g off len f N A C D m ho q=>.arr b g off len f N A C D m ho q
 |_,_,.agg cs S j=>.agg _ S (aH.hold j)
 |_,_,.tuple cs S j=>.tuple _ S (aH.hold j)
 |_,_,.box b g off C=>.box b g off C
 |_,_,.dB g off=>.dB g off
 |_,_,.elem sz es i off g o p cells q j m hi hp B=>.elem sz es i off g o p cells q j m hi hp B
 |_,_,.func X first f Y cs Z h2=>.func X first f Y cs Z h2
 |_,_,.yield l g D=>.yield l g D
 |_,_,.iface t x c E=>.iface t _ c (aO.hold E)
def aH.hold:∀{xs:List U} {cs:List aG},aH K xs cs->aH K (aZ xs) cs
 |_,_,.nil=>.nil
 |_,_,.cons x c xs cs j f=>.cons _ c _ cs (aO.hold j) (aH.hold f)
end
end
section
variable {P:bj} {G:Nat->Option (List U)} {w0 w w':bO} {K K':aW} {h h':Heap} {ok:aQ->Nat->Code->Bool}
def aO.pm{n l t:Nat}{x:U}{c:aG}(q:aO K x c)(m:au n l t x=V):aO (K.pm n l t) x c:=
 q.qH (K:=K) (K2:=K.pm n l t) (n:=n) (l:=l) (λ_ _ f j=>I0 j f) (λ_ _ f j=>I0 j f) (λ_ _ _ h=>h) O O (λ_ _=>rfl) m
def aH.pm{n l t:Nat}{x:List U}{c:List aG}(q:aH K x c)(m:aA n l t x=V):aH (K.pm n l t) x c:=
 q.qH (K:=K) (K2:=K.pm n l t) (n:=n) (l:=l) (λ_ _ f j=>I0 j f) (λ_ _ f j=>I0 j f) (λ_ _ _ h=>h) O O (λ_ _=>rfl) m
def bJ.pm(s:bJ K G ok w0 h w)(j:bJ K' G ok w0 h' w')(le:K.Le K')(x:Ext h h'):bJ (K'.pm (F h.boxes) (F h.loops) h.tn) G ok w0 h w':=by
 have pW:=x.len;have gB:F h.loops<=F h'.loops:=by
  rcases dp (F h'.loops) (F h.loops) with dj|pi
  .have f:=x.loop (F h'.loops) _ (aN dj);have:=(aS.1 f).1;omega
  .exact pi
 have βl:=s.iD;have X:=s.lV;have Y:∀{y:List U} {c:List aG},aH K y c->aA (F h.boxes) (F h.loops) h.tn y=V:=λE=>by
  have:=E.fit
  rwa [βl,X,s.tn]at this
 refine⟨j.fD,j.size,j.ic,λg cs hg=>?_,?_,λb D g f h2=>?_,λb g cs f h2=>?_,?_,λb D g f h2=>?_,λl g z0 f h2=>?_,O,λt N=>?_,λt t' N MN=>j.nw t t' (x.alive N) (x.alive MN),j.md,j.all⟩
 .obtain⟨cells,q,r⟩:=j.dB g cs hg;obtain⟨z,p1,-⟩:=s.dB g cs hg;exact⟨cells,q.pm (Y p1),r⟩
 .show(F (K'.β.take h.boxes.length))=F h.boxes;rw[cR,j.iD];omega
 .have f:=zt f;have h2:=zt h2;have C:∀k,k<F h.boxes->h'.boxes[k]?=J []->h.boxes[k]?=J []:=λk hk z1=>by have:=x.box k _ (aN hk);rw[z1]at this;rw[aN hk,<-this]
  rcases j.mV b D g f.2 h2.2 with p|p|p
  .exact .inl p
  .exact .inr (.inl (C _ f.1 p))
  .exact .inr (.inr (C _ h2.1 p))
 .have f:=zt f;obtain⟨q,r,B,cells,e,S,q5⟩:=j.box b g cs f.2 (x.box _ _ h2);obtain⟨m,A⟩:∃m,K.β[b]?=J m:=⟨_,aN M⟩;obtain⟨-,-,-,z,e0,-,p5⟩:=s.box b m cs A h2;exact⟨q,r,B,cells,e,S,q5.1.pm (Y p5.1),q5.2⟩
 .show(F (K'.γ.take h.loops.length))=F h.loops;rw[cR,j.lV];omega
 .exact j.nT b D g (zt f).2 (zt h2).2
 .have f:=zt f;obtain⟨q,fn,T,d,r,B,S⟩:=j.loop l g z0 f.2 (x.loop _ _ h2);obtain⟨m,A⟩:∃m,K.γ[l]?=J m:=⟨_,aN (by rw[X];exact f.1)⟩;obtain⟨-,fn0,tmps0,d0,-,p3,-⟩:=s.loop l m z0 A h2;refine⟨q,fn,T,d,r,λt=>?_,S⟩;have:=aO.fit (p3 t);rw[βl,X,s.tn]at this;exact(B t).pm this
 .obtain⟨q,r,B⟩:=j.tok t (x.alive N);exact⟨q,λb Z=>r b (zt Z).2,B⟩
end
end Go.AE
end
section
namespace Go.AE
section
variable {P:bj} {G:Nat->Option (List U)} {w0:bO} {aI:aQ->Option (List U->Heap->Option (U × Heap))}
def k'{L:List aQ}(h:(L.all λg=>match P.funcs[g]? with|some fn=>fn.body.isSome|none=>ai)=V):∀g∈L,∃fn,P.funcs[g]?=J fn/\fn.body.isSome=V:=by
 intro g j;have:=eF.1 h g j;split at this
 .rename_i fn f;exact⟨fn,f,this⟩
 .cases this
variable {L:List aQ} {R:Rec} {g:aQ} {args:List U} {h h2:Heap} {x y:U}
end
end Go.AE
end
section
namespace Go.NT
def dL:List Nat->Nat
 | []=>0
 |x::l=>x+dL l
def lN:List Int->Int
 | []=>1
 |x::l=>x*lN l
def YS{l m}(h:l.Perm m):dL l=dL m:=by
 induction h with
 |nil=>rfl|cons x _ f=>simp only[dL,f]|swap x y l=>simp only[dL];omega|trans _ _ j h2=>omega
def amM{l m}(h:l.Perm m):lN l=lN m:=by
 induction h with
 |nil=>rfl|cons x _ f=>simp only[lN,f]|swap x y l=>simp only[lN];grind
 |trans _ _ j h2=>omega
def YR(l m):dL (l++m)=dL l+dL m:=by
 induction l with
 |nil=>simp[dL]|cons x l f=>simp only[eu,dL,f];omega
def eK(h:Nat):List Nat:=P_ 1 h
def rH{k h}:k∈eK h↔1<=k/\k<=h:=by
 unfold eK;rw[List.mem_range'];constructor
 .omega
 .rintro⟨f,h2⟩;exact⟨k-1,by omega,by omega⟩
def XE(h):eK (h+1)=eK h++[h+1]:=by unfold eK;rw[List.range'_1_concat,Nat.add_comm 1 h]
def Oh(h):F (eK h)=h:=by simp[eK]
def ao2(h):(eK h).Nodup:=List.nodup_range' 1
def amj:∀{l m:List Nat},l.Nodup->(∀x∈l,x∈m)->F m<=F l->l.Perm m:=by
 intro l
 induction l with
 |nil=>simp_all|cons x l z=>intro m f r j;have s:=r x gx;have q:=List.perm_cons_erase s;rw[List.nodup_cons]at f;refine List.Perm.trans (.cons x (z f.2 (λy A=>?_) ?_)) q.symm<;>grind
def alm{f:Nat->Nat}:∀{l:List Nat},l.Nodup->(∀x∈l,∀y∈l,f x=f y->x=y)->(l.map f).Nodup:=by
 intro l
 induction l with
 |nil=>simp_all|cons x l j=>
  grind
def fl(a n k:Nat):Nat:=if n<2*(a*k%n) then 1 else 0
def ab(a n k:Nat):Nat:=if n<2*(a*k%n) then n-a*k%n else a*k%n
def mu(a n:Nat):Nat:=dL ((eK (n/2)).map (fl a n))
section
variable {a b n h:Nat}
def Xy(j:my a n){k:Nat}(f:0<k)(m:k<n):a*k%n≠0:=λq=>by have:n∣k:=(JQ j).dvd_of_dvd_mul_left (Cs q);have:=zL f this;omega
def QK(q:n=2*h+1)(f:my a n){k:Nat}(m:1<=k/\k<=h):1<=ab a n k/\ab a n k<=h:=by
 have j:=Xy f (k:=k) M M;have h2:=jU (a*k) (M:0<n);unfold ab
 grind
def abs(N:n=2*h+1)(j:my a n){k l:Nat}(C:1<=k/\k<=h)(D:1<=l/\l<=h)(m:ab a n k=ab a n l):k=l:=by
 have s:=jU (a*k) (M:0<n);have z:=jU (a*l) (M:0<n);have B:∀{x y:Nat},x<=y->y<n->a*x%n=a*y%n->x=y:=by
  intro x y A S q;have f:n∣a*y-a*x:=Cs (Nat.sub_mod_eq_zero_of_mod_eq q.symm);rw[<-Nat.mul_sub]at f;have:=(JQ j).dvd_of_dvd_mul_left f;rcases JS (y-x) with q|q
  .omega
  .have:=zL q this;omega
 have r:a*k%n+a*l%n≠n:=λq=>by
  have f:n∣a*(k+l):=by rw[Qe];apply Cs;rw[Qc,q,Nat.mod_self]
  have:=(JQ j).dvd_of_dvd_mul_left f;have:=zL M this;omega
 have same:a*k%n=a*l%n->k=l:=λq=>by rcases Nat.le_total k l with p|p<;>grind
 unfold ab at m
 grind
def NV(q:n=2*h+1)(m:my a n):((eK h).map (ab a n)).Perm (eK h):=by refine amj (alm (ao2 h) λx f y j r=>abs q m (rH.1 f) (rH.1 j) r) (λx f=>?_) b7;obtain⟨y,j,rfl⟩:=iV.1 f;exact rH.2 (QK q m (rH.1 j))
def YU{f g q}:∀{l:List Nat},(∀k∈l,f k%2=(g k+q k)%2)->dL (l.map f)%2=(dL (l.map g)+dL (l.map q))%2:=by
 intro l
 induction l with
 |nil=>intro _;rfl|cons x l r=>intro j;have s:=j x gx;have h2:=r λk m=>j k (gj _ m);simp only[eD,dL];omega
def agk(z:n=2*h+1)(m:my a n)(q:my b n){k:Nat}(s:1<=k/\k<=h):fl (a*b) n k%2=(fl b n k+fl a n (ab b n k))%2:=by
 have D:=QK z q s;have N:=Xy m (k:=ab b n k) M M;have S:=jU (a*ab b n k) (M:0<n);have E:=jU (b*k) (M:0<n);have j:a*b*k%n=a*(b*k%n)%n:=by rw[Qf,aaO]
 unfold fl;rw[j];by_cases A:n<2*(b*k%n)
 .have f:ab b n k=n-b*k%n:=by unfold ab;simp_all
  rw[av A];have T:=jU (a*(b*k%n)) (M:0<n);have B:(a*(b*k%n)%n+a*ab b n k%n)%n=0:=by rw[<-Qc,<-Qe,f,(M:b*k%n+(n-b*k%n)=n),Nat.mul_mod_left]
  have C:a*(b*k%n)%n+a*ab b n k%n=n:=by
   have r:=Cs B;obtain⟨c,X⟩:=r;rcases c with _|_|c
   .omega
   .omega
   .grind
  grind
 .have f:ab b n k=b*k%n:=by unfold ab;grind
  grind
def ak3(j:n=2*h+1)(m:my a n)(f:my b n):mu (a*b) n%2=(mu a n+mu b n)%2:=by
 have r:n/2=h:=by omega
 unfold mu;rw[r,YU (g:=fl b n) (q:=λk=>fl a n (ab b n k)) λk s=>agk j m f (rH.1 s)];have e:(eK h).map (λk=>fl a n (ab b n k))=((eK h).map (ab b n)).map (fl a n):=by rw[zK];rfl
 rw[e,YS ((NV j f).map (fl a n))];omega
def YT(c):∀m:Nat,dL ((eK m).map λk=>if c<k then 1 else 0)=m-c:=by
 intro m
 induction m with
 |zero=>simp[eK,dL]|succ m f=>
  rw[XE,jB,YR,f];simp only[eD,uz,dL]
  grind
def asG(c):∀m:Nat,dL ((eK m).map λk=>if k<=c then 1 else 0)=min c m:=by
 intro m
 induction m with
 |zero=>simp[eK,dL]|succ m f=>
  rw[XE,jB,YR,f];simp only[eD,uz,dL]
  grind
def IZ{f g}:∀{l:List Nat},(∀k∈l,f k=g k)->dL (l.map f)=dL (l.map g):=by
 intro l
 induction l with
 |nil=>simp_all|cons x l m=>intro j;simp only[eD,dL];simp_all
def ak5(m:n=2*h+1):mu 2 n=h-h/2:=by
 have f:n/2=h:=by omega
 unfold mu;rw[f,<-YT (h/2) h];refine IZ λk j=>?_;have:=rH.1 j;unfold fl;rw[mA M]
 grind
def ak4(m:n=2*h+1):mu 1 n=0:=by
 have f:n/2=h:=by omega
 unfold mu;rw[f];have:(eK h).map (fl 1 n)=(eK h).map λk=>if h<k then 1 else 0:=by
  apply Cl;intro k j;have:=rH.1 j;unfold fl;rw[zN,mA M]
  grind
 rw[this,YT];omega
def ak2:mu (a%n) n=mu a n:=by unfold mu;refine IZ λk _=>?_;unfold fl;simp_all
def V'(q:n=2*h+1)(j:my a n)(f:a%2=1):mu a n%2=dL ((eK h).map λk=>a*k/n)%2:=by
 have m:n/2=h:=by omega
 have step:∀k∈eK h,fl a n k%2=((a*k/n)+(ab a n k+k))%2:=by
  intro k _;have r:=aaH (a*k) n;have s:=jU (a*k) (M:0<n);have A:a*k%2=k%2:=by rw[rf,f];simp
  have B:n*(a*k/n)%2=(a*k/n)%2:=by rw[rf,(M:n%2=1)];simp
  generalize n*(a*k/n)=u at *
  generalize a*k/n=v at *
  unfold fl ab;generalize a*k%n=C at *
  grind
 unfold mu;rw[m,YU step];have e:dL ((eK h).map λk=>ab a n k+k)=dL ((eK h).map (ab a n))+dL ((eK h).map λk=>k):=by
  generalize eK h=l
  induction l with
  |nil=>rfl|cons x l z=>simp only[eD,dL];omega
 rw[e,YS (NV q j),List.map_id'];omega
end
def agz(f:Nat->Nat->Nat):∀(l m:List Nat),dL (l.map λk=>dL (m.map λj=>f k j))=dL (m.map λj=>dL (l.map λk=>f k j)):=by
 intro l m
 induction l with
 |nil=>
  simp only[uz,dL]
  induction m with
  |nil=>rfl|cons x m q=>simp only[eD,dL];omega
 |cons x l q=>
  simp only[eD,dL];rw[q];clear q
  induction m with
  |nil=>rfl|cons y m q=>simp only[eD,dL];omega
def S1{m n g h k}(q:n=2*h+1)(j:m=2*g+1)(f:k<=h):m*k/n=dL ((eK g).map λl=>if n*l<=m*k then 1 else 0):=by
 have r:m*k/n<=g:=by
  have:m*k/n<g+1:=by rw[Nat.div_lt_iff_lt_mul M];have s:m*k<=m*h:=Nat.mul_le_mul_left m f;have h2:(g+1)*n=m*h+(g+1+h):=(by subst q j;simp only[jh,Qe,jC,zN];have:g*(2*h)=2*g*h:=(by grind);omega);omega
  omega
 have:(eK g).map (λl=>if n*l<=m*k then 1 else 0)=(eK g).map λl=>if l<=m*k/n then 1 else 0:=by
  apply Cl;intro l _;have:(n*l<=m*k)↔l<=m*k/n:=by rw[Nat.le_div_iff_mul_le M,Qg]
  simp only[this]
 rw[this,asG];omega
def ajV{m n g h}(E:n=2*h+1)(D:m=2*g+1)(T:my m n):
 dL ((eK h).map λk=>m*k/n)+dL ((eK g).map λl=>n*l/m)=h*g:=by
 have N:dL ((eK h).map λk=>m*k/n)=dL ((eK h).map λk=>dL ((eK g).map λl=>if n*l<=m*k then 1 else 0)):=
  IZ λk q=>S1 E D (rH.1 q).2
 have S:dL ((eK g).map λl=>n*l/m)=dL ((eK g).map λl=>dL ((eK h).map λk=>if m*k<=n*l then 1 else 0)):=
  IZ λl r=>S1 D E (rH.1 r).2
 rw[N,S,agz (λl k=>if m*k<=n*l then 1 else 0)];have one:∀k∈eK h,∀l∈eK g,(if n*l<=m*k then 1 else 0)+(if m*k<=n*l then 1 else 0)=1:=by
  intro k q l r;have q:=rH.1 q;have Y:m*k≠n*l:=λZ=>by have X:n∣m*k:=⟨l,Z⟩;have:=(JQ T).dvd_of_dvd_mul_left X;have:=zL M this;omega
  grind
 have z:∀(k:Nat) (j:List Nat),k∈eK h->(∀l∈j,l∈eK g)->dL (j.map λl=>if n*l<=m*k then 1 else 0)+dL (j.map λl=>if m*k<=n*l then 1 else 0)=F j:=by
  intro k j q
  induction j with
  |nil=>intro _;rfl|cons x j B=>intro s;have C:=one k q x (s x gx);have h2:=B λl r=>s l (gj _ r);simp only[eD,dL,dY];omega
 have A:∀(f:List Nat),(∀k∈f,k∈eK h)->dL (f.map λk=>dL ((eK g).map λl=>if n*l<=m*k then 1 else 0))+dL (f.map λk=>dL ((eK g).map λl=>if m*k<=n*l then 1 else 0))=F f*g:=by
  intro f
  induction f with
  |nil=>intro _;simp[dL]|cons x f B=>intro s;have C:=z x (eK g) (s x gx) (λ_ h=>h);rw[Oh]at C;have h2:=B λl r=>s l (gj _ r);simp only[eD,dL,dY,jh,zN];omega
 have:=A (eK h) (λ_ h=>h);rw[Oh]at this;omega
def anF{m n g h}(q:n=2*h+1)(j:m=2*g+1)(f:my m n):(mu m n+mu n m)%2=h*g%2:=by have r:=V' q f M;have s:=V' j f.symm M;have:=ajV q j f;omega
end Go.NT
end
section
namespace Go.NT
def NO:∀c:Nat,(1:Int)^c=1:=by
 grind
def u_(p:Nat):Prop:=2<=p/\∀d,d∣p->d=1∨d=p
def u_.coprime{p k}(m:u_ p)(f:0<k)(r:k<p):Nat.Coprime k p:=by
 have j:Nat.gcd k p∣p:=Nat.gcd_dvd_right k p;rcases m.2 _ j with q|q
 .exact q
 .have:=zL f (Nat.gcd_dvd_left k p);omega
def amO(a):∀l:List Nat,lN (l.map λ(k:Nat)=>a*(k:Int))=a^F l*lN (l.map λ(k:Nat)=>(k:Int)):=by
 intro l
 induction l with
 |nil=>simp_all|cons x l f=>
  simp only[eD,lN,f,dY,vZ]
  grind
def amP(f)(g):∀l:List Nat,lN (l.map λk=>(-1)^f k*g k)=(-1)^dL (l.map f)*lN (l.map g):=by
 intro l
 induction l with
 |nil=>simp[lN,dL]|cons x l j=>
  simp only[eD,lN,dL,j,PU]
  grind
def amN{p}{f g}:∀{l:List Nat},(∀k∈l,p∣f k-g k)->p∣lN (l.map f)-lN (l.map g):=by
 intro l
 induction l with
 |nil=>simp_all|cons x l r=>
  intro h;have m:=h x gx;have h2:=r λk q=>h k (gj _ q);simp only[eD,lN];generalize lN (l.map f)=j at *
  generalize lN (l.map g)=G at *
  have e:f x*j-g x*G=(f x-g x)*j+g x*(j-G):=by rw[PW,ZY];omega
  rw[e];exact PE (Int.dvd_mul_of_dvd_left m) (ZT h2)
def cancel{p}(s:u_ p):∀(l:List Nat) (x:Int),(∀k∈l,0<k/\k<p)->(p:Int)∣x*lN (l.map λ(k:Nat)=>(k:Int))->(p:Int)∣x:=by
 intro l
 induction l with
 |nil=>intro x _ h;simpa [lN] using h|cons k l z=>
  intro x f h;obtain⟨m,q⟩:=f k gx;refine z x (λA r=>f A (gj _ r)) ?_;simp only[eD,lN]at h;rw[Int.mul_left_comm]at h;generalize x*lN (l.map λ(k:Nat)=>(k:Int))=y at *
  have j:=ZZ.2 h;rw[Int.natAbs_mul,Z3,Z3]at j;have:=(s.coprime m q).symm.dvd_of_dvd_mul_left j;exact ZZ.1 (by simp_all)
def Tf{p h a}(A:u_ p)(z:p=2 * h+1)(r:Nat.Coprime a p):(p:Int)∣(a:Int)^h - (-1)^mu a p:=by
 have C:p/2=h:=by omega
 have step:∀k∈eK h,(p:Int)∣(a:Int) * (k:Int) - (-1)^fl a p k * (ab a p k:Int):=by
  intro k _;have B:=aaH (a * k) p;have E:=jU (a * k) (M:0<p);have f:(a:Int) * (k:Int)=(p:Int) * ((a * k/p:Nat):Int)+((a * k%p:Nat):Int):=by omega
  unfold fl ab;by_cases m:p<2 * (a * k%p)
  .rw[av m,av m,f];have e:((p - a * k%p:Nat):Int)=(p:Int) - ((a * k%p:Nat):Int):=(by omega);rw[e];refine⟨((a * k/p:Nat):Int)+1,?_⟩
   grind
  .rw[aP m,aP m,f];refine⟨((a * k/p:Nat):Int),?_⟩;omega
 have j:=amN step;rw[amO,amP,Oh] at j;have q:(eK h).map (λk=>(ab a p k:Int))=((eK h).map (ab a p)).map λ(k:Nat)=>(k:Int):=by rw[zK];rfl
 rw[q,amM ((NV z r).map λ(k:Nat)=>(k:Int)),<-PW] at j;have:=cancel A (eK h) _ (λk s=>by have:=rH.1 s;omega) j;unfold mu;simp_all
def afY{p h a}(q:u_ p)(C:p=2*h+1)(z:0<a)(A:a<p):(a^h%p=1)↔mu a p%2=0:=by
 have f:=Tf q C (q.coprime z A);have E:=q.1;have s:((a^h:Nat):Int)=(a:Int)^h:=by simp
 rw[<-s]at f;constructor
 .intro N;rcases Cu (mu a p) with r|r
  .exact r
  .exfalso;have:((-1:Int))^mu a p= -1:=(by obtain⟨c,j⟩:∃c,mu a p=2*c+1:=⟨mu a p/2,by omega⟩;rw[j,vZ,Fj];simp[NO]);rw[this]at f;have m:p∣a^h+1:=(by have e:((a^h:Nat):Int) - -1=((a^h+1:Nat):Int):=(by omega);rw[e]at f;exact PS.1 f);have:=Nat.mod_eq_zero_of_dvd m;rw[Qc,N]at this;have B:1%p=1:=mA M;rw[B]at this;have:p∣2:=Cs this;have:=zL M this;omega
 .intro r;have:((-1:Int))^mu a p=1:=by obtain⟨c,j⟩:∃c,mu a p=2*c:=⟨mu a p/2,by omega⟩;rw[j,Fj];simp[NO]
  rw[this]at f;have D:0<a^h:=JX z;have m:p∣a^h-1:=by have e:((a^h:Nat):Int)-1=((a^h-1:Nat):Int):=(by omega);rw[e]at f;exact PS.1 f
  obtain⟨c,j⟩:=m;have:a^h=p*c+1:=by omega
  rw[this,aaM,mA M]
def asd{x n}(q:n%2=1)(f:my (2*x) n):mu (2*x) n%2=(mu x n+(if n%8=3∨n%8=5 then 1 else 0))%2:=by
 have j:n=2*(n/2)+1:=by omega
 have h2:my 2 n:=Nat.Coprime.coprime_mul_right f;have m:my x n:=aaD f;rw[ak3 j h2 m,ak5 j]
 grind
def asf{x n}(q:n%2=1)(r:x%2=1)(f:my x n):mu x n%2=(mu (n%x) x+(if x%4=3/\n%4=3 then 1 else 0))%2:=by
 have m:n=2*(n/2)+1:=by omega
 have j:x=2*(x/2)+1:=by omega
 have h:=anF m j f;rw[ak2];have e:(n/2)*(x/2)%2=(if x%4=3/\n%4=3 then 1 else 0):=by
  rw[rf]
  grind
 omega
def ae4{x n}(f:my x n):my (n%x) x:=by
 unfold my at *
 rw[<-Nat.gcd_rec,f]
def Bg(p:Nat):Nat->Nat->Bool
 |0,f=>Nat.blt 0 (p%f)
 |k+1,f=>Bg p k f&&Bg p k (f+2^k)
def alk{p}:∀{k lo:Nat},Bg p k lo=V->∀d,lo<=d->d<lo+2^k->p%d≠0:=by
 intro k
 induction k with
 |zero=>
  intro lo h d f h2;have:d=lo:=by simp at h2;omega
  subst this;unfold Bg at h;have:1<=p%d:=by simpa [Nat.blt] using h
  omega
 |succ k j=>
  intro lo h d f h2;unfold Bg at h;rw[bm]at h;rw[xC]at h2
  grind
def Vf{p k}(h2:2<=p)(h:Bg p k 2=true)(N:p<(2^k+2) * (2^k+2)):u_ p:=by
 refine⟨h2,λd z=>?_⟩;obtain⟨e,f⟩:=z;have B:d≠0:=by rintro rfl;simp at f;omega
 have D:e≠0:=by rintro rfl;simp at f;omega
 by_cases C:d=1
 .omega
 by_cases E:e=1
 .simp_all
 exfalso;have s:∀{x y:Nat},p=x * y->2<=x->x<2+2^k->False:=by intro x y m A j;exact alk h x A j (by rw[m,Nat.mul_mod_right])
 rcases dp d (2+2^k) with q|q
 .grind
 .rcases dp e (2+2^k) with r|r
  .exact s (by rw[f,Qg]) M r
  .have:=ji q r
   grind
def P:Nat:=2147483579
def Q:Nat:=1073741789
def Qo:u_ P:=Vf (k:=16) aY (by decide+kernel) aY
def aa0:u_ Q:=Vf (k:=15) aY (by decide+kernel) aY
end Go.NT
end
section
namespace Go.NT
def Au:Nat->Nat->Nat->Nat->Nat->Nat
 |0,_,_,_,c=>c
 |k+1,f,a,n,c=>if n=0 then c else Au k f (a*a%f) (n/2) (if n%2=1 then c*a%f else c)
def F8{m}(A:0<m):∀{k a n c:Nat},n<2^k->c<m->Au k m a n c=c*a^n%m:=by
 intro k
 induction k with
 |zero=>
  intro a n c j f;have:n=0:=by simp at j;exact j
  subst this;simp[Au,mA f]
 |succ k z=>
  intro a n c j f;unfold Au;by_cases s:n=0
  .subst s;simp[mA f]
  .rw[aP s];have q:n/2<2^k:=(by rw[xC]at j;omega);have r:∀e,(a*a%m)^e%m=a^(2*e)%m:=λe=>(by rw[<-JW,Qj,Qk]);split
   .rename_i B;rw[z q (jU _ A),rf,r,Nat.mod_mod,<-rf,Qf,<-aaS,show(2*(n/2)).succ=n by omega]
   .rename_i B;rw[z q f,rf,r,<-rf,(M:2*(n/2)=n)]
def py(a n:Nat):Nat:=Au 31 P a n 1
def NX{a n}(f:n<2^31):py a n=a^n%P:=by unfold py;rw[F8 aY f aY,zN]
def elem(x:Nat):Bool:=decide (1<=x)&&decide (x<P)&&gX (py x Q) 1
def elem_iff{x}:elem x=V↔1<=x/\x<P/\x^Q%P=1:=by unfold elem;rw[NX aY];simp only[bm,decide_eq_true_eq];exact⟨λh=>⟨h.1.1,h.1.2,kU h.2⟩,λh=>⟨⟨h.1,h.2.1⟩,by simp_all⟩⟩
def afB{x}(j:1<=x)(f:x<P):elem x=decide (mu x P%2=0):=by have:=afY Qo (h:=Q) (a:=x) aY M f;rw[Jj,elem_iff,decide_eq_true_eq,<-this];omega
def F3:elem 1=V:=by rw[elem_iff];exact⟨aY,by decide,by rw[Nat.one_pow];rfl⟩
def CW{x y}(j:elem x=V)(m:elem y=V):elem (x*y%P)=V:=by
 rw[elem_iff]at *
 obtain⟨r,s,x3⟩:=j;obtain⟨z,A,y3⟩:=m;have f:(x*y%P)^Q%P=1:=by rw[<-JW,Nat.mul_pow,rf,x3,y3];rfl
 refine⟨?_,jU _ aY,f⟩;rcases JS (x*y%P) with q|q
 .rw[q]at f;have:(0:Nat)^Q=0:=Nat.zero_pow aY;simp_all
 omega
def afC{x}(f:elem x=V)(n):elem (x^n%P)=V:=by
 induction n with
 |zero=>exact F3|succ n j=>
  have:=CW j f
  rwa [aaL,<-xC]at this
end Go.NT
end
section
namespace Go.NT
def Qi:Int:=1073741789
def fmod(n:Int):Int:=n%Qi
def dx(a b:Int):Int:=(fmod a+fmod b)%Qi
def cS(a b:Int):Int:=fmod a*fmod b%Qi
def ea(n:Int):Int:=((Au 31 Q (fmod n).toNat (Q-2) 1:Nat):Int)
def okF(x:Int):Prop:=0<=x/\x<Qi
def J6:(0:Int)<Qi:=by decide
def zS:Qi=(Q:Int):=rfl
def Gd(n):okF (fmod n):=⟨PK _ aY,PJ _ J6⟩
def Av{x}(h:okF x):fmod x=x:=ZV h.1 h.2
def CX(a b):dx a b=(a+b)%Qi:=by unfold dx fmod;simp_all
def tq(a b):cS a b=a*b%Qi:=by unfold cS fmod;rw[<-zG]
def SN(a b):okF (dx a b):=⟨PK _ aY,PJ _ J6⟩
def CZ(a b):okF (cS a b):=⟨PK _ aY,PJ _ J6⟩
def Bi:okF 0:=by unfold okF;decide
def SO{x}(h:okF x):dx x 0=x:=by rw[CX,Int.add_zero,<-fmod];exact Av h
def agp(n):cS n 0=0:=by rw[tq,Jx];rfl
def auk(n):cS 0 n=0:=by rw[tq,PY];rfl
def iL(n x y:Int):Int:=dx x (-(cS n y))
def Gc(n x y):iL n x y=(x-n*y)%Qi:=by unfold iL;rw[CX,tq,<-Int.sub_eq_add_neg,Z8,PI _ (PG _),<-Z8]
def agm(n x y):okF (iL n x y):=SN _ _
def Ld{n x}(h:okF x):iL n x 0=x:=by unfold iL;rw[agp,Z6];exact SO h
def ago{x y}(h:okF x):iL 0 x y=x:=by unfold iL;rw[auk,Z6];exact SO h
def agn(n y):iL (-n) 0 y=cS y n:=by rw[Gc,tq,Z5,Int.sub_neg,Z_,PO]
def af3{p h a}(f:u_ p)(B:p=2*h+1)(m:0<a)(s:a<p):a^(p-1)%p=1:=by
 have A:=Tf f B (f.coprime m s);have D:=f.1;have h2:(p:Int)∣(a:Int)^(2*h)-1:=by
  obtain⟨c,q⟩:=A;have e:((-1:Int)^mu a p)*((-1:Int)^mu a p)=1:=by rw[<-PU,(M:mu a p+mu a p=2*mu a p),Fj];simp[NO]
  have r:(a:Int)^(2*h)=(a:Int)^h*(a:Int)^h:=by rw[<-PU,(M:2*h=h+h)]
  refine⟨c*((a:Int)^h+(-1)^mu a p),?_⟩;rw[<-ZX,<-q,PW,PN,PN,r,PO ((-1)^mu a p) ((a:Int)^h),e];omega
 rw[(M:p-1=2*h)];have C:0<a^(2*h):=JX m;have j:((a^(2*h):Nat):Int)=(a:Int)^(2*h):=by simp
 rw[<-j]at h2;have z:p∣a^(2*h)-1:=by
  have e:((a^(2*h):Nat):Int)-1=((a^(2*h)-1:Nat):Int):=by omega
  rw[e]at h2;exact PS.1 h2
 obtain⟨c,q⟩:=z;have:a^(2*h)=p*c+1:=by omega
 rw[this,aaM,mA M]
def KZ(n):okF (ea n):=by unfold ea okF;rw[F8 aY aY aY];exact⟨M,by rw[zS];exact Z7.2 (jU _ aY)⟩
def S5{x}(h:okF x)(m:x≠0):cS x (ea x)=1:=by
 obtain⟨n,rfl⟩:∃n:Nat,x=n:=⟨x.toNat,by have:=h.1;omega⟩;have j:n<Q:=by have:=h.2;rw[zS]at this;exact Z7.1 this
 have f:=af3 (h:=536870894) aa0 aY (M:0<n) j;unfold ea;rw[Av h,fh,F8 aY aY aY,zN,tq,zS,<-Cf,<-Z4,aaO,Qg,<-xC,
  (aY:(Q-2).succ=Q-1),f]
 rfl
def ag(l:List Int)(i:Nat):Int:=l.getD i 0
def gQ(n:Int)(a b:List Int):List Int:=Ft (iL n) a b
def rn(c:Nat)(a own:List Int):List Int:=if ag a c=0 then a else a.take c++gQ (ag a c) (a.drop c) (own.drop c)
def gh(c:Nat)(a:List Int)(n:Int):List Int:=a.take c++(a.drop c).map (cS · n)
def scaleB(a:List Int)(n:Int):List Int:=gQ (-n) (bB (F a) 0) a
def mH(t:List (List Int))(r c:Nat):Option Nat:=(bZ (F t)).find? λk=>decide (r<=k)&& !(decide (ag (t.getD k []) c=0))
def uo(st:List (List Int) × List Nat)(c:Nat):List (List Int) × List Nat:=
 match mH st.1 (F st.2) c with
 |none=>st
 |some k=>
  let f:=gh c (st.1.getD k []) (ea (ag (st.1.getD k []) c))
  let t1:=(st.1.set k (st.1.getD (F st.2) [])).set (F st.2) f
  (t1.mapIdx λi a=>if i=F st.2 then f else rn c a f,st.2++[c])
def lT(st:List (List Int) × List Nat)(c:Nat):List (List Int) × List Nat:=
 match mH st.1 (F st.2) c with
 |none=>st
 |some k=>
  let f:=scaleB (st.1.getD k []) (ea (ag (st.1.getD k []) c))
  let t1:=st.1.set k (st.1.getD (F st.2) [])
  ((t1.map λa=>gQ (ag a c) a f).set (F st.2) f,st.2++[c])
def By(t:List (List Int))(many:Nat):List (List Int) × List Nat:=(bZ many).foldl uo (t,[])
def gT(t:List (List Int))(many:Nat):List (List Int) × List Nat:=(bZ many).foldl lT (t,[])
structure sJ(w c:Nat)(st:List (List Int) × List Nat):Prop where
 len:∀a∈st.1,a.length=w
 ok:∀a∈st.1,∀x∈a,okF x
 zero:∀i a,st.2.length<=i->st.1[i]?=J a->∀j,j<c->ag a j=0
def fS{l}{i}(h):ag l i=l[i]:=by unfold ag;simp_all
def nZ{l}(h:∀x∈l,okF x)(i):okF (ag l i):=by
 unfold ag;rw[eG];rcases dp i (F l) with q|q
 .simp_all
 .rw[uy q];exact Bi
def ug{a b}(j:F a=F b)(h:∀i,i<F a->ag a i=ag b i):a=b:=by apply Fm j;intro i f h2;rw[<-fS f,<-fS h2];simp_all
def sS{n}{a b}(j:F a=F b){i}(hi:i<F a):ag (gQ n a b) i=iL n (ag a i) (ag b i):=by
 unfold gQ;have f:i<F (Ft (iL n) a b):=by rw[List.length_zipWith];omega
 rw[fS f,aam,fS hi,fS M]
def rG{n}{a b}(f:F a=F b):F (gQ n a b)=F a:=by unfold gQ;simp_all
def zY{a x}{c}(f:c<=F a)(i):ag (a.take c++x) i=if i<c then ag a i else ag x (i-c):=by
 unfold ag
 grind
def FH(a)(c i):ag (a.drop c) i=ag a (c+i):=by unfold ag;simp_all
def aeu{c}{a own}(f:F a=F own)(B:c<F a)(r:∀x∈a,okF x)(z:∀j,j<c->ag own j=0):rn c a own=gQ (ag a c) a own:=by
 unfold rn;split
 .rename_i h;rw[h];refine(ug (rG f) λi m=>?_).symm;rw[rG f]at m;rw[sS f m,ago (nZ r i)]
 .have q:F (a.drop c)=F (own.drop c):=by simp[f]
  refine ug ?_ λi m=>?_
  .rw[cg,rG q,rG f,cR,ev];omega
  .have s:i<F a:=(by rw[cg,rG q,cR,ev]at m;omega);rw[zY M,sS f s];split
   .rename_i A;rw[z i A,Ld (nZ r i)]
   .rename_i A;rw[sS q (by grind),FH,FH,(M:c+(i-c)=i)]
def IN{c}{a}{n}(q:c<=F a)(z:∀j,j<c->ag a j=0):gh c a n=scaleB a n:=by
 unfold gh scaleB;have f:F (bB a.length (0:Int))=F a:=by simp
 refine ug ?_ λi r=>?_
 .rw[rG f,cg,br,cR,ev,f];omega
 .have A:i<F a:=by rw[cg,br,cR,ev]at r;omega
  have m:ag (bB (F a) (0:Int)) i=0:=by rw[fS M];simp
  rw[zY q,sS f M,m,agn];split
  .rename_i B;rw[z i B,tq,PY];rfl
  .rename_i B;have s:i-c<F ((a.drop c).map (cS · n)):=(by rw[br,ev];omega);rw[fS s,sH,P7,<-fS (M:c+(i-c)<F a),(M:c+(i-c)=i)]
end Go.NT
end
section
namespace Go.NT
def xZ{t}{r c k}(h:mH t r c=J k):k<F t/\r<=k/\ag (t.getD k []) c≠0:=by
 unfold mH at h
 grind
def SR{t}{r c}(h:mH t r c=af){k}(f:k<F t)(j:r<=k):ag (t.getD k []) c=0:=by unfold mH at h;simp_all
def mI{t:List (List Int)}{k}(f):t.getD k []=t[k]:=by simp_all
section
variable {w c:Nat} {st:List (List Int) × List Nat}
structure Own(w c:Nat)(own:List Int):Prop where
 len:own.length=w
 ok:∀x∈own,okF x
 zero:∀j,j<c->ag own j=0
 one:ag own c=1
def HM{a:List Int}(B:F a=w)(A:c<w)(r:∀x∈a,okF x)(C:∀j,j<c->ag a j=0)(m:ag a c≠0):Own w c (gh c a (ea (ag a c))):=by
 refine⟨?_,?_,?_,?_⟩
 .unfold gh;grind
 .intro x f;unfold gh at f;rcases List.mem_append.1 f with q|q
  .grind
  .obtain⟨y,-,rfl⟩:=iV.1 q;exact CZ _ _
 .intro j s;unfold gh;rw[zY M,av s];simp_all
 .unfold gh;rw[zY M,aP M];have z:c-c<F ((a.drop c).map (cS · (ea (ag a c)))):=by rw[br,ev];omega
  rw[fS z,sH,P7];have e:a[c+(c-c)]' M=ag a c:=by rw[fS M];congr 1;omega
  rw[e];exact S5 (nZ r c) m
def YG(R:sJ w c st)(r:c<w):uo st c=lT st c:=by
 unfold uo lT;cases B:mH st.1 (F st.2) c with
 |none=>rfl|some k=>
  obtain⟨f,D,z⟩:=xZ B;rw[mI f]at z;have C:=R.len _ (iP f);have s:=R.ok _ (iP f);have j:=R.zero k _ D (aN f);simp only[mI f];have N:=HM C r s j z;rw[<-IN M j];generalize gh c st.1[k] (ea (ag st.1[k] c))=T at *
  congr 1;apply Fm
  .simp
  .intro i A h2;rw[List.getElem_mapIdx];by_cases m:i=F st.2
   .simp_all
   .rw[aP m,P8 (λE=>m E.symm),P8 (λE=>m E.symm),sH];have S:i<F st.1:=(by simpa using A);have q:(st.1.set k (st.1.getD (F st.2) []))[i]'(by simp_all)∈st.1:=by
     rw[Ck];split
     .grind
     .simp_all
    exact aeu ((R.len _ q).trans N.len.symm) (by rw[R.len _ q];exact r) (R.ok _ q) N.zero
def IW(R:sJ w c st)(hc:c<w):sJ w (c+1) (lT st c):=by
 unfold lT;cases N:mH st.1 (F st.2) c with
 |none=>
  refine⟨R.len,R.ok,λi a A f m B=>?_⟩;rcases dp m c with q|q
  .exact R.zero i a A f m q
  .have:m=c:=(by omega);subst this;have r:=(aS.1 f).1;have:=SR N r A;simp_all
 |some k=>
  obtain⟨s,k2,Y⟩:=xZ N;rw[mI s]at Y;have hk:=R.len _ (iP s);have S:=R.ok _ (iP s);have C:=R.zero k _ k2 (aN s);simp only[mI s];have E:=HM hk hc S C Y;rw[<-IN M C];generalize gh c st.1[k] (ea (ag st.1[k] c))=own at *
  have D:F st.2<F st.1:=by omega
  have j:∀a∈st.1.set k (st.1.getD (F st.2) []),a∈st.1:=λa f=>by
   grind
  refine⟨λa f=>?_,λa f=>?_,λi a A f m B=>?_⟩
  .rcases uB f with q|q
   .obtain⟨b,z,rfl⟩:=iV.1 q;have:=R.len _ (j b z);rw[rG (this.trans E.len.symm)];omega
   .rw[q];exact E.len
  .rcases uB f with q|q
   .obtain⟨b,z,rfl⟩:=iV.1 q;intro x X;unfold gQ at X;obtain⟨i,h1,rfl⟩:=wc.1 X;rw[aam];exact agm _ _ _
   .rw[q];exact E.ok
  .simp only[cg,List.length_singleton]at A;have T:F st.2≠i:=(by omega);rw[JG T,dW]at f;have r:i<F st.1:=by
    rcases dp i (F st.1) with q|q
    .exact q
    .simp_all
   rw[aN (by simp_all),fk,dt]at f;have z:∃b,(st.1.set k (st.1.getD (F st.2) []))[i]'(by simp_all)=b/\F b=w/\(∀x∈b,okF x)/\∀m,m<c->ag b m=0:=by
    refine⟨_,O,R.len _ (j _ (iP _)),R.ok _ (j _ (iP _)),λm B=>?_⟩;rw[Ck];split
    .rw[mI D];exact R.zero (F st.2) _ (aV _) (aN D) m B
    .exact R.zero i _ M (aN r) m B
   obtain⟨b,e,Z,b2,b3⟩:=z;rw[e]at f;subst f;rw[sS (Z.trans E.len.symm) M];rcases dp m c with q|q
   .rw[b3 m q,E.zero m q,Ld Bi]
   .have:m=c:=(by omega);subst this;rw[E.one,Gc,Jw,PX];rfl
end
def anJ{t}{w many}(j:∀a∈t,F a=w)(m:∀a∈t,∀x∈a,okF x)(z:many<=w):By t many=gT t many:=by
 unfold By gT;have r:∀n,n<=w->(bZ n).foldl uo (t,[])=(bZ n).foldl lT (t,[])/\sJ w n ((bZ n).foldl lT (t,[])):=by
  intro n
  induction n with
  |zero=>intro _;exact⟨O,j,m,λ_ _ _ _ B s=>by omega⟩|succ n q=>intro A;obtain⟨f,h2⟩:=q M;rw[jT,oj,oj,f];simp only[JF,Cj];exact⟨YG h2 M,IW h2 M⟩
 simp_all
end Go.NT
end
section
namespace Go.NT
def gU:List Int->Int
 | []=>0
 |x::l=>x+gU l
def asD(l m):gU (l++m)=gU l+gU m:=by
 induction l with
 |nil=>simp[gU]|cons x l f=>simp only[eu,gU,f];omega
def dot(y row:List Int):Int:=gU ((bZ (F y)).map λi=>ag y i*ag row i)
def res(y row:List Int):Int:=dot y row-ag row (F y)
def Sat(y row:List Int):Prop:=Qi∣res y row
def asH{f g q}{n}:∀{l:List Nat},(∀i∈l,Qi∣f i-(g i-n*q i))->Qi∣gU (l.map f)-(gU (l.map g)-n*gU (l.map q)):=by
 intro l
 induction l with
 |nil=>intro _;simp[gU]|cons x l r=>
  intro h;have j:=h x gx;have h2:=r λi m=>h i (gj _ m);simp only[eD,gU,PN];have e:f x+gU (l.map f)-(g x+gU (l.map g)-(n*q x+n*gU (l.map q)))=(f x-(g x-n*q x))+(gU (l.map f)-(gU (l.map g)-n*gU (l.map q))):=by omega
  rw[e];exact PE j h2
def S0(n x y):Qi∣iL n x y-(x-n*y):=by
 rw[Gc];have:=ZU (x-n*y) Qi;refine⟨-((x-n*y)/Qi),?_⟩
 grind
def XA{n}{y a b}(j:F a=F b)(q:F y<F a):Qi∣res y (gQ n a b)-(res y a-n*res y b):=by
 have m:Qi∣dot y (gQ n a b)-(dot y a-n*dot y b):=by
  unfold dot;refine asH λi f=>?_;have f:=hy.1 f;rw[sS j M];obtain⟨c,r⟩:=S0 n (ag a i) (ag b i);refine⟨ag y i*c,?_⟩;have:ag y i*iL n (ag a i) (ag b i)-(ag y i*ag a i-n*(ag y i*ag b i))=ag y i*(iL n (ag a i) (ag b i)-(ag a i-n*ag b i)):=by
   grind
  grind
 have h2:Qi∣ag (gQ n a b) (F y)-(ag a (F y)-n*ag b (F y)):=by rw[sS j q];exact S0 _ _ _
 unfold res;have e:dot y (gQ n a b)-ag (gQ n a b) (F y)-(dot y a-ag a (F y)-n*(dot y b-ag b (F y)))=(dot y (gQ n a b)-(dot y a-n*dot y b))-(ag (gQ n a b) (F y)-(ag a (F y)-n*ag b (F y))):=by rw[ZY];omega
 rw[e];exact PH m h2
def aqZ{n}{y a b}(m:F a=F b)(q:F y<F a)(f:Sat y (gQ n a b))(h2:Sat y b):Sat y a:=by
 unfold Sat at *
 have j:=XA (n:=n) m q;have e:res y a=res y (gQ n a b)-(res y (gQ n a b)-(res y a-n*res y b))+n*res y b:=by omega
 rw[e];exact PE (PH f j) (ZT h2)
def anY(y)(n):res y (bB n 0)=0:=by
 have f:∀i,ag (bB n (0:Int)) i=0:=λi=>by
  unfold ag
  grind
 unfold res dot;simp only[f,Jx];generalize bZ (F y)=l
 induction l with
 |nil=>rfl|cons x l j=>simp only[eD,gU];omega
def aq0{y a}{x}(A:F y<F a)(r:okF x)(j:x≠0)(h:Sat y (scaleB a (ea x))):Sat y a:=by
 unfold Sat scaleB at *
 have f:=XA (n:= -(ea x)) (y:=y) (a:=bB (F a) (0:Int)) (b:=a) b7 (by simp_all);rw[anY]at f;have h2:Qi∣ea x*res y a:=by
  have e:ea x*res y a=res y (gQ (-(ea x)) (bB (F a) 0) a)-(res y (gQ (-(ea x)) (bB (F a) 0) a)-(0 - -(ea x)*res y a)):=by rw[Z5];omega
  rw[e];exact PH h f
 have m:Qi∣x*ea x-1:=by have:=S5 r j;rw[tq]at this;have q:=ZU (x*ea x) Qi;rw[this]at q;exact⟨x*ea x/Qi,by omega⟩
 obtain⟨c,s⟩:=h2;obtain⟨d,z⟩:=m;refine⟨x*c-d*res y a,?_⟩
 grind
section
variable {w c:Nat} {st:List (List Int) × List Nat}
def asl{y:List Int}(R:sJ w c st)(Y:c<w)(E:F y<w)(h:∀a∈(lT st c).1,Sat y a):∀a∈st.1,Sat y a:=by
 unfold lT at h;cases r:mH st.1 (F st.2) c with
 |none=>simp_all|some k=>
  rw[r]at h;obtain⟨f,k2,q⟩:=xZ r;rw[mI f]at q;simp only[mI f]at h;have Z:=R.len _ (iP f);have j:=R.ok _ (iP f);have m:=R.zero k _ k2 (aN f);have z0:=HM Z Y j m q;have N:F st.2<F st.1:=by omega
  have S:=IN (n:=ea (ag st.1[k] c)) (M:c<=F st.1[k]) m;rw[mI N]at h;have C:Sat y (scaleB st.1[k] (ea (ag st.1[k] c))):=h _ (wc.2 ⟨F st.2,by simp_all,by simp_all⟩);have D:∀i (s:i<F st.1),i≠F st.2->Sat y ((st.1.set k st.1[st.2.length])[i]'(by simp_all)):=λi s B=>by
   have z:=h ((((st.1.set k st.1[st.2.length]).map λa=>gQ (ag a c) a (scaleB st.1[k] (ea (ag st.1[k] c)))).set (F st.2) (scaleB st.1[k] (ea (ag st.1[k] c))))[i]'(by simp_all)) (iP _);rw[P8 (λz1=>B z1.symm),sH]at z;have A:F ((st.1.set k st.1[st.2.length])[i]'(by simp_all))=w:=by
    rw[Ck];split
    .exact R.len _ (iP _)
    .exact R.len _ (iP _)
   refine aqZ ?_ M z C;rw[A,<-S,z0.len]
  intro a X;obtain⟨i,s,rfl⟩:=wc.1 X;by_cases T:i=k
  .subst T;exact aq0 M (nZ j c) q C
  grind
end
end Go.NT
end
section
namespace Go.NT
structure zQ(c:Nat)(st:List (List Int) × List Nat):Prop where
 lt:∀k p:Nat,st.2[k]?=J p->p<c
 inc:∀j k p q:Nat,j<k->st.2[j]?=J p->st.2[k]?=J q->p<q
 val:∀k p:Nat,st.2[k]?=J p->∀(i:Nat) (a:List Int),st.1[i]?=J a->ag a p=if i=k then 1 else 0
 len:st.2.length<=st.1.length
section
variable {w c:Nat} {st:List (List Int) × List Nat}
def asg(R:sJ w c st)(q:zQ c st)(E:c<w):zQ (c+1) (lT st c):=by
 unfold lT;cases hf:mH st.1 (F st.2) c with
 |none=>exact⟨λk p h=>by have:=q.lt k p h;omega,q.inc,q.val,q.len⟩
 |some k=>
  obtain⟨r,k2,T⟩:=xZ hf;rw[mI r]at T;have hk:=R.len _ (iP r);have S:=R.ok _ (iP r);have z:=R.zero k _ k2 (aN r);simp only[mI r];have D:=HM hk E S z T;have A:F st.2<F st.1:=by omega
  rw[<-IN M z,mI A];generalize gh c st.1[k] (ea (ag st.1[k] c))=own at *
  refine⟨λj p h=>?_,λj l p z0 s f C=>?_,λj p f i a m=>?_,?_⟩
  .rcases yb h with h|⟨-,rfl⟩
   .have:=q.lt j p h;omega
   .omega
  .rcases yb C with C|⟨rfl,rfl⟩
   .rcases yb f with f|⟨rfl,-⟩
    .exact q.inc j l p z0 s f C
    grind
   .rcases yb f with f|⟨rfl,-⟩
    .exact q.lt j p f
    .omega
  .-- the row at i
   have N:i<F st.1:=(by have:=(aS.1 m).1;simpa using this);by_cases B:i=F st.2
   .subst B;rw[aN (by simp_all),List.getElem_set_self,dt]at m;subst m;rcases yb f with f|⟨rfl,rfl⟩
    .have Z:=q.lt j p f;have h2:=(aS.1 f).1;rw[D.zero p Z,aP M]
    .rw[D.one,av O]
   .rw[JG (λz0=>B z0.symm),dW,aN (by simp_all),fk,dt]at m;have hb:∃b,(st.1.set k st.1[st.2.length])[i]'(by simp_all)=b/\F b=w/\(∀x∈b,okF x)/\∀j p,st.2[j]?=J p->ag b p=if i=j then 1 else 0:=by
     refine⟨_,O,?_,?_,λj p f=>?_⟩
     .rw[Ck];split<;>exact R.len _ (iP _)
     .rw[Ck];split<;>exact R.ok _ (iP _)
     .rw[Ck];have s:=(aS.1 f).1;split
      .rename_i e;rw[q.val j p f (F st.2) _ (aN A),aP M,aP M]
      .exact q.val j p f i _ (aN N)
    obtain⟨b,e,X,Y,b3⟩:=hb;rw[e]at m;subst m;have hpw:p<w:=by
     rcases yb f with h|⟨-,rfl⟩
     .have:=q.lt j p h;omega
     .exact E
    rw[sS (X.trans D.len.symm) M];rcases yb f with f|⟨rfl,rfl⟩
    .rw[D.zero p (q.lt j p f),Ld (nZ Y p)]
     grind
    .rw[D.one,Gc,Jw,PX,aP B];rfl
  grind
where
 yb {l:List Nat} {x i y:Nat} (h:(l++[x])[i]?=J y):l[i]?=J y∨(i=F l/\y=x):=by
  grind
end
def Ev{t}{w many}(j:∀a∈t,F a=w)(m:∀a∈t,∀x∈a,okF x)(s:many<=w):sJ w many (gT t many)/\zQ many (gT t many):=by
 unfold gT
 induction many with
 |zero=>exact⟨⟨j,m,λ_ _ _ _ z r=>by omega⟩,⟨λk p h=>by grind,λz k p A _ h=>by grind,λk p h=>by grind,bV _⟩⟩|succ n q=>obtain⟨f,h2⟩:=q M;rw[jT,oj];simp only[JF,Cj];exact⟨IW f M,asg f h2 M⟩
def anK{t}{w many}{y}(j:∀a∈t,F a=w)(m:∀a∈t,∀x∈a,okF x)(s:many<=w)(q:F y<w)(h:∀a∈(gT t many).1,Sat y a):∀a∈t,Sat y a:=by
 induction many with
 |zero=>exact h|succ n r=>
  refine r M ?_;have f:=(Ev j m (M:n<=w)).1;have e:gT t (n+1)=lT (gT t n) n:=by unfold gT;rw[jT,oj];rfl
  rw[e]at h;exact asl f M q h
def nu(st:List (List Int) × List Nat)(n:Nat):List Int:=st.2.zipIdx.foldl (λy p=>y.set p.1 (ag (st.1.getD p.2 []) n)) (bB n 0)
def FI{l}{i j}{x}(hi:i<F l):ag (l.set i x) j=if j=i then x else ag l j:=by
 unfold ag
 grind
def C0(f:Nat × Nat->Int):∀(l:List (Nat × Nat)) (y:List Int),F (l.foldl (λy p=>y.set p.1 (f p)) y)=F y:=by
 intro l
 induction l with
 |nil=>simp_all|cons p l j=>simp_all
def Ge(f:Nat × Nat->Int){i}:∀(l:List (Nat × Nat)) (y:List Int),(∀p∈l,p.1≠i)->ag (l.foldl (λy p=>y.set p.1 (f p)) y) i=ag y i:=by
 intro l
 induction l with
 |nil=>simp_all|cons p l m=>intro y h;rw[JF,m _ λq j=>h q (gj _ j)];have:=h p gx;unfold ag;simp_all
def IR(st)(n):F (nu st n)=n:=by unfold nu;rw[C0 (λp=>ag (st.1.getD p.2 []) n)];simp
def arH{st}{n i}(h:i∉st.2):ag (nu st n) i=0:=by
 unfold nu;rw[Ge (λp=>ag (st.1.getD p.2 []) n) _ _ λp f j=>?_]
 .unfold ag
  grind
 grind
def arJ{c}{st}{n k p}(A:zQ c st)(B:c<=n)(h:st.2[k]?=J p):ag (nu st n) p=ag (st.1.getD k []) n:=by
 unfold nu;obtain⟨q,r⟩:=aS.1 h;have z:st.2.zipIdx=(st.2.zipIdx.take k)++(p,k)::(st.2.zipIdx.drop (k+1)):=by
  have j:k<F st.2.zipIdx:=by simpa using q
  have:=(List.take_append_drop k st.2.zipIdx).symm;rw[ss j]at this;rw[aal,r]at this;simpa using this
 rw[z,oj,JF,Ge (λp=>ag (st.1.getD p.2 []) n) _ _ λC s e=>?_]
 .rw[FI,av O];rw[C0 (λp=>ag (st.1.getD p.2 []) n)];have:=A.lt k p h
  grind
 .obtain⟨i,m,rfl⟩:=wc.1 s;rw[P7,aal]at e;simp only at e;have f:k+1+i<F st.2:=by simp at m;omega
  have:=A.inc k (k+1+i) p _ M h (aN f);omega
def asI{f}{p}:∀n,p<n->(∀i,i<n->i≠p->f i=0)->gU ((List.range n).map f)=f p:=by
 intro n
 induction n with
 |zero=>omega|succ n A=>
  intro s h;rw[jT,jB,asD];simp only[eD,uz,gU];rcases dp p n with q|q
  .grind
  .have:p=n:=(by omega);subst this;have z:gU ((bZ p).map f)=0:=by
    have:∀l:List Nat,(∀i∈l,f i=0)->gU (l.map f)=0:=by
     intro l
     induction l with
     |nil=>intro _;rfl|cons x l j=>intro r;simp only[eD,gU];simp_all
    exact this _ λi m=>h i (by grind) (by grind)
   omega
def arI{t}{n}(z:∀a∈t,F a=n+1)(D:∀a∈t,∀x∈a,okF x)(j:∀i a,F (gT t n).2<=i->(gT t n).1[i]?=J a->ag a n=0):
 ∀a∈t,Sat (nu (gT t n) n) a:=by
 obtain⟨R,E⟩:=Ev z D (M:n<=n+1);refine anK z D (M:n<=n+1) (by rw[IR];omega) λa N=>?_;obtain⟨k,s,rfl⟩:=wc.1 N;have f:=aN s;unfold Sat res dot;rw[IR];rcases dp k (F (gT t n).2) with q|q
 .have m:=aN q;have A:=E.lt k _ m;rw[asI (p:=(gT t n).2[k]) n A,arJ E (aV _) m,E.val k _ m k _ f,av O,mI s,Jw,PX]
  .simp_all
  .intro i r C;by_cases B:i∈(gT t n).2
   .obtain⟨Y,S,rfl⟩:=wc.1 B;rw[E.val Y _ (aN S) k _ f,aP (λe=>C (by simp_all)),Jx]
   .rw[arH B,PY]
 .rw[j k _ q f];have X:∀l:List Nat,(∀i∈l,i<n)->gU (l.map λi=>ag (nu (gT t n) n) i*ag (gT t n).1[k] i)=0:=by
   intro l
   induction l with
   |nil=>intro _;rfl|cons x l T=>intro h;simp only[eD,gU];rw[R.zero k _ q f x (h x gx),Jx,T λi r=>h i (gj _ r)];rfl
  simp_all
end Go.NT
end
section
namespace Go.NT
abbrev ey:=BitVec 32
def eQ(x:ey)(n:Nat):ey:=(x>>>n)|||(x<<<(32-n))
def A7:List Nat:=[
 0x428a2f98,0x71374491,0xb5c0fbcf,0xe9b5dba5,0x3956c25b,0x59f111f1,0x923f82a4,0xab1c5ed5,
 0xd807aa98,0x12835b01,0x243185be,0x550c7dc3,0x72be5d74,0x80deb1fe,0x9bdc06a7,0xc19bf174,
 0xe49b69c1,0xefbe4786,0x0fc19dc6,0x240ca1cc,0x2de92c6f,0x4a7484aa,0x5cb0a9dc,0x76f988da,
 0x983e5152,0xa831c66d,0xb00327c8,0xbf597fc7,0xc6e00bf3,0xd5a79147,0x06ca6351,0x14292967,
 0x27b70a85,0x2e1b2138,0x4d2c6dfc,0x53380d13,0x650a7354,0x766a0abb,0x81c2c92e,0x92722c85,
 0xa2bfe8a1,0xa81a664b,0xc24b8b70,0xc76c51a3,0xd192e819,0xd6990624,0xf40e3585,0x106aa070,
 0x19a4c116,0x1e376c08,0x2748774c,0x34b0bcb5,0x391c0cb3,0x4ed8aa4a,0x5b9cca4f,0x682e6ff3,
 0x748f82ee,0x78a5636f,0x84c87814,0x8cc70208,0x90befffa,0xa4506ceb,0xbef9a3f7,0xc67178f2]
def A6(t:Nat):ey:=BitVec.ofNat 32 (A7.getD t 0)
def start:List ey:=[0x6a09e667#32,0xbb67ae85#32,0x3c6ef372#32,0xa54ff53a#32,0x510e527f#32,0x9b05688c#32,0x1f83d9ab#32,0x5be0cd19#32]
def fF(b:List UInt8)(i:Nat):UInt8:=b.getD i 0
def ej(w:List ey)(i:Nat):ey:=w.getD i 0#32
def vL(b:List UInt8)(i:Nat):ey:=BitVec.ofNat 32 (((fF b i).toNat*256+(fF b (i+1)).toNat)*256*256+(fF b (i+2)).toNat*256+(fF b (i+3)).toNat)
def HA(w:List ey)(t:Nat):ey:=
 ej w (t-16)+(eQ (ej w (t-15)) 7^^^eQ (ej w (t-15)) 18^^^(ej w (t-15))>>>3)+ej w (t-7)+(eQ (ej w (t-2)) 17^^^eQ (ej w (t-2)) 19^^^(ej w (t-2))>>>10)
def jM(b:List UInt8):Nat->List ey
 |0=>[]
 |n+1=>jM b n++[if n<16 then vL b (4*n) else HA (jM b n) n]
def Im(w:List ey)(v:List ey)(t:Nat):List ey:=
 let e:=ej v 4
 let a:=ej v 0
 let p:=ej v 7+(eQ e 6^^^eQ e 11^^^eQ e 25)+((e&&&ej v 5)^^^(~~~e&&&ej v 6))+A6 t+ej w t
 let f:=(eQ a 2^^^eQ a 13^^^eQ a 22)+((a&&&ej v 1)^^^(a&&&ej v 2)^^^(ej v 1&&&ej v 2))
 [p+f,a,ej v 1,ej v 2,ej v 3+p,e,ej v 5,ej v 6]
def xJ(s:List ey)(b:List UInt8):List ey:=
 let w:=jM b 64
 let v:=(bZ 64).foldl (Im w) s
 Ft (·+·) s v
def Pv(n:Nat):Nat:=(119-n%64)%64
def A8(n:Nat):List UInt8:=(bZ 8).map λi=>UInt8.ofNat (n*8/2^(8*(7-i)))
def HN(b:List UInt8):List UInt8:=b++0x80::bB (Pv (F b)) 0++A8 (F b)
def iu:Nat->List ey->List UInt8->List ey
 |0,f,_=>f
 |n+1,f,b=>iu n (xJ f (b.take 64)) (b.drop 64)
def np(s:List ey):List UInt8:=s.flatMap λx=>[UInt8.ofNat (x.toNat/16777216),UInt8.ofNat (x.toNat/65536),UInt8.ofNat (x.toNat/256),UInt8.ofNat x.toNat]
def jf(b:List UInt8):List UInt8:=np (iu (F (HN b)/64) start (HN b))
def jQ(f b:List UInt8):List UInt8:=jf (jf f++b)
def aeh(e f g:ey):g^^^(e&&&(f^^^g))=(e&&&f)^^^(~~~e&&&g):=by apply BitVec.eq_of_getLsbD_eq;intro i j;simp only[BitVec.getLsbD_xor,BitVec.getLsbD_and,BitVec.getLsbD_not,j,decide_true,mq];cases e.getLsbD i<;>cases f.getLsbD i<;>cases g.getLsbD i<;>rfl
def akN(a b c:ey):(a&&&b)|||(c&&&(a|||b))=(a&&&b)^^^(a&&&c)^^^(b&&&c):=by apply BitVec.eq_of_getLsbD_eq;intro i f;simp only[BitVec.getLsbD_xor,BitVec.getLsbD_and,BitVec.getLsbD_or];cases a.getLsbD i<;>cases b.getLsbD i<;>cases c.getLsbD i<;>rfl
end Go.NT
end
section
namespace Go.NT
inductive Vl where
 |int (n:Int)
 |text (s:List UInt8)
 |list (l:List Vl)
def eP:Nat->Nat->List UInt8
 |0,u=>[UInt8.ofNat u]
 |k+1,u=>if u<128 then [UInt8.ofNat u] else UInt8.ofNat (u%128+128)::eP k (u/128)
def g_(n:Int):Nat:=if 0<=n then 2*n.toNat else 2*(-(n+1)).toNat+1
mutual
def cA:Vl->List UInt8
 | .int n=>1::eP 9 (g_ n)
 | .text f=>2::(eP 9 (F f)++f)
 | .list l=>3::(eP 9 (F l)++fU l)
def fU:List Vl->List UInt8
 | []=>[]
 |v::l=>cA v++fU l
end
mutual
def fg:Vl->Nat
 | .list l=>fO l+1
 |_=>0
def fO:List Vl->Nat
 | []=>0
 |v::l=>max (fg v) (fO l)
end
def Sw(l m):fU (l++m)=fU l++fU m:=by
 induction l with
 |nil=>simp[fU]|cons v l f=>simp only[eu,fU,f,iE]
def Wp{k u}(h:128<=u):eP (k+1) u=UInt8.ofNat (u%128+128)::eP k (u/128):=by rw[eP,aP M]
def Wo{k u}(h:u<128):eP k u=[UInt8.ofNat u]:=by
 cases k with|zero=>rfl|succ k=>rw[eP,av h]
end Go.NT
end
section
namespace Go.NT
def cN(n:Int):Bool:=decide (0<=n)&&decide (n<Qi)
def cG(rows:List (List Int))(ac:List Int):Int:=
 if decide (64<F rows)||rows.any (λf=>decide (64<F f)) then 2
 else if F rows≠F ac then 230
 else if (bZ (F rows)).all λi=> !(rows.getD i []).isEmpty&&decide (F (rows.getD i [])=F (rows.getD 0 []))&&(decide (0<=ag ac i)&&decide (ag ac i<=63))&&(rows.getD i []).all cN then 0
 else 230
def cd(rows:List (List Int)):Nat:=if F rows=0 then 1 else F (rows.getD 0 [])
def eZ(n:Nat):List Int:=1::bB (n-1) 0
def dy:Int->List Int->Bool
 |_,[]=>V
 |yQ,n::l=>decide (yQ<n)&&decide (n<=63)&&dy n l
def dG(ac who:List Int):List Nat:=(bZ (F ac)).filter λi=>who.contains (ag ac i)
def e7(rows:List (List Int))(f:List Int):List (List Int):=(bZ (F f)).map λk=>rows.map (λj=>ag j k)++[ag f k]
def nF(rows:List (List Int))(f:List Int):Option (List Int):=
 let st:=gT (e7 rows f) (F rows)
 if (st.1.drop (F st.2)).all (λa=>decide (ag a (F rows)=0)) then J (nu st (F rows)) else af
def oI(n:Nat)(f:List Nat)(l:List Int):List Int:=f.zipIdx.foldl (λy p=>y.set p.1 (ag l p.2)) (bB n 0)
def fm(rows:List (List Int))(ac who:List Int):List Int × Bool × Int:=
 if cG rows ac≠0 then ([],ai,cG rows ac)
 else if !dy (-1) who then ([],ai,1)
 else match nF ((dG ac who).map λi=>rows.getD i []) (eZ (cd rows)) with
  |none=>([],ai,0)
  |some l=>(oI (F rows) (dG ac who) l,V,0)
structure Pr where
 aU:Int
 no:Int
 d:Int
 e:Int
def bX(x:Int):Bool:=decide (1<=x)&&elem x.toNat
def Pr.val(p:Pr):Vl:=.list [.int p.aU,.int p.no,.int p.d,.int p.e]
def Bq(l:List Pr):Vl:=.list (l.map Pr.val)
def pc(b:List UInt8):Nat:=((b.take 8).foldl (λn c=>n*256+c.toNat) 0%9223372036854775808)%Q
def pR(f:List UInt8)(v:Vl):Nat:=pc (jQ f (cA v))
def II:List UInt8:=[98,105,110,100]
def zn:List UInt8:=[115,105,103,110]
def iQ(c0:Int)(text:List UInt8)(l:List Pr)(f:Int):Nat:=pR II (.list [.int c0,.text text,Bq l,.int f])
def vm(c0:Int)(text:List UInt8)(l:List Pr)(p:Pr):Nat:=p.d.toNat*py p.e.toNat (iQ c0 text l p.aU)%P
def jy(c0:Int)(text:List UInt8)(l:List Pr):Nat:=l.foldl (λx p=>x*vm c0 text l p%P) 1
def BT(f j:Int)(text:List UInt8):Nat:=pR zn (.list [.int f,.int j,.text text])
def mh:Int->List Pr->Bool
 |_,[]=>V
 |yQ,x::l=>decide (yQ<x.aU)&&decide (x.aU<64)&&decide (0<=x.no)&&decide (x.no<4096)&&bX x.d&&bX x.e&&mh x.aU l
def d_(rows:List (List Int))(ac:List Int)(j:Int)(f:List Int)(text:List UInt8)(l:List Pr):Int:=
 if cG rows ac≠0 then cG rows ac
 else if !(decide (0<=j)&&decide (j<=64)&&decide (F f=cd rows)&&f.all bX) then 380
 else if 65536<F text then 2
 else if 64<F l then 420
 else if !mh (-1) l then 420
 else match fm rows ac (l.map Pr.aU) with
  |(_,ok,e)=>if e≠0∨ok=ai∨F l=0 then 420 else 0
end Go.NT
end
section
namespace Go.NT
def ec(x:Nat)(n:Int):Nat:=py x (fmod n).toNat
def S3(n):(fmod n).toNat<Q:=by have:=Gd n;obtain⟨f,h2⟩:=this;rw[zS]at h2;omega
def amJ(x)(n):ec x n=x^(fmod n).toNat%P:=NX (nW (S3 n) aY)
def HR{x}(f:elem x=V)(n):elem (ec x n)=V:=by rw[amJ];exact afC f _
def S4(n):((fmod n).toNat:Int)=fmod n:=by have:=(Gd n).1;omega
end Go.NT
end
section
namespace Go.Proofs.YtcbhpkjbiehcpaaGreatDoor
open Go.AE Go.RowKit
def O5:List U:=NT.start.map bM
def Eg:List U:=NT.A7.map λ(n:Nat)=>U.v (.int .u32 (n:Int))
def Gt:Nat->Option (List U):=λg=>if g=0 then J O5 else if g=1 then J Eg else if g=1022017∨g=1022035∨g=1023037∨g=1023048∨g=1023063∨g=1023125∨g=1116104∨g=1032007∨g=1033007∨g=1033257 then J [] else af
def aI:aQ->Option (List U->Heap->Option (U × Heap)):=λ_=>af
noncomputable abbrev W:=whole aa Gt aI
structure ae(p:Prop):Prop where
 out:p
def I(n:Int):U:=.v (.int .i64 n)
def tT(n:Int):List U:=[I n]
def ints(l:List Int):List (List U):=l.map tT
def cE(l):F (ints l)=F l:=by simp[ints]
def Vb(l)(i:Nat):(ints l)[i]?=(l[i]?).map tT:=by simp[ints]
def i64(n:Int):Prop:= -9223372036854775808<=n/\n<=9223372036854775807
def dS:fx aa 3=J ai:=by kernel_rfl
def eR:cB aa 3=J 1:=by kernel_rfl
def VF{h}{l}{i}{x}(j:l[i]?=J x):aD aa Gt h 3 (.elem 1 (ints l) i 0)=J (I x):=by
 have f:(ints l)[i]?=J (tT x):=by rw[Vb,j];rfl
 rw[oA dS f];rfl
def ab6{h}{d}{ts}{ty:Nat}{s x}(f:1000*ty+d≠22017/\1000*ty+d≠22035/\1000*ty+d≠23037/\1000*ty+d≠23048/\1000*ty+d≠23063/\1000*ty+d≠23125/\1000*ty+d≠116104/\1000*ty+d≠32007/\1000*ty+d≠33007/\1000*ty+d≠33257):oU aa Gt (J d) h .append ts ty [s,x]=gb aa h ts s x:=by refine ab8 ?_;unfold EY Gt;rw[aP M,aP M,aP (by simp only[zO];omega)];rfl
def ab7{h}{d}{ts}{ty:Nat}{s x}(f:1000*ty+d=22017∨1000*ty+d=22035∨1000*ty+d=23037∨1000*ty+d=23048∨1000*ty+d=23063∨1000*ty+d=23125∨1000*ty+d=116104∨1000*ty+d=32007∨1000*ty+d=33007∨1000*ty+d=33257):oU aa Gt (J d) h .append ts ty [s,x]=lU aa h ts s x:=by refine aca ?_;unfold EY Gt;rw[aP M,aP M,av (by simp only[zO];omega)];rfl
def aB{α:Type}[BEq α][ReflBEq α](a:α):(a==a)=V:=beq_self_eq_true a
def am{p:Prop}(h:p:=by kernel_rfl):p:=h
set_option linter.defProp false in
def gW:=aj goS (aj goT (aj goH (aj goU (aj @ab6 (aj @ab7 (aj @Ex.eq_1 (aj @rT.eq_1 (aj @rT.eq_2 (aj @rT.eq_3 (aj @di.eq_1 (aj @di.eq_2 (aj @di.eq_3 (aj @di.eq_4 (aj @di.eq_5 (aj @di.eq_6 (aj @di.eq_7 (aj @di.eq_8 (aj @di.eq_9 (aj @di.eq_10 (aj @di.eq_11 (aj @di.eq_12 (aj @di.eq_13 (aj @di.eq_14 (aj @di.eq_15 (aj @di.eq_16 (aj @di.eq_17 (aj @di.eq_18 (aj @di.eq_19 (aj @di.eq_20 (aj @di.eq_21 (aj @di.eq_22 @di.eq_23)))))))))))))))))))))))))))))))
def gS{p:Prop}(h:p:=by simp only[gW,reduceIte,Nat.reduceEqDiff,aB]):p:=h
def gR{p:Prop}(h:p:=by simp only[gW,reduceIte,Nat.reduceEqDiff,aB]<;>rfl):p:=h
def gA{p:Prop}(h:p:=by simp only[gW,reduceIte,Nat.reduceEqDiff,aB]<;>assumption):p:=h
def wI{p q:Prop}(x:q)(f:ae q->p:=by intro h;(repeat' (first|simp(maxSteps:=9999999) (disch:=first|exact dZ|fail) only[gW,reduceIte,Nat.reduceEqDiff,aB, *,-h]|refine dX ?_ ?_<;>(intro _;try omega)));exact h.out;fail_if_success refine ?_):p:=f ⟨x⟩
def bg{a0:Prop}{p q:Prop}(j:a0)(x:q)(f:a0->ae q->p:=by intro j h;(repeat' (first|simp(maxSteps:=9999999) (disch:=first|exact dZ|fail) only[gW,reduceIte,Nat.reduceEqDiff,aB, *,-h]|refine dX ?_ ?_<;>(intro _;try omega)));exact h.out;fail_if_success refine ?_):p:=f j ⟨x⟩
def iB{a0:Prop}{p:Prop}(j:a0)(f:a0->p:=by intro j;(repeat' (first|simp(maxSteps:=9999999) (disch:=first|exact dZ|fail) only[gW,reduceIte,Nat.reduceEqDiff,aB, *]|refine dX ?_ ?_<;>(intro _;try omega)));fail_if_success refine ?_):p:=f j
def bE{a0 j:Prop}{p q:Prop}(m:a0)(r:j)(x:q)(f:a0->j->ae q->p:=by intro m r h;(repeat' (first|simp(maxSteps:=9999999) (disch:=first|exact dZ|fail) only[gW,reduceIte,Nat.reduceEqDiff,aB, *,-h]|refine dX ?_ ?_<;>(intro _;try omega)));exact h.out;fail_if_success refine ?_):p:=f m r ⟨x⟩
def dV{a0 j:Prop}{p:Prop}(m:a0)(q:j)(f:a0->j->p:=by intro m q;(repeat' (first|simp(maxSteps:=9999999) (disch:=first|exact dZ|fail) only[gW,reduceIte,Nat.reduceEqDiff,aB, *]|refine dX ?_ ?_<;>(intro _;try omega)));fail_if_success refine ?_):p:=f m q
def cK{a0 j m:Prop}{p q:Prop}(r:a0)(s:j)(z:m)(x:q)(f:a0->j->m->ae q->p:=by intro r s z h;(repeat' (first|simp(maxSteps:=9999999) (disch:=first|exact dZ|fail) only[gW,reduceIte,Nat.reduceEqDiff,aB, *,-h]|refine dX ?_ ?_<;>(intro _;try omega)));exact h.out;fail_if_success refine ?_):p:=f r s z ⟨x⟩
def o0{a0 j m:Prop}{p:Prop}(q:a0)(r:j)(s:m)(f:a0->j->m->p:=by intro q r s;(repeat' (first|simp(maxSteps:=9999999) (disch:=first|exact dZ|fail) only[gW,reduceIte,Nat.reduceEqDiff,aB, *]|refine dX ?_ ?_<;>(intro _;try omega)));fail_if_success refine ?_):p:=f q r s
def bA{a0 j m r:Prop}{p q:Prop}(s:a0)(z:j)(A:m)(y3:r)(x:q)(f:a0->j->m->r->ae q->p:=by intro s z A y3 h;(repeat' (first|simp(maxSteps:=9999999) (disch:=first|exact dZ|fail) only[gW,reduceIte,Nat.reduceEqDiff,aB, *,-h]|refine dX ?_ ?_<;>(intro _;try omega)));exact h.out;fail_if_success refine ?_):p:=f s z A y3 ⟨x⟩
def jb{a0 j m q:Prop}{p:Prop}(r:a0)(s:j)(z:m)(y3:q)(f:a0->j->m->q->p:=by intro r s z y3;(repeat' (first|simp(maxSteps:=9999999) (disch:=first|exact dZ|fail) only[gW,reduceIte,Nat.reduceEqDiff,aB, *]|refine dX ?_ ?_<;>(intro _;try omega)));fail_if_success refine ?_):p:=f r s z y3
def mK{a0:Prop}{p q:Prop}(j:a0)(x:q)(f:a0->ae q->p:=by intro j h;(repeat' (first|simp(maxSteps:=9999999) (disch:=first|exact dZ|fail) only[gW,reduceIte,Nat.reduceEqDiff,aB, *,-h]|(refine dX ?_ ?_<;>(intro _;try omega))|refine qT am ?_));exact h.out;fail_if_success refine ?_):p:=f j ⟨x⟩
def jc{a0:Prop}{p:Prop}(j:a0)(f:a0->p:=by intro j;(repeat' (first|simp(maxSteps:=9999999) (disch:=first|exact dZ|fail) only[gW,reduceIte,Nat.reduceEqDiff,aB, *]|(refine dX ?_ ?_<;>(intro _;try omega))|refine qT am ?_));fail_if_success refine ?_):p:=f j
def Lj{a0 j:Prop}{p q:Prop}(m:a0)(r:j)(x:q)(f:a0->j->ae q->p:=by intro m r h;(repeat' (first|simp(maxSteps:=9999999) (disch:=first|exact dZ|fail) only[gW,reduceIte,Nat.reduceEqDiff,aB, *,-h]|(refine dX ?_ ?_<;>(intro _;try omega))|refine qT am ?_));exact h.out;fail_if_success refine ?_):p:=f m r ⟨x⟩
def Ti{a0 j:Prop}{p:Prop}(m:a0)(q:j)(f:a0->j->p:=by intro m q;(repeat' (first|simp(maxSteps:=9999999) (disch:=first|exact dZ|fail) only[gW,reduceIte,Nat.reduceEqDiff,aB, *]|(refine dX ?_ ?_<;>(intro _;try omega))|refine qT am ?_));fail_if_success refine ?_):p:=f m q
def Lk{a0 j m:Prop}{p q:Prop}(r:a0)(s:j)(z:m)(x:q)(f:a0->j->m->ae q->p:=by intro r s z h;(repeat' (first|simp(maxSteps:=9999999) (disch:=first|exact dZ|fail) only[gW,reduceIte,Nat.reduceEqDiff,aB, *,-h]|(refine dX ?_ ?_<;>(intro _;try omega))|refine qT am ?_));exact h.out;fail_if_success refine ?_):p:=f r s z ⟨x⟩
def tw{a0 j m:Prop}{p:Prop}(q:a0)(r:j)(s:m)(f:a0->j->m->p:=by intro q r s;(repeat' (first|simp(maxSteps:=9999999) (disch:=first|exact dZ|fail) only[gW,reduceIte,Nat.reduceEqDiff,aB, *]|(refine dX ?_ ?_<;>(intro _;try omega))|refine qT am ?_));fail_if_success refine ?_):p:=f q r s
def Gm{a0 j m q:Prop}{p:Prop}(r:a0)(s:j)(z:m)(y3:q)(f:a0->j->m->q->p:=by intro r s z y3;(repeat' (first|simp(maxSteps:=9999999) (disch:=first|exact dZ|fail) only[gW,reduceIte,Nat.reduceEqDiff,aB, *]|(refine dX ?_ ?_<;>(intro _;try omega))|refine qT am ?_));fail_if_success refine ?_):p:=f r s z y3
end Go.Proofs.YtcbhpkjbiehcpaaGreatDoor
end
section
namespace Go.Proofs.YtcbhpkjbiehcpaaGreatDoor
open Go.AE Go.NT
def EZ(n):(n.tmod 1073741789<0->fmod n=n.tmod 1073741789+1073741789)/\(¬n.tmod 1073741789<0->fmod n=n.tmod 1073741789)/\ -1073741789<n.tmod 1073741789/\n.tmod 1073741789<1073741789:=by
 unfold fmod Qi;rcases Int.le_total 0 n with h|h
 .rw[Fk h];omega
 .obtain⟨f,rfl⟩:∃f,n= -f:=⟨-n,by omega⟩;rw[Int.neg_tmod,Fk M];omega
def X0:Tryz.f162.results.toList=[.tmp 2]:=am
def OI:Tryz.f161.results.toList=[.tmp 2]:=am
def ap3:Tryz.f80.results.toList=[.tmp 4]:=am
def ap5:Tryz.f81.results.toList=[.tmp 4]:=am
def Hy(n:Int)(h:Heap):W.call 162 [I n] h=J (.ret (I (fmod n)),h):=by
 obtain⟨f,j,m,q⟩:=EZ n;unfold I;refine cq O Tryz.func162 O ?_;by_cases c:n.tmod 1073741789<0
 .have e:=f c;clear f j;exact jc @X0
 .have e:=j c;clear f j;exact jc @X0
def x_(n):0<=fmod n/\fmod n<1073741789:=Gd n
def B5{a:Int}(h:0<=a):a.tmod 1073741789=a%1073741789:=Fk h
def ND(a b:Int)(h:Heap):W.call 81 [I a,I b] h=J (.ret (I (cS a b)),h):=by
 have s:=Hy a;have z:=Hy b;obtain⟨j,q⟩:=x_ a;obtain⟨f,r⟩:=x_ b;have m:0<=fmod a*fmod b:=PQ j f;have A:fmod a*fmod b<=1073741789*1073741789:=PP M M f M;have e:cS a b=(fmod a*fmod b).tmod 1073741789:=by rw[B5 m];rfl
 rw[e];unfold I at *
 refine cq O Tryz.func81 O ?_;exact jc @ap5
def qW(l:List Int):Int:=l.foldl dx 0
def YQ(l)(x):qW (l++[x])=dx (qW l) x:=by unfold qW;rw[oj];rfl
def YP(l):okF (qW l):=by
 rcases List.eq_nil_or_concat l with rfl|⟨f,x,rfl⟩
 .exact Bi
 .rw[List.concat_eq_append,YQ];exact SN _ _
def fY{α:Type}{l:List α}{i}{x}(h:l[i]?=J x):l.take (i+1)=l.take i++[x]:=by obtain⟨f,rfl⟩:=aS.1 h;rw[List.take_succ_eq_append_getElem f]
def asF(l:List Int)(k:Tok)(Y:F l<=9223372036854775807)(h:Heap):W.call 161 [.list k 1 (ints l)] h=J (.ret (I (qW l)),h):=by
 have C:=cT;have D:=dS;have s3:=eR;refine cq O Tryz.func161 O ?_;refine Lj @OI @cE ?_;refine b9 (λB e h'=>∃i:Nat,i<=F l/\B=F l-i/\e.get 6=.list k 1 (ints l)/\e.get 7=.v (.int .i64 (F l:Nat))/\e.get 8=.v (.int .i64 i)/\e.get 3=.v (.int .i64 (qW (l.take i)))/\e.defers=[]/\h'=h) ?_ (F l) _ _ ?_;rotate_left 1
 .refine⟨0,bV _,O,?_,?_,?_,?_,?_,O⟩<;>(first|assumption|(simp only[gW,reduceIte,aJ,aB,cE]<;>rfl))
 rintro B e h' ⟨i,X,rfl,E,N,S,z,T,rfl⟩;by_cases m:i<F l
 .obtain⟨x,f⟩:∃x,l[i]?=J x:=⟨_,aN m⟩;have Z:(ints l)[i]?=J (tT x):=by rw[Vb,f];rfl
  have A:(i:Int)<(F (ints l):Int):=by rw[cE];omega
  have r:=Hy x;obtain⟨x1,x2⟩:=x_ x;obtain⟨s1,q⟩:=YP (l.take i);have q:qW (l.take i)<1073741789:=q;have s:qW (l.take (i+1))=(qW (l.take i)+fmod x).tmod 1073741789:=by rw[fY f,YQ,B5 M];show(fmod (qW (l.take i))+fmod x)%Qi=_;rw[Av (YP _)];rfl
  unfold I at r;generalize qW (l.take i)=z0 at *
  have j:=VF (h:=h') f;unfold I at j;refine Lk @OI @cE @aT ?_;exact⟨F l-(i+1),by omega,i+1,by omega,O,by trivial,by trivial,by simp,by rw[s],by trivial,by trivial⟩
 .have:i=F l:=by omega
  subst this;rw[fB]at z
  repeat' (first|simp(maxSteps:=9999999) (disch:=first|exact dZ|fail) only[gW,reduceIte,aJ,aB,OI,cE,I, *]|(refine dX ?_ ?_<;>(intro _;try omega))|refine qT am ?_)
def abI(a b:Int)(h:Heap):W.call 80 [I a,I b] h=J (.ret (I (dx a b)),h):=by
 have c:=asF [a,b] .tight b7 h;have e:qW [a,b]=dx a b:=by show dx (dx 0 a) b=dx a b;rw[CX,CX,CX,Z_,Int.emod_add_emod]
 rw[e]at c;have f:ff aa 23 2 [(0,I a),(1,I b)]=J (.list .tight 1 (ints [a,b])):=am;unfold I at *
 refine cq O Tryz.func80 O ?_;exact jc @ap3
def NZ(a):∀k:Nat,(a%Qi)^k%Qi=a^k%Qi:=by
 intro k
 induction k with
 |zero=>simp|succ k f=>rw[vZ,vZ,zG,f,PI _ (PG _),<-zG]
def ak9(n)(k):(((fmod n).toNat^k%Q:Nat):Int)=n^k%Qi:=by rw[Z4,Int.natCast_pow,S4,<-zS];exact NZ n k
def ol(r:Int)(l:Nat)(s x:Int):Prop:=okF x/\(x*s^l)%Qi=r
def ol.odd{r s x}{l}(h:ol r l s x)(f:l%2=1):ol r (l/2) (cS s s) (cS x s):=by
 refine⟨CZ _ _,?_⟩;rw[<-h.2,tq,tq,zG,NZ,PI _ (PG _),<-zG,ZX];congr 2;have e:l=2*(l/2)+1:=by omega
 rw[show s^l=s^(2*(l/2)+1) by rw[<-e],vZ,Fj,PO,show s*s=s^2 by rw[vZ,vZ,PV,Jy]]
def ol.even{r s x}{l}(h:ol r l s x)(f:l%2=0):ol r (l/2) (cS s s) x:=by
 refine⟨h.1,?_⟩;rw[<-h.2,tq,zG,NZ,<-zG];congr 2;have e:l=2*(l/2):=by omega
 rw[show s^l=s^(2*(l/2)) by rw[<-e],Fj,show s*s=s^2 by rw[vZ,vZ,PV,Jy]]
def ol.done{r s x}(h:ol r 0 s x):x=r:=by rw[<-h.2,PV,Jw];exact(ZV h.1.1 h.1.2).symm
def ol.start(n):ol (ea n) 1073741787 n 1:=by
 refine⟨by unfold okF;decide,?_⟩;have e:(ea n)=(((fmod n).toNat^(Q-2)%Q:Nat):Int):=by unfold ea;rw[F8 aY aY aY,zN]
 rw[e,ak9,Jy];rfl
def EI:Tryz.f222.results.toList=[.tmp 2,.tmp 3]:=am
def ajl(n:Int)(h:Heap):W.call 222 [I n] h=J (.ret (.tuple [I (if fmod n=0 then 0 else ea n),I (if fmod n=0 then 90 else 0)]),h):=by
 have S:=Hy n;by_cases q:fmod n=0
 .rw[av q,av q];unfold I at *
  refine cq O aa9 O ?_;exact jc @EI
 .rw[aP q,aP q];have z:=ae.mk (ol.start n);unfold I at *
  refine cq O aa9 O ?_;refine mK @EI ?_;refine b9 (λE e h'=>∃(r x:Int),E<=1073741787/\ol (ea n) E r x/\e.get 4=.v (.int .i64 (E:Nat))/\e.get 5=.v (.int .i64 r)/\e.get 2=.v (.int .i64 x)/\e.defers=[]/\h'=h) ?_ 1073741787 _ _ ?_;rotate_left 1
  .exact⟨n,1,aV _,z.out,by exact gR,by exact gR,by exact gR,by exact gR,O⟩
  rintro l e h' ⟨r,x,hl,m,X,Y,T,Z,rfl⟩;have s:=ae.mk m;have A:=ND x r;have B:=ND r r;unfold I at A B;by_cases C:l=0
  .subst C;have hx:=m.done;clear m;exact jc @EI
  .have D:((l:Nat):Int).tdiv 2=((l/2:Nat):Int):=(by rw[Z9 M];omega);have f:((l:Nat):Int).tmod 2=((l%2:Nat):Int):=(by rw[Fk M];omega);have N:¬((l:Nat):Int)=0:=(by omega);clear m;rcases Cu l with j|j
   .rw[j]at f;refine mK @EI ?_;exact⟨l/2,by omega,_,_,by omega,s.out.even j,by trivial,by trivial,by trivial,by trivial,by trivial⟩
   .rw[j]at f;refine mK @EI ?_;exact⟨l/2,by omega,_,_,by omega,s.out.odd j,by trivial,by trivial,by trivial,by trivial,by trivial⟩
def IP(b:Bool):Nat:=if b=V then 0 else 1
def oO(x a n:Nat)(f:Bool):Prop:=1<=a/\n%2=1/\my a n/\a<=P/\n<=P/\mu x P%2=(mu a n+IP f)%2
def Yk(b):(IP (!b)+1)%2=IP b%2:=by cases b<;>rfl
def oO.even{x a n}{f}(h:oO x a n f)(C:a%2=0):oO x (a/2) n (if n%8=3∨n%8=5 then !f else f):=by
 obtain⟨A,h2,q,B,r,s⟩:=h;have e:a=2*(a/2):=by omega
 have j:my (2*(a/2)) n:=by rw[<-e];exact q
 have m:=asd h2 j;rw[<-e]at m;refine⟨M,h2,aaD j,by omega,r,?_⟩;rw[s];have:=Yk f;split at m<;>rename_i z
 .rw[av z];omega
 .rw[aP z];omega
def oO.odd{x a n}{f}(h:oO x a n f)(m:a%2=1)(E:1<a):oO x (n%a) a (if a%4=3/\n%4=3 then !f else f):=by
 obtain⟨C,h2,j,r,D,s⟩:=h;have A:=asf h2 m j;have N:=jU n (M:0<a);have B:n%a≠0:=λq=>by have z:=Cs q;have:=Nat.dvd_gcd (Nat.dvd_refl a) z;rw[j]at this;have:=zL aY this;omega
 refine⟨M,m,ae4 j,by omega,r,?_⟩;rw[s];have:=Yk f;split at A<;>rename_i q
 .rw[av q];omega
 .rw[aP q];omega
def oO.done{x n}{j}(m:1<=x)(q:x<P)(h:oO x 1 n j):elem x=j:=by
 obtain⟨-,h2,-,-,-,f⟩:=h;rw[ak4 (h:=n/2) M]at f;rw[afB m q];cases j
 .rw[b_];rw[f];decide
 .rw[bQ];rw[f];rfl
def oO.start{x}(f:1<=x)(j:x<P):oO x x P V:=⟨f,by decide,Qo.coprime f j,mz j,aV _,by rw[show IP V=0 from O,xA]⟩
def qR:Tryz.f66.results.toList=[.tmp 2]:=am
def I4(a b):((a:Nat):Int).tdiv (b:Nat)=((a/b:Nat):Int):=by rw[Z9 M];simp
def pC(a b):((a:Nat):Int).tmod (b:Nat)=((a%b:Nat):Int):=by rw[Fk M];simp
def F2{x}(h:x<1∨2147483579<=x):bX x=ai:=by
 unfold bX;rcases h with h|h
 .rw[b_ M];rfl
 .have:elem x.toNat=ai:=by rw[ZH];intro j;have:=(elem_iff.1 j).2.1;have f:P=2147483579:=rfl;omega
  rw[this,Bool.and_false]
def Ja(x:Int)(h:Heap):W.call 66 [I x] h=J (.ret (.v (.bool (bX x))),h):=by
 by_cases hx:x<1
 .rw[F2 (.inl hx)];unfold I;refine cq O QF O ?_;exact jc @qR
 by_cases E:2147483579<=x
 .rw[F2 (.inr E)];unfold I;refine cq O QF O ?_;exact jc @qR
 obtain⟨n0,rfl⟩:∃n:Nat,x=n:=⟨x.toNat,by omega⟩;have h1:1<=n0:=by omega
 have h2:n0<P:=by have:P=2147483579:=rfl;omega
 have B:∀{X:Nat} {j:Bool},oO n0 1 X j->bX (n0:Int)=j:=λD=>by unfold bX;rw[bQ M,fh,D.done h1 h2];rfl
 have k0:=ae.mk (oO.start h1 h2);have kf:=ae.mk @B;clear B;unfold I;generalize bX (n0:Int)=res at *
 have hnP:(n0:Int)<2147483579:=by omega
 clear h2;refine cq O QF O ?_;refine mK @qR ?_;refine b9 (λX e h'=>∃(n:Nat) (j:Bool),oO n0 X n j/\e.get 0=.v (.int .i64 (X:Nat))/\e.get 3=.v (.int .i64 (n:Nat))/\e.get 4=.v (.bool j)/\e.defers=[]/\h'=h) ?_ n0 _ _ ?_;rotate_left 1
 .exact⟨2147483579,V,k0.out,by exact gR,by exact gR,by exact gR,by exact gR,O⟩
 rintro a e h' ⟨n,j,f,g0,g3,g4,hd,rfl⟩;have s:=ae.mk f;have Gx:=f.1;have ha4:a<=2147483579:=f.2.2.2.1;by_cases aip:a=1
 .subst aip;have hr:=kf.out f;clear f;exact jc @qR
 have LV:(1:Int)<(a:Int):=by omega
 clear f;refine mK @qR ?_;refine b9 (λX e T=>∃(j:Bool),X<=a/\oO n0 X n j/\e.get 0=.v (.int .i64 (X:Nat))/\e.get 3=.v (.int .i64 (n:Nat))/\e.get 4=.v (.bool j)/\e.defers=[]/\T=h') ?_ a _ _ ?_;rotate_left 1
 .exact⟨j,aV _,s.out,by first|assumption|(exact gA),by first|assumption|(exact gA),by first|assumption|(exact gA),by first|assumption|(exact gA),O⟩
 clear g0 g3 g4 hd s j;rintro b e T ⟨j,hba,f,g0,g3,g4,hd,rfl⟩;have s:=ae.mk f;have ob:=f.1;have hn2:=f.2.1;have auY:n<=2147483579:=f.2.2.2.2.1;clear f;have m2:((b:Nat):Int).tmod 2=((b%2:Nat):Int):=pC b 2;have d2:((b:Nat):Int).tdiv 2=((b/2:Nat):Int):=I4 b 2;have S:((n:Nat):Int).tmod 8=((n%8:Nat):Int):=pC n 8;have r:((b:Nat):Int).tmod 4=((b%4:Nat):Int):=pC b 4;have Y:((n:Nat):Int).tmod 4=((n%4:Nat):Int):=pC n 4;have mnb:=pC n b;rcases Cu b with A|A
 .have m:=s.out.even A;rw[A,qm]at m2;by_cases c3:n%8=3
  .rw[av (.inl c3)]at m;have S:((n:Nat):Int).tmod 8=3:=(by rw[S,c3];rfl);have C:=ae.mk m;clear m;refine mK @qR ?_;exact⟨b/2,by omega,_,by omega,C.out,(by first|exact aX|exact rfl),(by first|exact aX|exact rfl),(by first|exact aX|exact rfl),(by first|exact aX|exact rfl),(by first|exact aX|exact rfl)⟩
  .by_cases z:n%8=5
   .rw[av (.inr z)]at m;have S:((n:Nat):Int).tmod 8=5:=(by rw[S,z];rfl);have C:=ae.mk m;clear m;refine mK @qR ?_;exact⟨b/2,by omega,_,by omega,C.out,(by first|exact aX|exact rfl),(by first|exact aX|exact rfl),(by first|exact aX|exact rfl),(by first|exact aX|exact rfl),(by first|exact aX|exact rfl)⟩
   .rw[aP M]at m;have C:=ae.mk m;have c3':¬(((n%8:Nat):Int)=3):=(by omega);have c5':¬(((n%8:Nat):Int)=5):=(by omega);clear m;refine mK @qR ?_;exact⟨b/2,by omega,_,by omega,C.out,(by first|exact aX|exact rfl),(by first|exact aX|exact rfl),(by first|exact aX|exact rfl),(by first|exact aX|exact rfl),(by first|exact aX|exact rfl)⟩
 .rw[A,PT]at m2;by_cases ahN:b=1
  .subst ahN;have hr:=kf.out s.out;exact jc @qR
  .have q:=s.out.odd A M;have fI:¬((b:Nat):Int)=1:=(by omega);have hnz:¬((b:Nat):Int)=0:=(by omega);have dj:=jU n (M:0<b);by_cases Z:b%4=3
   .by_cases z:n%4=3
    .rw[av ⟨Z,z⟩]at q;have r:((b:Nat):Int).tmod 4=3:=(by rw[r,Z];rfl);have Y:((n:Nat):Int).tmod 4=3:=(by rw[Y,z];rfl);have N:=ae.mk q;clear q;refine mK @qR ?_;exact⟨n%b,by omega,b,_,N.out,(by first|exact aX|exact rfl),(by first|exact aX|exact rfl),(by first|exact aX|exact rfl),(by first|exact aX|exact rfl),(by first|exact aX|exact rfl)⟩
    .rw[aP M]at q;have r:((b:Nat):Int).tmod 4=3:=(by rw[r,Z];rfl);have c5':¬(((n%4:Nat):Int)=3):=(by omega);have N:=ae.mk q;clear q;refine mK @qR ?_;exact⟨n%b,by omega,b,_,N.out,(by first|exact aX|exact rfl),(by first|exact aX|exact rfl),(by first|exact aX|exact rfl),(by first|exact aX|exact rfl),(by first|exact aX|exact rfl)⟩
   .rw[aP M]at q;have c4':¬(((b%4:Nat):Int)=3):=(by omega);have N:=ae.mk q;clear q;refine mK @qR ?_;exact⟨n%b,by omega,b,_,N.out,(by first|exact aX|exact rfl),(by first|exact aX|exact rfl),(by first|exact aX|exact rfl),(by first|exact aX|exact rfl),(by first|exact aX|exact rfl)⟩
def XL:Tryz.f193.results.toList=[.tmp 2]:=am
def ap8:Tryz.f130.results.toList=[.tmp 4]:=am
def ap9:Tryz.f202.results.toList=[.tmp 4]:=am
def IA:Tryz.f250.results.toList=[.tmp 4]:=am
def XT:Tryz.f231.results.toList=[.tmp 2,.tmp 3]:=am
def Ix:Tryz.f177.results.toList=[.tmp 4]:=am
def OL:Tryz.f111.results.toList=[.tmp 2]:=am
def Ey(n:Int)(h:Heap):W.call 193 [I n] h=J (.ret (I (fmod n)),h):=by
 obtain⟨f,j,m,q⟩:=EZ n;unfold I;refine cq O Tryz.func193 O ?_;by_cases c:n.tmod 1073741789<0
 .have e:=f c;clear f j;exact jc @XL
 .have e:=j c;clear f j;exact jc @XL
def Og(a b:Int)(h:Heap):W.call 202 [I a,I b] h=J (.ret (I (cS a b)),h):=by
 have s:=Ey a;have z:=Ey b;obtain⟨j,q⟩:=x_ a;obtain⟨f,r⟩:=x_ b;have m:0<=fmod a*fmod b:=PQ j f;have A:fmod a*fmod b<=1073741789*1073741789:=PP M M f M;have e:cS a b=(fmod a*fmod b).tmod 1073741789:=by rw[B5 m];rfl
 rw[e];unfold I at *
 refine cq O Tryz.func202 O ?_;exact jc @ap9
def anz(a b:Int)(h:Heap):W.call 130 [I a,I b] h=J (.ret (I (dx a b)),h):=by
 have r:=Ey a;have s:=Ey b;obtain⟨f,j⟩:=x_ a;obtain⟨m,q⟩:=x_ b;have e:dx a b=(fmod a+fmod b).tmod 1073741789:=by rw[B5 M];rfl
 rw[e];unfold I at *
 refine cq O Tryz.func130 O ?_;exact jc @ap8
def apv(r a:Int)(n:Nat)(E:n<=1073741787)(f:ol r n a 1)(h:Heap):W.call 250 [I a,I (n:Nat)] h=J (.ret (I r),h):=by
 have z:=ae.mk f;clear f;unfold I at *
 refine cq O Tryz.func250 O ?_;refine mK @IA ?_;refine b9 (λN e h'=>∃(q x:Int),N<=1073741787/\ol r N q x/\e.get 1=.v (.int .i64 (N:Nat))/\e.get 0=.v (.int .i64 q)/\e.get 5=.v (.int .i64 x)/\e.defers=[]/\h'=h) ?_ n _ _ ?_;rotate_left 1
 .exact⟨a,1,E,z.out,by exact gR,by exact gR,by exact gR,by exact gR,O⟩
 rintro l e h' ⟨q,x,hl,f,X,T,Y,Z,rfl⟩;have s:=ae.mk f;have A:=Og x q;have B:=Og q q;unfold I at A B;by_cases C:l=0
 .subst C;have hx:=f.done;clear f;exact jc @IA
 .have D:((l:Nat):Int).tdiv 2=((l/2:Nat):Int):=I4 l 2;have j:((l:Nat):Int).tmod 2=((l%2:Nat):Int):=pC l 2;have S:(0:Int)<((l:Nat):Int):=by omega
  clear f;rcases Cu l with m|m
  .rw[m,qm]at j;refine mK @IA ?_;exact⟨l/2,by omega,_,_,by omega,s.out.even m,(by first|exact aX|exact rfl),(by first|exact aX|exact rfl),(by first|exact aX|exact rfl),(by first|exact aX|exact rfl),(by first|exact aX|exact rfl)⟩
  .rw[m,PT]at j;refine mK @IA ?_;exact⟨l/2,by omega,_,_,by omega,s.out.odd m,(by first|exact aX|exact rfl),(by first|exact aX|exact rfl),(by first|exact aX|exact rfl),(by first|exact aX|exact rfl),(by first|exact aX|exact rfl)⟩
def aok(n:Int)(h:Heap):W.call 231 [I n] h=J (.ret (.tuple [I (if fmod n=0 then 0 else ea n),I (if fmod n=0 then 90 else 0)]),h):=by
 have m:=Ey n;have j:=apv (ea n) n 1073741787 (aV _) (ol.start n);by_cases f:fmod n=0
 .rw[av f,av f];clear j;unfold I at *
  refine cq O abb O ?_;exact jc @XT
 .rw[aP f,aP f];have j:∀h,W.call 250 [.v (.int .i64 n),.v (.int .i64 1073741787)] h=J (.ret (.v (.int .i64 (ea n))),h):=j;unfold I at *
  refine cq O abb O ?_;exact jc @XT
def mB(r n a c:Nat):Prop:=c<P/\a<P/\c*a^n%P=r
def mB.odd{r n a c}(h:mB r n a c)(f:n%2=1):mB r (n/2) (a*a%P) (c*a%P):=by refine⟨jU _ aY,jU _ aY,?_⟩;rw[<-h.2.2,aaL,rf,<-JW,<-rf,Qf,<-Qk,<-Qj,<-aaS,show(2*(n/2)).succ=n by omega]
def mB.even{r n a c}(h:mB r n a c)(f:n%2=0):mB r (n/2) (a*a%P) c:=by refine⟨h.1,jU _ aY,?_⟩;rw[<-h.2.2,rf,<-JW,<-rf,<-Qk,<-Qj,(M:2*(n/2)=n)]
def mB.done{r a c}(h:mB r 0 a c):c=r:=by rw[<-h.2.2,Nat.pow_zero,jC,mA h.1]
def mB.start{a n}(f:a<P)(j:n<2^31):mB (py a n) n a 1:=⟨aY,f,by rw[NX j,zN]⟩
def mB.bound{r n a c}(h:mB r n a c):c*a<=4611685722074649241/\a*a<=4611685722074649241:=by obtain⟨f,h2,-⟩:=h;have f:c<=2147483579:=mz f;have h2:a<=2147483579:=mz h2;exact⟨ji f h2,ji h2 h2⟩
def apu(r a n:Nat)(C:n<=2147483647)(j:mB r n a 1)(h:Heap):W.call 177 [I (a:Nat),I (n:Nat)] h=J (.ret (I (r:Nat)),h):=by
 have z:=ae.mk j;clear j;unfold I at *
 refine cq O Tryz.func177 O ?_;refine mK @Ix ?_;refine b9 (λD e h'=>∃(f x:Nat),D<=2147483647/\mB r D f x/\e.get 1=.v (.int .i64 (D:Nat))/\e.get 0=.v (.int .i64 (f:Nat))/\e.get 5=.v (.int .i64 (x:Nat))/\e.defers=[]/\h'=h) ?_ n _ _ ?_;rotate_left 1
 .exact⟨a,1,C,z.out,by exact gR,by exact gR,by exact gR,by exact gR,O⟩
 rintro l e h' ⟨f,x,hl,j,g1,g0,g5,hd,rfl⟩;have s:=ae.mk j;obtain⟨N,S⟩:=j.bound;by_cases A:l=0
 .subst A;have hx:=j.done;clear j;exact jc @Ix
 .have B:((l:Nat):Int).tdiv 2=((l/2:Nat):Int):=I4 l 2;have m:((l:Nat):Int).tmod 2=((l%2:Nat):Int):=pC l 2;have E:(0:Int)<((l:Nat):Int):=by omega
  have T:((x:Nat):Int)*(f:Nat)=((x*f:Nat):Int):=(Cf _ _).symm;have X:((f:Nat):Int)*(f:Nat)=((f*f:Nat):Int):=(Cf _ _).symm;have Y:((x*f:Nat):Int).tmod 2147483579=((x*f%P:Nat):Int):=pC (x*f) 2147483579;have Z:((f*f:Nat):Int).tmod 2147483579=((f*f%P:Nat):Int):=pC (f*f) 2147483579;clear j;rcases Cu l with q|q
  .rw[q,qm]at m;refine mK @Ix ?_;exact⟨l/2,by omega,_,_,by omega,s.out.even q,(by first|exact aX|exact rfl),(by first|exact aX|exact rfl),(by first|exact aX|exact rfl),(by first|exact aX|exact rfl),(by first|exact aX|exact rfl)⟩
  .rw[q,PT]at m;refine mK @Ix ?_;exact⟨l/2,by omega,_,_,by omega,s.out.odd q,(by first|exact aX|exact rfl),(by first|exact aX|exact rfl),(by first|exact aX|exact rfl),(by first|exact aX|exact rfl),(by first|exact aX|exact rfl)⟩
def fb(a n:Int):Int:=if bX a=V then ((ec a.toNat n:Nat):Int) else 0
def ox(a:Int):Int:=if bX a=V then 0 else 100
def nI(a b:Int):Int:=if bX a=V/\bX b=V then ((a.toNat*b.toNat%P:Nat):Int) else 0
def rq(a b:Int):Int:=if bX a=V/\bX b=V then 0 else 100
def FZ{a}(h:bX a=V):∃n:Nat,a=n/\elem n=V/\1<=n/\n<P:=by unfold bX at h;rw[bm,decide_eq_true_eq]at h;have:=elem_iff.1 h.2;exact⟨a.toNat,by omega,h.2,this.1,this.2.1⟩
def aqJ(x:Int)(h:Heap):W.call 111 [I x] h=J (.ret (.v (.bool (bX x))),h):=by
 by_cases f:x<1
 .rw[F2 (.inl f)];unfold I;refine cq O Qw O ?_;exact jc @OL
 by_cases j:2147483579<=x
 .rw[F2 (.inr j)];unfold I;refine cq O Qw O ?_;exact jc @OL
 obtain⟨n0,rfl⟩:∃n:Nat,x=n:=⟨x.toNat,by omega⟩;have h2:n0<P:=by have:P=2147483579:=rfl;omega
 have s:∀h,W.call 177 [.v (.int .i64 (n0:Nat)),.v (.int .i64 1073741789)] h=J (.ret (.v (.int .i64 (py n0 Q:Nat))),h):=apu (py n0 Q) n0 1073741789 aY (mB.start h2 aY);have e:bX (n0:Int)=decide (((py n0 Q:Nat):Int)=1):=by
  unfold bX elem;rw[bQ M,fh,bQ M,bQ h2,mq,mq,mq,Jj,decide_eq_true_eq];constructor
  .intro r;rw[kU r];rfl
  .intro r;have:py n0 Q=1:=(by omega);rw[this];rfl
 rw[e];generalize py n0 Q=z at *
 have m:(1:Int)<=(n0:Int):=by omega
 have q:(n0:Int)<2147483579:=by omega
 clear e h2 f j;unfold I;refine cq O Qw O ?_;exact jc @OL
def OG:Tryz.f67.results.toList=[.tmp 4,.tmp 5]:=am
def OJ:Tryz.f148.results.toList=[.tmp 2]:=am
def mul_tmod{a b}(j:a<P)(m:b<P):((a:Nat):Int)*(b:Nat)<=4611685722074649241/\(0:Int)<=((a:Nat):Int)*(b:Nat)/\(((a:Nat):Int)*(b:Nat)).tmod 2147483579=((a*b%P:Nat):Int):=by have f:a<=2147483579:=mz j;have h2:b<=2147483579:=mz m;have:=ji f h2;have e:((a:Nat):Int)*(b:Nat)=((a*b:Nat):Int):=(Cf _ _).symm;rw[e];exact⟨M,by omega,pC (a*b) 2147483579⟩
def ag1(a b:Int)(h:Heap):W.call 67 [I a,I b] h=J (.ret (.tuple [I (nI a b),I (rq a b)]),h):=by
 have m:=Ja a;have r:=Ja b;unfold nI rq;by_cases f:bX a=V
 .by_cases j:bX b=V
  .rw[av ⟨f,j⟩,av ⟨f,j⟩];rw[f]at m;rw[j]at r;obtain⟨x,rfl,-,-,D⟩:=FZ f;obtain⟨y,rfl,-,-,E⟩:=FZ j;obtain⟨B,C,-⟩:=mul_tmod D E;simp only[fh];have A:((x:Nat):Int)*(y:Nat)=((x*y:Nat):Int):=(Cf _ _).symm;have N:((x*y:Nat):Int).tmod 2147483579=((x*y%P:Nat):Int):=pC (x*y) 2147483579;rw[A]at B C;have S:x*y%P<2147483579:=jU _ aY;clear f j;unfold I at *
   refine cq O QG O ?_;exact jc @OG
  .have z:bX b=ai:=(by simpa using j);rw[aP (λq=>j q.2),aP (λq=>j q.2)];rw[f]at m;rw[z]at r;unfold I at *
   refine cq O QG O ?_;exact jc @OG
 .have s:bX a=ai:=by simpa using f
  rw[aP (λq=>f q.1),aP (λq=>f q.1)];rw[s]at m;unfold I at *
  refine cq O QG O ?_;exact jc @OG
def qK(l:List Int):Int:=l.foldl (λa x=>(a*(x.tmod 1073741789+1073741789)).tmod 1073741789) 1
def aj8(l)(x):qK (l++[x])=(qK l*(x.tmod 1073741789+1073741789)).tmod 1073741789:=by unfold qK;rw[oj];rfl
def aj7(n):qK [n]=fmod n:=by
 obtain⟨f,j,m,q⟩:=EZ n;show(1*(n.tmod 1073741789+1073741789)).tmod 1073741789=fmod n;rw[Jy,B5 M];by_cases c:n.tmod 1073741789<0
 .rw[f c];omega
 .rw[j c];omega
def VL{a x:Int}(h:0<=a/\a<1073741789):0<=a*(x.tmod 1073741789+1073741789)/\a*(x.tmod 1073741789+1073741789)<=2305843013508661242/\0<=(a*(x.tmod 1073741789+1073741789)).tmod 1073741789/\(a*(x.tmod 1073741789+1073741789)).tmod 1073741789<1073741789:=by obtain⟨-,-,j,m⟩:=EZ x;have f:0<=a*(x.tmod 1073741789+1073741789):=PQ h.1 M;have q:a*(x.tmod 1073741789+1073741789)<=1073741789*2147483578:=PP M M M M;rw[B5 f];omega
def aj6(l):0<=qK l/\qK l<1073741789:=by
 unfold qK;have f:∀(l:List Int) (a:Int),0<=a/\a<1073741789->0<=l.foldl (λa x=>(a*(x.tmod 1073741789+1073741789)).tmod 1073741789) a/\l.foldl (λa x=>(a*(x.tmod 1073741789+1073741789)).tmod 1073741789) a<1073741789:=by
  intro l
  induction l with
  |nil=>intro a h;exact h|cons x l j=>intro a h;exact j _ (VL h).2.2
 exact f l 1 ⟨aY,by decide⟩
def aj9(l:List Int)(k:Tok)(X:F l<=9223372036854775807)(h:Heap):W.call 148 [.list k 1 (ints l)] h=J (.ret (I (qK l)),h):=by
 have B:=cT;have C:=dS;have s3:=eR;refine cq O Tryz.func148 O ?_;refine Lj @OJ @cE ?_;refine b9 (λz e h'=>∃i:Nat,i<=F l/\z=F l-i/\e.get 6=.list k 1 (ints l)/\e.get 7=.v (.int .i64 (F l:Nat))/\e.get 8=.v (.int .i64 i)/\e.get 3=.v (.int .i64 (qK (l.take i)))/\e.defers=[]/\h'=h) ?_ (F l) _ _ ?_;rotate_left 1
 .refine⟨0,bV _,O,?_,?_,?_,?_,?_,O⟩<;>(first|assumption|(simp only[gW,reduceIte,aJ,aB,cE]<;>rfl))
 rintro z e h' ⟨i,T,rfl,D,E,N,r,S,rfl⟩;by_cases j:i<F l
 .obtain⟨x,m⟩:∃x,l[i]?=J x:=⟨_,aN j⟩;have s:(i:Int)<(F (ints l):Int):=by rw[cE];omega
  obtain⟨-,-,x1,x2⟩:=EZ x;obtain⟨Y,Z,A,s4⟩:=VL (x:=x) (aj6 (l.take i));have q:qK (l.take (i+1))=(qK (l.take i)*(x.tmod 1073741789+1073741789)).tmod 1073741789:=by rw[fY m,aj8]
  generalize qK (l.take i)=z0 at *
  have f:=VF (h:=h') m;unfold I at f;refine Lk @OJ @cE @aT ?_;exact⟨F l-(i+1),by omega,i+1,by omega,O,by trivial,by trivial,by simp,by rw[q],by trivial,by trivial⟩
 .have:i=F l:=by omega
  subst this;rw[fB]at r
  repeat' (first|simp(maxSteps:=9999999) (disch:=first|exact dZ|fail) only[gW,reduceIte,aJ,aB,OJ,cE,I, *]|(refine dX ?_ ?_<;>(intro _;try omega))|refine qT am ?_)
def Xf{h:Heap}{z cs}{b}(f:b=F h.boxes):(h.push z).put b cs=h.push cs:=by subst f;exact lO h z cs
def am1{h:Heap}{z cs}{b}(m:b≠F h.boxes):(h.push z).put b cs=(h.put b cs).push z:=by
 unfold Heap.push Heap.put;simp only;congr 1;rcases dp b (F h.boxes) with j|f
 .rw[List.set_append_left _ _ j]
 .rw[Fq _ _ f,aaz (by simp;omega),aaz f]
def aqb:Tryz.f147.results.toList=[.tmp 4]:=am
def Ot:Tryz.f216.results.toList=[]:=am
def OD:Tryz.f75.results.toList=[.cell 4 3,.tmp 5]:=am
def Jc:(fM aa 3).bind U.bG=J [I 0]:=am
def ab2{t}{x y}{n}(q:n<=9223372036854775807):cy aa .and t x y (.v (.int .i64 (n:Nat))) (.v (.int .i64 1))=J (.v (.int .i64 ((n%2:Nat):Int))):=by
 rw[pI];congr 3;have f:BitVec.ofInt IntKind.i64.bits (n:Int)=BitVec.ofNat 64 n:=by apply BitVec.eq_of_toNat_eq;show(BitVec.ofInt 64 (n:Int)).toNat=(BitVec.ofNat 64 n).toNat;rw[BitVec.toNat_ofInt,BitVec.toNat_ofNat];omega
 have j:(BitVec.ofNat 64 n&&&1#64).toNat=n%2:=by rw[BitVec.toNat_and,BitVec.toNat_ofNat,show(1#64:BitVec 64).toNat=1 from O,Nat.and_one_is_mod];omega
 have m:(BitVec.ofInt IntKind.i64.bits (n:Int)&&&BitVec.ofInt IntKind.i64.bits 1).toNat=n%2:=by rw[f];exact j
 rw[m,ja M M]
def arq{t}{x y}{n}:cy aa .shr t x y (.v (.int .i64 (n:Nat))) (.v (.int .u64 1))=J (.v (.int .i64 ((n/2:Nat):Int))):=by rw[z_ aY];congr 3;show((n:Nat):Int).fdiv (2^1)=_;rw[Int.fdiv_eq_ediv_of_nonneg _ aY];simp
def kC{h:Heap}{b}{cs}(f:h.boxes[b]?=J cs):h.put b cs=h:=by
 unfold Heap.put;have:h.boxes.set b cs=h.boxes:=by
  apply nV;intro k;rw[kQ];split
  .rename_i e;subst e;rw[av (aS.1 f).1,f]
  .rfl
 rw[this]
def ki{H}{b}{x}(f:H.boxes[b]?=J [x]):aD aa Gt H 3 (.ptr (.box b) 0)=J x:=by rw[fe dS f];rfl
def BU{H}{b}{x}{n}(f:H.boxes[b]?=J [x]):bY aa H 3 (.ptr (.box b) 0) (.v (.int .i64 n))=J (H.put b [.v (.int .i64 n)]):=fE (off:=0) (cs:=[x]) (xs:=[I n]) O eR f O (aV 1)
def Qp(l f:Nat)(rec:gM):Prop:=∀(j c:Nat) (b:Bool) (H:Heap),j<P->c<P->H.loops[l]?=J rec->H.boxes[f]?=J [I (c:Nat)]->W.round l [I (j:Nat),.v (.bool b)] H=J (.ret (.v (.bool V)),H.put f [I ((if b=V then c*j%P else c:Nat):Int)])
def xN{P}{R}{e}{h}{t l:Nat}{args}{ts}(f:e.get t=.yield l):jE P R e h {callee:=.value (.tmp t),args,argTypes:=ts}=R.round l (args.toList.map e.eval) h:=by rw[Rw,f]
def arQ(l bn j m:Nat)(rec:gM)(hR:Qp l m rec)(N:bn≠j)(h2:bn≠m)(S:j≠m)(r n a c:Nat)(hn:n<=2147483647)(q:mB r n a c)(h:Heap)
 (z:h.boxes[bn]?=J [I (n:Nat)]) (s:h.boxes[j]?=J [I (a:Nat)]) (A:h.boxes[m]?=J [I (c:Nat)]) (hl:h.loops[l]?=J rec):
 ∃h',W.call 216 [.yield l,.ptr (.box bn) 0,.ptr (.box j) 0] h=J (.ret (.tuple []),h')/\h'.boxes[m]?=J [I (r:Nat)]/\h'.loops=h.loops/\∀f:Heap,Ext f h->F f.boxes<=bn->F f.boxes<=j->F f.boxes<=m->Ext f h':=by
 have kR:=ae.mk hR;have Z:=ae.mk q;clear hR q;refine gy O Tryz.func216 O ?_;refine bg @Ot ?_;refine b9 (λB e h'=>∃(a c:Nat),B<=2147483647/\mB r B a c/\e.get 0=.yield l/\e.get 1=.ptr (.box bn) 0/\e.get 2=.ptr (.box j) 0/\e.defers=[]/\h'.boxes[bn]?=J [I (B:Nat)]/\h'.boxes[j]?=J [I (a:Nat)]/\h'.boxes[m]?=J [I (c:Nat)]/\h'.loops=h.loops/\∀f:Heap,Ext f h->F f.boxes<=bn->F f.boxes<=j->F f.boxes<=m->Ext f h') ?_ n _ _ ?_;rotate_left 1
 .exact⟨a,c,hn,Z.out,by exact gR,by exact gR,by exact gR,by exact gR,z,s,A,O,λ_ x _ _ _=>x⟩
 clear z s A Z n a c hn;rintro B e H ⟨a,c,hm,q,g0,g1,g2,hd,z,s,A,C,hX⟩;have Z:=ae.mk q;have kX:=ae.mk hX;have ln:=ki z;have la:=ki s;clear hX;by_cases f:B=0
 .subst f;have hx:=q.done;subst hx;unfold I at ln la;clear q;refine bg @Ot ?_;exact⟨_,O,A,C,kX.out⟩
 have AN:(0:Int)<((B:Nat):Int):=by omega
 have q1:∀(t:aC) (x y:bP),cy aa .and t x y (.v (.int .i64 (B:Nat))) (.v (.int .i64 1))=J (.v (.int .i64 ((B%2:Nat):Int))):=λt x y=>ab2 M;obtain⟨m1,m2,m3⟩:=mul_tmod q.2.1 q.2.1;have De:H.loops[l]?=J rec:=by rw[C];exact hl
 have rd:=kR.out a c (decide ((B%2:Nat)=1)) H q.2.1 q.1 De A;have E:mB r (B/2) (a*a%P) (if decide (B%2=1)=V then c*a%P else c):=by
  rcases Cu B with D|D
  .rw[D];exact q.even D
  .rw[D];exact q.odd D
 have kI2:=ae.mk E;have auN:decide (((B%2:Nat):Int)=1)=decide (B%2=1):=by rw[decide_eq_decide];omega
 have Y:=(aS.1 z).1;have T:=(aS.1 s).1;have X:=(aS.1 A).1;clear q E hl;generalize (if decide (B%2=1)=V then c*a%P else c)=c2 at *
 generalize decide (B%2=1)=bt at *
 unfold I at *
 have la2:∀x,aD aa Gt (H.put m x) 3 (.ptr (.box j) 0)=J (.v (.int .i64 (a:Nat))):=λx=>ki (by rw[cr S];exact s);have sa2:∀x n,bY aa (H.put m x) 3 (.ptr (.box j) 0) (.v (.int .i64 n))=J ((H.put m x).put j [.v (.int .i64 n)]):=λx n=>BU (by rw[cr S];exact s);have ln2:∀x y,aD aa Gt ((H.put m x).put j y) 3 (.ptr (.box bn) 0)=J (.v (.int .i64 (B:Nat))):=λx y=>ki (by rw[cr N,cr h2];exact z);have sn2:∀x y n,bY aa ((H.put m x).put j y) 3 (.ptr (.box bn) 0) (.v (.int .i64 n))=J (((H.put m x).put j y).put bn [.v (.int .i64 n)]):=λx y n=>BU (by rw[cr N,cr h2];exact z);refine cK @Ot @xN @arq ?_;refine⟨B/2,by omega,a*a%P,c2,by omega,kI2.out,aX,aX,aX,aX,?_,?_,?_,C,λf x p1 p2 p3=>(((kX.out f x p1 p2 p3).fy p3 _).fy p2 _).fy p1 _⟩
 .exact dn (by rw[jd,jd];exact Y)
 .rw[cr (Ne.symm N)];exact dn (by rw[jd];exact T)
 .rw[cr (Ne.symm h2),cr (Ne.symm S)];exact dn X
def Il{e:Env}{l p q t:Nat}{r:gM}{x y}(j:r.params=#[p,q])(m:r.tmps=e.tmps):(nq l r [x,y]).get t=if q=t then y else if p=t then x else e.get t:=by unfold nq;rw[j,m];have f:=A' (e.tmps.set p x) q t y;have h2:=A' e.tmps p t x;show((e.tmps.set p x).set q y).get t=_;rw[f,h2];rfl
def arR(a n:Int)(h:Heap):W.call 147 [I a,I n] h=J (.ret (.func (.func 216) [] [.ptr (.box (F h.boxes+1)) 0,.ptr (.box (F h.boxes)) 0]),(h.push [I a]).push [I n]):=by have f:∀n:Int,(U.v (.int .i64 n)).bG=J [.v (.int .i64 n)]:=λ_=>rfl;unfold I;refine cq O Tryz.func147 O ?_;exact o0 @aqb @a_ @bF
def ahb(a n:Int)(h:Heap):∃h',W.call 75 [I a,I n] h=J (.ret (.tuple [I (fb a n),I (ox a)]),h')/\Ext h h':=by
 have ca:=Ja a;have z3:=Jc;have a3:=dS;unfold fb ox;by_cases f:bX a=V;rotate_left 1
 .have TD:bX a=ai:=by simpa using f
  rw[aP f,aP f];rw[TD]at ca;unfold I at *
  refine gy O abj O ?_;refine bA @OD @BU @ki (aj @Xf @bF) ?_;exact⟨_,O,.push _ _⟩
 rw[av f,av f];rw[f]at ca;obtain⟨x,rfl,-,x1,x2⟩:=FZ f;clear f;have cl:=aj9 [n] .tight b7;rw[aj7]at cl;obtain⟨z,N⟩:∃z:Nat,fmod n=z:=⟨(fmod n).toNat,(S4 n).symm⟩;have m:z<Q:=by have:=S3 n;rw[N,fh]at this;exact this
 have B:ec (x:Int).toNat n=py x z:=by unfold ec;rw[N,fh,fh]
 rw[B];rw[N]at cl;have bl:ff aa 23 1 [(0,I n)]=J (.list .tight 1 (ints [n])):=am;have bx:∀n:Int,(I n).bG=J [I n]:=λ_=>rfl;have csq:=λH=>arR (x:Nat) (z:Nat) H;have q:=mB.start (n:=z) x2 (nW m aY);generalize py x z=z2 at *
 clear B N;have kS:=ae.mk (aj q (aj x2 (aj m x1)));clear q x2 m x1;unfold I at *
 refine gy O abj O ?_;refine bA @OD @BU @ki (aj @Xf @bF) ?_;refine bC.gen λe B hd hp nf=>?_;have g4:e.get 4=.ptr (.box (F h.boxes)) 0:=by rw[B];exact gS
 have T:e.get 15=.func (.func 216) [] [.ptr (.box (F h.boxes+1+1)) 0,.ptr (.box (F h.boxes+1)) 0]:=by rw[B];exact gS
 have hdf:e.defers=[]:=by rw[hd];exact gS
 clear B hd hp nf;refine EL (by rw[Aq];exact T) λrec w1 w2 w3 w4 E w6=>?_;have hL:F (((h.push [U.v (.int .i64 1)]).push [U.v (.int .i64 (x:Nat))]).push [U.v (.int .i64 (z:Nat))]).loops=F h.loops:=rfl;rw[hL];have PR:Qp (F h.loops) (F h.boxes) rec:=by
  intro z0 c b H hs hc hl A;obtain⟨m1,m2,-⟩:=mul_tmod hc hs;have e1:((c:Nat):Int)*(z0:Nat)=((c*z0:Nat):Int):=(Cf _ _).symm;have e3:((c*z0:Nat):Int).tmod 2147483579=((c*z0%P:Nat):Int):=pC (c*z0) 2147483579;rw[e1]at m1 m2;have S:∀t,(nq (F h.loops) rec [I (z0:Nat),.v (.bool b)]).get t=if 17=t then .v (.bool b) else if 16=t then I (z0:Nat) else e.get t:=λt=>Il w2 w1
  have j:(H.busy (F h.loops) rec).boxes[h.boxes.length]?=J [I (c:Nat)]:=A;have l1:=ki j;have Md:=A;have s1:=λn=>BU (n:=n) j;refine In hl (by rw[w2];rfl) ?_;rw[w3];unfold I at *
  refine bC.gen λe2 r jk rB AQ=>?_;have q16:e2.get 16=.v (.int .i64 (z0:Nat)):=by rw[r,S];rfl
  have q17:e2.get 17=.v (.bool b):=by rw[r,S];rfl
  have q4:e2.get 4=.ptr (.box (F h.boxes)) 0:=by rw[r,S];exact g4
  clear r S g4 T cl csq ca bl;have Z:F h.loops<F H.loops:=(aS.1 hl).1;have s:H.loops.set (F h.loops) rec=H.loops:=by
   apply nV;intro k;rw[kQ];split
   .rename_i e;subst e;exact hl.symm
   .rfl
  have D:{rec with state:=LoopState.ready,pending:=af}=rec:=by cases rec;cases E;cases w6;rfl
  cases b with
  |true=>
   refine wI ?_;refine⟨aX,rec,O,E,?_⟩;refine bE @l1 @s1 ?_;refine⟨{rec with state:=.busy},?_,O,?_⟩
   .show(H.loops.set (F h.loops) _)[h.loops.length]?=_;simp[Z]
   .show(H.put (F h.boxes) _)=_;simp only[Heap.put,Heap.busy,Cp,D,s]
  |false=>
   refine wI ?_;refine⟨aX,rec,O,E,{rec with state:=.busy},?_,O,?_⟩
   .show(H.loops.set (F h.loops) _)[h.loops.length]?=_;simp[Z]
   .have hq:H.put (F h.boxes) [U.v (Value.int IntKind.i64 (c:Nat))]=H:=kC Md;refine(show H.put (F h.boxes) _=H from hq).trans ?_;simp only[Heap.busy,Cp,D,s]
 have X:∀{z1:gM},((((h.push [U.v (.int .i64 1)]).push [U.v (.int .i64 (x:Nat))]).push [U.v (.int .i64 (z:Nat))]).loop z1).boxes[h.boxes.length]?=J [I ((1:Nat):Int)]:=λ{z1}=>aM (aM (aK _ _));have Y:∀{z1:gM},((((h.push [U.v (.int .i64 1)]).push [U.v (.int .i64 (x:Nat))]).push [U.v (.int .i64 (z:Nat))]).loop z1).boxes[F h.boxes+1]?=J [I (x:Nat)]:=λ{z1}=>aM (mJ (by rw[bF]));have j:∀{z1:gM},((((h.push [U.v (.int .i64 1)]).push [U.v (.int .i64 (x:Nat))]).push [U.v (.int .i64 (z:Nat))]).loop z1).boxes[F h.boxes+1+1]?=J [I (z:Nat)]:=λ{z1}=>mJ (by rw[bF,bF]);have C:=@D' (((h.push [U.v (.int .i64 1)]).push [U.v (.int .i64 (x:Nat))]).push [U.v (.int .i64 (z:Nat))]) rec;have m:=kS.out.2.2.1;obtain⟨h',c1,c2,c3,c4⟩:=arQ (F h.loops) (F h.boxes+1+1) (F h.boxes+1) (F h.boxes) rec PR M M M z2 z x 1 (by unfold Q at m;omega) kS.out.1 _ j Y X C;refine⟨_,h',c1,rec,by rw[c3];exact C,by rw[E];decide,.inl ⟨w6,?_⟩⟩;have hX:Ext h h':=c4 h ((((Ext.push h _).trans (Ext.push _ _)).trans (Ext.push _ _)).trans ((Fr.Ba (bn:=F h.boxes+3) (l0:=h.loops.length) (n0:=h.tn) _ _).ext (by simp only[bF];omega) (aV _) (aV _))) M M (aV _);have dj:F h.boxes<F h'.boxes:=(aS.1 c2).1;generalize hH:h'.eY (F h.loops) {rec with state:=.exhausted}=H;have A:H.boxes[h.boxes.length]?=J [I (z2:Nat)]:=by rw[<-hH];exact c2
 have Lp:Ext h H:=by rw[<-hH];exact((Fr.Ei (bn:=h.boxes.length) (l0:=h.loops.length) (n0:=h.tn) hX (aV _)).trans (.eY (aV _) _)).ext (aV _) (aV _) (aV _)
 clear c1 c2 c3 c4 hH C X Y j PR w1 w2 w3 w4 E w6 hX dj;have l1:=ki A;unfold I at *
 have s1:=λn=>BU (n:=n) A;have l2:∀y,aD aa Gt (H.put (F h.boxes) [.v (.int .i64 y)]) 3 (.ptr (.box (F h.boxes)) 0)=J (.v (.int .i64 y)):=λy=>ki (dn (aS.1 A).1);refine bg @OD ?_;exact⟨_,O,Lp.fy (aV _) _⟩
abbrev bI(b:List UInt8):List (List U):=b.map ie
def XW:Tryz.f255.results.toList=[.tmp 2]:=am
def uj:Tryz.f256.results.toList=[.tmp 4]:=am
def XX:Tryz.f257.results.toList=[.tmp 8]:=am
def Kh:fx aa 5=J ai:=am
def qX:cB aa 5=J 1:=am
def afe(n)(h):jX aa h 5 69 (.v (.int .u8 n))=J (.v (.int .u32 (IntKind.u32.wrap n)),h):=am
def me(n)(h):jX aa h 3 176 (.v (.int .i64 n))=J (.v (.int .u64 (IntKind.u64.wrap n)),h):=am
def jW(b:List UInt8):Nat->Nat
 |0=>0
 |i+1=>jW b i*256+(fF b i).toNat
def E0(b:UInt8):b.toNat<256:=b.toNat_lt
def QM(b):∀i,jW b i<256^i
 |0=>Nat.zero_lt_one
 |i+1=>by have:=QM b i;have:=E0 (fF b i);unfold jW;rw[xC];omega
def abw(b):BitVec.ofNat 32 (jW b 4)=vL b 0:=by unfold vL;refine congrArg (BitVec.ofNat 32) ?_;show(((0*256+(fF b 0).toNat)*256+(fF b 1).toNat)*256+(fF b 2).toNat)*256+(fF b 3).toNat=((fF b 0).toNat*256+(fF b 1).toNat)*256*256+(fF b 2).toNat*256+(fF b 3).toNat;omega
def or8{t}{x y}{n m}(r:n<16777216)(q:m<256):cy aa .or t x y (bM (BitVec.ofNat 32 n<<<8)) (.v (.int .u32 (IntKind.u32.wrap (m:Nat))))=J (bM (BitVec.ofNat 32 (n*256+m))):=by
 have f:U.v (.int .u32 (IntKind.u32.wrap (m:Nat)))=bM (BitVec.ofNat 32 m):=by unfold bM;rw[wrap32,BitVec.toNat_ofNat];congr 2
 rw[f,oe];congr 2;apply BitVec.eq_of_toNat_eq;rw[BitVec.toNat_or,BitVec.toNat_shiftLeft,BitVec.toNat_ofNat,BitVec.toNat_ofNat,BitVec.toNat_ofNat];have:n%2^32=n:=mA M;rw[this];have j:n<<<8=n*256:=by rw[aaU]
 have h2:n<<<8%2^32=n<<<8:=mA M;rw[h2,mA (M:m<2^32),<-Nat.shiftLeft_add_eq_or_of_lt (M:m<2^8),j];exact(mA M).symm
def arj{t}{x y}{u}:cy aa .shl t x y (bM u) (.v (.int .u64 8))=J (bM (u<<<8)):=rY (n:=8) aY
def atX(b:List UInt8)(x:U)(h:Heap)(s:dA 1 h x (bI b))(C:4<=F b):W.call 255 [x] h=J (.ret (bM (vL b 0)),h):=by
 have f:=Tryz.underlying60;have X:=Kh;have s5:=qX;obtain⟨y,y1,m⟩:=s.slice (t:=60) (lo:=af) (hi:=J (.v (.int .i64 4))) (l:=0) (m:=4) aY f qX (.inr ⟨.i64,O,by simpa using C⟩) (.inl ⟨O,O⟩) aY;have y3:=m.len f;rw[show(F ((List.take 4 (bI b)).drop 0))=4 by simp;omega]at y3;have N:=ae.mk m;clear s m;refine cq O Tryz.func255 O ?_;refine mK @XW ?_;refine b9 (λS e h'=>∃i:Nat,i<=4/\S=4-i/\e.get 6=y/\e.get 7=.v (.int .i64 (4:Nat))/\e.get 8=.v (.int .i64 i)/\e.get 2=bM (BitVec.ofNat 32 (jW b i))/\e.defers=[]/\h'=h) ?_ 4 _ _ ?_;rotate_left 1
 .refine⟨0,bV _,O,?_,?_,?_,?_,?_,O⟩<;>(first|assumption|(exact gR))
 rintro S e h' ⟨i,E,rfl,Y,Z,g8,B,hd,rfl⟩;by_cases D:i=4
 .subst D;rw[abw]at B;exact jc @XW
 .have r:i<4:=by omega
  have j:i<F b:=by omega
  obtain⟨p,p1,A,-⟩:=N.out.index (G:=Gt) (t:=60) (i:=i) (row:=ie (b[i])) aY f qX (by simp[r,j]);have T:=A Kh;have q:(ie b[i]).head?=J (.v (.int .u8 (((fF b i).toNat:Nat):Int))):=by unfold fF;rw[eG,aN j];rfl
  rw[q]at T;have z:=QM b i;have l2:jW b i<16777216:=l_ z (by have:256^i<=256^3:=Nat.pow_le_pow_right aY M;exact this);have l3:=E0 (fF b i);clear A q z;refine Lk @afe @or8 @arj ?_;refine⟨4-(i+1),by omega,i+1,by omega,O,aX,aX,?_,?_,aX,aX⟩
  .rfl
  .rfl
def uf(v:ey)(n)(f:n<32):(v<<<(32-n))|||(v>>>n)=NT.eQ v n:=by unfold NT.eQ;rw[BitVec.or_comm]
def ao8(v:ey)(h:Heap):W.call 256 [bM v,.v (.int .i64 (-2))] h=J (.ret (bM (NT.eQ v 2)),h):=by
 have f:∀(t:aC) (x y:bP),cy aa .and t x y (.v (.int .u64 (IntKind.u64.wrap (-2)))) (.v (.int .u64 31))=J (.v (.int .u64 30)):=λt x y=>by rw[pI];rfl
 have j:∀(t:aC) (x y:bP),cy aa .shl t x y (bM v) (.v (.int .u64 30))=J (bM (v<<<30)):=λt x y=>rY (n:=30) aY;have m:∀(t:aC) (x y:bP),cy aa .shr t x y (bM v) (.v (.int .u64 (IntKind.u64.wrap (32-30))))=J (bM (v>>>2)):=λt x y=>qV (n:=2) aY;have q:=uf v 2 aY;refine cq O uF O ?_;exact tw @uj @me @oe
def apb(v:ey)(h:Heap):W.call 256 [bM v,.v (.int .i64 (-6))] h=J (.ret (bM (NT.eQ v 6)),h):=by
 have f:∀(t:aC) (x y:bP),cy aa .and t x y (.v (.int .u64 (IntKind.u64.wrap (-6)))) (.v (.int .u64 31))=J (.v (.int .u64 26)):=λt x y=>by rw[pI];rfl
 have j:∀(t:aC) (x y:bP),cy aa .shl t x y (bM v) (.v (.int .u64 26))=J (bM (v<<<26)):=λt x y=>rY (n:=26) aY;have m:∀(t:aC) (x y:bP),cy aa .shr t x y (bM v) (.v (.int .u64 (IntKind.u64.wrap (32-26))))=J (bM (v>>>6)):=λt x y=>qV (n:=6) aY;have q:=uf v 6 aY;refine cq O uF O ?_;exact tw @uj @me @oe
def apc(v:ey)(h:Heap):W.call 256 [bM v,.v (.int .i64 (-7))] h=J (.ret (bM (NT.eQ v 7)),h):=by
 have f:∀(t:aC) (x y:bP),cy aa .and t x y (.v (.int .u64 (IntKind.u64.wrap (-7)))) (.v (.int .u64 31))=J (.v (.int .u64 25)):=λt x y=>by rw[pI];rfl
 have j:∀(t:aC) (x y:bP),cy aa .shl t x y (bM v) (.v (.int .u64 25))=J (bM (v<<<25)):=λt x y=>rY (n:=25) aY;have m:∀(t:aC) (x y:bP),cy aa .shr t x y (bM v) (.v (.int .u64 (IntKind.u64.wrap (32-25))))=J (bM (v>>>7)):=λt x y=>qV (n:=7) aY;have q:=uf v 7 aY;refine cq O uF O ?_;exact tw @uj @me @oe
def ao3(v:ey)(h:Heap):W.call 256 [bM v,.v (.int .i64 (-11))] h=J (.ret (bM (NT.eQ v 11)),h):=by
 have f:∀(t:aC) (x y:bP),cy aa .and t x y (.v (.int .u64 (IntKind.u64.wrap (-11)))) (.v (.int .u64 31))=J (.v (.int .u64 21)):=λt x y=>by rw[pI];rfl
 have j:∀(t:aC) (x y:bP),cy aa .shl t x y (bM v) (.v (.int .u64 21))=J (bM (v<<<21)):=λt x y=>rY (n:=21) aY;have m:∀(t:aC) (x y:bP),cy aa .shr t x y (bM v) (.v (.int .u64 (IntKind.u64.wrap (32-21))))=J (bM (v>>>11)):=λt x y=>qV (n:=11) aY;have q:=uf v 11 aY;refine cq O uF O ?_;exact tw @uj @me @oe
def ao4(v:ey)(h:Heap):W.call 256 [bM v,.v (.int .i64 (-13))] h=J (.ret (bM (NT.eQ v 13)),h):=by
 have f:∀(t:aC) (x y:bP),cy aa .and t x y (.v (.int .u64 (IntKind.u64.wrap (-13)))) (.v (.int .u64 31))=J (.v (.int .u64 19)):=λt x y=>by rw[pI];rfl
 have j:∀(t:aC) (x y:bP),cy aa .shl t x y (bM v) (.v (.int .u64 19))=J (bM (v<<<19)):=λt x y=>rY (n:=19) aY;have m:∀(t:aC) (x y:bP),cy aa .shr t x y (bM v) (.v (.int .u64 (IntKind.u64.wrap (32-19))))=J (bM (v>>>13)):=λt x y=>qV (n:=13) aY;have q:=uf v 13 aY;refine cq O uF O ?_;exact tw @uj @me @oe
def ao5(v:ey)(h:Heap):W.call 256 [bM v,.v (.int .i64 (-17))] h=J (.ret (bM (NT.eQ v 17)),h):=by
 have f:∀(t:aC) (x y:bP),cy aa .and t x y (.v (.int .u64 (IntKind.u64.wrap (-17)))) (.v (.int .u64 31))=J (.v (.int .u64 15)):=λt x y=>by rw[pI];rfl
 have j:∀(t:aC) (x y:bP),cy aa .shl t x y (bM v) (.v (.int .u64 15))=J (bM (v<<<15)):=λt x y=>rY (n:=15) aY;have m:∀(t:aC) (x y:bP),cy aa .shr t x y (bM v) (.v (.int .u64 (IntKind.u64.wrap (32-15))))=J (bM (v>>>17)):=λt x y=>qV (n:=17) aY;have q:=uf v 17 aY;refine cq O uF O ?_;exact tw @uj @me @oe
def ao6(v:ey)(h:Heap):W.call 256 [bM v,.v (.int .i64 (-18))] h=J (.ret (bM (NT.eQ v 18)),h):=by
 have f:∀(t:aC) (x y:bP),cy aa .and t x y (.v (.int .u64 (IntKind.u64.wrap (-18)))) (.v (.int .u64 31))=J (.v (.int .u64 14)):=λt x y=>by rw[pI];rfl
 have j:∀(t:aC) (x y:bP),cy aa .shl t x y (bM v) (.v (.int .u64 14))=J (bM (v<<<14)):=λt x y=>rY (n:=14) aY;have m:∀(t:aC) (x y:bP),cy aa .shr t x y (bM v) (.v (.int .u64 (IntKind.u64.wrap (32-14))))=J (bM (v>>>18)):=λt x y=>qV (n:=18) aY;have q:=uf v 18 aY;refine cq O uF O ?_;exact tw @uj @me @oe
def ao7(v:ey)(h:Heap):W.call 256 [bM v,.v (.int .i64 (-19))] h=J (.ret (bM (NT.eQ v 19)),h):=by
 have f:∀(t:aC) (x y:bP),cy aa .and t x y (.v (.int .u64 (IntKind.u64.wrap (-19)))) (.v (.int .u64 31))=J (.v (.int .u64 13)):=λt x y=>by rw[pI];rfl
 have j:∀(t:aC) (x y:bP),cy aa .shl t x y (bM v) (.v (.int .u64 13))=J (bM (v<<<13)):=λt x y=>rY (n:=13) aY;have m:∀(t:aC) (x y:bP),cy aa .shr t x y (bM v) (.v (.int .u64 (IntKind.u64.wrap (32-13))))=J (bM (v>>>19)):=λt x y=>qV (n:=19) aY;have q:=uf v 19 aY;refine cq O uF O ?_;exact tw @uj @me @oe
def ao9(v:ey)(h:Heap):W.call 256 [bM v,.v (.int .i64 (-22))] h=J (.ret (bM (NT.eQ v 22)),h):=by
 have f:∀(t:aC) (x y:bP),cy aa .and t x y (.v (.int .u64 (IntKind.u64.wrap (-22)))) (.v (.int .u64 31))=J (.v (.int .u64 10)):=λt x y=>by rw[pI];rfl
 have j:∀(t:aC) (x y:bP),cy aa .shl t x y (bM v) (.v (.int .u64 10))=J (bM (v<<<10)):=λt x y=>rY (n:=10) aY;have m:∀(t:aC) (x y:bP),cy aa .shr t x y (bM v) (.v (.int .u64 (IntKind.u64.wrap (32-10))))=J (bM (v>>>22)):=λt x y=>qV (n:=22) aY;have q:=uf v 22 aY;refine cq O uF O ?_;exact tw @uj @me @oe
def apa(v:ey)(h:Heap):W.call 256 [bM v,.v (.int .i64 (-25))] h=J (.ret (bM (NT.eQ v 25)),h):=by
 have f:∀(t:aC) (x y:bP),cy aa .and t x y (.v (.int .u64 (IntKind.u64.wrap (-25)))) (.v (.int .u64 31))=J (.v (.int .u64 7)):=λt x y=>by rw[pI];rfl
 have j:∀(t:aC) (x y:bP),cy aa .shl t x y (bM v) (.v (.int .u64 7))=J (bM (v<<<7)):=λt x y=>rY (n:=7) aY;have m:∀(t:aC) (x y:bP),cy aa .shr t x y (bM v) (.v (.int .u64 (IntKind.u64.wrap (32-7))))=J (bM (v>>>25)):=λt x y=>qV (n:=25) aY;have q:=uf v 25 aY;refine cq O uF O ?_;exact tw @uj @me @oe
def ape(v:ey)(h:Heap):W.call 257 [bM v,.v (.int .i64 6),.v (.int .i64 11),.v (.int .i64 25)] h=J (.ret (bM (NT.eQ v 6^^^NT.eQ v 11^^^NT.eQ v 25)),h):=by
 have q:IntKind.i64.wrap (0-6)= -6:=by decide
 have r:IntKind.i64.wrap (0-11)= -11:=by decide
 have s:IntKind.i64.wrap (0-25)= -25:=by decide
 have f:=apb v;have j:=ao3 v;have m:=apa v;refine cq O abe O ?_;exact Ti @XX @og
def apd(v:ey)(h:Heap):W.call 257 [bM v,.v (.int .i64 2),.v (.int .i64 13),.v (.int .i64 22)] h=J (.ret (bM (NT.eQ v 2^^^NT.eQ v 13^^^NT.eQ v 22)),h):=by
 have q:IntKind.i64.wrap (0-2)= -2:=by decide
 have r:IntKind.i64.wrap (0-13)= -13:=by decide
 have s:IntKind.i64.wrap (0-22)= -22:=by decide
 have f:=ao8 v;have j:=ao4 v;have m:=ao9 v;refine cq O abe O ?_;exact Ti @XX @og
def oF:Tryz.f245.results.toList=[]:=am
def CC:fx aa 69=J ai:=am
def vJ:cB aa 69=J 1:=am
def FE:fx aa 257=J V:=am
def BY:cB aa 257=J 8:=am
def aub:(fM aa 266).bind U.bG=J (bB 64 (bM 0#32)):=am
def Zg:(fM aa 257).bind U.bG=J (bB 8 (bM 0#32)):=am
abbrev eg(l:List ey):List U:=l.map bM
def yN{b n}{k}(j:n<64):dH aa 266 (.ptr (.box b) 0) (.v (.int k (n:Nat)))=J (.ptr (.box b) n):=by have f:=abp;unfold dH;rw[f];simp only[vJ];rw[av ⟨M,by omega⟩];simp
def ajp{g n}{k}(j:n<64):dH aa 266 (.ptr (.dB g) 0) (.v (.int k (n:Nat)))=J (.ptr (.dB g) n):=by have f:=abp;unfold dH;rw[f];simp only[vJ];rw[av ⟨M,by omega⟩];simp
def vd{b n}{k}(j:n<8):dH aa 257 (.ptr (.box b) 0) (.v (.int k (n:Nat)))=J (.ptr (.box b) n):=by have f:=Tryz.underlying257;unfold dH;rw[f];simp only[vJ];rw[av ⟨M,by omega⟩];simp
def yR{H}{b n}{l}(f:H.boxes[b]?=J (eg l))(j:n<F l):aD aa Gt H 69 (.ptr (.box b) n)=J (bM (ej l n)):=by rw[fe CC f,Fo,ej,eG,dW,aN j];rfl
def O0{H}{b n}{l}{x:ey}(j:H.boxes[b]?=J (eg l))(m:n<F l):bY aa H 69 (.ptr (.box b) n) (bM x)=J (H.put b (eg (l.set n x))):=by
 have f:n+1<=F (eg l):=by rw[br];omega
 rw[fE (xs:=[bM x]) O vJ j O f];congr 2;unfold dC eg;rw[List.set_eq_take_append_cons_drop,av m];simp
def aj1{H}{t}(j:t<64):aD aa Gt H 69 (.ptr (.dB 1) t)=J (bM (A6 t)):=by
 have f:t<F A7:=j;unfold aD;rw[CC];show((Eg.drop t).head?)=_;rw[Fo];unfold Eg A6;rw[dW,eG,aN f];show J _=J (bM (BitVec.ofNat 32 A7[t]));unfold bM;rw[BitVec.toNat_ofNat];have:∀x∈A7,x<2^32:=by decide
 rw[mA (this _ (iP f))]
def EN(b):∀n,F (jM b n)=n
 |0=>rfl|n+1=>by rw[jM,cg,EN b n];rfl
def wl(b:List UInt8)(i:Nat):List ey:=jM b i++bB (64-i) 0#32
def B6{b}{i}(hi:i<=64):F (wl b i)=64:=by unfold wl;rw[cg,EN,List.length_replicate];omega
def atU{b}{i k}(f:k<i):ej (wl b i) k=ej (jM b i) k:=by unfold wl ej;rw[eG,List.getElem?_append_left (by rw[EN];exact f),eG]
def Zd{b}{i}{x}(hi:i<64)(m:x=if i<16 then vL b (4*i) else HA (jM b i) i):(wl b i).set i x=wl b (i+1):=by subst m;unfold wl;have f:=EN b i;obtain⟨k,j⟩:∃k,64-i=k+1:=⟨63-i,by omega⟩;rw[Fq _ _ M,f,Nat.sub_self,j,List.replicate_succ,List.set_cons_zero,(M:64-(i+1)=k),jM,iE];rfl
def atV(b):eg (wl b 0)=bB 64 (bM 0#32):=by show List.map bM ([]++bB 64 0#32)=_;rw[dM,List.map_replicate]
def atT(b):wl b 64=jM b 64:=by unfold wl;simp
def atW(b)(k):vL (b.drop k) 0=vL b k:=by unfold vL fF;simp only[eG,oL,xA,nX]
def apg(w v)(t)(a b c d e f g i)(j:v=[a,b,c,d,e,f,g,i]):Im w v t=
 [i+(NT.eQ e 6^^^NT.eQ e 11^^^NT.eQ e 25)+(g^^^(e&&&(f^^^g)))+A6 t+ej w t+((NT.eQ a 2^^^NT.eQ a 13^^^NT.eQ a 22)+((a&&&b)|||(c&&&(a|||b)))),
  a,b,c,d+(i+(NT.eQ e 6^^^NT.eQ e 11^^^NT.eQ e 25)+(g^^^(e&&&(f^^^g)))+A6 t+ej w t),e,f,g]:=by
 subst j;rw[aeh,akN];rfl
def eight{l:List ey}(h:F l=8):∃a b c d e f g i,l=[a,b,c,d,e,f,g,i]:=by
 match l,h with
 | [a,b,c,d,e,f,g,i],_=>exact⟨a,b,c,d,e,f,g,i,O⟩
def vF(s:List ey)(b:List UInt8)(t:Nat):List ey:=(bZ t).foldl (Im (jM b 64)) s
def Y9(s)(b)(t):vF s b (t+1)=Im (jM b 64) (vF s b t) t:=by unfold vF;rw[jT,oj];rfl
def Ps{s}(b)(f:F s=8):∀t,F (vF s b t)=8
 |0=>f
 |t+1=>by rw[Y9];rfl
def vO(s v:List ey)(i:Nat):List ey:=Ft (·+·) (s.take i) (v.take i)++s.drop i
def aup{s v}(f:F s=8)(j:F v=8){i}(hi:i<=8):F (vO s v i)=8:=by unfold vO;simp;omega
def auo{s v}(f:F s=8)(j:F v=8){i}(hi:i<8):ej (vO s v i) i=ej s i:=by unfold vO ej;rw[eG,v_ (by simp;omega),oL,eG];congr 2;simp;omega
def auq{s v}(f:F s=8)(j:F v=8){i}(hi:i<8):(vO s v i).set i (ej s i+ej v i)=vO s v (i+1):=by
 obtain⟨a,b,c,d,e,E,g,N,rfl⟩:=eight f;obtain⟨m,q,r,z,A,B,C,D,rfl⟩:=eight j;have:i=0∨i=1∨i=2∨i=3∨i=4∨i=5∨i=6∨i=7:=by omega
 rcases this with rfl|rfl|rfl|rfl|rfl|rfl|rfl|rfl<;>rfl
def aun{s b}(f:F s=8)(j:F b=8):vO s b 8=Ft (·+·) s b:=by unfold vO;rw[fR M,fR M,List.drop_of_length_le M,ga]
end Go.Proofs.YtcbhpkjbiehcpaaGreatDoor
end
section
namespace Go.AE
section
variable {b n0:Nat} {h h':Heap}
def e8.fy(m:e8 b n0 h h'){c:Nat}(s:F h.boxes<=c)(cs:List U):e8 b n0 h (h'.put c cs):=by refine⟨λd j q f=>?_,by rw[jd];exact m.len,m.loop,m.tn,m.dead,m.ok⟩;have r:d<F h.boxes:=(aS.1 f).1;rw[cr M];exact m.box d j q f
def e8.push(m:e8 b n0 h h')(cs:List U):e8 b n0 h (h'.push cs):=
 ⟨λd f q j=>aM (m.box d f q j),by rw[bF];exact Nat.le_succ_of_le m.len,m.loop,m.tn,m.dead,m.ok⟩
end
def e8.r_{b n0 f}{h h'}(m:e8 b f h h')(r:n0<=f):e8 b n0 h h':=⟨m.box,m.len,m.loop,m.tn,λk q j=>m.dead k (l_ q r) j,m.ok⟩
def db.mut{b n0 j}{h h'}{k}(s:db n0 h k)(m:e8 b j h h')(z:h.tn<=j):db n0 h' k:=by
 rcases s with q|q|⟨B,q,A,f⟩
 .exact .inl q
 .exact .inr (.inl q)
 .refine .inr (.inr ⟨B,q,A,?_⟩);unfold alive at f ⊢;simp only[bm,decide_eq_true_eq,Ca,v9,decide_eq_false_iff_not]at f ⊢;exact⟨l_ f.1 m.tn,λr=>f.2 (m.dead B (l_ f.1 z) r)⟩
end Go.AE
end
