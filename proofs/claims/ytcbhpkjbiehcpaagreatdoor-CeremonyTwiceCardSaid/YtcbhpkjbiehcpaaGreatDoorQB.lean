/-
  The engine, part 16: calls, deferred calls, rounds; and the whole.
-/
import Derived.Test.YtcbhpkjbiehcpaaGreatDoorQA
import Derived.Laws.BitsLemmas
import Derived.ChangeArms
import Derived.OpenShut
import Derived.Carry
import Derived.ProofKit
import Derived.ChangeSame
import Derived.KernelRfl
import Derived.Test.YtcbhpkjbiehcpaaGreatDoorChecked
open True renaming intro->aX
open Go renaming Program->bk,World->bP,Value->aG,Frame->eF,FuncId->aR,Operand->bR,TypeId->aF,IntKind->qD
open Option renaming some->J,some.injEq->dt,map_eq_some_iff->dg,none->ag,map_some->fF,getD_some->Ah,bind_some->iR,filter_eq_some_iff->Q0,map_none->FY,isSome_none->FX
open List renaming mapM_cons->aaX,length->F,mem_cons_self->gH,mem_cons_of_mem->gx,getElem?_eq_getElem->aP,getElem?_eq_none->uS,all_eq_true->eJ,mem_range->ie,range->bZ,range'->QM,range'_succ->aa2,drop_eq_getElem_cons->s_,drop_zero->gG,range_eq_range'->QN,drop_take->J9,getElem?_toArray->iQ,flatten_cons->jP,getElem?_append_right->wB,mem_append_left->Kd,mem_append_right->aa0,getElem?_set->lM,contains_eq_mem->wz,set_append_right->FQ,take_length->fK,getElem?_eq_some_iff->aT,mem_cons->gU,mem_iff_getElem->wC,getElem?_map->ec,toArray->Kh,getElem?_set_ne->J',range_succ->ku,take_of_length_le->ga,cons_append->ey,map_cons->eI,map_nil->uT,getElem?_cons_zero->iP,getElem?_cons_succ->jE,append_nil->gj,nil_append->dO,length_cons->ef,length_append->ck,take_take->FR,drop_drop->pW,mem_of_mem_take->xS,length_drop->eC,length_take->cR,ext_getElem->FN,getElem_map->th,replicate->bB,all_cons->CC,getElem?_take->mM,mem_map->jg,map_map->Ad,map_append->jQ,map_congr_left->CG,zipWith->FS,getD_eq_getElem?_getD->eK,getElem_zipWith->aaV,length_map->br,getElem_drop->QJ,getElem_mem->i_,getElem_set_ne->QK,getElem_set->CF,mem_or_eq_of_mem_set->uV,foldl_append->oD,foldl_cons->J_,foldl_nil->CE,getElem_zipIdx->aaU,append_assoc->iO,set_eq_of_length_le->aa8,ext_getElem?->oh,set_set->CK,head?_drop->FO,getElem?_drop->o0
open Bool renaming false->ah,true->V,and_eq_true->bm,or_eq_true->og,false_eq_true->jB,eq_iff_iff->JM,not_eq_true'->Cu,true_and->mL,eq_false_iff->aal,false_and->uO,and_assoc->aai
open Prod renaming mk.injEq->cL
open Array renaming all_eq_true->zX,replicate->xL,getD_eq_getD_getElem?->FA,size->aag,getElem?_eq_getElem->jO,getElem_toList->aae
open Nat renaming lt_or_ge->dp,lt_succ_iff->Af,le_max_left->Km,le_max_right->FT,le_refl->aV,beq->hy,zero_le->bY,add_mul->js,le_trans->e8,lt_of_lt_of_le->my,zero_add->oj,add_zero->xU,mul_le_mul_right->mz,min_eq_left->CO,shiftLeft_eq->abt,Coprime->mO,Coprime.symm->Kj,dvd_of_mod_eq_zero->CN,le_of_dvd->Ae,mod_lt->kC,eq_zero_or_pos->Kl,mul_add->QS,add_mod->QQ,mul_assoc->QT,mul_mod_mod->abn,mod_eq_of_lt->mS,one_mul->Ag,div_add_mod->abg,mul_mod->rG,mul_one->jS,mul_comm->QU,mod_two_eq_zero_or_one->CP,pow_pos->Kq,mul_add_mod->abl,Coprime.coprime_mul_left->abc,pow_succ->xW,mul_le_mul->jt,pow_mod->Kp,pow_mul->QW,pow_two->QX,pow_succ'->abr,eq_of_beq_eq_true->lN,mod_mul_mod->abk,lt_trans->oi,reduceEqDiff->aH,le_of_lt->mR
open And renaming intro->aj
open Int renaming toNat_natCast->fD,pow_succ->wx,pow_add->Qx,sub_mul->Qz,mul_sub->aay,dvd_add->Qk,dvd_mul_of_dvd_right->aat,natAbs_dvd_natAbs->aaz,natAbs_natCast->aaA,pow_mul->FK,natCast_dvd_natCast->Qv,emod_nonneg->Qp,emod_lt_of_pos->Qo,emod_eq_of_lt->aav,mul_emod->z',mul_zero->J1,zero_mul->QB,sub_emod->aaF,emod_emod_of_dvd->Qn,dvd_refl->Ql,neg_zero->aaD,neg_mul->aaC,zero_add->aaH,mul_comm->Qs,mul_assoc->aax,mul_add->Qr,ofNat_lt->aaE,natCast_mul->Cy,natCast_emod->aaB,mul_one->JZ,sub_self->QA,emod_add_mul_ediv->aau,dvd_sub->Qm,tmod_eq_emod_of_nonneg->FL,mul_nonneg->Qu,mul_le_mul->Qt,pow_zero->Qy,one_mul->J2,tdiv_eq_ediv_of_nonneg->aaG,natCast_zero->qG,natCast_one->Qw
open Go.Proofs.Tryz renaming prog->aa,underlying23->cU,func222->abI,func66->Rg,func231->abK,func111->Q9,func67->Rh,func75->abS,func256->uZ,func257->abN,underlying266->abY
set_option maxHeartbeats 64000000
set_option maxRecDepth 100000
set_option linter.unusedSimpArgs false
set_option linter.unusedVariables false
set_option linter.constructorNameAsVariable false
set_option linter.defProp false
section
namespace Go.AE
open Go.RowKit (Below)
section
variable {P:bk} {G:Nat->Option (List U)} {w0:bP} {R:Rec}
def IN(tmps:Array aG):ResultVar->Sem aG
 | .tmp t=>pure (tmps.getD t undef)
 | .cell a t=>do loadVar t (<-asAddr (tmps.getD a undef))
def aoD{K:aW}{e:Env}{h:Heap}{w:bP}(s:ji P G w0 K h w){tmps:Array aG}(z:jT K e.tmps tmps):∀{m:List ResultVar} {l:List U},sF P G e h m=J l->
 ∃vs:List aG,aI K l vs/\(m.mapM (IN tmps)).run P w=.ok vs w:=by
 intro m
 induction m with
 |nil=>intro l f;simp only[sF,dt]at f;subst f;exact⟨[],.nil,by simp⟩|cons N m A=>
  intro l f;cases N with
  |tmp t=>simp only[sF,dg]at f;obtain⟨E,j,rfl⟩:=f;obtain⟨vs,r,h2⟩:=A j;exact⟨_::vs,.cons _ _ _ _ (z t) r,by simp[aaX,h2,IN]⟩
  |cell a t=>
   simp only[sF]at f;split at f
   .rename_i x E D j;injection f with f;subst f;obtain⟨vs,r,h2⟩:=A j;obtain⟨g,p,v,B,q,C⟩:=WJ s D (z a);refine⟨v::vs,.cons _ _ _ _ C r,?_⟩;rw[aaX];simp only[IN,B,asAddr,Sem.run_bind,Sem.run_pure,Result.andThen_ok,q,h2]
   grind
def aoE{K:aW}{fn:Func}{e:Env}{h:Heap}{w:bP}(s:ji P G w0 K h w){tmps:Array aG}(N:jT K e.tmps tmps){x:U}(j:EU P G fn e h=J x):
 ∃v,aQ K x v/\(results fn tmps).run P w=.ok v w:=by
 unfold EU at j;have r:∀l,sF P G e h fn.results.toList=J l->∃f:List aG,aI K l f/\(results fn tmps).run P w=.ok (if T:f.toArray.size=1 then f.toArray[0] else .tuple f.toArray) w:=by
  intro l q;obtain⟨f,m,h2⟩:=aoD s N q;refine⟨f,m,?_⟩;have z:results fn tmps=(do let f <-fn.results.mapM (IN tmps);pure (if h:f.size=1 then f[0] else .tuple f)):=by unfold results;congr 2
  rw[z,Array.mapM_eq_mapM_toList];simp only[Sem.run_bind,Sem.run_map,h2,Result.andThen_ok,Sem.run_pure]
 split at j
 .rename_i X q;injection j with j;subst j;obtain⟨f,m,h2⟩:=r _ q;cases m with|cons _ c _ cs S B=>cases B;simp_all
 .rename_i l A q;injection j with j;subst j;obtain⟨f,m,h2⟩:=r _ q;refine⟨.tuple f.toArray,.tuple _ _ M,?_⟩;rw[h2];have C:F f≠1:=by rw[<-m.length];intro E;obtain⟨y,rfl⟩:=List.length_eq_one_iff.1 E;exact A y O
  grind
 grind
def o7(K:aW):Option (U × Bool)->FrameMode->Prop
 |none,u=>u=.returning
 |some (x,f),u=>f=ah/\∃v,aQ K x v/\u=.panicking [{v,recovered:=ah}]
def o7.run{K}{m u}(h:o7 K m u):u≠ .run:=by
 cases m with|none=>simp only[o7]at h;simp_all|some p=>obtain⟨x,f⟩:=p;obtain⟨_,v,_,h⟩:=h;simp_all
def o7.un{K}{r}{m u}(h:o7 K m u):o7 (K.un r) m u:=by
 cases m with|none=>exact h|some p=>obtain⟨x,r⟩:=p;obtain⟨f,v,h2,h⟩:=h;exact⟨f,v,aQ.un h2,h⟩
def o7.mono{K K'}(le:K.Le K'){m u}(h:o7 K m u):o7 K' m u:=by
 cases m with|none=>exact h|some p=>obtain⟨x,j⟩:=p;obtain⟨f,v,h2,h⟩:=h;exact⟨f,v,h2.mono le,h⟩
def jT.un{K}{r}{s tmps}(h:jT K s tmps):jT (K.un r) s tmps:=λt=>aQ.un (h t)
def asP{fr:eF}{cs:List eF}{w:bP}{r:Nat}{args:Array aG}{j:List Deferred}(A:fr.mode≠ .run)(m:fr.defers={target:=.collected r,args}::j)(z:w.heap[r]?=J (.deferred (J []))):
 step P (lone fr cs w)=.next (lone {fr with defers:=j} cs (w.putObj r (.deferred ag))):=by
 refine step_lone_go ?_;have q:=run_takeDeferred (P:=P) z;cases f:fr.mode with|run=>simp_all|returning=>simp[stepG,unwind,f,m,Sem.runT_eq,q]|panicking s=>simp[stepG,unwind,f,m,Sem.runT_eq,q]
def settled:Option (U × Bool)->Option (U × Bool)
 |some (_,V)=>ag
 |q=>q
def Cw(P:bk)(K:aW)(fn:Func)(f:eF)(w:bP):dR->Prop
 | .ret x=>f.mode=.returning/\∃v,aQ K x v/\(results fn f.tmps).run P w=.ok v w
 | .panic x=>∃v,aQ K x v/\f.mode=.panicking [{v,recovered:=ah}]
def aub(hR:tt P G w0 R)(hn:Ak P){g:aR}{fn:Func}(DQ:P.funcs[g]?=J fn){K0:aW}{e:Env}:∀(f:List Deferred) (ds:List (aR × List U)) (ms:List Nat) (m:Option (U × Bool)) (h:Heap) (res:dR) (h':Heap),
 gh P G R fn e ds m h=J (res,h')->∀(K:aW) (w:bP) (fr:eF) (cs:List eF),fr.fn=g->fr.defers=f->oB K ds f ms->jT K e.tmps fr.tmps->o7 K m fr.mode->ji P G w0 K h w->K0.Le K->
 (∀r∈ms,r∉K0.md)->
 ∃K' w' q,K0.Le K'/\ji P G w0 K' h' w'/\Steps P (lone fr cs w) (lone q cs w')/\q.kind=fr.kind/\q.defers=[]/\q.fn=g/\Cw P K' fn q w' res/\(∀kind S p cs,CS K kind S p cs->CS K' kind S p cs):=by
 intro f
 induction f with
 |nil=>
  intro ds ms m h res h' s K w fr cs hg hd C qX j T E Z;generalize N:([]:List Deferred)=z1 at C;cases C with
  |call=>cases N
  |mark=>cases N
  |nil=>
   cases m with
   |none=>simp only[gh,dg,cL]at s;obtain⟨x,hx,rfl,rfl⟩:=s;obtain⟨v,h1,h2⟩:=aoE T qX hx;exact⟨K,w,fr,E,T,.refl P _,O,hd,hg,⟨j,v,h1,h2⟩,λ_ _ _ _ h=>h⟩
   |some p=>obtain⟨x,r⟩:=p;simp only[gh,dt,cL]at s;obtain⟨rfl,rfl⟩:=s;obtain⟨-,v,h1,h2⟩:=j;exact⟨K,w,fr,E,T,.refl P _,O,hd,hg,⟨v,h1,h2⟩,λ_ _ _ _ h=>h⟩
 |cons d f ih=>
  intro ds ms m h res h' s K w fr cs hg hd C qX j T E Z;generalize N:d::f=z1 at C;cases C with
  |nil=>cases N
  |mark r ds' cds' ms' hr hnr A=>injection N with ui vt;subst ui;subst vt;have hmd:=T.md r hr;have B:=asP (P:=P) (cs:=cs) j.run hd hmd.2;have dn:r∉K0.md:=Z r gH;obtain⟨K',w',q,g1,g2,g3,g4,g5,g6,g7,g8⟩:=ih _ ms' m h res h' s (K.un r) _ {fr with defers:=f} cs hg O (A.un hnr) qX.un j.un (T.drop hr (.deferred ag) (by simp_all)) (akB E dn) (λr' y9=>Z r' (gx _ y9));exact⟨K',w',q,g1,g2,.head B g3,g4,g5,g6,g7,λ_ _ _ _ hc=>g8 _ _ _ _ hc.un⟩
  |call z0 args vs X ds' cds' _ hv A=>
   injection N with ui vt;subst ui;subst vt;simp only[gh]at s;cases Y:R.iA z0 args m h with
   |none=>simp_all|some z1=>
    obtain⟨rr,m1,h1⟩:=z1;rw[Y]at s;cases rr with
    |panic x=>grind
    |ret x=>
     obtain⟨⟨fnn,Mz,AZ⟩,hc⟩:=hR.iA _ _ _ _ _ _ _ Y;have hinv:(invoke (.fn (.func z0) X) vs).run P w=.ok (.enter z0 (vs++X)) w:=(by simp only[invoke];exact Pp hn Mz AZ _ _);have B:=step_defer (P:=P) (cs:=cs) (d:={target:=.fn (.func z0) X,args:=vs}) j.run hd O hinv;have jc:CS K .deferred ({fr with defers:=f,mode:=.returning}::cs) m ({fr with defers:=f}::cs):=by
      cases m with
      |none=>have:({fr with defers:=f}:eF)={fr with defers:=f,mode:=.returning}:=(by rw[<-show fr.mode=.returning from j]);rw[this];exact .ret _ _ O O O
      |some p=>obtain⟨y,r⟩:=p;obtain⟨rfl,v,hv1,xn⟩:=j;have:({fr with defers:=f}:eF)={({fr with defers:=f,mode:=.returning}:eF) with mode:=.panicking [{v,recovered:=ah}]}:=(by simp_all);rw[this];exact .cD _ _ y v ah O O hv1
     obtain⟨K1,w1,fr1,cs1,v1,le1,s1,c1,gZ,xh,ud⟩:=hc K w (vs++X) _ _ hv jc T;have nX:∃u,cs1={fr with defers:=f,mode:=u}::cs/\o7 K1 (settled m1) (settle u):=by
      generalize z:({fr with defers:=f,mode:=.returning}:eF)::cs=S at c1;cases c1 with
      |normal D=>cases D
      |ret c0 rest _ hb hm=>refine⟨.returning,z.symm,?_⟩;simp[o7,settle,settled]|cD c0 rest y v r _ hb hx=>
       rw[hb]at z;injection z with ou k';subst ou;subst k';refine⟨.panicking [{v,recovered:=r}],O,?_⟩;cases r with|true=>simp[o7,settle,settled]|false=>exact⟨O,v,hx,O⟩
     obtain⟨u,rfl,nX⟩:=nX;have aig:=step_going_returned (c:={fr with defers:=f,mode:=u}) (cs:=cs) xh ud;have he':gh P G R fn e ds' (settled m1) h1=J (res,h'):=by
      rcases m1 with _|⟨y,r⟩
      .exact s
      .cases r<;>exact s
     obtain⟨K',w',q,g1,g2,g3,g4,g5,g6,g7,g8⟩:=ih _ ms _ h1 res h' he' K1 w1 {fr with defers:=f,mode:=settle u} cs hg O (A.mono le1) (qX.mono le1) nX s1 (E.trans le1) Z;exact⟨K',w',q,g1,g2,.head B (gZ.trans (.head aig g3)),g4,g5,g6,g7,λ_ _ _ _ N=>g8 _ _ _ _ (N.mono le1)⟩
def afc{n n'}(h:n<=n'):∀{c:Code},codeOk n c=V->codeOk n' c=V:=by
 intro c
 induction c with
 |region id ops q=>
  simp only[codeOk,BJ,zX]
  grind
 |seq a b j m=>simp only[codeOk,bm];simp_all|cond A a b j m=>simp only[codeOk,bm];simp_all|block id c f=>simp only[codeOk];exact f|loop c f=>simp only[codeOk];exact f|scope c f=>simp only[codeOk];exact f|rangeFunc z s a b j m=>
  simp only[codeOk,bm,zX,decide_eq_true_eq]
  grind
 |_=>intro r;exact r
structure Prog(P:bk):Prop where
 names:Ak P
 mixed:P.follows .mixedOrders=V
 code:∀(g:aR) (fn:Func) (c:Code),P.funcs[g]?=J fn->fn.body=J c->codeOk fn.ntmps c=V
def asc{K}{args}{f}(B:aI K args f.toList)(n):jT K {ch:=[],base:=args} (f++xL n undef):=by
 intro t;simp only[nO.get,look];have j:=B.length;rcases dp t (F args) with m|q
 .obtain⟨c,C,h2⟩:=B.get (aP m);have r:args.getD t (.tuple [])=args[t]:=by simp[m]
  rw[r];have A:(f++xL n undef).getD t undef=c:=by have z:t<f.size:=(by simpa [j] using m);rw[FA,Array.getElem?_append_left z,<-Array.getElem?_toList,C];rfl
  simp_all
 .have r:args.getD t (.tuple [])=.tuple []:=by simp[uS q]
  rw[r];have A:(f++xL n undef).getD t undef=undef:=by
   have s:f.size<=t:=(by simpa [j] using q);rw[FA,Array.getElem?_append_right s,Array.getElem?_replicate]
   grind
  rw[A];exact .tuple [] #[] .nil
def R8(hp:Prog P)(hR:tt P G w0 R){g:aR}{args:List U}{m m':Option (U × Bool)}{h h':Heap}{res:dR}(C:pi P G R g args m h=J (res,m',h')):
 (∃fn,P.funcs[g]?=J fn/\fn.body.isSome=V)/\∀(K:aW) (w:bP) (f:Array aG) (kind:CallKind) (base cs:List eF),aI K args f.toList->CS K kind base m cs->ji P G w0 K h w->
 ∃K' w' j s fn,P.funcs[g]?=J fn/\K.Le K'/\ji P G w0 K' h' w'/\CS K' kind base m' s/\Steps P (lone (Frame.enter P g f kind) cs w) (lone j s w')/\j.kind=kind/\j.defers=[]/\j.fn=g/\Cw P K' fn j w' res:=by
 unfold pi at C;split at C
 .cases C
 .rename_i fn z;split at C
  .cases C
  .rename_i r N;refine⟨⟨fn,z,by simp_all⟩,λK w f kind base cs hv jc hs=>?_⟩
   let b:eF:={(default:eF) with fn:=g,kind:=kind}
   let a:Act:={tmps:=f++xL (fn.ntmps-f.size) undef,defers:=[]}
   have hb:b.roundOf=ag:=rfl;have Z:Frame.enter P g f kind=b.atR a [.code r]:=(by unfold Frame.enter Frame.atR;simp only[z,N,b,a,fF,Ah,iR];rfl);have My:mq P K {tmps:={ch:=[],base:=args},defers:=[],cD:=m,round:=ag} a b []:=
    ⟨asc hv _,.nil,O,by grind⟩
   have fQ:codeOk a.tmps.size r=V:=afc (by grind) (hp.code g fn r z N);have X:∀(B:Xt) (e:Env) (Y:Heap) (E:Option (U × Bool)),R.code r {tmps:={ch:=[],base:=args},defers:=[],cD:=m,round:=ag} h=J (B,e,Y)->
    (B=.normal/\E=ag∨B=.ret/\E=ag∨∃x,B=.panic x/\E=J (x,ah))->(gh P G R fn e e.defers E Y).map (λ(z0,h)=>(z0,e.cD,h))=J (res,m',h')->
    ∃K' w' j s fn,P.funcs[g]?=J fn/\K.Le K'/\ji P G w0 K' h' w'/\CS K' kind base m' s/\Steps P (lone (Frame.enter P g f kind) cs w) (lone j s w')/\j.kind=kind/\j.defers=[]/\j.fn=g/\Cw P K' fn j w' res:=by
    intro B e Y E Mr MY S;obtain⟨K1,w1,a1,T,ms1,L⟩:=hR.code _ _ _ _ _ _ Mr K w a b [] base cs [] My jc hs fQ;simp only[dg,cL]at S;obtain⟨⟨z0,D⟩,S,rfl,rfl,rfl⟩:=S;have Mg:∃(q:List Item) (u:FrameMode),o7 K1 E u/\Steps P (lone (Frame.enter P g f kind) cs w) (lone {b.atR a1 q with mode:=u} T w1):=by
     rw[Z];rcases MY with⟨rfl,rfl⟩|⟨rfl,rfl⟩|⟨x,rfl,rfl⟩
     .exact⟨[],.returning,O,Steps.trans L.arr (.one (stepR_end hb))⟩
     .obtain⟨q,A⟩:=L.arr;exact⟨_,.returning,O,Steps.trans A (.one (stepR_ret hb))⟩
     .obtain⟨q,v,hx,A⟩:=L.arr;exact⟨q,_,⟨O,v,hx,O⟩,A⟩
    obtain⟨q,u,aiL,A⟩:=Mg;obtain⟨K2,w2,j,g1,g2,g3,g4,g5,g6,g7,g8⟩:=aub hR hp.names z a1.defers e.defers ms1 E Y z0 D S K1 w1 {b.atR a1 q with mode:=u} T O O L.frame.defers L.frame.gf aiL L.oV L.le
     (λz0 hr=>(L.marks z0 hr).resolve_left b8)
    exact⟨K2,w2,j,T,fn,z,g1,g2,g8 _ _ _ _ L.cs,A.trans g3,g4,g5,g6,g7⟩
   split at C
   .grind
   .grind
   .rename_i x e1 Y hc;exact X _ _ _ _ hc (.inr (.inr ⟨x,O,O⟩)) C
   grind
def Cw.aps{K:aW}{fn:Func}{f:eF}{w:bP}{res:dR}(r:Cw P K fn f w res)(q:P.funcs[f.fn]?=J fn)(z:f.kind=.normal)(m:f.defers=[]):Q4 P K f w res:=by
 cases res with
 |ret x=>obtain⟨s,v,h2,j⟩:=r;exact⟨v,h2,s,m,z,fn,q,j⟩
 |panic x=>obtain⟨v,h2,j⟩:=r;exact⟨v,h2,j,m,fn,q⟩
def kJ(P:bk)(G:Nat->Option (List U))(w0:bP)(g:aR)(p:List U->Heap->Option (U × Heap)):Prop:=
 (∃j,P.funcs[g]?=J j/\j.body.isSome=V)/\
 ∀args h x h',p args h=J (x,h')->∀(K:aW) (w:bP) (f:Array aG),aI K args f.toList->ji P G w0 K h w->
  Calls P g f w λe w'=>∃v K',e=.returned v/\K.Le K'/\aQ K' x v/\ji P G w0 K' h' w'
def ahc(hp:Prog P){aJ:aR->Option (List U->Heap->Option (U × Heap))}(s:∀g p,aJ g=J p->kJ P G w0 g p)(hR:tt P G w0 R):Q5 P G w0 (k_ P G R aJ):=by
 intro g args h z0 h' j;unfold k_ at j;split at j
 .rename_i p Y;simp only[dg,cL]at j;obtain⟨⟨x,X⟩,C,rfl,rfl⟩:=j;obtain⟨q,m⟩:=s g p Y;refine⟨q,λK w f B A cs=>?_⟩;obtain⟨e,w',z,⟨v,K',rfl,le,hx',E⟩,hc,T,hl⟩:=m args h x X C K w f B A cs;exact⟨K',w',z,le,E,hc,T,v,hx',hl⟩
 .simp only[dg,cL]at j;obtain⟨⟨r',m',X⟩,C,rfl,rfl⟩:=j;obtain⟨q,hb⟩:=R8 hp hR C;refine⟨q,λK w f B A cs=>?_⟩;obtain⟨K',w',z,S,fn,hf,le,E,N,Z,hk,hd,hg,r⟩:=hb K w f .normal cs cs B (.normal O) A;have:S=cs:=by
   generalize hq:CallKind.normal=z1 at N;cases N with|normal=>rfl|ret c0 rest h1=>simp_all|cD c0 rest x v z0 h1=>simp_all
  subst this;exact⟨K',w',z,le,E,Z,hg,r.aps (by simp_all) hk hd⟩
def afN(Z:Prog P)(N:tt P G w0 R):Q7 P G w0 (pi P G R):=by intro g args z0 h x m' h' X;obtain⟨s,S⟩:=R8 Z N X;refine⟨s,λK w j m cs hv r hs=>?_⟩;obtain⟨K',w',C,q,B,hf,le,s',A,z,Y,T,hg,f⟩:=S K w j .deferred m cs hv r hs;obtain⟨D,v,h2,E⟩:=f;exact⟨K',w',C,q,v,le,s',A,z,Y,D,T,B,by simp_all,E⟩
def arP{K}:∀{ps:List Tmp} {args:List U} {f:List aG} {s:nO} {tmps:Array aG},aI K args f->jT K s tmps->(∀p∈ps,p<tmps.size)->
 jT K (Cf ps args s) ((ps.zip f).foldl (λts p=>ts.setIfInBounds p.1 p.2) tmps)/\((ps.zip f).foldl (λts p=>ts.setIfInBounds p.1 p.2) tmps).size=tmps.size:=by
 intro ps
 induction ps with
 |nil=>intro args f s tmps q j m;exact⟨j,O⟩|cons p ps C=>
  intro args f s tmps q j m;cases q with
  |nil=>exact⟨j,O⟩|cons x c xs cs A r=>
   have z:=jT.set j (m p gH) A;obtain⟨B,E⟩:=C (s:=s.set p x) (tmps:=tmps.setIfInBounds p c) r z (λN D=>by simp_all);refine⟨?_,?_⟩
   .simpa [Cf] using B
   simp_all
def apY(hR:tt P G w0 R):Q8 P G w0 (sI R):=by
 intro l args h r h' T K w s lg hγ hv hs j cs;unfold sI at T;split at T
 .cases T
 .rename_i rec aiW;split at T
  .rename_i ai2;obtain⟨m,m1,m2,m3,m4,m5,m6,m7,m8,m9,m10,-⟩:=hs.fb hγ aiW rec.state rec.pending;have ah2:s.size=m.params.size:=(by rw[m4,ai2,hv.length];simp);have E:=run_yield (P:=P) m1 ah2;split at T
   .rename_i e1 h1 aie;split at T
    .rename_i r1 vu;split at T
     .rename_i aiV;obtain⟨sp1,sp2⟩:=arP (ps:=rec.params.toList) hv m7 m10;have aiw:(m.params.zip s).foldl (λtmps (x:Tmp × aG)=>tmps.setIfInBounds x.1 x.2) m.tmps=(rec.params.toList.zip s.toList).foldl (λts p=>ts.setIfInBounds p.1 p.2) m.tmps:=by rw[<-Array.foldl_toList,Array.toList_zip,m4]
      let b:eF:={(default:eF) with fn:=m.fn,kind:=.normal,roundOf:=J lg}
      let a:Act:={tmps:=(rec.params.toList.zip s.toList).foldl (λts p=>ts.setIfInBounds p.1 p.2) m.tmps,defers:=[]}
      have UV:(P.funcs[m.fn]?).isSome=V:=(by have:=m8;unfold BD at this;rw[bm]at this;exact this.2);have My:mq P K {tmps:=Cf rec.params.toList args rec.tmps,defers:=[],cD:=ag,round:=J l} a b []:=
       ⟨sp1,.nil,⟨lg,hγ,O,O,O,O,O⟩,UV⟩
      have DY:codeOk a.tmps.size rec.assign=V:=(by have:=m8;unfold BD at this;rw[bm]at this;show codeOk (aag _) _=V;rw[sp2];exact this.1);have A8:codeOk a.tmps.size rec.body=V:=(by have:=m9;unfold BD at this;rw[bm]at this;show codeOk (aag _) _=V;rw[sp2];exact this.1);have Nl:Frame.round lg m.fn ((m.params.zip s).foldl (λtmps (x:Tmp × aG)=>tmps.setIfInBounds x.1 x.2) m.tmps) m.assign m.body .normal=b.atR a [.code rec.assign,.beginRound,.code rec.body]:=(by simp only[Frame.round,Frame.atR,b,a,aiw,m5,m6]);have nocs:∀{K:aW} {p:Option (U × Bool)} {base AD:List eF},CS K .normal base p AD->AD=base:=by
       intro K p base AD c;generalize hq:CallKind.normal=z0 at c;cases c with|normal=>rfl|ret c0 rest h1=>simp_all|cD c0 rest x v r h1=>simp_all
      obtain⟨K1,w1,a1,cs1,ms1,L1⟩:=hR.code _ _ _ _ _ _ aie K w a b [.beginRound,.code rec.body] (j::cs) (j::cs) [] My (.normal O) hs DY;have ain:=nocs L1.cs;subst ain;obtain⟨nn,n1,n2,n3,n4,n5,n6,n7,n8,n9,n10,sbusy⟩:=L1.oV.fb (L1.le.γ _ _ hγ) vu .busy r1.pending;have aii:=run_beginRound (P:=P) n1 (n2.trans aiV);have aiu:({nn with state:=.busy,pending:=r1.pending}:Loop)={nn with state:=.busy}:=(by grind);rw[aiu]at sbusy;have Hl:Steps P (lone (Frame.round lg m.fn ((m.params.zip s).foldl (λtmps (x:Tmp × aG)=>tmps.setIfInBounds x.1 x.2) m.tmps) m.assign m.body .normal) (j::cs) w)
       (lone (b.atR a1 [.code rec.body]) (j::cs) (w1.putObj lg (.loop {nn with state:=.busy}))):=by
       rw[Nl];exact Steps.trans L1.arr (.one (stepR_beginRound O aii))
      have avv:∀r∈ms1,r∉K.md:=λr hr=>(L1.marks r hr).resolve_left b8;have body:∀(Z:Xt) (X:Env) (h2:Heap),R.code rec.body e1 {h1 with loops:=h1.loops.set l {r1 with state:=.busy}}=J (Z,X,h2)->
       ∃f B S C,K.Le f/\ji P G w0 f h2 B/\mq P f X S b C/\mK P f (lone (b.atR a1 [.code rec.body]) (j::cs) (w1.putObj lg (.loop {nn with state:=.busy}))) b [] (j::cs) Z S B:=by
       intro Z X h2 Mr;obtain⟨f,B,S,cs2,C,L2⟩:=hR.code _ _ _ _ _ _ Mr K1 _ a1 b [] (j::cs) (j::cs) ms1 L1.frame L1.cs sbusy (by rw[L1.size];omega);have Ms:=nocs L2.cs;subst Ms;exact⟨f,B,S,C,L1.le.trans L2.le,L2.oV,L2.frame,L2.arr⟩
      have Y:∀(h2:Heap) (Z:dR) (D:Heap) (st:LoopState) (pe:Option Code) (bb:Bool) (f:aW) (B:bP),K.Le f->ji P G w0 f h2 B->pe.isNone=bb->(if pe.isNone then LoopState.ready else .done)=st->
       ((h2.loops[l]?).map λr=>(dR.ret (.v (.bool bb)),{h2 with loops:=h2.loops.set l {r with state:=st,pending:=pe}}))=J (Z,D)->
       ∃v w3,(Instr.endRound lg pe).run P B=.ok (.bool bb) w3/\ji P G w0 f D w3/\Z=.ret (.v (.bool bb))/\aQ f (.v (.bool bb)) v/\v=.bool bb:=by
       intro h2 Z D st pe bb f B z s2 tZ gZ U';simp only[dg,cL]at U';obtain⟨r2,Hy,rfl,rfl⟩:=U';obtain⟨qq,q1,q2,q3,-,-,-,-,-,-,-,send⟩:=s2.fb (z.γ _ _ hγ) Hy st pe;have A:=run_endRound (P:=P) pe q1;rw[gZ,tZ]at A;exact⟨_,_,A,send,O,.v _ O,O⟩
      have DW:∀{f:aW} {X:Env} {S:Act} {C:List Nat},mq P f X S b C->X.round=J l->S.defers=[]:=(by intro f X S C hf hr;have:=hf.round;rw[hr]at this;obtain⟨_,_,_,_,h1,_⟩:=this;exact h1);refine⟨m.fn,(m.params.zip s).foldl (λtmps (x:Tmp × aG)=>tmps.setIfInBounds x.1 x.2) m.tmps,m.assign,m.body,?_⟩;split at T
      .rename_i X h2 q;obtain⟨f,B,S,C,z,s2,f2,N⟩:=body _ _ _ q;obtain⟨v,w3,A,s3,rfl,xo,rfl⟩:=Y h2 r h' .ready ag V f B z s2 O O T;exact⟨f,w3,E,z,s3,_,xo,Hl.trans (Steps.trans N (.one (stepR_round_end O O A)))⟩
      .rename_i X h2 q;obtain⟨f,B,S,C,z,s2,f2,todo,N⟩:=body _ _ _ q;obtain⟨v,w3,A,s3,rfl,xo,rfl⟩:=Y h2 r h' .done (J .ret) ah f B z s2 O O T;exact⟨f,w3,E,z,s3,_,xo,Hl.trans (N.trans (.one (stepR_round_ret O O A)))⟩
      .rename_i id X h2 q;obtain⟨f,B,S,C,z,s2,f2,todo,hex,N⟩:=body _ _ _ q;obtain⟨v,w3,A,s3,rfl,xo,rfl⟩:=Y h2 r h' .done (J (.exit id)) ah f B z s2 O O T;exact⟨f,w3,E,z,s3,_,xo,Hl.trans (N.trans (.one (stepR_round_exit O O (hex.trans O) A)))⟩
      .rename_i x X h2 q;simp only[dt,cL]at T;obtain⟨rfl,rfl⟩:=T;obtain⟨f,B,S,C,z,s2,f2,todo,v,hx,N⟩:=body _ _ _ q;have hd:S.defers=[]:=by
        have:=f2.round;cases hq:X.round with|none=>simp_all|some l'=>grind
       obtain⟨fnn,Mz⟩:=Option.isSome_iff_exists.1 UV;exact⟨f,B,E,z,s2,v,_,hx,Hl.trans N,O,hd,fnn,Mz⟩
      grind
     grind
    grind
   grind
  grind
def IK(j:Prog P){aJ:aR->Option (List U->Heap->Option (U × Heap))}(m:∀g p,aJ g=J p->kJ P G w0 g p):∀n,tt P G w0 (gN P G aJ n):=by
 intro n
 induction n with
 |zero=>
  refine⟨?_,?_,?_,?_⟩
  .intro c e h r s h' f;cases f
  .intro g args h A h' f;cases f
  .intro g args B h x z h' f;cases f
  .intro l args h A h' f;cases f
 |succ n q=>exact⟨afe j.names j.mixed q,ahc j m q,afN j q,apY q⟩
end
end Go.AE
end
section
namespace Go.AE
structure mB(R R':Rec):Prop where
 code:∀c e h r,R.code c e h=J r->R'.code c e h=J r
 call:∀g a h r,R.call g a h=J r->R'.call g a h=J r
 iA:∀g a m h r,R.iA g a m h=J r->R'.iA g a m h=J r
 round:∀l a h r,R.round l a h=J r->R'.round l a h=J r
section
variable {P:bk} {G:Nat->Option (List U)} {R R':Rec}
def aeh(le:mB R R'){e:Env}{h:Heap}{c:Call}{r:dR × Heap}(f:jU P R e h c=J r):jU P R' e h c=J r:=by
 unfold jU at f ⊢;cases m:c.callee with
 |builtin b=>simp_all|value q=>
  simp only[m]at f ⊢;split at f
  .rename_i j;(try simp only[j]);exact le.call _ _ _ _ f
  .rename_i j;(try simp only[j]);exact le.round _ _ _ _ f
  omega
 |invoke v s=>
  simp only[m]at f ⊢;split at f
  .rename_i j
   (try simp only[j])
   split at f
   .rename_i h2;(try simp only[h2]);exact le.call _ _ _ _ f
   omega
  omega
def BG(le:mB R R'){e:Env}{h:Heap}{o:Oper}{r:dR × Env × Heap}(f:dH P G R e h o=J r):dH P G R' e h o=J r:=by
 unfold dH at f ⊢;split at f
 .exact f
 .exact f
 .exact f
 .simp only[dg]at f ⊢;obtain⟨q,m,j⟩:=f;exact⟨q,aeh le m,j⟩
 .exact f
 .exact f
 omega
def nj(le:mB R R'){ops:Array Oper}:∀{l:List Nat} {e:Env} {h:Heap} {r:Xt × Env × Heap},bW P G R ops l e h=J r->bW P G R' ops l e h=J r:=by
 intro l
 induction l with
 |nil=>intro e h r f;exact f|cons i l s=>
  intro e h r f;simp only[bW]at f ⊢;cases m:ops[i]? with
  |none=>simp_all|some o=>
   rw[m]at f;simp only at f ⊢;cases q:eE ops e o with
   |none=>simp_all|some b=>
    rw[q]at f;cases b with
    |false=>grind
    |true=>
     simp only at f ⊢;cases j:dH P G R e h o with
     |none=>simp_all|some z=>
      rw[j]at f;rw[BG le j]
      grind
def Jp(le:mB R R'){ops:Array Oper}{e:Env}{h:Heap}{r m:Nat}(f:od P G R ops e h r m=V):od P G R' ops e h r m=V:=by
 unfold od at f ⊢;split at f
 .rename_i o z B s A j h2 q;rw[j,nj le h2,nj le q];exact f
 grind
def C7{ops:Array Oper}{e:Env}{h:Heap}{k:Nat}:jW P G R ops e h k=V↔u' P G R ops e h k:=by unfold jW;simp_all
def Ge(le:mB R R'){ops:Array Oper}{e:Env}{h:Heap}{k:Nat}(f:jW P G R ops e h k=V):jW P G R' ops e h k=V:=by rw[C7]at f ⊢;obtain⟨o,x,q,D,r,h2,s,z⟩:=f;refine⟨o,x,q,D,r,h2,nj le s,λE C=>?_⟩;obtain⟨m,j,A,B⟩:=z E C;exact⟨m,j,nj le A,BG le B⟩
def Di(le:mB R R'){ops:Array Oper}{e:Env}{h:Heap}(j:kU P G R ops e h=V):kU P G R' ops e h=V:=by
 unfold kU at j ⊢;simp only[bm,eJ,ie,og]at j ⊢;refine⟨j.1,λz s i r=>?_⟩;rcases j.2 z s i r with((f|f)|f)|f
 .simp_all
 .simp_all
 .refine .inl (.inr ?_);unfold jA at f ⊢;rw[bm]at f ⊢;refine⟨f.1,?_⟩;have h2:=f.2;split at h2
  .rename_i m q;(try simp only[m,q]);exact Jp le h2
  .rename_i m q;(try simp only[m,q]);exact Jp le h2
  omega
 .exact .inr ⟨f.1,f.2.imp (Ge le) (Ge le)⟩
def Xh(le:mB R R'){ops:Array Oper}{l:List Nat}{e:Env}{h:Heap}(f:zw (bW P G R ops l e h)=V):zw (bW P G R' ops l e h)=V:=by
 cases j:bW P G R ops l e h with
 |none=>rw[j]at f;cases f
 |some m=>rw[j]at f;rw[nj le j];exact f
def XC(le:mB R R'){ops:Array Oper}{e:Env}{h:Heap}{i:Nat}(f:pP P G R ops e h i=V):pP P G R' ops e h i=V:=by
 unfold pP at f ⊢;split at f
 .rename_i j h2;rw[nj le j,nj le h2];exact f
 grind
def stores_le(le:mB R R'){ops:Array Oper}{e:Env}{h:Heap}(D:xF P G R ops e h=V):xF P G R' ops e h=V:=by obtain⟨i,f,h2,j,m⟩:=stores_cases D;exact stores_of f h2 (XC le j) (Di le m)
def drawC_le(le:mB R R'){ops:Array Oper}{e:Env}{h:Heap}{o:Xt}(D:drawC P G R ops e h o=V):drawC P G R' ops e h o=V:=by
 cases o with|normal=>exact(og _ _).mpr (((og _ _).mp D).imp (Di le) (stores_le le))|panic x=>simp only[drawC,bm]at D ⊢;exact⟨D.1,Di le D.2.1,Xh le D.2.2⟩|_=>cases D
def draw_code{R:Rec}{id:Nat}{ops:Array Oper}{e:Env}{h:Heap}{r:Xt × Env × Heap}(f:bW P G R ops (bZ ops.size) e h=J r)(D:drawC P G R ops e h r.1=V):eY P G R (.region id ops V) e h=J r:=by simp only[eY,if_true,Q0];simp_all
def SZ(le:mB R R'){c:Code}{e:Env}{h:Heap}{r:Xt × Env × Heap}(f:eY P G R c e h=J r):eY P G R' c e h=J r:=by
 cases c with
 |region id ops s=>
  cases s with|false=>simp only[eY,jB,if_false]at f ⊢;exact nj le f|true=>simp only[eY,if_true,Q0]at f;exact draw_code (nj le f.1) (drawC_le le f.2)
 |seq a b=>
  simp only[eY]at f ⊢;cases j:R.code a e h with
  |none=>simp_all|some q=>
   rw[j]at f;rw[le.code _ _ _ _ j];obtain⟨o,B,m⟩:=q;cases o with|normal=>exact le.code _ _ _ _ f|_=>exact f
 |scope a=>simp only[eY]at f ⊢;exact le.code _ _ _ _ f|cond q a b=>
  simp only[eY]at f ⊢;split at f
  .rename_i m;(try simp only[m]);exact le.code _ _ _ _ f
  .rename_i m;(try simp only[m]);exact le.code _ _ _ _ f
  omega
 |block id a=>
  simp only[eY]at f ⊢;cases j:R.code a e h with|none=>simp_all|some q=>rw[j]at f;rw[le.code _ _ _ _ j];exact f
 |loop a=>
  simp only[eY]at f ⊢;cases j:R.code a e h with
  |none=>simp_all|some q=>
   rw[j]at f;rw[le.code _ _ _ _ j];obtain⟨o,B,m⟩:=q;cases o with|normal=>exact le.code _ _ _ _ f|_=>exact f
 |rangeFunc E D a b=>
  simp only[eY]at f ⊢;split at f
  .rename_i g first C A
   (try simp only[A])
   generalize z:R.call g _ _=q at f;cases q with
   |none=>cases f
   |some q=>rw[le.call _ _ _ _ z];exact f
  omega
 |_=>exact f
def P7(le:mB R R'){fn:Func}{e:Env}:∀{f:List (aR × List U)} {m:Option (U × Bool)} {h:Heap} {r:dR × Heap},gh P G R fn e f m h=J r->gh P G R' fn e f m h=J r:=by
 intro f
 induction f with
 |nil=>intro m h r j;cases m<;>exact j
 |cons d f s=>
  intro m h r j;obtain⟨g,args⟩:=d;simp only[gh]at j ⊢;cases q:R.iA g args m h with
  |none=>simp_all|some z=>
   rw[q]at j;rw[le.iA _ _ _ _ _ q]
   grind
def K7(le:mB R R'){g:aR}{args:List U}{m:Option (U × Bool)}{h:Heap}{r:dR × Option (U × Bool) × Heap}(f:pi P G R g args m h=J r):pi P G R' g args m h=J r:=by
 unfold pi at f ⊢;split at f
 .cases f
 .rename_i E z;rw[z]at *
  simp only;split at f
  .cases f
  .rename_i q j;rw[j]at *
   (try simp only)
   generalize s:R.code q _ h=A at f;cases A with
   |none=>cases f
   |some A=>
    rw[le.code _ _ _ _ s];obtain⟨o,D,N⟩:=A;cases o with
    |exit id=>cases f
    |_=>simp only[dg]at f ⊢;obtain⟨A,C,B⟩:=f;exact⟨A,P7 le C,B⟩
def TW(le:mB R R'){aJ:aR->Option (List U->Heap->Option (U × Heap))}{g:aR}{args:List U}{h:Heap}{r:dR × Heap}(f:k_ P G R aJ g args h=J r):k_ P G R' aJ g args h=J r:=by
 unfold k_ at f ⊢;split at f
 .exact f
 .simp only[dg]at f ⊢;obtain⟨q,m,j⟩:=f;exact⟨q,K7 le m,j⟩
def YA(le:mB R R'){l:Nat}{args:List U}{h:Heap}{r:dR × Heap}(f:sI R l args h=J r):sI R' l args h=J r:=by
 unfold sI at f ⊢;split at f
 .cases f
 .split at f
  .rename_i q;simp only[q,if_true];split at f
   .rename_i s C z;simp only[le.code _ _ _ _ z];split at f
    .rename_i D A;split at f
     .rename_i m;simp only[m,if_true];generalize j:R.code _ s _=B at f;cases B with
      |none=>cases f
      |some B=>rw[le.code _ _ _ _ j];exact f
     grind
    omega
   grind
  grind
variable {aJ:aR->Option (List U->Heap->Option (U × Heap))}
def ER(n:Nat):mB (gN P G aJ n) (gN P G aJ (n+1)):=by
 induction n with
 |zero=>
  refine⟨?_,?_,?_,?_⟩
  .intro c e h m f;cases f
  .intro g a h m f;cases f
  .intro g a q h m f;cases f
  .intro l a h m f;cases f
 |succ n j=>exact⟨λc e h m f=>SZ j f,λg a h m f=>TW j f,λg a q h m f=>K7 j f,λl a h m f=>YA j f⟩
def gO{n m:Nat}(h:n<=m):mB (gN P G aJ n) (gN P G aJ m):=by
 induction m with
 |zero=>rw[Nat.le_zero.1 h];exact⟨λ_ _ _ _ h=>h,λ_ _ _ _ h=>h,λ_ _ _ _ _ h=>h,λ_ _ _ _ h=>h⟩|succ m s=>
  rcases dp n (m+1) with r|q
  .have j:=s (Af.1 r);have h2:=ER (P:=P) (G:=G) (aJ:=aJ) m;exact⟨λc e h z f=>h2.code _ _ _ _ (j.code _ _ _ _ f),λg a h z f=>h2.call _ _ _ _ (j.call _ _ _ _ f),λg a m h z f=>h2.iA _ _ _ _ _ (j.iA _ _ _ _ _ f),λl a h z f=>h2.round _ _ _ _ (j.round _ _ _ _ f)⟩
  .rw[Nat.le_antisymm h q];exact⟨λ_ _ _ _ h=>h,λ_ _ _ _ h=>h,λ_ _ _ _ _ h=>h,λ_ _ _ _ h=>h⟩
end
noncomputable def qw{α:Type}(f:Nat->Option α):Option α:=by
 classical
 exact if h:∃j n,f n=J j then J h.choose else ag
def HV{α}{f}(q:∀n m r,n<=m->f n=J r->f m=J r){n}{r:α}(h:f n=J r):qw f=J r:=by
 unfold qw;have j:∃r n,f n=J r:=⟨r,n,h⟩
 grind
def jK{α}{f}{r:α}(h:qw f=J r):∃n,f n=J r:=by unfold qw at h;split at h<;>grind
section
variable (P:bk) (G:Nat->Option (List U)) (aJ:aR->Option (List U->Heap->Option (U × Heap)))
noncomputable def whole:Rec where
 code c e h:=qw λn=>(gN P G aJ n).code c e h
 call g a h:=qw λn=>(gN P G aJ n).call g a h
 iA g a m h:=qw λn=>(gN P G aJ n).iA g a m h
 round l a h:=qw λn=>(gN P G aJ n).round l a h
end
section
variable {P:bk} {G:Nat->Option (List U)} {aJ:aR->Option (List U->Heap->Option (U × Heap))}
def xJ(n:Nat):mB (gN P G aJ n) (whole P G aJ):=
 ⟨λ_ _ _ _ h=>HV (λ_ _ _ j f=>(gO j).code _ _ _ _ f) h,λ_ _ _ _ h=>HV (λ_ _ _ j f=>(gO j).call _ _ _ _ f) h,
  λ_ _ _ _ _ h=>HV (λ_ _ _ j f=>(gO j).iA _ _ _ _ _ f) h,λ_ _ _ _ h=>HV (λ_ _ _ j f=>(gO j).round _ _ _ _ f) h⟩
def Fy{w0:bP}(q:Prog P)(f:∀g p,aJ g=J p->kJ P G w0 g p):tt P G w0 (whole P G aJ):=by
 refine⟨?_,?_,?_,?_⟩
 .intro c e h r s h' j;obtain⟨n,m⟩:=jK j;exact(IK q f n).code c e h r s h' m
 .intro g args h A h' j;obtain⟨n,m⟩:=jK j;exact(IK q f n).call g args h A h' m
 .intro g args B h x z h' j;obtain⟨n,m⟩:=jK j;exact(IK q f n).iA g args B h x z h' m
 .intro l args h A h' j;obtain⟨n,m⟩:=jK j;exact(IK q f n).round l args h A h' m
def two{α z:Type}{f:Nat->Option α}{g:Nat->Option z}{a}{b}(q:∀n m r,n<=m->f n=J r->f m=J r)(s:∀n m r,n<=m->g n=J r->g m=J r)(j:∃n,f n=J a)(h2:∃n,g n=J b):
 ∃n,f n=J a/\g n=J b:=by
 grind
def aeg{e:Env}{h:Heap}{c:Call}{r:dR × Heap}(f:jU P (whole P G aJ) e h c=J r):∃n,jU P (gN P G aJ n) e h c=J r:=by
 unfold jU at f ⊢;cases j:c.callee with
 |builtin b=>simp_all|value m=>
  simp only[j]at f ⊢;split at f
  .exact jK f
  .exact jK f
  grind
 |invoke v q=>
  simp only[j]at f ⊢;split at f
  .split at f
   .rename_i h2;(try simp only[h2]);exact jK f
   grind
  grind
def Xq{e:Env}{h:Heap}{o:Oper}{r:dR × Env × Heap}(f:dH P G (whole P G aJ) e h o=J r):∃n,dH P G (gN P G aJ n) e h o=J r:=by
 unfold dH at f ⊢;split at f
 .exact⟨0,f⟩
 .simp_all
 .simp_all
 .simp only[dg]at f ⊢;obtain⟨s,j,m⟩:=f;obtain⟨n,q⟩:=aeg j
  grind
 .exact⟨0,f⟩
 .simp_all
 simp_all
def vP{ops:Array Oper}:∀{l:List Nat} {e:Env} {h:Heap} {r:Xt × Env × Heap},bW P G (whole P G aJ) ops l e h=J r->∃n,bW P G (gN P G aJ n) ops l e h=J r:=by
 intro l
 induction l with
 |nil=>intro e h r f;exact⟨0,f⟩|cons i l C=>
  intro e h r f;simp only[bW]at f ⊢;cases z:ops[i]? with
  |none=>simp_all|some o=>
   rw[z]at f;simp only at f ⊢;cases B:eE ops e o with
   |none=>simp_all|some b=>
    rw[B]at f;cases b with
    |false=>grind
    |true=>
     simp only at f ⊢;cases j:dH P G (whole P G aJ) e h o with
     |none=>simp_all|some T=>
      rw[j]at f;have s:=Xq j;obtain⟨E,S,N⟩:=T;cases E with
      |panic x=>
       grind
      |ret x=>
       obtain⟨n,s,h2⟩:=two (λ_ _ _ q m=>BG (gO q) m) (λ_ _ _ q m=>nj (gO q) m) s (C f)
       grind
def Zq{ops:Array Oper}{e:Env}{h:Heap}{r m:Nat}(s:od P G (whole P G aJ) ops e h r m=V):∃n,od P G (gN P G aJ n) ops e h r m=V:=by
 unfold od at s ⊢;split at s
 .rename_i o A E z C B h2 q;obtain⟨n,h2,q⟩:=two (λ_ _ _ j f=>nj (gO j) f) (λ_ _ _ j f=>nj (gO j) f) (vP h2) (vP q)
  grind
 grind
def many{p:Nat->Nat->Prop}(z:∀i n m,n<=m->p i n->p i m):∀k,(∀i,i<k->∃n,p i n)->∃n,∀i,i<k->p i n:=by
 intro k
 induction k with
 |zero=>simp_all|succ k j=>intro h;obtain⟨n,A⟩:=j λi f=>h i (Nat.lt_succ_of_lt f);obtain⟨m,s⟩:=h k (Nat.lt_succ_self k);refine⟨max n m,λi f=>?_⟩;rcases dp i k with r|q<;>grind
def asB{R R':Rec}(le:mB R R'){ops:Array Oper}{e:Env}{h:Heap}{i j:Nat}(f:jA P G R ops e h i j=V):jA P G R' ops e h i j=V:=by
 unfold jA at f ⊢;rw[bm]at f ⊢;refine⟨f.1,?_⟩;have h2:=f.2;split at h2
 .rename_i m q;(try simp only[m,q]);exact Jp le h2
 .rename_i m q;(try simp only[m,q]);exact Jp le h2
 omega
def asA{ops:Array Oper}{e:Env}{h:Heap}{i j:Nat}(f:jA P G (whole P G aJ) ops e h i j=V):∃n,jA P G (gN P G aJ n) ops e h i j=V:=by
 unfold jA at f ⊢;rw[bm]at f;have h2:=f.2;split at h2
 .rename_i q r;obtain⟨n,m⟩:=Zq h2
  grind
 .rename_i q r;obtain⟨n,m⟩:=Zq h2
  grind
 grind
def Sp{ops:Array Oper}{e:Env}{h:Heap}{k:Nat}(E:jW P G (whole P G aJ) ops e h k=V):∃n,jW P G (gN P G aJ n) ops e h k=V:=by
 rw[C7]at E;obtain⟨o,x,q,hr,S,h2,B,T⟩:=E;obtain⟨n0,B⟩:=vP B;have N:∀A,A<ops.size+1->∃n,∃j f,bW P G (gN P G aJ n) ops (bZ A) e h=J (.normal,j,f)/\dH P G (gN P G aJ n) q f o=J (.ret x,q,f):=by intro A f;obtain⟨j,r,X,Y⟩:=T A (Af.1 f);obtain⟨n,s,z⟩:=two (λ_ _ _ m C=>nj (gO m) C) (λ_ _ _ m C=>BG (gO m) C) (vP X) (Xq Y);exact⟨n,j,r,s,z⟩
 obtain⟨n1,Z⟩:=many (p:=λA n=>∃j f,bW P G (gN P G aJ n) ops (bZ A) e h=J (.normal,j,f)/\dH P G (gN P G aJ n) q f o=J (.ret x,q,f))
  (λA n n' m ⟨j,f,s,z⟩=>⟨j,f,nj (gO m) s,BG (gO m) z⟩) (ops.size+1) N
 refine⟨max n0 n1,?_⟩;rw[C7];refine⟨o,x,q,hr,S,h2,nj (gO (Km _ _)) B,λA f=>?_⟩;obtain⟨j,r,s,z⟩:=Z A (Af.2 f);exact⟨j,r,nj (gO (FT _ _)) s,BG (gO (FT _ _)) z⟩
noncomputable def vQ(P:bk)(G:Nat->Option (List U))(R:Rec)(ops:Array Oper)(e:Env)(h:Heap)(i j:Nat):Bool:=
 ((Region.before ops).getD j 0).testBit i||vT ops i j||jA P G R ops e h i j||(nP ops i j&&(jW P G R ops e h i||jW P G R ops e h j))
def XG{R R':Rec}(le:mB R R'){ops:Array Oper}{e:Env}{h:Heap}{i j:Nat}(m:vQ P G R ops e h i j=V):vQ P G R' ops e h i j=V:=by
 unfold vQ at m ⊢;simp only[og,bm]at m ⊢;rcases m with(f|f)|f
 .simp_all
 .exact .inl (.inr (asB le f))
 .exact .inr ⟨f.1,f.2.imp (Ge le) (Ge le)⟩
def amz{ops:Array Oper}{e:Env}{h:Heap}{i j:Nat}(m:vQ P G (whole P G aJ) ops e h i j=V):∃n,vQ P G (gN P G aJ n) ops e h i j=V:=by
 unfold vQ at m ⊢;simp only[og,bm]at m ⊢;rcases m with(f|f)|⟨f,h2|h2⟩
 .simp_all
 .obtain⟨n,q⟩:=asA f
  grind
 .obtain⟨n,q⟩:=Sp h2
  grind
 .obtain⟨n,q⟩:=Sp h2
  grind
def LJ{ops:Array Oper}{e:Env}{h:Heap}(q:kU P G (whole P G aJ) ops e h=V):∃n,kU P G (gN P G aJ n) ops e h=V:=by
 unfold kU at q ⊢;simp only[bm,eJ,ie]at q ⊢;obtain⟨s,h2⟩:=q;have r:∀f,f<ops.size->∃n,∀i,i<f->vQ P G (gN P G aJ n) ops e h i f=V:=by intro f A;exact many (p:=λi n=>vQ P G (gN P G aJ n) ops e h i f=V) (λi n C m=>XG (gO m)) f λi j=>amz (h2 f A i j)
 obtain⟨n,B⟩:=many (p:=λf n=>∀i,i<f->vQ P G (gN P G aJ n) ops e h i f=V) (λf n C m z i j=>XG (gO m) (z i j)) ops.size r;exact⟨n,s,B⟩
def amd{ops:Array Oper}{l:List Nat}{e:Env}{h:Heap}{p:Option (Xt × Env × Heap)->Bool}(j:p ag=ah)(q:p (bW P G (whole P G aJ) ops l e h)=V):∃n,p (bW P G (gN P G aJ n) ops l e h)=V:=by
 cases f:bW P G (whole P G aJ) ops l e h with
 |none=>simp_all|some r=>
  obtain⟨n,m⟩:=vP f
  grind
def amu{ops:Array Oper}{e:Env}{h:Heap}{i:Nat}(q:pP P G (whole P G aJ) ops e h i=V):∃n,pP P G (gN P G aJ n) ops e h i=V:=by
 unfold pP at q ⊢;split at q
 .rename_i m h2;obtain⟨n,m,h2⟩:=two (λ_ _ _ j f=>nj (gO j) f) (λ_ _ _ j f=>nj (gO j) f) (vP m) (vP h2)
  grind
 grind
def drawC_fin{ops:Array Oper}{e:Env}{h:Heap}{o:Xt}(D:drawC P G (whole P G aJ) ops e h o=V):∃n,drawC P G (gN P G aJ n) ops e h o=V:=by
 cases o with
 |normal=>
  rcases (og _ _).mp D with q|q
  .obtain⟨n,m⟩:=LJ q;exact⟨n,(og _ _).mpr (.inl m)⟩
  .obtain⟨i,s,h2,f,j⟩:=stores_cases q;obtain⟨n,f⟩:=amu f;obtain⟨r,j⟩:=LJ j;exact⟨max n r,(og _ _).mpr (.inr (stores_of s h2 (XC (gO (Km n r)) f) (Di (gO (FT n r)) j)))⟩
 |panic x=>simp only[drawC,bm]at D ⊢;obtain⟨n,m⟩:=LJ D.2.1;obtain⟨r,z⟩:=amd (p:=zw) O D.2.2;exact⟨max n r,D.1,Di (gO (Km n r)) m,Xh (gO (FT n r)) z⟩
 |_=>cases D
def afd{c:Code}{e:Env}{h:Heap}{r:Xt × Env × Heap}(f:eY P G (whole P G aJ) c e h=J r):∃n,eY P G (gN P G aJ n) c e h=J r:=by
 cases c with
 |region id ops B=>
  cases B with|false=>simp only[eY,jB,if_false]at f ⊢;exact vP f|true=>simp only[eY,if_true,Q0]at f;obtain⟨n,j⟩:=vP f.1;obtain⟨S,h2⟩:=drawC_fin f.2;exact⟨max n S,draw_code (nj (gO (Km n S)) j) (drawC_le (gO (FT n S)) h2)⟩
 |seq a b=>
  simp only[eY]at f ⊢;cases m:(whole P G aJ).code a e h with
  |none=>simp_all|some A=>
   rw[m]at f;have j:=jK m;obtain⟨o,N,E⟩:=A;by_cases z:o=.normal
   .subst z;obtain⟨n,j,h2⟩:=two (λ_ _ _ s q=>(gO s).code _ _ _ _ q) (λ_ _ _ s q=>(gO s).code _ _ _ _ q) j (jK f)
    grind
   grind
 |scope a=>simp only[eY]at f ⊢;exact jK f|cond A a b=>
  simp only[eY]at f ⊢;split at f
  .exact jK f
  .exact jK f
  grind
 |block id a=>
  simp only[eY]at f ⊢;cases m:(whole P G aJ).code a e h with
  |none=>simp_all|some A=>
   rw[m]at f;obtain⟨n,j⟩:=jK m
   grind
 |loop a=>
  simp only[eY]at f ⊢;cases m:(whole P G aJ).code a e h with
  |none=>simp_all|some A=>
   rw[m]at f;have j:=jK m;obtain⟨o,N,E⟩:=A;by_cases z:o=.normal
   .subst z;obtain⟨n,j,h2⟩:=two (λ_ _ _ s q=>(gO s).code _ _ _ _ q) (λ_ _ _ s q=>(gO s).code _ _ _ _ q) j (jK f)
    grind
   grind
 |rangeFunc Y X a b=>
  simp only[eY]at f ⊢;split at f
  .generalize C:(whole P G aJ).call _ _ _=A at f;cases A with
   |none=>cases f
   |some A=>
    obtain⟨n,T⟩:=jK C
    grind
  grind
 |_=>exact⟨0,f⟩
def at7{fn:Func}{e:Env}:∀{f:List (aR × List U)} {m:Option (U × Bool)} {h:Heap} {r:dR × Heap},gh P G (whole P G aJ) fn e f m h=J r->∃n,gh P G (gN P G aJ n) fn e f m h=J r:=by
 intro f
 induction f with
 |nil=>intro m h r j;exact⟨0,by cases m<;>exact j⟩
 |cons d f E=>
  intro m h r j;obtain⟨g,args⟩:=d;simp only[gh]at j ⊢;cases B:(whole P G aJ).iA g args m h with
  |none=>simp_all|some X=>
   rw[B]at j;have C:=jK B;obtain⟨S,N,q⟩:=X;cases S with
   |panic x=>grind
   |ret x=>
    have T:∀A,gh P G (whole P G aJ) fn e f A q=J r->∃n,(gN P G aJ n).iA g args m h=J (.ret x,N,q)/\gh P G (gN P G aJ n) fn e f A q=J r:=λA j=>
     two (λ_ _ _ z s=>(gO z).iA _ _ _ _ _ s) (λ_ _ _ z s=>P7 (gO z) s) C (E j)
    grind
def R7{g:aR}{args:List U}{m:Option (U × Bool)}{h:Heap}{r:dR × Option (U × Bool) × Heap}(f:pi P G (whole P G aJ) g args m h=J r):∃n,pi P G (gN P G aJ n) g args m h=J r:=by
 unfold pi at f ⊢;split at f
 .cases f
 .rename_i X C;simp only[C];split at f
  .cases f
  .rename_i q j
   (try simp only[j])
   generalize B:(whole P G aJ).code q _ h=E at f;cases E with
   |none=>cases f
   |some E=>
    have A:=jK B;obtain⟨o,T,S⟩:=E;cases o with
    |exit id=>cases f
    |_=>
     simp only[dg]at f;obtain⟨E,N,Y⟩:=f;obtain⟨n,A,h2⟩:=two (λ_ _ _ z s=>(gO z).code _ _ _ _ s) (λ_ _ _ z s=>P7 (gO z) s) A (at7 N)
     grind
def ahb{g:aR}{args:List U}{h:Heap}{r:dR × Heap}(f:k_ P G (whole P G aJ) aJ g args h=J r):∃n,k_ P G (gN P G aJ n) aJ g args h=J r:=by
 unfold k_ at f ⊢;split at f
 .simp_all
 .simp only[dg]at f ⊢;obtain⟨s,j,m⟩:=f;obtain⟨n,q⟩:=R7 j
  grind
def apV{l:Nat}{args:List U}{h:Heap}{r:dR × Heap}(f:sI (whole P G aJ) l args h=J r):∃n,sI (gN P G aJ n) l args h=J r:=by
 unfold sI at f ⊢;split at f
 .cases f
 .rename_i Z s
  (try simp only[s])
  split at f
  .rename_i z;simp only[z,if_true];split at f
   .rename_i A X B;split at f
    .rename_i Y C;split at f
     .rename_i E;generalize q:(whole P G aJ).code _ A _=N at f;cases N with
      |none=>cases f
      |some N=>
       obtain⟨n,S,T⟩:=two (λ_ _ _ m j=>(gO m).code _ _ _ _ j) (λ_ _ _ m j=>(gO m).code _ _ _ _ j) (jK B) (jK q)
       grind
     grind
    grind
   grind
  grind
def In{α:Type}{a b:Option α}(f:∀r,a=J r->b=J r)(h2:∀r,b=J r->a=J r):a=b:=by
 cases j:a with
 |some r=>simp_all|none=>
  cases m:b with|none=>rfl|some r=>simp_all
def oZ(c:Code)(e:Env)(h:Heap):(whole P G aJ).code c e h=eY P G (whole P G aJ) c e h:=
 In (λm j=>by
  obtain⟨n,f⟩:=jK j;have:=(ER (P:=P) (G:=G) (aJ:=aJ) n).code c e h m f;exact SZ (xJ n) this)
  (λm j=>by obtain⟨n,f⟩:=afd j;exact(xJ (n+1)).code c e h m f)
def rD(g:aR)(a:List U)(h:Heap):(whole P G aJ).call g a h=k_ P G (whole P G aJ) aJ g a h:=
 In (λm j=>by
  obtain⟨n,f⟩:=jK j;have:=(ER (P:=P) (G:=G) (aJ:=aJ) n).call g a h m f;exact TW (xJ n) this)
  (λm j=>by obtain⟨n,f⟩:=ahb j;exact(xJ (n+1)).call g a h m f)
def auq(g:aR)(a:List U)(m:Option (U × Bool))(h:Heap):(whole P G aJ).iA g a m h=pi P G (whole P G aJ) g a m h:=
 In (λq j=>by
  obtain⟨n,f⟩:=jK j;have:=(ER (P:=P) (G:=G) (aJ:=aJ) n).iA g a m h q f;exact K7 (xJ n) this)
  (λq j=>by obtain⟨n,f⟩:=R7 j;exact(xJ (n+1)).iA g a m h q f)
def aur(l:Nat)(a:List U)(h:Heap):(whole P G aJ).round l a h=sI (whole P G aJ) l a h:=
 In (λm j=>by
  obtain⟨n,f⟩:=jK j;have:=(ER (P:=P) (G:=G) (aJ:=aJ) n).round l a h m f;exact YA (xJ n) this)
  (λm j=>by obtain⟨n,f⟩:=apV j;exact(xJ (n+1)).round l a h m f)
end
end Go.AE
end
section
namespace Go.AE
def Env.st(e:Env)(d:Nat)(x:U):Env:={e with tmps:=e.tmps.set d x}
def anH(e:Env)(d:Nat)(x):e.put (J d) x=e.st d x:=rfl
def anF(e:Env)(x):e.put ag x=e:=rfl
def Jo(e:Env)(d t)(x):(e.st d x).get t=if d=t then x else e.get t:=Bw e.tmps d t x
def asw(e:Env)(d)(x):(e.st d x).defers=e.defers:=rfl
def asx(e:Env)(d)(x):(e.st d x).cD=e.cD:=rfl
def Zo(e:Env)(d)(x):(e.st d x).round=e.round:=rfl
def Env.start(args:List U)(p:Option (U × Bool)):Env:={tmps:={ch:=[],base:=args},defers:=[],cD:=p,round:=ag}
def asF(args)(p)(t):(Env.start args p).get t=args.getD t (.tuple []):=rfl
def asE(args)(p):(Env.start args p).defers=[]:=rfl
def asG(args)(p):(Env.start args p).cD=p:=rfl
def PJ(args)(p):(Env.start args p).round=ag:=rfl
def AN(e:Env)(t:Nat):e.eval (.tmp t)=e.get t:=rfl
def eval_const(e:Env)(v):e.eval (.const v)=oP v:=rfl
def eval_func(e:Env)(f):e.eval (.func f)=.func (.func f) [] []:=rfl
def eval_global(e:Env)(g):e.eval (.global g)=.ptr (.dA g) 0:=rfl
def al6(k)(n):oP (.int k n)=.v (.int k n):=rfl
def al5(b):oP (.bool b)=.v (.bool b):=rfl
def amb(s):oP (.string s)=.v (.string s):=rfl
def al8:oP .nilIface=.v .nilIface:=rfl
def al7:oP .nilFunc=.v .nilFunc:=rfl
def al9:oP (.pointer ag)=.v (.pointer ag):=rfl
def ama:oP (.slice ag 0 0)=.list .nil 0 []:=rfl
def al4(cs):oP (.agg ⟨cs⟩)=.agg (cs.map r8):=rfl
section
variable (P:bk) (G:Nat->Option (List U)) (R:Rec)
def opsL(ops:Array Oper):List Oper->Env->Heap->Option (Xt × Env × Heap)
 | [],e,h=>J (.normal,e,h)
 |o::rest,e,h=>
  match eE ops e o with
  |none=>ag
  |some ah=>opsL ops rest (e.put o.dst (.tuple [])) h
  |some V=>
   match dH P G R e h o with
   |some (.ret x,e,h)=>opsL ops rest (e.put o.dst x) h
   |some (.panic x,e,h)=>J (.panic x,e,h)
   |none=>ag
def Xr(ops:Array Oper):∀(n i:Nat),i+n=ops.size->∀(e:Env) (h:Heap),bW P G R ops (QM i n) e h=opsL P G R ops (ops.toList.drop i) e h:=by
 intro n
 induction n with
 |zero=>intro i j e h;rw[List.drop_eq_nil_of_le (by grind)];rfl|succ n q=>
  intro i j e h;have f:i<ops.size:=by omega
  have m:ops[i]?=J ops[i]:=jO f;rw[aa2,s_ M];simp only[bW,opsL,m,aae]
  grind
def uX(r:Option (Xt × Env × Heap))(Q:Xt->Env->Heap->Prop):Prop:=∃o e h,r=J (o,e,h)/\Q o e h
def bC(c:Code)(e:Env)(h:Heap)(Q:Xt->Env->Heap->Prop):Prop:=uX (R.code c e h) Q
def cq(ops:Array Oper)(l:List Oper)(e:Env)(h:Heap)(Q:Xt->Env->Heap->Prop):Prop:=uX (opsL P G R ops l e h) Q
end
def sf{o}{e}{h}{Q}:uX (J (o,e,h)) Q=Q o e h:=
 propext ⟨λ⟨_,_,_,h1,h2⟩=>by simp_all,λf=>⟨o,e,h,O,f⟩⟩
def pO{Q}:uX ag Q=False:=propext ⟨λ⟨_,_,_,f,_⟩=>(by cases f),False.elim⟩
def uX.mono{r}{Q f}(h:∀o e h,Q o e h->f o e h)(q:uX r Q):uX r f:=by obtain⟨o,e,j,h2,m⟩:=q;exact⟨o,e,j,h2,h _ _ _ m⟩
def guardOf(ops:Array Oper)(j:Nat):Option Tmp:=(ops[j]?).bind (·.dst)
def ahO{o}{l}:guardOf ⟨o::l⟩ 0=o.dst:=rfl
def ahN{o}{l}{n}:guardOf ⟨o::l⟩ (n+1)=guardOf ⟨l⟩ n:=by simp[guardOf]
def sW(R:Rec)(a b:Code)(e:Env)(h:Heap)(Q:Xt->Env->Heap->Prop)(x:U):Prop:=
 match x with
 | .v (.bool t)=>if t=V then bC R a e h Q else bC R b e h Q
 |_=>False
def mr(P:bk)(G:Nat->Option (List U))(R:Rec)(ops:Array Oper)(o:Oper)(rest:List Oper)(e:Env)(h:Heap)(Q:Xt->Env->Heap->Prop)(f:Bool)(x:U):Prop:=
 match x with
 | .v (.bool b)=>if b=f then cq P G R ops (o::rest) e h Q else cq P G R ops rest (e.put o.dst (.tuple [])) h Q
 | .tuple []=>cq P G R ops rest (e.put o.dst (.tuple [])) h Q
 |_=>False
def Kz(P:bk)(G:Nat->Option (List U))(R:Rec)(ops:Array Oper)(o:Oper)(rest:List Oper)(e:Env)(h:Heap)(Q:Xt->Env->Heap->Prop)(f:Bool)(d:Option Tmp):Prop:=
 match d with
 |some g=>mr P G R ops o rest e h Q f (e.get g)
 |none=>cq P G R ops rest (e.put o.dst (.tuple [])) h Q
section
variable {P:bk} {G:Nat->Option (List U)} {R:Rec} {a b:Code} {e:Env} {h:Heap} {Q:Xt->Env->Heap->Prop} {ops:Array Oper} {o:Oper} {rest:List Oper} {p:Prop} [Decidable p] {t:Bool}
def ad6:sW R a b e h Q (.v (.bool V))=bC R a e h Q:=rfl
def ad3:sW R a b e h Q (.v (.bool ah))=bC R b e h Q:=rfl
def ad2(f:p->bC R a e h Q)(h2:¬p->bC R b e h Q):sW R a b e h Q (.v (.bool (decide p))):=by unfold sW;simp_all
def ad5(f:p->bC R b e h Q)(h2:¬p->bC R a e h Q):sW R a b e h Q (.v (.bool (!decide p))):=by unfold sW;simp_all
def ad1(f:t=V->bC R a e h Q)(h2:t=ah->bC R b e h Q):sW R a b e h Q (.v (.bool t)):=by
 cases t
 .exact h2 O
 .exact f rfl
def ahW:mr P G R ops o rest e h Q V (.v (.bool V))=cq P G R ops (o::rest) e h Q:=rfl
def ahV:mr P G R ops o rest e h Q V (.v (.bool ah))=cq P G R ops rest (e.put o.dst (.tuple [])) h Q:=rfl
def ahS:mr P G R ops o rest e h Q ah (.v (.bool V))=cq P G R ops rest (e.put o.dst (.tuple [])) h Q:=rfl
def ahR:mr P G R ops o rest e h Q ah (.v (.bool ah))=cq P G R ops (o::rest) e h Q:=rfl
def ahX{w:Bool}:mr P G R ops o rest e h Q w (.tuple [])=cq P G R ops rest (e.put o.dst (.tuple [])) h Q:=rfl
def ahQ{w:Bool}(f:p->mr P G R ops o rest e h Q w (.v (.bool V)))(h2:¬p->mr P G R ops o rest e h Q w (.v (.bool ah))):mr P G R ops o rest e h Q w (.v (.bool (decide p))):=by by_cases j:p<;>simp_all
def ahU{w:Bool}(f:p->mr P G R ops o rest e h Q w (.v (.bool ah)))(h2:¬p->mr P G R ops o rest e h Q w (.v (.bool V))):mr P G R ops o rest e h Q w (.v (.bool (!decide p))):=by by_cases j:p<;>simp_all
def ahP{w:Bool}(f:t=V->mr P G R ops o rest e h Q w (.v (.bool V)))(h2:t=ah->mr P G R ops o rest e h Q w (.v (.bool ah))):mr P G R ops o rest e h Q w (.v (.bool t)):=by cases t<;>simp_all
def ahT{w:Bool}(f:t=V->mr P G R ops o rest e h Q w (.v (.bool ah)))(h2:t=ah->mr P G R ops o rest e h Q w (.v (.bool V))):mr P G R ops o rest e h Q w (.v (.bool (!t))):=by cases t<;>simp_all
def ad4(f:t=V->bC R b e h Q)(h2:t=ah->bC R a e h Q):sW R a b e h Q (.v (.bool (!t))):=by
 cases t
 .exact h2 O
 .exact f rfl
def asb{w:Bool}{g:Tmp}:Kz P G R ops o rest e h Q w (J g)=mr P G R ops o rest e h Q w (e.get g):=rfl
end
def Fe(R:Rec)(c:Code)(Q:Xt->Env->Heap->Prop):Xt->Env->Heap->Prop
 | .normal,e,h=>bC R c e h Q
 |o,e,h=>Q o e h
def C5(id:Nat)(Q:Xt->Env->Heap->Prop):Xt->Env->Heap->Prop
 | .exit i,e,h=>if i=id then Q .normal e h else Q (.exit i) e h
 |o,e,h=>Q o e h
def tH(Q:Xt->Env->Heap->Prop):Xt->Env->Heap->Prop
 | .normal,e,h=>Q .normal e h
 |_,_,_=>False
section
variable {R:Rec} {c:Code} {Q:Xt->Env->Heap->Prop} {e:Env} {h:Heap}
def arL:Fe R c Q .normal e h=bC R c e h Q:=rfl
def arN:Fe R c Q .ret e h=Q .ret e h:=rfl
def arK{i:Nat}:Fe R c Q (.exit i) e h=Q (.exit i) e h:=rfl
def arM{x:U}:Fe R c Q (.panic x) e h=Q (.panic x) e h:=rfl
def adV{id:Nat}:C5 id Q .normal e h=Q .normal e h:=rfl
def adX{id:Nat}:C5 id Q .ret e h=Q .ret e h:=rfl
def RX{id i:Nat}:C5 id Q (.exit i) e h=if i=id then Q .normal e h else Q (.exit i) e h:=rfl
def adW{id:Nat}{x:U}:C5 id Q (.panic x) e h=Q (.panic x) e h:=rfl
def aem:tH Q .normal e h=Q .normal e h:=rfl
def aen{x:U}:tH Q (.panic x) e h=False:=rfl
end
section
variable {P:bk} {G:Nat->Option (List U)} {aJ:aR->Option (List U->Heap->Option (U × Heap))} {Q:Xt->Env->Heap->Prop} {e:Env} {h:Heap}
def arb:bC (whole P G aJ) .skip e h Q=Q .normal e h:=by rw[bC,oZ];exact sf
def aq4{l:Nat}:bC (whole P G aJ) (.label l) e h Q=Q .normal e h:=by rw[bC,oZ];exact sf
def ara{a:Code}:bC (whole P G aJ) (.scope a) e h Q=bC (whole P G aJ) a e h Q:=by unfold bC;rw[oZ];simp only[eY]
def aq3{id:Nat}:bC (whole P G aJ) (.exit id) e h Q=Q (.exit id) e h:=by rw[bC,oZ];exact sf
def aq9:bC (whole P G aJ) .ret e h Q=Q .ret e h:=by rw[bC,oZ];exact sf
def run_seq{a b:Code}:bC (whole P G aJ) (.seq a b) e h Q=bC (whole P G aJ) a e h (Fe (whole P G aJ) b Q):=by
 unfold bC;rw[oZ];simp only[eY];cases m:(whole P G aJ).code a e h with|none=>simp only[pO]|some q=>obtain⟨o,f,j⟩:=q;cases o<;>simp only[sf]<;>rfl
def aq1{c:bR}{a b:Code}:bC (whole P G aJ) (.cond c a b) e h Q=sW (whole P G aJ) a b e h Q (e.eval c):=by
 unfold bC sW;rw[oZ];simp only[eY];generalize e.eval c=x;rcases x with _|v|_|_|_|_|_|_|_|_|_
 case v=>
  cases v with
  |bool t=>cases t<;>rfl
  |_=>simp only[pO]
 all_goals (simp only[pO])
def aq0{id:Nat}{a:Code}:bC (whole P G aJ) (.block id a) e h Q=bC (whole P G aJ) a e h (C5 id Q):=by
 unfold bC;rw[oZ];simp only[eY];cases m:(whole P G aJ).code a e h with
 |none=>simp only[pO]|some q=>
  obtain⟨o,f,j⟩:=q;cases o with
  |exit i=>simp only[sf,RX];split<;>simp only[sf]
  |_=>simp only[sf]<;>rfl
def aq8{id:Nat}{ops:Array Oper}:bC (whole P G aJ) (.region id ops ah) e h Q=cq P G (whole P G aJ) ops ops.toList e h Q:=by unfold bC cq;rw[oZ];simp only[eY,jB,if_false];have:=Xr P G (whole P G aJ) ops ops.size 0 M e h;rw[gG]at this;rw[<-this,QN]
def LK{R:Rec}{ops:Array Oper}(f:De ops=V)(e:Env)(h:Heap):kU P G R ops e h=V:=by unfold De at f;unfold kU;simp_all
def run_draw_c{id:Nat}{ops:Array Oper}(D:drawC P G (whole P G aJ) ops e h .normal=V)(j:cq P G (whole P G aJ) ops ops.toList e h (tH Q)):bC (whole P G aJ) (.region id ops V) e h Q:=by
 unfold bC cq at *
 rw[oZ];have:=Xr P G (whole P G aJ) ops ops.size 0 M e h;rw[gG]at this;rw[<-this,<-QN]at j;obtain⟨o,m,q,h2,f⟩:=j;cases o with|normal=>exact⟨_,_,_,draw_code h2 D,f⟩|_=>exact f.elim
def Pq{id:Nat}{ops:Array Oper}(f:kU P G (whole P G aJ) ops e h=V)(j:cq P G (whole P G aJ) ops ops.toList e h (tH Q)):bC (whole P G aJ) (.region id ops V) e h Q:=run_draw_c ((og _ _).mpr (.inl f)) j
def run_draw_stores{id:Nat}{ops:Array Oper}(D:xF P G (whole P G aJ) ops e h=V)(f:cq P G (whole P G aJ) ops ops.toList e h (tH Q)):bC (whole P G aJ) (.region id ops V) e h Q:=run_draw_c ((og _ _).mpr (.inr D)) f
def rx{id:Nat}{ops:Array Oper}(f:De ops=V)(j:cq P G (whole P G aJ) ops ops.toList e h (tH Q)):bC (whole P G aJ) (.region id ops V) e h Q:=
 Pq (LK f e h) j
def zG(j:Nat->Env->Heap->Prop)(n:Nat)(Q:Xt->Env->Heap->Prop):Xt->Env->Heap->Prop
 | .normal,e,h=>∃f,f<n/\j f e h
 |o,e,h=>Q o e h
def ala{f:Nat->Env->Heap->Prop}{n:Nat}:zG f n Q .normal e h=∃m,m<n/\f m e h:=rfl
def alc{f:Nat->Env->Heap->Prop}{n:Nat}:zG f n Q .ret e h=Q .ret e h:=rfl
def ak9{f:Nat->Env->Heap->Prop}{n i:Nat}:zG f n Q (.exit i) e h=Q (.exit i) e h:=rfl
def alb{f:Nat->Env->Heap->Prop}{n:Nat}{x:U}:zG f n Q (.panic x) e h=Q (.panic x) e h:=rfl
def b_{c:Code}(q:Nat->Env->Heap->Prop)(f:∀n e h,q n e h->bC (whole P G aJ) c e h (zG q n Q)):
 ∀n e h,q n e h->bC (whole P G aJ) (.loop c) e h Q:=by
 intro n
 induction n using Nat.strongRecOn with
 |_ n B=>
  intro e h z;obtain⟨o,r,s,h2,j⟩:=f n e h z;unfold bC;rw[oZ];simp only[eY,h2];cases o with
  |normal=>obtain⟨C,A,m⟩:=j;exact B C A r s m
  |_=>exact⟨_,_,_,O,j⟩
def bC.mono{R:Rec}{c:Code}{f:Xt->Env->Heap->Prop}{j:Heap}(m:∀o e h,Q o e h->f o e h)(q:bC R c e j Q):bC R c e j f:=uX.mono m q
def vf(P:bk)(G:Nat->Option (List U))(R:Rec)(fn:Func)(r:dR)(h':Heap):Xt->Env->Heap->Prop
 | .normal,e,h=>gh P G R fn e e.defers ag h=J (r,h')
 | .ret,e,h=>gh P G R fn e e.defers ag h=J (r,h')
 | .panic x,e,h=>gh P G R fn e e.defers (J (x,ah)) h=J (r,h')
 | .exit _,_,_=>False
def cr{g:aR}{fn:Func}{body:Code}{args:List U}{r:dR}{h':Heap}(z:aJ g=ag)(j:P.funcs[g]?=J fn)(s:fn.body=J body)
 (A:bC (whole P G aJ) body (Env.start args ag) h (vf P G (whole P G aJ) fn r h')):(whole P G aJ).call g args h=J (r,h'):=by
 rw[rD];unfold k_;rw[z];unfold pi;rw[j];simp only[s];obtain⟨o,m,q,h2,f⟩:=A;have h2:(whole P G aJ).code body {tmps:={ch:=[],base:=args},defers:=[],cD:=ag,round:=ag} h=J (o,m,q):=h2;rw[h2];cases o with|exit i=>exact f.elim|_=>simp only[vf]at f;simp_all
def Ls{g:aR}{fn:Func}{body:Code}{args:List U}{m m':Option (U × Bool)}{r:dR}{h':Heap}(q:P.funcs[g]?=J fn)(z:fn.body=J body)
 (A:bC (whole P G aJ) body (Env.start args m) h λo e f=>vf P G (whole P G aJ) fn r h' o e f/\e.cD=m'):(whole P G aJ).iA g args m h=J (r,m',h'):=by
 rw[auq];unfold pi;rw[q];simp only[z];obtain⟨o,s,f,h2,j,B⟩:=A;have h2:(whole P G aJ).code body {tmps:={ch:=[],base:=args},defers:=[],cD:=m,round:=ag} h=J (o,s,f):=h2;rw[h2];cases o with|exit i=>exact j.elim|_=>simp only[vf]at j;simp_all
def agl{R:Rec}{fn:Func}{r:dR}{h':Heap}:vf P G R fn r h' .normal e h=(gh P G R fn e e.defers ag h=J (r,h')):=rfl
def agn{R:Rec}{fn:Func}{r:dR}{h':Heap}:vf P G R fn r h' .ret e h=(gh P G R fn e e.defers ag h=J (r,h')):=rfl
def agm{R:Rec}{fn:Func}{r:dR}{h':Heap}{x:U}:vf P G R fn r h' (.panic x) e h=(gh P G R fn e e.defers (J (x,ah)) h=J (r,h')):=rfl
def at8{R:Rec}{fn:Func}:gh P G R fn e [] ag h=(EU P G fn e h).map λx=>(.ret x,h):=rfl
def at9{R:Rec}{fn:Func}{x:U}{b:Bool}:gh P G R fn e [] (J (x,b)) h=J (.panic x,h):=rfl
section
variable {R:Rec} {ops:Array Oper} {rest:List Oper} {d:Option Tmp} {ty:aF} {pos:String} {Y:Array Edge}
def aqW:cq P G R ops [] e h Q=Q .normal e h:=sf
def aqV{m:Op}{j:Nat}{f:Bool}:cq P G R ops (⟨d,m,ty,pos,Y,J (j,f)⟩::rest) e h Q=
 Kz P G R ops ⟨d,m,ty,pos,Y,ag⟩ rest e h Q f (guardOf ops j):=by
 unfold cq guardOf Kz mr cq;simp only[opsL,eE];cases (ops[j]?).bind (·.dst) with
 |none=>rfl|some g=>
  simp only;generalize e.get g=x;rcases x with _|v|_|_|_|cs|_|_|_|_|_
  case v=>
   cases v with
   |bool b=>
    simp only;by_cases q:b=f
    .subst q;simp only[beq_self_eq_true,if_true];rfl
    grind
   |_=>simp only[pO]
  case tuple=>cases cs<;>simp only[pO]
  all_goals (simp only[pO])
def after(P:bk)(G:Nat->Option (List U))(R:Rec)(ops:Array Oper)(rest:List Oper)(d:Option Tmp)(e:Env)(Q:Xt->Env->Heap->Prop):Option (U × Heap)->Prop
 |some (x,h)=>cq P G R ops rest (e.put d x) h Q
 |none=>False
def acl{x:U}:after P G R ops rest d e Q (J (x,h))=cq P G R ops rest (e.put d x) h Q:=rfl
def opsOf(o:Op):Bool:=
 match o with
 | .call _| .defer _| .panic _=>ah
 |_=>V
def j9{f:Op}(m:opsOf f=V):cq P G R ops (⟨d,f,ty,pos,Y,ag⟩::rest) e h Q=after P G R ops rest d e Q (dk P G e.eval h f):=by
 unfold cq;simp only[opsL,eE];have j:dH P G R e h ⟨d,f,ty,pos,Y,ag⟩=(dk P G e.eval h f).map λ(x,h)=>(.ret x,e,h):=by cases f<;>first|rfl|(simp[opsOf]at m)
 rw[j];cases dk P G e.eval h f with|none=>simp only[FY,pO];rfl|some r=>obtain⟨x,q⟩:=r;rfl
def KG(P:bk)(G:Nat->Option (List U))(R:Rec)(ops:Array Oper)(rest:List Oper)(d:Option Tmp)(e:Env)(Q:Xt->Env->Heap->Prop):Option (dR × Heap)->Prop
 |some (.ret x,h)=>cq P G R ops rest (e.put d x) h Q
 |some (.panic x,h)=>Q (.panic x) e h
 |none=>False
def ack{x:U}:KG P G R ops rest d e Q (J (.ret x,h))=cq P G R ops rest (e.put d x) h Q:=rfl
def acj{x:U}:KG P G R ops rest d e Q (J (.panic x,h))=Q (.panic x) e h:=rfl
def aqZ{f:bR}{args:Array bR}{ts:Array aF}:cq P G R ops (⟨d,.call {callee:=.value f,args,argTypes:=ts},ty,pos,Y,ag⟩::rest) e h Q=
 KG P G R ops rest d e Q (jU P R e h {callee:=.value f,args,argTypes:=ts}):=by
 unfold cq;simp only[opsL,eE,dH];cases jU P R e h {callee:=.value f,args,argTypes:=ts} with|none=>simp only[FY,pO];rfl|some m=>obtain⟨q,j⟩:=m;cases q<;>simp only[fF,sf]<;>rfl
def Sh{g:aR}{args:Array bR}{ts:Array aF}:jU P R e h {callee:=.value (.func g),args,argTypes:=ts}=R.call g (args.toList.map e.eval) h:=by simp[jU,eval_func]
def Si{t:Nat}{args:Array bR}{ts:Array aF}:jU P R e h {callee:=.value (.tmp t),args,argTypes:=ts}=
 (match e.get t with
  | .func (.func g) first aS=>R.call g (first++args.toList.map e.eval++aS) h
  | .yield l=>R.round l (args.toList.map e.eval) h
  |_=>ag):=rfl
def XQ:Builtin->Bool
 | .recover| .panic| .append=>ah
 |_=>V
def E'{b:Builtin}{args:Array bR}{ts:Array aF}(j:XQ b=V):cq P G R ops (⟨d,.call {callee:=.builtin b,args,argTypes:=ts},ty,pos,Y,ag⟩::rest) e h Q=
 after P G R ops rest d e Q (iu P h b ts ty (args.toList.map e.eval)):=by
 unfold cq;simp only[opsL,eE];have f:dH P G R e h ⟨d,.call {callee:=.builtin b,args,argTypes:=ts},ty,pos,Y,ag⟩=(iu P h b ts ty (args.toList.map e.eval)).map λ(x,h)=>(.ret x,e,h):=by cases b<;>first|rfl|(simp[XQ]at j)
 rw[f];cases iu P h b ts ty (args.toList.map e.eval) with|none=>simp only[FY,pO];rfl|some q=>obtain⟨x,m⟩:=q;rfl
def apj(x:bR):cq P G R ops (⟨d,.move x,ty,pos,Y,ag⟩::rest) e h Q=after P G R ops rest d e Q (dk P G e.eval h (.move x)):=j9 rfl
def aoY(x:bR):cq P G R ops (⟨d,.assign x,ty,pos,Y,ag⟩::rest) e h Q=after P G R ops rest d e Q (dk P G e.eval h (.assign x)):=j9 rfl
def apl(c a b:bR):cq P G R ops (⟨d,.pick c a b,ty,pos,Y,ag⟩::rest) e h Q=after P G R ops rest d e Q (dk P G e.eval h (.pick c a b)):=j9 rfl
def aoW(t:aF):cq P G R ops (⟨d,.alloc t,ty,pos,Y,ag⟩::rest) e h Q=after P G R ops rest d e Q (dk P G e.eval h (.alloc t)):=j9 rfl
def ao0(t:aF)(x:bR):cq P G R ops (⟨d,.box t x,ty,pos,Y,ag⟩::rest) e h Q=after P G R ops rest d e Q (dk P G e.eval h (.box t x)):=j9 rfl
def ao1(t:aF)(ps:Array (Nat × bR)):cq P G R ops (⟨d,.build t ps,ty,pos,Y,ag⟩::rest) e h Q=after P G R ops rest d e Q (dk P G e.eval h (.build t ps)):=j9 rfl
def ao2(t:aF)(n:Nat)(ps:Array (Nat × bR)):cq P G R ops (⟨d,.buildSlice t n ps,ty,pos,Y,ag⟩::rest) e h Q=after P G R ops rest d e Q (dk P G e.eval h (.buildSlice t n ps)):=j9 rfl
def apd(t:aF)(a:bR):cq P G R ops (⟨d,.load t a,ty,pos,Y,ag⟩::rest) e h Q=after P G R ops rest d e Q (dk P G e.eval h (.load t a)):=j9 rfl
def apo(t:aF)(a x:bR):cq P G R ops (⟨d,.store t a x,ty,pos,Y,ag⟩::rest) e h Q=after P G R ops rest d e Q (dk P G e.eval h (.store t a x)):=j9 rfl
def apk(x:bR):cq P G R ops (⟨d,.nilCheck x,ty,pos,Y,ag⟩::rest) e h Q=after P G R ops rest d e Q (dk P G e.eval h (.nilCheck x)):=j9 rfl
def aoZ(o:BinOp)(t:aF)(x y:bR)(f:aF):cq P G R ops (⟨d,.binOp o t x y f,ty,pos,Y,ag⟩::rest) e h Q=after P G R ops rest d e Q (dk P G e.eval h (.binOp o t x y f)):=j9 rfl
def apr(o:UnOp)(t:aF)(x:bR):cq P G R ops (⟨d,.unOp o t x,ty,pos,Y,ag⟩::rest) e h Q=after P G R ops rest d e Q (dk P G e.eval h (.unOp o t x)):=j9 rfl
def ao4(s t:aF)(x:bR):cq P G R ops (⟨d,.convert s t x,ty,pos,Y,ag⟩::rest) e h Q=after P G R ops rest d e Q (dk P G e.eval h (.convert s t x)):=j9 rfl
def apf(t:aF)(x:bR):cq P G R ops (⟨d,.makeInterface t x,ty,pos,Y,ag⟩::rest) e h Q=after P G R ops rest d e Q (dk P G e.eval h (.makeInterface t x)):=j9 rfl
def ape(fn:Fn)(first aS:Array bR):cq P G R ops (⟨d,.makeFunc fn first aS,ty,pos,Y,ag⟩::rest) e h Q=after P G R ops rest d e Q (dk P G e.eval h (.makeFunc fn first aS)):=j9 rfl
def apg(t:aF)(l c:bR):cq P G R ops (⟨d,.makeSlice t l c,ty,pos,Y,ag⟩::rest) e h Q=after P G R ops rest d e Q (dk P G e.eval h (.makeSlice t l c)):=j9 rfl
def apn(t:aF)(x:bR)(lo hi mx:Option bR):cq P G R ops (⟨d,.slice t x lo hi mx,ty,pos,Y,ag⟩::rest) e h Q=after P G R ops rest d e Q (dk P G e.eval h (.slice t x lo hi mx)):=j9 rfl
def ao9(t:aF)(x:bR)(f:Nat):cq P G R ops (⟨d,.fieldAddr t x f,ty,pos,Y,ag⟩::rest) e h Q=after P G R ops rest d e Q (dk P G e.eval h (.fieldAddr t x f)):=j9 rfl
def ao8(t:aF)(x:bR)(f:Nat):cq P G R ops (⟨d,.field t x f,ty,pos,Y,ag⟩::rest) e h Q=after P G R ops rest d e Q (dk P G e.eval h (.field t x f)):=j9 rfl
def apb(t:aF)(x i:bR):cq P G R ops (⟨d,.indexAddr t x i,ty,pos,Y,ag⟩::rest) e h Q=after P G R ops rest d e Q (dk P G e.eval h (.indexAddr t x i)):=j9 rfl
def apa(t:aF)(x i:bR):cq P G R ops (⟨d,.index t x i,ty,pos,Y,ag⟩::rest) e h Q=after P G R ops rest d e Q (dk P G e.eval h (.index t x i)):=j9 rfl
def apq(x:bR)(xt t:aF)(ok:Bool):cq P G R ops (⟨d,.typeAssert x xt t ok,ty,pos,Y,ag⟩::rest) e h Q=after P G R ops rest d e Q (dk P G e.eval h (.typeAssert x xt t ok)):=j9 rfl
def ao7(x:bR)(i:Nat):cq P G R ops (⟨d,.extract x i,ty,pos,Y,ag⟩::rest) e h Q=after P G R ops rest d e Q (dk P G e.eval h (.extract x i)):=j9 rfl
def apc(args:Array bR)(ts:Array aF):cq P G R ops (⟨d,.call {callee:=.builtin .len,args,argTypes:=ts},ty,pos,Y,ag⟩::rest) e h Q=after P G R ops rest d e Q (iu P h .len ts ty (args.toList.map e.eval)):=E' rfl
def ao3(args:Array bR)(ts:Array aF):cq P G R ops (⟨d,.call {callee:=.builtin .cap,args,argTypes:=ts},ty,pos,Y,ag⟩::rest) e h Q=after P G R ops rest d e Q (iu P h .cap ts ty (args.toList.map e.eval)):=E' rfl
def aoX(args:Array bR)(ts:Array aF):cq P G R ops (⟨d,.call {callee:=.builtin .append,args,argTypes:=ts},ty,pos,Y,ag⟩::rest) e h Q=after P G R ops rest d e Q (po P G d h .append ts ty (args.toList.map e.eval)):=by
 unfold cq;simp only[opsL,eE];have f:dH P G R e h ⟨d,.call {callee:=.builtin .append,args,argTypes:=ts},ty,pos,Y,ag⟩=(po P G d h .append ts ty (args.toList.map e.eval)).map λ(x,h)=>(.ret x,e,h):=rfl;rw[f];cases po P G d h .append ts ty (args.toList.map e.eval) with|none=>simp only[FY,pO];rfl|some m=>obtain⟨x,j⟩:=m;rfl
def ao5(args:Array bR)(ts:Array aF):cq P G R ops (⟨d,.call {callee:=.builtin .copy,args,argTypes:=ts},ty,pos,Y,ag⟩::rest) e h Q=after P G R ops rest d e Q (iu P h .copy ts ty (args.toList.map e.eval)):=E' rfl
def api(args:Array bR)(ts:Array aF):cq P G R ops (⟨d,.call {callee:=.builtin .min,args,argTypes:=ts},ty,pos,Y,ag⟩::rest) e h Q=after P G R ops rest d e Q (iu P h .min ts ty (args.toList.map e.eval)):=E' rfl
def aph(args:Array bR)(ts:Array aF):cq P G R ops (⟨d,.call {callee:=.builtin .max,args,argTypes:=ts},ty,pos,Y,ag⟩::rest) e h Q=after P G R ops rest d e Q (iu P h .max ts ty (args.toList.map e.eval)):=E' rfl
def aqX{x:bR}:cq P G R ops (⟨d,.panic x,ty,pos,Y,ag⟩::rest) e h Q=(match e.eval x with| .iface t y=>Q (.panic (.iface t y)) e h|_=>False):=by unfold cq;simp only[opsL,eE,dH];generalize e.eval x=y;cases y<;>first|exact sf|exact pO
def aqY{args:Array bR}{ts:Array aF}(f:e.round=ag):cq P G R ops (⟨d,.call {callee:=.builtin .recover,args,argTypes:=ts},ty,pos,Y,ag⟩::rest) e h Q=
 (match e.cD with
  |some (x,ah)=>cq P G R ops rest (({e with cD:=J (x,V)}:Env).put d x) h Q
  |_=>cq P G R ops rest (e.put d (.v .nilIface)) h Q):=by
 unfold cq;simp only[opsL,eE,dH,f,FX,jB,if_false]
 grind
def aqU{f:bR}{args:Array bR}{ts:Array aF}(q:e.round=ag):cq P G R ops (⟨d,.defer {callee:=.value f,args,argTypes:=ts},ty,pos,Y,ag⟩::rest) e h Q=
 (match e.eval f with
  | .func (.func g) first aS=>cq P G R ops rest (({e with defers:=(g,first++args.toList.map e.eval++aS)::e.defers}:Env).put d (.tuple [])) h Q
  |_=>False):=by
 unfold cq;simp only[opsL,eE,dH,q,FX,jB,if_false];generalize e.eval f=y;rcases y with _|_|_|_|_|_|_|_|⟨j,a,b⟩|_|_
 case func=>cases j<;>first|rfl|exact pO
 all_goals exact pO
end
end
end Go.AE
end
section
namespace Go.AE
def bs(l:List UInt8):ByteArray:=⟨l.toArray⟩
def str(l:List UInt8):U:=.v (.string (bs l))
def int(n:Int):U:=.v (.int .i64 n)
def bool(b:Bool):U:=.v (.bool b)
def ad8(l):ByteArray.mk l.toArray=bs l:=rfl
def yd(l):(bs l).size=F l:=rfl
def ad7(a b):bs a++bs b=bs (a++b):=by apply ByteArray.ext;rw[ByteArray.data_append];simp[bs]
def K9(l)(i j):(bs l).extract i j=bs ((l.take j).drop i):=by apply ByteArray.ext;rw[ByteArray.data_extract];simp[bs,List.extract_eq_take_drop,J9]
def gt{α q}{P}(m)(f:α->Sem q):cV P (m>>=f)=(cV P m).bind λa=>cV P (f a):=by
 show cV P (m.bind f)=_
 induction m with
 |pure a=>rfl|program k j=>simp only[Sem.bind,cV];grind
 |mark m k j=>simp only[Sem.bind,cV];exact j|_=>rfl
section
variable {P:bk} {t:aF} {x y:bR} {k:qD} {a b:Int}
def pg{f:BinOp}{v:aG}(h:cV P (binOp f t (.int k a) (.int k b))=J v):cy P f t x y (.v (.int k a)) (.v (.int k b))=jf v:=by
 have j:cV P (eqGuard f t x y (.int k a) (.int k b))=J ():=by cases f<;>rfl
 show(cV P (do eqGuard f t x y (.int k a) (.int k b);binOp f t (.int k a) (.int k b))).bind jf=_;rw[gt,j];simp_all
def RR:cy P .add t x y (.v (.int k a)) (.v (.int k b))=J (.v (.int k (k.wrap (a+b)))):=pg (v:=.int k (k.wrap (a+b))) (by simp[binOp,Op.intArith];rfl)
def adB:cy P .sub t x y (.v (.int k a)) (.v (.int k b))=J (.v (.int k (k.wrap (a-b)))):=pg (v:=.int k (k.wrap (a-b))) (by simp[binOp,Op.intArith];rfl)
def adu:cy P .mul t x y (.v (.int k a)) (.v (.int k b))=J (.v (.int k (k.wrap (a*b)))):=pg (v:=.int k (k.wrap (a*b))) (by simp[binOp,Op.intArith];rfl)
def adw(h:b≠0):cy P .quo t x y (.v (.int k a)) (.v (.int k b))=J (.v (.int k (k.wrap (a.tdiv b)))):=pg (v:=.int k (k.wrap (a.tdiv b))) (by simp[binOp,Op.intDiv,h];rfl)
def ady(h:b≠0):cy P .rem t x y (.v (.int k a)) (.v (.int k b))=J (.v (.int k (a.tmod b))):=pg (v:=.int k (a.tmod b)) (by simp[binOp,Op.intDiv,h];rfl)
def ado:cy P .eql t x y (.v (.int k a)) (.v (.int k b))=J (.v (.bool (decide (a=b)))):=pg (v:=.bool (decide (a=b))) (by
 have:(a==b)=decide (a=b):=by rw[JM];simp
 simp[binOp,Op.intCmp,this];rfl)
def adv:cy P .neq t x y (.v (.int k a)) (.v (.int k b))=J (.v (.bool (!decide (a=b)))):=pg (v:=.bool (!decide (a=b))) (by
 have:(a !=b)= !decide (a=b):=by rw[JM];simp
 simp[binOp,Op.intCmp,this];rfl)
def adt:cy P .lss t x y (.v (.int k a)) (.v (.int k b))=J (.v (.bool (decide (a<b)))):=pg (v:=.bool (decide (a<b))) (by simp[binOp,Op.intCmp];rfl)
def ads:cy P .leq t x y (.v (.int k a)) (.v (.int k b))=J (.v (.bool (decide (a<=b)))):=pg (v:=.bool (decide (a<=b))) (by simp[binOp,Op.intCmp];rfl)
def adq:cy P .gtr t x y (.v (.int k a)) (.v (.int k b))=J (.v (.bool (decide (b<a)))):=pg (v:=.bool (decide (b<a))) (by simp[binOp,Op.intCmp];rfl)
def adp:cy P .geq t x y (.v (.int k a)) (.v (.int k b))=J (.v (.bool (decide (b<=a)))):=pg (v:=.bool (decide (b<=a))) (by simp[binOp,Op.intCmp];rfl)
def adz{p q:List UInt8}:cy P .eql t x y (.v (.string (bs p))) (.v (.string (bs q)))=J (.v (.bool (decide (p=q)))):=by
 show J (U.v (.bool (p==q)))=_
 grind
def adA{p q:List UInt8}:cy P .neq t x y (.v (.string (bs p))) (.v (.string (bs q)))=J (.v (.bool (!decide (p=q)))):=by
 show J (U.v (.bool (!(p==q))))=_
 grind
def RT{p q:List UInt8}(h:F p+F q<=9223372036854775807):cy P .add t x y (.v (.string (bs p))) (.v (.string (bs q)))=J (.v (.string (bs (p++q)))):=by show(if (bs p).size+(bs q).size<=9223372036854775807 then J (U.v (.string (bs p++bs q))) else ag)=_;rw[yd,yd,av h,ad7]
def at3{c:Bool}:Fu P .not (.v (.bool c))=J (.v (.bool (!c))):=rfl
def at2:Fu P .neg (.v (.int k a))=J (.v (.int k (k.wrap (0-a)))):=rfl
def WD{s:ByteArray}(f:P.underlying t=J .string):dB P t (.v (.string s))=J (.v (.int .i64 s.size)):=by unfold dB;rw[f]
def NX{e:aF}{j:Tok}{sz:Nat}{es:List (List U)}(f:P.underlying t=J (.slice e)):dB P t (.list j sz es)=J (.v (.int .i64 (F es))):=by unfold dB;rw[f]
def NW{e:aF}{b o l c:Nat}(f:P.underlying t=J (.slice e)):dB P t (.arr b o l c)=J (.v (.int .i64 l)):=by unfold dB;rw[f]
def ajt{l:List UInt8}(m:P.underlying t=J .string)(j:0<=a)(q:a<F l):zu P t (.v (.string (bs l))) (.v (.int k a))=J (.v (.int .u8 (l.getD a.toNat 0).toNat)):=by
 unfold zu;rw[m];have f:a.toNat<F l:=by omega
 simp only[av j,bs,iQ,aP f]
 grind
def amX{c}{u v}:Is (.v (.bool c)) u v=J (if c=V then u else v):=by cases c<;>rfl
def jm(f: -9223372036854775808<=a)(j:a<=9223372036854775807):IntKind.i64.wrap a=a:=by rw[IntKind.wrap_i64];omega
def LL(f:0<=a)(j:a<=255):IntKind.u8.wrap a=a:=by rw[IntKind.wrap_u8];omega
end
end Go.AE
end
section
namespace Go.AE
open Go.RowKit (Below)
def aW.init(W:bP):aW:={base:=W.heap.size,ic:=λg f=>W.cell? ⟨g,f,ag⟩,β:=[],γ:=[],tn:=0,tk:=λ_=>(0,0,0),md:=[],lb:=λ_=>ag}
def Heap.init:Heap:=⟨[],[],0,[]⟩
def ar0{G}{ok}(W)(q:∀g cs,G g=J cs->∃cells,aI (aW.init W) cs cells/\∀(j:Nat) (c:aG),cells[j]?=J c->W.cell? ⟨g,j,ag⟩=J c):
 bK (aW.init W) G ok W Heap.init W:=by
 refine⟨.refl _ _,aV _,λg j c h=>h,q,O,λb m g h=>?_,λb g cs h=>?_,O,λb m g h=>?_,λl g s h=>?_,O,λt f=>?_,λt z f=>?_,λs r=>?_,O⟩
 .simp[aW.init]at h
 .simp[aW.init]at h
 .simp[aW.init]at h
 .simp[aW.init]at h
 .simp[alive,Heap.init]at f
 .simp[alive,Heap.init]at f
 .simp[aW.init]at r
def zT(P:bk):Nat->List Field->Nat->Bool
 |off,[],f=>hy off f
 |off,m::j,f=>hy m.offset off&&zT P (off+P.cellsOf m.type) j f
def Il(P:bk):Nat->aF->Bool
 |0,_=>ah
 |n+1,t=>
  match P.underlying t with
  |some .bool|some (.int _)|some .string=>V
  |some (.slice e)=>Il P n e&&decide (0<P.cellsOf e)
  |some (.struct f)=>zT P 0 f.toList (P.cellsOf t)&&f.toList.all λj=>Il P n j.type
  |some (.array m e)=>hy (P.cellsOf t) (m*P.cellsOf e)&&Il P n e
  |_=>ah
inductive Has {H:Type} (P:bk):aF->List U->DataW H->Prop
 |bool {t:aF} (hu:P.underlying t=J .bool) (b:Bool):Has P t [.v (.bool b)] (.lit (.bool b))
 |int {t:aF} {k:qD} (hu:P.underlying t=J (.int k)) (n:Int) (hn:(Lit.int k n).wf=V):Has P t [.v (.int k n)] (.lit (.int k n))
 |str {t:aF} (hu:P.underlying t=J .string) (s:ByteArray) (hs:s.size<=maxLen):Has P t [.v (.string s)] (.lit (.string s.data.toList))
 |none {t e:aF} (hu:P.underlying t=J (.slice e)):Has P t [.list .nil (P.cellsOf e) []] .nil
 |list {t e:aF} (hu:P.underlying t=J (.slice e)) (k:Tok) (es:List (List U)) (ds sp:List (DataW H)) (hk:k=.held∨(k=.tight/\es=[])) (hl:es.length<=maxLen) (hd:ds.length=es.length)
  (he:∀(i:Nat) (r:List U) (d:DataW H),es[i]?=J r->ds[i]?=J d->Has P e r d) (hs:∀r∈es,r.length=P.cellsOf e):Has P t [.list k (P.cellsOf e) es] (.slice ds sp)
 |struct {t:aF} {fs:Array Field} (hu:P.underlying t=J (.struct fs)) (xs:List U) (ds:List (DataW H)) (hl:xs.length=P.cellsOf t) (hd:ds.length=fs.size)
  (hf:∀(i:Nat) (f:Field) (d:DataW H),fs[i]?=J f->ds[i]?=J d->Has P f.type ((xs.drop f.offset).take (P.cellsOf f.type)) d):Has P t xs (.agg ds)
 |array {t e:aF} {n:Nat} (hu:P.underlying t=J (.array n e)) (xs:List U) (ds:List (DataW H)) (hl:xs.length=P.cellsOf t) (hd:ds.length=n)
  (he:∀(i:Nat) (d:DataW H),ds[i]?=J d->Has P e ((xs.drop (i * P.cellsOf e)).take (P.cellsOf e)) d):Has P t xs (.agg ds)
section
variable {H:Type} {Z:aF × aG->H} {P:bk} {W:bP}
def SI{a:Addr}{n:Nat}{vs:List aG}(h:W.cells? 0 a n=J vs):F vs=n/\∀j,j<n->W.cell? (a.add j)=vs[j]?:=by unfold World.cells? at h;rw[av (bY _)]at h;refine⟨by simpa using mapM_some_length h,λj f=>mapM_some_get h j j (by grind)⟩
def asj{a:Addr}{v:aG}(h:W.cell? a=J v):a.spot=ag:=by unfold World.cell? at h;split at h<;>simp_all
def agR{α:Type}{sz}:∀{es:List (List α)},(∀r∈es,F r=sz)->∀(i j:Nat),j<sz->es.flatten[i*sz+j]?=(es[i]?).bind (·[j]?):=by
 intro es
 induction es with
 |nil=>simp_all|cons r es s=>
  intro m i j q;have f:F r=sz:=m r gH;cases i with
  |zero=>grind
  |succ i=>rw[jP,wB (by grind),f];have:(i+1)*sz+j-sz=i*sz+j:=(by rw[js];omega);simp_all
end
end Go.AE
end
section
namespace Go.AE
open Go.RowKit Go.WideShapes Go.ChangeShapes
def jD{H:Type}(P:bk)(t:aF)(x:U)(d:DataW H):Prop:=
 match P.underlying t with
 |some (.struct _)|some (.array _ _)=>∃cs,x=.agg cs/\Has P t cs d
 |_=>Has P t [x] d
def qE{H:Type}(P:bk):List aF->List U->List (DataW H)->Prop
 | [],[],[]=>True
 |t::ts,x::xs,d::f=>jD P t x d/\qE P ts xs f
 |_,_,_=>False
section
variable {H:Type} {Z:aF × aG->H} {P:bk} {W:bP}
def acN(B:laidOutB P=V){r:bP}{z:Nat->Bool}:∀{ts:List aF} {vs:List aG} {j:List (DataW H)} {p:List MemPlace},DataW.TrodAll Z P W 0 (λ_=>V) V ts vs j p->
 (∀t∈ts,P.readableRec t=true/\t<P.types.size)->(∀x∈p,W.sameAt r x)->(∀x∈p,z x.block=true)->DataW.TrodAll Z P r 0 z true ts vs j p:=by
 intro ts
 induction ts with
 |nil=>intro vs j p h _ _ _;obtain⟨rfl,rfl,rfl⟩:=trodAll_nil h;exact trodAll_mk0
 |cons t ts D=>
  intro vs j p h q s m;obtain⟨v,N,d,E,S,T,rfl,rfl,rfl,A,h2⟩:=trodAll_cons h;exact trodAll_cons_mk (WideElems.Trod_stays B (q t gH).1 (q t gH).2 A (λx f=>s x (Kd _ f)) (λx f=>m x (Kd _ f)))
   (D h2 (λt C=>q t (gx _ C)) (λx f=>s x (aa0 _ f)) (λx f=>m x (aa0 _ f)))
def anl{f:Func}{s:ChangeSpec}{apart fresh C T:Bool}{W B:bP}{args:Array aG}{v:aG}{E N:List (DataW H)}{m pa pv:List MemPlace}
 (Y:DataW.Whole Z P f.params.toList s.vars apart W args.toList E N m)
 (S:∀(b:Nat) (q:Nat->Bool) (hd:Bool),DataW.TrodAll Z P B b q hd f.resultTypes.toList (v.resultList f.resultTypes.size) (s.fn H (E++N)).results [])
 (z:∀q:Nat->Bool,(∀p∈m,q p.block=V)->DataW.TrodAll Z P B 0 q V f.params.toList args.toList (s.fn H (E++N)).args pa)
 (A:∀q:Nat->Bool,(∀p∈m,q p.block=V)->DataW.TrodVars Z P B q s.vars (s.fn H (E++N)).vars pv)
 (Ba:m=pa++pv) (hb:Below W.heap.size W B)
 (fQ:∀(j:Nat) (t:aF) (r:aG),f.resultTypes[j]?=J t->(v.resultList f.resultTypes.size)[j]?=J r->Value.okWide P B .any 0 t r):
 s.post Z P f apart fresh C T W args v B:=by
 have di:∀p∈m,p.block<W.heap.size:=λp D=>Y.lt p D;have hold:∀p∈m,(λb=>decide (b<W.heap.size)) p.block=V:=λp D=>by simp_all
 refine⟨E,N,m,[],pa,pv,Y,S _ _ _,z _ hold,A _ hold,World.keptBut_mono (λp D=>⟨D,?_⟩) (hb.frame (·∈m)),λ_=>?_⟩
 .simp_all
 .obtain⟨_,_,_,_,_,hz,hn⟩:=Y;refine⟨fQ,_,_,([]++pa)++pv,⟨[]++pa,pv,trodAll_append (z _ (λ_ _=>rfl)) (S _ _ _),A _ (λ_ _=>rfl),O,?_,?_⟩,?_⟩
  .intro b off D;have X:MemPlace.cell b off∈m:=(by rw[Ba];simpa using D);rw[hb.frozen (di _ X)];exact hz b off X
  .simp_all
  simp_all
structure au3(P:bk)(f:aR)(fn:Func)(tb:aF):Prop where
 func:P.funcs[f]?=J fn
 laid:laidOutB P=V
 P4:∀t∈fn.params.toList,Il P 9 t=V/\P.readableRec t=V/\t<P.types.size
 res:fn.resultTypes=#[tb]
 bool:P.underlying tb=J .bool
variable {G:Nat->Option (List U)} {aJ:aR->Option (List U->Heap->Option (U × Heap))}
end
end Go.AE
end
section
namespace Go.AE
open Go.RowKit (Below)
section
variable {K:aW} {G:Nat->Option (List U)} {ok:aR->Nat->Code->Bool} {w0 w w':bP} {h:Heap}
def bK.grown(s:bK K G ok w0 h w)(f:Below w.heap.size w w'):bK K G ok w0 h w':=by
 have j:∀{k:Nat} {o:Obj},w.heap[k]?=J o->w'.heap[k]?=J o:=λj=>(f.block _ (oy j)).trans j;refine⟨s.fL.trans (f.mono s.size),e8 s.size f.size,λg Z c C=>?_,s.dA,s.iN,s.np,λb g cs B T=>?_,s.mn,s.oe,λl g D A m=>?_,s.tn,λt Y=>?_,s.nL,λD m=>?_,s.all⟩
 .rw[<-s.ic g Z c C];exact World.cell?_of_block (w:=w) (f.block g (s.ur C))
 .obtain⟨q,h2,ha,cells,e,r,z⟩:=s.box b g cs B T;simp_all
 .obtain⟨q,fn,tmps,d,h2,r⟩:=s.loop l g D A m
  grind
 .obtain⟨q,h2,r,cells,e,E,z,N,S⟩:=s.tok t Y;refine⟨q,h2,r,cells,e,E,j z,N,λZ X A=>?_⟩;rw[<-S Z X A];exact World.frozen?_of_block (w:=w) (f.block _ (oy z))
 .exact⟨(s.md D m).1,j (s.md D m).2⟩
end
end Go.AE
end
section
namespace Go.AE
def Heap.push(h:Heap)(cs:List U):Heap:={h with boxes:=h.boxes++[cs]}
def Heap.put(h:Heap)(b:Nat)(cs:List U):Heap:={h with boxes:=h.boxes.set b cs}
def bg(h:Heap)(cs):h.box cs=(.ptr (.box (F h.boxes)) 0,h.push cs):=rfl
def bE(h:Heap)(cs):F (h.push cs).boxes=F h.boxes+1:=by simp[Heap.push]
def aK(h:Heap)(cs):(h.push cs).boxes[h.boxes.length]?=J cs:=by simp[Heap.push]
def aN{h:Heap}{cs f}{b:Nat}(j:h.boxes[b]?=J f):(h.push cs).boxes[b]?=J f:=Do j
def dh{h:Heap}{cs}{b}(f:b<F h.boxes):(h.put b cs).boxes[b]?=J cs:=by simp[Heap.put,f]
def cd{h:Heap}{cs}{b c}(f:c≠b):(h.put b cs).boxes[c]?=h.boxes[c]?:=by simp[Heap.put,lM,Ne.symm f]
def je(h:Heap)(b)(cs):F (h.put b cs).boxes=F h.boxes:=by simp[Heap.put]
def c_(h:Heap):Bool:=h.dead.all λn=>decide (n<h.tn)
structure Ext(h h':Heap):Prop where
 box:∀(b:Nat) (cs:List U),h.boxes[b]?=J cs->h'.boxes[b]?=J cs
 loop:∀(l:Nat) (r:gV),h.loops[l]?=J r->h'.loops[l]?=J r
 tn:h.tn<=h'.tn
 dead:∀n,n<h.tn->n∈h'.dead->n∈h.dead
 ok:c_ h=V->c_ h'=V
def Ext.refl(h):Ext h h:=⟨λ_ _ h=>h,λ_ _ h=>h,aV _,λ_ _ h=>h,λh=>h⟩
def Ext.trans{a b c}(h:Ext a b)(k:Ext b c):Ext a c:=
 ⟨λi cs j=>k.box i cs (h.box i cs j),λl s q=>k.loop l s (h.loop l s q),e8 h.tn k.tn,λn f m=>h.dead n f (k.dead n (my f h.tn) m),λr=>k.ok (h.ok r)⟩
def Ext.push(h)(cs):Ext h (h.push cs):=⟨λ_ _ f=>aN f,λ_ _ h=>h,aV _,λ_ _ h=>h,λh=>h⟩
def Ext.fresh(h)(sz)(es):Ext h (h.fresh sz es).2:=⟨λ_ _ f=>f,λ_ _ h=>h,Nat.le_succ _,λ_ _ h=>h,λj=>by
 unfold c_ at *
 simp only[Heap.fresh,eJ,decide_eq_true_eq]at *
 grind⟩
def Ext.alive{h h'}(x:Ext h h'){n}(f:alive h n=V):alive h' n=V:=by
 unfold AE.alive at *
 simp only[bm,decide_eq_true_eq,Cu,wz,decide_eq_false_iff_not]at *
 exact⟨my f.1 x.tn,λj=>f.2 (x.dead n f.1 j)⟩
def Ext.len{h h'}(x:Ext h h'):F h.boxes<=F h'.boxes:=by
 rcases dp (F h'.boxes) (F h.boxes) with f|j
 .have m:=x.box (F h'.boxes) _ (aP f);simp_all
 omega
noncomputable def G9(R:Rec)(g:aR)(args:List U)(h:Heap):Heap:=
 match R.call g args h with
 |some (_,h')=>h'
 |none=>h
def UT{R}{g}{args}{h h'}{r}(f:R.call g args h=J (r,h')):G9 R g args h=h':=by unfold G9;rw[f]
def F2(R:Rec)(g:aR)(args:List U)(h:Heap)(r:dR):Prop:=∃h',R.call g args h=J (r,h')/\Ext h h'
def F2.eq{R}{g}{args}{h}{r}(j:F2 R g args h r):R.call g args h=J (r,G9 R g args h):=by obtain⟨h',f,-⟩:=j;rw[UT f];exact f
def F2.ext{R}{g}{args}{h}{r}(j:F2 R g args h r):Ext h (G9 R g args h):=by obtain⟨h',f,h2⟩:=j;rw[UT f];exact h2
def wT(P:bk)(G:Nat->Option (List U))(R:Rec)(fn:Func)(r:dR)(Post:Heap->Prop):Xt->Env->Heap->Prop:=λo e h=>∃h',vf P G R fn r h' o e h/\Post h'
def ago{P}{G}{R}{fn}{r}{Post}{e}{h}:wT P G R fn r Post .normal e h=∃h',gh P G R fn e e.defers ag h=J (r,h')/\Post h':=rfl
def agq{P}{G}{R}{fn}{r}{Post}{e}{h}:wT P G R fn r Post .ret e h=∃h',gh P G R fn e e.defers ag h=J (r,h')/\Post h':=rfl
def agp{P}{G}{R}{fn}{r}{Post}{e}{h}{x}:wT P G R fn r Post (.panic x) e h=∃h',gh P G R fn e e.defers (J (x,ah)) h=J (r,h')/\Post h':=rfl
def gI{P}{G}{aJ}{g}{fn}{body}{args}{r}{h}{Post}(A:aJ g=ag)(f:P.funcs[g]?=J fn)(z:fn.body=J body)
 (B:bC (whole P G aJ) body (Env.start args ag) h (wT P G (whole P G aJ) fn r Post)):∃h',(whole P G aJ).call g args h=J (r,h')/\Post h':=by
 obtain⟨o,j,m,h2,h',q,s⟩:=B;exact⟨h',cr A f z ⟨o,j,m,h2,q⟩,s⟩
section
variable {P:bk} {G:Nat->Option (List U)} {h:Heap} {t:aF} {b off n:Nat} {cs:List U}
def fm(f:fH P t=J ah)(j:h.boxes[b]?=J cs):aD P G h t (.ptr (.box b) off)=(cs.drop off).head?:=by unfold aD yj OT;simp_all
def fR(f:fH P t=J V)(q:cC P t=J n)(j:h.boxes[b]?=J cs)(m:off+n<=F cs):aD P G h t (.ptr (.box b) off)=J (.agg ((cs.drop off).take n)):=by
 unfold aD yj OT
 grind
def oO{sz i:Nat}{es:List (List U)}{row:List U}(f:fH P t=J ah)(j:es[i]?=J row):aD P G h t (.elem sz es i off)=(row.drop off).head?:=by unfold aD yj;simp_all
def Ev{sz i:Nat}{es:List (List U)}{row:List U}(f:fH P t=J V)(q:cC P t=J n)(j:es[i]?=J row)(m:off+n<=F row):aD P G h t (.elem sz es i off)=J (.agg ((row.drop off).take n)):=by
 unfold aD yj
 grind
def aU{e:aF}{k:Tok}{kk:qD}{sz:Nat}{es:List (List U)}{a:Int}(q:P.underlying t=J (.slice e))(m:cC P e=J sz)(f:0<=a)(j:a<F es):dK P t (.list k sz es) (.v (.int kk a))=J (.elem sz es a.toNat 0):=by unfold dK;simp_all
def Bm{e:aF}{kk:qD}{f o l c sz:Nat}{a:Int}(r:P.underlying t=J (.slice e))(q:cC P e=J sz)(j:0<=a)(m:a<l):dK P t (.arr f o l c) (.v (.int kk a))=J (.ptr (.box f) (o+a.toNat*sz)):=by unfold dK;simp_all
def fC{x:U}{xs:List U}(r:x.bF=J xs)(q:cC P t=J n)(f:h.boxes[b]?=J cs)(m:F xs=n)(j:off+n<=F cs):bV P h t (.ptr (.box b) off) x=J (h.put b (dC cs off xs)):=by unfold bV;simp only[r,q,f];rw[av ⟨m,j⟩];rfl
def mg(h:Heap)(z cs):(h.push z).put (F h.boxes) cs=h.push cs:=by simp[Heap.push,Heap.put,FQ]
def xD{z xs}(f:F xs=F z):dC z 0 xs=xs:=by simp[dC,f]
def lJ{x:U}{xs z:List U}(m:x.bF=J xs)(j:cC P t=J n)(f:F xs=n)(q:F z=n):bV P (h.push z) t (.ptr (.box (F h.boxes)) 0) x=J (h.push xs):=by rw[fC m j (aK h z) f M,xD M,mg]
end
end Go.AE
end
section
namespace Go.AE
section
variable {P:bk} {G:Nat->Option (List U)} {R:Rec}
def Xs(ops:Array Oper):∀(n i:Nat),i+n<=ops.size->∀(e:Env) (h:Heap),bW P G R ops (QM i n) e h=opsL P G R ops ((ops.toList.drop i).take n) e h:=by
 intro n
 induction n with
 |zero=>intro i j e h;rfl|succ n q=>
  intro i j e h;have f:i<ops.size:=by omega
  have m:ops[i]?=J ops[i]:=jO f;rw[aa2,s_ M,List.take_succ_cons];simp only[bW,opsL,m,aae]
  grind
def oa{ops:Array Oper}{m:Nat}(f:m<=ops.size)(e:Env)(h:Heap):bW P G R ops (bZ m) e h=opsL P G R ops (ops.toList.take m) e h:=by rw[QN,Xs ops m 0 M];rfl
def AI(ops:Array Oper)(cs:List Nat)(ps:List (Nat × Nat)):Bool:=
 let b:=Region.before ops
 x_ ops b&&(bZ ops.size).all λf=>(bZ f).all λi=>(b.getD f 0).testBit i||vT ops i f||ps.contains (i,f)||(nP ops i f&&(cs.contains i||cs.contains f))
def LI{ops:Array Oper}{cs:List Nat}{ps:List (Nat × Nat)}{e:Env}{h:Heap}(j:AI ops cs ps=V)(m:∀k∈cs,u' P G R ops e h k)(z:∀p∈ps,jA P G R ops e h p.1 p.2=V):kU P G R ops e h=V:=by
 unfold AI at j;unfold kU;simp only[bm,eJ,ie,og]at j ⊢;refine⟨j.1,λs r i q=>?_⟩;rcases j.2 s r i q with((f|f)|f)|⟨f,h2⟩
 .simp_all
 .simp_all
 .simp_all
 .exact .inr ⟨f,h2.imp (λA=>C7.2 (m i (by simp_all))) (λA=>C7.2 (m s (by simp_all)))⟩
def Ax{ops:Array Oper}{e:Env}{h:Heap}{k:Nat}{o:Oper}{c:Call}{x:U}(B:ops[k]?=J o)(m:o.op=.call c)
 (E:cq P G R ops (ops.toList.take k) e h (λq r _=>q=.normal/\∀j,jU P R r j c=J (.ret x,j)))
 (h2:cq P G R ops ops.toList e h (λq _ _=>q=.normal)):u' P G R ops e h k:=by
 have Y:k<ops.size:=(Array.getElem?_eq_some_iff.1 B).1;obtain⟨q1,r,C,z,rfl,A⟩:=E;obtain⟨q2,D,S,f1,rfl⟩:=h2;rw[<-oa M]at z;have s:bW P G R ops (bZ ops.size) e h=J (.normal,D,S):=by rw[oa (aV _),<-Array.length_toList,fK];exact f1
 obtain⟨-,T,-⟩:=trace s;refine⟨o,x,r,C,B,?_,z,λZ j=>⟨_,_,T Z j,aef m (A _)⟩⟩;have N:∀b,c.callee≠ .builtin b:=λb X=>by have:=A C;unfold jU at this;simp_all
 rw[m];obtain⟨f,args,ts⟩:=c;cases f with|builtin b=>simp_all|value z0=>rfl|invoke z1 n=>rfl
def jN{ops:Array Oper}{e:Env}{h:Heap}{i j:Nat}{o:Oper}{t:aF}{a:bR}(s:nP ops i j=V)(A:ops[i]?=J o)(m:o.op=.load t a)(X:o.guard=ag)
 (Y:(ops[j]?).map (λo=>iz o.op)=J .iq) {x v:U} (Z:cE v v=V)
 (S:cq P G R ops (ops.toList.take i) e h (λq r B=>q=.normal/\r.eval a=x/\aD P G B t x=J v))
 (h2:cq P G R ops (ops.toList.take (j+1)) e h (λq _ z=>q=.normal/\aD P G z t x=J v)):jA P G R ops e h i j=V:=by
 have hi:i<ops.size:=by
  rcases dp i ops.size with f|f
  .exact f
  .simp_all
 have hjs:j<ops.size:=by
  rcases dp j ops.size with f|f
  .exact f
  .simp_all
 have T:(ops[i]?).map (λo=>iz o.op)=J .reads:=by rw[A];simp only[fF,m];rfl
 unfold jA;rw[s,T,Y];simp only[mL];unfold od;rw[A,oa M,oa M];obtain⟨q1,r,B,C,rfl,E,N⟩:=S;obtain⟨q2,em,z,f1,rfl,f2⟩:=h2;rw[C,f1];simp only[eE,X,m,E,N,f2,Z]
def kj{ops:Array Oper}{e:Env}{h:Heap}{i j:Nat}{o:Oper}{t:aF}{a:bR}(s:nP ops i j=V)(A:ops[j]?=J o)(m:o.op=.load t a)(X:o.guard=ag)
 (Y:(ops[i]?).map (λo=>iz o.op)=J .iq) {x v:U} (Z:cE v v=V)
 (S:cq P G R ops (ops.toList.take j) e h (λq r B=>q=.normal/\r.eval a=x/\aD P G B t x=J v))
 (h2:cq P G R ops (ops.toList.take i) e h (λq _ z=>q=.normal/\aD P G z t x=J v)):jA P G R ops e h i j=V:=by
 have hi:i<ops.size:=by
  rcases dp i ops.size with f|f
  .exact f
  .simp_all
 have hjs:j<ops.size:=by
  rcases dp j ops.size with f|f
  .exact f
  .simp_all
 have T:(ops[j]?).map (λo=>iz o.op)=J .reads:=by rw[A];simp only[fF,m];rfl
 unfold jA;rw[s,T,Y];simp only[mL];unfold od;rw[A,oa M,oa M];obtain⟨q1,r,B,C,rfl,E,N⟩:=S;obtain⟨q2,em,z,f1,rfl,f2⟩:=h2;rw[C,f1];simp only[eE,X,m,E,N,f2,Z]
end
section
variable {P:bk} {G:Nat->Option (List U)} {aJ:aR->Option (List U->Heap->Option (U × Heap))} {Q:Xt->Env->Heap->Prop} {e:Env} {h:Heap}
def Jb{id:Nat}{ops:Array Oper}(cs:List Nat)(ps:List (Nat × Nat))(j:AI ops cs ps=V)(f:∀k∈cs,u' P G (whole P G aJ) ops e h k)(q:∀p∈ps,jA P G (whole P G aJ) ops e h p.1 p.2=V)
 (m:cq P G (whole P G aJ) ops ops.toList e h (tH Q)):bC (whole P G aJ) (.region id ops V) e h Q:=
 Pq (LI j f q) m
end
structure ff(b n0:Nat)(h h':Heap):Prop where
 box:∀(c:Nat) (cs:List U),c≠b->h.boxes[c]?=J cs->h'.boxes[c]?=J cs
 len:h.boxes.length<=h'.boxes.length
 loop:∀(l:Nat) (r:gV),h.loops[l]?=J r->h'.loops[l]?=J r
 tn:h.tn<=h'.tn
 dead:∀n,n<n0->n∈h'.dead->n∈h.dead
 ok:c_ h=V->c_ h'=V
def ff.refl(b n0)(h):ff b n0 h h:=⟨λ_ _ _ h=>h,aV _,λ_ _ h=>h,aV _,λ_ _ h=>h,λh=>h⟩
def ff.trans{b n0}{x y z}(h:ff b n0 x y)(k:ff b n0 y z):ff b n0 x z:=
 ⟨λi cs f m=>k.box i cs f (h.box i cs f m),e8 h.len k.len,λl A r=>k.loop l A (h.loop l A r),e8 h.tn k.tn,λn j q=>h.dead n j (k.dead n j q),λs=>k.ok (h.ok s)⟩
def ff.EG{b n0}{h h'}(x:Ext h h')(m:n0<=h.tn):ff b n0 h h':=
 ⟨λc cs _ j=>x.box c cs j,x.len,x.loop,x.tn,λn f h2=>x.dead n (my f m) h2,x.ok⟩
def ff.put(b n0)(h)(cs):ff b n0 h (h.put b cs):=
 ⟨λc m j f=>by rw[cd j];exact f,by rw[je];omega,λ_ _ h=>h,aV _,λ_ _ h=>h,λh=>h⟩
def Ext.mut{b}{f h h'}(x:Ext f h)(m:ff b f.tn h h')(C:F f.boxes<=b):Ext f h':=
 ⟨λc cs j=>by have A:=(aT.1 j).1;exact m.box c cs M (x.box c cs j),λl B s=>m.loop l B (x.loop l B s),e8 x.tn m.tn,λn q r=>x.dead n q (m.dead n q r),λz=>m.ok (x.ok z)⟩
def Heap.app(h:Heap)(k:Tok):Heap:=
 match k with
 | .free n=>{h with dead:=n::h.dead,tn:=h.tn+1}
 |_=>{h with tn:=h.tn+1}
def dS(h:Heap)(k):(h.app k).boxes=h.boxes:=by cases k<;>rfl
def Aq(h:Heap)(k):(h.app k).loops=h.loops:=by cases k<;>rfl
def C4(h:Heap)(k):(h.app k).tn=h.tn+1:=by cases k<;>rfl
def db(n0:Nat)(h:Heap)(k:Tok):Prop:=k=.nil∨k=.tight∨∃n,k=.free n/\n0<=n/\alive h n=V
def ff.app{b n0}{h}{k}(r:db n0 h k):ff b n0 h (h.app k):=by
 refine⟨λc cs _ s=>by rw[dS];exact s,by rw[dS];omega,λl D z=>by rw[Aq];exact z,by rw[C4];omega,?_,?_⟩
 .rcases r with rfl|rfl|⟨C,rfl,A,m⟩
  .exact λn _ f=>f
  .exact λn _ f=>f
  .intro n f q;rcases gU.1 q with rfl|q<;>omega
 .intro B;have j:∀n∈h.dead,n<h.tn+1:=λn f=>by
   have:=eJ.1 B n f
   grind
  rcases r with rfl|rfl|⟨C,rfl,A,m⟩
  .exact eJ.2 λn f=>bQ (j n f)
  .exact eJ.2 λn f=>bQ (j n f)
  .refine eJ.2 λn f=>bQ ?_;rcases gU.1 f with rfl|f
   .unfold alive at m;simp only[bm,decide_eq_true_eq]at m;show n<h.tn+1;omega
   .exact j n f
def Ext.app{f h}{k}(x:Ext f h)(j:db f.tn h k):Ext f (h.app k):=by have m:=ff.app (b:=h.boxes.length) j;exact x.mut m x.len
def acF{h}{k}(r:c_ h=V)(q:db 0 h k):alive (h.app k) h.tn=V:=by
 have f:h.dead.contains h.tn=ah:=by rw[aal];intro s;have:=eJ.1 r h.tn (by simp_all);simp at this
 unfold alive;rw[C4];rcases q with rfl|rfl|⟨z,rfl,-,j⟩
 .simp only[Heap.app,f];simp
 .simp only[Heap.app,f];simp
 .unfold alive at j;simp only[bm,decide_eq_true_eq]at j;have m:¬(h.tn=z):=by omega
  have h2:¬(h.tn∈h.dead):=by simpa using f
  simp[Heap.app,m,h2]
def db.mono{n0}{h}{k}(m:db n0 h k){f}(r:f<=n0):db f h k:=by
 rcases m with rfl|rfl|⟨s,rfl,q,j⟩
 .exact .inl O
 .exact .inr (.inl O)
 .exact .inr (.inr ⟨s,O,by omega,j⟩)
def db.ext{n0}{h h'}{k}(j:db n0 h k)(x:Ext h h'):db n0 h' k:=by
 rcases j with rfl|rfl|⟨q,rfl,m,f⟩
 .exact .inl O
 .exact .inr (.inl O)
 .exact .inr (.inr ⟨q,O,m,x.alive f⟩)
def db.next{n0}{h}{k}(f:db n0 h k)(m:c_ h=V)(j:n0<=h.tn):db n0 (h.app k) (.free h.tn):=
 .inr (.inr ⟨h.tn,O,j,acF m (f.mono (bY _))⟩)
end Go.AE
end
section
namespace Go.AE
def qE.cons_inv{H}{P}{t}{ts}{xs}{f:List (DataW H)}(h:qE P (t::ts) xs f):∃x m d j,xs=x::m/\f=d::j/\jD P t x d/\qE P ts m j:=by
 cases xs with
 |nil=>cases f<;>exact h.elim
 |cons x xs=>
  cases f with|nil=>exact h.elim|cons d f=>exact⟨x,xs,d,f,O,O,h.1,h.2⟩
def qE.alO{H}{P}{xs}{f:List (DataW H)}(h:qE P [] xs f):xs=[]:=by
 cases xs with|nil=>rfl|cons x xs=>cases f<;>exact h.elim
section
variable {P:bk} {t:aF} {x y:bR}
def BS{d:TypeDesc}(f:P.underlying t=J d):cV P (underlying t)=J d:=by unfold underlying;simp only[gt];show(J P).bind _=_;simp only[iR,f];rfl
def RS{v:aG}{r:Array (String × aF)}(q:P.underlying t=J (.interface r)):cy P .neq t x (.const v) (.v .nilIface) (.v .nilIface)=J (.v (.bool ah)):=by
 have f:cy P .neq t x (.const v) (.v .nilIface) (.v .nilIface)=(cV P (do eqGuard .neq t x (.const v) .nilIface .nilIface;binOp .neq t .nilIface .nilIface)).bind jf:=rfl;have h2:cV P (eqGuard .neq t x (.const v) .nilIface .nilIface)=J ():=by cases x<;>rfl
 have j:cV P (Op.equal t .nilIface .nilIface)=J V:=by unfold Op.equal Op.maxDepth Op.equalIn;rw[gt,BS q];rfl
 have m:cV P (binOp .neq t .nilIface .nilIface)=J (.bool ah):=by show cV P (do pure (Value.bool (!(<-Op.equal t .nilIface .nilIface))))=_;rw[gt,j];rfl
 rw[f,gt,h2,iR,m];rfl
def adr{u:aF}{z:U}(hi:isIface P t=J V):cy P .neq t x y (.iface u z) (.v .nilIface)=J (.v (.bool V)):=by show(if isIface P t=J V then rI .neq ah else ag)=_;rw[av hi];rfl
end
end Go.AE
end
section
namespace Go.AE
section
variable {h:Heap} {cs:List U} {b c:Nat} {k:Tok}
def ahm:(h.push cs).boxes[h.boxes.length]?=J cs:=aK h cs
def na(f:c=F h.boxes):(h.push cs).boxes[c]?=J cs:=by subst f;exact aK h cs
def ahn(f:c≠F h.boxes):(h.push cs).boxes[c]?=h.boxes[c]?:=by
 unfold Heap.push
 grind
def aho(f:b<F h.boxes):(h.put b cs).boxes[b]?=J cs:=dh f
def ahp(f:c≠b):(h.put b cs).boxes[c]?=h.boxes[c]?:=cd f
def ahl:(h.app k).boxes[c]?=h.boxes[c]?:=by rw[dS]
def WC:F (h.app k).boxes=F h.boxes:=by rw[dS]
end
def yh{n0}{h}{cs}{k}:db n0 (h.push cs) k=db n0 h k:=rfl
def Ay{n0 b}{h}{cs}{k}:db n0 (h.put b cs) k=db n0 h k:=rfl
def Ext.fI{h h'}(x:Ext h h'){b}(q:F h.boxes<=b)(cs):Ext h (h'.put b cs):=by refine⟨λc j f=>?_,x.loop,x.tn,x.dead,x.ok⟩;have m:c<F h.boxes:=(aT.1 f).1;rw[cd M];exact x.box c j f
section
variable {P:bk} {G:Nat->Option (List U)} {h:Heap} {t:aF} {b off n:Nat} {cs:List U}
def as0{z:aG}(m:cC P t=J 1)(f:h.boxes[b]?=J cs)(j:off+1<=F cs):bV P h t (.ptr (.box b) off) (.v z)=J (h.put b (dC cs off [.v z])):=fC O m f O j
def asY{k:Tok}{sz:Nat}{es:List (List U)}(m:cC P t=J 1)(f:h.boxes[b]?=J cs)(j:off+1<=F cs):bV P h t (.ptr (.box b) off) (.list k sz es)=J (h.put b (dC cs off [.list k sz es])):=fC O m f O j
def ar8{l:List UInt8}{k N:qD}{lo hi:Int}(m:P.underlying t=J .string)(q:0<=lo)(r:lo<=hi)(h2:hi<=F l):
 gw P t (.v (.string (bs l))) (J (.v (.int k lo))) (J (.v (.int N hi))) ag=J (.v (.string (bs ((l.take hi.toNat).drop lo.toNat)))):=by
 unfold gw;simp only[FX,uO,jB,if_false,m,yd];have f:gc (F l) (J (U.v (.int N hi))) (F l)=J hi.toNat:=by unfold gc;simp only;grind
 have j:gc hi.toNat (J (U.v (.int k lo))) 0=J lo.toNat:=by unfold gc;simp only;grind
 simp only[f,j,K9]
def ar9{l:List UInt8}{k:qD}{lo:Int}(m:P.underlying t=J .string)(q:0<=lo)(r:lo<=F l):
 gw P t (.v (.string (bs l))) (J (.v (.int k lo))) ag ag=J (.v (.string (bs (l.drop lo.toNat)))):=by
 unfold gw;simp only[FX,uO,jB,if_false,m,yd];have f:gc (F l) ag (F l)=J (F l):=rfl;have j:gc (F l) (J (U.v (.int k lo))) 0=J lo.toNat:=by unfold gc;simp only;simp_all
 simp only[f,j,K9,fK]
def asa{l:List UInt8}{N:qD}{hi:Int}(m:P.underlying t=J .string)(q:0<=hi)(h2:hi<=F l):
 gw P t (.v (.string (bs l))) ag (J (.v (.int N hi))) ag=J (.v (.string (bs (l.take hi.toNat)))):=by
 unfold gw;simp only[FX,uO,jB,if_false,m,yd];have f:gc (F l) (J (U.v (.int N hi))) (F l)=J hi.toNat:=by unfold gc;simp only;simp_all
 have j:gc hi.toNat ag 0=J 0:=rfl;simp only[f,j,K9,gG]
def alP{r:Ref}:Oe (.ptr r off)=J (.ptr r off):=rfl
end
end Go.AE
end
section
namespace Go.AE
def Env.AH(e:Env)(d:aR × List U):Env:={e with defers:=d::e.defers}
def Env.pn(e:Env)(p:Option (U × Bool)):Env:={e with cD:=p}
section
variable {e:Env} {d:aR × List U} {p:Option (U × Bool)} {t:Nat}
def afX:(e.AH d).get t=e.get t:=rfl
def afW:(e.AH d).defers=d::e.defers:=rfl
def afY:(e.AH d).cD=e.cD:=rfl
def Tc:(e.AH d).round=e.round:=rfl
def am1:(e.pn p).get t=e.get t:=rfl
def am0:(e.pn p).defers=e.defers:=rfl
def am2:(e.pn p).cD=p:=rfl
def XS:(e.pn p).round=e.round:=rfl
end
def Qj(P:bk)(G:Nat->Option (List U))(R:Rec)(ops:Array Oper)(rest:List Oper)(d:Option Tmp)(args:List U)(e:Env)(h:Heap)(Q:Xt->Env->Heap->Prop)(x:U):Prop:=
 match x with
 | .func (.func g) first f=>cq P G R ops rest ((e.AH (g,first++args++f)).put d (.tuple [])) h Q
 |_=>False
def Ky(P:bk)(G:Nat->Option (List U))(R:Rec)(ops:Array Oper)(rest:List Oper)(d:Option Tmp)(e:Env)(h:Heap)(Q:Xt->Env->Heap->Prop)(p:Option (U × Bool)):Prop:=
 match p with
 |some (x,ah)=>cq P G R ops rest ((e.pn (J (x,V))).put d x) h Q
 |_=>cq P G R ops rest (e.put d (.v .nilIface)) h Q
section
variable {P:bk} {G:Nat->Option (List U)} {R:Rec} {ops:Array Oper} {rest:List Oper} {e:Env} {h:Heap} {Q:Xt->Env->Heap->Prop} {d:Option Tmp} {ty:aF} {pos:String} {Y:Array Edge}
def ao6{f:bR}{args:Array bR}{ts:Array aF}(q:e.round=ag):cq P G R ops (⟨d,.defer {callee:=.value f,args,argTypes:=ts},ty,pos,Y,ag⟩::rest) e h Q=Qj P G R ops rest d (args.toList.map e.eval) e h Q (e.eval f):=by
 rw[aqU q];generalize e.eval f=y;rcases y with _|_|_|_|_|_|_|_|⟨j,a,b⟩|_|_
 case func=>cases j<;>rfl
 all_goals rfl
def afV{g:aR}{first aS args:List U}:Qj P G R ops rest d args e h Q (.func (.func g) first aS)=cq P G R ops rest ((e.AH (g,first++args++aS)).put d (.tuple [])) h Q:=rfl
def apm{args:Array bR}{ts:Array aF}(f:e.round=ag):cq P G R ops (⟨d,.call {callee:=.builtin .recover,args,argTypes:=ts},ty,pos,Y,ag⟩::rest) e h Q=Ky P G R ops rest d e h Q e.cD:=by
 rw[aqY f];rcases hp:e.cD with _|⟨x,b⟩
 .rfl
 .cases b<;>rfl
def aoj{x:U}:Ky P G R ops rest d e h Q (J (x,ah))=cq P G R ops rest ((e.pn (J (x,V))).put d x) h Q:=rfl
def aoi:Ky P G R ops rest d e h Q ag=cq P G R ops rest (e.put d (.v .nilIface)) h Q:=rfl
def P6{fn:Func}{g:aR}{args:List U}{f:List (aR × List U)}{x:U}{h':Heap}(j:R.iA g args ag h=J (.ret x,ag,h')):gh P G R fn e ((g,args)::f) ag h=gh P G R fn e f ag h':=by rw[gh,j]
def aua{fn:Func}{g:aR}{args:List U}{f:List (aR × List U)}{x y z:U}{h':Heap}(j:R.iA g args (J (y,ah)) h=J (.ret x,J (z,V),h')):gh P G R fn e ((g,args)::f) (J (y,ah)) h=gh P G R fn e f ag h':=by rw[gh,j]
end
end Go.AE
end
section
namespace Go.AE
def Gs(P:bk)(G:Nat->Option (List U))(R:Rec)(fn:Func)(Post:dR->Heap->Prop):Xt->Env->Heap->Prop:=λo e h=>∃f h',vf P G R fn f h' o e h/\Post f h'
def agi{P}{G}{R}{fn}{Post}{e}{h}:Gs P G R fn Post .normal e h=∃r h',gh P G R fn e e.defers ag h=J (r,h')/\Post r h':=rfl
def agk{P}{G}{R}{fn}{Post}{e}{h}:Gs P G R fn Post .ret e h=∃r h',gh P G R fn e e.defers ag h=J (r,h')/\Post r h':=rfl
def agj{P}{G}{R}{fn}{Post}{e}{h}{x}:Gs P G R fn Post (.panic x) e h=∃r h',gh P G R fn e e.defers (J (x,ah)) h=J (r,h')/\Post r h':=rfl
def bL{P}{G}{aJ}{g}{fn}{body}{args}{h}{Post}(A:aJ g=ag)(f:P.funcs[g]?=J fn)(z:fn.body=J body)
 (B:bC (whole P G aJ) body (Env.start args ag) h (Gs P G (whole P G aJ) fn Post)):∃r h',(whole P G aJ).call g args h=J (r,h')/\Post r h':=by
 obtain⟨o,j,m,h2,r,h',q,s⟩:=B;exact⟨r,h',cr A f z ⟨o,j,m,h2,q⟩,s⟩
end Go.AE
end
section
namespace Go.AE
section
variable {P:bk} {h:Heap} {ts:Array aF} {ty:aF} {k:qD} {a b:Int}
def zH:iu P h .max ts ty [.v (.int k a),.v (.int k b)]=J (.v (.int k (if a<b then b else a)),h):=by
 have f:iu P h .max ts ty [.v (.int k a),.v (.int k b)]=((cV P (Builtin.max_ ts ty #[.int k a,.int k b])).bind jf).map (·,h):=rfl;rw[f];have h2:cV P (Builtin.max_ ts ty #[.int k a,.int k b])=J (.int k (if a<b then b else a)):=by simp[Builtin.max_,Builtin.max2];split<;>simp_all<;>rfl
 rw[h2];split<;>rfl
def Ez:iu P h .min ts ty [.v (.int k a),.v (.int k b)]=J (.v (.int k (if b<a then b else a)),h):=by
 have f:iu P h .min ts ty [.v (.int k a),.v (.int k b)]=((cV P (Builtin.min_ ts ty #[.int k a,.int k b])).bind jf).map (·,h):=rfl;rw[f];have h2:cV P (Builtin.min_ ts ty #[.int k a,.int k b])=J (.int k (if b<a then b else a)):=by simp[Builtin.min_,Builtin.min2];split<;>simp_all<;>rfl
 rw[h2];split<;>rfl
def akJ{t:aF}{x:U}:iu P h .len #[t] ty [x]=(dB P t x).map (·,h):=rfl
def C9{t:aF}{x:U}:iu P h .cap #[t] ty [x]=(Az P t x).map (·,h):=rfl
def append_eq{d:Option Tmp}{s x:U}:po P (λ_=>ag) d h .append ts ty [s,x]=gm P h ts s x:=rfl
def acI{G:Nat->Option (List U)}{d:Option Tmp}{s x:U}(f:Fp G d ty=ah):po P G d h .append ts ty [s,x]=gm P h ts s x:=by unfold po;simp_all
def acK{G:Nat->Option (List U)}{d:Option Tmp}{s x:U}(f:Fp G d ty=V):po P G d h .append ts ty [s,x]=ml P h ts s x:=by unfold po;simp_all
def copy_eq{s x:U}:iu P h .copy ts ty [s,x]=wO P h ts s x:=rfl
end
end Go.AE
end
section
namespace Go.AE
section
variable {H:Type} {P:bk} {t e:aF} {cs xs:List U} {x:U} {d:DataW H}
def Has.VW{k:qD}(h:Has P t cs d)(m:P.underlying t=J (.int k)):∃n:Int,cs=[.v (.int k n)]/\k.min<=n/\n<=k.max:=by
 cases h with
 |int f n j=>rw[m]at f;injection f with f;injection f with f;subst f;exact⟨n,O,by simpa [Lit.wf] using j⟩
 |bool f=>simp_all|str f=>simp_all|none f=>simp_all|list f=>simp_all|struct f=>simp_all|array f=>simp_all
def Has.lm(h:Has P t cs d)(j:P.underlying t=J (.int .i64)):∃n:Int,cs=[.v (.int .i64 n)]/\ -9223372036854775808<=n/\n<=9223372036854775807:=by obtain⟨n,m,h2,f⟩:=h.VW j;simp[IntKind.min,IntKind.max,IntKind.signed,IntKind.bits]at h2 f;simp_all
def Has.P5(h:Has P t cs d)(q:P.underlying t=J (.int .u8)):∃b:UInt8,cs=iy b:=by
 obtain⟨n,f,h2,m⟩:=h.VW q;simp[IntKind.min,IntKind.max,IntKind.signed,IntKind.bits]at h2 m;refine⟨UInt8.ofNat n.toNat,?_⟩;have j:((UInt8.ofNat n.toNat).toNat:Int)=n:=by
  have:(UInt8.ofNat n.toNat).toNat=n.toNat:=by simp;omega
  rw[this];omega
 rw[f,iy,j]
def Has.Cj(h:Has P t cs d)(m:P.underlying t=J (.slice e)):∃(k:Tok) (es:List (List U)),cs=[.list k (P.cellsOf e) es]/\F es<=maxLen/\(k=.nil∨k=.held∨(k=.tight/\es=[]))/\(k=.nil->es=[])/\
 ∀r∈es,F r=P.cellsOf e/\∃d:DataW H,Has P e r d:=by
 cases h with
 |bool f=>simp_all|int f=>simp_all|str f=>simp_all|none f=>
  rw[m]at f;injection f with f;injection f with f;subst f
  grind
 |list f k es q E A B D s C=>
  rw[m]at f;injection f with f;injection f with f;subst f;refine⟨k,es,O,B,.inr A,?_,λr j=>⟨C r j,?_⟩⟩
  .grind
  .obtain⟨i,z,rfl⟩:=wC.1 j;exact⟨q[i],s i _ _ (aP z) (aP M)⟩
 |struct f=>simp_all|array f=>simp_all
def Has.Js{q:Array Field}{m:List (aF × Nat)}(h:Has P t xs d)(E:P.underlying t=J (.struct q))(B:(q.toList.map λf=>(f.type,f.offset))=m):
 xs.length=P.cellsOf t/\∀(i:Nat) (u:aF) (o:Nat),m[i]?=J (u,o)->∃d:DataW H,Has P u ((xs.drop o).take (P.cellsOf u)) d:=by
 cases h with
 |bool j=>simp_all|int j=>simp_all|str j=>simp_all|none j=>simp_all|list j=>simp_all|array j=>simp_all|struct j xs s D N z=>
  rw[E]at j;injection j with j;injection j with j;subst j;refine⟨D,λi u o r=>?_⟩;rw[<-B,ec]at r;cases A:q.toList[i]? with
  |none=>simp_all|some f=>
   rw[A]at r;simp only[fF,dt,cL]at r;have C:i<F s:=(by have:=(aT.1 A).1;simp at this;omega);have:=z i f s[i] (by simp_all) (aP C)
   grind
def jD.plain(h:jD P t x d)(m:∀f,P.underlying t≠J (.struct f))(j:∀n e,P.underlying t≠J (.array n e)):Has P t [x] d:=by unfold jD at h;simp_all
def jD.lm(h:jD P t x d)(j:P.underlying t=J (.int .i64)):∃n:Int,x=.v (.int .i64 n)/\ -9223372036854775808<=n/\n<=9223372036854775807:=by obtain⟨l,m,h2⟩:=(h.plain (λ_ f=>by simp_all) (λ_ _ f=>by simp_all)).lm j;simp_all
def jD.P5(h:jD P t x d)(m:P.underlying t=J (.int .u8)):∃b:UInt8,x=.v (.int .u8 b.toNat):=by
 obtain⟨l,f⟩:=(h.plain (λ_ j=>by simp_all) (λ_ _ j=>by simp_all)).P5 m;injection f with f
 grind
def jD.Cj(h:jD P t x d)(j:P.underlying t=J (.slice e)):∃(k:Tok) (es:List (List U)),x=.list k (P.cellsOf e) es/\F es<=maxLen/\(k=.nil∨k=.held∨(k=.tight/\es=[]))/\(k=.nil->es=[])/\
 ∀r∈es,F r=P.cellsOf e/\∃d:DataW H,Has P e r d:=by
 obtain⟨k,es,m,h2⟩:=(h.plain (λ_ f=>by simp_all) (λ_ _ f=>by simp_all)).Cj j
 grind
def jD.Js{f:Array Field}(h:jD P t x d)(j:P.underlying t=J (.struct f)):∃xs,x=.agg xs/\Has P t xs d:=by unfold jD at h;simp_all
def uL(P:bk)(t:aF)(f:List (aF × Nat)):Bool:=
 match P.underlying t with
 |some (.struct j)=>decide ((j.toList.map λm=>(m.type,m.offset))=f)
 |_=>ah
def ZH{j:List (aF × Nat)}(h:uL P t j=V):∃m:Array Field,P.underlying t=J (.struct m)/\(m.toList.map λf=>(f.type,f.offset))=j:=by
 unfold uL at h
 grind
def jD.fields{f:List (aF × Nat)}(h:jD P t x d)(r:uL P t f=V):∃xs,x=.agg xs/\F xs=P.cellsOf t/\∀(i:Nat) (u:aF) (o:Nat),f[i]?=J (u,o)->∃d:DataW H,Has P u ((xs.drop o).take (P.cellsOf u)) d:=by obtain⟨s,j,q⟩:=ZH r;obtain⟨xs,m,h2⟩:=h.Js j;exact⟨xs,m,h2.Js j q⟩
def Has.fields{f:List (aF × Nat)}(h:Has P t xs d)(m:uL P t f=V):F xs=P.cellsOf t/\∀(i:Nat) (u:aF) (o:Nat),f[i]?=J (u,o)->∃d:DataW H,Has P u ((xs.drop o).take (P.cellsOf u)) d:=by obtain⟨r,q,j⟩:=ZH m;exact h.Js q j
def NV{α:Type}{l:List α}(h:F l=2):∃a b,l=[a,b]:=by
 match l,h with
 | [a,b],_=>exact⟨a,b,O⟩
def HU{α:Type}{l:List α}(h:F l=4):∃a b c d,l=[a,b,c,d]:=by
 match l,h with
 | [a,b,c,d],_=>exact⟨a,b,c,d,O⟩
def O1{α:Type}{f}:∀{es:List (List U)},(∀r∈es,∃a,r=f a)->∃l:List α,es=l.map f:=by
 intro es
 induction es with
 |nil=>simp_all|cons r es m=>intro h;obtain⟨a,rfl⟩:=h r gH;obtain⟨l,rfl⟩:=m λr j=>h r (gx _ j);exact⟨a::l,O⟩
end
end Go.AE
end
section
namespace Go.AE
end Go.AE
end
section
namespace Go.AE
section
variable {a b:Nat × bR} {i k:Nat} {n:Int} {x:ByteArray} {l:List (Nat × bR)}
def aeA:tK #[]=ah:=rfl
def aeB:tK #[a]=ah:=by
 obtain⟨i,o⟩:=a;cases o with
 |const v=>
  cases v with
  |int k n=>cases k<;>rfl
  |_=>rfl
 |_=>rfl
def aeD:tK (Kh ((i,.tmp k)::l))=ah:=rfl
def aez:tK (Kh ((i,.const (.int .i64 n))::l))=ah:=rfl
def aeC:tK (Kh ((i,.const (.string x))::l))=ah:=rfl
def aeE:tK (Kh ((i,.const (.int .u8 n))::b::l))=V:=rfl
end
set_option linter.defProp false in
def goS:=aj @run_seq (aj @aq8 (aj @aq1 (aj @aq0 (aj @aq3 (aj @aq9 (aj @arb (aj @aq4 (aj @ara (aj @arL (aj @arN (aj @arK (aj @arM (aj @adV (aj @adX (aj @RX (aj @adW (aj @ala (aj @alc (aj @ak9 (aj @alb (aj @aem (aj @aen (aj @ad6 (aj @ad3 (aj @ahW (aj @ahV (aj @ahS (aj @ahR (aj @ahX (aj @ahO (aj @ahN (aj @asb (aj @aqW (aj @aqV (aj @apj (aj @aoY (aj @apl (aj @aoW (aj @ao0 (aj @ao1 (aj @ao2 (aj @apd (aj @apo (aj @apk (aj @aoZ (aj @apr (aj @ao4 (aj @apf (aj @ape (aj @apg (aj @apn (aj @ao9 (aj @ao8 (aj @apb (aj @apa (aj @apq (aj @ao7 (aj @apc (aj @ao3 (aj @aoX (aj @ao5 (aj @api (aj @aph (aj @aqZ (aj @acl (aj @ack (aj @acj (aj @Sh (aj @Si (aj @anH (aj @anF (aj @Jo (aj @asw (aj @asx (aj @Zo (aj @asF (aj @asE (aj @asG (aj @PJ (aj @AN (aj @eval_const (aj @eval_func (aj @eval_global (aj @al6 (aj @al5 (aj @amb (aj @al8 (aj @al7 (aj @al9 (aj @ama (aj @al4 (aj @ad8 (aj @yd (aj @RR (aj @adB (aj @adu (aj @adw (aj @ady (aj @ado (aj @adv (aj @adt (aj @ads (aj @adq (aj @adp (aj @adz (aj @adA (aj @RT (aj @at3 (aj @at2 (aj @WD (aj @NX (aj @NW (aj @ajt (aj @amX (aj @jm (aj @LL (aj @agl (aj @agn (aj @agm (aj @ago (aj @agq (aj @agp (aj @at8 (aj @at9 (aj @Bool.not_true (aj @Bool.not_false (aj @jB (aj @decide_true (aj @decide_false (aj @not_true_eq_false (aj @not_false_eq_true (aj @fD (aj @Int.toNat_zero (aj @Nat.succ_ne_zero (aj @zH (aj @Ez (aj @akJ (aj @C9 (aj @append_eq (aj @copy_eq (aj @aeA (aj @aeB (aj @aeD (aj @aez (aj @aeC (@aeE))))))))))))))))))))))))))))))))))))))))))))))))))))))))))))))))))))))))))))))))))))))))))))))))))))))))))))))))))))))))))))))))))))))))))))))))))
set_option linter.defProp false in
def goH:=aj @agi (aj @agk (aj @agj (aj @P6 (aj @aua (aj @aqX (aj @ao6 (aj @afV (aj @apm (aj @aoj (aj @aoi (aj @afX (aj @afW (aj @afY (aj @Tc (aj @am1 (aj @am0 (aj @am2 (aj @XS (aj @fm (aj @fR (aj @as0 (aj @asY (aj @ar8 (aj @ar9 (aj @asa (aj @alP (aj @bg (aj @oj (@xU)))))))))))))))))))))))))))))
end Go.AE
end
section
namespace Go.AE
section
variable {P:bk} {G:Nat->Option (List U)} {aJ:aR->Option (List U->Heap->Option (U × Heap))} {Q:Xt->Env->Heap->Prop} {e:Env} {h:Heap}
def HY(e:Env)(params:Array Tmp)(assign body:Code):gV:={tmps:=e.tmps,params,assign,body,state:=.ready,pending:=ag}
def Heap.loop(h:Heap)(r:gV):Heap:={h with loops:=h.loops++[r]}
def Heap.done(h:Heap)(l:Nat)(r:gV):Heap:={h with loops:=h.loops.set l {r with state:=.exhausted}}
def aq6{f:bR}{params:Array Tmp}{assign body:Code}{g:aR}{first aS:List U}(q:e.eval f=.func (.func g) first aS){x:U}{h':Heap}
 (m:(whole P G aJ).call g (first++[.yield (F h.loops)]++aS) (h.loop (HY e params assign body))=J (.panic x,h')) (r:Q (.panic x) e h'):
 bC (whole P G aJ) (.rangeFunc f params assign body) e h Q:=by
 unfold bC;rw[oZ];unfold eY;have j:(whole P G aJ).call g (first++[.yield (F h.loops)]++aS) {h with loops:=h.loops++[{tmps:=e.tmps,params,assign,body,state:=.ready,pending:=ag}]}=J (.panic x,h'):=m;simp only[q,j];exact⟨_,_,_,O,r⟩
def aq5{f:bR}{params:Array Tmp}{assign body:Code}{g:aR}{first aS:List U}(z:e.eval f=.func (.func g) first aS){x:U}{h':Heap}{r:gV}
 (s:(whole P G aJ).call g (first++[.yield (F h.loops)]++aS) (h.loop (HY e params assign body))=J (.ret x,h')) (B:h'.loops[h.loops.length]?=J r) (q:r.state≠ .busy) (m:r.pending=ag)
 (A:Q .normal e (h'.done (F h.loops) r)):bC (whole P G aJ) (.rangeFunc f params assign body) e h Q:=by
 unfold bC;rw[oZ];unfold eY;have j:(whole P G aJ).call g (first++[.yield (F h.loops)]++aS) {h with loops:=h.loops++[{tmps:=e.tmps,params,assign,body,state:=.ready,pending:=ag}]}=J (.ret x,h'):=s;simp only[z,j,B,m];rw[aL q];refine⟨_,_,_,O,?_⟩;simpa only[Heap.done,m] using A
def aq7{f:bR}{params:Array Tmp}{assign body:Code}{g:aR}{first aS:List U}(z:e.eval f=.func (.func g) first aS){x:U}{h':Heap}{r:gV}
 (s:(whole P G aJ).call g (first++[.yield (F h.loops)]++aS) (h.loop (HY e params assign body))=J (.ret x,h')) (B:h'.loops[h.loops.length]?=J r) (q:r.state≠ .busy) (m:r.pending=J .ret)
 (A:Q .ret e (h'.done (F h.loops) r)):bC (whole P G aJ) (.rangeFunc f params assign body) e h Q:=by
 unfold bC;rw[oZ];unfold eY;have j:(whole P G aJ).call g (first++[.yield (F h.loops)]++aS) {h with loops:=h.loops++[{tmps:=e.tmps,params,assign,body,state:=.ready,pending:=ag}]}=J (.ret x,h'):=s;simp only[z,j,B,m];rw[aL q];refine⟨_,_,_,O,?_⟩;simpa only[Heap.done,m] using A
def nG(l:Nat)(r:gV)(args:List U):Env:={tmps:=Cf r.params.toList args r.tmps,defers:=[],cD:=ag,round:=J l}
def Heap.busy(h:Heap)(l:Nat)(r:gV):Heap:={h with loops:=h.loops.set l {r with state:=.busy}}
def apU(l:Nat)(x:dR)(h':Heap):Xt->Env->Heap->Prop
 | .normal,_,h2=>∃r,h2.loops[l]?=J r/\x=.ret (.v (.bool V))/\h'={h2 with loops:=h2.loops.set l {r with state:=.ready,pending:=ag}}
 | .ret,_,h2=>∃r,h2.loops[l]?=J r/\x=.ret (.v (.bool ah))/\h'={h2 with loops:=h2.loops.set l {r with state:=.done,pending:=J .ret}}
 | .exit id,_,h2=>∃r,h2.loops[l]?=J r/\x=.ret (.v (.bool ah))/\h'={h2 with loops:=h2.loops.set l {r with state:=.done,pending:=J (.exit id)}}
 | .panic f,_,h2=>x=.panic f/\h'=h2
def IT{l:Nat}{args:List U}{r:gV}{x:dR}{h':Heap}(N:h.loops[l]?=J r)(S:r.params.size=F args)
 (E:bC (whole P G aJ) r.assign (nG l r args) h (λo j h1=>o=.normal/\∃r2,h1.loops[l]?=J r2/\r2.state=.ready/\bC (whole P G aJ) r.body j (h1.busy l r2) (apU l x h'))):
 (whole P G aJ).round l args h=J (x,h'):=by
 rw[aur];unfold sI;obtain⟨o,j,h1,B,rfl,r2,T,X,s,C,D,Y,m⟩:=E;have q:(whole P G aJ).code r.assign {tmps:=Cf r.params.toList args r.tmps,defers:=[],cD:=ag,round:=J l} h=J (.normal,j,h1):=B;have z:(whole P G aJ).code r.body j {h1 with loops:=h1.loops.set l {r2 with state:=.busy}}=J (s,C,D):=Y;simp only[N,S,if_true,q,T,X];rw[show({h1 with loops:=h1.loops.set l {tmps:=r2.tmps,params:=r2.params,assign:=r2.assign,body:=r2.body,state:=LoopState.busy,pending:=r2.pending}}:Heap)={h1 with loops:=h1.loops.set l {r2 with state:=.busy}} from O,z];cases s with
 |normal=>obtain⟨A,f,rfl,rfl⟩:=m;simp only[f,fF]
 |ret=>obtain⟨A,f,rfl,rfl⟩:=m;simp only[f,fF]
 |exit id=>obtain⟨A,f,rfl,rfl⟩:=m;simp only[f,fF]
 |panic Z=>obtain⟨rfl,rfl⟩:=m;rfl
end
end Go.AE
end
section
namespace Go.AE
structure Fr(bn l0 n0:Nat)(h h':Heap):Prop where
 box:∀(c:Nat) (cs:List U),c≠bn->h.boxes[c]?=J cs->h'.boxes[c]?=J cs
 len:h.boxes.length<=h'.boxes.length
 loop:∀(l:Nat) (r:gV),l<l0->h.loops[l]?=J r->h'.loops[l]?=J r
 Eu:h.loops.length<=h'.loops.length
 tn:h.tn<=h'.tn
 dead:∀n,n<n0->n∈h'.dead->n∈h.dead
 ok:c_ h=V->c_ h'=V
def Fr.refl(bn l0 n0)(h):Fr bn l0 n0 h h:=⟨λ_ _ _ h=>h,aV _,λ_ _ _ h=>h,aV _,aV _,λ_ _ h=>h,λh=>h⟩
def Fr.trans{bn l0 n0}{a b c}(h:Fr bn l0 n0 a b)(k:Fr bn l0 n0 b c):Fr bn l0 n0 a c:=
 ⟨λi cs f q=>k.box i cs f (h.box i cs f q),e8 h.len k.len,λl A j z=>k.loop l A j (h.loop l A j z),e8 h.Eu k.Eu,e8 h.tn k.tn,λn m r=>h.dead n m (k.dead n m r),λs=>k.ok (h.ok s)⟩
def Ext.Eu{h h'}(x:Ext h h'):F h.loops<=F h'.loops:=by
 rcases dp (F h'.loops) (F h.loops) with f|j
 .have m:=x.loop (F h'.loops) _ (aP f);simp_all
 omega
def Fr.EG{bn l0 n0}{h h'}(x:Ext h h')(q:n0<=h.tn):Fr bn l0 n0 h h':=
 ⟨λc cs _ j=>x.box c cs j,x.len,λl r _ m=>x.loop l r m,x.Eu,x.tn,λn f h2=>x.dead n (my f q) h2,x.ok⟩
def Fr.push(bn l0 n0)(h)(cs):Fr bn l0 n0 h (h.push cs):=
 ⟨λ_ _ _ f=>aN f,by rw[bE];omega,λ_ _ _ h=>h,aV _,aV _,λ_ _ h=>h,λh=>h⟩
def Fr.put(bn l0 n0)(h)(cs):Fr bn l0 n0 h (h.put bn cs):=
 ⟨λc m j f=>by rw[cd j];exact f,by rw[je];omega,λ_ _ _ h=>h,aV _,aV _,λ_ _ h=>h,λh=>h⟩
def Heap.fb(h:Heap)(l:Nat)(r:gV):Heap:={h with loops:=h.loops.set l r}
def Fr.fb{bn l0 n0}{h}{l}(m:l0<=l)(r):Fr bn l0 n0 h (h.fb l r):=
 ⟨λ_ _ _ f=>f,aV _,λs z q j=>by rw[<-j];exact J' M,by simp[Heap.fb],aV _,λ_ _ h=>h,λh=>h⟩
def Fr.Bx{bn l0 n0}(h)(r):Fr bn l0 n0 h (h.loop r):=
 ⟨λ_ _ _ f=>f,aV _,λq s m j=>Do j,by simp[Heap.loop],aV _,λ_ _ h=>h,λh=>h⟩
def Fr.ext{bn l0 n0}{h h'}(x:Fr bn l0 n0 h h')(r:F h.boxes<=bn)(s:F h.loops<=l0)(m:h.tn<=n0):Ext h h':=
 ⟨λc cs j=>x.box c cs (by grind) j,λl z q=>x.loop l z (by grind) q,x.tn,λn f h2=>x.dead n (my f m) h2,x.ok⟩
def Y_{h:Heap}{l}{r}(f:l<F h.loops):(h.fb l r).loops[l]?=J r:=by simp[Heap.fb,f]
def Y9{h:Heap}{l m}{r}(f:m≠l):(h.fb l r).loops[m]?=h.loops[m]?:=by simp[Heap.fb,J' (Ne.symm f)]
def Ew{h:Heap}{r}:(h.loop r).loops[h.loops.length]?=J r:=by simp[Heap.loop]
def WK{h:Heap}{r q}{l:Nat}(f:h.loops[l]?=J q):(h.loop r).loops[l]?=J q:=Do f
def St(l:Nat)(h h':Heap):Prop:=(∀(b:Nat) (cs:List U),h.boxes[b]?=J cs->h'.boxes[b]?=J cs)/\∀(f:Nat) (j:gV),f<=l->h.loops[f]?=J j->h'.loops[f]?=J j
def St.refl(l)(h):St l h h:=⟨λ_ _ h=>h,λ_ _ _ h=>h⟩
def St.trans{l}{a b c}(h:St l a b)(k:St l b c):St l a c:=⟨λi cs j=>k.1 i cs (h.1 i cs j),λq r f m=>k.2 q r f (h.2 q r f m)⟩
def St.push(l)(h)(cs):St l h (h.push cs):=⟨λ_ _ f=>aN f,λ_ _ _ h=>h⟩
def St.EG{l}{h h'}(x:Ext h h'):St l h h':=⟨x.box,λj m _ f=>x.loop j m f⟩
def St.fb{l k}{h}(m:l<k)(r):St l h (h.fb k r):=⟨λ_ _ f=>f,λs z q j=>by rw[Y9 M];exact j⟩
def St.Bx(l)(h)(r):St l h (h.loop r):=⟨λ_ _ f=>f,λm q _ j=>WK j⟩
def St.fI{l}{h h'}(x:St l h h'){b}(q:F h.boxes<=b)(cs):St l h (h'.put b cs):=
 ⟨λc j f=>by have m:c<F h.boxes:=(aT.1 f).1;rw[cd M];exact x.1 c j f,x.2⟩
inductive Nx (α:Type) where
 |cont (a:α)|stop (a:α)|panic (v:U)
def bC.gen{R}{c}{e}{h}{Q}(f:∀e2:Env,(∀t,e2.get t=e.get t)->e2.defers=e.defers->e2.cD=e.cD->e2.round=e.round->bC R c e2 h Q):bC R c e h Q:=f e (λ_=>rfl) O O rfl
section
variable {P:bk} {G:Nat->Option (List U)} {aJ:aR->Option (List U->Heap->Option (U × Heap))} {Q:Xt->Env->Heap->Prop} {e:Env} {h:Heap}
def Fa{f:bR}{j:Array Tmp}{assign body:Code}{g:aR}{first aS:List U}(s:e.eval f=.func (.func g) first aS)
 (H:∀rec:gV,rec.tmps=e.tmps->rec.params=j->rec.assign=assign->rec.body=body->rec.state=.ready->rec.pending=ag->∃r h',(whole P G aJ).call g (first++[.yield (F h.loops)]++aS) (h.loop rec)=J (r,h')/\
  match r with
  | .panic x=>Q (.panic x) e h'
  | .ret _=>∃rc,h'.loops[h.loops.length]?=J rc/\rc.state≠ .busy/\((rc.pending=ag/\Q .normal e (h'.fb (F h.loops) {rc with state:=.exhausted}))∨(rc.pending=J .ret/\Q .ret e (h'.fb (F h.loops) {rc with state:=.exhausted})))):
 bC (whole P G aJ) (.rangeFunc f j assign body) e h Q:=by
 obtain⟨r,h',q,A⟩:=H (HY e j assign body) O O O O O O;cases r with
 |panic x=>exact aq6 s q A|ret x=>
  obtain⟨rc,z,h2,m|m⟩:=A
  .exact aq5 s q z h2 m.1 m.2
  .exact aq7 s q z h2 m.1 m.2
def apR{l p t:Nat}{r:gV}{x:U}(f:r.params=#[p])(j:r.tmps=e.tmps):(nG l r [x]).get t=if p=t then x else e.get t:=by unfold nG;rw[f,j];exact Bw e.tmps p t x
def St.mono{l f}(m:l<=f){h h'}(x:St f h h'):St l h h':=⟨x.1,λr s q j=>x.2 r s M j⟩
end
end Go.AE
end
section
namespace Go.AE
section
variable {P:bk} {G:Nat->Option (List U)} {R:Rec}
def Fo(Q:Xt->Env->Heap->Prop):Xt->Env->Heap->Prop
 | .normal,e,h=>Q .normal e h
 | .panic x,e,h=>Q (.panic x) e h
 |_,_,_=>False
def Wj(P:bk)(G:Nat->Option (List U))(R:Rec)(ops:Array Oper)(l:List Oper)(Q:Xt->Env->Heap->Prop):Xt->Env->Heap->Prop
 | .normal,e,h=>cq P G R ops l e h (Fo Q)
 |_,_,_=>False
def ZU{Q}{e}{h}:Fo Q .normal e h=Q .normal e h:=rfl
def ZV{Q}{e}{h}{x}:Fo Q (.panic x) e h=Q (.panic x) e h:=rfl
def Wk{ops:Array Oper}{l:List Oper}{Q:Xt->Env->Heap->Prop}{e:Env}{h:Heap}:Wj P G R ops l Q .normal e h=cq P G R ops l e h (Fo Q):=rfl
end
section
variable {P:bk} {G:Nat->Option (List U)} {aJ:aR->Option (List U->Heap->Option (U × Heap))} {Q:Xt->Env->Heap->Prop} {e:Env} {h:Heap}
def ajb{R:Rec}{ops:Array Oper}{n:Nat}(f:n+1=ops.size)(r:qZ ops=V){m:Env}{q:Heap}(h2:bW P G R ops (bZ n) e h=J (.normal,m,q)):zw (bW P G R (gB ops) (bZ (gB ops).size) e h)=V:=by rw[Nr,<-f,ku];have j:=h2;rw[<-WM r (λi z=>by grind)]at j;rw[Ok j,bW,Eh,av f];have s:ops[n]?=J ops[n]:=jO M;rw[s];rfl
def YV{id n:Nat}{ops:Array Oper}(B:n+1=ops.size)(S:De ops=V)(s:De (gB ops)=V)(A:qZ ops=V)
 (X:cq P G (whole P G aJ) ops (ops.toList.take n) e h (Wj P G (whole P G aJ) ops (ops.toList.drop n) Q)):bC (whole P G aJ) (.region id ops V) e h Q:=by
 obtain⟨o,q,r,m,E⟩:=X;have T:o=.normal:=by cases o<;>first|rfl|exact E.elim
 subst T;obtain⟨C,N,h2,Y,j⟩:uX (opsL P G (whole P G aJ) ops (ops.toList.drop n) q r) (Fo Q):=E;rw[<-oa M]at m;have z:(ops.toList.drop n).take 1=ops.toList.drop n:=ga (by grind);have D:=Xs (P:=P) (G:=G) (R:=whole P G aJ) ops 1 n M q r;rw[z,Y]at D;have f:bW P G (whole P G aJ) ops (bZ ops.size) e h=J (C,N,h2):=by rw[<-B,ku,Ok m];exact D
 unfold bC;rw[oZ];cases C with|normal=>exact⟨_,_,_,draw_code f ((og _ _).mpr (.inl (LK S e h))),j⟩|panic x=>refine⟨_,_,_,draw_code f ?_,j⟩;simp only[drawC,bm];exact⟨A,LK s e h,ajb B A m⟩|exit i=>exact j.elim|ret=>exact j.elim
end
end Go.AE
end
section
namespace Go.AE
section
variable {P:bk} {G:Nat->Option (List U)} {R:Rec} {ops:Array Oper} {k:Nat}
end
section
variable {P:bk} {G:Nat->Option (List U)} {aJ:aR->Option (List U->Heap->Option (U × Heap))} {Q:Xt->Env->Heap->Prop} {e:Env} {h:Heap}
def mF(ops:Array Oper)(k:Nat)(ps:List (Nat × Nat)):Bool:=ps.all λp=>nP (cut ops k) p.1 p.2&&(decide (p.1<k)&&decide (p.2<k))
end
end Go.AE
end
section
namespace Go.AE
mutual
def ma(n:Nat):U->Bool
 | .list _ _ es=>Ex n es
 | .arr b _ _ _=>decide (b<n)
 | .agg cs=>nD n cs
 | .tuple cs=>nD n cs
 | .ptr (.box b) _=>decide (b<n)
 | .elem _ es _ _=>Ex n es
 | .func _ a b=>nD n a&&nD n b
 | .iface _ x=>ma n x
 |_=>V
def nD(n:Nat):List U->Bool
 | []=>V
 |x::f=>ma n x&&nD n f
def Ex(n:Nat):List (List U)->Bool
 | []=>V
 |r::f=>nD n r&&Ex n f
end
def WL(n):∀(a b:List U),nD n (a++b)=(nD n a&&nD n b)
 | [],b=>by simp[nD]
 |x::a,b=>by rw[ey,nD,nD,WL n a b,aai]
def Ey(n):∀es:List (List U),nD n es.flatten=Ex n es
 | []=>rfl
 |r::es=>by rw[jP,WL,Ex,Ey n es]
def aW.low(K:aW)(n:Nat):aW:={K with β:=K.β.take n}
section
variable {K:aW}
def JI{b g:Nat}(h:K.β[b]?=J g):b<F K.β:=(aT.1 h).1
mutual
def aQ.low:∀{x:U} {c:aG},aQ K x c->ma (F K.β) x=V
 |_,_,.bad _=>rfl
 |_,_,.v _ _=>rfl
 |_,_,.nil _=>rfl
 |_,_,.fZ _ _=>rfl
 |_,_,.list _ _ es _ _ _ _ _ _ _ f _ _ _=>by rw[ma,<-Ey];exact aI.low f
 |_,_,.arr _ _ _ _ _ _ _ m _ _ _ _=>by rw[ma];grind
 |_,_,.agg _ _ f=>by rw[ma];exact aI.low f
 |_,_,.tuple _ _ f=>by rw[ma];exact aI.low f
 |_,_,.box _ _ _ m=>by rw[ma];grind
 |_,_,.dA _ _=>rfl
 |_,_,.elem _ es _ _ _ _ _ _ _ f _ _ _ _=>by rw[ma,<-Ey];exact aI.low f
 |_,_,.func _ _ _ _ _ j h2=>by rw[ma,aI.low j,aI.low h2];rfl
 |_,_,.yield _ _ _=>rfl
 |_,_,.iface _ _ _ q=>by rw[ma];exact aQ.low q
def aI.low:∀{xs:List U} {cs:List aG},aI K xs cs->nD (F K.β) xs=V
 |_,_,.nil=>rfl
 |_,_,.cons _ _ _ _ j f=>by rw[nD,aQ.low j,aI.low f];rfl
end
def WO{n b g:Nat}(f:K.β[b]?=J g)(j:b<n):(K.low n).β[b]?=J g:=by show(K.β.take n)[b]?=J g;simp_all
def tu.low{n:Nat}{k:Tok}{g off sz m aS:Nat}(h:tu K k g off sz m aS):tu (K.low n) k g off sz m aS:=h
mutual
def aQ.cut{n:Nat}:∀{x:U} {c:aG},aQ K x c->ma n x=V->aQ (K.low n) x c
 |_,_,.bad c,_=>.bad c
 |_,_,.v x B,_=>.v x B
 |_,_,.nil sz,_=>.nil sz
 |_,_,.fZ sz a,_=>.fZ sz a
 |_,_,.list k sz es g off z0 f cells X q j m ht s,h=>.list k sz es g off z0 f cells X q (aI.cut j (by rw[Ey];rw[ma]at h;exact h)) m ht.low s
 |_,_,.arr b g off len f C r z A m Y q,h=>.arr b g off len f C r (WO z (by rw[ma]at h;simp_all)) A m Y q
 |_,_,.agg cs D j,h=>.agg cs D (aI.cut j (by rw[ma]at h;exact h))
 |_,_,.tuple cs D j,h=>.tuple cs D (aI.cut j (by rw[ma]at h;exact h))
 |_,_,.box b g off z,h=>.box b g off (WO z (by rw[ma]at h;simp_all))
 |_,_,.dA g off,_=>.dA g off
 |_,_,.elem sz es i off g o p cells q j m T Z s,h=>.elem sz es i off g o p cells q (aI.cut j (by rw[Ey];rw[ma]at h;exact h)) m T Z s
 |_,_,.func E first f N cs S h2,h=>.func E first f N cs (aI.cut S (by rw[ma,bm]at h;grind)) (aI.cut h2 (by rw[ma,bm]at h;grind))
 |_,_,.yield l g A,_=>.yield l g A
 |_,_,.iface t x c B,h=>.iface t x c (aQ.cut B (by rw[ma]at h;exact h))
def aI.cut{n:Nat}:∀{xs:List U} {cs:List aG},aI K xs cs->nD n xs=V->aI (K.low n) xs cs
 |_,_,.nil,_=>.nil
 |_,_,.cons x c xs cs j f,h=>.cons x c xs cs (aQ.cut j (by rw[nD,bm]at h;grind)) (aI.cut f (by rw[nD,bm]at h;grind))
end
end
section
variable {P:bk} {G:Nat->Option (List U)} {w0 w w':bP} {K K':aW} {h h':Heap} {ok:aR->Nat->Code->Bool}
end
end Go.AE
end
section
namespace Go.AE
section
universe u
set_option linter.defProp false in
def goT:=aj @fF.{0,0} (aj @FY.{0,0} (aj @iR.{0,0} (aj @eI.{0,0} (aj @uT.{0,0} (aj @List.getD_cons_zero.{0} (aj @List.getD_cons_succ.{0} (aj @iQ.{0} (aj @iP.{0} @jE.{0}))))))))
set_option linter.defProp false in
def goU:=aj @gj.{0} @dO.{0}
set_option linter.defProp false in
def WA:=aj @bE (aj @je @WC)
set_option linter.defProp false in
def akI:=aj @ef.{0} (aj @List.length_nil.{0} (aj @ck.{0} (aj @bE (aj @je @WC))))
set_option linter.defProp false in
def ahk:=aj @ahm (aj @na (aj @ahn (aj @aho (aj @ahp @ahl))))
set_option linter.defProp false in
def aes:=aj @yh @Ay
set_option linter.defProp false in
def apC:=aj @Zo (aj @Tc @XS)
end
set_option linter.defProp false in
def G_d:=@ahQ
set_option linter.defProp false in
def G_n:=@ahU
set_option linter.defProp false in
def B_d:=@ad2
set_option linter.defProp false in
def B_n:=@ad5
set_option linter.defProp false in
def G_m:=@ahT
set_option linter.defProp false in
def B_m:=@ad4
set_option linter.defProp false in
def G_b:=@ahP
set_option linter.defProp false in
def B_b:=@ad1
def dZ{p:Prop}(h:p:=by first|assumption|(exact Nat.le_refl _)|omega|(simp only[akI]<;>omega)|(simp(disch:=(first|assumption|omega|(exact(bE _ _).symm)|(simp only[WA];omega)|(refine Nat.le_antisymm ?_ ?_<;>simp only[WA]<;>omega)|fail)) only[ahk]<;>first|assumption|rfl)|(simp only[aes];assumption)|(exact PJ _ _)|(simp only[apC];first|assumption|exact PJ _ _)):p:=h
def dX{a b p:Prop}(x:a)(y:b)(f:a->b->p:=by first|exact G_d|exact G_n|exact B_d|exact B_n|exact G_m|exact B_m|exact G_b|exact B_b):p:=f x y
end Go.AE
end
section
namespace Go.AE
section
variable {P:bk} {t0 t1 t elem:aF} {i:TypeInfo} {h:Heap} {k N:Tok} {sz:Nat} {es new:List (List U)}
def zS(m:P.underlying t0=J (.slice elem))(q:P.underlying t1=J (.slice elem))(hi:P.info? elem=J i)(j:0<i.size)(D:(i.zero.map λz=>z.cells.size)=J i.size)(f:new≠[])
 (r:(F es+F new)*i.bytes<=140737488355328) (A:F es+F new<=9223372036854775807) (B:sz=i.size∨es=[]) (s:k=.nil∨k=.tight) {x:U} (C:jL h i.size x=J new):
 ml P h #[t0,t1] (.list k sz es) x=J (.arr (F h.boxes) 0 (F es+F new) (F es+F new),h.push (es++new).flatten):=by
 unfold ml;simp only[iQ,iP,jE,iR,m,q,hi,C];rw[av ⟨j,D⟩,av B,aL f,av ⟨r,A⟩];rcases s with rfl|rfl<;>rfl
def Jx{b len:Nat}{cs:List U}(m:P.underlying t0=J (.slice elem))(q:P.underlying t1=J (.slice elem))(hi:P.info? elem=J i)(j:0<i.size)(D:(i.zero.map λz=>z.cells.size)=J i.size)(B:new≠[])
 (s:(len+F new)*i.bytes<=140737488355328) (A:len+F new<=9223372036854775807) (f:h.boxes[b]?=J cs) (h2:0<len) (r:len*i.size=F cs) {x:U} (C:jL h i.size x=J new):
 ml P h #[t0,t1] (.arr b 0 len len) x=J (.arr (F h.boxes) 0 (len+F new) (len+F new),(h.put b []).push (cs++new.flatten)):=by
 have E:0<F new:=by cases new with|nil=>simp_all|cons _ _=>simp
 unfold ml;simp only[iQ,iP,jE,iR,m,q,hi,C,f];rw[av ⟨j,D⟩,aL M,av ⟨aX,h2,aX,r,s,A⟩];rfl
def EC:jL h sz (.list k sz es)=J es:=by unfold jL rowsOf;simp
def Zf{b off len aS n:Nat}{m:Int}{kk:qD}(r:P.underlying t=J (.slice elem))(B:cC P elem=J n)(A:n≠0)(s:0<=m)(h2:m<=aS)(z:0<aS):gw P t (.arr b off len aS) ag (J (.v (.int kk m))) ag=J (.arr b off m.toNat aS):=by
 have f:gc aS ag aS=J aS:=rfl;have j:gc aS (J (.v (.int kk m))) len=J m.toNat:=by show(if 0<=m/\m<=(aS:Int) then J m.toNat else ag)=_;simp_all
 have q:gc m.toNat ag 0=J 0:=rfl;unfold gw;simp_all
end
end Go.AE
end
section
namespace Go.AE
def dz(sz:Nat)(h:Heap)(x:U)(rows:List (List U)):Prop:=
 (∀m∈rows,F m=sz)/\
 ((∃k j,x=.list k j rows/\(rows≠[]->j=sz))∨
  (∃b off f cs,x=.arr b off (F rows) f/\F rows<=f/\h.boxes[b]?=J cs/\(cs.drop off).take (F rows*sz)=rows.flatten/\off+F rows*sz<=F cs))
section
variable {P:bk} {G:Nat->Option (List U)} {h h':Heap} {t e:aF} {sz:Nat} {x:U} {rows:List (List U)}
def dz.list{k:Tok}{s:Nat}(f:∀r∈rows,F r=sz)(j:rows≠[]->s=sz):dz sz h (.list k s rows) rows:=⟨f,.inl ⟨k,s,O,j⟩⟩
def dz.box{b n:Nat}(f:∀r∈rows,F r=sz)(m:n=F rows)(j:h.boxes[b]?=J rows.flatten):dz sz h (.arr b 0 n n) rows:=by
 subst m;refine⟨f,.inr ⟨b,0,rows.length,rows.flatten,O,aV _,j,?_,?_⟩⟩
 .rw[gG,<-lX f,fK]
 .rw[lX f];omega
def dz.mono(s:dz sz h x rows)(m:∀(b:Nat) (cs:List U),h.boxes[b]?=J cs->h'.boxes[b]?=J cs):dz sz h' x rows:=by
 obtain⟨z,s⟩:=s;refine⟨z,?_⟩;rcases s with s|⟨b,off,f,cs,j,h2,q,r⟩
 .simp_all
 .exact .inr ⟨b,off,f,cs,j,h2,m _ _ q,r⟩
def dz.ext(s:dz sz h x rows)(m:Ext h h'):dz sz h' x rows:=s.mono m.box
def dz.len(s:dz sz h x rows)(f:P.underlying t=J (.slice e)):dB P t x=J (.v (.int .i64 (F rows))):=by
 rcases s.2 with⟨k,s,rfl,-⟩|⟨b,off,j,cs,rfl,-⟩
 .exact NX f
 .exact NW f
def dz.index(s:dz sz h x rows)(T:0<sz)(B:P.underlying t=J (.slice e))(m:cC P e=J sz){i:Nat}{row:List U}(hi:rows[i]?=J row):
 ∃p,(∀kk,dK P t x (.v (.int kk (i:Int)))=J p)/\(fH P e=J ah->aD P G h e p=row.head?)/\(fH P e=J V->aD P G h e p=J (.agg row)):=by
 have q:=(aT.1 hi).1;have A:=s.1 row (List.mem_of_getElem? hi);rcases s.2 with⟨k,C,rfl,E⟩|⟨b,off,N,cs,rfl,h2,z,D,S⟩
 .have:C=sz:=E (by grind);subst this;refine⟨.elem C rows i 0,λkk=>?_,λf=>?_,λf=>?_⟩
  .rw[aU B m M M,fD]
  .rw[oO f hi,gG]
  .rw[Ev f m hi M,gG,<-A,fK]
 .have j:(cs.drop (off+i*sz)).take sz=row:=by have:=LQ s.1 hi;rw[<-D,J9,FR,pW]at this;rw[<-this];congr 1;have:(i+1)*sz<=F rows*sz:=mz _ q;rw[js]at this;omega
  have r:off+i*sz+sz<=F cs:=by have:(i+1)*sz<=F rows*sz:=mz _ q;rw[js]at this;omega
  refine⟨.ptr (.box b) (off+i*sz),λkk=>?_,λf=>?_,λf=>?_⟩
  .rw[Bm B m M M,fD]
  .rw[fm f z,<-j];obtain⟨n,rfl⟩:∃n,sz=n+1:=⟨sz-1,by omega⟩;cases cs.drop (off+i*(n+1)) with|nil=>rfl|cons a l=>rfl
  .rw[fR f m z r,j]
def dz.slice(s:dz sz h x rows)(hp:0<sz)(hu:P.underlying t=J (.slice e))(hs:cC P e=J sz){lo hi:Option U}{l m:Nat}
 (D:(hi=ag/\m=F rows)∨∃kk,hi=J (.v (.int kk (m:Int)))/\m<=F rows) (N:(lo=ag/\l=0)∨∃kk,lo=J (.v (.int kk (l:Int)))) (E:l<=m):
 ∃y,gw P t x lo hi ag=J y/\dz sz h y ((rows.take m).drop l):=by
 have S:m<=F rows:=by omega
 have bound:∀q,F rows<=q->gc q hi (F rows)=J m:=λq avQ=>by
  rcases D with⟨rfl,rfl⟩|⟨kk,rfl,T⟩
  .rfl
  .show(if 0<=(m:Int)/\(m:Int)<=(q:Int) then J (m:Int).toNat else ag)=_
   grind
 have A:gc m lo 0=J l:=by
  rcases N with⟨rfl,rfl⟩|⟨kk,rfl⟩
  .rfl
  .show(if 0<=(l:Int)/\(l:Int)<=(m:Int) then J (l:Int).toNat else ag)=_;simp_all
 have r:∀X∈(rows.take m).drop l,F X=sz:=λX z=>s.1 X (xS (List.mem_of_mem_drop z));rcases s.2 with⟨k,Y,rfl,hk⟩|⟨b,off,f,cs,rfl,h2,Z,h4,h5⟩
 .have C:gc (F rows) ag (F rows)=J (F rows):=rfl;have fQ:sz=Y∨rows=[]:=by
   by_cases T:rows=[]
   .simp_all
   .simp_all
  refine⟨.list (p9 k (decide (m=F rows)) ah (m-l)) Y ((rows.take m).drop l),?_,r,.inl ⟨_,_,O,λT=>hk (by grind)⟩⟩;unfold gw;simp_all
 .have C:gc f ag f=J f:=rfl;have j:F ((rows.take m).drop l)=m-l:=by rw[eC,cR];omega
  refine⟨.arr b (if f=l then off else off+l*sz) (m-l) (f-l),?_,r,.inr ⟨b,_,f-l,cs,by rw[j],by omega,Z,?_,?_⟩⟩
  .unfold gw
   grind
  .rw[j];by_cases T:f=l
   .have:m-l=0:=(by omega);rw[av T,this,Nat.zero_mul,List.take_zero]
    grind
   .rw[aL T,TF (λX z=>s.1 X (xS z)),LR s.1,<-h4,FR,<-pW];have B:min (m*sz) (F rows*sz)=m*sz:=CO (mz _ S);rw[B,J9,<-Nat.sub_mul]
  .rw[j];have B:m*sz<=F rows*sz:=mz _ S;have e2:(m-l)*sz+l*sz=m*sz:=by rw[<-js,Nat.sub_add_cancel E]
   grind
def dz.got(s:dz sz h x rows):rowsOf h sz x=J rows:=by
 rcases s.2 with⟨k,B,rfl,A⟩|⟨b,off,r,cs,rfl,h2,j,m,q⟩
 .unfold rowsOf
  grind
 .unfold rowsOf;simp only[j,av q,dt];apply FN
  .simp
  .intro i z f;rw[th,List.getElem_range];have:=LQ s.1 (aP f);rw[<-m,J9,FR,pW]at this;rw[<-this];congr 1;have:(i+1)*sz<=F rows*sz:=mz _ f
   grind
def dz.news(s:dz sz h x rows):jL h sz x=J rows:=by have:=s.got;rcases s.2 with⟨k,j,rfl,-⟩|⟨b,off,f,cs,rfl,-⟩<;>exact this
end
end Go.AE
end
section
namespace Go.AE
section
variable {P:bk} {G:Nat->Option (List U)} {t:aF} {x y:bR} {k N:qD} {a b:Int}
def pZ:cy P .and t x y (.v (.int k a)) (.v (.int k b))=J (.v (.int k (k.wrap (BitVec.ofInt k.bits a&&&BitVec.ofInt k.bits b).toNat))):=pg (v:=.int k (k.wrap (BitVec.ofInt k.bits a&&&BitVec.ofInt k.bits b).toNat)) (by simp[binOp,Op.intBits];rfl)
def KZ:cy P .or t x y (.v (.int k a)) (.v (.int k b))=J (.v (.int k (k.wrap (BitVec.ofInt k.bits a|||BitVec.ofInt k.bits b).toNat))):=pg (v:=.int k (k.wrap (BitVec.ofInt k.bits a|||BitVec.ofInt k.bits b).toNat)) (by simp[binOp,Op.intBits];rfl)
def RU:cy P .xor t x y (.v (.int k a)) (.v (.int k b))=J (.v (.int k (k.wrap (BitVec.ofInt k.bits a^^^BitVec.ofInt k.bits b).toNat))):=pg (v:=.int k (k.wrap (BitVec.ofInt k.bits a^^^BitVec.ofInt k.bits b).toNat)) (by simp[binOp,Op.intBits];rfl)
def K4(h:0<=b):cy P .shl t x y (.v (.int k a)) (.v (.int N b))=J (.v (.int k (k.wrap (a*2^min b.toNat k.bits)))):=by
 have j:¬b<0:=by omega
 show(cV P (do eqGuard .shl t x y (.int k a) (.int N b);binOp .shl t (.int k a) (.int N b))).bind jf=_;rw[gt];have f:cV P (eqGuard .shl t x y (.int k a) (.int N b))=J ():=rfl;rw[f];simp[binOp,Op.shift,j];rfl
def Au(h:0<=b):cy P .shr t x y (.v (.int k a)) (.v (.int N b))=J (.v (.int k (a.fdiv (2^min b.toNat k.bits)))):=by
 have j:¬b<0:=by omega
 show(cV P (do eqGuard .shr t x y (.int k a) (.int N b);binOp .shr t (.int k a) (.int N b))).bind jf=_;rw[gt];have f:cV P (eqGuard .shr t x y (.int k a) (.int N b))=J ():=rfl;rw[f];simp[binOp,Op.shift,j];rfl
end
def bM(v:BitVec 32):U:=.v (.int .u32 (v.toNat:Int))
section
variable {P:bk} {t:aF} {x y:bR} {N:qD} {u v:BitVec 32}
def wrap32(n):IntKind.u32.wrap n=n%4294967296:=by unfold IntKind.wrap;simp[IntKind.signed,IntKind.bits]
def ofInt32(v):BitVec.ofInt 32 (v.toNat:Int)=v:=by simp_all
def P_(v:BitVec 32):IntKind.u32.wrap (v.toNat:Int)=(v.toNat:Int):=by rw[wrap32];omega
def CW:cy P .and t x y (bM u) (bM v)=J (bM (u&&&v)):=by unfold bM;rw[pZ,show IntKind.u32.bits=32 from O,ofInt32,ofInt32,P_]
def oz:cy P .or t x y (bM u) (bM v)=J (bM (u|||v)):=by unfold bM;rw[KZ,show IntKind.u32.bits=32 from O,ofInt32,ofInt32,P_]
def oA:cy P .xor t x y (bM u) (bM v)=J (bM (u^^^v)):=by unfold bM;rw[RU,show IntKind.u32.bits=32 from O,ofInt32,ofInt32,P_]
def om:cy P .add t x y (bM u) (bM v)=J (bM (u+v)):=by unfold bM;rw[RR,wrap32,BitVec.toNat_add];congr 3
def rz{n:Nat}(f:n<32):cy P .shr t x y (bM u) (.v (.int N (n:Int)))=J (bM (u>>>n)):=by
 unfold bM;rw[Au M,fD,show IntKind.u32.bits=32 from O,CO M,BitVec.toNat_ushiftRight,Nat.shiftRight_eq_div_pow]
 grind
def sM{n:Nat}(f:n<32):cy P .shl t x y (bM u) (.v (.int N (n:Int)))=J (bM (u<<<n)):=by unfold bM;rw[K4 M,fD,show IntKind.u32.bits=32 from O,CO M,wrap32,BitVec.toNat_shiftLeft,abt];congr 3
end
end Go.AE
end
section
namespace Go.AE
section
variable {P:bk} {h:Heap} {t0 t1 elem:aF} {f k:qD} {i:TypeInfo} {zero:List U} {sz n:Nat}
def RG(m:P.underlying t0=J (.slice elem))(q:P.underlying t1=J (.int f))(hi:P.info? elem=J i)(A:(fW P elem).bind U.bF=J zero)(C:0<n)(r:n*i.bytes<=140737488355328)(B:n<=9223372036854775807)(z:0<i.size)(s:F zero=i.size):
 gm P h #[t0,t1] (.list .nil sz []) (.v (.int k (n:Nat)))=J (.arr (F h.boxes) 0 n n,h.push (bB n zero).flatten):=by
 unfold gm JH;have j:((n:Nat):Int)*i.bytes<=140737488355328:=by have:((n*i.bytes:Nat):Int)<=140737488355328:=Int.ofNat_le.2 r;omega
 simp only[iQ,iP,jE,iR,m,q,hi,A];rw[av ⟨O,by omega,j,by omega,z,s⟩,fD];rfl
def RF{b off len aS:Nat}{cs:List U}{new:List (List U)}{x:U}(f:P.underlying t0=J (.slice elem))(j:P.underlying t1=J (.slice elem))(hi:P.info? elem=J i)(r:0<i.size)(A:(i.zero.map λz=>z.cells.size)=J i.size)
 (s:jL h i.size x=J new) (q:h.boxes[b]?=J cs) (h2:len+F new<=aS) (m:off+aS*i.size<=F cs):
 gm P h #[t0,t1] (.arr b off len aS) x=J (.arr b off (len+F new) aS,h.put b (dC cs (off+len*i.size) new.flatten)):=by
 unfold gm;simp only[iQ,iP,jE,iR,f,j,hi,s,q];rw[av ⟨r,A⟩,av ⟨h2,m⟩];rfl
end
end Go.AE
end
section
namespace Go.AE
def oY(t:Nat):Tok->Bool
 | .free i=>decide (i<t)
 |_=>V
mutual
def au(n l t:Nat):U->Bool
 | .list k _ es=>oY t k&&fg n l t es
 | .arr b _ _ _=>decide (b<n)
 | .agg cs=>aA n l t cs
 | .tuple cs=>aA n l t cs
 | .ptr (.box b) _=>decide (b<n)
 | .elem _ es _ _=>fg n l t es
 | .func _ a b=>aA n l t a&&aA n l t b
 | .yield i=>decide (i<l)
 | .iface _ x=>au n l t x
 |_=>V
def aA(n l t:Nat):List U->Bool
 | []=>V
 |x::f=>au n l t x&&aA n l t f
def fg(n l t:Nat):List (List U)->Bool
 | []=>V
 |r::f=>aA n l t r&&fg n l t f
end
def Tz(n l t):∀(a b:List U),aA n l t (a++b)=(aA n l t a&&aA n l t b)
 | [],b=>by simp[aA]
 |x::a,b=>by rw[ey,aA,aA,Tz n l t a b,aai]
def ot(n l t):∀es:List (List U),aA n l t es.flatten=fg n l t es
 | []=>rfl
 |r::es=>by rw[jP,Tz,fg,ot n l t es]
def bU:Tok->Tok
 | .free _=>.held
 |k=>k
mutual
def al:U->U
 | .list k sz es=>.list (bU k) sz (dm es)
 | .tuple cs=>.tuple (a_ cs)
 | .agg cs=>.agg (a_ cs)
 | .iface t x=>.iface t (al x)
 |x=>x
def a_:List U->List U
 | []=>[]
 |x::f=>al x::a_ f
def dm:List (List U)->List (List U)
 | []=>[]
 |r::f=>a_ r::dm f
end
def vq:∀a b:List U,a_ (a++b)=a_ a++a_ b
 | [],b=>rfl
 |x::a,b=>by rw[ey,a_,vq a b,a_,ey]
def A9:∀es:List (List U),(dm es).flatten=a_ es.flatten
 | []=>rfl
 |r::es=>by rw[dm,jP,jP,vq,A9 es]
def Vh:∀a:List U,F (a_ a)=F a
 | []=>rfl
 |x::a=>by rw[a_,ef,Vh a,ef]
def DZ:∀a:List (List U),F (dm a)=F a
 | []=>rfl
 |x::a=>by rw[dm,ef,DZ a,ef]
def Hn{sz}:∀{es:List (List U)},(∀r∈es,F r=sz)->∀r∈dm es,F r=sz
 | [],_,r,h=>by cases h
 |a::es,h,r,f=>by
  rw[dm]at f;rcases gU.1 f with rfl|f
  .rw[Vh];exact h a gH
  .exact Hn (λr f=>h r (gx _ f)) r f
def aiS(x):(al x).cW=x.cW:=by cases x<;>rfl
def MU:∀a:List U,(a_ a).all U.cW=a.all U.cW
 | []=>rfl
 |x::a=>by rw[a_,CC,aiS,MU a,CC]
def aW.pJ(K:aW)(n l t:Nat):aW:={K with β:=K.β.take n,γ:=K.γ.take l,tn:=t}
section
variable {K:aW}
def au0{b g:Nat}(h:K.γ[b]?=J g):b<F K.γ:=(aT.1 h).1
mutual
def aQ.fit:∀{x:U} {c:aG},aQ K x c->au (F K.β) (F K.γ) K.tn x=V
 |_,_,.bad _=>rfl
 |_,_,.v _ _=>rfl
 |_,_,.nil _=>rfl
 |_,_,.fZ _ _=>rfl
 |_,_,.list k _ es _ _ _ _ _ _ _ f _ r _=>by
  rw[au,bm,<-ot];refine⟨?_,aI.fit f⟩;cases k with|free i=>exact bQ r.2.1|_=>rfl
 |_,_,.arr _ _ _ _ _ _ _ j _ _ _ _=>by rw[au];exact bQ (JI j)
 |_,_,.agg _ _ f=>by rw[au];exact aI.fit f
 |_,_,.tuple _ _ f=>by rw[au];exact aI.fit f
 |_,_,.box _ _ _ j=>by rw[au];exact bQ (JI j)
 |_,_,.dA _ _=>rfl
 |_,_,.elem _ es _ _ _ _ _ _ _ f _ _ _ _=>by rw[au,<-ot];exact aI.fit f
 |_,_,.func _ _ _ _ _ m h2=>by rw[au,aI.fit m,aI.fit h2];rfl
 |_,_,.yield _ _ q=>by rw[au];exact bQ (au0 q)
 |_,_,.iface _ _ _ s=>by rw[au];exact aQ.fit s
def aI.fit:∀{xs:List U} {cs:List aG},aI K xs cs->aA (F K.β) (F K.γ) K.tn xs=V
 |_,_,.nil=>rfl
 |_,_,.cons _ _ _ _ j f=>by rw[aA,aQ.fit j,aI.fit f];rfl
end
def Jv{α:Type}{l:List α}{i n}{x}(h:l[i]?=J x)(f:i<n):(l.take n)[i]?=J x:=by rw[mM,av f,h]
def zR{α:Type}{l:List α}{i n}{x}(h:(l.take n)[i]?=J x):i<n/\l[i]?=J x:=by
 rw[mM]at h;split at h
 .exact⟨by assumption,h⟩
 .cases h
mutual
def aQ.qY{K2:aW}{n l t:Nat}(s:∀b g:Nat,b<n->K.β[b]?=J g->K2.β[b]?=J g)(A:∀b g:Nat,b<l->K.γ[b]?=J g->K2.γ[b]?=J g)(f:∀g j c,K.ic g j=J c->K2.ic g j=J c)(q:K2.tk=K.tk)(r:K2.tn=t)(m:∀b,b<n->K2.lb b=K.lb b):
 ∀{x:U} {c:aG},aQ K x c->au n l t x=V->aQ K2 x c
 |_,_,.bad c,_=>.bad c
 |_,_,.v x hx,_=>.v x hx
 |_,_,.nil sz,_=>.nil sz
 |_,_,.fZ sz a,_=>.fZ sz a
 |_,_,.list k sz es g off z0 z cells hn D B C ht T,h=>by
  rw[au,bm]at h;refine .list k sz es g off z0 z cells hn D (aI.qY s A f q r m B (by rw[ot];exact h.2)) (λj c Y=>f _ _ _ (C j c Y)) ⟨ht.1,?_⟩ T;have S:=h.1;have h2:=ht.2;cases k with|free i=>simp only at h2 ⊢;rw[q,r];exact⟨of_decide_eq_true S,h2.2⟩|_=>exact h2
 |_,_,.arr b g off len z r_ N X Z C ho D,h=>by rw[au]at h;have E:=of_decide_eq_true h;exact .arr b g off len z r_ N (s _ _ E X) Z C ho (by rw[m b E];exact D)
 |_,_,.agg cs vs B,h=>.agg cs vs (aI.qY s A f q r m B (by rw[au]at h;exact h))
 |_,_,.tuple cs vs B,h=>.tuple cs vs (aI.qY s A f q r m B (by rw[au]at h;exact h))
 |_,_,.box b g off X,h=>.box b g off (s _ _ (by rw[au]at h;exact of_decide_eq_true h) X)
 |_,_,.dA g off,_=>.dA g off
 |_,_,.elem sz es i off g o p cells D B C hi hp T,h=>.elem sz es i off g o p cells D (aI.qY s A f q r m B (by rw[ot];rw[au]at h;exact h)) (λj c Y=>f _ _ _ (C j c Y)) hi hp T
 |_,_,.func fn first z fs cs S h2,h=>.func fn first z fs cs (aI.qY s A f q r m S (by rw[au,bm]at h;exact h.1)) (aI.qY s A f q r m h2 (by rw[au,bm]at h;exact h.2))
 |_,_,.yield i g Z,h=>.yield i g (A _ _ (by rw[au]at h;exact of_decide_eq_true h) Z)
 |_,_,.iface t x c hx,h=>.iface t x c (aQ.qY s A f q r m hx (by rw[au]at h;exact h))
def aI.qY{K2:aW}{n l t:Nat}(s:∀b g:Nat,b<n->K.β[b]?=J g->K2.β[b]?=J g)(z:∀b g:Nat,b<l->K.γ[b]?=J g->K2.γ[b]?=J g)(f:∀g j c,K.ic g j=J c->K2.ic g j=J c)(q:K2.tk=K.tk)(r:K2.tn=t)(m:∀b,b<n->K2.lb b=K.lb b):
 ∀{xs:List U} {cs:List aG},aI K xs cs->aA n l t xs=V->aI K2 xs cs
 |_,_,.nil,_=>.nil
 |_,_,.cons x c xs cs B A,h=>.cons x c xs cs (aQ.qY s z f q r m B (by rw[aA,bm]at h;exact h.1)) (aI.qY s z f q r m A (by rw[aA,bm]at h;exact h.2))
end
mutual
def aQ.hold:∀{x:U} {c:aG},aQ K x c->aQ K (al x) c
 |_,_,.bad c=>.bad c
 |_,_,.v x E=>.v x E
 |_,_,.nil sz=>.nil sz
 |_,_,.fZ sz a=>.fZ sz a
 |_,_,.list k sz es g off z0 f cells hn q j m T B=>by
  have z:aI K (dm es).flatten cells:=by rw[A9];exact aI.hold j
  have r:(dm es).flatten.all U.cW=V:=by rw[A9,MU];exact B
  have s:z0=F (dm es):=by rw[DZ];exact hn
  cases k with|free i=>exact .list .held sz _ g off z0 f cells s (Hn q) z m ⟨T.1,aX⟩ r|_=>exact .list _ sz _ g off z0 f cells s (Hn q) z m T r
 |_,_,.arr b g off len f N A C D m ho q=>.arr b g off len f N A C D m ho q
 |_,_,.agg cs S j=>.agg _ S (aI.hold j)
 |_,_,.tuple cs S j=>.tuple _ S (aI.hold j)
 |_,_,.box b g off C=>.box b g off C
 |_,_,.dA g off=>.dA g off
 |_,_,.elem sz es i off g o p cells q j m hi hp B=>.elem sz es i off g o p cells q j m hi hp B
 |_,_,.func X first f Y cs Z h2=>.func X first f Y cs Z h2
 |_,_,.yield l g D=>.yield l g D
 |_,_,.iface t x c E=>.iface t _ c (aQ.hold E)
def aI.hold:∀{xs:List U} {cs:List aG},aI K xs cs->aI K (a_ xs) cs
 |_,_,.nil=>.nil
 |_,_,.cons x c xs cs j f=>.cons _ c _ cs (aQ.hold j) (aI.hold f)
end
end
section
variable {P:bk} {G:Nat->Option (List U)} {w0 w w':bP} {K K':aW} {h h':Heap} {ok:aR->Nat->Code->Bool}
def aQ.pJ{n l t:Nat}{x:U}{c:aG}(q:aQ K x c)(m:au n l t x=V):aQ (K.pJ n l t) x c:=
 q.qY (K:=K) (K2:=K.pJ n l t) (n:=n) (l:=l) (λ_ _ f j=>Jv j f) (λ_ _ f j=>Jv j f) (λ_ _ _ h=>h) O O (λ_ _=>rfl) m
def aI.pJ{n l t:Nat}{x:List U}{c:List aG}(q:aI K x c)(m:aA n l t x=V):aI (K.pJ n l t) x c:=
 q.qY (K:=K) (K2:=K.pJ n l t) (n:=n) (l:=l) (λ_ _ f j=>Jv j f) (λ_ _ f j=>Jv j f) (λ_ _ _ h=>h) O O (λ_ _=>rfl) m
def bK.pJ(s:bK K G ok w0 h w)(j:bK K' G ok w0 h' w')(le:K.Le K')(x:Ext h h'):bK (K'.pJ (F h.boxes) (F h.loops) h.tn) G ok w0 h w':=by
 have qm:=x.len;have gJ:F h.loops<=F h'.loops:=by
  rcases dp (F h'.loops) (F h.loops) with di|oL
  .have f:=x.loop (F h'.loops) _ (aP di);have:=(aT.1 f).1;omega
  .exact oL
 have βl:=s.iN;have X:=s.mn;have Y:∀{y:List U} {c:List aG},aI K y c->aA (F h.boxes) (F h.loops) h.tn y=V:=λE=>by
  have:=E.fit
  rwa [βl,X,s.tn]at this
 refine⟨j.fL,j.size,j.ic,λg cs hg=>?_,?_,λb D g f h2=>?_,λb g cs f h2=>?_,?_,λb D g f h2=>?_,λl g z0 f h2=>?_,O,λt N=>?_,λt t' N Np=>j.nL t t' (x.alive N) (x.alive Np),j.md,j.all⟩
 .obtain⟨cells,q,r⟩:=j.dA g cs hg;obtain⟨z,p1,-⟩:=s.dA g cs hg;exact⟨cells,q.pJ (Y p1),r⟩
 .show(F (K'.β.take h.boxes.length))=F h.boxes;rw[cR,j.iN];omega
 .have f:=zR f;have h2:=zR h2;have C:∀k,k<F h.boxes->h'.boxes[k]?=J []->h.boxes[k]?=J []:=λk hk z1=>by have:=x.box k _ (aP hk);rw[z1]at this;rw[aP hk,<-this]
  rcases j.np b D g f.2 h2.2 with p|p|p
  .exact .inl p
  .exact .inr (.inl (C _ f.1 p))
  .exact .inr (.inr (C _ h2.1 p))
 .have f:=zR f;obtain⟨q,r,B,cells,e,S,q5⟩:=j.box b g cs f.2 (x.box _ _ h2);obtain⟨m,A⟩:∃m,K.β[b]?=J m:=⟨_,aP M⟩;obtain⟨-,-,-,z,e0,-,p5⟩:=s.box b m cs A h2;exact⟨q,r,B,cells,e,S,q5.1.pJ (Y p5.1),q5.2⟩
 .show(F (K'.γ.take h.loops.length))=F h.loops;rw[cR,j.mn];omega
 .exact j.oe b D g (zR f).2 (zR h2).2
 .have f:=zR f;obtain⟨q,fn,T,d,r,B,S⟩:=j.loop l g z0 f.2 (x.loop _ _ h2);obtain⟨m,A⟩:∃m,K.γ[l]?=J m:=⟨_,aP (by rw[X];exact f.1)⟩;obtain⟨-,fn0,tmps0,d0,-,p3,-⟩:=s.loop l m z0 A h2;refine⟨q,fn,T,d,r,λt=>?_,S⟩;have:=aQ.fit (p3 t);rw[βl,X,s.tn]at this;exact(B t).pJ this
 .obtain⟨q,r,B⟩:=j.tok t (x.alive N);exact⟨q,λb Z=>r b (zR Z).2,B⟩
end
end Go.AE
end
section
namespace Go.AE
section
variable {P:bk} {G:Nat->Option (List U)} {w0:bP} {aJ:aR->Option (List U->Heap->Option (U × Heap))}
def lT{L:List aR}(h:(L.all λg=>match P.funcs[g]? with|some fn=>fn.body.isSome|none=>ah)=V):∀g∈L,∃fn,P.funcs[g]?=J fn/\fn.body.isSome=V:=by
 intro g j;have:=eJ.1 h g j;split at this
 .rename_i fn f;exact⟨fn,f,this⟩
 .cases this
variable {L:List aR} {R:Rec} {g:aR} {args:List U} {h h2:Heap} {x y:U}
end
end Go.AE
end
section
namespace Go.NT
def dN:List Nat->Nat
 | []=>0
 |x::l=>x+dN l
def mf:List Int->Int
 | []=>1
 |x::l=>x*mf l
def ZL{l m}(h:l.Perm m):dN l=dN m:=by
 induction h with
 |nil=>rfl|cons x _ f=>simp only[dN,f]|swap x y l=>simp only[dN];omega|trans _ _ j h2=>omega
def anp{l m}(h:l.Perm m):mf l=mf m:=by
 induction h with
 |nil=>rfl|cons x _ f=>simp only[mf,f]|swap x y l=>simp only[mf];grind
 |trans _ _ j h2=>omega
def ZK(l m):dN (l++m)=dN l+dN m:=by
 induction l with
 |nil=>simp[dN]|cons x l f=>simp only[ey,dN,f];omega
def eW(h:Nat):List Nat:=QM 1 h
def rZ{k h}:k∈eW h↔1<=k/\k<=h:=by
 unfold eW;rw[List.mem_range'];constructor
 .omega
 .rintro⟨f,h2⟩;exact⟨k-1,by omega,by omega⟩
def Yy(h):eW (h+1)=eW h++[h+1]:=by unfold eW;rw[List.range'_1_concat,Nat.add_comm 1 h]
def OW(h):F (eW h)=h:=by simp[eW]
def apE(h):(eW h).Nodup:=List.nodup_range' 1
def amV:∀{l m:List Nat},l.Nodup->(∀x∈l,x∈m)->F m<=F l->l.Perm m:=by
 intro l
 induction l with
 |nil=>simp_all|cons x l z=>intro m f r j;have s:=r x gH;have q:=List.perm_cons_erase s;rw[List.nodup_cons]at f;refine List.Perm.trans (.cons x (z f.2 (λy A=>?_) ?_)) q.symm<;>grind
def alR{f:Nat->Nat}:∀{l:List Nat},l.Nodup->(∀x∈l,∀y∈l,f x=f y->x=y)->(l.map f).Nodup:=by
 intro l
 induction l with
 |nil=>simp_all|cons x l j=>
  grind
def fl(a n k:Nat):Nat:=if n<2*(a*k%n) then 1 else 0
def ab(a n k:Nat):Nat:=if n<2*(a*k%n) then n-a*k%n else a*k%n
def mu(a n:Nat):Nat:=dN ((eW (n/2)).map (fl a n))
section
variable {a b n h:Nat}
def Yt(j:mO a n){k:Nat}(f:0<k)(m:k<n):a*k%n≠0:=λq=>by have:n∣k:=(Kj j).dvd_of_dvd_mul_left (CN q);have:=Ae f this;omega
def Rl(q:n=2*h+1)(f:mO a n){k:Nat}(m:1<=k/\k<=h):1<=ab a n k/\ab a n k<=h:=by
 have j:=Yt f (k:=k) M M;have h2:=kC (a*k) (M:0<n);unfold ab
 grind
def ab1(N:n=2*h+1)(j:mO a n){k l:Nat}(C:1<=k/\k<=h)(D:1<=l/\l<=h)(m:ab a n k=ab a n l):k=l:=by
 have s:=kC (a*k) (M:0<n);have z:=kC (a*l) (M:0<n);have B:∀{x y:Nat},x<=y->y<n->a*x%n=a*y%n->x=y:=by
  intro x y A S q;have f:n∣a*y-a*x:=CN (Nat.sub_mod_eq_zero_of_mod_eq q.symm);rw[<-Nat.mul_sub]at f;have:=(Kj j).dvd_of_dvd_mul_left f;rcases Kl (y-x) with q|q
  .omega
  .have:=Ae q this;omega
 have r:a*k%n+a*l%n≠n:=λq=>by
  have f:n∣a*(k+l):=by rw[QS];apply CN;rw[QQ,q,Nat.mod_self]
  have:=(Kj j).dvd_of_dvd_mul_left f;have:=Ae M this;omega
 have same:a*k%n=a*l%n->k=l:=λq=>by rcases Nat.le_total k l with p|p<;>grind
 unfold ab at m
 grind
def Ow(q:n=2*h+1)(m:mO a n):((eW h).map (ab a n)).Perm (eW h):=by refine amV (alR (apE h) λx f y j r=>ab1 q m (rZ.1 f) (rZ.1 j) r) (λx f=>?_) b8;obtain⟨y,j,rfl⟩:=jg.1 f;exact rZ.2 (Rl q m (rZ.1 j))
def ZN{f g q}:∀{l:List Nat},(∀k∈l,f k%2=(g k+q k)%2)->dN (l.map f)%2=(dN (l.map g)+dN (l.map q))%2:=by
 intro l
 induction l with
 |nil=>intro _;rfl|cons x l r=>intro j;have s:=j x gH;have h2:=r λk m=>j k (gx _ m);simp only[eI,dN];omega
def agQ(z:n=2*h+1)(m:mO a n)(q:mO b n){k:Nat}(s:1<=k/\k<=h):fl (a*b) n k%2=(fl b n k+fl a n (ab b n k))%2:=by
 have D:=Rl z q s;have N:=Yt m (k:=ab b n k) M M;have S:=kC (a*ab b n k) (M:0<n);have E:=kC (b*k) (M:0<n);have j:a*b*k%n=a*(b*k%n)%n:=by rw[QT,abn]
 unfold fl;rw[j];by_cases A:n<2*(b*k%n)
 .have f:ab b n k=n-b*k%n:=by unfold ab;simp_all
  rw[av A];have T:=kC (a*(b*k%n)) (M:0<n);have B:(a*(b*k%n)%n+a*ab b n k%n)%n=0:=by rw[<-QQ,<-QS,f,(M:b*k%n+(n-b*k%n)=n),Nat.mul_mod_left]
  have C:a*(b*k%n)%n+a*ab b n k%n=n:=by
   have r:=CN B;obtain⟨c,X⟩:=r;rcases c with _|_|c
   .omega
   .omega
   .grind
  grind
 .have f:ab b n k=b*k%n:=by unfold ab;grind
  grind
def alA(j:n=2*h+1)(m:mO a n)(f:mO b n):mu (a*b) n%2=(mu a n+mu b n)%2:=by
 have r:n/2=h:=by omega
 unfold mu;rw[r,ZN (g:=fl b n) (q:=λk=>fl a n (ab b n k)) λk s=>agQ j m f (rZ.1 s)];have e:(eW h).map (λk=>fl a n (ab b n k))=((eW h).map (ab b n)).map (fl a n):=by rw[Ad];rfl
 rw[e,ZL ((Ow j f).map (fl a n))];omega
def ZM(c):∀m:Nat,dN ((eW m).map λk=>if c<k then 1 else 0)=m-c:=by
 intro m
 induction m with
 |zero=>simp[eW,dN]|succ m f=>
  rw[Yy,jQ,ZK,f];simp only[eI,uT,dN]
  grind
def ate(c):∀m:Nat,dN ((eW m).map λk=>if k<=c then 1 else 0)=min c m:=by
 intro m
 induction m with
 |zero=>simp[eW,dN]|succ m f=>
  rw[Yy,jQ,ZK,f];simp only[eI,uT,dN]
  grind
def Ju{f g}:∀{l:List Nat},(∀k∈l,f k=g k)->dN (l.map f)=dN (l.map g):=by
 intro l
 induction l with
 |nil=>simp_all|cons x l m=>intro j;simp only[eI,dN];simp_all
def alC(m:n=2*h+1):mu 2 n=h-h/2:=by
 have f:n/2=h:=by omega
 unfold mu;rw[f,<-ZM (h/2) h];refine Ju λk j=>?_;have:=rZ.1 j;unfold fl;rw[mS M]
 grind
def alB(m:n=2*h+1):mu 1 n=0:=by
 have f:n/2=h:=by omega
 unfold mu;rw[f];have:(eW h).map (fl 1 n)=(eW h).map λk=>if h<k then 1 else 0:=by
  apply CG;intro k j;have:=rZ.1 j;unfold fl;rw[Ag,mS M]
  grind
 rw[this,ZM];omega
def alz:mu (a%n) n=mu a n:=by unfold mu;refine Ju λk _=>?_;unfold fl;simp_all
def WW(q:n=2*h+1)(j:mO a n)(f:a%2=1):mu a n%2=dN ((eW h).map λk=>a*k/n)%2:=by
 have m:n/2=h:=by omega
 have step:∀k∈eW h,fl a n k%2=((a*k/n)+(ab a n k+k))%2:=by
  intro k _;have r:=abg (a*k) n;have s:=kC (a*k) (M:0<n);have A:a*k%2=k%2:=by rw[rG,f];simp
  have B:n*(a*k/n)%2=(a*k/n)%2:=by rw[rG,(M:n%2=1)];simp
  generalize n*(a*k/n)=u at *
  generalize a*k/n=v at *
  unfold fl ab;generalize a*k%n=C at *
  grind
 unfold mu;rw[m,ZN step];have e:dN ((eW h).map λk=>ab a n k+k)=dN ((eW h).map (ab a n))+dN ((eW h).map λk=>k):=by
  generalize eW h=l
  induction l with
  |nil=>rfl|cons x l z=>simp only[eI,dN];omega
 rw[e,ZL (Ow q j),List.map_id'];omega
end
def aha(f:Nat->Nat->Nat):∀(l m:List Nat),dN (l.map λk=>dN (m.map λj=>f k j))=dN (m.map λj=>dN (l.map λk=>f k j)):=by
 intro l m
 induction l with
 |nil=>
  simp only[uT,dN]
  induction m with
  |nil=>rfl|cons x m q=>simp only[eI,dN];omega
 |cons x l q=>
  simp only[eI,dN];rw[q];clear q
  induction m with
  |nil=>rfl|cons y m q=>simp only[eI,dN];omega
def TH{m n g h k}(q:n=2*h+1)(j:m=2*g+1)(f:k<=h):m*k/n=dN ((eW g).map λl=>if n*l<=m*k then 1 else 0):=by
 have r:m*k/n<=g:=by
  have:m*k/n<g+1:=by rw[Nat.div_lt_iff_lt_mul M];have s:m*k<=m*h:=Nat.mul_le_mul_left m f;have h2:(g+1)*n=m*h+(g+1+h):=(by subst q j;simp only[js,QS,jS,Ag];have:g*(2*h)=2*g*h:=(by grind);omega);omega
  omega
 have:(eW g).map (λl=>if n*l<=m*k then 1 else 0)=(eW g).map λl=>if l<=m*k/n then 1 else 0:=by
  apply CG;intro l _;have:(n*l<=m*k)↔l<=m*k/n:=by rw[Nat.le_div_iff_mul_le M,QU]
  simp only[this]
 rw[this,ate];omega
def akr{m n g h}(E:n=2*h+1)(D:m=2*g+1)(T:mO m n):
 dN ((eW h).map λk=>m*k/n)+dN ((eW g).map λl=>n*l/m)=h*g:=by
 have N:dN ((eW h).map λk=>m*k/n)=dN ((eW h).map λk=>dN ((eW g).map λl=>if n*l<=m*k then 1 else 0)):=
  Ju λk q=>TH E D (rZ.1 q).2
 have S:dN ((eW g).map λl=>n*l/m)=dN ((eW g).map λl=>dN ((eW h).map λk=>if m*k<=n*l then 1 else 0)):=
  Ju λl r=>TH D E (rZ.1 r).2
 rw[N,S,aha (λl k=>if m*k<=n*l then 1 else 0)];have one:∀k∈eW h,∀l∈eW g,(if n*l<=m*k then 1 else 0)+(if m*k<=n*l then 1 else 0)=1:=by
  intro k q l r;have q:=rZ.1 q;have Y:m*k≠n*l:=λZ=>by have X:n∣m*k:=⟨l,Z⟩;have:=(Kj T).dvd_of_dvd_mul_left X;have:=Ae M this;omega
  grind
 have z:∀(k:Nat) (j:List Nat),k∈eW h->(∀l∈j,l∈eW g)->dN (j.map λl=>if n*l<=m*k then 1 else 0)+dN (j.map λl=>if m*k<=n*l then 1 else 0)=F j:=by
  intro k j q
  induction j with
  |nil=>intro _;rfl|cons x j B=>intro s;have C:=one k q x (s x gH);have h2:=B λl r=>s l (gx _ r);simp only[eI,dN,ef];omega
 have A:∀(f:List Nat),(∀k∈f,k∈eW h)->dN (f.map λk=>dN ((eW g).map λl=>if n*l<=m*k then 1 else 0))+dN (f.map λk=>dN ((eW g).map λl=>if m*k<=n*l then 1 else 0))=F f*g:=by
  intro f
  induction f with
  |nil=>intro _;simp[dN]|cons x f B=>intro s;have C:=z x (eW g) (s x gH) (λ_ h=>h);rw[OW]at C;have h2:=B λl r=>s l (gx _ r);simp only[eI,dN,ef,js,Ag];omega
 have:=A (eW h) (λ_ h=>h);rw[OW]at this;omega
def aoh{m n g h}(q:n=2*h+1)(j:m=2*g+1)(f:mO m n):(mu m n+mu n m)%2=h*g%2:=by have r:=WW q f M;have s:=WW j f.symm M;have:=akr q j f;omega
end Go.NT
end
section
namespace Go.NT
def Oj:∀c:Nat,(1:Int)^c=1:=by
 grind
def vA(p:Nat):Prop:=2<=p/\∀d,d∣p->d=1∨d=p
def vA.coprime{p k}(m:vA p)(f:0<k)(r:k<p):Nat.Coprime k p:=by
 have j:Nat.gcd k p∣p:=Nat.gcd_dvd_right k p;rcases m.2 _ j with q|q
 .exact q
 .have:=Ae f (Nat.gcd_dvd_left k p);omega
def anr(a):∀l:List Nat,mf (l.map λ(k:Nat)=>a*(k:Int))=a^F l*mf (l.map λ(k:Nat)=>(k:Int)):=by
 intro l
 induction l with
 |nil=>simp_all|cons x l f=>
  simp only[eI,mf,f,ef,wx]
  grind
def ant(f)(g):∀l:List Nat,mf (l.map λk=>(-1)^f k*g k)=(-1)^dN (l.map f)*mf (l.map g):=by
 intro l
 induction l with
 |nil=>simp[mf,dN]|cons x l j=>
  simp only[eI,mf,dN,j,Qx]
  grind
def anq{p}{f g}:∀{l:List Nat},(∀k∈l,p∣f k-g k)->p∣mf (l.map f)-mf (l.map g):=by
 intro l
 induction l with
 |nil=>simp_all|cons x l r=>
  intro h;have m:=h x gH;have h2:=r λk q=>h k (gx _ q);simp only[eI,mf];generalize mf (l.map f)=j at *
  generalize mf (l.map g)=G at *
  have e:f x*j-g x*G=(f x-g x)*j+g x*(j-G):=by rw[Qz,aay];omega
  rw[e];exact Qk (Int.dvd_mul_of_dvd_left m) (aat h2)
def cancel{p}(s:vA p):∀(l:List Nat) (x:Int),(∀k∈l,0<k/\k<p)->(p:Int)∣x*mf (l.map λ(k:Nat)=>(k:Int))->(p:Int)∣x:=by
 intro l
 induction l with
 |nil=>intro x _ h;simpa [mf] using h|cons k l z=>
  intro x f h;obtain⟨m,q⟩:=f k gH;refine z x (λA r=>f A (gx _ r)) ?_;simp only[eI,mf]at h;rw[Int.mul_left_comm]at h;generalize x*mf (l.map λ(k:Nat)=>(k:Int))=y at *
  have j:=aaz.2 h;rw[Int.natAbs_mul,aaA,aaA]at j;have:=(s.coprime m q).symm.dvd_of_dvd_mul_left j;exact aaz.1 (by simp_all)
def TX{p h a}(A:vA p)(z:p=2 * h+1)(r:Nat.Coprime a p):(p:Int)∣(a:Int)^h - (-1)^mu a p:=by
 have C:p/2=h:=by omega
 have step:∀k∈eW h,(p:Int)∣(a:Int) * (k:Int) - (-1)^fl a p k * (ab a p k:Int):=by
  intro k _;have B:=abg (a * k) p;have E:=kC (a * k) (M:0<p);have f:(a:Int) * (k:Int)=(p:Int) * ((a * k/p:Nat):Int)+((a * k%p:Nat):Int):=by omega
  unfold fl ab;by_cases m:p<2 * (a * k%p)
  .rw[av m,av m,f];have e:((p - a * k%p:Nat):Int)=(p:Int) - ((a * k%p:Nat):Int):=(by omega);rw[e];refine⟨((a * k/p:Nat):Int)+1,?_⟩
   grind
  .rw[aL m,aL m,f];refine⟨((a * k/p:Nat):Int),?_⟩;omega
 have j:=anq step;rw[anr,ant,OW] at j;have q:(eW h).map (λk=>(ab a p k:Int))=((eW h).map (ab a p)).map λ(k:Nat)=>(k:Int):=by rw[Ad];rfl
 rw[q,anp ((Ow z r).map λ(k:Nat)=>(k:Int)),<-Qz] at j;have:=cancel A (eW h) _ (λk s=>by have:=rZ.1 s;omega) j;unfold mu;simp_all
def agv{p h a}(q:vA p)(C:p=2*h+1)(z:0<a)(A:a<p):(a^h%p=1)↔mu a p%2=0:=by
 have f:=TX q C (q.coprime z A);have E:=q.1;have s:((a^h:Nat):Int)=(a:Int)^h:=by simp
 rw[<-s]at f;constructor
 .intro N;rcases CP (mu a p) with r|r
  .exact r
  .exfalso;have:((-1:Int))^mu a p= -1:=(by obtain⟨c,j⟩:∃c,mu a p=2*c+1:=⟨mu a p/2,by omega⟩;rw[j,wx,FK];simp[Oj]);rw[this]at f;have m:p∣a^h+1:=(by have e:((a^h:Nat):Int) - -1=((a^h+1:Nat):Int):=(by omega);rw[e]at f;exact Qv.1 f);have:=Nat.mod_eq_zero_of_dvd m;rw[QQ,N]at this;have B:1%p=1:=mS M;rw[B]at this;have:p∣2:=CN this;have:=Ae M this;omega
 .intro r;have:((-1:Int))^mu a p=1:=by obtain⟨c,j⟩:∃c,mu a p=2*c:=⟨mu a p/2,by omega⟩;rw[j,FK];simp[Oj]
  rw[this]at f;have D:0<a^h:=Kq z;have m:p∣a^h-1:=by have e:((a^h:Nat):Int)-1=((a^h-1:Nat):Int):=(by omega);rw[e]at f;exact Qv.1 f
  obtain⟨c,j⟩:=m;have:a^h=p*c+1:=by omega
  rw[this,abl,mS M]
def asO{x n}(q:n%2=1)(f:mO (2*x) n):mu (2*x) n%2=(mu x n+(if n%8=3∨n%8=5 then 1 else 0))%2:=by
 have j:n=2*(n/2)+1:=by omega
 have h2:mO 2 n:=Nat.Coprime.coprime_mul_right f;have m:mO x n:=abc f;rw[alA j h2 m,alC j]
 grind
def asQ{x n}(q:n%2=1)(r:x%2=1)(f:mO x n):mu x n%2=(mu (n%x) x+(if x%4=3/\n%4=3 then 1 else 0))%2:=by
 have m:n=2*(n/2)+1:=by omega
 have j:x=2*(x/2)+1:=by omega
 have h:=aoh m j f;rw[alz];have e:(n/2)*(x/2)%2=(if x%4=3/\n%4=3 then 1 else 0):=by
  rw[rG]
  grind
 omega
def afB{x n}(f:mO x n):mO (n%x) x:=by
 unfold mO at *
 rw[<-Nat.gcd_rec,f]
def BC(p:Nat):Nat->Nat->Bool
 |0,f=>Nat.blt 0 (p%f)
 |k+1,f=>BC p k f&&BC p k (f+2^k)
def alQ{p}:∀{k lo:Nat},BC p k lo=V->∀d,lo<=d->d<lo+2^k->p%d≠0:=by
 intro k
 induction k with
 |zero=>
  intro lo h d f h2;have:d=lo:=by simp at h2;omega
  subst this;unfold BC at h;have:1<=p%d:=by simpa [Nat.blt] using h
  omega
 |succ k j=>
  intro lo h d f h2;unfold BC at h;rw[bm]at h;rw[xW]at h2
  grind
def V6{p k}(h2:2<=p)(h:BC p k 2=true)(N:p<(2^k+2) * (2^k+2)):vA p:=by
 refine⟨h2,λd z=>?_⟩;obtain⟨e,f⟩:=z;have B:d≠0:=by rintro rfl;simp at f;omega
 have D:e≠0:=by rintro rfl;simp at f;omega
 by_cases C:d=1
 .omega
 by_cases E:e=1
 .simp_all
 exfalso;have s:∀{x y:Nat},p=x * y->2<=x->x<2+2^k->False:=by intro x y m A j;exact alQ h x A j (by rw[m,Nat.mul_mod_right])
 rcases dp d (2+2^k) with q|q
 .grind
 .rcases dp e (2+2^k) with r|r
  .exact s (by rw[f,QU]) M r
  .have:=jt q r
   grind
def P:Nat:=2147483579
def Q:Nat:=1073741789
def Q1:vA P:=V6 (k:=16) aY (by decide+kernel) aY
def abz:vA Q:=V6 (k:=15) aY (by decide+kernel) aY
end Go.NT
end
section
namespace Go.NT
def AR:Nat->Nat->Nat->Nat->Nat->Nat
 |0,_,_,_,c=>c
 |k+1,f,a,n,c=>if n=0 then c else AR k f (a*a%f) (n/2) (if n%2=1 then c*a%f else c)
def Gx{m}(A:0<m):∀{k a n c:Nat},n<2^k->c<m->AR k m a n c=c*a^n%m:=by
 intro k
 induction k with
 |zero=>
  intro a n c j f;have:n=0:=by simp at j;exact j
  subst this;simp[AR,mS f]
 |succ k z=>
  intro a n c j f;unfold AR;by_cases s:n=0
  .subst s;simp[mS f]
  .rw[aL s];have q:n/2<2^k:=(by rw[xW]at j;omega);have r:∀e,(a*a%m)^e%m=a^(2*e)%m:=λe=>(by rw[<-Kp,QW,QX]);split
   .rename_i B;rw[z q (kC _ A),rG,r,Nat.mod_mod,<-rG,QT,<-abr,show(2*(n/2)).succ=n by omega]
   .rename_i B;rw[z q f,rG,r,<-rG,(M:2*(n/2)=n)]
def pQ(a n:Nat):Nat:=AR 31 P a n 1
def Oy{a n}(f:n<2^31):pQ a n=a^n%P:=by unfold pQ;rw[Gx aY f aY,Ag]
def elem(x:Nat):Bool:=decide (1<=x)&&decide (x<P)&&hy (pQ x Q) 1
def elem_iff{x}:elem x=V↔1<=x/\x<P/\x^Q%P=1:=by unfold elem;rw[Oy aY];simp only[bm,decide_eq_true_eq];exact⟨λh=>⟨h.1.1,h.1.2,lN h.2⟩,λh=>⟨⟨h.1,h.2.1⟩,by simp_all⟩⟩
def af8{x}(j:1<=x)(f:x<P):elem x=decide (mu x P%2=0):=by have:=agv Q1 (h:=Q) (a:=x) aY M f;rw[JM,elem_iff,decide_eq_true_eq,<-this];omega
def Gq:elem 1=V:=by rw[elem_iff];exact⟨aY,by decide,by rw[Nat.one_pow];rfl⟩
def Df{x y}(j:elem x=V)(m:elem y=V):elem (x*y%P)=V:=by
 rw[elem_iff]at *
 obtain⟨r,s,x3⟩:=j;obtain⟨z,A,y3⟩:=m;have f:(x*y%P)^Q%P=1:=by rw[<-Kp,Nat.mul_pow,rG,x3,y3];rfl
 refine⟨?_,kC _ aY,f⟩;rcases Kl (x*y%P) with q|q
 .rw[q]at f;have:(0:Nat)^Q=0:=Nat.zero_pow aY;simp_all
 omega
def af9{x}(f:elem x=V)(n):elem (x^n%P)=V:=by
 induction n with
 |zero=>exact Gq|succ n j=>
  have:=Df j f
  rwa [abk,<-xW]at this
end Go.NT
end
section
namespace Go.NT
def Qi:Int:=1073741789
def fmod(n:Int):Int:=n%Qi
def dx(a b:Int):Int:=(fmod a+fmod b)%Qi
def cS(a b:Int):Int:=fmod a*fmod b%Qi
def ej(n:Int):Int:=((AR 31 Q (fmod n).toNat (Q-2) 1:Nat):Int)
def okF(x:Int):Prop:=0<=x/\x<Qi
def Kx:(0:Int)<Qi:=by decide
def Al:Qi=(Q:Int):=rfl
def GE(n):okF (fmod n):=⟨Qp _ aY,Qo _ Kx⟩
def AS{x}(h:okF x):fmod x=x:=aav h.1 h.2
def Dh(a b):dx a b=(a+b)%Qi:=by unfold dx fmod;simp_all
def tO(a b):cS a b=a*b%Qi:=by unfold cS fmod;rw[<-z']
def Tu(a b):okF (dx a b):=⟨Qp _ aY,Qo _ Kx⟩
def Dj(a b):okF (cS a b):=⟨Qp _ aY,Qo _ Kx⟩
def BE:okF 0:=by unfold okF;decide
def Tv{x}(h:okF x):dx x 0=x:=by rw[Dh,Int.add_zero,<-fmod];exact AS h
def agV(n):cS n 0=0:=by rw[tO,J1];rfl
def auS(n):cS 0 n=0:=by rw[tO,QB];rfl
def iV(n x y:Int):Int:=dx x (-(cS n y))
def GD(n x y):iV n x y=(x-n*y)%Qi:=by unfold iV;rw[Dh,tO,<-Int.sub_eq_add_neg,aaF,Qn _ (Ql _),<-aaF]
def agS(n x y):okF (iV n x y):=Tu _ _
def LS{n x}(h:okF x):iV n x 0=x:=by unfold iV;rw[agV,aaD];exact Tv h
def agU{x y}(h:okF x):iV 0 x y=x:=by unfold iV;rw[auS,aaD];exact Tv h
def agT(n y):iV (-n) 0 y=cS y n:=by rw[GD,tO,aaC,Int.sub_neg,aaH,Qs]
def agA{p h a}(f:vA p)(B:p=2*h+1)(m:0<a)(s:a<p):a^(p-1)%p=1:=by
 have A:=TX f B (f.coprime m s);have D:=f.1;have h2:(p:Int)∣(a:Int)^(2*h)-1:=by
  obtain⟨c,q⟩:=A;have e:((-1:Int)^mu a p)*((-1:Int)^mu a p)=1:=by rw[<-Qx,(M:mu a p+mu a p=2*mu a p),FK];simp[Oj]
  have r:(a:Int)^(2*h)=(a:Int)^h*(a:Int)^h:=by rw[<-Qx,(M:2*h=h+h)]
  refine⟨c*((a:Int)^h+(-1)^mu a p),?_⟩;rw[<-aax,<-q,Qz,Qr,Qr,r,Qs ((-1)^mu a p) ((a:Int)^h),e];omega
 rw[(M:p-1=2*h)];have C:0<a^(2*h):=Kq m;have j:((a^(2*h):Nat):Int)=(a:Int)^(2*h):=by simp
 rw[<-j]at h2;have z:p∣a^(2*h)-1:=by
  have e:((a^(2*h):Nat):Int)-1=((a^(2*h)-1:Nat):Int):=by omega
  rw[e]at h2;exact Qv.1 h2
 obtain⟨c,q⟩:=z;have:a^(2*h)=p*c+1:=by omega
 rw[this,abl,mS M]
def Ly(n):okF (ej n):=by unfold ej okF;rw[Gx aY aY aY];exact⟨M,by rw[Al];exact aaE.2 (kC _ aY)⟩
def TL{x}(h:okF x)(m:x≠0):cS x (ej x)=1:=by
 obtain⟨n,rfl⟩:∃n:Nat,x=n:=⟨x.toNat,by have:=h.1;omega⟩;have j:n<Q:=by have:=h.2;rw[Al]at this;exact aaE.1 this
 have f:=agA (h:=536870894) abz aY (M:0<n) j;unfold ej;rw[AS h,fD,Gx aY aY aY,Ag,tO,Al,<-Cy,<-aaB,abn,QU,<-xW,
  (aY:(Q-2).succ=Q-1),f]
 rfl
def af(l:List Int)(i:Nat):Int:=l.getD i 0
def g_(n:Int)(a b:List Int):List Int:=FS (iV n) a b
def rL(c:Nat)(a own:List Int):List Int:=if af a c=0 then a else a.take c++g_ (af a c) (a.drop c) (own.drop c)
def gu(c:Nat)(a:List Int)(n:Int):List Int:=a.take c++(a.drop c).map (cS · n)
def scaleB(a:List Int)(n:Int):List Int:=g_ (-n) (bB (F a) 0) a
def mZ(t:List (List Int))(r c:Nat):Option Nat:=(bZ (F t)).find? λk=>decide (r<=k)&& !(decide (af (t.getD k []) c=0))
def uK(st:List (List Int) × List Nat)(c:Nat):List (List Int) × List Nat:=
 match mZ st.1 (F st.2) c with
 |none=>st
 |some k=>
  let f:=gu c (st.1.getD k []) (ej (af (st.1.getD k []) c))
  let t1:=(st.1.set k (st.1.getD (F st.2) [])).set (F st.2) f
  (t1.mapIdx λi a=>if i=F st.2 then f else rL c a f,st.2++[c])
def mj(st:List (List Int) × List Nat)(c:Nat):List (List Int) × List Nat:=
 match mZ st.1 (F st.2) c with
 |none=>st
 |some k=>
  let f:=scaleB (st.1.getD k []) (ej (af (st.1.getD k []) c))
  let t1:=st.1.set k (st.1.getD (F st.2) [])
  ((t1.map λa=>g_ (af a c) a f).set (F st.2) f,st.2++[c])
def BV(t:List (List Int))(many:Nat):List (List Int) × List Nat:=(bZ many).foldl uK (t,[])
def g'(t:List (List Int))(many:Nat):List (List Int) × List Nat:=(bZ many).foldl mj (t,[])
structure tq(w c:Nat)(st:List (List Int) × List Nat):Prop where
 len:∀a∈st.1,a.length=w
 ok:∀a∈st.1,∀x∈a,okF x
 zero:∀i a,st.2.length<=i->st.1[i]?=J a->∀j,j<c->af a j=0
def gb{l}{i}(h):af l i=l[i]:=by unfold af;simp_all
def oo{l}(h:∀x∈l,okF x)(i):okF (af l i):=by
 unfold af;rw[eK];rcases dp i (F l) with q|q
 .simp_all
 .rw[uS q];exact BE
def uC{a b}(j:F a=F b)(h:∀i,i<F a->af a i=af b i):a=b:=by apply FN j;intro i f h2;rw[<-gb f,<-gb h2];simp_all
def tE{n}{a b}(j:F a=F b){i}(hi:i<F a):af (g_ n a b) i=iV n (af a i) (af b i):=by
 unfold g_;have f:i<F (FS (iV n) a b):=by rw[List.length_zipWith];omega
 rw[gb f,aaV,gb hi,gb M]
def rY{n}{a b}(f:F a=F b):F (g_ n a b)=F a:=by unfold g_;simp_all
def As{a x}{c}(f:c<=F a)(i):af (a.take c++x) i=if i<c then af a i else af x (i-c):=by
 unfold af
 grind
def F8(a)(c i):af (a.drop c) i=af a (c+i):=by unfold af;simp_all
def ae2{c}{a own}(f:F a=F own)(B:c<F a)(r:∀x∈a,okF x)(z:∀j,j<c->af own j=0):rL c a own=g_ (af a c) a own:=by
 unfold rL;split
 .rename_i h;rw[h];refine(uC (rY f) λi m=>?_).symm;rw[rY f]at m;rw[tE f m,agU (oo r i)]
 .have q:F (a.drop c)=F (own.drop c):=by simp[f]
  refine uC ?_ λi m=>?_
  .rw[ck,rY q,rY f,cR,eC];omega
  .have s:i<F a:=(by rw[ck,rY q,cR,eC]at m;omega);rw[As M,tE f s];split
   .rename_i A;rw[z i A,LS (oo r i)]
   .rename_i A;rw[tE q (by grind),F8,F8,(M:c+(i-c)=i)]
def Ji{c}{a}{n}(q:c<=F a)(z:∀j,j<c->af a j=0):gu c a n=scaleB a n:=by
 unfold gu scaleB;have f:F (bB a.length (0:Int))=F a:=by simp
 refine uC ?_ λi r=>?_
 .rw[rY f,ck,br,cR,eC,f];omega
 .have A:i<F a:=by rw[ck,br,cR,eC]at r;omega
  have m:af (bB (F a) (0:Int)) i=0:=by rw[gb M];simp
  rw[As q,tE f M,m,agT];split
  .rename_i B;rw[z i B,tO,QB];rfl
  .rename_i B;have s:i-c<F ((a.drop c).map (cS · n)):=(by rw[br,eC];omega);rw[gb s,th,QJ,<-gb (M:c+(i-c)<F a),(M:c+(i-c)=i)]
end Go.NT
end
section
namespace Go.NT
def yv{t}{r c k}(h:mZ t r c=J k):k<F t/\r<=k/\af (t.getD k []) c≠0:=by
 unfold mZ at h
 grind
def Ty{t}{r c}(h:mZ t r c=ag){k}(f:k<F t)(j:r<=k):af (t.getD k []) c=0:=by unfold mZ at h;simp_all
def m_{t:List (List Int)}{k}(f):t.getD k []=t[k]:=by simp_all
section
variable {w c:Nat} {st:List (List Int) × List Nat}
structure Own(w c:Nat)(own:List Int):Prop where
 len:own.length=w
 ok:∀x∈own,okF x
 zero:∀j,j<c->af own j=0
 one:af own c=1
def Io{a:List Int}(B:F a=w)(A:c<w)(r:∀x∈a,okF x)(C:∀j,j<c->af a j=0)(m:af a c≠0):Own w c (gu c a (ej (af a c))):=by
 refine⟨?_,?_,?_,?_⟩
 .unfold gu;grind
 .intro x f;unfold gu at f;rcases List.mem_append.1 f with q|q
  .grind
  .obtain⟨y,-,rfl⟩:=jg.1 q;exact Dj _ _
 .intro j s;unfold gu;rw[As M,av s];simp_all
 .unfold gu;rw[As M,aL M];have z:c-c<F ((a.drop c).map (cS · (ej (af a c)))):=by rw[br,eC];omega
  rw[gb z,th,QJ];have e:a[c+(c-c)]' M=af a c:=by rw[gb M];congr 1;omega
  rw[e];exact TL (oo r c) m
def Zw(R:tq w c st)(r:c<w):uK st c=mj st c:=by
 unfold uK mj;cases B:mZ st.1 (F st.2) c with
 |none=>rfl|some k=>
  obtain⟨f,D,z⟩:=yv B;rw[m_ f]at z;have C:=R.len _ (i_ f);have s:=R.ok _ (i_ f);have j:=R.zero k _ D (aP f);simp only[m_ f];have N:=Io C r s j z;rw[<-Ji M j];generalize gu c st.1[k] (ej (af st.1[k] c))=T at *
  congr 1;apply FN
  .simp
  .intro i A h2;rw[List.getElem_mapIdx];by_cases m:i=F st.2
   .simp_all
   .rw[aL m,QK (λE=>m E.symm),QK (λE=>m E.symm),th];have S:i<F st.1:=(by simpa using A);have q:(st.1.set k (st.1.getD (F st.2) []))[i]'(by simp_all)∈st.1:=by
     rw[CF];split
     .grind
     .simp_all
    exact ae2 ((R.len _ q).trans N.len.symm) (by rw[R.len _ q];exact r) (R.ok _ q) N.zero
def Jq(R:tq w c st)(hc:c<w):tq w (c+1) (mj st c):=by
 unfold mj;cases N:mZ st.1 (F st.2) c with
 |none=>
  refine⟨R.len,R.ok,λi a A f m B=>?_⟩;rcases dp m c with q|q
  .exact R.zero i a A f m q
  .have:m=c:=(by omega);subst this;have r:=(aT.1 f).1;have:=Ty N r A;simp_all
 |some k=>
  obtain⟨s,k2,Y⟩:=yv N;rw[m_ s]at Y;have hk:=R.len _ (i_ s);have S:=R.ok _ (i_ s);have C:=R.zero k _ k2 (aP s);simp only[m_ s];have E:=Io hk hc S C Y;rw[<-Ji M C];generalize gu c st.1[k] (ej (af st.1[k] c))=own at *
  have D:F st.2<F st.1:=by omega
  have j:∀a∈st.1.set k (st.1.getD (F st.2) []),a∈st.1:=λa f=>by
   grind
  refine⟨λa f=>?_,λa f=>?_,λi a A f m B=>?_⟩
  .rcases uV f with q|q
   .obtain⟨b,z,rfl⟩:=jg.1 q;have:=R.len _ (j b z);rw[rY (this.trans E.len.symm)];omega
   .rw[q];exact E.len
  .rcases uV f with q|q
   .obtain⟨b,z,rfl⟩:=jg.1 q;intro x X;unfold g_ at X;obtain⟨i,h1,rfl⟩:=wC.1 X;rw[aaV];exact agS _ _ _
   .rw[q];exact E.ok
  .simp only[ck,List.length_singleton]at A;have T:F st.2≠i:=(by omega);rw[J' T,ec]at f;have r:i<F st.1:=by
    rcases dp i (F st.1) with q|q
    .exact q
    .simp_all
   rw[aP (by simp_all),fF,dt]at f;have z:∃b,(st.1.set k (st.1.getD (F st.2) []))[i]'(by simp_all)=b/\F b=w/\(∀x∈b,okF x)/\∀m,m<c->af b m=0:=by
    refine⟨_,O,R.len _ (j _ (i_ _)),R.ok _ (j _ (i_ _)),λm B=>?_⟩;rw[CF];split
    .rw[m_ D];exact R.zero (F st.2) _ (aV _) (aP D) m B
    .exact R.zero i _ M (aP r) m B
   obtain⟨b,e,Z,b2,b3⟩:=z;rw[e]at f;subst f;rw[tE (Z.trans E.len.symm) M];rcases dp m c with q|q
   .rw[b3 m q,E.zero m q,LS BE]
   .have:m=c:=(by omega);subst this;rw[E.one,GD,JZ,QA];rfl
end
def aol{t}{w many}(j:∀a∈t,F a=w)(m:∀a∈t,∀x∈a,okF x)(z:many<=w):BV t many=g' t many:=by
 unfold BV g';have r:∀n,n<=w->(bZ n).foldl uK (t,[])=(bZ n).foldl mj (t,[])/\tq w n ((bZ n).foldl mj (t,[])):=by
  intro n
  induction n with
  |zero=>intro _;exact⟨O,j,m,λ_ _ _ _ B s=>by omega⟩|succ n q=>intro A;obtain⟨f,h2⟩:=q M;rw[ku,oD,oD,f];simp only[J_,CE];exact⟨Zw h2 M,Jq h2 M⟩
 simp_all
end Go.NT
end
section
namespace Go.NT
def hh:List Int->Int
 | []=>0
 |x::l=>x+hh l
def atb(l m):hh (l++m)=hh l+hh m:=by
 induction l with
 |nil=>simp[hh]|cons x l f=>simp only[ey,hh,f];omega
def dot(y row:List Int):Int:=hh ((bZ (F y)).map λi=>af y i*af row i)
def res(y row:List Int):Int:=dot y row-af row (F y)
def Sat(y row:List Int):Prop:=Qi∣res y row
def atf{f g q}{n}:∀{l:List Nat},(∀i∈l,Qi∣f i-(g i-n*q i))->Qi∣hh (l.map f)-(hh (l.map g)-n*hh (l.map q)):=by
 intro l
 induction l with
 |nil=>intro _;simp[hh]|cons x l r=>
  intro h;have j:=h x gH;have h2:=r λi m=>h i (gx _ m);simp only[eI,hh,Qr];have e:f x+hh (l.map f)-(g x+hh (l.map g)-(n*q x+n*hh (l.map q)))=(f x-(g x-n*q x))+(hh (l.map f)-(hh (l.map g)-n*hh (l.map q))):=by omega
  rw[e];exact Qk j h2
def TG(n x y):Qi∣iV n x y-(x-n*y):=by
 rw[GD];have:=aau (x-n*y) Qi;refine⟨-((x-n*y)/Qi),?_⟩
 grind
def Yu{n}{y a b}(j:F a=F b)(q:F y<F a):Qi∣res y (g_ n a b)-(res y a-n*res y b):=by
 have m:Qi∣dot y (g_ n a b)-(dot y a-n*dot y b):=by
  unfold dot;refine atf λi f=>?_;have f:=ie.1 f;rw[tE j M];obtain⟨c,r⟩:=TG n (af a i) (af b i);refine⟨af y i*c,?_⟩;have:af y i*iV n (af a i) (af b i)-(af y i*af a i-n*(af y i*af b i))=af y i*(iV n (af a i) (af b i)-(af a i-n*af b i)):=by
   grind
  grind
 have h2:Qi∣af (g_ n a b) (F y)-(af a (F y)-n*af b (F y)):=by rw[tE j q];exact TG _ _ _
 unfold res;have e:dot y (g_ n a b)-af (g_ n a b) (F y)-(dot y a-af a (F y)-n*(dot y b-af b (F y)))=(dot y (g_ n a b)-(dot y a-n*dot y b))-(af (g_ n a b) (F y)-(af a (F y)-n*af b (F y))):=by rw[aay];omega
 rw[e];exact Qm m h2
def arC{n}{y a b}(m:F a=F b)(q:F y<F a)(f:Sat y (g_ n a b))(h2:Sat y b):Sat y a:=by
 unfold Sat at *
 have j:=Yu (n:=n) m q;have e:res y a=res y (g_ n a b)-(res y (g_ n a b)-(res y a-n*res y b))+n*res y b:=by omega
 rw[e];exact Qk (Qm f j) (aat h2)
def aoA(y)(n):res y (bB n 0)=0:=by
 have f:∀i,af (bB n (0:Int)) i=0:=λi=>by
  unfold af
  grind
 unfold res dot;simp only[f,J1];generalize bZ (F y)=l
 induction l with
 |nil=>rfl|cons x l j=>simp only[eI,hh];omega
def arD{y a}{x}(A:F y<F a)(r:okF x)(j:x≠0)(h:Sat y (scaleB a (ej x))):Sat y a:=by
 unfold Sat scaleB at *
 have f:=Yu (n:= -(ej x)) (y:=y) (a:=bB (F a) (0:Int)) (b:=a) b8 (by simp_all);rw[aoA]at f;have h2:Qi∣ej x*res y a:=by
  have e:ej x*res y a=res y (g_ (-(ej x)) (bB (F a) 0) a)-(res y (g_ (-(ej x)) (bB (F a) 0) a)-(0 - -(ej x)*res y a)):=by rw[aaC];omega
  rw[e];exact Qm h f
 have m:Qi∣x*ej x-1:=by have:=TL r j;rw[tO]at this;have q:=aau (x*ej x) Qi;rw[this]at q;exact⟨x*ej x/Qi,by omega⟩
 obtain⟨c,s⟩:=h2;obtain⟨d,z⟩:=m;refine⟨x*c-d*res y a,?_⟩
 grind
section
variable {w c:Nat} {st:List (List Int) × List Nat}
def asV{y:List Int}(R:tq w c st)(Y:c<w)(E:F y<w)(h:∀a∈(mj st c).1,Sat y a):∀a∈st.1,Sat y a:=by
 unfold mj at h;cases r:mZ st.1 (F st.2) c with
 |none=>simp_all|some k=>
  rw[r]at h;obtain⟨f,k2,q⟩:=yv r;rw[m_ f]at q;simp only[m_ f]at h;have Z:=R.len _ (i_ f);have j:=R.ok _ (i_ f);have m:=R.zero k _ k2 (aP f);have z0:=Io Z Y j m q;have N:F st.2<F st.1:=by omega
  have S:=Ji (n:=ej (af st.1[k] c)) (M:c<=F st.1[k]) m;rw[m_ N]at h;have C:Sat y (scaleB st.1[k] (ej (af st.1[k] c))):=h _ (wC.2 ⟨F st.2,by simp_all,by simp_all⟩);have D:∀i (s:i<F st.1),i≠F st.2->Sat y ((st.1.set k st.1[st.2.length])[i]'(by simp_all)):=λi s B=>by
   have z:=h ((((st.1.set k st.1[st.2.length]).map λa=>g_ (af a c) a (scaleB st.1[k] (ej (af st.1[k] c)))).set (F st.2) (scaleB st.1[k] (ej (af st.1[k] c))))[i]'(by simp_all)) (i_ _);rw[QK (λz1=>B z1.symm),th]at z;have A:F ((st.1.set k st.1[st.2.length])[i]'(by simp_all))=w:=by
    rw[CF];split
    .exact R.len _ (i_ _)
    .exact R.len _ (i_ _)
   refine arC ?_ M z C;rw[A,<-S,z0.len]
  intro a X;obtain⟨i,s,rfl⟩:=wC.1 X;by_cases T:i=k
  .subst T;exact arD M (oo j c) q C
  grind
end
end Go.NT
end
section
namespace Go.NT
structure Aj(c:Nat)(st:List (List Int) × List Nat):Prop where
 lt:∀k p:Nat,st.2[k]?=J p->p<c
 inc:∀j k p q:Nat,j<k->st.2[j]?=J p->st.2[k]?=J q->p<q
 val:∀k p:Nat,st.2[k]?=J p->∀(i:Nat) (a:List Int),st.1[i]?=J a->af a p=if i=k then 1 else 0
 len:st.2.length<=st.1.length
section
variable {w c:Nat} {st:List (List Int) × List Nat}
def asR(R:tq w c st)(q:Aj c st)(E:c<w):Aj (c+1) (mj st c):=by
 unfold mj;cases hf:mZ st.1 (F st.2) c with
 |none=>exact⟨λk p h=>by have:=q.lt k p h;omega,q.inc,q.val,q.len⟩
 |some k=>
  obtain⟨r,k2,T⟩:=yv hf;rw[m_ r]at T;have hk:=R.len _ (i_ r);have S:=R.ok _ (i_ r);have z:=R.zero k _ k2 (aP r);simp only[m_ r];have D:=Io hk E S z T;have A:F st.2<F st.1:=by omega
  rw[<-Ji M z,m_ A];generalize gu c st.1[k] (ej (af st.1[k] c))=own at *
  refine⟨λj p h=>?_,λj l p z0 s f C=>?_,λj p f i a m=>?_,?_⟩
  .rcases yB h with h|⟨-,rfl⟩
   .have:=q.lt j p h;omega
   .omega
  .rcases yB C with C|⟨rfl,rfl⟩
   .rcases yB f with f|⟨rfl,-⟩
    .exact q.inc j l p z0 s f C
    grind
   .rcases yB f with f|⟨rfl,-⟩
    .exact q.lt j p f
    .omega
  .-- the row at i
   have N:i<F st.1:=(by have:=(aT.1 m).1;simpa using this);by_cases B:i=F st.2
   .subst B;rw[aP (by simp_all),List.getElem_set_self,dt]at m;subst m;rcases yB f with f|⟨rfl,rfl⟩
    .have Z:=q.lt j p f;have h2:=(aT.1 f).1;rw[D.zero p Z,aL M]
    .rw[D.one,av O]
   .rw[J' (λz0=>B z0.symm),ec,aP (by simp_all),fF,dt]at m;have hb:∃b,(st.1.set k st.1[st.2.length])[i]'(by simp_all)=b/\F b=w/\(∀x∈b,okF x)/\∀j p,st.2[j]?=J p->af b p=if i=j then 1 else 0:=by
     refine⟨_,O,?_,?_,λj p f=>?_⟩
     .rw[CF];split<;>exact R.len _ (i_ _)
     .rw[CF];split<;>exact R.ok _ (i_ _)
     .rw[CF];have s:=(aT.1 f).1;split
      .rename_i e;rw[q.val j p f (F st.2) _ (aP A),aL M,aL M]
      .exact q.val j p f i _ (aP N)
    obtain⟨b,e,X,Y,b3⟩:=hb;rw[e]at m;subst m;have hpw:p<w:=by
     rcases yB f with h|⟨-,rfl⟩
     .have:=q.lt j p h;omega
     .exact E
    rw[tE (X.trans D.len.symm) M];rcases yB f with f|⟨rfl,rfl⟩
    .rw[D.zero p (q.lt j p f),LS (oo Y p)]
     grind
    .rw[D.one,GD,JZ,QA,aL B];rfl
  grind
where
 yB {l:List Nat} {x i y:Nat} (h:(l++[x])[i]?=J y):l[i]?=J y∨(i=F l/\y=x):=by
  grind
end
def ES{t}{w many}(j:∀a∈t,F a=w)(m:∀a∈t,∀x∈a,okF x)(s:many<=w):tq w many (g' t many)/\Aj many (g' t many):=by
 unfold g'
 induction many with
 |zero=>exact⟨⟨j,m,λ_ _ _ _ z r=>by omega⟩,⟨λk p h=>by grind,λz k p A _ h=>by grind,λk p h=>by grind,bY _⟩⟩|succ n q=>obtain⟨f,h2⟩:=q M;rw[ku,oD];simp only[J_,CE];exact⟨Jq f M,asR f h2 M⟩
def aom{t}{w many}{y}(j:∀a∈t,F a=w)(m:∀a∈t,∀x∈a,okF x)(s:many<=w)(q:F y<w)(h:∀a∈(g' t many).1,Sat y a):∀a∈t,Sat y a:=by
 induction many with
 |zero=>exact h|succ n r=>
  refine r M ?_;have f:=(ES j m (M:n<=w)).1;have e:g' t (n+1)=mj (g' t n) n:=by unfold g';rw[ku,oD];rfl
  rw[e]at h;exact asV f M q h
def nK(st:List (List Int) × List Nat)(n:Nat):List Int:=st.2.zipIdx.foldl (λy p=>y.set p.1 (af (st.1.getD p.2 []) n)) (bB n 0)
def F9{l}{i j}{x}(hi:i<F l):af (l.set i x) j=if j=i then x else af l j:=by
 unfold af
 grind
def Dk(f:Nat × Nat->Int):∀(l:List (Nat × Nat)) (y:List Int),F (l.foldl (λy p=>y.set p.1 (f p)) y)=F y:=by
 intro l
 induction l with
 |nil=>simp_all|cons p l j=>simp_all
def GF(f:Nat × Nat->Int){i}:∀(l:List (Nat × Nat)) (y:List Int),(∀p∈l,p.1≠i)->af (l.foldl (λy p=>y.set p.1 (f p)) y) i=af y i:=by
 intro l
 induction l with
 |nil=>simp_all|cons p l m=>intro y h;rw[J_,m _ λq j=>h q (gx _ j)];have:=h p gH;unfold af;simp_all
def Jl(st)(n):F (nK st n)=n:=by unfold nK;rw[Dk (λp=>af (st.1.getD p.2 []) n)];simp
def asf{st}{n i}(h:i∉st.2):af (nK st n) i=0:=by
 unfold nK;rw[GF (λp=>af (st.1.getD p.2 []) n) _ _ λp f j=>?_]
 .unfold af
  grind
 grind
def ash{c}{st}{n k p}(A:Aj c st)(B:c<=n)(h:st.2[k]?=J p):af (nK st n) p=af (st.1.getD k []) n:=by
 unfold nK;obtain⟨q,r⟩:=aT.1 h;have z:st.2.zipIdx=(st.2.zipIdx.take k)++(p,k)::(st.2.zipIdx.drop (k+1)):=by
  have j:k<F st.2.zipIdx:=by simpa using q
  have:=(List.take_append_drop k st.2.zipIdx).symm;rw[s_ j]at this;rw[aaU,r]at this;simpa using this
 rw[z,oD,J_,GF (λp=>af (st.1.getD p.2 []) n) _ _ λC s e=>?_]
 .rw[F9,av O];rw[Dk (λp=>af (st.1.getD p.2 []) n)];have:=A.lt k p h
  grind
 .obtain⟨i,m,rfl⟩:=wC.1 s;rw[QJ,aaU]at e;simp only at e;have f:k+1+i<F st.2:=by simp at m;omega
  have:=A.inc k (k+1+i) p _ M h (aP f);omega
def atg{f}{p}:∀n,p<n->(∀i,i<n->i≠p->f i=0)->hh ((List.range n).map f)=f p:=by
 intro n
 induction n with
 |zero=>omega|succ n A=>
  intro s h;rw[ku,jQ,atb];simp only[eI,uT,hh];rcases dp p n with q|q
  .grind
  .have:p=n:=(by omega);subst this;have z:hh ((bZ p).map f)=0:=by
    have:∀l:List Nat,(∀i∈l,f i=0)->hh (l.map f)=0:=by
     intro l
     induction l with
     |nil=>intro _;rfl|cons x l j=>intro r;simp only[eI,hh];simp_all
    exact this _ λi m=>h i (by grind) (by grind)
   omega
def asg{t}{n}(z:∀a∈t,F a=n+1)(D:∀a∈t,∀x∈a,okF x)(j:∀i a,F (g' t n).2<=i->(g' t n).1[i]?=J a->af a n=0):
 ∀a∈t,Sat (nK (g' t n) n) a:=by
 obtain⟨R,E⟩:=ES z D (M:n<=n+1);refine aom z D (M:n<=n+1) (by rw[Jl];omega) λa N=>?_;obtain⟨k,s,rfl⟩:=wC.1 N;have f:=aP s;unfold Sat res dot;rw[Jl];rcases dp k (F (g' t n).2) with q|q
 .have m:=aP q;have A:=E.lt k _ m;rw[atg (p:=(g' t n).2[k]) n A,ash E (aV _) m,E.val k _ m k _ f,av O,m_ s,JZ,QA]
  .simp_all
  .intro i r C;by_cases B:i∈(g' t n).2
   .obtain⟨Y,S,rfl⟩:=wC.1 B;rw[E.val Y _ (aP S) k _ f,aL (λe=>C (by simp_all)),J1]
   .rw[asf B,QB]
 .rw[j k _ q f];have X:∀l:List Nat,(∀i∈l,i<n)->hh (l.map λi=>af (nK (g' t n) n) i*af (g' t n).1[k] i)=0:=by
   intro l
   induction l with
   |nil=>intro _;rfl|cons x l T=>intro h;simp only[eI,hh];rw[R.zero k _ q f x (h x gH),J1,T λi r=>h i (gx _ r)];rfl
  simp_all
end Go.NT
end
section
namespace Go.NT
abbrev eG:=BitVec 32
def e7(x:eG)(n:Nat):eG:=(x>>>n)|||(x<<<(32-n))
def Bs:List Nat:=[
 0x428a2f98,0x71374491,0xb5c0fbcf,0xe9b5dba5,0x3956c25b,0x59f111f1,0x923f82a4,0xab1c5ed5,
 0xd807aa98,0x12835b01,0x243185be,0x550c7dc3,0x72be5d74,0x80deb1fe,0x9bdc06a7,0xc19bf174,
 0xe49b69c1,0xefbe4786,0x0fc19dc6,0x240ca1cc,0x2de92c6f,0x4a7484aa,0x5cb0a9dc,0x76f988da,
 0x983e5152,0xa831c66d,0xb00327c8,0xbf597fc7,0xc6e00bf3,0xd5a79147,0x06ca6351,0x14292967,
 0x27b70a85,0x2e1b2138,0x4d2c6dfc,0x53380d13,0x650a7354,0x766a0abb,0x81c2c92e,0x92722c85,
 0xa2bfe8a1,0xa81a664b,0xc24b8b70,0xc76c51a3,0xd192e819,0xd6990624,0xf40e3585,0x106aa070,
 0x19a4c116,0x1e376c08,0x2748774c,0x34b0bcb5,0x391c0cb3,0x4ed8aa4a,0x5b9cca4f,0x682e6ff3,
 0x748f82ee,0x78a5636f,0x84c87814,0x8cc70208,0x90befffa,0xa4506ceb,0xbef9a3f7,0xc67178f2]
def Br(t:Nat):eG:=BitVec.ofNat 32 (Bs.getD t 0)
def start:List eG:=[0x6a09e667#32,0xbb67ae85#32,0x3c6ef372#32,0xa54ff53a#32,0x510e527f#32,0x9b05688c#32,0x1f83d9ab#32,0x5be0cd19#32]
def fM(b:List UInt8)(i:Nat):UInt8:=b.getD i 0
def et(w:List eG)(i:Nat):eG:=w.getD i 0#32
def wg(b:List UInt8)(i:Nat):eG:=BitVec.ofNat 32 (((fM b i).toNat*256+(fM b (i+1)).toNat)*256*256+(fM b (i+2)).toNat*256+(fM b (i+3)).toNat)
def Ic(w:List eG)(t:Nat):eG:=
 et w (t-16)+(e7 (et w (t-15)) 7^^^e7 (et w (t-15)) 18^^^(et w (t-15))>>>3)+et w (t-7)+(e7 (et w (t-2)) 17^^^e7 (et w (t-2)) 19^^^(et w (t-2))>>>10)
def j_(b:List UInt8):Nat->List eG
 |0=>[]
 |n+1=>j_ b n++[if n<16 then wg b (4*n) else Ic (j_ b n) n]
def IR(w:List eG)(v:List eG)(t:Nat):List eG:=
 let e:=et v 4
 let a:=et v 0
 let p:=et v 7+(e7 e 6^^^e7 e 11^^^e7 e 25)+((e&&&et v 5)^^^(~~~e&&&et v 6))+Br t+et w t
 let f:=(e7 a 2^^^e7 a 13^^^e7 a 22)+((a&&&et v 1)^^^(a&&&et v 2)^^^(et v 1&&&et v 2))
 [p+f,a,et v 1,et v 2,et v 3+p,e,et v 5,et v 6]
def yb(s:List eG)(b:List UInt8):List eG:=
 let w:=j_ b 64
 let v:=(bZ 64).foldl (IR w) s
 FS (·+·) s v
def Qb(n:Nat):Nat:=(119-n%64)%64
def Bt(n:Nat):List UInt8:=(bZ 8).map λi=>UInt8.ofNat (n*8/2^(8*(7-i)))
def Ip(b:List UInt8):List UInt8:=b++0x80::bB (Qb (F b)) 0++Bt (F b)
def iH:Nat->List eG->List UInt8->List eG
 |0,f,_=>f
 |n+1,f,b=>iH n (yb f (b.take 64)) (b.drop 64)
def nF(s:List eG):List UInt8:=s.flatMap λx=>[UInt8.ofNat (x.toNat/16777216),UInt8.ofNat (x.toNat/65536),UInt8.ofNat (x.toNat/256),UInt8.ofNat x.toNat]
def jr(b:List UInt8):List UInt8:=nF (iH (F (Ip b)/64) start (Ip b))
def kn(f b:List UInt8):List UInt8:=jr (jr f++b)
def aeP(e f g:eG):g^^^(e&&&(f^^^g))=(e&&&f)^^^(~~~e&&&g):=by apply BitVec.eq_of_getLsbD_eq;intro i j;simp only[BitVec.getLsbD_xor,BitVec.getLsbD_and,BitVec.getLsbD_not,j,decide_true,mL];cases e.getLsbD i<;>cases f.getLsbD i<;>cases g.getLsbD i<;>rfl
def alj(a b c:eG):(a&&&b)|||(c&&&(a|||b))=(a&&&b)^^^(a&&&c)^^^(b&&&c):=by apply BitVec.eq_of_getLsbD_eq;intro i f;simp only[BitVec.getLsbD_xor,BitVec.getLsbD_and,BitVec.getLsbD_or];cases a.getLsbD i<;>cases b.getLsbD i<;>cases c.getLsbD i<;>rfl
end Go.NT
end
section
namespace Go.NT
inductive Vl where
 |int (n:Int)
 |text (s:List UInt8)
 |list (l:List Vl)
def eZ:Nat->Nat->List UInt8
 |0,u=>[UInt8.ofNat u]
 |k+1,u=>if u<128 then [UInt8.ofNat u] else UInt8.ofNat (u%128+128)::eZ k (u/128)
def hW(n:Int):Nat:=if 0<=n then 2*n.toNat else 2*(-(n+1)).toNat+1
mutual
def cB:Vl->List UInt8
 | .int n=>1::eZ 9 (hW n)
 | .text f=>2::(eZ 9 (F f)++f)
 | .list l=>3::(eZ 9 (F l)++gd l)
def gd:List Vl->List UInt8
 | []=>[]
 |v::l=>cB v++gd l
end
mutual
def fA:Vl->Nat
 | .list l=>fY l+1
 |_=>0
def fY:List Vl->Nat
 | []=>0
 |v::l=>max (fA v) (fY l)
end
def Tl(l m):gd (l++m)=gd l++gd m:=by
 induction l with
 |nil=>simp[gd]|cons v l f=>simp only[ey,gd,f,iO]
def Xk{k u}(h:128<=u):eZ (k+1) u=UInt8.ofNat (u%128+128)::eZ k (u/128):=by rw[eZ,aL M]
def Xj{k u}(h:u<128):eZ k u=[UInt8.ofNat u]:=by
 cases k with|zero=>rfl|succ k=>rw[eZ,av h]
end Go.NT
end
section
namespace Go.NT
def cN(n:Int):Bool:=decide (0<=n)&&decide (n<Qi)
def cH(rows:List (List Int))(ac:List Int):Int:=
 if decide (64<F rows)||rows.any (λf=>decide (64<F f)) then 2
 else if F rows≠F ac then 230
 else if (bZ (F rows)).all λi=> !(rows.getD i []).isEmpty&&decide (F (rows.getD i [])=F (rows.getD 0 []))&&(decide (0<=af ac i)&&decide (af ac i<=63))&&(rows.getD i []).all cN then 0
 else 230
def cg(rows:List (List Int)):Nat:=if F rows=0 then 1 else F (rows.getD 0 [])
def fc(n:Nat):List Int:=1::bB (n-1) 0
def dy:Int->List Int->Bool
 |_,[]=>V
 |zB,n::l=>decide (zB<n)&&decide (n<=63)&&dy n l
def dJ(ac who:List Int):List Nat:=(bZ (F ac)).filter λi=>who.contains (af ac i)
def fe(rows:List (List Int))(f:List Int):List (List Int):=(bZ (F f)).map λk=>rows.map (λj=>af j k)++[af f k]
def nT(rows:List (List Int))(f:List Int):Option (List Int):=
 let st:=g' (fe rows f) (F rows)
 if (st.1.drop (F st.2)).all (λa=>decide (af a (F rows)=0)) then J (nK st (F rows)) else ag
def oW(n:Nat)(f:List Nat)(l:List Int):List Int:=f.zipIdx.foldl (λy p=>y.set p.1 (af l p.2)) (bB n 0)
def fG(rows:List (List Int))(ac who:List Int):List Int × Bool × Int:=
 if cH rows ac≠0 then ([],ah,cH rows ac)
 else if !dy (-1) who then ([],ah,1)
 else match nT ((dJ ac who).map λi=>rows.getD i []) (fc (cg rows)) with
  |none=>([],ah,0)
  |some l=>(oW (F rows) (dJ ac who) l,V,0)
structure Pr where
 aO:Int
 no:Int
 d:Int
 e:Int
def bX(x:Int):Bool:=decide (1<=x)&&elem x.toNat
def Pr.val(p:Pr):Vl:=.list [.int p.aO,.int p.no,.int p.d,.int p.e]
def BN(l:List Pr):Vl:=.list (l.map Pr.val)
def pF(b:List UInt8):Nat:=((b.take 8).foldl (λn c=>n*256+c.toNat) 0%9223372036854775808)%Q
def qh(f:List UInt8)(v:Vl):Nat:=pF (kn f (cB v))
def Je:List UInt8:=[98,105,110,100]
def zP:List UInt8:=[115,105,103,110]
def i'(c0:Int)(text:List UInt8)(l:List Pr)(f:Int):Nat:=qh Je (.list [.int c0,.text text,BN l,.int f])
def vL(c0:Int)(text:List UInt8)(l:List Pr)(p:Pr):Nat:=p.d.toNat*pQ p.e.toNat (i' c0 text l p.aO)%P
def jM(c0:Int)(text:List UInt8)(l:List Pr):Nat:=l.foldl (λx p=>x*vL c0 text l p%P) 1
def Ci(f j:Int)(text:List UInt8):Nat:=qh zP (.list [.int f,.int j,.text text])
def mF:Int->List Pr->Bool
 |_,[]=>V
 |zB,x::l=>decide (zB<x.aO)&&decide (x.aO<64)&&decide (0<=x.no)&&decide (x.no<4096)&&bX x.d&&bX x.e&&mF x.aO l
def eg(rows:List (List Int))(ac:List Int)(j:Int)(f:List Int)(text:List UInt8)(l:List Pr):Int:=
 if cH rows ac≠0 then cH rows ac
 else if !(decide (0<=j)&&decide (j<=64)&&decide (F f=cg rows)&&f.all bX) then 380
 else if 65536<F text then 2
 else if 64<F l then 420
 else if !mF (-1) l then 420
 else match fG rows ac (l.map Pr.aO) with
  |(_,ok,e)=>if e≠0∨ok=ah∨F l=0 then 420 else 0
end Go.NT
end
section
namespace Go.NT
def ek(x:Nat)(n:Int):Nat:=pQ x (fmod n).toNat
def TJ(n):(fmod n).toNat<Q:=by have:=GE n;obtain⟨f,h2⟩:=this;rw[Al]at h2;omega
def anm(x)(n):ek x n=x^(fmod n).toNat%P:=Oy (oi (TJ n) aY)
def It{x}(f:elem x=V)(n):elem (ek x n)=V:=by rw[anm];exact af9 f _
def TK(n):((fmod n).toNat:Int)=fmod n:=by have:=(GE n).1;omega
end Go.NT
end
section
namespace Go.Proofs.YtcbhpkjbiehcpaaGreatDoor
open Go.AE Go.RowKit
def PI:List U:=NT.start.map bM
def EE:List U:=NT.Bs.map λ(n:Nat)=>U.v (.int .u32 (n:Int))
def Gt:Nat->Option (List U):=λg=>if g=0 then J PI else if g=1 then J EE else if g=1022017∨g=1022035∨g=1023037∨g=1023048∨g=1023063∨g=1023125∨g=1116104∨g=1032007∨g=1033007∨g=1033257 then J [] else ag
def aJ:aR->Option (List U->Heap->Option (U × Heap)):=λ_=>ag
noncomputable abbrev W:=whole aa Gt aJ
structure ae(p:Prop):Prop where
 out:p
def I(n:Int):U:=.v (.int .i64 n)
def vz(n:Int):List U:=[I n]
def ints(l:List Int):List (List U):=l.map vz
def cG(l):F (ints l)=F l:=by simp[ints]
def VY(l)(i:Nat):(ints l)[i]?=(l[i]?).map vz:=by simp[ints]
def i64(n:Int):Prop:= -9223372036854775808<=n/\n<=9223372036854775807
def dY:fH aa 3=J ah:=by kernel_rfl
def eX:cC aa 3=J 1:=by kernel_rfl
def Ws{h}{l}{i}{x}(j:l[i]?=J x):aD aa Gt h 3 (.elem 1 (ints l) i 0)=J (I x):=by
 have f:(ints l)[i]?=J (vz x):=by rw[VY,j];rfl
 rw[oO dY f];rfl
def acG{h}{d}{ts}{ty:Nat}{s x}(f:1000*ty+d≠22017/\1000*ty+d≠22035/\1000*ty+d≠23037/\1000*ty+d≠23048/\1000*ty+d≠23063/\1000*ty+d≠23125/\1000*ty+d≠116104/\1000*ty+d≠32007/\1000*ty+d≠33007/\1000*ty+d≠33257):po aa Gt (J d) h .append ts ty [s,x]=gm aa h ts s x:=by refine acI ?_;unfold Fp Gt;rw[aL M,aL M,aL (by simp only[Ah];omega)];rfl
def acH{h}{d}{ts}{ty:Nat}{s x}(f:1000*ty+d=22017∨1000*ty+d=22035∨1000*ty+d=23037∨1000*ty+d=23048∨1000*ty+d=23063∨1000*ty+d=23125∨1000*ty+d=116104∨1000*ty+d=32007∨1000*ty+d=33007∨1000*ty+d=33257):po aa Gt (J d) h .append ts ty [s,x]=ml aa h ts s x:=by refine acK ?_;unfold Fp Gt;rw[aL M,aL M,av (by simp only[Ah];omega)];rfl
def aC{α:Type}[BEq α][ReflBEq α](a:α):(a==a)=V:=beq_self_eq_true a
def am{p:Prop}(h:p:=by kernel_rfl):p:=h
set_option linter.defProp false in
def gW:=aj goS (aj goT (aj goH (aj goU (aj @acG (aj @acH (aj @EU.eq_1 (aj @sF.eq_1 (aj @sF.eq_2 (aj @sF.eq_3 (aj @dk.eq_1 (aj @dk.eq_2 (aj @dk.eq_3 (aj @dk.eq_4 (aj @dk.eq_5 (aj @dk.eq_6 (aj @dk.eq_7 (aj @dk.eq_8 (aj @dk.eq_9 (aj @dk.eq_10 (aj @dk.eq_11 (aj @dk.eq_12 (aj @dk.eq_13 (aj @dk.eq_14 (aj @dk.eq_15 (aj @dk.eq_16 (aj @dk.eq_17 (aj @dk.eq_18 (aj @dk.eq_19 (aj @dk.eq_20 (aj @dk.eq_21 (aj @dk.eq_22 @dk.eq_23)))))))))))))))))))))))))))))))
def gS{p:Prop}(h:p:=by simp only[gW,reduceIte,Nat.reduceEqDiff,aC]):p:=h
def gR{p:Prop}(h:p:=by simp only[gW,reduceIte,Nat.reduceEqDiff,aC]<;>rfl):p:=h
def gA{p:Prop}(h:p:=by simp only[gW,reduceIte,Nat.reduceEqDiff,aC]<;>assumption):p:=h
def w9{p q:Prop}(x:q)(f:ae q->p:=by intro h;(repeat' (first|simp(maxSteps:=9999999) (disch:=first|exact dZ|fail) only[gW,reduceIte,Nat.reduceEqDiff,aC, *,-h]|refine dX ?_ ?_<;>(intro _;try omega)));exact h.out;fail_if_success refine ?_):p:=f ⟨x⟩
def bh{a0:Prop}{p q:Prop}(j:a0)(x:q)(f:a0->ae q->p:=by intro j h;(repeat' (first|simp(maxSteps:=9999999) (disch:=first|exact dZ|fail) only[gW,reduceIte,Nat.reduceEqDiff,aC, *,-h]|refine dX ?_ ?_<;>(intro _;try omega)));exact h.out;fail_if_success refine ?_):p:=f j ⟨x⟩
def iL{a0:Prop}{p:Prop}(j:a0)(f:a0->p:=by intro j;(repeat' (first|simp(maxSteps:=9999999) (disch:=first|exact dZ|fail) only[gW,reduceIte,Nat.reduceEqDiff,aC, *]|refine dX ?_ ?_<;>(intro _;try omega)));fail_if_success refine ?_):p:=f j
def bG{a0 j:Prop}{p q:Prop}(m:a0)(r:j)(x:q)(f:a0->j->ae q->p:=by intro m r h;(repeat' (first|simp(maxSteps:=9999999) (disch:=first|exact dZ|fail) only[gW,reduceIte,Nat.reduceEqDiff,aC, *,-h]|refine dX ?_ ?_<;>(intro _;try omega)));exact h.out;fail_if_success refine ?_):p:=f m r ⟨x⟩
def dV{a0 j:Prop}{p:Prop}(m:a0)(q:j)(f:a0->j->p:=by intro m q;(repeat' (first|simp(maxSteps:=9999999) (disch:=first|exact dZ|fail) only[gW,reduceIte,Nat.reduceEqDiff,aC, *]|refine dX ?_ ?_<;>(intro _;try omega)));fail_if_success refine ?_):p:=f m q
def cK{a0 j m:Prop}{p q:Prop}(r:a0)(s:j)(z:m)(x:q)(f:a0->j->m->ae q->p:=by intro r s z h;(repeat' (first|simp(maxSteps:=9999999) (disch:=first|exact dZ|fail) only[gW,reduceIte,Nat.reduceEqDiff,aC, *,-h]|refine dX ?_ ?_<;>(intro _;try omega)));exact h.out;fail_if_success refine ?_):p:=f r s z ⟨x⟩
def pC{a0 j m:Prop}{p:Prop}(q:a0)(r:j)(s:m)(f:a0->j->m->p:=by intro q r s;(repeat' (first|simp(maxSteps:=9999999) (disch:=first|exact dZ|fail) only[gW,reduceIte,Nat.reduceEqDiff,aC, *]|refine dX ?_ ?_<;>(intro _;try omega)));fail_if_success refine ?_):p:=f q r s
def bA{a0 j m r:Prop}{p q:Prop}(s:a0)(z:j)(A:m)(y3:r)(x:q)(f:a0->j->m->r->ae q->p:=by intro s z A y3 h;(repeat' (first|simp(maxSteps:=9999999) (disch:=first|exact dZ|fail) only[gW,reduceIte,Nat.reduceEqDiff,aC, *,-h]|refine dX ?_ ?_<;>(intro _;try omega)));exact h.out;fail_if_success refine ?_):p:=f s z A y3 ⟨x⟩
def jn{a0 j m q:Prop}{p:Prop}(r:a0)(s:j)(z:m)(y3:q)(f:a0->j->m->q->p:=by intro r s z y3;(repeat' (first|simp(maxSteps:=9999999) (disch:=first|exact dZ|fail) only[gW,reduceIte,Nat.reduceEqDiff,aC, *]|refine dX ?_ ?_<;>(intro _;try omega)));fail_if_success refine ?_):p:=f r s z y3
def nb{a0:Prop}{p q:Prop}(j:a0)(x:q)(f:a0->ae q->p:=by intro j h;(repeat' (first|simp(maxSteps:=9999999) (disch:=first|exact dZ|fail) only[gW,reduceIte,Nat.reduceEqDiff,aC, *,-h]|(refine dX ?_ ?_<;>(intro _;try omega))|refine rx am ?_));exact h.out;fail_if_success refine ?_):p:=f j ⟨x⟩
def jo{a0:Prop}{p:Prop}(j:a0)(f:a0->p:=by intro j;(repeat' (first|simp(maxSteps:=9999999) (disch:=first|exact dZ|fail) only[gW,reduceIte,Nat.reduceEqDiff,aC, *]|(refine dX ?_ ?_<;>(intro _;try omega))|refine rx am ?_));fail_if_success refine ?_):p:=f j
def LX{a0 j:Prop}{p q:Prop}(m:a0)(r:j)(x:q)(f:a0->j->ae q->p:=by intro m r h;(repeat' (first|simp(maxSteps:=9999999) (disch:=first|exact dZ|fail) only[gW,reduceIte,Nat.reduceEqDiff,aC, *,-h]|(refine dX ?_ ?_<;>(intro _;try omega))|refine rx am ?_));exact h.out;fail_if_success refine ?_):p:=f m r ⟨x⟩
def T9{a0 j:Prop}{p:Prop}(m:a0)(q:j)(f:a0->j->p:=by intro m q;(repeat' (first|simp(maxSteps:=9999999) (disch:=first|exact dZ|fail) only[gW,reduceIte,Nat.reduceEqDiff,aC, *]|(refine dX ?_ ?_<;>(intro _;try omega))|refine rx am ?_));fail_if_success refine ?_):p:=f m q
def LY{a0 j m:Prop}{p q:Prop}(r:a0)(s:j)(z:m)(x:q)(f:a0->j->m->ae q->p:=by intro r s z h;(repeat' (first|simp(maxSteps:=9999999) (disch:=first|exact dZ|fail) only[gW,reduceIte,Nat.reduceEqDiff,aC, *,-h]|(refine dX ?_ ?_<;>(intro _;try omega))|refine rx am ?_));exact h.out;fail_if_success refine ?_):p:=f r s z ⟨x⟩
def tT{a0 j m:Prop}{p:Prop}(q:a0)(r:j)(s:m)(f:a0->j->m->p:=by intro q r s;(repeat' (first|simp(maxSteps:=9999999) (disch:=first|exact dZ|fail) only[gW,reduceIte,Nat.reduceEqDiff,aC, *]|(refine dX ?_ ?_<;>(intro _;try omega))|refine rx am ?_));fail_if_success refine ?_):p:=f q r s
def GQ{a0 j m q:Prop}{p:Prop}(r:a0)(s:j)(z:m)(y3:q)(f:a0->j->m->q->p:=by intro r s z y3;(repeat' (first|simp(maxSteps:=9999999) (disch:=first|exact dZ|fail) only[gW,reduceIte,Nat.reduceEqDiff,aC, *]|(refine dX ?_ ?_<;>(intro _;try omega))|refine rx am ?_));fail_if_success refine ?_):p:=f r s z y3
end Go.Proofs.YtcbhpkjbiehcpaaGreatDoor
end
section
namespace Go.Proofs.YtcbhpkjbiehcpaaGreatDoor
open Go.AE Go.NT
def Fq(n):(n.tmod 1073741789<0->fmod n=n.tmod 1073741789+1073741789)/\(¬n.tmod 1073741789<0->fmod n=n.tmod 1073741789)/\ -1073741789<n.tmod 1073741789/\n.tmod 1073741789<1073741789:=by
 unfold fmod Qi;rcases Int.le_total 0 n with h|h
 .rw[FL h];omega
 .obtain⟨f,rfl⟩:∃f,n= -f:=⟨-n,by omega⟩;rw[Int.neg_tmod,FL M];omega
def YU:Tryz.f162.results.toList=[.tmp 2]:=am
def Pl:Tryz.f161.results.toList=[.tmp 2]:=am
def aqF:Tryz.f80.results.toList=[.tmp 4]:=am
def aqG:Tryz.f81.results.toList=[.tmp 4]:=am
def H_(n:Int)(h:Heap):W.call 162 [I n] h=J (.ret (I (fmod n)),h):=by
 obtain⟨f,j,m,q⟩:=Fq n;unfold I;refine cr O Tryz.func162 O ?_;by_cases c:n.tmod 1073741789<0
 .have e:=f c;clear f j;exact jo @YU
 .have e:=j c;clear f j;exact jo @YU
def yx(n):0<=fmod n/\fmod n<1073741789:=GE n
def Co{a:Int}(h:0<=a):a.tmod 1073741789=a%1073741789:=FL h
def N'(a b:Int)(h:Heap):W.call 81 [I a,I b] h=J (.ret (I (cS a b)),h):=by
 have s:=H_ a;have z:=H_ b;obtain⟨j,q⟩:=yx a;obtain⟨f,r⟩:=yx b;have m:0<=fmod a*fmod b:=Qu j f;have A:fmod a*fmod b<=1073741789*1073741789:=Qt M M f M;have e:cS a b=(fmod a*fmod b).tmod 1073741789:=by rw[Co m];rfl
 rw[e];unfold I at *
 refine cr O Tryz.func81 O ?_;exact jo @aqG
def rA(l:List Int):Int:=l.foldl dx 0
def ZJ(l)(x):rA (l++[x])=dx (rA l) x:=by unfold rA;rw[oD];rfl
def ZI(l):okF (rA l):=by
 rcases List.eq_nil_or_concat l with rfl|⟨f,x,rfl⟩
 .exact BE
 .rw[List.concat_eq_append,ZJ];exact Tu _ _
def gg{α:Type}{l:List α}{i}{x}(h:l[i]?=J x):l.take (i+1)=l.take i++[x]:=by obtain⟨f,rfl⟩:=aT.1 h;rw[List.take_succ_eq_append_getElem f]
def atd(l:List Int)(k:Tok)(Y:F l<=9223372036854775807)(h:Heap):W.call 161 [.list k 1 (ints l)] h=J (.ret (I (rA l)),h):=by
 have C:=cU;have D:=dY;have s3:=eX;refine cr O Tryz.func161 O ?_;refine LX @Pl @cG ?_;refine b_ (λB e h'=>∃i:Nat,i<=F l/\B=F l-i/\e.get 6=.list k 1 (ints l)/\e.get 7=.v (.int .i64 (F l:Nat))/\e.get 8=.v (.int .i64 i)/\e.get 3=.v (.int .i64 (rA (l.take i)))/\e.defers=[]/\h'=h) ?_ (F l) _ _ ?_;rotate_left 1
 .refine⟨0,bY _,O,?_,?_,?_,?_,?_,O⟩<;>(first|assumption|(simp only[gW,reduceIte,aH,aC,cG]<;>rfl))
 rintro B e h' ⟨i,X,rfl,E,N,S,z,T,rfl⟩;by_cases m:i<F l
 .obtain⟨x,f⟩:∃x,l[i]?=J x:=⟨_,aP m⟩;have Z:(ints l)[i]?=J (vz x):=by rw[VY,f];rfl
  have A:(i:Int)<(F (ints l):Int):=by rw[cG];omega
  have r:=H_ x;obtain⟨x1,x2⟩:=yx x;obtain⟨s1,q⟩:=ZI (l.take i);have q:rA (l.take i)<1073741789:=q;have s:rA (l.take (i+1))=(rA (l.take i)+fmod x).tmod 1073741789:=by rw[gg f,ZJ,Co M];show(fmod (rA (l.take i))+fmod x)%Qi=_;rw[AS (ZI _)];rfl
  unfold I at r;generalize rA (l.take i)=z0 at *
  have j:=Ws (h:=h') f;unfold I at j;refine LY @Pl @cG @aU ?_;exact⟨F l-(i+1),by omega,i+1,by omega,O,by trivial,by trivial,by simp,by rw[s],by trivial,by trivial⟩
 .have:i=F l:=by omega
  subst this;rw[fK]at z
  repeat' (first|simp(maxSteps:=9999999) (disch:=first|exact dZ|fail) only[gW,reduceIte,aH,aC,Pl,cG,I, *]|(refine dX ?_ ?_<;>(intro _;try omega))|refine rx am ?_)
def aci(a b:Int)(h:Heap):W.call 80 [I a,I b] h=J (.ret (I (dx a b)),h):=by
 have c:=atd [a,b] .tight b8 h;have e:rA [a,b]=dx a b:=by show dx (dx 0 a) b=dx a b;rw[Dh,Dh,Dh,aaH,Int.emod_add_emod]
 rw[e]at c;have f:fy aa 23 2 [(0,I a),(1,I b)]=J (.list .tight 1 (ints [a,b])):=am;unfold I at *
 refine cr O Tryz.func80 O ?_;exact jo @aqF
def OB(a):∀k:Nat,(a%Qi)^k%Qi=a^k%Qi:=by
 intro k
 induction k with
 |zero=>simp|succ k f=>rw[wx,wx,z',f,Qn _ (Ql _),<-z']
def alG(n)(k):(((fmod n).toNat^k%Q:Nat):Int)=n^k%Qi:=by rw[aaB,Int.natCast_pow,TK,<-Al];exact OB n k
def oE(r:Int)(l:Nat)(s x:Int):Prop:=okF x/\(x*s^l)%Qi=r
def oE.odd{r s x}{l}(h:oE r l s x)(f:l%2=1):oE r (l/2) (cS s s) (cS x s):=by
 refine⟨Dj _ _,?_⟩;rw[<-h.2,tO,tO,z',OB,Qn _ (Ql _),<-z',aax];congr 2;have e:l=2*(l/2)+1:=by omega
 rw[show s^l=s^(2*(l/2)+1) by rw[<-e],wx,FK,Qs,show s*s=s^2 by rw[wx,wx,Qy,J2]]
def oE.even{r s x}{l}(h:oE r l s x)(f:l%2=0):oE r (l/2) (cS s s) x:=by
 refine⟨h.1,?_⟩;rw[<-h.2,tO,z',OB,<-z'];congr 2;have e:l=2*(l/2):=by omega
 rw[show s^l=s^(2*(l/2)) by rw[<-e],FK,show s*s=s^2 by rw[wx,wx,Qy,J2]]
def oE.done{r s x}(h:oE r 0 s x):x=r:=by rw[<-h.2,Qy,JZ];exact(aav h.1.1 h.1.2).symm
def oE.start(n):oE (ej n) 1073741787 n 1:=by
 refine⟨by unfold okF;decide,?_⟩;have e:(ej n)=(((fmod n).toNat^(Q-2)%Q:Nat):Int):=by unfold ej;rw[Gx aY aY aY,Ag]
 rw[e,alG,J2];rfl
def E9:Tryz.f222.results.toList=[.tmp 2,.tmp 3]:=am
def ajP(n:Int)(h:Heap):W.call 222 [I n] h=J (.ret (.tuple [I (if fmod n=0 then 0 else ej n),I (if fmod n=0 then 90 else 0)]),h):=by
 have S:=H_ n;by_cases q:fmod n=0
 .rw[av q,av q];unfold I at *
  refine cr O abI O ?_;exact jo @E9
 .rw[aL q,aL q];have z:=ae.mk (oE.start n);unfold I at *
  refine cr O abI O ?_;refine nb @E9 ?_;refine b_ (λE e h'=>∃(r x:Int),E<=1073741787/\oE (ej n) E r x/\e.get 4=.v (.int .i64 (E:Nat))/\e.get 5=.v (.int .i64 r)/\e.get 2=.v (.int .i64 x)/\e.defers=[]/\h'=h) ?_ 1073741787 _ _ ?_;rotate_left 1
  .exact⟨n,1,aV _,z.out,by exact gR,by exact gR,by exact gR,by exact gR,O⟩
  rintro l e h' ⟨r,x,hl,m,X,Y,T,Z,rfl⟩;have s:=ae.mk m;have A:=N' x r;have B:=N' r r;unfold I at A B;by_cases C:l=0
  .subst C;have hx:=m.done;clear m;exact jo @E9
  .have D:((l:Nat):Int).tdiv 2=((l/2:Nat):Int):=(by rw[aaG M];omega);have f:((l:Nat):Int).tmod 2=((l%2:Nat):Int):=(by rw[FL M];omega);have N:¬((l:Nat):Int)=0:=(by omega);clear m;rcases CP l with j|j
   .rw[j]at f;refine nb @E9 ?_;exact⟨l/2,by omega,_,_,by omega,s.out.even j,by trivial,by trivial,by trivial,by trivial,by trivial⟩
   .rw[j]at f;refine nb @E9 ?_;exact⟨l/2,by omega,_,_,by omega,s.out.odd j,by trivial,by trivial,by trivial,by trivial,by trivial⟩
def Jj(b:Bool):Nat:=if b=V then 0 else 1
def pc(x a n:Nat)(f:Bool):Prop:=1<=a/\n%2=1/\mO a n/\a<=P/\n<=P/\mu x P%2=(mu a n+Jj f)%2
def Y'(b):(Jj (!b)+1)%2=Jj b%2:=by cases b<;>rfl
def pc.even{x a n}{f}(h:pc x a n f)(C:a%2=0):pc x (a/2) n (if n%8=3∨n%8=5 then !f else f):=by
 obtain⟨A,h2,q,B,r,s⟩:=h;have e:a=2*(a/2):=by omega
 have j:mO (2*(a/2)) n:=by rw[<-e];exact q
 have m:=asO h2 j;rw[<-e]at m;refine⟨M,h2,abc j,by omega,r,?_⟩;rw[s];have:=Y' f;split at m<;>rename_i z
 .rw[av z];omega
 .rw[aL z];omega
def pc.odd{x a n}{f}(h:pc x a n f)(m:a%2=1)(E:1<a):pc x (n%a) a (if a%4=3/\n%4=3 then !f else f):=by
 obtain⟨C,h2,j,r,D,s⟩:=h;have A:=asQ h2 m j;have N:=kC n (M:0<a);have B:n%a≠0:=λq=>by have z:=CN q;have:=Nat.dvd_gcd (Nat.dvd_refl a) z;rw[j]at this;have:=Ae aY this;omega
 refine⟨M,m,afB j,by omega,r,?_⟩;rw[s];have:=Y' f;split at A<;>rename_i q
 .rw[av q];omega
 .rw[aL q];omega
def pc.done{x n}{j}(m:1<=x)(q:x<P)(h:pc x 1 n j):elem x=j:=by
 obtain⟨-,h2,-,-,-,f⟩:=h;rw[alB (h:=n/2) M]at f;rw[af8 m q];cases j
 .rw[b7];rw[f];decide
 .rw[bQ];rw[f];rfl
def pc.start{x}(f:1<=x)(j:x<P):pc x x P V:=⟨f,by decide,Q1.coprime f j,mR j,aV _,by rw[show Jj V=0 from O,xU]⟩
def rt:Tryz.f66.results.toList=[.tmp 2]:=am
def Jw(a b):((a:Nat):Int).tdiv (b:Nat)=((a/b:Nat):Int):=by rw[aaG M];simp
def pS(a b):((a:Nat):Int).tmod (b:Nat)=((a%b:Nat):Int):=by rw[FL M];simp
def Gp{x}(h:x<1∨2147483579<=x):bX x=ah:=by
 unfold bX;rcases h with h|h
 .rw[b7 M];rfl
 .have:elem x.toNat=ah:=by rw[aal];intro j;have:=(elem_iff.1 j).2.1;have f:P=2147483579:=rfl;omega
  rw[this,Bool.and_false]
def JD(x:Int)(h:Heap):W.call 66 [I x] h=J (.ret (.v (.bool (bX x))),h):=by
 by_cases hx:x<1
 .rw[Gp (.inl hx)];unfold I;refine cr O Rg O ?_;exact jo @rt
 by_cases E:2147483579<=x
 .rw[Gp (.inr E)];unfold I;refine cr O Rg O ?_;exact jo @rt
 obtain⟨n0,rfl⟩:∃n:Nat,x=n:=⟨x.toNat,by omega⟩;have h1:1<=n0:=by omega
 have h2:n0<P:=by have:P=2147483579:=rfl;omega
 have B:∀{X:Nat} {j:Bool},pc n0 1 X j->bX (n0:Int)=j:=λD=>by unfold bX;rw[bQ M,fD,D.done h1 h2];rfl
 have k0:=ae.mk (pc.start h1 h2);have kf:=ae.mk @B;clear B;unfold I;generalize bX (n0:Int)=res at *
 have hnP:(n0:Int)<2147483579:=by omega
 clear h2;refine cr O Rg O ?_;refine nb @rt ?_;refine b_ (λX e h'=>∃(n:Nat) (j:Bool),pc n0 X n j/\e.get 0=.v (.int .i64 (X:Nat))/\e.get 3=.v (.int .i64 (n:Nat))/\e.get 4=.v (.bool j)/\e.defers=[]/\h'=h) ?_ n0 _ _ ?_;rotate_left 1
 .exact⟨2147483579,V,k0.out,by exact gR,by exact gR,by exact gR,by exact gR,O⟩
 rintro a e h' ⟨n,j,f,g0,g3,g4,hd,rfl⟩;have s:=ae.mk f;have GZ:=f.1;have ha4:a<=2147483579:=f.2.2.2.1;by_cases aiT:a=1
 .subst aiT;have hr:=kf.out f;clear f;exact jo @rt
 have MB:(1:Int)<(a:Int):=by omega
 clear f;refine nb @rt ?_;refine b_ (λX e T=>∃(j:Bool),X<=a/\pc n0 X n j/\e.get 0=.v (.int .i64 (X:Nat))/\e.get 3=.v (.int .i64 (n:Nat))/\e.get 4=.v (.bool j)/\e.defers=[]/\T=h') ?_ a _ _ ?_;rotate_left 1
 .exact⟨j,aV _,s.out,by first|assumption|(exact gA),by first|assumption|(exact gA),by first|assumption|(exact gA),by first|assumption|(exact gA),O⟩
 clear g0 g3 g4 hd s j;rintro b e T ⟨j,hba,f,g0,g3,g4,hd,rfl⟩;have s:=ae.mk f;have ou:=f.1;have hn2:=f.2.1;have avw:n<=2147483579:=f.2.2.2.2.1;clear f;have m2:((b:Nat):Int).tmod 2=((b%2:Nat):Int):=pS b 2;have d2:((b:Nat):Int).tdiv 2=((b/2:Nat):Int):=Jw b 2;have S:((n:Nat):Int).tmod 8=((n%8:Nat):Int):=pS n 8;have r:((b:Nat):Int).tmod 4=((b%4:Nat):Int):=pS b 4;have Y:((n:Nat):Int).tmod 4=((n%4:Nat):Int):=pS n 4;have mnb:=pS n b;rcases CP b with A|A
 .have m:=s.out.even A;rw[A,qG]at m2;by_cases c3:n%8=3
  .rw[av (.inl c3)]at m;have S:((n:Nat):Int).tmod 8=3:=(by rw[S,c3];rfl);have C:=ae.mk m;clear m;refine nb @rt ?_;exact⟨b/2,by omega,_,by omega,C.out,(by first|exact aX|exact rfl),(by first|exact aX|exact rfl),(by first|exact aX|exact rfl),(by first|exact aX|exact rfl),(by first|exact aX|exact rfl)⟩
  .by_cases z:n%8=5
   .rw[av (.inr z)]at m;have S:((n:Nat):Int).tmod 8=5:=(by rw[S,z];rfl);have C:=ae.mk m;clear m;refine nb @rt ?_;exact⟨b/2,by omega,_,by omega,C.out,(by first|exact aX|exact rfl),(by first|exact aX|exact rfl),(by first|exact aX|exact rfl),(by first|exact aX|exact rfl),(by first|exact aX|exact rfl)⟩
   .rw[aL M]at m;have C:=ae.mk m;have c3':¬(((n%8:Nat):Int)=3):=(by omega);have c5':¬(((n%8:Nat):Int)=5):=(by omega);clear m;refine nb @rt ?_;exact⟨b/2,by omega,_,by omega,C.out,(by first|exact aX|exact rfl),(by first|exact aX|exact rfl),(by first|exact aX|exact rfl),(by first|exact aX|exact rfl),(by first|exact aX|exact rfl)⟩
 .rw[A,Qw]at m2;by_cases aif:b=1
  .subst aif;have hr:=kf.out s.out;exact jo @rt
  .have q:=s.out.odd A M;have fP:¬((b:Nat):Int)=1:=(by omega);have hnz:¬((b:Nat):Int)=0:=(by omega);have di:=kC n (M:0<b);by_cases Z:b%4=3
   .by_cases z:n%4=3
    .rw[av ⟨Z,z⟩]at q;have r:((b:Nat):Int).tmod 4=3:=(by rw[r,Z];rfl);have Y:((n:Nat):Int).tmod 4=3:=(by rw[Y,z];rfl);have N:=ae.mk q;clear q;refine nb @rt ?_;exact⟨n%b,by omega,b,_,N.out,(by first|exact aX|exact rfl),(by first|exact aX|exact rfl),(by first|exact aX|exact rfl),(by first|exact aX|exact rfl),(by first|exact aX|exact rfl)⟩
    .rw[aL M]at q;have r:((b:Nat):Int).tmod 4=3:=(by rw[r,Z];rfl);have c5':¬(((n%4:Nat):Int)=3):=(by omega);have N:=ae.mk q;clear q;refine nb @rt ?_;exact⟨n%b,by omega,b,_,N.out,(by first|exact aX|exact rfl),(by first|exact aX|exact rfl),(by first|exact aX|exact rfl),(by first|exact aX|exact rfl),(by first|exact aX|exact rfl)⟩
   .rw[aL M]at q;have c4':¬(((b%4:Nat):Int)=3):=(by omega);have N:=ae.mk q;clear q;refine nb @rt ?_;exact⟨n%b,by omega,b,_,N.out,(by first|exact aX|exact rfl),(by first|exact aX|exact rfl),(by first|exact aX|exact rfl),(by first|exact aX|exact rfl),(by first|exact aX|exact rfl)⟩
def YF:Tryz.f193.results.toList=[.tmp 2]:=am
def aqJ:Tryz.f130.results.toList=[.tmp 4]:=am
def aqK:Tryz.f202.results.toList=[.tmp 4]:=am
def I8:Tryz.f250.results.toList=[.tmp 4]:=am
def YN:Tryz.f231.results.toList=[.tmp 2,.tmp 3]:=am
def I5:Tryz.f177.results.toList=[.tmp 4]:=am
def Po:Tryz.f111.results.toList=[.tmp 2]:=am
def EV(n:Int)(h:Heap):W.call 193 [I n] h=J (.ret (I (fmod n)),h):=by
 obtain⟨f,j,m,q⟩:=Fq n;unfold I;refine cr O Tryz.func193 O ?_;by_cases c:n.tmod 1073741789<0
 .have e:=f c;clear f j;exact jo @YF
 .have e:=j c;clear f j;exact jo @YF
def OV(a b:Int)(h:Heap):W.call 202 [I a,I b] h=J (.ret (I (cS a b)),h):=by
 have s:=EV a;have z:=EV b;obtain⟨j,q⟩:=yx a;obtain⟨f,r⟩:=yx b;have m:0<=fmod a*fmod b:=Qu j f;have A:fmod a*fmod b<=1073741789*1073741789:=Qt M M f M;have e:cS a b=(fmod a*fmod b).tmod 1073741789:=by rw[Co m];rfl
 rw[e];unfold I at *
 refine cr O Tryz.func202 O ?_;exact jo @aqK
def aob(a b:Int)(h:Heap):W.call 130 [I a,I b] h=J (.ret (I (dx a b)),h):=by
 have r:=EV a;have s:=EV b;obtain⟨f,j⟩:=yx a;obtain⟨m,q⟩:=yx b;have e:dx a b=(fmod a+fmod b).tmod 1073741789:=by rw[Co M];rfl
 rw[e];unfold I at *
 refine cr O Tryz.func130 O ?_;exact jo @aqJ
def aqa(r a:Int)(n:Nat)(E:n<=1073741787)(f:oE r n a 1)(h:Heap):W.call 250 [I a,I (n:Nat)] h=J (.ret (I r),h):=by
 have z:=ae.mk f;clear f;unfold I at *
 refine cr O Tryz.func250 O ?_;refine nb @I8 ?_;refine b_ (λN e h'=>∃(q x:Int),N<=1073741787/\oE r N q x/\e.get 1=.v (.int .i64 (N:Nat))/\e.get 0=.v (.int .i64 q)/\e.get 5=.v (.int .i64 x)/\e.defers=[]/\h'=h) ?_ n _ _ ?_;rotate_left 1
 .exact⟨a,1,E,z.out,by exact gR,by exact gR,by exact gR,by exact gR,O⟩
 rintro l e h' ⟨q,x,hl,f,X,T,Y,Z,rfl⟩;have s:=ae.mk f;have A:=OV x q;have B:=OV q q;unfold I at A B;by_cases C:l=0
 .subst C;have hx:=f.done;clear f;exact jo @I8
 .have D:((l:Nat):Int).tdiv 2=((l/2:Nat):Int):=Jw l 2;have j:((l:Nat):Int).tmod 2=((l%2:Nat):Int):=pS l 2;have S:(0:Int)<((l:Nat):Int):=by omega
  clear f;rcases CP l with m|m
  .rw[m,qG]at j;refine nb @I8 ?_;exact⟨l/2,by omega,_,_,by omega,s.out.even m,(by first|exact aX|exact rfl),(by first|exact aX|exact rfl),(by first|exact aX|exact rfl),(by first|exact aX|exact rfl),(by first|exact aX|exact rfl)⟩
  .rw[m,Qw]at j;refine nb @I8 ?_;exact⟨l/2,by omega,_,_,by omega,s.out.odd m,(by first|exact aX|exact rfl),(by first|exact aX|exact rfl),(by first|exact aX|exact rfl),(by first|exact aX|exact rfl),(by first|exact aX|exact rfl)⟩
def aoV(n:Int)(h:Heap):W.call 231 [I n] h=J (.ret (.tuple [I (if fmod n=0 then 0 else ej n),I (if fmod n=0 then 90 else 0)]),h):=by
 have m:=EV n;have j:=aqa (ej n) n 1073741787 (aV _) (oE.start n);by_cases f:fmod n=0
 .rw[av f,av f];clear j;unfold I at *
  refine cr O abK O ?_;exact jo @YN
 .rw[aL f,aL f];have j:∀h,W.call 250 [.v (.int .i64 n),.v (.int .i64 1073741787)] h=J (.ret (.v (.int .i64 (ej n))),h):=j;unfold I at *
  refine cr O abK O ?_;exact jo @YN
def mT(r n a c:Nat):Prop:=c<P/\a<P/\c*a^n%P=r
def mT.odd{r n a c}(h:mT r n a c)(f:n%2=1):mT r (n/2) (a*a%P) (c*a%P):=by refine⟨kC _ aY,kC _ aY,?_⟩;rw[<-h.2.2,abk,rG,<-Kp,<-rG,QT,<-QX,<-QW,<-abr,show(2*(n/2)).succ=n by omega]
def mT.even{r n a c}(h:mT r n a c)(f:n%2=0):mT r (n/2) (a*a%P) c:=by refine⟨h.1,kC _ aY,?_⟩;rw[<-h.2.2,rG,<-Kp,<-rG,<-QX,<-QW,(M:2*(n/2)=n)]
def mT.done{r a c}(h:mT r 0 a c):c=r:=by rw[<-h.2.2,Nat.pow_zero,jS,mS h.1]
def mT.start{a n}(f:a<P)(j:n<2^31):mT (pQ a n) n a 1:=⟨aY,f,by rw[Oy j,Ag]⟩
def mT.bound{r n a c}(h:mT r n a c):c*a<=4611685722074649241/\a*a<=4611685722074649241:=by obtain⟨f,h2,-⟩:=h;have f:c<=2147483579:=mR f;have h2:a<=2147483579:=mR h2;exact⟨jt f h2,jt h2 h2⟩
def ap9(r a n:Nat)(C:n<=2147483647)(j:mT r n a 1)(h:Heap):W.call 177 [I (a:Nat),I (n:Nat)] h=J (.ret (I (r:Nat)),h):=by
 have z:=ae.mk j;clear j;unfold I at *
 refine cr O Tryz.func177 O ?_;refine nb @I5 ?_;refine b_ (λD e h'=>∃(f x:Nat),D<=2147483647/\mT r D f x/\e.get 1=.v (.int .i64 (D:Nat))/\e.get 0=.v (.int .i64 (f:Nat))/\e.get 5=.v (.int .i64 (x:Nat))/\e.defers=[]/\h'=h) ?_ n _ _ ?_;rotate_left 1
 .exact⟨a,1,C,z.out,by exact gR,by exact gR,by exact gR,by exact gR,O⟩
 rintro l e h' ⟨f,x,hl,j,g1,g0,g5,hd,rfl⟩;have s:=ae.mk j;obtain⟨N,S⟩:=j.bound;by_cases A:l=0
 .subst A;have hx:=j.done;clear j;exact jo @I5
 .have B:((l:Nat):Int).tdiv 2=((l/2:Nat):Int):=Jw l 2;have m:((l:Nat):Int).tmod 2=((l%2:Nat):Int):=pS l 2;have E:(0:Int)<((l:Nat):Int):=by omega
  have T:((x:Nat):Int)*(f:Nat)=((x*f:Nat):Int):=(Cy _ _).symm;have X:((f:Nat):Int)*(f:Nat)=((f*f:Nat):Int):=(Cy _ _).symm;have Y:((x*f:Nat):Int).tmod 2147483579=((x*f%P:Nat):Int):=pS (x*f) 2147483579;have Z:((f*f:Nat):Int).tmod 2147483579=((f*f%P:Nat):Int):=pS (f*f) 2147483579;clear j;rcases CP l with q|q
  .rw[q,qG]at m;refine nb @I5 ?_;exact⟨l/2,by omega,_,_,by omega,s.out.even q,(by first|exact aX|exact rfl),(by first|exact aX|exact rfl),(by first|exact aX|exact rfl),(by first|exact aX|exact rfl),(by first|exact aX|exact rfl)⟩
  .rw[q,Qw]at m;refine nb @I5 ?_;exact⟨l/2,by omega,_,_,by omega,s.out.odd q,(by first|exact aX|exact rfl),(by first|exact aX|exact rfl),(by first|exact aX|exact rfl),(by first|exact aX|exact rfl),(by first|exact aX|exact rfl)⟩
def fj(a n:Int):Int:=if bX a=V then ((ek a.toNat n:Nat):Int) else 0
def oK(a:Int):Int:=if bX a=V then 0 else 100
def nV(a b:Int):Int:=if bX a=V/\bX b=V then ((a.toNat*b.toNat%P:Nat):Int) else 0
def rM(a b:Int):Int:=if bX a=V/\bX b=V then 0 else 100
def Gm{a}(h:bX a=V):∃n:Nat,a=n/\elem n=V/\1<=n/\n<P:=by unfold bX at h;rw[bm,decide_eq_true_eq]at h;have:=elem_iff.1 h.2;exact⟨a.toNat,by omega,h.2,this.1,this.2.1⟩
def arl(x:Int)(h:Heap):W.call 111 [I x] h=J (.ret (.v (.bool (bX x))),h):=by
 by_cases f:x<1
 .rw[Gp (.inl f)];unfold I;refine cr O Q9 O ?_;exact jo @Po
 by_cases j:2147483579<=x
 .rw[Gp (.inr j)];unfold I;refine cr O Q9 O ?_;exact jo @Po
 obtain⟨n0,rfl⟩:∃n:Nat,x=n:=⟨x.toNat,by omega⟩;have h2:n0<P:=by have:P=2147483579:=rfl;omega
 have s:∀h,W.call 177 [.v (.int .i64 (n0:Nat)),.v (.int .i64 1073741789)] h=J (.ret (.v (.int .i64 (pQ n0 Q:Nat))),h):=ap9 (pQ n0 Q) n0 1073741789 aY (mT.start h2 aY);have e:bX (n0:Int)=decide (((pQ n0 Q:Nat):Int)=1):=by
  unfold bX elem;rw[bQ M,fD,bQ M,bQ h2,mL,mL,mL,JM,decide_eq_true_eq];constructor
  .intro r;rw[lN r];rfl
  .intro r;have:pQ n0 Q=1:=(by omega);rw[this];rfl
 rw[e];generalize pQ n0 Q=z at *
 have m:(1:Int)<=(n0:Int):=by omega
 have q:(n0:Int)<2147483579:=by omega
 clear e h2 f j;unfold I;refine cr O Q9 O ?_;exact jo @Po
def Pj:Tryz.f67.results.toList=[.tmp 4,.tmp 5]:=am
def Pm:Tryz.f148.results.toList=[.tmp 2]:=am
def mul_tmod{a b}(j:a<P)(m:b<P):((a:Nat):Int)*(b:Nat)<=4611685722074649241/\(0:Int)<=((a:Nat):Int)*(b:Nat)/\(((a:Nat):Int)*(b:Nat)).tmod 2147483579=((a*b%P:Nat):Int):=by have f:a<=2147483579:=mR j;have h2:b<=2147483579:=mR m;have:=jt f h2;have e:((a:Nat):Int)*(b:Nat)=((a*b:Nat):Int):=(Cy _ _).symm;rw[e];exact⟨M,by omega,pS (a*b) 2147483579⟩
def ahz(a b:Int)(h:Heap):W.call 67 [I a,I b] h=J (.ret (.tuple [I (nV a b),I (rM a b)]),h):=by
 have m:=JD a;have r:=JD b;unfold nV rM;by_cases f:bX a=V
 .by_cases j:bX b=V
  .rw[av ⟨f,j⟩,av ⟨f,j⟩];rw[f]at m;rw[j]at r;obtain⟨x,rfl,-,-,D⟩:=Gm f;obtain⟨y,rfl,-,-,E⟩:=Gm j;obtain⟨B,C,-⟩:=mul_tmod D E;simp only[fD];have A:((x:Nat):Int)*(y:Nat)=((x*y:Nat):Int):=(Cy _ _).symm;have N:((x*y:Nat):Int).tmod 2147483579=((x*y%P:Nat):Int):=pS (x*y) 2147483579;rw[A]at B C;have S:x*y%P<2147483579:=kC _ aY;clear f j;unfold I at *
   refine cr O Rh O ?_;exact jo @Pj
  .have z:bX b=ah:=(by simpa using j);rw[aL (λq=>j q.2),aL (λq=>j q.2)];rw[f]at m;rw[z]at r;unfold I at *
   refine cr O Rh O ?_;exact jo @Pj
 .have s:bX a=ah:=by simpa using f
  rw[aL (λq=>f q.1),aL (λq=>f q.1)];rw[s]at m;unfold I at *
  refine cr O Rh O ?_;exact jo @Pj
def q'(l:List Int):Int:=l.foldl (λa x=>(a*(x.tmod 1073741789+1073741789)).tmod 1073741789) 1
def akE(l)(x):q' (l++[x])=(q' l*(x.tmod 1073741789+1073741789)).tmod 1073741789:=by unfold q';rw[oD];rfl
def akD(n):q' [n]=fmod n:=by
 obtain⟨f,j,m,q⟩:=Fq n;show(1*(n.tmod 1073741789+1073741789)).tmod 1073741789=fmod n;rw[J2,Co M];by_cases c:n.tmod 1073741789<0
 .rw[f c];omega
 .rw[j c];omega
def Wz{a x:Int}(h:0<=a/\a<1073741789):0<=a*(x.tmod 1073741789+1073741789)/\a*(x.tmod 1073741789+1073741789)<=2305843013508661242/\0<=(a*(x.tmod 1073741789+1073741789)).tmod 1073741789/\(a*(x.tmod 1073741789+1073741789)).tmod 1073741789<1073741789:=by obtain⟨-,-,j,m⟩:=Fq x;have f:0<=a*(x.tmod 1073741789+1073741789):=Qu h.1 M;have q:a*(x.tmod 1073741789+1073741789)<=1073741789*2147483578:=Qt M M M M;rw[Co f];omega
def akC(l):0<=q' l/\q' l<1073741789:=by
 unfold q';have f:∀(l:List Int) (a:Int),0<=a/\a<1073741789->0<=l.foldl (λa x=>(a*(x.tmod 1073741789+1073741789)).tmod 1073741789) a/\l.foldl (λa x=>(a*(x.tmod 1073741789+1073741789)).tmod 1073741789) a<1073741789:=by
  intro l
  induction l with
  |nil=>intro a h;exact h|cons x l j=>intro a h;exact j _ (Wz h).2.2
 exact f l 1 ⟨aY,by decide⟩
def akF(l:List Int)(k:Tok)(X:F l<=9223372036854775807)(h:Heap):W.call 148 [.list k 1 (ints l)] h=J (.ret (I (q' l)),h):=by
 have B:=cU;have C:=dY;have s3:=eX;refine cr O Tryz.func148 O ?_;refine LX @Pm @cG ?_;refine b_ (λz e h'=>∃i:Nat,i<=F l/\z=F l-i/\e.get 6=.list k 1 (ints l)/\e.get 7=.v (.int .i64 (F l:Nat))/\e.get 8=.v (.int .i64 i)/\e.get 3=.v (.int .i64 (q' (l.take i)))/\e.defers=[]/\h'=h) ?_ (F l) _ _ ?_;rotate_left 1
 .refine⟨0,bY _,O,?_,?_,?_,?_,?_,O⟩<;>(first|assumption|(simp only[gW,reduceIte,aH,aC,cG]<;>rfl))
 rintro z e h' ⟨i,T,rfl,D,E,N,r,S,rfl⟩;by_cases j:i<F l
 .obtain⟨x,m⟩:∃x,l[i]?=J x:=⟨_,aP j⟩;have s:(i:Int)<(F (ints l):Int):=by rw[cG];omega
  obtain⟨-,-,x1,x2⟩:=Fq x;obtain⟨Y,Z,A,s4⟩:=Wz (x:=x) (akC (l.take i));have q:q' (l.take (i+1))=(q' (l.take i)*(x.tmod 1073741789+1073741789)).tmod 1073741789:=by rw[gg m,akE]
  generalize q' (l.take i)=z0 at *
  have f:=Ws (h:=h') m;unfold I at f;refine LY @Pm @cG @aU ?_;exact⟨F l-(i+1),by omega,i+1,by omega,O,by trivial,by trivial,by simp,by rw[q],by trivial,by trivial⟩
 .have:i=F l:=by omega
  subst this;rw[fK]at r
  repeat' (first|simp(maxSteps:=9999999) (disch:=first|exact dZ|fail) only[gW,reduceIte,aH,aC,Pm,cG,I, *]|(refine dX ?_ ?_<;>(intro _;try omega))|refine rx am ?_)
def Yb{h:Heap}{z cs}{b}(f:b=F h.boxes):(h.push z).put b cs=h.push cs:=by subst f;exact mg h z cs
def anG{h:Heap}{z cs}{b}(m:b≠F h.boxes):(h.push z).put b cs=(h.put b cs).push z:=by
 unfold Heap.push Heap.put;simp only;congr 1;rcases dp b (F h.boxes) with j|f
 .rw[List.set_append_left _ _ j]
 .rw[FQ _ _ f,aa8 (by simp;omega),aa8 f]
def aqM:Tryz.f147.results.toList=[.tmp 4]:=am
def O8:Tryz.f216.results.toList=[]:=am
def Pg:Tryz.f75.results.toList=[.cell 4 3,.tmp 5]:=am
def JF:(fW aa 3).bind U.bF=J [I 0]:=am
def acC{t}{x y}{n}(q:n<=9223372036854775807):cy aa .and t x y (.v (.int .i64 (n:Nat))) (.v (.int .i64 1))=J (.v (.int .i64 ((n%2:Nat):Int))):=by
 rw[pZ];congr 3;have f:BitVec.ofInt IntKind.i64.bits (n:Int)=BitVec.ofNat 64 n:=by apply BitVec.eq_of_toNat_eq;show(BitVec.ofInt 64 (n:Int)).toNat=(BitVec.ofNat 64 n).toNat;rw[BitVec.toNat_ofInt,BitVec.toNat_ofNat];omega
 have j:(BitVec.ofNat 64 n&&&1#64).toNat=n%2:=by rw[BitVec.toNat_and,BitVec.toNat_ofNat,show(1#64:BitVec 64).toNat=1 from O,Nat.and_one_is_mod];omega
 have m:(BitVec.ofInt IntKind.i64.bits (n:Int)&&&BitVec.ofInt IntKind.i64.bits 1).toNat=n%2:=by rw[f];exact j
 rw[m,jm M M]
def arZ{t}{x y}{n}:cy aa .shr t x y (.v (.int .i64 (n:Nat))) (.v (.int .u64 1))=J (.v (.int .i64 ((n/2:Nat):Int))):=by rw[Au aY];congr 3;show((n:Nat):Int).fdiv (2^1)=_;rw[Int.fdiv_eq_ediv_of_nonneg _ aY];simp
def lH{h:Heap}{b}{cs}(f:h.boxes[b]?=J cs):h.put b cs=h:=by
 unfold Heap.put;have:h.boxes.set b cs=h.boxes:=by
  apply oh;intro k;rw[lM];split
  .rename_i e;subst e;rw[av (aT.1 f).1,f]
  .rfl
 rw[this]
def lq{H}{b}{x}(f:H.boxes[b]?=J [x]):aD aa Gt H 3 (.ptr (.box b) 0)=J x:=by rw[fm dY f];rfl
def Ck{H}{b}{x}{n}(f:H.boxes[b]?=J [x]):bV aa H 3 (.ptr (.box b) 0) (.v (.int .i64 n))=J (H.put b [.v (.int .i64 n)]):=fC (off:=0) (cs:=[x]) (xs:=[I n]) O eX f O (aV 1)
def Q2(l f:Nat)(rec:gV):Prop:=∀(j c:Nat) (b:Bool) (H:Heap),j<P->c<P->H.loops[l]?=J rec->H.boxes[f]?=J [I (c:Nat)]->W.round l [I (j:Nat),.v (.bool b)] H=J (.ret (.v (.bool V)),H.put f [I ((if b=V then c*j%P else c:Nat):Int)])
def yf{P}{R}{e}{h}{t l:Nat}{args}{ts}(f:e.get t=.yield l):jU P R e h {callee:=.value (.tmp t),args,argTypes:=ts}=R.round l (args.toList.map e.eval) h:=by rw[Si,f]
def asp(l bn j m:Nat)(rec:gV)(hR:Q2 l m rec)(N:bn≠j)(h2:bn≠m)(S:j≠m)(r n a c:Nat)(hn:n<=2147483647)(q:mT r n a c)(h:Heap)
 (z:h.boxes[bn]?=J [I (n:Nat)]) (s:h.boxes[j]?=J [I (a:Nat)]) (A:h.boxes[m]?=J [I (c:Nat)]) (hl:h.loops[l]?=J rec):
 ∃h',W.call 216 [.yield l,.ptr (.box bn) 0,.ptr (.box j) 0] h=J (.ret (.tuple []),h')/\h'.boxes[m]?=J [I (r:Nat)]/\h'.loops=h.loops/\∀f:Heap,Ext f h->F f.boxes<=bn->F f.boxes<=j->F f.boxes<=m->Ext f h':=by
 have kR:=ae.mk hR;have Z:=ae.mk q;clear hR q;refine gI O Tryz.func216 O ?_;refine bh @O8 ?_;refine b_ (λB e h'=>∃(a c:Nat),B<=2147483647/\mT r B a c/\e.get 0=.yield l/\e.get 1=.ptr (.box bn) 0/\e.get 2=.ptr (.box j) 0/\e.defers=[]/\h'.boxes[bn]?=J [I (B:Nat)]/\h'.boxes[j]?=J [I (a:Nat)]/\h'.boxes[m]?=J [I (c:Nat)]/\h'.loops=h.loops/\∀f:Heap,Ext f h->F f.boxes<=bn->F f.boxes<=j->F f.boxes<=m->Ext f h') ?_ n _ _ ?_;rotate_left 1
 .exact⟨a,c,hn,Z.out,by exact gR,by exact gR,by exact gR,by exact gR,z,s,A,O,λ_ x _ _ _=>x⟩
 clear z s A Z n a c hn;rintro B e H ⟨a,c,hm,q,g0,g1,g2,hd,z,s,A,C,hX⟩;have Z:=ae.mk q;have kX:=ae.mk hX;have ln:=lq z;have la:=lq s;clear hX;by_cases f:B=0
 .subst f;have hx:=q.done;subst hx;unfold I at ln la;clear q;refine bh @O8 ?_;exact⟨_,O,A,C,kX.out⟩
 have A':(0:Int)<((B:Nat):Int):=by omega
 have q1:∀(t:aF) (x y:bR),cy aa .and t x y (.v (.int .i64 (B:Nat))) (.v (.int .i64 1))=J (.v (.int .i64 ((B%2:Nat):Int))):=λt x y=>acC M;obtain⟨m1,m2,m3⟩:=mul_tmod q.2.1 q.2.1;have Dv:H.loops[l]?=J rec:=by rw[C];exact hl
 have rd:=kR.out a c (decide ((B%2:Nat)=1)) H q.2.1 q.1 Dv A;have E:mT r (B/2) (a*a%P) (if decide (B%2=1)=V then c*a%P else c):=by
  rcases CP B with D|D
  .rw[D];exact q.even D
  .rw[D];exact q.odd D
 have kI2:=ae.mk E;have avl:decide (((B%2:Nat):Int)=1)=decide (B%2=1):=by rw[decide_eq_decide];omega
 have Y:=(aT.1 z).1;have T:=(aT.1 s).1;have X:=(aT.1 A).1;clear q E hl;generalize (if decide (B%2=1)=V then c*a%P else c)=c2 at *
 generalize decide (B%2=1)=bt at *
 unfold I at *
 have la2:∀x,aD aa Gt (H.put m x) 3 (.ptr (.box j) 0)=J (.v (.int .i64 (a:Nat))):=λx=>lq (by rw[cd S];exact s);have sa2:∀x n,bV aa (H.put m x) 3 (.ptr (.box j) 0) (.v (.int .i64 n))=J ((H.put m x).put j [.v (.int .i64 n)]):=λx n=>Ck (by rw[cd S];exact s);have ln2:∀x y,aD aa Gt ((H.put m x).put j y) 3 (.ptr (.box bn) 0)=J (.v (.int .i64 (B:Nat))):=λx y=>lq (by rw[cd N,cd h2];exact z);have sn2:∀x y n,bV aa ((H.put m x).put j y) 3 (.ptr (.box bn) 0) (.v (.int .i64 n))=J (((H.put m x).put j y).put bn [.v (.int .i64 n)]):=λx y n=>Ck (by rw[cd N,cd h2];exact z);refine cK @O8 @yf @arZ ?_;refine⟨B/2,by omega,a*a%P,c2,by omega,kI2.out,aX,aX,aX,aX,?_,?_,?_,C,λf x p1 p2 p3=>(((kX.out f x p1 p2 p3).fI p3 _).fI p2 _).fI p1 _⟩
 .exact dh (by rw[je,je];exact Y)
 .rw[cd (Ne.symm N)];exact dh (by rw[je];exact T)
 .rw[cd (Ne.symm h2),cd (Ne.symm S)];exact dh X
def IQ{e:Env}{l p q t:Nat}{r:gV}{x y}(j:r.params=#[p,q])(m:r.tmps=e.tmps):(nG l r [x,y]).get t=if q=t then y else if p=t then x else e.get t:=by unfold nG;rw[j,m];have f:=Bw (e.tmps.set p x) q t y;have h2:=Bw e.tmps p t x;show((e.tmps.set p x).set q y).get t=_;rw[f,h2];rfl
def asq(a n:Int)(h:Heap):W.call 147 [I a,I n] h=J (.ret (.func (.func 216) [] [.ptr (.box (F h.boxes+1)) 0,.ptr (.box (F h.boxes)) 0]),(h.push [I a]).push [I n]):=by have f:∀n:Int,(U.v (.int .i64 n)).bF=J [.v (.int .i64 n)]:=λ_=>rfl;unfold I;refine cr O Tryz.func147 O ?_;exact pC @aqM @bg @bE
def ahF(a n:Int)(h:Heap):∃h',W.call 75 [I a,I n] h=J (.ret (.tuple [I (fj a n),I (oK a)]),h')/\Ext h h':=by
 have ca:=JD a;have z3:=JF;have a3:=dY;unfold fj oK;by_cases f:bX a=V;rotate_left 1
 .have Uw:bX a=ah:=by simpa using f
  rw[aL f,aL f];rw[Uw]at ca;unfold I at *
  refine gI O abS O ?_;refine bA @Pg @Ck @lq (aj @Yb @bE) ?_;exact⟨_,O,.push _ _⟩
 rw[av f,av f];rw[f]at ca;obtain⟨x,rfl,-,x1,x2⟩:=Gm f;clear f;have cl:=akF [n] .tight b8;rw[akD]at cl;obtain⟨z,N⟩:∃z:Nat,fmod n=z:=⟨(fmod n).toNat,(TK n).symm⟩;have m:z<Q:=by have:=TJ n;rw[N,fD]at this;exact this
 have B:ek (x:Int).toNat n=pQ x z:=by unfold ek;rw[N,fD,fD]
 rw[B];rw[N]at cl;have bl:fy aa 23 1 [(0,I n)]=J (.list .tight 1 (ints [n])):=am;have bx:∀n:Int,(I n).bF=J [I n]:=λ_=>rfl;have csq:=λH=>asq (x:Nat) (z:Nat) H;have q:=mT.start (n:=z) x2 (oi m aY);generalize pQ x z=z2 at *
 clear B N;have kS:=ae.mk (aj q (aj x2 (aj m x1)));clear q x2 m x1;unfold I at *
 refine gI O abS O ?_;refine bA @Pg @Ck @lq (aj @Yb @bE) ?_;refine bC.gen λe B hd hp nx=>?_;have g4:e.get 4=.ptr (.box (F h.boxes)) 0:=by rw[B];exact gS
 have T:e.get 15=.func (.func 216) [] [.ptr (.box (F h.boxes+1+1)) 0,.ptr (.box (F h.boxes+1)) 0]:=by rw[B];exact gS
 have hdf:e.defers=[]:=by rw[hd];exact gS
 clear B hd hp nx;refine Fa (by rw[AN];exact T) λrec w1 w2 w3 w4 E w6=>?_;have hL:F (((h.push [U.v (.int .i64 1)]).push [U.v (.int .i64 (x:Nat))]).push [U.v (.int .i64 (z:Nat))]).loops=F h.loops:=rfl;rw[hL];have PR:Q2 (F h.loops) (F h.boxes) rec:=by
  intro z0 c b H hs hc hl A;obtain⟨m1,m2,-⟩:=mul_tmod hc hs;have e1:((c:Nat):Int)*(z0:Nat)=((c*z0:Nat):Int):=(Cy _ _).symm;have e3:((c*z0:Nat):Int).tmod 2147483579=((c*z0%P:Nat):Int):=pS (c*z0) 2147483579;rw[e1]at m1 m2;have S:∀t,(nG (F h.loops) rec [I (z0:Nat),.v (.bool b)]).get t=if 17=t then .v (.bool b) else if 16=t then I (z0:Nat) else e.get t:=λt=>IQ w2 w1
  have j:(H.busy (F h.loops) rec).boxes[h.boxes.length]?=J [I (c:Nat)]:=A;have l1:=lq j;have ML:=A;have s1:=λn=>Ck (n:=n) j;refine IT hl (by rw[w2];rfl) ?_;rw[w3];unfold I at *
  refine bC.gen λe2 r jw rU Bc=>?_;have q16:e2.get 16=.v (.int .i64 (z0:Nat)):=by rw[r,S];rfl
  have q17:e2.get 17=.v (.bool b):=by rw[r,S];rfl
  have q4:e2.get 4=.ptr (.box (F h.boxes)) 0:=by rw[r,S];exact g4
  clear r S g4 T cl csq ca bl;have Z:F h.loops<F H.loops:=(aT.1 hl).1;have s:H.loops.set (F h.loops) rec=H.loops:=by
   apply oh;intro k;rw[lM];split
   .rename_i e;subst e;exact hl.symm
   .rfl
  have D:{rec with state:=LoopState.ready,pending:=ag}=rec:=by cases rec;cases E;cases w6;rfl
  cases b with
  |true=>
   refine w9 ?_;refine⟨aX,rec,O,E,?_⟩;refine bG @l1 @s1 ?_;refine⟨{rec with state:=.busy},?_,O,?_⟩
   .show(H.loops.set (F h.loops) _)[h.loops.length]?=_;simp[Z]
   .show(H.put (F h.boxes) _)=_;simp only[Heap.put,Heap.busy,CK,D,s]
  |false=>
   refine w9 ?_;refine⟨aX,rec,O,E,{rec with state:=.busy},?_,O,?_⟩
   .show(H.loops.set (F h.loops) _)[h.loops.length]?=_;simp[Z]
   .have hq:H.put (F h.boxes) [U.v (Value.int IntKind.i64 (c:Nat))]=H:=lH ML;refine(show H.put (F h.boxes) _=H from hq).trans ?_;simp only[Heap.busy,CK,D,s]
 have X:∀{z1:gV},((((h.push [U.v (.int .i64 1)]).push [U.v (.int .i64 (x:Nat))]).push [U.v (.int .i64 (z:Nat))]).loop z1).boxes[h.boxes.length]?=J [I ((1:Nat):Int)]:=λ{z1}=>aN (aN (aK _ _));have Y:∀{z1:gV},((((h.push [U.v (.int .i64 1)]).push [U.v (.int .i64 (x:Nat))]).push [U.v (.int .i64 (z:Nat))]).loop z1).boxes[F h.boxes+1]?=J [I (x:Nat)]:=λ{z1}=>aN (na (by rw[bE]));have j:∀{z1:gV},((((h.push [U.v (.int .i64 1)]).push [U.v (.int .i64 (x:Nat))]).push [U.v (.int .i64 (z:Nat))]).loop z1).boxes[F h.boxes+1+1]?=J [I (z:Nat)]:=λ{z1}=>na (by rw[bE,bE]);have C:=@Ew (((h.push [U.v (.int .i64 1)]).push [U.v (.int .i64 (x:Nat))]).push [U.v (.int .i64 (z:Nat))]) rec;have m:=kS.out.2.2.1;obtain⟨h',c1,c2,c3,c4⟩:=asp (F h.loops) (F h.boxes+1+1) (F h.boxes+1) (F h.boxes) rec PR M M M z2 z x 1 (by unfold Q at m;omega) kS.out.1 _ j Y X C;refine⟨_,h',c1,rec,by rw[c3];exact C,by rw[E];decide,.inl ⟨w6,?_⟩⟩;have hX:Ext h h':=c4 h ((((Ext.push h _).trans (Ext.push _ _)).trans (Ext.push _ _)).trans ((Fr.Bx (bn:=F h.boxes+3) (l0:=h.loops.length) (n0:=h.tn) _ _).ext (by simp only[bE];omega) (aV _) (aV _))) M M (aV _);have di:F h.boxes<F h'.boxes:=(aT.1 c2).1;generalize hH:h'.fb (F h.loops) {rec with state:=.exhausted}=H;have A:H.boxes[h.boxes.length]?=J [I (z2:Nat)]:=by rw[<-hH];exact c2
 have Me:Ext h H:=by rw[<-hH];exact((Fr.EG (bn:=h.boxes.length) (l0:=h.loops.length) (n0:=h.tn) hX (aV _)).trans (.fb (aV _) _)).ext (aV _) (aV _) (aV _)
 clear c1 c2 c3 c4 hH C X Y j PR w1 w2 w3 w4 E w6 hX di;have l1:=lq A;unfold I at *
 have s1:=λn=>Ck (n:=n) A;have l2:∀y,aD aa Gt (H.put (F h.boxes) [.v (.int .i64 y)]) 3 (.ptr (.box (F h.boxes)) 0)=J (.v (.int .i64 y)):=λy=>lq (dh (aT.1 A).1);refine bh @Pg ?_;exact⟨_,O,Me.fI (aV _) _⟩
abbrev bJ(b:List UInt8):List (List U):=b.map iy
def YQ:Tryz.f255.results.toList=[.tmp 2]:=am
def uF:Tryz.f256.results.toList=[.tmp 4]:=am
def YR:Tryz.f257.results.toList=[.tmp 8]:=am
def KK:fH aa 5=J ah:=am
def rB:cC aa 5=J 1:=am
def afL(n)(h):kL aa h 5 69 (.v (.int .u8 n))=J (.v (.int .u32 (IntKind.u32.wrap n)),h):=am
def mC(n)(h):kL aa h 3 176 (.v (.int .i64 n))=J (.v (.int .u64 (IntKind.u64.wrap n)),h):=am
def kK(b:List UInt8):Nat->Nat
 |0=>0
 |i+1=>kK b i*256+(fM b i).toNat
def Fs(b:UInt8):b.toNat<256:=b.toNat_lt
def Rn(b):∀i,kK b i<256^i
 |0=>Nat.zero_lt_one
 |i+1=>by have:=Rn b i;have:=Fs (fM b i);unfold kK;rw[xW];omega
def ab5(b):BitVec.ofNat 32 (kK b 4)=wg b 0:=by unfold wg;refine congrArg (BitVec.ofNat 32) ?_;show(((0*256+(fM b 0).toNat)*256+(fM b 1).toNat)*256+(fM b 2).toNat)*256+(fM b 3).toNat=((fM b 0).toNat*256+(fM b 1).toNat)*256*256+(fM b 2).toNat*256+(fM b 3).toNat;omega
def or8{t}{x y}{n m}(r:n<16777216)(q:m<256):cy aa .or t x y (bM (BitVec.ofNat 32 n<<<8)) (.v (.int .u32 (IntKind.u32.wrap (m:Nat))))=J (bM (BitVec.ofNat 32 (n*256+m))):=by
 have f:U.v (.int .u32 (IntKind.u32.wrap (m:Nat)))=bM (BitVec.ofNat 32 m):=by unfold bM;rw[wrap32,BitVec.toNat_ofNat];congr 2
 rw[f,oz];congr 2;apply BitVec.eq_of_toNat_eq;rw[BitVec.toNat_or,BitVec.toNat_shiftLeft,BitVec.toNat_ofNat,BitVec.toNat_ofNat,BitVec.toNat_ofNat];have:n%2^32=n:=mS M;rw[this];have j:n<<<8=n*256:=by rw[abt]
 have h2:n<<<8%2^32=n<<<8:=mS M;rw[h2,mS (M:m<2^32),<-Nat.shiftLeft_add_eq_or_of_lt (M:m<2^8),j];exact(mS M).symm
def arU{t}{x y}{u}:cy aa .shl t x y (bM u) (.v (.int .u64 8))=J (bM (u<<<8)):=sM (n:=8) aY
def auw(b:List UInt8)(x:U)(h:Heap)(s:dz 1 h x (bJ b))(C:4<=F b):W.call 255 [x] h=J (.ret (bM (wg b 0)),h):=by
 have f:=Tryz.underlying60;have X:=KK;have s5:=rB;obtain⟨y,y1,m⟩:=s.slice (t:=60) (lo:=ag) (hi:=J (.v (.int .i64 4))) (l:=0) (m:=4) aY f rB (.inr ⟨.i64,O,by simpa using C⟩) (.inl ⟨O,O⟩) aY;have y3:=m.len f;rw[show(F ((List.take 4 (bJ b)).drop 0))=4 by simp;omega]at y3;have N:=ae.mk m;clear s m;refine cr O Tryz.func255 O ?_;refine nb @YQ ?_;refine b_ (λS e h'=>∃i:Nat,i<=4/\S=4-i/\e.get 6=y/\e.get 7=.v (.int .i64 (4:Nat))/\e.get 8=.v (.int .i64 i)/\e.get 2=bM (BitVec.ofNat 32 (kK b i))/\e.defers=[]/\h'=h) ?_ 4 _ _ ?_;rotate_left 1
 .refine⟨0,bY _,O,?_,?_,?_,?_,?_,O⟩<;>(first|assumption|(exact gR))
 rintro S e h' ⟨i,E,rfl,Y,Z,g8,B,hd,rfl⟩;by_cases D:i=4
 .subst D;rw[ab5]at B;exact jo @YQ
 .have r:i<4:=by omega
  have j:i<F b:=by omega
  obtain⟨p,p1,A,-⟩:=N.out.index (G:=Gt) (t:=60) (i:=i) (row:=iy (b[i])) aY f rB (by simp[r,j]);have T:=A KK;have q:(iy b[i]).head?=J (.v (.int .u8 (((fM b i).toNat:Nat):Int))):=by unfold fM;rw[eK,aP j];rfl
  rw[q]at T;have z:=Rn b i;have l2:kK b i<16777216:=my z (by have:256^i<=256^3:=Nat.pow_le_pow_right aY M;exact this);have l3:=Fs (fM b i);clear A q z;refine LY @afL @or8 @arU ?_;refine⟨4-(i+1),by omega,i+1,by omega,O,aX,aX,?_,?_,aX,aX⟩
  .rfl
  .rfl
def uB(v:eG)(n)(f:n<32):(v<<<(32-n))|||(v>>>n)=NT.e7 v n:=by unfold NT.e7;rw[BitVec.or_comm]
def apK(v:eG)(h:Heap):W.call 256 [bM v,.v (.int .i64 (-2))] h=J (.ret (bM (NT.e7 v 2)),h):=by
 have f:∀(t:aF) (x y:bR),cy aa .and t x y (.v (.int .u64 (IntKind.u64.wrap (-2)))) (.v (.int .u64 31))=J (.v (.int .u64 30)):=λt x y=>by rw[pZ];rfl
 have j:∀(t:aF) (x y:bR),cy aa .shl t x y (bM v) (.v (.int .u64 30))=J (bM (v<<<30)):=λt x y=>sM (n:=30) aY;have m:∀(t:aF) (x y:bR),cy aa .shr t x y (bM v) (.v (.int .u64 (IntKind.u64.wrap (32-30))))=J (bM (v>>>2)):=λt x y=>rz (n:=2) aY;have q:=uB v 2 aY;refine cr O uZ O ?_;exact tT @uF @mC @oz
def apN(v:eG)(h:Heap):W.call 256 [bM v,.v (.int .i64 (-6))] h=J (.ret (bM (NT.e7 v 6)),h):=by
 have f:∀(t:aF) (x y:bR),cy aa .and t x y (.v (.int .u64 (IntKind.u64.wrap (-6)))) (.v (.int .u64 31))=J (.v (.int .u64 26)):=λt x y=>by rw[pZ];rfl
 have j:∀(t:aF) (x y:bR),cy aa .shl t x y (bM v) (.v (.int .u64 26))=J (bM (v<<<26)):=λt x y=>sM (n:=26) aY;have m:∀(t:aF) (x y:bR),cy aa .shr t x y (bM v) (.v (.int .u64 (IntKind.u64.wrap (32-26))))=J (bM (v>>>6)):=λt x y=>rz (n:=6) aY;have q:=uB v 6 aY;refine cr O uZ O ?_;exact tT @uF @mC @oz
def apO(v:eG)(h:Heap):W.call 256 [bM v,.v (.int .i64 (-7))] h=J (.ret (bM (NT.e7 v 7)),h):=by
 have f:∀(t:aF) (x y:bR),cy aa .and t x y (.v (.int .u64 (IntKind.u64.wrap (-7)))) (.v (.int .u64 31))=J (.v (.int .u64 25)):=λt x y=>by rw[pZ];rfl
 have j:∀(t:aF) (x y:bR),cy aa .shl t x y (bM v) (.v (.int .u64 25))=J (bM (v<<<25)):=λt x y=>sM (n:=25) aY;have m:∀(t:aF) (x y:bR),cy aa .shr t x y (bM v) (.v (.int .u64 (IntKind.u64.wrap (32-25))))=J (bM (v>>>7)):=λt x y=>rz (n:=7) aY;have q:=uB v 7 aY;refine cr O uZ O ?_;exact tT @uF @mC @oz
def apF(v:eG)(h:Heap):W.call 256 [bM v,.v (.int .i64 (-11))] h=J (.ret (bM (NT.e7 v 11)),h):=by
 have f:∀(t:aF) (x y:bR),cy aa .and t x y (.v (.int .u64 (IntKind.u64.wrap (-11)))) (.v (.int .u64 31))=J (.v (.int .u64 21)):=λt x y=>by rw[pZ];rfl
 have j:∀(t:aF) (x y:bR),cy aa .shl t x y (bM v) (.v (.int .u64 21))=J (bM (v<<<21)):=λt x y=>sM (n:=21) aY;have m:∀(t:aF) (x y:bR),cy aa .shr t x y (bM v) (.v (.int .u64 (IntKind.u64.wrap (32-21))))=J (bM (v>>>11)):=λt x y=>rz (n:=11) aY;have q:=uB v 11 aY;refine cr O uZ O ?_;exact tT @uF @mC @oz
def apG(v:eG)(h:Heap):W.call 256 [bM v,.v (.int .i64 (-13))] h=J (.ret (bM (NT.e7 v 13)),h):=by
 have f:∀(t:aF) (x y:bR),cy aa .and t x y (.v (.int .u64 (IntKind.u64.wrap (-13)))) (.v (.int .u64 31))=J (.v (.int .u64 19)):=λt x y=>by rw[pZ];rfl
 have j:∀(t:aF) (x y:bR),cy aa .shl t x y (bM v) (.v (.int .u64 19))=J (bM (v<<<19)):=λt x y=>sM (n:=19) aY;have m:∀(t:aF) (x y:bR),cy aa .shr t x y (bM v) (.v (.int .u64 (IntKind.u64.wrap (32-19))))=J (bM (v>>>13)):=λt x y=>rz (n:=13) aY;have q:=uB v 13 aY;refine cr O uZ O ?_;exact tT @uF @mC @oz
def apH(v:eG)(h:Heap):W.call 256 [bM v,.v (.int .i64 (-17))] h=J (.ret (bM (NT.e7 v 17)),h):=by
 have f:∀(t:aF) (x y:bR),cy aa .and t x y (.v (.int .u64 (IntKind.u64.wrap (-17)))) (.v (.int .u64 31))=J (.v (.int .u64 15)):=λt x y=>by rw[pZ];rfl
 have j:∀(t:aF) (x y:bR),cy aa .shl t x y (bM v) (.v (.int .u64 15))=J (bM (v<<<15)):=λt x y=>sM (n:=15) aY;have m:∀(t:aF) (x y:bR),cy aa .shr t x y (bM v) (.v (.int .u64 (IntKind.u64.wrap (32-15))))=J (bM (v>>>17)):=λt x y=>rz (n:=17) aY;have q:=uB v 17 aY;refine cr O uZ O ?_;exact tT @uF @mC @oz
def apI(v:eG)(h:Heap):W.call 256 [bM v,.v (.int .i64 (-18))] h=J (.ret (bM (NT.e7 v 18)),h):=by
 have f:∀(t:aF) (x y:bR),cy aa .and t x y (.v (.int .u64 (IntKind.u64.wrap (-18)))) (.v (.int .u64 31))=J (.v (.int .u64 14)):=λt x y=>by rw[pZ];rfl
 have j:∀(t:aF) (x y:bR),cy aa .shl t x y (bM v) (.v (.int .u64 14))=J (bM (v<<<14)):=λt x y=>sM (n:=14) aY;have m:∀(t:aF) (x y:bR),cy aa .shr t x y (bM v) (.v (.int .u64 (IntKind.u64.wrap (32-14))))=J (bM (v>>>18)):=λt x y=>rz (n:=18) aY;have q:=uB v 18 aY;refine cr O uZ O ?_;exact tT @uF @mC @oz
def apJ(v:eG)(h:Heap):W.call 256 [bM v,.v (.int .i64 (-19))] h=J (.ret (bM (NT.e7 v 19)),h):=by
 have f:∀(t:aF) (x y:bR),cy aa .and t x y (.v (.int .u64 (IntKind.u64.wrap (-19)))) (.v (.int .u64 31))=J (.v (.int .u64 13)):=λt x y=>by rw[pZ];rfl
 have j:∀(t:aF) (x y:bR),cy aa .shl t x y (bM v) (.v (.int .u64 13))=J (bM (v<<<13)):=λt x y=>sM (n:=13) aY;have m:∀(t:aF) (x y:bR),cy aa .shr t x y (bM v) (.v (.int .u64 (IntKind.u64.wrap (32-13))))=J (bM (v>>>19)):=λt x y=>rz (n:=19) aY;have q:=uB v 19 aY;refine cr O uZ O ?_;exact tT @uF @mC @oz
def apL(v:eG)(h:Heap):W.call 256 [bM v,.v (.int .i64 (-22))] h=J (.ret (bM (NT.e7 v 22)),h):=by
 have f:∀(t:aF) (x y:bR),cy aa .and t x y (.v (.int .u64 (IntKind.u64.wrap (-22)))) (.v (.int .u64 31))=J (.v (.int .u64 10)):=λt x y=>by rw[pZ];rfl
 have j:∀(t:aF) (x y:bR),cy aa .shl t x y (bM v) (.v (.int .u64 10))=J (bM (v<<<10)):=λt x y=>sM (n:=10) aY;have m:∀(t:aF) (x y:bR),cy aa .shr t x y (bM v) (.v (.int .u64 (IntKind.u64.wrap (32-10))))=J (bM (v>>>22)):=λt x y=>rz (n:=22) aY;have q:=uB v 22 aY;refine cr O uZ O ?_;exact tT @uF @mC @oz
def apM(v:eG)(h:Heap):W.call 256 [bM v,.v (.int .i64 (-25))] h=J (.ret (bM (NT.e7 v 25)),h):=by
 have f:∀(t:aF) (x y:bR),cy aa .and t x y (.v (.int .u64 (IntKind.u64.wrap (-25)))) (.v (.int .u64 31))=J (.v (.int .u64 7)):=λt x y=>by rw[pZ];rfl
 have j:∀(t:aF) (x y:bR),cy aa .shl t x y (bM v) (.v (.int .u64 7))=J (bM (v<<<7)):=λt x y=>sM (n:=7) aY;have m:∀(t:aF) (x y:bR),cy aa .shr t x y (bM v) (.v (.int .u64 (IntKind.u64.wrap (32-7))))=J (bM (v>>>25)):=λt x y=>rz (n:=25) aY;have q:=uB v 25 aY;refine cr O uZ O ?_;exact tT @uF @mC @oz
def apQ(v:eG)(h:Heap):W.call 257 [bM v,.v (.int .i64 6),.v (.int .i64 11),.v (.int .i64 25)] h=J (.ret (bM (NT.e7 v 6^^^NT.e7 v 11^^^NT.e7 v 25)),h):=by
 have q:IntKind.i64.wrap (0-6)= -6:=by decide
 have r:IntKind.i64.wrap (0-11)= -11:=by decide
 have s:IntKind.i64.wrap (0-25)= -25:=by decide
 have f:=apN v;have j:=apF v;have m:=apM v;refine cr O abN O ?_;exact T9 @YR @oA
def apP(v:eG)(h:Heap):W.call 257 [bM v,.v (.int .i64 2),.v (.int .i64 13),.v (.int .i64 22)] h=J (.ret (bM (NT.e7 v 2^^^NT.e7 v 13^^^NT.e7 v 22)),h):=by
 have q:IntKind.i64.wrap (0-2)= -2:=by decide
 have r:IntKind.i64.wrap (0-13)= -13:=by decide
 have s:IntKind.i64.wrap (0-22)= -22:=by decide
 have f:=apK v;have j:=apG v;have m:=apL v;refine cr O abN O ?_;exact T9 @YR @oA
def oT:Tryz.f245.results.toList=[]:=am
def CU:fH aa 69=J ah:=am
def wd:cC aa 69=J 1:=am
def F5:fH aa 257=J V:=am
def Cn:cC aa 257=J 8:=am
def auJ:(fW aa 266).bind U.bF=J (bB 64 (bM 0#32)):=am
def aaa:(fW aa 257).bind U.bF=J (bB 8 (bM 0#32)):=am
abbrev er(l:List eG):List U:=l.map bM
def zx{b n}{k}(j:n<64):dK aa 266 (.ptr (.box b) 0) (.v (.int k (n:Nat)))=J (.ptr (.box b) n):=by have f:=abY;unfold dK;rw[f];simp only[wd];rw[av ⟨M,by omega⟩];simp
def ajT{g n}{k}(j:n<64):dK aa 266 (.ptr (.dA g) 0) (.v (.int k (n:Nat)))=J (.ptr (.dA g) n):=by have f:=abY;unfold dK;rw[f];simp only[wd];rw[av ⟨M,by omega⟩];simp
def vC{b n}{k}(j:n<8):dK aa 257 (.ptr (.box b) 0) (.v (.int k (n:Nat)))=J (.ptr (.box b) n):=by have f:=Tryz.underlying257;unfold dK;rw[f];simp only[wd];rw[av ⟨M,by omega⟩];simp
def zC{H}{b n}{l}(f:H.boxes[b]?=J (er l))(j:n<F l):aD aa Gt H 69 (.ptr (.box b) n)=J (bM (et l n)):=by rw[fm CU f,FO,et,eK,ec,aP j];rfl
def PG{H}{b n}{l}{x:eG}(j:H.boxes[b]?=J (er l))(m:n<F l):bV aa H 69 (.ptr (.box b) n) (bM x)=J (H.put b (er (l.set n x))):=by
 have f:n+1<=F (er l):=by rw[br];omega
 rw[fC (xs:=[bM x]) O wd j O f];congr 2;unfold dC er;rw[List.set_eq_take_append_cons_drop,av m];simp
def akx{H}{t}(j:t<64):aD aa Gt H 69 (.ptr (.dA 1) t)=J (bM (Br t)):=by
 have f:t<F Bs:=j;unfold aD;rw[CU];show((EE.drop t).head?)=_;rw[FO];unfold EE Br;rw[ec,eK,aP f];show J _=J (bM (BitVec.ofNat 32 Bs[t]));unfold bM;rw[BitVec.toNat_ofNat];have:∀x∈Bs,x<2^32:=by decide
 rw[mS (this _ (i_ f))]
def Fc(b):∀n,F (j_ b n)=n
 |0=>rfl|n+1=>by rw[j_,ck,Fc b n];rfl
def wl(b:List UInt8)(i:Nat):List eG:=j_ b i++bB (64-i) 0#32
def Cp{b}{i}(hi:i<=64):F (wl b i)=64:=by unfold wl;rw[ck,Fc,List.length_replicate];omega
def aut{b}{i k}(f:k<i):et (wl b i) k=et (j_ b i) k:=by unfold wl et;rw[eK,List.getElem?_append_left (by rw[Fc];exact f),eK]
def Z'{b}{i}{x}(hi:i<64)(m:x=if i<16 then wg b (4*i) else Ic (j_ b i) i):(wl b i).set i x=wl b (i+1):=by subst m;unfold wl;have f:=Fc b i;obtain⟨k,j⟩:∃k,64-i=k+1:=⟨63-i,by omega⟩;rw[FQ _ _ M,f,Nat.sub_self,j,List.replicate_succ,List.set_cons_zero,(M:64-(i+1)=k),j_,iO];rfl
def auu(b):er (wl b 0)=bB 64 (bM 0#32):=by show List.map bM ([]++bB 64 0#32)=_;rw[dO,List.map_replicate]
def aus(b):wl b 64=j_ b 64:=by unfold wl;simp
def auv(b)(k):wg (b.drop k) 0=wg b k:=by unfold wg fM;simp only[eK,o0,xU,oj]
def apS(w v)(t)(a b c d e f g i)(j:v=[a,b,c,d,e,f,g,i]):IR w v t=
 [i+(NT.e7 e 6^^^NT.e7 e 11^^^NT.e7 e 25)+(g^^^(e&&&(f^^^g)))+Br t+et w t+((NT.e7 a 2^^^NT.e7 a 13^^^NT.e7 a 22)+((a&&&b)|||(c&&&(a|||b)))),
  a,b,c,d+(i+(NT.e7 e 6^^^NT.e7 e 11^^^NT.e7 e 25)+(g^^^(e&&&(f^^^g)))+Br t+et w t),e,f,g]:=by
 subst j;rw[aeP,alj];rfl
def eight{l:List eG}(h:F l=8):∃a b c d e f g i,l=[a,b,c,d,e,f,g,i]:=by
 match l,h with
 | [a,b,c,d,e,f,g,i],_=>exact⟨a,b,c,d,e,f,g,i,O⟩
def vF(s:List eG)(b:List UInt8)(t:Nat):List eG:=(bZ t).foldl (IR (j_ b 64)) s
def Z5(s)(b)(t):vF s b (t+1)=IR (j_ b 64) (vF s b t) t:=by unfold vF;rw[ku,oD];rfl
def P9{s}(b)(f:F s=8):∀t,F (vF s b t)=8
 |0=>f
 |t+1=>by rw[Z5];rfl
def wj(s v:List eG)(i:Nat):List eG:=FS (·+·) (s.take i) (v.take i)++s.drop i
def auX{s v}(f:F s=8)(j:F v=8){i}(hi:i<=8):F (wj s v i)=8:=by unfold wj;simp;omega
def auW{s v}(f:F s=8)(j:F v=8){i}(hi:i<8):et (wj s v i) i=et s i:=by unfold wj et;rw[eK,wB (by simp;omega),o0,eK];congr 2;simp;omega
def auY{s v}(f:F s=8)(j:F v=8){i}(hi:i<8):(wj s v i).set i (et s i+et v i)=wj s v (i+1):=by
 obtain⟨a,b,c,d,e,E,g,N,rfl⟩:=eight f;obtain⟨m,q,r,z,A,B,C,D,rfl⟩:=eight j;have:i=0∨i=1∨i=2∨i=3∨i=4∨i=5∨i=6∨i=7:=by omega
 rcases this with rfl|rfl|rfl|rfl|rfl|rfl|rfl|rfl<;>rfl
def auV{s b}(f:F s=8)(j:F b=8):wj s b 8=FS (·+·) s b:=by unfold wj;rw[ga M,ga M,List.drop_of_length_le M,gj]
end Go.Proofs.YtcbhpkjbiehcpaaGreatDoor
end
section
namespace Go.AE
section
variable {b n0:Nat} {h h':Heap}
def ff.fI(m:ff b n0 h h'){c:Nat}(s:F h.boxes<=c)(cs:List U):ff b n0 h (h'.put c cs):=by refine⟨λd j q f=>?_,by rw[je];exact m.len,m.loop,m.tn,m.dead,m.ok⟩;have r:d<F h.boxes:=(aT.1 f).1;rw[cd M];exact m.box d j q f
def ff.push(m:ff b n0 h h')(cs:List U):ff b n0 h (h'.push cs):=
 ⟨λd f q j=>aN (m.box d f q j),by rw[bE];exact Nat.le_succ_of_le m.len,m.loop,m.tn,m.dead,m.ok⟩
end
def ff.sO{b n0 f}{h h'}(m:ff b f h h')(r:n0<=f):ff b n0 h h':=⟨m.box,m.len,m.loop,m.tn,λk q j=>m.dead k (my q r) j,m.ok⟩
def db.mut{b n0 j}{h h'}{k}(s:db n0 h k)(m:ff b j h h')(z:h.tn<=j):db n0 h' k:=by
 rcases s with q|q|⟨B,q,A,f⟩
 .exact .inl q
 .exact .inr (.inl q)
 .refine .inr (.inr ⟨B,q,A,?_⟩);unfold alive at f ⊢;simp only[bm,decide_eq_true_eq,Cu,wz,decide_eq_false_iff_not]at f ⊢;exact⟨my f.1 m.tn,λr=>f.2 (m.dead B (my f.1 z) r)⟩
end Go.AE
end
