/-
  The engine, part 51: a function that gives a number and takes lists whose cells may lie in boxes: for the call these boxes are lists.
-/
import Derived.Test.YtcbhpkjbiehcpaaGreatDoorQC
open True renaming intro->aX
open Bool renaming true->V,and_eq_true->bm,not_eq_true'->Cu,false->ah,true_or->aap,false_or->FE,false_and->uO,true_and->mL,and_eq_false_iff->aaj
open List renaming contains_eq_mem->wz,getElem?_eq_some_iff->aT,set_set_perm->aa9,mem_of_getElem?->cT,getElem?_set->lM,length_set->nr,mem_or_eq_of_mem_set->uV,length->F,length_map->br,length_cons->ef,length_nil->f_,map_append->jQ,set_eq_take_append_cons_drop->xT,getElem_of_mem->aaT,mem_append->CH,mem_of_mem_take->xS,mem_map->jg,getElem?_of_mem->qI,length_append->ck,length_take->cR,range->bZ,range_succ->ku,foldl_append->oD,getElem?_eq_getElem->aP,getElem?_map->ec,getD_eq_getElem?_getD->eK,mem_cons_self->gH,getElem?_set_self->QI,mem_singleton->ig,take_succ_cons->dw,take_zero->cX,mem_cons_of_mem->gx,replicate->bB,replicate_succ->CJ,replicate_zero->aa4,append_nil->gj,getElem?_append_left->qH,getElem?_concat_length->Ab,take_of_length_le->ga,take_length->fK,any_append->J5,any_eq_true->J6,nil_append->dO,any_eq_false->QD,length_replicate->mw,getElem?_zipIdx->aaS,mem_cons->gU,all_eq_true->eJ,getElem?_drop->o0,foldl_nil->CE,map_replicate->xR,map_eq_nil_iff->Ac,mem_range->ie,length_eq_zero_iff->aaW,getElem_mem->i_,filter_append->Aa,filter_cons->tg,map_cons->eI,length_filter_le->QL,drop_eq_getElem_cons->s_,drop_of_length_le->nq,map_inj_right->Kc,mem_filter->uU,all_append->sZ,all_eq_false->J4,cons_append->ey,any_cons->aaJ,all_cons->CC,flatten_append->oC,flatten_cons->jP,getElem?_take->mM,take_append_drop->pX,mem_flatten->Ke,ext_getElem?->oh,getElem?_eq_none->uS
open Nat renaming le_trans->e8,mul_le_mul->jt,zero_add->oj,zero_le->bY,not_lt_zero->nt,reduceEqDiff->aH,le_refl->aV,lt_or_ge->dp,lt_irrefl->QR,beq->hy,ble->Kk,eq_of_beq_eq_true->lN,le_of_ble_eq_true->jR,sub_self->qL,mul_one->jS,succ_ne_zero->QY
open Option renaming some->J,map_some->fF,none->ag
open Go.Proofs.Tryz renaming prog->aa,underlying23->cU,underlying207->CR,underlying22->gy,func164->abC,func91->abV,func248->abM,func89->abU,func206->abG,underlying116->lO,underlying177->abW,func207->abH
open And renaming intro->aj
open Int renaming le_refl->Cx,toNat_natCast->fD,lt_trans->aaw,zero_sub->aaI,sub_zero->CB,natCast_zero->qG
open Go renaming FuncId->aR
open Decidable renaming not_not->JX
set_option maxHeartbeats 64000000
set_option maxRecDepth 100000
set_option linter.unusedSimpArgs false
set_option linter.unusedVariables false
set_option linter.constructorNameAsVariable false
set_option linter.defProp false
section
namespace Go.Proofs.YtcbhpkjbiehcpaaGreatDoor
open Go.AE Go.NT
structure GM(S:List Nat)(n0:Nat)(h h':Heap)(t:Tok):Prop where
 mu:fE S n0 h h'
 can:db n0 h' t
 ok:c_ h'=V
section
variable {S S':List Nat} {n0:Nat} {h h' h2:Heap} {t k:Tok}
def aet(m:∀n,fE S n h h')(c:db n0 h t):db n0 h' t:=by
 rcases c with q|q|⟨g,q,i,e⟩
 .exact .inl q
 .exact .inr (.inl q)
 .refine .inr (.inr ⟨g,q,i,?_⟩);have d:=qN e;unfold alive at *
  simp only[bm,Cu,wz,decide_eq_false_iff_not,decide_eq_true_eq]at *
  exact⟨Nat.lt_of_lt_of_le d (m 0).tn,λf=>e.2 ((m (g+1)).dead g (Nat.lt_succ_self _) f)⟩
def GM.then(g:GM S n0 h h' t)(m:∀n,fE S n h' h2):GM S n0 h h2 t:=⟨g.mu.trans (m n0),aet m g.can,(m 0).ok g.ok⟩
def GM.app(g:GM S n0 h h' t)(c:n0<=h.tn):GM S n0 h (h'.app t) (.free h'.tn):=by have G:=Grown.one (n0:=n0) g.can g.ok (e8 c g.mu.tn);exact⟨g.mu.trans G.Oa,G.can,G.ok⟩
def GM.refl(c:db n0 h t)(d:c_ h=V):GM S n0 h h t:=⟨.refl,c,d⟩
end
def rn:Tryz.f169.results.toList=[.tmp 4]:=am
def iS.swap{H}{o w i j bi f}{B}{t}{a b}(T:iS H o B t w)(hi:B[i]?=J bi)(p:B[j]?=J f)(v:t[i]?=J a)(y:t[j]?=J b):
 iS (H.put o (((B.set i f).set j bi).map λb=>U.arr b 0 w w)) o ((B.set i f).set j bi) ((t.set i b).set j a) w:=by
 have g:=(aT.1 hi).1;have l:=(aT.1 p).1;have A:=(aT.1 T.hJ).1;have e:((B.set i f).set j bi).Perm B:=by
  have q:=aa9 g l
  rwa [show B[j]=f from(aT.1 p).2,show B[i]=bi from(aT.1 hi).2]at q
 have m:∀x,x∈(B.set i f).set j bi->x∈B:=λx r=>e.mem_iff.1 r;refine⟨dh A,by simp[T.len],(e.nodup_iff).2 T.nd,λk D E d c=>?_,λE c=>?_,λr=>T.out (m _ r)⟩
 .have C:D≠o:=λL=>T.out (m _ (by rw[<-L];exact cT d));rw[cd C];rw[lM]at d c;rw[nr]at d c;by_cases s:j=k
  .subst s;rw[av O,av l]at d;rw[av O,av (by rw[<-T.len];exact l)]at c;injection d with d;injection c with c;subst d;subst c;exact T.row i _ _ hi v
  .rw[aL s]at d c;rw[lM]at d c;by_cases u:i=k
   .subst u;rw[av O,av g]at d;rw[av O,av (by rw[<-T.len];exact g)]at c;injection d with d;injection c with c;subst d;subst c;exact T.row j _ _ p y
   .rw[aL u]at d c;exact T.row k _ _ d c
 .rcases uV c with q|q
  .rcases uV q with q|q
   .exact T.wid E q
   .rw[q];exact T.wid _ (cT y)
  .rw[q];exact T.wid _ (cT v)
def qO(x):fy aa 23 1 [(0,.v (.int .i64 x))]=J (.list .tight 1 [[.v (.int .i64 x)]]):=am
def wI{H}{k}{n0 sz}{es}{x}(o:F es<1099511627776)(f:sz=1∨(es=[]/\k=.nil))(e:db n0 H k):
 gm aa H #[23,23] (.list k sz (ints es)) (.list .tight 1 [[.v (.int .i64 x)]])=J (.list (.free H.tn) 1 (ints (es++[x])),H.app k):=by
 obtain⟨l,g,c,i,j⟩:=Bk;have m:=jt (M:F es+1<=1099511627776) i;have:=Ar (t0:=23) (t1:=23) (n0:=n0) (i:=l) (sz:=sz) (es:=ints es) (new:=ints [x]) (x:=.list .tight 1 (ints [x])) cU (.inl ⟨_,cU⟩) g M (by rw[c];exact j) (by rw[c];rfl) (by simp[ints])
  (by simp only[ints,br,ef,f_,oj];omega) (by simp only[ints,br,ef,f_];omega) (f.imp (λd=>d.trans c.symm) λd=>⟨by rw[d.1];rfl,d.2⟩) e
 rw[c]at this;unfold ints at *
 rw[jQ];exact this
def Zm{H}{b k x w}{B:List Nat}(d:H.boxes[b]?=J (B.map λb=>U.arr b 0 w w))(c:k<F B):bV aa H 23 (.ptr (.box b) k) (.arr x 0 w w)=J (H.put b ((B.set k x).map λb=>U.arr b 0 w w)):=by rw[fC (xs:=[U.arr x 0 w w]) O hw d O (by rw[br];exact c)];congr 2;unfold dC;rw[List.map_set,xT,av (by rw[br];exact c)];simp
def akS{n}{a b}:∀x∈g_ n a b,okF x:=by intro x c;unfold g_ at c;obtain⟨e,d,rfl⟩:=aaT c;rw[List.getElem_zipWith];exact GE _
def ae0{c}{a own}(h:∀x∈a,okF x):∀x∈rL c a own,okF x:=by
 intro x d;unfold rL at d;split at d
 .exact h x d
 .rcases CH.1 d with q|q
  .exact h x (xS q)
  .exact akS x q
def arE{c}{a}{n}(h:∀x∈a,okF x):∀x∈gu c a n,okF x:=by
 intro x d;unfold gu at d;rcases CH.1 d with q|q
 .exact h x (xS q)
 .obtain⟨e,-,rfl⟩:=jg.1 q;exact Dj _ _
def ae6{c r j}{own}{t}(h:∀a∈t,∀x∈a,okF x):∀a∈oq c own r j t,∀x∈a,okF x:=by
 intro a f;obtain⟨i,d⟩:=qI f;rw[tI]at d;cases g:t[i]? with
 |none=>rw[g]at d;cases d
 |some l=>
  rw[g,fF]at d;injection d with d;have e:=h l (cT g);rw[<-d];split
  .exact ae0 e
  .exact e
def Y5{c}{a}{n}(d:c<=F a):F (gu c a n)=F a:=by unfold gu;rw[ck,br,cR,List.length_drop];omega
def cJ(pv:List Nat):List Int:=pv.map λ(c:Nat)=>(c:Int)
def oS(t:List (List Int))(c:Nat):List (List Int) × List Nat:=(bZ c).foldl uK (t,[])
def Ys(t)(c):oS t (c+1)=uK (oS t c) c:=by unfold oS;rw[ku,oD];rfl
def Yr{t}{w}(g:∀a∈t,F a=w)(i:∀a∈t,∀x∈a,okF x):∀c,c<=w->tq w c (oS t c)/\F (oS t c).1=F t/\F (oS t c).2<=F t:=by
 intro c
 induction c with
 |zero=>exactλ_=>⟨⟨g,i,λ_ _ _ _ s o=>by omega⟩,O,bY _⟩|succ c l=>
  intro m;obtain⟨d,e,j⟩:=l M;rw[Ys];refine⟨by rw[Zw d M];exact Jq d M,?_⟩;unfold uK;cases f:mZ (oS t c).1 (F (oS t c).2) c with|none=>exact⟨e,j⟩|some k=>obtain⟨p,q,r⟩:=yv f;refine⟨by simp[e],?_⟩;simp only[ck,ef,f_];omega
def NF(pv):F (ints (cJ pv))=F pv:=by unfold ints cJ;simp
def Yq(t)(many):BV t many=oS t many:=rfl
def aok(h:Heap)(e:Nat)(B:List Nat)(t:List (List Int))(w many:Nat)(T:iS h e B t w)(hm:many<=w)(A:w<=1000000)(hn:F t<=1000000)(fQ:∀r∈t,∀x∈r,okF x)(ho:c_ h=V):
 ∃r h',W2.call 169 [.arr e 0 (F t) (F t),I (many:Nat)] h=J (r,h')/\∃(k:Tok) (s:Nat) (B':List Nat),r=.ret (.list k s (ints (cJ (BV t many).2)))/\(s=1∨(cJ (BV t many).2=[]/\k=.nil))/\iS h' e B' (BV t many).1 w/\B'.Perm B/\GM (e::B) h.tn h h' k:=by
 have kT:=ae.mk T;have kok:=ae.mk fQ;have kBl:ae (∀b∈B,b<F h.boxes):=⟨λb N=>by obtain⟨u,hi⟩:=qI N;have eH:=(aT.1 hi).1;exact(aT.1 (T.row u b _ hi (aP (by rw[<-T.len];exact eH)))).1⟩;have z3:=JF;have bx1:∀b n z4:Nat,(U.arr b 0 n z4).bF=J [.arr b 0 n z4]:=λ_ _ _=>rfl;have bx2:∀n:Int,(U.v (.int .i64 n)).bF=J [.v (.int .i64 n)]:=λ_=>rfl;have g0:GM (e::B) h.tn h (h.push [.arr e 0 (F t) (F t)]) .nil:=⟨fE.refl.push _,.inl O,ho⟩;have T0:iS (h.push [.arr e 0 (F t) (F t)]) e B t w:=T.mono λ_ _ q=>aN q;have p0:(h.push [.arr e 0 (F t) (F t)]).boxes[h.boxes.length]?=J [.arr e 0 (F t) (F t)]:=aK _ _;have r0:tq w 0 (oS t 0):=⟨T.wid,fQ,λ_ _ _ _ _ q=>absurd q (nt _)⟩;have kk:=ae.mk (aj g0 (aj T0 (aj p0 r0)));clear g0 T0 p0 r0 T fQ ho;unfold I at *
 refine bL O Tryz.func169 O ?_;refine bG @rn @bg ?_;refine bC.gen λR o hY eu dn=>?_;have q2:R.get 2=.ptr (.box (F h.boxes)) 0:=by rw[o];exact gS
 have q4:R.get 4=.list .nil 0 (ints (cJ [])):=by rw[o];exact gR
 have q13:R.get 13=.v (.int .i64 (many:Nat)):=by rw[o];exact gS
 have q14:R.get 14=.v (.int .i64 (0:Nat)):=by rw[o];exact gR
 have qd:R.defers=[]:=by rw[hY];exact gS
 clear o hY eu dn;refine b_ (λz4 z0 y=>∃(g:Nat) (B':List Nat) (k:Tok) (s:Nat),g<=many/\z4=many-g/\iS y e B' (oS t g).1 w/\B'.Perm B/\y.boxes[h.boxes.length]?=J [.arr e 0 (F t) (F t)]/\z0.get 2=.ptr (.box (F h.boxes)) 0/\z0.get 4=.list k s (ints (cJ (oS t g).2))/\(s=1∨(cJ (oS t g).2=[]/\k=.nil))/\z0.get 13=.v (.int .i64 (many:Nat))/\z0.get 14=.v (.int .i64 (g:Nat))/\z0.defers=[]/\GM (e::B) h.tn h y k) ?_ many _ _ ?_;rotate_left 1
 .exact⟨0,B,.nil,0,bY _,O,kk.out.2.1,.refl _,kk.out.2.2.1,q2,q4,.inr ⟨O,O⟩,q13,q14,qd,kk.out.1⟩
 clear kk q2 q4 q13 q14 qd;rintro z4 z0 y ⟨g,B',tk,s,hc,rfl,T',hP,k',g2,g4,hs,g13,g14,hd,hG⟩;have kT':=ae.mk T';have kP:=ae.mk hP;have ks:=ae.mk hs;have kG:=ae.mk hG;obtain⟨z6,i2,i3⟩:=Yr kT.out.wid kok.out g M;have kR:=ae.mk z6;clear T' hP hG z6;by_cases di:g<many;rotate_left 1
 .have:g=many:=by omega
  subst this;clear k' i2 i3 hs;refine bh @rn ?_;refine⟨_,_,O,tk,s,B',?_⟩;rw[Yq];exact⟨O,ks.out,kT'.out,kP.out,kG.out⟩
 have rS:=Ys t g;generalize gZ:oS t g=st at *
 obtain⟨t',c⟩:=st;dsimp only at *
 have l_:=NF c;have u23:=cU;have u203:=CR;have s0:∀n,bV aa (y.push [.v (.int .i64 0)]) 3 (.ptr (.box (F y.boxes)) 0) (.v (.int .i64 n))=J (y.push [.v (.int .i64 n)]):=λn=>lJ O eX O O;have l0:∀n,aD aa Gt (y.push [.v (.int .i64 n)]) 3 (.ptr (.box (F y.boxes)) 0)=J (.v (.int .i64 n)):=λn=>lq (aK _ _);refine bG @rn @bg ?_;refine bC.gen λR o hY eu dn=>?_;have f2:R.get 2=.ptr (.box (F h.boxes)) 0:=by rw[o];simp only[gW,reduceIte,aH,aC,g2]
 have f4:R.get 4=.list tk s (ints (cJ c)):=by rw[o];simp only[gW,reduceIte,aH,aC,g4]
 have f5:R.get 5=.v (.int .i64 (g:Nat)):=by rw[o];simp only[gW,reduceIte,aH,aC,g14]
 have f6:R.get 6=.ptr (.box (F y.boxes)) 0:=by rw[o];exact gS
 have f7:R.get 7=.v (.int .i64 (F c:Nat)):=by rw[o];exact gS
 have f13:R.get 13=.v (.int .i64 (many:Nat)):=by rw[o];simp only[gW,reduceIte,aH,aC,g13]
 have f14:R.get 14=.v (.int .i64 (g:Nat)):=by rw[o];simp only[gW,reduceIte,aH,aC,g14]
 have fd:R.defers=[]:=by rw[hY];simp only[gW,reduceIte,aH,aC];exact hd
 clear o hY eu dn g2 g4 g13 g14 hd;have T2:iS (y.push [.v (.int .i64 (F c:Nat))]) e B' t' w:=kT'.out.mono λ_ _ q=>aN q;have G2:GM (e::B) h.tn h (y.push [.v (.int .i64 (F c:Nat))]) tk:=kG.out.then λ_=>fE.refl.push _;have b2:(y.push [.v (.int .i64 (F c:Nat))]).boxes[h.boxes.length]?=J [.arr e 0 (F t) (F t)]:=aN k';have b3:(y.push [.v (.int .i64 (F c:Nat))]).boxes[y.boxes.length]?=J [.v (.int .i64 (F c:Nat))]:=aK _ _;have Dv:F (y.push [.v (.int .i64 (F c:Nat))]).boxes=F y.boxes+1:=bE _ _;have hhl:F h.boxes<F y.boxes:=(aT.1 k').1;generalize y.push [.v (.int .i64 (F c:Nat))]=H2 at *
 clear kT' kG s0 l0 k';have m:=ae.mk T2;have kG2:=ae.mk G2;have kl:=ae.mk Dv;have l2:=um b2;have l3:=lq b3;have kb2:=ae.mk b2;have kb3:=ae.mk b3;clear T2 G2 Dv b2 b3;generalize hHn:F y.boxes=hl at *
 clear hHn;refine b_ (λz4 z0 l=>∃H:Nat,F c<=H/\H<=F t/\z4=F t-H/\ae (∀k,F c<=k->k<H->af (t'.getD k []) g=0)/\z0.get 2=.ptr (.box (F h.boxes)) 0/\z0.get 4=.list tk s (ints (cJ c))/\z0.get 5=.v (.int .i64 (g:Nat))/\z0.get 6=.ptr (.box hl) 0/\z0.get 7=.v (.int .i64 (H:Nat))/\z0.get 13=.v (.int .i64 (many:Nat))/\z0.get 14=.v (.int .i64 (g:Nat))/\z0.defers=[]/\l=H2) ?_ (F t-F c) _ _ ?_;rotate_left 1
 .exact⟨F c,aV _,i3,O,⟨λk h1 h2=>absurd h1 M⟩,f2,f4,f5,f6,f7,f13,f14,fd,O⟩
 clear f2 f4 f5 f6 f7 f13 f14 fd;rintro z4 e3 H2 ⟨H,U3,U4,rfl,kz,g2,g4,g5,g6,g7,g13,g14,hd,rfl⟩;by_cases vp:H<F t;rotate_left 1
 .have ql:H=F t:=by omega
  subst ql;have yP:=Gz (t:=t') (c:=g) U3 M kz.out (λq=>absurd q M);rw[av M]at yP;have gZ:oS t (g+1)=(t',c):=by rw[rS];unfold uK;simp only[yP]
  have khst:=ae.mk gZ;clear yP gZ rS;refine bh @rn ?_;refine⟨many-(g+1),by omega,g+1,B',tk,s,by omega,O,?_⟩;rw[khst.out];exact⟨m.out,kP.out,kb2.out,aX,O,ks.out,aX,by simp,aX,kG2.out⟩
 obtain⟨b,N⟩:∃b,t'[H]?=J b:=⟨_,aP M⟩;obtain⟨d,C⟩:∃b,B'[H]?=J b:=⟨_,aP (by rw[m.out.len];omega)⟩;have wb:=m.out.wid b (cT N);have D:=m.out.row H d b C N;have ixj:=Bp (b:=e) (len:=t.length) (aS:=t.length) (k:=.i64) vp;have ixc:=nZ (b:=d) (len:=w) (aS:=w) (k:=.i64) (M:g<w);have Mv:(B'.map λb=>U.arr b 0 w w)[H]?=J (.arr d 0 w w):=by rw[ec,C];rfl
 have m1:=qs m.out.hJ Mv;have m2:=vH D (us (k:=g) M);have gDj:t'.getD H []=b:=by rw[eK,N];rfl
 have khr:=ae.mk D;clear D;by_cases E:af b g=0
 .have oN:∀k,F c<=k->k<H+1->af (t'.getD k []) g=0:=by
   intro k h1 h2;rcases dp k H with q|q
   .exact kz.out k h1 q
   .rw[(M:k=H),gDj];exact E
  have kz2:=ae.mk oN;rw[E]at m2;clear oN kz gDj E Mv rS;unfold I at *
  refine bh @rn ?_;exact⟨F t-(H+1),by omega,H+1,by omega,by omega,O,kz2,aX,aX,aX,aX,by simp,aX,aX,aX,aX⟩
 have yP:=Gz (t:=t') (c:=g) U3 M kz.out (λ_=>by rw[gDj];exact E);rw[aL M]at yP;obtain⟨z5,ho⟩:∃b,t'[c.length]?=J b:=⟨_,aP M⟩;obtain⟨bo,xd⟩:∃b,B'[c.length]?=J b:=⟨_,aP (by rw[m.out.len];omega)⟩;have ud:=asI yP N ho;rw[<-rS]at ud;have kgo:=ae.mk ud;have kne:=ae.mk E;have okb:=kR.out.ok b (cT N);have nz:=vO (oo okb g);have ixr:=Bp (b:=e) (len:=t.length) (aS:=t.length) (k:=.i64) (M:F c<F t);have UR:(B'.map λb=>U.arr b 0 w w)[c.length]?=J (.arr bo 0 w w):=by rw[ec,xd];rfl
 have m3:=qs m.out.hJ UR;have T3:=iS.swap m.out xd C ho N;have nb1:d<F h.boxes:=kBl.out d (kP.out.mem_iff.1 (cT C));have nb2:e≠d:=λz0=>m.out.out (by rw[z0];exact cT C);have avM:=(aT.1 kT.out.hJ).1;have Vb:F h.boxes≠e:=by omega
 have aiN:hl≠e:=by omega
 have s1:=Zm (w:=w) (x:=d) (k:=c.length) m.out.hJ (by rw[m.out.len];omega);have jw:(H2.put e ((B'.set (F c) d).map λb=>U.arr b 0 w w)).boxes[e]?=J ((B'.set (F c) d).map λb=>U.arr b 0 w w):=dh (aT.1 m.out.hJ).1;have s2:=Zm (w:=w) (x:=bo) (k:=H) jw (by rw[nr,m.out.len];omega);rw[Iz]at s2;have l2b:aD aa Gt (H2.put e ((B'.set (F c) d).map λb=>U.arr b 0 w w)) 207 (.ptr (.box (F h.boxes)) 0)=J (.arr e 0 (F t) (F t)):=um ((cd Vb).trans kb2.out);have G3:GM (e::B) h.tn h (H2.put e (((B'.set (F c) d).set H bo).map λb=>U.arr b 0 w w)) tk:=kG2.out.then λ_=>.put (gH) _;have b2:(H2.put e (((B'.set (F c) d).set H bo).map λb=>U.arr b 0 w w)).boxes[h.boxes.length]?=J [.arr e 0 (F t) (F t)]:=(cd Vb).trans kb2.out;have b3:(H2.put e (((B'.set (F c) d).set H bo).map λb=>U.arr b 0 w w)).boxes[hl]?=J [.v (.int .i64 (F c:Nat))]:=(cd aiN).trans kb3.out;have Mb:F (H2.put e (((B'.set (F c) d).set H bo).map λb=>U.arr b 0 w w)).boxes=F H2.boxes:=je _ _ _;have GY:((B'.set (F c) d).set H bo).Perm B:=by have q:=aa9 (aT.1 xd).1 (aT.1 C).1;rw[show B'[H]'(aT.1 C).1=d from(aT.1 C).2,show B'[c.length]'(aT.1 xd).1=bo from(aT.1 xd).2]at q;exact q.trans kP.out
 have L:((B'.set (F c) d).set H bo)[c.length]?=J d:=by
  rw[lM];by_cases q:H=F c
  .rw[av q,av (by rw[nr,m.out.len];omega)];rw[q,xd]at C;exact C
  .rw[aL q,QI (aT.1 xd).1]
 have zj:((t'.set (F c) b).set H z5)[c.length]?=J b:=by
  rw[lM];by_cases q:H=F c
  .rw[av q,av (by rw[nr];omega)];rw[q,ho]at N;exact N
  .rw[aL q,QI M]
 have VE:F ((t'.set (F c) b).set H z5)=F t:=by rw[nr,nr];exact i2
 have Ve:∀a∈(t'.set (F c) b).set H z5,∀x∈a,okF x:=by
  intro a ha;rcases uV ha with q|q
  .rcases uV q with q|q
   .exact kR.out.ok a q
   .rw[q];exact okb
  .rw[q];exact kR.out.ok z5 (cT ho)
 have kok3:=ae.mk (aj Ve (aj okb VE));clear Ve VE;generalize (t'.set (F c) b).set H z5=t3 at *
 generalize (B'.set (F c) d).set H bo=B3 at *
 obtain⟨l,w_⟩:∃l,H2.put e (B3.map λb=>U.arr b 0 w w)=l:=⟨_,O⟩;rw[w_]at s2 T3 G3 b2 b3 Mb;have kP3:=ae.mk GY;clear w_ jw GY ud yP kz gDj N ho rS gZ;have l23:=um b2;have l33:=lq b3;have qj:(B3.map λb=>U.arr b 0 w w)[c.length]?=J (.arr d 0 w w):=by rw[ec,L];rfl
 have m13:=qs T3.hJ qj;have Nb:=T3.row (F c) d b L zj;have m23:=vH Nb (us (k:=g) M);have xe:fmod (af b g)=af b g:=AS (oo okb g);have ci:=λh=>ajO (af b g) h;rw[xe]at ci;simp only[aL E]at ci;have kokz:ae (0<=ej (af b g)/\ej (af b g)<=9223372036854775807):=⟨vO (Ly _)⟩;have ava:e<F l.boxes:=(aT.1 T3.hJ).1;have ave:d<F l.boxes:=(aT.1 Nb).1;have hh3:F h.boxes<F l.boxes:=(aT.1 b2).1;have avp:hl<F l.boxes:=(aT.1 b3).1;generalize hz:af b g=z at *
 have kfz:ae (okF (ej z)):=⟨Ly _⟩;generalize hf:ej z=i at *
 have s5:bV aa (l.push [.v (.int .i64 0)]) 3 (.ptr (.box (F l.boxes)) 0) (.v (.int .i64 i))=J (l.push [.v (.int .i64 i)]):=lJ O eX O O;have T4:iS (l.push [.v (.int .i64 i)]) e B3 t3 w:=T3.mono λ_ _ q=>aN q;have G4:GM (e::B) h.tn h (l.push [.v (.int .i64 i)]) tk:=G3.then λ_=>fE.refl.push _;have b24:(l.push [.v (.int .i64 i)]).boxes[h.boxes.length]?=J [.arr e 0 (F t) (F t)]:=aN b2;have b34:(l.push [.v (.int .i64 i)]).boxes[hl]?=J [.v (.int .i64 (F c:Nat))]:=aN b3;have b44:(l.push [.v (.int .i64 i)]).boxes[l.boxes.length]?=J [.v (.int .i64 i)]:=aK _ _;have Dr:F (l.push [.v (.int .i64 i)]).boxes=F l.boxes+1:=bE _ _;have kH3:=ae.mk Mb;obtain⟨p,qV⟩:∃p,l.push [.v (.int .i64 i)]=p:=⟨_,O⟩;rw[qV]at s5 T4 G4 b24 b34 b44 Dr;have l24:=um b24;have l34:=lq b34;have m14:=qs T4.hJ qj;have Y:=Rr d w g p;have kT4:=ae.mk T4;have kG4:=ae.mk G4;have kb4:=ae.mk (aj b24 (aj b34 (aj b44 (aj Dr (aj L zj)))));unfold I at Y m2 m23 ci;clear qV T4 G4 b24 b34 b44 Dr T3 G3 b2 b3 Mb Nb qj L zj xe Mv UR xd C;refine bh @rn ?_;refine iG [(2,13)] wK am (λz7 hp=>?_) ?_
 .simp only[ig]at hp;subst hp;refine jN (x:=.ptr (.box (F h.boxes)) 0) (v:=.arr e 0 (F t) (F t)) am O O O am (by simp[cE,gF]) ?_ ?_<;>(simp only[dw,cX];exact dV @rn @and_self)
 refine bh @rn ?_;refine bC.gen λe4 X rP yX y_=>?_;have f2:e4.get 2=.ptr (.box (F h.boxes)) 0:=by rw[X];simp only[gW,reduceIte,aH,aC];exact g2
 have f4:e4.get 4=.list tk s (ints (cJ c)):=by rw[X];simp only[gW,reduceIte,aH,aC];exact g4
 have f5:e4.get 5=.v (.int .i64 (g:Nat)):=by rw[X];simp only[gW,reduceIte,aH,aC];exact g5
 have f6:e4.get 6=.ptr (.box hl) 0:=by rw[X];simp only[gW,reduceIte,aH,aC];exact g6
 have f8:e4.get 8=.ptr (.box (F l.boxes)) 0:=by rw[X];exact gS
 have f13:e4.get 13=.v (.int .i64 (many:Nat)):=by rw[X];simp only[gW,reduceIte,aH,aC];exact g13
 have f14:e4.get 14=.v (.int .i64 (g:Nat)):=by rw[X];simp only[gW,reduceIte,aH,aC];exact g14
 have f70:e4.get 70=.func (.func 249) [] [.ptr (.box (F p.boxes+1)) 0,.ptr (.box (F p.boxes)) 0]:=by rw[X];exact gS
 have fd:e4.defers=[]:=by rw[rP];simp only[gW,reduceIte,aH,aC];exact hd
 clear X rP yX y_ g2 g4 g5 g6 g7 g13 g14 hd;refine Fa (by rw[AN];exact f70) λrec w1 w2 w3 w4 w5 w6=>?_;obtain⟨b24,b34,b44,Dr,L,zj⟩:=kb4.out;have T5:iS ((p.push [.arr d 0 w w]).push [.v (.int .i64 (g:Nat))]) e B3 t3 w:=kT4.out.mono λ_ _ q=>aN (aN q);have G5:GM (e::B) h.tn h ((p.push [.arr d 0 w w]).push [.v (.int .i64 (g:Nat))]) tk:=kG4.out.then λ_=>(fE.refl.push _).push _;have b25:((p.push [.arr d 0 w w]).push [.v (.int .i64 (g:Nat))]).boxes[h.boxes.length]?=J [.arr e 0 (F t) (F t)]:=aN (aN b24);have b35:((p.push [.arr d 0 w w]).push [.v (.int .i64 (g:Nat))]).boxes[hl]?=J [.v (.int .i64 (F c:Nat))]:=aN (aN b34);have b45:((p.push [.arr d 0 w w]).push [.v (.int .i64 (g:Nat))]).boxes[l.boxes.length]?=J [.v (.int .i64 i)]:=aN (aN b44);have b55:((p.push [.arr d 0 w w]).push [.v (.int .i64 (g:Nat))]).boxes[p.boxes.length]?=J [.arr d 0 w w]:=aN (aK _ _);have b65:((p.push [.arr d 0 w w]).push [.v (.int .i64 (g:Nat))]).boxes[F p.boxes+1]?=J [.v (.int .i64 (g:Nat))]:=na (by rw[bE]);have ah0:F ((p.push [.arr d 0 w w]).push [.v (.int .i64 (g:Nat))]).boxes=F p.boxes+2:=by rw[bE,bE]
 generalize (p.push [.arr d 0 w w]).push [.v (.int .i64 (g:Nat))]=j at *
 clear l2 l3 l23 l33 m1 m2 m3 m13 m23 ci s1 s2 l2b s5 l24 l34 m14 Y kb4 kT4 kG4 kb2 kb3 m kG2 khr;have D:=T5.row (F c) d b L zj;have pG:=(aT.1 D).1;have nw:(j.loop rec).loops[j.loops.length]?=J rec:=@Ew j rec;have I1:∀(k:Nat) (y:Heap),y=(j.loop rec).put d ((jj (λu=>cS (af b u) i) b g k).map I)->y.boxes[F p.boxes+1]?=J [I (g:Nat)]/\y.boxes[p.boxes.length]?=J [.arr d 0 w w]/\(k<w->∃cs,y.boxes[d]?=J cs/\cs[k]?=J (I (af b k))):=by
  rintro k y rfl;refine⟨?_,?_,λhk=>⟨_,dh pG,?_⟩⟩
  .rw[cd M];exact b65
  .rw[cd M];exact b55
  .have:=us (r:=jj (λu=>cS (af b u) i) b g k) (k:=k) (by rw[pq];omega);rw[AF M,aL M]at this;exact this
 have I2:∀(k:Nat) (y:Heap),g<=k->k<w->y=(j.loop rec).put d ((jj (λu=>cS (af b u) i) b g k).map I)->∃H',W2.round (F j.loops) [I (k:Nat),I (af b k)] y=J (.ret (.v (.bool V)),H')/\H'=(j.loop rec).put d ((jj (λu=>cS (af b u) i) b g (k+1)).map I):=by
  rintro k y xh yR rfl;refine OY (Post:=λy=>y=(j.loop rec).put d ((jj (λu=>cS (af b u) i) b g (k+1)).map I)) nw (by rw[w2];rfl) w5 w6 ?_;have kq:=S8 (f:=λu=>cS (af b u) i) xh (M:k<F b);have r1:∀t,(nG (F j.loops) rec [I (k:Nat),I (af b k)]).get t=if 72=t then I (af b k) else if 71=t then I (k:Nat) else e4.get t:=λt=>IQ w2 w1
  have d1:(nG (F j.loops) rec [I (k:Nat),I (af b k)]).defers=[]:=rfl;obtain⟨K,hK⟩:∃K,((j.loop rec).put d ((jj (λu=>cS (af b u) i) b g k).map I)).busy (F j.loops) rec=K:=⟨_,O⟩;rw[hK];have c1:K.boxes[d]?=J ((jj (λu=>cS (af b u) i) b g k).map I):=by rw[<-hK];exact dh pG
  have c2:K.boxes[h.boxes.length]?=J [.arr e 0 (F t) (F t)]:=by rw[<-hK];exact(cd M).trans b25
  have c3:K.boxes[hl]?=J [.v (.int .i64 (F c:Nat))]:=by rw[<-hK];exact(cd M).trans b35
  have c4:K.boxes[l.boxes.length]?=J [I i]:=by rw[<-hK];exact(cd M).trans b45
  have c5:K.boxes[e]?=J (B3.map λb=>U.arr b 0 w w):=by rw[<-hK];exact(cd nb2).trans T5.hJ
  have qj:(B3.map λb=>U.arr b 0 w w)[c.length]?=J (.arr d 0 w w):=by rw[ec,L];rfl
  have m2:=um c2;have m3:=lq c3;have m4:=lq c4;have m5:=qs c5 qj;have Ep:=nZ (b:=d) (len:=w) (aS:=w) (k:=.i64) yR;have sk:=uJ (r:=jj (λu=>cS (af b u) i) b g k) (k:=k) (x:=cS (af b k) i) c1 (by rw[pq];omega);rw[kq]at sk;have vN:=vO (oo okb k);have f1:=λh=>N9 (af b k) i h;clear D b25 b35 b45 b55 b65 T5 G5 c1 c2 c3 c4 c5 kq qj I1 okb f70 ixj ixc;generalize cS (af b k) i=z1 at *
  generalize af b k=z2 at *
  unfold I at *
  rw[w3,w4];refine w9 ?_;refine⟨aX,aX,?_⟩;refine bC.gen λe2 qk jw rU Bc=>?_;have q2:e2.get 2=.ptr (.box (F h.boxes)) 0:=by rw[qk];simp only[gW,reduceIte,aH,aC,r1];exact f2
  have q6:e2.get 6=.ptr (.box hl) 0:=by rw[qk];simp only[gW,reduceIte,aH,aC,r1];exact f6
  have q8:e2.get 8=.ptr (.box (F l.boxes)) 0:=by rw[qk];simp only[gW,reduceIte,aH,aC,r1];exact f8
  have q10:e2.get 10=.v (.int .i64 k):=by rw[qk];simp only[gW,reduceIte,aH,aC,r1]
  have q11:e2.get 11=.v (.int .i64 z2):=by rw[qk];simp only[gW,reduceIte,aH,aC,r1]
  clear qk jw rU Bc r1 d1
  repeat' (first|simp(maxSteps:=9999999) (disch:=first|exact dZ|fail) only[gW,reduceIte,aH,aC, *]|(refine dX ?_ ?_<;>(intro _;try omega))|refine du wK am ?_)
  rw[<-hK];simp only[Heap.put,Heap.busy,Heap.loop,List.set_set];exact⟨aX,aX,aX⟩
 obtain⟨h',c1,c2⟩:=Rs (F j.loops) (F p.boxes+1) (F p.boxes) d w g b (λk y=>y=(j.loop rec).put d ((jj (λu=>cS (af b u) i) b g k).map I)) I1 I2 M A ((j.loop rec).put d ((jj (λu=>cS (af b u) i) b g g).map I)) O;have e3:j.loop rec=(j.loop rec).put d ((jj (λu=>cS (af b u) i) b g g).map I):=by rw[S9];exact(lH (h:=j.loop rec) D).symm
 rw[<-e3]at c1;have e4':jj (λu=>cS (af b u) i) b g w=gu g b i:=by rw[<-wb];exact afF M
 rw[e4']at c2;subst c2;clear e3 I1 I2 e4';refine⟨_,_,c1,rec,nw,by rw[w5];decide,.inl ⟨w6,?_⟩⟩;clear c1;have AX:F h.loops<=F j.loops:=by
  have:=G5.mu.loop;rcases dp (F j.loops) (F h.loops) with q|q
  .have:=(aT.1 (this _ _ (aP q))).1;omega
  .exact q
 have okt:=kok3.out;have DF:d∈B:=kP3.out.mem_iff.1 (cT L);have T6:iS (((j.loop rec).put d ((gu g b i).map I)).fb (F j.loops) {rec with state:=.exhausted}) e B3 (t3.set (F c) (gu g b i)) w:=by have q:=iS.set (H:=j.loop rec) (T5.mono λ_ _ q=>q) L (r:=gu g b i) (by rw[Y5 M];exact wb);exact q.mono λ_ _ q=>q
 have G6:GM (e::B) h.tn h (((j.loop rec).put d ((gu g b i).map I)).fb (F j.loops) {rec with state:=.exhausted}) tk:=⟨((G5.mu.Bx rec).trans (.put (gx _ DF) _)).fb AX _,G5.can,G5.ok⟩;have b26:(((j.loop rec).put d ((gu g b i).map I)).fb (F j.loops) {rec with state:=.exhausted}).boxes[h.boxes.length]?=J [.arr e 0 (F t) (F t)]:=(cd M).trans b25;have b36:(((j.loop rec).put d ((gu g b i).map I)).fb (F j.loops) {rec with state:=.exhausted}).boxes[hl]?=J [.v (.int .i64 (F c:Nat))]:=(cd M).trans b35;have Vp:(t3.set (F c) (gu g b i))[c.length]?=J (gu g b i):=QI (aT.1 zj).1;have ok4:∀a∈t3.set (F c) (gu g b i),∀x∈a,okF x:=by
  intro a ha;rcases uV ha with q|q
  .exact okt.1 a q
  .rw[q];exact arE okb
 have DS:F (t3.set (F c) (gu g b i))=F t:=by rw[nr];exact okt.2.2
 have ud:=kgo.out;rw[i2]at ud;have T7:iS (((j.loop rec).put d ((gu g b i).map I)).fb (F j.loops) {rec with state:=.exhausted}) e B3 (oq g (gu g b i) (F c) 0 (t3.set (F c) (gu g b i))) w:=by rw[afb];exact T6
 have hso:F (gu g b i)=w:=by rw[Y5 M];exact wb
 generalize (((j.loop rec).put d ((gu g b i).map I)).fb (F j.loops) {rec with state:=.exhausted})=H6 at *
 clear T6 nw D b25 b35 b45 b55 b65 T5 G5 ah0 pG w1 w2 w3 w4 w5 w6 AX L zj okt f70 f8 Dr ixj ixr ixc;have l26:=um b26;have l36:=lq b36;generalize gu g b i=own at *
 generalize t3.set (F c) own=t4 at *
 have k7:=ae.mk (aj T7 (aj G6 (aj b26 b36)));have kok4:=ae.mk (aj ok4 (aj Vp (aj DS ud)));clear T7 G6 b26 b36 ok4 Vp ud okb kok3 DS;refine bh @rn ?_;refine bC.gen λe5 Z DI M6 D'=>?_;have r2:e5.get 2=.ptr (.box (F h.boxes)) 0:=by rw[Z];simp only[gW,reduceIte,aH,aC];exact f2
 have r4:e5.get 4=.list tk s (ints (cJ c)):=by rw[Z];simp only[gW,reduceIte,aH,aC];exact f4
 have r5:e5.get 5=.v (.int .i64 (g:Nat)):=by rw[Z];simp only[gW,reduceIte,aH,aC];exact f5
 have r6:e5.get 6=.ptr (.box hl) 0:=by rw[Z];simp only[gW,reduceIte,aH,aC];exact f6
 have r13:e5.get 13=.v (.int .i64 (many:Nat)):=by rw[Z];simp only[gW,reduceIte,aH,aC];exact f13
 have r14:e5.get 14=.v (.int .i64 (g:Nat)):=by rw[Z];simp only[gW,reduceIte,aH,aC];exact f14
 have r83:e5.get 83=.v (.int .i64 (F t:Nat)):=by rw[Z];exact gS
 have r84:e5.get 84=.v (.int .i64 (0:Nat)):=by rw[Z];exact gR
 have rd:e5.defers=[]:=by rw[DI];simp only[gW,reduceIte,aH,aC];exact fd
 clear Z DI M6 D' f2 f4 f5 f6 f13 f14 fd l26 l36;refine b_ (λz4 z0 y=>∃u:Nat,u<=F t/\z4=F t-u/\ae (iS y e B3 (oq g own (F c) u t4) w)/\ae (GM (e::B) h.tn h y tk)/\ae (y.boxes[h.boxes.length]?=J [.arr e 0 (F t) (F t)])/\ae (y.boxes[hl]?=J [.v (.int .i64 (F c:Nat))])/\z0.get 2=.ptr (.box (F h.boxes)) 0/\z0.get 4=.list tk s (ints (cJ c))/\z0.get 5=.v (.int .i64 (g:Nat))/\z0.get 6=.ptr (.box hl) 0/\z0.get 13=.v (.int .i64 (many:Nat))/\z0.get 14=.v (.int .i64 (g:Nat))/\z0.get 83=.v (.int .i64 (F t:Nat))/\z0.get 84=.v (.int .i64 (u:Nat))/\z0.defers=[]) ?_ (F t) _ _ ?_;rotate_left 1
 .exact⟨0,bY _,O,⟨k7.out.1⟩,⟨k7.out.2.1⟩,⟨k7.out.2.2.1⟩,⟨k7.out.2.2.2⟩,r2,r4,r5,r6,r13,r14,r83,r84,rd⟩
 clear r2 r4 r5 r6 r13 r14 r83 r84 rd k7;rintro z4 e6 K ⟨u,hi,rfl,kT7,kG7,kb7,kc7,g2,g4,g5,g6,g13,g14,g83,g84,hd⟩;have l27:=um kb7.out;have l37:=lq kc7.out;by_cases hit:u<F t;rotate_left 1
 .have gr:u=F t:=by omega
  subst gr;have bl:=qO (g:Int);have ap:=wI (x:=(g:Int)) (show(F (cJ c))<1099511627776 by unfold cJ;rw[br];omega) hs kG7.out.can;refine bh @rn ?_;refine⟨many-(g+1),by omega,g+1,B3,.free K.tn,1,by omega,O,?_⟩;rw[kok4.out.2.2.2];have DS:=kok4.out.2.2.1;rw[<-DS]at kT7;have ee:cJ (c++[g])=cJ c++[(g:Int)]:=by unfold cJ;simp
  dsimp only;rw[ee];exact⟨by rw[<-DS];exact kT7.out.mono λ_ _ q=>by rw[dS];exact q,kP3.out,by rw[dS];exact kb7.out,aX,O,.inl O,aX,by simp,aX,kG7.out.app (aV _)⟩
 have Ud:F B3=F t:=by rw[kT7.out.len,SR];exact kok4.out.2.2.1
 by_cases MG:u=F c
 .subst MG;have T8:=kT7.out;rw[<-ae9]at T8;have kT8:=ae.mk T8;clear T8;refine bh @rn ?_;exact⟨F t-(F c+1),by omega,F c+1,by omega,O,kT8,aX,aX,aX,aX,aX,aX,aX,aX,aX,aX,by simp,aX⟩
 .obtain⟨a,ha⟩:∃a,t4[u]?=J a:=⟨_,aP (by rw[kok4.out.2.2.1];exact hit)⟩;obtain⟨K2,c1,c2,c3⟩:=ae1 K e B3 (oq g own (F c) u t4) w u (F c) g a own kT7.out (ae8.trans ha) (ae7.trans kok4.out.2.1) MG M A (ae6 kok4.out.1);rw[afa ha MG]at c2;rw[Ud]at c1;have cM:∀n0,fE (e::B) n0 K K2:=λn0=>(c3 n0).mono λb N=>gx _ (kP3.out.mem_iff.1 N);have DF:∀b∈B3,b<F h.boxes:=λb N=>kBl.out b (kP3.out.mem_iff.1 N);have kb8:=ae.mk ((c3 0).box _ _ (λq=>absurd (DF _ q) M) kb7.out);have kc8:=ae.mk ((c3 0).box _ _ (λq=>absurd (DF _ q) M) kc7.out);have kG8:=ae.mk (kG7.out.then cM);have kT8:=ae.mk c2;have avq:¬((u:Int)=(F c:Int)):=by omega
  clear c2 c3 cM DF ha Ud kT7 kG7 kb7 kc7;unfold I at c1;refine bh @rn ?_;exact⟨F t-(u+1),by omega,u+1,by omega,O,kT8,aX,aX,aX,aX,aX,aX,aX,aX,aX,aX,by simp,aX⟩
def IL(x:U)(l:List Int):Prop:=∃k c,x=.list k c (ints l)/\(l≠[]->c=1)
def RL(x:U)(rows:List (List Int)):Prop:=∃(k:Tok) (f:Nat) (c:List U),x=.list k f (c.map λa=>[a])/\(rows≠[]->f=1)/\F c=F rows/\∀(d:Nat) (a:U) (e:List Int),c[d]?=J a->rows[d]?=J e->IL a e
def ajk{l}{i}(h:i<F l):(ints l)[i]?=J [.v (.int .i64 (af l i))]:=by unfold ints vz;rw[ec,aP h,gb h];rfl
def eS{H}{l}{i s}(h:i<F l):aD aa Gt H 3 (.elem s (ints l) i 0)=J (.v (.int .i64 (af l i))):=by rw[oO dY (ajk h)];rfl
def iX{H}{xs:List U}{i s}{x}(h:xs[i]?=J x):aD aa Gt H 23 (.elem s (xs.map λa=>[a]) i 0)=J x:=by rw[oO mW (row:=[x]) (by rw[ec,h];rfl)];rfl
def BZ:Tryz.f168.results.toList=[.tmp 4]:=am
def aqz:Tryz.f220.results.toList=[]:=am
def t_(w:Nat)(B:List Nat):List U:=B.map λb=>U.arr b 0 w w
def JW(H:Heap)(B:List Nat)(e d:Nat)(c:U)(l:List Int):Prop:=(l=[]/\c=.list .nil 0 [])∨(l≠[]/\∃b,c=.arr b 0 (F l) (F l)/\H.boxes[b]?=J (l.map I)/\b∉B/\b≠e/\d<=b)
def atE{f H}{B}{j}{m}{l}(d:JW H B j (F f.boxes) m l)(p:Ext f H)(R:F f.boxes<=j)(x)(T:F l<1000000)(s:∀b∈B,b<F H.boxes)(N:j<F H.boxes):
 ∃e,ml aa H #[23,23] m (.list .tight 1 [[.v (.int .i64 x)]])=J (.arr (F H.boxes) 0 (F l+1) (F l+1),e)/\JW e B j (F f.boxes) (.arr (F H.boxes) 0 (F l+1) (F l+1)) (l++[x])/\Ext f e/\e.loops=H.loops/\F e.boxes=F H.boxes+1/\∀c cs,(c∈B∨c=j)->H.boxes[c]?=J cs->e.boxes[c]?=J cs:=by
 obtain⟨X,v,i,D,y⟩:=Bk;have E:=jt (M:F l+1<=1000000) D;have g:=p.len;rcases d with⟨rfl,rfl⟩|⟨u,b,rfl,r,h2,A,C⟩
 .have:=zS (h:=H) (k:=.nil) (sz:=0) (es:=[]) (new:=[[.v (.int .i64 x)]]) (x:=.list .tight 1 [[.v (.int .i64 x)]]) cU cU v M (by rw[i];exact y) b8 (by simp;omega) b8 (.inr O) (.inl O) (by rw[i];rfl);refine⟨_,this,.inr ⟨b8,H.boxes.length,O,aK _ _,λq=>absurd (s _ q) (QR _),by omega,g⟩,p.trans (.push _ _),O,bE _ _,λc cs _ q=>aN q⟩
 .have L:=(aT.1 r).1;have o:0<F l:=List.length_pos_iff.2 u;have:=Jx (h:=H) (b:=b) (len:=l.length) (cs:=l.map I) (new:=[[.v (.int .i64 x)]]) (x:=.list .tight 1 [[.v (.int .i64 x)]]) cU cU v M (by rw[i];exact y) b8 (by simp;omega) (by simp;omega) r o (by rw[i,br];omega) (by rw[i];rfl);refine⟨_,this,.inr ⟨b8,H.boxes.length,by simp,?_,λq=>absurd (s _ q) (QR _),by omega,g⟩,(p.fI C _).trans (.push _ _),O,by rw[bE,je],λc cs d q=>aN ((cd ?_).trans q)⟩
  .rw[jQ];exact na (by rw[je])
  .rcases d with d|d
   .rintro rfl;exact h2 d
   .rintro rfl;exact A d
structure uR(H:Heap)(tb base w m:Nat)(B:List Nat)(t:List (List Int))(cur:U)(l:List Int):Prop where
 hJ:H.boxes[tb]?=J (t_ w B++cur::bB (m - B.length - 1) (.list .nil 0 []))
 lt:B.length<m
 len:B.length=t.length
 nd:B.Nodup
 row:∀(i b:Nat) (r:List Int),B[i]?=J b->t[i]?=J r->H.boxes[b]?=J (r.map I)
 wid:∀r∈t,r.length=w
 out:tb∉B
 low:∀b∈B,base<=b
 cur:JW H B tb base cur l
def WP{P}{h}{t elem}{i}{zero}{n}{k N}(e:P.underlying t=J (.slice elem))(hi:P.info? elem=J i)(f:(fW P elem).bind U.bF=J zero)(c:F zero=i.size)(h2:0<i.size)(g:i.bytes*n<=281474976710656)(j:n<9223372036854775808):
 vJ P h t (.v (.int k (n:Nat))) (.v (.int N (n:Nat)))=J (.arr (F h.boxes) 0 n n,h.push (bB n zero).flatten):=by
 unfold vJ;have d:(i.bytes:Int)*(n:Nat)<=281474976710656:=by rw[<-Int.natCast_mul];omega
 simp only[e,hi,f];rw[av ⟨M,Cx _,by omega,d,h2,c⟩];simp[Heap.push]
def HN:∃i,aa.info? 23=J i/\i.size=1/\i.bytes<=24/\(i.zero.map λz=>z.cells.size)=J 1:=by
 have h:(match aa.info? 23 with|some i=>hy i.size 1&&Kk i.bytes 24&&decide ((i.zero.map λz=>z.cells.size)=J 1)|none=>ah)=V:=am;cases c:aa.info? 23 with
 |none=>rw[c]at h;cases h
 |some i=>rw[c]at h;simp only[bm,decide_eq_true_eq]at h;exact⟨i,O,lN h.1.1,jR h.1.2,h.2⟩
def aly(h)(n)(c:n<=1000000)(k N):vJ aa h 207 (.v (.int k (n:Nat))) (.v (.int N (n:Nat)))=J (.arr (F h.boxes) 0 n n,h.push (bB n (.list .nil 0 []))):=by obtain⟨j,d,e,f,i⟩:=HN;have g:=jt f c;have:=WP (h:=h) (n:=n) (k:=k) (N:=N) (zero:=[.list .nil 0 []]) CR d am (by rw[e];rfl) M M M;rw[this];simp
def vK(h)(n)(c:n<=1000000)(k N):vJ aa h 23 (.v (.int k (n:Nat))) (.v (.int N (n:Nat)))=J (.arr (F h.boxes) 0 n n,h.push (bB n (I 0))):=by obtain⟨j,d,e,f,i⟩:=Bk;have g:=jt f c;have:=WP (h:=h) (n:=n) (k:=k) (N:=N) (zero:=[I 0]) cU d JF (by rw[e];rfl) M M M;rw[this];simp
structure Mid(H:Heap)(tb base w m:Nat)(B:List Nat)(t:List (List Int)):Prop where
 hJ:H.boxes[tb]?=J (t_ w B++bB (m - B.length) (.list .nil 0 []))
 len:B.length=t.length
 nd:B.Nodup
 row:∀(i b:Nat) (r:List Int),B[i]?=J b->t[i]?=J r->H.boxes[b]?=J (r.map I)
 wid:∀r∈t,r.length=w
 out:tb∉B
 low:∀b∈B,base<=b
def Mid.half{H}{e c w m}{B}{t}(d:Mid H e c w m B t)(f:F B<m):uR H e c w m B t (.list .nil 0 []) []:=by refine⟨?_,f,d.len,d.nd,d.row,d.wid,d.out,d.low,.inl ⟨O,O⟩⟩;rw[d.hJ,(M:m-F B=m-F B-1+1),CJ];rfl
def Mid.tab{H}{e c w m}{B}{t}(d:Mid H e c w m B t)(f:F B=m):iS H e B t w:=by refine⟨?_,d.len,d.nd,d.row,d.wid,d.out⟩;rw[d.hJ,f,qL,aa4,gj];rfl
def DL(w)(B):F (t_ w B)=F B:=by unfold t_;simp
def aiq(w)(B)(c)(r):(t_ w B++c::r)[B.length]?=J c:=by rw[List.getElem?_append_right (by rw[DL];exact aV _),DL,qL];rfl
def air(w)(B)(c d)(r):(t_ w B++c::r).set (F B) d=t_ w B++d::r:=by rw[List.set_append_right _ _ (by rw[DL];exact aV _),DL,qL];rfl
def asH{H}{b k x n}{cs}(d:H.boxes[b]?=J cs)(c:k<F cs):bV aa H 23 (.ptr (.box b) k) (.arr x 0 n n)=J (H.put b (cs.set k (.arr x 0 n n))):=by rw[fC (xs:=[U.arr x 0 n n]) O hw d O c];congr 2;unfold dC;rw[xT,av c];simp
def uR.lts{H}{i c w m}{B}{t}{d}{l}(j:uR H i c w m B t d l):∀b∈B,b<F H.boxes:=by intro b g;obtain⟨o,e⟩:=qI g;have f:=(aT.1 e).1;exact(aT.1 (j.row o b _ e (aP (by rw[<-j.len];exact f)))).1
def uR.more{e H}{f w m}{B}{t}{j}{l}(d:uR H f (F e.boxes) w m B t j l)(R:Ext e H)(q:F e.boxes<=f)(x)(L:F l<1000000):
 ∃g i c,ml aa H #[23,23] j (.list .tight 1 [[.v (.int .i64 x)]])=J (c,g)/\bV aa g 23 (.ptr (.box f) (F B)) c=J i/\uR i f (F e.boxes) w m B t c (l++[x])/\Ext e i/\i.loops=H.loops:=by
 have u:=(aT.1 d.hJ).1;obtain⟨g,A,C,D,E,c5,p⟩:=atE d.cur R q x L d.lts u;have r:=p f _ (.inr O) d.hJ;have y:=asH (x:=H.boxes.length) (n:=F l+1) (k:=B.length) r (by simp[DL]);rw[air]at y;refine⟨g,_,_,A,y,⟨dh (aT.1 r).1,d.lt,d.len,d.nd,λz1 b z2 s N=>?_,d.wid,d.out,d.low,?_⟩,D.fI q _,E⟩
 .have o:=cT s;rw[cd (λz0=>d.out (by rw[<-z0];exact o))];exact p b _ (.inl o) (d.row z1 b z2 s N)
 .rcases C with⟨T,-⟩|⟨T,b,X,Y,Z,v,q5⟩
  .simp at T
  .exact .inr ⟨T,b,X,by rw[cd v];exact Y,Z,v,q5⟩
def uR.mid{H}{q e w m}{B}{t}{j}{l}(f:uR H q e w m B t j l)(i:F l=w)(X:0<w):∃b,Mid H q e w m (B++[b]) (t++[l]):=by
 rcases f.cur with⟨rfl,-⟩|⟨Y,b,y,C,D,L,N⟩
 .simp at i;omega
 .refine⟨b,?_,by simp[f.len],?_,λv r R d c=>?_,λR c=>?_,?_,λr s=>?_⟩
  .rw[f.hJ,y,i];unfold t_;rw[jQ,ck,List.append_assoc];rfl
  .rw[List.nodup_append];refine⟨f.nd,by simp,λx u Z p=>?_⟩;rw[ig]at p;subst p;rintro rfl;exact D u
  .rcases dp v (F B) with g|T
   .rw[qH g]at d;rw[qH (by rw[<-f.len];exact g)]at c;exact f.row v r R d c
   .have:=(aT.1 d).1;rw[ck]at this;have o:v=F B:=(by simp at this;omega);subst o;rw[Ab]at d;rw[f.len,Ab]at c;injection d with d;injection c with c;subst d;subst c;exact C
  .rcases CH.1 c with z|z
   .exact f.wid R z
   .rw[ig]at z;rw[z];exact i
  .intro z;rcases CH.1 z with z|z
   .exact f.out z
   .rw[ig]at z;exact L z.symm
  .rcases CH.1 s with z|z
   .exact f.low r z
   .rw[ig]at z;rw[z];exact N
def atU(h:Heap)(x y:U)(rows:List (List Int))(c:List Int)(hx:RL x rows)(E:IL y c)(q:F rows<=1000)(ht:F c<=1000)(A:∀r∈rows,F r=F c):
 ∃r h',W2.call 168 [x,y] h=J (r,h')/\∃tb B,r=.ret (.arr tb 0 (F c) (F c))/\iS h' tb B (fe rows c) (F rows+1)/\Ext h h'/\F h.boxes<=tb/\∀b∈B,F h.boxes<=b:=by
 obtain⟨g,v,p,rfl,R,fh,ng⟩:=hx;obtain⟨ky,sy,rfl,jY⟩:=E;have kx:=ae.mk (aj R (aj ng (aj jY A)));clear R ng jY A;have mk:=aly h (F c) M .i64 .i64;have u23:=cU;have u22:=gy;have u203:=CR;have z23:=hw;have z3:=eX;have eH:=cG c;have HI:F (p.map λa=>[a])=F rows:=by rw[br];exact fh
 refine bL O Tryz.func168 O ?_;refine bh @BZ ?_;refine bC.gen λe d o eu dn=>?_;have f0:e.get 0=.list g v (p.map λa=>[a]):=by rw[d];exact gS
 have f5:e.get 5=.arr (F h.boxes) 0 (F c) (F c):=by rw[d];exact gS
 have f13:e.get 13=.list ky sy (ints c):=by rw[d];exact gS
 have f14:e.get 14=.v (.int .i64 (F c:Nat)):=by rw[d];exact gS
 have f15:e.get 15=.v (.int .i64 (0:Nat)):=by rw[d];exact gR
 have Z:e.defers=[]:=by rw[o];exact gS
 clear d o eu dn mk;have tl:=P1 rows c;have M0:Mid (h.push (bB (F c) (.list .nil 0 []))) (F h.boxes) (F h.boxes) (F rows+1) (F c) [] ((fe rows c).take 0):=by refine⟨by rw[aK];simp[t_],O,.nil,λj b r hi=>by simp at hi,λr q=>by simp at q,by simp,λb hb=>by simp at hb⟩
 refine b_ (λz1 i z0=>∃(k:Nat) (B:List Nat),k<=F c/\z1=F c-k/\F B=k/\ae (Mid z0 (F h.boxes) (F h.boxes) (F rows+1) (F c) B ((fe rows c).take k))/\ae (Ext h z0)/\i.get 0=.list g v (p.map λa=>[a])/\i.get 5=.arr (F h.boxes) 0 (F c) (F c)/\i.get 13=.list ky sy (ints c)/\i.get 14=.v (.int .i64 (F c:Nat))/\i.get 15=.v (.int .i64 (k:Nat))/\i.defers=[]) ?_ (F c) _ _ ?_;rotate_left 1
 .exact⟨0,[],bY _,O,O,⟨M0⟩,⟨.push _ _⟩,f0,f5,f13,f14,f15,Z⟩
 clear M0 f0 f5 f13 f14 f15 Z;rintro z1 i z0 ⟨k,B,hk,rfl,f,kM,T,g0,g5,g13,g14,g15,hd⟩;by_cases H:k<F c;rotate_left 1
 .have:k=F c:=by omega
  subst this;have z4:=kM.out.tab f;rw[ga M]at z4;have kT:=ae.mk z4;clear z4;refine bh @BZ ?_;exact⟨_,_,O,_,B,O,kT.out,T.out,aV _,kM.out.low⟩
 have ev:sy=1:=kx.out.2.2.1 (by intro z2;rw[z2]at H;simp at H);subst ev;have l0:=eS (H:=z0) (s:=1) H;have F0:=kM.out.half M;have kF0:=ae.mk F0;have hkI:(k:Int)<(F c:Int):=by omega
 clear F0;refine bG @BZ @aU ?_;refine bC.gen λe d o eu dn=>?_;have f0:e.get 0=.list g v (p.map λa=>[a]):=by rw[d];simp only[gW,reduceIte,aH,aC];exact g0
 have f5:e.get 5=.arr (F h.boxes) 0 (F c) (F c):=by rw[d];simp only[gW,reduceIte,aH,aC];exact g5
 have f6:e.get 6=.v (.int .i64 (k:Nat)):=by rw[d];exact gS
 have f7:e.get 7=.v (.int .i64 (af c k)):=by rw[d];exact gS
 have f13:e.get 13=.list ky 1 (ints c):=by rw[d];simp only[gW,reduceIte,aH,aC];exact g13
 have f14:e.get 14=.v (.int .i64 (F c:Nat)):=by rw[d];simp only[gW,reduceIte,aH,aC];exact g14
 have f15:e.get 15=.v (.int .i64 (k:Nat)):=by rw[d];simp only[gW,reduceIte,aH,aC];exact g15
 have f20:e.get 20=.list g v (p.map λa=>[a]):=by rw[d];exact gS
 have f21:e.get 21=.v (.int .i64 (F rows:Nat)):=by rw[d];exact gS
 have f22:e.get 22=.v (.int .i64 (0:Nat)):=by rw[d];exact gR
 have Z:e.defers=[]:=by rw[o];simp only[gW,reduceIte,aH,aC];exact hd
 clear d o eu dn g0 g5 g13 g14 g15 hd l0;refine b_ (λz1 i z0=>∃(j:Nat) (C:U),j<=F rows/\z1=F rows-j/\ae (uR z0 (F h.boxes) (F h.boxes) (F rows+1) (F c) B ((fe rows c).take k) C ((rows.take j).map λr=>af r k))/\ae (Ext h z0)/\i.get 0=.list g v (p.map λa=>[a])/\i.get 5=.arr (F h.boxes) 0 (F c) (F c)/\i.get 6=.v (.int .i64 (k:Nat))/\i.get 7=.v (.int .i64 (af c k))/\i.get 13=.list ky 1 (ints c)/\i.get 14=.v (.int .i64 (F c:Nat))/\i.get 15=.v (.int .i64 (k:Nat))/\i.get 20=.list g v (p.map λa=>[a])/\i.get 21=.v (.int .i64 (F rows:Nat))/\i.get 22=.v (.int .i64 (j:Nat))/\i.defers=[]) ?_ (F rows) _ _ ?_;rotate_left 1
 .exact⟨0,_,bY _,O,kF0,T,f0,f5,f6,f7,f13,f14,f15,f20,f21,f22,Z⟩
 clear f0 f5 f6 f7 f13 f14 f15 f20 f21 f22 Z kF0 kM T;rintro z1 e2 H2 ⟨j,C,hi,rfl,kF,T,g0,g5,g6,g7,g13,g14,g15,g20,g21,g22,hd⟩;have lc:F ((rows.take j).map λr=>af r k)=j:=by rw[br,cR];omega
 have D:(t_ (F rows+1) B++C::bB (F c-F B-1) (.list .nil 0 []))[k]?=J C:=by rw[<-f];exact aiq _ _ _ _
 have m1:=qs kF.out.hJ D;have Ep:=Bp (b:=h.boxes.length) (len:=c.length) (aS:=c.length) (k:=.i64) H;clear D;by_cases jH:j<F rows
 .obtain⟨a,ha⟩:∃a,p[j]?=J a:=⟨_,aP M⟩;obtain⟨r,q⟩:∃r,rows[j]?=J r:=⟨_,aP jH⟩;have R:v=1:=kx.out.1 (by intro z2;rw[z2]at jH;simp at jH);subst R;obtain⟨ka,sa,rfl,qW⟩:=kx.out.2.1 j a r ha q;have L:=kx.out.2.2.2 r (cT q);have Nh:sa=1:=qW (by intro z2;rw[z2]at L;simp at L;omega);subst Nh;have l1:=iX (H:=H2) (s:=1) ha;have l2:=eS (H:=H2) (l:=r) (i:=k) (s:=1) M;have Bb:F (ints r)=F c:=by rw[cG];exact L
  obtain⟨H3,H4,Y,c1,c2,m,X,-⟩:=kF.out.more T.out (aV _) (af r k) (by rw[lc];omega);have N:((rows.take j).map λr=>af r k)++[af r k]=(rows.take (j+1)).map λr=>af r k:=by rw[gg q,jQ];rfl
  rw[N]at m;rw[f]at c2;have bl:=qO (af r k);have kF2:=ae.mk m;have kX2:=ae.mk X;have Hg:(j:Int)<(F rows:Int):=by omega
  clear m X N ha q qW lc f tl L;refine bG @BZ @aU ?_
  repeat' (first|simp(maxSteps:=9999999) (disch:=first|exact dZ|fail) only[gW,reduceIte,aH,aC,BZ,aU, *]|(refine dX ?_ ?_<;>(intro _;try omega))|refine du wK am ?_)
  exact⟨F rows-(j+1),by omega,j+1,Y,by omega,O,kF2,by simp⟩
 .have gr:j=F rows:=by omega
  subst gr;obtain⟨H3,H4,Y,c1,c2,m,X,-⟩:=kF.out.more T.out (aV _) (af c k) (by rw[lc];omega);rw[fK]at m;have u:(rows.map λr=>af r k)++[af c k]=((fe rows c)[k]' M):=by unfold fe;rw[List.getElem_map,List.getElem_range]
  rw[u]at m;obtain⟨b,M2⟩:=m.mid (by rw[<-u];simp) M;rw[<-gg (aP (M:k<F (fe rows c)))]at M2;have kM2:=ae.mk M2;have kX2:=ae.mk X;have hBl:F (B++[b])=k+1:=by rw[ck,f];rfl
  rw[f]at c2;have bl:=qO (af c k);clear m X M2 u lc f tl;refine bh @BZ ?_;exact⟨F c-(k+1),by omega,k+1,B++[b],by omega,O,hBl,kM2,by simp⟩
def O6:Tryz.f91.results.toList=[.tmp 4]:=am
def rm:Tryz.f164.results.toList=[.tmp 4]:=am
def aqm:Tryz.f87.results.toList=[.tmp 4]:=am
def I6:Tryz.f163.results.toList=[.tmp 4]:=am
def YP:Tryz.f248.results.toList=[.tmp 2]:=am
def E8:Tryz.f221.results.toList=[]:=am
def YL:Tryz.f167.results.toList=[]:=am
def ajn(g:aR)(p:Int->Bool)(h:Heap)(x:U)(l:List Int)(E:IL x l)(hl:l.length<=1000000)(u:∀n∈l,W2.call g [I n] h=J (.ret (.v (.bool (p n))),h)):
 ∃r h',W2.call 164 [x,.func (.func g) [] []] h=some (r,h')/\h'=h/\∃i:Int,r=.ret (I i)/\decide (0<=i)=l.any p:=by
 obtain⟨k,T,rfl,v⟩:=E;have L:=ae.mk u;have N:=ae.mk v;clear u v;have Z:=cU;have z3:=eX;have X:=cG l;refine bL rfl abC rfl ?_;refine bh @rm ?_;refine b_ (λY q C=>∃i:Nat,i<=l.length/\Y=l.length - i/\(l.take i).any p=ah/\q.get 0=.list k T (ints l)/\q.get 1=.func (.func g) [] []/\q.get 7=.v (.int .i64 (l.length:Nat))/\q.get 8=.v (.int .i64 (i:Nat))/\q.defers=[]/\C=h) ?_ l.length _ _ ?_;rotate_left 1
 .refine⟨0,bY _,rfl,by simp,?_,?_,?_,?_,?_,rfl⟩<;>exact gR
 rintro Y q C ⟨i,hi,rfl,s,g0,g1,g7,g8,hd,rfl⟩;have A:=ae.mk s;clear s;by_cases d:i<l.length
 .have y:T=1:=N.out (by intro z0;rw[z0] at d;simp at d);subst y;have ld:=eS (H:=C) (s:=1) d;have m:l[i]?=J (af l i):=by rw[aP d,gb d]
  have o:=L.out (af l i) (cT m);have D:(i:Int)<(l.length:Int):=by omega
  have e:(l.take (i+1)).any p=p (af l i):=by rw[gg m,J5,A.out];simp
  have R:=ae.mk e;have H:=ae.mk m;clear m e;unfold I at o;cases c:p (af l i) with
  |true=>rw[c] at o;have f:l.any p=V:=J6.2 ⟨_,cT H.out,c⟩;have j:=ae.mk f;clear f c;refine bA @rm @aU @dO.{0} @gj.{0} ?_;exact⟨_,_,rfl,rfl,(i:Int),rfl,by rw[j.out];simp⟩
  |false=>rw[c] at o;have B:(l.take (i+1)).any p=ah:=R.out.trans c;clear c;refine bA @rm @aU @dO.{0} @gj.{0} ?_;exact⟨l.length - (i+1),by omega,i+1,by omega,rfl,B,by simp⟩
 .have:i=l.length:=by omega
  subst this;have:=A.out;rw[fK] at this;have j:=ae.mk this;clear this;refine bh @rm ?_;exact⟨_,_,rfl,rfl,-1,rfl,by rw[j.out];rfl⟩
def S6(g)(p)(h)(x)(l)(j:IL x l)(f:F l<=1000000)(i:∀n∈l,W2.call g [I n] h=J (.ret (.v (.bool (p n))),h)):
 W2.call 91 [x,.func (.func g) [] []] h=J (.ret (.v (.bool (l.any p))),h):=by
 obtain⟨q,h',o,rfl,m,rfl,c⟩:=ajn g p h x l j f i;have d:(0<=m)=(l.any p=V):=by rw[<-c];simp
 have e:decide (0<=m)=l.any p:=c;unfold I at o;refine cr O abV O ?_;clear c d;exact iL @O6
def ajo(g:aR)(p:List Int->Bool)(h:Heap)(x:U)(l:List (List Int))(T:RL x l)(hl:l.length<=1000000)(A:∀a r,r∈l->IL a r->W2.call g [a] h=J (.ret (.v (.bool (p r))),h)):
 ∃r h',W2.call 163 [x,.func (.func g) [] []] h=some (r,h')/\h'=h/\∃i:Int,r=.ret (I i)/\decide (0<=i)=l.any p:=by
 obtain⟨k,z0,s,rfl,B,D,q⟩:=T;have L:=ae.mk q;clear q;have Y:=ae.mk A;have Z:=ae.mk B;clear A B;have u22:=gy;have z23:=hw;have eH:(s.map λa=>[a]).length=l.length:=by rw[br];exact D
 refine bL rfl Tryz.func163 rfl ?_;refine bh @I6 ?_;refine b_ (λz1 u N=>∃i:Nat,i<=l.length/\z1=l.length - i/\(l.take i).any p=ah/\u.get 0=.list k z0 (s.map λa=>[a])/\u.get 1=.func (.func g) [] []/\u.get 7=.v (.int .i64 (l.length:Nat))/\u.get 8=.v (.int .i64 (i:Nat))/\u.defers=[]/\N=h) ?_ l.length _ _ ?_;rotate_left 1
 .refine⟨0,bY _,rfl,by simp,?_,?_,?_,?_,?_,rfl⟩<;>exact gR
 rintro z1 u N ⟨i,hi,rfl,v,g0,g1,g7,g8,hd,rfl⟩;have E:=ae.mk v;clear v;by_cases j:i<l.length
 .have C:z0=1:=Z.out (by intro z2;rw[z2] at j;simp at j);subst C;obtain⟨a,f⟩:∃a,s[i]?=J a:=⟨_,aP M⟩;obtain⟨r,m⟩:∃r,l[i]?=J r:=⟨_,aP j⟩;have ld:=iX (H:=N) (s:=1) f;have y:=Y.out a r (cT m) (L.out i a r f m);clear f;have R:(i:Int)<(l.length:Int):=by omega
  have d:(l.take (i+1)).any p=p r:=by rw[gg m,J5,E.out];simp
  have kt:=ae.mk d;have X:=ae.mk m;clear m d;cases c:p r with
  |true=>rw[c] at y;have e:l.any p=V:=J6.2 ⟨_,cT X.out,c⟩;have o:=ae.mk e;clear e c;refine bA @I6 @aU @dO.{0} @gj.{0} ?_;exact⟨_,_,rfl,rfl,(i:Int),rfl,by rw[o.out];simp⟩
  |false=>rw[c] at y;have H:(l.take (i+1)).any p=ah:=kt.out.trans c;clear c;refine bA @I6 @aU @dO.{0} @gj.{0} ?_;exact⟨l.length - (i+1),by omega,i+1,by omega,rfl,H,by simp⟩
 .have:i=l.length:=by omega
  subst this;have:=E.out;rw[fK] at this;have o:=ae.mk this;clear this;refine bh @I6 ?_;exact⟨_,_,rfl,rfl,-1,rfl,by rw[o.out];rfl⟩
def afy(g)(p)(h)(x)(l)(j:RL x l)(f:F l<=1000000)(i:∀a r,r∈l->IL a r->W2.call g [a] h=J (.ret (.v (.bool (p r))),h)):
 W2.call 87 [x,.func (.func g) [] []] h=J (.ret (.v (.bool (l.any p))),h):=by
 obtain⟨r,h',o,rfl,m,rfl,c⟩:=ajo g p h x l j f i;have d:(0<=m)=(l.any p=V):=by rw[<-c];simp
 have e:decide (0<=m)=l.any p:=c;unfold I at o;refine cr O Tryz.func87 O ?_;clear c d;exact iL @aqm
def lu(n:Int):Bool:=decide (n<0)||decide (1073741789<=n)
def alZ(n:Int)(h:Heap):W2.call 248 [I n] h=J (.ret (.v (.bool (lu n))),h):=by
 unfold I lu;by_cases c:n<0
 .refine cr O abM O ?_;have:decide (n<0)=V:=by simp[c]
  exact dV @YP @aap
 .refine cr O abM O ?_;have:decide (n<0)=ah:=by simp[c]
  exact dV @YP @FE
def Ia(e:Int)(h:Heap):W2.call 220 [.v (.bool V),I e] h=J (.ret (.tuple []),h):=by unfold I;refine cr O Tryz.func220 O ?_;exact iL @aqz
def al3{l:List Int}(h:∀x∈l,okF x):l.any lu=ah:=by rw[QD];intro x c;obtain⟨d,h2⟩:=h x c;have:Qi=1073741789:=rfl;unfold lu;simp;omega
def SO(h:Heap)(x:U)(rows:List (List Int))(w:Nat)(hx:RL x rows)(hr:F rows<=1000)(A:∀r∈rows,F r=w)(oM:w<=64)(D:∀r∈rows,∀x∈r,okF x):∃h',W2.call 221 [x] h=J (.ret (.tuple []),h')/\h'=h:=by
 obtain⟨k,B,f,rfl,hs,fh,E⟩:=hx;have i:=ae.mk (aj hs (aj E (aj A D)));clear hs E A D;have u23:=cU;have u22:=gy;have z23:=hw;have eH:F (f.map λa=>[a])=F rows:=by rw[br];exact fh
 have n2:=Ia 2;have X:=Ia 130;unfold I at n2 X;refine gI O Tryz.func221 O ?_;refine bh @E8 ?_;refine b_ (λz1 o s=>∃e:Nat,e<=F rows/\z1=F rows-e/\o.get 0=.list k B (f.map λa=>[a])/\o.get 7=.list k B (f.map λa=>[a])/\o.get 8=.v (.int .i64 (F rows:Nat))/\o.get 9=.v (.int .i64 (e:Nat))/\o.defers=[]/\s=h) ?_ (F rows) _ _ ?_;rotate_left 1
 .refine⟨0,bY _,O,?_,?_,?_,?_,?_,O⟩<;>exact gR
 rintro z1 o s ⟨e,hi,rfl,H,g7,g8,g9,L,rfl⟩;by_cases c:e<F rows
 .have v:B=1:=i.out.1 (by intro z2;rw[z2]at c;simp at c);subst v;obtain⟨a,d⟩:∃a,f[e]?=J a:=⟨_,aP M⟩;obtain⟨r,l⟩:∃r,rows[e]?=J r:=⟨_,aP c⟩;have ld:=iX (H:=s) (s:=1) d;obtain⟨ka,sa,rfl,p⟩:=i.out.2.1 e a r d l;have j:=i.out.2.2.1 r (cT l);have R:F (ints r)=w:=by rw[cG];exact j
  have N:(e:Int)<(F rows:Int):=by omega
  have hwd:decide ((w:Int)<=64)=V:=by simp;omega
  clear d l p j;refine bG @E8 @aU ?_;exact⟨F rows-(e+1),by omega,e+1,by omega,O,by simp⟩
 .refine bh @E8 ?_;refine bC.gen λq g C eu dn=>?_;have f0:q.get 0=.list k B (f.map λa=>[a]):=by rw[g];simp only[gW,reduceIte,aH,aC];exact H
  have f4:q.get 4=.func (.func 248) [] []:=by rw[g];exact gS
  have f18:q.get 18=.list k B (f.map λa=>[a]):=by rw[g];exact gS
  have f19:q.get 19=.v (.int .i64 (F rows:Nat)):=by rw[g];exact gS
  have f20:q.get 20=.v (.int .i64 (0:Nat)):=by rw[g];exact gR
  have Z:q.defers=[]:=by rw[C];simp only[gW,reduceIte,aH,aC];exact L
  clear g C eu dn H g7 g8 g9 L hi c;refine b_ (λz1 o H2=>∃e:Nat,e<=F rows/\z1=F rows-e/\o.get 0=.list k B (f.map λa=>[a])/\o.get 4=.func (.func 248) [] []/\o.get 18=.list k B (f.map λa=>[a])/\o.get 19=.v (.int .i64 (F rows:Nat))/\o.get 20=.v (.int .i64 (e:Nat))/\o.defers=[]/\H2=s) ?_ (F rows) _ _ ?_;rotate_left 1
  .exact⟨0,bY _,O,f0,f4,f18,f19,f20,Z,O⟩
  clear f0 f4 f18 f19 f20 Z;rintro z1 o s ⟨e,hi,rfl,H,g4,g18,g19,g20,L,rfl⟩;by_cases c:e<F rows
  .have v:B=1:=i.out.1 (by intro z2;rw[z2]at c;simp at c);subst v;obtain⟨a,d⟩:∃a,f[e]?=J a:=⟨_,aP M⟩;obtain⟨r,l⟩:∃r,rows[e]?=J r:=⟨_,aP c⟩;obtain⟨a0,m⟩:∃a,f[0]?=J a:=⟨_,aP M⟩;obtain⟨Y,y⟩:∃r,rows[0]?=J r:=⟨_,aP M⟩;have ld:=iX (H:=s) (s:=1) d;have ld0:=iX (H:=s) (s:=1) m;obtain⟨ka,sa,rfl,p⟩:=i.out.2.1 e a r d l;obtain⟨ka0,sa0,rfl,T⟩:=i.out.2.1 0 a0 Y m y;have j:=i.out.2.2.1 r (cT l);have u:=i.out.2.2.1 Y (cT y);have cc:=S6 248 lu s (.list ka sa (ints r)) r ⟨_,_,O,p⟩ M (λn _=>alZ n s);rw[al3 (i.out.2.2.2 r (cT l))]at cc;have R:F (ints r)=w:=(by rw[cG];exact j);have Na:F (ints Y)=w:=(by rw[cG];exact u);have N:(e:Int)<(F rows:Int):=(by omega);have Dp:(0:Int)<(F rows:Int):=(by omega);have z0:(0:Int).toNat=0:=rfl;clear d l p j m y T u;refine bG @E8 @aU ?_;exact⟨F rows-(e+1),by omega,e+1,by omega,O,by simp⟩
  .refine bh @E8 ?_;exact⟨_,O,O⟩
def BX:Tryz.f93.results.toList=[.tmp 4,.tmp 5,.cell 6 39]:=am
def aqu:Tryz.f166.results.toList=[]:=am
def Ga(x)(c:x.cW=V):fy aa 22 1 [(0,x)]=J (.list .tight 1 [[x]]):=by cases x<;>first|(cases c;done)|kernel_rfl
def IL.cell{x}{l}(h:IL x l):x.cW=V:=by obtain⟨k,c,rfl,-⟩:=h;rfl
def Sv(b:Nat)(h:Heap):W2.iA 166 [.ptr (.box b) 0] ag h=J (.ret (.tuple []),ag,h):=by have c:=Tryz.underlying20;refine Ls Tryz.func166 O ?_;exact pC @aqu @RS @and_self
def agx(h:Heap)(x y:U)(rows:List (List Int))(c:List Int)(R:RL x rows)(u:IL y c)(g:F rows<=64)(m:∀r∈rows,F r=F c)(s:F c<=64)(p:∀r∈rows,∀x∈r,okF x)(q:∀x∈c,okF x):
 W2.call 167 [x,y] h=J (.ret (.tuple []),h):=by
 obtain⟨h1,Y,C⟩:=SO h x rows (F c) R M m s p;rw[C]at Y;clear C h1;have o:RL (.list .tight 1 [[y]]) [c]:=⟨.tight,1,[y],O,λ_=>rfl,O,λz1 a r f g=>by
  cases z1 with
  |zero=>simp only[List.getElem?_cons_zero]at f g;injection f with f;injection g with g;subst f;subst g;exact u
  |succ z1=>simp at f⟩
 obtain⟨h2,Z,D⟩:=SO h (.list .tight 1 [[y]]) [c] (F c) o b8 b8 s (by simpa using q);rw[D]at Z;clear D h2;have bl:=Ga y u.cell;have n2:=Ia 2;have v:=Ia 130;obtain⟨k,z2,X,rfl,L,T,l⟩:=R;obtain⟨ky,sy,rfl,jY⟩:=u;have u23:=cU;have u22:=gy;have z23:=hw;have eH:F (X.map λa=>[a])=F rows:=by rw[br];exact T
 have vo:=cG c;have hrI:decide ((F rows:Int)<=64)=V:=by simp;omega
 unfold I at n2 v;clear o p q;refine cr O Tryz.func167 O ?_;by_cases e:F rows=0
 .have hq:decide ((F rows:Int)=0)=V:=by simp[e]
  clear m l e;exact iL @YL
 .have hq:decide ((F rows:Int)=0)=ah:=by simp[e]
  obtain⟨a0,d⟩:∃a,X[0]?=J a:=⟨_,aP M⟩;obtain⟨B,j⟩:∃r,rows[0]?=J r:=⟨_,aP M⟩;have N:z2=1:=L (by intro z3;rw[z3]at e;simp at e);subst N;have ld0:=iX (H:=h) (s:=1) d;obtain⟨ka0,sa0,rfl,Ed⟩:=l 0 a0 B d j;have i:=m B (cT j);have Na:F (ints B)=F c:=by rw[cG];exact i
  have Dp:(0:Int)<(F rows:Int):=by omega
  have z0:(0:Int).toNat=0:=rfl;clear m l d j i L;exact dV @YL @aU
def xY:fH aa 39=J ah:=am
def ZQ:cC aa 39=J 1:=am
def auN:(fW aa 39).bind U.bF=J [I 0]:=am
def Wu{H}{b}{x}(c:H.boxes[b]?=J [x]):aD aa Gt H 39 (.ptr (.box b) 0)=J x:=by rw[fm xY c];rfl
def Zr{H}{b}{x}{n}(c:H.boxes[b]?=J [x]):bV aa H 39 (.ptr (.box b) 0) (.v (.int .i64 n))=J (H.put b [.v (.int .i64 n)]):=fC (off:=0) (cs:=[x]) (xs:=[I n]) O ZQ c O (aV 1)
def ar6{b n k}(e:k<=n):∃off,gw aa 207 (.arr b 0 n n) (J (.v (.int .i64 (k:Nat)))) ag ag=J (.arr b off (n-k) (n-k))/\(k<n->off=k):=by
 refine⟨if n=k then 0 else 0+k*1,?_,λh=>by rw[aL M];omega⟩;have c:gc n ag n=J n:=rfl;have d:gc n (J (.v (.int .i64 (k:Nat)))) 0=J k:=by show(if 0<=(k:Int)/\(k:Int)<=(n:Int) then J (k:Int).toNat else ag)=_;rw[av ⟨M,by omega⟩];rfl
 unfold gw;simp only[CR,hw,c,d,Option.isSome_none,uO,Bool.false_eq_true,false_and,if_false];rfl
def ajV{b off len aS n}{k}(c:n<len):dK aa 207 (.arr b off len aS) (.v (.int k (n:Nat)))=J (.ptr (.box b) (off+n)):=by rw[Bm CR hw M M,fD,jS]
def jy(t:List (List Int))(pv:List Nat)(n j:Nat):List Int:=(pv.zipIdx.take j).foldl (λd c=>d.set c.1 (af (t.getD c.2 []) n)) (bB n 0)
def IJ(t)(pv)(n j):F (jy t pv n j)=n:=by unfold jy;rw[Dk (λc=>af (t.getD c.2 []) n),mw]
def Yn{t}{pv}{n j p}(h:pv[j]?=J p):(jy t pv n j).set p (af (t.getD j []) n)=jy t pv n (j+1):=by
 have c:pv.zipIdx[j]?=J (p,j):=by rw[aaS,h];simp
 unfold jy;rw[gg c,oD];rfl
def Ym(t)(pv)(n):jy t pv n (F pv)=nK (t,pv) n:=by unfold jy nK;rw[ga b8]
def aaq(rows:List (List Int))(c:List Int)(h:Heap)(r:dR)(h':Heap):Prop:=
 Ext h h'/\((nT rows c=ag/\r=.ret (.tuple [.list .nil 0 [],.v (.bool ah),I 0]))∨∃d b,nT rows c=J d/\F d=F rows/\r=.ret (.tuple [.arr b 0 (F rows) (F rows),.v (.bool V),I 0])/\h'.boxes[b]?=J (d.map I))
def afs(h:Heap)(x y:U)(rows:List (List Int))(c:List Int)(hx:RL x rows)(E:IL y c)(hr:F rows<=64)(A:∀r∈rows,F r=F c)(oM:F c<=64)(fQ:∀r∈rows,∀x∈r,okF x)(yW:∀x∈c,okF x)(ho:c_ h=V):
 ∃r h',W2.call 93 [x,y] h=J (r,h')/\aaq rows c h r h':=by
 have c1:=agx (h.push [I 0]) x y rows c hx E hr A oM fQ yW;obtain⟨_,H2,c2,B,z5,rfl,T2,X2,ou,k'⟩:=atU (h.push [I 0]) x y rows c hx E M M A;obtain⟨t1,t2⟩:=P2 fQ yW;have tl:=P1 rows c;obtain⟨_,g,c3,tk,s3,B3,rfl,j,T3,GY,G3⟩:=aok H2 B z5 (fe rows c) (F rows+1) (F rows) T2 M M M t2 (X2.ok ho);have H:=aol (many:=rows.length) t1 t2 M;obtain⟨z6,z0⟩:=ES t1 t2 (M:F rows<=F rows+1);rw[H]at j T3 c3;rw[tl]at c3;have L:nT rows c=if ((g' (fe rows c) (F rows)).1.drop (F (g' (fe rows c) rows.length).2)).all (λa=>decide (af a (F rows)=0)) then J (nK (g' (fe rows c) (F rows)) (F rows)) else ag:=rfl
 have Hh:F (g' (fe rows c) rows.length).1=F c:=by have:=(Yr t1 t2 (F rows) M).2.1;rw[<-Yq,H]at this;omega
 have X3:Ext (h.push [I 0]) g:=X2.Oa (G3.mu.sO X2.tn) (λb v=>by
  rcases gU.1 v with q|q
  .rw[q];exact ou
  .exact k' b q)
 have o:g.boxes[h.boxes.length]?=J [I 0]:=X3.box _ _ (aK _ _);have s:Ext h g:=(Ext.push h [I 0]).trans X3;obtain⟨k,z7,xs,rfl,hs,fh,ng⟩:=hx;obtain⟨ky,sy,rfl,jY⟩:=E;have eH:F (xs.map λa=>[a])=F rows:=by rw[br];exact fh
 have avG:=z0.len;generalize gZ:g' (fe rows c) (F rows)=st at *
 obtain⟨m,d⟩:=st;dsimp only at *
 have Hu:=NF d;have kk:=ae.mk (aj T3 (aj z0 (aj L (aj s (aj o j)))));clear T2 X2 ou k' t1 t2 tl H z6 z0 L GY G3 X3 o s T3 hs fh ng jY gZ j fQ yW A ho;have u23:=cU;have u22:=gy;have u203:=CR;have z23:=hw;have z32:=auN;obtain⟨X,qX,A7⟩:=ar6 (b:=B) (M:F d<=F c);have khoff:=ae.mk A7;clear A7;unfold I at *
 refine bL O Tryz.func93 O ?_;refine bh @BX ?_;refine bC.gen λi e R T dn=>?_;have f6:i.get 6=.ptr (.box (F h.boxes)) 0:=by rw[e];exact gS
 have f7:i.get 7=.v (.int .i64 (F rows:Nat)):=by rw[e];exact gS
 have f8:i.get 8=.arr B 0 (F c) (F c):=by rw[e];exact gS
 have f9:i.get 9=.list tk s3 (ints (cJ d)):=by rw[e];exact gS
 have f28:i.get 28=.arr B X (F c-F d) (F c-F d):=by rw[e];exact gS
 have f29:i.get 29=.v (.int .i64 ((F c-F d:Nat):Int)):=by rw[e];exact gS
 have f30:i.get 30=.v (.int .i64 (0:Nat)):=by rw[e];exact gR
 have fd:i.defers=[(166,[.ptr (.box (F h.boxes)) 0])]:=by rw[R];exact gS
 have fp:i.cD=ag:=by rw[T];exact gS
 clear e R T dn c1 c2 c3 qX;refine b_ (λz4 u z1=>∃f:Nat,f<=F c-F d/\z4=F c-F d-f/\ae (∀Z,Z<f->∀a,m[F d+Z]?=J a->af a (F rows)=0)/\u.get 6=.ptr (.box (F h.boxes)) 0/\u.get 7=.v (.int .i64 (F rows:Nat))/\u.get 8=.arr B 0 (F c) (F c)/\u.get 9=.list tk s3 (ints (cJ d))/\u.get 28=.arr B X (F c-F d) (F c-F d)/\u.get 29=.v (.int .i64 ((F c-F d:Nat):Int))/\u.get 30=.v (.int .i64 (f:Nat))/\u.defers=[(166,[.ptr (.box (F h.boxes)) 0])]/\u.cD=ag/\z1=g) ?_ (F c-F d) _ _ ?_;rotate_left 1
 .exact⟨0,bY _,O,⟨λZ hi=>absurd hi (nt _)⟩,f6,f7,f8,f9,f28,f29,f30,fd,fp,O⟩
 clear f6 f7 f8 f9 f28 f29 f30 fd fp;rintro z4 u g ⟨f,hj,rfl,kz,g6,g7,g8,g9,g28,g29,g30,hd,hp,rfl⟩;obtain⟨T3,z0,L,s,o,j⟩:=kk.out;have s6:=λn=>Zr (n:=n) o;by_cases D:f<F c-F d
 .obtain⟨a,p⟩:∃a,m[F d+f]?=J a:=⟨_,aP M⟩;obtain⟨b,v⟩:∃b,B3[F d+f]?=J b:=⟨_,aP (by rw[T3.len];omega)⟩;have wa:=T3.wid a (cT p);have C:(B3.map λb=>U.arr b 0 (F rows+1) (F rows+1))[X+f]?=J (.arr b 0 (F rows+1) (F rows+1)):=by rw[khoff.out M,ec,v];rfl
  have m1:=qs T3.hJ C;have m2:=vH (T3.row _ _ _ v p) (us (k:=rows.length) M);have ix1:=ajV (b:=B) (off:=X) (aS:=F c-F d) (k:=.i64) D;have ix2:=nZ (b:=b) (len:=F rows+1) (aS:=F rows+1) (k:=.i64) (M:F rows<F rows+1);have fO:(f:Int)<((F c-F d:Nat):Int):=by omega
  by_cases hz:af a (F rows)=0
  .have kz2:ae (∀Z,Z<f+1->∀a,m[F d+Z]?=J a->af a (F rows)=0):=⟨λZ hi a' N=>by
    rcases dp Z f with q|q
    .exact kz.out Z q a' N
    .rw[(M:Z=f),p]at N;injection N with N;rw[<-N];exact hz⟩
   rw[hz]at m2;unfold I at *
   clear T3 z0 L s o j s6 p v wa C hz kz;refine bh @BX ?_;exact⟨F c-F d-(f+1),by omega,f+1,by omega,O,kz2,by simp⟩
  .have e2:nT rows c=ag:=(by rw[L,aL];intro q;rw[eJ]at q;have:=q a (cT (i:=f) (by rw[o0];exact p));exact hz (of_decide_eq_true this));have ke:=ae.mk e2;have kX:=ae.mk s;have kb:=ae.mk o;have l6:∀n,aD aa Gt (g.put (F h.boxes) [.v (.int .i64 n)]) 39 (.ptr (.box (F h.boxes)) 0)=J (.v (.int .i64 n)):=λn=>Wu (dh (aT.1 o).1);unfold I at *
   clear T3 z0 L s o j p v wa C kz e2
   repeat' (first|simp(maxSteps:=9999999) (disch:=first|exact dZ|fail) only[gW,reduceIte,aH,aC,BX,P6 (Sv _ _), *]|refine dX ?_ ?_<;>(intro _;try omega))
   exact⟨_,_,O,kX.out.fI (aV _) _,.inl ⟨ke.out,O⟩⟩
 .have ql:f=F c-F d:=by omega
  subst ql;have e2:nT rows c=J (nK (m,d) (F rows)):=by rw[L,av];rw[eJ];intro a p;obtain⟨Z,hi⟩:=qI p;rw[o0]at hi;have eH:=(aT.1 hi).1;exact bQ (kz.out Z M a hi)
  rw[<-Ym]at e2;have ke:=ae.mk e2;have mk:=vK g (F rows) M .i64 .i64;have rV:bB (F rows) (I 0)=(jy m d (F rows) 0).map I:=by unfold jy;rw[cX,CE,xR]
  rw[rV]at mk;clear L e2 rV kz o s6 s T3 z0 j;unfold I at mk;refine bh @BX ?_;refine bC.gen λi e R T dn=>?_;have f4:i.get 4=.arr (F g.boxes) 0 (F rows) (F rows):=by rw[e];exact gS
  have f6:i.get 6=.ptr (.box (F h.boxes)) 0:=by rw[e];simp only[gW,reduceIte,aH,aC];exact g6
  have f7:i.get 7=.v (.int .i64 (F rows:Nat)):=by rw[e];simp only[gW,reduceIte,aH,aC];exact g7
  have f8:i.get 8=.arr B 0 (F c) (F c):=by rw[e];simp only[gW,reduceIte,aH,aC];exact g8
  have f42:i.get 42=.list tk s3 (ints (cJ d)):=by rw[e];exact gS
  have f43:i.get 43=.v (.int .i64 (F d:Nat)):=by rw[e];exact gS
  have f44:i.get 44=.v (.int .i64 (0:Nat)):=by rw[e];exact gR
  have fd:i.defers=[(166,[.ptr (.box (F h.boxes)) 0])]:=by rw[R];simp only[gW,reduceIte,aH,aC];exact hd
  have fp:i.cD=ag:=by rw[T];simp only[gW,reduceIte,aH,aC];exact hp
  clear e R T dn g6 g7 g8 g9 g28 g29 g30 hd hp mk;refine b_ (λz4 u z1=>∃f:Nat,f<=F d/\z4=F d-f/\u.get 4=.arr (F g.boxes) 0 (F rows) (F rows)/\u.get 6=.ptr (.box (F h.boxes)) 0/\u.get 7=.v (.int .i64 (F rows:Nat))/\u.get 8=.arr B 0 (F c) (F c)/\u.get 42=.list tk s3 (ints (cJ d))/\u.get 43=.v (.int .i64 (F d:Nat))/\u.get 44=.v (.int .i64 (f:Nat))/\u.defers=[(166,[.ptr (.box (F h.boxes)) 0])]/\u.cD=ag/\z1=g.push ((jy m d (F rows) f).map I)) ?_ (F d) _ _ ?_;rotate_left 1
  .exact⟨0,bY _,O,f4,f6,f7,f8,f42,f43,f44,fd,fp,O⟩
  clear f4 f6 f7 f8 f42 f43 f44 fd fp;rintro z4 u z1 ⟨f,hj,rfl,g4,g6,g7,g8,g42,g43,g44,hd,hp,rfl⟩;obtain⟨T3,z0,-,s,o,j⟩:=kk.out;by_cases D:f<F d
  .obtain⟨z2,Y⟩:∃z2,d[f]?=J z2:=⟨_,aP D⟩;have xj:=z0.lt f z2 Y;have ev:s3=1:=by
    rcases j with q|⟨q,-⟩
    .exact q
    .exfalso;unfold cJ at q;rw[Ac]at q;rw[q]at D;exact nt _ D
   subst ev;obtain⟨a,p⟩:∃a,m[f]?=J a:=⟨_,aP M⟩;obtain⟨b,v⟩:∃b,B3[f]?=J b:=⟨_,aP (by rw[T3.len];omega)⟩;have wa:=T3.wid a (cT p);have C:(B3.map λb=>U.arr b 0 (F rows+1) (F rows+1))[f]?=J (.arr b 0 (F rows+1) (F rows+1)):=(by rw[ec,v];rfl);have M7:af (cJ d) f=(z2:Int):=(by have:(cJ d)[f]?=J (z2:Int):=(by unfold cJ;rw[ec,Y];rfl);unfold af;rw[eK,this];rfl);have l0:=eS (H:=g.push ((jy m d (F rows) f).map I)) (l:=cJ d) (i:=f) (s:=1) (by unfold cJ;rw[br];exact D);rw[M7]at l0;have m1:=qs (H:=g.push ((jy m d (F rows) f).map I)) (aN T3.hJ) C;have m2:=vH (H:=g.push ((jy m d (F rows) f).map I)) (aN (T3.row _ _ _ v p)) (us (k:=rows.length) M);have ix1:=Bp (b:=B) (len:=c.length) (aS:=c.length) (k:=.i64) (M:f<F c);have ix2:=nZ (b:=b) (len:=F rows+1) (aS:=F rows+1) (k:=.i64) (M:F rows<F rows+1);have ix3:=nZ (b:=g.boxes.length) (len:=rows.length) (aS:=rows.length) (k:=.i64) xj;have sk:=uJ (H:=g.push ((jy m d (F rows) f).map I)) (b:=g.boxes.length) (r:=jy m d (F rows) f) (k:=z2) (x:=af a (F rows)) (aK _ _) (by rw[IJ];exact xj);have gD:m.getD f []=a:=(by rw[eK,p];rfl);rw[mg,<-gD,Yn Y,gD]at sk;have fO:(f:Int)<(F d:Int):=(by omega);have z3:=eX;unfold I at *
   clear T3 z0 s o j p v wa C gD M7 Y kk ke;refine bG @BX @aU ?_;exact⟨F d-(f+1),by omega,f+1,by omega,O,by simp⟩
  .have ql:f=F d:=(by omega);subst ql;have b1:(g.push ((jy m d (F rows) (F d)).map I)).boxes[h.boxes.length]?=J [I 0]:=aN o;have s6:=λn=>Zr (n:=n) b1;have U9:=(aT.1 b1).1;have l6:∀n,aD aa Gt ((g.push ((jy m d (F rows) (F d)).map I)).put (F h.boxes) [.v (.int .i64 n)]) 39 (.ptr (.box (F h.boxes)) 0)=J (.v (.int .i64 n)):=λn=>Wu (dh U9);have fP:F g.boxes≠F h.boxes:=(by have:=(aT.1 o).1;omega);have kX:=ae.mk s;clear T3 z0 s o b1 j U9
   repeat' (first|simp(maxSteps:=9999999) (disch:=first|exact dZ|fail) only[gW,reduceIte,aH,aC,BX,P6 (Sv _ _), *]|refine dX ?_ ?_<;>(intro _;try omega))
   exact⟨_,_,O,(kX.out.trans (.push _ _)).fI (aV _) _,.inr ⟨_,_,ke.out,IJ _ _ _ _,O,(cd fP).trans (aK _ _)⟩⟩
def YH:Tryz.f89.results.toList=[.tmp 6]:=am
def aqo:Tryz.f90.results.toList=[.tmp 2]:=am
def aql:Tryz.f86.results.toList=[.tmp 2]:=am
def aqn:Tryz.f88.results.toList=[.tmp 2]:=am
def uG:Tryz.f35.results.toList=[.tmp 2]:=am
def Z_(n a b)(h):W2.call 89 [I n,I a,I b] h=J (.ret (.v (.bool (decide (a<=n)&&decide (n<=b)))),h):=by
 unfold I;by_cases c:a<=n
 .have:decide (a<=n)=V:=by simp[c]
  refine cr O abU O ?_;exact dV @YH @mL
 .have:decide (a<=n)=ah:=by simp[c]
  refine cr O abU O ?_;exact dV @YH @uO
def sg(n:Int):Bool:=decide (0<=n)&&decide (n<=63)
def XK(n)(h):W2.call 90 [I n] h=J (.ret (.v (.bool (sg n))),h):=by
 have w:=Z_ n 0 63 h;unfold sg;unfold I at *
 refine cr O Tryz.func90 O ?_;exact iL @aqo
def ak8(a)(r)(c:IL a r)(h):W2.call 86 [a] h=J (.ret (.v (.bool (decide (64<F r)))),h):=by
 obtain⟨k,g,rfl,-⟩:=c;have e:=cU;have f:=cG r;have d:decide (64<F r)=decide ((64:Int)<(F r:Int)):=by rw[decide_eq_decide];omega
 rw[d];refine cr O Tryz.func86 O ?_;exact iL @aql
def alX(n)(h):W2.call 88 [I n] h=J (.ret (.v (.bool (!cN n))),h):=by
 have w:=Z_ n 0 1073741788 h;have c:cN n=(decide (0<=n)&&decide (n<=1073741788)):=by unfold cN Qi;congr 1;rw[decide_eq_decide];omega
 rw[c];unfold I at *
 refine cr O Tryz.func88 O ?_;exact iL @aqn
def KI:fH aa 22=J ah:=am
def Ao:fH aa 25=J V:=am
def de{b}:dU aa 25 (.ptr (.box b) 0) 0=J (.ptr (.box b) 0):=am
def dW{b}:dU aa 25 (.ptr (.box b) 0) 1=J (.ptr (.box b) 1):=am
def ox{H}{b}{x y}(c:H.boxes[b]?=J [x,y]):aD aa Gt H 22 (.ptr (.box b) 0)=J x:=by rw[fm KI c];rfl
def xv{H}{b}{x y}(c:H.boxes[b]?=J [x,y]):aD aa Gt H 23 (.ptr (.box b) 1)=J y:=by rw[fm mW c];rfl
def qa(rows:List (List Int))(ac:List Int)(i:Nat):Bool:= !(rows.getD i []).isEmpty&&decide (F (rows.getD i [])=F (rows.getD 0 []))&&(decide (0<=af ac i)&&decide (af ac i<=63))&&(rows.getD i []).all cN
def SQ(h:Heap)(x y:U)(rows:List (List Int))(ac:List Int)(hx:RL x rows)(E:IL y ac):
 ∃h',W2.call 35 [.agg [x,y]] h=J (.ret (.v (.int .i64 (cH rows ac))),h')/\h'=h.push [x,y]:=by
 have c1:=λ(hl:F rows<=64)=>afy 86 (λd=>decide (64<F d)) (h.push [x,y]) x rows hx M (λa d _ ha=>ak8 a d ha _);obtain⟨k,X,i,rfl,hs,fh,ng⟩:=hx;obtain⟨R,C,rfl,jY⟩:=E;have kk:=ae.mk (aj hs (aj ng jY));clear hs ng jY;have u23:=cU;have u22:=gy;have z23:=hw;have z3:=eX;have eH:F (i.map λa=>[a])=F rows:=by rw[br];exact fh
 have MT:=cG ac;have b0:(h.push [.list k X (i.map λa=>[a]),.list R C (ints ac)]).boxes[h.boxes.length]?=J [.list k X (i.map λa=>[a]),.list R C (ints ac)]:=aK _ _;have l0:=ox b0;have l1:=xv b0;have bx:(U.agg [.list k X (i.map λa=>[a]),.list R C (ints ac)]).bF=J [.list k X (i.map λa=>[a]),.list R C (ints ac)]:=rfl;clear b0;unfold cH;refine gI O Tryz.func35 O ?_;by_cases h1:64<F rows
 .have hq:decide ((64:Int)<(F rows:Int))=V:=by simp;omega
  rw[av (by simp[h1])];clear c1;generalize u:h.push [.list k X (i.map λa=>[a]),.list R C (ints ac)]=z1 at *
  refine bA @uG @de @dW (aj @bg @u) ?_;exact⟨_,O,O⟩
 have hq:decide ((64:Int)<(F rows:Int))=ah:=by simp;omega
 have c2:=c1 M;have ii:decide (64<F rows)=ah:=by simp[h1]
 rw[ii,FE];clear c1 ii;cases h2:rows.any λd=>decide (64<F d) with
 |true=>rw[h2]at c2;rw[av O];clear h2;refine bA @uG @de @dW @bg ?_;exact⟨_,O,O⟩|false=>
  rw[h2]at c2;rw[aL b8];by_cases h3:F rows=F ac;rotate_left 1
  .rw[av h3];clear h2;have hn:¬((F rows:Int)=(F ac:Int)):=(by omega);refine bA @uG @de @dW @bg ?_;exact⟨_,O,O⟩
  rw[aL (by simpa using h3)];have tU:=ae.mk h2;have hn:(F rows:Int)=(F ac:Int):=by omega
  have f:=ae.mk h3;clear h2 h3;obtain⟨z1,u⟩:∃z1,h.push [.list k X (i.map λa=>[a]),.list R C (ints ac)]=z1:=⟨_,O⟩;rw[u]at l0 l1 c2;rw[u];generalize Vx:(if ((bZ (F rows)).all λc=> !(rows.getD c []).isEmpty&&decide (F (rows.getD c [])=F (rows.getD 0 []))&&(decide (0<=af ac c)&&decide (af ac c<=63))&&(rows.getD c []).all cN)=V then (0:Int) else 230)=res;have kres:ae (res=if ((bZ (F rows)).all (qa rows ac))=V then (0:Int) else 230):=⟨Vx.symm⟩;have kH:=ae.mk u;clear Vx hn;have iE:F rows<=64:=by omega
  have hn':(F ac:Int)=(F rows:Int):=by have:=f.out;omega
  refine bA @uG @de @dW (aj @bg @u) ?_;refine bC.gen λY r hY eu dn=>?_;have f1:Y.get 1=.ptr (.box (F h.boxes)) 0:=by rw[r];exact gS
  have f25:Y.get 25=.list k X (i.map λa=>[a]):=by rw[r];exact gS
  have f26:Y.get 26=.v (.int .i64 (F rows:Nat)):=by rw[r];exact gS
  have f27:Y.get 27=.v (.int .i64 (0:Nat)):=by rw[r];exact gR
  have fd:Y.defers=[]:=by rw[hY];exact gS
  clear r hY eu dn u bx c2 hq h1;refine b_ (λz4 z2 p=>∃c:Nat,c<=F rows/\z4=F rows-c/\ae (∀T,T<c->qa rows ac T=V)/\z2.get 1=.ptr (.box (F h.boxes)) 0/\z2.get 25=.list k X (i.map λa=>[a])/\z2.get 26=.v (.int .i64 (F rows:Nat))/\z2.get 27=.v (.int .i64 (c:Nat))/\z2.defers=[]/\p=z1) ?_ (F rows) _ _ ?_;rotate_left 1
  .exact⟨0,bY _,O,⟨λT hj=>absurd hj (nt _)⟩,f1,f25,f26,f27,fd,O⟩
  clear f1 f25 f26 f27 fd;rintro z4 z2 p ⟨c,hi,rfl,kf,g1,g25,g26,g27,hd,Ug⟩;rw[<-Ug]at l0 l1 kH ⊢;clear Ug;by_cases D:c<F rows;rotate_left 1
  .have gr:c=F rows:=(by omega);subst gr;have h0:res=0:=(by rw[kres.out,av];rw[eJ];intro T hj;exact kf.out T (ie.1 hj));have k0:=ae.mk h0;clear h0;refine bh @uG ?_;exact⟨_,by rw[k0.out],O⟩
  have ev:X=1:=kk.out.1 (by intro q;rw[q]at D;simp at D);subst ev;have vw:C=1:=kk.out.2.2 (by intro q;have h0:=f.out;rw[q,f_]at h0;omega);subst vw;obtain⟨a,yH⟩:∃a,i[c]?=J a:=⟨_,aP M⟩;obtain⟨d,hv⟩:∃d,rows[c]?=J d:=⟨_,aP D⟩;obtain⟨a0,v⟩:∃a,i[0]?=J a:=⟨_,aP M⟩;obtain⟨B,qo⟩:∃d,rows[0]?=J d:=⟨_,aP M⟩;have ld:=iX (H:=p) (s:=1) yH;have ld0:=iX (H:=p) (s:=1) v;have vo:=kk.out.2.1 c a d yH hv;obtain⟨ka,sa,rfl,qW⟩:=vo;obtain⟨ka0,sa0,rfl,Ed⟩:=kk.out.2.1 0 a0 B v qo;have l_:=cG d;have aiY:=cG B;have ldo:=eS (H:=p) (l:=ac) (i:=c) (s:=1) (by have:=f.out;omega);have UF:F d<=64:=by have:=tU.out;rw[QD]at this;have:=this d (cT hv);simpa using this
  have H:=S6 88 (λn=> !cN n) p (.list ka sa (ints d)) d ⟨_,_,O,qW⟩ M (λn _=>alX n p);have cp:=XK (af ac c) p;have DP:qa rows ac c=(!d.isEmpty&&decide (F d=F B)&&sg (af ac c)&&d.all cN):=by unfold qa sg;have g1:rows.getD c []=d:=(by rw[eK,hv];rfl);have g2:rows.getD 0 []=B:=(by rw[eK,qo];rfl);rw[g1,g2]
  have Z:(d.any λn=> !cN n)= !(d.all cN):=by rw[List.any_eq_not_all_not];simp
  rw[Z]at H;have e:=ae.mk DP;have bad:qa rows ac c=ah->res=230:=by intro q;rw[kres.out,aL];intro z;rw[eJ]at z;have:=z c (ie.2 D);rw[q]at this;cases this
  have o:=ae.mk bad;have fO:(c:Int)<(F rows:Int):=by omega
  have Dp:(0:Int)<(F rows:Int):=by omega
  have z0:(0:Int).toNat=0:=rfl;clear DP bad Z UF yH hv qW v qo Ed;unfold I at *
  generalize af ac c=z5 at *
  by_cases m:F d=0
  .have ui:decide ((F d:Int)=0)=V:=(by simp[m]);have g:res=230:=o.out (by rw[e.out,aaW.1 m];rfl);have A:=ae.mk g;clear g m H cp;refine bA @uG @de @dW @aU ?_;exact⟨_,by rw[A.out],O⟩
  have ui:decide ((F d:Int)=0)=ah:=by simp[m]
  have j:d.isEmpty=ah:=by cases d with|nil=>exact absurd O m|cons _ _=>rfl
  by_cases L:F d=F B;rotate_left 1
  .have vt:decide ((F d:Int)=(F B:Int))=ah:=(by simp;omega);have g:res=230:=o.out (by rw[e.out,j,b7 L];rfl);have A:=ae.mk g;clear g m L j H cp;refine bA @uG @de @dW @aU ?_;exact⟨_,by rw[A.out],O⟩
  have vt:decide ((F d:Int)=(F B:Int))=V:=by simp;omega
  cases s:sg z5 with
  |false=>have g:res=230:=o.out (by rw[e.out,s];simp);have A:=ae.mk g;rw[s]at cp;clear g m L j H s;refine bA @uG @de @dW @aU ?_;exact⟨_,by rw[A.out],O⟩
  |true=>
   rw[s]at cp;cases N:d.all cN with
   |false=>have g:res=230:=o.out (by rw[e.out,N];simp);have A:=ae.mk g;rw[N]at H;clear g m L j s N;refine bA @uG @de @dW @aU ?_;exact⟨_,by rw[A.out],O⟩
   |true=>
    rw[N]at H;have kf2:ae (∀T,T<c+1->qa rows ac T=V):=⟨λT hj=>by
     rcases dp T c with q|q
     .exact kf.out T q
     .rw[(M:T=c),e.out,j,bQ L,s,N];rfl⟩
    clear m L j s N e kf;refine bA @uG @de @dW @aU ?_;exact⟨F rows-(c+1),by omega,c+1,by omega,O,kf2,by simp⟩
def B7:Tryz.f178.results.toList=[.tmp 4,.tmp 5]:=am
def aqC:Tryz.f234.results.toList=[.tmp 4]:=am
def aqD:Tryz.f235.results.toList=[.tmp 2]:=am
def aqE:Tryz.f179.results.toList=[.tmp 2]:=am
def WZ(n)(h):W2.call 179 [I n] h=J (.ret (.v (.bool ah)),h):=by
 unfold I;refine cr O Tryz.func179 O ?_
 repeat' (first|simp(maxSteps:=9999999) (disch:=first|exact dZ|fail) only[gW,reduceIte,aH,aC,aqE,ne_eq,not_true_eq_false,decide_false, *]|refine dX ?_ ?_<;>(intro _;try omega))
def alF(n)(h):W2.call 235 [I n] h=J (.ret (.v (.bool ah)),h):=by
 unfold I;refine cr O Tryz.func235 O ?_
 repeat' (first|simp(maxSteps:=9999999) (disch:=first|exact dZ|fail) only[gW,reduceIte,aH,aC,aqD,ne_eq,not_true_eq_false,decide_false, *]|refine dX ?_ ?_<;>(intro _;try omega))
def akP(a b)(h):W2.call 234 [I a,I b] h=J (.ret (.v (.bool (decide (a<b)))),h):=by
 have c:=WZ a h;have d:=WZ b h;unfold I at *
 refine cr O Tryz.func234 O ?_;exact iL @aqC
def tL(n)(h):kL aa h 176 3 (.v (.int .u64 n))=J (.v (.int .i64 (IntKind.i64.wrap n)),h):=am
def uI{t}{x y}{n}:cy aa .shr t x y (.v (.int .u64 (n:Nat))) (.v (.int .u64 1))=J (.v (.int .u64 ((n/2:Nat):Int))):=by rw[Au aY];congr 3;show((n:Nat):Int).fdiv (2^1)=_;rw[Int.fdiv_eq_ediv_of_nonneg _ aY];simp
def wrap_u64{n}(h:n<18446744073709551616):IntKind.u64.wrap (n:Nat)=(n:Nat):=by show((n:Nat):Int).emod 18446744073709551616=_;exact Int.emod_eq_of_lt M M
def pV(who:List Int):Prop:=∀d c:Nat,d<c->c<F who->af who d<af who c
def KS{l}{i}(h:i<F l):af l i∈l:=by rw[gb h];exact i_ h
def WS{l}{x}(h:x∈l):∃i,i<F l/\af l i=x:=by obtain⟨i,c,rfl⟩:=aaT h;exact⟨i,c,gb c⟩
def Y7(h:Heap)(x:U)(who:List Int)(o:Int)(hx:IL x who)(hs:pV who)(hl:F who<=1000000):
 ∃r h',W2.call 178 [x,I o] h=J (r,h')/\h'=h/\∃i:Int,r=.ret (.tuple [I i,.v (.bool (who.contains o))]):=by
 obtain⟨k,z0,rfl,X⟩:=hx;have L:=ae.mk (aj X hs);clear X hs;have u23:=cU;have z3:=eX;have eH:=cG who;have MO:=λn=>alF n h;unfold I at *
 refine bL O Tryz.func178 O ?_;refine bh @B7 ?_;refine bC.gen λv j T eu dn=>?_;have f0:v.get 0=.list k z0 (ints who):=by rw[j];exact gS
 have f1:v.get 1=.v (.int .i64 o):=by rw[j];exact gS
 have f6:v.get 6=.v (.int .i64 (F who:Nat)):=by rw[j];exact gS
 have f7:v.get 7=.v (.int .i64 (0:Nat)):=by rw[j];exact gR
 have f8:v.get 8=.v (.int .i64 (F who:Nat)):=by rw[j];exact gS
 have fd:v.defers=[]:=by rw[T];exact gS
 clear j T eu dn;refine b_ (λz1 Z Y=>∃c f:Nat,c<=f/\f<=F who/\z1=f-c/\ae ((∀e,e<c->af who e<o)/\∀e,f<=e->e<F who->o<=af who e)/\Z.get 0=.list k z0 (ints who)/\Z.get 1=.v (.int .i64 o)/\Z.get 6=.v (.int .i64 (F who:Nat))/\Z.get 7=.v (.int .i64 (c:Nat))/\Z.get 8=.v (.int .i64 (f:Nat))/\Z.defers=[]/\Y=h) ?_ (F who) _ _ ?_;rotate_left 1
 .exact⟨0,who.length,bY _,aV _,O,⟨λe A=>absurd A (nt _),λe h1 h2=>by omega⟩,f0,f1,f6,f7,f8,fd,O⟩
 clear f0 f1 f6 f7 f8 fd;rintro z1 Z Y ⟨c,f,h1,h2,rfl,R,g0,g1,g6,g7,g8,hd,rfl⟩;by_cases di:c<f
 .have C:z0=1:=L.out.1 (by intro q;rw[q,f_]at h2;omega);subst C;obtain⟨d,p⟩:∃d:Nat,(c+f)/2=d:=⟨_,O⟩;have ld:=eS (H:=Y) (l:=who) (i:=d) (s:=1) M;have ls:=akP (af who d) o Y;have fO:(c:Int)<(f:Int):=by omega
  have xc:(c:Int)+(f:Int)=((c+f:Nat):Int):=by omega
  have Bh:IntKind.u64.wrap ((c+f:Nat):Int)=((c+f:Nat):Int):=wrap_u64 M;have oM:IntKind.i64.wrap (((c+f)/2:Nat):Int)=((d:Nat):Int):=by rw[p];exact jm M M
  have Va:(d:Int)<(F who:Int):=by omega
  unfold I at ls;by_cases g:af who d<o
  .have m:decide (af who d<o)=V:=(by simp[g]);rw[m]at ls;have D:ae ((∀e,e<d+1->af who e<o)/\∀e,f<=e->e<F who->o<=af who e):=⟨λe A=>by
    rcases dp e d with q|q
    .exact aaw (L.out.2 e d q M) g
    .rw[(M:e=d)];exact g,R.out.2⟩
   have H:=ae.mk p;clear g m p;refine bA @B7 @aU @mC (aj @tL @uI) ?_;have:=H.out;exact⟨f-(d+1),by omega,d+1,f,by omega,h2,O,D,aX,aX,aX,by simp,O,aX,aX⟩
  .have m:decide (af who d<o)=ah:=(by simp[g]);rw[m]at ls;have D:ae ((∀e,e<c->af who e<o)/\∀e,d<=e->e<F who->o<=af who e):=⟨R.out.1,λe A U4=>by
    rcases dp d e with q|q
    .have:=L.out.2 d e q U4;omega
    .rw[(M:e=d)];omega⟩
   have H:=ae.mk p;clear g m p;refine bA @B7 @aU @mC (aj @tL @uI) ?_;have:=H.out;exact⟨d-c,by omega,c,d,by omega,by omega,O,D,aX,aX,aX,O,by simp,aX,aX⟩
 .have B:c=f:=by omega
  subst B;have s:∀e,e<F who->af who e=o->e=c:=by
   intro e A he;rcases Nat.lt_trichotomy e c with q|q|q
   .have:=R.out.1 e q;omega
   .exact q
   .have h3:=L.out.2 c e q A;have h4:=R.out.2 c (aV _) M;omega
  by_cases u:c<F who
  .have C:z0=1:=L.out.1 (by intro q;rw[q,f_]at u;omega);subst C;have ld:=eS (H:=Y) (l:=who) (i:=c) (s:=1) u;have fO:(c:Int)<(F who:Int):=(by omega);have DJ:decide ((c:Int)<(F who:Int))=V:=(by simp[u]);by_cases y:af who c=o
   .have g:who.contains o=V:=(by rw[wz,bQ (by rw[<-y];exact KS u)]);have E:=ae.mk g;have ii:decide (af who c=o)=V:=(by simp[y]);clear g y s;refine bG @B7 @aU ?_;exact⟨_,_,O,O,_,by rw[E.out]⟩
   .have g:who.contains o=ah:=(by rw[wz,b7];intro q;obtain⟨e,j1,N⟩:=WS q;have:=s e j1 N;subst this;exact y N);have E:=ae.mk g;have ii:decide (af who c=o)=ah:=(by simp[y]);clear g y s;refine bG @B7 @aU ?_;exact⟨_,_,O,O,_,by rw[E.out]⟩
  .have g:who.contains o=ah:=(by rw[wz,b7];intro q;obtain⟨e,j1,N⟩:=WS q;have:=s e j1 N;omega);have E:=ae.mk g;have B:c=F who:=(by omega);subst B;have DJ:decide ((F who:Int)<(F who:Int))=ah:=(by simp);clear g s;refine bG @B7 @aU ?_;exact⟨_,_,O,O,_,by rw[E.out]⟩
def aqt:Tryz.f165.results.toList=[.tmp 4]:=am
def B6:Tryz.f219.results.toList=[]:=am
def amm(h:Heap)(x y z:U)(c:(U.agg [x,y]).bF=J [x,y])(d:z.bF=J [z]):W2.call 165 [.agg [x,y],z] h=J (.ret (.func (.func 219) [] [.ptr (.box (F h.boxes)) 0,.ptr (.box (F h.boxes+1)) 0]),(h.push [x,y]).push [z]):=by refine cr O Tryz.func165 O ?_;exact pC @aqt @bg @bE
def amn(l D L:Nat)(k0:Tok)(s0:Nat)(xs:List U)(y z:U)(rows:List (List Int))(ac who:List Int)(Inv:Nat->Heap->Prop)
 (E:IL y ac) (hz:IL z who) (fh:F xs=F rows) (q:F ac=F rows) (r:rows≠[]->s0=1) (g:pV who) (Z:F who<=1000000) (l_:F rows<=1000000)
 (C:∀k H,Inv k H->H.boxes[D]?=J [.list k0 s0 (xs.map λa=>[a]),y]/\H.boxes[L]?=J [z])
 (R:∀k a H,k<F rows->xs[k]?=J a->who.contains (af ac k)=V->Inv k H->∃H',W2.round l [I (k:Nat),a] H=J (.ret (.v (.bool V)),H')/\Inv (k+1) H')
 (T:∀k H,k<F rows->who.contains (af ac k)=ah->Inv k H->Inv (k+1) H)
 (v:Heap) (B:Inv 0 v):∃H',W2.call 219 [.yield l,.ptr (.box D) 0,.ptr (.box L) 0] v=J (.ret (.tuple []),H')/\Inv (F rows) H':=by
 have c:=ae.mk (aj C (aj R (aj T (aj B (aj r (aj g hz))))));obtain⟨f,m⟩:=C 0 v B;have l1:=ox f;obtain⟨ky,sy,rfl,u⟩:=E;have ksy:=ae.mk u;clear C R T B r g hz f m u;have u23:=cU;have u22:=gy;have z3:=eX;have z23:=hw;have eH:F (xs.map λa=>[a])=F rows:=by rw[br];exact fh
 have vo:F (ints ac)=F rows:=by rw[cG];exact q
 refine gI O Tryz.func219 O ?_;refine cK @B6 @de @dW ?_;refine b_ (λz1 p H=>∃k:Nat,k<=F rows/\z1=F rows-k/\ae (Inv k H)/\p.get 0=.yield l/\p.get 1=.ptr (.box D) 0/\p.get 2=.ptr (.box L) 0/\p.get 9=.list k0 s0 (xs.map λa=>[a])/\p.get 10=.v (.int .i64 (F rows:Nat))/\p.get 11=.v (.int .i64 (k:Nat))/\p.defers=[]) ?_ (F rows) _ _ ?_;rotate_left 1
 .refine⟨0,bY _,O,⟨c.out.2.2.2.1⟩,?_,?_,?_,?_,?_,?_,?_⟩<;>exact gR
 clear l1;rintro z1 p H ⟨k,hk,rfl,e,g0,g1,g2,g9,g10,g11,hd⟩;by_cases i:k<F rows;rotate_left 1
 .have:k=F rows:=by omega
  subst this;refine bh @B6 ?_;exact⟨_,O,e.out⟩
 obtain⟨f,m⟩:=c.out.1 k H e.out;have X:s0=1:=c.out.2.2.2.2.1 (by intro z0;rw[z0,f_]at i;omega);subst X;have Y:sy=1:=ksy.out (by intro z0;rw[z0,f_]at q;omega);subst Y;obtain⟨a,o⟩:∃a,xs[k]?=J a:=⟨_,aP M⟩;have ld:=iX (H:=H) (s:=1) o;have lo:=eS (H:=H) (l:=ac) (i:=k) (s:=1) M;have l1:=xv f;have l2:=vD m;obtain⟨_,H2,A,N,z2,rfl⟩:=Y7 H z who (af ac k) c.out.2.2.2.2.2.2 c.out.2.2.2.2.2.1 Z;rw[N]at A;clear N f m;have fO:(k:Int)<(F rows:Int):=by omega
 cases d:who.contains (af ac k) with
 |true=>
  obtain⟨H',r1,r2⟩:=c.out.2.1 k a H i o d e.out;rw[d]at A;have j:=ae.mk r2;clear r2 o d e;unfold I at *
  refine bA @B6 @de @dW @aU ?_;refine du wK am ?_;refine bA @B6 @de @dW (aj @aU @yf) ?_;exact⟨F rows-(k+1),by omega,k+1,by omega,O,j,by simp⟩
 |false=>
  have j:=ae.mk (c.out.2.2.1 k H i d e.out);rw[d]at A;clear o d e;unfold I at *
  refine bA @B6 @de @dW @aU ?_;refine du wK am ?_;refine bA @B6 @de @dW (aj @aU @yf) ?_;exact⟨F rows-(k+1),by omega,k+1,by omega,O,j,by simp⟩
structure xX(h H:Heap)(t1 t2:Tok):Prop where
 c1:db h.tn H t1
 c2:db h.tn H t2
 ne:∀a,t1=.free a->t2≠ .free a
 ok:c_ H=V
 ext:Ext h H
def C8{n0}{H}{t k}(f:db n0 H k)(d:∀a,t=.free a->k≠ .free a):db n0 (H.app t) k:=by
 rcases f with q|q|⟨l,rfl,i,c⟩
 .exact .inl q
 .exact .inr (.inl q)
 .refine .inr (.inr ⟨l,O,i,?_⟩);have j:=qN c;unfold alive at *
  simp only[bm,Cu,wz,decide_eq_false_iff_not,decide_eq_true_eq]at *
  refine⟨by rw[C4];omega,?_⟩;cases t with
  |free a=>
   intro g;rcases gU.1 g with e|e
   .exact d a O (by rw[e])
   .exact c.2 e
  |_=>exact c.2
def xX.app{h H}{t1 t2}(w:xX h H t1 t2):db h.tn (H.app t1) t2/\xX h ((H.app t1).app t2) (.free H.tn) (.free (H.app t1).tn):=by
 have i:=w.ext.tn;have e:=Grown.one (n0:=h.tn) w.c1 w.ok i;have f:=C8 w.c2 w.ne;have g:=Grown.one (n0:=h.tn) f e.ok (e8 i e.tn);refine⟨f,?_,g.can,?_,g.ok,g.ext (e.ext w.ext (aV _)) (aV _)⟩
 .refine C8 e.can λa c d=>?_;injection d with d;subst d;rcases f with q|q|⟨o,q,-,m⟩
  .rw[q]at c;cases c
  .rw[q]at c;cases c
  .rw[q]at c;injection c with c;subst c;rcases w.c2 with z|z|⟨l,z,-,j⟩
   .rw[z]at q;cases q
   .rw[z]at q;cases q
   .rw[z]at q;injection q with q;have:=qN j;omega
 .intro a c d;injection c with c;injection d with d;rw[C4]at d;omega
def xX.put{h H}{t1 t2}(w:xX h H t1 t2){b}(c:F h.boxes<=b)(cs):xX h (H.put b cs) t1 t2:=⟨w.c1,w.c2,w.ne,w.ok,w.ext.fI c cs⟩
def uE:Tryz.f92.results.toList=[.cell 4 22,.cell 5 23,.tmp 6,.tmp 7]:=am
def auH:(fW aa 22).bind U.bF=J [.list .nil 0 []]:=am
def auI:(fW aa 23).bind U.bF=J [.list .nil 0 []]:=am
def atl:cC aa 22=J 1:=am
def RD{H}{k}{n0 sz}{es}{x}(o:F es<1000000)(f:sz=1∨(es=[]/\k=.nil))(e:db n0 H k):
 gm aa H #[22,22] (.list k sz (es.map λa=>[a])) (.list .tight 1 [[x]])=J (.list (.free H.tn) 1 ((es++[x]).map λa=>[a]),H.app k):=by
 obtain⟨l,g,c,i,j⟩:=HN;have m:=jt (M:F es+1<=1000000) i;have:=Ar (t0:=22) (t1:=22) (n0:=n0) (i:=l) (sz:=sz) (es:=es.map λa=>[a]) (new:=[[x]]) (x:=.list .tight 1 [[x]]) gy (.inl ⟨_,gy⟩) g M (by rw[c];exact j) (by rw[c];rfl) b8
  (by simp only[br,ef,f_,oj];omega) (by simp only[br,ef,f_];omega) (f.imp (λd=>d.trans c.symm) λd=>⟨by rw[d.1];rfl,d.2⟩) e
 rw[c]at this;rw[jQ];exact this
def gM(xs:List U)(ac who:List Int)(k:Nat):List U:=((bZ k).filter λc=>who.contains (af ac c)).map λc=>xs.getD c default
def ex(ac who:List Int)(k:Nat):List Nat:=(bZ k).filter λc=>who.contains (af ac c)
def XP{ac who}{k}(h:who.contains (af ac k)=V):ex ac who (k+1)=ex ac who k++[k]:=by unfold ex;rw[ku,Aa,tg,av h];rfl
def XO{ac who}{k}(h:who.contains (af ac k)=ah):ex ac who (k+1)=ex ac who k:=by unfold ex;rw[ku,Aa,tg,aL (by rw[h];simp)];simp
def XN{xs}{ac who}{k}{a}(h:who.contains (af ac k)=V)(c:xs[k]?=J a):gM xs ac who (k+1)=gM xs ac who k++[a]:=by
 have d:xs.getD k default=a:=by rw[eK,c];rfl
 unfold gM;rw[ku,Aa,tg,av h,List.filter_nil,jQ,eI,List.map_nil,d]
def XM{xs}{ac who}{k}(h:who.contains (af ac k)=ah):gM xs ac who (k+1)=gM xs ac who k:=by unfold gM;rw[ku,Aa,tg,aL (by rw[h];simp)];simp
def XL{xs}{ac who}{k}:F (gM xs ac who k)<=k:=by unfold gM;rw[br];exact e8 (QL _ _) b8
def Ir:∀(who:List Int) (c:Int),dy c who=V->(∀i,i<F who->c<af who i)/\pV who:=by
 intro who
 induction who with
 |nil=>exactλ_ _=>⟨λi e=>absurd e (nt _),λi g _ d=>absurd d (nt _)⟩|cons n o l=>
  intro c h;unfold dy at h;simp only[bm,decide_eq_true_eq]at h;obtain⟨f,j⟩:=l n h.2;refine⟨λi e=>?_,λi g m d=>?_⟩
  .cases i with|zero=>exact h.1.1|succ i=>exact aaw h.1.1 (f i (by simpa using e))
  .cases g with
   |zero=>omega|succ g=>
    cases i with|zero=>exact f g (by simpa using d)|succ i=>exact j i g M (by simpa using d)
def HT{H}{b}{x}(c:H.boxes[b]?=J [x]):aD aa Gt H 22 (.ptr (.box b) 0)=J x:=by rw[fm KI c];rfl
def PN{H}{b}{x}{k}{s}{es}(c:H.boxes[b]?=J [x]):bV aa H 22 (.ptr (.box b) 0) (.list k s es)=J (H.put b [.list k s es]):=fC (off:=0) (cs:=[x]) (xs:=[.list k s es]) O atl c O (aV 1)
def Jr{H}{b}{x}{k}{s}{es}(c:H.boxes[b]?=J [x]):bV aa H 23 (.ptr (.box b) 0) (.list k s es)=J (H.put b [.list k s es]):=fC (off:=0) (cs:=[x]) (xs:=[.list k s es]) O hw c O (aV 1)
def PU:cC aa 25=J 2:=am
def uo{H}{b}{x y}(c:H.boxes[b]?=J [x,y]):aD aa Gt H 25 (.ptr (.box b) 0)=J (.agg [x,y]):=by rw[fR Ao PU c (aV 2)];rfl
def acU{who}(h:pV who)(d:∀i,i<F who-> -1<af who i):∀i:Nat,i<F who->(i:Int)<=af who i:=by
 intro i
 induction i with
 |zero=>intro c;have:=d 0 c;omega|succ i e=>intro c;have f:=e M;have h2:=h i (i+1) M c;omega
def amU:∀(who:List Int) (c:Int),dy c who=V->∀i,i<F who->af who i<=63:=by
 intro who
 induction who with
 |nil=>exactλ_ _ i d=>absurd d (nt _)|cons n f e=>
  intro c h i d;unfold dy at h;simp only[bm,decide_eq_true_eq]at h;cases i with|zero=>exact h.1.2|succ i=>exact e n h.2 i (by simpa using d)
def acT{who}(h:dy (-1) who=V):F who<=64:=by
 obtain⟨c,h2⟩:=Ir who (-1) h;rcases dp 64 (F who) with q|q
 .have d:=acU h2 c 64 q;have e:=amU who (-1) h 64 q;omega
 .exact q
def v9(k)(s)(l):cE (.list k s (ints l)) (.list k s (ints l))=V:=by
 have h:mI (ints l) (ints l)=V:=by
  induction l with
  |nil=>simp[ints,mI]|cons n l c=>have:ints (n::l)=[.v (.int .i64 n)]::ints l:=rfl;rw[this];simp[mI,fV,cE,gF,c]
 rw[cE,h,Bool.and_true];cases k<;>simp[ry]
def Sb{H:Heap}{l}{r}{t}:(H.busy l r).app t=(H.app t).busy l r:=by cases t<;>rfl
def agJ{H:Heap}{l}{r}{t1 t2}{c d}{e c2}:({boxes:=(((((H.busy l r).app t1).app t2).put c e).put d c2).boxes,loops:=H.loops,tn:=(((((H.busy l r).app t1).app t2).put c e).put d c2).tn,dead:=(((((H.busy l r).app t1).app t2).put c e).put d c2).dead}:Heap)=(((H.app t1).app t2).put c e).put d c2:=by cases t1<;>cases t2<;>rfl
def FZ(h:Heap)(L:List gV)(e f b3 b4 g:Nat)(i j l:List U)(xs:List U)(ac who:List Int)(k:Nat)(H:Heap):Prop:=
 ∃t1 c t2 d,H.loops=L/\H.boxes[e]?=J [.list t1 c ((gM xs ac who k).map λa=>[a])]/\H.boxes[f]?=J [.list t2 d (ints (cJ (ex ac who k)))]/\(c=1∨(gM xs ac who k=[]/\t1=.nil))/\(d=1∨(cJ (ex ac who k)=[]/\t2=.nil))/\xX h H t1 t2/\H.boxes[b3]?=J i/\H.boxes[b4]?=J j/\H.boxes[g]?=J l
def anJ(l)(k:Nat):cJ (l++[k])=cJ l++[(k:Int)]:=by unfold cJ;simp
def amW{ac who}{k}:F (cJ (ex ac who k))<=k:=by unfold cJ ex;rw[br];exact e8 (QL _ _) b8
def Q3(xs:List U)(rows:List (List Int))(ac who:List Int)(h:Heap)(r:dR)(h':Heap):Prop:=
 Ext h h'/\if cH rows ac≠0 then r=.ret (.tuple [.list .nil 0 [],.list .nil 0 [],.list .nil 0 [],.v (.int .i64 (cH rows ac))])
  else if dy (-1) who=ah then r=.ret (.tuple [.list .nil 0 [],.list .nil 0 [],.list .nil 0 [],.v (.int .i64 1)])
  else ∃c e d f g,r=.ret (.tuple [.list c e ((gM xs ac who (F rows)).map λa=>[a]),.list d f (ints (cJ (ex ac who (F rows)))),.arr g 0 (cg rows) (cg rows),.v (.int .i64 0)])/\(e=1∨(gM xs ac who (F rows)=[]/\c=.nil))/\(f=1∨(cJ (ex ac who (F rows))=[]/\d=.nil))/\h'.boxes[g]?=J ((fc (cg rows)).map I)
def an5(h:Heap)(d:Tok)(s0:Nat)(xs:List U)(y z:U)(rows:List (List Int))(ac who:List Int)(hx:RL (.list d s0 (xs.map λa=>[a])) rows)(fh:F xs=F rows)(E:IL y ac)(hz:IL z who)(qp:F who<=1099511627776)(ho:c_ h=V):
 ∃r h',W2.call 92 [.agg [.list d s0 (xs.map λa=>[a]),y],z] h=J (r,h')/\Q3 xs rows ac who h r h':=by
 obtain⟨c,c97,e1⟩:=SQ (((h.push [.list d s0 (xs.map λa=>[a]),y]).push [.list .nil 0 []]).push [.list .nil 0 []]) _ y rows ac hx E;have kyz:=ae.mk (aj hx (aj E (aj hz ho)));have bx:(U.agg [.list d s0 (xs.map λa=>[a]),y]).bF=J [.list d s0 (xs.map λa=>[a]),y]:=by obtain⟨ky,sy,rfl,-⟩:=E;rfl
 have X1:Ext h c:=by rw[e1];exact(((Ext.push _ _).trans (.push _ _)).trans (.push _ _)).trans (.push _ _)
 have p0:c.boxes[h.boxes.length]?=J [.list d s0 (xs.map λa=>[a]),y]:=by rw[e1];exact aN (aN (aN (aK _ _)))
 have o:c.boxes[F h.boxes+1]?=J [.list .nil 0 []]:=by rw[e1];exact aN (aN (na (by rw[bE])))
 have j:c.boxes[F h.boxes+1+1]?=J [.list .nil 0 []]:=by rw[e1];exact aN (na (by rw[bE,bE]))
 have Y:F c.boxes=F h.boxes+4:=by rw[e1];simp only[bE]
 have vN:c_ c=V:=X1.ok ho;have l0:aD aa Gt (((h.push [.list d s0 (xs.map λa=>[a]),y]).push [.list .nil 0 []]).push [.list .nil 0 []]) 25 (.ptr (.box (F h.boxes)) 0)=J (.agg [.list d s0 (xs.map λa=>[a]),y]):=uo (aN (aN (aK _ _)));have tn1:c.tn=h.tn:=by rw[e1];rfl
 have kX:=ae.mk (aj X1 (aj vN (aj Y tn1)));have z22:=auH;have z23:=auI;have kp:=ae.mk (aj p0 (aj o j));have s4:=λ(k:Tok) s es=>PN (k:=k) (s:=s) (es:=es) o;have L:=(aT.1 o).1;have R:=(aT.1 j).1;clear e1 X1 p0 Y vN tn1 hx E ho;unfold Q3;refine bL O Tryz.func92 O ?_;generalize D_:cH rows ac=pe at *
 by_cases zl:pe=0;rotate_left 1
 .have s5:bV aa (c.put (F h.boxes+1) [.list .nil 0 []]) 23 (.ptr (.box (F h.boxes+1+1)) 0) (.list .nil 0 [])=J ((c.put (F h.boxes+1) [.list .nil 0 []]).put (F h.boxes+1+1) [.list .nil 0 []]):=Jr (by rw[cd M];exact j);have m1:aD aa Gt ((c.put (F h.boxes+1) [.list .nil 0 []]).put (F h.boxes+1+1) [.list .nil 0 []]) 22 (.ptr (.box (F h.boxes+1)) 0)=J (.list .nil 0 []):=HT (by rw[cd M];exact dh L);have m2:aD aa Gt ((c.put (F h.boxes+1) [.list .nil 0 []]).put (F h.boxes+1+1) [.list .nil 0 []]) 23 (.ptr (.box (F h.boxes+1+1)) 0)=J (.list .nil 0 []):=vD (dh (by rw[je];exact R));have US:decide (pe=0)=ah:=by simp[zl]
  clear o j hz L R;refine cK @uE @bg @bE ?_;exact⟨_,_,O,(kX.out.1.fI M _).fI M _,by rw[av zl]⟩
 .subst zl;obtain⟨f,e,rfl,gK⟩:=kyz.out.2.2.1;have ksz:=ae.mk gK;clear gK hz;have u23:=cU;have z3':=eX;have avS:=cG who;have kpe:=ae.mk D_;clear D_;refine cK @uE @bg @bE ?_;refine bC.gen λH i hY eu C=>?_;have f1:H.get 1=.list f e (ints who):=by rw[i];exact gS
  have f2:H.get 2=.ptr (.box (F h.boxes)) 0:=by rw[i];exact gS
  have f4:H.get 4=.ptr (.box (F h.boxes+1)) 0:=by rw[i];simp only[gW,reduceIte,aH,aC,bE]
  have f5:H.get 5=.ptr (.box (F h.boxes+1+1)) 0:=by rw[i];simp only[gW,reduceIte,aH,aC,bE]
  have f8:H.get 8=.v (.int .i64 (-1)):=by rw[i];exact gS
  have f19:H.get 19=.list f e (ints who):=by rw[i];exact gS
  have f20:H.get 20=.v (.int .i64 (F who:Nat)):=by rw[i];exact gS
  have f21:H.get 21=.v (.int .i64 (0:Nat)):=by rw[i];exact gR
  have fd:H.defers=[]:=by rw[hY];exact gS
  clear i hY eu C l0 c97;refine b_ (λz4 z2 X=>∃(T:Nat) (g:Int),T<=F who/\z4=F who-T/\ -1<=g/\ae (dy g (who.drop T)=dy (-1) who)/\z2.get 1=.list f e (ints who)/\z2.get 2=.ptr (.box (F h.boxes)) 0/\z2.get 4=.ptr (.box (F h.boxes+1)) 0/\z2.get 5=.ptr (.box (F h.boxes+1+1)) 0/\z2.get 8=.v (.int .i64 g)/\z2.get 19=.list f e (ints who)/\z2.get 20=.v (.int .i64 (F who:Nat))/\z2.get 21=.v (.int .i64 (T:Nat))/\z2.defers=[]/\X=c) ?_ (F who) _ _ ?_;rotate_left 1
  .exact⟨0,-1,bY _,O,Cx _,⟨O⟩,f1,f2,f4,f5,f8,f19,f20,f21,fd,O⟩
  clear f1 f2 f4 f5 f8 f19 f20 f21 fd;rintro z4 z2 c ⟨T,g,hi,rfl,DT,kP,g1,g2,g4,g5,g8,g19,g20,g21,hd,rfl⟩;by_cases di:T<F who
  .have ev:e=1:=ksz.out (by intro z1;rw[z1,f_]at di;omega);subst ev;have ld:=eS (H:=c) (l:=who) (s:=1) di;have cp:=XK (af who T) c;have fO:(T:Int)<(F who:Int):=(by omega);have q:who.drop T=af who T::who.drop (T+1):=(by rw[gb di];exact s_ di);have u:=kP.out;rw[q,dy]at u;have s5:bV aa (c.put (F h.boxes+1) [.list .nil 0 []]) 23 (.ptr (.box (F h.boxes+1+1)) 0) (.list .nil 0 [])=J ((c.put (F h.boxes+1) [.list .nil 0 []]).put (F h.boxes+1+1) [.list .nil 0 []]):=Jr (by rw[cd M];exact j);have m1:aD aa Gt ((c.put (F h.boxes+1) [.list .nil 0 []]).put (F h.boxes+1+1) [.list .nil 0 []]) 22 (.ptr (.box (F h.boxes+1)) 0)=J (.list .nil 0 []):=HT (by rw[cd M];exact dh L);have m2:aD aa Gt ((c.put (F h.boxes+1) [.list .nil 0 []]).put (F h.boxes+1+1) [.list .nil 0 []]) 23 (.ptr (.box (F h.boxes+1+1)) 0)=J (.list .nil 0 []):=vD (dh (by rw[je];exact R));unfold I sg at *
   generalize af who T=n at *
   by_cases h1:0<=n/\n<=63
   .have ii:(decide (0<=n)&&decide (n<=63))=V:=(by simp[h1.1,h1.2]);rw[ii]at cp;by_cases h2:n<=g
    .have jw:decide (n<=g)=V:=(by simp[h2]);have hf:dy (-1) who=ah:=(by rw[<-u];simp;omega);have kf:=ae.mk hf;clear u hf q o j h2 h1 kP;refine bG @uE @aU ?_;exact⟨_,_,O,(kX.out.1.fI M _).fI M _,by rw[aL (by simp[kpe.out]),av kf.out]⟩
    .have jw:decide (n<=g)=ah:=(by simp;omega);have kP2:ae (dy n (who.drop (T+1))=dy (-1) who):=⟨by rw[<-u,bQ (M:g<n),bQ h1.2];rfl⟩;have h3: -1<=n:=(by omega);clear u q o j h2 h1 kP s4 s5 m1 m2;refine bG @uE @aU ?_;exact⟨F who-(T+1),by omega,T+1,n,by omega,O,h3,kP2,by simp⟩
   .have ii:(decide (0<=n)&&decide (n<=63))=ah:=(by simp only[aaj,decide_eq_false_iff_not];omega);rw[ii]at cp;have hf:dy (-1) who=ah:=(by rw[<-u];simp only[aaj,decide_eq_false_iff_not];omega);have kf:=ae.mk hf;clear u hf q o j h1 kP;refine bG @uE @aU ?_;exact⟨_,_,O,(kX.out.1.fI M _).fI M _,by rw[aL (by simp[kpe.out]),av kf.out]⟩
  .have gr:T=F who:=(by omega);subst gr;have hf:dy (-1) who=V:=(by rw[<-kP.out,nq (aV _)];rfl);have kf:=ae.mk hf;clear hf kP;obtain⟨o1,o2,o3,o4⟩:=uw kpe.out;obtain⟨n1,n2⟩:=vd kpe.out;have UA:=(Ir who (-1) kf.out).2;have avT:=acT kf.out;have ko:=ae.mk (aj o3 UA);have Ur:(rows≠[]->s0=1)/\∀(T:Nat) (a:U) (r:List Int),xs[T]?=J a->rows[T]?=J r->IL a r:=(by obtain⟨N,s',xs',he,Hz,-,D⟩:=kyz.out.1;injection he with _ Ni he;have:=(Kc (λx y h=>by injection h)).1 he;subst this;subst Ni;exact⟨Hz,D⟩);have kRL:=ae.mk Ur;have ko1:=ae.mk o1;have l22:aD aa Gt c 22 (.ptr (.box (F h.boxes)) 0)=J (.list d s0 (xs.map λa=>[a])):=ox kp.out.1;have u22:=gy;have eH:F (xs.map λa=>[a])=F rows:=(by rw[br];exact fh);have mk:=vK c (cg rows) M .i64 .i64;have rV:bB (cg rows) (I 0)=(bB (cg rows) (0:Int)).map I:=(by rw[xR]);rw[rV]at mk;have sk:=uJ (H:=c.push ((bB (cg rows) (0:Int)).map I)) (b:=c.boxes.length) (r:=bB (cg rows) (0:Int)) (k:=0) (x:=1) (aK _ _) (by rw[mw];exact n1);have VG:(bB (cg rows) (0:Int)).set 0 1=fc (cg rows):=(by obtain⟨z3,A⟩:∃z3,cg rows=z3+1:=⟨cg rows-1,by omega⟩;rw[A];unfold fc;rw[CJ];rfl);rw[mg,VG]at sk;have ix:dK aa 23 (.arr (F c.boxes) 0 (cg rows) (cg rows)) (.v (.int .i64 0))=J (.ptr (.box (F c.boxes)) 0):=nZ (n:=0) (k:=.i64) n1;have l25:aD aa Gt (c.push ((fc (cg rows)).map I)) 25 (.ptr (.box (F h.boxes)) 0)=J (.agg [.list d s0 (xs.map λa=>[a]),y]):=uo (aN kp.out.1);have ow:=amm (c.push ((fc (cg rows)).map I)) (.list d s0 (xs.map λa=>[a])) y (.list f e (ints who)) bx O;have kmk:=ae.mk (aj o j);have Mu:((0:Nat):Int)=0:=rfl;clear VG rV UA o3 o4 o1 Ur o j s4 L R;unfold I at *
   have UO:(F rows=0->cg rows=1)/\∀r0,rows[0]?=J r0->F r0=cg rows:=(by refine⟨λz1=>by unfold cg;rw[av z1],λr0 z1=>?_⟩;exact(ko.out.1 r0 (cT z1)).1);have kcols:=ae.mk UO;clear UO;generalize cg rows=cw at *
   have two:F rows=0∨0<F rows:=(by omega);rcases two with C|C
   case' inl=>
    have hc1:=kcols.out.1 C;have hJ:¬((0:Int)<(F rows:Int)):=(by omega);have mk':vJ aa c 23 (.v (.int .i64 1)) (.v (.int .i64 1))=J (.arr (F c.boxes) 0 cw cw,c.push ((bB cw (0:Int)).map λn=>.v (.int .i64 n))):=(by have:=mk;rw[show((cw:Nat):Int)=1 by omega]at this;exact this);clear C mk hc1
    repeat' (first|simp(maxSteps:=9999999) (disch:=first|exact dZ|fail) only[gW,reduceIte,aH,aC,uE,de,dW,aU, *]|refine dX ?_ ?_<;>(intro _;try omega))
   case' inr=>
    obtain⟨a0,Mi⟩:∃a,xs[0]?=J a:=⟨_,aP M⟩;obtain⟨r0,qo⟩:∃r,rows[0]?=J r:=⟨_,aP M⟩;have ev:s0=1:=kRL.out.1 (by intro z1;rw[z1,f_]at C;omega);have ixr:dK aa 22 (.list d s0 (xs.map λa=>[a])) (.v (.int .i64 0))=J (.elem 1 (xs.map λa=>[a]) 0 0):=(by rw[ev];exact aU u22 hw (Cx _) (by rw[eH];omega));clear ev;have ld0:=iX (H:=c) (s:=1) Mi;obtain⟨ka0,sa0,rfl,-⟩:=kRL.out.2 0 a0 r0 Mi qo;have l_:F (ints r0)=cw:=(by rw[cG];exact kcols.out.2 r0 qo);have hJ:(0:Int)<(F rows:Int):=(by omega);have z0:(0:Int).toNat=0:=rfl;have z23':=hw;clear Mi qo
    repeat' (first|simp(maxSteps:=9999999) (disch:=first|exact dZ|fail) only[gW,reduceIte,aH,aC,uE,de,dW,aU, *]|refine dX ?_ ?_<;>(intro _;try omega))
   all_goals
    refine bC.gen λe4 nu rP yX y_=>?_;have f4:e4.get 4=.ptr (.box (F h.boxes+1)) 0:=(by rw[nu];simp only[gW,reduceIte,aH,aC];exact g4);have f5:e4.get 5=.ptr (.box (F h.boxes+1+1)) 0:=(by rw[nu];simp only[gW,reduceIte,aH,aC];exact g5);have f6:e4.get 6=.arr (F c.boxes) 0 cw cw:=(by rw[nu];exact gS);have f50:e4.get 50=.func (.func 219) [] [.ptr (.box (F (c.push ((fc cw).map λn=>.v (.int .i64 n))).boxes)) 0,.ptr (.box (F (c.push ((fc cw).map λn=>.v (.int .i64 n))).boxes+1)) 0]:=(by rw[nu];exact gS);have fd:e4.defers=[]:=(by rw[rP];simp only[gW,reduceIte,aH,aC];exact hd);clear nu rP yX y_ g1 g2 g4 g5 g8 g19 g20 g21 hd;refine Fa (by rw[AN];exact f50) λrec w1 w2 w3 w4 w5 w6=>?_;obtain⟨x1,vN,Y,tn1⟩:=kX.out;obtain⟨p0,o,j⟩:=kp.out;have X3:Ext h (((c.push ((fc cw).map I)).push [.list d s0 (xs.map λa=>[a]),y]).push [.list f e (ints who)]):=((x1.trans (.push _ _)).trans (.push _ _)).trans (.push _ _);have b0:(((c.push ((fc cw).map I)).push [.list d s0 (xs.map λa=>[a]),y]).push [.list f e (ints who)]).boxes[c.boxes.length]?=J ((fc cw).map I):=aN (aN (aK _ _));have b1:(((c.push ((fc cw).map I)).push [.list d s0 (xs.map λa=>[a]),y]).push [.list f e (ints who)]).boxes[F h.boxes+1]?=J [.list .nil 0 []]:=aN (aN (aN o));have b2:(((c.push ((fc cw).map I)).push [.list d s0 (xs.map λa=>[a]),y]).push [.list f e (ints who)]).boxes[F h.boxes+1+1]?=J [.list .nil 0 []]:=aN (aN (aN j));have b3:(((c.push ((fc cw).map I)).push [.list d s0 (xs.map λa=>[a]),y]).push [.list f e (ints who)]).boxes[F c.boxes+1]?=J [.list d s0 (xs.map λa=>[a]),y]:=aN (na (by rw[bE]));have b4:(((c.push ((fc cw).map I)).push [.list d s0 (xs.map λa=>[a]),y]).push [.list f e (ints who)]).boxes[F c.boxes+1+1]?=J [.list f e (ints who)]:=na (by rw[bE,bE]);have ok3:c_ (((c.push ((fc cw).map I)).push [.list d s0 (xs.map λa=>[a]),y]).push [.list f e (ints who)])=V:=vN;have gJ:F (((c.push ((fc cw).map I)).push [.list d s0 (xs.map λa=>[a]),y]).push [.list f e (ints who)]).loops=F c.loops:=rfl;have AX:F h.loops<=F c.loops:=x1.Eu;rw[bE]at f50;unfold I at *
    rw[bE];generalize ((c.push ((fc cw).map λn=>U.v (.int .i64 n))).push [.list d s0 (xs.map λa=>[a]),y]).push [.list f e (ints who)]=p at *
    have avb:F h.boxes+1<F p.boxes:=(aT.1 b1).1;have avc:F h.boxes+1+1<F p.boxes:=(aT.1 b2).1;have nw:(p.loop rec).loops[c.loops.length]?=J rec:=(by rw[<-gJ];exact @Ew p rec);have feed:=amn (F c.loops) (F c.boxes+1) (F c.boxes+1+1) d s0 xs y (.list f e (ints who)) rows ac who
     (FZ h (p.loop rec).loops (F h.boxes+1) (F h.boxes+1+1) (F c.boxes) (F c.boxes+1) (F c.boxes+1+1) ((fc cw).map λn=>.v (.int .i64 n)) [.list d s0 (xs.map λa=>[a]),y] [.list f e (ints who)] xs ac who)
     kyz.out.2.1 kyz.out.2.2.1 fh ko1.out.symm kRL.out.1 ko.out.2 M M
     (λk X z1=>by obtain⟨_,_,_,_,_,_,_,_,_,_,_,q1,q2⟩:=z1;exact⟨q1,q2⟩)
     ?_
     (λk X _ A z1=>by
      unfold FZ at *
      rw[XM A,XO A];exact z1)
     (p.loop rec) ⟨.nil,0,.nil,0,O,b1,b2,.inr ⟨O,O⟩,.inr ⟨O,O⟩,⟨.inl O,.inl O,λa z1=>(nomatch z1),ok3,X3.trans ((Fr.Bx (bn:=p.boxes.length) (l0:=p.loops.length) (n0:=p.tn) p rec).ext (aV _) (aV _) (aV _))⟩,b0,b3,b4⟩
    rotate_left 1
    .rintro k a X hk yF A ⟨t1,s1,t2,B,i1,i2,i3,i4,i5,i6,i7,i8,i9⟩;have xi:X.loops[c.loops.length]?=J rec:=(by rw[i1];exact nw);have w:=i6;have q0:(X.busy (F c.loops) rec).boxes=X.boxes:=rfl;have e22:=λA=>XN (xs:=xs) (ac:=ac) (who:=who) (k:=k) (a:=a) A yF;have e23:=XP (ac:=ac) (who:=who) (k:=k) A;have wA:=w.app;refine OY (Post:=FZ h (p.loop rec).loops (F h.boxes+1) (F h.boxes+1+1) (F c.boxes) (F c.boxes+1) (F c.boxes+1+1) ((fc cw).map λn=>.v (.int .i64 n)) [.list d s0 (xs.map λa=>[a]),y] [.list f e (ints who)] xs ac who (k+1)) xi (by rw[w2];rfl) w5 w6 ?_;have r1:∀t,(nG (F c.loops) rec [I (k:Nat),a]).get t=if 52=t then a else if 51=t then I (k:Nat) else e4.get t:=λt=>IQ w2 w1
     have d1:(nG (F c.loops) rec [I (k:Nat),a]).defers=[]:=rfl;obtain⟨K,hK⟩:∃K,X.busy (F c.loops) rec=K:=⟨_,O⟩;have kc1:db h.tn K t1:=(by rw[<-hK];exact w.c1);have kc2:db h.tn (K.app t1) t2:=(by rw[<-hK,Sb];exact wA.1);have kb1:K.boxes[F h.boxes+1]?=J [.list t1 s1 ((gM xs ac who k).map λa=>[a])]:=(by rw[<-hK];exact i2);have kb2:(K.app t1).boxes[F h.boxes+1+1]?=J [.list t2 B (ints (cJ (ex ac who k)))]:=(by rw[dS,<-hK];exact i3);have kb22:K.boxes[F h.boxes+1+1]?=J [.list t2 B (ints (cJ (ex ac who k)))]:=(by rw[<-hK];exact i3);have pl1:=XL (xs:=xs) (ac:=ac) (who:=who) (k:=k);have pl2:=amW (ac:=ac) (who:=who) (k:=k);have ap1:=RD (x:=a) (M:F (gM xs ac who k)<1000000) i4 kc1;have ap2:=wI (x:=(k:Int)) (show(F (cJ (ex ac who k)))<1099511627776 by omega) i5 kc2;rw[<-e22 A]at ap1;rw[<-anJ,<-e23]at ap2;have lA:=HT kb1;have lB:=vD kb2;have lB0:=vD kb22;have sA:=PN (H:=(K.app t1).app t2) (b:=F h.boxes+1) (k:=.free K.tn) (s:=1) (es:=(gM xs ac who (k+1)).map λa=>[a]) (by rw[dS,dS];exact kb1);have sB:=Jr (H:=((K.app t1).app t2).put (F h.boxes+1) [.list (.free K.tn) 1 ((gM xs ac who (k+1)).map λa=>[a])]) (b:=F h.boxes+1+1) (k:=.free (K.app t1).tn) (s:=1) (es:=ints (cJ (ex ac who (k+1)))) (by rw[cd M,dS];exact kb2);have blA:fy aa 22 1 [(0,a)]=J (.list .tight 1 [[a]]):=(by obtain⟨r',y9⟩:∃r',rows[k]?=J r':=⟨_,aP hk⟩;exact Ga a (kRL.out.2 k a r' yF y9).cell);have blB:=qO (k:Int);have svs:=v9 t2 B (cJ (ex ac who k));have m:ae (FZ h (p.loop rec).loops (F h.boxes+1) (F h.boxes+1+1) (F c.boxes) (F c.boxes+1) (F c.boxes+1+1) ((fc cw).map λn=>.v (.int .i64 n)) [.list d s0 (xs.map λa=>[a]),y] [.list f e (ints who)] xs ac who (k+1) ((((X.app t1).app t2).put (F h.boxes+1) [.list (.free X.tn) 1 ((gM xs ac who (k+1)).map λa=>[a])]).put (F h.boxes+1+1) [.list (.free (X.app t1).tn) 1 (ints (cJ (ex ac who (k+1))))])):=by
      have hl1:=(aT.1 i2).1;have ML:=(aT.1 i3).1;refine⟨_,1,_,1,?_,?_,?_,.inl O,.inl O,(wA.2.put M _).put M _,?_,?_,?_⟩
      .show((X.app t1).app t2).loops=_;rw[Aq,Aq];exact i1
      .rw[cd M];exact dh (by rw[dS,dS];exact hl1)
      .exact dh (by rw[je,dS,dS];exact ML)
      .rw[cd M,cd M,dS,dS];exact i7
      .rw[cd M,cd M,dS,dS];exact i8
      .rw[cd M,cd M,dS,dS];exact i9
     clear i1 i2 i3 i4 i5 i6 i7 i8 i9 w wA q0 e22 e23 b0 b1 b2 b3 b4 kb1 kb2 kb22 pl1 pl2 A yF kc1 kc2 X3 ok3 gJ p0 o j x1 vN f50;rw[hK];unfold I at *
     rw[w3,w4];refine w9 ?_;refine⟨aX,aX,?_⟩;refine bC.gen λe2 Z jw rU Bc=>?_;have q4:e2.get 4=.ptr (.box (F h.boxes+1)) 0:=(by rw[Z];simp only[gW,reduceIte,aH,aC,r1];exact f4);have q5:e2.get 5=.ptr (.box (F h.boxes+1+1)) 0:=(by rw[Z];simp only[gW,reduceIte,aH,aC,r1];exact f5);have q12:e2.get 12=.v (.int .i64 k):=(by rw[Z];simp only[gW,reduceIte,aH,aC,r1]);have q13:e2.get 13=a:=(by rw[Z];simp only[gW,reduceIte,aH,aC,r1]);clear Z jw rU Bc r1 d1 w1 w2 w3 w4 w5 w6;refine w9 ?_;refine iG [(3,4)] wK am (λz5 hp=>?_) ?_
     .simp only[ig]at hp;subst hp;refine kj (x:=.ptr (.box (F h.boxes+1+1)) 0) (v:=.list t2 B (ints (cJ (ex ac who k)))) am O O O am (svs) ?_ ?_<;>(simp only[dw,cX];exact dV @gj.{0} @and_self)
     refine w9 ?_;have kf2:=m.out;rw[Y]at kf2;refine⟨aX,?_,?_⟩
     .show((K.app t1).app t2).loops=_;rw[Aq,Aq]
     .rw[<-hK,agJ,Sb];exact kf2
    .obtain⟨Hf,c1,t1,s1,t2,B,i1,i2,i3,i4,i5,i6,i7,i8,i9⟩:=feed;rw[gJ];refine⟨_,_,c1,rec,by rw[i1];exact nw,by rw[w5];decide,.inl ⟨w6,?_⟩⟩;have hf1:=(aT.1 i2).1;have A1:=(aT.1 i3).1;have q1:(Hf.fb (F c.loops) {rec with state:=.exhausted}).boxes[F h.boxes+1]?=J [.list t1 s1 ((gM xs ac who (F rows)).map λa=>[a])]:=i2;have q2:(Hf.fb (F c.loops) {rec with state:=.exhausted}).boxes[F h.boxes+1+1]?=J [.list t2 B (ints (cJ (ex ac who (F rows))))]:=i3;have q7:(Hf.fb (F c.loops) {rec with state:=.exhausted}).boxes[c.boxes.length]?=J ((fc cw).map λn=>.v (.int .i64 n)):=i7;have XF:Ext h (Hf.fb (F c.loops) {rec with state:=.exhausted}):=((Fr.EG (bn:=h.boxes.length) (l0:=h.loops.length) (n0:=h.tn) i6.ext (aV _)).trans (.fb AX _)).ext (aV _) (aV _) (aV _);generalize Hf.fb (F c.loops) {rec with state:=.exhausted}=HF at *
     have A2:=(aT.1 q1).1;have hg2:=(aT.1 q2).1;have lA:=HT q1;have lB:=vD q2;have sA:=PN (k:=t1) (s:=s1) (es:=(gM xs ac who (F rows)).map λa=>[a]) q1;have lB2:aD aa Gt (HF.put (F h.boxes+1) [.list t1 s1 ((gM xs ac who (F rows)).map λa=>[a])]) 23 (.ptr (.box (F h.boxes+1+1)) 0)=J (.list t2 B (ints (cJ (ex ac who (F rows))))):=vD (by rw[cd M];exact q2);have sB:=Jr (H:=HF.put (F h.boxes+1) [.list t1 s1 ((gM xs ac who (F rows)).map λa=>[a])]) (b:=F h.boxes+1+1) (k:=t2) (s:=B) (es:=ints (cJ (ex ac who (F rows)))) (by rw[cd M];exact q2);have eA:=lH q1;have eB:=lH (h:=HF) q2;rw[eA]at sA sB lB2;rw[eB]at sB;have svs:=v9 t2 B (cJ (ex ac who (F rows)));have m:=ae.mk (aj XF (aj i4 (aj i5 q7)));clear q1 q2 q7 XF i1 i2 i3 i4 i5 i6 i7 i8 i9 c1 b0 b1 b2 b3 b4 X3 ok3 gJ p0 o j x1 vN f50 nw w1 w2 w3 w4 w5 w6 eA eB;refine bh @uE ?_;refine iG [(1,3)] wK am (λz5 hp=>?_) ?_
     .simp only[ig]at hp;subst hp;refine jN (x:=.ptr (.box (F h.boxes+1+1)) 0) (v:=.list t2 B (ints (cJ (ex ac who (F rows))))) am O O O am (svs) ?_ ?_<;>(simp only[dw,cX];exact dV @uE @and_self)
     refine bh @uE ?_;exact⟨_,_,O,m.out.1,by rw[aL (by simp[kpe.out]),aL (by simp[kf.out])];exact⟨_,_,_,_,_,O,m.out.2.1,m.out.2.2.1,by rw[<-Y];exact m.out.2.2.2⟩⟩
def IL.hold{x}{l}(h:IL x l):IL (al x) l/\au 0 0 0 (al x)=V:=by obtain⟨k,d,rfl,c⟩:=h;rw[al,rT];exact⟨⟨bU k,d,O,c⟩,by rw[au,eo,ju];rfl⟩
def yV:∀xs:List U,dm (xs.map λa=>[a])=(xs.map al).map λa=>[a]
 | []=>rfl
 |x::xs=>by rw[eI,dm,yV xs];rfl
def vh:∀xs:List U,(∀a∈xs,au 0 0 0 a=V)->fg 0 0 0 (xs.map λa=>[a])=V
 | [],_=>rfl
 |x::xs,h=>by rw[eI,fg,vh xs λa c=>h a (gx _ c),aA,h x gH];rfl
def RL.hold{k}{s}{xs:List U}{rows}(h:RL (.list k s (xs.map λa=>[a])) rows):
 RL (.list (bU k) s ((xs.map al).map λa=>[a])) rows/\∀a∈xs.map al,au 0 0 0 a=V:=by
 obtain⟨A,C,y,u,v,g,i⟩:=h;injection u with m o p;have q:=(Kc (λx D h=>by injection h)).1 p;subst m;subst o;subst q;refine⟨⟨bU k,s,xs.map al,O,v,by rw[br];exact g,λl a B c j=>?_⟩,λa c=>?_⟩
 .rw[ec]at c;cases d:xs[l]? with
  |none=>rw[d]at c;cases c
  |some b=>rw[d]at c;injection c with c;rw[<-c];exact(i l b B d j).hold.1
 .obtain⟨b,r,rfl⟩:=jg.1 c;obtain⟨l,e⟩:=qI r;have f:=(aT.1 e).1;exact(i l b _ e (aP (by rw[<-g];exact f))).hold.2
def L3:List aR:=[80,81,75,66,130,202,67,69,162,111,35,100,96,97,99,241,203,193,242,92,93,74,231,222,178]
noncomputable def OE:aR->Option (List U->Heap->Option (U × Heap)):=lU W2 L3
noncomputable abbrev W3:=whole aa Gt OE
def Sj:mo OE L3:=rK
section
variable (a b n x:Int)
def acd:∀h,W3.call 80 [I a,I b] h=J (.ret (I (dx a b)),h):=bT (L:=L3) O O O (Rp a b _) O rfl
def alE:∀h,W3.call 81 [I a,I b] h=J (.ret (I (cS a b)),h):=bT (L:=L3) O O O (N9 a b _) O rfl
def auj:∀h,W3.call 66 [I x] h=J (.ret (.v (.bool (bX x))),h):=bT (L:=L3) O O O (aui x _) O rfl
def ahx:∀h,W3.call 67 [I a,I b] h=J (.ret (.tuple [I (nV a b),I (rM a b)]),h):=bT (L:=L3) O O O (ahw a b _) O rfl
def ahD:∀h,W3.call 75 [I a,I n] h=J (.ret (.tuple [I (fj a n),I (oK a)]),h):=bT (L:=L3) O O O (ahC a n _) O rfl
def aoa:∀h,W3.call 130 [I a,I b] h=J (.ret (I (dx a b)),h):=bT (L:=L3) O O O (an9 a b _) O rfl
def apB:∀h,W3.call 202 [I a,I b] h=J (.ret (I (cS a b)),h):=bT (L:=L3) O O O (apA a b _) O rfl
def aoS:∀h,W3.call 231 [I n] h=J (.ret (.tuple [I (if fmod n=0 then 0 else ej n),I (if fmod n=0 then 90 else 0)]),h):=bT (L:=L3) O O O (aoR n _) O rfl
def ari:∀h,W3.call 111 [I x] h=J (.ret (.v (.bool (bX x))),h):=bT (L:=L3) O O O (arh x _) O rfl
def aoM:∀h,W3.call 97 [I n] h=J (.ret (.agg (ar 1 n [] .nil 0 [])),h):=bT (L:=L3) O O O (aoL n _) O rfl
end
def RL.form{x}{rows}(h:RL x rows):∃(k:Tok) (s:Nat) (xs:List U),x=.list k s (xs.map λa=>[a])/\F xs=F rows:=by obtain⟨k,s,xs,c,-,d,-⟩:=h;exact⟨k,s,xs,c,d⟩
def RL.fk{x}{rows}(h:RL x rows):RL (al x) rows/\au 0 0 0 (al x)=V:=by obtain⟨k,e,d,rfl,-⟩:=h.form;obtain⟨c,h2⟩:=h.hold;rw[al,yV];exact⟨c,by rw[au,eo,vh _ h2];rfl⟩
def aeR(x y)(rows)(ac)(g:RL x rows)(i:IL y ac):∀h,W3.call 35 [.agg [x,y]] h=J (.ret (.v (.int .i64 (cH rows ac))),h):=by obtain⟨c,h2⟩:=g.fk;obtain⟨d,e⟩:=i.hold;obtain⟨h',f,-⟩:=SQ ⟨[],[],0,[]⟩ (al x) (al y) rows ac c d;exact bT (L:=L3) (B:=[.agg [al x,al y]]) O O (by simp[aA,au,h2,e]) f O rfl
def LP(l):(l.map I).map (λc=>[c])=ints l:=by unfold ints;rw[List.map_map];rfl
def zt{h}{b n}{l}(c:h.boxes[b]?=J (l.map I))(d:F l=n):dE h (.arr b 0 n n)=.list .held 1 (ints l):=by subst d;rw[dE,c];simp only;rw[av (by rw[br];omega),List.drop_zero,ga (by rw[br];exact aV _),LP]
def afq(x y)(rows)(c)(v:RL x rows)(C:IL y c)(s:F rows<=64)(u:∀r∈rows,F r=F c)(m:F c<=64)(i:∀r∈rows,∀x∈r,okF x)(j:∀x∈c,okF x):
 (nT rows c=ag/\∀h,W3.call 93 [x,y] h=J (.ret (.tuple [.list .nil 0 [],.v (.bool ah),I 0]),h))∨∃l,nT rows c=J l/\F l=F rows/\∀h,W3.call 93 [x,y] h=J (.ret (.tuple [.list .held 1 (ints l),.v (.bool V),I 0]),h):=by
 obtain⟨p,h2⟩:=v.fk;obtain⟨q,f⟩:=C.hold;obtain⟨r,h',g,-,⟨d,rfl⟩|⟨l,b,d,e,rfl,o⟩⟩:=afs ⟨[],[],0,[]⟩ (al x) (al y) rows c p q s u m i j O
 .exact .inl ⟨d,bT (L:=L3) (B:=[al x,al y]) O O (by simp[aA,h2,f]) g O O⟩
 .refine .inr ⟨l,d,e,bT (L:=L3) (B:=[al x,al y]) O O (by simp[aA,h2,f]) g ?_ (by simp[au,aA,ju,oY,I])⟩;rw[dE,iF,zt o e];rfl
def Ox{xs}{ac who}{n i:Nat}{a}(h:(gM xs ac who n)[i]?=J a):∃j,(ex ac who n)[i]?=J j/\j<n/\a=xs.getD j default:=by
 unfold gM at h;rw[ec]at h;cases c:((bZ n).filter λi=>who.contains (af ac i))[i]? with
 |none=>rw[c]at h;cases h
 |some j=>rw[c]at h;injection h with h;exact⟨j,c,ie.1 (uU.1 (cT c)).1,h.symm⟩
def an6(c)(s0)(xs:List U)(y z)(rows)(ac who)(hx:RL (.list c s0 (xs.map λa=>[a])) rows)(E:IL y ac)(hz:IL z who)(R:F who<=1099511627776):
 (cH rows ac≠0/\∀h,W3.call 92 [.agg [.list c s0 (xs.map λa=>[a]),y],z] h=J (.ret (.tuple [.list .nil 0 [],.list .nil 0 [],.list .nil 0 [],.v (.int .i64 (cH rows ac))]),h))∨
 (cH rows ac=0/\dy (-1) who=ah/\∀h,W3.call 92 [.agg [.list c s0 (xs.map λa=>[a]),y],z] h=J (.ret (.tuple [.list .nil 0 [],.list .nil 0 [],.list .nil 0 [],.v (.int .i64 1)]),h))∨
 (cH rows ac=0/\dy (-1) who=V/\∃z1 A,RL z1 ((dJ ac who).map λi=>rows.getD i [])/\IL A (cJ (dJ ac who))/\∀h,W3.call 92 [.agg [.list c s0 (xs.map λa=>[a]),y],z] h=J (.ret (.tuple [z1,A,.list .held 1 (ints (fc (cg rows))),.v (.int .i64 0)]),h)):=by
 obtain⟨s,h2⟩:=hx.hold;obtain⟨h3,h4⟩:=E.hold;obtain⟨h5,h6⟩:=hz.hold;have T:F (xs.map al)=F rows:=by obtain⟨_,_,xs',B,-,H,-⟩:=s;injection B with _ _ o;have p:=(Kc (λx y h=>by injection h)).1 o;rw[p];exact H
 have q:a_ [.agg [.list c s0 (xs.map λa=>[a]),y],z]=[.agg [.list (bU c) s0 ((xs.map al).map λa=>[a]),al y],al z]:=by rw[a_,al,a_,a_,a_,al,yV];rfl
 have r:aA 0 0 0 [.agg [.list (bU c) s0 ((xs.map al).map λa=>[a]),al y],al z]=V:=by have hf:=vh _ h2;rw[aA,au,aA,aA,aA,aA,au,eo,hf,h4,h6];rfl
 obtain⟨z2,h',v,-,d⟩:=an5 ⟨[],[],0,[]⟩ (bU c) s0 (xs.map al) (al y) (al z) rows ac who s T h3 h5 R O;by_cases m:cH rows ac≠0
 .rw[av m]at d;subst d;exact .inl ⟨m,bT (L:=L3) O q r v O O⟩
 .rw[aL m]at d;have e:cH rows ac=0:=JX.1 m;cases q2:dy (-1) who with
  |false=>rw[av q2]at d;subst d;exact .inr (.inl ⟨e,O,bT (L:=L3) O q r v O O⟩)|true=>
   rw[aL (by rw[q2];simp)]at d;obtain⟨Z,s1,k2,s2,tb,rfl,e1,e2,o⟩:=d;obtain⟨o1,-,-,-⟩:=uw e;have f:ex ac who (F rows)=dJ ac who:=(by unfold ex dJ;rw[o1]);obtain⟨n1,-⟩:=vd e;have N:F (fc (cg rows))=cg rows:=(by unfold fc;simp;omega);refine .inr (.inr ⟨e,O,.list (bU Z) s1 ((gM (xs.map al) ac who (F rows)).map λa=>[a]),.list (bU k2) s2 (ints (cJ (dJ ac who))),⟨_,_,_,O,λg=>?_,?_,λi a z2 u l=>?_⟩,⟨_,_,O,λg=>?_⟩,bT (L:=L3) O q r v ?_ ?_⟩)
   .rcases e1 with j|⟨j,-⟩
    .exact j
    .exfalso;apply g;rw[<-f];unfold gM at j;unfold ex;rw[Ac]at j;rw[j];rfl
   .rw[br,<-f];unfold gM ex;rw[br]
   .obtain⟨z0,X,Y,rfl⟩:=Ox u;rw[f]at X;rw[ec,X]at l;injection l with l;subst l;obtain⟨_,_,xs',B,-,H,D⟩:=s;injection B with _ _ e5;have p:=(Kc (λx y h=>by injection h)).1 e5;subst p;refine D z0 _ _ ?_ ?_
    .rw[eK,aP M];rfl
    .show rows[z0]?=J (rows.getD z0 []);rw[eK,aP Y];rfl
   .rcases e2 with j|⟨j,-⟩
    .exact j
    .rw[f]at j;exact absurd j g
   .rw[dE,iF,iF,iF,zt o N,f];rfl
   .have C:fg 0 0 0 ((gM (xs.map al) ac who (F rows)).map λa=>[a])=V:=vh _ λa u=>(by obtain⟨i,hi⟩:=qI u;obtain⟨z0,-,Y,rfl⟩:=Ox hi;refine h2 _ ?_;rw[eK,aP M];exact i_ _);cases Z<;>cases k2<;>simp[au,aA,bU,ju,C,oY]
def Cb:Tryz.f39.results.toList=[.tmp 4,.tmp 5,.tmp 6]:=am
def ki(n:Nat)(c:List Nat)(l:List Int)(j:Nat):List Int:=(c.zipIdx.take j).foldl (λe d=>e.set d.1 (af l d.2)) (bB n 0)
def Jn{n j}{c}{l}:F (ki n c l j)=n:=by unfold ki;rw[Dk (λd=>af l d.2),mw]
def Zl{n j p}{c}{l}(h:c[j]?=J p):(ki n c l j).set p (af l j)=ki n c l (j+1):=by
 have d:c.zipIdx[j]?=J (p,j):=by rw[aaS,h];simp
 unfold ki;rw[gg d,oD];rfl
def Jm{n}{c}{l}:ki n c l (F c)=oW n c l:=by unfold ki oW;rw[ga b8]
def Yc{l}{j p:Nat}(h:l[j]?=J p):af (cJ l) j=(p:Int):=by
 have:(cJ l)[j]?=J (p:Int):=by unfold cJ;rw[ec,h];rfl
 unfold af;rw[eK,this];rfl
def Qc(rows:List (List Int))(ac who:List Int)(h:Heap)(r:dR)(h':Heap):Prop:=
 Ext h h'/\((∃d,fG rows ac who=([],ah,d)/\r=.ret (.tuple [.list .nil 0 [],.v (.bool ah),.v (.int .i64 d)]))∨∃c b,fG rows ac who=(c,V,0)/\F c=F rows/\r=.ret (.tuple [.arr b 0 (F rows) (F rows),.v (.bool V),.v (.int .i64 0)])/\h'.boxes[b]?=J (c.map I))
def ab9(h:Heap)(f:Tok)(s0:Nat)(xs:List U)(y z:U)(rows:List (List Int))(ac who:List Int)(m:RL (.list f s0 (xs.map λa=>[a])) rows)(E:IL y ac)(hz:IL z who)(qp:F who<=1099511627776):
 ∃r h',W3.call 39 [.agg [.list f s0 (xs.map λa=>[a]),y],z] h=J (r,h')/\Qc rows ac who h r h':=by
 have hq:=an6 f s0 xs y z rows ac who m E hz qp;obtain⟨_,_,xs',he,fh⟩:=m.form;have HI:F (xs.map λa=>[a])=F rows:=by injection he with _ _ e5;rw[e5,br];exact fh
 have bx:(U.agg [.list f s0 (xs.map λa=>[a]),y]).bF=J [.list f s0 (xs.map λa=>[a]),y]:=by obtain⟨ky,sy,rfl,-⟩:=E;rfl
 have b0:(h.push [.list f s0 (xs.map λa=>[a]),y]).boxes[h.boxes.length]?=J [.list f s0 (xs.map λa=>[a]),y]:=aK _ _;have l25:=uo b0;have l22:=ox b0;have u23:=cU;have u22:=gy;have z3:=eX;clear he fh m E hz b0;unfold Qc;have d:fG rows ac who=if cH rows ac≠0 then ([],ah,cH rows ac) else if !dy (-1) who then ([],ah,1) else match nT ((dJ ac who).map λN=>rows.getD N []) (fc (cg rows)) with|none=>([],ah,0)|some p=>(oW (F rows) (dJ ac who) p,V,0):=rfl
 refine bL O Tryz.func39 O ?_;rcases hq with⟨e,z4⟩|⟨e,A,z4⟩|⟨e,A,z7,z8,hX,hA,z4⟩
 .rw[av e]at d;generalize cH rows ac=pe at *
  have US:decide (pe=0)=ah:=by simp[e]
  have o:=ae.mk d;clear d e;refine bG @Cb @bg ?_;exact⟨_,_,O,.push _ _,.inl ⟨pe,o.out,O⟩⟩
 .rw[aL (by simp[e]),av (by rw[A];rfl)]at d;have o:=ae.mk d;clear d e A;refine bG @Cb @bg ?_;exact⟨_,_,O,.push _ _,.inl ⟨1,o.out,O⟩⟩
 .rw[aL (by simp[e]),aL (by rw[A];simp)]at d;obtain⟨o1,o2,X,-⟩:=uw e;obtain⟨n1,n2⟩:=vd e;have xl:F (fc (cg rows))=cg rows:=by unfold fc;simp;omega
  have i:∀N∈dJ ac who,N<F rows:=λN T=>by unfold dJ at T;rw[o1];exact ie.1 (uU.1 T).1
  have qm:F (dJ ac who)<=64:=by unfold dJ;exact e8 (QL _ _) (by rw[List.length_range];omega)
  have j:∀r∈(dJ ac who).map λN=>rows.getD N [],r∈rows:=λr H=>by obtain⟨N,T,rfl⟩:=jg.1 H;have:=i N T;rw[eK,aP this];exact i_ _
  have Mp:=afq z7 (.list .held 1 (ints (fc (cg rows)))) _ (fc (cg rows)) hX ⟨_,_,O,λ_=>rfl⟩ (by rw[br];exact qm) (λr H=>by rw[xl];exact(X r (j r H)).1) (by rw[xl];exact n2) (λr H=>(X r (j r H)).2.2.2) (λx m=>by
   unfold fc at m;rcases gU.1 m with rfl|m
   .exact⟨aY,by decide⟩
   .rw[List.eq_of_mem_replicate m];exact⟨aY,by decide⟩)
  rcases Mp with⟨C,R⟩|⟨p,C,e2,R⟩
  .rw[C]at d;have o:=ae.mk d;unfold I at R;clear d e A C j i X;refine bG @Cb @bg ?_;exact⟨_,_,O,.push _ _,.inl ⟨0,o.out,O⟩⟩
  .rw[C]at d;have o:=ae.mk d;have mk:=vK (h.push [.list f s0 (xs.map λa=>[a]),y]) (F rows) M .i64 .i64;have L:bB (F rows) (I 0)=(ki (F rows) (dJ ac who) p 0).map I:=(by unfold ki;rw[cX,CE,xR]);rw[L]at mk;rw[br]at e2;have ko:=ae.mk i;obtain⟨ka,sa,rfl,qW⟩:=hA;have ksa:=ae.mk qW;have tX:=NF (dJ ac who);have gJ:=cG p;clear d e A C j i X L hX qW;unfold I at R mk;generalize dJ ac who=c at *
   clear o1;refine cK @Cb @bg @de ?_;refine bC.gen λv g Y eu dn=>?_;have f4:v.get 4=.arr (F h.boxes+1) 0 (F rows) (F rows):=(by rw[g];simp only[gW,reduceIte,aH,aC,bE]);have f10:v.get 10=.list .held 1 (ints p):=(by rw[g];exact gS);have f42:v.get 42=.list ka sa (ints (cJ c)):=(by rw[g];exact gS);have f43:v.get 43=.v (.int .i64 (F c:Nat)):=(by rw[g];exact gS);have f44:v.get 44=.v (.int .i64 (0:Nat)):=(by rw[g];exact gR);have fd:v.defers=[]:=(by rw[Y];exact gS);clear g Y eu dn mk z4 R l25 l22;have D:F (h.push [.list f s0 (xs.map λa=>[a]),y]).boxes=F h.boxes+1:=bE _ _;have X1:Ext h (h.push [.list f s0 (xs.map λa=>[a]),y]):=.push _ _;generalize h.push [.list f s0 (xs.map λa=>[a]),y]=B at *
   have kX:=ae.mk (aj X1 D);clear X1;refine b_ (λz6 z0 z1=>∃l:Nat,l<=F c/\z6=F c-l/\z0.get 4=.arr (F h.boxes+1) 0 (F rows) (F rows)/\z0.get 10=.list .held 1 (ints p)/\z0.get 42=.list ka sa (ints (cJ c))/\z0.get 43=.v (.int .i64 (F c:Nat))/\z0.get 44=.v (.int .i64 (l:Nat))/\z0.defers=[]/\z1=B.push ((ki (F rows) c p l).map I)) ?_ (F c) _ _ ?_;rotate_left 1
   .exact⟨0,bY _,O,f4,f10,f42,f43,f44,fd,O⟩
   clear f4 f10 f42 f43 f44 fd;rintro z6 z0 z1 ⟨l,hj,rfl,g4,g10,g42,g43,g44,hd,rfl⟩;by_cases q:l<F c
   .obtain⟨z2,u⟩:∃z2,c[l]?=J z2:=⟨_,aP q⟩;have Z:=ko.out z2 (cT u);have ev:sa=1:=ksa.out (by intro z5;unfold cJ at z5;rw[Ac]at z5;rw[z5]at q;exact nt _ q);subst ev;have l0:=eS (H:=B.push ((ki (F rows) c p l).map I)) (l:=cJ c) (i:=l) (s:=1) (by unfold cJ;rw[br];exact q);rw[Yc u]at l0;have l1:=eS (H:=B.push ((ki (F rows) c p l).map I)) (l:=p) (i:=l) (s:=1) M;have ix3:=nZ (b:=F h.boxes+1) (len:=rows.length) (aS:=rows.length) (k:=.i64) Z;have sk:=uJ (H:=B.push ((ki (F rows) c p l).map I)) (b:=B.boxes.length) (r:=ki (F rows) c p l) (k:=z2) (x:=af p l) (aK _ _) (by rw[Jn];exact Z);rw[mg,Zl u,D]at sk;have fO:(l:Int)<(F c:Int):=(by omega);unfold I at *
    clear u D;refine bG @Cb @aU ?_;exact⟨F c-(l+1),by omega,l+1,by omega,O,by simp⟩
   .have ql:l=F c:=(by omega);subst ql;refine bh @Cb ?_;refine⟨_,_,O,kX.out.1.trans (.push _ _),.inr ⟨_,F h.boxes+1,o.out,?_,O,?_⟩⟩
    .rw[<-Jm,Jn]
    .rw[<-Jm];exact na kX.out.2.symm
def IS(H:Heap)(x:U)(l:List Int):Prop:=IL x l∨∃b,x=.arr b 0 (F l) (F l)/\H.boxes[b]?=J (l.map I)
def IS.mono{H H'}{x}{l}(s:IS H x l)(m:∀(c:Nat) cs,H.boxes[c]?=J cs->H'.boxes[c]?=J cs):IS H' x l:=by
 rcases s with f|⟨b,d,e⟩
 .exact .inl f
 .exact .inr ⟨b,d,m _ _ e⟩
def IS.len{H}{x}{l}(s:IS H x l):dB aa 23 x=J (.v (.int .i64 (F l:Nat))):=by
 rcases s with⟨k,z,rfl,-⟩|⟨b,rfl,-⟩
 .rw[NX cU,cG]
 .rw[NW cU]
def IS.at{H:Heap}{x:U}{l:List Int}(s:IS H x l){i:Nat}(hi:i<F l):∃a,dK aa 23 x (.v (.int .i64 (i:Nat)))=J a/\∀H':Heap,IS H' x l->aD aa Gt H' 3 a=J (.v (.int .i64 (af l i))):=by
 rcases s with⟨k,z,rfl,g⟩|⟨b,rfl,o⟩
 .have:z=1:=g (by intro d;rw[d]at hi;exact nt _ hi);subst this;have d:=aU (t:=23) (k:=k) (kk:=.i64) (sz:=1) (es:=ints l) (a:=((i:Nat):Int)) cU eX M (by rw[cG];omega);rw[fD]at d;exact⟨_,d,λH' _=>eS hi⟩
 .refine⟨.ptr (.box b) i,nZ (b:=b) (len:=l.length) (aS:=l.length) (n:=i) (k:=.i64) hi,λH' j=>?_⟩;rcases j with⟨k,z,e,-⟩|⟨m,e,c⟩
  .cases e
  .injection e with f;subst f;exact vH c (us hi)
def I7:Tryz.f233.results.toList=[.tmp 6]:=am
def aqy:Tryz.f232.results.toList=[.tmp 4]:=am
def WE(h:Heap)(x y:U)(a own:List Int)(n:Int)(q:IS h x a)(H:IS h y own)(B:F own=F a)(X:F a<=1000000):
 ∃r h',W3.call 233 [x,y,I n] h=J (r,h')/\Ext h h'/\r=.ret (.arr (F h.boxes) 0 (F a) (F a))/\h'.boxes[h.boxes.length]?=J ((g_ n a own).map I):=by
 have s:=vK h (F a) X .i64 .i64;have l:=ae.mk (aj q H);have lx:=q.len;have i:bB (F a) (I 0)=(jj (λc=>iV n (af a c) (af own c)) (bB (F a) 0) 0 0).map I:=by rw[S9,xR]
 rw[i]at s;unfold I at s;clear q H i;refine bL O Tryz.func233 O ?_;unfold I;refine bh @I7 ?_;refine bC.gen λg d m C D=>?_;have f0:g.get 0=x:=by rw[d];exact gS
 have f1:g.get 1=y:=by rw[d];exact gS
 have f2:g.get 2=.v (.int .i64 n):=by rw[d];exact gS
 have f7:g.get 7=.arr (F h.boxes) 0 (F a) (F a):=by rw[d];exact gS
 have f8:g.get 8=.v (.int .i64 (0:Nat)):=by rw[d];exact gR
 have v:g.defers=[]:=by rw[m];exact gS
 clear d m C D s;refine b_ (λz0 p R=>∃k:Nat,k<=F a/\z0=F a-k/\p.get 0=x/\p.get 1=y/\p.get 2=.v (.int .i64 n)/\p.get 7=.arr (F h.boxes) 0 (F a) (F a)/\p.get 8=.v (.int .i64 (k:Nat))/\p.defers=[]/\R=h.push ((jj (λc=>iV n (af a c) (af own c)) (bB (F a) 0) 0 k).map I)) ?_ (F a) _ _ ?_;rotate_left 1
 .exact⟨0,bY _,O,f0,f1,f2,f7,f8,v,O⟩
 clear f0 f1 f2 f7 f8 v;rintro z0 p R ⟨k,hk,rfl,g0,g1,g2,g7,g8,hd,rfl⟩;by_cases e:k<F a
 .obtain⟨ax,i1,L⟩:=l.out.1.at e;obtain⟨ay,j1,N⟩:=l.out.2.at (M:k<F own);have l1:=L (h.push ((jj (λc=>iV n (af a c) (af own c)) (bB (F a) 0) 0 k).map I)) (l.out.1.mono λ_ _ Y=>aN Y);have l2:=N (h.push ((jj (λc=>iV n (af a c) (af own c)) (bB (F a) 0) 0 k).map I)) (l.out.2.mono λ_ _ Y=>aN Y);have c1:=λh=>apB n (af own k) h;have c2:=λh=>aoa (af a k) (0-cS n (af own k)) h;have fl:iV n (af a k) (af own k)=dx (af a k) (0-cS n (af own k)):=by rw[aaI];rfl
  have fz:=vO (Dj n (af own k));have o:F (bB a.length (0:Int))=F a:=mw;have Z:=uJ (H:=h.push ((jj (λc=>iV n (af a c) (af own c)) (bB (F a) 0) 0 k).map I)) (b:=h.boxes.length) (r:=jj (λc=>iV n (af a c) (af own c)) (bB (F a) 0) 0 k) (k:=k) (x:=iV n (af a k) (af own k)) (aK _ _) (by rw[pq,o];exact e);have u:=S8 (f:=λc=>iV n (af a c) (af own c)) (a:=bB (F a) 0) (bY k) (by rw[o];exact e);rw[mg,u,fl]at Z;have ix:=nZ (b:=h.boxes.length) (len:=a.length) (aS:=a.length) (k:=.i64) e;have T:(k:Int)<(F a:Int):=by omega
  clear L N u fl;generalize cS n (af own k)=z at *
  unfold I at *
  refine bh @I7 ?_;refine du Sj am ?_;refine bh @I7 ?_;exact⟨F a-(k+1),by omega,k+1,by omega,O,by simp⟩
 .have:k=F a:=by omega
  subst this;refine bh @I7 ?_;refine⟨_,_,O,.push _ _,O,?_⟩;rw[aK];congr 2;refine uC (by rw[pq,rY B.symm,mw]) λc j=>?_;rw[pq,mw]at j;rw[AF (by rw[mw];exact j),av ⟨bY _,j⟩,tE B.symm j]
def atN(h:Heap)(x:U)(a:List Int)(n:Int)(e:IS h x a)(f:F a<=1000000)(o:0<=n/\n<=9223372036854775807):
 ∃r h',W3.call 232 [x,I n] h=J (r,h')/\Ext h h'/\∃b,r=.ret (.arr b 0 (F a) (F a))/\h'.boxes[b]?=J ((scaleB a n).map I):=by
 have j:=vK h (F a) f .i64 .i64;have p:=e.len;have g:(h.push (bB (F a) (I 0))).boxes[h.boxes.length]?=J ((bB (F a) (0:Int)).map I):=by rw[aK,xR]
 have c:F (bB a.length (0:Int))=F a:=mw;obtain⟨r,h',m,l,rfl,d⟩:=WE (h.push (bB (F a) (I 0))) (.arr (F h.boxes) 0 (F a) (F a)) x (bB (F a) 0) a (0-n) (.inr ⟨F h.boxes,by rw[c],g⟩) (e.mono λ_ _ q=>aN q) c.symm (by rw[c];exact f);rw[c]at m;rw[aaI]at d;have i:=ae.mk (aj l d);clear e g c l d;unfold I at m j ⊢;refine bL O Tryz.func232 O ?_;refine bh @aqy ?_;exact⟨_,_,O,(Ext.push _ _).trans i.out.1,_,O,i.out.2⟩
def E7:Tryz.f230.results.toList=[.tmp 2]:=am
def Xn(h:Heap)(x:U)(l:List Int)(L:IL x l)(hl:F l<=1000000):∃r h',W3.call 230 [x] h=J (r,h')/\h'=h/\r=.ret (.v (.bool (l.all cN))):=by
 obtain⟨k,R,rfl,v⟩:=L;have N:=ae.mk v;clear v;have Y:=cU;have z3:=eX;have T:=cG l;refine bL O Tryz.func230 O ?_;refine bh @E7 ?_;refine b_ (λX E D=>∃c:Nat,c<=F l/\X=F l-c/\ae ((l.take c).all cN=V)/\E.get 0=.list k R (ints l)/\E.get 3=.v (.int .i64 (c:Nat))/\E.defers=[]/\D=h) ?_ (F l) _ _ ?_;rotate_left 1
 .refine⟨0,bY _,O,⟨b8⟩,?_,?_,?_,O⟩<;>exact gR
 rintro X E D ⟨c,hi,rfl,A,Z,g3,hd,rfl⟩;by_cases d:c<F l
 .have y:R=1:=N.out (by intro z0;rw[z0]at d;simp at d);subst y;have ld:=eS (H:=D) (s:=1) d;have o:l[c]?=J (af l c):=by rw[aP d,gb d]
  have H:(c:Int)<(F l:Int):=by omega
  have e:(l.take (c+1)).all cN=cN (af l c):=by rw[gg o,sZ,A.out];simp
  have j:=cT o;have q:=ae.mk (aj e j);have f:cN (af l c)=(decide (0<=af l c)&&decide (af l c<1073741789)):=rfl;clear o e j;generalize af l c=n at *
  by_cases g:n<0
  .have s:decide (n<0)=V:=(by simp[g]);have i:l.all cN=ah:=(by rw[J4];exact⟨n,q.out.2,by rw[f];simp;omega⟩);have p:=ae.mk i;clear i f g;refine bG @E7 @aU ?_;exact⟨_,_,O,O,by rw[p.out]⟩
  .have s:decide (n<0)=ah:=(by simp[g]);by_cases m:1073741789<=n
   .have u:decide (1073741789<=n)=V:=(by simp[m]);have i:l.all cN=ah:=(by rw[J4];exact⟨n,q.out.2,by rw[f];simp;omega⟩);have p:=ae.mk i;clear i f g m;refine bG @E7 @aU ?_;exact⟨_,_,O,O,by rw[p.out]⟩
   .have u:decide (1073741789<=n)=ah:=(by simp;omega);have C:ae ((l.take (c+1)).all cN=V):=⟨by rw[q.out.1,f];simp;omega⟩;clear f g m;refine bG @E7 @aU ?_;exact⟨F l-(c+1),by omega,c+1,by omega,O,C,by simp⟩
 .have:c=F l:=by omega
  subst this;have:=A.out;rw[fK]at this;have B:=ae.mk this;clear this;refine bh @E7 ?_;exact⟨_,_,O,O,by rw[B.out]⟩
def B5:Tryz.f229.results.toList=[.tmp 2]:=am
def VP{l:List Int}(h:∀x∈l,okF x):l.all cN=V:=by rw[eJ];intro x d;obtain⟨c,h2⟩:=h x d;unfold cN;simp[c,h2]
def aoe(h:Heap)(x:U)(rows:List (List Int))(w:Nat)(hx:RL x rows)(hr:F rows<=64)(A:∀r∈rows,F r=w)(oM:w<=64)(B:∀r∈rows,∀x∈r,okF x):∃h',W3.call 229 [x] h=J (.ret (.v (.int .i64 0)),h')/\h'=h:=by
 obtain⟨k,D,l,rfl,hs,fh,C⟩:=hx;have f:=ae.mk (aj hs (aj C (aj A B)));clear hs C A B;have u23:=cU;have u22:=gy;have z23:=hw;have eH:F (l.map λa=>[a])=F rows:=by rw[br];exact fh
 have GR:¬((64:Int)<(F rows:Int)):=by omega
 refine gI O Tryz.func229 O ?_;refine bh @B5 ?_;refine b_ (λz1 v o=>∃e:Nat,e<=F rows/\z1=F rows-e/\v.get 0=.list k D (l.map λa=>[a])/\v.get 3=.v (.int .i64 (e:Nat))/\v.defers=[]/\o=h) ?_ (F rows) _ _ ?_;rotate_left 1
 .refine⟨0,bY _,O,?_,?_,?_,O⟩<;>exact gR
 rintro z1 v o ⟨e,hi,rfl,H,g3,L,rfl⟩;by_cases c:e<F rows
 .have s:D=1:=f.out.1 (by intro z2;rw[z2]at c;simp at c);subst s;obtain⟨a,d⟩:∃a,l[e]?=J a:=⟨_,aP M⟩;obtain⟨r,i⟩:∃r,rows[e]?=J r:=⟨_,aP c⟩;have ld:=iX (H:=o) (s:=1) d;obtain⟨ka,sa,rfl,m⟩:=f.out.2.1 e a r d i;have g:=f.out.2.2.1 r (cT i);have R:F (ints r)=w:=by rw[cG];exact g
  have N:(e:Int)<(F rows:Int):=by omega
  have hwd:¬((64:Int)<(w:Int)):=by omega
  clear d i m g;refine bG @B5 @aU ?_;exact⟨F rows-(e+1),by omega,e+1,by omega,O,by simp⟩
 .refine bh @B5 ?_;refine bC.gen λE p y eu dn=>?_;have f0:E.get 0=.list k D (l.map λa=>[a]):=by rw[p];simp only[gW,reduceIte,aH,aC];exact H
  have f4:E.get 4=.v (.int .i64 (0:Nat)):=by rw[p];exact gR
  have Z:E.defers=[]:=by rw[y];simp only[gW,reduceIte,aH,aC];exact L
  clear p y eu dn H g3 L hi c;refine b_ (λz1 v H2=>∃e:Nat,e<=F rows/\z1=F rows-e/\v.get 0=.list k D (l.map λa=>[a])/\v.get 4=.v (.int .i64 (e:Nat))/\v.defers=[]/\H2=o) ?_ (F rows) _ _ ?_;rotate_left 1
  .exact⟨0,bY _,O,f0,f4,Z,O⟩
  clear f0 f4 Z;rintro z1 v o ⟨e,hi,rfl,H,g4,L,rfl⟩;by_cases c:e<F rows
  .have s:D=1:=f.out.1 (by intro z2;rw[z2]at c;simp at c);subst s;obtain⟨a,d⟩:∃a,l[e]?=J a:=⟨_,aP M⟩;obtain⟨r,i⟩:∃r,rows[e]?=J r:=⟨_,aP c⟩;obtain⟨a0,j⟩:∃a,l[0]?=J a:=⟨_,aP M⟩;obtain⟨X,u⟩:∃r,rows[0]?=J r:=⟨_,aP M⟩;have ld:=iX (H:=o) (s:=1) d;have ld0:=iX (H:=o) (s:=1) j;obtain⟨ka,sa,rfl,m⟩:=f.out.2.1 e a r d i;obtain⟨ka0,sa0,rfl,T⟩:=f.out.2.1 0 a0 X j u;have g:=f.out.2.2.1 r (cT i);have q:=f.out.2.2.1 X (cT u);obtain⟨_,H5,cc,Y,rfl⟩:=Xn o (.list ka sa (ints r)) r ⟨_,_,O,m⟩ M;rw[Y,VP (f.out.2.2.2 r (cT i))]at cc;have R:F (ints r)=w:=(by rw[cG];exact g);have Na:F (ints X)=w:=(by rw[cG];exact q);have N:(e:Int)<(F rows:Int):=(by omega);have Dp:(0:Int)<(F rows:Int):=(by omega);have z0:(0:Int).toNat=0:=rfl;have DM:decide ((w:Int)=(w:Int))=V:=(by simp);clear d i m g j u T q Y;refine bG @B5 @aU ?_;refine du Sj am ?_;refine bG @B5 @aU ?_;exact⟨F rows-(e+1),by omega,e+1,by omega,O,by simp⟩
  .refine bh @B5 ?_;exact⟨_,O,O⟩
def YK:Tryz.f174.results.toList=[.tmp 4]:=am
def aox(h:Heap)(x y:U)(rows:List (List Int))(c:List Int)(B:RL x rows)(D:IL y c)(Z:F rows<=64)(j:∀r∈rows,F r=F c)(v:F c<=64)(l:∀r∈rows,∀x∈r,okF x)(m:∀x∈c,okF x):
 W3.call 174 [x,y] h=J (.ret (.v (.int .i64 0)),h):=by
 obtain⟨T,N,p⟩:=aoe h x rows (F c) B Z j v l;rw[p]at N;obtain⟨_,h2,R,q,rfl⟩:=Xn h y c D M;rw[q,VP m]at R;clear p q T h2;obtain⟨k,z1,L,rfl,s,C,g⟩:=B;obtain⟨ky,sy,rfl,jY⟩:=D;have u23:=cU;have u22:=gy;have z23:=hw;have eH:F (L.map λa=>[a])=F rows:=by rw[br];exact C
 have X:=cG c;have GR:¬((64:Int)<(F c:Int)):=by omega
 clear l m;refine cr O Tryz.func174 O ?_;by_cases i:F rows=0
 .have Y:decide ((0:Int)<(F rows:Int))=ah:=b7 M;clear j g i;exact iL @YK
 .have Y:decide ((0:Int)<(F rows:Int))=V:=bQ M;obtain⟨a0,d⟩:∃a,L[0]?=J a:=⟨_,aP M⟩;obtain⟨o,f⟩:∃r,rows[0]?=J r:=⟨_,aP M⟩;have u:z1=1:=s (by intro z2;rw[z2]at i;simp at i);subst u;have ld0:=iX (H:=h) (s:=1) d;obtain⟨ka0,sa0,rfl,Ed⟩:=g 0 a0 o d f;have e:=j o (cT f);have Na:F (ints o)=F c:=by rw[cG];exact e
  have Dp:(0:Int)<(F rows:Int):=by omega
  have z0:(0:Int).toNat=0:=rfl;have DM:decide ((F c:Int)=(F c:Int))=V:=by simp
  clear j g d f e s i;exact dV @YK @aU
def L4:List aR:=[80,81,75,66,130,202,67,39,69,162,111,35,100,96,97,99,241,203,193,242,74,174,231,232,233,222,178]
noncomputable def BP:aR->Option (List U->Heap->Option (U × Heap)):=lU W3 L4
noncomputable abbrev W4:=whole aa Gt BP
def tG:mo BP L4:=rK
section
variable (a b n x:Int)
def Rq:∀h,W4.call 80 [I a,I b] h=J (.ret (I (dx a b)),h):=bT (L:=L4) O O O (acd a b _) O rfl
def WX:∀h,W4.call 81 [I a,I b] h=J (.ret (I (cS a b)),h):=bT (L:=L4) O O O (alE a b _) O rfl
def Z6:∀h,W4.call 66 [I x] h=J (.ret (.v (.bool (bX x))),h):=bT (L:=L4) O O O (auj x _) O rfl
def ahy:∀h,W4.call 67 [I a,I b] h=J (.ret (.tuple [I (nV a b),I (rM a b)]),h):=bT (L:=L4) O O O (ahx a b _) O rfl
def LW:∀h,W4.call 75 [I a,I n] h=J (.ret (.tuple [I (fj a n),I (oK a)]),h):=bT (L:=L4) O O O (ahD a n _) O rfl
def aoT:∀h,W4.call 231 [I n] h=J (.ret (.tuple [I (if fmod n=0 then 0 else ej n),I (if fmod n=0 then 90 else 0)]),h):=bT (L:=L4) O O O (aoS n _) O rfl
def arj:∀h,W4.call 111 [I x] h=J (.ret (.v (.bool (bX x))),h):=bT (L:=L4) O O O (ari x _) O rfl
def aoN:∀h,W4.call 97 [I n] h=J (.ret (.agg (ar 1 n [] .nil 0 [])),h):=bT (L:=L4) O O O (aoM n _) O rfl
end
def akQ(x y)(a own)(n)(l:IL x a)(m:IL y own)(c:F own=F a)(j:F a<=1000000):∀h,W4.call 233 [x,y,I n] h=J (.ret (.list .held 1 (ints (g_ n a own))),h):=by obtain⟨d,h2⟩:=l.hold;obtain⟨e,f⟩:=m.hold;obtain⟨o,h',i,-,rfl,g⟩:=WE ⟨[],[],0,[]⟩ (al x) (al y) a own n (.inl d) (.inl e) c j;exact bT (L:=L4) (B:=[al x,al y,I n]) O O (by simp[aA,h2,f,au,I]) i (zt g (rY c.symm)) (by simp[au,ju,oY])
def Y6(a)(n):F (scaleB a n)=F a:=by unfold scaleB;rw[rY (by rw[mw]),mw]
def atO(x)(a)(n)(i:IL x a)(g:F a<=1000000)(f:0<=n/\n<=9223372036854775807):∀h,W4.call 232 [x,I n] h=J (.ret (.list .held 1 (ints (scaleB a n))),h):=by obtain⟨c,h2⟩:=i.hold;obtain⟨j,h',e,-,b,rfl,d⟩:=atN ⟨[],[],0,[]⟩ (al x) a n (.inl c) g f;exact bT (L:=L4) (B:=[al x,I n]) O O (by simp[aA,h2,au,I]) e (zt d (Y6 a n)) (by simp[au,ju,oY])
def ab6(c)(s0)(xs:List U)(y z)(rows)(ac who)(A:RL (.list c s0 (xs.map λa=>[a])) rows)(B:IL y ac)(C:IL z who)(m:F who<=1099511627776):
 (∃e,fG rows ac who=([],ah,e)/\∀h,W4.call 39 [.agg [.list c s0 (xs.map λa=>[a]),y],z] h=J (.ret (.tuple [.list .nil 0 [],.v (.bool ah),.v (.int .i64 e)]),h))∨
 ∃l,fG rows ac who=(l,V,0)/\F l=F rows/\∀h,W4.call 39 [.agg [.list c s0 (xs.map λa=>[a]),y],z] h=J (.ret (.tuple [.list .held 1 (ints l),.v (.bool V),.v (.int .i64 0)]),h):=by
 obtain⟨p,h2⟩:=A.hold;obtain⟨q,r⟩:=B.hold;obtain⟨s,u⟩:=C.hold;have g:a_ [.agg [.list c s0 (xs.map λa=>[a]),y],z]=[.agg [.list (bU c) s0 ((xs.map al).map λa=>[a]),al y],al z]:=by rw[a_,al,a_,a_,a_,al,yV];rfl
 have i:aA 0 0 0 [.agg [.list (bU c) s0 ((xs.map al).map λa=>[a]),al y],al z]=V:=by have v:=vh _ h2;rw[aA,au,aA,aA,aA,aA,au,eo,v,r,u];rfl
 obtain⟨D,h',j,-,⟨e,d,rfl⟩|⟨l,b,d,f,rfl,o⟩⟩:=ab9 ⟨[],[],0,[]⟩ (bU c) s0 (xs.map al) (al y) (al z) rows ac who p q s m
 .exact .inl ⟨e,d,bT (L:=L4) O g i j O O⟩
 .refine .inr ⟨l,d,f,bT (L:=L4) O g i j ?_ (by simp[au,aA,ju,oY])⟩;rw[dE,iF,zt o f];rfl
def aoy(x y)(rows)(c)(o:RL x rows)(p:IL y c)(l:F rows<=64)(m:∀r∈rows,F r=F c)(f:F c<=64)(d:∀r∈rows,∀x∈r,okF x)(e:∀x∈c,okF x):
 ∀h,W4.call 174 [x,y] h=J (.ret (.v (.int .i64 0)),h):=by
 obtain⟨g,h2⟩:=o.fk;obtain⟨i,j⟩:=p.hold;exact bT (L:=L4) (B:=[al x,al y]) O O (by simp[aA,h2,j]) (aox ⟨[],[],0,[]⟩ (al x) (al y) rows c g i l m f d e) O rfl
def IZ:Tryz.f105.results.toList=[.tmp 4]:=am
def ah3(h:Heap)(x:U)(l:List Int)(n:Int)(B:IL x l)(hl:F l<=1099511627776):∃r h',W4.call 105 [x,I n] h=J (r,h')/\h'=h/\r=.ret (.v (.bool (l.contains n))):=by
 obtain⟨k,H,rfl,j⟩:=B;have D:=ae.mk j;clear j;have R:=cU;have z3:=eX;have L:=cG l;unfold I;refine bL O Tryz.func105 O ?_;refine bh @IZ ?_;refine b_ (λN f y=>∃d:Nat,d<=F l/\N=F l-d/\ae ((l.take d).contains n=ah)/\f.get 0=.list k H (ints l)/\f.get 1=.v (.int .i64 n)/\f.get 5=.v (.int .i64 (d:Nat))/\f.defers=[]/\y=h) ?_ (F l) _ _ ?_;rotate_left 1
 .refine⟨0,bY _,O,⟨b8⟩,?_,?_,?_,?_,O⟩<;>exact gR
 rintro N f y ⟨d,hi,rfl,p,T,X,Y,Z,rfl⟩;by_cases c:d<F l
 .have m:H=1:=D.out (by intro E;rw[E]at c;simp at c);subst m;have ld:=eS (H:=y) (s:=1) c;have o:l[d]?=J (af l d):=by rw[aP c,gb c]
  have A:(d:Int)<(F l:Int):=by omega
  have v:=ae.mk o;clear o;by_cases e:af l d=n
  .have g:decide (af l d=n)=V:=(by simp[e]);have i:l.contains n=V:=(by rw[wz,bQ];rw[<-e];exact cT v.out);have C:=ae.mk i;clear i;have s:=ae.mk e;generalize af l d=z0 at *
   clear e
   repeat' (first|simp(maxSteps:=9999999) (disch:=first|exact dZ|fail) only[gW,reduceIte,aH,aC,IZ,aU, *]|refine dX ?_ ?_<;>(intro _;try omega))
   all_goals first|exact⟨_,_,O,O,by rw[C.out]⟩|exact absurd s.out (by assumption)
  .have g:decide (af l d=n)=ah:=(by simp[e]);have u:ae ((l.take (d+1)).contains n=ah):=⟨by
    have:=p.out;rw[gg v.out];rw[wz,decide_eq_false_iff_not]at *
    rw[CH,not_or];exact⟨this,by rw[ig];exactλE=>e E.symm⟩⟩
   repeat' (first|simp(maxSteps:=9999999) (disch:=first|exact dZ|fail) only[gW,reduceIte,aH,aC,IZ,aU, *]|refine dX ?_ ?_<;>(intro _;try omega))
   all_goals exact⟨F l-(d+1),by omega,d+1,by omega,O,u,by simp⟩
 .have:d=F l:=by omega
  subst this;have:=p.out;rw[fK]at this;have q:=ae.mk this;clear this;refine bh @IZ ?_;exact⟨_,_,O,O,by rw[q.out]⟩
def aqj:Tryz.f103.results.toList=[.tmp 2]:=am
def atu(h:Heap)(n:Nat)(e:0<n)(h2:n<=1000000):W4.call 103 [I (n:Nat)] h=J (.ret (.arr (F h.boxes) 0 n n),h.push ((fc n).map I)):=by
 have f:=vK h n h2 .i64 .i64;have c:bB n (I 0)=(bB n (0:Int)).map I:=by rw[xR]
 rw[c]at f;have g:=uJ (H:=h.push ((bB n (0:Int)).map I)) (b:=h.boxes.length) (r:=bB n (0:Int)) (k:=0) (x:=1) (aK _ _) (by rw[mw];exact e);have d:(bB n (0:Int)).set 0 1=fc n:=by obtain⟨i,rfl⟩:∃i,n=i+1:=⟨n-1,by omega⟩;unfold fc;rw[CJ];rfl
 rw[mg,d]at g;have ix:dK aa 23 (.arr (F h.boxes) 0 n n) (.v (.int .i64 0))=J (.ptr (.box (F h.boxes)) 0):=nZ (n:=0) (k:=.i64) e;clear c d;unfold I at *
 refine cr O Tryz.func103 O ?_;exact iL @aqj
def YE:Tryz.f104.results.toList=[.tmp 2]:=am
def afj(h:Heap)(x y:U)(rows:List (List Int))(ac:List Int)(s:RL x rows)(u:IL y ac):∃h',W4.call 104 [.agg [x,y]] h=J (.ret (.v (.int .i64 (cg rows:Nat))),h')/\h'=h.push [x,y]:=by
 obtain⟨k,q,e,rfl,l,i,j⟩:=s;have X:(U.agg [.list k q (e.map λa=>[a]),y]).bF=J [.list k q (e.map λa=>[a]),y]:=by obtain⟨Y,sy,rfl,-⟩:=u;rfl
 have Z:=ox (aK h [.list k q (e.map λa=>[a]),y]);have R:=cU;have N:=gy;have T:=hw;have A:F (e.map λa=>[a])=F rows:=by rw[br];exact i
 refine gI O Tryz.func104 O ?_;by_cases d:F rows=0
 .have r:(F rows:Int)=0:=by omega
  have f:cg rows=1:=by unfold cg;rw[av d]
  rw[f];clear d j l i f;refine cK @YE @bg @de ?_;exact⟨_,O,O⟩
 .have r:¬((F rows:Int)=0):=by omega
  obtain⟨a0,c⟩:∃a,e[0]?=J a:=⟨_,aP M⟩;obtain⟨o,g⟩:∃z2,rows[0]?=J z2:=⟨_,aP M⟩;have p:q=1:=l (by intro z1;rw[z1]at d;simp at d);subst p;have D:=iX (H:=h.push [.list k 1 (e.map λa=>[a]),y]) (s:=1) c;obtain⟨C,L,rfl,m⟩:=j 0 a0 o c g;have f:cg rows=F o:=by unfold cg;rw[aL d,eK,g];rfl
  rw[f];have B:=cG o;have v:(0:Int)<(F rows:Int):=by omega
  have z0:(0:Int).toNat=0:=rfl;clear d j l i f c g m;refine bA @YE @bg @de @aU ?_;exact⟨_,O,O⟩
def ru:Tryz.f43.results.toList=[.tmp 2]:=am
def amS(h:Heap)(x:U)(l:List Int)(hx:IL x l)(hl:F l<=9223372036854775807):∃r h',W4.call 43 [x] h=J (r,h')/\h'=h/\r=.ret (.v (.bool (dy (-1) l))):=by
 obtain⟨k,z0,rfl,N⟩:=hx;have ks:=ae.mk N;clear N;have u23:=cU;have z3:=eX;have eH:=cG l;refine bL O Tryz.func43 O ?_;refine bh @ru ?_;refine b_ (λz1 Y B=>∃(d:Nat) (c:Int),d<=F l/\z1=F l-d/\ae (dy c (l.drop d)=dy (-1) l)/\ -1<=c/\ae (d=0->c= -1)/\ae (0<d->af l (d-1)=c)/\Y.get 0=.list k z0 (ints l)/\Y.get 3=.v (.int .i64 (d:Nat))/\Y.defers=[]/\B=h) ?_ (F l) _ _ ?_;rotate_left 1
 .refine⟨0,-1,bY _,O,⟨O⟩,Cx _,⟨λ_=>rfl⟩,⟨λA=>absurd A (QR _)⟩,?_,?_,?_,O⟩<;>exact gR
 rintro z1 Y B ⟨d,c,hi,rfl,T,DT,k0,k1,g0,g3,hd,rfl⟩;by_cases g:d<F l;rotate_left 1
 .have:d=F l:=by omega
  subst this;have e:dy (-1) l=V:=by rw[<-T.out,nq (aV _)];rfl
  have m:=ae.mk e;clear e;refine bh @ru ?_;exact⟨_,_,O,O,by rw[m.out]⟩
 have R:z0=1:=ks.out (by intro A;rw[A]at g;simp at g);subst R;have ld:=eS (H:=B) (s:=1) g;have fO:(d:Int)<(F l:Int):=by omega
 have o:l.drop d=af l d::l.drop (d+1):=by rw[gb g];exact s_ g
 have s:=T.out;rw[o,dy]at s;have f:=ae.mk s;clear s o;by_cases i:af l d<0
 .have C:decide (af l d<0)=V:=by simp[i]
  have e:dy (-1) l=ah:=by rw[<-f.out];simp;omega
  have m:=ae.mk e;clear e i;refine bG @ru @aU ?_;refine du tG am ?_;refine bG @ru @aU ?_;exact⟨_,_,O,O,by rw[m.out]⟩
 have C:decide (af l d<0)=ah:=by simp[i]
 by_cases p:64<=af l d
 .have D:decide (64<=af l d)=V:=by simp[p]
  have e:dy (-1) l=ah:=by rw[<-f.out];simp;omega
  have m:=ae.mk e;clear e i p;refine bG @ru @aU ?_;refine du tG am ?_;refine bG @ru @aU ?_;exact⟨_,_,O,O,by rw[m.out]⟩
 have D:decide (64<=af l d)=ah:=by simp;omega
 by_cases H:d=0
 .subst H;have L:=k0.out O;have u:ae (dy (af l 0) (l.drop (0+1))=dy (-1) l):=⟨by rw[<-f.out,bQ (M:c<af l 0),bQ (M:af l 0<=63)];rfl⟩;have q: -1<=af l 0:=by omega
  have v:ae (0<0+1->af l (0+1-1)=af l 0):=⟨λ_=>rfl⟩;clear i p L f;refine bG @ru @aU ?_;refine du tG am ?_;refine bG @ru @aU ?_;exact⟨F l-1,by omega,0+1,af l 0,by omega,O,u,q,⟨λA=>absurd A M⟩,v,by simp⟩
 .have j:=k1.out M;have X:=eS (H:=B) (l:=l) (i:=d-1) (s:=1) M;rw[j]at X;have aiU:decide ((0:Int)<(d:Int))=V:=bQ M;have Nm:(d:Int)-1=((d-1:Nat):Int):=by omega
  have Z:((d-1:Nat):Int)<(F l:Int):=by omega
  by_cases y:af l d<=c
  .have E:decide (af l d<=c)=V:=(by simp[y]);have e:dy (-1) l=ah:=(by rw[<-f.out];simp;omega);have m:=ae.mk e;clear e i p y j;refine bG @ru @aU ?_;refine du tG am ?_;refine bG @ru @aU ?_;exact⟨_,_,O,O,by rw[m.out]⟩
  .have E:decide (af l d<=c)=ah:=(by simp;omega);have u:ae (dy (af l d) (l.drop (d+1))=dy (-1) l):=⟨by rw[<-f.out,bQ (M:c<af l d),bQ (M:af l d<=63)];rfl⟩;have q: -1<=af l d:=(by omega);have v:ae (0<d+1->af l (d+1-1)=af l d):=⟨λ_=>rfl⟩;clear i p y j f;refine bG @ru @aU ?_;refine du tG am ?_;refine bG @ru @aU ?_;exact⟨F l-(d+1),by omega,d+1,af l d,by omega,O,u,q,⟨λA=>absurd A M⟩,v,by simp⟩
section
variable {pr:aR->Option (List U->Heap->Option (U × Heap))}
def O9:Tryz.f208.results.toList=[.tmp 4]:=am
def ajq(v:pr 164=ag)(g:aR)(aS:List U)(p:Int->Bool)(h:Heap)(x:U)(l:List Int)(H:IL x l)(hl:l.length<=1000000)(u:∀n∈l,(whole aa Gt pr).call g (I n::aS) h=J (.ret (.v (.bool (p n))),h)):
 ∃r h',(whole Tryz.prog Gt pr).call 164 [x,.func (.func g) [] aS] h=some (r,h')/\h'=h/\∃i:Int,r=.ret (I i)/\decide (0<=i)=l.any p:=by
 obtain⟨k,X,rfl,y⟩:=H;have N:=ae.mk u;have R:=ae.mk y;clear u y;have u23:=cU;have z3:=eX;have Y:=cG l;refine bL v abC rfl ?_;refine bh @rm ?_;refine b_ (λZ q D=>∃i:Nat,i<=l.length/\Z=l.length - i/\(l.take i).any p=ah/\q.get 0=.list k X (ints l)/\q.get 1=.func (.func g) [] aS/\q.get 7=.v (.int .i64 (l.length:Nat))/\q.get 8=.v (.int .i64 (i:Nat))/\q.defers=[]/\D=h) ?_ l.length _ _ ?_;rotate_left 1
 .refine⟨0,bY _,rfl,by simp,?_,?_,?_,?_,?_,rfl⟩<;>exact gR
 rintro Z q D ⟨i,hi,rfl,s,g0,g1,g7,g8,hd,rfl⟩;have B:=ae.mk s;clear s;by_cases d:i<l.length
 .have A:X=1:=R.out (by intro z0;rw[z0] at d;simp at d);subst A;have ld:=eS (H:=D) (s:=1) d;have m:l[i]?=J (af l i):=by rw[aP d,gb d]
  have o:=N.out (af l i) (cT m);have E:(i:Int)<(l.length:Int):=by omega
  have e:(l.take (i+1)).any p=p (af l i):=by rw[gg m,J5,B.out];simp
  have T:=ae.mk e;have L:=ae.mk m;clear m e;unfold I at o;cases c:p (af l i) with
  |true=>rw[c] at o;have f:l.any p=V:=J6.2 ⟨_,cT L.out,c⟩;have j:=ae.mk f;clear f c;refine cK @rm @aU @ey.{0} ?_;exact⟨_,_,rfl,rfl,(i:Int),rfl,by rw[j.out];simp⟩
  |false=>rw[c] at o;have C:(l.take (i+1)).any p=ah:=T.out.trans c;clear c;refine cK @rm @aU @ey.{0} ?_;exact⟨l.length - (i+1),by omega,i+1,by omega,rfl,C,by simp⟩
 .have:i=l.length:=by omega
  subst this;have:=B.out;rw[fK] at this;have j:=ae.mk this;clear this;refine bh @rm ?_;exact⟨_,_,rfl,rfl,-1,rfl,by rw[j.out];rfl⟩
def Gk(d:pr 164=ag)(c:pr 91=ag)(g:aR)(aS:List U)(p:Int->Bool)(h:Heap)(x:U)(l:List Int)(m:IL x l)(j:F l<=1000000)(f:∀n∈l,(whole aa Gt pr).call g (I n::aS) h=J (.ret (.v (.bool (p n))),h)):
 (whole aa Gt pr).call 91 [x,.func (.func g) [] aS] h=J (.ret (.v (.bool (l.any p))),h):=by
 obtain⟨r,h',o,rfl,q,rfl,e⟩:=ajq d g aS p h x l m j f;have i:decide (0<=q)=l.any p:=e;unfold I at o;refine cr c abV O ?_;clear e f;exact iL @O6
def ata(q:pr 208=ag)(m:∀a b h,(whole aa Gt pr).call 80 [I a,I b] h=J (.ret (I (dx a b)),h))(g:aR)(aS:List U)(f:Nat->Int)(h:Heap)(x:U)(l:List Int)(C:IL x l)(hl:F l<=1000000)
 (p:∀i,i<F l->(whole aa Gt pr).call g (I (i:Nat)::I (af l i)::aS) h=J (.ret (I (f i)),h)):
 ∃h',(whole aa Gt pr).call 208 [x,.func (.func g) [] aS] h=J (.ret (I ((bZ (F l)).foldl (λx j=>dx x (f j)) 0)),h')/\h'=h:=by
 obtain⟨k,D,rfl,r⟩:=C;have u:=ae.mk (aj p r);clear p r;have N:=cU;have z3:=eX;have H:=cG l;unfold I;refine gI q Tryz.func208 O ?_;refine bh @O9 ?_;refine b_ (λL e o=>∃i:Nat,i<=F l/\L=F l-i/\e.get 1=.func (.func g) [] aS/\e.get 4=.v (.int .i64 ((bZ i).foldl (λx j=>dx x (f j)) 0))/\e.get 7=.list k D (ints l)/\e.get 8=.v (.int .i64 (F l:Nat))/\e.get 9=.v (.int .i64 (i:Nat))/\e.defers=[]/\o=h) ?_ (F l) _ _ ?_;rotate_left 1
 .refine⟨0,bY _,O,?_,?_,?_,?_,?_,?_,O⟩<;>exact gR
 rintro L e o ⟨i,hi,rfl,R,T,X,Y,Z,hd,rfl⟩;by_cases c:i<F l
 .have s:D=1:=u.out.2 (by intro z0;rw[z0]at c;simp at c);subst s;have ld:=eS (H:=o) (s:=1) c;have A:=u.out.1 i c;have y:=λz1=>m z1 (f i) o;have B:(i:Int)<(F l:Int):=by omega
  have d:dx ((bZ i).foldl (λx j=>dx x (f j)) 0) (f i)=(bZ (i+1)).foldl (λx j=>dx x (f j)) 0:=by rw[ku,oD];rfl
  have v:=ae.mk d;clear d;generalize (bZ i).foldl (λx j=>dx x (f j)) 0=E at *
  unfold I at A y;refine cK @O9 @aU @ey.{0} ?_;exact⟨F l-(i+1),by omega,i+1,by omega,O,by trivial,by rw[v.out],by simp⟩
 .have:i=F l:=by omega
  subst this;refine bh @O9 ?_;exact⟨_,O,O⟩
end
def YI:Tryz.f206.results.toList=[.tmp 2]:=am
def aqb:Tryz.f139.results.toList=[.tmp 2]:=am
def YC:Tryz.f140.results.toList=[.tmp 2]:=am
def aqc:Tryz.f142.results.toList=[.tmp 4]:=am
def aqp:Tryz.f209.results.toList=[.tmp 5]:=am
def aqs:Tryz.f218.results.toList=[.tmp 2]:=am
def IX:Tryz.f158.results.toList=[.tmp 4]:=am
def O7:Tryz.f159.results.toList=[.tmp 4]:=am
def aqI:Tryz.f82.results.toList=[.tmp 4]:=am
def aqL:Tryz.f68.results.toList=[.tmp 4]:=am
def ann(x n)(h):W4.call 82 [I x,I n] h=J (.ret (I (fj x n)),h):=by
 have c:=LW x n;unfold I at *
 refine cr O Tryz.func82 O ?_;exact iL @aqI
def ano(x n)(h):W4.call 68 [I x,I n] h=J (.ret (I (fj x n)),h):=by
 have c:=LW x n;unfold I at *
 refine cr O Tryz.func68 O ?_;exact iL @aqL
def al0(n):lu n= !cN n:=by
 unfold lu cN Qi;by_cases c:n<0
 .rw[bQ c,b7 (M:¬0<=n)];rfl
 .by_cases d:1073741789<=n
  .rw[b7 c,bQ d,bQ (M:0<=n),b7 (M:¬n<1073741789)];rfl
  .rw[b7 c,b7 d,bQ (M:0<=n),bQ (M:n<1073741789)];rfl
def alY(n)(h):W4.call 206 [I n] h=J (.ret (.v (.bool (lu n))),h):=by
 unfold I lu;by_cases c:n<0
 .refine cr O abG O ?_;have:decide (n<0)=V:=by simp[c]
  exact dV @YI @aap
 .refine cr O abG O ?_;have:decide (n<0)=ah:=by simp[c]
  exact dV @YI @FE
def KM(l:List Int):(!l.any lu)=l.all cN:=by
 induction l with
 |nil=>rfl|cons a l c=>rw[aaJ,CC,<-c,al0];simp
def Xl(x)(l)(c:IL x l)(d:F l<=1000000)(h):W4.call 139 [x] h=J (.ret (.v (.bool (l.all cN))),h):=by have f:=Gk (pr:=BP) O O 206 [] lu h x l c d (λn _=>alY n h);have e:(!l.any lu)=l.all cN:=KM l;refine cr O Tryz.func139 O ?_;clear c;exact iL @aqb
def S5(h:Heap)(x y:U)(rows:List (List Int))(ac:List Int)(s:RL x rows)(u:IL y ac):∃h',W4.call 140 [.agg [x,y]] h=J (.ret (.v (.int .i64 (cg rows:Nat))),h')/\h'=h.push [x,y]:=by
 obtain⟨k,q,e,rfl,l,i,j⟩:=s;have X:(U.agg [.list k q (e.map λa=>[a]),y]).bF=J [.list k q (e.map λa=>[a]),y]:=by obtain⟨Y,sy,rfl,-⟩:=u;rfl
 have Z:=ox (aK h [.list k q (e.map λa=>[a]),y]);have R:=cU;have N:=gy;have T:=hw;have A:F (e.map λa=>[a])=F rows:=by rw[br];exact i
 refine gI O Tryz.func140 O ?_;by_cases d:F rows=0
 .have r:(F rows:Int)=0:=by omega
  have f:cg rows=1:=by unfold cg;rw[av d]
  rw[f];clear d j l i f;refine cK @YC @bg @de ?_;exact⟨_,O,O⟩
 .have r:¬((F rows:Int)=0):=by omega
  obtain⟨a0,c⟩:∃a,e[0]?=J a:=⟨_,aP M⟩;obtain⟨o,g⟩:∃z2,rows[0]?=J z2:=⟨_,aP M⟩;have p:q=1:=l (by intro z1;rw[z1]at d;simp at d);subst p;have D:=iX (H:=h.push [.list k 1 (e.map λa=>[a]),y]) (s:=1) c;obtain⟨C,L,rfl,m⟩:=j 0 a0 o c g;have f:cg rows=F o:=by unfold cg;rw[aL d,eK,g];rfl
  rw[f];have B:=cG o;have v:(0:Int)<(F rows:Int):=by omega
  have z0:(0:Int).toNat=0:=rfl;clear d j l i f c g m;refine bA @YC @bg @de @aU ?_;exact⟨_,O,O⟩
def atM(h:Heap)(b i:Nat)(n:Int)(y:U)(l:List Int)(c:h.boxes[b]?=J [y])(f:IL y l)(hi:i<F l):W4.call 209 [I (i:Nat),I n,.ptr (.box b) 0] h=J (.ret (I (cS n (af l i))),h):=by
 obtain⟨k,m,rfl,d⟩:=f;have e:m=1:=d (by intro r;rw[r]at hi;simp at hi);subst e;have p:=vD c;have q:=eS (H:=h) (s:=1) hi;have o:=cU;have s:=eX;have j:=cG l;have g:(i:Int)<(F l:Int):=by omega
 have u:=WX n (af l i);unfold I at *
 clear d c;refine cr O Tryz.func209 O ?_;exact dV @aqp @aU
def atK(h:Heap)(x y:U)(a b:List Int)(d:IL x a)(c:IL y b)(f:F a<=1000000)(i:F a<=F b):∃h',W4.call 142 [x,y] h=J (.ret (I (wQ a b)),h')/\h'=h.push [y]:=by
 obtain⟨_,l,rfl⟩:=ata (pr:=BP) O (λa b h=>Rq a b h) 209 [.ptr (.box (F h.boxes)) 0] (λe=>cS (af a e) (af b e)) (h.push [y]) x a d f (λe o=>atM (h.push [y]) (F h.boxes) e (af a e) y b (aK _ _) c M);have m:y.bF=J [y]:=by obtain⟨k,p,rfl,-⟩:=c;rfl
 have g:(bZ (F a)).foldl (λx j=>dx x (cS (af a j) (af b j))) 0=wQ a b:=rfl;rw[g]at l;unfold I at *
 clear d c g;refine gI O Tryz.func142 O ?_;refine bG @aqc @bg ?_;exact⟨_,O,O⟩
def auh(n)(h):W4.call 218 [I n] h=J (.ret (.v (.bool (!bX n))),h):=by
 have c:=Z6 n;unfold I at *
 refine cr O Tryz.func218 O ?_;exact iL @aqs
def RC(p)(l:List Int):(l.any λn=> !p n)= !l.all p:=by
 induction l with
 |nil=>rfl|cons a l c=>rw[aaJ,CC,c];simp
def mh:Tryz.f40.results.toList=[.tmp 2]:=am
def aoc(h:Heap)(x y:U)(rows:List (List Int))(ac:List Int)(hx:RL x rows)(E:IL y ac)(l_:F rows<=1000000):
 ∃r h',W4.call 40 [.agg [x,y]] h=J (r,h')/\h'=h.push [x,y]/\r=.ret (.v (.int .i64 (cH rows ac))):=by
 obtain⟨k,z1,C,rfl,hs,fh,ng⟩:=hx;obtain⟨ky,sy,rfl,jY⟩:=E;have kk:=ae.mk (aj hs (aj ng jY));clear hs ng jY;have u23:=cU;have u22:=gy;have z23:=hw;have z3:=eX;have eH:F (C.map λa=>[a])=F rows:=by rw[br];exact fh
 have MT:=cG ac;have b0:(h.push [.list k z1 (C.map λa=>[a]),.list ky sy (ints ac)]).boxes[h.boxes.length]?=J [.list k z1 (C.map λa=>[a]),.list ky sy (ints ac)]:=aK _ _;have l0:=ox b0;have l1:=xv b0;have bx:(U.agg [.list k z1 (C.map λa=>[a]),.list ky sy (ints ac)]).bF=J [.list k z1 (C.map λa=>[a]),.list ky sy (ints ac)]:=rfl;clear b0;have k1:ae (64<F rows->cH rows ac=2):=⟨λq=>by unfold cH;rw[av (by simp[q])]⟩;have k2:ae (∀(c:Nat) r,rows[c]?=J r->64<F r->cH rows ac=2):=⟨λc r hr q=>by unfold cH;rw[av];rw[Bool.or_eq_true];exact .inr (J6.2 ⟨r,cT hr,by simp[q]⟩)⟩;have k3:ae (F rows<=64->(rows.any λr=>decide (64<F r))=ah->F rows≠F ac->cH rows ac=230):=⟨λq1 q2 q3=>by unfold cH;rw[aL (by rw[q2];simp;omega),av q3]⟩;have k4:ae (F rows<=64->(rows.any λr=>decide (64<F r))=ah->F rows=F ac->cH rows ac=if ((bZ (F rows)).all (qa rows ac))=V then (0:Int) else 230):=⟨λq1 q2 q3=>by unfold cH;rw[aL (by rw[q2];simp;omega),aL (by simpa using q3)];rfl⟩;generalize cH rows ac=res at *
 obtain⟨z2,hH⟩:∃z2,h.push [.list k z1 (C.map λa=>[a]),.list ky sy (ints ac)]=z2:=⟨_,O⟩;rw[hH]at l0 l1;rw[hH];refine bL O Tryz.func40 O ?_;by_cases h1:64<F rows
 .have hq:((64:Int)<(F rows:Int)):=by omega
  have kr:=ae.mk (k1.out h1);clear h1;refine bA @mh @de @dW (aj @bg @hH) ?_;exact⟨_,_,O,O,by rw[kr.out]⟩
 have hq:¬((64:Int)<(F rows:Int)):=by omega
 have GR:F rows<=64:=by omega
 refine bA @mh @de @dW (aj @bg @hH) ?_;refine bC.gen λo d m L N=>?_;have f1:o.get 1=.ptr (.box (F h.boxes)) 0:=by rw[d];exact gS
 have f3:o.get 3=.v (.int .i64 (0:Nat)):=by rw[d];exact gR
 have D:o.defers=[]:=by rw[m];exact gS
 clear d m L N bx hq h1 hH;refine b_ (λz5 T H2=>∃c:Nat,c<=F rows/\z5=F rows-c/\ae (((rows.take c).any λr=>decide (64<F r))=ah)/\T.get 1=.ptr (.box (F h.boxes)) 0/\T.get 3=.v (.int .i64 (c:Nat))/\T.defers=[]/\H2=z2) ?_ (F rows) _ _ ?_;rotate_left 1
 .exact⟨0,bY _,O,⟨b8⟩,f1,f3,D,O⟩
 clear f1 f3 D;rintro z5 T z2 ⟨c,hi,rfl,kt,H,g3,hd,rfl⟩;by_cases g:c<F rows
 .have ev:z1=1:=kk.out.1 (by intro q;rw[q]at g;simp at g);subst ev;obtain⟨a,j⟩:∃a,C[c]?=J a:=⟨_,aP M⟩;obtain⟨r,v⟩:∃r,rows[c]?=J r:=⟨_,aP g⟩;have ld:=iX (H:=z2) (s:=1) j;obtain⟨ka,sa,rfl,R⟩:=kk.out.2.1 c a r j v;have Bb:=cG r;have fO:(c:Int)<(F rows:Int):=by omega
  by_cases hb:64<F r
  .have hbI:((64:Int)<(F r:Int)):=(by omega);have kr:=ae.mk (k2.out c r v hb);clear j v R hb;refine bA @mh @de @dW @aU ?_;exact⟨_,_,O,O,by rw[kr.out]⟩
  .have hbI:¬((64:Int)<(F r:Int)):=(by omega);have kt2:ae (((rows.take (c+1)).any λr=>decide (64<F r))=ah):=⟨by rw[gg v,J5,kt.out];simp;omega⟩;clear j v R hb;refine bA @mh @de @dW @aU ?_;exact⟨F rows-(c+1),by omega,c+1,by omega,O,kt2,by simp⟩
 have gr:c=F rows:=by omega
 subst gr;have Y:=kt.out;rw[fK]at Y;have kany:=ae.mk Y;clear Y kt hi;by_cases h3:F rows=F ac;rotate_left 1
 .have kr:=ae.mk (k3.out GR kany.out h3);have hn:¬((F rows:Int)=(F ac:Int)):=by omega
  clear h3;refine cK @mh @de @dW ?_;exact⟨_,_,O,O,by rw[kr.out]⟩
 have kres:=ae.mk (k4.out GR kany.out h3);have f:=ae.mk h3;have hn:(F ac:Int)=(F rows:Int):=by omega
 clear h3;refine cK @mh @de @dW ?_;refine bC.gen λo d m L N=>?_;have f1:o.get 1=.ptr (.box (F h.boxes)) 0:=by rw[d];simp only[gW,reduceIte,aH,aC];exact H
 have f4:o.get 4=.v (.int .i64 (0:Nat)):=by rw[d];exact gR
 have D:o.defers=[]:=by rw[m];simp only[gW,reduceIte,aH,aC];exact hd
 clear d m L N H g3 hd g;refine b_ (λz5 T H2=>∃c:Nat,c<=F rows/\z5=F rows-c/\ae (∀e,e<c->qa rows ac e=V)/\T.get 1=.ptr (.box (F h.boxes)) 0/\T.get 4=.v (.int .i64 (c:Nat))/\T.defers=[]/\H2=z2) ?_ (F rows) _ _ ?_;rotate_left 1
 .exact⟨0,bY _,O,⟨λe hj=>absurd hj (nt _)⟩,f1,f4,D,O⟩
 clear f1 f4 D;rintro z5 T H3 ⟨c,hi,rfl,kf,H,g4,hd,rfl⟩;by_cases g:c<F rows;rotate_left 1
 .have gr:c=F rows:=by omega
  subst gr;have k0:ae (res=0):=⟨by rw[kres.out,av];rw[eJ];intro e hj;exact kf.out e (ie.1 hj)⟩;refine cK @mh @de @dW ?_;exact⟨_,_,O,O,by rw[k0.out]⟩
 have ev:z1=1:=kk.out.1 (by intro q;rw[q]at g;simp at g);subst ev;have vw:sy=1:=kk.out.2.2 (by intro q;have h0:=f.out;rw[q,f_]at h0;omega);subst vw;obtain⟨a,j⟩:∃a,C[c]?=J a:=⟨_,aP M⟩;obtain⟨r,v⟩:∃r,rows[c]?=J r:=⟨_,aP g⟩;obtain⟨a0,Z⟩:∃a,C[0]?=J a:=⟨_,aP M⟩;obtain⟨r0,qo⟩:∃r,rows[0]?=J r:=⟨_,aP M⟩;have ld:=iX (H:=H3) (s:=1) j;have ld0:=iX (H:=H3) (s:=1) Z;obtain⟨ka,sa,rfl,R⟩:=kk.out.2.1 c a r j v;obtain⟨ka0,sa0,rfl,Ed⟩:=kk.out.2.1 0 a0 r0 Z qo;have avH:=cG r;have aiY:=cG r0;have ldo:=eS (H:=H3) (l:=ac) (i:=c) (s:=1) (by have:=f.out;omega);have DP:qa rows ac c=(!r.isEmpty&&decide (F r=F r0)&&sg (af ac c)&&r.all cN):=by
  unfold qa sg;have H:rows.getD c []=r:=by rw[eK,v];rfl
  have g2:rows.getD 0 []=r0:=by rw[eK,qo];rfl
  rw[H,g2]
 have u:=ae.mk DP;have i:ae (qa rows ac c=ah->res=230):=⟨by intro q;rw[kres.out,aL];intro z;rw[eJ]at z;have:=z c (ie.2 g);rw[q]at this;cases this⟩;have fO:(c:Int)<(F rows:Int):=by omega
 have Dp:(0:Int)<(F rows:Int):=by omega
 have z0:(0:Int).toNat=0:=rfl;have ks:=ae.mk R;have UF:F r<=64:=by have q:=kany.out;rw[QD]at q;have:=q r (cT v);simpa using this
 clear DP j v R Z qo Ed;generalize af ac c=z4 at *
 by_cases e1:F r=0
 .have ui:decide ((F r:Int)<1)=V:=bQ M;have s:ae (res=230):=⟨i.out (by rw[u.out,aaW.1 e1];rfl)⟩;clear e1;refine bA @mh @de @dW @aU ?_;refine du tG am ?_;refine bA @mh @de @dW @aU ?_;exact⟨_,_,O,O,by rw[s.out]⟩
 have ui:decide ((F r:Int)<1)=ah:=b7 M;have A:r.isEmpty=ah:=by cases r with|nil=>exact absurd O e1|cons _ _=>rfl
 clear e1;by_cases e2:F r=F r0;rotate_left 1
 .have vt:decide ((F r:Int)=(F r0:Int))=ah:=b7 M;have s:ae (res=230):=⟨i.out (by rw[u.out,A,b7 e2];rfl)⟩;clear e2 A;refine bA @mh @de @dW @aU ?_;refine du tG am ?_;refine bA @mh @de @dW @aU ?_;exact⟨_,_,O,O,by rw[s.out]⟩
 have vt:decide ((F r:Int)=(F r0:Int))=V:=bQ M;have ke2:=ae.mk e2;clear e2;by_cases e3:z4<0
 .have Vq:decide (z4<0)=V:=bQ e3;have s:ae (res=230):=⟨i.out (by rw[u.out];unfold sg;rw[b7 (M:¬0<=z4)];simp)⟩;clear e3 A;refine bA @mh @de @dW @aU ?_;refine du tG am ?_;refine bA @mh @de @dW @aU ?_;exact⟨_,_,O,O,by rw[s.out]⟩
 have Vq:decide (z4<0)=ah:=b7 e3;by_cases e4:64<=z4
 .have Vr:decide (64<=z4)=V:=bQ e4;have s:ae (res=230):=⟨i.out (by rw[u.out];unfold sg;rw[b7 (M:¬z4<=63)];simp)⟩;clear e3 e4 A;refine bA @mh @de @dW @aU ?_;refine du tG am ?_;refine bA @mh @de @dW @aU ?_;exact⟨_,_,O,O,by rw[s.out]⟩
 have Vr:decide (64<=z4)=ah:=b7 e4;have B:ae (qa rows ac c=r.all cN):=⟨by rw[u.out,A,bQ ke2.out];unfold sg;rw[bQ (M:0<=z4),bQ (M:z4<=63)];rfl⟩;clear e3 e4 A;refine bA @mh @de @dW @aU ?_;refine du tG am ?_;refine bA @mh @de @dW @aU ?_;refine bC.gen λo d m L N=>?_;have f1:o.get 1=.ptr (.box (F h.boxes)) 0:=by rw[d];simp only[gW,reduceIte,aH,aC];exact H
 have f4:o.get 4=.v (.int .i64 (c:Nat)):=by rw[d];simp only[gW,reduceIte,aH,aC];exact g4
 have f5:o.get 5=.v (.int .i64 (0:Nat)):=by rw[d];exact gR
 have D:o.defers=[]:=by rw[m];simp only[gW,reduceIte,aH,aC];exact hd
 clear d m L N H g4 hd;refine b_ (λz5 T H2=>∃e:Nat,e<=F r/\z5=F r-e/\ae ((r.take e).all cN=V)/\T.get 1=.ptr (.box (F h.boxes)) 0/\T.get 4=.v (.int .i64 (c:Nat))/\T.get 5=.v (.int .i64 (e:Nat))/\T.defers=[]/\H2=H3) ?_ (F r) _ _ ?_;rotate_left 1
 .exact⟨0,bY _,O,⟨b8⟩,f1,f4,f5,D,O⟩
 clear f1 f4 f5 D ui vt Vq Vr ldo ld0;rintro z5 T H4 ⟨e,hj,rfl,ka4,H,g4,g5,hd,rfl⟩;by_cases p:e<F r
 .have HA:sa=1:=ks.out (by intro q;rw[q]at p;simp at p);subst HA;have ldx:=eS (H:=H4) (s:=1) p;have xn:r[e]?=J (af r e):=by rw[aP p,gb p]
  have U_:(e:Int)<(F r:Int):=by omega
  have VF:(r.take (e+1)).all cN=cN (af r e):=by rw[gg xn,sZ,ka4.out];simp
  have kt5:=ae.mk (aj VF (cT xn));have Vs:cN (af r e)=(decide (0<=af r e)&&decide (af r e<1073741789)):=rfl;have kqq:=ae.mk Vs;clear xn VF Vs;generalize af r e=n at *
  by_cases d1:n<0
  .have ii:decide (n<0)=V:=bQ d1;have s:ae (res=230):=⟨i.out (by rw[B.out,J4];exact⟨n,kt5.out.2,by rw[kqq.out,b7 (M:¬0<=n)];simp⟩)⟩;clear d1;refine bA @mh @de @dW @aU ?_;exact⟨_,_,O,O,by rw[s.out]⟩
  have ii:decide (n<0)=ah:=b7 d1;by_cases d2:1073741789<=n
  .have jw:decide (1073741789<=n)=V:=bQ d2;have s:ae (res=230):=⟨i.out (by rw[B.out,J4];exact⟨n,kt5.out.2,by rw[kqq.out,b7 (M:¬n<1073741789)];simp⟩)⟩;clear d1 d2;refine bA @mh @de @dW @aU ?_;exact⟨_,_,O,O,by rw[s.out]⟩
  have jw:decide (1073741789<=n)=ah:=b7 d2;have kt2:ae ((r.take (e+1)).all cN=V):=⟨by rw[kt5.out.1,kqq.out,bQ (M:0<=n),bQ (M:n<1073741789)];rfl⟩;clear d1 d2;refine bA @mh @de @dW @aU ?_;exact⟨F r-(e+1),by omega,e+1,by omega,O,kt2,by simp⟩
 .have ql:e=F r:=by omega
  subst ql;have X:=ka4.out;rw[fK]at X;have kf2:ae (∀e,e<c+1->qa rows ac e=V):=⟨λe hj=>by
   rcases Nat.lt_succ_iff_lt_or_eq.1 hj with q|q
   .exact kf.out e q
   .rw[q,B.out];exact X⟩
  clear X;refine bA @mh @de @dW @aU ?_;exact⟨F rows-(c+1),by omega,c+1,by omega,O,kf2,by simp⟩
end Go.Proofs.YtcbhpkjbiehcpaaGreatDoor
end
section
namespace Go.AE
open Go.RowKit (Below)
def nI(z:Nat)(cs:List U)(off len:Nat):List (List U):=(bZ len).map λc=>(cs.drop (off+c*z)).take z
def vY(z)(cs)(off):∀len,(nI z cs off len).flatten=(cs.drop off).take (len*z)
 |0=>by simp[nI]
 |n+1=>by
  have c:=vY z cs off n;unfold nI at *
  rw[ku,jQ,oC,c,Nat.add_mul,Nat.one_mul,List.take_add,List.drop_drop];simp
def OZ(z)(cs)(off len):F (nI z cs off len)=len:=by unfold nI;simp
def O0{z}{cs}{off len}(h:off+len*z<=F cs):∀r∈nI z cs off len,F r=z:=by
 intro r d;unfold nI at d;obtain⟨e,c,rfl⟩:=jg.1 d;have c:=ie.1 c;have:(e+1)*z<=len*z:=Nat.mul_le_mul_right _ c
 grind
mutual
def gY(z:Nat)(h:Heap):U->U
 | .list k g f=>.list (bU k) g (nU z h f)
 | .arr b c len e=>match h.boxes[b]? with
  |some d=>if c+len*z<=F d/\0<z then .list .held z (dm (nI z d c len)) else .arr b c len e
  |none=>.arr b c len e
 | .tuple d=>.tuple (iD z h d)
 | .agg d=>.agg (iD z h d)
 | .iface t x=>.iface t (gY z h x)
 |x=>x
def iD(z:Nat)(h:Heap):List U->List U
 | []=>[]
 |x::c=>gY z h x::iD z h c
def nU(z:Nat)(h:Heap):List (List U)->List (List U)
 | []=>[]
 |r::c=>iD z h r::nU z h c
end
section
variable {z:Nat} {h:Heap}
def TO:∀a b:List U,iD z h (a++b)=iD z h a++iD z h b
 | [],b=>rfl
 |x::a,b=>by rw[ey,iD,TO a b,iD,ey]
def GI:∀es:List (List U),(nU z h es).flatten=iD z h es.flatten
 | []=>rfl
 |r::es=>by rw[nU,jP,jP,TO,GI es]
def TQ:∀a:List U,F (iD z h a)=F a
 | []=>rfl
 |x::a=>by rw[iD,ef,TQ a,ef]
def TS:∀a:List (List U),F (nU z h a)=F a
 | []=>rfl
 |x::a=>by rw[nU,ef,TS a,ef]
def TT{sz:Nat}:∀{es:List (List U)},(∀r∈es,F r=sz)->∀r∈nU z h es,F r=sz
 | [],_,r,c=>by cases c
 |a::es,d,r,c=>by
  rw[nU]at c;rcases gU.1 c with rfl|c
  .rw[TQ];simp_all
  .exact TT (λr c=>d r (gx _ c)) r c
def ag7(x:U):(gY z h x).cW=x.cW:=by
 cases x with
 |arr b d len c=>
  rw[gY];split
  .split<;>rfl
  .rfl
 |_=>rfl
def TP:∀a:List U,(iD z h a).all U.cW=a.all U.cW
 | []=>rfl
 |x::a=>by rw[iD,CC,ag7,TP a,CC]
end
section
variable {P:Program} {G:Nat->Option (List U)} {ok:aR->Nat->Code->Bool} {w0 w w':World} {K:aW} {h:Heap} {z:Nat}
def aW.still(K:aW)(w:World):aW:={K with base:=w.heap.size,β:=[],γ:=[],tn:=0,md:=[],ic:=λc d=>w.cell? ⟨c,d,ag⟩}
def Fk(s:bK K G ok w0 h w):∀g j c,K.ic g j=J c->(K.still w).ic g j=J c:=s.ic
mutual
def aQ.kZ(s:bK K G ok w0 h w):∀{x:U} {c:Value},aQ K x c->au 0 0 0 (gY z h x)=V->aQ (K.still w) (gY z h x) c
 |_,_,.bad c,_=>.bad c
 |_,_,.v x R,_=>.v x R
 |_,_,.nil l,_=>.nil l
 |_,_,.fZ l a,_=>.fZ l a
 |_,_,.list k l D o f z0 g cells hn E j L C H,d=>by
  simp only[gY,au,bm]at d;have i:=aI.kZ s j (by rw[<-GI,ot];grind);rw[<-GI]at i;have A:z0=F (nU z h D):=by rw[TS];exact hn
  have u:(nU z h D).flatten.all U.cW=V:=by rw[GI,TP];exact H
  have B:=TT (z:=z) (h:=h) E;have v:=λX c q=>s.ic _ _ _ (L X c q);cases k with|nil=>exact C.2.elim|tight=>exact .list .tight l _ o f z0 g cells A B i v ⟨C.1,C.2⟩ u|free z1=>exact .list .held l _ o f z0 g cells A B i v ⟨C.1,aX⟩ u|held=>exact .list .held l _ o f z0 g cells A B i v ⟨C.1,aX⟩ u
 |_,_,.arr b o f len g e r Y hl pH ho E,d=>by
  simp only[gY]at d ⊢;cases y:h.boxes[b]? with
  |none=>rw[y]at d;simp[au]at d|some m=>
   rw[y]at d;simp only at d ⊢;split at d
   .rename_i p;rw[av p];obtain⟨p,hz⟩:=p;obtain⟨q1,q2,q3,cells,z4,q4,q5⟩:=s.box b o m Y y;have U8:=q5.le;by_cases h0:g=0
    .have:len=0:=(by omega);subst this;exact .list .held z [] o e 0 r [] O (λ_ h=>by cases h) .nil (λ_ _ h=>by grind) ⟨bY _,aX⟩ O
    .have N:e=f:=(by simp_all);subst N;have j:aI K ((m.drop e).take (len*z)) (((cells.toList.take (F m)).drop e).take (len*z)):=(q5.1.drop e).take (len*z);have i:=aI.iC (K2:=K.still w) (Fk s) (aI.hold j) (by simp only[au,bm]at d;have:=d.2;rw[<-ot,A9,vY]at this;omega);rw[<-vY,<-A9]at i;refine .list .held z _ o e len r (((cells.toList.take (F m)).drop e).take (len*z)) (by rw[DZ,OZ]) (Hn (O0 p)) i (λX c q=>?_) ⟨M,aX⟩ ?_
     .have Z:X<len*z:=(by have:=(aT.1 q).1;rw[cR]at this;omega);rw[mM,av Z,o0,mM,av M]at q;show w.cell? ⟨o,e+X,ag⟩=J c;rw[cell_of q4];simp_all
     .rw[A9,MU,vY]
      grind
   .simp[au]at d
 |_,_,.agg m T j,d=>.agg _ T (aI.kZ s j (by simpa only[gY,au] using d))
 |_,_,.tuple m T j,d=>.tuple _ T (aI.kZ s j (by simpa only[gY,au] using d))
 |_,_,.box b o f Y,d=>by simp[gY,au]at d
 |_,_,.dA o f,_=>.dA o f
 |_,_,.elem l D z1 f o z2 z3 cells E j L hi hp H,d=>.elem l D z1 f o z2 z3 cells E (aI.iC (Fk s) j (by rw[ot];simpa only[gY,au] using d)) (λX c q=>s.ic _ _ _ (L X c q)) hi hp H
 |_,_,.func fn first g fs m h1 h2,d=>by simp only[gY,au,bm]at d;exact .func fn first g fs m (aI.iC (Fk s) h1 d.1) (aI.iC (Fk s) h2 d.2)
 |_,_,.yield z5 o hl,d=>by simp[gY,au]at d
 |_,_,.iface t x c R,d=>by simp only[gY,au]at d;exact .iface t _ c (aQ.kZ s R d)
def aI.kZ(s:bK K G ok w0 h w):∀{xs:List U} {cs:List Value},aI K xs cs->aA 0 0 0 (iD z h xs)=V->aI (K.still w) (iD z h xs) cs
 |_,_,.nil,_=>.nil
 |_,_,.cons x f xs cs e d,c=>by simp only[iD,aA,bm]at c;exact .cons _ f _ cs (aQ.kZ s e c.1) (aI.kZ s d c.2)
end
def bK.still(s:bK K G ok w0 h w)(i:∀g cs,G g=J cs->aA 0 0 0 cs=V):bK (K.still w) G ok w ⟨[],[],0,[]⟩ w:=by
 refine⟨Below.refl _ _,aV _,λg r q j=>j,λg cs e=>?_,O,λb f g c=>by simp[aW.still]at c,λb g cs c=>by simp_all,O,λb f g c=>by simp[aW.still]at c,λA g v u=>by simp_all,O,λt d=>?_,λt y d=>?_,λv m=>by simp[aW.still]at m,O⟩
 .obtain⟨cells,o,p⟩:=s.dA g cs e;exact⟨cells,aI.iC (K1:=K) (K2:=K.still w) (Fk s) o (i g cs e),λr q l=>s.ic _ _ _ (p r q l)⟩
 .simp[alive]at d
 .simp[alive]at d
def GH(z:Nat)(R:Rec)(g:aR)(args:List U)(h:Heap):Option (U × Heap):=
 if aA 0 0 0 (iD z h args)=V then
  match R.call g (iD z h args) ⟨[],[],0,[]⟩ with
  |some (.ret (.v c),_)=>J (.v c,h)
  |_=>ag
 else ag
def ag8{aJ:aR->Option (List U->Heap->Option (U × Heap))}(H:Prog P)(B:∀g cs,G g=J cs->aA 0 0 0 cs=V)(d:∀u g p,aJ g=J p->kJ P G u g p){g:aR}(j:∃fn,P.funcs[g]?=J fn/\fn.body.isSome=V)(u:World):
 kJ P G u g (GH z (whole P G aJ) g):=by
 refine⟨j,λy h x h' c K w f L e cs=>?_⟩;unfold GH at c;split at c
 .rename_i E;split at c
  .rename_i Y h2 D;injection c with c;injection c with r s;subst r;subst s;obtain⟨-,i⟩:=(Fy H (d w)).call g _ _ _ _ D;have N:=bK.still e B;obtain⟨T,w',A,le,R,o,l,v,q,m⟩:=i (K.still w) w f (aI.kZ e L E) N cs;have C:Below w.heap.size w w':=(by have:=R.fL;rwa [le.base]at this);refine⟨.returned v,w',A,⟨v,_,O,aW.Et e,?_,bK.j' e C⟩,o,l,m⟩;cases q with|v _ X=>exact .v _ X
  grind
 grind
def xw(z:Nat)(R:Rec)(L c:List aR)(g:aR):Option (List U->Heap->Option (U × Heap)):=if L.contains g=V then J (wL R g) else if c.contains g=V then J (GH z R g) else ag
def alx{aJ:aR->Option (List U->Heap->Option (U × Heap))}(i:Prog P)(f:∀g cs,G g=J cs->aA 0 0 0 cs=V)(d:∀e g p,aJ g=J p->kJ P G e g p){L o:List aR}(j:∀g∈L,∃fn,P.funcs[g]?=J fn/\fn.body.isSome=V)(l:∀g∈o,∃fn,P.funcs[g]?=J fn/\fn.body.isSome=V):
 ∀e g p,xw z (whole P G aJ) L o g=some p->kJ P G e g p:=by
 intro e g p c;unfold xw at c;split at c
 .rename_i m;injection c with c;subst c;exact Ld i f d (j g (by simp_all)) e
 .split at c
  .rename_i m;injection c with c;subst c;exact ag8 i f d (l g (by simp_all)) e
  grind
def gE{R:Rec}{L m:List aR}{g:aR}{args B:List U}{x y:U}{c:Heap}(i:L.contains g=V)(d:a_ args=B)(f:aA 0 0 0 B=V)(e:R.call g B ⟨[],[],0,[]⟩=J (.ret y,c))(l:dE c y=x)(j:au 0 0 0 x=V):
 ∀h,(whole P G (xw z R L m)).call g args h=J (.ret x,h):=by
 intro h;subst d;subst l;rw[rD];unfold k_ xw;rw[av i];simp only[wL,uq,av f,e,av j,fF]
def ag6{R:Rec}{L j:List aR}{g:aR}{args B:List U}{y:Value}{h c:Heap}(l:L.contains g=ah)(i:j.contains g=V)(d:iD z h args=B)(f:aA 0 0 0 B=V)(e:R.call g B ⟨[],[],0,[]⟩=J (.ret (.v y),c)):
 (whole P G (xw z R L j)).call g args h=J (.ret (.v y),h):=by
 subst d;rw[rD];unfold k_ xw;rw[aL (by simp_all),av i];simp only[GH,av f,e];rfl
end
end Go.AE
end
section
namespace Go.Proofs.YtcbhpkjbiehcpaaGreatDoor
open Go.AE Go.NT
def YS:Tryz.f134.results.toList=[.tmp 2]:=am
def afl(h:Heap)(x y:U)(rows:List (List Int))(ac:List Int)(s:RL x rows)(u:IL y ac):∃h',W4.call 134 [.agg [x,y]] h=J (.ret (.v (.int .i64 (cg rows:Nat))),h')/\h'=h.push [x,y]:=by
 obtain⟨k,q,e,rfl,l,i,j⟩:=s;have X:(U.agg [.list k q (e.map λa=>[a]),y]).bF=J [.list k q (e.map λa=>[a]),y]:=by obtain⟨Y,sy,rfl,-⟩:=u;rfl
 have Z:=ox (aK h [.list k q (e.map λa=>[a]),y]);have R:=cU;have N:=gy;have T:=hw;have A:F (e.map λa=>[a])=F rows:=by rw[br];exact i
 refine gI O Tryz.func134 O ?_;by_cases d:F rows=0
 .have r:(F rows:Int)=0:=by omega
  have f:cg rows=1:=by unfold cg;rw[av d]
  rw[f];clear d j l i f;refine cK @YS @bg @de ?_;exact⟨_,O,O⟩
 .have r:¬((F rows:Int)=0):=by omega
  obtain⟨a0,c⟩:∃a,e[0]?=J a:=⟨_,aP M⟩;obtain⟨o,g⟩:∃z2,rows[0]?=J z2:=⟨_,aP M⟩;have p:q=1:=l (by intro z1;rw[z1]at d;simp at d);subst p;have D:=iX (H:=h.push [.list k 1 (e.map λa=>[a]),y]) (s:=1) c;obtain⟨C,L,rfl,m⟩:=j 0 a0 o c g;have f:cg rows=F o:=by unfold cg;rw[aL d,eK,g];rfl
  rw[f];have B:=cG o;have v:(0:Int)<(F rows:Int):=by omega
  have z0:(0:Int).toNat=0:=rfl;clear d j l i f c g m;refine bA @YS @bg @de @aU ?_;exact⟨_,O,O⟩
def SP(x y)(rows)(ac)(f:RL x rows)(g:IL y ac):∀h,W4.call 35 [.agg [x,y]] h=J (.ret (.v (.int .i64 (cH rows ac))),h):=by obtain⟨c,h2⟩:=f.fk;obtain⟨d,e⟩:=g.hold;exact bT (L:=L4) (B:=[.agg [al x,al y]]) O O (by simp[aA,au,h2,e]) (aeR (al x) (al y) rows ac c d _) O rfl
def Gv{b}:dU aa 110 (.ptr (.box b) 0) 0=J (.ptr (.box b) 0):=am
def Gw{b}:dU aa 110 (.ptr (.box b) 0) 1=J (.ptr (.box b) 1):=am
def NO{H}{b}{x y}(c:H.boxes[b]?=J [x,y]):aD aa Gt H 3 (.ptr (.box b) 0)=J x:=by rw[fm dY c];rfl
def NP{H}{b}{x y}(c:H.boxes[b]?=J [x,y]):aD aa Gt H 3 (.ptr (.box b) 1)=J y:=by rw[fm dY c];rfl
def RL.bF{x}{rows}(h:RL x rows):x.bF=J [x]:=by obtain⟨k,d,c,rfl,-⟩:=h.form;rfl
def IL.bF{x}{l}(h:IL x l):x.bF=J [x]:=by obtain⟨k,c,rfl,-⟩:=h;rfl
def uu{x y}{rows}{ac}(c:RL x rows)(d:IL y ac):(U.agg [x,y]).bF=J [x,y]:=by obtain⟨k,i,g,rfl,-⟩:=c.form;obtain⟨e,f,rfl,-⟩:=d;rfl
def RL.dB{x}{rows}(h:RL x rows):dB aa 22 x=J (.v (.int .i64 (F rows:Nat))):=by obtain⟨k,f,e,rfl,d⟩:=h.form;have c:=gy;unfold Go.AE.dB;rw[c];simp only[br,d]
def IL.dB{x}{l}(h:IL x l):dB aa 23 x=J (.v (.int .i64 (F l:Nat))):=by obtain⟨k,d,rfl,-⟩:=h;have c:=cU;unfold Go.AE.dB;rw[c];simp only[cG]
def iJ(rows:List (List Int))(ac c:List Int):Int:=if cH rows ac≠0 then cH rows ac else if decide (F c=cg rows)&&c.all bX then 0 else 340
def afO(h:Heap)(x y z:U)(rows:List (List Int))(ac c:List Int)(j:RL x rows)(l:IL y ac)(o:IL z c)(A:F c<=1000000):
 ∃r h',W4.call 158 [.agg [x,y],z] h=J (r,h')/\Ext h h'/\r=.ret (.v (.int .i64 (iJ rows ac c))):=by
 have C:=uu j l;have u:=SP x y rows ac j l;obtain⟨_,v,rfl⟩:=S5 (h.push [x,y]) x y rows ac j l;have g:=Gk (pr:=BP) O O 218 [] (λn=> !bX n) ((h.push [x,y]).push [x,y]) z c o A (λn _=>auh n _);have D:=uo (aK h [x,y]);have H:=o.dB;have q:∀s,s≠0->cH rows ac=s->iJ rows ac c=s:=λs f h2=>by unfold iJ;rw[av (by rw[h2];exact f),h2]
 have m:cH rows ac=0->iJ rows ac c=if decide (F c=cg rows)&&c.all bX then 0 else 340:=λh2=>by unfold iJ;rw[aL (by simp[h2])]
 have p:=ae.mk (aj q m);clear q m j l o;rw[RC]at g;generalize iJ rows ac c=res at *
 refine bL O Tryz.func158 O ?_;by_cases i:cH rows ac=0
 .rw[i]at u;have d:=p.out.2 i;clear i;by_cases f:F c=cg rows
  .have B:decide ((F c:Int)=((cg rows:Nat):Int))=V:=bQ M;rw[bQ f,mL]at d;clear f;cases h2:c.all bX with
   |true=>rw[h2]at g d;have e:=ae.mk d;clear h2 d;refine bG @IX @bg ?_;exact⟨_,_,O,(Ext.push _ _).trans (Ext.push _ _),by rw[e.out];rfl⟩
   |false=>rw[h2]at g d;have e:=ae.mk d;clear h2 d;refine bG @IX @bg ?_;exact⟨_,_,O,(Ext.push _ _).trans (Ext.push _ _),by rw[e.out];rfl⟩
  .have B:decide ((F c:Int)=((cg rows:Nat):Int))=ah:=b7 M;rw[b7 f,uO]at d;have e:=ae.mk d;clear f d;refine bG @IX @bg ?_;exact⟨_,_,O,(Ext.push _ _).trans (Ext.push _ _),by rw[e.out];rfl⟩
 .have e:=ae.mk (p.out.1 _ i O);clear p v g;generalize cH rows ac=s at *
  refine bG @IX @bg ?_;exact⟨_,_,O,Ext.push _ _,by rw[e.out]⟩
def sH(rows:List (List Int))(p:Int × Int):Bool:=decide (0<=p.1)&&decide (p.1<F rows)&&cN p.2
def NA(n):IL (.list .tight 1 [[.v (.int .i64 n)]]) [n]:=⟨.tight,1,O,λ_=>rfl⟩
def aoH(h:Heap)(x y:U)(rows:List (List Int))(ac:List Int)(d:RL x rows)(e:IL y ac)(a v:Int):
 ∃r h',W4.call 159 [.agg [x,y],.agg [I a,I v]] h=J (r,h')/\Ext h h'/\r=.ret (.v (.bool (sH rows (a,v)))):=by
 have i:=uu d e;have f:(U.agg [I a,I v]).bF=J [I a,I v]:=rfl;have l:aD aa Gt ((h.push [x,y]).push [I a,I v]) 22 (.ptr (.box (F h.boxes)) 0)=J x:=ox (aN (aK h [x,y]));have m:=NO (aK (h.push [x,y]) [I a,I v]);have o:=NP (aK (h.push [x,y]) [I a,I v]);have j:=Xl (.list .tight 1 [[.v (.int .i64 v)]]) [v] (NA v) b8 ((h.push [x,y]).push [I a,I v]);rw[(b8:[v].all cN=cN v)]at j;have g:=qO v;have p:=d.dB;clear d e;unfold sH;simp only;refine bL O Tryz.func159 O ?_;unfold I at *
 by_cases c:0<=a
 .have d1:decide (0<=a)=V:=bQ c;by_cases h2:a<F rows
  .have d2:decide (a<(F rows:Int))=V:=bQ h2;rw[d1,d2];clear c h2;refine bA @O7 @bg @de (aj @Gv @Gw) ?_;exact⟨_,_,O,(Ext.push _ _).trans (Ext.push _ _),O⟩
  .have d2:decide (a<(F rows:Int))=ah:=b7 h2;rw[d1,d2];clear c h2;refine bA @O7 @bg @de (aj @Gv @Gw) ?_;exact⟨_,_,O,(Ext.push _ _).trans (Ext.push _ _),O⟩
 .have d1:decide (0<=a)=ah:=b7 c;rw[d1];clear c;refine bA @O7 @bg @de (aj @Gv @Gw) ?_;exact⟨_,_,O,(Ext.push _ _).trans (Ext.push _ _),O⟩
def ahs(c b)(k)(d:F b<=1099511620000)(e:F c<=1099511620000):∀h,W3.call 69 [.v (.string (bs c)),.list k 1 (bJ b)] h=J (.ret (I (pF (kn c b):Nat)),h):=
 bT (L:=L3) (B:=[.v (.string (bs c)),.list (bU k) 1 (bJ b)]) O (by rw[a_,a_,al.eq_1,qn];rfl) (by simp[aA,au,eo,jl]) (ahr c b _ d e _) O rfl
def TY(c b)(k)(d:F b<=1099511620000)(e:F c<=1099511620000):∀h,W4.call 69 [.v (.string (bs c)),.list k 1 (bJ b)] h=J (.ret (I (pF (kn c b):Nat)),h):=
 bT (L:=L4) (B:=[.v (.string (bs c)),.list (bU k) 1 (bJ b)]) O (by rw[a_,a_,al.eq_1,qn];rfl) (by simp[aA,au,eo,jl]) (ahs c b _ d e _) O rfl
def agf{v}{r}(g:b9 v r)(e:fA v<=16)(f:F (cB v)<=1099511600000):∃t,∀h,W3.call 74 [.agg r] h=J (.ret (.tuple [.list t 1 (bJ (cB v)),.v (.int .i64 0)]),h):=by obtain⟨c,h2⟩:=b9.hold v r g;obtain⟨t,d⟩:=age c e f;exact⟨bU t,bT (L:=L3) (B:=[.agg (a_ r)]) O O (by simpa [aA,au] using h2) (d _) O (by simp[au,aA,eo,jl])⟩
def Lw{v}{r}(g:b9 v r)(e:fA v<=16)(f:F (cB v)<=1099511600000):∃t,∀h,W4.call 74 [.agg r] h=J (.ret (.tuple [.list t 1 (bJ (cB v)),.v (.int .i64 0)]),h):=by obtain⟨c,h2⟩:=b9.hold v r g;obtain⟨t,d⟩:=agf c e f;exact⟨bU t,bT (L:=L4) (B:=[.agg (a_ r)]) O O (by simpa [aA,au] using h2) (d _) O (by simp[au,aA,eo,jl])⟩
def EX:Tryz.f150.results.toList=[.cell 2 118]:=am
def aqd:Tryz.f153.results.toList=[.tmp 4]:=am
def I_:Tryz.f70.results.toList=[.tmp 2]:=am
inductive rF:U->Vl->Prop
 |int (n:Int) (hn:0<=n/\n<=4611686018427387903):rF (.iface 3 (.v (.int .i64 n))) (.int n)
 |text (k:Tok) (s:Nat) (b:List UInt8) (hs:b≠[]->s=1) (hb:b.length<=1099511620000):rF (.iface 60 (.list k s (bJ b))) (.text b)
 |val (v:Vl) (r:List U) (h:b9 v r):rF (.iface 118 (.agg r)) v
def qC(xs:List U)(vs:List Vl):Prop:=F xs=F vs/\∀(c:Nat) x v,xs[c]?=J x->vs[c]?=J v->rF x v
def qC.nil:qC [] []:=⟨O,λc x d h=>by simp at h⟩
def qC.cons{x}{v}{xs}{vs}(h:rF x v)(e:qC xs vs):qC (x::xs) (v::vs):=by
 refine⟨by simp[e.1],λf g w d c=>?_⟩;cases f with|zero=>simp at d c;subst d;subst c;exact h|succ f=>simp at d c;exact e.2 f g w d c
def RJ(x):tD aa (.iface 3 x) 3 V=J (.tuple [x,.v (.bool V)]):=am
def RI(x):tD aa (.iface 60 x) 3 V=J (.tuple [.v (.int .i64 0),.v (.bool ah)]):=am
def RH(x):tD aa (.iface 60 x) 60 V=J (.tuple [x,.v (.bool V)]):=am
def acR(x):tD aa (.iface 118 x) 3 V=J (.tuple [.v (.int .i64 0),.v (.bool ah)]):=am
def acQ(x):tD aa (.iface 118 x) 60 V=J (.tuple [.list .nil 0 [],.v (.bool ah)]):=am
def acS(x):tD aa (.iface 118 x) 118 V=J (.tuple [x,.v (.bool V)]):=am
def Lr{k}{s}{b}(i:b≠[]->s=1)(h):kL aa h 60 9 (.list k s (bJ b))=J (.v (.string (bs b)),h):=by
 have f:aa.underlying 9=J .string:=Tryz.underlying9;have h2:aa.underlying 60=J (.slice 5):=Tryz.underlying60;have g:aa.underlying 5=J (.int .u8):=Tryz.underlying5;unfold kL;simp only[f,h2,g,rowsOf];rw[av (by
  by_cases d:b=[]
  .exact .inr (by rw[d];rfl)
  .exact .inl (i d))]
 have e:∀c:List UInt8,bytesOf (bJ c)=J c:=by
  intro c
  induction c with
  |nil=>rfl|cons a c j=>show(match Go.AE.byteOf (iy a),bytesOf (bJ c) with|some b,J c=>J (b::c)|_,_=>ag)=_;rw[j];simp[Go.AE.byteOf,iy]
 simp only[e,fF];rfl
def yc{r}(e:F r=4)(d:(U.agg r).bF=J r):fy aa 116 1 [(0,.agg r)]=J (.list .tight 4 [r]):=by have c:aa.underlying 116=J (.slice 118):=lO;unfold fy;simp only[c,nm,sQ];rw[av ⟨aY,O,by decide⟩];simp[w7,d,e]
def NB:∃i,aa.info? 118=J i/\i.size=4/\i.bytes<=64/\(i.zero.map λz=>z.cells.size)=J 4:=by
 have h:(match aa.info? 118 with|some i=>hy i.size 4&&Kk i.bytes 64&&decide ((i.zero.map λz=>z.cells.size)=J 4)|none=>ah)=V:=am;cases c:aa.info? 118 with
 |none=>rw[c]at h;cases h
 |some i=>rw[c]at h;simp only[bm,decide_eq_true_eq]at h;exact⟨i,O,lN h.1.1,jR h.1.2,h.2⟩
def x9{H}{k}{n0 sz}{es}{r}(o:F es<1000000)(j:es≠[]->sz=4)(e:es=[]->sz=4∨k=.nil)(i:db n0 H k):
 gm aa H #[116,116] (.list k sz es) (.list .tight 4 [r])=J (.list (.free H.tn) 4 (es++[r]),H.app k):=by
 obtain⟨p,f,c,l,g⟩:=NB;have m:=jt (M:F es+1<=1000000) l;have:=Ar (P:=aa) (h:=H) (n0:=n0) (k:=k) (sz:=sz) (es:=es) (new:=[r]) (x:=.list .tight 4 [r]) (t1:=116) lO (.inl ⟨118,lO⟩) f M (by rw[c];exact g) (by rw[c];rfl) b8 (by simp;omega) (by simp;omega) (by
  rw[c];by_cases d:es=[]
  .rcases e d with q|q
   .exact .inl q
   .exact .inr ⟨d,q⟩
  .exact .inl (j d)) i
 rwa [c]at this
structure oF(h H:Heap)(c:Nat)(vs:List Vl)(t:Tok)(sz:Nat)(rows:List (List U)):Prop where
 box:H.boxes[c]?=J (ar 3 0 [] t sz rows)
 can:db h.tn H t
 ok:c_ H=V
 ext:Ext h H
 out:h.boxes.length<=c
 rel:fX vs rows
 four:rows≠[]->sz=4
 nil:rows=[]->sz=4∨t=.nil
 fit:fg 0 0 0 rows=V
def TA:∀(rows:List (List U)) (r:List U),fg 0 0 0 rows=V->aA 0 0 0 r=V->fg 0 0 0 (rows++[r])=V
 | [],r,_,h=>by rw[dO,fg,h];rfl
 |a::rows,r,c,h2=>by rw[fg,bm]at c;rw[ey,fg,c.1,TA rows r c.2 h2];rfl
def oF.push{h H}{c}{vs}{t}{sz}{rows}(g:oF h H c vs t sz rows)(cs):oF h (H.push cs) c vs t sz rows:=
 ⟨aN g.box,by rw[yh];exact g.can,g.ok,g.ext.trans (.push _ _),g.out,g.rel,g.four,g.nil,g.fit⟩
def oF.put{h H}{c}{vs}{t}{sz}{rows}(g:oF h H c vs t sz rows){v}{r}(o:b9 v r)(m:aA 0 0 0 r=V):
 oF h ((H.app t).put c (ar 3 0 [] (.free H.tn) 4 (rows++[r]))) c (vs++[v]) (.free H.tn) 4 (rows++[r]):=by
 have j:=(aT.1 g.box).1;have i:=Grown.one g.can g.ok g.ext.tn;refine⟨dh (by rw[dS];exact j),by rw[Ay];exact i.can,i.ok,(i.ext g.ext (aV _)).fI g.out _,g.out,⟨by simp[g.rel.1],λp w x e d=>?_⟩,λ_=>rfl,λ_=>.inl O,TA _ _ g.fit m⟩;rcases dp p (F rows) with f|q
 .rw[qH f]at d;rw[qH (by rw[<-g.rel.1];exact f)]at e;exact g.rel.2 p w x e d
 .have:=(aT.1 d).1;rw[ck]at this;have l:p=F rows:=by simp at this;omega
  subst l;rw[Ab]at d;rw[g.rel.1,Ab]at e;injection d with d;injection e with e;subst d;subst e;exact o
def xE{H}{c}{t t2}{sz sz2}{rows rows2}(d:H.boxes[c]?=J (ar 3 0 [] t sz rows)):bV aa H 116 (.ptr (.box c) 3) (.list t2 sz2 rows2)=J (H.put c (ar 3 0 [] t2 sz2 rows2)):=
 fC (off:=3) (cs:=ar 3 0 [] t sz rows) (xs:=[.list t2 sz2 rows2]) O am d O (aV 4)
def ass{H:Heap}:bV aa (H.push (ar 0 0 [] .nil 0 [])) 3 (.ptr (.box (F H.boxes)) 0) (.v (.int .i64 3))=J (H.push (ar 3 0 [] .nil 0 [])):=by rw[fC (off:=0) (cs:=ar 0 0 [] .nil 0 []) (xs:=[.v (.int .i64 3)]) O eX (aK _ _) O aY];congr 1;exact mg _ _ _
def Wm{H}{xs:List U}{i s}{x}(h:xs[i]?=J x):aD aa Gt H 20 (.elem s (xs.map λa=>[a]) i 0)=J x:=by rw[oO am (row:=[x]) (by rw[ec,h];rfl)];rfl
def ZP:cC aa 20=J 1:=am
def rF.aew{x}{v}(h:rF x v):(∃n,x=.iface 3 (.v (.int .i64 n))/\v=.int n/\0<=n/\n<=4611686018427387903)∨(∃k s b,x=.iface 60 (.list k s (bJ b))/\v=.text b/\(b≠[]->s=1)/\F b<=1099511620000)∨∃r,x=.iface 118 (.agg r)/\b9 v r:=by
 cases h with|int n c=>exact .inl ⟨n,O,O,c.1,c.2⟩|text k s b e d=>exact .inr (.inl ⟨k,s,b,O,O,e,d⟩)|val v r h=>exact .inr (.inr ⟨r,O,h⟩)
def N0(h:Heap)(fQ:c_ h=V)(k:Tok)(s:Nat)(xs:List U)(vs:List Vl)(hr:qC xs vs)(hs:xs≠[]->s=1)(hl:F xs<=1000)(hf:∀a∈xs,au 0 0 0 a=V):
 ∃r h',W4.call 150 [.list k s (xs.map λa=>[a])] h=J (r,h')/\Ext h h'/\∃t sz rows,r=.ret (.agg (ar 3 0 [] t sz rows))/\b9 (.list vs) (ar 3 0 [] t sz rows)/\fg 0 0 0 rows=V/\(F xs=0->t=.nil/\sz=0/\rows=[]):=by
 have q:=ae.mk (aj hr (aj hs hf));clear hr hs hf;have z:=sQ;have u180:=abW;have u94:=lO;have z20:=ZP;have eH:F (xs.map λa=>[a])=F xs:=br _;have Y:oF h (h.push (ar 3 0 [] .nil 0 [])) (F h.boxes) (vs.take 0) .nil 0 []:=⟨aK _ _,.inl O,fQ,.push _ _,aV _,⟨O,λi z0 r B=>by simp at B⟩,λB=>absurd O B,λ_=>.inr O,O⟩;refine bL O Tryz.func150 O ?_;refine bA @EX @d_ @ass @iZ ?_;refine bC.gen λu l H eu dn=>?_;have f2:u.get 2=.ptr (.box (F h.boxes)) 0:=by rw[l];exact gS
 have f9:u.get 9=.list k s (xs.map λa=>[a]):=by rw[l];exact gS
 have f10:u.get 10=.v (.int .i64 (F xs:Nat)):=by rw[l];exact gS
 have f11:u.get 11=.v (.int .i64 (0:Nat)):=by rw[l];exact gR
 have fd:u.defers=[]:=by rw[H];exact gS
 clear l H eu dn;refine b_ (λz1 X j=>∃(i:Nat) (t:Tok) (sz:Nat) (rows:List (List U)),i<=F xs/\z1=F xs-i/\ae (oF h j (F h.boxes) (vs.take i) t sz rows)/\ae (i=0->t=.nil/\sz=0/\rows=[])/\X.get 2=.ptr (.box (F h.boxes)) 0/\X.get 9=.list k s (xs.map λa=>[a])/\X.get 10=.v (.int .i64 (F xs:Nat))/\X.get 11=.v (.int .i64 (i:Nat))/\X.defers=[]) ?_ (F xs) _ _ ?_;rotate_left 1
 .exact⟨0,.nil,0,[],bY _,O,⟨Y⟩,⟨λ_=>⟨O,O,O⟩⟩,f2,f9,f10,f11,fd⟩
 clear f2 f9 f10 f11 fd Y;rintro z1 X j ⟨i,t,sz,rows,hi,rfl,d,kN,g2,g9,g10,g11,hd⟩;by_cases v:i<F xs
 .have ev:s=1:=q.out.2.1 (by intro B;rw[B]at v;simp at v);subst ev;obtain⟨x,C⟩:∃x,xs[i]?=J x:=⟨_,aP v⟩;obtain⟨z0,m⟩:∃z0,vs[i]?=J z0:=⟨_,aP (by have:=q.out.1.1;omega)⟩;have p:=q.out.1.2 i x z0 C m;have o:=q.out.2.2 x (cT C);have ld:=Wm (H:=j) (s:=1) C;have A:=ae.mk (gg m);have y:F rows<1000000:=by have:=d.out.rel.1;rw[cR]at this;omega
  have fO:(i:Int)<(F xs:Int):=by omega
  clear C m;rcases p.aew with⟨n,rfl,rfl,N,R⟩|⟨kb,sb,b,rfl,rfl,D,E⟩|⟨r,rfl,c⟩
  .have c:b9 (.int n) (ar 1 n [] .nil 0 []):=.int n ⟨N,R⟩;have e:=ae.mk (d.out.put c O);have l3:=jJ d.out.box;have Z:=x9 (r:=ar 1 n [] .nil 0 []) y d.out.four d.out.nil d.out.can;have bl:=yc (r:=ar 1 n [] .nil 0 []) O O;have st:=xE (H:=j.app t) (t2:=.free j.tn) (sz2:=4) (rows2:=rows++[ar 1 n [] .nil 0 []]) (by rw[dS];exact d.out.box);rw[<-A.out]at e;clear c N R p o;refine bA @EX @d_ @aU (aj @RJ @KV) ?_;exact⟨F xs-(i+1),by omega,i+1,_,_,_,by omega,O,e,⟨λB=>absurd B (QY _)⟩,by simp⟩
  .have c:b9 (.text b) (ar 2 0 b .nil 0 []):=.text b E;have e:=ae.mk (d.out.put c O);have l3:=jJ d.out.box;have Z:=x9 (r:=ar 2 0 b .nil 0 []) y d.out.four d.out.nil d.out.can;have bl:=yc (r:=ar 2 0 b .nil 0 []) O O;have cv:=Lr (k:=kb) D;have st:=xE (H:=j.app t) (t2:=.free j.tn) (sz2:=4) (rows2:=rows++[ar 2 0 b .nil 0 []]) (by rw[dS];exact d.out.box);rw[<-A.out]at e;clear c D E p o;refine bA @EX @d_ @aU (aj @RI (aj @RH @KW)) ?_;exact⟨F xs-(i+1),by omega,i+1,_,_,_,by omega,O,e,⟨λB=>absurd B (QY _)⟩,by simp⟩
  .have L:aA 0 0 0 r=V:=(by simpa [au] using o);have g:=d.out.push r;have e:=ae.mk (g.put c L);have l3:=jJ g.box;have l4:=ni c.len (aK j r);have Z:=x9 (r:=r) y g.four g.nil g.can;have bl:=yc (r:=r) c.len c.cells;have st0:=PS (H:=j) c;have st:=xE (H:=(j.push r).app t) (t2:=.free (j.push r).tn) (sz2:=4) (rows2:=rows++[r]) (by rw[dS];exact g.box);rw[<-A.out]at e;clear c p g o L;refine bA @EX @d_ @aU (aj @acR (aj @acQ @acS)) ?_;exact⟨F xs-(i+1),by omega,i+1,_,_,_,by omega,O,e,⟨λB=>absurd B (QY _)⟩,by simp⟩
 .have gr:i=F xs:=by omega
  subst gr;have f:=d.out;rw[ga (by rw[q.out.1.1];exact aV _)]at f;have m:b9 (.list vs) (ar 3 0 [] t sz rows):=.list vs t sz rows f.rel.1 f.four (by have:=f.rel.1;have:=q.out.1.1;omega) f.rel.2;have ld:=ni m.len f.box;have st:bV aa j 118 (.ptr (.box (F h.boxes)) 0) (.agg (ar 3 0 [] t sz rows))=J j:=by rw[fC iZ nm f.box O (aV 4),xD O];rw[lH f.box]
  have T:=ae.mk (aj m (aj f.ext f.fit));clear m f;refine bh @EX ?_;exact⟨_,_,O,T.out.2.1,_,_,_,O,T.out.1,T.out.2.2,kN.out⟩
def bd3:iI aa 118 [(0,.v (.int .i64 3))]=J (.agg (ar 3 0 [] .nil 0 [])):=am
inductive uW:U->Vl->Prop
 |int (n:Int) (hn:0<=n/\n<=4611686018427387903):uW (.iface 3 (.v (.int .i64 n))) (.int n)
 |text (k:Tok) (s:Nat) (b:List UInt8) (hs:b≠[]->s=1) (hb:b.length<=1099511620000):uW (.iface 60 (.list k s (bJ b))) (.text b)
def tj(xs:List U)(vs:List Vl):Prop:=F xs=F vs/\∀(c:Nat) x v,xs[c]?=J x->vs[c]?=J v->uW x v
def tj.nil:tj [] []:=⟨O,λc x d h=>by simp at h⟩
def tj.cons{x}{v}{xs}{vs}(h:uW x v)(e:tj xs vs):tj (x::xs) (v::vs):=by
 refine⟨by simp[e.1],λf g w d c=>?_⟩;cases f with|zero=>simp at d c;subst d;subst c;exact h|succ f=>simp at d c;exact e.2 f g w d c
def uW.aev{x}{v}(h:uW x v):(∃n,x=.iface 3 (.v (.int .i64 n))/\v=.int n/\0<=n/\n<=4611686018427387903)∨(∃k s b,x=.iface 60 (.list k s (bJ b))/\v=.text b/\(b≠[]->s=1)/\F b<=1099511620000):=by
 cases h with|int n c=>exact .inl ⟨n,O,O,c.1,c.2⟩|text k s b e d=>exact .inr ⟨k,s,b,O,O,e,d⟩
def akZ(h:Heap)(fQ:c_ h=V)(k:Tok)(s:Nat)(xs:List U)(vs:List Vl)(hr:tj xs vs)(hs:xs≠[]->s=1)(hl:F xs<=1000)(C:fA (.list vs)<=16)(D:F (cB (.list vs))<=1099511600000):
 ∃r h',W4.call 70 [.list k s (xs.map λa=>[a])] h=J (r,h')/\∃t,r=.ret (.list t 1 (bJ (cB (.list vs)))):=by
 have m:=ae.mk (aj hr (aj hs (aj C D)));clear hr hs C D;have z:=sQ;have u180:=abW;have u94:=lO;have z20:=ZP;have eH:F (xs.map λa=>[a])=F xs:=br _;have X:oF h (h.push (ar 3 0 [] .nil 0 [])) (F h.boxes) (vs.take 0) .nil 0 []:=⟨aK _ _,.inl O,fQ,.push _ _,aV _,⟨O,λi z1 r z0=>by simp at z0⟩,λz0=>absurd O z0,λ_=>.inr O,O⟩;refine bL O Tryz.func70 O ?_;refine bA @I_ @d_ @bd3 (aj @Jt @iZ) ?_;refine bC.gen λo e B eu dn=>?_;have f2:o.get 3=.ptr (.box (F h.boxes)) 0:=by rw[e];exact gS
 have f9:o.get 11=.list k s (xs.map λa=>[a]):=by rw[e];exact gS
 have f10:o.get 12=.v (.int .i64 (F xs:Nat)):=by rw[e];exact gS
 have f11:o.get 13=.v (.int .i64 (0:Nat)):=by rw[e];exact gR
 have Y:o.defers=[]:=by rw[B];exact gS
 clear e B eu dn;refine b_ (λz2 T u=>∃(i:Nat) (t:Tok) (v:Nat) (c:List (List U)),i<=F xs/\z2=F xs-i/\ae (oF h u (F h.boxes) (vs.take i) t v c)/\T.get 3=.ptr (.box (F h.boxes)) 0/\T.get 11=.list k s (xs.map λa=>[a])/\T.get 12=.v (.int .i64 (F xs:Nat))/\T.get 13=.v (.int .i64 (i:Nat))/\T.defers=[]) ?_ (F xs) _ _ ?_;rotate_left 1
 .exact⟨0,.nil,0,[],bY _,O,⟨X⟩,f2,f9,f10,f11,Y⟩
 clear f2 f9 f10 f11 Y X;rintro z2 T u ⟨i,t,v,c,hi,rfl,d,g3,g11,g12,g13,hd⟩;by_cases p:i<F xs
 .have ev:s=1:=m.out.2.1 (by intro z0;rw[z0]at p;simp at p);subst ev;obtain⟨x,R⟩:∃x,xs[i]?=J x:=⟨_,aP p⟩;obtain⟨z1,l⟩:∃z1,vs[i]?=J z1:=⟨_,aP (by have:=m.out.1.1;omega)⟩;have q:=m.out.1.2 i x z1 R l;have ld:=Wm (H:=u) (s:=1) R;have N:=ae.mk (gg l);have L:F c<1000000:=by have:=d.out.rel.1;rw[cR]at this;omega
  have fO:(i:Int)<(F xs:Int):=by omega
  clear R l;rcases q.aev with⟨n,rfl,rfl,E,H⟩|⟨kb,sb,b,rfl,rfl,y,A⟩
  .have f:b9 (.int n) (ar 1 n [] .nil 0 []):=.int n ⟨E,H⟩;have g:=ae.mk (d.out.put f O);have l3:=jJ d.out.box;have ap:=x9 (r:=ar 1 n [] .nil 0 []) L d.out.four d.out.nil d.out.can;have bl:=yc (r:=ar 1 n [] .nil 0 []) O O;have st:=xE (H:=u.app t) (t2:=.free u.tn) (sz2:=4) (rows2:=c++[ar 1 n [] .nil 0 []]) (by rw[dS];exact d.out.box);rw[<-N.out]at g;clear f E H q;refine bA @I_ @d_ @aU (aj @RJ @KV) ?_;exact⟨F xs-(i+1),by omega,i+1,_,_,_,by omega,O,g,by simp⟩
  .have f:b9 (.text b) (ar 2 0 b .nil 0 []):=.text b A;have g:=ae.mk (d.out.put f O);have l3:=jJ d.out.box;have ap:=x9 (r:=ar 2 0 b .nil 0 []) L d.out.four d.out.nil d.out.can;have bl:=yc (r:=ar 2 0 b .nil 0 []) O O;have cv:=Lr (k:=kb) y;have st:=xE (H:=u.app t) (t2:=.free u.tn) (sz2:=4) (rows2:=c++[ar 2 0 b .nil 0 []]) (by rw[dS];exact d.out.box);rw[<-N.out]at g;clear f y A q;refine bA @I_ @d_ @aU (aj @RI (aj @RH @KW)) ?_;exact⟨F xs-(i+1),by omega,i+1,_,_,_,by omega,O,g,by simp⟩
 .have Z:i=F xs:=by omega
  subst Z;have j:=d.out;rw[ga (by rw[m.out.1.1];exact aV _)]at j;have l:b9 (.list vs) (ar 3 0 [] t v c):=.list vs t v c j.rel.1 j.four (by have:=j.rel.1;have:=m.out.1.1;omega) j.rel.2;have ld:=ni l.len j.box;obtain⟨te,ce⟩:=Lw l m.out.2.2.1 m.out.2.2.2;clear l j;refine bh @I_ ?_;exact⟨_,_,O,_,O⟩
def aib(h:Heap)(i:c_ h=V)(c:List UInt8)(k:Tok)(s:Nat)(xs:List U)(vs:List Vl)(j:qC xs vs)(l:xs≠[]->s=1)(g:F xs<=1000)(f:∀a∈xs,au 0 0 0 a=V)(p:F c<=1099511620000)(d:fA (.list vs)<=16)(e:F (cB (.list vs))<=1099511600000):
 ∃r h',W4.call 153 [.v (.string (bs c)),.list k s (xs.map λa=>[a])] h=J (r,h')/\r=.ret (I ((qh c (.list vs):Nat):Int)):=by
 obtain⟨_,B,y,-,t,C,q,rfl,m,-,-⟩:=N0 h i k s xs vs j l g f;obtain⟨u,A⟩:=Lw m d e;have o:=TY c (cB (.list vs)) u M p;have v:pF (kn c (cB (.list vs)))=qh c (.list vs):=rfl;rw[v]at o;generalize qh c (.list vs)=n at *
 unfold I at *
 clear j l g m f v;refine bL O Tryz.func153 O ?_;refine bh @aqd ?_;exact⟨_,_,O,O⟩
def ahH(n:Nat)(c:0<n)(f:n<=1099511627776)(H:Heap):W4.call 207 [.list .nil 0 [],.v (.int .i64 (n:Nat))] H=J (.ret (.arr (F H.boxes) 0 0 n),H.push (bB n [I 0]).flatten):=by
 have e:=cU;have a:=acZ (H:=H) c f;have i:IntKind.i64.wrap ((0:Int)-0)=0:=by rfl
 have j:IntKind.i64.wrap (((n:Nat):Int)-0)=((n:Nat):Int):=by rw[CB,jm M M]
 have d:gw aa 23 (.arr (F H.boxes) 0 n n) ag (J (.v (.int .i64 (0:Nat)))) ag=J (.arr (F H.boxes) 0 0 n):=Zf e eX aY aY M c;have d:gw aa 23 (.arr (F H.boxes) 0 n n) ag (J (.v (.int .i64 0))) ag=J (.arr (F H.boxes) 0 0 n):=d;have g:(0:Int)<(n:Nat):=by omega
 refine cr O abH O ?_;exact GQ @YJ @C9 @Ss (aj @Zg (aj @f_.{0} (aj @qG @CB)))
def ahG(H:Heap):W4.call 207 [.list .nil 0 [],.v (.int .i64 (0:Nat))] H=J (.ret (.list .nil 0 []),H):=by
 have c:=cU;refine cr O abH O ?_;have d:IntKind.i64.wrap ((0:Int)-0)=0:=by rfl
 have e:IntKind.i64.wrap (((0:Nat):Int)-0)=0:=by rfl
 exact GQ @YJ @C9 @Ss (aj @Zg (aj @f_.{0} (aj @qG @CB)))
def afv(k:Tok)(xs:List U)(c:List (List (List U)))(hl:F xs=F c)(H:Heap)(hs:∀(i:Nat) x d,xs[i]?=J x->c[i]?=J d->dz 1 H x d)(hb:F c.flatten<=1099511627776)(fh:F xs<=1000):
 ∃r H',W4.call 141 [.list k 1 (xs.map λx=>[x])] H=J (r,H')/\∃y,r=.ret y/\Ext H H'/\dz 1 H' y c.flatten:=by
 have u23:=cU;have u22:=gy;have aE:=acp;have sE:=hw;have C:∀(i:Nat) x,xs[i]?=J x->(xs.map λx=>[x])[i]?=J [x]:=λi x f=>by rw[ec,f];rfl
 have iE:∀i,F (c.take i).flatten<=1099511627776:=λi=>by
  refine e8 ?_ hb
  conv=>rhs;rw[<-pX i c,oC,ck]
  omega
 have B:∀(i:Nat) d,c[i]?=J d->(c.take (i+1)).flatten=(c.take i).flatten++d:=λi d s=>by rw[gg s,oC];simp
 have X:=ae.mk hs;have v:=ae.mk hl;have kr:=ae.mk C;have kst:=ae.mk B;have kle:=ae.mk iE;have E:F (xs.map λx=>[x])=F xs:=by simp
 clear hs C B iE hl;generalize hM:(xs.map λx=>[x])=N at *
 refine bL O Tryz.func141 O ?_;refine bh @xA ?_;refine b_ (λz0 g h'=>∃i:Nat,i<=F xs/\z0=F xs-i/\g.get 0=.list k 1 N/\g.get 9=.list k 1 N/\g.get 10=.v (.int .i64 (F xs:Nat))/\g.get 11=.v (.int .i64 i)/\g.get 3=.v (.int .i64 (F (c.take i).flatten:Nat))/\g.get 2=.list .nil 0 []/\g.defers=[]/\h'=H) ?_ (F xs) _ _ ?_;rotate_left 1
 .refine⟨0,bY _,O,?_,?_,?_,?_,?_,?_,?_,O⟩<;>(first|assumption|(simp only[gW,reduceIte,aH,aC,E]<;>rfl))
 rintro z0 g h' ⟨i,s,rfl,g0,g9,Z,g11,g3,g2,T,rfl⟩;by_cases p:i<F xs
 .obtain⟨x,f⟩:∃x,xs[i]?=J x:=⟨_,aP p⟩;obtain⟨d,e⟩:∃d,c[i]?=J d:=⟨_,aP (by have:=v.out;omega)⟩;have l:=X.out i x d f e;have ls:=l.len u23;have q:=kr.out i x f;have DU:(i:Int)<(F N:Int):=by omega
  have Y:=kst.out i d e;have q1:=kle.out (i+1);rw[Y,ck]at q1;have ksum:=ae.mk (show(F (c.take (i+1)).flatten)=F (c.take i).flatten+F d by rw[Y,ck]);generalize F (c.take i).flatten=n1 at *
  have e1:IntKind.i64.wrap (((n1:Nat):Int)+((F d:Nat):Int))=((n1+F d:Nat):Int):=by rw[jm M M];omega
  have nn:¬(((n1+F d:Nat):Int)<0):=by omega
  have ld:aD aa Gt h' 23 (.elem 1 N i 0)=J x:=by rw[oO aE q];rfl
  clear Y q1 l;refine bG @xA @aU ?_;exact⟨F xs-(i+1),by omega,i+1,by omega,O,by trivial,by trivial,by trivial,by simp,by rw[ksum.out],by trivial,by trivial,by trivial⟩
 have:i=F xs:=by omega
 subst this;rw[show c.take (F xs)=c by rw[v.out];exact fK]at g3;have hn:=kle.out (F xs);rw[show c.take (F xs)=c by rw[v.out];exact fK]at hn;generalize R:F c.flatten=n at *
 rcases Nat.eq_zero_or_pos n with h0|h0
 .subst h0;have gn:=ahG h';have L:c.flatten=[]:=List.eq_nil_of_length_eq_zero R;refine bh @xA ?_;refine b_ (λz0 g m=>∃i:Nat,i<=F xs/\z0=F xs-i/\g.get 25=.list k 1 N/\g.get 26=.v (.int .i64 (F xs:Nat))/\g.get 27=.v (.int .i64 i)/\g.get 6=.list .nil 0 []/\g.defers=[]/\m=h') ?_ (F xs) _ _ ?_;rotate_left 1
  .refine⟨0,bY _,O,?_,?_,?_,?_,?_,O⟩<;>(first|assumption|(simp only[gW,reduceIte,aH,aC,E]<;>rfl))
  clear g0 g9 Z g11 g3 g2 T gn;rintro z0 g m ⟨i,s,rfl,g25,g26,g27,g6,T,rfl⟩;by_cases p:i<F xs
  .obtain⟨x,f⟩:∃x,xs[i]?=J x:=⟨_,aP p⟩;obtain⟨d,e⟩:∃d,c[i]?=J d:=⟨_,aP (by have:=v.out;omega)⟩;have l:=X.out i x d f e;have Nd:d=[]:=by
    have:=cT e;cases d with|nil=>rfl|cons a z2=>exact absurd (Ke.2 ⟨_,this,gH⟩) (by rw[L];exact List.not_mem_nil)
   subst Nd;have an:=acz l;have q:=kr.out i x f;have DU:(i:Int)<(F N:Int):=(by omega);have ld:aD aa Gt m 23 (.elem 1 N i 0)=J x:=(by rw[oO aE q];rfl);clear l;refine bG @xA @aU ?_;exact⟨F xs-(i+1),by omega,i+1,by omega,O,by trivial,by trivial,by simp,by trivial,by trivial,by trivial⟩
  .have:i=F xs:=(by omega);subst this;refine bh @xA ?_;exact⟨_,_,O,_,O,Ext.refl _,by(try rw[L]);exact dz.list (λr C=>by cases C) (λY=>absurd O Y)⟩
 .have gn:=ahH n h0 hn h';refine bh @xA ?_;rw[OU];have vu:∀(i:Nat) d,c[i]?=J d->∀r∈d,F r=1:=λi d s=>by obtain⟨x,f⟩:∃x,xs[i]?=J x:=⟨_,aP (by rw[v.out];exact(aT.1 s).1)⟩;exact(X.out i x d f s).1
  have j:∀i,∀r∈(c.take i).flatten,F r=1:=λi r C=>by obtain⟨d,h1,h2⟩:=Ke.1 C;obtain⟨z1,hj⟩:=List.mem_iff_getElem?.1 (xS h1);exact vu z1 d hj r h2
  have mD:∀i,F (c.take i).flatten.flatten=F (c.take i).flatten:=λi=>by rw[lX (j i),jS]
  have A:∀i,F (c.take i).flatten<=n:=λi=>by
   rw[<-R]
   conv=>rhs;rw[<-pX i c,oC,ck]
   omega
  have kfl:=ae.mk mD;have kmo:=ae.mk A;have kr2:=ae.mk j;clear vu mD A j gn;refine b_ (λz0 g m=>∃i:Nat,i<=F xs/\z0=F xs-i/\g.get 25=.list k 1 N/\g.get 26=.v (.int .i64 (F xs:Nat))/\g.get 27=.v (.int .i64 i)/\g.get 6=.arr (F h'.boxes) 0 (F (c.take i).flatten) n/\g.defers=[]/\m.boxes[h'.boxes.length]?=J ((c.take i).flatten.flatten++bB (n-F (c.take i).flatten) (I 0))/\Ext h' m) ?_ (F xs) _ _ ?_;rotate_left 1
  .refine⟨0,bY _,O,?_,?_,?_,?_,?_,?_,Ext.push _ _⟩<;>(first|assumption|exact aK _ _|(simp only[gW,reduceIte,aH,aC,E]<;>rfl))
  clear g0 g9 Z g11 g3 g2 T;rintro z0 g m ⟨i,s,rfl,g25,g26,g27,g6,T,o,D⟩;by_cases p:i<F xs
  .obtain⟨x,f⟩:∃x,xs[i]?=J x:=⟨_,aP p⟩;obtain⟨d,e⟩:∃d,c[i]?=J d:=⟨_,aP (by have:=v.out;omega)⟩;have l:=(X.out i x d f e).ext D;have Y:=kst.out i d e;have m1:=kmo.out (i+1);have f0:=kfl.out i;have u:F (c.take (i+1)).flatten=F (c.take i).flatten+F d:=(by rw[Y,ck]);rw[u]at m1;have Nf:F d.flatten=F d:=(by rw[lX l.1,jS]);have ap:=abZ l o m1 (by rw[ck,mw,f0];omega);have vx:dC ((c.take i).flatten.flatten++bB (n-F (c.take i).flatten) (I 0)) (F (c.take i).flatten) d.flatten=(c.take (i+1)).flatten.flatten++bB (n-F (c.take (i+1)).flatten) (I 0):=(by unfold dC;rw[List.take_left' f0,List.drop_append,nq (by rw[f0];omega),dO,f0,List.drop_replicate,Y,oC,ck,Nf];congr 2;omega);rw[vx]at ap;have q:=kr.out i x f;have DU:(i:Int)<(F N:Int):=(by omega);have ld:aD aa Gt m 23 (.elem 1 N i 0)=J x:=(by rw[oO aE q];rfl);have kX:=ae.mk D;have yT:=(aT.1 o).1;have ks:=ae.mk u;clear l D o vx Y f0 u;refine bG @xA @aU ?_;refine⟨F xs-(i+1),by omega,i+1,by omega,O,by trivial,by trivial,by simp,by rw[ks.out],by trivial,?_,kX.out.fI (aV _) _⟩;exact dh yT
  .have:i=F xs:=(by omega);subst this;have ht:c.take (F xs)=c:=(by rw[v.out];exact fK);have f0:=kfl.out (F xs);have j:=kr2.out (F xs);rw[ht]at o g6 f0 j;rw[R]at o g6;rw[qL,aa4,gj]at o;have kB:=ae.mk o;have kX:=ae.mk D;clear o D;refine bh @xA ?_;exact⟨_,_,O,_,O,kX.out,dz.box j R.symm kB.out⟩
def L5:List aR:=[80,81,75,134,66,82,133,130,202,67,39,68,69,70,162,135,43,111,35,139,140,141,142,150,40,100,96,97,99,241,158,159,203,103,104,105,193,242,74,174,231,232,233,222,178]
noncomputable def BQ:aR->Option (List U->Heap->Option (U × Heap)):=xw 4 W4 L5 [153]
noncomputable abbrev W5:=whole aa Gt BQ
def jV:mo BQ L5:=λd c=>⟨uq W4 d,by unfold BQ xw;rw[av (by simpa using c)];rfl⟩
section
variable (a b n x:Int)
def F4:∀h,W5.call 80 [I a,I b] h=J (.ret (I (dx a b)),h):=gE (L:=L5) O O O (Rq a b _) O rfl
def N_:∀h,W5.call 81 [I a,I b] h=J (.ret (I (cS a b)),h):=gE (L:=L5) O O O (WX a b _) O rfl
def Fv:∀h,W5.call 66 [I x] h=J (.ret (.v (.bool (bX x))),h):=gE (L:=L5) O O O (Z6 x _) O rfl
def GO:∀h,W5.call 67 [I a,I b] h=J (.ret (.tuple [I (nV a b),I (rM a b)]),h):=gE (L:=L5) O O O (ahy a b _) O rfl
def GP:∀h,W5.call 75 [I a,I n] h=J (.ret (.tuple [I (fj a n),I (oK a)]),h):=gE (L:=L5) O O O (LW a n _) O rfl
def aoU:∀h,W5.call 231 [I n] h=J (.ret (.tuple [I (if fmod n=0 then 0 else ej n),I (if fmod n=0 then 90 else 0)]),h):=gE (L:=L5) O O O (aoT n _) O rfl
def ark:∀h,W5.call 111 [I x] h=J (.ret (.v (.bool (bX x))),h):=gE (L:=L5) O O O (arj x _) O rfl
def aoO:∀h,W5.call 97 [I n] h=J (.ret (.agg (ar 1 n [] .nil 0 [])),h):=gE (L:=L5) O O O (aoN n _) O rfl
end
def OA(x n):∀h,W5.call 82 [I x,I n] h=J (.ret (I (fj x n)),h):=gE (L:=L5) O O O (ann x n _) O rfl
def XV(x n):∀h,W5.call 68 [I x,I n] h=J (.ret (I (fj x n)),h):=gE (L:=L5) O O O (ano x n _) O rfl
def ob{x y}{rows}{ac}(c:RL x rows)(d:IL y ac):RL (al x) rows/\IL (al y) ac/\au 0 0 0 (al x)=V/\au 0 0 0 (al y)=V:=
 ⟨c.fk.1,d.hold.1,c.fk.2,d.hold.2⟩
def Lk(x y)(rows)(ac)(f:RL x rows)(g:IL y ac):∀h,W5.call 35 [.agg [x,y]] h=J (.ret (I (cH rows ac)),h):=by obtain⟨c,h2,d,e⟩:=ob f g;exact gE (L:=L5) (B:=[.agg [al x,al y]]) O O (by simp[aA,au,d,e]) (SP (al x) (al y) rows ac c h2 _) O rfl
def afi(x y)(rows)(ac)(f:RL x rows)(g:IL y ac):∀h,W5.call 140 [.agg [x,y]] h=J (.ret (I (cg rows:Nat)),h):=by obtain⟨c,h2,d,e⟩:=ob f g;obtain⟨h',i,-⟩:=S5 ⟨[],[],0,[]⟩ (al x) (al y) rows ac c h2;exact gE (L:=L5) (B:=[.agg [al x,al y]]) O O (by simp[aA,au,d,e]) i O rfl
def afm(x y)(rows)(ac)(f:RL x rows)(g:IL y ac):∀h,W5.call 134 [.agg [x,y]] h=J (.ret (I (cg rows:Nat)),h):=by obtain⟨c,h2,d,e⟩:=ob f g;obtain⟨h',i,-⟩:=afl ⟨[],[],0,[]⟩ (al x) (al y) rows ac c h2;exact gE (L:=L5) (B:=[.agg [al x,al y]]) O O (by simp[aA,au,d,e]) i O rfl
def afk(x y)(rows)(ac)(f:RL x rows)(g:IL y ac):∀h,W5.call 104 [.agg [x,y]] h=J (.ret (I (cg rows:Nat)),h):=by obtain⟨c,h2,d,e⟩:=ob f g;obtain⟨h',i,-⟩:=afj ⟨[],[],0,[]⟩ (al x) (al y) rows ac c h2;exact gE (L:=L5) (B:=[.agg [al x,al y]]) O O (by simp[aA,au,d,e]) i O rfl
def Yl(x y)(rows)(ac)(g:RL x rows)(i:IL y ac)(f:F rows<=1000000):∀h,W5.call 40 [.agg [x,y]] h=J (.ret (I (cH rows ac)),h):=by obtain⟨c,h2,d,e⟩:=ob g i;obtain⟨l,h',j,-,rfl⟩:=aoc ⟨[],[],0,[]⟩ (al x) (al y) rows ac c h2 f;exact gE (L:=L5) (B:=[.agg [al x,al y]]) O O (by simp[aA,au,d,e]) j O rfl
def Xm(x)(l)(e:IL x l)(d:F l<=1000000):∀h,W5.call 139 [x] h=J (.ret (.v (.bool (l.all cN))),h):=by obtain⟨c,h2⟩:=e.hold;exact gE (L:=L5) (B:=[al x]) O O (by simp[aA,h2]) (Xl (al x) l c d _) O rfl
def XJ(x)(l)(e:IL x l)(d:F l<=9223372036854775807):∀h,W5.call 43 [x] h=J (.ret (.v (.bool (dy (-1) l))),h):=by obtain⟨c,h2⟩:=e.hold;obtain⟨g,h',f,-,rfl⟩:=amS ⟨[],[],0,[]⟩ (al x) l c d;exact gE (L:=L5) (B:=[al x]) O O (by simp[aA,h2]) f O rfl
def Mh(x)(l)(n)(e:IL x l)(d:F l<=1099511627776):∀h,W5.call 105 [x,I n] h=J (.ret (.v (.bool (l.contains n))),h):=by obtain⟨c,h2⟩:=e.hold;obtain⟨g,h',f,-,rfl⟩:=ah3 ⟨[],[],0,[]⟩ (al x) l n c d;exact gE (L:=L5) (B:=[al x,I n]) O O (by simp[aA,h2,au,I]) f O rfl
def atv(n)(c:0<n)(h2:n<=1000000):∀h,W5.call 103 [I (n:Nat)] h=J (.ret (.list .held 1 (ints (fc n))),h):=
 gE (L:=L5) O O O (atu ⟨[],[],0,[]⟩ n c h2) (zt (aK _ _) (PW c)) (by simp[au,ju,oY])
def atL(x y)(a b)(i:IL x a)(j:IL y b)(g:F a<=1000000)(c:F a<=F b):∀h,W5.call 142 [x,y] h=J (.ret (I (wQ a b)),h):=by obtain⟨d,h2⟩:=i.hold;obtain⟨e,f⟩:=j.hold;obtain⟨h',l,-⟩:=atK ⟨[],[],0,[]⟩ (al x) (al y) a b d e g c;exact gE (L:=L5) (B:=[al x,al y]) O O (by simp[aA,h2,f]) l O rfl
def Ta(x y z)(rows)(ac c)(l:RL x rows)(m:IL y ac)(o:IL z c)(j:F c<=1000000):∀h,W5.call 158 [.agg [x,y],z] h=J (.ret (I (iJ rows ac c)),h):=by obtain⟨d,h2,e,f⟩:=ob l m;obtain⟨g,i⟩:=o.hold;obtain⟨q,h',p,-,rfl⟩:=afO ⟨[],[],0,[]⟩ (al x) (al y) (al z) rows ac c d h2 g j;exact gE (L:=L5) (B:=[.agg [al x,al y],al z]) O O (by simp[aA,au,e,f,i]) p O rfl
def aoI(x y)(rows)(ac)(f:RL x rows)(g:IL y ac)(a v):∀h,W5.call 159 [.agg [x,y],.agg [I a,I v]] h=J (.ret (.v (.bool (sH rows (a,v)))),h):=by obtain⟨c,h2,d,e⟩:=ob f g;obtain⟨j,h',i,-,rfl⟩:=aoH ⟨[],[],0,[]⟩ (al x) (al y) rows ac c h2 a v;exact gE (L:=L5) (B:=[.agg [al x,al y],.agg [I a,I v]]) O O (by simp[aA,au,d,e,I]) i O rfl
def TE:∀l:List Int,(ints l).flatten=l.map I
 | []=>rfl
 |a::l=>by show(vz a::ints l).flatten=I a::l.map I;rw[jP,TE l];rfl
def aje{h}{y}{l}(s:dz 1 h y (ints l)):IL (dE h y) l/\au 0 0 0 (dE h y)=V:=by
 rcases s.2 with⟨k,p,rfl,e⟩|⟨b,g,f,j,rfl,-,d,c,h2⟩
 .rw[dE];exact⟨⟨_,_,O,λo=>e (by unfold ints;simpa using o)⟩,by rw[au,eo,ju];rfl⟩
 .rw[dE,d];simp only;rw[jS]at c h2;have m:(ints l).flatten.map (λi=>[i])=ints l:=by have this:(ints l).flatten=l.map I:=TE l;rw[this,LP]
  rw[av h2,c,m];exact⟨⟨_,_,O,λ_=>rfl⟩,by rw[au,ju];rfl⟩
def afx(x y)(a b)(p:IL x a)(q:IL y b)(D:F a+F b<=1000000):∃z,IL z (a++b)/\∀h,W5.call 141 [.list .tight 1 [[x],[y]]] h=J (.ret z,h):=by
 obtain⟨i,h2⟩:=p.hold;obtain⟨j,l⟩:=q.hold;obtain⟨N,h',C,z,rfl,-,f⟩:=afv .tight [al x,al y] [ints a,ints b] O ⟨[],[],0,[]⟩ (λv w R d c=>by
  have e:∀{w:U} {u:List Int},IL w u->dz 1 ⟨[],[],0,[]⟩ w (ints u):=λ{w u} d=>by obtain⟨k,T,rfl,o⟩:=d;exact dz.list (λN m=>by obtain⟨n,-,rfl⟩:=jg.1 m;rfl) λH=>o λg=>H (by rw[g];rfl)
  rcases v with _|_|v
  .injection d with d;injection c with c;subst d;subst c;exact e i
  .injection d with d;injection c with c;subst d;subst c;exact e j
  .cases d) (by simp[cG];omega) b8
 have g:[ints a,ints b].flatten=ints (a++b):=by simp[ints]
 rw[g]at f;obtain⟨r,s⟩:=aje f;exact⟨_,r,gE (L:=L5) (B:=[.list .tight 1 [[al x],[al y]]]) O O (by simp[aA,au,fg,h2,l,oY]) C O s⟩
def aht(c b)(k)(d:F b<=1099511620000)(e:F c<=1099511620000):∀h,W5.call 69 [.v (.string (bs c)),.list k 1 (bJ b)] h=J (.ret (I (pF (kn c b):Nat)),h):=
 gE (L:=L5) (B:=[.v (.string (bs c)),.list (bU k) 1 (bJ b)]) O (by rw[a_,a_,al.eq_1,qn];rfl) (by simp[aA,au,eo,jl]) (TY c b _ d e _) O rfl
def rF.hold{x}{v}(h:rF x v):rF (al x) v/\au 0 0 0 (al x)=V:=by
 cases h with|int n e=>exact⟨.int n e,O⟩|text k i b f d=>rw[al,al,qn];exact⟨.text _ i b f d,by simp[au,eo,jl]⟩|val v g h=>obtain⟨c,h2⟩:=b9.hold v g h;rw[al,al];exact⟨.val v _ c,by simpa [au] using h2⟩
def qC.hold{xs}{vs}(h:qC xs vs):qC (xs.map al) vs/\∀a∈xs.map al,au 0 0 0 a=V:=by
 refine⟨⟨by simp[h.1],λg x m c j=>?_⟩,λa i=>?_⟩
 .rw[ec]at c;cases d:xs[g]? with
  |none=>rw[d]at c;cases c
  |some l=>rw[d]at c;injection c with c;subst c;exact(h.2 g l m d j).hold.1
 .obtain⟨l,d,rfl⟩:=jg.1 i;obtain⟨g,e⟩:=qI d;have f:=(aT.1 e).1;exact(h.2 g l _ e (aP (by rw[<-h.1];exact f))).hold.2
def b9.tok{vs}{t}{sz}{rows}(h:b9 (.list vs) (ar 3 0 [] t sz rows))(t2):b9 (.list vs) (ar 3 0 [] t2 sz rows):=by
 generalize c:ar 3 0 [] t sz rows=m at h;cases h with|list l k z j a b f g=>unfold ar at c;injection c with _ c;injection c with _ c;injection c with _ c;injection c with c;injection c with i d e;subst d;subst e;exact .list vs t2 sz rows a b f g
def akU(k)(s)(xs)(vs)(g:qC xs vs)(i:xs≠[]->s=1)(f:F xs<=1000):
 ∃row,b9 (.list vs) row/\∀h,W5.call 150 [.list k s (xs.map λa=>[a])] h=J (.ret (.agg row),h):=by
 obtain⟨d,h2⟩:=g.hold;obtain⟨p,h',m,-,t,l,c,rfl,j,e,-⟩:=N0 ⟨[],[],0,[]⟩ vM (bU k) s (xs.map al) vs d (λo=>i (by simpa using o)) (by simpa using f) h2;refine⟨ar 3 0 [] (bU t) l c,j.tok _,gE (L:=L5) (B:=[.list (bU k) s ((xs.map al).map λa=>[a])]) O (by rw[a_,a_,al,yV]) (by rw[aA,aA,au,eo,vh _ h2];rfl) m O ?_⟩;rw[au,ar,aA,aA,aA,aA,aA,au,eo,e];rfl
def TU{z}{h}:∀xs:List U,nU z h (xs.map λa=>[a])=(xs.map (gY z h)).map λa=>[a]
 | []=>rfl
 |x::xs=>by rw[eI,nU,TU xs];rfl
def TV{z}{h}:∀b:List UInt8,nU z h (bJ b)=bJ b
 | []=>rfl
 |a::b=>by show nU z h (iy a::bJ b)=_;rw[nU,TV b];rfl
def sS(h:Heap)(x:U)(v:Vl):Prop:=rF (gY 4 h x) v/\au 0 0 0 (gY 4 h x)=V
def wk(h:Heap)(xs:List U)(vs:List Vl):Prop:=F xs=F vs/\∀(c:Nat) x v,xs[c]?=J x->vs[c]?=J v->sS h x v
def wk.nil{h}:wk h [] []:=⟨O,λd x e c=>by simp at c⟩
def wk.cons{h}{x}{v}{xs}{vs}(q:sS h x v)(e:wk h xs vs):wk h (x::xs) (v::vs):=by
 refine⟨by simp[e.1],λf g w d c=>?_⟩;cases f with|zero=>simp at d c;subst d;subst c;exact q|succ f=>simp at d c;exact e.2 f g w d c
def sS.int{h}(n)(c:0<=n/\n<=4611686018427387903):sS h (.iface 3 (.v (.int .i64 n))) (.int n):=⟨.int n c,O⟩
def sS.text{h}(k)(s)(b)(d:b≠[]->s=1)(c:F b<=1099511620000):sS h (.iface 60 (.list k s (bJ b))) (.text b):=by unfold sS;rw[gY,gY,TV];exact⟨.text _ s b d c,by simp[au,eo,jl]⟩
def apZ{z}{rows:List (List U)}(d:∀r∈rows,F r=z){i}{r}(h:rows[i]?=J r):(rows.flatten.drop (i*z)).take z=r:=by
 have e:=d r (cT h);refine oh λf=>?_;rw[mM];split
 .rename_i c;rw[o0,agR d i f c,h];rfl
 .rename_i c;rw[uS M]
def ap3{z}(e:0<z):∀rows:List (List U),(∀r∈rows,F r=z)->nI z rows.flatten 0 (F rows)=rows:=by
 intro rows d;refine oh λf=>?_;unfold nI;rw[ec];rcases dp f (F rows) with c|c
 .rw[List.getElem?_range c,fF,oj,apZ d (aP c),aP c]
 .rw[uS (by simpa using c),uS c];rfl
def sS.list{h}{vs}{rows}{b}(l:h.boxes[b]?=J rows.flatten)(c:fX vs rows)(m:F rows<=1000000):sS h (.iface 118 (.agg (I 3::I 0::sv []::[.arr b 0 (F rows) (F rows)]))) (.list vs):=by
 have g:∀p∈rows,F p=4:=λp i=>by obtain⟨r,e⟩:=qI i;have f:=(aT.1 e).1;exact(c.2 r _ p (aP (by rw[<-c.1];exact f)) e).len
 have q:gY 4 h (.iface 118 (.agg (I 3::I 0::sv []::[.arr b 0 (F rows) (F rows)])))=.iface 118 (.agg (ar 3 0 [] .held 4 (dm rows))):=by unfold I sv ar;simp only[gY,iD,l];rw[av ⟨by rw[lX g];omega,by decide⟩,ap3 aY rows g];rfl
 have o:b9 (.list vs) (ar 3 0 [] .held 4 rows):=.list vs .held 4 rows c.1 (λ_=>rfl) m c.2;obtain⟨d,h2⟩:=b9.hold _ _ o;have j:a_ (ar 3 0 [] .held 4 rows)=ar 3 0 [] .held 4 (dm rows):=rfl;rw[j]at d h2;unfold sS;rw[q];exact⟨.val _ _ d,by simpa [au] using h2⟩
def wk.kZ{h}{xs}{vs}(q:wk h xs vs):qC (xs.map (gY 4 h)) vs/\∀a∈xs.map (gY 4 h),au 0 0 0 a=V:=by
 refine⟨⟨by simp[q.1],λg x m c j=>?_⟩,λa i=>?_⟩
 .rw[ec]at c;cases d:xs[g]? with
  |none=>rw[d]at c;cases c
  |some l=>rw[d]at c;injection c with c;subst c;exact(q.2 g l m d j).1
 .obtain⟨l,d,rfl⟩:=jg.1 i;obtain⟨g,e⟩:=qI d;have f:=(aT.1 e).1;exact(q.2 g l _ e (aP (by rw[<-q.1];exact f))).2
def UB(h)(c)(k)(s)(xs)(vs)(i:wk h xs vs)(j:xs≠[]->s=1)(g:F xs<=1000)(l:F c<=1099511620000)(d:fA (.list vs)<=16)(e:F (cB (.list vs))<=1099511600000):
 W5.call 153 [.v (.string (bs c)),.list k s (xs.map λa=>[a])] h=J (.ret (I ((qh c (.list vs):Nat):Int)),h):=by
 obtain⟨f,h2⟩:=i.kZ;obtain⟨p,h',m,rfl⟩:=aib ⟨[],[],0,[]⟩ vM c (bU k) s (xs.map (gY 4 h)) vs f (λo=>j (by simpa using o)) (by simpa using g) h2 l d e;refine ag6 (B:=[.v (.string (bs c)),.list (bU k) s ((xs.map (gY 4 h)).map λa=>[a])]) O O ?_ ?_ m
 .rw[iD,iD,iD,gY,TU];rfl
 .simp only[aA,au,eo,vh _ h2,Bool.and_self]
def uW.hold{x}{v}(h:uW x v):uW (al x) v/\au 0 0 0 (al x)=V:=by
 cases h with|int n d=>exact⟨.int n d,O⟩|text k f b e c=>rw[al,al,qn];exact⟨.text _ f b e c,by simp[au,eo,jl]⟩
def tj.hold{xs}{vs}(h:tj xs vs):tj (xs.map al) vs/\∀a∈xs.map al,au 0 0 0 a=V:=by
 refine⟨⟨by simp[h.1],λg x m c j=>?_⟩,λa i=>?_⟩
 .rw[ec]at c;cases d:xs[g]? with
  |none=>rw[d]at c;cases c
  |some l=>rw[d]at c;injection c with c;subst c;exact(h.2 g l m d j).hold.1
 .obtain⟨l,d,rfl⟩:=jg.1 i;obtain⟨g,e⟩:=qI d;have f:=(aT.1 e).1;exact(h.2 g l _ e (aP (by rw[<-h.1];exact f))).hold.2
def ak0(k)(s)(xs)(vs)(g:tj xs vs)(i:xs≠[]->s=1)(f:F xs<=1000)(c:fA (.list vs)<=16)(d:F (cB (.list vs))<=1099511600000):
 ∃t,∀h,W5.call 70 [.list k s (xs.map λa=>[a])] h=J (.ret (.list t 1 (bJ (cB (.list vs)))),h):=by
 obtain⟨e,h2⟩:=g.hold;obtain⟨m,h',j,t,rfl⟩:=akZ ⟨[],[],0,[]⟩ vM (bU k) s (xs.map al) vs e (λl=>i (by simpa using l)) (by simpa using f) c d;exact⟨bU t,gE (L:=L5) (B:=[.list (bU k) s ((xs.map al).map λa=>[a])]) O (by rw[a_,a_,al,yV]) (by rw[aA,aA,au,eo,vh _ h2];rfl) j O (by simp[au,eo,jl])⟩
def Ro(c)(s0)(xs:List U)(y z)(rows)(ac who)(v:RL (.list c s0 (xs.map λa=>[a])) rows)(A:IL y ac)(B:IL z who)(j:F who<=1099511627776):
 (∃e,fG rows ac who=([],ah,e)/\∀h,W5.call 39 [.agg [.list c s0 (xs.map λa=>[a]),y],z] h=J (.ret (.tuple [.list .nil 0 [],.v (.bool ah),.v (.int .i64 e)]),h))∨
 ∃l,fG rows ac who=(l,V,0)/\F l=F rows/\∀h,W5.call 39 [.agg [.list c s0 (xs.map λa=>[a]),y],z] h=J (.ret (.tuple [.list .held 1 (ints l),.v (.bool V),.v (.int .i64 0)]),h):=by
 obtain⟨o,h2⟩:=v.hold;obtain⟨p,q⟩:=A.hold;obtain⟨r,s⟩:=B.hold;have g:a_ [.agg [.list c s0 (xs.map λa=>[a]),y],z]=[.agg [.list (bU c) s0 ((xs.map al).map λa=>[a]),al y],al z]:=by rw[a_,al,a_,a_,a_,al,yV];rfl
 have i:aA 0 0 0 [.agg [.list (bU c) s0 ((xs.map al).map λa=>[a]),al y],al z]=V:=by have u:=vh _ h2;rw[aA,au,aA,aA,aA,aA,au,eo,u,q,s];rfl
 rcases ab6 (bU c) s0 (xs.map al) (al y) (al z) rows ac who o p r j with⟨e,d,f⟩|⟨l,d,m,f⟩
 .exact .inl ⟨e,d,gE (L:=L5) O g i (f _) O O⟩
 .exact .inr ⟨l,d,m,gE (L:=L5) O g i (f _) O (by simp[au,aA,ju,oY])⟩
end Go.Proofs.YtcbhpkjbiehcpaaGreatDoor
end
