/-
  The engine, part 51: a function that gives a number and takes lists whose cells may lie in boxes: for the call these boxes are lists.
-/
import Derived.Test.YtcbhpkjbiehcpaaGreatDoorSC
open True renaming intro->br
open Bool renaming true->aa,and_eq_true->bQ,not_eq_true'->DO,false->au,false_or->Ld,false_and->A2,true_and->pF,and_eq_false_iff->abW
open List renaming contains_eq_mem->xk,getElem?_eq_some_iff->bk,set_set_perm->acN,mem_of_getElem?->dy,getElem?_set->mq,length_set->nS,mem_or_eq_of_mem_set->vO,length->F,length_map->bJ,length_cons->eZ,length_nil->gi,map_append->jN,set_eq_take_append_cons_drop->yQ,getElem_of_mem->acw,mem_append->yP,mem_of_mem_take->Bf,mem_map->iX,getElem?_of_mem->sS,length_append->de,length_take->dJ,range->bT,range_succ->lP,foldl_append->ot,getElem?_eq_getElem->aY,getElem?_map->eF,getD_eq_getElem?_getD->fg,mem_cons_self->gt,getElem?_set_self->Sa,mem_singleton->iL,take_succ_cons->dY,take_zero->dG,mem_cons_of_mem->gr,replicate->bR,replicate_succ->D_,append_nil->iB,getElem?_append_left->rC,getElem?_concat_length->Ba,take_of_length_le->fK,take_length->gy,any_append->Lu,any_eq_true->Lv,nil_append->eP,any_eq_false->R7,length_replicate->nj,getElem?_zipIdx->acv,mem_cons->hh,all_eq_true->ff,getElem?_drop->rD,foldl_nil->DX,map_replicate->yO,map_eq_nil_iff->Be,mem_range->hy,length_eq_zero_iff->acz,getElem_mem->jf,filter_append->A_,filter_cons->Lz,map_cons->dR,length_filter_le->Bc,drop_eq_getElem_cons->uw,drop_of_length_le->oo,map_inj_right->LK,mem_filter->rE,all_append->qP,all_eq_false->Hd,cons_append->eY,any_cons->acj,all_cons->DV,flatten_cons->kJ,getElem?_take->o0,ext_getElem?->oq,getElem?_eq_none->sQ
open Nat renaming le_trans->fB,mul_le_mul->kL,zero_add->nT,zero_le->cC,not_lt_zero->qT,reduceEqDiff->aT,le_refl->bh,lt_or_ge->eg,lt_irrefl->Sk,sub_self->sW,mul_one->mr,succ_ne_zero->Sr
open Option renaming some->J,map_some->gc,none->aq
open Go.Proofs.Tryz renaming prog->ag,underlying23->dp,underlying207->Ej,underlying22->gZ,func164->adk,func91->adz,func89->ady,func133->adj,underlying116->mw,underlying177->adA
open And renaming intro->ar
open Int renaming le_refl->DT,toNat_natCast->fe,lt_trans->ab6,zero_sub->aci
open Go renaming FuncId->a_
open Decidable renaming not_not->Lp
open Int renaming natCast_zero->uu,sub_zero->RZ
open List renaming drop_append->yJ,drop_replicate->Lx,flatten_append->ux,mem_flatten->acF,not_mem_nil->qR,take_append_drop->xq,take_left'->vP
open Nat renaming eq_zero_or_pos->LR
set_option maxHeartbeats 64000000
set_option maxRecDepth 100000
set_option linter.unusedSimpArgs false
set_option linter.unusedVariables false
set_option linter.constructorNameAsVariable false
set_option linter.defProp false
section
namespace Go.Proofs.YtcbhpkjbiehcpaaGreatDoor
open Go.AE Go.NT
structure GM(S:List Nat)(n0:Nat)(h h':ah)(t:Tok):Prop where
 mu:gj S n0 h h'
 can:dm n0 h' t
 ok:du h'=aa
section
variable {S S':List Nat} {n0:Nat} {h h' h2:ah} {t k:Tok}
def aga(m:∀n,gj S n h h')(c:dm n0 h t):dm n0 h' t:=by
 rcases c with q|q|⟨g,q,i,e⟩
 .exact .inl q
 .exact .inr (.inl q)
 .refine .inr (.inr ⟨g,q,i,?_⟩);have d:=qV e;unfold alive at *
  simp only[bQ,DO,xk,decide_eq_false_iff_not,decide_eq_true_eq]at *
  exact⟨Nat.lt_of_lt_of_le d (m 0).tn,λf=>e.2 ((m (g+1)).dead g (Nat.lt_succ_self _) f)⟩
def GM.then(g:GM S n0 h h' t)(m:∀n,gj S n h' h2):GM S n0 h h2 t:=⟨g.mu.trans (m n0),aga m g.can,(m 0).ok g.ok⟩
def GM.app(g:GM S n0 h h' t)(c:n0<=h.tn):GM S n0 h (h'.app t) (.free h'.tn):=by have G:=Grown.one (n0:=n0) g.can g.ok (fB c g.mu.tn);exact⟨g.mu.trans G.PD,G.can,G.ok⟩
def GM.refl(c:dm n0 h t)(d:du h=aa):GM S n0 h h t:=⟨.refl,c,d⟩
end
def sf:Tryz.f169.results.toList=[.tmp 4]:=aB
def jh.swap{H}{o w i j bi f}{B}{t}{a b}(T:jh H o B t w)(hi:B[i]?=J bi)(p:B[j]?=J f)(v:t[i]?=J a)(y:t[j]?=J b):
 jh (H.put o (((B.set i f).set j bi).map λb=>V.arr b 0 w w)) o ((B.set i f).set j bi) ((t.set i b).set j a) w:=by
 have g:=(bk.1 hi).1;have l:=(bk.1 p).1;have A:=(bk.1 T.iC).1;have e:((B.set i f).set j bi).Perm B:=by
  have q:=acN g l
  rwa [show B[j]=f from(bk.1 p).2,show B[i]=bi from(bk.1 hi).2]at q
 have m:∀x,x∈(B.set i f).set j bi->x∈B:=λx r=>e.mem_iff.1 r;refine⟨dM A,by simp[T.len],(e.nodup_iff).2 T.nd,λk D E d c=>?_,λE c=>?_,λr=>T.M (m _ r)⟩
 .have C:D≠o:=λL=>T.M (m _ (by rw[<-L];exact dy d));rw[cS C];rw[mq]at d c;rw[nS]at d c;by_cases s:j=k
  .subst s;rw[aH O,aH l]at d;rw[aH O,aH (by rw[<-T.len];exact l)]at c;injection d with d;injection c with c;subst d;subst c;exact T.row i _ _ hi v
  .rw[aV s]at d c;rw[mq]at d c;by_cases u:i=k
   .subst u;rw[aH O,aH g]at d;rw[aH O,aH (by rw[<-T.len];exact g)]at c;injection d with d;injection c with c;subst d;subst c;exact T.row j _ _ p y
   .rw[aV u]at d c;exact T.row k _ _ d c
 .rcases vO c with q|q
  .rcases vO q with q|q
   .exact T.wid E q
   .rw[q];exact T.wid _ (dy y)
  .rw[q];exact T.wid _ (dy v)
def p_(x):fC ag 23 1 [(0,((x:Int):V))]=J (.ac .aP 1 [[((x:Int):V)]]):=aB
def vY{H}{k}{n0 sz}{es}{x}(o:F es<1099511627776)(f:sz=1∨(es=[]/\k=.nil))(e:dm n0 H k):
 gC ag H #[23,23] (.ac k sz (aF es)) (.ac .aP 1 [[((x:Int):V)]])=J (.ac (.free H.tn) 1 (aF (es++[x])),H.app k):=by
 obtain⟨l,g,c,i,j⟩:=Ar;have m:=kL (af:F es+1<=1099511627776) i;have:=yZ (t0:=23) (t1:=23) (n0:=n0) (i:=l) (sz:=sz) (es:=aF es) (new:=aF [x]) (x:=.ac .aP 1 (aF [x])) dp (.inl ⟨_,dp⟩) g af (by rw[c];exact j) (by rw[c];rfl) (by simp[aF])
  (by simp only[aF,bJ,eZ,gi,nT];omega) (by simp only[aF,bJ,eZ,gi];omega) (f.imp (λd=>d.trans c.symm) λd=>⟨by rw[d.1];rfl,d.2⟩) e
 rw[c]at this;unfold aF at *
 rw[jN];exact this
def aa1{H}{b k x w}{B:List Nat}(d:H.I[b]?=J (B.map λb=>V.arr b 0 w w))(c:k<F B):b9 ag H 23 (.ptr (.box b) k) (.arr x 0 w w)=J (H.put b ((B.set k x).map λb=>V.arr b 0 w w)):=by rw[fI (xs:=[V.arr x 0 w w]) O iA d O (by rw[bJ];exact c)];congr 2;unfold ej;rw[List.map_set,yQ,aH (by rw[bJ];exact c)];simp
def amL{n}{a b}:∀x∈ir n a b,okF x:=by intro x c;unfold ir at c;obtain⟨e,d,rfl⟩:=acw c;rw[List.getElem_zipWith];exact Ii _
def agJ{c}{a own}(h:∀x∈a,okF x):∀x∈tt c a own,okF x:=by
 intro x d;unfold tt at d;split at d
 .exact h x d
 .rcases yP.1 d with q|q
  .exact h x (Bf q)
  .exact amL x q
def atV{c}{a}{n}(h:∀x∈a,okF x):∀x∈gX c a n,okF x:=by
 intro x d;unfold gX at d;rcases yP.1 d with q|q
 .exact h x (Bf q)
 .obtain⟨e,-,rfl⟩:=iX.1 q;exact EP _ _
def agN{c r j}{own}{t}(h:∀a∈t,∀x∈a,okF x):∀a∈pj c own r j t,∀x∈a,okF x:=by
 intro a f;obtain⟨i,d⟩:=sS f;rw[uK]at d;cases g:t[i]? with
 |none=>rw[g]at d;cases d
 |some l=>
  rw[g,gc]at d;injection d with d;have e:=h l (dy g);rw[<-d];split
  .exact agJ e
  .exact e
def aaI{c}{a}{n}(d:c<=F a):F (gX c a n)=F a:=by unfold gX;rw[de,bJ,dJ,List.length_drop];omega
def dn(pv:List Nat):List Int:=pv.map λ(c:Nat)=>(c:Int)
def pR(t:List (List Int))(c:Nat):List (List Int) × List Nat:=(bT c).foldl vC (t,[])
def aah(t)(c):pR t (c+1)=vC (pR t c) c:=by unfold pR;rw[lP,ot];rfl
def aag{t}{w}(g:∀a∈t,F a=w)(i:∀a∈t,∀x∈a,okF x):∀c,c<=w->uz w c (pR t c)/\F (pR t c).1=F t/\F (pR t c).2<=F t:=by
 intro c
 induction c with
 |zero=>exactλ_=>⟨⟨g,i,λ_ _ _ _ s o=>by omega⟩,O,cC _⟩|succ c l=>
  intro m;obtain⟨d,e,j⟩:=l af;rw[aah];refine⟨by rw[abb d af];exact KC d af,?_⟩;unfold vC;cases f:ny (pR t c).1 (F (pR t c).2) c with|none=>exact⟨e,j⟩|some k=>obtain⟨p,q,r⟩:=zF f;refine⟨by simp[e],?_⟩;simp only[de,eZ,gi];omega
def OZ(pv):F (aF (dn pv))=F pv:=by unfold aF dn;simp
def aaf(t)(many):Dj t many=pR t many:=rfl
def aqA(h:ah)(e:Nat)(B:List Nat)(t:List (List Int))(w many:Nat)(T:jh h e B t w)(hm:many<=w)(hw:w<=1000000)(hn:F t<=1000000)(fR:∀r∈t,∀x∈r,okF x)(ho:du h=aa):
 ∃r h',W2.call 169 [.arr e 0 (F t) (F t),im (many:Nat)] h=J (r,h')/\∃(k:Tok) (s:Nat) (B':List Nat),r=.ret (.ac k s (aF (dn (Dj t many).2)))/\(s=1∨(dn (Dj t many).2=[]/\k=.nil))/\jh h' e B' (Dj t many).1 w/\B'.Perm B/\GM (e::B) h.tn h h' k:=by
 have kT:=aj.mk T;have kok:=aj.mk fR;have kBl:aj (∀b∈B,b<F h.I):=⟨λb L=>by obtain⟨u,hi⟩:=sS L;have e_:=(bk.1 hi).1;exact(bk.1 (T.row u b _ hi (aY (by rw[<-T.len];exact e_)))).1⟩;have z3:=KT;have bx1:∀b n z4:Nat,(V.arr b 0 n z4).bP=J [.arr b 0 n z4]:=λ_ _ _=>rfl;have bx2:∀n:Int,(V.v (.int .i64 n)).bP=J [((n:Int):V)]:=λ_=>rfl;have g0:GM (e::B) h.tn h (h.push [.arr e 0 (F t) (F t)]) .nil:=⟨gj.refl.push _,.inl O,ho⟩;have T0:jh (h.push [.arr e 0 (F t) (F t)]) e B t w:=T.mono λ_ _ q=>aX q;have p0:(h.push [.arr e 0 (F t) (F t)]).I[F h.I]?=J [.arr e 0 (F t) (F t)]:=aU _ _;have r0:uz w 0 (pR t 0):=⟨T.wid,fR,λ_ _ _ _ _ q=>absurd q (qT _)⟩;have kk:=aj.mk (ar g0 (ar T0 (ar p0 r0)));clear g0 T0 p0 r0 T fR ho;unfold im at *
 refine cA O Tryz.func169 O ?_;refine bF @sf @bC ?_;refine bM.gen λN o ja fM eS=>?_;have q2:N.get 2=.ptr (.box (F h.I)) 0:=by rw[o];exact gS
 have q4:N.get 4=.ac .nil 0 (aF (dn [])):=by rw[o];exact gR
 have q13:N.get 13=(many:Nat):=by rw[o];exact gS
 have q14:N.get 14=(0:Nat):=by rw[o];exact gR
 have qd:N.defers=[]:=by rw[ja];exact gS
 clear o ja fM eS;refine cJ (λz4 z0 y=>∃(g:Nat) (B':List Nat) (k:Tok) (s:Nat),g<=many/\z4=many-g/\jh y e B' (pR t g).1 w/\B'.Perm B/\y.I[F h.I]?=J [.arr e 0 (F t) (F t)]/\z0.get 2=.ptr (.box (F h.I)) 0/\z0.get 4=.ac k s (aF (dn (pR t g).2))/\(s=1∨(dn (pR t g).2=[]/\k=.nil))/\z0.get 13=(many:Nat)/\z0.get 14=(g:Nat)/\z0.defers=[]/\GM (e::B) h.tn h y k) ?_ many _ _ ?_;rotate_left 1
 .exact⟨0,B,.nil,0,cC _,O,kk.M.2.1,.refl _,kk.M.2.2.1,q2,q4,.inr ⟨O,O⟩,q13,q14,qd,kk.M.1⟩
 clear kk q2 q4 q13 q14 qd;rintro z4 z0 y ⟨g,B',tk,s,hc,rfl,T',hP,mC,g2,g4,hs,g13,g14,hd,hG⟩;have kT':=aj.mk T';have kP:=aj.mk hP;have ks:=aj.mk hs;have kG:=aj.mk hG;obtain⟨z6,i2,i3⟩:=aag kT.M.wid kok.M g af;have kR:=aj.mk z6;clear T' hP hG z6;by_cases dD:g<many;rotate_left 1
 .have:g=many:=by omega
  subst this;clear mC i2 i3 hs;refine bD @sf ?_;refine⟨_,_,O,tk,s,B',?_⟩;rw[aaf];exact⟨O,ks.M,kT'.M,kP.M,kG.M⟩
 have rS:=aah t g;generalize iq:pR t g=st at *
 obtain⟨t',c⟩:=st;dsimp only at *
 have mX:=OZ c;have u23:=dp;have u203:=Ej;have s0:∀n,b9 ag (y.push [.v (.int .i64 0)]) 3 (.ptr (.box (F y.I)) 0) ((n:Int):V)=J (y.push [((n:Int):V)]):=λn=>j3 O fa O O;have l0:∀n,aL ag Gt (y.push [((n:Int):V)]) 3 (.ptr (.box (F y.I)) 0)=J ((n:Int):V):=λn=>mh (aU _ _);refine bF @sf @bC ?_;refine bM.gen λN o ja fM eS=>?_;have f2:N.get 2=.ptr (.box (F h.I)) 0:=by rw[o];simp only[gW,reduceIte,aT,aN,g2]
 have f4:N.get 4=.ac tk s (aF (dn c)):=by rw[o];simp only[gW,reduceIte,aT,aN,g4]
 have f5:N.get 5=(g:Nat):=by rw[o];simp only[gW,reduceIte,aT,aN,g14]
 have f6:N.get 6=.ptr (.box (F y.I)) 0:=by rw[o];exact gS
 have f7:N.get 7=(F c:Nat):=by rw[o];exact gS
 have f13:N.get 13=(many:Nat):=by rw[o];simp only[gW,reduceIte,aT,aN,g13]
 have f14:N.get 14=(g:Nat):=by rw[o];simp only[gW,reduceIte,aT,aN,g14]
 have fd:N.defers=[]:=by rw[ja];simp only[gW,reduceIte,aT,aN];exact hd
 clear o ja fM eS g2 g4 g13 g14 hd;have T2:jh (y.push [((F c:Nat):V)]) e B' t' w:=kT'.M.mono λ_ _ q=>aX q;have G2:GM (e::B) h.tn h (y.push [((F c:Nat):V)]) tk:=kG.M.then λ_=>gj.refl.push _;have b2:(y.push [((F c:Nat):V)]).I[F h.I]?=J [.arr e 0 (F t) (F t)]:=aX mC;have b3:(y.push [((F c:Nat):V)]).I[F y.I]?=J [((F c:Nat):V)]:=aU _ _;have E6:F (y.push [((F c:Nat):V)]).I=F y.I+1:=bV _ _;have hhl:F h.I<F y.I:=(bk.1 mC).1;generalize y.push [((F c:Nat):V)]=H2 at *
 clear kT' kG s0 l0 mC;have m:=aj.mk T2;have kG2:=aj.mk G2;have kl:=aj.mk E6;have l2:=vk b2;have l3:=mh b3;have kb2:=aj.mk b2;have kb3:=aj.mk b3;clear T2 G2 E6 b2 b3;generalize hHn:F y.I=hl at *
 clear hHn;refine cJ (λz4 z0 l=>∃E:Nat,F c<=E/\E<=F t/\z4=F t-E/\aj (∀k,F c<=k->k<E->al (t'.getD k []) g=0)/\z0.get 2=.ptr (.box (F h.I)) 0/\z0.get 4=.ac tk s (aF (dn c))/\z0.get 5=(g:Nat)/\z0.get 6=.ptr (.box hl) 0/\z0.get 7=(E:Nat)/\z0.get 13=(many:Nat)/\z0.get 14=(g:Nat)/\z0.defers=[]/\l=H2) ?_ (F t-F c) _ _ ?_;rotate_left 1
 .exact⟨F c,bh _,i3,O,⟨λk h1 h2=>absurd h1 af⟩,f2,f4,f5,f6,f7,f13,f14,fd,O⟩
 clear f2 f4 f5 f6 f7 f13 f14 fd;rintro z4 e3 H2 ⟨E,WD,WE,rfl,kz,g2,g4,g5,g6,g7,g13,g14,hd,rfl⟩;by_cases wm:E<F t;rotate_left 1
 .have oJ:E=F t:=by omega
  subst oJ;have zY:=Ie (t:=t') (c:=g) WD af kz.M (λq=>absurd q af);rw[aH af]at zY;have iq:pR t (g+1)=(t',c):=by rw[rS];unfold vC;simp only[zY]
  have khst:=aj.mk iq;clear zY iq rS;refine bD @sf ?_;refine⟨many-(g+1),by omega,g+1,B',tk,s,by omega,O,?_⟩;rw[khst.M];exact⟨m.M,kP.M,kb2.M,br,O,ks.M,br,by simp,br,kG2.M⟩
 obtain⟨b,L⟩:∃b,t'[E]?=J b:=⟨_,aY af⟩;obtain⟨d,A⟩:∃b,B'[E]?=J b:=⟨_,aY (by rw[m.M.len];omega)⟩;have wb:=m.M.wid b (dy L);have C:=m.M.row E d b A L;have ixj:=CF (b:=e) (len:=t.length) (ba:=t.length) (k:=.i64) wm;have ixc:=oO (b:=d) (len:=w) (ba:=w) (k:=.i64) (af:g<w);have NW:(B'.map λb=>V.arr b 0 w w)[E]?=J (.arr d 0 w w):=by rw[eF,A];rfl
 have m1:=rn m.M.iC NW;have m2:=wz C (vn (k:=g) af);have gDj:t'.getD E []=b:=by rw[fg,L];rfl
 have khr:=aj.mk C;clear C;by_cases D:al b g=0
 .have qA:∀k,F c<=k->k<E+1->al (t'.getD k []) g=0:=by
   intro k h1 h2;rcases eg k E with q|q
   .exact kz.M k h1 q
   .rw[(af:k=E),gDj];exact D
  have kz2:=aj.mk qA;rw[D]at m2;clear qA kz gDj D NW rS;unfold im at *
  refine bD @sf ?_;exact⟨F t-(E+1),by omega,E+1,by omega,by omega,O,kz2,br,br,br,br,by simp,br,br,br,br⟩
 have zY:=Ie (t:=t') (c:=g) WD af kz.M (λ_=>by rw[gDj];exact D);rw[aV af]at zY;obtain⟨z5,ho⟩:∃b,t'[F c]?=J b:=⟨_,aY af⟩;obtain⟨bo,xT⟩:∃b,B'[F c]?=J b:=⟨_,aY (by rw[m.M.len];omega)⟩;have u7:=au1 zY L ho;rw[<-rS]at u7;have kgo:=aj.mk u7;have kne:=aj.mk D;have okb:=kR.M.ok b (dy L);have nz:=wH (ph okb g);have ixr:=CF (b:=e) (len:=t.length) (ba:=t.length) (k:=.i64) (af:F c<F t);have Wr:(B'.map λb=>V.arr b 0 w w)[F c]?=J (.arr bo 0 w w):=by rw[eF,xT];rfl
 have m3:=rn m.M.iC Wr;have T3:=jh.swap m.M xT A ho L;have nb1:d<F h.I:=kBl.M d (kP.M.mem_iff.1 (dy A));have nb2:e≠d:=λz0=>m.M.M (by rw[z0];exact dy A);have ayE:=(bk.1 kT.M.iC).1;have WO:F h.I≠e:=by omega
 have akz:hl≠e:=by omega
 have s1:=aa1 (w:=w) (x:=d) (k:=c.length) m.M.iC (by rw[m.M.len];omega);have jQ:(H2.put e ((B'.set (F c) d).map λb=>V.arr b 0 w w)).I[e]?=J ((B'.set (F c) d).map λb=>V.arr b 0 w w):=dM (bk.1 m.M.iC).1;have s2:=aa1 (w:=w) (x:=bo) (k:=E) jQ (by rw[nS,m.M.len];omega);rw[JV]at s2;have l2b:aL ag Gt (H2.put e ((B'.set (F c) d).map λb=>V.arr b 0 w w)) 207 (.ptr (.box (F h.I)) 0)=J (.arr e 0 (F t) (F t)):=vk ((cS WO).trans kb2.M);have G3:GM (e::B) h.tn h (H2.put e (((B'.set (F c) d).set E bo).map λb=>V.arr b 0 w w)) tk:=kG2.M.then λ_=>.put (gt) _;have b2:(H2.put e (((B'.set (F c) d).set E bo).map λb=>V.arr b 0 w w)).I[F h.I]?=J [.arr e 0 (F t) (F t)]:=(cS WO).trans kb2.M;have b3:(H2.put e (((B'.set (F c) d).set E bo).map λb=>V.arr b 0 w w)).I[hl]?=J [((F c:Nat):V)]:=(cS akz).trans kb3.M;have Nw:F (H2.put e (((B'.set (F c) d).set E bo).map λb=>V.arr b 0 w w)).I=F H2.I:=jV _ _ _;have Ix:((B'.set (F c) d).set E bo).Perm B:=by have q:=acN (bk.1 xT).1 (bk.1 A).1;rw[show B'[E]'(bk.1 A).1=d from(bk.1 A).2,show B'[c.length]'(bk.1 xT).1=bo from(bk.1 xT).2]at q;exact q.trans kP.M
 have H:((B'.set (F c) d).set E bo)[F c]?=J d:=by
  rw[mq];by_cases q:E=F c
  .rw[aH q,aH (by rw[nS,m.M.len];omega)];rw[q,xT]at A;exact A
  .rw[aV q,Sa (bk.1 xT).1]
 have Aj:((t'.set (F c) b).set E z5)[F c]?=J b:=by
  rw[mq];by_cases q:E=F c
  .rw[aH q,aH (by rw[nS];omega)];rw[q,ho]at L;exact L
  .rw[aV q,Sa af]
 have Xv:F ((t'.set (F c) b).set E z5)=F t:=by rw[nS,nS];exact i2
 have WS:∀a∈(t'.set (F c) b).set E z5,∀x∈a,okF x:=by
  intro a ha;rcases vO ha with q|q
  .rcases vO q with q|q
   .exact kR.M.ok a q
   .rw[q];exact okb
  .rw[q];exact kR.M.ok z5 (dy ho)
 have kok3:=aj.mk (ar WS (ar okb Xv));clear WS Xv;generalize (t'.set (F c) b).set E z5=t3 at *
 generalize (B'.set (F c) d).set E bo=Z at *
 obtain⟨l,xP⟩:∃l,H2.put e (Z.map λb=>V.arr b 0 w w)=l:=⟨_,O⟩;rw[xP]at s2 T3 G3 b2 b3 Nw;have kP3:=aj.mk Ix;clear xP jQ Ix u7 zY kz gDj L ho rS iq;have l23:=vk b2;have l33:=mh b3;have rg:(Z.map λb=>V.arr b 0 w w)[F c]?=J (.arr d 0 w w):=by rw[eF,H];rfl
 have m13:=rn T3.iC rg;have Ow:=T3.row (F c) d b H Aj;have m23:=wz Ow (vn (k:=g) af);have xW:fmod (al b g)=al b g:=BX (ph okb g);have ci:=λh=>alL (al b g) h;rw[xW]at ci;simp only[aV D]at ci;have kokz:aj (0<=e8 (al b g)/\e8 (al b g)<=9223372036854775807):=⟨wH (M_ _)⟩;have ax1:e<F l.I:=(bk.1 T3.iC).1;have ax5:d<F l.I:=(bk.1 Ow).1;have hh3:F h.I<F l.I:=(bk.1 b2).1;have ayg:hl<F l.I:=(bk.1 b3).1;generalize hz:al b g=z at *
 have kfz:aj (okF (e8 z)):=⟨M_ _⟩;generalize hf:e8 z=i at *
 have s5:b9 ag (l.push [.v (.int .i64 0)]) 3 (.ptr (.box (F l.I)) 0) ((i:Int):V)=J (l.push [((i:Int):V)]):=j3 O fa O O;have T4:jh (l.push [((i:Int):V)]) e Z t3 w:=T3.mono λ_ _ q=>aX q;have G4:GM (e::B) h.tn h (l.push [((i:Int):V)]) tk:=G3.then λ_=>gj.refl.push _;have b24:(l.push [((i:Int):V)]).I[F h.I]?=J [.arr e 0 (F t) (F t)]:=aX b2;have b34:(l.push [((i:Int):V)]).I[hl]?=J [((F c:Nat):V)]:=aX b3;have b44:(l.push [((i:Int):V)]).I[F l.I]?=J [((i:Int):V)]:=aU _ _;have EY:F (l.push [((i:Int):V)]).I=F l.I+1:=bV _ _;have kH3:=aj.mk Nw;obtain⟨p,zL⟩:∃p,l.push [((i:Int):V)]=p:=⟨_,O⟩;rw[zL]at s5 T4 G4 b24 b34 b44 EY;have l24:=vk b24;have l34:=mh b34;have m14:=rn T4.iC rg;have Y:=S7 d w g p;have kT4:=aj.mk T4;have kG4:=aj.mk G4;have kb4:=aj.mk (ar b24 (ar b34 (ar b44 (ar EY (ar H Aj)))));unfold im at Y m2 m23 ci;clear zL T4 G4 b24 b34 b44 EY T3 G3 b2 b3 Nw Ow rg H Aj xW NW Wr xT A;refine bD @sf ?_;refine jY [(2,13)] xz aB (λz7 hp=>?_) ?_
 .simp only[iL]at hp;subst hp;refine jL (x:=.ptr (.box (F h.I)) 0) (v:=.arr e 0 (F t) (F t)) aB O O O aB (by simp[dh,iz]) ?_ ?_<;>(simp only[dY,dG];exact f_ @sf @and_self)
 refine bD @sf ?_;refine bM.gen λe4 R tG Ae Ai=>?_;have f2:e4.get 2=.ptr (.box (F h.I)) 0:=by rw[R];simp only[gW,reduceIte,aT,aN];exact g2
 have f4:e4.get 4=.ac tk s (aF (dn c)):=by rw[R];simp only[gW,reduceIte,aT,aN];exact g4
 have f5:e4.get 5=(g:Nat):=by rw[R];simp only[gW,reduceIte,aT,aN];exact g5
 have f6:e4.get 6=.ptr (.box hl) 0:=by rw[R];simp only[gW,reduceIte,aT,aN];exact g6
 have f8:e4.get 8=.ptr (.box (F l.I)) 0:=by rw[R];exact gS
 have f13:e4.get 13=(many:Nat):=by rw[R];simp only[gW,reduceIte,aT,aN];exact g13
 have f14:e4.get 14=(g:Nat):=by rw[R];simp only[gW,reduceIte,aT,aN];exact g14
 have f70:e4.get 70=.func (.func 249) [] [.ptr (.box (F p.I+1)) 0,.ptr (.box (F p.I)) 0]:=by rw[R];exact gS
 have fd:e4.defers=[]:=by rw[tG];simp only[gW,reduceIte,aT,aN];exact hd
 clear R tG Ae Ai g2 g4 g5 g6 g7 g13 g14 hd;refine Gu (by rw[BS];exact f70) λrec w1 w2 w3 w4 w5 w6=>?_;obtain⟨b24,b34,b44,EY,H,Aj⟩:=kb4.M;have T5:jh ((p.push [.arr d 0 w w]).push [((g:Nat):V)]) e Z t3 w:=kT4.M.mono λ_ _ q=>aX (aX q);have G5:GM (e::B) h.tn h ((p.push [.arr d 0 w w]).push [((g:Nat):V)]) tk:=kG4.M.then λ_=>(gj.refl.push _).push _;have b25:((p.push [.arr d 0 w w]).push [((g:Nat):V)]).I[F h.I]?=J [.arr e 0 (F t) (F t)]:=aX (aX b24);have b35:((p.push [.arr d 0 w w]).push [((g:Nat):V)]).I[hl]?=J [((F c:Nat):V)]:=aX (aX b34);have b45:((p.push [.arr d 0 w w]).push [((g:Nat):V)]).I[F l.I]?=J [((i:Int):V)]:=aX (aX b44);have b55:((p.push [.arr d 0 w w]).push [((g:Nat):V)]).I[F p.I]?=J [.arr d 0 w w]:=aX (aU _ _);have b65:((p.push [.arr d 0 w w]).push [((g:Nat):V)]).I[F p.I+1]?=J [((g:Nat):V)]:=nB (by rw[bV]);have ajL:F ((p.push [.arr d 0 w w]).push [((g:Nat):V)]).I=F p.I+2:=by rw[bV,bV]
 generalize (p.push [.arr d 0 w w]).push [((g:Nat):V)]=j at *
 clear l2 l3 l23 l33 m1 m2 m3 m13 m23 ci s1 s2 l2b s5 l24 l34 m14 Y kb4 kT4 kG4 kb2 kb3 m kG2 khr;have C:=T5.row (F c) d b H Aj;have qr:=(bk.1 C).1;have nW:(j.loop rec).aI[F j.aI]?=J rec:=@FO j rec;have I1:∀(k:Nat) (y:ah),y=(j.loop rec).put d ((jC (λu=>cV (al b u) i) b g k).map im)->y.I[F p.I+1]?=J [im (g:Nat)]/\y.I[F p.I]?=J [.arr d 0 w w]/\(k<w->∃cs,y.I[d]?=J cs/\cs[k]?=J (im (al b k))):=by
  rintro k y rfl;refine⟨?_,?_,λhk=>⟨_,dM qr,?_⟩⟩
  .rw[cS af];exact b65
  .rw[cS af];exact b55
  .have:=vn (r:=jC (λu=>cV (al b u) i) b g k) (k:=k) (by rw[qi];omega);rw[BF af,aV af]at this;exact this
 have I2:∀(k:Nat) (y:ah),g<=k->k<w->y=(j.loop rec).put d ((jC (λu=>cV (al b u) i) b g k).map im)->∃H',W2.round (F j.aI) [im (k:Nat),im (al b k)] y=J (.ret (aa:V),H')/\H'=(j.loop rec).put d ((jC (λu=>cV (al b u) i) b g (k+1)).map im):=by
  rintro k y Fk IN rfl;refine Qt (Post:=λy=>y=(j.loop rec).put d ((jC (λu=>cV (al b u) i) b g (k+1)).map im)) nW (by rw[w2];rfl) w5 w6 ?_;have kq:=UH (f:=λu=>cV (al b u) i) Fk (af:k<F b);have r1:∀t,(oe (F j.aI) rec [im (k:Nat),im (al b k)]).get t=if 72=t then im (al b k) else if 71=t then im (k:Nat) else e4.get t:=λt=>J7 w2 w1
  have d1:(oe (F j.aI) rec [im (k:Nat),im (al b k)]).defers=[]:=rfl;obtain⟨K,hK⟩:∃K,((j.loop rec).put d ((jC (λu=>cV (al b u) i) b g k).map im)).busy (F j.aI) rec=K:=⟨_,O⟩;rw[hK];have c1:K.I[d]?=J ((jC (λu=>cV (al b u) i) b g k).map im):=by rw[<-hK];exact dM qr
  have c2:K.I[F h.I]?=J [.arr e 0 (F t) (F t)]:=by rw[<-hK];exact(cS af).trans b25
  have c3:K.I[hl]?=J [((F c:Nat):V)]:=by rw[<-hK];exact(cS af).trans b35
  have c4:K.I[F l.I]?=J [im i]:=by rw[<-hK];exact(cS af).trans b45
  have c5:K.I[e]?=J (Z.map λb=>V.arr b 0 w w):=by rw[<-hK];exact(cS nb2).trans T5.iC
  have rg:(Z.map λb=>V.arr b 0 w w)[F c]?=J (.arr d 0 w w):=by rw[eF,H];rfl
  have m2:=vk c2;have m3:=mh c3;have m4:=mh c4;have m5:=rn c5 rg;have FL:=oO (b:=d) (len:=w) (ba:=w) (k:=.i64) IN;have sk:=vB (r:=jC (λu=>cV (al b u) i) b g k) (k:=k) (x:=cV (al b k) i) c1 (by rw[qi];omega);rw[kq]at sk;have tW:=wH (ph okb k);have f1:=λh=>Py (al b k) i h;clear C b25 b35 b45 b55 b65 T5 G5 c1 c2 c3 c4 c5 kq rg I1 okb f70 ixj ixc;generalize cV (al b k) i=z1 at *
  generalize al b k=z2 at *
  unfold im at *
  rw[w3,w4];refine xO ?_;refine⟨br,br,?_⟩;refine bM.gen λe2 qt jQ oL Cs=>?_;have q2:e2.get 2=.ptr (.box (F h.I)) 0:=by rw[qt];simp only[gW,reduceIte,aT,aN,r1];exact f2
  have q6:e2.get 6=.ptr (.box hl) 0:=by rw[qt];simp only[gW,reduceIte,aT,aN,r1];exact f6
  have q8:e2.get 8=.ptr (.box (F l.I)) 0:=by rw[qt];simp only[gW,reduceIte,aT,aN,r1];exact f8
  have q10:e2.get 10=(k:Int):=by rw[qt];simp only[gW,reduceIte,aT,aN,r1]
  have q11:e2.get 11=(z2:Int):=by rw[qt];simp only[gW,reduceIte,aT,aN,r1]
  clear qt jQ oL Cs r1 d1
  repeat' (first|simp(maxSteps:=9999999) (disch:=first|exact dZ|fail) only[gW,reduceIte,aT,aN, *]|(refine dX ?_ ?_<;>(intro _;try omega))|refine dW xz aB ?_)
  rw[<-hK];simp only[ah.put,ah.busy,ah.loop,List.set_set];exact⟨br,br,br⟩
 obtain⟨h',c1,c2⟩:=S8 (F j.aI) (F p.I+1) (F p.I) d w g b (λk y=>y=(j.loop rec).put d ((jC (λu=>cV (al b u) i) b g k).map im)) I1 I2 af hw ((j.loop rec).put d ((jC (λu=>cV (al b u) i) b g g).map im)) O;have e3:j.loop rec=(j.loop rec).put d ((jC (λu=>cV (al b u) i) b g g).map im):=by rw[UI];exact(ju (h:=j.loop rec) C).symm
 rw[<-e3]at c1;have e4':jC (λu=>cV (al b u) i) b g w=gX g b i:=by rw[<-wb];exact ahw af
 rw[e4']at c2;subst c2;clear e3 I1 I2 e4';refine⟨_,_,c1,rec,nW,by rw[w5];decide,.inl ⟨w6,?_⟩⟩;clear c1;have B9:F h.aI<=F j.aI:=by
  have:=G5.mu.loop;rcases eg (F j.aI) (F h.aI) with q|q
  .have:=(bk.1 (this _ _ (aY q))).1;omega
  .exact q
 have okt:=kok3.M;have E9:d∈B:=kP3.M.mem_iff.1 (dy H);have T6:jh (((j.loop rec).put d ((gX g b i).map im)).fV (F j.aI) {rec with state:=.exhausted}) e Z (t3.set (F c) (gX g b i)) w:=by have q:=jh.set (H:=j.loop rec) (T5.mono λ_ _ q=>q) H (r:=gX g b i) (by rw[aaI af];exact wb);exact q.mono λ_ _ q=>q
 have G6:GM (e::B) h.tn h (((j.loop rec).put d ((gX g b i).map im)).fV (F j.aI) {rec with state:=.exhausted}) tk:=⟨((G5.mu.CQ rec).trans (.put (gr _ E9) _)).fV B9 _,G5.can,G5.ok⟩;have b26:(((j.loop rec).put d ((gX g b i).map im)).fV (F j.aI) {rec with state:=.exhausted}).I[F h.I]?=J [.arr e 0 (F t) (F t)]:=(cS af).trans b25;have b36:(((j.loop rec).put d ((gX g b i).map im)).fV (F j.aI) {rec with state:=.exhausted}).I[hl]?=J [((F c:Nat):V)]:=(cS af).trans b35;have W_:(t3.set (F c) (gX g b i))[F c]?=J (gX g b i):=Sa (bk.1 Aj).1;have ok4:∀a∈t3.set (F c) (gX g b i),∀x∈a,okF x:=by
  intro a ha;rcases vO ha with q|q
  .exact okt.1 a q
  .rw[q];exact atV okb
 have Fl:F (t3.set (F c) (gX g b i))=F t:=by rw[nS];exact okt.2.2
 have u7:=kgo.M;rw[i2]at u7;have T7:jh (((j.loop rec).put d ((gX g b i).map im)).fV (F j.aI) {rec with state:=.exhausted}) e Z (pj g (gX g b i) (F c) 0 (t3.set (F c) (gX g b i))) w:=by rw[agS];exact T6
 have Xo:F (gX g b i)=w:=by rw[aaI af];exact wb
 generalize (((j.loop rec).put d ((gX g b i).map im)).fV (F j.aI) {rec with state:=.exhausted})=H6 at *
 clear T6 nW C b25 b35 b45 b55 b65 T5 G5 ajL qr w1 w2 w3 w4 w5 w6 B9 H Aj okt f70 f8 EY ixj ixr ixc;have l26:=vk b26;have l36:=mh b36;generalize gX g b i=own at *
 generalize t3.set (F c) own=t4 at *
 have k7:=aj.mk (ar T7 (ar G6 (ar b26 b36)));have kok4:=aj.mk (ar ok4 (ar W_ (ar Fl u7)));clear T7 G6 b26 b36 ok4 W_ u7 okb kok3 Fl;refine bD @sf ?_;refine bM.gen λe5 X E_ Oo Fw=>?_;have r2:e5.get 2=.ptr (.box (F h.I)) 0:=by rw[X];simp only[gW,reduceIte,aT,aN];exact f2
 have r4:e5.get 4=.ac tk s (aF (dn c)):=by rw[X];simp only[gW,reduceIte,aT,aN];exact f4
 have r5:e5.get 5=(g:Nat):=by rw[X];simp only[gW,reduceIte,aT,aN];exact f5
 have r6:e5.get 6=.ptr (.box hl) 0:=by rw[X];simp only[gW,reduceIte,aT,aN];exact f6
 have r13:e5.get 13=(many:Nat):=by rw[X];simp only[gW,reduceIte,aT,aN];exact f13
 have r14:e5.get 14=(g:Nat):=by rw[X];simp only[gW,reduceIte,aT,aN];exact f14
 have r83:e5.get 83=(F t:Nat):=by rw[X];exact gS
 have r84:e5.get 84=(0:Nat):=by rw[X];exact gR
 have rd:e5.defers=[]:=by rw[E_];simp only[gW,reduceIte,aT,aN];exact fd
 clear X E_ Oo Fw f2 f4 f5 f6 f13 f14 fd l26 l36;refine cJ (λz4 z0 y=>∃u:Nat,u<=F t/\z4=F t-u/\aj (jh y e Z (pj g own (F c) u t4) w)/\aj (GM (e::B) h.tn h y tk)/\aj (y.I[F h.I]?=J [.arr e 0 (F t) (F t)])/\aj (y.I[hl]?=J [((F c:Nat):V)])/\z0.get 2=.ptr (.box (F h.I)) 0/\z0.get 4=.ac tk s (aF (dn c))/\z0.get 5=(g:Nat)/\z0.get 6=.ptr (.box hl) 0/\z0.get 13=(many:Nat)/\z0.get 14=(g:Nat)/\z0.get 83=(F t:Nat)/\z0.get 84=(u:Nat)/\z0.defers=[]) ?_ (F t) _ _ ?_;rotate_left 1
 .exact⟨0,cC _,O,⟨k7.M.1⟩,⟨k7.M.2.1⟩,⟨k7.M.2.2.1⟩,⟨k7.M.2.2.2⟩,r2,r4,r5,r6,r13,r14,r83,r84,rd⟩
 clear r2 r4 r5 r6 r13 r14 r83 r84 rd k7;rintro z4 e6 K ⟨u,hi,rfl,kT7,kG7,kb7,kc7,g2,g4,g5,g6,g13,g14,g83,g84,hd⟩;have l27:=vk kb7.M;have l37:=mh kc7.M;by_cases hit:u<F t;rotate_left 1
 .have gq:u=F t:=by omega
  subst gq;have bl:=p_ (g:Int);have ap:=vY (x:=(g:Int)) (show(F (dn c))<1099511627776 by unfold dn;rw[bJ];omega) hs kG7.M.can;refine bD @sf ?_;refine⟨many-(g+1),by omega,g+1,Z,.free K.tn,1,by omega,O,?_⟩;rw[kok4.M.2.2.2];have Fl:=kok4.M.2.2.1;rw[<-Fl]at kT7;have ee:dn (c++[g])=dn c++[(g:Int)]:=by unfold dn;simp
  dsimp only;rw[ee];exact⟨by rw[<-Fl];exact kT7.M.mono λ_ _ q=>by rw[ey];exact q,kP3.M,by rw[ey];exact kb7.M,br,O,.inl O,br,by simp,br,kG7.M.app (bh _)⟩
 have VF:F Z=F t:=by rw[kT7.M.len,Uu];exact kok4.M.2.2.1
 by_cases N7:u=F c
 .subst N7;have T8:=kT7.M;rw[<-agQ]at T8;have kT8:=aj.mk T8;clear T8;refine bD @sf ?_;exact⟨F t-(F c+1),by omega,F c+1,by omega,O,kT8,br,br,br,br,br,br,br,br,br,br,by simp,br⟩
 .obtain⟨a,ha⟩:∃a,t4[u]?=J a:=⟨_,aY (by rw[kok4.M.2.2.1];exact hit)⟩;obtain⟨K2,c1,c2,c3⟩:=agK K e Z (pj g own (F c) u t4) w u (F c) g a own kT7.M (agP.trans ha) (agO.trans kok4.M.2.1) N7 af hw (agN kok4.M.1);rw[agR ha N7]at c2;rw[VF]at c1;have cM:∀n0,gj (e::B) n0 K K2:=λn0=>(c3 n0).mono λb L=>gr _ (kP3.M.mem_iff.1 L);have E9:∀b∈Z,b<F h.I:=λb L=>kBl.M b (kP3.M.mem_iff.1 L);have kb8:=aj.mk ((c3 0).box _ _ (λq=>absurd (E9 _ q) af) kb7.M);have kc8:=aj.mk ((c3 0).box _ _ (λq=>absurd (E9 _ q) af) kc7.M);have kG8:=aj.mk (kG7.M.then cM);have kT8:=aj.mk c2;have ayh:¬((u:Int)=(F c:Int)):=by omega
  clear c2 c3 cM E9 ha VF kT7 kG7 kb7 kc7;unfold im at c1;refine bD @sf ?_;exact⟨F t-(u+1),by omega,u+1,by omega,O,kT8,br,br,br,br,br,br,br,br,br,br,by simp,br⟩
def IL(x:V)(l:List Int):Prop:=∃k c,x=.ac k c (aF l)/\(l≠[]->c=1)
def RL(x:V)(U:List (List Int)):Prop:=∃(k:Tok) (f:Nat) (c:List V),x=.ac k f (c.map λa=>[a])/\(U≠[]->f=1)/\F c=F U/\∀(d:Nat) (a:V) (e:List Int),c[d]?=J a->U[d]?=J e->IL a e
def ald{l}{i}(h:i<F l):(aF l)[i]?=J [(al l i:V)]:=by unfold aF wt;rw[eF,aY h,fL h];rfl
def eI{H}{l}{i s}(h:i<F l):aL ag Gt H 3 (.elem s (aF l) i 0)=J (al l i:V):=by rw[ru eH (ald h)];rfl
def jc{H}{xs:List V}{i s}{x}(h:xs[i]?=J x):aL ag Gt H 23 (.elem s (xs.map λa=>[a]) i 0)=J x:=by rw[ru mV (row:=[x]) (by rw[eF,h];rfl)];rfl
def Dn:Tryz.f168.results.toList=[.tmp 4]:=aB
def asQ:Tryz.f220.results.toList=[]:=aB
def uZ(w:Nat)(B:List Nat):List V:=B.map λb=>V.arr b 0 w w
def Lo(H:ah)(B:List Nat)(e d:Nat)(c:V)(l:List Int):Prop:=(l=[]/\c=.ac .nil 0 [])∨(l≠[]/\∃b,c=.arr b 0 (F l) (F l)/\H.I[b]?=J (l.map im)/\b∉B/\b≠e/\d<=b)
def av1{f H}{B}{j}{m}{l}(d:Lo H B j (F f.I) m l)(p:Ext f H)(R:F f.I<=j)(x)(T:F l<1000000)(s:∀b∈B,b<F H.I)(N:j<F H.I):
 ∃e,ng ag H #[23,23] m (.ac .aP 1 [[((x:Int):V)]])=J (.arr (F H.I) 0 (F l+1) (F l+1),e)/\Lo e B j (F f.I) (.arr (F H.I) 0 (F l+1) (F l+1)) (l++[x])/\Ext f e/\e.aI=H.aI/\F e.I=F H.I+1/\∀c cs,(c∈B∨c=j)->H.I[c]?=J cs->e.I[c]?=J cs:=by
 obtain⟨X,v,i,D,y⟩:=Ar;have E:=kL (af:F l+1<=1000000) D;have g:=p.len;rcases d with⟨rfl,rfl⟩|⟨u,b,rfl,r,h2,A,C⟩
 .have:=AT (h:=H) (k:=.nil) (sz:=0) (es:=[]) (new:=[[((x:Int):V)]]) (x:=.ac .aP 1 [[((x:Int):V)]]) dp dp v af (by rw[i];exact y) cE (by simp;omega) cE (.inr O) (.inl O) (by rw[i];rfl);refine⟨_,this,.inr ⟨cE,H.I.length,O,aU _ _,λq=>absurd (s _ q) (Sk _),by omega,g⟩,p.trans (.push _ _),O,bV _ _,λc cs _ q=>aX q⟩
 .have L:=(bk.1 r).1;have o:0<F l:=List.length_pos_iff.2 u;have:=GJ (h:=H) (b:=b) (len:=l.length) (cs:=l.map im) (new:=[[((x:Int):V)]]) (x:=.ac .aP 1 [[((x:Int):V)]]) dp dp v af (by rw[i];exact y) cE (by simp;omega) (by simp;omega) r o (by rw[i,bJ];omega) (by rw[i];rfl);refine⟨_,this,.inr ⟨cE,H.I.length,by simp,?_,λq=>absurd (s _ q) (Sk _),by omega,g⟩,(p.gw C _).trans (.push _ _),O,by rw[bV,jV],λc cs d q=>aX ((cS ?_).trans q)⟩
  .rw[jN];exact nB (by rw[jV])
  .rcases d with d|d
   .rintro rfl;exact h2 d
   .rintro rfl;exact A d
structure vM(H:ah)(tb base w m:Nat)(B:List Nat)(t:List (List Int))(cur:V)(l:List Int):Prop where
 iC:H.I[tb]?=J (uZ w B++cur::bR (m - B.length - 1) (.ac .nil 0 []))
 lt:B.length<m
 len:B.length=t.length
 nd:B.Nodup
 row:∀(i b:Nat) (r:List Int),B[i]?=J b->t[i]?=J r->H.I[b]?=J (r.map im)
 wid:∀r∈t,r.length=w
 M:tb∉B
 low:∀b∈B,base<=b
 cur:Lo H B tb base cur l
def YH{P}{h}{t elem}{i}{zero}{n}{k N}(e:P.underlying t=J (.slice elem))(hi:P.info? elem=J i)(f:(gp P elem).bind V.bP=J zero)(c:F zero=i.size)(h2:0<i.size)(g:i.bytes*n<=281474976710656)(j:n<9223372036854775808):
 wE P h t (.v (.int k (n:Nat))) (.v (.int N (n:Nat)))=J (.arr (F h.I) 0 n n,h.push (bR n zero).flatten):=by
 unfold wE;have d:(i.bytes:Int)*(n:Nat)<=281474976710656:=by rw[<-Int.natCast_mul];omega
 simp only[e,hi,f];rw[aH ⟨af,DT _,by omega,d,h2,c⟩];simp[ah.push]
def ZS8{p:Prop}(h:p:=by
 have h:(match ag.info? Q45 with|some i=>Nat.beq i.size Q46&&Nat.ble i.bytes Q47&&decide ((i.zero.map λz=>z.cells.size)=J Q46)|none=>au)=aa:=aB;cases c:ag.info? Q45 with
 |none=>rw[c]at h;cases h
 |some i=>rw[c]at h;simp only[bQ,decide_eq_true_eq]at h;exact⟨i,O,Nat.eq_of_beq_eq_true h.1.1,Nat.le_of_ble_eq_true h.1.2,h.2⟩):p:=h
section
open Go renaming kk23->Q45,kk1->Q46,kk24->Q47
def Jn:∃i,ag.info? 23=J i/\i.size=1/\i.bytes<=24/\(i.zero.map λz=>z.cells.size)=J 1:=ZS8
end
def anw(h)(n)(c:n<=1000000)(k N):wE ag h 207 (.v (.int k (n:Nat))) (.v (.int N (n:Nat)))=J (.arr (F h.I) 0 n n,h.push (bR n (.ac .nil 0 []))):=by obtain⟨j,d,e,f,i⟩:=Jn;have g:=kL f c;have:=YH (h:=h) (n:=n) (k:=k) (N:=N) (zero:=[.ac .nil 0 []]) Ej d aB (by rw[e];rfl) af af af;rw[this];simp
def wF(h)(n)(c:n<=1000000)(k N):wE ag h 23 (.v (.int k (n:Nat))) (.v (.int N (n:Nat)))=J (.arr (F h.I) 0 n n,h.push (bR n (im 0))):=by obtain⟨j,d,e,f,i⟩:=Ar;have g:=kL f c;have:=YH (h:=h) (n:=n) (k:=k) (N:=N) (zero:=[im 0]) dp d KT (by rw[e];rfl) af af af;rw[this];simp
structure Mid(H:ah)(tb base w m:Nat)(B:List Nat)(t:List (List Int)):Prop where
 iC:H.I[tb]?=J (uZ w B++bR (m - B.length) (.ac .nil 0 []))
 len:B.length=t.length
 nd:B.Nodup
 row:∀(i b:Nat) (r:List Int),B[i]?=J b->t[i]?=J r->H.I[b]?=J (r.map im)
 wid:∀r∈t,r.length=w
 M:tb∉B
 low:∀b∈B,base<=b
def Mid.half{H}{e c w m}{B}{t}(d:Mid H e c w m B t)(f:F B<m):vM H e c w m B t (.ac .nil 0 []) []:=by refine⟨?_,f,d.len,d.nd,d.row,d.wid,d.M,d.low,.inl ⟨O,O⟩⟩;rw[d.iC,(af:m-F B=m-F B-1+1),D_];rfl
def Mid.tab{H}{e c w m}{B}{t}(d:Mid H e c w m B t)(f:F B=m):jh H e B t w:=by refine⟨?_,d.len,d.nd,d.row,d.wid,d.M⟩;rw[d.iC,f,sW,List.replicate_zero,iB];rfl
def Fb(w)(B):F (uZ w B)=F B:=by unfold uZ;simp
def aj9(w)(B)(c)(r):(uZ w B++c::r)[F B]?=J c:=by rw[List.getElem?_append_right (by rw[Fb];exact bh _),Fb,sW];rfl
def aka(w)(B)(c d)(r):(uZ w B++c::r).set (F B) d=uZ w B++d::r:=by rw[List.set_append_right _ _ (by rw[Fb];exact bh _),Fb,sW];rfl
def au0{H}{b k x n}{cs}(d:H.I[b]?=J cs)(c:k<F cs):b9 ag H 23 (.ptr (.box b) k) (.arr x 0 n n)=J (H.put b (cs.set k (.arr x 0 n n))):=by rw[fI (xs:=[V.arr x 0 n n]) O iA d O c];congr 2;unfold ej;rw[yQ,aH c];simp
def vM.lts{H}{i c w m}{B}{t}{d}{l}(j:vM H i c w m B t d l):∀b∈B,b<F H.I:=by intro b g;obtain⟨o,e⟩:=sS g;have f:=(bk.1 e).1;exact(bk.1 (j.row o b _ e (aY (by rw[<-j.len];exact f)))).1
def vM.more{e H}{f w m}{B}{t}{j}{l}(d:vM H f (F e.I) w m B t j l)(R:Ext e H)(q:F e.I<=f)(x)(L:F l<1000000):
 ∃g i c,ng ag H #[23,23] j (.ac .aP 1 [[((x:Int):V)]])=J (c,g)/\b9 ag g 23 (.ptr (.box f) (F B)) c=J i/\vM i f (F e.I) w m B t c (l++[x])/\Ext e i/\i.aI=H.aI:=by
 have u:=(bk.1 d.iC).1;obtain⟨g,A,C,D,E,c5,p⟩:=av1 d.cur R q x L d.lts u;have r:=p f _ (.inr O) d.iC;have y:=au0 (x:=H.I.length) (n:=F l+1) (k:=B.length) r (by simp[Fb]);rw[aka]at y;refine⟨g,_,_,A,y,⟨dM (bk.1 r).1,d.lt,d.len,d.nd,λz1 b z2 s N=>?_,d.wid,d.M,d.low,?_⟩,D.gw q _,E⟩
 .have o:=dy s;rw[cS (λz0=>d.M (by rw[<-z0];exact o))];exact p b _ (.inl o) (d.row z1 b z2 s N)
 .rcases C with⟨T,-⟩|⟨T,b,X,Y,Z,v,q5⟩
  .simp at T
  .exact .inr ⟨T,b,X,by rw[cS v];exact Y,Z,v,q5⟩
def vM.mid{H}{q e w m}{B}{t}{j}{l}(f:vM H q e w m B t j l)(i:F l=w)(T:0<w):∃b,Mid H q e w m (B++[b]) (t++[l]):=by
 rcases f.cur with⟨rfl,-⟩|⟨X,b,y,A,C,D,L⟩
 .simp at i;omega
 .refine⟨b,?_,by simp[f.len],?_,λv r N d c=>?_,λN c=>?_,?_,λr s=>?_⟩
  .rw[f.iC,y,i];unfold uZ;rw[jN,de,List.append_assoc];rfl
  .rw[List.nodup_append];refine⟨f.nd,by simp,λx u Y p=>?_⟩;rw[iL]at p;subst p;rintro rfl;exact C u
  .rcases eg v (F B) with g|R
   .rw[rC g]at d;rw[rC (by rw[<-f.len];exact g)]at c;exact f.row v r N d c
   .have:=(bk.1 d).1;rw[de]at this;have o:v=F B:=(by simp at this;omega);subst o;rw[Ba]at d;rw[f.len,Ba]at c;injection d with d;injection c with c;subst d;subst c;exact A
  .rcases yP.1 c with z|z
   .exact f.wid N z
   .rw[iL]at z;rw[z];exact i
  .intro z;rcases yP.1 z with z|z
   .exact f.M z
   .rw[iL]at z;exact D z.symm
  .rcases yP.1 s with z|z
   .exact f.low r z
   .rw[iL]at z;rw[z];exact L
def awe(h:ah)(x y:V)(U:List (List Int))(c:List Int)(hx:RL x U)(E:IL y c)(q:F U<=1000)(ht:F c<=1000)(hw:∀r∈U,F r=F c):
 ∃r h',W2.call 168 [x,y] h=J (r,h')/\∃tb B,r=.ret (.arr tb 0 (F c) (F c))/\jh h' tb B (fX U c) (F U+1)/\Ext h h'/\F h.I<=tb/\∀b∈B,F h.I<=b:=by
 obtain⟨g,v,p,rfl,N,fF,jS⟩:=hx;obtain⟨ky,sy,rfl,j9⟩:=E;have kx:=aj.mk (ar N (ar jS (ar j9 hw)));clear N jS j9 hw;have mk:=anw h (F c) af .i64 .i64;have u23:=dp;have u22:=gZ;have u203:=Ej;have z23:=iA;have z3:=fa;have e_:=db c;have Jg:F (p.map λa=>[a])=F U:=by rw[bJ];exact fF
 refine cA O Tryz.func168 O ?_;refine bD @Dn ?_;refine bM.gen λe d o fM eS=>?_;have f0:e.get 0=.ac g v (p.map λa=>[a]):=by rw[d];exact gS
 have f5:e.get 5=.arr (F h.I) 0 (F c) (F c):=by rw[d];exact gS
 have f13:e.get 13=.ac ky sy (aF c):=by rw[d];exact gS
 have f14:e.get 14=(F c:Nat):=by rw[d];exact gS
 have f15:e.get 15=(0:Nat):=by rw[d];exact gR
 have Y:e.defers=[]:=by rw[o];exact gS
 clear d o fM eS mk;have tl:=Rp U c;have M0:Mid (h.push (bR (F c) (.ac .nil 0 []))) (F h.I) (F h.I) (F U+1) (F c) [] ((fX U c).take 0):=by refine⟨by rw[aU];simp[uZ],O,.nil,λj b r hi=>by simp at hi,λr q=>by simp at q,by simp,λb hb=>by simp at hb⟩
 refine cJ (λz1 i z0=>∃(k:Nat) (B:List Nat),k<=F c/\z1=F c-k/\F B=k/\aj (Mid z0 (F h.I) (F h.I) (F U+1) (F c) B ((fX U c).take k))/\aj (Ext h z0)/\i.get 0=.ac g v (p.map λa=>[a])/\i.get 5=.arr (F h.I) 0 (F c) (F c)/\i.get 13=.ac ky sy (aF c)/\i.get 14=(F c:Nat)/\i.get 15=(k:Nat)/\i.defers=[]) ?_ (F c) _ _ ?_;rotate_left 1
 .exact⟨0,[],cC _,O,O,⟨M0⟩,⟨.push _ _⟩,f0,f5,f13,f14,f15,Y⟩
 clear M0 f0 f5 f13 f14 f15 Y;rintro z1 i z0 ⟨k,B,hk,rfl,f,kM,R,g0,g5,Z,g14,g15,hd⟩;by_cases D:k<F c;rotate_left 1
 .have:k=F c:=by omega
  subst this;have z4:=kM.M.tab f;rw[fK af]at z4;have kT:=aj.mk z4;clear z4;refine bD @Dn ?_;exact⟨_,_,O,_,B,O,kT.M,R.M,bh _,kM.M.low⟩
 have eM:sy=1:=kx.M.2.2.1 (by intro z2;rw[z2]at D;simp at D);subst eM;have l0:=eI (H:=z0) (s:=1) D;have F0:=kM.M.half af;have kF0:=aj.mk F0;have hkI:(k:Int)<(F c:Int):=by omega
 clear F0;refine bF @Dn @bj ?_;refine bM.gen λe d o fM eS=>?_;have f0:e.get 0=.ac g v (p.map λa=>[a]):=by rw[d];simp only[gW,reduceIte,aT,aN];exact g0
 have f5:e.get 5=.arr (F h.I) 0 (F c) (F c):=by rw[d];simp only[gW,reduceIte,aT,aN];exact g5
 have f6:e.get 6=(k:Nat):=by rw[d];exact gS
 have f7:e.get 7=al c k:=by rw[d];exact gS
 have f13:e.get 13=.ac ky 1 (aF c):=by rw[d];simp only[gW,reduceIte,aT,aN];exact Z
 have f14:e.get 14=(F c:Nat):=by rw[d];simp only[gW,reduceIte,aT,aN];exact g14
 have f15:e.get 15=(k:Nat):=by rw[d];simp only[gW,reduceIte,aT,aN];exact g15
 have f20:e.get 20=.ac g v (p.map λa=>[a]):=by rw[d];exact gS
 have f21:e.get 21=(F U:Nat):=by rw[d];exact gS
 have f22:e.get 22=(0:Nat):=by rw[d];exact gR
 have Y:e.defers=[]:=by rw[o];simp only[gW,reduceIte,aT,aN];exact hd
 clear d o fM eS g0 g5 Z g14 g15 hd l0;refine cJ (λz1 i z0=>∃(j:Nat) (A:V),j<=F U/\z1=F U-j/\aj (vM z0 (F h.I) (F h.I) (F U+1) (F c) B ((fX U c).take k) A ((U.take j).map λr=>al r k))/\aj (Ext h z0)/\i.get 0=.ac g v (p.map λa=>[a])/\i.get 5=.arr (F h.I) 0 (F c) (F c)/\i.get 6=(k:Nat)/\i.get 7=al c k/\i.get 13=.ac ky 1 (aF c)/\i.get 14=(F c:Nat)/\i.get 15=(k:Nat)/\i.get 20=.ac g v (p.map λa=>[a])/\i.get 21=(F U:Nat)/\i.get 22=(j:Nat)/\i.defers=[]) ?_ (F U) _ _ ?_;rotate_left 1
 .exact⟨0,_,cC _,O,kF0,R,f0,f5,f6,f7,f13,f14,f15,f20,f21,f22,Y⟩
 clear f0 f5 f6 f7 f13 f14 f15 f20 f21 f22 Y kF0 kM R;rintro z1 e2 H2 ⟨j,A,hi,rfl,kF,R,g0,g5,g6,g7,Z,g14,g15,g20,g21,g22,hd⟩;have lc:F ((U.take j).map λr=>al r k)=j:=by rw[bJ,dJ];omega
 have C:(uZ (F U+1) B++A::bR (F c-F B-1) (.ac .nil 0 []))[k]?=J A:=by rw[<-f];exact aj9 _ _ _ _
 have m1:=rn kF.M.iC C;have FL:=CF (b:=h.I.length) (len:=c.length) (ba:=c.length) (k:=.i64) D;clear C;by_cases mg:j<F U
 .obtain⟨a,ha⟩:∃a,p[j]?=J a:=⟨_,aY af⟩;obtain⟨r,q⟩:∃r,U[j]?=J r:=⟨_,aY mg⟩;have N:v=1:=kx.M.1 (by intro z2;rw[z2]at mg;simp at mg);subst N;obtain⟨ka,sa,rfl,rQ⟩:=kx.M.2.1 j a r ha q;have H:=kx.M.2.2.2 r (dy q);have akO:sa=1:=rQ (by intro z2;rw[z2]at H;simp at H;omega);subst akO;have l1:=jc (H:=H2) (s:=1) ha;have l2:=eI (H:=H2) (l:=r) (i:=k) (s:=1) af;have Cr:F (aF r)=F c:=by rw[db];exact H
  obtain⟨H3,H4,X,c1,c2,m,T,-⟩:=kF.M.more R.M (bh _) (al r k) (by rw[lc];omega);have L:((U.take j).map λr=>al r k)++[al r k]=(U.take (j+1)).map λr=>al r k:=by rw[ga q,jN];rfl
  rw[L]at m;rw[f]at c2;have bl:=p_ (al r k);have kF2:=aj.mk m;have kX2:=aj.mk T;have IM:(j:Int)<(F U:Int):=by omega
  clear m T L ha q rQ lc f tl H;refine bF @Dn @bj ?_
  repeat' (first|simp(maxSteps:=9999999) (disch:=first|exact dZ|fail) only[gW,reduceIte,aT,aN,Dn,bj, *]|(refine dX ?_ ?_<;>(intro _;try omega))|refine dW xz aB ?_)
  exact⟨F U-(j+1),by omega,j+1,X,by omega,O,kF2,by simp⟩
 .have gq:j=F U:=by omega
  subst gq;obtain⟨H3,H4,X,c1,c2,m,T,-⟩:=kF.M.more R.M (bh _) (al c k) (by rw[lc];omega);rw[gy]at m;have u:(U.map λr=>al r k)++[al c k]=((fX U c)[k]' af):=by unfold fX;rw[List.getElem_map,List.getElem_range]
  rw[u]at m;obtain⟨b,M2⟩:=m.mid (by rw[<-u];simp) af;rw[<-ga (aY (af:k<F (fX U c)))]at M2;have kM2:=aj.mk M2;have kX2:=aj.mk T;have hBl:F (B++[b])=k+1:=by rw[de,f];rfl
  rw[f]at c2;have bl:=p_ (al c k);clear m T M2 u lc f tl;refine bD @Dn ?_;exact⟨F c-(k+1),by omega,k+1,B++[b],by omega,O,hBl,kM2,by simp⟩
def Qz:Tryz.f91.results.toList=[.tmp 4]:=aB
def sd:Tryz.f164.results.toList=[.tmp 4]:=aB
def asB:Tryz.f87.results.toList=[.tmp 4]:=aB
def Kh:Tryz.f163.results.toList=[.tmp 4]:=aB
def azw:Tryz.f248.results.toList=[.tmp 2]:=aB
def Gl:Tryz.f221.results.toList=[]:=aB
def aau:Tryz.f167.results.toList=[]:=aB
def ali(g:a_)(p:Int->Bool)(h:ah)(x:V)(l:List Int)(E:IL x l)(hl:l.length<=1000000)(u:∀n∈l,W2.call g [im n] h=J (.ret (.v (.bool (p n))),h)):
 ∃r h',W2.call 164 [x,.func (.func g) [] []] h=some (r,h')/\h'=h/\∃i:Int,r=.ret (im i)/\decide (0<=i)=l.any p:=by
 obtain⟨k,T,rfl,v⟩:=E;have L:=aj.mk u;have N:=aj.mk v;clear u v;have Z:=dp;have z3:=fa;have X:=db l;refine cA rfl adk rfl ?_;refine bD @sd ?_;refine cJ (λY q C=>∃i:Nat,i<=l.length/\Y=l.length - i/\(l.take i).any p=au/\q.get 0=.ac k T (aF l)/\q.get 1=.func (.func g) [] []/\q.get 7=(l.length:Nat)/\q.get 8=(i:Nat)/\q.defers=[]/\C=h) ?_ l.length _ _ ?_;rotate_left 1
 .refine⟨0,cC _,rfl,by simp,?_,?_,?_,?_,?_,rfl⟩<;>exact gR
 rintro Y q C ⟨i,hi,rfl,s,g0,g1,g7,g8,hd,rfl⟩;have A:=aj.mk s;clear s;by_cases d:i<l.length
 .have y:T=1:=N.M (by intro z0;rw[z0] at d;simp at d);subst y;have ld:=eI (H:=C) (s:=1) d;have m:l[i]?=J (al l i):=by rw[aY d,fL d]
  have o:=L.M (al l i) (dy m);have D:(i:Int)<(l.length:Int):=by omega
  have e:(l.take (i+1)).any p=p (al l i):=by rw[ga m,Lu,A.M];simp
  have R:=aj.mk e;have H:=aj.mk m;clear m e;unfold im at o;cases c:p (al l i) with
  |true=>rw[c] at o;have f:l.any p=aa:=Lv.2 ⟨_,dy H.M,c⟩;have j:=aj.mk f;clear f c;refine cg @sd @bj @eP.{0} @iB.{0} ?_;exact⟨_,_,rfl,rfl,(i:Int),rfl,by rw[j.M];simp⟩
  |false=>rw[c] at o;have B:(l.take (i+1)).any p=au:=R.M.trans c;clear c;refine cg @sd @bj @eP.{0} @iB.{0} ?_;exact⟨l.length - (i+1),by omega,i+1,by omega,rfl,B,by simp⟩
 .have:i=l.length:=by omega
  subst this;have:=A.M;rw[gy] at this;have j:=aj.mk this;clear this;refine bD @sd ?_;exact⟨_,_,rfl,rfl,-1,rfl,by rw[j.M];rfl⟩
def UD(g)(p)(h)(x)(l)(j:IL x l)(f:F l<=1000000)(i:∀n∈l,W2.call g [im n] h=J (.ret (.v (.bool (p n))),h)):
 W2.call 91 [x,.func (.func g) [] []] h=J (.ret (.v (.bool (l.any p))),h):=by
 obtain⟨q,h',o,rfl,m,rfl,c⟩:=ali g p h x l j f i;have d:(0<=m)=(l.any p=aa):=by rw[<-c];simp
 have e:decide (0<=m)=l.any p:=c;unfold im at o;refine da O adz O ?_;clear c d;exact iU @Qz
def alj(g:a_)(p:List Int->Bool)(h:ah)(x:V)(l:List (List Int))(T:RL x l)(hl:l.length<=1000000)(A:∀a r,r∈l->IL a r->W2.call g [a] h=J (.ret (.v (.bool (p r))),h)):
 ∃r h',W2.call 163 [x,.func (.func g) [] []] h=some (r,h')/\h'=h/\∃i:Int,r=.ret (im i)/\decide (0<=i)=l.any p:=by
 obtain⟨k,z0,s,rfl,B,D,q⟩:=T;have L:=aj.mk q;clear q;have Y:=aj.mk A;have Z:=aj.mk B;clear A B;have u22:=gZ;have z23:=iA;have e_:(s.map λa=>[a]).length=l.length:=by rw[bJ];exact D
 refine cA rfl Tryz.func163 rfl ?_;refine bD @Kh ?_;refine cJ (λz1 u N=>∃i:Nat,i<=l.length/\z1=l.length - i/\(l.take i).any p=au/\u.get 0=.ac k z0 (s.map λa=>[a])/\u.get 1=.func (.func g) [] []/\u.get 7=(l.length:Nat)/\u.get 8=(i:Nat)/\u.defers=[]/\N=h) ?_ l.length _ _ ?_;rotate_left 1
 .refine⟨0,cC _,rfl,by simp,?_,?_,?_,?_,?_,rfl⟩<;>exact gR
 rintro z1 u N ⟨i,hi,rfl,v,g0,g1,g7,g8,hd,rfl⟩;have E:=aj.mk v;clear v;by_cases j:i<l.length
 .have C:z0=1:=Z.M (by intro z2;rw[z2] at j;simp at j);subst C;obtain⟨a,f⟩:∃a,s[i]?=J a:=⟨_,aY af⟩;obtain⟨r,m⟩:∃r,l[i]?=J r:=⟨_,aY j⟩;have ld:=jc (H:=N) (s:=1) f;have y:=Y.M a r (dy m) (L.M i a r f m);clear f;have R:(i:Int)<(l.length:Int):=by omega
  have d:(l.take (i+1)).any p=p r:=by rw[ga m,Lu,E.M];simp
  have kt:=aj.mk d;have X:=aj.mk m;clear m d;cases c:p r with
  |true=>rw[c] at y;have e:l.any p=aa:=Lv.2 ⟨_,dy X.M,c⟩;have o:=aj.mk e;clear e c;refine cg @Kh @bj @eP.{0} @iB.{0} ?_;exact⟨_,_,rfl,rfl,(i:Int),rfl,by rw[o.M];simp⟩
  |false=>rw[c] at y;have H:(l.take (i+1)).any p=au:=kt.M.trans c;clear c;refine cg @Kh @bj @eP.{0} @iB.{0} ?_;exact⟨l.length - (i+1),by omega,i+1,by omega,rfl,H,by simp⟩
 .have:i=l.length:=by omega
  subst this;have:=E.M;rw[gy] at this;have o:=aj.mk this;clear this;refine bD @Kh ?_;exact⟨_,_,rfl,rfl,-1,rfl,by rw[o.M];rfl⟩
def aho(g)(p)(h)(x)(l)(j:RL x l)(f:F l<=1000000)(i:∀a r,r∈l->IL a r->W2.call g [a] h=J (.ret (.v (.bool (p r))),h)):
 W2.call 87 [x,.func (.func g) [] []] h=J (.ret (.v (.bool (l.any p))),h):=by
 obtain⟨r,h',o,rfl,m,rfl,c⟩:=alj g p h x l j f i;have d:(0<=m)=(l.any p=aa):=by rw[<-c];simp
 have e:decide (0<=m)=l.any p:=c;unfold im at o;refine da O Tryz.func87 O ?_;clear c d;exact iU @asB
def nH(n:Int):Bool:=decide (n<0)||decide (1073741789<=n)
def ZS9{p:Prop}(h:p:=by
 unfold im nH;by_cases c:n<0
 .refine da O Q51 O ?_;have:decide (n<0)=aa:=by simp[c]
  exact f_ @Q52 @Bool.true_or
 .refine da O Q51 O ?_;have:decide (n<0)=au:=by simp[c]
  exact f_ @Q52 @Ld):p:=h
section
open Go.Proofs.Tryz renaming func248->Q51
open Go.Proofs.YtcbhpkjbiehcpaaGreatDoor renaming azw->Q52
def an9(n:Int)(h:ah):W2.call 248 [im n] h=J (.ret (.v (.bool (nH n))),h):=ZS9
end
def Jz(e:Int)(h:ah):W2.call 220 [(aa:V),im e] h=J (.ret (.tuple []),h):=by unfold im;refine da O Tryz.func220 O ?_;exact iU @asQ
def aob{l:List Int}(h:∀x∈l,okF x):l.any nH=au:=by rw[R7];intro x c;obtain⟨d,h2⟩:=h x c;have:Qi=1073741789:=rfl;unfold nH;simp;omega
def Uq(h:ah)(x:V)(U:List (List Int))(w:Nat)(hx:RL x U)(hr:F U<=1000)(hw:∀r∈U,F r=w)(rR:w<=64)(C:∀r∈U,∀x∈r,okF x):∃h',W2.call 221 [x] h=J (.ret (.tuple []),h')/\h'=h:=by
 obtain⟨k,A,f,rfl,hs,fF,D⟩:=hx;have i:=aj.mk (ar hs (ar D (ar hw C)));clear hs D hw C;have u23:=dp;have u22:=gZ;have z23:=iA;have e_:F (f.map λa=>[a])=F U:=by rw[bJ];exact fF
 have n2:=Jz 2;have T:=Jz 130;unfold im at n2 T;refine iG O Tryz.func221 O ?_;refine bD @Gl ?_;refine cJ (λz1 o s=>∃e:Nat,e<=F U/\z1=F U-e/\o.get 0=.ac k A (f.map λa=>[a])/\o.get 7=.ac k A (f.map λa=>[a])/\o.get 8=(F U:Nat)/\o.get 9=(e:Nat)/\o.defers=[]/\s=h) ?_ (F U) _ _ ?_;rotate_left 1
 .refine⟨0,cC _,O,?_,?_,?_,?_,?_,O⟩<;>exact gR
 rintro z1 o s ⟨e,Z,rfl,E,g7,g8,g9,H,rfl⟩;by_cases c:e<F U
 .have v:A=1:=i.M.1 (by intro z2;rw[z2]at c;simp at c);subst v;obtain⟨a,d⟩:∃a,f[e]?=J a:=⟨_,aY af⟩;obtain⟨r,l⟩:∃r,U[e]?=J r:=⟨_,aY c⟩;have ld:=jc (H:=s) (s:=1) d;obtain⟨ka,sa,rfl,p⟩:=i.M.2.1 e a r d l;have j:=i.M.2.2.1 r (dy l);have N:F (aF r)=w:=by rw[db];exact j
  have L:(e:Int)<(F U:Int):=by omega
  have hwd:decide ((w:Int)<=64)=aa:=by simp;omega
  clear d l p j;refine bF @Gl @bj ?_;exact⟨F U-(e+1),by omega,e+1,by omega,O,by simp⟩
 .refine bD @Gl ?_;refine bM.gen λq g B fM eS=>?_;have f0:q.get 0=.ac k A (f.map λa=>[a]):=by rw[g];simp only[gW,reduceIte,aT,aN];exact E
  have f4:q.get 4=.func (.func 248) [] []:=by rw[g];exact gS
  have f18:q.get 18=.ac k A (f.map λa=>[a]):=by rw[g];exact gS
  have f19:q.get 19=(F U:Nat):=by rw[g];exact gS
  have f20:q.get 20=(0:Nat):=by rw[g];exact gR
  have Y:q.defers=[]:=by rw[B];simp only[gW,reduceIte,aT,aN];exact H
  clear g B fM eS E g7 g8 g9 H Z c;refine cJ (λz1 o H2=>∃e:Nat,e<=F U/\z1=F U-e/\o.get 0=.ac k A (f.map λa=>[a])/\o.get 4=.func (.func 248) [] []/\o.get 18=.ac k A (f.map λa=>[a])/\o.get 19=(F U:Nat)/\o.get 20=(e:Nat)/\o.defers=[]/\H2=s) ?_ (F U) _ _ ?_;rotate_left 1
  .exact⟨0,cC _,O,f0,f4,f18,f19,f20,Y,O⟩
  clear f0 f4 f18 f19 f20 Y;rintro z1 o s ⟨e,Z,rfl,E,g4,g18,g19,g20,H,rfl⟩;by_cases c:e<F U
  .have v:A=1:=i.M.1 (by intro z2;rw[z2]at c;simp at c);subst v;obtain⟨a,d⟩:∃a,f[e]?=J a:=⟨_,aY af⟩;obtain⟨r,l⟩:∃r,U[e]?=J r:=⟨_,aY c⟩;obtain⟨a0,m⟩:∃a,f[0]?=J a:=⟨_,aY af⟩;obtain⟨X,y⟩:∃r,U[0]?=J r:=⟨_,aY af⟩;have ld:=jc (H:=s) (s:=1) d;have ld0:=jc (H:=s) (s:=1) m;obtain⟨ka,sa,rfl,p⟩:=i.M.2.1 e a r d l;obtain⟨ka0,sa0,rfl,R⟩:=i.M.2.1 0 a0 X m y;have j:=i.M.2.2.1 r (dy l);have u:=i.M.2.2.1 X (dy y);have cc:=UD 248 nH s (.ac ka sa (aF r)) r ⟨_,_,O,p⟩ af (λn _=>an9 n s);rw[aob (i.M.2.2.2 r (dy l))]at cc;have N:F (aF r)=w:=(by rw[db];exact j);have Xj:F (aF X)=w:=(by rw[db];exact u);have L:(e:Int)<(F U:Int):=(by omega);have EW:(0:Int)<(F U:Int):=(by omega);have z0:(0:Int).toNat=0:=rfl;clear d l p j m y R u;refine bF @Gl @bj ?_;exact⟨F U-(e+1),by omega,e+1,by omega,O,by simp⟩
  .refine bD @Gl ?_;exact⟨_,O,O⟩
def Dl:Tryz.f93.results.toList=[.tmp 4,.tmp 5,.cell 6 39]:=aB
def asL:Tryz.f166.results.toList=[]:=aB
def HI(x)(c:x.dt=aa):fC ag 22 1 [(0,x)]=J (.ac .aP 1 [[x]]):=by cases x<;>first|(cases c;done)|kernel_rfl
def IL.cell{x}{l}(h:IL x l):x.dt=aa:=by obtain⟨k,c,rfl,-⟩:=h;rfl
def Uf(b:Nat)(h:ah):W2.iS 166 [.ptr (.box b) 0] aq h=J (.ret (.tuple []),aq,h):=by have c:=Tryz.underlying20;refine MU Tryz.func166 O ?_;exact qn @asL @Ty @and_self
def ail(h:ah)(x y:V)(U:List (List Int))(c:List Int)(N:RL x U)(u:IL y c)(g:F U<=64)(m:∀r∈U,F r=F c)(s:F c<=64)(p:∀r∈U,∀x∈r,okF x)(q:∀x∈c,okF x):
 W2.call 167 [x,y] h=J (.ret (.tuple []),h):=by
 obtain⟨Z,X,B⟩:=Uq h x U (F c) N af m s p;rw[B]at X;clear B Z;have o:RL (.ac .aP 1 [[y]]) [c]:=⟨.aP,1,[y],O,λ_=>rfl,O,λz1 a r f g=>by
  cases z1 with
  |zero=>simp only[List.getElem?_cons_zero]at f g;injection f with f;injection g with g;subst f;subst g;exact u
  |succ z1=>simp at f⟩
 obtain⟨h2,Y,C⟩:=Uq h (.ac .aP 1 [[y]]) [c] (F c) o cE cE s (by simpa using q);rw[C]at Y;clear C h2;have bl:=HI y u.cell;have n2:=Jz 2;have v:=Jz 130;obtain⟨k,z2,T,rfl,D,R,l⟩:=N;obtain⟨ky,sy,rfl,j9⟩:=u;have u23:=dp;have u22:=gZ;have z23:=iA;have e_:F (T.map λa=>[a])=F U:=by rw[bJ];exact R
 have u':=db c;have Xe:decide ((F U:Int)<=64)=aa:=by simp;omega
 unfold im at n2 v;clear o p q;refine da O Tryz.func167 O ?_;by_cases e:F U=0
 .have hq:decide ((F U:Int)=0)=aa:=by simp[e]
  clear m l e;exact iU @aau
 .have hq:decide ((F U:Int)=0)=au:=by simp[e]
  obtain⟨a0,d⟩:∃a,T[0]?=J a:=⟨_,aY af⟩;obtain⟨A,j⟩:∃r,U[0]?=J r:=⟨_,aY af⟩;have L:z2=1:=D (by intro z3;rw[z3]at e;simp at e);subst L;have ld0:=jc (H:=h) (s:=1) d;obtain⟨ka0,sa0,rfl,FB⟩:=l 0 a0 A d j;have i:=m A (dy j);have Xj:F (aF A)=F c:=by rw[db];exact i
  have EW:(0:Int)<(F U:Int):=by omega
  have z0:(0:Int).toNat=0:=rfl;clear m l d j i D;exact f_ @aau @bj
def yW:f' ag 39=J au:=aB
def abx:cQ ag 39=J 1:=aB
def aw9:(gp ag 39).bind V.bP=J [im 0]:=aB
def Yl{H}{b}{x}(c:H.I[b]?=J [x]):aL ag Gt H 39 (.ptr (.box b) 0)=J x:=by rw[fx yW c];rfl
def aa6{H}{b}{x}{n}(c:H.I[b]?=J [x]):b9 ag H 39 (.ptr (.box b) 0) ((n:Int):V)=J (H.put b [((n:Int):V)]):=fI (off:=0) (cs:=[x]) (xs:=[im n]) O abx c O (bh 1)
def auo{b n k}(e:k<=n):∃off,gY ag 207 (.arr b 0 n n) (J ((k:Nat):V)) aq aq=J (.arr b off (n-k) (n-k))/\(k<n->off=k):=by
 refine⟨if n=k then 0 else 0+k*1,?_,λh=>by rw[aV af];omega⟩;have c:gE n aq n=J n:=rfl;have d:gE n (J ((k:Nat):V)) 0=J k:=by show(if 0<=(k:Int)/\(k:Int)<=(n:Int) then J (k:Int).toNat else aq)=_;rw[aH ⟨af,by omega⟩];rfl
 unfold gY;simp only[Ej,iA,c,d,Option.isSome_none,A2,Bool.false_eq_true,false_and,if_false];rfl
def alT{b off len ba n}{k}(c:n<len):dU ag 207 (.arr b off len ba) (.v (.int k (n:Nat)))=J (.ptr (.box b) (off+n)):=by rw[At Ej iA af af,fe,mr]
def jW(t:List (List Int))(pv:List Nat)(n j:Nat):List Int:=(pv.zipIdx.take j).foldl (λd c=>d.set c.1 (al (t.getD c.2 []) n)) (bR n 0)
def J2(t)(pv)(n j):F (jW t pv n j)=n:=by unfold jW;rw[EQ (λc=>al (t.getD c.2 []) n),nj]
def aac{t}{pv}{n j p}(h:pv[j]?=J p):(jW t pv n j).set p (al (t.getD j []) n)=jW t pv n (j+1):=by
 have c:pv.zipIdx[j]?=J (p,j):=by rw[acv,h];simp
 unfold jW;rw[ga c,ot];rfl
def aab(t)(pv)(n):jW t pv n (F pv)=oi (t,pv) n:=by unfold jW oi;rw[fK cE]
def ab1(U:List (List Int))(c:List Int)(h:ah)(r:dV)(h':ah):Prop:=
 Ext h h'/\((oE U c=aq/\r=.ret (.tuple [.ac .nil 0 [],(au:V),im 0]))∨∃d b,oE U c=J d/\F d=F U/\r=.ret (.tuple [.arr b 0 (F U) (F U),(aa:V),im 0])/\h'.I[b]?=J (d.map im))
def ahe(h:ah)(x y:V)(U:List (List Int))(c:List Int)(hx:RL x U)(E:IL y c)(hr:F U<=64)(hw:∀r∈U,F r=F c)(rR:F c<=64)(fR:∀r∈U,∀x∈r,okF x)(Ad:∀x∈c,okF x)(ho:du h=aa):
 ∃r h',W2.call 93 [x,y] h=J (r,h')/\ab1 U c h r h':=by
 have c1:=ail (h.push [im 0]) x y U c hx E hr hw rR fR Ad;obtain⟨_,H2,c2,A,z5,rfl,T2,X2,qp,mC⟩:=awe (h.push [im 0]) x y U c hx E af af hw;obtain⟨t1,t2⟩:=Rq fR Ad;have tl:=Rp U c;obtain⟨_,g,c3,tk,s3,B3,rfl,j,T3,Ix,G3⟩:=aqA H2 A z5 (fX U c) (F U+1) (F U) T2 af af af t2 (X2.ok ho);have D:=aqB (many:=U.length) t1 t2 af;obtain⟨z6,z0⟩:=Ga t1 t2 (af:F U<=F U+1);rw[D]at j T3 c3;rw[tl]at c3;have H:oE U c=if ((iy (fX U c) (F U)).1.drop (F (iy (fX U c) U.length).2)).all (λa=>decide (al a (F U)=0)) then J (oi (iy (fX U c) (F U)) (F U)) else aq:=rfl
 have IR:F (iy (fX U c) U.length).1=F c:=by have:=(aag t1 t2 (F U) af).2.1;rw[<-aaf,D]at this;omega
 have X3:Ext (h.push [im 0]) g:=X2.PD (G3.mu.um X2.tn) (λb v=>by
  rcases hh.1 v with q|q
  .rw[q];exact qp
  .exact mC b q)
 have o:g.I[F h.I]?=J [im 0]:=X3.box _ _ (aU _ _);have s:Ext h g:=(Ext.push h [im 0]).trans X3;obtain⟨k,z7,xs,rfl,hs,fF,jS⟩:=hx;obtain⟨ky,sy,rfl,j9⟩:=E;have e_:F (xs.map λa=>[a])=F U:=by rw[bJ];exact fF
 have ayy:=z0.len;generalize iq:iy (fX U c) (F U)=st at *
 obtain⟨m,d⟩:=st;dsimp only at *
 have Fv:=OZ d;have kk:=aj.mk (ar T3 (ar z0 (ar H (ar s (ar o j)))));clear T2 X2 qp mC t1 t2 tl D z6 z0 H Ix G3 X3 o s T3 hs fF jS j9 iq j fR Ad hw ho;have u23:=dp;have u22:=gZ;have u203:=Ej;have z23:=iA;have z32:=aw9;obtain⟨T,nX,Cj⟩:=auo (b:=A) (af:F d<=F c);have khoff:=aj.mk Cj;clear Cj;unfold im at *
 refine cA O Tryz.func93 O ?_;refine bD @Dl ?_;refine bM.gen λi e N R eS=>?_;have f6:i.get 6=.ptr (.box (F h.I)) 0:=by rw[e];exact gS
 have f7:i.get 7=(F U:Nat):=by rw[e];exact gS
 have f8:i.get 8=.arr A 0 (F c) (F c):=by rw[e];exact gS
 have f9:i.get 9=.ac tk s3 (aF (dn d)):=by rw[e];exact gS
 have f28:i.get 28=.arr A T (F c-F d) (F c-F d):=by rw[e];exact gS
 have f29:i.get 29=(F c-F d:Nat):=by rw[e];exact gS
 have f30:i.get 30=(0:Nat):=by rw[e];exact gR
 have fd:i.defers=[(166,[.ptr (.box (F h.I)) 0])]:=by rw[N];exact gS
 have fp:i.dg=aq:=by rw[R];exact gS
 clear e N R eS c1 c2 c3 nX;refine cJ (λz4 u z1=>∃f:Nat,f<=F c-F d/\z4=F c-F d-f/\aj (∀Y,Y<f->∀a,m[F d+Y]?=J a->al a (F U)=0)/\u.get 6=.ptr (.box (F h.I)) 0/\u.get 7=(F U:Nat)/\u.get 8=.arr A 0 (F c) (F c)/\u.get 9=.ac tk s3 (aF (dn d))/\u.get 28=.arr A T (F c-F d) (F c-F d)/\u.get 29=(F c-F d:Nat)/\u.get 30=(f:Nat)/\u.defers=[(166,[.ptr (.box (F h.I)) 0])]/\u.dg=aq/\z1=g) ?_ (F c-F d) _ _ ?_;rotate_left 1
 .exact⟨0,cC _,O,⟨λY hi=>absurd hi (qT _)⟩,f6,f7,f8,f9,f28,f29,f30,fd,fp,O⟩
 clear f6 f7 f8 f9 f28 f29 f30 fd fp;rintro z4 u g ⟨f,hj,rfl,kz,g6,g7,g8,g9,g28,g29,g30,hd,hp,rfl⟩;obtain⟨T3,z0,H,s,o,j⟩:=kk.M;have s6:=λn=>aa6 (n:=n) o;by_cases C:f<F c-F d
 .obtain⟨a,p⟩:∃a,m[F d+f]?=J a:=⟨_,aY af⟩;obtain⟨b,v⟩:∃b,B3[F d+f]?=J b:=⟨_,aY (by rw[T3.len];omega)⟩;have wa:=T3.wid a (dy p);have B:(B3.map λb=>V.arr b 0 (F U+1) (F U+1))[T+f]?=J (.arr b 0 (F U+1) (F U+1)):=by rw[khoff.M af,eF,v];rfl
  have m1:=rn T3.iC B;have m2:=wz (T3.row _ _ _ v p) (vn (k:=U.length) af);have ix1:=alT (b:=A) (off:=T) (ba:=F c-F d) (k:=.i64) C;have ix2:=oO (b:=b) (len:=F U+1) (ba:=F U+1) (k:=.i64) (af:F U<F U+1);have gG:(f:Int)<((F c-F d:Nat):Int):=by omega
  by_cases hz:al a (F U)=0
  .have kz2:aj (∀Y,Y<f+1->∀a,m[F d+Y]?=J a->al a (F U)=0):=⟨λY hi a' L=>by
    rcases eg Y f with q|q
    .exact kz.M Y q a' L
    .rw[(af:Y=f),p]at L;injection L with L;rw[<-L];exact hz⟩
   rw[hz]at m2;unfold im at *
   clear T3 z0 H s o j s6 p v wa B hz kz;refine bD @Dl ?_;exact⟨F c-F d-(f+1),by omega,f+1,by omega,O,kz2,by simp⟩
  .have Z:oE U c=aq:=(by rw[H,aV];intro q;rw[ff]at q;have:=q a (dy (i:=f) (by rw[rD];exact p));exact hz (of_decide_eq_true this));have ke:=aj.mk Z;have kX:=aj.mk s;have kb:=aj.mk o;have l6:∀n,aL ag Gt (g.put (F h.I) [((n:Int):V)]) 39 (.ptr (.box (F h.I)) 0)=J ((n:Int):V):=λn=>Yl (dM (bk.1 o).1);unfold im at *
   clear T3 z0 H s o j p v wa B kz Z
   repeat' (first|simp(maxSteps:=9999999) (disch:=first|exact dZ|fail) only[gW,reduceIte,aT,aN,Dl,Rs (Uf _ _), *]|refine dX ?_ ?_<;>(intro _;try omega))
   exact⟨_,_,O,kX.M.gw (bh _) _,.inl ⟨ke.M,O⟩⟩
 .have oJ:f=F c-F d:=by omega
  subst oJ;have Z:oE U c=J (oi (m,d) (F U)):=by rw[H,aH];rw[ff];intro a p;obtain⟨Y,hi⟩:=sS p;rw[rD]at hi;have e_:=(bk.1 hi).1;exact cD (kz.M Y af a hi)
  rw[<-aab]at Z;have ke:=aj.mk Z;have mk:=wF g (F U) af .i64 .i64;have tK:bR (F U) (im 0)=(jW m d (F U) 0).map im:=by unfold jW;rw[dG,DX,yO]
  rw[tK]at mk;clear H Z tK kz o s6 s T3 z0 j;unfold im at mk;refine bD @Dl ?_;refine bM.gen λi e N R eS=>?_;have f4:i.get 4=.arr (F g.I) 0 (F U) (F U):=by rw[e];exact gS
  have f6:i.get 6=.ptr (.box (F h.I)) 0:=by rw[e];simp only[gW,reduceIte,aT,aN];exact g6
  have f7:i.get 7=(F U:Nat):=by rw[e];simp only[gW,reduceIte,aT,aN];exact g7
  have f8:i.get 8=.arr A 0 (F c) (F c):=by rw[e];simp only[gW,reduceIte,aT,aN];exact g8
  have f42:i.get 42=.ac tk s3 (aF (dn d)):=by rw[e];exact gS
  have f43:i.get 43=(F d:Nat):=by rw[e];exact gS
  have f44:i.get 44=(0:Nat):=by rw[e];exact gR
  have fd:i.defers=[(166,[.ptr (.box (F h.I)) 0])]:=by rw[N];simp only[gW,reduceIte,aT,aN];exact hd
  have fp:i.dg=aq:=by rw[R];simp only[gW,reduceIte,aT,aN];exact hp
  clear e N R eS g6 g7 g8 g9 g28 g29 g30 hd hp mk;refine cJ (λz4 u z1=>∃f:Nat,f<=F d/\z4=F d-f/\u.get 4=.arr (F g.I) 0 (F U) (F U)/\u.get 6=.ptr (.box (F h.I)) 0/\u.get 7=(F U:Nat)/\u.get 8=.arr A 0 (F c) (F c)/\u.get 42=.ac tk s3 (aF (dn d))/\u.get 43=(F d:Nat)/\u.get 44=(f:Nat)/\u.defers=[(166,[.ptr (.box (F h.I)) 0])]/\u.dg=aq/\z1=g.push ((jW m d (F U) f).map im)) ?_ (F d) _ _ ?_;rotate_left 1
  .exact⟨0,cC _,O,f4,f6,f7,f8,f42,f43,f44,fd,fp,O⟩
  clear f4 f6 f7 f8 f42 f43 f44 fd fp;rintro z4 u z1 ⟨f,hj,rfl,g4,g6,g7,g8,g42,g43,g44,hd,hp,rfl⟩;obtain⟨T3,z0,-,s,o,j⟩:=kk.M;by_cases C:f<F d
  .obtain⟨z2,X⟩:∃z2,d[f]?=J z2:=⟨_,aY C⟩;have x9:=z0.lt f z2 X;have eM:s3=1:=by
    rcases j with q|⟨q,-⟩
    .exact q
    .exfalso;unfold dn at q;rw[Be]at q;rw[q]at C;exact qT _ C
   subst eM;obtain⟨a,p⟩:∃a,m[f]?=J a:=⟨_,aY af⟩;obtain⟨b,v⟩:∃b,B3[f]?=J b:=⟨_,aY (by rw[T3.len];omega)⟩;have wa:=T3.wid a (dy p);have B:(B3.map λb=>V.arr b 0 (F U+1) (F U+1))[f]?=J (.arr b 0 (F U+1) (F U+1)):=(by rw[eF,v];rfl);have I4:al (dn d) f=(z2:Int):=(by have:(dn d)[f]?=J (z2:Int):=(by unfold dn;rw[eF,X];rfl);unfold al;rw[fg,this];rfl);have l0:=eI (H:=g.push ((jW m d (F U) f).map im)) (l:=dn d) (i:=f) (s:=1) (by unfold dn;rw[bJ];exact C);rw[I4]at l0;have m1:=rn (H:=g.push ((jW m d (F U) f).map im)) (aX T3.iC) B;have m2:=wz (H:=g.push ((jW m d (F U) f).map im)) (aX (T3.row _ _ _ v p)) (vn (k:=U.length) af);have ix1:=CF (b:=A) (len:=c.length) (ba:=c.length) (k:=.i64) (af:f<F c);have ix2:=oO (b:=b) (len:=F U+1) (ba:=F U+1) (k:=.i64) (af:F U<F U+1);have ix3:=oO (b:=g.I.length) (len:=U.length) (ba:=U.length) (k:=.i64) x9;have sk:=vB (H:=g.push ((jW m d (F U) f).map im)) (b:=g.I.length) (r:=jW m d (F U) f) (k:=z2) (x:=al a (F U)) (aU _ _) (by rw[J2];exact x9);have gD:m.getD f []=a:=(by rw[fg,p];rfl);rw[ml,<-gD,aac X,gD]at sk;have gG:(f:Int)<(F d:Int):=(by omega);have z3:=fa;unfold im at *
   clear T3 z0 s o j p v wa B gD I4 X kk ke;refine bF @Dl @bj ?_;exact⟨F d-(f+1),by omega,f+1,by omega,O,by simp⟩
  .have oJ:f=F d:=(by omega);subst oJ;have b1:(g.push ((jW m d (F U) (F d)).map im)).I[F h.I]?=J [im 0]:=aX o;have s6:=λn=>aa6 (n:=n) b1;have WM:=(bk.1 b1).1;have l6:∀n,aL ag Gt ((g.push ((jW m d (F U) (F d)).map im)).put (F h.I) [((n:Int):V)]) 39 (.ptr (.box (F h.I)) 0)=J ((n:Int):V):=λn=>Yl (dM WM);have gb:F g.I≠F h.I:=(by have:=(bk.1 o).1;omega);have kX:=aj.mk s;clear T3 z0 s o b1 j WM
   repeat' (first|simp(maxSteps:=9999999) (disch:=first|exact dZ|fail) only[gW,reduceIte,aT,aN,Dl,Rs (Uf _ _), *]|refine dX ?_ ?_<;>(intro _;try omega))
   exact⟨_,_,O,(kX.M.trans (.push _ _)).gw (bh _) _,.inr ⟨_,_,ke.M,J2 _ _ _ _,O,(cS gb).trans (aU _ _)⟩⟩
def aas:Tryz.f89.results.toList=[.tmp 6]:=aB
def asD:Tryz.f90.results.toList=[.tmp 2]:=aB
def asA:Tryz.f86.results.toList=[.tmp 2]:=aB
def asC:Tryz.f88.results.toList=[.tmp 2]:=aB
def vz:Tryz.f35.results.toList=[.tmp 2]:=aB
def abM(n a b)(h):W2.call 89 [im n,im a,im b] h=J (.ret (.v (.bool (decide (a<=n)&&decide (n<=b)))),h):=by
 unfold im;by_cases c:a<=n
 .have:decide (a<=n)=aa:=by simp[c]
  refine da O ady O ?_;exact f_ @aas @pF
 .have:decide (a<=n)=au:=by simp[c]
  refine da O ady O ?_;exact f_ @aas @A2
def t_(n:Int):Bool:=decide (0<=n)&&decide (n<=63)
def Zz(n)(h):W2.call 90 [im n] h=J (.ret (.v (.bool (t_ n))),h):=by
 have w:=abM n 0 63 h;unfold t_;unfold im at *
 refine da O Tryz.func90 O ?_;exact iU @asD
def am2(a)(r)(c:IL a r)(h):W2.call 86 [a] h=J (.ret (.v (.bool (decide (64<F r)))),h):=by
 obtain⟨k,g,rfl,-⟩:=c;have e:=dp;have f:=db r;have d:decide (64<F r)=decide ((64:Int)<(F r:Int)):=by rw[decide_eq_decide];omega
 rw[d];refine da O Tryz.func86 O ?_;exact iU @asA
def an7(n)(h):W2.call 88 [im n] h=J (.ret (.v (.bool (!cG n))),h):=by
 have w:=abM n 0 1073741788 h;have c:cG n=(decide (0<=n)&&decide (n<=1073741788)):=by unfold cG Qi;congr 1;rw[decide_eq_decide];omega
 rw[c];unfold im at *
 refine da O Tryz.func88 O ?_;exact iU @asC
def Ml:f' ag 22=J au:=aB
def El:f' ag 25=J aa:=aB
def dN{b}:eo ag 25 (.ptr (.box b) 0) 0=J (.ptr (.box b) 0):=aB
def fE{b}:eo ag 25 (.ptr (.box b) 0) 1=J (.ptr (.box b) 1):=aB
def oP{H}{b}{x y}(c:H.I[b]?=J [x,y]):aL ag Gt H 22 (.ptr (.box b) 0)=J x:=by rw[fx Ml c];rfl
def yk{H}{b}{x y}(c:H.I[b]?=J [x,y]):aL ag Gt H 23 (.ptr (.box b) 1)=J y:=by rw[fx mV c];rfl
def qX(U:List (List Int))(ae:List Int)(i:Nat):Bool:= !(U.getD i []).isEmpty&&decide (F (U.getD i [])=F (U.getD 0 []))&&(decide (0<=al ae i)&&decide (al ae i<=63))&&(U.getD i []).all cG
def Ut(h:ah)(x y:V)(U:List (List Int))(ae:List Int)(hx:RL x U)(E:IL y ae):
 ∃h',W2.call 35 [.agg [x,y]] h=J (.ret ((cI U ae:Int):V),h')/\h'=h.push [x,y]:=by
 have c1:=λ(hl:F U<=64)=>aho 86 (λd=>decide (64<F d)) (h.push [x,y]) x U hx af (λa d _ ha=>am2 a d ha _);obtain⟨k,X,i,rfl,hs,fF,jS⟩:=hx;obtain⟨R,C,rfl,j9⟩:=E;have kk:=aj.mk (ar hs (ar jS j9));clear hs jS j9;have u23:=dp;have u22:=gZ;have z23:=iA;have z3:=fa;have e_:F (i.map λa=>[a])=F U:=by rw[bJ];exact fF
 have Cl:=db ae;have b0:(h.push [.ac k X (i.map λa=>[a]),.ac R C (aF ae)]).I[F h.I]?=J [.ac k X (i.map λa=>[a]),.ac R C (aF ae)]:=aU _ _;have l0:=oP b0;have l1:=yk b0;have bx:(V.agg [.ac k X (i.map λa=>[a]),.ac R C (aF ae)]).bP=J [.ac k X (i.map λa=>[a]),.ac R C (aF ae)]:=rfl;clear b0;unfold cI;refine iG O Tryz.func35 O ?_;by_cases h1:64<F U
 .have hq:decide ((64:Int)<(F U:Int))=aa:=by simp;omega
  rw[aH (by simp[h1])];clear c1;generalize u:h.push [.ac k X (i.map λa=>[a]),.ac R C (aF ae)]=z1 at *
  refine cg @vz @dN @fE (ar @bC @u) ?_;exact⟨_,O,O⟩
 have hq:decide ((64:Int)<(F U:Int))=au:=by simp;omega
 have c2:=c1 af;have iN:decide (64<F U)=au:=by simp[h1]
 rw[iN,Ld];clear c1 iN;cases h2:U.any λd=>decide (64<F d) with
 |true=>rw[h2]at c2;rw[aH O];clear h2;refine cg @vz @dN @fE @bC ?_;exact⟨_,O,O⟩|false=>
  rw[h2]at c2;rw[aV cE];by_cases h3:F U=F ae;rotate_left 1
  .rw[aH h3];clear h2;have hn:¬((F U:Int)=(F ae:Int)):=(by omega);refine cg @vz @dN @fE @bC ?_;exact⟨_,O,O⟩
  rw[aV (by simpa using h3)];have uV:=aj.mk h2;have hn:(F U:Int)=(F ae:Int):=by omega
  have f:=aj.mk h3;clear h2 h3;obtain⟨z1,u⟩:∃z1,h.push [.ac k X (i.map λa=>[a]),.ac R C (aF ae)]=z1:=⟨_,O⟩;rw[u]at l0 l1 c2;rw[u];generalize Xi:(if ((bT (F U)).all λc=> !(U.getD c []).isEmpty&&decide (F (U.getD c [])=F (U.getD 0 []))&&(decide (0<=al ae c)&&decide (al ae c<=63))&&(U.getD c []).all cG)=aa then (0:Int) else 230)=res;have kres:aj (res=if ((bT (F U)).all (qX U ae))=aa then (0:Int) else 230):=⟨Xi.symm⟩;have kH:=aj.mk u;clear Xi hn;have jR:F U<=64:=by omega
  have hn':(F ae:Int)=(F U:Int):=by have:=f.M;omega
  refine cg @vz @dN @fE (ar @bC @u) ?_;refine bM.gen λY r ja fM eS=>?_;have f1:Y.get 1=.ptr (.box (F h.I)) 0:=by rw[r];exact gS
  have f25:Y.get 25=.ac k X (i.map λa=>[a]):=by rw[r];exact gS
  have f26:Y.get 26=(F U:Nat):=by rw[r];exact gS
  have f27:Y.get 27=(0:Nat):=by rw[r];exact gR
  have fd:Y.defers=[]:=by rw[ja];exact gS
  clear r ja fM eS u bx c2 hq h1;refine cJ (λz4 z2 p=>∃c:Nat,c<=F U/\z4=F U-c/\aj (∀T,T<c->qX U ae T=aa)/\z2.get 1=.ptr (.box (F h.I)) 0/\z2.get 25=.ac k X (i.map λa=>[a])/\z2.get 26=(F U:Nat)/\z2.get 27=(c:Nat)/\z2.defers=[]/\p=z1) ?_ (F U) _ _ ?_;rotate_left 1
  .exact⟨0,cC _,O,⟨λT hj=>absurd hj (qT _)⟩,f1,f25,f26,f27,fd,O⟩
  clear f1 f25 f26 f27 fd;rintro z4 z2 p ⟨c,hi,rfl,kf,g1,g25,g26,g27,hd,VK⟩;rw[<-VK]at l0 l1 kH ⊢;clear VK;by_cases D:c<F U;rotate_left 1
  .have gq:c=F U:=(by omega);subst gq;have h0:res=0:=(by rw[kres.M,aH];rw[ff];intro T hj;exact kf.M T (hy.1 hj));have k0:=aj.mk h0;clear h0;refine bD @vz ?_;exact⟨_,by rw[k0.M],O⟩
  have eM:X=1:=kk.M.1 (by intro q;rw[q]at D;simp at D);subst eM;have qx:C=1:=kk.M.2.2 (by intro q;have h0:=f.M;rw[q,gi]at h0;omega);subst qx;obtain⟨a,zR⟩:∃a,i[c]?=J a:=⟨_,aY af⟩;obtain⟨d,hv⟩:∃d,U[c]?=J d:=⟨_,aY D⟩;obtain⟨a0,v⟩:∃a,i[0]?=J a:=⟨_,aY af⟩;obtain⟨B,rk⟩:∃d,U[0]?=J d:=⟨_,aY af⟩;have ld:=jc (H:=p) (s:=1) zR;have ld0:=jc (H:=p) (s:=1) v;have u':=kk.M.2.1 c a d zR hv;obtain⟨ka,sa,rfl,rQ⟩:=u';obtain⟨ka0,sa0,rfl,FB⟩:=kk.M.2.1 0 a0 B v rk;have mX:=db d;have akJ:=db B;have ldo:=eI (H:=p) (l:=ae) (i:=c) (s:=1) (by have:=f.M;omega);have Wd:F d<=64:=by have:=uV.M;rw[R7]at this;have:=this d (dy hv);simpa using this
  have H:=UD 88 (λn=> !cG n) p (.ac ka sa (aF d)) d ⟨_,_,O,rQ⟩ af (λn _=>an7 n p);have cp:=Zz (al ae c) p;have Fg:qX U ae c=(!d.isEmpty&&decide (F d=F B)&&t_ (al ae c)&&d.all cG):=by unfold qX t_;have g1:U.getD c []=d:=(by rw[fg,hv];rfl);have g2:U.getD 0 []=B:=(by rw[fg,rk];rfl);rw[g1,g2]
  have Z:(d.any λn=> !cG n)= !(d.all cG):=by rw[List.any_eq_not_all_not];simp
  rw[Z]at H;have e:=aj.mk Fg;have bad:qX U ae c=au->res=230:=by intro q;rw[kres.M,aV];intro z;rw[ff]at z;have:=z c (hy.2 D);rw[q]at this;cases this
  have o:=aj.mk bad;have gG:(c:Int)<(F U:Int):=by omega
  have EW:(0:Int)<(F U:Int):=by omega
  have z0:(0:Int).toNat=0:=rfl;clear Fg bad Z Wd zR hv rQ v rk FB;unfold im at *
  generalize al ae c=z5 at *
  by_cases m:F d=0
  .have vf:decide ((F d:Int)=0)=aa:=(by simp[m]);have g:res=230:=o.M (by rw[e.M,acz.1 m];rfl);have A:=aj.mk g;clear g m H cp;refine cg @vz @dN @fE @bj ?_;exact⟨_,by rw[A.M],O⟩
  have vf:decide ((F d:Int)=0)=au:=by simp[m]
  have j:d.isEmpty=au:=by cases d with|nil=>exact absurd O m|cons _ _=>rfl
  by_cases L:F d=F B;rotate_left 1
  .have wq:decide ((F d:Int)=(F B:Int))=au:=(by simp;omega);have g:res=230:=o.M (by rw[e.M,j,cR L];rfl);have A:=aj.mk g;clear g m L j H cp;refine cg @vz @dN @fE @bj ?_;exact⟨_,by rw[A.M],O⟩
  have wq:decide ((F d:Int)=(F B:Int))=aa:=by simp;omega
  cases s:t_ z5 with
  |false=>have g:res=230:=o.M (by rw[e.M,s];simp);have A:=aj.mk g;rw[s]at cp;clear g m L j H s;refine cg @vz @dN @fE @bj ?_;exact⟨_,by rw[A.M],O⟩
  |true=>
   rw[s]at cp;cases N:d.all cG with
   |false=>have g:res=230:=o.M (by rw[e.M,N];simp);have A:=aj.mk g;rw[N]at H;clear g m L j s N;refine cg @vz @dN @fE @bj ?_;exact⟨_,by rw[A.M],O⟩
   |true=>
    rw[N]at H;have kf2:aj (∀T,T<c+1->qX U ae T=aa):=⟨λT hj=>by
     rcases eg T c with q|q
     .exact kf.M T q
     .rw[(af:T=c),e.M,j,cD L,s,N];rfl⟩
    clear m L j s N e kf;refine cg @vz @dN @fE @bj ?_;exact⟨F U-(c+1),by omega,c+1,by omega,O,kf2,by simp⟩
def Dq:Tryz.f178.results.toList=[.tmp 4,.tmp 5]:=aB
def asU:Tryz.f234.results.toList=[.tmp 4]:=aB
def asV:Tryz.f235.results.toList=[.tmp 2]:=aB
def asW:Tryz.f179.results.toList=[.tmp 2]:=aB
def YT(n)(h):W2.call 179 [im n] h=J (.ret (au:V),h):=by
 unfold im;refine da O Tryz.func179 O ?_
 repeat' (first|simp(maxSteps:=9999999) (disch:=first|exact dZ|fail) only[gW,reduceIte,aT,aN,asW,ne_eq,not_true_eq_false,decide_false, *]|refine dX ?_ ?_<;>(intro _;try omega))
def anE(n)(h):W2.call 235 [im n] h=J (.ret (au:V),h):=by
 unfold im;refine da O Tryz.func235 O ?_
 repeat' (first|simp(maxSteps:=9999999) (disch:=first|exact dZ|fail) only[gW,reduceIte,aT,aN,asV,ne_eq,not_true_eq_false,decide_false, *]|refine dX ?_ ?_<;>(intro _;try omega))
def amI(a b)(h):W2.call 234 [im a,im b] h=J (.ret (.v (.bool (decide (a<b)))),h):=by
 have c:=YT a h;have d:=YT b h;unfold im at *
 refine da O Tryz.func234 O ?_;exact iU @asU
def BG(n)(h):l_ ag h 176 3 (.v (.int .u64 n))=J (((IntKind.i64.wrap n:Int):V),h):=aB
def DE{t}{x y}{n}:df ag .shr t x y (.v (.int .u64 (n:Nat))) (.v (.int .u64 1))=J (.v (.int .u64 ((n/2:Nat):Int))):=by rw[Bv bm];congr 3;show((n:Nat):Int).fdiv (2^1)=_;rw[Int.fdiv_eq_ediv_of_nonneg _ bm];simp
def wrap_u64{n}(h:n<18446744073709551616):IntKind.u64.wrap (n:Nat)=(n:Nat):=by show((n:Nat):Int).emod 18446744073709551616=_;exact Int.emod_eq_of_lt af af
def qO(am:List Int):Prop:=∀d c:Nat,d<c->c<F am->al am d<al am c
def Eu{l}{i}(h:i<F l):al l i∈l:=by rw[fL h];exact jf h
def YL{l}{x}(h:x∈l):∃i,i<F l/\al l i=x:=by obtain⟨i,c,rfl⟩:=acw h;exact⟨i,c,fL c⟩
def aaK(h:ah)(x:V)(am:List Int)(o:Int)(hx:IL x am)(hs:qO am)(hl:F am<=1000000):
 ∃r h',W2.call 178 [x,im o] h=J (r,h')/\h'=h/\∃i:Int,r=.ret (.tuple [im i,.v (.bool (am.contains o))]):=by
 obtain⟨k,z0,rfl,X⟩:=hx;have L:=aj.mk (ar X hs);clear X hs;have u23:=dp;have z3:=fa;have e_:=db am;have Od:=λn=>anE n h;unfold im at *
 refine cA O Tryz.func178 O ?_;refine bD @Dq ?_;refine bM.gen λv j T fM eS=>?_;have f0:v.get 0=.ac k z0 (aF am):=by rw[j];exact gS
 have f1:v.get 1=(o:Int):=by rw[j];exact gS
 have f6:v.get 6=(F am:Nat):=by rw[j];exact gS
 have f7:v.get 7=(0:Nat):=by rw[j];exact gR
 have f8:v.get 8=(F am:Nat):=by rw[j];exact gS
 have fd:v.defers=[]:=by rw[T];exact gS
 clear j T fM eS;refine cJ (λz1 Z Y=>∃c f:Nat,c<=f/\f<=F am/\z1=f-c/\aj ((∀e,e<c->al am e<o)/\∀e,f<=e->e<F am->o<=al am e)/\Z.get 0=.ac k z0 (aF am)/\Z.get 1=(o:Int)/\Z.get 6=(F am:Nat)/\Z.get 7=(c:Nat)/\Z.get 8=(f:Nat)/\Z.defers=[]/\Y=h) ?_ (F am) _ _ ?_;rotate_left 1
 .exact⟨0,am.length,cC _,bh _,O,⟨λe A=>absurd A (qT _),λe h1 h2=>by omega⟩,f0,f1,f6,f7,f8,fd,O⟩
 clear f0 f1 f6 f7 f8 fd;rintro z1 Z Y ⟨c,f,h1,h2,rfl,R,g0,g1,g6,g7,g8,hd,rfl⟩;by_cases dD:c<f
 .have C:z0=1:=L.M.1 (by intro q;rw[q,gi]at h2;omega);subst C;obtain⟨d,p⟩:∃d:Nat,(c+f)/2=d:=⟨_,O⟩;have ld:=eI (H:=Y) (l:=am) (i:=d) (s:=1) af;have ls:=amI (al am d) o Y;have gG:(c:Int)<(f:Int):=by omega
  have zO:(c:Int)+(f:Int)=((c+f:Nat):Int):=by omega
  have OO:IntKind.u64.wrap ((c+f:Nat):Int)=((c+f:Nat):Int):=wrap_u64 af;have rR:IntKind.i64.wrap (((c+f)/2:Nat):Int)=((d:Nat):Int):=by rw[p];exact jq af af
  have akv:(d:Int)<(F am:Int):=by omega
  unfold im at ls;by_cases g:al am d<o
  .have m:decide (al am d<o)=aa:=(by simp[g]);rw[m]at ls;have D:aj ((∀e,e<d+1->al am e<o)/\∀e,f<=e->e<F am->o<=al am e):=⟨λe A=>by
    rcases eg e d with q|q
    .exact ab6 (L.M.2 e d q af) g
    .rw[(af:e=d)];exact g,R.M.2⟩
   have H:=aj.mk p;clear g m p;refine cg @Dq @bj @po (ar @BG @DE) ?_;have:=H.M;exact⟨f-(d+1),by omega,d+1,f,by omega,h2,O,D,br,br,br,by simp,O,br,br⟩
  .have m:decide (al am d<o)=au:=(by simp[g]);rw[m]at ls;have D:aj ((∀e,e<c->al am e<o)/\∀e,d<=e->e<F am->o<=al am e):=⟨R.M.1,λe A WE=>by
    rcases eg d e with q|q
    .have:=L.M.2 d e q WE;omega
    .rw[(af:e=d)];omega⟩
   have H:=aj.mk p;clear g m p;refine cg @Dq @bj @po (ar @BG @DE) ?_;have:=H.M;exact⟨d-c,by omega,c,d,by omega,by omega,O,D,br,br,br,O,by simp,br,br⟩
 .have B:c=f:=by omega
  subst B;have s:∀e,e<F am->al am e=o->e=c:=by
   intro e A he;rcases Nat.lt_trichotomy e c with q|q|q
   .have:=R.M.1 e q;omega
   .exact q
   .have h3:=L.M.2 c e q A;have h4:=R.M.2 c (bh _) af;omega
  by_cases u:c<F am
  .have C:z0=1:=L.M.1 (by intro q;rw[q,gi]at u;omega);subst C;have ld:=eI (H:=Y) (l:=am) (i:=c) (s:=1) u;have gG:(c:Int)<(F am:Int):=(by omega);have NV:decide ((c:Int)<(F am:Int))=aa:=(by simp[u]);by_cases y:al am c=o
   .have g:am.contains o=aa:=(by rw[xk,cD (by rw[<-y];exact Eu u)]);have E:=aj.mk g;have iN:decide (al am c=o)=aa:=(by simp[y]);clear g y s;refine bF @Dq @bj ?_;exact⟨_,_,O,O,_,by rw[E.M]⟩
   .have g:am.contains o=au:=(by rw[xk,cR];intro q;obtain⟨e,j1,N⟩:=YL q;have:=s e j1 N;subst this;exact y N);have E:=aj.mk g;have iN:decide (al am c=o)=au:=(by simp[y]);clear g y s;refine bF @Dq @bj ?_;exact⟨_,_,O,O,_,by rw[E.M]⟩
  .have g:am.contains o=au:=(by rw[xk,cR];intro q;obtain⟨e,j1,N⟩:=YL q;have:=s e j1 N;omega);have E:=aj.mk g;have B:c=F am:=(by omega);subst B;have NV:decide ((F am:Int)<(F am:Int))=au:=(by simp);clear g s;refine bF @Dq @bj ?_;exact⟨_,_,O,O,_,by rw[E.M]⟩
def asK:Tryz.f165.results.toList=[.tmp 4]:=aB
def Dp:Tryz.f219.results.toList=[]:=aB
def aov(h:ah)(x y z:V)(c:(V.agg [x,y]).bP=J [x,y])(d:z.bP=J [z]):W2.call 165 [.agg [x,y],z] h=J (.ret (.func (.func 219) [] [.ptr (.box (F h.I)) 0,.ptr (.box (F h.I+1)) 0]),(h.push [x,y]).push [z]):=by refine da O Tryz.func165 O ?_;exact qn @asK @bC @bV
def aow(l D L:Nat)(k0:Tok)(s0:Nat)(xs:List V)(y z:V)(U:List (List Int))(ae am:List Int)(Inv:Nat->ah->Prop)
 (E:IL y ae) (hz:IL z am) (fF:F xs=F U) (q:F ae=F U) (r:U≠[]->s0=1) (g:qO am) (Z:F am<=1000000) (mX:F U<=1000000)
 (C:∀k H,Inv k H->H.I[D]?=J [.ac k0 s0 (xs.map λa=>[a]),y]/\H.I[L]?=J [z])
 (R:∀k a H,k<F U->xs[k]?=J a->am.contains (al ae k)=aa->Inv k H->∃H',W2.round l [im (k:Nat),a] H=J (.ret (aa:V),H')/\Inv (k+1) H')
 (T:∀k H,k<F U->am.contains (al ae k)=au->Inv k H->Inv (k+1) H)
 (v:ah) (B:Inv 0 v):∃H',W2.call 219 [.yield l,.ptr (.box D) 0,.ptr (.box L) 0] v=J (.ret (.tuple []),H')/\Inv (F U) H':=by
 have c:=aj.mk (ar C (ar R (ar T (ar B (ar r (ar g hz))))));obtain⟨f,m⟩:=C 0 v B;have l1:=oP f;obtain⟨ky,sy,rfl,u⟩:=E;have ksy:=aj.mk u;clear C R T B r g hz f m u;have u23:=dp;have u22:=gZ;have z3:=fa;have z23:=iA;have e_:F (xs.map λa=>[a])=F U:=by rw[bJ];exact fF
 have u':F (aF ae)=F U:=by rw[db];exact q
 refine iG O Tryz.func219 O ?_;refine dA @Dp @dN @fE ?_;refine cJ (λz1 p H=>∃k:Nat,k<=F U/\z1=F U-k/\aj (Inv k H)/\p.get 0=.yield l/\p.get 1=.ptr (.box D) 0/\p.get 2=.ptr (.box L) 0/\p.get 9=.ac k0 s0 (xs.map λa=>[a])/\p.get 10=(F U:Nat)/\p.get 11=(k:Nat)/\p.defers=[]) ?_ (F U) _ _ ?_;rotate_left 1
 .refine⟨0,cC _,O,⟨c.M.2.2.2.1⟩,?_,?_,?_,?_,?_,?_,?_⟩<;>exact gR
 clear l1;rintro z1 p H ⟨k,hk,rfl,e,g0,g1,g2,g9,g10,g11,hd⟩;by_cases i:k<F U;rotate_left 1
 .have:k=F U:=by omega
  subst this;refine bD @Dp ?_;exact⟨_,O,e.M⟩
 obtain⟨f,m⟩:=c.M.1 k H e.M;have X:s0=1:=c.M.2.2.2.2.1 (by intro z0;rw[z0,gi]at i;omega);subst X;have Y:sy=1:=ksy.M (by intro z0;rw[z0,gi]at q;omega);subst Y;obtain⟨a,o⟩:∃a,xs[k]?=J a:=⟨_,aY af⟩;have ld:=jc (H:=H) (s:=1) o;have lo:=eI (H:=H) (l:=ae) (i:=k) (s:=1) af;have l1:=yk f;have l2:=wy m;obtain⟨_,H2,A,N,z2,rfl⟩:=aaK H z am (al ae k) c.M.2.2.2.2.2.2 c.M.2.2.2.2.2.1 Z;rw[N]at A;clear N f m;have gG:(k:Int)<(F U:Int):=by omega
 cases d:am.contains (al ae k) with
 |true=>
  obtain⟨H',r1,r2⟩:=c.M.2.1 k a H i o d e.M;rw[d]at A;have j:=aj.mk r2;clear r2 o d e;unfold im at *
  refine cg @Dp @dN @fE @bj ?_;refine dW xz aB ?_;refine cg @Dp @dN @fE (ar @bj @zr) ?_;exact⟨F U-(k+1),by omega,k+1,by omega,O,j,by simp⟩
 |false=>
  have j:=aj.mk (c.M.2.2.1 k H i d e.M);rw[d]at A;clear o d e;unfold im at *
  refine cg @Dp @dN @fE @bj ?_;refine dW xz aB ?_;refine cg @Dp @dN @fE (ar @bj @zr) ?_;exact⟨F U-(k+1),by omega,k+1,by omega,O,j,by simp⟩
structure yV(h H:ah)(t1 t2:Tok):Prop where
 c1:dm h.tn H t1
 c2:dm h.tn H t2
 ne:∀a,t1=.free a->t2≠ .free a
 ok:du H=aa
 ext:Ext h H
def BA{n0}{H}{t k}(f:dm n0 H k)(d:∀a,t=.free a->k≠ .free a):dm n0 (H.app t) k:=by
 rcases f with q|q|⟨l,rfl,i,c⟩
 .exact .inl q
 .exact .inr (.inl q)
 .refine .inr (.inr ⟨l,O,i,?_⟩);have j:=qV c;unfold alive at *
  simp only[bQ,DO,xk,decide_eq_false_iff_not,decide_eq_true_eq]at *
  refine⟨by rw[Et];omega,?_⟩;cases t with
  |free a=>
   intro g;rcases hh.1 g with e|e
   .exact d a O (by rw[e])
   .exact c.2 e
  |_=>exact c.2
def yV.app{h H}{t1 t2}(w:yV h H t1 t2):dm h.tn (H.app t1) t2/\yV h ((H.app t1).app t2) (.free H.tn) (.free (H.app t1).tn):=by
 have i:=w.ext.tn;have e:=Grown.one (n0:=h.tn) w.c1 w.ok i;have f:=BA w.c2 w.ne;have g:=Grown.one (n0:=h.tn) f e.ok (fB i e.tn);refine⟨f,?_,g.can,?_,g.ok,g.ext (e.ext w.ext (bh _)) (bh _)⟩
 .refine BA e.can λa c d=>?_;injection d with d;subst d;rcases f with q|q|⟨o,q,-,m⟩
  .rw[q]at c;cases c
  .rw[q]at c;cases c
  .rw[q]at c;injection c with c;subst c;rcases w.c2 with z|z|⟨l,z,-,j⟩
   .rw[z]at q;cases q
   .rw[z]at q;cases q
   .rw[z]at q;injection q with q;have:=qV j;omega
 .intro a c d;injection c with c;injection d with d;rw[Et]at d;omega
def yV.put{h H}{t1 t2}(w:yV h H t1 t2){b}(c:F h.I<=b)(cs):yV h (H.put b cs) t1 t2:=⟨w.c1,w.c2,w.ne,w.ok,w.ext.gw c cs⟩
def vx:Tryz.f92.results.toList=[.cell 4 22,.cell 5 23,.tmp 6,.tmp 7]:=aB
def aw3:(gp ag 22).bind V.bP=J [.ac .nil 0 []]:=aB
def aw4:(gp ag 23).bind V.bP=J [.ac .nil 0 []]:=aB
def avG:cQ ag 22=J 1:=aB
def Tg{H}{k}{n0 sz}{es}{x}(o:F es<1000000)(f:sz=1∨(es=[]/\k=.nil))(e:dm n0 H k):
 gC ag H #[22,22] (.ac k sz (es.map λa=>[a])) (.ac .aP 1 [[x]])=J (.ac (.free H.tn) 1 ((es++[x]).map λa=>[a]),H.app k):=by
 obtain⟨l,g,c,i,j⟩:=Jn;have m:=kL (af:F es+1<=1000000) i;have:=yZ (t0:=22) (t1:=22) (n0:=n0) (i:=l) (sz:=sz) (es:=es.map λa=>[a]) (new:=[[x]]) (x:=.ac .aP 1 [[x]]) gZ (.inl ⟨_,gZ⟩) g af (by rw[c];exact j) (by rw[c];rfl) cE
  (by simp only[bJ,eZ,gi,nT];omega) (by simp only[bJ,eZ,gi];omega) (f.imp (λd=>d.trans c.symm) λd=>⟨by rw[d.1];rfl,d.2⟩) e
 rw[c]at this;rw[jN];exact this
def hW(xs:List V)(ae am:List Int)(k:Nat):List V:=((bT k).filter λc=>am.contains (al ae c)).map λc=>xs.getD c default
def fc(ae am:List Int)(k:Nat):List Nat:=(bT k).filter λc=>am.contains (al ae c)
def ZF{ae am}{k}(h:am.contains (al ae k)=aa):fc ae am (k+1)=fc ae am k++[k]:=by unfold fc;rw[lP,A_,Lz,aH h];rfl
def ZE{ae am}{k}(h:am.contains (al ae k)=au):fc ae am (k+1)=fc ae am k:=by unfold fc;rw[lP,A_,Lz,aV (by rw[h];simp)];simp
def ZC{xs}{ae am}{k}{a}(h:am.contains (al ae k)=aa)(c:xs[k]?=J a):hW xs ae am (k+1)=hW xs ae am k++[a]:=by
 have d:xs.getD k default=a:=by rw[fg,c];rfl
 unfold hW;rw[lP,A_,Lz,aH h,List.filter_nil,jN,dR,List.map_nil,d]
def ZB{xs}{ae am}{k}(h:am.contains (al ae k)=au):hW xs ae am (k+1)=hW xs ae am k:=by unfold hW;rw[lP,A_,Lz,aV (by rw[h];simp)];simp
def ZA{xs}{ae am}{k}:F (hW xs ae am k)<=k:=by unfold hW;rw[bJ];exact fB (Bc _ _) cE
def JO:∀(am:List Int) (c:Int),dL c am=aa->(∀i,i<F am->c<al am i)/\qO am:=by
 intro am
 induction am with
 |nil=>exactλ_ _=>⟨λi e=>absurd e (qT _),λi g _ d=>absurd d (qT _)⟩|cons n o l=>
  intro c h;unfold dL at h;simp only[bQ,decide_eq_true_eq]at h;obtain⟨f,j⟩:=l n h.2;refine⟨λi e=>?_,λi g m d=>?_⟩
  .cases i with|zero=>exact h.1.1|succ i=>exact ab6 h.1.1 (f i (by simpa using e))
  .cases g with
   |zero=>omega|succ g=>
    cases i with|zero=>exact f g (by simpa using d)|succ i=>exact j i g af (by simpa using d)
def Jr{H}{b}{x}(c:H.I[b]?=J [x]):aL ag Gt H 22 (.ptr (.box b) 0)=J x:=by rw[fx Ml c];rfl
def Re{H}{b}{x}{k}{s}{es}(c:H.I[b]?=J [x]):b9 ag H 22 (.ptr (.box b) 0) (.ac k s es)=J (H.put b [.ac k s es]):=fI (off:=0) (cs:=[x]) (xs:=[.ac k s es]) O avG c O (bh 1)
def KD{H}{b}{x}{k}{s}{es}(c:H.I[b]?=J [x]):b9 ag H 23 (.ptr (.box b) 0) (.ac k s es)=J (H.put b [.ac k s es]):=fI (off:=0) (cs:=[x]) (xs:=[.ac k s es]) O iA c O (bh 1)
def abw:cQ ag 25=J 2:=aB
def tN{H}{b}{x y}(c:H.I[b]?=J [x,y]):aL ag Gt H 25 (.ptr (.box b) 0)=J (.agg [x,y]):=by rw[fS El abw c (bh 2)];rfl
def aey{am}(h:qO am)(d:∀i,i<F am-> -1<al am i):∀i:Nat,i<F am->(i:Int)<=al am i:=by
 intro i
 induction i with
 |zero=>intro c;have:=d 0 c;omega|succ i e=>intro c;have f:=e af;have h2:=h i (i+1) af c;omega
def ao2:∀(am:List Int) (c:Int),dL c am=aa->∀i,i<F am->al am i<=63:=by
 intro am
 induction am with
 |nil=>exactλ_ _ i d=>absurd d (qT _)|cons n f e=>
  intro c h i d;unfold dL at h;simp only[bQ,decide_eq_true_eq]at h;cases i with|zero=>exact h.1.2|succ i=>exact e n h.2 i (by simpa using d)
def aex{am}(h:dL (-1) am=aa):F am<=64:=by
 obtain⟨c,h2⟩:=JO am (-1) h;rcases eg 64 (F am) with q|q
 .have d:=aey h2 c 64 q;have e:=ao2 am (-1) h 64 q;omega
 .exact q
def wS(k)(s)(l):dh (.ac k s (aF l)) (.ac k s (aF l))=aa:=by
 have h:nf (aF l) (aF l)=aa:=by
  induction l with
  |nil=>simp[aF,nf]|cons n l c=>have:aF (n::l)=[((n:Int):V)]::aF l:=rfl;rw[this];simp[nf,gI,dh,iz,c]
 rw[dh,h,Bool.and_true];cases k<;>simp[sF]
def TO{H:ah}{l}{r}{t}:(H.busy l r).app t=(H.app t).busy l r:=by cases t<;>rfl
def ait{H:ah}{l}{r}{t1 t2}{b1 c}{d c2}:({I:=(((((H.busy l r).app t1).app t2).put b1 d).put c c2).I,aI:=H.aI,tn:=(((((H.busy l r).app t1).app t2).put b1 d).put c c2).tn,dead:=(((((H.busy l r).app t1).app t2).put b1 d).put c c2).dead}:ah)=(((H.app t1).app t2).put b1 d).put c c2:=by cases t1<;>cases t2<;>rfl
def Hr(h:ah)(L:List ij)(b1 e b3 b4 f:Nat)(g i j:List V)(xs:List V)(ae am:List Int)(k:Nat)(H:ah):Prop:=
 ∃t1 c t2 d,H.aI=L/\H.I[b1]?=J [.ac t1 c ((hW xs ae am k).map λa=>[a])]/\H.I[e]?=J [.ac t2 d (aF (dn (fc ae am k)))]/\(c=1∨(hW xs ae am k=[]/\t1=.nil))/\(d=1∨(dn (fc ae am k)=[]/\t2=.nil))/\yV h H t1 t2/\H.I[b3]?=J g/\H.I[b4]?=J i/\H.I[f]?=J j
def apY(l)(k:Nat):dn (l++[k])=dn l++[(k:Int)]:=by unfold dn;simp
def ao4{ae am}{k}:F (dn (fc ae am k))<=k:=by unfold dn fc;rw[bJ];exact fB (Bc _ _) cE
def Sz(xs:List V)(U:List (List Int))(ae am:List Int)(h:ah)(r:dV)(h':ah):Prop:=
 Ext h h'/\if cI U ae≠0 then r=.ret (.tuple [.ac .nil 0 [],.ac .nil 0 [],.ac .nil 0 [],((cI U ae:Int):V)])
  else if dL (-1) am=au then r=.ret (.tuple [.ac .nil 0 [],.ac .nil 0 [],.ac .nil 0 [],.v (.int .i64 1)])
  else ∃c e d f g,r=.ret (.tuple [.ac c e ((hW xs ae am (F U)).map λa=>[a]),.ac d f (aF (dn (fc ae am (F U)))),.arr g 0 (cr U) (cr U),.v (.int .i64 0)])/\(e=1∨(hW xs ae am (F U)=[]/\c=.nil))/\(f=1∨(dn (fc ae am (F U))=[]/\d=.nil))/\h'.I[g]?=J ((fW (cr U)).map im)
def aqj(h:ah)(d:Tok)(s0:Nat)(xs:List V)(y z:V)(U:List (List Int))(ae am:List Int)(hx:RL (.ac d s0 (xs.map λa=>[a])) U)(fF:F xs=F U)(E:IL y ae)(hz:IL z am)(ye:F am<=1099511627776)(ho:du h=aa):
 ∃r h',W2.call 92 [.agg [.ac d s0 (xs.map λa=>[a]),y],z] h=J (r,h')/\Sz xs U ae am h r h':=by
 obtain⟨c,c97,e1⟩:=Ut (((h.push [.ac d s0 (xs.map λa=>[a]),y]).push [.ac .nil 0 []]).push [.ac .nil 0 []]) _ y U ae hx E;have kyz:=aj.mk (ar hx (ar E (ar hz ho)));have bx:(V.agg [.ac d s0 (xs.map λa=>[a]),y]).bP=J [.ac d s0 (xs.map λa=>[a]),y]:=by obtain⟨ky,sy,rfl,-⟩:=E;rfl
 have X1:Ext h c:=by rw[e1];exact(((Ext.push _ _).trans (.push _ _)).trans (.push _ _)).trans (.push _ _)
 have p0:c.I[F h.I]?=J [.ac d s0 (xs.map λa=>[a]),y]:=by rw[e1];exact aX (aX (aX (aU _ _)))
 have o:c.I[F h.I+1]?=J [.ac .nil 0 []]:=by rw[e1];exact aX (aX (nB (by rw[bV])))
 have j:c.I[F h.I+1+1]?=J [.ac .nil 0 []]:=by rw[e1];exact aX (nB (by rw[bV,bV]))
 have Y:F c.I=F h.I+4:=by rw[e1];simp only[bV]
 have tW:du c=aa:=X1.ok ho;have l0:aL ag Gt (((h.push [.ac d s0 (xs.map λa=>[a]),y]).push [.ac .nil 0 []]).push [.ac .nil 0 []]) 25 (.ptr (.box (F h.I)) 0)=J (.agg [.ac d s0 (xs.map λa=>[a]),y]):=tN (aX (aX (aU _ _)));have tn1:c.tn=h.tn:=by rw[e1];rfl
 have kX:=aj.mk (ar X1 (ar tW (ar Y tn1)));have z22:=aw3;have z23:=aw4;have kp:=aj.mk (ar p0 (ar o j));have s4:=λ(k:Tok) s es=>Re (k:=k) (s:=s) (es:=es) o;have L:=(bk.1 o).1;have R:=(bk.1 j).1;clear e1 X1 p0 Y tW tn1 hx E ho;unfold Sz;refine cA O Tryz.func92 O ?_;generalize Fu:cI U ae=pe at *
 by_cases Al:pe=0;rotate_left 1
 .have s5:b9 ag (c.put (F h.I+1) [.ac .nil 0 []]) 23 (.ptr (.box (F h.I+1+1)) 0) (.ac .nil 0 [])=J ((c.put (F h.I+1) [.ac .nil 0 []]).put (F h.I+1+1) [.ac .nil 0 []]):=KD (by rw[cS af];exact j);have m1:aL ag Gt ((c.put (F h.I+1) [.ac .nil 0 []]).put (F h.I+1+1) [.ac .nil 0 []]) 22 (.ptr (.box (F h.I+1)) 0)=J (.ac .nil 0 []):=Jr (by rw[cS af];exact dM L);have m2:aL ag Gt ((c.put (F h.I+1) [.ac .nil 0 []]).put (F h.I+1+1) [.ac .nil 0 []]) 23 (.ptr (.box (F h.I+1+1)) 0)=J (.ac .nil 0 []):=wy (dM (by rw[jV];exact R));have Ws:decide (pe=0)=au:=by simp[Al]
  clear o j hz L R;refine dA @vx @bC @bV ?_;exact⟨_,_,O,(kX.M.1.gw af _).gw af _,by rw[aH Al]⟩
 .subst Al;obtain⟨f,e,rfl,hJ⟩:=kyz.M.2.2.1;have ksz:=aj.mk hJ;clear hJ hz;have u23:=dp;have z3':=fa;have ayK:=db am;have kpe:=aj.mk Fu;clear Fu;refine dA @vx @bC @bV ?_;refine bM.gen λH i ja fM C=>?_;have f1:H.get 1=.ac f e (aF am):=by rw[i];exact gS
  have f2:H.get 2=.ptr (.box (F h.I)) 0:=by rw[i];exact gS
  have f4:H.get 4=.ptr (.box (F h.I+1)) 0:=by rw[i];simp only[gW,reduceIte,aT,aN,bV]
  have f5:H.get 5=.ptr (.box (F h.I+1+1)) 0:=by rw[i];simp only[gW,reduceIte,aT,aN,bV]
  have f8:H.get 8=.v (.int .i64 (-1)):=by rw[i];exact gS
  have f19:H.get 19=.ac f e (aF am):=by rw[i];exact gS
  have f20:H.get 20=(F am:Nat):=by rw[i];exact gS
  have f21:H.get 21=(0:Nat):=by rw[i];exact gR
  have fd:H.defers=[]:=by rw[ja];exact gS
  clear i ja fM C l0 c97;refine cJ (λz4 z2 X=>∃(T:Nat) (g:Int),T<=F am/\z4=F am-T/\ -1<=g/\aj (dL g (am.drop T)=dL (-1) am)/\z2.get 1=.ac f e (aF am)/\z2.get 2=.ptr (.box (F h.I)) 0/\z2.get 4=.ptr (.box (F h.I+1)) 0/\z2.get 5=.ptr (.box (F h.I+1+1)) 0/\z2.get 8=(g:Int)/\z2.get 19=.ac f e (aF am)/\z2.get 20=(F am:Nat)/\z2.get 21=(T:Nat)/\z2.defers=[]/\X=c) ?_ (F am) _ _ ?_;rotate_left 1
  .exact⟨0,-1,cC _,O,DT _,⟨O⟩,f1,f2,f4,f5,f8,f19,f20,f21,fd,O⟩
  clear f1 f2 f4 f5 f8 f19 f20 f21 fd;rintro z4 z2 c ⟨T,g,hi,rfl,Fm,kP,g1,g2,g4,g5,g8,g19,g20,g21,hd,rfl⟩;by_cases dD:T<F am
  .have eM:e=1:=ksz.M (by intro z1;rw[z1,gi]at dD;omega);subst eM;have ld:=eI (H:=c) (l:=am) (s:=1) dD;have cp:=Zz (al am T) c;have gG:(T:Int)<(F am:Int):=(by omega);have q:am.drop T=al am T::am.drop (T+1):=(by rw[fL dD];exact uw dD);have u:=kP.M;rw[q,dL]at u;have s5:b9 ag (c.put (F h.I+1) [.ac .nil 0 []]) 23 (.ptr (.box (F h.I+1+1)) 0) (.ac .nil 0 [])=J ((c.put (F h.I+1) [.ac .nil 0 []]).put (F h.I+1+1) [.ac .nil 0 []]):=KD (by rw[cS af];exact j);have m1:aL ag Gt ((c.put (F h.I+1) [.ac .nil 0 []]).put (F h.I+1+1) [.ac .nil 0 []]) 22 (.ptr (.box (F h.I+1)) 0)=J (.ac .nil 0 []):=Jr (by rw[cS af];exact dM L);have m2:aL ag Gt ((c.put (F h.I+1) [.ac .nil 0 []]).put (F h.I+1+1) [.ac .nil 0 []]) 23 (.ptr (.box (F h.I+1+1)) 0)=J (.ac .nil 0 []):=wy (dM (by rw[jV];exact R));unfold im t_ at *
   generalize al am T=n at *
   by_cases h1:0<=n/\n<=63
   .have iN:(decide (0<=n)&&decide (n<=63))=aa:=(by simp[h1.1,h1.2]);rw[iN]at cp;by_cases h2:n<=g
    .have jQ:decide (n<=g)=aa:=(by simp[h2]);have hf:dL (-1) am=au:=(by rw[<-u];simp;omega);have kf:=aj.mk hf;clear u hf q o j h2 h1 kP;refine bF @vx @bj ?_;exact⟨_,_,O,(kX.M.1.gw af _).gw af _,by rw[aV (by simp[kpe.M]),aH kf.M]⟩
    .have jQ:decide (n<=g)=au:=(by simp;omega);have kP2:aj (dL n (am.drop (T+1))=dL (-1) am):=⟨by rw[<-u,cD (af:g<n),cD h1.2];rfl⟩;have h3: -1<=n:=(by omega);clear u q o j h2 h1 kP s4 s5 m1 m2;refine bF @vx @bj ?_;exact⟨F am-(T+1),by omega,T+1,n,by omega,O,h3,kP2,by simp⟩
   .have iN:(decide (0<=n)&&decide (n<=63))=au:=(by simp only[abW,decide_eq_false_iff_not];omega);rw[iN]at cp;have hf:dL (-1) am=au:=(by rw[<-u];simp only[abW,decide_eq_false_iff_not];omega);have kf:=aj.mk hf;clear u hf q o j h1 kP;refine bF @vx @bj ?_;exact⟨_,_,O,(kX.M.1.gw af _).gw af _,by rw[aV (by simp[kpe.M]),aH kf.M]⟩
  .have gq:T=F am:=(by omega);subst gq;have hf:dL (-1) am=aa:=(by rw[<-kP.M,oo (bh _)];rfl);have kf:=aj.mk hf;clear hf kP;obtain⟨o1,o2,o3,o4⟩:=pD kpe.M;obtain⟨n1,n2⟩:=pm kpe.M;have V8:=(JO am (-1) kf.M).2;have ayL:=aex kf.M;have ko:=aj.mk (ar o3 V8);have VR:(U≠[]->s0=1)/\∀(T:Nat) (a:V) (r:List Int),xs[T]?=J a->U[T]?=J r->IL a r:=(by obtain⟨N,s',xs',he,I9,-,D⟩:=kyz.M.1;injection he with _ OB he;have:=(LK (λx y h=>by injection h)).1 he;subst this;subst OB;exact⟨I9,D⟩);have kRL:=aj.mk VR;have ko1:=aj.mk o1;have l22:aL ag Gt c 22 (.ptr (.box (F h.I)) 0)=J (.ac d s0 (xs.map λa=>[a])):=oP kp.M.1;have u22:=gZ;have e_:F (xs.map λa=>[a])=F U:=(by rw[bJ];exact fF);have mk:=wF c (cr U) af .i64 .i64;have tK:bR (cr U) (im 0)=(bR (cr U) (0:Int)).map im:=(by rw[yO]);rw[tK]at mk;have sk:=vB (H:=c.push ((bR (cr U) (0:Int)).map im)) (b:=c.I.length) (r:=bR (cr U) (0:Int)) (k:=0) (x:=1) (aU _ _) (by rw[nj];exact n1);have Xx:(bR (cr U) (0:Int)).set 0 1=fW (cr U):=(by obtain⟨z3,A⟩:∃z3,cr U=z3+1:=⟨cr U-1,by omega⟩;rw[A];unfold fW;rw[D_];rfl);rw[ml,Xx]at sk;have ix:dU ag 23 (.arr (F c.I) 0 (cr U) (cr U)) (.v (.int .i64 0))=J (.ptr (.box (F c.I)) 0):=oO (n:=0) (k:=.i64) n1;have l25:aL ag Gt (c.push ((fW (cr U)).map im)) 25 (.ptr (.box (F h.I)) 0)=J (.agg [.ac d s0 (xs.map λa=>[a]),y]):=tN (aX kp.M.1);have ow:=aov (c.push ((fW (cr U)).map im)) (.ac d s0 (xs.map λa=>[a])) y (.ac f e (aF am)) bx O;have kmk:=aj.mk (ar o j);have NU:((0:Nat):Int)=0:=rfl;clear Xx tK V8 o3 o4 o1 VR o j s4 L R;unfold im at *
   have Wp:(F U=0->cr U=1)/\∀r0,U[0]?=J r0->F r0=cr U:=(by refine⟨λz1=>by unfold cr;rw[aH z1],λr0 z1=>?_⟩;exact(ko.M.1 r0 (dy z1)).1);have kcols:=aj.mk Wp;clear Wp;generalize cr U=cw at *
   have two:F U=0∨0<F U:=(by omega);rcases two with C|C
   case' inl=>
    have hc1:=kcols.M.1 C;have iC:¬((0:Int)<(F U:Int)):=(by omega);have mk':wE ag c 23 (.v (.int .i64 1)) (.v (.int .i64 1))=J (.arr (F c.I) 0 cw cw,c.push ((bR cw (0:Int)).map λn=>((n:Int):V))):=(by have:=mk;rw[show((cw:Nat):Int)=1 by omega]at this;exact this);clear C mk hc1
    repeat' (first|simp(maxSteps:=9999999) (disch:=first|exact dZ|fail) only[gW,reduceIte,aT,aN,vx,dN,fE,bj, *]|refine dX ?_ ?_<;>(intro _;try omega))
   case' inr=>
    obtain⟨a0,NF⟩:∃a,xs[0]?=J a:=⟨_,aY af⟩;obtain⟨r0,rk⟩:∃r,U[0]?=J r:=⟨_,aY af⟩;have eM:s0=1:=kRL.M.1 (by intro z1;rw[z1,gi]at C;omega);have ixr:dU ag 22 (.ac d s0 (xs.map λa=>[a])) (.v (.int .i64 0))=J (.elem 1 (xs.map λa=>[a]) 0 0):=(by rw[eM];exact bj u22 iA (DT _) (by rw[e_];omega));clear eM;have ld0:=jc (H:=c) (s:=1) NF;obtain⟨ka0,sa0,rfl,-⟩:=kRL.M.2 0 a0 r0 NF rk;have mX:F (aF r0)=cw:=(by rw[db];exact kcols.M.2 r0 rk);have iC:(0:Int)<(F U:Int):=(by omega);have z0:(0:Int).toNat=0:=rfl;have z23':=iA;clear NF rk
    repeat' (first|simp(maxSteps:=9999999) (disch:=first|exact dZ|fail) only[gW,reduceIte,aT,aN,vx,dN,fE,bj, *]|refine dX ?_ ?_<;>(intro _;try omega))
   all_goals
    refine bM.gen λe4 nV tG Ae Ai=>?_;have f4:e4.get 4=.ptr (.box (F h.I+1)) 0:=(by rw[nV];simp only[gW,reduceIte,aT,aN];exact g4);have f5:e4.get 5=.ptr (.box (F h.I+1+1)) 0:=(by rw[nV];simp only[gW,reduceIte,aT,aN];exact g5);have f6:e4.get 6=.arr (F c.I) 0 cw cw:=(by rw[nV];exact gS);have f50:e4.get 50=.func (.func 219) [] [.ptr (.box (F (c.push ((fW cw).map λn=>((n:Int):V))).I)) 0,.ptr (.box (F (c.push ((fW cw).map λn=>((n:Int):V))).I+1)) 0]:=(by rw[nV];exact gS);have fd:e4.defers=[]:=(by rw[tG];simp only[gW,reduceIte,aT,aN];exact hd);clear nV tG Ae Ai g1 g2 g4 g5 g8 g19 g20 g21 hd;refine Gu (by rw[BS];exact f50) λrec w1 w2 w3 w4 w5 w6=>?_;obtain⟨x1,tW,Y,tn1⟩:=kX.M;obtain⟨p0,o,j⟩:=kp.M;have X3:Ext h (((c.push ((fW cw).map im)).push [.ac d s0 (xs.map λa=>[a]),y]).push [.ac f e (aF am)]):=((x1.trans (.push _ _)).trans (.push _ _)).trans (.push _ _);have b0:(((c.push ((fW cw).map im)).push [.ac d s0 (xs.map λa=>[a]),y]).push [.ac f e (aF am)]).I[F c.I]?=J ((fW cw).map im):=aX (aX (aU _ _));have b1:(((c.push ((fW cw).map im)).push [.ac d s0 (xs.map λa=>[a]),y]).push [.ac f e (aF am)]).I[F h.I+1]?=J [.ac .nil 0 []]:=aX (aX (aX o));have b2:(((c.push ((fW cw).map im)).push [.ac d s0 (xs.map λa=>[a]),y]).push [.ac f e (aF am)]).I[F h.I+1+1]?=J [.ac .nil 0 []]:=aX (aX (aX j));have b3:(((c.push ((fW cw).map im)).push [.ac d s0 (xs.map λa=>[a]),y]).push [.ac f e (aF am)]).I[F c.I+1]?=J [.ac d s0 (xs.map λa=>[a]),y]:=aX (nB (by rw[bV]));have b4:(((c.push ((fW cw).map im)).push [.ac d s0 (xs.map λa=>[a]),y]).push [.ac f e (aF am)]).I[F c.I+1+1]?=J [.ac f e (aF am)]:=nB (by rw[bV,bV]);have ok3:du (((c.push ((fW cw).map im)).push [.ac d s0 (xs.map λa=>[a]),y]).push [.ac f e (aF am)])=aa:=tW;have gU:F (((c.push ((fW cw).map im)).push [.ac d s0 (xs.map λa=>[a]),y]).push [.ac f e (aF am)]).aI=F c.aI:=rfl;have B9:F h.aI<=F c.aI:=x1.FN;rw[bV]at f50;unfold im at *
    rw[bV];generalize ((c.push ((fW cw).map λn=>V.v (.int .i64 n))).push [.ac d s0 (xs.map λa=>[a]),y]).push [.ac f e (aF am)]=p at *
    have ax2:F h.I+1<F p.I:=(bk.1 b1).1;have ax3:F h.I+1+1<F p.I:=(bk.1 b2).1;have nW:(p.loop rec).aI[F c.aI]?=J rec:=(by rw[<-gU];exact @FO p rec);have feed:=aow (F c.aI) (F c.I+1) (F c.I+1+1) d s0 xs y (.ac f e (aF am)) U ae am
     (Hr h (p.loop rec).aI (F h.I+1) (F h.I+1+1) (F c.I) (F c.I+1) (F c.I+1+1) ((fW cw).map λn=>((n:Int):V)) [.ac d s0 (xs.map λa=>[a]),y] [.ac f e (aF am)] xs ae am)
     kyz.M.2.1 kyz.M.2.2.1 fF ko1.M.symm kRL.M.1 ko.M.2 af af
     (λk X z1=>by obtain⟨_,_,_,_,_,_,_,_,_,_,_,q1,q2⟩:=z1;exact⟨q1,q2⟩)
     ?_
     (λk X _ A z1=>by
      unfold Hr at *
      rw[ZB A,ZE A];exact z1)
     (p.loop rec) ⟨.nil,0,.nil,0,O,b1,b2,.inr ⟨O,O⟩,.inr ⟨O,O⟩,⟨.inl O,.inl O,λa z1=>(nomatch z1),ok3,X3.trans ((Fr.CQ (bn:=p.I.length) (l0:=p.aI.length) (n0:=p.tn) p rec).ext (bh _) (bh _) (bh _))⟩,b0,b3,b4⟩
    rotate_left 1
    .rintro k a X hk NC A ⟨t1,s1,t2,B,i1,i2,i3,i4,i5,i6,i7,i8,i9⟩;have xZ:X.aI[F c.aI]?=J rec:=(by rw[i1];exact nW);have w:=i6;have q0:(X.busy (F c.aI) rec).I=X.I:=rfl;have e22:=λA=>ZC (xs:=xs) (ae:=ae) (am:=am) (k:=k) (a:=a) A NC;have e23:=ZF (ae:=ae) (am:=am) (k:=k) A;have wA:=w.app;refine Qt (Post:=Hr h (p.loop rec).aI (F h.I+1) (F h.I+1+1) (F c.I) (F c.I+1) (F c.I+1+1) ((fW cw).map λn=>((n:Int):V)) [.ac d s0 (xs.map λa=>[a]),y] [.ac f e (aF am)] xs ae am (k+1)) xZ (by rw[w2];rfl) w5 w6 ?_;have r1:∀t,(oe (F c.aI) rec [im (k:Nat),a]).get t=if 52=t then a else if 51=t then im (k:Nat) else e4.get t:=λt=>J7 w2 w1
     have d1:(oe (F c.aI) rec [im (k:Nat),a]).defers=[]:=rfl;obtain⟨K,hK⟩:∃K,X.busy (F c.aI) rec=K:=⟨_,O⟩;have kc1:dm h.tn K t1:=(by rw[<-hK];exact w.c1);have kc2:dm h.tn (K.app t1) t2:=(by rw[<-hK,TO];exact wA.1);have kb1:K.I[F h.I+1]?=J [.ac t1 s1 ((hW xs ae am k).map λa=>[a])]:=(by rw[<-hK];exact i2);have kb2:(K.app t1).I[F h.I+1+1]?=J [.ac t2 B (aF (dn (fc ae am k)))]:=(by rw[ey,<-hK];exact i3);have kb22:K.I[F h.I+1+1]?=J [.ac t2 B (aF (dn (fc ae am k)))]:=(by rw[<-hK];exact i3);have pl1:=ZA (xs:=xs) (ae:=ae) (am:=am) (k:=k);have pl2:=ao4 (ae:=ae) (am:=am) (k:=k);have ap1:=Tg (x:=a) (af:F (hW xs ae am k)<1000000) i4 kc1;have ap2:=vY (x:=(k:Int)) (show(F (dn (fc ae am k)))<1099511627776 by omega) i5 kc2;rw[<-e22 A]at ap1;rw[<-apY,<-e23]at ap2;have lA:=Jr kb1;have lB:=wy kb2;have lB0:=wy kb22;have sA:=Re (H:=(K.app t1).app t2) (b:=F h.I+1) (k:=.free K.tn) (s:=1) (es:=(hW xs ae am (k+1)).map λa=>[a]) (by rw[ey,ey];exact kb1);have sB:=KD (H:=((K.app t1).app t2).put (F h.I+1) [.ac (.free K.tn) 1 ((hW xs ae am (k+1)).map λa=>[a])]) (b:=F h.I+1+1) (k:=.free (K.app t1).tn) (s:=1) (es:=aF (dn (fc ae am (k+1)))) (by rw[cS af,ey];exact kb2);have blA:fC ag 22 1 [(0,a)]=J (.ac .aP 1 [[a]]):=(by obtain⟨r',Ah⟩:∃r',U[k]?=J r':=⟨_,aY hk⟩;exact HI a (kRL.M.2 k a r' NC Ah).cell);have blB:=p_ (k:Int);have svs:=wS t2 B (dn (fc ae am k));have m:aj (Hr h (p.loop rec).aI (F h.I+1) (F h.I+1+1) (F c.I) (F c.I+1) (F c.I+1+1) ((fW cw).map λn=>((n:Int):V)) [.ac d s0 (xs.map λa=>[a]),y] [.ac f e (aF am)] xs ae am (k+1) ((((X.app t1).app t2).put (F h.I+1) [.ac (.free X.tn) 1 ((hW xs ae am (k+1)).map λa=>[a])]).put (F h.I+1+1) [.ac (.free (X.app t1).tn) 1 (aF (dn (fc ae am (k+1))))])):=by
      have hl1:=(bk.1 i2).1;have N':=(bk.1 i3).1;refine⟨_,1,_,1,?_,?_,?_,.inl O,.inl O,(wA.2.put af _).put af _,?_,?_,?_⟩
      .show((X.app t1).app t2).aI=_;rw[Br,Br];exact i1
      .rw[cS af];exact dM (by rw[ey,ey];exact hl1)
      .exact dM (by rw[jV,ey,ey];exact N')
      .rw[cS af,cS af,ey,ey];exact i7
      .rw[cS af,cS af,ey,ey];exact i8
      .rw[cS af,cS af,ey,ey];exact i9
     clear i1 i2 i3 i4 i5 i6 i7 i8 i9 w wA q0 e22 e23 b0 b1 b2 b3 b4 kb1 kb2 kb22 pl1 pl2 A NC kc1 kc2 X3 ok3 gU p0 o j x1 tW f50;rw[hK];unfold im at *
     rw[w3,w4];refine xO ?_;refine⟨br,br,?_⟩;refine bM.gen λe2 Z jQ oL Cs=>?_;have q4:e2.get 4=.ptr (.box (F h.I+1)) 0:=(by rw[Z];simp only[gW,reduceIte,aT,aN,r1];exact f4);have q5:e2.get 5=.ptr (.box (F h.I+1+1)) 0:=(by rw[Z];simp only[gW,reduceIte,aT,aN,r1];exact f5);have q12:e2.get 12=(k:Int):=(by rw[Z];simp only[gW,reduceIte,aT,aN,r1]);have q13:e2.get 13=a:=(by rw[Z];simp only[gW,reduceIte,aT,aN,r1]);clear Z jQ oL Cs r1 d1 w1 w2 w3 w4 w5 w6;refine xO ?_;refine jY [(3,4)] xz aB (λz5 hp=>?_) ?_
     .simp only[iL]at hp;subst hp;refine nO (x:=.ptr (.box (F h.I+1+1)) 0) (v:=.ac t2 B (aF (dn (fc ae am k)))) aB O O O aB (svs) ?_ ?_<;>(simp only[dY,dG];exact f_ @iB.{0} @and_self)
     refine xO ?_;have kf2:=m.M;rw[Y]at kf2;refine⟨br,?_,?_⟩
     .show((K.app t1).app t2).aI=_;rw[Br,Br]
     .rw[<-hK,ait,TO];exact kf2
    .obtain⟨Hf,c1,t1,s1,t2,B,i1,i2,i3,i4,i5,i6,i7,i8,i9⟩:=feed;rw[gU];refine⟨_,_,c1,rec,by rw[i1];exact nW,by rw[w5];decide,.inl ⟨w6,?_⟩⟩;have hf1:=(bk.1 i2).1;have Cd:=(bk.1 i3).1;have q1:(Hf.fV (F c.aI) {rec with state:=.exhausted}).I[F h.I+1]?=J [.ac t1 s1 ((hW xs ae am (F U)).map λa=>[a])]:=i2;have q2:(Hf.fV (F c.aI) {rec with state:=.exhausted}).I[F h.I+1+1]?=J [.ac t2 B (aF (dn (fc ae am (F U))))]:=i3;have q7:(Hf.fV (F c.aI) {rec with state:=.exhausted}).I[F c.I]?=J ((fW cw).map λn=>((n:Int):V)):=i7;have XF:Ext h (Hf.fV (F c.aI) {rec with state:=.exhausted}):=((Fr.F2 (bn:=h.I.length) (l0:=h.aI.length) (n0:=h.tn) i6.ext (bh _)).trans (.fV B9 _)).ext (bh _) (bh _) (bh _);generalize Hf.fV (F c.aI) {rec with state:=.exhausted}=HF at *
     have N1:=(bk.1 q1).1;have hg2:=(bk.1 q2).1;have lA:=Jr q1;have lB:=wy q2;have sA:=Re (k:=t1) (s:=s1) (es:=(hW xs ae am (F U)).map λa=>[a]) q1;have lB2:aL ag Gt (HF.put (F h.I+1) [.ac t1 s1 ((hW xs ae am (F U)).map λa=>[a])]) 23 (.ptr (.box (F h.I+1+1)) 0)=J (.ac t2 B (aF (dn (fc ae am (F U))))):=wy (by rw[cS af];exact q2);have sB:=KD (H:=HF.put (F h.I+1) [.ac t1 s1 ((hW xs ae am (F U)).map λa=>[a])]) (b:=F h.I+1+1) (k:=t2) (s:=B) (es:=aF (dn (fc ae am (F U)))) (by rw[cS af];exact q2);have eA:=ju q1;have eB:=ju (h:=HF) q2;rw[eA]at sA sB lB2;rw[eB]at sB;have svs:=wS t2 B (dn (fc ae am (F U)));have m:=aj.mk (ar XF (ar i4 (ar i5 q7)));clear q1 q2 q7 XF i1 i2 i3 i4 i5 i6 i7 i8 i9 c1 b0 b1 b2 b3 b4 X3 ok3 gU p0 o j x1 tW f50 nW w1 w2 w3 w4 w5 w6 eA eB;refine bD @vx ?_;refine jY [(1,3)] xz aB (λz5 hp=>?_) ?_
     .simp only[iL]at hp;subst hp;refine jL (x:=.ptr (.box (F h.I+1+1)) 0) (v:=.ac t2 B (aF (dn (fc ae am (F U))))) aB O O O aB (svs) ?_ ?_<;>(simp only[dY,dG];exact f_ @vx @and_self)
     refine bD @vx ?_;exact⟨_,_,O,m.M.1,by rw[aV (by simp[kpe.M]),aV (by simp[kf.M])];exact⟨_,_,_,_,_,O,m.M.2.1,m.M.2.2.1,by rw[<-Y];exact m.M.2.2.2⟩⟩
def IL.hold{x}{l}(h:IL x l):IL (aA x) l/\aK 0 0 0 (aA x)=aa:=by obtain⟨k,d,rfl,c⟩:=h;rw[aA,tJ];exact⟨⟨cK k,d,O,c⟩,by rw[aK,fy,jG];rfl⟩
def Ac:∀xs:List V,ef (xs.map λa=>[a])=(xs.map aA).map λa=>[a]
 | []=>rfl
 |x::xs=>by rw[dR,ef,Ac xs];rfl
def wd:∀xs:List V,(∀a∈xs,aK 0 0 0 a=aa)->fZ 0 0 0 (xs.map λa=>[a])=aa
 | [],_=>rfl
 |x::xs,h=>by rw[dR,fZ,wd xs λa c=>h a (gr _ c),aM,h x gt];rfl
def RL.hold{k}{s}{xs:List V}{U}(h:RL (.ac k s (xs.map λa=>[a])) U):
 RL (.ac (cK k) s ((xs.map aA).map λa=>[a])) U/\∀a∈xs.map aA,aK 0 0 0 a=aa:=by
 obtain⟨A,C,y,u,v,g,i⟩:=h;injection u with m o p;have q:=(LK (λx D h=>by injection h)).1 p;subst m;subst o;subst q;refine⟨⟨cK k,s,xs.map aA,O,v,by rw[bJ];exact g,λl a B c j=>?_⟩,λa c=>?_⟩
 .rw[eF]at c;cases d:xs[l]? with
  |none=>rw[d]at c;cases c
  |some b=>rw[d]at c;injection c with c;rw[<-c];exact(i l b B d j).hold.1
 .obtain⟨b,r,rfl⟩:=iX.1 c;obtain⟨l,e⟩:=sS r;have f:=(bk.1 e).1;exact(i l b _ e (aY (by rw[<-g];exact f))).hold.2
def L3:List a_:=[80,81,75,66,130,202,67,69,162,111,35,100,96,97,99,241,203,193,242,92,93,74,231,222,178]
noncomputable def Qa:a_->Option (List V->ah->Option (V × ah)):=my W2 L3
noncomputable abbrev W3:=whole ag Gt Qa
def TY:mN Qa L3:=tg
section
variable (a b n x:Int)
def adO:∀h,W3.call 80 [im a,im b] h=J (.ret (im (cX a b)),h):=b8 (L:=L3) O O O (S5 a b _) O rfl
def anD:∀h,W3.call 81 [im a,im b] h=J (.ret (im (cV a b)),h):=b8 (L:=L3) O O O (Py a b _) O rfl
def awB:∀h,W3.call 66 [im x] h=J (.ret (.v (.bool (cq x))),h):=b8 (L:=L3) O O O (awA x _) O rfl
def ajn:∀h,W3.call 67 [im a,im b] h=J (.ret (.tuple [im (oI a b),im (tC a b)]),h):=b8 (L:=L3) O O O (ajm a b _) O rfl
def ajt:∀h,W3.call 75 [im a,im n] h=J (.ret (.tuple [im (eR a n),im (lm a)]),h):=b8 (L:=L3) O O O (ajs a n _) O rfl
def Z_:∀h,W3.call 130 [im a,im b] h=J (.ret (im (cX a b)),h):=b8 (L:=L3) O O O (aqn a b _) O rfl
def aam:∀h,W3.call 202 [im a,im b] h=J (.ret (im (cV a b)),h):=b8 (L:=L3) O O O (arQ a b _) O rfl
def ara:∀h,W3.call 231 [im n] h=J (.ret (.tuple [im (if fmod n=0 then 0 else e8 n),im (if fmod n=0 then 90 else 0)]),h):=b8 (L:=L3) O O O (aq9 n _) O rfl
def aty:∀h,W3.call 111 [im x] h=J (.ret (.v (.bool (cq x))),h):=b8 (L:=L3) O O O (atx x _) O rfl
def aqT:∀h,W3.call 203 [im a,im n] h=J (.ret (.tuple [im (eR a n),im (lm a)]),h):=b8 (L:=L3) O O O (aqS a n _) O rfl
def aq4:∀h,W3.call 97 [im n] h=J (.ret (.agg (aG 1 n [] .nil 0 [])),h):=b8 (L:=L3) O O O (aq3 n _) O rfl
end
def RL.form{x}{U}(h:RL x U):∃(k:Tok) (s:Nat) (xs:List V),x=.ac k s (xs.map λa=>[a])/\F xs=F U:=by obtain⟨k,s,xs,c,-,d,-⟩:=h;exact⟨k,s,xs,c,d⟩
def RL.ip{x}{U}(h:RL x U):RL (aA x) U/\aK 0 0 0 (aA x)=aa:=by obtain⟨k,e,d,rfl,-⟩:=h.form;obtain⟨c,h2⟩:=h.hold;rw[aA,Ac];exact⟨c,by rw[aK,fy,wd _ h2];rfl⟩
def agA(x y)(U)(ae)(g:RL x U)(i:IL y ae):∀h,W3.call 35 [.agg [x,y]] h=J (.ret ((cI U ae:Int):V),h):=by obtain⟨c,h2⟩:=g.ip;obtain⟨d,e⟩:=i.hold;obtain⟨h',f,-⟩:=Ut ⟨[],[],0,[]⟩ (aA x) (aA y) U ae c d;exact b8 (L:=L3) (u:=[.agg [aA x,aA y]]) O O (by simp[aM,aK,h2,e]) f O rfl
def Ni(l):(l.map im).map (λc=>[c])=aF l:=by unfold aF;rw[List.map_map];rfl
def Ap{h}{b n}{l}(c:h.I[b]?=J (l.map im))(d:F l=n):et h (.arr b 0 n n)=.ac .held 1 (aF l):=by subst d;rw[et,c];simp only;rw[aH (by rw[bJ];omega),List.drop_zero,fK (by rw[bJ];exact bh _),Ni]
def ahc(x y)(U)(c)(A:RL x U)(B:IL y c)(s:F U<=64)(v:∀r∈U,F r=F c)(m:F c<=64)(i:∀r∈U,∀x∈r,okF x)(j:∀x∈c,okF x):
 (oE U c=aq/\∀h,W3.call 93 [x,y] h=J (.ret (.tuple [.ac .nil 0 [],(au:V),im 0]),h))∨∃l,oE U c=J l/\F l=F U/\∀h,W3.call 93 [x,y] h=J (.ret (.tuple [.ac .held 1 (aF l),(aa:V),im 0]),h):=by
 obtain⟨p,h2⟩:=A.ip;obtain⟨q,f⟩:=B.hold;obtain⟨r,h',g,-,⟨d,rfl⟩|⟨l,b,d,e,rfl,o⟩⟩:=ahe ⟨[],[],0,[]⟩ (aA x) (aA y) U c p q s v m i j O
 .exact .inl ⟨d,b8 (L:=L3) (u:=[aA x,aA y]) O O (by simp[aM,h2,f]) g O O⟩
 .refine .inr ⟨l,d,e,b8 (L:=L3) (u:=[aA x,aA y]) O O (by simp[aM,h2,f]) g ?_ (by simp[aK,aM,jG,pX,im])⟩;rw[et,jb,Ap o e];rfl
def P0{xs}{ae am}{n i:Nat}{a}(h:(hW xs ae am n)[i]?=J a):∃j,(fc ae am n)[i]?=J j/\j<n/\a=xs.getD j default:=by
 unfold hW at h;rw[eF]at h;cases c:((bT n).filter λi=>am.contains (al ae i))[i]? with
 |none=>rw[c]at h;cases h
 |some j=>rw[c]at h;injection h with h;exact⟨j,c,hy.1 (rE.1 (dy c)).1,h.symm⟩
def aqk(c)(s0)(xs:List V)(y z)(U)(ae am)(hx:RL (.ac c s0 (xs.map λa=>[a])) U)(E:IL y ae)(hz:IL z am)(R:F am<=1099511627776):
 (cI U ae≠0/\∀h,W3.call 92 [.agg [.ac c s0 (xs.map λa=>[a]),y],z] h=J (.ret (.tuple [.ac .nil 0 [],.ac .nil 0 [],.ac .nil 0 [],((cI U ae:Int):V)]),h))∨
 (cI U ae=0/\dL (-1) am=au/\∀h,W3.call 92 [.agg [.ac c s0 (xs.map λa=>[a]),y],z] h=J (.ret (.tuple [.ac .nil 0 [],.ac .nil 0 [],.ac .nil 0 [],.v (.int .i64 1)]),h))∨
 (cI U ae=0/\dL (-1) am=aa/\∃z1 A,RL z1 ((eE ae am).map λi=>U.getD i [])/\IL A (dn (eE ae am))/\∀h,W3.call 92 [.agg [.ac c s0 (xs.map λa=>[a]),y],z] h=J (.ret (.tuple [z1,A,.ac .held 1 (aF (fW (cr U))),.v (.int .i64 0)]),h)):=by
 obtain⟨s,h2⟩:=hx.hold;obtain⟨h3,h4⟩:=E.hold;obtain⟨h5,h6⟩:=hz.hold;have T:F (xs.map aA)=F U:=by obtain⟨_,_,xs',B,-,H,-⟩:=s;injection B with _ _ o;have p:=(LK (λx y h=>by injection h)).1 o;rw[p];exact H
 have q:bE [.agg [.ac c s0 (xs.map λa=>[a]),y],z]=[.agg [.ac (cK c) s0 ((xs.map aA).map λa=>[a]),aA y],aA z]:=by rw[bE,aA,bE,bE,bE,aA,Ac];rfl
 have r:aM 0 0 0 [.agg [.ac (cK c) s0 ((xs.map aA).map λa=>[a]),aA y],aA z]=aa:=by have hf:=wd _ h2;rw[aM,aK,aM,aM,aM,aM,aK,fy,hf,h4,h6];rfl
 obtain⟨z2,h',v,-,d⟩:=aqj ⟨[],[],0,[]⟩ (cK c) s0 (xs.map aA) (aA y) (aA z) U ae am s T h3 h5 R O;by_cases m:cI U ae≠0
 .rw[aH m]at d;subst d;exact .inl ⟨m,b8 (L:=L3) O q r v O O⟩
 .rw[aV m]at d;have e:cI U ae=0:=Lp.1 m;cases q2:dL (-1) am with
  |false=>rw[aH q2]at d;subst d;exact .inr (.inl ⟨e,O,b8 (L:=L3) O q r v O O⟩)|true=>
   rw[aV (by rw[q2];simp)]at d;obtain⟨Z,s1,k2,s2,tb,rfl,e1,e2,o⟩:=d;obtain⟨o1,-,-,-⟩:=pD e;have f:fc ae am (F U)=eE ae am:=(by unfold fc eE;rw[o1]);obtain⟨n1,-⟩:=pm e;have N:F (fW (cr U))=cr U:=(by unfold fW;simp;omega);refine .inr (.inr ⟨e,O,.ac (cK Z) s1 ((hW (xs.map aA) ae am (F U)).map λa=>[a]),.ac (cK k2) s2 (aF (dn (eE ae am))),⟨_,_,_,O,λg=>?_,?_,λi a z2 u l=>?_⟩,⟨_,_,O,λg=>?_⟩,b8 (L:=L3) O q r v ?_ ?_⟩)
   .rcases e1 with j|⟨j,-⟩
    .exact j
    .exfalso;apply g;rw[<-f];unfold hW at j;unfold fc;rw[Be]at j;rw[j];rfl
   .rw[bJ,<-f];unfold hW fc;rw[bJ]
   .obtain⟨z0,X,Y,rfl⟩:=P0 u;rw[f]at X;rw[eF,X]at l;injection l with l;subst l;obtain⟨_,_,xs',B,-,H,D⟩:=s;injection B with _ _ e5;have p:=(LK (λx y h=>by injection h)).1 e5;subst p;refine D z0 _ _ ?_ ?_
    .rw[fg,aY af];rfl
    .show U[z0]?=J (U.getD z0 []);rw[fg,aY Y];rfl
   .rcases e2 with j|⟨j,-⟩
    .exact j
    .rw[f]at j;exact absurd j g
   .rw[et,jb,jb,jb,Ap o N,f];rfl
   .have C:fZ 0 0 0 ((hW (xs.map aA) ae am (F U)).map λa=>[a])=aa:=wd _ λa u=>(by obtain⟨i,hi⟩:=sS u;obtain⟨z0,-,Y,rfl⟩:=P0 hi;refine h2 _ ?_;rw[fg,aY af];exact jf _);cases Z<;>cases k2<;>simp[aK,aM,cK,jG,C,pX]
def Dv:Tryz.f39.results.toList=[.tmp 4,.tmp 5,.tmp 6]:=aB
def lJ(n:Nat)(c:List Nat)(l:List Int)(j:Nat):List Int:=(c.zipIdx.take j).foldl (λe d=>e.set d.1 (al l d.2)) (bR n 0)
def Kz{n j}{c}{l}:F (lJ n c l j)=n:=by unfold lJ;rw[EQ (λd=>al l d.2),nj]
def aa0{n j p}{c}{l}(h:c[j]?=J p):(lJ n c l j).set p (al l j)=lJ n c l (j+1):=by
 have d:c.zipIdx[j]?=J (p,j):=by rw[acv,h];simp
 unfold lJ;rw[ga d,ot];rfl
def Ky{n}{c}{l}:lJ n c l (F c)=pV n c l:=by unfold lJ pV;rw[fK cE]
def Z3{l}{j p:Nat}(h:l[j]?=J p):al (dn l) j=(p:Int):=by
 have:(dn l)[j]?=J (p:Int):=by unfold dn;rw[eF,h];rfl
 unfold al;rw[fg,this];rfl
def RA(U:List (List Int))(ae am:List Int)(h:ah)(r:dV)(h':ah):Prop:=
 Ext h h'/\((∃d,fm U ae am=([],au,d)/\r=.ret (.tuple [.ac .nil 0 [],(au:V),((d:Int):V)]))∨∃c b,fm U ae am=(c,aa,0)/\F c=F U/\r=.ret (.tuple [.arr b 0 (F U) (F U),(aa:V),.v (.int .i64 0)])/\h'.I[b]?=J (c.map im))
def adL(h:ah)(f:Tok)(s0:Nat)(xs:List V)(y z:V)(U:List (List Int))(ae am:List Int)(m:RL (.ac f s0 (xs.map λa=>[a])) U)(E:IL y ae)(hz:IL z am)(ye:F am<=1099511627776):
 ∃r h',W3.call 39 [.agg [.ac f s0 (xs.map λa=>[a]),y],z] h=J (r,h')/\RA U ae am h r h':=by
 have hq:=aqk f s0 xs y z U ae am m E hz ye;obtain⟨_,_,xs',he,fF⟩:=m.form;have Jg:F (xs.map λa=>[a])=F U:=by injection he with _ _ e5;rw[e5,bJ];exact fF
 have bx:(V.agg [.ac f s0 (xs.map λa=>[a]),y]).bP=J [.ac f s0 (xs.map λa=>[a]),y]:=by obtain⟨ky,sy,rfl,-⟩:=E;rfl
 have b0:(h.push [.ac f s0 (xs.map λa=>[a]),y]).I[F h.I]?=J [.ac f s0 (xs.map λa=>[a]),y]:=aU _ _;have l25:=tN b0;have l22:=oP b0;have u23:=dp;have u22:=gZ;have z3:=fa;clear he fF m E hz b0;unfold RA;have d:fm U ae am=if cI U ae≠0 then ([],au,cI U ae) else if !dL (-1) am then ([],au,1) else match oE ((eE ae am).map λN=>U.getD N []) (fW (cr U)) with|none=>([],au,0)|some p=>(pV (F U) (eE ae am) p,aa,0):=rfl
 refine cA O Tryz.func39 O ?_;rcases hq with⟨e,z4⟩|⟨e,A,z4⟩|⟨e,A,z7,z8,hX,hA,z4⟩
 .rw[aH e]at d;generalize cI U ae=pe at *
  have Ws:decide (pe=0)=au:=by simp[e]
  have o:=aj.mk d;clear d e;refine bF @Dv @bC ?_;exact⟨_,_,O,.push _ _,.inl ⟨pe,o.M,O⟩⟩
 .rw[aV (by simp[e]),aH (by rw[A];rfl)]at d;have o:=aj.mk d;clear d e A;refine bF @Dv @bC ?_;exact⟨_,_,O,.push _ _,.inl ⟨1,o.M,O⟩⟩
 .rw[aV (by simp[e]),aV (by rw[A];simp)]at d;obtain⟨o1,o2,X,-⟩:=pD e;obtain⟨n1,n2⟩:=pm e;have ya:F (fW (cr U))=cr U:=by unfold fW;simp;omega
  have i:∀N∈eE ae am,N<F U:=λN T=>by unfold eE at T;rw[o1];exact hy.1 (rE.1 T).1
  have qu:F (eE ae am)<=64:=by unfold eE;exact fB (Bc _ _) (by rw[List.length_range];omega)
  have j:∀r∈(eE ae am).map λN=>U.getD N [],r∈U:=λr H=>by obtain⟨N,T,rfl⟩:=iX.1 H;have:=i N T;rw[fg,aY this];exact jf _
  have NN:=ahc z7 (.ac .held 1 (aF (fW (cr U)))) _ (fW (cr U)) hX ⟨_,_,O,λ_=>rfl⟩ (by rw[bJ];exact qu) (λr H=>by rw[ya];exact(X r (j r H)).1) (by rw[ya];exact n2) (λr H=>(X r (j r H)).2.2.2) (λx m=>by
   unfold fW at m;rcases hh.1 m with rfl|m
   .exact⟨bm,by decide⟩
   .rw[List.eq_of_mem_replicate m];exact⟨bm,by decide⟩)
  rcases NN with⟨C,R⟩|⟨p,C,e2,R⟩
  .rw[C]at d;have o:=aj.mk d;unfold im at R;clear d e A C j i X;refine bF @Dv @bC ?_;exact⟨_,_,O,.push _ _,.inl ⟨0,o.M,O⟩⟩
  .rw[C]at d;have o:=aj.mk d;have mk:=wF (h.push [.ac f s0 (xs.map λa=>[a]),y]) (F U) af .i64 .i64;have L:bR (F U) (im 0)=(lJ (F U) (eE ae am) p 0).map im:=(by unfold lJ;rw[dG,DX,yO]);rw[L]at mk;rw[bJ]at e2;have ko:=aj.mk i;obtain⟨ka,sa,rfl,rQ⟩:=hA;have ksa:=aj.mk rQ;have uY:=OZ (eE ae am);have gU:=db p;clear d e A C j i X L hX rQ;unfold im at R mk;generalize eE ae am=c at *
   clear o1;refine dA @Dv @bC @dN ?_;refine bM.gen λv g Y fM eS=>?_;have f4:v.get 4=.arr (F h.I+1) 0 (F U) (F U):=(by rw[g];simp only[gW,reduceIte,aT,aN,bV]);have f10:v.get 10=.ac .held 1 (aF p):=(by rw[g];exact gS);have f42:v.get 42=.ac ka sa (aF (dn c)):=(by rw[g];exact gS);have f43:v.get 43=(F c:Nat):=(by rw[g];exact gS);have f44:v.get 44=(0:Nat):=(by rw[g];exact gR);have fd:v.defers=[]:=(by rw[Y];exact gS);clear g Y fM eS mk z4 R l25 l22;have D:F (h.push [.ac f s0 (xs.map λa=>[a]),y]).I=F h.I+1:=bV _ _;have X1:Ext h (h.push [.ac f s0 (xs.map λa=>[a]),y]):=.push _ _;generalize h.push [.ac f s0 (xs.map λa=>[a]),y]=B at *
   have kX:=aj.mk (ar X1 D);clear X1;refine cJ (λz6 z0 z1=>∃l:Nat,l<=F c/\z6=F c-l/\z0.get 4=.arr (F h.I+1) 0 (F U) (F U)/\z0.get 10=.ac .held 1 (aF p)/\z0.get 42=.ac ka sa (aF (dn c))/\z0.get 43=(F c:Nat)/\z0.get 44=(l:Nat)/\z0.defers=[]/\z1=B.push ((lJ (F U) c p l).map im)) ?_ (F c) _ _ ?_;rotate_left 1
   .exact⟨0,cC _,O,f4,f10,f42,f43,f44,fd,O⟩
   clear f4 f10 f42 f43 f44 fd;rintro z6 z0 z1 ⟨l,hj,rfl,g4,g10,g42,g43,g44,hd,rfl⟩;by_cases q:l<F c
   .obtain⟨z2,u⟩:∃z2,c[l]?=J z2:=⟨_,aY q⟩;have Z:=ko.M z2 (dy u);have eM:sa=1:=ksa.M (by intro z5;unfold dn at z5;rw[Be]at z5;rw[z5]at q;exact qT _ q);subst eM;have l0:=eI (H:=B.push ((lJ (F U) c p l).map im)) (l:=dn c) (i:=l) (s:=1) (by unfold dn;rw[bJ];exact q);rw[Z3 u]at l0;have l1:=eI (H:=B.push ((lJ (F U) c p l).map im)) (l:=p) (i:=l) (s:=1) af;have ix3:=oO (b:=F h.I+1) (len:=U.length) (ba:=U.length) (k:=.i64) Z;have sk:=vB (H:=B.push ((lJ (F U) c p l).map im)) (b:=B.I.length) (r:=lJ (F U) c p l) (k:=z2) (x:=al p l) (aU _ _) (by rw[Kz];exact Z);rw[ml,aa0 u,D]at sk;have gG:(l:Int)<(F c:Int):=(by omega);unfold im at *
    clear u D;refine bF @Dv @bj ?_;exact⟨F c-(l+1),by omega,l+1,by omega,O,by simp⟩
   .have oJ:l=F c:=(by omega);subst oJ;refine bD @Dv ?_;refine⟨_,_,O,kX.M.1.trans (.push _ _),.inr ⟨_,F h.I+1,o.M,?_,O,?_⟩⟩
    .rw[<-Ky,Kz]
    .rw[<-Ky];exact nB kX.M.2.symm
def IS(H:ah)(x:V)(l:List Int):Prop:=IL x l∨∃b,x=.arr b 0 (F l) (F l)/\H.I[b]?=J (l.map im)
def IS.mono{H H'}{x}{l}(s:IS H x l)(m:∀(c:Nat) cs,H.I[c]?=J cs->H'.I[c]?=J cs):IS H' x l:=by
 rcases s with f|⟨b,d,e⟩
 .exact .inl f
 .exact .inr ⟨b,d,m _ _ e⟩
def IS.len{H}{x}{l}(s:IS H x l):dw ag 23 x=J ((F l:Nat):V):=by
 rcases s with⟨k,z,rfl,-⟩|⟨b,rfl,-⟩
 .rw[Pl dp,db]
 .rw[Jt dp]
def IS.at{H:ah}{x:V}{l:List Int}(s:IS H x l){i:Nat}(hi:i<F l):∃a,dU ag 23 x ((i:Nat):V)=J a/\∀H':ah,IS H' x l->aL ag Gt H' 3 a=J (al l i:V):=by
 rcases s with⟨k,z,rfl,g⟩|⟨b,rfl,o⟩
 .have:z=1:=g (by intro d;rw[d]at hi;exact qT _ hi);subst this;have d:=bj (t:=23) (k:=k) (kk:=.i64) (sz:=1) (es:=aF l) (a:=((i:Nat):Int)) dp fa af (by rw[db];omega);rw[fe]at d;exact⟨_,d,λH' _=>eI hi⟩
 .refine⟨.ptr (.box b) i,oO (b:=b) (len:=l.length) (ba:=l.length) (n:=i) (k:=.i64) hi,λH' j=>?_⟩;rcases j with⟨k,z,e,-⟩|⟨m,e,c⟩
  .cases e
  .injection e with f;subst f;exact wz c (vn hi)
def Ki:Tryz.f233.results.toList=[.tmp 6]:=aB
def asP:Tryz.f232.results.toList=[.tmp 4]:=aB
def Yv(h:ah)(x y:V)(a own:List Int)(n:Int)(q:IS h x a)(D:IS h y own)(A:F own=F a)(T:F a<=1000000):
 ∃r h',W3.call 233 [x,y,im n] h=J (r,h')/\Ext h h'/\r=.ret (.arr (F h.I) 0 (F a) (F a))/\h'.I[F h.I]?=J ((ir n a own).map im):=by
 have s:=wF h (F a) T .i64 .i64;have l:=aj.mk (ar q D);have lx:=q.len;have i:bR (F a) (im 0)=(jC (λc=>jj n (al a c) (al own c)) (bR (F a) 0) 0 0).map im:=by rw[UI,yO]
 rw[i]at s;unfold im at s;clear q D i;refine cA O Tryz.func233 O ?_;unfold im;refine bD @Ki ?_;refine bM.gen λg d m B C=>?_;have f0:g.get 0=x:=by rw[d];exact gS
 have f1:g.get 1=y:=by rw[d];exact gS
 have f2:g.get 2=(n:Int):=by rw[d];exact gS
 have f7:g.get 7=.arr (F h.I) 0 (F a) (F a):=by rw[d];exact gS
 have f8:g.get 8=(0:Nat):=by rw[d];exact gR
 have v:g.defers=[]:=by rw[m];exact gS
 clear d m B C s;refine cJ (λZ p N=>∃k:Nat,k<=F a/\Z=F a-k/\p.get 0=x/\p.get 1=y/\p.get 2=(n:Int)/\p.get 7=.arr (F h.I) 0 (F a) (F a)/\p.get 8=(k:Nat)/\p.defers=[]/\N=h.push ((jC (λc=>jj n (al a c) (al own c)) (bR (F a) 0) 0 k).map im)) ?_ (F a) _ _ ?_;rotate_left 1
 .exact⟨0,cC _,O,f0,f1,f2,f7,f8,v,O⟩
 clear f0 f1 f2 f7 f8 v;rintro Z p N ⟨k,hk,rfl,g0,g1,g2,g7,g8,hd,rfl⟩;by_cases e:k<F a
 .obtain⟨ax,i1,H⟩:=l.M.1.at e;obtain⟨ay,j1,L⟩:=l.M.2.at (af:k<F own);have l1:=H (h.push ((jC (λc=>jj n (al a c) (al own c)) (bR (F a) 0) 0 k).map im)) (l.M.1.mono λ_ _ X=>aX X);have l2:=L (h.push ((jC (λc=>jj n (al a c) (al own c)) (bR (F a) 0) 0 k).map im)) (l.M.2.mono λ_ _ X=>aX X);have c1:=λh=>aam n (al own k) h;have c2:=λh=>Z_ (al a k) (0-cV n (al own k)) h;have fl:jj n (al a k) (al own k)=cX (al a k) (0-cV n (al own k)):=by rw[aci];rfl
  have fz:=wH (EP n (al own k));have o:F (bR a.length (0:Int))=F a:=nj;have Y:=vB (H:=h.push ((jC (λc=>jj n (al a c) (al own c)) (bR (F a) 0) 0 k).map im)) (b:=h.I.length) (r:=jC (λc=>jj n (al a c) (al own c)) (bR (F a) 0) 0 k) (k:=k) (x:=jj n (al a k) (al own k)) (aU _ _) (by rw[qi,o];exact e);have u:=UH (f:=λc=>jj n (al a c) (al own c)) (a:=bR (F a) 0) (cC k) (by rw[o];exact e);rw[ml,u,fl]at Y;have ix:=oO (b:=h.I.length) (len:=a.length) (ba:=a.length) (k:=.i64) e;have R:(k:Int)<(F a:Int):=by omega
  clear H L u fl;generalize cV n (al own k)=z at *
  unfold im at *
  refine bD @Ki ?_;refine dW TY aB ?_;refine bD @Ki ?_;exact⟨F a-(k+1),by omega,k+1,by omega,O,by simp⟩
 .have:k=F a:=by omega
  subst this;refine bD @Ki ?_;refine⟨_,_,O,.push _ _,O,?_⟩;rw[aU];congr 2;refine vu (by rw[qi,tQ A.symm,nj]) λc j=>?_;rw[qi,nj]at j;rw[BF (by rw[nj];exact j),aH ⟨cC _,j⟩,uG A.symm j]
def av8(h:ah)(x:V)(a:List Int)(n:Int)(e:IS h x a)(f:F a<=1000000)(o:0<=n/\n<=9223372036854775807):
 ∃r h',W3.call 232 [x,im n] h=J (r,h')/\Ext h h'/\∃b,r=.ret (.arr b 0 (F a) (F a))/\h'.I[b]?=J ((scaleB a n).map im):=by
 have j:=wF h (F a) f .i64 .i64;have p:=e.len;have g:(h.push (bR (F a) (im 0))).I[F h.I]?=J ((bR (F a) (0:Int)).map im):=by rw[aU,yO]
 have c:F (bR a.length (0:Int))=F a:=nj;obtain⟨r,h',m,l,rfl,d⟩:=Yv (h.push (bR (F a) (im 0))) (.arr (F h.I) 0 (F a) (F a)) x (bR (F a) 0) a (0-n) (.inr ⟨F h.I,by rw[c],g⟩) (e.mono λ_ _ q=>aX q) c.symm (by rw[c];exact f);rw[c]at m;rw[aci]at d;have i:=aj.mk (ar l d);clear e g c l d;unfold im at m j ⊢;refine cA O Tryz.func232 O ?_;refine bD @asP ?_;exact⟨_,_,O,(Ext.push _ _).trans i.M.1,_,O,i.M.2⟩
def Gk:Tryz.f230.results.toList=[.tmp 2]:=aB
def Y_(h:ah)(x:V)(l:List Int)(L:IL x l)(hl:F l<=1000000):∃r h',W3.call 230 [x] h=J (r,h')/\h'=h/\r=.ret (.v (.bool (l.all cG))):=by
 obtain⟨k,R,rfl,v⟩:=L;have N:=aj.mk v;clear v;have Y:=dp;have z3:=fa;have T:=db l;refine cA O Tryz.func230 O ?_;refine bD @Gk ?_;refine cJ (λX E D=>∃c:Nat,c<=F l/\X=F l-c/\aj ((l.take c).all cG=aa)/\E.get 0=.ac k R (aF l)/\E.get 3=(c:Nat)/\E.defers=[]/\D=h) ?_ (F l) _ _ ?_;rotate_left 1
 .refine⟨0,cC _,O,⟨cE⟩,?_,?_,?_,O⟩<;>exact gR
 rintro X E D ⟨c,hi,rfl,A,Z,g3,hd,rfl⟩;by_cases d:c<F l
 .have y:R=1:=N.M (by intro z0;rw[z0]at d;simp at d);subst y;have ld:=eI (H:=D) (s:=1) d;have o:l[c]?=J (al l c):=by rw[aY d,fL d]
  have H:(c:Int)<(F l:Int):=by omega
  have e:(l.take (c+1)).all cG=cG (al l c):=by rw[ga o,qP,A.M];simp
  have j:=dy o;have q:=aj.mk (ar e j);have f:cG (al l c)=(decide (0<=al l c)&&decide (al l c<1073741789)):=rfl;clear o e j;generalize al l c=n at *
  by_cases g:n<0
  .have s:decide (n<0)=aa:=(by simp[g]);have i:l.all cG=au:=(by rw[Hd];exact⟨n,q.M.2,by rw[f];simp;omega⟩);have p:=aj.mk i;clear i f g;refine bF @Gk @bj ?_;exact⟨_,_,O,O,by rw[p.M]⟩
  .have s:decide (n<0)=au:=(by simp[g]);by_cases m:1073741789<=n
   .have u:decide (1073741789<=n)=aa:=(by simp[m]);have i:l.all cG=au:=(by rw[Hd];exact⟨n,q.M.2,by rw[f];simp;omega⟩);have p:=aj.mk i;clear i f g m;refine bF @Gk @bj ?_;exact⟨_,_,O,O,by rw[p.M]⟩
   .have u:decide (1073741789<=n)=au:=(by simp;omega);have C:aj ((l.take (c+1)).all cG=aa):=⟨by rw[q.M.1,f];simp;omega⟩;clear f g m;refine bF @Gk @bj ?_;exact⟨F l-(c+1),by omega,c+1,by omega,O,C,by simp⟩
 .have:c=F l:=by omega
  subst this;have:=A.M;rw[gy]at this;have B:=aj.mk this;clear this;refine bD @Gk ?_;exact⟨_,_,O,O,by rw[B.M]⟩
def Do:Tryz.f229.results.toList=[.tmp 2]:=aB
def XI{l:List Int}(h:∀x∈l,okF x):l.all cG=aa:=by rw[ff];intro x d;obtain⟨c,h2⟩:=h x d;unfold cG;simp[c,h2]
def aqt(h:ah)(x:V)(U:List (List Int))(w:Nat)(hx:RL x U)(hr:F U<=64)(hw:∀r∈U,F r=w)(rR:w<=64)(A:∀r∈U,∀x∈r,okF x):∃h',W3.call 229 [x] h=J (.ret (.v (.int .i64 0)),h')/\h'=h:=by
 obtain⟨k,C,l,rfl,hs,fF,B⟩:=hx;have f:=aj.mk (ar hs (ar B (ar hw A)));clear hs B hw A;have u23:=dp;have u22:=gZ;have z23:=iA;have e_:F (l.map λa=>[a])=F U:=by rw[bJ];exact fF
 have Ir:¬((64:Int)<(F U:Int)):=by omega
 refine iG O Tryz.func229 O ?_;refine bD @Do ?_;refine cJ (λz1 v o=>∃e:Nat,e<=F U/\z1=F U-e/\v.get 0=.ac k C (l.map λa=>[a])/\v.get 3=(e:Nat)/\v.defers=[]/\o=h) ?_ (F U) _ _ ?_;rotate_left 1
 .refine⟨0,cC _,O,?_,?_,?_,O⟩<;>exact gR
 rintro z1 v o ⟨e,Z,rfl,E,g3,H,rfl⟩;by_cases c:e<F U
 .have s:C=1:=f.M.1 (by intro z2;rw[z2]at c;simp at c);subst s;obtain⟨a,d⟩:∃a,l[e]?=J a:=⟨_,aY af⟩;obtain⟨r,i⟩:∃r,U[e]?=J r:=⟨_,aY c⟩;have ld:=jc (H:=o) (s:=1) d;obtain⟨ka,sa,rfl,m⟩:=f.M.2.1 e a r d i;have g:=f.M.2.2.1 r (dy i);have N:F (aF r)=w:=by rw[db];exact g
  have L:(e:Int)<(F U:Int):=by omega
  have hwd:¬((64:Int)<(w:Int)):=by omega
  clear d i m g;refine bF @Do @bj ?_;exact⟨F U-(e+1),by omega,e+1,by omega,O,by simp⟩
 .refine bD @Do ?_;refine bM.gen λD p y fM eS=>?_;have f0:D.get 0=.ac k C (l.map λa=>[a]):=by rw[p];simp only[gW,reduceIte,aT,aN];exact E
  have f4:D.get 4=(0:Nat):=by rw[p];exact gR
  have Y:D.defers=[]:=by rw[y];simp only[gW,reduceIte,aT,aN];exact H
  clear p y fM eS E g3 H Z c;refine cJ (λz1 v H2=>∃e:Nat,e<=F U/\z1=F U-e/\v.get 0=.ac k C (l.map λa=>[a])/\v.get 4=(e:Nat)/\v.defers=[]/\H2=o) ?_ (F U) _ _ ?_;rotate_left 1
  .exact⟨0,cC _,O,f0,f4,Y,O⟩
  clear f0 f4 Y;rintro z1 v o ⟨e,Z,rfl,E,g4,H,rfl⟩;by_cases c:e<F U
  .have s:C=1:=f.M.1 (by intro z2;rw[z2]at c;simp at c);subst s;obtain⟨a,d⟩:∃a,l[e]?=J a:=⟨_,aY af⟩;obtain⟨r,i⟩:∃r,U[e]?=J r:=⟨_,aY c⟩;obtain⟨a0,j⟩:∃a,l[0]?=J a:=⟨_,aY af⟩;obtain⟨T,u⟩:∃r,U[0]?=J r:=⟨_,aY af⟩;have ld:=jc (H:=o) (s:=1) d;have ld0:=jc (H:=o) (s:=1) j;obtain⟨ka,sa,rfl,m⟩:=f.M.2.1 e a r d i;obtain⟨ka0,sa0,rfl,R⟩:=f.M.2.1 0 a0 T j u;have g:=f.M.2.2.1 r (dy i);have q:=f.M.2.2.1 T (dy u);obtain⟨_,H5,cc,X,rfl⟩:=Y_ o (.ac ka sa (aF r)) r ⟨_,_,O,m⟩ af;rw[X,XI (f.M.2.2.2 r (dy i))]at cc;have N:F (aF r)=w:=(by rw[db];exact g);have Xj:F (aF T)=w:=(by rw[db];exact q);have L:(e:Int)<(F U:Int):=(by omega);have EW:(0:Int)<(F U:Int):=(by omega);have z0:(0:Int).toNat=0:=rfl;have Fc:decide ((w:Int)=(w:Int))=aa:=(by simp);clear d i m g j u R q X;refine bF @Do @bj ?_;refine dW TY aB ?_;refine bF @Do @bj ?_;exact⟨F U-(e+1),by omega,e+1,by omega,O,by simp⟩
  .refine bD @Do ?_;exact⟨_,O,O⟩
def aat:Tryz.f174.results.toList=[.tmp 4]:=aB
def aqI(h:ah)(x y:V)(U:List (List Int))(c:List Int)(A:RL x U)(C:IL y c)(Y:F U<=64)(j:∀r∈U,F r=F c)(v:F c<=64)(l:∀r∈U,∀x∈r,okF x)(m:∀x∈c,okF x):
 W3.call 174 [x,y] h=J (.ret (.v (.int .i64 0)),h):=by
 obtain⟨R,L,p⟩:=aqt h x U (F c) A Y j v l;rw[p]at L;obtain⟨_,h2,N,q,rfl⟩:=Y_ h y c C af;rw[q,XI m]at N;clear p q R h2;obtain⟨k,z1,D,rfl,s,B,g⟩:=A;obtain⟨ky,sy,rfl,j9⟩:=C;have u23:=dp;have u22:=gZ;have z23:=iA;have e_:F (D.map λa=>[a])=F U:=by rw[bJ];exact B
 have T:=db c;have Ir:¬((64:Int)<(F c:Int)):=by omega
 clear l m;refine da O Tryz.func174 O ?_;by_cases i:F U=0
 .have X:decide ((0:Int)<(F U:Int))=au:=cR af;clear j g i;exact iU @aat
 .have X:decide ((0:Int)<(F U:Int))=aa:=cD af;obtain⟨a0,d⟩:∃a,D[0]?=J a:=⟨_,aY af⟩;obtain⟨o,f⟩:∃r,U[0]?=J r:=⟨_,aY af⟩;have u:z1=1:=s (by intro z2;rw[z2]at i;simp at i);subst u;have ld0:=jc (H:=h) (s:=1) d;obtain⟨ka0,sa0,rfl,FB⟩:=g 0 a0 o d f;have e:=j o (dy f);have Z:F (aF o)=F c:=by rw[db];exact e
  have EW:(0:Int)<(F U:Int):=by omega
  have z0:(0:Int).toNat=0:=rfl;have Fc:decide ((F c:Int)=(F c:Int))=aa:=by simp
  clear j g d f e s i;exact f_ @aat @bj
def L4:List a_:=[80,81,75,66,130,202,67,39,69,162,111,35,100,96,97,99,241,203,193,242,74,174,231,232,233,222,178]
noncomputable def C':a_->Option (List V->ah->Option (V × ah)):=my W3 L4
noncomputable abbrev W4:=whole ag Gt C'
def uI:mN C' L4:=tg
section
variable (a b n x:Int)
def S6:∀h,W4.call 80 [im a,im b] h=J (.ret (im (cX a b)),h):=b8 (L:=L4) O O O (adO a b _) O rfl
def YR:∀h,W4.call 81 [im a,im b] h=J (.ret (im (cV a b)),h):=b8 (L:=L4) O O O (anD a b _) O rfl
def abI:∀h,W4.call 66 [im x] h=J (.ret (.v (.bool (cq x))),h):=b8 (L:=L4) O O O (awB x _) O rfl
def ajo:∀h,W4.call 67 [im a,im b] h=J (.ret (.tuple [im (oI a b),im (tC a b)]),h):=b8 (L:=L4) O O O (ajn a b _) O rfl
def Nq:∀h,W4.call 75 [im a,im n] h=J (.ret (.tuple [im (eR a n),im (lm a)]),h):=b8 (L:=L4) O O O (ajt a n _) O rfl
def aqo:∀h,W4.call 130 [im a,im b] h=J (.ret (im (cX a b)),h):=b8 (L:=L4) O O O (Z_ a b _) O rfl
def arR:∀h,W4.call 202 [im a,im b] h=J (.ret (im (cV a b)),h):=b8 (L:=L4) O O O (aam a b _) O rfl
def arb:∀h,W4.call 231 [im n] h=J (.ret (.tuple [im (if fmod n=0 then 0 else e8 n),im (if fmod n=0 then 90 else 0)]),h):=b8 (L:=L4) O O O (ara n _) O rfl
def atz:∀h,W4.call 111 [im x] h=J (.ret (.v (.bool (cq x))),h):=b8 (L:=L4) O O O (aty x _) O rfl
def aqU:∀h,W4.call 203 [im a,im n] h=J (.ret (.tuple [im (eR a n),im (lm a)]),h):=b8 (L:=L4) O O O (aqT a n _) O rfl
def aq5:∀h,W4.call 97 [im n] h=J (.ret (.agg (aG 1 n [] .nil 0 [])),h):=b8 (L:=L4) O O O (aq4 n _) O rfl
end
def amJ(x y)(a own)(n)(l:IL x a)(m:IL y own)(c:F own=F a)(j:F a<=1000000):∀h,W4.call 233 [x,y,im n] h=J (.ret (.ac .held 1 (aF (ir n a own))),h):=by obtain⟨d,h2⟩:=l.hold;obtain⟨e,f⟩:=m.hold;obtain⟨o,h',i,-,rfl,g⟩:=Yv ⟨[],[],0,[]⟩ (aA x) (aA y) a own n (.inl d) (.inl e) c j;exact b8 (L:=L4) (u:=[aA x,aA y,im n]) O O (by simp[aM,h2,f,aK,im]) i (Ap g (tQ c.symm)) (by simp[aK,jG,pX])
def aaJ(a)(n):F (scaleB a n)=F a:=by unfold scaleB;rw[tQ (by rw[nj]),nj]
def av9(x)(a)(n)(i:IL x a)(g:F a<=1000000)(f:0<=n/\n<=9223372036854775807):∀h,W4.call 232 [x,im n] h=J (.ret (.ac .held 1 (aF (scaleB a n))),h):=by obtain⟨c,h2⟩:=i.hold;obtain⟨j,h',e,-,b,rfl,d⟩:=av8 ⟨[],[],0,[]⟩ (aA x) a n (.inl c) g f;exact b8 (L:=L4) (u:=[aA x,im n]) O O (by simp[aM,h2,aK,im]) e (Ap d (aaJ a n)) (by simp[aK,jG,pX])
def adI(c)(s0)(xs:List V)(y z)(U)(ae am)(A:RL (.ac c s0 (xs.map λa=>[a])) U)(B:IL y ae)(C:IL z am)(m:F am<=1099511627776):
 (∃e,fm U ae am=([],au,e)/\∀h,W4.call 39 [.agg [.ac c s0 (xs.map λa=>[a]),y],z] h=J (.ret (.tuple [.ac .nil 0 [],(au:V),((e:Int):V)]),h))∨
 ∃l,fm U ae am=(l,aa,0)/\F l=F U/\∀h,W4.call 39 [.agg [.ac c s0 (xs.map λa=>[a]),y],z] h=J (.ret (.tuple [.ac .held 1 (aF l),(aa:V),.v (.int .i64 0)]),h):=by
 obtain⟨p,h2⟩:=A.hold;obtain⟨q,r⟩:=B.hold;obtain⟨s,u⟩:=C.hold;have g:bE [.agg [.ac c s0 (xs.map λa=>[a]),y],z]=[.agg [.ac (cK c) s0 ((xs.map aA).map λa=>[a]),aA y],aA z]:=by rw[bE,aA,bE,bE,bE,aA,Ac];rfl
 have i:aM 0 0 0 [.agg [.ac (cK c) s0 ((xs.map aA).map λa=>[a]),aA y],aA z]=aa:=by have v:=wd _ h2;rw[aM,aK,aM,aM,aM,aM,aK,fy,v,r,u];rfl
 obtain⟨D,h',j,-,⟨e,d,rfl⟩|⟨l,b,d,f,rfl,o⟩⟩:=adL ⟨[],[],0,[]⟩ (cK c) s0 (xs.map aA) (aA y) (aA z) U ae am p q s m
 .exact .inl ⟨e,d,b8 (L:=L4) O g i j O O⟩
 .refine .inr ⟨l,d,f,b8 (L:=L4) O g i j ?_ (by simp[aK,aM,jG,pX])⟩;rw[et,jb,Ap o f];rfl
def aqJ(x y)(U)(c)(o:RL x U)(p:IL y c)(l:F U<=64)(m:∀r∈U,F r=F c)(f:F c<=64)(d:∀r∈U,∀x∈r,okF x)(e:∀x∈c,okF x):
 ∀h,W4.call 174 [x,y] h=J (.ret (.v (.int .i64 0)),h):=by
 obtain⟨g,h2⟩:=o.ip;obtain⟨i,j⟩:=p.hold;exact b8 (L:=L4) (u:=[aA x,aA y]) O O (by simp[aM,h2,j]) (aqI ⟨[],[],0,[]⟩ (aA x) (aA y) U c g i l m f d e) O rfl
def Kd:Tryz.f105.results.toList=[.tmp 4]:=aB
def ajO(h:ah)(x:V)(l:List Int)(n:Int)(B:IL x l)(hl:F l<=1099511627776):∃r h',W4.call 105 [x,im n] h=J (r,h')/\h'=h/\r=.ret (.v (.bool (l.contains n))):=by
 obtain⟨k,H,rfl,j⟩:=B;have D:=aj.mk j;clear j;have R:=dp;have z3:=fa;have L:=db l;unfold im;refine cA O Tryz.func105 O ?_;refine bD @Kd ?_;refine cJ (λN f y=>∃d:Nat,d<=F l/\N=F l-d/\aj ((l.take d).contains n=au)/\f.get 0=.ac k H (aF l)/\f.get 1=(n:Int)/\f.get 5=(d:Nat)/\f.defers=[]/\y=h) ?_ (F l) _ _ ?_;rotate_left 1
 .refine⟨0,cC _,O,⟨cE⟩,?_,?_,?_,?_,O⟩<;>exact gR
 rintro N f y ⟨d,hi,rfl,p,T,X,Y,Z,rfl⟩;by_cases c:d<F l
 .have m:H=1:=D.M (by intro E;rw[E]at c;simp at c);subst m;have ld:=eI (H:=y) (s:=1) c;have o:l[d]?=J (al l d):=by rw[aY c,fL c]
  have A:(d:Int)<(F l:Int):=by omega
  have v:=aj.mk o;clear o;by_cases e:al l d=n
  .have g:decide (al l d=n)=aa:=(by simp[e]);have i:l.contains n=aa:=(by rw[xk,cD];rw[<-e];exact dy v.M);have C:=aj.mk i;clear i;have s:=aj.mk e;generalize al l d=z0 at *
   clear e
   repeat' (first|simp(maxSteps:=9999999) (disch:=first|exact dZ|fail) only[gW,reduceIte,aT,aN,Kd,bj, *]|refine dX ?_ ?_<;>(intro _;try omega))
   all_goals first|exact⟨_,_,O,O,by rw[C.M]⟩|exact absurd s.M (by assumption)
  .have g:decide (al l d=n)=au:=(by simp[e]);have u:aj ((l.take (d+1)).contains n=au):=⟨by
    have:=p.M;rw[ga v.M];rw[xk,decide_eq_false_iff_not]at *
    rw[yP,not_or];exact⟨this,by rw[iL];exactλE=>e E.symm⟩⟩
   repeat' (first|simp(maxSteps:=9999999) (disch:=first|exact dZ|fail) only[gW,reduceIte,aT,aN,Kd,bj, *]|refine dX ?_ ?_<;>(intro _;try omega))
   all_goals exact⟨F l-(d+1),by omega,d+1,by omega,O,u,by simp⟩
 .have:d=F l:=by omega
  subst this;have:=p.M;rw[gy]at this;have q:=aj.mk this;clear this;refine bD @Kd ?_;exact⟨_,_,O,O,by rw[q.M]⟩
def asy:Tryz.f103.results.toList=[.tmp 2]:=aB
def avR(h:ah)(n:Nat)(e:0<n)(h2:n<=1000000):W4.call 103 [im (n:Nat)] h=J (.ret (.arr (F h.I) 0 n n),h.push ((fW n).map im)):=by
 have f:=wF h n h2 .i64 .i64;have c:bR n (im 0)=(bR n (0:Int)).map im:=by rw[yO]
 rw[c]at f;have g:=vB (H:=h.push ((bR n (0:Int)).map im)) (b:=h.I.length) (r:=bR n (0:Int)) (k:=0) (x:=1) (aU _ _) (by rw[nj];exact e);have d:(bR n (0:Int)).set 0 1=fW n:=by obtain⟨i,rfl⟩:∃i,n=i+1:=⟨n-1,by omega⟩;unfold fW;rw[D_];rfl
 rw[ml,d]at g;have ix:dU ag 23 (.arr (F h.I) 0 n n) (.v (.int .i64 0))=J (.ptr (.box (F h.I)) 0):=oO (n:=0) (k:=.i64) e;clear c d;unfold im at *
 refine da O Tryz.func103 O ?_;exact iU @asy
def azq:Tryz.f104.results.toList=[.tmp 2]:=aB
def ZS10{p:Prop}(h:p:=by
 obtain⟨k,q,e,rfl,l,i,j⟩:=s;have X:(V.agg [.ac k q (e.map λa=>[a]),y]).bP=J [.ac k q (e.map λa=>[a]),y]:=by obtain⟨Y,sy,rfl,-⟩:=u;rfl
 have Z:=oP (aU h [.ac k q (e.map λa=>[a]),y]);have R:=dp;have N:=gZ;have T:=iA;have A:F (e.map λa=>[a])=F U:=by rw[bJ];exact i
 refine iG O Q55 O ?_;by_cases d:F U=0
 .have r:(F U:Int)=0:=by omega
  have f:cr U=1:=by unfold cr;rw[aH d]
  rw[f];clear d j l i f;refine dA @Q56 @bC @dN ?_;exact⟨_,O,O⟩
 .have r:¬((F U:Int)=0):=by omega
  obtain⟨a0,c⟩:∃a,e[0]?=J a:=⟨_,aY af⟩;obtain⟨o,g⟩:∃z2,U[0]?=J z2:=⟨_,aY af⟩;have p:q=1:=l (by intro z1;rw[z1]at d;simp at d);subst p;have D:=jc (H:=h.push [.ac k 1 (e.map λa=>[a]),y]) (s:=1) c;obtain⟨C,L,rfl,m⟩:=j 0 a0 o c g;have f:cr U=F o:=by unfold cr;rw[aV d,fg,g];rfl
  rw[f];have B:=db o;have v:(0:Int)<(F U:Int):=by omega
  have z0:(0:Int).toNat=0:=rfl;clear d j l i f c g m;refine cg @Q56 @bC @dN @bj ?_;exact⟨_,O,O⟩):p:=h
section
open Go.Proofs.Tryz renaming func104->Q55
open Go.Proofs.YtcbhpkjbiehcpaaGreatDoor renaming azq->Q56
def axM(h:ah)(x y:V)(U:List (List Int))(ae:List Int)(s:RL x U)(u:IL y ae):∃h',W4.call 104 [.agg [x,y]] h=J (.ret ((cr U:Nat):V),h')/\h'=h.push [x,y]:=ZS10
end
def ss:Tryz.f43.results.toList=[.tmp 2]:=aB
def ao0(h:ah)(x:V)(l:List Int)(hx:IL x l)(hl:F l<=9223372036854775807):∃r h',W4.call 43 [x] h=J (r,h')/\h'=h/\r=.ret (.v (.bool (dL (-1) l))):=by
 obtain⟨k,z0,rfl,N⟩:=hx;have ks:=aj.mk N;clear N;have u23:=dp;have z3:=fa;have e_:=db l;refine cA O Tryz.func43 O ?_;refine bD @ss ?_;refine cJ (λz1 Y B=>∃(d:Nat) (c:Int),d<=F l/\z1=F l-d/\aj (dL c (l.drop d)=dL (-1) l)/\ -1<=c/\aj (d=0->c= -1)/\aj (0<d->al l (d-1)=c)/\Y.get 0=.ac k z0 (aF l)/\Y.get 3=(d:Nat)/\Y.defers=[]/\B=h) ?_ (F l) _ _ ?_;rotate_left 1
 .refine⟨0,-1,cC _,O,⟨O⟩,DT _,⟨λ_=>rfl⟩,⟨λA=>absurd A (Sk _)⟩,?_,?_,?_,O⟩<;>exact gR
 rintro z1 Y B ⟨d,c,hi,rfl,T,Fm,k0,k1,g0,g3,hd,rfl⟩;by_cases g:d<F l;rotate_left 1
 .have:d=F l:=by omega
  subst this;have e:dL (-1) l=aa:=by rw[<-T.M,oo (bh _)];rfl
  have m:=aj.mk e;clear e;refine bD @ss ?_;exact⟨_,_,O,O,by rw[m.M]⟩
 have R:z0=1:=ks.M (by intro A;rw[A]at g;simp at g);subst R;have ld:=eI (H:=B) (s:=1) g;have gG:(d:Int)<(F l:Int):=by omega
 have o:l.drop d=al l d::l.drop (d+1):=by rw[fL g];exact uw g
 have s:=T.M;rw[o,dL]at s;have f:=aj.mk s;clear s o;by_cases i:al l d<0
 .have C:decide (al l d<0)=aa:=by simp[i]
  have e:dL (-1) l=au:=by rw[<-f.M];simp;omega
  have m:=aj.mk e;clear e i;refine bF @ss @bj ?_;refine dW uI aB ?_;refine bF @ss @bj ?_;exact⟨_,_,O,O,by rw[m.M]⟩
 have C:decide (al l d<0)=au:=by simp[i]
 by_cases p:64<=al l d
 .have D:decide (64<=al l d)=aa:=by simp[p]
  have e:dL (-1) l=au:=by rw[<-f.M];simp;omega
  have m:=aj.mk e;clear e i p;refine bF @ss @bj ?_;refine dW uI aB ?_;refine bF @ss @bj ?_;exact⟨_,_,O,O,by rw[m.M]⟩
 have D:decide (64<=al l d)=au:=by simp;omega
 by_cases H:d=0
 .subst H;have L:=k0.M O;have u:aj (dL (al l 0) (l.drop (0+1))=dL (-1) l):=⟨by rw[<-f.M,cD (af:c<al l 0),cD (af:al l 0<=63)];rfl⟩;have q: -1<=al l 0:=by omega
  have v:aj (0<0+1->al l (0+1-1)=al l 0):=⟨λ_=>rfl⟩;clear i p L f;refine bF @ss @bj ?_;refine dW uI aB ?_;refine bF @ss @bj ?_;exact⟨F l-1,by omega,0+1,al l 0,by omega,O,u,q,⟨λA=>absurd A af⟩,v,by simp⟩
 .have j:=k1.M af;have X:=eI (H:=B) (l:=l) (i:=d-1) (s:=1) af;rw[j]at X;have akF:decide ((0:Int)<(d:Int))=aa:=cD af;have akU:(d:Int)-1=((d-1:Nat):Int):=by omega
  have Z:((d-1:Nat):Int)<(F l:Int):=by omega
  by_cases y:al l d<=c
  .have E:decide (al l d<=c)=aa:=(by simp[y]);have e:dL (-1) l=au:=(by rw[<-f.M];simp;omega);have m:=aj.mk e;clear e i p y j;refine bF @ss @bj ?_;refine dW uI aB ?_;refine bF @ss @bj ?_;exact⟨_,_,O,O,by rw[m.M]⟩
  .have E:decide (al l d<=c)=au:=(by simp;omega);have u:aj (dL (al l d) (l.drop (d+1))=dL (-1) l):=⟨by rw[<-f.M,cD (af:c<al l d),cD (af:al l d<=63)];rfl⟩;have q: -1<=al l d:=(by omega);have v:aj (0<d+1->al l (d+1-1)=al l d):=⟨λ_=>rfl⟩;clear i p y j f;refine bF @ss @bj ?_;refine dW uI aB ?_;refine bF @ss @bj ?_;exact⟨F l-(d+1),by omega,d+1,al l d,by omega,O,u,q,⟨λA=>absurd A af⟩,v,by simp⟩
section
variable {pr:a_->Option (List V->ah->Option (V × ah))}
def QC:Tryz.f208.results.toList=[.tmp 4]:=aB
def alm(v:pr 164=aq)(g:a_)(ba:List V)(p:Int->Bool)(h:ah)(x:V)(l:List Int)(H:IL x l)(hl:l.length<=1000000)(u:∀n∈l,(whole ag Gt pr).call g (im n::ba) h=J (.ret (.v (.bool (p n))),h)):
 ∃r h',(whole Tryz.prog Gt pr).call 164 [x,.func (.func g) [] ba] h=some (r,h')/\h'=h/\∃i:Int,r=.ret (im i)/\decide (0<=i)=l.any p:=by
 obtain⟨k,X,rfl,y⟩:=H;have N:=aj.mk u;have R:=aj.mk y;clear u y;have u23:=dp;have z3:=fa;have Y:=db l;refine cA v adk rfl ?_;refine bD @sd ?_;refine cJ (λZ q D=>∃i:Nat,i<=l.length/\Z=l.length - i/\(l.take i).any p=au/\q.get 0=.ac k X (aF l)/\q.get 1=.func (.func g) [] ba/\q.get 7=(l.length:Nat)/\q.get 8=(i:Nat)/\q.defers=[]/\D=h) ?_ l.length _ _ ?_;rotate_left 1
 .refine⟨0,cC _,rfl,by simp,?_,?_,?_,?_,?_,rfl⟩<;>exact gR
 rintro Z q D ⟨i,hi,rfl,s,g0,g1,g7,g8,hd,rfl⟩;have B:=aj.mk s;clear s;by_cases d:i<l.length
 .have A:X=1:=R.M (by intro z0;rw[z0] at d;simp at d);subst A;have ld:=eI (H:=D) (s:=1) d;have m:l[i]?=J (al l i):=by rw[aY d,fL d]
  have o:=N.M (al l i) (dy m);have E:(i:Int)<(l.length:Int):=by omega
  have e:(l.take (i+1)).any p=p (al l i):=by rw[ga m,Lu,B.M];simp
  have T:=aj.mk e;have L:=aj.mk m;clear m e;unfold im at o;cases c:p (al l i) with
  |true=>rw[c] at o;have f:l.any p=aa:=Lv.2 ⟨_,dy L.M,c⟩;have j:=aj.mk f;clear f c;refine dA @sd @bj @eY.{0} ?_;exact⟨_,_,rfl,rfl,(i:Int),rfl,by rw[j.M];simp⟩
  |false=>rw[c] at o;have C:(l.take (i+1)).any p=au:=T.M.trans c;clear c;refine dA @sd @bj @eY.{0} ?_;exact⟨l.length - (i+1),by omega,i+1,by omega,rfl,C,by simp⟩
 .have:i=l.length:=by omega
  subst this;have:=B.M;rw[gy] at this;have j:=aj.mk this;clear this;refine bD @sd ?_;exact⟨_,_,rfl,rfl,-1,rfl,by rw[j.M];rfl⟩
def HU(d:pr 164=aq)(c:pr 91=aq)(g:a_)(ba:List V)(p:Int->Bool)(h:ah)(x:V)(l:List Int)(m:IL x l)(j:F l<=1000000)(f:∀n∈l,(whole ag Gt pr).call g (im n::ba) h=J (.ret (.v (.bool (p n))),h)):
 (whole ag Gt pr).call 91 [x,.func (.func g) [] ba] h=J (.ret (.v (.bool (l.any p))),h):=by
 obtain⟨r,h',o,rfl,q,rfl,e⟩:=alm d g ba p h x l m j f;have i:decide (0<=q)=l.any p:=e;unfold im at o;refine da c adz O ?_;clear e f;exact iU @Qz
def avt(q:pr 208=aq)(m:∀a b h,(whole ag Gt pr).call 80 [im a,im b] h=J (.ret (im (cX a b)),h))(g:a_)(ba:List V)(f:Nat->Int)(h:ah)(x:V)(l:List Int)(C:IL x l)(hl:F l<=1000000)
 (p:∀i,i<F l->(whole ag Gt pr).call g (im (i:Nat)::im (al l i)::ba) h=J (.ret (im (f i)),h)):
 ∃h',(whole ag Gt pr).call 208 [x,.func (.func g) [] ba] h=J (.ret (im ((bT (F l)).foldl (λx j=>cX x (f j)) 0)),h')/\h'=h:=by
 obtain⟨k,D,rfl,r⟩:=C;have u:=aj.mk (ar p r);clear p r;have N:=dp;have z3:=fa;have H:=db l;unfold im;refine iG q Tryz.func208 O ?_;refine bD @QC ?_;refine cJ (λL e o=>∃i:Nat,i<=F l/\L=F l-i/\e.get 1=.func (.func g) [] ba/\e.get 4=.v (.int .i64 ((bT i).foldl (λx j=>cX x (f j)) 0))/\e.get 7=.ac k D (aF l)/\e.get 8=(F l:Nat)/\e.get 9=(i:Nat)/\e.defers=[]/\o=h) ?_ (F l) _ _ ?_;rotate_left 1
 .refine⟨0,cC _,O,?_,?_,?_,?_,?_,?_,O⟩<;>exact gR
 rintro L e o ⟨i,hi,rfl,R,T,X,Y,Z,hd,rfl⟩;by_cases c:i<F l
 .have s:D=1:=u.M.2 (by intro z0;rw[z0]at c;simp at c);subst s;have ld:=eI (H:=o) (s:=1) c;have A:=u.M.1 i c;have y:=λz1=>m z1 (f i) o;have B:(i:Int)<(F l:Int):=by omega
  have d:cX ((bT i).foldl (λx j=>cX x (f j)) 0) (f i)=(bT (i+1)).foldl (λx j=>cX x (f j)) 0:=by rw[lP,ot];rfl
  have v:=aj.mk d;clear d;generalize (bT i).foldl (λx j=>cX x (f j)) 0=E at *
  unfold im at A y;refine dA @QC @bj @eY.{0} ?_;exact⟨F l-(i+1),by omega,i+1,by omega,O,by trivial,by rw[v.M],by simp⟩
 .have:i=F l:=by omega
  subst this;refine bD @QC ?_;exact⟨_,O,O⟩
end
def azt:Tryz.f206.results.toList=[.tmp 2]:=aB
def asq:Tryz.f139.results.toList=[.tmp 2]:=aB
def azn:Tryz.f140.results.toList=[.tmp 2]:=aB
def asr:Tryz.f142.results.toList=[.tmp 4]:=aB
def asF:Tryz.f209.results.toList=[.tmp 5]:=aB
def asI:Tryz.f218.results.toList=[.tmp 2]:=aB
def Kb:Tryz.f158.results.toList=[.tmp 4]:=aB
def QA:Tryz.f159.results.toList=[.tmp 4]:=aB
def asZ:Tryz.f82.results.toList=[.tmp 4]:=aB
def as1:Tryz.f68.results.toList=[.tmp 4]:=aB
def apB(x n)(h):W4.call 82 [im x,im n] h=J (.ret (im (eR x n)),h):=by
 have c:=Nq x n;unfold im at *
 refine da O Tryz.func82 O ?_;exact iU @asZ
def apC(x n)(h):W4.call 68 [im x,im n] h=J (.ret (im (eR x n)),h):=by
 have c:=Nq x n;unfold im at *
 refine da O Tryz.func68 O ?_;exact iU @as1
def aoa(n):nH n= !cG n:=by
 unfold nH cG Qi;by_cases c:n<0
 .rw[cD c,cR (af:¬0<=n)];rfl
 .by_cases d:1073741789<=n
  .rw[cR c,cD d,cD (af:0<=n),cR (af:¬n<1073741789)];rfl
  .rw[cR c,cR d,cD (af:0<=n),cD (af:n<1073741789)];rfl
section
open Go.Proofs.Tryz renaming func206->Q51
open Go.Proofs.YtcbhpkjbiehcpaaGreatDoor renaming azt->Q52
def an8(n)(h):W4.call 206 [im n] h=J (.ret (.v (.bool (nH n))),h):=ZS9
end
def Mo(l:List Int):(!l.any nH)=l.all cG:=by
 induction l with
 |nil=>rfl|cons a l c=>rw[acj,DV,<-c,aoa];simp
def Y8(x)(l)(c:IL x l)(d:F l<=1000000)(h):W4.call 139 [x] h=J (.ret (.v (.bool (l.all cG))),h):=by have f:=HU (pr:=C') O O 206 [] nH h x l c d (λn _=>an8 n h);have e:(!l.any nH)=l.all cG:=Mo l;refine da O Tryz.func139 O ?_;clear c;exact iU @asq
section
open Go.Proofs.Tryz renaming func140->Q55
open Go.Proofs.YtcbhpkjbiehcpaaGreatDoor renaming azn->Q56
def ag1(h:ah)(x y:V)(U:List (List Int))(ae:List Int)(s:RL x U)(u:IL y ae):∃h',W4.call 140 [.agg [x,y]] h=J (.ret ((cr U:Nat):V),h')/\h'=h.push [x,y]:=ZS10
end
def av7(h:ah)(b i:Nat)(n:Int)(y:V)(l:List Int)(c:h.I[b]?=J [y])(f:IL y l)(hi:i<F l):W4.call 209 [im (i:Nat),im n,.ptr (.box b) 0] h=J (.ret (im (cV n (al l i))),h):=by
 obtain⟨k,m,rfl,d⟩:=f;have e:m=1:=d (by intro r;rw[r]at hi;simp at hi);subst e;have p:=wy c;have q:=eI (H:=h) (s:=1) hi;have o:=dp;have s:=fa;have j:=db l;have g:(i:Int)<(F l:Int):=by omega
 have u:=YR n (al l i);unfold im at *
 clear d c;refine da O Tryz.func209 O ?_;exact f_ @asF @bj
def av5(h:ah)(x y:V)(a b:List Int)(d:IL x a)(c:IL y b)(f:F a<=1000000)(i:F a<=F b):∃h',W4.call 142 [x,y] h=J (.ret (im (lj a b)),h')/\h'=h.push [y]:=by
 obtain⟨_,l,rfl⟩:=avt (pr:=C') O (λa b h=>S6 a b h) 209 [.ptr (.box (F h.I)) 0] (λe=>cV (al a e) (al b e)) (h.push [y]) x a d f (λe o=>av7 (h.push [y]) (F h.I) e (al a e) y b (aU _ _) c af);have m:y.bP=J [y]:=by obtain⟨k,p,rfl,-⟩:=c;rfl
 have g:(bT (F a)).foldl (λx j=>cX x (cV (al a j) (al b j))) 0=lj a b:=rfl;rw[g]at l;unfold im at *
 clear d c g;refine iG O Tryz.func142 O ?_;refine bF @asr @bC ?_;exact⟨_,O,O⟩
def awz(n)(h):W4.call 218 [im n] h=J (.ret (.v (.bool (!cq n))),h):=by
 have c:=abI n;unfold im at *
 refine da O Tryz.func218 O ?_;exact iU @asI
def Tf(p)(l:List Int):(l.any λn=> !p n)= !l.all p:=by
 induction l with
 |nil=>rfl|cons a l c=>rw[acj,DV,c];simp
def mI:Tryz.f40.results.toList=[.tmp 2]:=aB
def aqs(h:ah)(x y:V)(U:List (List Int))(ae:List Int)(hx:RL x U)(E:IL y ae)(mX:F U<=1000000):
 ∃r h',W4.call 40 [.agg [x,y]] h=J (r,h')/\h'=h.push [x,y]/\r=.ret ((cI U ae:Int):V):=by
 obtain⟨k,z1,C,rfl,hs,fF,jS⟩:=hx;obtain⟨ky,sy,rfl,j9⟩:=E;have kk:=aj.mk (ar hs (ar jS j9));clear hs jS j9;have u23:=dp;have u22:=gZ;have z23:=iA;have z3:=fa;have e_:F (C.map λa=>[a])=F U:=by rw[bJ];exact fF
 have Cl:=db ae;have b0:(h.push [.ac k z1 (C.map λa=>[a]),.ac ky sy (aF ae)]).I[F h.I]?=J [.ac k z1 (C.map λa=>[a]),.ac ky sy (aF ae)]:=aU _ _;have l0:=oP b0;have l1:=yk b0;have bx:(V.agg [.ac k z1 (C.map λa=>[a]),.ac ky sy (aF ae)]).bP=J [.ac k z1 (C.map λa=>[a]),.ac ky sy (aF ae)]:=rfl;clear b0;have k1:aj (64<F U->cI U ae=2):=⟨λq=>by unfold cI;rw[aH (by simp[q])]⟩;have k2:aj (∀(c:Nat) r,U[c]?=J r->64<F r->cI U ae=2):=⟨λc r hr q=>by unfold cI;rw[aH];rw[Bool.or_eq_true];exact .inr (Lv.2 ⟨r,dy hr,by simp[q]⟩)⟩;have k3:aj (F U<=64->(U.any λr=>decide (64<F r))=au->F U≠F ae->cI U ae=230):=⟨λq1 q2 q3=>by unfold cI;rw[aV (by rw[q2];simp;omega),aH q3]⟩;have k4:aj (F U<=64->(U.any λr=>decide (64<F r))=au->F U=F ae->cI U ae=if ((bT (F U)).all (qX U ae))=aa then (0:Int) else 230):=⟨λq1 q2 q3=>by unfold cI;rw[aV (by rw[q2];simp;omega),aV (by simpa using q3)];rfl⟩;generalize cI U ae=res at *
 obtain⟨z2,hH⟩:∃z2,h.push [.ac k z1 (C.map λa=>[a]),.ac ky sy (aF ae)]=z2:=⟨_,O⟩;rw[hH]at l0 l1;rw[hH];refine cA O Tryz.func40 O ?_;by_cases h1:64<F U
 .have hq:((64:Int)<(F U:Int)):=by omega
  have kr:=aj.mk (k1.M h1);clear h1;refine cg @mI @dN @fE (ar @bC @hH) ?_;exact⟨_,_,O,O,by rw[kr.M]⟩
 have hq:¬((64:Int)<(F U:Int)):=by omega
 have Ir:F U<=64:=by omega
 refine cg @mI @dN @fE (ar @bC @hH) ?_;refine bM.gen λo d m L N=>?_;have f1:o.get 1=.ptr (.box (F h.I)) 0:=by rw[d];exact gS
 have f3:o.get 3=(0:Nat):=by rw[d];exact gR
 have D:o.defers=[]:=by rw[m];exact gS
 clear d m L N bx hq h1 hH;refine cJ (λz5 T H2=>∃c:Nat,c<=F U/\z5=F U-c/\aj (((U.take c).any λr=>decide (64<F r))=au)/\T.get 1=.ptr (.box (F h.I)) 0/\T.get 3=(c:Nat)/\T.defers=[]/\H2=z2) ?_ (F U) _ _ ?_;rotate_left 1
 .exact⟨0,cC _,O,⟨cE⟩,f1,f3,D,O⟩
 clear f1 f3 D;rintro z5 T z2 ⟨c,hi,rfl,kt,H,g3,hd,rfl⟩;by_cases g:c<F U
 .have eM:z1=1:=kk.M.1 (by intro q;rw[q]at g;simp at g);subst eM;obtain⟨a,j⟩:∃a,C[c]?=J a:=⟨_,aY af⟩;obtain⟨r,v⟩:∃r,U[c]?=J r:=⟨_,aY g⟩;have ld:=jc (H:=z2) (s:=1) j;obtain⟨ka,sa,rfl,R⟩:=kk.M.2.1 c a r j v;have Cr:=db r;have gG:(c:Int)<(F U:Int):=by omega
  by_cases hb:64<F r
  .have hbI:((64:Int)<(F r:Int)):=(by omega);have kr:=aj.mk (k2.M c r v hb);clear j v R hb;refine cg @mI @dN @fE @bj ?_;exact⟨_,_,O,O,by rw[kr.M]⟩
  .have hbI:¬((64:Int)<(F r:Int)):=(by omega);have kt2:aj (((U.take (c+1)).any λr=>decide (64<F r))=au):=⟨by rw[ga v,Lu,kt.M];simp;omega⟩;clear j v R hb;refine cg @mI @dN @fE @bj ?_;exact⟨F U-(c+1),by omega,c+1,by omega,O,kt2,by simp⟩
 have gq:c=F U:=by omega
 subst gq;have Y:=kt.M;rw[gy]at Y;have kany:=aj.mk Y;clear Y kt hi;by_cases h3:F U=F ae;rotate_left 1
 .have kr:=aj.mk (k3.M Ir kany.M h3);have hn:¬((F U:Int)=(F ae:Int)):=by omega
  clear h3;refine dA @mI @dN @fE ?_;exact⟨_,_,O,O,by rw[kr.M]⟩
 have kres:=aj.mk (k4.M Ir kany.M h3);have f:=aj.mk h3;have hn:(F ae:Int)=(F U:Int):=by omega
 clear h3;refine dA @mI @dN @fE ?_;refine bM.gen λo d m L N=>?_;have f1:o.get 1=.ptr (.box (F h.I)) 0:=by rw[d];simp only[gW,reduceIte,aT,aN];exact H
 have f4:o.get 4=(0:Nat):=by rw[d];exact gR
 have D:o.defers=[]:=by rw[m];simp only[gW,reduceIte,aT,aN];exact hd
 clear d m L N H g3 hd g;refine cJ (λz5 T H2=>∃c:Nat,c<=F U/\z5=F U-c/\aj (∀e,e<c->qX U ae e=aa)/\T.get 1=.ptr (.box (F h.I)) 0/\T.get 4=(c:Nat)/\T.defers=[]/\H2=z2) ?_ (F U) _ _ ?_;rotate_left 1
 .exact⟨0,cC _,O,⟨λe hj=>absurd hj (qT _)⟩,f1,f4,D,O⟩
 clear f1 f4 D;rintro z5 T H3 ⟨c,hi,rfl,kf,H,g4,hd,rfl⟩;by_cases g:c<F U;rotate_left 1
 .have gq:c=F U:=by omega
  subst gq;have k0:aj (res=0):=⟨by rw[kres.M,aH];rw[ff];intro e hj;exact kf.M e (hy.1 hj)⟩;refine dA @mI @dN @fE ?_;exact⟨_,_,O,O,by rw[k0.M]⟩
 have eM:z1=1:=kk.M.1 (by intro q;rw[q]at g;simp at g);subst eM;have qx:sy=1:=kk.M.2.2 (by intro q;have h0:=f.M;rw[q,gi]at h0;omega);subst qx;obtain⟨a,j⟩:∃a,C[c]?=J a:=⟨_,aY af⟩;obtain⟨r,v⟩:∃r,U[c]?=J r:=⟨_,aY g⟩;obtain⟨a0,Z⟩:∃a,C[0]?=J a:=⟨_,aY af⟩;obtain⟨r0,rk⟩:∃r,U[0]?=J r:=⟨_,aY af⟩;have ld:=jc (H:=H3) (s:=1) j;have ld0:=jc (H:=H3) (s:=1) Z;obtain⟨ka,sa,rfl,R⟩:=kk.M.2.1 c a r j v;obtain⟨ka0,sa0,rfl,FB⟩:=kk.M.2.1 0 a0 r0 Z rk;have ayz:=db r;have akJ:=db r0;have ldo:=eI (H:=H3) (l:=ae) (i:=c) (s:=1) (by have:=f.M;omega);have Fg:qX U ae c=(!r.isEmpty&&decide (F r=F r0)&&t_ (al ae c)&&r.all cG):=by
  unfold qX t_;have H:U.getD c []=r:=by rw[fg,v];rfl
  have g2:U.getD 0 []=r0:=by rw[fg,rk];rfl
  rw[H,g2]
 have u:=aj.mk Fg;have i:aj (qX U ae c=au->res=230):=⟨by intro q;rw[kres.M,aV];intro z;rw[ff]at z;have:=z c (hy.2 g);rw[q]at this;cases this⟩;have gG:(c:Int)<(F U:Int):=by omega
 have EW:(0:Int)<(F U:Int):=by omega
 have z0:(0:Int).toNat=0:=rfl;have ks:=aj.mk R;have Wd:F r<=64:=by have q:=kany.M;rw[R7]at q;have:=q r (dy v);simpa using this
 clear Fg j v R Z rk FB;generalize al ae c=z4 at *
 by_cases e1:F r=0
 .have vf:decide ((F r:Int)<1)=aa:=cD af;have s:aj (res=230):=⟨i.M (by rw[u.M,acz.1 e1];rfl)⟩;clear e1;refine cg @mI @dN @fE @bj ?_;refine dW uI aB ?_;refine cg @mI @dN @fE @bj ?_;exact⟨_,_,O,O,by rw[s.M]⟩
 have vf:decide ((F r:Int)<1)=au:=cR af;have A:r.isEmpty=au:=by cases r with|nil=>exact absurd O e1|cons _ _=>rfl
 clear e1;by_cases e2:F r=F r0;rotate_left 1
 .have wq:decide ((F r:Int)=(F r0:Int))=au:=cR af;have s:aj (res=230):=⟨i.M (by rw[u.M,A,cR e2];rfl)⟩;clear e2 A;refine cg @mI @dN @fE @bj ?_;refine dW uI aB ?_;refine cg @mI @dN @fE @bj ?_;exact⟨_,_,O,O,by rw[s.M]⟩
 have wq:decide ((F r:Int)=(F r0:Int))=aa:=cD af;have ke2:=aj.mk e2;clear e2;by_cases e3:z4<0
 .have Xa:decide (z4<0)=aa:=cD e3;have s:aj (res=230):=⟨i.M (by rw[u.M];unfold t_;rw[cR (af:¬0<=z4)];simp)⟩;clear e3 A;refine cg @mI @dN @fE @bj ?_;refine dW uI aB ?_;refine cg @mI @dN @fE @bj ?_;exact⟨_,_,O,O,by rw[s.M]⟩
 have Xa:decide (z4<0)=au:=cR e3;by_cases e4:64<=z4
 .have Xb:decide (64<=z4)=aa:=cD e4;have s:aj (res=230):=⟨i.M (by rw[u.M];unfold t_;rw[cR (af:¬z4<=63)];simp)⟩;clear e3 e4 A;refine cg @mI @dN @fE @bj ?_;refine dW uI aB ?_;refine cg @mI @dN @fE @bj ?_;exact⟨_,_,O,O,by rw[s.M]⟩
 have Xb:decide (64<=z4)=au:=cR e4;have B:aj (qX U ae c=r.all cG):=⟨by rw[u.M,A,cD ke2.M];unfold t_;rw[cD (af:0<=z4),cD (af:z4<=63)];rfl⟩;clear e3 e4 A;refine cg @mI @dN @fE @bj ?_;refine dW uI aB ?_;refine cg @mI @dN @fE @bj ?_;refine bM.gen λo d m L N=>?_;have f1:o.get 1=.ptr (.box (F h.I)) 0:=by rw[d];simp only[gW,reduceIte,aT,aN];exact H
 have f4:o.get 4=(c:Nat):=by rw[d];simp only[gW,reduceIte,aT,aN];exact g4
 have f5:o.get 5=(0:Nat):=by rw[d];exact gR
 have D:o.defers=[]:=by rw[m];simp only[gW,reduceIte,aT,aN];exact hd
 clear d m L N H g4 hd;refine cJ (λz5 T H2=>∃e:Nat,e<=F r/\z5=F r-e/\aj ((r.take e).all cG=aa)/\T.get 1=.ptr (.box (F h.I)) 0/\T.get 4=(c:Nat)/\T.get 5=(e:Nat)/\T.defers=[]/\H2=H3) ?_ (F r) _ _ ?_;rotate_left 1
 .exact⟨0,cC _,O,⟨cE⟩,f1,f4,f5,D,O⟩
 clear f1 f4 f5 D vf wq Xa Xb ldo ld0;rintro z5 T H4 ⟨e,hj,rfl,ka4,H,g4,g5,hd,rfl⟩;by_cases p:e<F r
 .have I_:sa=1:=ks.M (by intro q;rw[q]at p;simp at p);subst I_;have ldx:=eI (H:=H4) (s:=1) p;have yb:r[e]?=J (al r e):=by rw[aY p,fL p]
  have ayl:(e:Int)<(F r:Int):=by omega
  have Xw:(r.take (e+1)).all cG=cG (al r e):=by rw[ga yb,qP,ka4.M];simp
  have kt5:=aj.mk (ar Xw (dy yb));have Xc:cG (al r e)=(decide (0<=al r e)&&decide (al r e<1073741789)):=rfl;have kqq:=aj.mk Xc;clear yb Xw Xc;generalize al r e=n at *
  by_cases d1:n<0
  .have iN:decide (n<0)=aa:=cD d1;have s:aj (res=230):=⟨i.M (by rw[B.M,Hd];exact⟨n,kt5.M.2,by rw[kqq.M,cR (af:¬0<=n)];simp⟩)⟩;clear d1;refine cg @mI @dN @fE @bj ?_;exact⟨_,_,O,O,by rw[s.M]⟩
  have iN:decide (n<0)=au:=cR d1;by_cases d2:1073741789<=n
  .have jQ:decide (1073741789<=n)=aa:=cD d2;have s:aj (res=230):=⟨i.M (by rw[B.M,Hd];exact⟨n,kt5.M.2,by rw[kqq.M,cR (af:¬n<1073741789)];simp⟩)⟩;clear d1 d2;refine cg @mI @dN @fE @bj ?_;exact⟨_,_,O,O,by rw[s.M]⟩
  have jQ:decide (1073741789<=n)=au:=cR d2;have kt2:aj ((r.take (e+1)).all cG=aa):=⟨by rw[kt5.M.1,kqq.M,cD (af:0<=n),cD (af:n<1073741789)];rfl⟩;clear d1 d2;refine cg @mI @dN @fE @bj ?_;exact⟨F r-(e+1),by omega,e+1,by omega,O,kt2,by simp⟩
 .have oJ:e=F r:=by omega
  subst oJ;have X:=ka4.M;rw[gy]at X;have kf2:aj (∀e,e<c+1->qX U ae e=aa):=⟨λe hj=>by
   rcases Nat.lt_succ_iff_lt_or_eq.1 hj with q|q
   .exact kf.M e q
   .rw[q,B.M];exact X⟩
  clear X;refine cg @mI @dN @fE @bj ?_;exact⟨F U-(c+1),by omega,c+1,by omega,O,kf2,by simp⟩
end Go.Proofs.YtcbhpkjbiehcpaaGreatDoor
end
section
namespace Go.AE
open Go.RowKit (Below)
def og(z:Nat)(cs:List V)(off len:Nat):List (List V):=(bT len).map λc=>(cs.drop (off+c*z)).take z
def wP(z)(cs)(off):∀len,(og z cs off len).flatten=(cs.drop off).take (len*z)
 |0=>by simp[og]
 |n+1=>by
  have c:=wP z cs off n;unfold og at *
  rw[lP,jN,List.flatten_append,c,Nat.add_mul,Nat.one_mul,List.take_add,List.drop_drop];simp
def Qu(z)(cs)(off len):F (og z cs off len)=len:=by unfold og;simp
def Qv{z}{cs}{off len}(h:off+len*z<=F cs):∀r∈og z cs off len,F r=z:=by
 intro r d;unfold og at d;obtain⟨e,c,rfl⟩:=iX.1 d;have c:=hy.1 c;have:(e+1)*z<=len*z:=Nat.mul_le_mul_right _ c
 grind
mutual
def io(z:Nat)(h:ah):V->V
 | .ac k g f=>.ac (cK k) g (oG z h f)
 | .arr b c len e=>match h.I[b]? with
  |some d=>if c+len*z<=F d/\0<z then .ac .held z (ef (og z d c len)) else .arr b c len e
  |none=>.arr b c len e
 | .tuple d=>.tuple (iT z h d)
 | .agg d=>.agg (iT z h d)
 | .iface t x=>.iface t (io z h x)
 |x=>x
def iT(z:Nat)(h:ah):List V->List V
 | []=>[]
 |x::c=>io z h x::iT z h c
def oG(z:Nat)(h:ah):List (List V)->List (List V)
 | []=>[]
 |r::c=>iT z h r::oG z h c
end
section
variable {z:Nat} {h:ah}
def Vm:∀a b:List V,iT z h (a++b)=iT z h a++iT z h b
 | [],b=>rfl
 |x::a,b=>by rw[eY,iT,Vm a b,iT,eY]
def In:∀es:List (List V),(oG z h es).flatten=iT z h es.flatten
 | []=>rfl
 |r::es=>by rw[oG,kJ,kJ,Vm,In es]
def Vo:∀a:List V,F (iT z h a)=F a
 | []=>rfl
 |x::a=>by rw[iT,eZ,Vo a,eZ]
def Vq:∀a:List (List V),F (oG z h a)=F a
 | []=>rfl
 |x::a=>by rw[oG,eZ,Vq a,eZ]
def Vr{sz:Nat}:∀{es:List (List V)},(∀r∈es,F r=sz)->∀r∈oG z h es,F r=sz
 | [],_,r,c=>by cases c
 |a::es,d,r,c=>by
  rw[oG]at c;rcases hh.1 c with rfl|c
  .rw[Vo];simp_all
  .exact Vr (λr c=>d r (gr _ c)) r c
def aiV(x:V):(io z h x).dt=x.dt:=by
 cases x with
 |arr b d len c=>
  rw[io];split
  .split<;>rfl
  .rfl
 |_=>rfl
def Vn:∀a:List V,(iT z h a).all V.dt=a.all V.dt
 | []=>rfl
 |x::a=>by rw[iT,DV,aiV,Vn a,DV]
end
section
variable {P:Program} {G:Nat->Option (List V)} {ok:a_->Nat->Code->Bool} {w0 w w':World} {K:bA} {h:ah} {z:Nat}
def bA.still(K:bA)(w:World):bA:={K with base:=w.heap.size,β:=[],γ:=[],tn:=0,md:=[],ic:=λc d=>w.cell? ⟨c,d,aq⟩}
def GE(s:bZ K G ok w0 h w):∀g j c,K.ic g j=J c->(K.still w).ic g j=J c:=s.ic
mutual
def aZ.me(s:bZ K G ok w0 h w):∀{x:V} {c:Value},aZ K x c->aK 0 0 0 (io z h x)=aa->aZ (K.still w) (io z h x) c
 |_,_,.bad c,_=>.bad c
 |_,_,.v x R,_=>.v x R
 |_,_,.nil l,_=>.nil l
 |_,_,.gH l a,_=>.gH l a
 |_,_,.ac k l D o f z0 g cells hn E j L C H,d=>by
  simp only[io,aK,bQ]at d;have i:=aR.me s j (by rw[<-In,pq];grind);rw[<-In]at i;have A:z0=F (oG z h D):=by rw[Vq];exact hn
  have u:(oG z h D).flatten.all V.dt=aa:=by rw[In,Vn];exact H
  have B:=Vr (z:=z) (h:=h) E;have v:=λX c q=>s.ic _ _ _ (L X c q);cases k with|nil=>exact C.2.elim|aP=>exact .ac .aP l _ o f z0 g cells A B i v ⟨C.1,C.2⟩ u|free z1=>exact .ac .held l _ o f z0 g cells A B i v ⟨C.1,br⟩ u|held=>exact .ac .held l _ o f z0 g cells A B i v ⟨C.1,br⟩ u
 |_,_,.arr b o f len g e r Y hl qs ho E,d=>by
  simp only[io]at d ⊢;cases y:h.I[b]? with
  |none=>rw[y]at d;simp[aK]at d|some m=>
   rw[y]at d;simp only at d ⊢;split at d
   .rename_i p;rw[aH p];obtain⟨p,hz⟩:=p;obtain⟨q1,q2,q3,cells,z4,q4,q5⟩:=s.box b o m Y y;have WK:=q5.le;by_cases h0:g=0
    .have:len=0:=(by omega);subst this;exact .ac .held z [] o e 0 r [] O (λ_ h=>by cases h) .nil (λ_ _ h=>by grind) ⟨cC _,br⟩ O
    .have N:e=f:=(by simp_all);subst N;have j:aR K ((m.drop e).take (len*z)) (((cells.toList.take (F m)).drop e).take (len*z)):=(q5.1.drop e).take (len*z);have i:=aR.i' (K2:=K.still w) (GE s) (aR.hold j) (by simp only[aK,bQ]at d;have:=d.2;rw[<-pq,Cm,wP]at this;omega);rw[<-wP,<-Cm]at i;refine .ac .held z _ o e len r (((cells.toList.take (F m)).drop e).take (len*z)) (by rw[Ft,Qu]) (IY (Qv p)) i (λX c q=>?_) ⟨af,br⟩ ?_
     .have Z:X<len*z:=(by have:=(bk.1 q).1;rw[dJ]at this;omega);rw[o0,aH Z,rD,o0,aH af]at q;show w.cell? ⟨o,e+X,aq⟩=J c;rw[cell_of q4];simp_all
     .rw[Cm,Oi,wP]
      grind
   .simp[aK]at d
 |_,_,.agg m T j,d=>.agg _ T (aR.me s j (by simpa only[io,aK] using d))
 |_,_,.tuple m T j,d=>.tuple _ T (aR.me s j (by simpa only[io,aK] using d))
 |_,_,.box b o f Y,d=>by simp[io,aK]at d
 |_,_,.ec o f,_=>.ec o f
 |_,_,.elem l D z1 f o z2 z3 cells E j L hi hp H,d=>.elem l D z1 f o z2 z3 cells E (aR.i' (GE s) j (by rw[pq];simpa only[io,aK] using d)) (λX c q=>s.ic _ _ _ (L X c q)) hi hp H
 |_,_,.func fn first g fs m h1 h2,d=>by simp only[io,aK,bQ]at d;exact .func fn first g fs m (aR.i' (GE s) h1 d.1) (aR.i' (GE s) h2 d.2)
 |_,_,.yield z5 o hl,d=>by simp[io,aK]at d
 |_,_,.iface t x c R,d=>by simp only[io,aK]at d;exact .iface t _ c (aZ.me s R d)
def aR.me(s:bZ K G ok w0 h w):∀{xs:List V} {cs:List Value},aR K xs cs->aM 0 0 0 (iT z h xs)=aa->aR (K.still w) (iT z h xs) cs
 |_,_,.nil,_=>.nil
 |_,_,.cons x f xs cs e d,c=>by simp only[iT,aM,bQ]at c;exact .cons _ f _ cs (aZ.me s e c.1) (aR.me s d c.2)
end
def bZ.still(s:bZ K G ok w0 h w)(i:∀g cs,G g=J cs->aM 0 0 0 cs=aa):bZ (K.still w) G ok w ⟨[],[],0,[]⟩ w:=by
 refine⟨Below.refl _ _,bh _,λg r q j=>j,λg cs e=>?_,O,λb f g c=>by simp[bA.still]at c,λb g cs c=>by simp_all,O,λb f g c=>by simp[bA.still]at c,λA g v u=>by simp_all,O,λt d=>?_,λt y d=>?_,λv m=>by simp[bA.still]at m,O⟩
 .obtain⟨cells,o,p⟩:=s.ec g cs e;exact⟨cells,aR.i' (K1:=K) (K2:=K.still w) (GE s) o (i g cs e),λr q l=>s.ic _ _ _ (p r q l)⟩
 .simp[alive]at d
 .simp[alive]at d
def Im(z:Nat)(R:Rec)(g:a_)(args:List V)(h:ah):Option (V × ah):=
 if aM 0 0 0 (iT z h args)=aa then
  match R.call g (iT z h args) ⟨[],[],0,[]⟩ with
  |some (.ret (.v c),_)=>J (.v c,h)
  |_=>aq
 else aq
def aiW{aS:a_->Option (List V->ah->Option (V × ah))}(H:Prog P)(B:∀g cs,G g=J cs->aM 0 0 0 cs=aa)(d:∀u g p,aS g=J p->lV P G u g p){g:a_}(j:∃fn,P.funcs[g]?=J fn/\fn.body.isSome=aa)(u:World):
 lV P G u g (Im z (whole P G aS) g):=by
 refine⟨j,λy h x h' c K w f L e cs=>?_⟩;unfold Im at c;split at c
 .rename_i E;split at c
  .rename_i Y h2 D;injection c with c;injection c with r s;subst r;subst s;obtain⟨-,i⟩:=(KR H (d w)).call g _ _ _ _ D;have N:=bZ.still e B;obtain⟨T,w',A,le,R,o,l,v,q,m⟩:=i (K.still w) w f (aR.me e L E) N cs;have C:Below w.heap.size w w':=(by have:=R.fG;rwa [le.base]at this);refine⟨.returned v,w',A,⟨v,_,O,bA.Js e,?_,bZ.oh e C⟩,o,l,m⟩;cases q with|v _ X=>exact .v _ X
  grind
 grind
def ym(z:Nat)(R:Rec)(L c:List a_)(g:a_):Option (List V->ah->Option (V × ah)):=if L.contains g=aa then J (zu R g) else if c.contains g=aa then J (Im z R g) else aq
def anv{aS:a_->Option (List V->ah->Option (V × ah))}(i:Prog P)(f:∀g cs,G g=J cs->aM 0 0 0 cs=aa)(d:∀e g p,aS g=J p->lV P G e g p){L o:List a_}(j:∀g∈L,∃fn,P.funcs[g]?=J fn/\fn.body.isSome=aa)(l:∀g∈o,∃fn,P.funcs[g]?=J fn/\fn.body.isSome=aa):
 ∀e g p,ym z (whole P G aS) L o g=some p->lV P G e g p:=by
 intro e g p c;unfold ym at c;split at c
 .rename_i m;injection c with c;subst c;exact MG i f d (j g (by simp_all)) e
 .split at c
  .rename_i m;injection c with c;subst c;exact aiW i f d (l g (by simp_all)) e
  grind
def gV{R:Rec}{L m:List a_}{g:a_}{args u:List V}{x y:V}{c:ah}(i:L.contains g=aa)(d:bE args=u)(f:aM 0 0 0 u=aa)(e:R.call g u ⟨[],[],0,[]⟩=J (.ret y,c))(l:et c y=x)(j:aK 0 0 0 x=aa):
 ∀h,(whole P G (ym z R L m)).call g args h=J (.ret x,h):=by
 intro h;subst d;subst l;rw[sM];unfold mf ym;rw[aH i];simp only[zu,wC,aH f,e,aH j,gc]
def aiU{R:Rec}{L j:List a_}{g:a_}{args u:List V}{y:Value}{h c:ah}(l:L.contains g=au)(i:j.contains g=aa)(d:iT z h args=u)(f:aM 0 0 0 u=aa)(e:R.call g u ⟨[],[],0,[]⟩=J (.ret (.v y),c)):
 (whole P G (ym z R L j)).call g args h=J (.ret (.v y),h):=by
 subst d;rw[sM];unfold mf ym;rw[aV (by simp_all),aH i];simp only[Im,aH f,e];rfl
end
end Go.AE
end
section
namespace Go.Proofs.YtcbhpkjbiehcpaaGreatDoor
open Go.AE Go.NT
def aaA:Tryz.f133.results.toList=[.tmp 2]:=aB
def Kn:Tryz.f135.results.toList=[.tmp 2]:=aB
def azy:Tryz.f134.results.toList=[.tmp 2]:=aB
def Y7(n:Int)(h:ah):W4.call 133 [im n] h=J (.ret (.v (.bool (cG n))),h):=by
 unfold im cG Qi;by_cases c:0<=n
 .refine da O adj O ?_;have:decide (0<=n)=aa:=by simp[c]
  exact f_ @aaA @pF
 .refine da O adj O ?_;have:decide (0<=n)=au:=by simp[c]
  exact f_ @aaA @A2
def an2(h:ah)(x:V)(l:List Int)(A:IL x l)(Y:F l<=9223372036854775807):∃r h',W4.call 135 [x] h=J (r,h')/\h'=h/\r=.ret (.v (.bool (l.all cG))):=by
 obtain⟨k,D,rfl,j⟩:=A;have C:=aj.mk j;clear j;have L:=dp;have z3:=fa;have E:=db l;refine cA O Tryz.func135 O ?_;refine bD @Kn ?_;refine cJ (λH u i=>∃d:Nat,d<=F l/\H=F l-d/\aj ((l.take d).all cG=aa)/\u.get 0=.ac k D (aF l)/\u.get 3=(d:Nat)/\u.defers=[]/\i=h) ?_ (F l) _ _ ?_;rotate_left 1
 .refine⟨0,cC _,O,⟨cE⟩,?_,?_,?_,O⟩<;>exact gR
 rintro H u i ⟨d,X,rfl,o,N,R,T,rfl⟩;by_cases c:d<F l
 .have m:D=1:=C.M (by intro z0;rw[z0]at c;simp at c);subst m;have Z:=eI (H:=i) (s:=1) c;have g:l[d]?=J (al l d):=by rw[aY c,fL c]
  have y:(d:Int)<(F l:Int):=by omega
  have e:(l.take (d+1)).all cG=cG (al l d):=by rw[ga g,qP,o.M];simp
  have q:=aj.mk (ar e (dy g));have v:=Y7 (al l d) i;unfold im at v;clear g e;generalize al l d=n at *
  cases f:cG n with
  |false=>have B:aj (l.all cG=au):=⟨by rw[Hd];exact⟨n,q.M.2,by simp[f]⟩⟩;rw[f]at v;clear f;refine bF @Kn @bj ?_;exact⟨_,_,O,O,by rw[B.M]⟩
  |true=>have s:aj ((l.take (d+1)).all cG=aa):=⟨by rw[q.M.1,f]⟩;rw[f]at v;clear f;refine bF @Kn @bj ?_;exact⟨F l-(d+1),by omega,d+1,by omega,O,s,by simp⟩
 .have:d=F l:=by omega
  subst this;have:=o.M;rw[gy]at this;have p:=aj.mk this;clear this;refine bD @Kn ?_;exact⟨_,_,O,O,by rw[p.M]⟩
section
open Go.Proofs.Tryz renaming func134->Q55
open Go.Proofs.YtcbhpkjbiehcpaaGreatDoor renaming azy->Q56
def axN(h:ah)(x y:V)(U:List (List Int))(ae:List Int)(s:RL x U)(u:IL y ae):∃h',W4.call 134 [.agg [x,y]] h=J (.ret ((cr U:Nat):V),h')/\h'=h.push [x,y]:=ZS10
end
def Ur(x y)(U)(ae)(f:RL x U)(g:IL y ae):∀h,W4.call 35 [.agg [x,y]] h=J (.ret ((cI U ae:Int):V),h):=by obtain⟨c,h2⟩:=f.ip;obtain⟨d,e⟩:=g.hold;exact b8 (L:=L4) (u:=[.agg [aA x,aA y]]) O O (by simp[aM,aK,h2,e]) (agA (aA x) (aA y) U ae c d _) O rfl
def H7{b}:eo ag 110 (.ptr (.box b) 0) 0=J (.ptr (.box b) 0):=aB
def H_{b}:eo ag 110 (.ptr (.box b) 0) 1=J (.ptr (.box b) 1):=aB
def Pd{H}{b}{x y}(c:H.I[b]?=J [x,y]):aL ag Gt H 3 (.ptr (.box b) 0)=J x:=by rw[fx eH c];rfl
def Pe{H}{b}{x y}(c:H.I[b]?=J [x,y]):aL ag Gt H 3 (.ptr (.box b) 1)=J y:=by rw[fx eH c];rfl
def RL.bP{x}{U}(h:RL x U):x.bP=J [x]:=by obtain⟨k,d,c,rfl,-⟩:=h.form;rfl
def IL.bP{x}{l}(h:IL x l):x.bP=J [x]:=by obtain⟨k,c,rfl,-⟩:=h;rfl
def ua{x y}{U}{ae}(c:RL x U)(d:IL y ae):(V.agg [x,y]).bP=J [x,y]:=by obtain⟨k,i,g,rfl,-⟩:=c.form;obtain⟨e,f,rfl,-⟩:=d;rfl
def RL.dw{x}{U}(h:RL x U):dw ag 22 x=J ((F U:Nat):V):=by obtain⟨k,f,e,rfl,d⟩:=h.form;have c:=gZ;unfold Go.AE.dw;rw[c];simp only[bJ,d]
def IL.dw{x}{l}(h:IL x l):dw ag 23 x=J ((F l:Nat):V):=by obtain⟨k,d,rfl,-⟩:=h;have c:=dp;unfold Go.AE.dw;rw[c];simp only[db]
def iZ(U:List (List Int))(ae c:List Int):Int:=if cI U ae≠0 then cI U ae else if decide (F c=cr U)&&c.all cq then 0 else 340
def ahE(h:ah)(x y z:V)(U:List (List Int))(ae c:List Int)(j:RL x U)(l:IL y ae)(o:IL z c)(A:F c<=1000000):
 ∃r h',W4.call 158 [.agg [x,y],z] h=J (r,h')/\Ext h h'/\r=.ret ((iZ U ae c:Int):V):=by
 have C:=ua j l;have u:=Ur x y U ae j l;obtain⟨_,v,rfl⟩:=ag1 (h.push [x,y]) x y U ae j l;have g:=HU (pr:=C') O O 218 [] (λn=> !cq n) ((h.push [x,y]).push [x,y]) z c o A (λn _=>awz n _);have D:=tN (aU h [x,y]);have H:=o.dw;have q:∀s,s≠0->cI U ae=s->iZ U ae c=s:=λs f h2=>by unfold iZ;rw[aH (by rw[h2];exact f),h2]
 have m:cI U ae=0->iZ U ae c=if decide (F c=cr U)&&c.all cq then 0 else 340:=λh2=>by unfold iZ;rw[aV (by simp[h2])]
 have p:=aj.mk (ar q m);clear q m j l o;rw[Tf]at g;generalize iZ U ae c=res at *
 refine cA O Tryz.func158 O ?_;by_cases i:cI U ae=0
 .rw[i]at u;have d:=p.M.2 i;clear i;by_cases f:F c=cr U
  .have B:decide ((F c:Int)=((cr U:Nat):Int))=aa:=cD af;rw[cD f,pF]at d;clear f;cases h2:c.all cq with
   |true=>rw[h2]at g d;have e:=aj.mk d;clear h2 d;refine bF @Kb @bC ?_;exact⟨_,_,O,(Ext.push _ _).trans (Ext.push _ _),by rw[e.M];rfl⟩
   |false=>rw[h2]at g d;have e:=aj.mk d;clear h2 d;refine bF @Kb @bC ?_;exact⟨_,_,O,(Ext.push _ _).trans (Ext.push _ _),by rw[e.M];rfl⟩
  .have B:decide ((F c:Int)=((cr U:Nat):Int))=au:=cR af;rw[cR f,A2]at d;have e:=aj.mk d;clear f d;refine bF @Kb @bC ?_;exact⟨_,_,O,(Ext.push _ _).trans (Ext.push _ _),by rw[e.M];rfl⟩
 .have e:=aj.mk (p.M.1 _ i O);clear p v g;generalize cI U ae=s at *
  refine bF @Kb @bC ?_;exact⟨_,_,O,Ext.push _ _,by rw[e.M]⟩
def ug(U:List (List Int))(p:Int × Int):Bool:=decide (0<=p.1)&&decide (p.1<F U)&&cG p.2
def OU(n):IL (.ac .aP 1 [[((n:Int):V)]]) [n]:=⟨.aP,1,O,λ_=>rfl⟩
def aqZ(h:ah)(x y:V)(U:List (List Int))(ae:List Int)(d:RL x U)(e:IL y ae)(a v:Int):
 ∃r h',W4.call 159 [.agg [x,y],.agg [im a,im v]] h=J (r,h')/\Ext h h'/\r=.ret (.v (.bool (ug U (a,v)))):=by
 have i:=ua d e;have f:(V.agg [im a,im v]).bP=J [im a,im v]:=rfl;have l:aL ag Gt ((h.push [x,y]).push [im a,im v]) 22 (.ptr (.box (F h.I)) 0)=J x:=oP (aX (aU h [x,y]));have m:=Pd (aU (h.push [x,y]) [im a,im v]);have o:=Pe (aU (h.push [x,y]) [im a,im v]);have j:=Y8 (.ac .aP 1 [[((v:Int):V)]]) [v] (OU v) cE ((h.push [x,y]).push [im a,im v]);rw[(cE:[v].all cG=cG v)]at j;have g:=p_ v;have p:=d.dw;clear d e;unfold ug;simp only;refine cA O Tryz.func159 O ?_;unfold im at *
 by_cases c:0<=a
 .have d1:decide (0<=a)=aa:=cD c;by_cases h2:a<F U
  .have d2:decide (a<(F U:Int))=aa:=cD h2;rw[d1,d2];clear c h2;refine cg @QA @bC @dN (ar @H7 @H_) ?_;exact⟨_,_,O,(Ext.push _ _).trans (Ext.push _ _),O⟩
  .have d2:decide (a<(F U:Int))=au:=cR h2;rw[d1,d2];clear c h2;refine cg @QA @bC @dN (ar @H7 @H_) ?_;exact⟨_,_,O,(Ext.push _ _).trans (Ext.push _ _),O⟩
 .have d1:decide (0<=a)=au:=cR c;rw[d1];clear c;refine cg @QA @bC @dN (ar @H7 @H_) ?_;exact⟨_,_,O,(Ext.push _ _).trans (Ext.push _ _),O⟩
def aji(c b)(k)(d:F b<=1099511620000)(e:F c<=1099511620000):∀h,W3.call 69 [.v (.string (bs c)),.ac k 1 (bW b)] h=J (.ret (im (qo (lK c b):Nat)),h):=
 b8 (L:=L3) (u:=[.v (.string (bs c)),.ac (cK k) 1 (bW b)]) O (by rw[bE,bE,aA.eq_1,rh];rfl) (by simp[aM,aK,fy,mA]) (ajh c b _ d e _) O rfl
def VA(c b)(k)(d:F b<=1099511620000)(e:F c<=1099511620000):∀h,W4.call 69 [.v (.string (bs c)),.ac k 1 (bW b)] h=J (.ret (im (qo (lK c b):Nat)),h):=
 b8 (L:=L4) (u:=[.v (.string (bs c)),.ac (cK k) 1 (bW b)]) O (by rw[bE,bE,aA.eq_1,rh];rfl) (by simp[aM,aK,fy,mA]) (aji c b _ d e _) O rfl
def ZS11{p:Prop}(h:p:=by obtain⟨c,h2⟩:=cW.hold v r g;obtain⟨t,d⟩:=Q57 c e f;exact⟨cK t,Q58 (L:=Q59) (u:=[.agg (bE r)]) O O (by simpa [aM,aK] using h2) (d _) O (by simp[aK,aM,fy,mA])⟩):p:=h
section
open Go.Proofs.YtcbhpkjbiehcpaaGreatDoor renaming axO->Q57,L3->Q59
open Go.AE renaming b8->Q58
def axP{v}{r}(g:cW v r)(e:gf v<=16)(f:F (cH v)<=1099511600000):∃t,∀h,W3.call 74 [.agg r] h=J (.ret (.tuple [.ac t 1 (bW (cH v)),.v (.int .i64 0)]),h):=ZS11
end
section
open Go.Proofs.YtcbhpkjbiehcpaaGreatDoor renaming axP->Q57,L4->Q59
open Go.AE renaming b8->Q58
def M7{v}{r}(g:cW v r)(e:gf v<=16)(f:F (cH v)<=1099511600000):∃t,∀h,W4.call 74 [.agg r] h=J (.ret (.tuple [.ac t 1 (bW (cH v)),.v (.int .i64 0)]),h):=ZS11
end
def Ge:Tryz.f150.results.toList=[.cell 2 118]:=aB
def ass:Tryz.f153.results.toList=[.tmp 4]:=aB
def Kl:Tryz.f70.results.toList=[.tmp 2]:=aB
inductive sO:V->Vl->Prop
 |int (n:Int) (hn:0<=n/\n<=4611686018427387903):sO (.iface 3 (.v (.int .i64 n))) (.int n)
 |aC (k:Tok) (s:Nat) (b:List UInt8) (hs:b≠[]->s=1) (hb:b.length<=1099511620000):sO (.iface 60 (.ac k s (bW b))) (.aC b)
 |val (v:Vl) (r:List V) (h:cW v r):sO (.iface 118 (.agg r)) v
def ry(xs:List V)(vs:List Vl):Prop:=F xs=F vs/\∀(c:Nat) x v,xs[c]?=J x->vs[c]?=J v->sO x v
def ry.nil:ry [] []:=⟨O,λc x d h=>by simp at h⟩
def ry.cons{x}{v}{xs}{vs}(h:sO x v)(e:ry xs vs):ry (x::xs) (v::vs):=by
 refine⟨by simp[e.1],λf g w d c=>?_⟩;cases f with|zero=>simp at d c;subst d;subst c;exact h|succ f=>simp at d c;exact e.2 f g w d c
def Tn(x):uF ag (.iface 3 x) 3 aa=J (.tuple [x,(aa:V)]):=aB
def Tm(x):uF ag (.iface 60 x) 3 aa=J (.tuple [.v (.int .i64 0),(au:V)]):=aB
def Tl(x):uF ag (.iface 60 x) 60 aa=J (.tuple [x,(aa:V)]):=aB
def aev(x):uF ag (.iface 118 x) 3 aa=J (.tuple [.v (.int .i64 0),(au:V)]):=aB
def aeu(x):uF ag (.iface 118 x) 60 aa=J (.tuple [.ac .nil 0 [],(au:V)]):=aB
def aew(x):uF ag (.iface 118 x) 118 aa=J (.tuple [x,(aa:V)]):=aB
def MT{k}{s}{b}(i:b≠[]->s=1)(h):l_ ag h 60 9 (.ac k s (bW b))=J (.v (.string (bs b)),h):=by
 have f:ag.underlying 9=J .string:=Tryz.underlying9;have h2:ag.underlying 60=J (.slice 5):=Tryz.underlying60;have g:ag.underlying 5=J (.int .u8):=Tryz.underlying5;unfold l_;simp only[f,h2,g,rowsOf];rw[aH (by
  by_cases d:b=[]
  .exact .inr (by rw[d];rfl)
  .exact .inl (i d))]
 have e:∀c:List UInt8,bytesOf (bW c)=J c:=by
  intro c
  induction c with
  |nil=>rfl|cons a c j=>show(match Go.AE.byteOf (iF a),bytesOf (bW c) with|some b,J c=>J (b::c)|_,_=>aq)=_;rw[j];simp[Go.AE.byteOf,iF]
 simp only[e,gc];rfl
def zl{r}(e:F r=4)(d:(V.agg r).bP=J r):fC ag 116 1 [(0,.agg r)]=J (.ac .aP 4 [r]):=by have c:ag.underlying 116=J (.slice 118):=mw;unfold fC;simp only[c,nP,uo];rw[aH ⟨bm,O,by decide⟩];simp[xN,d,e]
section
open Go renaming kk118->Q45,kk4->Q46,kk64->Q47
def OW:∃i,ag.info? 118=J i/\i.size=4/\i.bytes<=64/\(i.zero.map λz=>z.cells.size)=J 4:=ZS8
end
def yY{H}{k}{n0 sz}{es}{r}(o:F es<1000000)(j:es≠[]->sz=4)(e:es=[]->sz=4∨k=.nil)(i:dm n0 H k):
 gC ag H #[116,116] (.ac k sz es) (.ac .aP 4 [r])=J (.ac (.free H.tn) 4 (es++[r]),H.app k):=by
 obtain⟨p,f,c,l,g⟩:=OW;have m:=kL (af:F es+1<=1000000) l;have:=yZ (P:=ag) (h:=H) (n0:=n0) (k:=k) (sz:=sz) (es:=es) (new:=[r]) (x:=.ac .aP 4 [r]) (t1:=116) mw (.inl ⟨118,mw⟩) f af (by rw[c];exact g) (by rw[c];rfl) cE (by simp;omega) (by simp;omega) (by
  rw[c];by_cases d:es=[]
  .rcases e d with q|q
   .exact .inl q
   .exact .inr ⟨d,q⟩
  .exact .inl (j d)) i
 rwa [c]at this
structure pI(h H:ah)(c:Nat)(vs:List Vl)(t:Tok)(sz:Nat)(U:List (List V)):Prop where
 box:H.I[c]?=J (aG 3 0 [] t sz U)
 can:dm h.tn H t
 ok:du H=aa
 ext:Ext h H
 M:h.I.length<=c
 rel:gB vs U
 four:U≠[]->sz=4
 nil:U=[]->sz=4∨t=.nil
 fit:fZ 0 0 0 U=aa
def U':∀(U:List (List V)) (r:List V),fZ 0 0 0 U=aa->aM 0 0 0 r=aa->fZ 0 0 0 (U++[r])=aa
 | [],r,_,h=>by rw[eP,fZ,h];rfl
 |a::U,r,c,h2=>by rw[fZ,bQ]at c;rw[eY,fZ,c.1,U' U r c.2 h2];rfl
def pI.push{h H}{c}{vs}{t}{sz}{U}(g:pI h H c vs t sz U)(cs):pI h (H.push cs) c vs t sz U:=
 ⟨aX g.box,by rw[tj];exact g.can,g.ok,g.ext.trans (.push _ _),g.M,g.rel,g.four,g.nil,g.fit⟩
def pI.put{h H}{c}{vs}{t}{sz}{U}(g:pI h H c vs t sz U){v}{r}(o:cW v r)(m:aM 0 0 0 r=aa):
 pI h ((H.app t).put c (aG 3 0 [] (.free H.tn) 4 (U++[r]))) c (vs++[v]) (.free H.tn) 4 (U++[r]):=by
 have j:=(bk.1 g.box).1;have i:=Grown.one g.can g.ok g.ext.tn;refine⟨dM (by rw[ey];exact j),by rw[Bz];exact i.can,i.ok,(i.ext g.ext (bh _)).gw g.M _,g.M,⟨by simp[g.rel.1],λp w x e d=>?_⟩,λ_=>rfl,λ_=>.inl O,U' _ _ g.fit m⟩;rcases eg p (F U) with f|q
 .rw[rC f]at d;rw[rC (by rw[<-g.rel.1];exact f)]at e;exact g.rel.2 p w x e d
 .have:=(bk.1 d).1;rw[de]at this;have l:p=F U:=by simp at this;omega
  subst l;rw[Ba]at d;rw[g.rel.1,Ba]at e;injection d with d;injection e with e;subst d;subst e;exact o
def yB{H}{c}{t t2}{sz sz2}{U rows2}(d:H.I[c]?=J (aG 3 0 [] t sz U)):b9 ag H 116 (.ptr (.box c) 3) (.ac t2 sz2 rows2)=J (H.put c (aG 3 0 [] t2 sz2 rows2)):=
 fI (off:=3) (cs:=aG 3 0 [] t sz U) (xs:=[.ac t2 sz2 rows2]) O aB d O (bh 4)
def auN{H:ah}:b9 ag (H.push (aG 0 0 [] .nil 0 [])) 3 (.ptr (.box (F H.I)) 0) (.v (.int .i64 3))=J (H.push (aG 3 0 [] .nil 0 [])):=by rw[fI (off:=0) (cs:=aG 0 0 [] .nil 0 []) (xs:=[.v (.int .i64 3)]) O fa (aU _ _) O bm];congr 1;exact ml _ _ _
def Ye{H}{xs:List V}{i s}{x}(h:xs[i]?=J x):aL ag Gt H 20 (.elem s (xs.map λa=>[a]) i 0)=J x:=by rw[ru aB (row:=[x]) (by rw[eF,h];rfl)];rfl
def abv:cQ ag 20=J 1:=aB
def sO.agf{x}{v}(h:sO x v):(∃n,x=.iface 3 ((n:Int):V)/\v=.int n/\0<=n/\n<=4611686018427387903)∨(∃k s b,x=.iface 60 (.ac k s (bW b))/\v=.aC b/\(b≠[]->s=1)/\F b<=1099511620000)∨∃r,x=.iface 118 (.agg r)/\cW v r:=by
 cases h with|int n c=>exact .inl ⟨n,O,O,c.1,c.2⟩|aC k s b e d=>exact .inr (.inl ⟨k,s,b,O,O,e,d⟩)|val v r h=>exact .inr (.inr ⟨r,O,h⟩)
def Pp(h:ah)(fR:du h=aa)(k:Tok)(s:Nat)(xs:List V)(vs:List Vl)(hr:ry xs vs)(hs:xs≠[]->s=1)(hl:F xs<=1000)(hf:∀a∈xs,aK 0 0 0 a=aa):
 ∃r h',W4.call 150 [.ac k s (xs.map λa=>[a])] h=J (r,h')/\Ext h h'/\∃t sz U,r=.ret (.agg (aG 3 0 [] t sz U))/\cW (.ac vs) (aG 3 0 [] t sz U)/\fZ 0 0 0 U=aa/\(F xs=0->t=.nil/\sz=0/\U=[]):=by
 have q:=aj.mk (ar hr (ar hs hf));clear hr hs hf;have z:=uo;have u180:=adA;have u94:=mw;have z20:=abv;have e_:F (xs.map λa=>[a])=F xs:=bJ _;have Y:pI h (h.push (aG 3 0 [] .nil 0 [])) (F h.I) (vs.take 0) .nil 0 []:=⟨aU _ _,.inl O,fR,.push _ _,bh _,⟨O,λi z0 r B=>by simp at B⟩,λB=>absurd O B,λ_=>.inr O,O⟩;refine cA O Tryz.func150 O ?_;refine cg @Ge @eQ @auN @jl ?_;refine bM.gen λu l H fM eS=>?_;have f2:u.get 2=.ptr (.box (F h.I)) 0:=by rw[l];exact gS
 have f9:u.get 9=.ac k s (xs.map λa=>[a]):=by rw[l];exact gS
 have f10:u.get 10=(F xs:Nat):=by rw[l];exact gS
 have f11:u.get 11=(0:Nat):=by rw[l];exact gR
 have fd:u.defers=[]:=by rw[H];exact gS
 clear l H fM eS;refine cJ (λz1 X j=>∃(i:Nat) (t:Tok) (sz:Nat) (U:List (List V)),i<=F xs/\z1=F xs-i/\aj (pI h j (F h.I) (vs.take i) t sz U)/\aj (i=0->t=.nil/\sz=0/\U=[])/\X.get 2=.ptr (.box (F h.I)) 0/\X.get 9=.ac k s (xs.map λa=>[a])/\X.get 10=(F xs:Nat)/\X.get 11=(i:Nat)/\X.defers=[]) ?_ (F xs) _ _ ?_;rotate_left 1
 .exact⟨0,.nil,0,[],cC _,O,⟨Y⟩,⟨λ_=>⟨O,O,O⟩⟩,f2,f9,f10,f11,fd⟩
 clear f2 f9 f10 f11 fd Y;rintro z1 X j ⟨i,t,sz,U,hi,rfl,d,kN,g2,g9,g10,g11,hd⟩;by_cases v:i<F xs
 .have eM:s=1:=q.M.2.1 (by intro B;rw[B]at v;simp at v);subst eM;obtain⟨x,C⟩:∃x,xs[i]?=J x:=⟨_,aY v⟩;obtain⟨z0,m⟩:∃z0,vs[i]?=J z0:=⟨_,aY (by have:=q.M.1.1;omega)⟩;have p:=q.M.1.2 i x z0 C m;have o:=q.M.2.2 x (dy C);have ld:=Ye (H:=j) (s:=1) C;have A:=aj.mk (ga m);have y:F U<1000000:=by have:=d.M.rel.1;rw[dJ]at this;omega
  have gG:(i:Int)<(F xs:Int):=by omega
  clear C m;rcases p.agf with⟨n,rfl,rfl,N,R⟩|⟨kb,sb,b,rfl,rfl,D,E⟩|⟨r,rfl,c⟩
  .have c:cW (.int n) (aG 1 n [] .nil 0 []):=.int n ⟨N,R⟩;have e:=aj.mk (d.M.put c O);have l3:=j_ d.M.box;have Z:=yY (r:=aG 1 n [] .nil 0 []) y d.M.four d.M.nil d.M.can;have bl:=zl (r:=aG 1 n [] .nil 0 []) O O;have st:=yB (H:=j.app t) (t2:=.free j.tn) (sz2:=4) (rows2:=U++[aG 1 n [] .nil 0 []]) (by rw[ey];exact d.M.box);rw[<-A.M]at e;clear c N R p o;refine cg @Ge @eQ @bj (ar @Tn @Ms) ?_;exact⟨F xs-(i+1),by omega,i+1,_,_,_,by omega,O,e,⟨λB=>absurd B (Sr _)⟩,by simp⟩
  .have c:cW (.aC b) (aG 2 0 b .nil 0 []):=.aC b E;have e:=aj.mk (d.M.put c O);have l3:=j_ d.M.box;have Z:=yY (r:=aG 2 0 b .nil 0 []) y d.M.four d.M.nil d.M.can;have bl:=zl (r:=aG 2 0 b .nil 0 []) O O;have cv:=MT (k:=kb) D;have st:=yB (H:=j.app t) (t2:=.free j.tn) (sz2:=4) (rows2:=U++[aG 2 0 b .nil 0 []]) (by rw[ey];exact d.M.box);rw[<-A.M]at e;clear c D E p o;refine cg @Ge @eQ @bj (ar @Tm (ar @Tl @Mt)) ?_;exact⟨F xs-(i+1),by omega,i+1,_,_,_,by omega,O,e,⟨λB=>absurd B (Sr _)⟩,by simp⟩
  .have L:aM 0 0 0 r=aa:=(by simpa [aK] using o);have g:=d.M.push r;have e:=aj.mk (g.put c L);have l3:=j_ g.box;have l4:=nF c.len (aU j r);have Z:=yY (r:=r) y g.four g.nil g.can;have bl:=zl (r:=r) c.len c.cells;have st0:=Ri (H:=j) c;have st:=yB (H:=(j.push r).app t) (t2:=.free (j.push r).tn) (sz2:=4) (rows2:=U++[r]) (by rw[ey];exact g.box);rw[<-A.M]at e;clear c p g o L;refine cg @Ge @eQ @bj (ar @aev (ar @aeu @aew)) ?_;exact⟨F xs-(i+1),by omega,i+1,_,_,_,by omega,O,e,⟨λB=>absurd B (Sr _)⟩,by simp⟩
 .have gq:i=F xs:=by omega
  subst gq;have f:=d.M;rw[fK (by rw[q.M.1.1];exact bh _)]at f;have m:cW (.ac vs) (aG 3 0 [] t sz U):=.ac vs t sz U f.rel.1 f.four (by have:=f.rel.1;have:=q.M.1.1;omega) f.rel.2;have ld:=nF m.len f.box;have st:b9 ag j 118 (.ptr (.box (F h.I)) 0) (.agg (aG 3 0 [] t sz U))=J j:=by rw[fI jl nP f.box O (bh 4),vA O];rw[ju f.box]
  have T:=aj.mk (ar m (ar f.ext f.fit));clear m f;refine bD @Ge ?_;exact⟨_,_,O,T.M.2.1,_,_,_,O,T.M.1,T.M.2.2,kN.M⟩
def bd3:iP ag 118 [(0,.v (.int .i64 3))]=J (.agg (aG 3 0 [] .nil 0 [])):=aB
inductive vQ:V->Vl->Prop
 |int (n:Int) (hn:0<=n/\n<=4611686018427387903):vQ (.iface 3 (.v (.int .i64 n))) (.int n)
 |aC (k:Tok) (s:Nat) (b:List UInt8) (hs:b≠[]->s=1) (hb:b.length<=1099511620000):vQ (.iface 60 (.ac k s (bW b))) (.aC b)
def uy(xs:List V)(vs:List Vl):Prop:=F xs=F vs/\∀(c:Nat) x v,xs[c]?=J x->vs[c]?=J v->vQ x v
def uy.nil:uy [] []:=⟨O,λc x d h=>by simp at h⟩
def uy.cons{x}{v}{xs}{vs}(h:vQ x v)(e:uy xs vs):uy (x::xs) (v::vs):=by
 refine⟨by simp[e.1],λf g w d c=>?_⟩;cases f with|zero=>simp at d c;subst d;subst c;exact h|succ f=>simp at d c;exact e.2 f g w d c
def vQ.age{x}{v}(h:vQ x v):(∃n,x=.iface 3 ((n:Int):V)/\v=.int n/\0<=n/\n<=4611686018427387903)∨(∃k s b,x=.iface 60 (.ac k s (bW b))/\v=.aC b/\(b≠[]->s=1)/\F b<=1099511620000):=by
 cases h with|int n c=>exact .inl ⟨n,O,O,c.1,c.2⟩|aC k s b e d=>exact .inr ⟨k,s,b,O,O,e,d⟩
def amS(h:ah)(fR:du h=aa)(k:Tok)(s:Nat)(xs:List V)(vs:List Vl)(hr:uy xs vs)(hs:xs≠[]->s=1)(hl:F xs<=1000)(C:gf (.ac vs)<=16)(D:F (cH (.ac vs))<=1099511600000):
 ∃r h',W4.call 70 [.ac k s (xs.map λa=>[a])] h=J (r,h')/\∃t,r=.ret (.ac t 1 (bW (cH (.ac vs)))):=by
 have m:=aj.mk (ar hr (ar hs (ar C D)));clear hr hs C D;have z:=uo;have u180:=adA;have u94:=mw;have z20:=abv;have e_:F (xs.map λa=>[a])=F xs:=bJ _;have X:pI h (h.push (aG 3 0 [] .nil 0 [])) (F h.I) (vs.take 0) .nil 0 []:=⟨aU _ _,.inl O,fR,.push _ _,bh _,⟨O,λi z1 r z0=>by simp at z0⟩,λz0=>absurd O z0,λ_=>.inr O,O⟩;refine cA O Tryz.func70 O ?_;refine cg @Kl @eQ @bd3 (ar @KF @jl) ?_;refine bM.gen λo e B fM eS=>?_;have f2:o.get 3=.ptr (.box (F h.I)) 0:=by rw[e];exact gS
 have f9:o.get 11=.ac k s (xs.map λa=>[a]):=by rw[e];exact gS
 have f10:o.get 12=(F xs:Nat):=by rw[e];exact gS
 have f11:o.get 13=(0:Nat):=by rw[e];exact gR
 have Y:o.defers=[]:=by rw[B];exact gS
 clear e B fM eS;refine cJ (λz2 T u=>∃(i:Nat) (t:Tok) (v:Nat) (c:List (List V)),i<=F xs/\z2=F xs-i/\aj (pI h u (F h.I) (vs.take i) t v c)/\T.get 3=.ptr (.box (F h.I)) 0/\T.get 11=.ac k s (xs.map λa=>[a])/\T.get 12=(F xs:Nat)/\T.get 13=(i:Nat)/\T.defers=[]) ?_ (F xs) _ _ ?_;rotate_left 1
 .exact⟨0,.nil,0,[],cC _,O,⟨X⟩,f2,f9,f10,f11,Y⟩
 clear f2 f9 f10 f11 Y X;rintro z2 T u ⟨i,t,v,c,hi,rfl,d,g3,g11,g12,g13,hd⟩;by_cases p:i<F xs
 .have eM:s=1:=m.M.2.1 (by intro z0;rw[z0]at p;simp at p);subst eM;obtain⟨x,R⟩:∃x,xs[i]?=J x:=⟨_,aY p⟩;obtain⟨z1,l⟩:∃z1,vs[i]?=J z1:=⟨_,aY (by have:=m.M.1.1;omega)⟩;have q:=m.M.1.2 i x z1 R l;have ld:=Ye (H:=u) (s:=1) R;have N:=aj.mk (ga l);have L:F c<1000000:=by have:=d.M.rel.1;rw[dJ]at this;omega
  have gG:(i:Int)<(F xs:Int):=by omega
  clear R l;rcases q.age with⟨n,rfl,rfl,E,H⟩|⟨kb,sb,b,rfl,rfl,y,A⟩
  .have f:cW (.int n) (aG 1 n [] .nil 0 []):=.int n ⟨E,H⟩;have g:=aj.mk (d.M.put f O);have l3:=j_ d.M.box;have ap:=yY (r:=aG 1 n [] .nil 0 []) L d.M.four d.M.nil d.M.can;have bl:=zl (r:=aG 1 n [] .nil 0 []) O O;have st:=yB (H:=u.app t) (t2:=.free u.tn) (sz2:=4) (rows2:=c++[aG 1 n [] .nil 0 []]) (by rw[ey];exact d.M.box);rw[<-N.M]at g;clear f E H q;refine cg @Kl @eQ @bj (ar @Tn @Ms) ?_;exact⟨F xs-(i+1),by omega,i+1,_,_,_,by omega,O,g,by simp⟩
  .have f:cW (.aC b) (aG 2 0 b .nil 0 []):=.aC b A;have g:=aj.mk (d.M.put f O);have l3:=j_ d.M.box;have ap:=yY (r:=aG 2 0 b .nil 0 []) L d.M.four d.M.nil d.M.can;have bl:=zl (r:=aG 2 0 b .nil 0 []) O O;have cv:=MT (k:=kb) y;have st:=yB (H:=u.app t) (t2:=.free u.tn) (sz2:=4) (rows2:=c++[aG 2 0 b .nil 0 []]) (by rw[ey];exact d.M.box);rw[<-N.M]at g;clear f y A q;refine cg @Kl @eQ @bj (ar @Tm (ar @Tl @Mt)) ?_;exact⟨F xs-(i+1),by omega,i+1,_,_,_,by omega,O,g,by simp⟩
 .have Z:i=F xs:=by omega
  subst Z;have j:=d.M;rw[fK (by rw[m.M.1.1];exact bh _)]at j;have l:cW (.ac vs) (aG 3 0 [] t v c):=.ac vs t v c j.rel.1 j.four (by have:=j.rel.1;have:=m.M.1.1;omega) j.rel.2;have ld:=nF l.len j.box;obtain⟨te,ce⟩:=M7 l m.M.2.2.1 m.M.2.2.2;clear l j;refine bD @Kl ?_;exact⟨_,_,O,_,O⟩
def ajV(h:ah)(i:du h=aa)(c:List UInt8)(k:Tok)(s:Nat)(xs:List V)(vs:List Vl)(j:ry xs vs)(l:xs≠[]->s=1)(g:F xs<=1000)(f:∀a∈xs,aK 0 0 0 a=aa)(p:F c<=1099511620000)(d:gf (.ac vs)<=16)(e:F (cH (.ac vs))<=1099511600000):
 ∃r h',W4.call 153 [.v (.string (bs c)),.ac k s (xs.map λa=>[a])] h=J (r,h')/\r=.ret (im ((q_ c (.ac vs):Nat):Int)):=by
 obtain⟨_,A,y,-,t,B,q,rfl,m,-,-⟩:=Pp h i k s xs vs j l g f;obtain⟨u,ce⟩:=M7 m d e;have o:=VA c (cH (.ac vs)) u af p;have v:qo (lK c (cH (.ac vs)))=q_ c (.ac vs):=rfl;rw[v]at o;generalize q_ c (.ac vs)=n at *
 unfold im at *
 clear j l g m f v;refine cA O Tryz.func153 O ?_;refine bD @ass ?_;exact⟨_,_,O,O⟩
section
open Go.Proofs.Tryz renaming underlying23->Q12,func207->Q16
open Go.Proofs.YtcbhpkjbiehcpaaGreatDoor renaming axD->Q13,fa->Q15,asE->Q17,agb->Q18,auy->Q19
open Go renaming kk23->Q14
def axV(n:Nat)(h0:0<n)(m:n<=1099511627776)(H:ah):W4.call 207 [.ac .nil 0 [],((n:Nat):V)] H=J (.ret (.arr (F H.I) 0 0 n),H.push (bR n [im 0]).flatten):=ZS5
end
def axU(H:ah):W4.call 207 [.ac .nil 0 [],((0:Nat):V)] H=J (.ret (.ac .nil 0 []),H):=by
 have c:=dp;refine da O Tryz.func207 O ?_;have d:IntKind.i64.wrap ((0:Int)-0)=0:=by rfl
 have e:IntKind.i64.wrap (((0:Nat):Int)-0)=0:=by rfl
 exact Nt @asE @HP @agb (ar @auy (ar @gi.{0} (ar @Int.natCast_zero @Int.sub_zero)))
section
open Go.Proofs.Tryz renaming underlying23->Q29,underlying22->Q30,func141->Q33
open Go.Proofs.YtcbhpkjbiehcpaaGreatDoor renaming axy->Q31,iA->Q32,azo->Q34,axU->Q36,axB->Q37,axV->Q38,im->Q39,axv->Q40
open Go renaming kk23->Q35
def ahj(k:Tok)(xs:List V)(d:List (List (List V)))(hl:F xs=F d)(H:ah)(hs:∀(i:Nat) x g,xs[i]?=J x->d[i]?=J g->ek 1 H x g)(hb:F d.flatten<=1099511627776)(fF:F xs<=1000):
 ∃r H',W4.call 141 [.ac k 1 (xs.map λx=>[x])] H=J (r,H')/\∃y,r=.ret y/\Ext H H'/\ek 1 H' y d.flatten:=ZS6
end
def L5:List a_:=[80,81,75,134,66,82,133,130,202,67,39,68,69,70,162,135,43,111,35,139,140,141,142,150,40,100,96,97,99,241,158,159,203,103,104,105,193,242,74,174,231,232,233,222,178]
noncomputable def Da:a_->Option (List V->ah->Option (V × ah)):=ym 4 W4 L5 [153]
noncomputable abbrev W5:=whole ag Gt Da
def k_:mN Da L5:=λd c=>⟨wC W4 d,by unfold Da ym;rw[aH (by simpa using c)];rfl⟩
section
variable (a b n x:Int)
def Hw:∀h,W5.call 80 [im a,im b] h=J (.ret (im (cX a b)),h):=gV (L:=L5) O O O (S6 a b _) O rfl
def Pz:∀h,W5.call 81 [im a,im b] h=J (.ret (im (cV a b)),h):=gV (L:=L5) O O O (YR a b _) O rfl
def GQ:∀h,W5.call 66 [im x] h=J (.ret (.v (.bool (cq x))),h):=gV (L:=L5) O O O (abI x _) O rfl
def Ip:∀h,W5.call 67 [im a,im b] h=J (.ret (.tuple [im (oI a b),im (tC a b)]),h):=gV (L:=L5) O O O (ajo a b _) O rfl
def Iq:∀h,W5.call 75 [im a,im n] h=J (.ret (.tuple [im (eR a n),im (lm a)]),h):=gV (L:=L5) O O O (Nq a n _) O rfl
def aqp:∀h,W5.call 130 [im a,im b] h=J (.ret (im (cX a b)),h):=gV (L:=L5) O O O (aqo a b _) O rfl
def arS:∀h,W5.call 202 [im a,im b] h=J (.ret (im (cV a b)),h):=gV (L:=L5) O O O (arR a b _) O rfl
def arc:∀h,W5.call 231 [im n] h=J (.ret (.tuple [im (if fmod n=0 then 0 else e8 n),im (if fmod n=0 then 90 else 0)]),h):=gV (L:=L5) O O O (arb n _) O rfl
def atA:∀h,W5.call 111 [im x] h=J (.ret (.v (.bool (cq x))),h):=gV (L:=L5) O O O (atz x _) O rfl
def aqV:∀h,W5.call 203 [im a,im n] h=J (.ret (.tuple [im (eR a n),im (lm a)]),h):=gV (L:=L5) O O O (aqU a n _) O rfl
def aq6:∀h,W5.call 97 [im n] h=J (.ret (.agg (aG 1 n [] .nil 0 [])),h):=gV (L:=L5) O O O (aq5 n _) O rfl
end
def P7(x n):∀h,W5.call 82 [im x,im n] h=J (.ret (im (eR x n)),h):=gV (L:=L5) O O O (apB x n _) O rfl
def ZN(x n):∀h,W5.call 68 [im x,im n] h=J (.ret (im (eR x n)),h):=gV (L:=L5) O O O (apC x n _) O rfl
def anY(n):∀h,W5.call 133 [im n] h=J (.ret (.v (.bool (cG n))),h):=gV (L:=L5) O O O (Y7 n _) O rfl
def nM{x y}{U}{ae}(c:RL x U)(d:IL y ae):RL (aA x) U/\IL (aA y) ae/\aK 0 0 0 (aA x)=aa/\aK 0 0 0 (aA y)=aa:=
 ⟨c.ip.1,d.hold.1,c.ip.2,d.hold.2⟩
def MM(x y)(U)(ae)(f:RL x U)(g:IL y ae):∀h,W5.call 35 [.agg [x,y]] h=J (.ret (im (cI U ae)),h):=by obtain⟨c,h2,d,e⟩:=nM f g;exact gV (L:=L5) (u:=[.agg [aA x,aA y]]) O O (by simp[aM,aK,d,e]) (Ur (aA x) (aA y) U ae c h2 _) O rfl
def ZS12{p:Prop}(h:p:=by obtain⟨c,h2,d,e⟩:=nM f g;obtain⟨h',i,-⟩:=Q63 ⟨[],[],0,[]⟩ (aA x) (aA y) U ae c h2;exact gV (L:=L5) (u:=[.agg [aA x,aA y]]) O O (by simp[aM,aK,d,e]) i O rfl):p:=h
section
open Go.Proofs.YtcbhpkjbiehcpaaGreatDoor renaming ag1->Q63
def ag2(x y)(U)(ae)(f:RL x U)(g:IL y ae):∀h,W5.call 140 [.agg [x,y]] h=J (.ret (im (cr U:Nat)),h):=ZS12
end
section
open Go.Proofs.YtcbhpkjbiehcpaaGreatDoor renaming axN->Q63
def ag7(x y)(U)(ae)(f:RL x U)(g:IL y ae):∀h,W5.call 134 [.agg [x,y]] h=J (.ret (im (cr U:Nat)),h):=ZS12
end
section
open Go.Proofs.YtcbhpkjbiehcpaaGreatDoor renaming axM->Q63
def ag6(x y)(U)(ae)(f:RL x U)(g:IL y ae):∀h,W5.call 104 [.agg [x,y]] h=J (.ret (im (cr U:Nat)),h):=ZS12
end
def aaa(x y)(U)(ae)(g:RL x U)(i:IL y ae)(f:F U<=1000000):∀h,W5.call 40 [.agg [x,y]] h=J (.ret (im (cI U ae)),h):=by obtain⟨c,h2,d,e⟩:=nM g i;obtain⟨l,h',j,-,rfl⟩:=aqs ⟨[],[],0,[]⟩ (aA x) (aA y) U ae c h2 f;exact gV (L:=L5) (u:=[.agg [aA x,aA y]]) O O (by simp[aM,aK,d,e]) j O rfl
def Y9(x)(l)(e:IL x l)(d:F l<=1000000):∀h,W5.call 139 [x] h=J (.ret (.v (.bool (l.all cG))),h):=by obtain⟨c,h2⟩:=e.hold;exact gV (L:=L5) (u:=[aA x]) O O (by simp[aM,h2]) (Y8 (aA x) l c d _) O rfl
def an3(x)(l)(e:IL x l)(d:F l<=9223372036854775807):∀h,W5.call 135 [x] h=J (.ret (.v (.bool (l.all cG))),h):=by obtain⟨c,h2⟩:=e.hold;obtain⟨g,h',f,-,rfl⟩:=an2 ⟨[],[],0,[]⟩ (aA x) l c d;exact gV (L:=L5) (u:=[aA x]) O O (by simp[aM,h2]) f O rfl
def Zy(x)(l)(e:IL x l)(d:F l<=9223372036854775807):∀h,W5.call 43 [x] h=J (.ret (.v (.bool (dL (-1) l))),h):=by obtain⟨c,h2⟩:=e.hold;obtain⟨g,h',f,-,rfl⟩:=ao0 ⟨[],[],0,[]⟩ (aA x) l c d;exact gV (L:=L5) (u:=[aA x]) O O (by simp[aM,h2]) f O rfl
def V6(x)(l)(n)(e:IL x l)(d:F l<=1099511627776):∀h,W5.call 105 [x,im n] h=J (.ret (.v (.bool (l.contains n))),h):=by obtain⟨c,h2⟩:=e.hold;obtain⟨g,h',f,-,rfl⟩:=ajO ⟨[],[],0,[]⟩ (aA x) l n c d;exact gV (L:=L5) (u:=[aA x,im n]) O O (by simp[aM,h2,aK,im]) f O rfl
def avS(n)(c:0<n)(h2:n<=1000000):∀h,W5.call 103 [im (n:Nat)] h=J (.ret (.ac .held 1 (aF (fW n))),h):=
 gV (L:=L5) O O O (avR ⟨[],[],0,[]⟩ n c h2) (Ap (aU _ _) (Rm c)) (by simp[aK,jG,pX])
def av6(x y)(a b)(i:IL x a)(j:IL y b)(g:F a<=1000000)(c:F a<=F b):∀h,W5.call 142 [x,y] h=J (.ret (im (lj a b)),h):=by obtain⟨d,h2⟩:=i.hold;obtain⟨e,f⟩:=j.hold;obtain⟨h',l,-⟩:=av5 ⟨[],[],0,[]⟩ (aA x) (aA y) a b d e g c;exact gV (L:=L5) (u:=[aA x,aA y]) O O (by simp[aM,h2,f]) l O rfl
def UM(x y z)(U)(ae c)(l:RL x U)(m:IL y ae)(o:IL z c)(j:F c<=1000000):∀h,W5.call 158 [.agg [x,y],z] h=J (.ret (im (iZ U ae c)),h):=by obtain⟨d,h2,e,f⟩:=nM l m;obtain⟨g,i⟩:=o.hold;obtain⟨q,h',p,-,rfl⟩:=ahE ⟨[],[],0,[]⟩ (aA x) (aA y) (aA z) U ae c d h2 g j;exact gV (L:=L5) (u:=[.agg [aA x,aA y],aA z]) O O (by simp[aM,aK,e,f,i]) p O rfl
def aq0(x y)(U)(ae)(f:RL x U)(g:IL y ae)(a v):∀h,W5.call 159 [.agg [x,y],.agg [im a,im v]] h=J (.ret (.v (.bool (ug U (a,v)))),h):=by obtain⟨c,h2,d,e⟩:=nM f g;obtain⟨j,h',i,-,rfl⟩:=aqZ ⟨[],[],0,[]⟩ (aA x) (aA y) U ae c h2 a v;exact gV (L:=L5) (u:=[.agg [aA x,aA y],.agg [im a,im v]]) O O (by simp[aM,aK,d,e,im]) i O rfl
def Vd:∀l:List Int,(aF l).flatten=l.map im
 | []=>rfl
 |a::l=>by show(wt a::aF l).flatten=im a::l.map im;rw[kJ,Vd l];rfl
def ak6{h}{y}{l}(s:ek 1 h y (aF l)):IL (et h y) l/\aK 0 0 0 (et h y)=aa:=by
 rcases s.2 with⟨k,p,rfl,e⟩|⟨b,g,f,j,rfl,-,d,c,h2⟩
 .rw[et];exact⟨⟨_,_,O,λo=>e (by unfold aF;simpa using o)⟩,by rw[aK,fy,jG];rfl⟩
 .rw[et,d];simp only;rw[mr]at c h2;have m:(aF l).flatten.map (λi=>[i])=aF l:=by have this:(aF l).flatten=l.map im:=Vd l;rw[this,Ni]
  rw[aH h2,c,m];exact⟨⟨_,_,O,λ_=>rfl⟩,by rw[aK,jG];rfl⟩
def ahl(x y)(a b)(p:IL x a)(q:IL y b)(C:F a+F b<=1000000):∃z,IL z (a++b)/\∀h,W5.call 141 [.ac .aP 1 [[x],[y]]] h=J (.ret z,h):=by
 obtain⟨i,h2⟩:=p.hold;obtain⟨j,l⟩:=q.hold;obtain⟨H,h',B,z,rfl,-,f⟩:=ahj .aP [aA x,aA y] [aF a,aF b] O ⟨[],[],0,[]⟩ (λA w N d c=>by
  have e:∀{w:V} {v:List Int},IL w v->ek 1 ⟨[],[],0,[]⟩ w (aF v):=λ{w v} d=>by obtain⟨k,R,rfl,o⟩:=d;exact ek.ac (λH m=>by obtain⟨n,-,rfl⟩:=iX.1 m;rfl) λD=>o λg=>D (by rw[g];rfl)
  rcases A with _|_|A
  .injection d with d;injection c with c;subst d;subst c;exact e i
  .injection d with d;injection c with c;subst d;subst c;exact e j
  .cases d) (by simp[db];omega) cE
 have g:[aF a,aF b].flatten=aF (a++b):=by simp[aF]
 rw[g]at f;obtain⟨r,s⟩:=ak6 f;exact⟨_,r,gV (L:=L5) (u:=[.ac .aP 1 [[aA x],[aA y]]]) O O (by simp[aM,aK,fZ,h2,l,pX]) B O s⟩
def ajj(c b)(k)(d:F b<=1099511620000)(e:F c<=1099511620000):∀h,W5.call 69 [.v (.string (bs c)),.ac k 1 (bW b)] h=J (.ret (im (qo (lK c b):Nat)),h):=
 gV (L:=L5) (u:=[.v (.string (bs c)),.ac (cK k) 1 (bW b)]) O (by rw[bE,bE,aA.eq_1,rh];rfl) (by simp[aM,aK,fy,mA]) (VA c b _ d e _) O rfl
def sO.hold{x}{v}(h:sO x v):sO (aA x) v/\aK 0 0 0 (aA x)=aa:=by
 cases h with|int n e=>exact⟨.int n e,O⟩|aC k i b f d=>rw[aA,aA,rh];exact⟨.aC _ i b f d,by simp[aK,fy,mA]⟩|val v g h=>obtain⟨c,h2⟩:=cW.hold v g h;rw[aA,aA];exact⟨.val v _ c,by simpa [aK] using h2⟩
def ZS13{p:Prop}(h:p:=by
 refine⟨⟨by simp[h.1],λg x m c j=>?_⟩,λa i=>?_⟩
 .rw[eF]at c;cases d:xs[g]? with
  |none=>rw[d]at c;cases c
  |some l=>rw[d]at c;injection c with c;subst c;exact(h.2 g l m d j).hold.1
 .obtain⟨l,d,rfl⟩:=iX.1 i;obtain⟨g,e⟩:=sS d;have f:=(bk.1 e).1;exact(h.2 g l _ e (aY (by rw[<-h.1];exact f))).hold.2):p:=h
def ry.hold{xs}{vs}(h:ry xs vs):ry (xs.map aA) vs/\∀a∈xs.map aA,aK 0 0 0 a=aa:=ZS13
def cW.tok{vs}{t}{sz}{U}(h:cW (.ac vs) (aG 3 0 [] t sz U))(t2):cW (.ac vs) (aG 3 0 [] t2 sz U):=by
 generalize c:aG 3 0 [] t sz U=m at h;cases h with|ac l k z j a b f g=>unfold aG at c;injection c with _ c;injection c with _ c;injection c with _ c;injection c with c;injection c with i d e;subst d;subst e;exact .ac vs t2 sz U a b f g
def amN(k)(s)(xs)(vs)(g:ry xs vs)(i:xs≠[]->s=1)(f:F xs<=1000):
 ∃row,cW (.ac vs) row/\∀h,W5.call 150 [.ac k s (xs.map λa=>[a])] h=J (.ret (.agg row),h):=by
 obtain⟨d,h2⟩:=g.hold;obtain⟨p,h',m,-,t,l,c,rfl,j,e,-⟩:=Pp ⟨[],[],0,[]⟩ wG (cK k) s (xs.map aA) vs d (λo=>i (by simpa using o)) (by simpa using f) h2;refine⟨aG 3 0 [] (cK t) l c,j.tok _,gV (L:=L5) (u:=[.ac (cK k) s ((xs.map aA).map λa=>[a])]) O (by rw[bE,bE,aA,Ac]) (by rw[aM,aM,aK,fy,wd _ h2];rfl) m O ?_⟩;rw[aK,aG,aM,aM,aM,aM,aM,aK,fy,e];rfl
def Vs{z}{h}:∀xs:List V,oG z h (xs.map λa=>[a])=(xs.map (io z h)).map λa=>[a]
 | []=>rfl
 |x::xs=>by rw[dR,oG,Vs xs];rfl
def Vt{z}{h}:∀b:List UInt8,oG z h (bW b)=bW b
 | []=>rfl
 |a::b=>by show oG z h (iF a::bW b)=_;rw[oG,Vt b];rfl
def uq(h:ah)(x:V)(v:Vl):Prop:=sO (io 4 h x) v/\aK 0 0 0 (io 4 h x)=aa
def w8(h:ah)(xs:List V)(vs:List Vl):Prop:=F xs=F vs/\∀(c:Nat) x v,xs[c]?=J x->vs[c]?=J v->uq h x v
def w8.nil{h}:w8 h [] []:=⟨O,λd x e c=>by simp at c⟩
def w8.cons{h}{x}{v}{xs}{vs}(q:uq h x v)(e:w8 h xs vs):w8 h (x::xs) (v::vs):=by
 refine⟨by simp[e.1],λf g w d c=>?_⟩;cases f with|zero=>simp at d c;subst d;subst c;exact q|succ f=>simp at d c;exact e.2 f g w d c
def uq.int{h}(n)(c:0<=n/\n<=4611686018427387903):uq h (.iface 3 ((n:Int):V)) (.int n):=⟨.int n c,O⟩
def uq.aC{h}(k)(s)(b)(d:b≠[]->s=1)(c:F b<=1099511620000):uq h (.iface 60 (.ac k s (bW b))) (.aC b):=by unfold uq;rw[io,io,Vt];exact⟨.aC _ s b d c,by simp[aK,fy,mA]⟩
def asg{z}{U:List (List V)}(d:∀r∈U,F r=z){i}{r}(h:U[i]?=J r):(U.flatten.drop (i*z)).take z=r:=by
 have e:=d r (dy h);refine oq λf=>?_;rw[o0];split
 .rename_i c;rw[rD,aiE d i f c,h];rfl
 .rename_i c;rw[sQ af]
def asi{z}(e:0<z):∀U:List (List V),(∀r∈U,F r=z)->og z U.flatten 0 (F U)=U:=by
 intro U d;refine oq λf=>?_;unfold og;rw[eF];rcases eg f (F U) with c|c
 .rw[List.getElem?_range c,gc,nT,asg d (aY c),aY c]
 .rw[sQ (by simpa using c),sQ c];rfl
def uq.ac{h}{vs}{U}{b}(l:h.I[b]?=J U.flatten)(c:gB vs U)(m:F U<=1000000):uq h (.iface 118 (.agg (im 3::im 0::sv []::[.arr b 0 (F U) (F U)]))) (.ac vs):=by
 have g:∀p∈U,F p=4:=λp i=>by obtain⟨r,e⟩:=sS i;have f:=(bk.1 e).1;exact(c.2 r _ p (aY (by rw[<-c.1];exact f)) e).len
 have q:io 4 h (.iface 118 (.agg (im 3::im 0::sv []::[.arr b 0 (F U) (F U)])))=.iface 118 (.agg (aG 3 0 [] .held 4 (ef U))):=by unfold im sv aG;simp only[io,iT,l];rw[aH ⟨by rw[nA g];omega,by decide⟩,asi bm U g];rfl
 have o:cW (.ac vs) (aG 3 0 [] .held 4 U):=.ac vs .held 4 U c.1 (λ_=>rfl) m c.2;obtain⟨d,h2⟩:=cW.hold _ _ o;have j:bE (aG 3 0 [] .held 4 U)=aG 3 0 [] .held 4 (ef U):=rfl;rw[j]at d h2;unfold uq;rw[q];exact⟨.val _ _ d,by simpa [aK] using h2⟩
def w8.me{h}{xs}{vs}(q:w8 h xs vs):ry (xs.map (io 4 h)) vs/\∀a∈xs.map (io 4 h),aK 0 0 0 a=aa:=by
 refine⟨⟨by simp[q.1],λg x m c j=>?_⟩,λa i=>?_⟩
 .rw[eF]at c;cases d:xs[g]? with
  |none=>rw[d]at c;cases c
  |some l=>rw[d]at c;injection c with c;subst c;exact(q.2 g l m d j).1
 .obtain⟨l,d,rfl⟩:=iX.1 i;obtain⟨g,e⟩:=sS d;have f:=(bk.1 e).1;exact(q.2 g l _ e (aY (by rw[<-q.1];exact f))).2
def V9(h)(c)(k)(s)(xs)(vs)(i:w8 h xs vs)(j:xs≠[]->s=1)(g:F xs<=1000)(l:F c<=1099511620000)(d:gf (.ac vs)<=16)(e:F (cH (.ac vs))<=1099511600000):
 W5.call 153 [.v (.string (bs c)),.ac k s (xs.map λa=>[a])] h=J (.ret (im ((q_ c (.ac vs):Nat):Int)),h):=by
 obtain⟨f,h2⟩:=i.me;obtain⟨p,h',m,rfl⟩:=ajV ⟨[],[],0,[]⟩ wG c (cK k) s (xs.map (io 4 h)) vs f (λo=>j (by simpa using o)) (by simpa using g) h2 l d e;refine aiU (u:=[.v (.string (bs c)),.ac (cK k) s ((xs.map (io 4 h)).map λa=>[a])]) O O ?_ ?_ m
 .rw[iT,iT,iT,io,Vs];rfl
 .simp only[aM,aK,fy,wd _ h2,Bool.and_self]
def vQ.hold{x}{v}(h:vQ x v):vQ (aA x) v/\aK 0 0 0 (aA x)=aa:=by
 cases h with|int n d=>exact⟨.int n d,O⟩|aC k f b e c=>rw[aA,aA,rh];exact⟨.aC _ f b e c,by simp[aK,fy,mA]⟩
def uy.hold{xs}{vs}(h:uy xs vs):uy (xs.map aA) vs/\∀a∈xs.map aA,aK 0 0 0 a=aa:=ZS13
def amT(k)(s)(xs)(vs)(g:uy xs vs)(i:xs≠[]->s=1)(f:F xs<=1000)(c:gf (.ac vs)<=16)(d:F (cH (.ac vs))<=1099511600000):
 ∃t,∀h,W5.call 70 [.ac k s (xs.map λa=>[a])] h=J (.ret (.ac t 1 (bW (cH (.ac vs)))),h):=by
 obtain⟨e,h2⟩:=g.hold;obtain⟨m,h',j,t,rfl⟩:=amS ⟨[],[],0,[]⟩ wG (cK k) s (xs.map aA) vs e (λl=>i (by simpa using l)) (by simpa using f) c d;exact⟨cK t,gV (L:=L5) (u:=[.ac (cK k) s ((xs.map aA).map λa=>[a])]) O (by rw[bE,bE,aA,Ac]) (by rw[aM,aM,aK,fy,wd _ h2];rfl) j O (by simp[aK,fy,mA])⟩
def S4(c)(s0)(xs:List V)(y z)(U)(ae am)(v:RL (.ac c s0 (xs.map λa=>[a])) U)(A:IL y ae)(B:IL z am)(j:F am<=1099511627776):
 (∃e,fm U ae am=([],au,e)/\∀h,W5.call 39 [.agg [.ac c s0 (xs.map λa=>[a]),y],z] h=J (.ret (.tuple [.ac .nil 0 [],(au:V),((e:Int):V)]),h))∨
 ∃l,fm U ae am=(l,aa,0)/\F l=F U/\∀h,W5.call 39 [.agg [.ac c s0 (xs.map λa=>[a]),y],z] h=J (.ret (.tuple [.ac .held 1 (aF l),(aa:V),.v (.int .i64 0)]),h):=by
 obtain⟨o,h2⟩:=v.hold;obtain⟨p,q⟩:=A.hold;obtain⟨r,s⟩:=B.hold;have g:bE [.agg [.ac c s0 (xs.map λa=>[a]),y],z]=[.agg [.ac (cK c) s0 ((xs.map aA).map λa=>[a]),aA y],aA z]:=by rw[bE,aA,bE,bE,bE,aA,Ac];rfl
 have i:aM 0 0 0 [.agg [.ac (cK c) s0 ((xs.map aA).map λa=>[a]),aA y],aA z]=aa:=by have u:=wd _ h2;rw[aM,aK,aM,aM,aM,aM,aK,fy,u,q,s];rfl
 rcases adI (cK c) s0 (xs.map aA) (aA y) (aA z) U ae am o p r j with⟨e,d,f⟩|⟨l,d,m,f⟩
 .exact .inl ⟨e,d,gV (L:=L5) O g i (f _) O O⟩
 .exact .inr ⟨l,d,m,gV (L:=L5) O g i (f _) O (by simp[aK,aM,jG,pX])⟩
end Go.Proofs.YtcbhpkjbiehcpaaGreatDoor
end
