/-
  The engine, part 51: a function that gives a number and takes lists whose cells may lie in boxes: for the call these boxes are lists.
-/
import Derived.Test.YtcbhpkjbiehcpaaGreatDoorRC
open True renaming intro->aX
open Bool renaming true->V,and_eq_true->bm,not_eq_true'->Ca,false->ai,true_or->ZL,false_or->Fc,false_and->ut,true_and->mq,and_eq_false_iff->ZF
open List renaming contains_eq_mem->v9,getElem?_eq_some_iff->aS,set_set_perm->aaA,mem_of_getElem?->cU,getElem?_set->kQ,length_set->mX,mem_or_eq_of_mem_set->uB,length->F,length_map->br,length_cons->dY,length_nil->fQ,map_append->jB,set_eq_take_append_cons_drop->xz,getElem_of_mem->aak,mem_append->Cm,mem_of_mem_take->xy,mem_map->iV,getElem?_of_mem->qo,length_append->cg,length_take->cR,range->bZ,range_succ->jT,foldl_append->oj,getElem?_eq_getElem->aN,getElem?_map->dW,getD_eq_getElem?_getD->eG,mem_cons_self->gx,getElem?_set_self->P6,mem_singleton->hY,take_succ_cons->dw,take_zero->cX,mem_cons_of_mem->gj,replicate->bB,replicate_succ->Co,replicate_zero->aav,append_nil->ga,getElem?_append_left->qn,getElem?_concat_length->zI,take_of_length_le->fR,take_length->fB,any_append->JA,any_eq_true->JB,nil_append->dM,any_eq_false->P0,length_replicate->l8,getElem?_zipIdx->aaj,mem_cons->gL,all_eq_true->eF,getElem?_drop->oL,foldl_nil->Cj,map_replicate->xx,map_eq_nil_iff->zJ,mem_range->hy,length_eq_zero_iff->aan,getElem_mem->iP,filter_append->zH,filter_cons->sF,map_cons->eD,length_filter_le->P9,drop_eq_getElem_cons->ss,drop_of_length_le->mW,map_inj_right->JJ,mem_filter->uA,all_append->sn,all_eq_false->Jz,cons_append->eu,any_cons->aaa,all_cons->Ch,flatten_append->oi,flatten_cons->jA,getElem?_take->mr,take_append_drop->pG,mem_flatten->JL,ext_getElem?->nV,getElem?_eq_none->uy
open Nat renaming le_trans->eS,mul_le_mul->ji,zero_add->nX,zero_le->bV,not_lt_zero->mY,reduceEqDiff->aJ,le_refl->aV,lt_or_ge->dp,lt_irrefl->Qd,beq->gX,ble->JR,eq_of_beq_eq_true->kU,le_of_ble_eq_true->jq,sub_self->qs,mul_one->jC,succ_ne_zero->Ql
open Option renaming some->J,map_some->fk,none->af
open Go.Proofs.Tryz renaming prog->aa,underlying23->cT,underlying207->Cy,underlying22->gm,func164->aa3,func91->abm,func248->abd,func89->abl,func206->aa7,underlying116->kY,underlying177->abn,func207->aa8
open And renaming intro->aj
open Int renaming le_refl->Cd,toNat_natCast->fh,lt_trans->ZW,zero_sub->Z',sub_zero->Cg,natCast_zero->qm
open Go renaming FuncId->aQ
open Decidable renaming not_not->Ju
set_option maxHeartbeats 64000000
set_option maxRecDepth 100000
set_option linter.unusedSimpArgs false
set_option linter.unusedVariables false
set_option linter.constructorNameAsVariable false
set_option linter.defProp false
section
namespace Go.Proofs.YtcbhpkjbiehcpaaGreatDoor
open Go.AE Go.NT
structure GM(S:List Nat)(n0:Nat)(h h':Heap)(t:Tok):Prop where
 mu:fj S n0 h h'
 can:db n0 h' t
 ok:c_ h'=V
section
variable {S S':List Nat} {n0:Nat} {h h' h2:Heap} {t k:Tok}
def adV(m:∀n,fj S n h h')(c:db n0 h t):db n0 h' t:=by
 rcases c with q|q|⟨g,q,i,e⟩
 .exact .inl q
 .exact .inr (.inl q)
 .refine .inr (.inr ⟨g,q,i,?_⟩);have d:=qu e;unfold alive at *
  simp only[bm,Ca,v9,decide_eq_false_iff_not,decide_eq_true_eq]at *
  exact⟨Nat.lt_of_lt_of_le d (m 0).tn,λf=>e.2 ((m (g+1)).dead g (Nat.lt_succ_self _) f)⟩
def GM.then(g:GM S n0 h h' t)(m:∀n,fj S n h' h2):GM S n0 h h2 t:=⟨g.mu.trans (m n0),adV m g.can,(m 0).ok g.ok⟩
def GM.app(g:GM S n0 h h' t)(c:n0<=h.tn):GM S n0 h (h'.app t) (.free h'.tn):=by have G:=Grown.one (n0:=n0) g.can g.ok (eS c g.mu.tn);exact⟨g.mu.trans G.NE,G.can,G.ok⟩
def GM.refl(c:db n0 h t)(d:c_ h=V):GM S n0 h h t:=⟨.refl,c,d⟩
end
def qP:Tryz.f169.results.toList=[.tmp 4]:=am
def iI.swap{H}{o w i j bi f}{B}{t}{a b}(T:iI H o B t w)(hi:B[i]?=J bi)(p:B[j]?=J f)(v:t[i]?=J a)(y:t[j]?=J b):
 iI (H.put o (((B.set i f).set j bi).map λb=>U.arr b 0 w w)) o ((B.set i f).set j bi) ((t.set i b).set j a) w:=by
 have g:=(aS.1 hi).1;have l:=(aS.1 p).1;have A:=(aS.1 T.gZ).1;have e:((B.set i f).set j bi).Perm B:=by
  have q:=aaA g l
  rwa [show B[j]=f from(aS.1 p).2,show B[i]=bi from(aS.1 hi).2]at q
 have m:∀x,x∈(B.set i f).set j bi->x∈B:=λx r=>e.mem_iff.1 r;refine⟨dn A,by simp[T.len],(e.nodup_iff).2 T.nd,λk D E d c=>?_,λE c=>?_,λr=>T.out (m _ r)⟩
 .have C:D≠o:=λL=>T.out (m _ (by rw[<-L];exact cU d));rw[cr C];rw[kQ]at d c;rw[mX]at d c;by_cases s:j=k
  .subst s;rw[av O,av l]at d;rw[av O,av (by rw[<-T.len];exact l)]at c;injection d with d;injection c with c;subst d;subst c;exact T.row i _ _ hi v
  .rw[aP s]at d c;rw[kQ]at d c;by_cases u:i=k
   .subst u;rw[av O,av g]at d;rw[av O,av (by rw[<-T.len];exact g)]at c;injection d with d;injection c with c;subst d;subst c;exact T.row j _ _ p y
   .rw[aP u]at d c;exact T.row k _ _ d c
 .rcases uB c with q|q
  .rcases uB q with q|q
   .exact T.wid E q
   .rw[q];exact T.wid _ (cU y)
  .rw[q];exact T.wid _ (cU v)
def qw(x):ff aa 23 1 [(0,.v (.int .i64 x))]=J (.list .tight 1 [[.v (.int .i64 x)]]):=am
def wi{H}{k}{n0 sz}{es}{x}(o:F es<1099511627776)(f:sz=1∨(es=[]/\k=.nil))(e:db n0 H k):
 gb aa H #[23,23] (.list k sz (ints es)) (.list .tight 1 [[.v (.int .i64 x)]])=J (.list (.free H.tn) 1 (ints (es++[x])),H.app k):=by
 obtain⟨l,g,c,i,j⟩:=AZ;have m:=ji (M:F es+1<=1099511627776) i;have:=zX (t0:=23) (t1:=23) (n0:=n0) (i:=l) (sz:=sz) (es:=ints es) (new:=ints [x]) (x:=.list .tight 1 (ints [x])) cT (.inl ⟨_,cT⟩) g M (by rw[c];exact j) (by rw[c];rfl) (by simp[ints])
  (by simp only[ints,br,dY,fQ,nX];omega) (by simp only[ints,br,dY,fQ];omega) (f.imp (λd=>d.trans c.symm) λd=>⟨by rw[d.1];rfl,d.2⟩) e
 rw[c]at this;unfold ints at *
 rw[jB];exact this
def Yw{H}{b k x w}{B:List Nat}(d:H.boxes[b]?=J (B.map λb=>U.arr b 0 w w))(c:k<F B):bY aa H 23 (.ptr (.box b) k) (.arr x 0 w w)=J (H.put b ((B.set k x).map λb=>U.arr b 0 w w)):=by rw[fE (xs:=[U.arr x 0 w w]) O gV d O (by rw[br];exact c)];congr 2;unfold dC;rw[List.map_set,xz,av (by rw[br];exact c)];simp
def akm{n}{a b}:∀x∈gQ n a b,okF x:=by intro x c;unfold gQ at c;obtain⟨e,d,rfl⟩:=aak c;rw[List.getElem_zipWith];exact Gd _
def aes{c}{a own}(h:∀x∈a,okF x):∀x∈rn c a own,okF x:=by
 intro x d;unfold rn at d;split at d
 .exact h x d
 .rcases Cm.1 d with q|q
  .exact h x (xy q)
  .exact akm x q
def aq1{c}{a}{n}(h:∀x∈a,okF x):∀x∈gh c a n,okF x:=by
 intro x d;unfold gh at d;rcases Cm.1 d with q|q
 .exact h x (xy q)
 .obtain⟨e,-,rfl⟩:=iV.1 q;exact CZ _ _
def aey{c r j}{own}{t}(h:∀a∈t,∀x∈a,okF x):∀a∈n_ c own r j t,∀x∈a,okF x:=by
 intro a f;obtain⟨i,d⟩:=qo f;rw[sZ]at d;cases g:t[i]? with
 |none=>rw[g]at d;cases d
 |some l=>
  rw[g,fk]at d;injection d with d;have e:=h l (cU g);rw[<-d];split
  .exact aes e
  .exact e
def Ye{c}{a}{n}(d:c<=F a):F (gh c a n)=F a:=by unfold gh;rw[cg,br,cR,List.length_drop];omega
def cJ(pv:List Nat):List Int:=pv.map λ(c:Nat)=>(c:Int)
def oE(t:List (List Int))(c:Nat):List (List Int) × List Nat:=(bZ c).foldl uo (t,[])
def Xx(t)(c):oE t (c+1)=uo (oE t c) c:=by unfold oE;rw[jT,oj];rfl
def Xw{t}{w}(g:∀a∈t,F a=w)(i:∀a∈t,∀x∈a,okF x):∀c,c<=w->sJ w c (oE t c)/\F (oE t c).1=F t/\F (oE t c).2<=F t:=by
 intro c
 induction c with
 |zero=>exactλ_=>⟨⟨g,i,λ_ _ _ _ s o=>by omega⟩,O,bV _⟩|succ c l=>
  intro m;obtain⟨d,e,j⟩:=l M;rw[Xx];refine⟨by rw[YG d M];exact IW d M,?_⟩;unfold uo;cases f:mH (oE t c).1 (F (oE t c).2) c with|none=>exact⟨e,j⟩|some k=>obtain⟨p,q,r⟩:=xZ f;refine⟨by simp[e],?_⟩;simp only[cg,dY,fQ];omega
def M7(pv):F (ints (cJ pv))=F pv:=by unfold ints cJ;simp
def Xv(t)(many):By t many=oE t many:=rfl
def anI(h:Heap)(e:Nat)(B:List Nat)(t:List (List Int))(w many:Nat)(T:iI h e B t w)(hm:many<=w)(A:w<=1000000)(hn:F t<=1000000)(fJ:∀r∈t,∀x∈r,okF x)(ho:c_ h=V):
 ∃r h',W2.call 169 [.arr e 0 (F t) (F t),I (many:Nat)] h=J (r,h')/\∃(k:Tok) (s:Nat) (B':List Nat),r=.ret (.list k s (ints (cJ (By t many).2)))/\(s=1∨(cJ (By t many).2=[]/\k=.nil))/\iI h' e B' (By t many).1 w/\B'.Perm B/\GM (e::B) h.tn h h' k:=by
 have kT:=ae.mk T;have kok:=ae.mk fJ;have kBl:ae (∀b∈B,b<F h.boxes):=⟨λb N=>by obtain⟨u,hi⟩:=qo N;have eC:=(aS.1 hi).1;exact(aS.1 (T.row u b _ hi (aN (by rw[<-T.len];exact eC)))).1⟩;have z3:=Jc;have bx1:∀b n z4:Nat,(U.arr b 0 n z4).bG=J [.arr b 0 n z4]:=λ_ _ _=>rfl;have bx2:∀n:Int,(U.v (.int .i64 n)).bG=J [.v (.int .i64 n)]:=λ_=>rfl;have g0:GM (e::B) h.tn h (h.push [.arr e 0 (F t) (F t)]) .nil:=⟨fj.refl.push _,.inl O,ho⟩;have T0:iI (h.push [.arr e 0 (F t) (F t)]) e B t w:=T.mono λ_ _ q=>aM q;have p0:(h.push [.arr e 0 (F t) (F t)]).boxes[h.boxes.length]?=J [.arr e 0 (F t) (F t)]:=aK _ _;have r0:sJ w 0 (oE t 0):=⟨T.wid,fJ,λ_ _ _ _ _ q=>absurd q (mY _)⟩;have kk:=ae.mk (aj g0 (aj T0 (aj p0 r0)));clear g0 T0 p0 r0 T fJ ho;unfold I at *
 refine bL O Tryz.func169 O ?_;refine bE @qP @a_ ?_;refine bC.gen λR o g' ek dm=>?_;have q2:R.get 2=.ptr (.box (F h.boxes)) 0:=by rw[o];exact gS
 have q4:R.get 4=.list .nil 0 (ints (cJ [])):=by rw[o];exact gR
 have q13:R.get 13=.v (.int .i64 (many:Nat)):=by rw[o];exact gS
 have q14:R.get 14=.v (.int .i64 (0:Nat)):=by rw[o];exact gR
 have qd:R.defers=[]:=by rw[g'];exact gS
 clear o g' ek dm;refine b9 (λz4 z0 y=>∃(g:Nat) (B':List Nat) (k:Tok) (s:Nat),g<=many/\z4=many-g/\iI y e B' (oE t g).1 w/\B'.Perm B/\y.boxes[h.boxes.length]?=J [.arr e 0 (F t) (F t)]/\z0.get 2=.ptr (.box (F h.boxes)) 0/\z0.get 4=.list k s (ints (cJ (oE t g).2))/\(s=1∨(cJ (oE t g).2=[]/\k=.nil))/\z0.get 13=.v (.int .i64 (many:Nat))/\z0.get 14=.v (.int .i64 (g:Nat))/\z0.defers=[]/\GM (e::B) h.tn h y k) ?_ many _ _ ?_;rotate_left 1
 .exact⟨0,B,.nil,0,bV _,O,kk.out.2.1,.refl _,kk.out.2.2.1,q2,q4,.inr ⟨O,O⟩,q13,q14,qd,kk.out.1⟩
 clear kk q2 q4 q13 q14 qd;rintro z4 z0 y ⟨g,B',tk,s,hc,rfl,T',hP,j_,g2,g4,hs,g13,g14,hd,hG⟩;have kT':=ae.mk T';have kP:=ae.mk hP;have ks:=ae.mk hs;have kG:=ae.mk hG;obtain⟨z6,i2,i3⟩:=Xw kT.out.wid kok.out g M;have kR:=ae.mk z6;clear T' hP hG z6;by_cases dj:g<many;rotate_left 1
 .have:g=many:=by omega
  subst this;clear j_ i2 i3 hs;refine bg @qP ?_;refine⟨_,_,O,tk,s,B',?_⟩;rw[Xv];exact⟨O,ks.out,kT'.out,kP.out,kG.out⟩
 have rS:=Xx t g;generalize gP:oE t g=st at *
 obtain⟨t',c⟩:=st;dsimp only at *
 have lH:=M7 c;have u23:=cT;have u203:=Cy;have s0:∀n,bY aa (y.push [.v (.int .i64 0)]) 3 (.ptr (.box (F y.boxes)) 0) (.v (.int .i64 n))=J (y.push [.v (.int .i64 n)]):=λn=>kL O eR O O;have l0:∀n,aD aa Gt (y.push [.v (.int .i64 n)]) 3 (.ptr (.box (F y.boxes)) 0)=J (.v (.int .i64 n)):=λn=>ki (aK _ _);refine bE @qP @a_ ?_;refine bC.gen λR o g' ek dm=>?_;have f2:R.get 2=.ptr (.box (F h.boxes)) 0:=by rw[o];simp only[gW,reduceIte,aJ,aB,g2]
 have f4:R.get 4=.list tk s (ints (cJ c)):=by rw[o];simp only[gW,reduceIte,aJ,aB,g4]
 have f5:R.get 5=.v (.int .i64 (g:Nat)):=by rw[o];simp only[gW,reduceIte,aJ,aB,g14]
 have f6:R.get 6=.ptr (.box (F y.boxes)) 0:=by rw[o];exact gS
 have f7:R.get 7=.v (.int .i64 (F c:Nat)):=by rw[o];exact gS
 have f13:R.get 13=.v (.int .i64 (many:Nat)):=by rw[o];simp only[gW,reduceIte,aJ,aB,g13]
 have f14:R.get 14=.v (.int .i64 (g:Nat)):=by rw[o];simp only[gW,reduceIte,aJ,aB,g14]
 have fd:R.defers=[]:=by rw[g'];simp only[gW,reduceIte,aJ,aB];exact hd
 clear o g' ek dm g2 g4 g13 g14 hd;have T2:iI (y.push [.v (.int .i64 (F c:Nat))]) e B' t' w:=kT'.out.mono λ_ _ q=>aM q;have G2:GM (e::B) h.tn h (y.push [.v (.int .i64 (F c:Nat))]) tk:=kG.out.then λ_=>fj.refl.push _;have b2:(y.push [.v (.int .i64 (F c:Nat))]).boxes[h.boxes.length]?=J [.arr e 0 (F t) (F t)]:=aM j_;have b3:(y.push [.v (.int .i64 (F c:Nat))]).boxes[y.boxes.length]?=J [.v (.int .i64 (F c:Nat))]:=aK _ _;have De:F (y.push [.v (.int .i64 (F c:Nat))]).boxes=F y.boxes+1:=bF _ _;have hhl:F h.boxes<F y.boxes:=(aS.1 j_).1;generalize y.push [.v (.int .i64 (F c:Nat))]=H2 at *
 clear kT' kG s0 l0 j_;have m:=ae.mk T2;have kG2:=ae.mk G2;have kl:=ae.mk De;have l2:=tU b2;have l3:=ki b3;have kb2:=ae.mk b2;have kb3:=ae.mk b3;clear T2 G2 De b2 b3;generalize hHn:F y.boxes=hl at *
 clear hHn;refine b9 (λz4 z0 l=>∃H:Nat,F c<=H/\H<=F t/\z4=F t-H/\ae (∀k,F c<=k->k<H->ag (t'.getD k []) g=0)/\z0.get 2=.ptr (.box (F h.boxes)) 0/\z0.get 4=.list tk s (ints (cJ c))/\z0.get 5=.v (.int .i64 (g:Nat))/\z0.get 6=.ptr (.box hl) 0/\z0.get 7=.v (.int .i64 (H:Nat))/\z0.get 13=.v (.int .i64 (many:Nat))/\z0.get 14=.v (.int .i64 (g:Nat))/\z0.defers=[]/\l=H2) ?_ (F t-F c) _ _ ?_;rotate_left 1
 .exact⟨F c,aV _,i3,O,⟨λk h1 h2=>absurd h1 M⟩,f2,f4,f5,f6,f7,f13,f14,fd,O⟩
 clear f2 f4 f5 f6 f7 f13 f14 fd;rintro z4 e3 H2 ⟨H,Ui,Uj,rfl,kz,g2,g4,g5,g6,g7,g13,g14,hd,rfl⟩;by_cases uT:H<F t;rotate_left 1
 .have pV:H=F t:=by omega
  subst pV;have yq:=F_ (t:=t') (c:=g) Ui M kz.out (λq=>absurd q M);rw[av M]at yq;have gP:oE t (g+1)=(t',c):=by rw[rS];unfold uo;simp only[yq]
  have khst:=ae.mk gP;clear yq gP rS;refine bg @qP ?_;refine⟨many-(g+1),by omega,g+1,B',tk,s,by omega,O,?_⟩;rw[khst.out];exact⟨m.out,kP.out,kb2.out,aX,O,ks.out,aX,by simp,aX,kG2.out⟩
 obtain⟨b,N⟩:∃b,t'[H]?=J b:=⟨_,aN M⟩;obtain⟨d,C⟩:∃b,B'[H]?=J b:=⟨_,aN (by rw[m.out.len];omega)⟩;have wb:=m.out.wid b (cU N);have D:=m.out.row H d b C N;have ixj:=A4 (b:=e) (len:=t.length) (aR:=t.length) (k:=.i64) uT;have ixc:=nN (b:=d) (len:=w) (aR:=w) (k:=.i64) (M:g<w);have LO:(B'.map λb=>U.arr b 0 w w)[H]?=J (.arr d 0 w w):=by rw[dW,C];rfl
 have m1:=p9 m.out.gZ LO;have m2:=vg D (tY (k:=g) M);have gDj:t'.getD H []=b:=by rw[eG,N];rfl
 have khr:=ae.mk D;clear D;by_cases E:ag b g=0
 .have oz:∀k,F c<=k->k<H+1->ag (t'.getD k []) g=0:=by
   intro k h1 h2;rcases dp k H with q|q
   .exact kz.out k h1 q
   .rw[(M:k=H),gDj];exact E
  have kz2:=ae.mk oz;rw[E]at m2;clear oz kz gDj E LO rS;unfold I at *
  refine bg @qP ?_;exact⟨F t-(H+1),by omega,H+1,by omega,by omega,O,kz2,aX,aX,aX,aX,by simp,aX,aX,aX,aX⟩
 have yq:=F_ (t:=t') (c:=g) Ui M kz.out (λ_=>by rw[gDj];exact E);rw[aP M]at yq;obtain⟨z5,ho⟩:∃b,t'[c.length]?=J b:=⟨_,aN M⟩;obtain⟨bo,wN⟩:∃b,B'[c.length]?=J b:=⟨_,aN (by rw[m.out.len];omega)⟩;have tJ:=ar7 yq N ho;rw[<-rS]at tJ;have kgo:=ae.mk tJ;have kne:=ae.mk E;have okb:=kR.out.ok b (cU N);have nz:=vp (nZ okb g);have ixr:=A4 (b:=e) (len:=t.length) (aR:=t.length) (k:=.i64) (M:F c<F t);have TY:(B'.map λb=>U.arr b 0 w w)[c.length]?=J (.arr bo 0 w w):=by rw[dW,wN];rfl
 have m3:=p9 m.out.gZ TY;have T3:=iI.swap m.out wN C ho N;have nb1:d<F h.boxes:=kBl.out d (kP.out.mem_iff.1 (cU C));have nb2:e≠d:=λz0=>m.out.out (by rw[z0];exact cU C);have ave:=(aS.1 kT.out.gZ).1;have Us:F h.boxes≠e:=by omega
 have ail:hl≠e:=by omega
 have s1:=Yw (w:=w) (x:=d) (k:=c.length) m.out.gZ (by rw[m.out.len];omega);have jk:(H2.put e ((B'.set (F c) d).map λb=>U.arr b 0 w w)).boxes[e]?=J ((B'.set (F c) d).map λb=>U.arr b 0 w w):=dn (aS.1 m.out.gZ).1;have s2:=Yw (w:=w) (x:=bo) (k:=H) jk (by rw[mX,m.out.len];omega);rw[HZ]at s2;have l2b:aD aa Gt (H2.put e ((B'.set (F c) d).map λb=>U.arr b 0 w w)) 207 (.ptr (.box (F h.boxes)) 0)=J (.arr e 0 (F t) (F t)):=tU ((cr Us).trans kb2.out);have G3:GM (e::B) h.tn h (H2.put e (((B'.set (F c) d).set H bo).map λb=>U.arr b 0 w w)) tk:=kG2.out.then λ_=>.put (gx) _;have b2:(H2.put e (((B'.set (F c) d).set H bo).map λb=>U.arr b 0 w w)).boxes[h.boxes.length]?=J [.arr e 0 (F t) (F t)]:=(cr Us).trans kb2.out;have b3:(H2.put e (((B'.set (F c) d).set H bo).map λb=>U.arr b 0 w w)).boxes[hl]?=J [.v (.int .i64 (F c:Nat))]:=(cr ail).trans kb3.out;have Ln:F (H2.put e (((B'.set (F c) d).set H bo).map λb=>U.arr b 0 w w)).boxes=F H2.boxes:=jd _ _ _;have Gw:((B'.set (F c) d).set H bo).Perm B:=by have q:=aaA (aS.1 wN).1 (aS.1 C).1;rw[show B'[H]'(aS.1 C).1=d from(aS.1 C).2,show B'[c.length]'(aS.1 wN).1=bo from(aS.1 wN).2]at q;exact q.trans kP.out
 have L:((B'.set (F c) d).set H bo)[c.length]?=J d:=by
  rw[kQ];by_cases q:H=F c
  .rw[av q,av (by rw[mX,m.out.len];omega)];rw[q,wN]at C;exact C
  .rw[aP q,P6 (aS.1 wN).1]
 have yF:((t'.set (F c) b).set H z5)[c.length]?=J b:=by
  rw[kQ];by_cases q:H=F c
  .rw[av q,av (by rw[mX];omega)];rw[q,ho]at N;exact N
  .rw[aP q,P6 M]
 have UU:F ((t'.set (F c) b).set H z5)=F t:=by rw[mX,mX];exact i2
 have Uv:∀a∈(t'.set (F c) b).set H z5,∀x∈a,okF x:=by
  intro a ha;rcases uB ha with q|q
  .rcases uB q with q|q
   .exact kR.out.ok a q
   .rw[q];exact okb
  .rw[q];exact kR.out.ok z5 (cU ho)
 have kok3:=ae.mk (aj Uv (aj okb UU));clear Uv UU;generalize (t'.set (F c) b).set H z5=t3 at *
 generalize (B'.set (F c) d).set H bo=B3 at *
 obtain⟨l,wK⟩:∃l,H2.put e (B3.map λb=>U.arr b 0 w w)=l:=⟨_,O⟩;rw[wK]at s2 T3 G3 b2 b3 Ln;have kP3:=ae.mk Gw;clear wK jk Gw tJ yq kz gDj N ho rS gP;have l23:=tU b2;have l33:=ki b3;have pT:(B3.map λb=>U.arr b 0 w w)[c.length]?=J (.arr d 0 w w):=by rw[dW,L];rfl
 have m13:=p9 T3.gZ pT;have MB:=T3.row (F c) d b L yF;have m23:=vg MB (tY (k:=g) M);have wP:fmod (ag b g)=ag b g:=Av (nZ okb g);have ci:=λh=>ajk (ag b g) h;rw[wP]at ci;simp only[aP E]at ci;have kokz:ae (0<=ea (ag b g)/\ea (ag b g)<=9223372036854775807):=⟨vp (KZ _)⟩;have auC:e<F l.boxes:=(aS.1 T3.gZ).1;have auG:d<F l.boxes:=(aS.1 MB).1;have hh3:F h.boxes<F l.boxes:=(aS.1 b2).1;have auR:hl<F l.boxes:=(aS.1 b3).1;generalize hz:ag b g=z at *
 have kfz:ae (okF (ea z)):=⟨KZ _⟩;generalize hf:ea z=i at *
 have s5:bY aa (l.push [.v (.int .i64 0)]) 3 (.ptr (.box (F l.boxes)) 0) (.v (.int .i64 i))=J (l.push [.v (.int .i64 i)]):=kL O eR O O;have T4:iI (l.push [.v (.int .i64 i)]) e B3 t3 w:=T3.mono λ_ _ q=>aM q;have G4:GM (e::B) h.tn h (l.push [.v (.int .i64 i)]) tk:=G3.then λ_=>fj.refl.push _;have b24:(l.push [.v (.int .i64 i)]).boxes[h.boxes.length]?=J [.arr e 0 (F t) (F t)]:=aM b2;have b34:(l.push [.v (.int .i64 i)]).boxes[hl]?=J [.v (.int .i64 (F c:Nat))]:=aM b3;have b44:(l.push [.v (.int .i64 i)]).boxes[l.boxes.length]?=J [.v (.int .i64 i)]:=aK _ _;have C':F (l.push [.v (.int .i64 i)]).boxes=F l.boxes+1:=bF _ _;have kH3:=ae.mk Ln;obtain⟨p,yc⟩:∃p,l.push [.v (.int .i64 i)]=p:=⟨_,O⟩;rw[yc]at s5 T4 G4 b24 b34 b44 C';have l24:=tU b24;have l34:=ki b34;have m14:=p9 T4.gZ pT;have Y:=QQ d w g p;have kT4:=ae.mk T4;have kG4:=ae.mk G4;have kb4:=ae.mk (aj b24 (aj b34 (aj b44 (aj C' (aj L yF)))));unfold I at Y m2 m23 ci;clear yc T4 G4 b24 b34 b44 C' T3 G3 b2 b3 Ln MB pT L yF wP LO TY wN C;refine bg @qP ?_;refine iC [(2,13)] wk am (λz7 hp=>?_) ?_
 .simp only[hY]at hp;subst hp;refine kJ (x:=.ptr (.box (F h.boxes)) 0) (v:=.arr e 0 (F t) (F t)) am O O O am (by simp[cH,gH]) ?_ ?_<;>(simp only[dw,cX];exact dV @qP @and_self)
 refine bg @qP ?_;refine bC.gen λe4 X rx yA yE=>?_;have f2:e4.get 2=.ptr (.box (F h.boxes)) 0:=by rw[X];simp only[gW,reduceIte,aJ,aB];exact g2
 have f4:e4.get 4=.list tk s (ints (cJ c)):=by rw[X];simp only[gW,reduceIte,aJ,aB];exact g4
 have f5:e4.get 5=.v (.int .i64 (g:Nat)):=by rw[X];simp only[gW,reduceIte,aJ,aB];exact g5
 have f6:e4.get 6=.ptr (.box hl) 0:=by rw[X];simp only[gW,reduceIte,aJ,aB];exact g6
 have f8:e4.get 8=.ptr (.box (F l.boxes)) 0:=by rw[X];exact gS
 have f13:e4.get 13=.v (.int .i64 (many:Nat)):=by rw[X];simp only[gW,reduceIte,aJ,aB];exact g13
 have f14:e4.get 14=.v (.int .i64 (g:Nat)):=by rw[X];simp only[gW,reduceIte,aJ,aB];exact g14
 have f70:e4.get 70=.func (.func 249) [] [.ptr (.box (F p.boxes+1)) 0,.ptr (.box (F p.boxes)) 0]:=by rw[X];exact gS
 have fd:e4.defers=[]:=by rw[rx];simp only[gW,reduceIte,aJ,aB];exact hd
 clear X rx yA yE g2 g4 g5 g6 g7 g13 g14 hd;refine EL (by rw[Aq];exact f70) λrec w1 w2 w3 w4 w5 w6=>?_;obtain⟨b24,b34,b44,C',L,yF⟩:=kb4.out;have T5:iI ((p.push [.arr d 0 w w]).push [.v (.int .i64 (g:Nat))]) e B3 t3 w:=kT4.out.mono λ_ _ q=>aM (aM q);have G5:GM (e::B) h.tn h ((p.push [.arr d 0 w w]).push [.v (.int .i64 (g:Nat))]) tk:=kG4.out.then λ_=>(fj.refl.push _).push _;have b25:((p.push [.arr d 0 w w]).push [.v (.int .i64 (g:Nat))]).boxes[h.boxes.length]?=J [.arr e 0 (F t) (F t)]:=aM (aM b24);have b35:((p.push [.arr d 0 w w]).push [.v (.int .i64 (g:Nat))]).boxes[hl]?=J [.v (.int .i64 (F c:Nat))]:=aM (aM b34);have b45:((p.push [.arr d 0 w w]).push [.v (.int .i64 (g:Nat))]).boxes[l.boxes.length]?=J [.v (.int .i64 i)]:=aM (aM b44);have b55:((p.push [.arr d 0 w w]).push [.v (.int .i64 (g:Nat))]).boxes[p.boxes.length]?=J [.arr d 0 w w]:=aM (aK _ _);have b65:((p.push [.arr d 0 w w]).push [.v (.int .i64 (g:Nat))]).boxes[F p.boxes+1]?=J [.v (.int .i64 (g:Nat))]:=mJ (by rw[bF]);have ahx:F ((p.push [.arr d 0 w w]).push [.v (.int .i64 (g:Nat))]).boxes=F p.boxes+2:=by rw[bF,bF]
 generalize (p.push [.arr d 0 w w]).push [.v (.int .i64 (g:Nat))]=j at *
 clear l2 l3 l23 l33 m1 m2 m3 m13 m23 ci s1 s2 l2b s5 l24 l34 m14 Y kb4 kT4 kG4 kb2 kb3 m kG2 khr;have D:=T5.row (F c) d b L yF;have pg:=(aS.1 D).1;have nb:(j.loop rec).loops[j.loops.length]?=J rec:=@D' j rec;have I1:∀(k:Nat) (y:Heap),y=(j.loop rec).put d ((iZ (λu=>cS (ag b u) i) b g k).map I)->y.boxes[F p.boxes+1]?=J [I (g:Nat)]/\y.boxes[p.boxes.length]?=J [.arr d 0 w w]/\(k<w->∃cs,y.boxes[d]?=J cs/\cs[k]?=J (I (ag b k))):=by
  rintro k y rfl;refine⟨?_,?_,λhk=>⟨_,dn pg,?_⟩⟩
  .rw[cr M];exact b65
  .rw[cr M];exact b55
  .have:=tY (r:=iZ (λu=>cS (ag b u) i) b g k) (k:=k) (by rw[oV];omega);rw[Ai M,aP M]at this;exact this
 have I2:∀(k:Nat) (y:Heap),g<=k->k<w->y=(j.loop rec).put d ((iZ (λu=>cS (ag b u) i) b g k).map I)->∃H',W2.round (F j.loops) [I (k:Nat),I (ag b k)] y=J (.ret (.v (.bool V)),H')/\H'=(j.loop rec).put d ((iZ (λu=>cS (ag b u) i) b g (k+1)).map I):=by
  rintro k y wR ys rfl;refine Oj (Post:=λy=>y=(j.loop rec).put d ((iZ (λu=>cS (ag b u) i) b g (k+1)).map I)) nb (by rw[w2];rfl) w5 w6 ?_;have kq:=Sg (f:=λu=>cS (ag b u) i) wR (M:k<F b);have r1:∀t,(nq (F j.loops) rec [I (k:Nat),I (ag b k)]).get t=if 72=t then I (ag b k) else if 71=t then I (k:Nat) else e4.get t:=λt=>Il w2 w1
  have d1:(nq (F j.loops) rec [I (k:Nat),I (ag b k)]).defers=[]:=rfl;obtain⟨K,hK⟩:∃K,((j.loop rec).put d ((iZ (λu=>cS (ag b u) i) b g k).map I)).busy (F j.loops) rec=K:=⟨_,O⟩;rw[hK];have c1:K.boxes[d]?=J ((iZ (λu=>cS (ag b u) i) b g k).map I):=by rw[<-hK];exact dn pg
  have c2:K.boxes[h.boxes.length]?=J [.arr e 0 (F t) (F t)]:=by rw[<-hK];exact(cr M).trans b25
  have c3:K.boxes[hl]?=J [.v (.int .i64 (F c:Nat))]:=by rw[<-hK];exact(cr M).trans b35
  have c4:K.boxes[l.boxes.length]?=J [I i]:=by rw[<-hK];exact(cr M).trans b45
  have c5:K.boxes[e]?=J (B3.map λb=>U.arr b 0 w w):=by rw[<-hK];exact(cr nb2).trans T5.gZ
  have pT:(B3.map λb=>U.arr b 0 w w)[c.length]?=J (.arr d 0 w w):=by rw[dW,L];rfl
  have m2:=tU c2;have m3:=ki c3;have m4:=ki c4;have m5:=p9 c5 pT;have DZ:=nN (b:=d) (len:=w) (aR:=w) (k:=.i64) ys;have sk:=um (r:=iZ (λu=>cS (ag b u) i) b g k) (k:=k) (x:=cS (ag b k) i) c1 (by rw[oV];omega);rw[kq]at sk;have vo:=vp (nZ okb k);have f1:=λh=>NB (ag b k) i h;clear D b25 b35 b45 b55 b65 T5 G5 c1 c2 c3 c4 c5 kq pT I1 okb f70 ixj ixc;generalize cS (ag b k) i=z1 at *
  generalize ag b k=z2 at *
  unfold I at *
  rw[w3,w4];refine wI ?_;refine⟨aX,aX,?_⟩;refine bC.gen λe2 pU jk rB AQ=>?_;have q2:e2.get 2=.ptr (.box (F h.boxes)) 0:=by rw[pU];simp only[gW,reduceIte,aJ,aB,r1];exact f2
  have q6:e2.get 6=.ptr (.box hl) 0:=by rw[pU];simp only[gW,reduceIte,aJ,aB,r1];exact f6
  have q8:e2.get 8=.ptr (.box (F l.boxes)) 0:=by rw[pU];simp only[gW,reduceIte,aJ,aB,r1];exact f8
  have q10:e2.get 10=.v (.int .i64 k):=by rw[pU];simp only[gW,reduceIte,aJ,aB,r1]
  have q11:e2.get 11=.v (.int .i64 z2):=by rw[pU];simp only[gW,reduceIte,aJ,aB,r1]
  clear pU jk rB AQ r1 d1
  repeat' (first|simp(maxSteps:=9999999) (disch:=first|exact dZ|fail) only[gW,reduceIte,aJ,aB, *]|(refine dX ?_ ?_<;>(intro _;try omega))|refine du wk am ?_)
  rw[<-hK];simp only[Heap.put,Heap.busy,Heap.loop,List.set_set];exact⟨aX,aX,aX⟩
 obtain⟨h',c1,c2⟩:=QR (F j.loops) (F p.boxes+1) (F p.boxes) d w g b (λk y=>y=(j.loop rec).put d ((iZ (λu=>cS (ag b u) i) b g k).map I)) I1 I2 M A ((j.loop rec).put d ((iZ (λu=>cS (ag b u) i) b g g).map I)) O;have e3:j.loop rec=(j.loop rec).put d ((iZ (λu=>cS (ag b u) i) b g g).map I):=by rw[Sh];exact(kC (h:=j.loop rec) D).symm
 rw[<-e3]at c1;have e4':iZ (λu=>cS (ag b u) i) b g w=gh g b i:=by rw[<-wb];exact ae8 M
 rw[e4']at c2;subst c2;clear e3 I1 I2 e4';refine⟨_,_,c1,rec,nb,by rw[w5];decide,.inl ⟨w6,?_⟩⟩;clear c1;have Ay:F h.loops<=F j.loops:=by
  have:=G5.mu.loop;rcases dp (F j.loops) (F h.loops) with q|q
  .have:=(aS.1 (this _ _ (aN q))).1;omega
  .exact q
 have okt:=kok3.out;have Dm:d∈B:=kP3.out.mem_iff.1 (cU L);have T6:iI (((j.loop rec).put d ((gh g b i).map I)).eY (F j.loops) {rec with state:=.exhausted}) e B3 (t3.set (F c) (gh g b i)) w:=by have q:=iI.set (H:=j.loop rec) (T5.mono λ_ _ q=>q) L (r:=gh g b i) (by rw[Ye M];exact wb);exact q.mono λ_ _ q=>q
 have G6:GM (e::B) h.tn h (((j.loop rec).put d ((gh g b i).map I)).eY (F j.loops) {rec with state:=.exhausted}) tk:=⟨((G5.mu.Ba rec).trans (.put (gj _ Dm) _)).eY Ay _,G5.can,G5.ok⟩;have b26:(((j.loop rec).put d ((gh g b i).map I)).eY (F j.loops) {rec with state:=.exhausted}).boxes[h.boxes.length]?=J [.arr e 0 (F t) (F t)]:=(cr M).trans b25;have b36:(((j.loop rec).put d ((gh g b i).map I)).eY (F j.loops) {rec with state:=.exhausted}).boxes[hl]?=J [.v (.int .i64 (F c:Nat))]:=(cr M).trans b35;have UE:(t3.set (F c) (gh g b i))[c.length]?=J (gh g b i):=P6 (aS.1 yF).1;have ok4:∀a∈t3.set (F c) (gh g b i),∀x∈a,okF x:=by
  intro a ha;rcases uB ha with q|q
  .exact okt.1 a q
  .rw[q];exact aq1 okb
 have Dz:F (t3.set (F c) (gh g b i))=F t:=by rw[mX];exact okt.2.2
 have tJ:=kgo.out;rw[i2]at tJ;have T7:iI (((j.loop rec).put d ((gh g b i).map I)).eY (F j.loops) {rec with state:=.exhausted}) e B3 (n_ g (gh g b i) (F c) 0 (t3.set (F c) (gh g b i))) w:=by rw[aeD];exact T6
 have hso:F (gh g b i)=w:=by rw[Ye M];exact wb
 generalize (((j.loop rec).put d ((gh g b i).map I)).eY (F j.loops) {rec with state:=.exhausted})=H6 at *
 clear T6 nb D b25 b35 b45 b55 b65 T5 G5 ahx pg w1 w2 w3 w4 w5 w6 Ay L yF okt f70 f8 C' ixj ixr ixc;have l26:=tU b26;have l36:=ki b36;generalize gh g b i=own at *
 generalize t3.set (F c) own=t4 at *
 have k7:=ae.mk (aj T7 (aj G6 (aj b26 b36)));have kok4:=ae.mk (aj ok4 (aj UE (aj Dz tJ)));clear T7 G6 b26 b36 ok4 UE tJ okb kok3 Dz;refine bg @qP ?_;refine bC.gen λe5 Z Dp Mu DJ=>?_;have r2:e5.get 2=.ptr (.box (F h.boxes)) 0:=by rw[Z];simp only[gW,reduceIte,aJ,aB];exact f2
 have r4:e5.get 4=.list tk s (ints (cJ c)):=by rw[Z];simp only[gW,reduceIte,aJ,aB];exact f4
 have r5:e5.get 5=.v (.int .i64 (g:Nat)):=by rw[Z];simp only[gW,reduceIte,aJ,aB];exact f5
 have r6:e5.get 6=.ptr (.box hl) 0:=by rw[Z];simp only[gW,reduceIte,aJ,aB];exact f6
 have r13:e5.get 13=.v (.int .i64 (many:Nat)):=by rw[Z];simp only[gW,reduceIte,aJ,aB];exact f13
 have r14:e5.get 14=.v (.int .i64 (g:Nat)):=by rw[Z];simp only[gW,reduceIte,aJ,aB];exact f14
 have r83:e5.get 83=.v (.int .i64 (F t:Nat)):=by rw[Z];exact gS
 have r84:e5.get 84=.v (.int .i64 (0:Nat)):=by rw[Z];exact gR
 have rd:e5.defers=[]:=by rw[Dp];simp only[gW,reduceIte,aJ,aB];exact fd
 clear Z Dp Mu DJ f2 f4 f5 f6 f13 f14 fd l26 l36;refine b9 (λz4 z0 y=>∃u:Nat,u<=F t/\z4=F t-u/\ae (iI y e B3 (n_ g own (F c) u t4) w)/\ae (GM (e::B) h.tn h y tk)/\ae (y.boxes[h.boxes.length]?=J [.arr e 0 (F t) (F t)])/\ae (y.boxes[hl]?=J [.v (.int .i64 (F c:Nat))])/\z0.get 2=.ptr (.box (F h.boxes)) 0/\z0.get 4=.list tk s (ints (cJ c))/\z0.get 5=.v (.int .i64 (g:Nat))/\z0.get 6=.ptr (.box hl) 0/\z0.get 13=.v (.int .i64 (many:Nat))/\z0.get 14=.v (.int .i64 (g:Nat))/\z0.get 83=.v (.int .i64 (F t:Nat))/\z0.get 84=.v (.int .i64 (u:Nat))/\z0.defers=[]) ?_ (F t) _ _ ?_;rotate_left 1
 .exact⟨0,bV _,O,⟨k7.out.1⟩,⟨k7.out.2.1⟩,⟨k7.out.2.2.1⟩,⟨k7.out.2.2.2⟩,r2,r4,r5,r6,r13,r14,r83,r84,rd⟩
 clear r2 r4 r5 r6 r13 r14 r83 r84 rd k7;rintro z4 e6 K ⟨u,hi,rfl,kT7,kG7,kb7,kc7,g2,g4,g5,g6,g13,g14,g83,g84,hd⟩;have l27:=tU kb7.out;have l37:=ki kc7.out;by_cases hit:u<F t;rotate_left 1
 .have gf:u=F t:=by omega
  subst gf;have bl:=qw (g:Int);have ap:=wi (x:=(g:Int)) (show(F (cJ c))<1099511627776 by unfold cJ;rw[br];omega) hs kG7.out.can;refine bg @qP ?_;refine⟨many-(g+1),by omega,g+1,B3,.free K.tn,1,by omega,O,?_⟩;rw[kok4.out.2.2.2];have Dz:=kok4.out.2.2.1;rw[<-Dz]at kT7;have ee:cJ (c++[g])=cJ c++[(g:Int)]:=by unfold cJ;simp
  dsimp only;rw[ee];exact⟨by rw[<-Dz];exact kT7.out.mono λ_ _ q=>by rw[dP];exact q,kP3.out,by rw[dP];exact kb7.out,aX,O,.inl O,aX,by simp,aX,kG7.out.app (aV _)⟩
 have Tn:F B3=F t:=by rw[kT7.out.len,RZ];exact kok4.out.2.2.1
 by_cases L_:u=F c
 .subst L_;have T8:=kT7.out;rw[<-aeB]at T8;have kT8:=ae.mk T8;clear T8;refine bg @qP ?_;exact⟨F t-(F c+1),by omega,F c+1,by omega,O,kT8,aX,aX,aX,aX,aX,aX,aX,aX,aX,aX,by simp,aX⟩
 .obtain⟨a,ha⟩:∃a,t4[u]?=J a:=⟨_,aN (by rw[kok4.out.2.2.1];exact hit)⟩;obtain⟨K2,c1,c2,c3⟩:=aet K e B3 (n_ g own (F c) u t4) w u (F c) g a own kT7.out (aeA.trans ha) (aez.trans kok4.out.2.1) L_ M A (aey kok4.out.1);rw[aeC ha L_]at c2;rw[Tn]at c1;have cM:∀n0,fj (e::B) n0 K K2:=λn0=>(c3 n0).mono λb N=>gj _ (kP3.out.mem_iff.1 N);have Dm:∀b∈B3,b<F h.boxes:=λb N=>kBl.out b (kP3.out.mem_iff.1 N);have kb8:=ae.mk ((c3 0).box _ _ (λq=>absurd (Dm _ q) M) kb7.out);have kc8:=ae.mk ((c3 0).box _ _ (λq=>absurd (Dm _ q) M) kc7.out);have kG8:=ae.mk (kG7.out.then cM);have kT8:=ae.mk c2;have auS:¬((u:Int)=(F c:Int)):=by omega
  clear c2 c3 cM Dm ha Tn kT7 kG7 kb7 kc7;unfold I at c1;refine bg @qP ?_;exact⟨F t-(u+1),by omega,u+1,by omega,O,kT8,aX,aX,aX,aX,aX,aX,aX,aX,aX,aX,by simp,aX⟩
def IL(x:U)(l:List Int):Prop:=∃k c,x=.list k c (ints l)/\(l≠[]->c=1)
def RL(x:U)(rows:List (List Int)):Prop:=∃(k:Tok) (f:Nat) (c:List U),x=.list k f (c.map λa=>[a])/\(rows≠[]->f=1)/\F c=F rows/\∀(d:Nat) (a:U) (e:List Int),c[d]?=J a->rows[d]?=J e->IL a e
def aiQ{l}{i}(h:i<F l):(ints l)[i]?=J [.v (.int .i64 (ag l i))]:=by unfold ints tT;rw[dW,aN h,fS h];rfl
def eJ{H}{l}{i s}(h:i<F l):aD aa Gt H 3 (.elem s (ints l) i 0)=J (.v (.int .i64 (ag l i))):=by rw[oA dS (aiQ h)];rfl
def iN{H}{xs:List U}{i s}{x}(h:xs[i]?=J x):aD aa Gt H 23 (.elem s (xs.map λa=>[a]) i 0)=J x:=by rw[oA mE (row:=[x]) (by rw[dW,h];rfl)];rfl
def BD:Tryz.f168.results.toList=[.tmp 4]:=am
def apV:Tryz.f220.results.toList=[]:=am
def tI(w:Nat)(B:List Nat):List U:=B.map λb=>U.arr b 0 w w
def Jt(H:Heap)(B:List Nat)(e d:Nat)(c:U)(l:List Int):Prop:=(l=[]/\c=.list .nil 0 [])∨(l≠[]/\∃b,c=.arr b 0 (F l) (F l)/\H.boxes[b]?=J (l.map I)/\b∉B/\b≠e/\d<=b)
def as6{f H}{B}{j}{m}{l}(d:Jt H B j (F f.boxes) m l)(p:Ext f H)(R:F f.boxes<=j)(x)(T:F l<1000000)(s:∀b∈B,b<F H.boxes)(N:j<F H.boxes):
 ∃e,lU aa H #[23,23] m (.list .tight 1 [[.v (.int .i64 x)]])=J (.arr (F H.boxes) 0 (F l+1) (F l+1),e)/\Jt e B j (F f.boxes) (.arr (F H.boxes) 0 (F l+1) (F l+1)) (l++[x])/\Ext f e/\e.loops=H.loops/\F e.boxes=F H.boxes+1/\∀c cs,(c∈B∨c=j)->H.boxes[c]?=J cs->e.boxes[c]?=J cs:=by
 obtain⟨X,v,i,D,y⟩:=AZ;have E:=ji (M:F l+1<=1000000) D;have g:=p.len;rcases d with⟨rfl,rfl⟩|⟨u,b,rfl,r,h2,A,C⟩
 .have:=zu (h:=H) (k:=.nil) (sz:=0) (es:=[]) (new:=[[.v (.int .i64 x)]]) (x:=.list .tight 1 [[.v (.int .i64 x)]]) cT cT v M (by rw[i];exact y) b7 (by simp;omega) b7 (.inr O) (.inl O) (by rw[i];rfl);refine⟨_,this,.inr ⟨b7,H.boxes.length,O,aK _ _,λq=>absurd (s _ q) (Qd _),by omega,g⟩,p.trans (.push _ _),O,bF _ _,λc cs _ q=>aM q⟩
 .have L:=(aS.1 r).1;have o:0<F l:=List.length_pos_iff.2 u;have:=I5 (h:=H) (b:=b) (len:=l.length) (cs:=l.map I) (new:=[[.v (.int .i64 x)]]) (x:=.list .tight 1 [[.v (.int .i64 x)]]) cT cT v M (by rw[i];exact y) b7 (by simp;omega) (by simp;omega) r o (by rw[i,br];omega) (by rw[i];rfl);refine⟨_,this,.inr ⟨b7,H.boxes.length,by simp,?_,λq=>absurd (s _ q) (Qd _),by omega,g⟩,(p.fy C _).trans (.push _ _),O,by rw[bF,jd],λc cs d q=>aM ((cr ?_).trans q)⟩
  .rw[jB];exact mJ (by rw[jd])
  .rcases d with d|d
   .rintro rfl;exact h2 d
   .rintro rfl;exact A d
structure ux(H:Heap)(tb base w m:Nat)(B:List Nat)(t:List (List Int))(cur:U)(l:List Int):Prop where
 gZ:H.boxes[tb]?=J (tI w B++cur::bB (m - B.length - 1) (.list .nil 0 []))
 lt:B.length<m
 len:B.length=t.length
 nd:B.Nodup
 row:∀(i b:Nat) (r:List Int),B[i]?=J b->t[i]?=J r->H.boxes[b]?=J (r.map I)
 wid:∀r∈t,r.length=w
 out:tb∉B
 low:∀b∈B,base<=b
 cur:Jt H B tb base cur l
def V0{P}{h}{t elem}{i}{zero}{n}{k N}(e:P.underlying t=J (.slice elem))(hi:P.info? elem=J i)(f:(fM P elem).bind U.bG=J zero)(c:F zero=i.size)(h2:0<i.size)(g:i.bytes*n<=281474976710656)(j:n<9223372036854775808):
 vj P h t (.v (.int k (n:Nat))) (.v (.int N (n:Nat)))=J (.arr (F h.boxes) 0 n n,h.push (bB n zero).flatten):=by
 unfold vj;have d:(i.bytes:Int)*(n:Nat)<=281474976710656:=by rw[<-Int.natCast_mul];omega
 simp only[e,hi,f];rw[av ⟨M,Cd _,by omega,d,h2,c⟩];simp[Heap.push]
def Hj:∃i,aa.info? 23=J i/\i.size=1/\i.bytes<=24/\(i.zero.map λz=>z.cells.size)=J 1:=by
 have h:(match aa.info? 23 with|some i=>gX i.size 1&&JR i.bytes 24&&decide ((i.zero.map λz=>z.cells.size)=J 1)|none=>ai)=V:=am;cases c:aa.info? 23 with
 |none=>rw[c]at h;cases h
 |some i=>rw[c]at h;simp only[bm,decide_eq_true_eq]at h;exact⟨i,O,kU h.1.1,jq h.1.2,h.2⟩
def ak1(h)(n)(c:n<=1000000)(k N):vj aa h 207 (.v (.int k (n:Nat))) (.v (.int N (n:Nat)))=J (.arr (F h.boxes) 0 n n,h.push (bB n (.list .nil 0 []))):=by obtain⟨j,d,e,f,i⟩:=Hj;have g:=ji f c;have:=V0 (h:=h) (n:=n) (k:=k) (N:=N) (zero:=[.list .nil 0 []]) Cy d am (by rw[e];rfl) M M M;rw[this];simp
def vk(h)(n)(c:n<=1000000)(k N):vj aa h 23 (.v (.int k (n:Nat))) (.v (.int N (n:Nat)))=J (.arr (F h.boxes) 0 n n,h.push (bB n (I 0))):=by obtain⟨j,d,e,f,i⟩:=AZ;have g:=ji f c;have:=V0 (h:=h) (n:=n) (k:=k) (N:=N) (zero:=[I 0]) cT d Jc (by rw[e];rfl) M M M;rw[this];simp
structure Mid(H:Heap)(tb base w m:Nat)(B:List Nat)(t:List (List Int)):Prop where
 gZ:H.boxes[tb]?=J (tI w B++bB (m - B.length) (.list .nil 0 []))
 len:B.length=t.length
 nd:B.Nodup
 row:∀(i b:Nat) (r:List Int),B[i]?=J b->t[i]?=J r->H.boxes[b]?=J (r.map I)
 wid:∀r∈t,r.length=w
 out:tb∉B
 low:∀b∈B,base<=b
def Mid.half{H}{e c w m}{B}{t}(d:Mid H e c w m B t)(f:F B<m):ux H e c w m B t (.list .nil 0 []) []:=by refine⟨?_,f,d.len,d.nd,d.row,d.wid,d.out,d.low,.inl ⟨O,O⟩⟩;rw[d.gZ,(M:m-F B=m-F B-1+1),Co];rfl
def Mid.tab{H}{e c w m}{B}{t}(d:Mid H e c w m B t)(f:F B=m):iI H e B t w:=by refine⟨?_,d.len,d.nd,d.row,d.wid,d.out⟩;rw[d.gZ,f,qs,aav,ga];rfl
def Ds(w)(B):F (tI w B)=F B:=by unfold tI;simp
def ahY(w)(B)(c)(r):(tI w B++c::r)[B.length]?=J c:=by rw[List.getElem?_append_right (by rw[Ds];exact aV _),Ds,qs];rfl
def ahZ(w)(B)(c d)(r):(tI w B++c::r).set (F B) d=tI w B++d::r:=by rw[List.set_append_right _ _ (by rw[Ds];exact aV _),Ds,qs];rfl
def ar6{H}{b k x n}{cs}(d:H.boxes[b]?=J cs)(c:k<F cs):bY aa H 23 (.ptr (.box b) k) (.arr x 0 n n)=J (H.put b (cs.set k (.arr x 0 n n))):=by rw[fE (xs:=[U.arr x 0 n n]) O gV d O c];congr 2;unfold dC;rw[xz,av c];simp
def ux.lts{H}{i c w m}{B}{t}{d}{l}(j:ux H i c w m B t d l):∀b∈B,b<F H.boxes:=by intro b g;obtain⟨o,e⟩:=qo g;have f:=(aS.1 e).1;exact(aS.1 (j.row o b _ e (aN (by rw[<-j.len];exact f)))).1
def ux.more{e H}{f w m}{B}{t}{j}{l}(d:ux H f (F e.boxes) w m B t j l)(R:Ext e H)(q:F e.boxes<=f)(x)(L:F l<1000000):
 ∃g i c,lU aa H #[23,23] j (.list .tight 1 [[.v (.int .i64 x)]])=J (c,g)/\bY aa g 23 (.ptr (.box f) (F B)) c=J i/\ux i f (F e.boxes) w m B t c (l++[x])/\Ext e i/\i.loops=H.loops:=by
 have u:=(aS.1 d.gZ).1;obtain⟨g,A,C,D,E,c5,p⟩:=as6 d.cur R q x L d.lts u;have r:=p f _ (.inr O) d.gZ;have y:=ar6 (x:=H.boxes.length) (n:=F l+1) (k:=B.length) r (by simp[Ds]);rw[ahZ]at y;refine⟨g,_,_,A,y,⟨dn (aS.1 r).1,d.lt,d.len,d.nd,λz1 b z2 s N=>?_,d.wid,d.out,d.low,?_⟩,D.fy q _,E⟩
 .have o:=cU s;rw[cr (λz0=>d.out (by rw[<-z0];exact o))];exact p b _ (.inl o) (d.row z1 b z2 s N)
 .rcases C with⟨T,-⟩|⟨T,b,X,Y,Z,v,q5⟩
  .simp at T
  .exact .inr ⟨T,b,X,by rw[cr v];exact Y,Z,v,q5⟩
def ux.mid{H}{q e w m}{B}{t}{j}{l}(f:ux H q e w m B t j l)(i:F l=w)(X:0<w):∃b,Mid H q e w m (B++[b]) (t++[l]):=by
 rcases f.cur with⟨rfl,-⟩|⟨Y,b,y,C,D,L,N⟩
 .simp at i;omega
 .refine⟨b,?_,by simp[f.len],?_,λv r R d c=>?_,λR c=>?_,?_,λr s=>?_⟩
  .rw[f.gZ,y,i];unfold tI;rw[jB,cg,List.append_assoc];rfl
  .rw[List.nodup_append];refine⟨f.nd,by simp,λx u Z p=>?_⟩;rw[hY]at p;subst p;rintro rfl;exact D u
  .rcases dp v (F B) with g|T
   .rw[qn g]at d;rw[qn (by rw[<-f.len];exact g)]at c;exact f.row v r R d c
   .have:=(aS.1 d).1;rw[cg]at this;have o:v=F B:=(by simp at this;omega);subst o;rw[zI]at d;rw[f.len,zI]at c;injection d with d;injection c with c;subst d;subst c;exact C
  .rcases Cm.1 c with z|z
   .exact f.wid R z
   .rw[hY]at z;rw[z];exact i
  .intro z;rcases Cm.1 z with z|z
   .exact f.out z
   .rw[hY]at z;exact L z.symm
  .rcases Cm.1 s with z|z
   .exact f.low r z
   .rw[hY]at z;rw[z];exact N
def atk(h:Heap)(x y:U)(rows:List (List Int))(c:List Int)(hx:RL x rows)(E:IL y c)(q:F rows<=1000)(ht:F c<=1000)(A:∀r∈rows,F r=F c):
 ∃r h',W2.call 168 [x,y] h=J (r,h')/\∃tb B,r=.ret (.arr tb 0 (F c) (F c))/\iI h' tb B (e7 rows c) (F rows+1)/\Ext h h'/\F h.boxes<=tb/\∀b∈B,F h.boxes<=b:=by
 obtain⟨g,v,p,rfl,R,fa,mM⟩:=hx;obtain⟨ky,sy,rfl,jI⟩:=E;have kx:=ae.mk (aj R (aj mM (aj jI A)));clear R mM jI A;have mk:=ak1 h (F c) M .i64 .i64;have u23:=cT;have u22:=gm;have u203:=Cy;have z23:=gV;have z3:=eR;have eC:=cE c;have Hd:F (p.map λa=>[a])=F rows:=by rw[br];exact fa
 refine bL O Tryz.func168 O ?_;refine bg @BD ?_;refine bC.gen λe d o ek dm=>?_;have f0:e.get 0=.list g v (p.map λa=>[a]):=by rw[d];exact gS
 have f5:e.get 5=.arr (F h.boxes) 0 (F c) (F c):=by rw[d];exact gS
 have f13:e.get 13=.list ky sy (ints c):=by rw[d];exact gS
 have f14:e.get 14=.v (.int .i64 (F c:Nat)):=by rw[d];exact gS
 have f15:e.get 15=.v (.int .i64 (0:Nat)):=by rw[d];exact gR
 have Z:e.defers=[]:=by rw[o];exact gS
 clear d o ek dm mk;have tl:=Pj rows c;have M0:Mid (h.push (bB (F c) (.list .nil 0 []))) (F h.boxes) (F h.boxes) (F rows+1) (F c) [] ((e7 rows c).take 0):=by refine⟨by rw[aK];simp[tI],O,.nil,λj b r hi=>by simp at hi,λr q=>by simp at q,by simp,λb hb=>by simp at hb⟩
 refine b9 (λz1 i z0=>∃(k:Nat) (B:List Nat),k<=F c/\z1=F c-k/\F B=k/\ae (Mid z0 (F h.boxes) (F h.boxes) (F rows+1) (F c) B ((e7 rows c).take k))/\ae (Ext h z0)/\i.get 0=.list g v (p.map λa=>[a])/\i.get 5=.arr (F h.boxes) 0 (F c) (F c)/\i.get 13=.list ky sy (ints c)/\i.get 14=.v (.int .i64 (F c:Nat))/\i.get 15=.v (.int .i64 (k:Nat))/\i.defers=[]) ?_ (F c) _ _ ?_;rotate_left 1
 .exact⟨0,[],bV _,O,O,⟨M0⟩,⟨.push _ _⟩,f0,f5,f13,f14,f15,Z⟩
 clear M0 f0 f5 f13 f14 f15 Z;rintro z1 i z0 ⟨k,B,hk,rfl,f,kM,T,g0,g5,g13,g14,g15,hd⟩;by_cases H:k<F c;rotate_left 1
 .have:k=F c:=by omega
  subst this;have z4:=kM.out.tab f;rw[fR M]at z4;have kT:=ae.mk z4;clear z4;refine bg @BD ?_;exact⟨_,_,O,_,B,O,kT.out,T.out,aV _,kM.out.low⟩
 have eo:sy=1:=kx.out.2.2.1 (by intro z2;rw[z2]at H;simp at H);subst eo;have l0:=eJ (H:=z0) (s:=1) H;have F0:=kM.out.half M;have kF0:=ae.mk F0;have hkI:(k:Int)<(F c:Int):=by omega
 clear F0;refine bE @BD @aT ?_;refine bC.gen λe d o ek dm=>?_;have f0:e.get 0=.list g v (p.map λa=>[a]):=by rw[d];simp only[gW,reduceIte,aJ,aB];exact g0
 have f5:e.get 5=.arr (F h.boxes) 0 (F c) (F c):=by rw[d];simp only[gW,reduceIte,aJ,aB];exact g5
 have f6:e.get 6=.v (.int .i64 (k:Nat)):=by rw[d];exact gS
 have f7:e.get 7=.v (.int .i64 (ag c k)):=by rw[d];exact gS
 have f13:e.get 13=.list ky 1 (ints c):=by rw[d];simp only[gW,reduceIte,aJ,aB];exact g13
 have f14:e.get 14=.v (.int .i64 (F c:Nat)):=by rw[d];simp only[gW,reduceIte,aJ,aB];exact g14
 have f15:e.get 15=.v (.int .i64 (k:Nat)):=by rw[d];simp only[gW,reduceIte,aJ,aB];exact g15
 have f20:e.get 20=.list g v (p.map λa=>[a]):=by rw[d];exact gS
 have f21:e.get 21=.v (.int .i64 (F rows:Nat)):=by rw[d];exact gS
 have f22:e.get 22=.v (.int .i64 (0:Nat)):=by rw[d];exact gR
 have Z:e.defers=[]:=by rw[o];simp only[gW,reduceIte,aJ,aB];exact hd
 clear d o ek dm g0 g5 g13 g14 g15 hd l0;refine b9 (λz1 i z0=>∃(j:Nat) (C:U),j<=F rows/\z1=F rows-j/\ae (ux z0 (F h.boxes) (F h.boxes) (F rows+1) (F c) B ((e7 rows c).take k) C ((rows.take j).map λr=>ag r k))/\ae (Ext h z0)/\i.get 0=.list g v (p.map λa=>[a])/\i.get 5=.arr (F h.boxes) 0 (F c) (F c)/\i.get 6=.v (.int .i64 (k:Nat))/\i.get 7=.v (.int .i64 (ag c k))/\i.get 13=.list ky 1 (ints c)/\i.get 14=.v (.int .i64 (F c:Nat))/\i.get 15=.v (.int .i64 (k:Nat))/\i.get 20=.list g v (p.map λa=>[a])/\i.get 21=.v (.int .i64 (F rows:Nat))/\i.get 22=.v (.int .i64 (j:Nat))/\i.defers=[]) ?_ (F rows) _ _ ?_;rotate_left 1
 .exact⟨0,_,bV _,O,kF0,T,f0,f5,f6,f7,f13,f14,f15,f20,f21,f22,Z⟩
 clear f0 f5 f6 f7 f13 f14 f15 f20 f21 f22 Z kF0 kM T;rintro z1 e2 H2 ⟨j,C,hi,rfl,kF,T,g0,g5,g6,g7,g13,g14,g15,g20,g21,g22,hd⟩;have lc:F ((rows.take j).map λr=>ag r k)=j:=by rw[br,cR];omega
 have D:(tI (F rows+1) B++C::bB (F c-F B-1) (.list .nil 0 []))[k]?=J C:=by rw[<-f];exact ahY _ _ _ _
 have m1:=p9 kF.out.gZ D;have DZ:=A4 (b:=h.boxes.length) (len:=c.length) (aR:=c.length) (k:=.i64) H;clear D;by_cases js:j<F rows
 .obtain⟨a,ha⟩:∃a,p[j]?=J a:=⟨_,aN M⟩;obtain⟨r,q⟩:∃r,rows[j]?=J r:=⟨_,aN js⟩;have R:v=1:=kx.out.1 (by intro z2;rw[z2]at js;simp at js);subst R;obtain⟨ka,sa,rfl,qE⟩:=kx.out.2.1 j a r ha q;have L:=kx.out.2.2.2 r (cU q);have MG:sa=1:=qE (by intro z2;rw[z2]at L;simp at L;omega);subst MG;have l1:=iN (H:=H2) (s:=1) ha;have l2:=eJ (H:=H2) (l:=r) (i:=k) (s:=1) M;have AP:F (ints r)=F c:=by rw[cE];exact L
  obtain⟨H3,H4,Y,c1,c2,m,X,-⟩:=kF.out.more T.out (aV _) (ag r k) (by rw[lc];omega);have N:((rows.take j).map λr=>ag r k)++[ag r k]=(rows.take (j+1)).map λr=>ag r k:=by rw[fY q,jB];rfl
  rw[N]at m;rw[f]at c2;have bl:=qw (ag r k);have kF2:=ae.mk m;have kX2:=ae.mk X;have GI:(j:Int)<(F rows:Int):=by omega
  clear m X N ha q qE lc f tl L;refine bE @BD @aT ?_
  repeat' (first|simp(maxSteps:=9999999) (disch:=first|exact dZ|fail) only[gW,reduceIte,aJ,aB,BD,aT, *]|(refine dX ?_ ?_<;>(intro _;try omega))|refine du wk am ?_)
  exact⟨F rows-(j+1),by omega,j+1,Y,by omega,O,kF2,by simp⟩
 .have gf:j=F rows:=by omega
  subst gf;obtain⟨H3,H4,Y,c1,c2,m,X,-⟩:=kF.out.more T.out (aV _) (ag c k) (by rw[lc];omega);rw[fB]at m;have u:(rows.map λr=>ag r k)++[ag c k]=((e7 rows c)[k]' M):=by unfold e7;rw[List.getElem_map,List.getElem_range]
  rw[u]at m;obtain⟨b,M2⟩:=m.mid (by rw[<-u];simp) M;rw[<-fY (aN (M:k<F (e7 rows c)))]at M2;have kM2:=ae.mk M2;have kX2:=ae.mk X;have hBl:F (B++[b])=k+1:=by rw[cg,f];rfl
  rw[f]at c2;have bl:=qw (ag c k);clear m X M2 u lc f tl;refine bg @BD ?_;exact⟨F c-(k+1),by omega,k+1,B++[b],by omega,O,hBl,kM2,by simp⟩
def Oo:Tryz.f91.results.toList=[.tmp 4]:=am
def qO:Tryz.f164.results.toList=[.tmp 4]:=am
def apH:Tryz.f87.results.toList=[.tmp 4]:=am
def Iy:Tryz.f163.results.toList=[.tmp 4]:=am
def XV:Tryz.f248.results.toList=[.tmp 2]:=am
def EH:Tryz.f221.results.toList=[]:=am
def XR:Tryz.f167.results.toList=[]:=am
def aiT(g:aQ)(p:Int->Bool)(h:Heap)(x:U)(l:List Int)(E:IL x l)(hl:l.length<=1000000)(u:∀n∈l,W2.call g [I n] h=J (.ret (.v (.bool (p n))),h)):
 ∃r h',W2.call 164 [x,.func (.func g) [] []] h=some (r,h')/\h'=h/\∃i:Int,r=.ret (I i)/\decide (0<=i)=l.any p:=by
 obtain⟨k,T,rfl,v⟩:=E;have L:=ae.mk u;have N:=ae.mk v;clear u v;have Z:=cT;have z3:=eR;have X:=cE l;refine bL rfl aa3 rfl ?_;refine bg @qO ?_;refine b9 (λY q C=>∃i:Nat,i<=l.length/\Y=l.length - i/\(l.take i).any p=ai/\q.get 0=.list k T (ints l)/\q.get 1=.func (.func g) [] []/\q.get 7=.v (.int .i64 (l.length:Nat))/\q.get 8=.v (.int .i64 (i:Nat))/\q.defers=[]/\C=h) ?_ l.length _ _ ?_;rotate_left 1
 .refine⟨0,bV _,rfl,by simp,?_,?_,?_,?_,?_,rfl⟩<;>exact gR
 rintro Y q C ⟨i,hi,rfl,s,g0,g1,g7,g8,hd,rfl⟩;have A:=ae.mk s;clear s;by_cases d:i<l.length
 .have y:T=1:=N.out (by intro z0;rw[z0] at d;simp at d);subst y;have ld:=eJ (H:=C) (s:=1) d;have m:l[i]?=J (ag l i):=by rw[aN d,fS d]
  have o:=L.out (ag l i) (cU m);have D:(i:Int)<(l.length:Int):=by omega
  have e:(l.take (i+1)).any p=p (ag l i):=by rw[fY m,JA,A.out];simp
  have R:=ae.mk e;have H:=ae.mk m;clear m e;unfold I at o;cases c:p (ag l i) with
  |true=>rw[c] at o;have f:l.any p=V:=JB.2 ⟨_,cU H.out,c⟩;have j:=ae.mk f;clear f c;refine bA @qO @aT @dM.{0} @ga.{0} ?_;exact⟨_,_,rfl,rfl,(i:Int),rfl,by rw[j.out];simp⟩
  |false=>rw[c] at o;have B:(l.take (i+1)).any p=ai:=R.out.trans c;clear c;refine bA @qO @aT @dM.{0} @ga.{0} ?_;exact⟨l.length - (i+1),by omega,i+1,by omega,rfl,B,by simp⟩
 .have:i=l.length:=by omega
  subst this;have:=A.out;rw[fB] at this;have j:=ae.mk this;clear this;refine bg @qO ?_;exact⟨_,_,rfl,rfl,-1,rfl,by rw[j.out];rfl⟩
def Se(g)(p)(h)(x)(l)(j:IL x l)(f:F l<=1000000)(i:∀n∈l,W2.call g [I n] h=J (.ret (.v (.bool (p n))),h)):
 W2.call 91 [x,.func (.func g) [] []] h=J (.ret (.v (.bool (l.any p))),h):=by
 obtain⟨q,h',o,rfl,m,rfl,c⟩:=aiT g p h x l j f i;have d:(0<=m)=(l.any p=V):=by rw[<-c];simp
 have e:decide (0<=m)=l.any p:=c;unfold I at o;refine cq O abm O ?_;clear c d;exact iB @Oo
def aiU(g:aQ)(p:List Int->Bool)(h:Heap)(x:U)(l:List (List Int))(T:RL x l)(hl:l.length<=1000000)(A:∀a r,r∈l->IL a r->W2.call g [a] h=J (.ret (.v (.bool (p r))),h)):
 ∃r h',W2.call 163 [x,.func (.func g) [] []] h=some (r,h')/\h'=h/\∃i:Int,r=.ret (I i)/\decide (0<=i)=l.any p:=by
 obtain⟨k,z0,s,rfl,B,D,q⟩:=T;have L:=ae.mk q;clear q;have Y:=ae.mk A;have Z:=ae.mk B;clear A B;have u22:=gm;have z23:=gV;have eC:(s.map λa=>[a]).length=l.length:=by rw[br];exact D
 refine bL rfl Tryz.func163 rfl ?_;refine bg @Iy ?_;refine b9 (λz1 u N=>∃i:Nat,i<=l.length/\z1=l.length - i/\(l.take i).any p=ai/\u.get 0=.list k z0 (s.map λa=>[a])/\u.get 1=.func (.func g) [] []/\u.get 7=.v (.int .i64 (l.length:Nat))/\u.get 8=.v (.int .i64 (i:Nat))/\u.defers=[]/\N=h) ?_ l.length _ _ ?_;rotate_left 1
 .refine⟨0,bV _,rfl,by simp,?_,?_,?_,?_,?_,rfl⟩<;>exact gR
 rintro z1 u N ⟨i,hi,rfl,v,g0,g1,g7,g8,hd,rfl⟩;have E:=ae.mk v;clear v;by_cases j:i<l.length
 .have C:z0=1:=Z.out (by intro z2;rw[z2] at j;simp at j);subst C;obtain⟨a,f⟩:∃a,s[i]?=J a:=⟨_,aN M⟩;obtain⟨r,m⟩:∃r,l[i]?=J r:=⟨_,aN j⟩;have ld:=iN (H:=N) (s:=1) f;have y:=Y.out a r (cU m) (L.out i a r f m);clear f;have R:(i:Int)<(l.length:Int):=by omega
  have d:(l.take (i+1)).any p=p r:=by rw[fY m,JA,E.out];simp
  have kt:=ae.mk d;have X:=ae.mk m;clear m d;cases c:p r with
  |true=>rw[c] at y;have e:l.any p=V:=JB.2 ⟨_,cU X.out,c⟩;have o:=ae.mk e;clear e c;refine bA @Iy @aT @dM.{0} @ga.{0} ?_;exact⟨_,_,rfl,rfl,(i:Int),rfl,by rw[o.out];simp⟩
  |false=>rw[c] at y;have H:(l.take (i+1)).any p=ai:=kt.out.trans c;clear c;refine bA @Iy @aT @dM.{0} @ga.{0} ?_;exact⟨l.length - (i+1),by omega,i+1,by omega,rfl,H,by simp⟩
 .have:i=l.length:=by omega
  subst this;have:=E.out;rw[fB] at this;have o:=ae.mk this;clear this;refine bg @Iy ?_;exact⟨_,_,rfl,rfl,-1,rfl,by rw[o.out];rfl⟩
def ae1(g)(p)(h)(x)(l)(j:RL x l)(f:F l<=1000000)(i:∀a r,r∈l->IL a r->W2.call g [a] h=J (.ret (.v (.bool (p r))),h)):
 W2.call 87 [x,.func (.func g) [] []] h=J (.ret (.v (.bool (l.any p))),h):=by
 obtain⟨r,h',o,rfl,m,rfl,c⟩:=aiU g p h x l j f i;have d:(0<=m)=(l.any p=V):=by rw[<-c];simp
 have e:decide (0<=m)=l.any p:=c;unfold I at o;refine cq O Tryz.func87 O ?_;clear c d;exact iB @apH
def kj(n:Int):Bool:=decide (n<0)||decide (1073741789<=n)
def alu(n:Int)(h:Heap):W2.call 248 [I n] h=J (.ret (.v (.bool (kj n))),h):=by
 unfold I kj;by_cases c:n<0
 .refine cq O abd O ?_;have:decide (n<0)=V:=by simp[c]
  exact dV @XV @ZL
 .refine cq O abd O ?_;have:decide (n<0)=ai:=by simp[c]
  exact dV @XV @Fc
def Hz(e:Int)(h:Heap):W2.call 220 [.v (.bool V),I e] h=J (.ret (.tuple []),h):=by unfold I;refine cq O Tryz.func220 O ?_;exact iB @apV
def alw{l:List Int}(h:∀x∈l,okF x):l.any kj=ai:=by rw[P0];intro x c;obtain⟨d,h2⟩:=h x c;have:Qi=1073741789:=rfl;unfold kj;simp;omega
def RW(h:Heap)(x:U)(rows:List (List Int))(w:Nat)(hx:RL x rows)(hr:F rows<=1000)(A:∀r∈rows,F r=w)(oy:w<=64)(D:∀r∈rows,∀x∈r,okF x):∃h',W2.call 221 [x] h=J (.ret (.tuple []),h')/\h'=h:=by
 obtain⟨k,B,f,rfl,hs,fa,E⟩:=hx;have i:=ae.mk (aj hs (aj E (aj A D)));clear hs E A D;have u23:=cT;have u22:=gm;have z23:=gV;have eC:F (f.map λa=>[a])=F rows:=by rw[br];exact fa
 have n2:=Hz 2;have X:=Hz 130;unfold I at n2 X;refine gy O Tryz.func221 O ?_;refine bg @EH ?_;refine b9 (λz1 o s=>∃e:Nat,e<=F rows/\z1=F rows-e/\o.get 0=.list k B (f.map λa=>[a])/\o.get 7=.list k B (f.map λa=>[a])/\o.get 8=.v (.int .i64 (F rows:Nat))/\o.get 9=.v (.int .i64 (e:Nat))/\o.defers=[]/\s=h) ?_ (F rows) _ _ ?_;rotate_left 1
 .refine⟨0,bV _,O,?_,?_,?_,?_,?_,O⟩<;>exact gR
 rintro z1 o s ⟨e,hi,rfl,H,g7,g8,g9,L,rfl⟩;by_cases c:e<F rows
 .have v:B=1:=i.out.1 (by intro z2;rw[z2]at c;simp at c);subst v;obtain⟨a,d⟩:∃a,f[e]?=J a:=⟨_,aN M⟩;obtain⟨r,l⟩:∃r,rows[e]?=J r:=⟨_,aN c⟩;have ld:=iN (H:=s) (s:=1) d;obtain⟨ka,sa,rfl,p⟩:=i.out.2.1 e a r d l;have j:=i.out.2.2.1 r (cU l);have R:F (ints r)=w:=by rw[cE];exact j
  have N:(e:Int)<(F rows:Int):=by omega
  have hwd:decide ((w:Int)<=64)=V:=by simp;omega
  clear d l p j;refine bE @EH @aT ?_;exact⟨F rows-(e+1),by omega,e+1,by omega,O,by simp⟩
 .refine bg @EH ?_;refine bC.gen λq g C ek dm=>?_;have f0:q.get 0=.list k B (f.map λa=>[a]):=by rw[g];simp only[gW,reduceIte,aJ,aB];exact H
  have f4:q.get 4=.func (.func 248) [] []:=by rw[g];exact gS
  have f18:q.get 18=.list k B (f.map λa=>[a]):=by rw[g];exact gS
  have f19:q.get 19=.v (.int .i64 (F rows:Nat)):=by rw[g];exact gS
  have f20:q.get 20=.v (.int .i64 (0:Nat)):=by rw[g];exact gR
  have Z:q.defers=[]:=by rw[C];simp only[gW,reduceIte,aJ,aB];exact L
  clear g C ek dm H g7 g8 g9 L hi c;refine b9 (λz1 o H2=>∃e:Nat,e<=F rows/\z1=F rows-e/\o.get 0=.list k B (f.map λa=>[a])/\o.get 4=.func (.func 248) [] []/\o.get 18=.list k B (f.map λa=>[a])/\o.get 19=.v (.int .i64 (F rows:Nat))/\o.get 20=.v (.int .i64 (e:Nat))/\o.defers=[]/\H2=s) ?_ (F rows) _ _ ?_;rotate_left 1
  .exact⟨0,bV _,O,f0,f4,f18,f19,f20,Z,O⟩
  clear f0 f4 f18 f19 f20 Z;rintro z1 o s ⟨e,hi,rfl,H,g4,g18,g19,g20,L,rfl⟩;by_cases c:e<F rows
  .have v:B=1:=i.out.1 (by intro z2;rw[z2]at c;simp at c);subst v;obtain⟨a,d⟩:∃a,f[e]?=J a:=⟨_,aN M⟩;obtain⟨r,l⟩:∃r,rows[e]?=J r:=⟨_,aN c⟩;obtain⟨a0,m⟩:∃a,f[0]?=J a:=⟨_,aN M⟩;obtain⟨Y,y⟩:∃r,rows[0]?=J r:=⟨_,aN M⟩;have ld:=iN (H:=s) (s:=1) d;have ld0:=iN (H:=s) (s:=1) m;obtain⟨ka,sa,rfl,p⟩:=i.out.2.1 e a r d l;obtain⟨ka0,sa0,rfl,T⟩:=i.out.2.1 0 a0 Y m y;have j:=i.out.2.2.1 r (cU l);have u:=i.out.2.2.1 Y (cU y);have cc:=Se 248 kj s (.list ka sa (ints r)) r ⟨_,_,O,p⟩ M (λn _=>alu n s);rw[alw (i.out.2.2.2 r (cU l))]at cc;have R:F (ints r)=w:=(by rw[cE];exact j);have MA:F (ints Y)=w:=(by rw[cE];exact u);have N:(e:Int)<(F rows:Int):=(by omega);have C9:(0:Int)<(F rows:Int):=(by omega);have z0:(0:Int).toNat=0:=rfl;clear d l p j m y T u;refine bE @EH @aT ?_;exact⟨F rows-(e+1),by omega,e+1,by omega,O,by simp⟩
  .refine bg @EH ?_;exact⟨_,O,O⟩
def BB:Tryz.f93.results.toList=[.tmp 4,.tmp 5,.cell 6 39]:=am
def apP:Tryz.f166.results.toList=[]:=am
def FL(x)(c:x.cW=V):ff aa 22 1 [(0,x)]=J (.list .tight 1 [[x]]):=by cases x<;>first|(cases c;done)|kernel_rfl
def IL.cell{x}{l}(h:IL x l):x.cW=V:=by obtain⟨k,c,rfl,-⟩:=h;rfl
def RH(b:Nat)(h:Heap):W2.ii 166 [.ptr (.box b) 0] af h=J (.ret (.tuple []),af,h):=by have c:=Tryz.underlying20;refine KR Tryz.func166 O ?_;exact o0 @apP @Rc @and_self
def af0(h:Heap)(x y:U)(rows:List (List Int))(c:List Int)(R:RL x rows)(u:IL y c)(g:F rows<=64)(m:∀r∈rows,F r=F c)(s:F c<=64)(p:∀r∈rows,∀x∈r,okF x)(q:∀x∈c,okF x):
 W2.call 167 [x,y] h=J (.ret (.tuple []),h):=by
 obtain⟨h1,Y,C⟩:=RW h x rows (F c) R M m s p;rw[C]at Y;clear C h1;have o:RL (.list .tight 1 [[y]]) [c]:=⟨.tight,1,[y],O,λ_=>rfl,O,λz1 a r f g=>by
  cases z1 with
  |zero=>simp only[List.getElem?_cons_zero]at f g;injection f with f;injection g with g;subst f;subst g;exact u
  |succ z1=>simp at f⟩
 obtain⟨h2,Z,D⟩:=RW h (.list .tight 1 [[y]]) [c] (F c) o b7 b7 s (by simpa using q);rw[D]at Z;clear D h2;have bl:=FL y u.cell;have n2:=Hz 2;have v:=Hz 130;obtain⟨k,z2,X,rfl,L,T,l⟩:=R;obtain⟨ky,sy,rfl,jI⟩:=u;have u23:=cT;have u22:=gm;have z23:=gV;have eC:F (X.map λa=>[a])=F rows:=by rw[br];exact T
 have uS:=cE c;have hrI:decide ((F rows:Int)<=64)=V:=by simp;omega
 unfold I at n2 v;clear o p q;refine cq O Tryz.func167 O ?_;by_cases e:F rows=0
 .have hq:decide ((F rows:Int)=0)=V:=by simp[e]
  clear m l e;exact iB @XR
 .have hq:decide ((F rows:Int)=0)=ai:=by simp[e]
  obtain⟨a0,d⟩:∃a,X[0]?=J a:=⟨_,aN M⟩;obtain⟨B,j⟩:∃r,rows[0]?=J r:=⟨_,aN M⟩;have N:z2=1:=L (by intro z3;rw[z3]at e;simp at e);subst N;have ld0:=iN (H:=h) (s:=1) d;obtain⟨ka0,sa0,rfl,DN⟩:=l 0 a0 B d j;have i:=m B (cU j);have MA:F (ints B)=F c:=by rw[cE];exact i
  have C9:(0:Int)<(F rows:Int):=by omega
  have z0:(0:Int).toNat=0:=rfl;clear m l d j i L;exact dV @XR @aT
def xE:fx aa 39=J ai:=am
def YX:cB aa 39=J 1:=am
def auf:(fM aa 39).bind U.bG=J [I 0]:=am
def VG{H}{b}{x}(c:H.boxes[b]?=J [x]):aD aa Gt H 39 (.ptr (.box b) 0)=J x:=by rw[fe xE c];rfl
def YB{H}{b}{x}{n}(c:H.boxes[b]?=J [x]):bY aa H 39 (.ptr (.box b) 0) (.v (.int .i64 n))=J (H.put b [.v (.int .i64 n)]):=fE (off:=0) (cs:=[x]) (xs:=[I n]) O YX c O (aV 1)
def ary{b n k}(e:k<=n):∃off,gi aa 207 (.arr b 0 n n) (J (.v (.int .i64 (k:Nat)))) af af=J (.arr b off (n-k) (n-k))/\(k<n->off=k):=by
 refine⟨if n=k then 0 else 0+k*1,?_,λh=>by rw[aP M];omega⟩;have c:fT n af n=J n:=rfl;have d:fT n (J (.v (.int .i64 (k:Nat)))) 0=J k:=by show(if 0<=(k:Int)/\(k:Int)<=(n:Int) then J (k:Int).toNat else af)=_;rw[av ⟨M,by omega⟩];rfl
 unfold gi;simp only[Cy,gV,c,d,Option.isSome_none,ut,Bool.false_eq_true,false_and,if_false];rfl
def ajr{b off len aR n}{k}(c:n<len):dH aa 207 (.arr b off len aR) (.v (.int k (n:Nat)))=J (.ptr (.box b) (off+n)):=by rw[A1 Cy gV M M,fh,jC]
def jl(t:List (List Int))(pv:List Nat)(n j:Nat):List Int:=(pv.zipIdx.take j).foldl (λd c=>d.set c.1 (ag (t.getD c.2 []) n)) (bB n 0)
def Ih(t)(pv)(n j):F (jl t pv n j)=n:=by unfold jl;rw[C0 (λc=>ag (t.getD c.2 []) n),l8]
def Xr{t}{pv}{n j p}(h:pv[j]?=J p):(jl t pv n j).set p (ag (t.getD j []) n)=jl t pv n (j+1):=by
 have c:pv.zipIdx[j]?=J (p,j):=by rw[aaj,h];simp
 unfold jl;rw[fY c,oj];rfl
def Xq(t)(pv)(n):jl t pv n (F pv)=nu (t,pv) n:=by unfold jl nu;rw[fR b7]
def ZM(rows:List (List Int))(c:List Int)(h:Heap)(r:dO)(h':Heap):Prop:=
 Ext h h'/\((nF rows c=af/\r=.ret (.tuple [.list .nil 0 [],.v (.bool ai),I 0]))∨∃d b,nF rows c=J d/\F d=F rows/\r=.ret (.tuple [.arr b 0 (F rows) (F rows),.v (.bool V),I 0])/\h'.boxes[b]?=J (d.map I))
def aeV(h:Heap)(x y:U)(rows:List (List Int))(c:List Int)(hx:RL x rows)(E:IL y c)(hr:F rows<=64)(A:∀r∈rows,F r=F c)(oy:F c<=64)(fJ:∀r∈rows,∀x∈r,okF x)(yy:∀x∈c,okF x)(ho:c_ h=V):
 ∃r h',W2.call 93 [x,y] h=J (r,h')/\ZM rows c h r h':=by
 have c1:=af0 (h.push [I 0]) x y rows c hx E hr A oy fJ yy;obtain⟨_,H2,c2,B,z5,rfl,T2,X2,ob,j_⟩:=atk (h.push [I 0]) x y rows c hx E M M A;obtain⟨t1,t2⟩:=Pk fJ yy;have tl:=Pj rows c;obtain⟨_,g,c3,tk,s3,B3,rfl,j,T3,Gw,G3⟩:=anI H2 B z5 (e7 rows c) (F rows+1) (F rows) T2 M M M t2 (X2.ok ho);have H:=anJ (many:=rows.length) t1 t2 M;obtain⟨z6,z0⟩:=Ev t1 t2 (M:F rows<=F rows+1);rw[H]at j T3 c3;rw[tl]at c3;have L:nF rows c=if ((gT (e7 rows c) (F rows)).1.drop (F (gT (e7 rows c) rows.length).2)).all (λa=>decide (ag a (F rows)=0)) then J (nu (gT (e7 rows c) (F rows)) (F rows)) else af:=rfl
 have GJ:F (gT (e7 rows c) rows.length).1=F c:=by have:=(Xw t1 t2 (F rows) M).2.1;rw[<-Xv,H]at this;omega
 have X3:Ext (h.push [I 0]) g:=X2.NE (G3.mu.r_ X2.tn) (λb v=>by
  rcases gL.1 v with q|q
  .rw[q];exact ob
  .exact j_ b q)
 have o:g.boxes[h.boxes.length]?=J [I 0]:=X3.box _ _ (aK _ _);have s:Ext h g:=(Ext.push h [I 0]).trans X3;obtain⟨k,z7,xs,rfl,hs,fa,mM⟩:=hx;obtain⟨ky,sy,rfl,jI⟩:=E;have eC:F (xs.map λa=>[a])=F rows:=by rw[br];exact fa
 have au8:=z0.len;generalize gP:gT (e7 rows c) (F rows)=st at *
 obtain⟨m,d⟩:=st;dsimp only at *
 have GW:=M7 d;have kk:=ae.mk (aj T3 (aj z0 (aj L (aj s (aj o j)))));clear T2 X2 ob j_ t1 t2 tl H z6 z0 L Gw G3 X3 o s T3 hs fa mM jI gP j fJ yy A ho;have u23:=cT;have u22:=gm;have u203:=Cy;have z23:=gV;have z32:=auf;obtain⟨X,qG,AJ⟩:=ary (b:=B) (M:F d<=F c);have khoff:=ae.mk AJ;clear AJ;unfold I at *
 refine bL O Tryz.func93 O ?_;refine bg @BB ?_;refine bC.gen λi e R T dm=>?_;have f6:i.get 6=.ptr (.box (F h.boxes)) 0:=by rw[e];exact gS
 have f7:i.get 7=.v (.int .i64 (F rows:Nat)):=by rw[e];exact gS
 have f8:i.get 8=.arr B 0 (F c) (F c):=by rw[e];exact gS
 have f9:i.get 9=.list tk s3 (ints (cJ d)):=by rw[e];exact gS
 have f28:i.get 28=.arr B X (F c-F d) (F c-F d):=by rw[e];exact gS
 have f29:i.get 29=.v (.int .i64 ((F c-F d:Nat):Int)):=by rw[e];exact gS
 have f30:i.get 30=.v (.int .i64 (0:Nat)):=by rw[e];exact gR
 have fd:i.defers=[(166,[.ptr (.box (F h.boxes)) 0])]:=by rw[R];exact gS
 have fp:i.cC=af:=by rw[T];exact gS
 clear e R T dm c1 c2 c3 qG;refine b9 (λz4 u z1=>∃f:Nat,f<=F c-F d/\z4=F c-F d-f/\ae (∀Z,Z<f->∀a,m[F d+Z]?=J a->ag a (F rows)=0)/\u.get 6=.ptr (.box (F h.boxes)) 0/\u.get 7=.v (.int .i64 (F rows:Nat))/\u.get 8=.arr B 0 (F c) (F c)/\u.get 9=.list tk s3 (ints (cJ d))/\u.get 28=.arr B X (F c-F d) (F c-F d)/\u.get 29=.v (.int .i64 ((F c-F d:Nat):Int))/\u.get 30=.v (.int .i64 (f:Nat))/\u.defers=[(166,[.ptr (.box (F h.boxes)) 0])]/\u.cC=af/\z1=g) ?_ (F c-F d) _ _ ?_;rotate_left 1
 .exact⟨0,bV _,O,⟨λZ hi=>absurd hi (mY _)⟩,f6,f7,f8,f9,f28,f29,f30,fd,fp,O⟩
 clear f6 f7 f8 f9 f28 f29 f30 fd fp;rintro z4 u g ⟨f,hj,rfl,kz,g6,g7,g8,g9,g28,g29,g30,hd,hp,rfl⟩;obtain⟨T3,z0,L,s,o,j⟩:=kk.out;have s6:=λn=>YB (n:=n) o;by_cases D:f<F c-F d
 .obtain⟨a,p⟩:∃a,m[F d+f]?=J a:=⟨_,aN M⟩;obtain⟨b,v⟩:∃b,B3[F d+f]?=J b:=⟨_,aN (by rw[T3.len];omega)⟩;have wa:=T3.wid a (cU p);have C:(B3.map λb=>U.arr b 0 (F rows+1) (F rows+1))[X+f]?=J (.arr b 0 (F rows+1) (F rows+1)):=by rw[khoff.out M,dW,v];rfl
  have m1:=p9 T3.gZ C;have m2:=vg (T3.row _ _ _ v p) (tY (k:=rows.length) M);have ix1:=ajr (b:=B) (off:=X) (aR:=F c-F d) (k:=.i64) D;have ix2:=nN (b:=b) (len:=F rows+1) (aR:=F rows+1) (k:=.i64) (M:F rows<F rows+1);have fH:(f:Int)<((F c-F d:Nat):Int):=by omega
  by_cases hz:ag a (F rows)=0
  .have kz2:ae (∀Z,Z<f+1->∀a,m[F d+Z]?=J a->ag a (F rows)=0):=⟨λZ hi a' N=>by
    rcases dp Z f with q|q
    .exact kz.out Z q a' N
    .rw[(M:Z=f),p]at N;injection N with N;rw[<-N];exact hz⟩
   rw[hz]at m2;unfold I at *
   clear T3 z0 L s o j s6 p v wa C hz kz;refine bg @BB ?_;exact⟨F c-F d-(f+1),by omega,f+1,by omega,O,kz2,by simp⟩
  .have e2:nF rows c=af:=(by rw[L,aP];intro q;rw[eF]at q;have:=q a (cU (i:=f) (by rw[oL];exact p));exact hz (of_decide_eq_true this));have ke:=ae.mk e2;have kX:=ae.mk s;have kb:=ae.mk o;have l6:∀n,aD aa Gt (g.put (F h.boxes) [.v (.int .i64 n)]) 39 (.ptr (.box (F h.boxes)) 0)=J (.v (.int .i64 n)):=λn=>VG (dn (aS.1 o).1);unfold I at *
   clear T3 z0 L s o j p v wa C kz e2
   repeat' (first|simp(maxSteps:=9999999) (disch:=first|exact dZ|fail) only[gW,reduceIte,aJ,aB,BB,Pn (RH _ _), *]|refine dX ?_ ?_<;>(intro _;try omega))
   exact⟨_,_,O,kX.out.fy (aV _) _,.inl ⟨ke.out,O⟩⟩
 .have pV:f=F c-F d:=by omega
  subst pV;have e2:nF rows c=J (nu (m,d) (F rows)):=by rw[L,av];rw[eF];intro a p;obtain⟨Z,hi⟩:=qo p;rw[oL]at hi;have eC:=(aS.1 hi).1;exact bQ (kz.out Z M a hi)
  rw[<-Xq]at e2;have ke:=ae.mk e2;have mk:=vk g (F rows) M .i64 .i64;have rC:bB (F rows) (I 0)=(jl m d (F rows) 0).map I:=by unfold jl;rw[cX,Cj,xx]
  rw[rC]at mk;clear L e2 rC kz o s6 s T3 z0 j;unfold I at mk;refine bg @BB ?_;refine bC.gen λi e R T dm=>?_;have f4:i.get 4=.arr (F g.boxes) 0 (F rows) (F rows):=by rw[e];exact gS
  have f6:i.get 6=.ptr (.box (F h.boxes)) 0:=by rw[e];simp only[gW,reduceIte,aJ,aB];exact g6
  have f7:i.get 7=.v (.int .i64 (F rows:Nat)):=by rw[e];simp only[gW,reduceIte,aJ,aB];exact g7
  have f8:i.get 8=.arr B 0 (F c) (F c):=by rw[e];simp only[gW,reduceIte,aJ,aB];exact g8
  have f42:i.get 42=.list tk s3 (ints (cJ d)):=by rw[e];exact gS
  have f43:i.get 43=.v (.int .i64 (F d:Nat)):=by rw[e];exact gS
  have f44:i.get 44=.v (.int .i64 (0:Nat)):=by rw[e];exact gR
  have fd:i.defers=[(166,[.ptr (.box (F h.boxes)) 0])]:=by rw[R];simp only[gW,reduceIte,aJ,aB];exact hd
  have fp:i.cC=af:=by rw[T];simp only[gW,reduceIte,aJ,aB];exact hp
  clear e R T dm g6 g7 g8 g9 g28 g29 g30 hd hp mk;refine b9 (λz4 u z1=>∃f:Nat,f<=F d/\z4=F d-f/\u.get 4=.arr (F g.boxes) 0 (F rows) (F rows)/\u.get 6=.ptr (.box (F h.boxes)) 0/\u.get 7=.v (.int .i64 (F rows:Nat))/\u.get 8=.arr B 0 (F c) (F c)/\u.get 42=.list tk s3 (ints (cJ d))/\u.get 43=.v (.int .i64 (F d:Nat))/\u.get 44=.v (.int .i64 (f:Nat))/\u.defers=[(166,[.ptr (.box (F h.boxes)) 0])]/\u.cC=af/\z1=g.push ((jl m d (F rows) f).map I)) ?_ (F d) _ _ ?_;rotate_left 1
  .exact⟨0,bV _,O,f4,f6,f7,f8,f42,f43,f44,fd,fp,O⟩
  clear f4 f6 f7 f8 f42 f43 f44 fd fp;rintro z4 u z1 ⟨f,hj,rfl,g4,g6,g7,g8,g42,g43,g44,hd,hp,rfl⟩;obtain⟨T3,z0,-,s,o,j⟩:=kk.out;by_cases D:f<F d
  .obtain⟨z2,Y⟩:∃z2,d[f]?=J z2:=⟨_,aN D⟩;have wT:=z0.lt f z2 Y;have eo:s3=1:=by
    rcases j with q|⟨q,-⟩
    .exact q
    .exfalso;unfold cJ at q;rw[zJ]at q;rw[q]at D;exact mY _ D
   subst eo;obtain⟨a,p⟩:∃a,m[f]?=J a:=⟨_,aN M⟩;obtain⟨b,v⟩:∃b,B3[f]?=J b:=⟨_,aN (by rw[T3.len];omega)⟩;have wa:=T3.wid a (cU p);have C:(B3.map λb=>U.arr b 0 (F rows+1) (F rows+1))[f]?=J (.arr b 0 (F rows+1) (F rows+1)):=(by rw[dW,v];rfl);have Mv:ag (cJ d) f=(z2:Int):=(by have:(cJ d)[f]?=J (z2:Int):=(by unfold cJ;rw[dW,Y];rfl);unfold ag;rw[eG,this];rfl);have l0:=eJ (H:=g.push ((jl m d (F rows) f).map I)) (l:=cJ d) (i:=f) (s:=1) (by unfold cJ;rw[br];exact D);rw[Mv]at l0;have m1:=p9 (H:=g.push ((jl m d (F rows) f).map I)) (aM T3.gZ) C;have m2:=vg (H:=g.push ((jl m d (F rows) f).map I)) (aM (T3.row _ _ _ v p)) (tY (k:=rows.length) M);have ix1:=A4 (b:=B) (len:=c.length) (aR:=c.length) (k:=.i64) (M:f<F c);have ix2:=nN (b:=b) (len:=F rows+1) (aR:=F rows+1) (k:=.i64) (M:F rows<F rows+1);have ix3:=nN (b:=g.boxes.length) (len:=rows.length) (aR:=rows.length) (k:=.i64) wT;have sk:=um (H:=g.push ((jl m d (F rows) f).map I)) (b:=g.boxes.length) (r:=jl m d (F rows) f) (k:=z2) (x:=ag a (F rows)) (aK _ _) (by rw[Ih];exact wT);have gD:m.getD f []=a:=(by rw[eG,p];rfl);rw[lO,<-gD,Xr Y,gD]at sk;have fH:(f:Int)<(F d:Int):=(by omega);have z3:=eR;unfold I at *
   clear T3 z0 s o j p v wa C gD Mv Y kk ke;refine bE @BB @aT ?_;exact⟨F d-(f+1),by omega,f+1,by omega,O,by simp⟩
  .have pV:f=F d:=(by omega);subst pV;have b1:(g.push ((jl m d (F rows) (F d)).map I)).boxes[h.boxes.length]?=J [I 0]:=aM o;have s6:=λn=>YB (n:=n) b1;have Uo:=(aS.1 b1).1;have l6:∀n,aD aa Gt ((g.push ((jl m d (F rows) (F d)).map I)).put (F h.boxes) [.v (.int .i64 n)]) 39 (.ptr (.box (F h.boxes)) 0)=J (.v (.int .i64 n)):=λn=>VG (dn Uo);have fI:F g.boxes≠F h.boxes:=(by have:=(aS.1 o).1;omega);have kX:=ae.mk s;clear T3 z0 s o b1 j Uo
   repeat' (first|simp(maxSteps:=9999999) (disch:=first|exact dZ|fail) only[gW,reduceIte,aJ,aB,BB,Pn (RH _ _), *]|refine dX ?_ ?_<;>(intro _;try omega))
   exact⟨_,_,O,(kX.out.trans (.push _ _)).fy (aV _) _,.inr ⟨_,_,ke.out,Ih _ _ _ _,O,(cr fI).trans (aK _ _)⟩⟩
def XN:Tryz.f89.results.toList=[.tmp 6]:=am
def apJ:Tryz.f90.results.toList=[.tmp 2]:=am
def apG:Tryz.f86.results.toList=[.tmp 2]:=am
def apI:Tryz.f88.results.toList=[.tmp 2]:=am
def uk:Tryz.f35.results.toList=[.tmp 2]:=am
def Zc(n a b)(h):W2.call 89 [I n,I a,I b] h=J (.ret (.v (.bool (decide (a<=n)&&decide (n<=b)))),h):=by
 unfold I;by_cases c:a<=n
 .have:decide (a<=n)=V:=by simp[c]
  refine cq O abl O ?_;exact dV @XN @mq
 .have:decide (a<=n)=ai:=by simp[c]
  refine cq O abl O ?_;exact dV @XN @ut
def rM(n:Int):Bool:=decide (0<=n)&&decide (n<=63)
def WO(n)(h):W2.call 90 [I n] h=J (.ret (.v (.bool (rM n))),h):=by
 have w:=Zc n 0 63 h;unfold rM;unfold I at *
 refine cq O Tryz.func90 O ?_;exact iB @apJ
def akC(a)(r)(c:IL a r)(h):W2.call 86 [a] h=J (.ret (.v (.bool (decide (64<F r)))),h):=by
 obtain⟨k,g,rfl,-⟩:=c;have e:=cT;have f:=cE r;have d:decide (64<F r)=decide ((64:Int)<(F r:Int)):=by rw[decide_eq_decide];omega
 rw[d];refine cq O Tryz.func86 O ?_;exact iB @apG
def als(n)(h):W2.call 88 [I n] h=J (.ret (.v (.bool (!cN n))),h):=by
 have w:=Zc n 0 1073741788 h;have c:cN n=(decide (0<=n)&&decide (n<=1073741788)):=by unfold cN Qi;congr 1;rw[decide_eq_decide];omega
 rw[c];unfold I at *
 refine cq O Tryz.func88 O ?_;exact iB @apI
def Kf:fx aa 22=J ai:=am
def zU:fx aa 25=J V:=am
def de{b}:dQ aa 25 (.ptr (.box b) 0) 0=J (.ptr (.box b) 0):=am
def dR{b}:dQ aa 25 (.ptr (.box b) 0) 1=J (.ptr (.box b) 1):=am
def oc{H}{b}{x y}(c:H.boxes[b]?=J [x,y]):aD aa Gt H 22 (.ptr (.box b) 0)=J x:=by rw[fe Kf c];rfl
def w9{H}{b}{x y}(c:H.boxes[b]?=J [x,y]):aD aa Gt H 23 (.ptr (.box b) 1)=J y:=by rw[fe mE c];rfl
def pO(rows:List (List Int))(ac:List Int)(i:Nat):Bool:= !(rows.getD i []).isEmpty&&decide (F (rows.getD i [])=F (rows.getD 0 []))&&(decide (0<=ag ac i)&&decide (ag ac i<=63))&&(rows.getD i []).all cN
def RY(h:Heap)(x y:U)(rows:List (List Int))(ac:List Int)(hx:RL x rows)(E:IL y ac):
 ∃h',W2.call 35 [.agg [x,y]] h=J (.ret (.v (.int .i64 (cG rows ac))),h')/\h'=h.push [x,y]:=by
 have c1:=λ(hl:F rows<=64)=>ae1 86 (λd=>decide (64<F d)) (h.push [x,y]) x rows hx M (λa d _ ha=>akC a d ha _);obtain⟨k,X,i,rfl,hs,fa,mM⟩:=hx;obtain⟨R,C,rfl,jI⟩:=E;have kk:=ae.mk (aj hs (aj mM jI));clear hs mM jI;have u23:=cT;have u22:=gm;have z23:=gV;have z3:=eR;have eC:F (i.map λa=>[a])=F rows:=by rw[br];exact fa
 have Mm:=cE ac;have b0:(h.push [.list k X (i.map λa=>[a]),.list R C (ints ac)]).boxes[h.boxes.length]?=J [.list k X (i.map λa=>[a]),.list R C (ints ac)]:=aK _ _;have l0:=oc b0;have l1:=w9 b0;have bx:(U.agg [.list k X (i.map λa=>[a]),.list R C (ints ac)]).bG=J [.list k X (i.map λa=>[a]),.list R C (ints ac)]:=rfl;clear b0;unfold cG;refine gy O Tryz.func35 O ?_;by_cases h1:64<F rows
 .have hq:decide ((64:Int)<(F rows:Int))=V:=by simp;omega
  rw[av (by simp[h1])];clear c1;generalize u:h.push [.list k X (i.map λa=>[a]),.list R C (ints ac)]=z1 at *
  refine bA @uk @de @dR (aj @a_ @u) ?_;exact⟨_,O,O⟩
 have hq:decide ((64:Int)<(F rows:Int))=ai:=by simp;omega
 have c2:=c1 M;have hC:decide (64<F rows)=ai:=by simp[h1]
 rw[hC,Fc];clear c1 hC;cases h2:rows.any λd=>decide (64<F d) with
 |true=>rw[h2]at c2;rw[av O];clear h2;refine bA @uk @de @dR @a_ ?_;exact⟨_,O,O⟩|false=>
  rw[h2]at c2;rw[aP b7];by_cases h3:F rows=F ac;rotate_left 1
  .rw[av h3];clear h2;have hn:¬((F rows:Int)=(F ac:Int)):=(by omega);refine bA @uk @de @dR @a_ ?_;exact⟨_,O,O⟩
  rw[aP (by simpa using h3)];have tC:=ae.mk h2;have hn:(F rows:Int)=(F ac:Int):=by omega
  have f:=ae.mk h3;clear h2 h3;obtain⟨z1,u⟩:∃z1,h.push [.list k X (i.map λa=>[a]),.list R C (ints ac)]=z1:=⟨_,O⟩;rw[u]at l0 l1 c2;rw[u];generalize UN:(if ((bZ (F rows)).all λc=> !(rows.getD c []).isEmpty&&decide (F (rows.getD c [])=F (rows.getD 0 []))&&(decide (0<=ag ac c)&&decide (ag ac c<=63))&&(rows.getD c []).all cN)=V then (0:Int) else 230)=res;have kres:ae (res=if ((bZ (F rows)).all (pO rows ac))=V then (0:Int) else 230):=⟨UN.symm⟩;have kH:=ae.mk u;clear UN hn;have iq:F rows<=64:=by omega
  have hn':(F ac:Int)=(F rows:Int):=by have:=f.out;omega
  refine bA @uk @de @dR (aj @a_ @u) ?_;refine bC.gen λY r g' ek dm=>?_;have f1:Y.get 1=.ptr (.box (F h.boxes)) 0:=by rw[r];exact gS
  have f25:Y.get 25=.list k X (i.map λa=>[a]):=by rw[r];exact gS
  have f26:Y.get 26=.v (.int .i64 (F rows:Nat)):=by rw[r];exact gS
  have f27:Y.get 27=.v (.int .i64 (0:Nat)):=by rw[r];exact gR
  have fd:Y.defers=[]:=by rw[g'];exact gS
  clear r g' ek dm u bx c2 hq h1;refine b9 (λz4 z2 p=>∃c:Nat,c<=F rows/\z4=F rows-c/\ae (∀T,T<c->pO rows ac T=V)/\z2.get 1=.ptr (.box (F h.boxes)) 0/\z2.get 25=.list k X (i.map λa=>[a])/\z2.get 26=.v (.int .i64 (F rows:Nat))/\z2.get 27=.v (.int .i64 (c:Nat))/\z2.defers=[]/\p=z1) ?_ (F rows) _ _ ?_;rotate_left 1
  .exact⟨0,bV _,O,⟨λT hj=>absurd hj (mY _)⟩,f1,f25,f26,f27,fd,O⟩
  clear f1 f25 f26 f27 fd;rintro z4 z2 p ⟨c,hi,rfl,kf,g1,g25,g26,g27,hd,Tq⟩;rw[<-Tq]at l0 l1 kH ⊢;clear Tq;by_cases D:c<F rows;rotate_left 1
  .have gf:c=F rows:=(by omega);subst gf;have h0:res=0:=(by rw[kres.out,av];rw[eF];intro T hj;exact kf.out T (hy.1 hj));have k0:=ae.mk h0;clear h0;refine bg @uk ?_;exact⟨_,by rw[k0.out],O⟩
  have eo:X=1:=kk.out.1 (by intro q;rw[q]at D;simp at D);subst eo;have uX:C=1:=kk.out.2.2 (by intro q;have h0:=f.out;rw[q,fQ]at h0;omega);subst uX;obtain⟨a,yi⟩:∃a,i[c]?=J a:=⟨_,aN M⟩;obtain⟨d,hv⟩:∃d,rows[c]?=J d:=⟨_,aN D⟩;obtain⟨a0,v⟩:∃a,i[0]?=J a:=⟨_,aN M⟩;obtain⟨B,pY⟩:∃d,rows[0]?=J d:=⟨_,aN M⟩;have ld:=iN (H:=p) (s:=1) yi;have ld0:=iN (H:=p) (s:=1) v;have uS:=kk.out.2.1 c a d yi hv;obtain⟨ka,sa,rfl,qE⟩:=uS;obtain⟨ka0,sa0,rfl,DN⟩:=kk.out.2.1 0 a0 B v pY;have lH:=cE d;have aiu:=cE B;have ldo:=eJ (H:=p) (l:=ac) (i:=c) (s:=1) (by have:=f.out;omega);have TN:F d<=64:=by have:=tC.out;rw[P0]at this;have:=this d (cU hv);simpa using this
  have H:=Se 88 (λn=> !cN n) p (.list ka sa (ints d)) d ⟨_,_,O,qE⟩ M (λn _=>als n p);have cp:=WO (ag ac c) p;have Dw:pO rows ac c=(!d.isEmpty&&decide (F d=F B)&&rM (ag ac c)&&d.all cN):=by unfold pO rM;have g1:rows.getD c []=d:=(by rw[eG,hv];rfl);have g2:rows.getD 0 []=B:=(by rw[eG,pY];rfl);rw[g1,g2]
  have Z:(d.any λn=> !cN n)= !(d.all cN):=by rw[List.any_eq_not_all_not];simp
  rw[Z]at H;have e:=ae.mk Dw;have bad:pO rows ac c=ai->res=230:=by intro q;rw[kres.out,aP];intro z;rw[eF]at z;have:=z c (hy.2 D);rw[q]at this;cases this
  have o:=ae.mk bad;have fH:(c:Int)<(F rows:Int):=by omega
  have C9:(0:Int)<(F rows:Int):=by omega
  have z0:(0:Int).toNat=0:=rfl;clear Dw bad Z TN yi hv qE v pY DN;unfold I at *
  generalize ag ac c=z5 at *
  by_cases m:F d=0
  .have tO:decide ((F d:Int)=0)=V:=(by simp[m]);have g:res=230:=o.out (by rw[e.out,aan.1 m];rfl);have A:=ae.mk g;clear g m H cp;refine bA @uk @de @dR @aT ?_;exact⟨_,by rw[A.out],O⟩
  have tO:decide ((F d:Int)=0)=ai:=by simp[m]
  have j:d.isEmpty=ai:=by cases d with|nil=>exact absurd O m|cons _ _=>rfl
  by_cases L:F d=F B;rotate_left 1
  .have uV:decide ((F d:Int)=(F B:Int))=ai:=(by simp;omega);have g:res=230:=o.out (by rw[e.out,j,b_ L];rfl);have A:=ae.mk g;clear g m L j H cp;refine bA @uk @de @dR @aT ?_;exact⟨_,by rw[A.out],O⟩
  have uV:decide ((F d:Int)=(F B:Int))=V:=by simp;omega
  cases s:rM z5 with
  |false=>have g:res=230:=o.out (by rw[e.out,s];simp);have A:=ae.mk g;rw[s]at cp;clear g m L j H s;refine bA @uk @de @dR @aT ?_;exact⟨_,by rw[A.out],O⟩
  |true=>
   rw[s]at cp;cases N:d.all cN with
   |false=>have g:res=230:=o.out (by rw[e.out,N];simp);have A:=ae.mk g;rw[N]at H;clear g m L j s N;refine bA @uk @de @dR @aT ?_;exact⟨_,by rw[A.out],O⟩
   |true=>
    rw[N]at H;have kf2:ae (∀T,T<c+1->pO rows ac T=V):=⟨λT hj=>by
     rcases dp T c with q|q
     .exact kf.out T q
     .rw[(M:T=c),e.out,j,bQ L,s,N];rfl⟩
    clear m L j s N e kf;refine bA @uk @de @dR @aT ?_;exact⟨F rows-(c+1),by omega,c+1,by omega,O,kf2,by simp⟩
def BG:Tryz.f178.results.toList=[.tmp 4,.tmp 5]:=am
def apY:Tryz.f234.results.toList=[.tmp 4]:=am
def apZ:Tryz.f235.results.toList=[.tmp 2]:=am
def ap0:Tryz.f179.results.toList=[.tmp 2]:=am
def Wd(n)(h):W2.call 179 [I n] h=J (.ret (.v (.bool ai)),h):=by
 unfold I;refine cq O Tryz.func179 O ?_
 repeat' (first|simp(maxSteps:=9999999) (disch:=first|exact dZ|fail) only[gW,reduceIte,aJ,aB,ap0,ne_eq,not_true_eq_false,decide_false, *]|refine dX ?_ ?_<;>(intro _;try omega))
def ak8(n)(h):W2.call 235 [I n] h=J (.ret (.v (.bool ai)),h):=by
 unfold I;refine cq O Tryz.func235 O ?_
 repeat' (first|simp(maxSteps:=9999999) (disch:=first|exact dZ|fail) only[gW,reduceIte,aJ,aB,apZ,ne_eq,not_true_eq_false,decide_false, *]|refine dX ?_ ?_<;>(intro _;try omega))
def akj(a b)(h):W2.call 234 [I a,I b] h=J (.ret (.v (.bool (decide (a<b)))),h):=by
 have c:=Wd a h;have d:=Wd b h;unfold I at *
 refine cq O Tryz.func234 O ?_;exact iB @apY
def tg(n)(h):jX aa h 176 3 (.v (.int .u64 n))=J (.v (.int .i64 (IntKind.i64.wrap n)),h):=am
def ul{t}{x y}{n}:cy aa .shr t x y (.v (.int .u64 (n:Nat))) (.v (.int .u64 1))=J (.v (.int .u64 ((n/2:Nat):Int))):=by rw[z_ aY];congr 3;show((n:Nat):Int).fdiv (2^1)=_;rw[Int.fdiv_eq_ediv_of_nonneg _ aY];simp
def wrap_u64{n}(h:n<18446744073709551616):IntKind.u64.wrap (n:Nat)=(n:Nat):=by show((n:Nat):Int).emod 18446744073709551616=_;exact Int.emod_eq_of_lt M M
def pE(who:List Int):Prop:=∀d c:Nat,d<c->c<F who->ag who d<ag who c
def Kp{l}{i}(h:i<F l):ag l i∈l:=by rw[fS h];exact iP h
def V7{l}{x}(h:x∈l):∃i,i<F l/\ag l i=x:=by obtain⟨i,c,rfl⟩:=aak h;exact⟨i,c,fS c⟩
def Yg(h:Heap)(x:U)(who:List Int)(o:Int)(hx:IL x who)(hs:pE who)(hl:F who<=1000000):
 ∃r h',W2.call 178 [x,I o] h=J (r,h')/\h'=h/\∃i:Int,r=.ret (.tuple [I i,.v (.bool (who.contains o))]):=by
 obtain⟨k,z0,rfl,X⟩:=hx;have L:=ae.mk (aj X hs);clear X hs;have u23:=cT;have z3:=eR;have eC:=cE who;have Mh:=λn=>ak8 n h;unfold I at *
 refine bL O Tryz.func178 O ?_;refine bg @BG ?_;refine bC.gen λv j T ek dm=>?_;have f0:v.get 0=.list k z0 (ints who):=by rw[j];exact gS
 have f1:v.get 1=.v (.int .i64 o):=by rw[j];exact gS
 have f6:v.get 6=.v (.int .i64 (F who:Nat)):=by rw[j];exact gS
 have f7:v.get 7=.v (.int .i64 (0:Nat)):=by rw[j];exact gR
 have f8:v.get 8=.v (.int .i64 (F who:Nat)):=by rw[j];exact gS
 have fd:v.defers=[]:=by rw[T];exact gS
 clear j T ek dm;refine b9 (λz1 Z Y=>∃c f:Nat,c<=f/\f<=F who/\z1=f-c/\ae ((∀e,e<c->ag who e<o)/\∀e,f<=e->e<F who->o<=ag who e)/\Z.get 0=.list k z0 (ints who)/\Z.get 1=.v (.int .i64 o)/\Z.get 6=.v (.int .i64 (F who:Nat))/\Z.get 7=.v (.int .i64 (c:Nat))/\Z.get 8=.v (.int .i64 (f:Nat))/\Z.defers=[]/\Y=h) ?_ (F who) _ _ ?_;rotate_left 1
 .exact⟨0,who.length,bV _,aV _,O,⟨λe A=>absurd A (mY _),λe h1 h2=>by omega⟩,f0,f1,f6,f7,f8,fd,O⟩
 clear f0 f1 f6 f7 f8 fd;rintro z1 Z Y ⟨c,f,h1,h2,rfl,R,g0,g1,g6,g7,g8,hd,rfl⟩;by_cases dj:c<f
 .have C:z0=1:=L.out.1 (by intro q;rw[q,fQ]at h2;omega);subst C;obtain⟨d,p⟩:∃d:Nat,(c+f)/2=d:=⟨_,O⟩;have ld:=eJ (H:=Y) (l:=who) (i:=d) (s:=1) M;have ls:=akj (ag who d) o Y;have fH:(c:Int)<(f:Int):=by omega
  have wM:(c:Int)+(f:Int)=((c+f:Nat):Int):=by omega
  have AW:IntKind.u64.wrap ((c+f:Nat):Int)=((c+f:Nat):Int):=wrap_u64 M;have oy:IntKind.i64.wrap (((c+f)/2:Nat):Int)=((d:Nat):Int):=by rw[p];exact ja M M
  have Ur:(d:Int)<(F who:Int):=by omega
  unfold I at ls;by_cases g:ag who d<o
  .have m:decide (ag who d<o)=V:=(by simp[g]);rw[m]at ls;have D:ae ((∀e,e<d+1->ag who e<o)/\∀e,f<=e->e<F who->o<=ag who e):=⟨λe A=>by
    rcases dp e d with q|q
    .exact ZW (L.out.2 e d q M) g
    .rw[(M:e=d)];exact g,R.out.2⟩
   have H:=ae.mk p;clear g m p;refine bA @BG @aT @me (aj @tg @ul) ?_;have:=H.out;exact⟨f-(d+1),by omega,d+1,f,by omega,h2,O,D,aX,aX,aX,by simp,O,aX,aX⟩
  .have m:decide (ag who d<o)=ai:=(by simp[g]);rw[m]at ls;have D:ae ((∀e,e<c->ag who e<o)/\∀e,d<=e->e<F who->o<=ag who e):=⟨R.out.1,λe A Uj=>by
    rcases dp d e with q|q
    .have:=L.out.2 d e q Uj;omega
    .rw[(M:e=d)];omega⟩
   have H:=ae.mk p;clear g m p;refine bA @BG @aT @me (aj @tg @ul) ?_;have:=H.out;exact⟨d-c,by omega,c,d,by omega,by omega,O,D,aX,aX,aX,O,by simp,aX,aX⟩
 .have B:c=f:=by omega
  subst B;have s:∀e,e<F who->ag who e=o->e=c:=by
   intro e A he;rcases Nat.lt_trichotomy e c with q|q|q
   .have:=R.out.1 e q;omega
   .exact q
   .have h3:=L.out.2 c e q A;have h4:=R.out.2 c (aV _) M;omega
  by_cases u:c<F who
  .have C:z0=1:=L.out.1 (by intro q;rw[q,fQ]at u;omega);subst C;have ld:=eJ (H:=Y) (l:=who) (i:=c) (s:=1) u;have fH:(c:Int)<(F who:Int):=(by omega);have Dq:decide ((c:Int)<(F who:Int))=V:=(by simp[u]);by_cases y:ag who c=o
   .have g:who.contains o=V:=(by rw[v9,bQ (by rw[<-y];exact Kp u)]);have E:=ae.mk g;have hC:decide (ag who c=o)=V:=(by simp[y]);clear g y s;refine bE @BG @aT ?_;exact⟨_,_,O,O,_,by rw[E.out]⟩
   .have g:who.contains o=ai:=(by rw[v9,b_];intro q;obtain⟨e,j1,N⟩:=V7 q;have:=s e j1 N;subst this;exact y N);have E:=ae.mk g;have hC:decide (ag who c=o)=ai:=(by simp[y]);clear g y s;refine bE @BG @aT ?_;exact⟨_,_,O,O,_,by rw[E.out]⟩
  .have g:who.contains o=ai:=(by rw[v9,b_];intro q;obtain⟨e,j1,N⟩:=V7 q;have:=s e j1 N;omega);have E:=ae.mk g;have B:c=F who:=(by omega);subst B;have Dq:decide ((F who:Int)<(F who:Int))=ai:=(by simp);clear g s;refine bE @BG @aT ?_;exact⟨_,_,O,O,_,by rw[E.out]⟩
def apO:Tryz.f165.results.toList=[.tmp 4]:=am
def BF:Tryz.f219.results.toList=[]:=am
def alP(h:Heap)(x y z:U)(c:(U.agg [x,y]).bG=J [x,y])(d:z.bG=J [z]):W2.call 165 [.agg [x,y],z] h=J (.ret (.func (.func 219) [] [.ptr (.box (F h.boxes)) 0,.ptr (.box (F h.boxes+1)) 0]),(h.push [x,y]).push [z]):=by refine cq O Tryz.func165 O ?_;exact o0 @apO @a_ @bF
def alQ(l D L:Nat)(k0:Tok)(s0:Nat)(xs:List U)(y z:U)(rows:List (List Int))(ac who:List Int)(Inv:Nat->Heap->Prop)
 (E:IL y ac) (hz:IL z who) (fa:F xs=F rows) (q:F ac=F rows) (r:rows≠[]->s0=1) (g:pE who) (Z:F who<=1000000) (lH:F rows<=1000000)
 (C:∀k H,Inv k H->H.boxes[D]?=J [.list k0 s0 (xs.map λa=>[a]),y]/\H.boxes[L]?=J [z])
 (R:∀k a H,k<F rows->xs[k]?=J a->who.contains (ag ac k)=V->Inv k H->∃H',W2.round l [I (k:Nat),a] H=J (.ret (.v (.bool V)),H')/\Inv (k+1) H')
 (T:∀k H,k<F rows->who.contains (ag ac k)=ai->Inv k H->Inv (k+1) H)
 (v:Heap) (B:Inv 0 v):∃H',W2.call 219 [.yield l,.ptr (.box D) 0,.ptr (.box L) 0] v=J (.ret (.tuple []),H')/\Inv (F rows) H':=by
 have c:=ae.mk (aj C (aj R (aj T (aj B (aj r (aj g hz))))));obtain⟨f,m⟩:=C 0 v B;have l1:=oc f;obtain⟨ky,sy,rfl,u⟩:=E;have ksy:=ae.mk u;clear C R T B r g hz f m u;have u23:=cT;have u22:=gm;have z3:=eR;have z23:=gV;have eC:F (xs.map λa=>[a])=F rows:=by rw[br];exact fa
 have uS:F (ints ac)=F rows:=by rw[cE];exact q
 refine gy O Tryz.func219 O ?_;refine cK @BF @de @dR ?_;refine b9 (λz1 p H=>∃k:Nat,k<=F rows/\z1=F rows-k/\ae (Inv k H)/\p.get 0=.yield l/\p.get 1=.ptr (.box D) 0/\p.get 2=.ptr (.box L) 0/\p.get 9=.list k0 s0 (xs.map λa=>[a])/\p.get 10=.v (.int .i64 (F rows:Nat))/\p.get 11=.v (.int .i64 (k:Nat))/\p.defers=[]) ?_ (F rows) _ _ ?_;rotate_left 1
 .refine⟨0,bV _,O,⟨c.out.2.2.2.1⟩,?_,?_,?_,?_,?_,?_,?_⟩<;>exact gR
 clear l1;rintro z1 p H ⟨k,hk,rfl,e,g0,g1,g2,g9,g10,g11,hd⟩;by_cases i:k<F rows;rotate_left 1
 .have:k=F rows:=by omega
  subst this;refine bg @BF ?_;exact⟨_,O,e.out⟩
 obtain⟨f,m⟩:=c.out.1 k H e.out;have X:s0=1:=c.out.2.2.2.2.1 (by intro z0;rw[z0,fQ]at i;omega);subst X;have Y:sy=1:=ksy.out (by intro z0;rw[z0,fQ]at q;omega);subst Y;obtain⟨a,o⟩:∃a,xs[k]?=J a:=⟨_,aN M⟩;have ld:=iN (H:=H) (s:=1) o;have lo:=eJ (H:=H) (l:=ac) (i:=k) (s:=1) M;have l1:=w9 f;have l2:=vf m;obtain⟨_,H2,A,N,z2,rfl⟩:=Yg H z who (ag ac k) c.out.2.2.2.2.2.2 c.out.2.2.2.2.2.1 Z;rw[N]at A;clear N f m;have fH:(k:Int)<(F rows:Int):=by omega
 cases d:who.contains (ag ac k) with
 |true=>
  obtain⟨H',r1,r2⟩:=c.out.2.1 k a H i o d e.out;rw[d]at A;have j:=ae.mk r2;clear r2 o d e;unfold I at *
  refine bA @BF @de @dR @aT ?_;refine du wk am ?_;refine bA @BF @de @dR (aj @aT @xN) ?_;exact⟨F rows-(k+1),by omega,k+1,by omega,O,j,by simp⟩
 |false=>
  have j:=ae.mk (c.out.2.2.1 k H i d e.out);rw[d]at A;clear o d e;unfold I at *
  refine bA @BF @de @dR @aT ?_;refine du wk am ?_;refine bA @BF @de @dR (aj @aT @xN) ?_;exact⟨F rows-(k+1),by omega,k+1,by omega,O,j,by simp⟩
structure xD(h H:Heap)(t1 t2:Tok):Prop where
 c1:db h.tn H t1
 c2:db h.tn H t2
 ne:∀a,t1=.free a->t2≠ .free a
 ok:c_ H=V
 ext:Ext h H
def CN{n0}{H}{t k}(f:db n0 H k)(d:∀a,t=.free a->k≠ .free a):db n0 (H.app t) k:=by
 rcases f with q|q|⟨l,rfl,i,c⟩
 .exact .inl q
 .exact .inr (.inl q)
 .refine .inr (.inr ⟨l,O,i,?_⟩);have j:=qu c;unfold alive at *
  simp only[bm,Ca,v9,decide_eq_false_iff_not,decide_eq_true_eq]at *
  refine⟨by rw[CJ];omega,?_⟩;cases t with
  |free a=>
   intro g;rcases gL.1 g with e|e
   .exact d a O (by rw[e])
   .exact c.2 e
  |_=>exact c.2
def xD.app{h H}{t1 t2}(w:xD h H t1 t2):db h.tn (H.app t1) t2/\xD h ((H.app t1).app t2) (.free H.tn) (.free (H.app t1).tn):=by
 have i:=w.ext.tn;have e:=Grown.one (n0:=h.tn) w.c1 w.ok i;have f:=CN w.c2 w.ne;have g:=Grown.one (n0:=h.tn) f e.ok (eS i e.tn);refine⟨f,?_,g.can,?_,g.ok,g.ext (e.ext w.ext (aV _)) (aV _)⟩
 .refine CN e.can λa c d=>?_;injection d with d;subst d;rcases f with q|q|⟨o,q,-,m⟩
  .rw[q]at c;cases c
  .rw[q]at c;cases c
  .rw[q]at c;injection c with c;subst c;rcases w.c2 with z|z|⟨l,z,-,j⟩
   .rw[z]at q;cases q
   .rw[z]at q;cases q
   .rw[z]at q;injection q with q;have:=qu j;omega
 .intro a c d;injection c with c;injection d with d;rw[CJ]at d;omega
def xD.put{h H}{t1 t2}(w:xD h H t1 t2){b}(c:F h.boxes<=b)(cs):xD h (H.put b cs) t1 t2:=⟨w.c1,w.c2,w.ne,w.ok,w.ext.fy c cs⟩
def ui:Tryz.f92.results.toList=[.cell 4 22,.cell 5 23,.tmp 6,.tmp 7]:=am
def at9:(fM aa 22).bind U.bG=J [.list .nil 0 []]:=am
def aua:(fM aa 23).bind U.bG=J [.list .nil 0 []]:=am
def asN:cB aa 22=J 1:=am
def Q1{H}{k}{n0 sz}{es}{x}(o:F es<1000000)(f:sz=1∨(es=[]/\k=.nil))(e:db n0 H k):
 gb aa H #[22,22] (.list k sz (es.map λa=>[a])) (.list .tight 1 [[x]])=J (.list (.free H.tn) 1 ((es++[x]).map λa=>[a]),H.app k):=by
 obtain⟨l,g,c,i,j⟩:=Hj;have m:=ji (M:F es+1<=1000000) i;have:=zX (t0:=22) (t1:=22) (n0:=n0) (i:=l) (sz:=sz) (es:=es.map λa=>[a]) (new:=[[x]]) (x:=.list .tight 1 [[x]]) gm (.inl ⟨_,gm⟩) g M (by rw[c];exact j) (by rw[c];rfl) b7
  (by simp only[br,dY,fQ,nX];omega) (by simp only[br,dY,fQ];omega) (f.imp (λd=>d.trans c.symm) λd=>⟨by rw[d.1];rfl,d.2⟩) e
 rw[c]at this;rw[jB];exact this
def gE(xs:List U)(ac who:List Int)(k:Nat):List U:=((bZ k).filter λc=>who.contains (ag ac c)).map λc=>xs.getD c default
def er(ac who:List Int)(k:Nat):List Nat:=(bZ k).filter λc=>who.contains (ag ac c)
def WT{ac who}{k}(h:who.contains (ag ac k)=V):er ac who (k+1)=er ac who k++[k]:=by unfold er;rw[jT,zH,sF,av h];rfl
def WS{ac who}{k}(h:who.contains (ag ac k)=ai):er ac who (k+1)=er ac who k:=by unfold er;rw[jT,zH,sF,aP (by rw[h];simp)];simp
def WR{xs}{ac who}{k}{a}(h:who.contains (ag ac k)=V)(c:xs[k]?=J a):gE xs ac who (k+1)=gE xs ac who k++[a]:=by
 have d:xs.getD k default=a:=by rw[eG,c];rfl
 unfold gE;rw[jT,zH,sF,av h,List.filter_nil,jB,eD,List.map_nil,d]
def WQ{xs}{ac who}{k}(h:who.contains (ag ac k)=ai):gE xs ac who (k+1)=gE xs ac who k:=by unfold gE;rw[jT,zH,sF,aP (by rw[h];simp)];simp
def WP{xs}{ac who}{k}:F (gE xs ac who k)<=k:=by unfold gE;rw[br];exact eS (P9 _ _) b7
def HP:∀(who:List Int) (c:Int),dy c who=V->(∀i,i<F who->c<ag who i)/\pE who:=by
 intro who
 induction who with
 |nil=>exactλ_ _=>⟨λi e=>absurd e (mY _),λi g _ d=>absurd d (mY _)⟩|cons n o l=>
  intro c h;unfold dy at h;simp only[bm,decide_eq_true_eq]at h;obtain⟨f,j⟩:=l n h.2;refine⟨λi e=>?_,λi g m d=>?_⟩
  .cases i with|zero=>exact h.1.1|succ i=>exact ZW h.1.1 (f i (by simpa using e))
  .cases g with
   |zero=>omega|succ g=>
    cases i with|zero=>exact f g (by simpa using d)|succ i=>exact j i g M (by simpa using d)
def Hr{H}{b}{x}(c:H.boxes[b]?=J [x]):aD aa Gt H 22 (.ptr (.box b) 0)=J x:=by rw[fe Kf c];rfl
def O9{H}{b}{x}{k}{s}{es}(c:H.boxes[b]?=J [x]):bY aa H 22 (.ptr (.box b) 0) (.list k s es)=J (H.put b [.list k s es]):=fE (off:=0) (cs:=[x]) (xs:=[.list k s es]) O asN c O (aV 1)
def IX{H}{b}{x}{k}{s}{es}(c:H.boxes[b]?=J [x]):bY aa H 23 (.ptr (.box b) 0) (.list k s es)=J (H.put b [.list k s es]):=fE (off:=0) (cs:=[x]) (xs:=[.list k s es]) O gV c O (aV 1)
def Pe:cB aa 25=J 2:=am
def tV{H}{b}{x y}(c:H.boxes[b]?=J [x,y]):aD aa Gt H 25 (.ptr (.box b) 0)=J (.agg [x,y]):=by rw[fC zU Pe c (aV 2)];rfl
def acl{who}(h:pE who)(d:∀i,i<F who-> -1<ag who i):∀i:Nat,i<F who->(i:Int)<=ag who i:=by
 intro i
 induction i with
 |zero=>intro c;have:=d 0 c;omega|succ i e=>intro c;have f:=e M;have h2:=h i (i+1) M c;omega
def amh:∀(who:List Int) (c:Int),dy c who=V->∀i,i<F who->ag who i<=63:=by
 intro who
 induction who with
 |nil=>exactλ_ _ i d=>absurd d (mY _)|cons n f e=>
  intro c h i d;unfold dy at h;simp only[bm,decide_eq_true_eq]at h;cases i with|zero=>exact h.1.2|succ i=>exact e n h.2 i (by simpa using d)
def ack{who}(h:dy (-1) who=V):F who<=64:=by
 obtain⟨c,h2⟩:=HP who (-1) h;rcases dp 64 (F who) with q|q
 .have d:=acl h2 c 64 q;have e:=amh who (-1) h 64 q;omega
 .exact q
def vE(k)(s)(l):cH (.list k s (ints l)) (.list k s (ints l))=V:=by
 have h:ml (ints l) (ints l)=V:=by
  induction l with
  |nil=>simp[ints,ml]|cons n l c=>have:ints (n::l)=[.v (.int .i64 n)]::ints l:=rfl;rw[this];simp[ml,fL,cH,gH,c]
 rw[cH,h,Bool.and_true];cases k<;>simp[qU]
def Rp{H:Heap}{l}{r}{t}:(H.busy l r).app t=(H.app t).busy l r:=by cases t<;>rfl
def agc{H:Heap}{l}{r}{t1 t2}{c d}{e c2}:({boxes:=(((((H.busy l r).app t1).app t2).put c e).put d c2).boxes,loops:=H.loops,tn:=(((((H.busy l r).app t1).app t2).put c e).put d c2).tn,dead:=(((((H.busy l r).app t1).app t2).put c e).put d c2).dead}:Heap)=(((H.app t1).app t2).put c e).put d c2:=by cases t1<;>cases t2<;>rfl
def Fz(h:Heap)(L:List gM)(e f b3 b4 g:Nat)(i j l:List U)(xs:List U)(ac who:List Int)(k:Nat)(H:Heap):Prop:=
 ∃t1 c t2 d,H.loops=L/\H.boxes[e]?=J [.list t1 c ((gE xs ac who k).map λa=>[a])]/\H.boxes[f]?=J [.list t2 d (ints (cJ (er ac who k)))]/\(c=1∨(gE xs ac who k=[]/\t1=.nil))/\(d=1∨(cJ (er ac who k)=[]/\t2=.nil))/\xD h H t1 t2/\H.boxes[b3]?=J i/\H.boxes[b4]?=J j/\H.boxes[g]?=J l
def am4(l)(k:Nat):cJ (l++[k])=cJ l++[(k:Int)]:=by unfold cJ;simp
def amk{ac who}{k}:F (cJ (er ac who k))<=k:=by unfold cJ er;rw[br];exact eS (P9 _ _) b7
def Qq(xs:List U)(rows:List (List Int))(ac who:List Int)(h:Heap)(r:dO)(h':Heap):Prop:=
 Ext h h'/\if cG rows ac≠0 then r=.ret (.tuple [.list .nil 0 [],.list .nil 0 [],.list .nil 0 [],.v (.int .i64 (cG rows ac))])
  else if dy (-1) who=ai then r=.ret (.tuple [.list .nil 0 [],.list .nil 0 [],.list .nil 0 [],.v (.int .i64 1)])
  else ∃c e d f g,r=.ret (.tuple [.list c e ((gE xs ac who (F rows)).map λa=>[a]),.list d f (ints (cJ (er ac who (F rows)))),.arr g 0 (cd rows) (cd rows),.v (.int .i64 0)])/\(e=1∨(gE xs ac who (F rows)=[]/\c=.nil))/\(f=1∨(cJ (er ac who (F rows))=[]/\d=.nil))/\h'.boxes[g]?=J ((eZ (cd rows)).map I)
def anr(h:Heap)(d:Tok)(s0:Nat)(xs:List U)(y z:U)(rows:List (List Int))(ac who:List Int)(hx:RL (.list d s0 (xs.map λa=>[a])) rows)(fa:F xs=F rows)(E:IL y ac)(hz:IL z who)(pZ:F who<=1099511627776)(ho:c_ h=V):
 ∃r h',W2.call 92 [.agg [.list d s0 (xs.map λa=>[a]),y],z] h=J (r,h')/\Qq xs rows ac who h r h':=by
 obtain⟨c,c97,e1⟩:=RY (((h.push [.list d s0 (xs.map λa=>[a]),y]).push [.list .nil 0 []]).push [.list .nil 0 []]) _ y rows ac hx E;have kyz:=ae.mk (aj hx (aj E (aj hz ho)));have bx:(U.agg [.list d s0 (xs.map λa=>[a]),y]).bG=J [.list d s0 (xs.map λa=>[a]),y]:=by obtain⟨ky,sy,rfl,-⟩:=E;rfl
 have X1:Ext h c:=by rw[e1];exact(((Ext.push _ _).trans (.push _ _)).trans (.push _ _)).trans (.push _ _)
 have p0:c.boxes[h.boxes.length]?=J [.list d s0 (xs.map λa=>[a]),y]:=by rw[e1];exact aM (aM (aM (aK _ _)))
 have o:c.boxes[F h.boxes+1]?=J [.list .nil 0 []]:=by rw[e1];exact aM (aM (mJ (by rw[bF])))
 have j:c.boxes[F h.boxes+1+1]?=J [.list .nil 0 []]:=by rw[e1];exact aM (mJ (by rw[bF,bF]))
 have Y:F c.boxes=F h.boxes+4:=by rw[e1];simp only[bF]
 have vo:c_ c=V:=X1.ok ho;have l0:aD aa Gt (((h.push [.list d s0 (xs.map λa=>[a]),y]).push [.list .nil 0 []]).push [.list .nil 0 []]) 25 (.ptr (.box (F h.boxes)) 0)=J (.agg [.list d s0 (xs.map λa=>[a]),y]):=tV (aM (aM (aK _ _)));have tn1:c.tn=h.tn:=by rw[e1];rfl
 have kX:=ae.mk (aj X1 (aj vo (aj Y tn1)));have z22:=at9;have z23:=aua;have kp:=ae.mk (aj p0 (aj o j));have s4:=λ(k:Tok) s es=>O9 (k:=k) (s:=s) (es:=es) o;have L:=(aS.1 o).1;have R:=(aS.1 j).1;clear e1 X1 p0 Y vo tn1 hx E ho;unfold Qq;refine bL O Tryz.func92 O ?_;generalize DI:cG rows ac=pe at *
 by_cases yG:pe=0;rotate_left 1
 .have s5:bY aa (c.put (F h.boxes+1) [.list .nil 0 []]) 23 (.ptr (.box (F h.boxes+1+1)) 0) (.list .nil 0 [])=J ((c.put (F h.boxes+1) [.list .nil 0 []]).put (F h.boxes+1+1) [.list .nil 0 []]):=IX (by rw[cr M];exact j);have m1:aD aa Gt ((c.put (F h.boxes+1) [.list .nil 0 []]).put (F h.boxes+1+1) [.list .nil 0 []]) 22 (.ptr (.box (F h.boxes+1)) 0)=J (.list .nil 0 []):=Hr (by rw[cr M];exact dn L);have m2:aD aa Gt ((c.put (F h.boxes+1) [.list .nil 0 []]).put (F h.boxes+1+1) [.list .nil 0 []]) 23 (.ptr (.box (F h.boxes+1+1)) 0)=J (.list .nil 0 []):=vf (dn (by rw[jd];exact R));have TZ:decide (pe=0)=ai:=by simp[yG]
  clear o j hz L R;refine cK @ui @a_ @bF ?_;exact⟨_,_,O,(kX.out.1.fy M _).fy M _,by rw[av yG]⟩
 .subst yG;obtain⟨f,e,rfl,gC⟩:=kyz.out.2.2.1;have ksz:=ae.mk gC;clear gC hz;have u23:=cT;have z3':=eR;have avk:=cE who;have kpe:=ae.mk DI;clear DI;refine cK @ui @a_ @bF ?_;refine bC.gen λH i g' ek C=>?_;have f1:H.get 1=.list f e (ints who):=by rw[i];exact gS
  have f2:H.get 2=.ptr (.box (F h.boxes)) 0:=by rw[i];exact gS
  have f4:H.get 4=.ptr (.box (F h.boxes+1)) 0:=by rw[i];simp only[gW,reduceIte,aJ,aB,bF]
  have f5:H.get 5=.ptr (.box (F h.boxes+1+1)) 0:=by rw[i];simp only[gW,reduceIte,aJ,aB,bF]
  have f8:H.get 8=.v (.int .i64 (-1)):=by rw[i];exact gS
  have f19:H.get 19=.list f e (ints who):=by rw[i];exact gS
  have f20:H.get 20=.v (.int .i64 (F who:Nat)):=by rw[i];exact gS
  have f21:H.get 21=.v (.int .i64 (0:Nat)):=by rw[i];exact gR
  have fd:H.defers=[]:=by rw[g'];exact gS
  clear i g' ek C l0 c97;refine b9 (λz4 z2 X=>∃(T:Nat) (g:Int),T<=F who/\z4=F who-T/\ -1<=g/\ae (dy g (who.drop T)=dy (-1) who)/\z2.get 1=.list f e (ints who)/\z2.get 2=.ptr (.box (F h.boxes)) 0/\z2.get 4=.ptr (.box (F h.boxes+1)) 0/\z2.get 5=.ptr (.box (F h.boxes+1+1)) 0/\z2.get 8=.v (.int .i64 g)/\z2.get 19=.list f e (ints who)/\z2.get 20=.v (.int .i64 (F who:Nat))/\z2.get 21=.v (.int .i64 (T:Nat))/\z2.defers=[]/\X=c) ?_ (F who) _ _ ?_;rotate_left 1
  .exact⟨0,-1,bV _,O,Cd _,⟨O⟩,f1,f2,f4,f5,f8,f19,f20,f21,fd,O⟩
  clear f1 f2 f4 f5 f8 f19 f20 f21 fd;rintro z4 z2 c ⟨T,g,hi,rfl,DB,kP,g1,g2,g4,g5,g8,g19,g20,g21,hd,rfl⟩;by_cases dj:T<F who
  .have eo:e=1:=ksz.out (by intro z1;rw[z1,fQ]at dj;omega);subst eo;have ld:=eJ (H:=c) (l:=who) (s:=1) dj;have cp:=WO (ag who T) c;have fH:(T:Int)<(F who:Int):=(by omega);have q:who.drop T=ag who T::who.drop (T+1):=(by rw[fS dj];exact ss dj);have u:=kP.out;rw[q,dy]at u;have s5:bY aa (c.put (F h.boxes+1) [.list .nil 0 []]) 23 (.ptr (.box (F h.boxes+1+1)) 0) (.list .nil 0 [])=J ((c.put (F h.boxes+1) [.list .nil 0 []]).put (F h.boxes+1+1) [.list .nil 0 []]):=IX (by rw[cr M];exact j);have m1:aD aa Gt ((c.put (F h.boxes+1) [.list .nil 0 []]).put (F h.boxes+1+1) [.list .nil 0 []]) 22 (.ptr (.box (F h.boxes+1)) 0)=J (.list .nil 0 []):=Hr (by rw[cr M];exact dn L);have m2:aD aa Gt ((c.put (F h.boxes+1) [.list .nil 0 []]).put (F h.boxes+1+1) [.list .nil 0 []]) 23 (.ptr (.box (F h.boxes+1+1)) 0)=J (.list .nil 0 []):=vf (dn (by rw[jd];exact R));unfold I rM at *
   generalize ag who T=n at *
   by_cases h1:0<=n/\n<=63
   .have hC:(decide (0<=n)&&decide (n<=63))=V:=(by simp[h1.1,h1.2]);rw[hC]at cp;by_cases h2:n<=g
    .have jk:decide (n<=g)=V:=(by simp[h2]);have hf:dy (-1) who=ai:=(by rw[<-u];simp;omega);have kf:=ae.mk hf;clear u hf q o j h2 h1 kP;refine bE @ui @aT ?_;exact⟨_,_,O,(kX.out.1.fy M _).fy M _,by rw[aP (by simp[kpe.out]),av kf.out]⟩
    .have jk:decide (n<=g)=ai:=(by simp;omega);have kP2:ae (dy n (who.drop (T+1))=dy (-1) who):=⟨by rw[<-u,bQ (M:g<n),bQ h1.2];rfl⟩;have h3: -1<=n:=(by omega);clear u q o j h2 h1 kP s4 s5 m1 m2;refine bE @ui @aT ?_;exact⟨F who-(T+1),by omega,T+1,n,by omega,O,h3,kP2,by simp⟩
   .have hC:(decide (0<=n)&&decide (n<=63))=ai:=(by simp only[ZF,decide_eq_false_iff_not];omega);rw[hC]at cp;have hf:dy (-1) who=ai:=(by rw[<-u];simp only[ZF,decide_eq_false_iff_not];omega);have kf:=ae.mk hf;clear u hf q o j h1 kP;refine bE @ui @aT ?_;exact⟨_,_,O,(kX.out.1.fy M _).fy M _,by rw[aP (by simp[kpe.out]),av kf.out]⟩
  .have gf:T=F who:=(by omega);subst gf;have hf:dy (-1) who=V:=(by rw[<-kP.out,mW (aV _)];rfl);have kf:=ae.mk hf;clear hf kP;obtain⟨o1,o2,o3,o4⟩:=ub kpe.out;obtain⟨n1,n2⟩:=uI kpe.out;have TH:=(HP who (-1) kf.out).2;have avl:=ack kf.out;have ko:=ae.mk (aj o3 TH);have Tx:(rows≠[]->s0=1)/\∀(T:Nat) (a:U) (r:List Int),xs[T]?=J a->rows[T]?=J r->IL a r:=(by obtain⟨N,s',xs',he,G1,-,D⟩:=kyz.out.1;injection he with _ MH he;have:=(JJ (λx y h=>by injection h)).1 he;subst this;subst MH;exact⟨G1,D⟩);have kRL:=ae.mk Tx;have ko1:=ae.mk o1;have l22:aD aa Gt c 22 (.ptr (.box (F h.boxes)) 0)=J (.list d s0 (xs.map λa=>[a])):=oc kp.out.1;have u22:=gm;have eC:F (xs.map λa=>[a])=F rows:=(by rw[br];exact fa);have mk:=vk c (cd rows) M .i64 .i64;have rC:bB (cd rows) (I 0)=(bB (cd rows) (0:Int)).map I:=(by rw[xx]);rw[rC]at mk;have sk:=um (H:=c.push ((bB (cd rows) (0:Int)).map I)) (b:=c.boxes.length) (r:=bB (cd rows) (0:Int)) (k:=0) (x:=1) (aK _ _) (by rw[l8];exact n1);have UW:(bB (cd rows) (0:Int)).set 0 1=eZ (cd rows):=(by obtain⟨z3,A⟩:∃z3,cd rows=z3+1:=⟨cd rows-1,by omega⟩;rw[A];unfold eZ;rw[Co];rfl);rw[lO,UW]at sk;have ix:dH aa 23 (.arr (F c.boxes) 0 (cd rows) (cd rows)) (.v (.int .i64 0))=J (.ptr (.box (F c.boxes)) 0):=nN (n:=0) (k:=.i64) n1;have l25:aD aa Gt (c.push ((eZ (cd rows)).map I)) 25 (.ptr (.box (F h.boxes)) 0)=J (.agg [.list d s0 (xs.map λa=>[a]),y]):=tV (aM kp.out.1);have ow:=alP (c.push ((eZ (cd rows)).map I)) (.list d s0 (xs.map λa=>[a])) y (.list f e (ints who)) bx O;have kmk:=ae.mk (aj o j);have LN:((0:Nat):Int)=0:=rfl;clear UW rC TH o3 o4 o1 Tx o j s4 L R;unfold I at *
   have TV:(F rows=0->cd rows=1)/\∀r0,rows[0]?=J r0->F r0=cd rows:=(by refine⟨λz1=>by unfold cd;rw[av z1],λr0 z1=>?_⟩;exact(ko.out.1 r0 (cU z1)).1);have kcols:=ae.mk TV;clear TV;generalize cd rows=cw at *
   have two:F rows=0∨0<F rows:=(by omega);rcases two with C|C
   case' inl=>
    have hc1:=kcols.out.1 C;have gZ:¬((0:Int)<(F rows:Int)):=(by omega);have mk':vj aa c 23 (.v (.int .i64 1)) (.v (.int .i64 1))=J (.arr (F c.boxes) 0 cw cw,c.push ((bB cw (0:Int)).map λn=>.v (.int .i64 n))):=(by have:=mk;rw[show((cw:Nat):Int)=1 by omega]at this;exact this);clear C mk hc1
    repeat' (first|simp(maxSteps:=9999999) (disch:=first|exact dZ|fail) only[gW,reduceIte,aJ,aB,ui,de,dR,aT, *]|refine dX ?_ ?_<;>(intro _;try omega))
   case' inr=>
    obtain⟨a0,Lt⟩:∃a,xs[0]?=J a:=⟨_,aN M⟩;obtain⟨r0,pY⟩:∃r,rows[0]?=J r:=⟨_,aN M⟩;have eo:s0=1:=kRL.out.1 (by intro z1;rw[z1,fQ]at C;omega);have ixr:dH aa 22 (.list d s0 (xs.map λa=>[a])) (.v (.int .i64 0))=J (.elem 1 (xs.map λa=>[a]) 0 0):=(by rw[eo];exact aT u22 gV (Cd _) (by rw[eC];omega));clear eo;have ld0:=iN (H:=c) (s:=1) Lt;obtain⟨ka0,sa0,rfl,-⟩:=kRL.out.2 0 a0 r0 Lt pY;have lH:F (ints r0)=cw:=(by rw[cE];exact kcols.out.2 r0 pY);have gZ:(0:Int)<(F rows:Int):=(by omega);have z0:(0:Int).toNat=0:=rfl;have z23':=gV;clear Lt pY
    repeat' (first|simp(maxSteps:=9999999) (disch:=first|exact dZ|fail) only[gW,reduceIte,aJ,aB,ui,de,dR,aT, *]|refine dX ?_ ?_<;>(intro _;try omega))
   all_goals
    refine bC.gen λe4 m_ rx yA yE=>?_;have f4:e4.get 4=.ptr (.box (F h.boxes+1)) 0:=(by rw[m_];simp only[gW,reduceIte,aJ,aB];exact g4);have f5:e4.get 5=.ptr (.box (F h.boxes+1+1)) 0:=(by rw[m_];simp only[gW,reduceIte,aJ,aB];exact g5);have f6:e4.get 6=.arr (F c.boxes) 0 cw cw:=(by rw[m_];exact gS);have f50:e4.get 50=.func (.func 219) [] [.ptr (.box (F (c.push ((eZ cw).map λn=>.v (.int .i64 n))).boxes)) 0,.ptr (.box (F (c.push ((eZ cw).map λn=>.v (.int .i64 n))).boxes+1)) 0]:=(by rw[m_];exact gS);have fd:e4.defers=[]:=(by rw[rx];simp only[gW,reduceIte,aJ,aB];exact hd);clear m_ rx yA yE g1 g2 g4 g5 g8 g19 g20 g21 hd;refine EL (by rw[Aq];exact f50) λrec w1 w2 w3 w4 w5 w6=>?_;obtain⟨x1,vo,Y,tn1⟩:=kX.out;obtain⟨p0,o,j⟩:=kp.out;have X3:Ext h (((c.push ((eZ cw).map I)).push [.list d s0 (xs.map λa=>[a]),y]).push [.list f e (ints who)]):=((x1.trans (.push _ _)).trans (.push _ _)).trans (.push _ _);have b0:(((c.push ((eZ cw).map I)).push [.list d s0 (xs.map λa=>[a]),y]).push [.list f e (ints who)]).boxes[c.boxes.length]?=J ((eZ cw).map I):=aM (aM (aK _ _));have b1:(((c.push ((eZ cw).map I)).push [.list d s0 (xs.map λa=>[a]),y]).push [.list f e (ints who)]).boxes[F h.boxes+1]?=J [.list .nil 0 []]:=aM (aM (aM o));have b2:(((c.push ((eZ cw).map I)).push [.list d s0 (xs.map λa=>[a]),y]).push [.list f e (ints who)]).boxes[F h.boxes+1+1]?=J [.list .nil 0 []]:=aM (aM (aM j));have b3:(((c.push ((eZ cw).map I)).push [.list d s0 (xs.map λa=>[a]),y]).push [.list f e (ints who)]).boxes[F c.boxes+1]?=J [.list d s0 (xs.map λa=>[a]),y]:=aM (mJ (by rw[bF]));have b4:(((c.push ((eZ cw).map I)).push [.list d s0 (xs.map λa=>[a]),y]).push [.list f e (ints who)]).boxes[F c.boxes+1+1]?=J [.list f e (ints who)]:=mJ (by rw[bF,bF]);have ok3:c_ (((c.push ((eZ cw).map I)).push [.list d s0 (xs.map λa=>[a]),y]).push [.list f e (ints who)])=V:=vo;have gB:F (((c.push ((eZ cw).map I)).push [.list d s0 (xs.map λa=>[a]),y]).push [.list f e (ints who)]).loops=F c.loops:=rfl;have Ay:F h.loops<=F c.loops:=x1.D4;rw[bF]at f50;unfold I at *
    rw[bF];generalize ((c.push ((eZ cw).map λn=>U.v (.int .i64 n))).push [.list d s0 (xs.map λa=>[a]),y]).push [.list f e (ints who)]=p at *
    have auD:F h.boxes+1<F p.boxes:=(aS.1 b1).1;have auE:F h.boxes+1+1<F p.boxes:=(aS.1 b2).1;have nb:(p.loop rec).loops[c.loops.length]?=J rec:=(by rw[<-gB];exact @D' p rec);have feed:=alQ (F c.loops) (F c.boxes+1) (F c.boxes+1+1) d s0 xs y (.list f e (ints who)) rows ac who
     (Fz h (p.loop rec).loops (F h.boxes+1) (F h.boxes+1+1) (F c.boxes) (F c.boxes+1) (F c.boxes+1+1) ((eZ cw).map λn=>.v (.int .i64 n)) [.list d s0 (xs.map λa=>[a]),y] [.list f e (ints who)] xs ac who)
     kyz.out.2.1 kyz.out.2.2.1 fa ko1.out.symm kRL.out.1 ko.out.2 M M
     (λk X z1=>by obtain⟨_,_,_,_,_,_,_,_,_,_,_,q1,q2⟩:=z1;exact⟨q1,q2⟩)
     ?_
     (λk X _ A z1=>by
      unfold Fz at *
      rw[WQ A,WS A];exact z1)
     (p.loop rec) ⟨.nil,0,.nil,0,O,b1,b2,.inr ⟨O,O⟩,.inr ⟨O,O⟩,⟨.inl O,.inl O,λa z1=>(nomatch z1),ok3,X3.trans ((Fr.Ba (bn:=p.boxes.length) (l0:=p.loops.length) (n0:=p.tn) p rec).ext (aV _) (aV _) (aV _))⟩,b0,b3,b4⟩
    rotate_left 1
    .rintro k a X hk yg A ⟨t1,s1,t2,B,i1,i2,i3,i4,i5,i6,i7,i8,i9⟩;have wS:X.loops[c.loops.length]?=J rec:=(by rw[i1];exact nb);have w:=i6;have q0:(X.busy (F c.loops) rec).boxes=X.boxes:=rfl;have e22:=λA=>WR (xs:=xs) (ac:=ac) (who:=who) (k:=k) (a:=a) A yg;have e23:=WT (ac:=ac) (who:=who) (k:=k) A;have wA:=w.app;refine Oj (Post:=Fz h (p.loop rec).loops (F h.boxes+1) (F h.boxes+1+1) (F c.boxes) (F c.boxes+1) (F c.boxes+1+1) ((eZ cw).map λn=>.v (.int .i64 n)) [.list d s0 (xs.map λa=>[a]),y] [.list f e (ints who)] xs ac who (k+1)) wS (by rw[w2];rfl) w5 w6 ?_;have r1:∀t,(nq (F c.loops) rec [I (k:Nat),a]).get t=if 52=t then a else if 51=t then I (k:Nat) else e4.get t:=λt=>Il w2 w1
     have d1:(nq (F c.loops) rec [I (k:Nat),a]).defers=[]:=rfl;obtain⟨K,hK⟩:∃K,X.busy (F c.loops) rec=K:=⟨_,O⟩;have kc1:db h.tn K t1:=(by rw[<-hK];exact w.c1);have kc2:db h.tn (K.app t1) t2:=(by rw[<-hK,Rp];exact wA.1);have kb1:K.boxes[F h.boxes+1]?=J [.list t1 s1 ((gE xs ac who k).map λa=>[a])]:=(by rw[<-hK];exact i2);have kb2:(K.app t1).boxes[F h.boxes+1+1]?=J [.list t2 B (ints (cJ (er ac who k)))]:=(by rw[dP,<-hK];exact i3);have kb22:K.boxes[F h.boxes+1+1]?=J [.list t2 B (ints (cJ (er ac who k)))]:=(by rw[<-hK];exact i3);have pl1:=WP (xs:=xs) (ac:=ac) (who:=who) (k:=k);have pl2:=amk (ac:=ac) (who:=who) (k:=k);have ap1:=Q1 (x:=a) (M:F (gE xs ac who k)<1000000) i4 kc1;have ap2:=wi (x:=(k:Int)) (show(F (cJ (er ac who k)))<1099511627776 by omega) i5 kc2;rw[<-e22 A]at ap1;rw[<-am4,<-e23]at ap2;have lA:=Hr kb1;have lB:=vf kb2;have lB0:=vf kb22;have sA:=O9 (H:=(K.app t1).app t2) (b:=F h.boxes+1) (k:=.free K.tn) (s:=1) (es:=(gE xs ac who (k+1)).map λa=>[a]) (by rw[dP,dP];exact kb1);have sB:=IX (H:=((K.app t1).app t2).put (F h.boxes+1) [.list (.free K.tn) 1 ((gE xs ac who (k+1)).map λa=>[a])]) (b:=F h.boxes+1+1) (k:=.free (K.app t1).tn) (s:=1) (es:=ints (cJ (er ac who (k+1)))) (by rw[cr M,dP];exact kb2);have blA:ff aa 22 1 [(0,a)]=J (.list .tight 1 [[a]]):=(by obtain⟨r',yD⟩:∃r',rows[k]?=J r':=⟨_,aN hk⟩;exact FL a (kRL.out.2 k a r' yg yD).cell);have blB:=qw (k:Int);have svs:=vE t2 B (cJ (er ac who k));have m:ae (Fz h (p.loop rec).loops (F h.boxes+1) (F h.boxes+1+1) (F c.boxes) (F c.boxes+1) (F c.boxes+1+1) ((eZ cw).map λn=>.v (.int .i64 n)) [.list d s0 (xs.map λa=>[a]),y] [.list f e (ints who)] xs ac who (k+1) ((((X.app t1).app t2).put (F h.boxes+1) [.list (.free X.tn) 1 ((gE xs ac who (k+1)).map λa=>[a])]).put (F h.boxes+1+1) [.list (.free (X.app t1).tn) 1 (ints (cJ (er ac who (k+1))))])):=by
      have hl1:=(aS.1 i2).1;have Md:=(aS.1 i3).1;refine⟨_,1,_,1,?_,?_,?_,.inl O,.inl O,(wA.2.put M _).put M _,?_,?_,?_⟩
      .show((X.app t1).app t2).loops=_;rw[zW,zW];exact i1
      .rw[cr M];exact dn (by rw[dP,dP];exact hl1)
      .exact dn (by rw[jd,dP,dP];exact Md)
      .rw[cr M,cr M,dP,dP];exact i7
      .rw[cr M,cr M,dP,dP];exact i8
      .rw[cr M,cr M,dP,dP];exact i9
     clear i1 i2 i3 i4 i5 i6 i7 i8 i9 w wA q0 e22 e23 b0 b1 b2 b3 b4 kb1 kb2 kb22 pl1 pl2 A yg kc1 kc2 X3 ok3 gB p0 o j x1 vo f50;rw[hK];unfold I at *
     rw[w3,w4];refine wI ?_;refine⟨aX,aX,?_⟩;refine bC.gen λe2 Z jk rB AQ=>?_;have q4:e2.get 4=.ptr (.box (F h.boxes+1)) 0:=(by rw[Z];simp only[gW,reduceIte,aJ,aB,r1];exact f4);have q5:e2.get 5=.ptr (.box (F h.boxes+1+1)) 0:=(by rw[Z];simp only[gW,reduceIte,aJ,aB,r1];exact f5);have q12:e2.get 12=.v (.int .i64 k):=(by rw[Z];simp only[gW,reduceIte,aJ,aB,r1]);have q13:e2.get 13=a:=(by rw[Z];simp only[gW,reduceIte,aJ,aB,r1]);clear Z jk rB AQ r1 d1 w1 w2 w3 w4 w5 w6;refine wI ?_;refine iC [(3,4)] wk am (λz5 hp=>?_) ?_
     .simp only[hY]at hp;subst hp;refine jP (x:=.ptr (.box (F h.boxes+1+1)) 0) (v:=.list t2 B (ints (cJ (er ac who k)))) am O O O am (svs) ?_ ?_<;>(simp only[dw,cX];exact dV @ga.{0} @and_self)
     refine wI ?_;have kf2:=m.out;rw[Y]at kf2;refine⟨aX,?_,?_⟩
     .show((K.app t1).app t2).loops=_;rw[zW,zW]
     .rw[<-hK,agc,Rp];exact kf2
    .obtain⟨Hf,c1,t1,s1,t2,B,i1,i2,i3,i4,i5,i6,i7,i8,i9⟩:=feed;rw[gB];refine⟨_,_,c1,rec,by rw[i1];exact nb,by rw[w5];decide,.inl ⟨w6,?_⟩⟩;have hf1:=(aS.1 i2).1;have AC:=(aS.1 i3).1;have q1:(Hf.eY (F c.loops) {rec with state:=.exhausted}).boxes[F h.boxes+1]?=J [.list t1 s1 ((gE xs ac who (F rows)).map λa=>[a])]:=i2;have q2:(Hf.eY (F c.loops) {rec with state:=.exhausted}).boxes[F h.boxes+1+1]?=J [.list t2 B (ints (cJ (er ac who (F rows))))]:=i3;have q7:(Hf.eY (F c.loops) {rec with state:=.exhausted}).boxes[c.boxes.length]?=J ((eZ cw).map λn=>.v (.int .i64 n)):=i7;have XF:Ext h (Hf.eY (F c.loops) {rec with state:=.exhausted}):=((Fr.Ei (bn:=h.boxes.length) (l0:=h.loops.length) (n0:=h.tn) i6.ext (aV _)).trans (.eY Ay _)).ext (aV _) (aV _) (aV _);generalize Hf.eY (F c.loops) {rec with state:=.exhausted}=HF at *
     have AD:=(aS.1 q1).1;have hg2:=(aS.1 q2).1;have lA:=Hr q1;have lB:=vf q2;have sA:=O9 (k:=t1) (s:=s1) (es:=(gE xs ac who (F rows)).map λa=>[a]) q1;have lB2:aD aa Gt (HF.put (F h.boxes+1) [.list t1 s1 ((gE xs ac who (F rows)).map λa=>[a])]) 23 (.ptr (.box (F h.boxes+1+1)) 0)=J (.list t2 B (ints (cJ (er ac who (F rows))))):=vf (by rw[cr M];exact q2);have sB:=IX (H:=HF.put (F h.boxes+1) [.list t1 s1 ((gE xs ac who (F rows)).map λa=>[a])]) (b:=F h.boxes+1+1) (k:=t2) (s:=B) (es:=ints (cJ (er ac who (F rows)))) (by rw[cr M];exact q2);have eA:=kC q1;have eB:=kC (h:=HF) q2;rw[eA]at sA sB lB2;rw[eB]at sB;have svs:=vE t2 B (cJ (er ac who (F rows)));have m:=ae.mk (aj XF (aj i4 (aj i5 q7)));clear q1 q2 q7 XF i1 i2 i3 i4 i5 i6 i7 i8 i9 c1 b0 b1 b2 b3 b4 X3 ok3 gB p0 o j x1 vo f50 nb w1 w2 w3 w4 w5 w6 eA eB;refine bg @ui ?_;refine iC [(1,3)] wk am (λz5 hp=>?_) ?_
     .simp only[hY]at hp;subst hp;refine kJ (x:=.ptr (.box (F h.boxes+1+1)) 0) (v:=.list t2 B (ints (cJ (er ac who (F rows))))) am O O O am (svs) ?_ ?_<;>(simp only[dw,cX];exact dV @ui @and_self)
     refine bg @ui ?_;exact⟨_,_,O,m.out.1,by rw[aP (by simp[kpe.out]),aP (by simp[kf.out])];exact⟨_,_,_,_,_,O,m.out.2.1,m.out.2.2.1,by rw[<-Y];exact m.out.2.2.2⟩⟩
def IL.hold{x}{l}(h:IL x l):IL (al x) l/\au 0 0 0 (al x)=V:=by obtain⟨k,d,rfl,c⟩:=h;rw[al,rA];exact⟨⟨bU k,d,O,c⟩,by rw[au,ef,jj];rfl⟩
def yx:∀xs:List U,dk (xs.map λa=>[a])=(xs.map al).map λa=>[a]
 | []=>rfl
 |x::xs=>by rw[eD,dk,yx xs];rfl
def uL:∀xs:List U,(∀a∈xs,au 0 0 0 a=V)->e_ 0 0 0 (xs.map λa=>[a])=V
 | [],_=>rfl
 |x::xs,h=>by rw[eD,e_,uL xs λa c=>h a (gj _ c),aA,h x gx];rfl
def RL.hold{k}{s}{xs:List U}{rows}(h:RL (.list k s (xs.map λa=>[a])) rows):
 RL (.list (bU k) s ((xs.map al).map λa=>[a])) rows/\∀a∈xs.map al,au 0 0 0 a=V:=by
 obtain⟨A,C,y,u,v,g,i⟩:=h;injection u with m o p;have q:=(JJ (λx D h=>by injection h)).1 p;subst m;subst o;subst q;refine⟨⟨bU k,s,xs.map al,O,v,by rw[br];exact g,λl a B c j=>?_⟩,λa c=>?_⟩
 .rw[dW]at c;cases d:xs[l]? with
  |none=>rw[d]at c;cases c
  |some b=>rw[d]at c;injection c with c;rw[<-c];exact(i l b B d j).hold.1
 .obtain⟨b,r,rfl⟩:=iV.1 c;obtain⟨l,e⟩:=qo r;have f:=(aS.1 e).1;exact(i l b _ e (aN (by rw[<-g];exact f))).hold.2
def L3:List aQ:=[80,81,75,66,130,202,67,69,162,111,35,100,96,97,99,241,203,193,242,92,93,74,231,222,178]
noncomputable def N2:aQ->Option (List U->Heap->Option (U × Heap)):=lh W2 L3
noncomputable abbrev W3:=whole aa Gt N2
def Rx:lW N2 L3:=rm
section
variable (a b n x:Int)
def abD:∀h,W3.call 80 [I a,I b] h=J (.ret (I (dx a b)),h):=bR (L:=L3) O O O (QO a b _) O rfl
def ak7:∀h,W3.call 81 [I a,I b] h=J (.ret (I (cS a b)),h):=bR (L:=L3) O O O (NB a b _) O rfl
def atJ:∀h,W3.call 66 [I x] h=J (.ret (.v (.bool (bX x))),h):=bR (L:=L3) O O O (atI x _) O rfl
def agZ:∀h,W3.call 67 [I a,I b] h=J (.ret (.tuple [I (nI a b),I (rq a b)]),h):=bR (L:=L3) O O O (agY a b _) O rfl
def ag8:∀h,W3.call 75 [I a,I n] h=J (.ret (.tuple [I (fb a n),I (ox a)]),h):=bR (L:=L3) O O O (ag7 a n _) O rfl
def anx:∀h,W3.call 130 [I a,I b] h=J (.ret (I (dx a b)),h):=bR (L:=L3) O O O (anw a b _) O rfl
def aoZ:∀h,W3.call 202 [I a,I b] h=J (.ret (I (cS a b)),h):=bR (L:=L3) O O O (aoY a b _) O rfl
def aoh:∀h,W3.call 231 [I n] h=J (.ret (.tuple [I (if fmod n=0 then 0 else ea n),I (if fmod n=0 then 90 else 0)]),h):=bR (L:=L3) O O O (aog n _) O rfl
def aqG:∀h,W3.call 111 [I x] h=J (.ret (.v (.bool (bX x))),h):=bR (L:=L3) O O O (aqF x _) O rfl
def aob:∀h,W3.call 97 [I n] h=J (.ret (.agg (ar 1 n [] .nil 0 [])),h):=bR (L:=L3) O O O (aoa n _) O rfl
end
def RL.form{x}{rows}(h:RL x rows):∃(k:Tok) (s:Nat) (xs:List U),x=.list k s (xs.map λa=>[a])/\F xs=F rows:=by obtain⟨k,s,xs,c,-,d,-⟩:=h;exact⟨k,s,xs,c,d⟩
def RL.fc{x}{rows}(h:RL x rows):RL (al x) rows/\au 0 0 0 (al x)=V:=by obtain⟨k,e,d,rfl,-⟩:=h.form;obtain⟨c,h2⟩:=h.hold;rw[al,yx];exact⟨c,by rw[au,ef,uL _ h2];rfl⟩
def aej(x y)(rows)(ac)(g:RL x rows)(i:IL y ac):∀h,W3.call 35 [.agg [x,y]] h=J (.ret (.v (.int .i64 (cG rows ac))),h):=by obtain⟨c,h2⟩:=g.fc;obtain⟨d,e⟩:=i.hold;obtain⟨h',f,-⟩:=RY ⟨[],[],0,[]⟩ (al x) (al y) rows ac c d;exact bR (L:=L3) (B:=[.agg [al x,al y]]) O O (by simp[aA,au,h2,e]) f O rfl
def La(l):(l.map I).map (λc=>[c])=ints l:=by unfold ints;rw[List.map_map];rfl
def yK{h}{b n}{l}(c:h.boxes[b]?=J (l.map I))(d:F l=n):dD h (.arr b 0 n n)=.list .held 1 (ints l):=by subst d;rw[dD,c];simp only;rw[av (by rw[br];omega),List.drop_zero,fR (by rw[br];exact aV _),La]
def aeT(x y)(rows)(c)(v:RL x rows)(C:IL y c)(s:F rows<=64)(u:∀r∈rows,F r=F c)(m:F c<=64)(i:∀r∈rows,∀x∈r,okF x)(j:∀x∈c,okF x):
 (nF rows c=af/\∀h,W3.call 93 [x,y] h=J (.ret (.tuple [.list .nil 0 [],.v (.bool ai),I 0]),h))∨∃l,nF rows c=J l/\F l=F rows/\∀h,W3.call 93 [x,y] h=J (.ret (.tuple [.list .held 1 (ints l),.v (.bool V),I 0]),h):=by
 obtain⟨p,h2⟩:=v.fc;obtain⟨q,f⟩:=C.hold;obtain⟨r,h',g,-,⟨d,rfl⟩|⟨l,b,d,e,rfl,o⟩⟩:=aeV ⟨[],[],0,[]⟩ (al x) (al y) rows c p q s u m i j O
 .exact .inl ⟨d,bR (L:=L3) (B:=[al x,al y]) O O (by simp[aA,h2,f]) g O O⟩
 .refine .inr ⟨l,d,e,bR (L:=L3) (B:=[al x,al y]) O O (by simp[aA,h2,f]) g ?_ (by simp[au,aA,jj,oJ,I])⟩;rw[dD,ir,yK o e];rfl
def NW{xs}{ac who}{n i:Nat}{a}(h:(gE xs ac who n)[i]?=J a):∃j,(er ac who n)[i]?=J j/\j<n/\a=xs.getD j default:=by
 unfold gE at h;rw[dW]at h;cases c:((bZ n).filter λi=>who.contains (ag ac i))[i]? with
 |none=>rw[c]at h;cases h
 |some j=>rw[c]at h;injection h with h;exact⟨j,c,hy.1 (uA.1 (cU c)).1,h.symm⟩
def ant(c)(s0)(xs:List U)(y z)(rows)(ac who)(hx:RL (.list c s0 (xs.map λa=>[a])) rows)(E:IL y ac)(hz:IL z who)(R:F who<=1099511627776):
 (cG rows ac≠0/\∀h,W3.call 92 [.agg [.list c s0 (xs.map λa=>[a]),y],z] h=J (.ret (.tuple [.list .nil 0 [],.list .nil 0 [],.list .nil 0 [],.v (.int .i64 (cG rows ac))]),h))∨
 (cG rows ac=0/\dy (-1) who=ai/\∀h,W3.call 92 [.agg [.list c s0 (xs.map λa=>[a]),y],z] h=J (.ret (.tuple [.list .nil 0 [],.list .nil 0 [],.list .nil 0 [],.v (.int .i64 1)]),h))∨
 (cG rows ac=0/\dy (-1) who=V/\∃z1 A,RL z1 ((dG ac who).map λi=>rows.getD i [])/\IL A (cJ (dG ac who))/\∀h,W3.call 92 [.agg [.list c s0 (xs.map λa=>[a]),y],z] h=J (.ret (.tuple [z1,A,.list .held 1 (ints (eZ (cd rows))),.v (.int .i64 0)]),h)):=by
 obtain⟨s,h2⟩:=hx.hold;obtain⟨h3,h4⟩:=E.hold;obtain⟨h5,h6⟩:=hz.hold;have T:F (xs.map al)=F rows:=by obtain⟨_,_,xs',B,-,H,-⟩:=s;injection B with _ _ o;have p:=(JJ (λx y h=>by injection h)).1 o;rw[p];exact H
 have q:aZ [.agg [.list c s0 (xs.map λa=>[a]),y],z]=[.agg [.list (bU c) s0 ((xs.map al).map λa=>[a]),al y],al z]:=by rw[aZ,al,aZ,aZ,aZ,al,yx];rfl
 have r:aA 0 0 0 [.agg [.list (bU c) s0 ((xs.map al).map λa=>[a]),al y],al z]=V:=by have hf:=uL _ h2;rw[aA,au,aA,aA,aA,aA,au,ef,hf,h4,h6];rfl
 obtain⟨z2,h',v,-,d⟩:=anr ⟨[],[],0,[]⟩ (bU c) s0 (xs.map al) (al y) (al z) rows ac who s T h3 h5 R O;by_cases m:cG rows ac≠0
 .rw[av m]at d;subst d;exact .inl ⟨m,bR (L:=L3) O q r v O O⟩
 .rw[aP m]at d;have e:cG rows ac=0:=Ju.1 m;cases q2:dy (-1) who with
  |false=>rw[av q2]at d;subst d;exact .inr (.inl ⟨e,O,bR (L:=L3) O q r v O O⟩)|true=>
   rw[aP (by rw[q2];simp)]at d;obtain⟨Z,s1,k2,s2,tb,rfl,e1,e2,o⟩:=d;obtain⟨o1,-,-,-⟩:=ub e;have f:er ac who (F rows)=dG ac who:=(by unfold er dG;rw[o1]);obtain⟨n1,-⟩:=uI e;have N:F (eZ (cd rows))=cd rows:=(by unfold eZ;simp;omega);refine .inr (.inr ⟨e,O,.list (bU Z) s1 ((gE (xs.map al) ac who (F rows)).map λa=>[a]),.list (bU k2) s2 (ints (cJ (dG ac who))),⟨_,_,_,O,λg=>?_,?_,λi a z2 u l=>?_⟩,⟨_,_,O,λg=>?_⟩,bR (L:=L3) O q r v ?_ ?_⟩)
   .rcases e1 with j|⟨j,-⟩
    .exact j
    .exfalso;apply g;rw[<-f];unfold gE at j;unfold er;rw[zJ]at j;rw[j];rfl
   .rw[br,<-f];unfold gE er;rw[br]
   .obtain⟨z0,X,Y,rfl⟩:=NW u;rw[f]at X;rw[dW,X]at l;injection l with l;subst l;obtain⟨_,_,xs',B,-,H,D⟩:=s;injection B with _ _ e5;have p:=(JJ (λx y h=>by injection h)).1 e5;subst p;refine D z0 _ _ ?_ ?_
    .rw[eG,aN M];rfl
    .show rows[z0]?=J (rows.getD z0 []);rw[eG,aN Y];rfl
   .rcases e2 with j|⟨j,-⟩
    .exact j
    .rw[f]at j;exact absurd j g
   .rw[dD,ir,ir,ir,yK o N,f];rfl
   .have C:e_ 0 0 0 ((gE (xs.map al) ac who (F rows)).map λa=>[a])=V:=uL _ λa u=>(by obtain⟨i,hi⟩:=qo u;obtain⟨z0,-,Y,rfl⟩:=NW hi;refine h2 _ ?_;rw[eG,aN M];exact iP _);cases Z<;>cases k2<;>simp[au,aA,bU,jj,C,oJ]
def BN:Tryz.f39.results.toList=[.tmp 4,.tmp 5,.tmp 6]:=am
def jO(n:Nat)(c:List Nat)(l:List Int)(j:Nat):List Int:=(c.zipIdx.take j).foldl (λe d=>e.set d.1 (ag l d.2)) (bB n 0)
def IU{n j}{c}{l}:F (jO n c l j)=n:=by unfold jO;rw[C0 (λd=>ag l d.2),l8]
def Yv{n j p}{c}{l}(h:c[j]?=J p):(jO n c l j).set p (ag l j)=jO n c l (j+1):=by
 have d:c.zipIdx[j]?=J (p,j):=by rw[aaj,h];simp
 unfold jO;rw[fY d,oj];rfl
def IT{n}{c}{l}:jO n c l (F c)=oI n c l:=by unfold jO oI;rw[fR b7]
def Xg{l}{j p:Nat}(h:l[j]?=J p):ag (cJ l) j=(p:Int):=by
 have:(cJ l)[j]?=J (p:Int):=by unfold cJ;rw[dW,h];rfl
 unfold ag;rw[eG,this];rfl
def Pw(rows:List (List Int))(ac who:List Int)(h:Heap)(r:dO)(h':Heap):Prop:=
 Ext h h'/\((∃d,fm rows ac who=([],ai,d)/\r=.ret (.tuple [.list .nil 0 [],.v (.bool ai),.v (.int .i64 d)]))∨∃c b,fm rows ac who=(c,V,0)/\F c=F rows/\r=.ret (.tuple [.arr b 0 (F rows) (F rows),.v (.bool V),.v (.int .i64 0)])/\h'.boxes[b]?=J (c.map I))
def abA(h:Heap)(f:Tok)(s0:Nat)(xs:List U)(y z:U)(rows:List (List Int))(ac who:List Int)(m:RL (.list f s0 (xs.map λa=>[a])) rows)(E:IL y ac)(hz:IL z who)(pZ:F who<=1099511627776):
 ∃r h',W3.call 39 [.agg [.list f s0 (xs.map λa=>[a]),y],z] h=J (r,h')/\Pw rows ac who h r h':=by
 have hq:=ant f s0 xs y z rows ac who m E hz pZ;obtain⟨_,_,xs',he,fa⟩:=m.form;have Hd:F (xs.map λa=>[a])=F rows:=by injection he with _ _ e5;rw[e5,br];exact fa
 have bx:(U.agg [.list f s0 (xs.map λa=>[a]),y]).bG=J [.list f s0 (xs.map λa=>[a]),y]:=by obtain⟨ky,sy,rfl,-⟩:=E;rfl
 have b0:(h.push [.list f s0 (xs.map λa=>[a]),y]).boxes[h.boxes.length]?=J [.list f s0 (xs.map λa=>[a]),y]:=aK _ _;have l25:=tV b0;have l22:=oc b0;have u23:=cT;have u22:=gm;have z3:=eR;clear he fa m E hz b0;unfold Pw;have d:fm rows ac who=if cG rows ac≠0 then ([],ai,cG rows ac) else if !dy (-1) who then ([],ai,1) else match nF ((dG ac who).map λN=>rows.getD N []) (eZ (cd rows)) with|none=>([],ai,0)|some p=>(oI (F rows) (dG ac who) p,V,0):=rfl
 refine bL O Tryz.func39 O ?_;rcases hq with⟨e,z4⟩|⟨e,A,z4⟩|⟨e,A,z7,z8,hX,hA,z4⟩
 .rw[av e]at d;generalize cG rows ac=pe at *
  have TZ:decide (pe=0)=ai:=by simp[e]
  have o:=ae.mk d;clear d e;refine bE @BN @a_ ?_;exact⟨_,_,O,.push _ _,.inl ⟨pe,o.out,O⟩⟩
 .rw[aP (by simp[e]),av (by rw[A];rfl)]at d;have o:=ae.mk d;clear d e A;refine bE @BN @a_ ?_;exact⟨_,_,O,.push _ _,.inl ⟨1,o.out,O⟩⟩
 .rw[aP (by simp[e]),aP (by rw[A];simp)]at d;obtain⟨o1,o2,X,-⟩:=ub e;obtain⟨n1,n2⟩:=uI e;have wV:F (eZ (cd rows))=cd rows:=by unfold eZ;simp;omega
  have i:∀N∈dG ac who,N<F rows:=λN T=>by unfold dG at T;rw[o1];exact hy.1 (uA.1 T).1
  have pW:F (dG ac who)<=64:=by unfold dG;exact eS (P9 _ _) (by rw[List.length_range];omega)
  have j:∀r∈(dG ac who).map λN=>rows.getD N [],r∈rows:=λr H=>by obtain⟨N,T,rfl⟩:=iV.1 H;have:=i N T;rw[eG,aN this];exact iP _
  have LI:=aeT z7 (.list .held 1 (ints (eZ (cd rows)))) _ (eZ (cd rows)) hX ⟨_,_,O,λ_=>rfl⟩ (by rw[br];exact pW) (λr H=>by rw[wV];exact(X r (j r H)).1) (by rw[wV];exact n2) (λr H=>(X r (j r H)).2.2.2) (λx m=>by
   unfold eZ at m;rcases gL.1 m with rfl|m
   .exact⟨aY,by decide⟩
   .rw[List.eq_of_mem_replicate m];exact⟨aY,by decide⟩)
  rcases LI with⟨C,R⟩|⟨p,C,e2,R⟩
  .rw[C]at d;have o:=ae.mk d;unfold I at R;clear d e A C j i X;refine bE @BN @a_ ?_;exact⟨_,_,O,.push _ _,.inl ⟨0,o.out,O⟩⟩
  .rw[C]at d;have o:=ae.mk d;have mk:=vk (h.push [.list f s0 (xs.map λa=>[a]),y]) (F rows) M .i64 .i64;have L:bB (F rows) (I 0)=(jO (F rows) (dG ac who) p 0).map I:=(by unfold jO;rw[cX,Cj,xx]);rw[L]at mk;rw[br]at e2;have ko:=ae.mk i;obtain⟨ka,sa,rfl,qE⟩:=hA;have ksa:=ae.mk qE;have tF:=M7 (dG ac who);have gB:=cE p;clear d e A C j i X L hX qE;unfold I at R mk;generalize dG ac who=c at *
   clear o1;refine cK @BN @a_ @de ?_;refine bC.gen λv g Y ek dm=>?_;have f4:v.get 4=.arr (F h.boxes+1) 0 (F rows) (F rows):=(by rw[g];simp only[gW,reduceIte,aJ,aB,bF]);have f10:v.get 10=.list .held 1 (ints p):=(by rw[g];exact gS);have f42:v.get 42=.list ka sa (ints (cJ c)):=(by rw[g];exact gS);have f43:v.get 43=.v (.int .i64 (F c:Nat)):=(by rw[g];exact gS);have f44:v.get 44=.v (.int .i64 (0:Nat)):=(by rw[g];exact gR);have fd:v.defers=[]:=(by rw[Y];exact gS);clear g Y ek dm mk z4 R l25 l22;have D:F (h.push [.list f s0 (xs.map λa=>[a]),y]).boxes=F h.boxes+1:=bF _ _;have X1:Ext h (h.push [.list f s0 (xs.map λa=>[a]),y]):=.push _ _;generalize h.push [.list f s0 (xs.map λa=>[a]),y]=B at *
   have kX:=ae.mk (aj X1 D);clear X1;refine b9 (λz6 z0 z1=>∃l:Nat,l<=F c/\z6=F c-l/\z0.get 4=.arr (F h.boxes+1) 0 (F rows) (F rows)/\z0.get 10=.list .held 1 (ints p)/\z0.get 42=.list ka sa (ints (cJ c))/\z0.get 43=.v (.int .i64 (F c:Nat))/\z0.get 44=.v (.int .i64 (l:Nat))/\z0.defers=[]/\z1=B.push ((jO (F rows) c p l).map I)) ?_ (F c) _ _ ?_;rotate_left 1
   .exact⟨0,bV _,O,f4,f10,f42,f43,f44,fd,O⟩
   clear f4 f10 f42 f43 f44 fd;rintro z6 z0 z1 ⟨l,hj,rfl,g4,g10,g42,g43,g44,hd,rfl⟩;by_cases q:l<F c
   .obtain⟨z2,u⟩:∃z2,c[l]?=J z2:=⟨_,aN q⟩;have Z:=ko.out z2 (cU u);have eo:sa=1:=ksa.out (by intro z5;unfold cJ at z5;rw[zJ]at z5;rw[z5]at q;exact mY _ q);subst eo;have l0:=eJ (H:=B.push ((jO (F rows) c p l).map I)) (l:=cJ c) (i:=l) (s:=1) (by unfold cJ;rw[br];exact q);rw[Xg u]at l0;have l1:=eJ (H:=B.push ((jO (F rows) c p l).map I)) (l:=p) (i:=l) (s:=1) M;have ix3:=nN (b:=F h.boxes+1) (len:=rows.length) (aR:=rows.length) (k:=.i64) Z;have sk:=um (H:=B.push ((jO (F rows) c p l).map I)) (b:=B.boxes.length) (r:=jO (F rows) c p l) (k:=z2) (x:=ag p l) (aK _ _) (by rw[IU];exact Z);rw[lO,Yv u,D]at sk;have fH:(l:Int)<(F c:Int):=(by omega);unfold I at *
    clear u D;refine bE @BN @aT ?_;exact⟨F c-(l+1),by omega,l+1,by omega,O,by simp⟩
   .have pV:l=F c:=(by omega);subst pV;refine bg @BN ?_;refine⟨_,_,O,kX.out.1.trans (.push _ _),.inr ⟨_,F h.boxes+1,o.out,?_,O,?_⟩⟩
    .rw[<-IT,IU]
    .rw[<-IT];exact mJ kX.out.2.symm
def IS(H:Heap)(x:U)(l:List Int):Prop:=IL x l∨∃b,x=.arr b 0 (F l) (F l)/\H.boxes[b]?=J (l.map I)
def IS.mono{H H'}{x}{l}(s:IS H x l)(m:∀(c:Nat) cs,H.boxes[c]?=J cs->H'.boxes[c]?=J cs):IS H' x l:=by
 rcases s with f|⟨b,d,e⟩
 .exact .inl f
 .exact .inr ⟨b,d,m _ _ e⟩
def IS.len{H}{x}{l}(s:IS H x l):dK aa 23 x=J (.v (.int .i64 (F l:Nat))):=by
 rcases s with⟨k,z,rfl,-⟩|⟨b,rfl,-⟩
 .rw[Nn cT,cE]
 .rw[Nm cT]
def IS.at{H:Heap}{x:U}{l:List Int}(s:IS H x l){i:Nat}(hi:i<F l):∃a,dH aa 23 x (.v (.int .i64 (i:Nat)))=J a/\∀H':Heap,IS H' x l->aD aa Gt H' 3 a=J (.v (.int .i64 (ag l i))):=by
 rcases s with⟨k,z,rfl,g⟩|⟨b,rfl,o⟩
 .have:z=1:=g (by intro d;rw[d]at hi;exact mY _ hi);subst this;have d:=aT (t:=23) (k:=k) (kk:=.i64) (sz:=1) (es:=ints l) (a:=((i:Nat):Int)) cT eR M (by rw[cE];omega);rw[fh]at d;exact⟨_,d,λH' _=>eJ hi⟩
 .refine⟨.ptr (.box b) i,nN (b:=b) (len:=l.length) (aR:=l.length) (n:=i) (k:=.i64) hi,λH' j=>?_⟩;rcases j with⟨k,z,e,-⟩|⟨m,e,c⟩
  .cases e
  .injection e with f;subst f;exact vg c (tY hi)
def Iz:Tryz.f233.results.toList=[.tmp 6]:=am
def apU:Tryz.f232.results.toList=[.tmp 4]:=am
def VQ(h:Heap)(x y:U)(a own:List Int)(n:Int)(q:IS h x a)(H:IS h y own)(B:F own=F a)(X:F a<=1000000):
 ∃r h',W3.call 233 [x,y,I n] h=J (r,h')/\Ext h h'/\r=.ret (.arr (F h.boxes) 0 (F a) (F a))/\h'.boxes[h.boxes.length]?=J ((gQ n a own).map I):=by
 have s:=vk h (F a) X .i64 .i64;have l:=ae.mk (aj q H);have lx:=q.len;have i:bB (F a) (I 0)=(iZ (λc=>iL n (ag a c) (ag own c)) (bB (F a) 0) 0 0).map I:=by rw[Sh,xx]
 rw[i]at s;unfold I at s;clear q H i;refine bL O Tryz.func233 O ?_;unfold I;refine bg @Iz ?_;refine bC.gen λg d m C D=>?_;have f0:g.get 0=x:=by rw[d];exact gS
 have f1:g.get 1=y:=by rw[d];exact gS
 have f2:g.get 2=.v (.int .i64 n):=by rw[d];exact gS
 have f7:g.get 7=.arr (F h.boxes) 0 (F a) (F a):=by rw[d];exact gS
 have f8:g.get 8=.v (.int .i64 (0:Nat)):=by rw[d];exact gR
 have v:g.defers=[]:=by rw[m];exact gS
 clear d m C D s;refine b9 (λz0 p R=>∃k:Nat,k<=F a/\z0=F a-k/\p.get 0=x/\p.get 1=y/\p.get 2=.v (.int .i64 n)/\p.get 7=.arr (F h.boxes) 0 (F a) (F a)/\p.get 8=.v (.int .i64 (k:Nat))/\p.defers=[]/\R=h.push ((iZ (λc=>iL n (ag a c) (ag own c)) (bB (F a) 0) 0 k).map I)) ?_ (F a) _ _ ?_;rotate_left 1
 .exact⟨0,bV _,O,f0,f1,f2,f7,f8,v,O⟩
 clear f0 f1 f2 f7 f8 v;rintro z0 p R ⟨k,hk,rfl,g0,g1,g2,g7,g8,hd,rfl⟩;by_cases e:k<F a
 .obtain⟨ax,i1,L⟩:=l.out.1.at e;obtain⟨ay,j1,N⟩:=l.out.2.at (M:k<F own);have l1:=L (h.push ((iZ (λc=>iL n (ag a c) (ag own c)) (bB (F a) 0) 0 k).map I)) (l.out.1.mono λ_ _ Y=>aM Y);have l2:=N (h.push ((iZ (λc=>iL n (ag a c) (ag own c)) (bB (F a) 0) 0 k).map I)) (l.out.2.mono λ_ _ Y=>aM Y);have c1:=λh=>aoZ n (ag own k) h;have c2:=λh=>anx (ag a k) (0-cS n (ag own k)) h;have fl:iL n (ag a k) (ag own k)=dx (ag a k) (0-cS n (ag own k)):=by rw[Z'];rfl
  have fz:=vp (CZ n (ag own k));have o:F (bB a.length (0:Int))=F a:=l8;have Z:=um (H:=h.push ((iZ (λc=>iL n (ag a c) (ag own c)) (bB (F a) 0) 0 k).map I)) (b:=h.boxes.length) (r:=iZ (λc=>iL n (ag a c) (ag own c)) (bB (F a) 0) 0 k) (k:=k) (x:=iL n (ag a k) (ag own k)) (aK _ _) (by rw[oV,o];exact e);have u:=Sg (f:=λc=>iL n (ag a c) (ag own c)) (a:=bB (F a) 0) (bV k) (by rw[o];exact e);rw[lO,u,fl]at Z;have ix:=nN (b:=h.boxes.length) (len:=a.length) (aR:=a.length) (k:=.i64) e;have T:(k:Int)<(F a:Int):=by omega
  clear L N u fl;generalize cS n (ag own k)=z at *
  unfold I at *
  refine bg @Iz ?_;refine du Rx am ?_;refine bg @Iz ?_;exact⟨F a-(k+1),by omega,k+1,by omega,O,by simp⟩
 .have:k=F a:=by omega
  subst this;refine bg @Iz ?_;refine⟨_,_,O,.push _ _,O,?_⟩;rw[aK];congr 2;refine ug (by rw[oV,rG B.symm,l8]) λc j=>?_;rw[oV,l8]at j;rw[Ai (by rw[l8];exact j),av ⟨bV _,j⟩,sS B.symm j]
def ate(h:Heap)(x:U)(a:List Int)(n:Int)(e:IS h x a)(f:F a<=1000000)(o:0<=n/\n<=9223372036854775807):
 ∃r h',W3.call 232 [x,I n] h=J (r,h')/\Ext h h'/\∃b,r=.ret (.arr b 0 (F a) (F a))/\h'.boxes[b]?=J ((scaleB a n).map I):=by
 have j:=vk h (F a) f .i64 .i64;have p:=e.len;have g:(h.push (bB (F a) (I 0))).boxes[h.boxes.length]?=J ((bB (F a) (0:Int)).map I):=by rw[aK,xx]
 have c:F (bB a.length (0:Int))=F a:=l8;obtain⟨r,h',m,l,rfl,d⟩:=VQ (h.push (bB (F a) (I 0))) (.arr (F h.boxes) 0 (F a) (F a)) x (bB (F a) 0) a (0-n) (.inr ⟨F h.boxes,by rw[c],g⟩) (e.mono λ_ _ q=>aM q) c.symm (by rw[c];exact f);rw[c]at m;rw[Z']at d;have i:=ae.mk (aj l d);clear e g c l d;unfold I at m j ⊢;refine bL O Tryz.func232 O ?_;refine bg @apU ?_;exact⟨_,_,O,(Ext.push _ _).trans i.out.1,_,O,i.out.2⟩
def EG:Tryz.f230.results.toList=[.tmp 2]:=am
def Ws(h:Heap)(x:U)(l:List Int)(L:IL x l)(hl:F l<=1000000):∃r h',W3.call 230 [x] h=J (r,h')/\h'=h/\r=.ret (.v (.bool (l.all cN))):=by
 obtain⟨k,R,rfl,v⟩:=L;have N:=ae.mk v;clear v;have Y:=cT;have z3:=eR;have T:=cE l;refine bL O Tryz.func230 O ?_;refine bg @EG ?_;refine b9 (λX E D=>∃c:Nat,c<=F l/\X=F l-c/\ae ((l.take c).all cN=V)/\E.get 0=.list k R (ints l)/\E.get 3=.v (.int .i64 (c:Nat))/\E.defers=[]/\D=h) ?_ (F l) _ _ ?_;rotate_left 1
 .refine⟨0,bV _,O,⟨b7⟩,?_,?_,?_,O⟩<;>exact gR
 rintro X E D ⟨c,hi,rfl,A,Z,g3,hd,rfl⟩;by_cases d:c<F l
 .have y:R=1:=N.out (by intro z0;rw[z0]at d;simp at d);subst y;have ld:=eJ (H:=D) (s:=1) d;have o:l[c]?=J (ag l c):=by rw[aN d,fS d]
  have H:(c:Int)<(F l:Int):=by omega
  have e:(l.take (c+1)).all cN=cN (ag l c):=by rw[fY o,sn,A.out];simp
  have j:=cU o;have q:=ae.mk (aj e j);have f:cN (ag l c)=(decide (0<=ag l c)&&decide (ag l c<1073741789)):=rfl;clear o e j;generalize ag l c=n at *
  by_cases g:n<0
  .have s:decide (n<0)=V:=(by simp[g]);have i:l.all cN=ai:=(by rw[Jz];exact⟨n,q.out.2,by rw[f];simp;omega⟩);have p:=ae.mk i;clear i f g;refine bE @EG @aT ?_;exact⟨_,_,O,O,by rw[p.out]⟩
  .have s:decide (n<0)=ai:=(by simp[g]);by_cases m:1073741789<=n
   .have u:decide (1073741789<=n)=V:=(by simp[m]);have i:l.all cN=ai:=(by rw[Jz];exact⟨n,q.out.2,by rw[f];simp;omega⟩);have p:=ae.mk i;clear i f g m;refine bE @EG @aT ?_;exact⟨_,_,O,O,by rw[p.out]⟩
   .have u:decide (1073741789<=n)=ai:=(by simp;omega);have C:ae ((l.take (c+1)).all cN=V):=⟨by rw[q.out.1,f];simp;omega⟩;clear f g m;refine bE @EG @aT ?_;exact⟨F l-(c+1),by omega,c+1,by omega,O,C,by simp⟩
 .have:c=F l:=by omega
  subst this;have:=A.out;rw[fB]at this;have B:=ae.mk this;clear this;refine bg @EG ?_;exact⟨_,_,O,O,by rw[B.out]⟩
def BE:Tryz.f229.results.toList=[.tmp 2]:=am
def U5{l:List Int}(h:∀x∈l,okF x):l.all cN=V:=by rw[eF];intro x d;obtain⟨c,h2⟩:=h x d;unfold cN;simp[c,h2]
def anC(h:Heap)(x:U)(rows:List (List Int))(w:Nat)(hx:RL x rows)(hr:F rows<=64)(A:∀r∈rows,F r=w)(oy:w<=64)(B:∀r∈rows,∀x∈r,okF x):∃h',W3.call 229 [x] h=J (.ret (.v (.int .i64 0)),h')/\h'=h:=by
 obtain⟨k,D,l,rfl,hs,fa,C⟩:=hx;have f:=ae.mk (aj hs (aj C (aj A B)));clear hs C A B;have u23:=cT;have u22:=gm;have z23:=gV;have eC:F (l.map λa=>[a])=F rows:=by rw[br];exact fa
 have Gp:¬((64:Int)<(F rows:Int)):=by omega
 refine gy O Tryz.func229 O ?_;refine bg @BE ?_;refine b9 (λz1 v o=>∃e:Nat,e<=F rows/\z1=F rows-e/\v.get 0=.list k D (l.map λa=>[a])/\v.get 3=.v (.int .i64 (e:Nat))/\v.defers=[]/\o=h) ?_ (F rows) _ _ ?_;rotate_left 1
 .refine⟨0,bV _,O,?_,?_,?_,O⟩<;>exact gR
 rintro z1 v o ⟨e,hi,rfl,H,g3,L,rfl⟩;by_cases c:e<F rows
 .have s:D=1:=f.out.1 (by intro z2;rw[z2]at c;simp at c);subst s;obtain⟨a,d⟩:∃a,l[e]?=J a:=⟨_,aN M⟩;obtain⟨r,i⟩:∃r,rows[e]?=J r:=⟨_,aN c⟩;have ld:=iN (H:=o) (s:=1) d;obtain⟨ka,sa,rfl,m⟩:=f.out.2.1 e a r d i;have g:=f.out.2.2.1 r (cU i);have R:F (ints r)=w:=by rw[cE];exact g
  have N:(e:Int)<(F rows:Int):=by omega
  have hwd:¬((64:Int)<(w:Int)):=by omega
  clear d i m g;refine bE @BE @aT ?_;exact⟨F rows-(e+1),by omega,e+1,by omega,O,by simp⟩
 .refine bg @BE ?_;refine bC.gen λE p y ek dm=>?_;have f0:E.get 0=.list k D (l.map λa=>[a]):=by rw[p];simp only[gW,reduceIte,aJ,aB];exact H
  have f4:E.get 4=.v (.int .i64 (0:Nat)):=by rw[p];exact gR
  have Z:E.defers=[]:=by rw[y];simp only[gW,reduceIte,aJ,aB];exact L
  clear p y ek dm H g3 L hi c;refine b9 (λz1 v H2=>∃e:Nat,e<=F rows/\z1=F rows-e/\v.get 0=.list k D (l.map λa=>[a])/\v.get 4=.v (.int .i64 (e:Nat))/\v.defers=[]/\H2=o) ?_ (F rows) _ _ ?_;rotate_left 1
  .exact⟨0,bV _,O,f0,f4,Z,O⟩
  clear f0 f4 Z;rintro z1 v o ⟨e,hi,rfl,H,g4,L,rfl⟩;by_cases c:e<F rows
  .have s:D=1:=f.out.1 (by intro z2;rw[z2]at c;simp at c);subst s;obtain⟨a,d⟩:∃a,l[e]?=J a:=⟨_,aN M⟩;obtain⟨r,i⟩:∃r,rows[e]?=J r:=⟨_,aN c⟩;obtain⟨a0,j⟩:∃a,l[0]?=J a:=⟨_,aN M⟩;obtain⟨X,u⟩:∃r,rows[0]?=J r:=⟨_,aN M⟩;have ld:=iN (H:=o) (s:=1) d;have ld0:=iN (H:=o) (s:=1) j;obtain⟨ka,sa,rfl,m⟩:=f.out.2.1 e a r d i;obtain⟨ka0,sa0,rfl,T⟩:=f.out.2.1 0 a0 X j u;have g:=f.out.2.2.1 r (cU i);have q:=f.out.2.2.1 X (cU u);obtain⟨_,H5,cc,Y,rfl⟩:=Ws o (.list ka sa (ints r)) r ⟨_,_,O,m⟩ M;rw[Y,U5 (f.out.2.2.2 r (cU i))]at cc;have R:F (ints r)=w:=(by rw[cE];exact g);have MA:F (ints X)=w:=(by rw[cE];exact q);have N:(e:Int)<(F rows:Int):=(by omega);have C9:(0:Int)<(F rows:Int):=(by omega);have z0:(0:Int).toNat=0:=rfl;have Dt:decide ((w:Int)=(w:Int))=V:=(by simp);clear d i m g j u T q Y;refine bE @BE @aT ?_;refine du Rx am ?_;refine bE @BE @aT ?_;exact⟨F rows-(e+1),by omega,e+1,by omega,O,by simp⟩
  .refine bg @BE ?_;exact⟨_,O,O⟩
def XQ:Tryz.f174.results.toList=[.tmp 4]:=am
def anV(h:Heap)(x y:U)(rows:List (List Int))(c:List Int)(B:RL x rows)(D:IL y c)(Z:F rows<=64)(j:∀r∈rows,F r=F c)(v:F c<=64)(l:∀r∈rows,∀x∈r,okF x)(m:∀x∈c,okF x):
 W3.call 174 [x,y] h=J (.ret (.v (.int .i64 0)),h):=by
 obtain⟨T,N,p⟩:=anC h x rows (F c) B Z j v l;rw[p]at N;obtain⟨_,h2,R,q,rfl⟩:=Ws h y c D M;rw[q,U5 m]at R;clear p q T h2;obtain⟨k,z1,L,rfl,s,C,g⟩:=B;obtain⟨ky,sy,rfl,jI⟩:=D;have u23:=cT;have u22:=gm;have z23:=gV;have eC:F (L.map λa=>[a])=F rows:=by rw[br];exact C
 have X:=cE c;have Gp:¬((64:Int)<(F c:Int)):=by omega
 clear l m;refine cq O Tryz.func174 O ?_;by_cases i:F rows=0
 .have Y:decide ((0:Int)<(F rows:Int))=ai:=b_ M;clear j g i;exact iB @XQ
 .have Y:decide ((0:Int)<(F rows:Int))=V:=bQ M;obtain⟨a0,d⟩:∃a,L[0]?=J a:=⟨_,aN M⟩;obtain⟨o,f⟩:∃r,rows[0]?=J r:=⟨_,aN M⟩;have u:z1=1:=s (by intro z2;rw[z2]at i;simp at i);subst u;have ld0:=iN (H:=h) (s:=1) d;obtain⟨ka0,sa0,rfl,DN⟩:=g 0 a0 o d f;have e:=j o (cU f);have MA:F (ints o)=F c:=by rw[cE];exact e
  have C9:(0:Int)<(F rows:Int):=by omega
  have z0:(0:Int).toNat=0:=rfl;have Dt:decide ((F c:Int)=(F c:Int))=V:=by simp
  clear j g d f e s i;exact dV @XQ @aT
def L4:List aQ:=[80,81,75,66,130,202,67,39,69,162,111,35,100,96,97,99,241,203,193,242,74,174,231,232,233,222,178]
noncomputable def Bs:aQ->Option (List U->Heap->Option (U × Heap)):=lh W3 L4
noncomputable abbrev W4:=whole aa Gt Bs
def sW:lW Bs L4:=rm
section
variable (a b n x:Int)
def QP:∀h,W4.call 80 [I a,I b] h=J (.ret (I (dx a b)),h):=bR (L:=L4) O O O (abD a b _) O rfl
def Wb:∀h,W4.call 81 [I a,I b] h=J (.ret (I (cS a b)),h):=bR (L:=L4) O O O (ak7 a b _) O rfl
def Y_:∀h,W4.call 66 [I x] h=J (.ret (.v (.bool (bX x))),h):=bR (L:=L4) O O O (atJ x _) O rfl
def ag0:∀h,W4.call 67 [I a,I b] h=J (.ret (.tuple [I (nI a b),I (rq a b)]),h):=bR (L:=L4) O O O (agZ a b _) O rfl
def Li:∀h,W4.call 75 [I a,I n] h=J (.ret (.tuple [I (fb a n),I (ox a)]),h):=bR (L:=L4) O O O (ag8 a n _) O rfl
def aoi:∀h,W4.call 231 [I n] h=J (.ret (.tuple [I (if fmod n=0 then 0 else ea n),I (if fmod n=0 then 90 else 0)]),h):=bR (L:=L4) O O O (aoh n _) O rfl
def aqH:∀h,W4.call 111 [I x] h=J (.ret (.v (.bool (bX x))),h):=bR (L:=L4) O O O (aqG x _) O rfl
def aoc:∀h,W4.call 97 [I n] h=J (.ret (.agg (ar 1 n [] .nil 0 [])),h):=bR (L:=L4) O O O (aob n _) O rfl
end
def akk(x y)(a own)(n)(l:IL x a)(m:IL y own)(c:F own=F a)(j:F a<=1000000):∀h,W4.call 233 [x,y,I n] h=J (.ret (.list .held 1 (ints (gQ n a own))),h):=by obtain⟨d,h2⟩:=l.hold;obtain⟨e,f⟩:=m.hold;obtain⟨o,h',i,-,rfl,g⟩:=VQ ⟨[],[],0,[]⟩ (al x) (al y) a own n (.inl d) (.inl e) c j;exact bR (L:=L4) (B:=[al x,al y,I n]) O O (by simp[aA,h2,f,au,I]) i (yK g (rG c.symm)) (by simp[au,jj,oJ])
def Yf(a)(n):F (scaleB a n)=F a:=by unfold scaleB;rw[rG (by rw[l8]),l8]
def atf(x)(a)(n)(i:IL x a)(g:F a<=1000000)(f:0<=n/\n<=9223372036854775807):∀h,W4.call 232 [x,I n] h=J (.ret (.list .held 1 (ints (scaleB a n))),h):=by obtain⟨c,h2⟩:=i.hold;obtain⟨j,h',e,-,b,rfl,d⟩:=ate ⟨[],[],0,[]⟩ (al x) a n (.inl c) g f;exact bR (L:=L4) (B:=[al x,I n]) O O (by simp[aA,h2,au,I]) e (yK d (Yf a n)) (by simp[au,jj,oJ])
def abx(c)(s0)(xs:List U)(y z)(rows)(ac who)(A:RL (.list c s0 (xs.map λa=>[a])) rows)(B:IL y ac)(C:IL z who)(m:F who<=1099511627776):
 (∃e,fm rows ac who=([],ai,e)/\∀h,W4.call 39 [.agg [.list c s0 (xs.map λa=>[a]),y],z] h=J (.ret (.tuple [.list .nil 0 [],.v (.bool ai),.v (.int .i64 e)]),h))∨
 ∃l,fm rows ac who=(l,V,0)/\F l=F rows/\∀h,W4.call 39 [.agg [.list c s0 (xs.map λa=>[a]),y],z] h=J (.ret (.tuple [.list .held 1 (ints l),.v (.bool V),.v (.int .i64 0)]),h):=by
 obtain⟨p,h2⟩:=A.hold;obtain⟨q,r⟩:=B.hold;obtain⟨s,u⟩:=C.hold;have g:aZ [.agg [.list c s0 (xs.map λa=>[a]),y],z]=[.agg [.list (bU c) s0 ((xs.map al).map λa=>[a]),al y],al z]:=by rw[aZ,al,aZ,aZ,aZ,al,yx];rfl
 have i:aA 0 0 0 [.agg [.list (bU c) s0 ((xs.map al).map λa=>[a]),al y],al z]=V:=by have v:=uL _ h2;rw[aA,au,aA,aA,aA,aA,au,ef,v,r,u];rfl
 obtain⟨D,h',j,-,⟨e,d,rfl⟩|⟨l,b,d,f,rfl,o⟩⟩:=abA ⟨[],[],0,[]⟩ (bU c) s0 (xs.map al) (al y) (al z) rows ac who p q s m
 .exact .inl ⟨e,d,bR (L:=L4) O g i j O O⟩
 .refine .inr ⟨l,d,f,bR (L:=L4) O g i j ?_ (by simp[au,aA,jj,oJ])⟩;rw[dD,ir,yK o f];rfl
def anW(x y)(rows)(c)(o:RL x rows)(p:IL y c)(l:F rows<=64)(m:∀r∈rows,F r=F c)(f:F c<=64)(d:∀r∈rows,∀x∈r,okF x)(e:∀x∈c,okF x):
 ∀h,W4.call 174 [x,y] h=J (.ret (.v (.int .i64 0)),h):=by
 obtain⟨g,h2⟩:=o.fc;obtain⟨i,j⟩:=p.hold;exact bR (L:=L4) (B:=[al x,al y]) O O (by simp[aA,h2,j]) (anV ⟨[],[],0,[]⟩ (al x) (al y) rows c g i l m f d e) O rfl
def Iu:Tryz.f105.results.toList=[.tmp 4]:=am
def ahA(h:Heap)(x:U)(l:List Int)(n:Int)(B:IL x l)(hl:F l<=1099511627776):∃r h',W4.call 105 [x,I n] h=J (r,h')/\h'=h/\r=.ret (.v (.bool (l.contains n))):=by
 obtain⟨k,H,rfl,j⟩:=B;have D:=ae.mk j;clear j;have R:=cT;have z3:=eR;have L:=cE l;unfold I;refine bL O Tryz.func105 O ?_;refine bg @Iu ?_;refine b9 (λN f y=>∃d:Nat,d<=F l/\N=F l-d/\ae ((l.take d).contains n=ai)/\f.get 0=.list k H (ints l)/\f.get 1=.v (.int .i64 n)/\f.get 5=.v (.int .i64 (d:Nat))/\f.defers=[]/\y=h) ?_ (F l) _ _ ?_;rotate_left 1
 .refine⟨0,bV _,O,⟨b7⟩,?_,?_,?_,?_,O⟩<;>exact gR
 rintro N f y ⟨d,hi,rfl,p,T,X,Y,Z,rfl⟩;by_cases c:d<F l
 .have m:H=1:=D.out (by intro E;rw[E]at c;simp at c);subst m;have ld:=eJ (H:=y) (s:=1) c;have o:l[d]?=J (ag l d):=by rw[aN c,fS c]
  have A:(d:Int)<(F l:Int):=by omega
  have v:=ae.mk o;clear o;by_cases e:ag l d=n
  .have g:decide (ag l d=n)=V:=(by simp[e]);have i:l.contains n=V:=(by rw[v9,bQ];rw[<-e];exact cU v.out);have C:=ae.mk i;clear i;have s:=ae.mk e;generalize ag l d=z0 at *
   clear e
   repeat' (first|simp(maxSteps:=9999999) (disch:=first|exact dZ|fail) only[gW,reduceIte,aJ,aB,Iu,aT, *]|refine dX ?_ ?_<;>(intro _;try omega))
   all_goals first|exact⟨_,_,O,O,by rw[C.out]⟩|exact absurd s.out (by assumption)
  .have g:decide (ag l d=n)=ai:=(by simp[e]);have u:ae ((l.take (d+1)).contains n=ai):=⟨by
    have:=p.out;rw[fY v.out];rw[v9,decide_eq_false_iff_not]at *
    rw[Cm,not_or];exact⟨this,by rw[hY];exactλE=>e E.symm⟩⟩
   repeat' (first|simp(maxSteps:=9999999) (disch:=first|exact dZ|fail) only[gW,reduceIte,aJ,aB,Iu,aT, *]|refine dX ?_ ?_<;>(intro _;try omega))
   all_goals exact⟨F l-(d+1),by omega,d+1,by omega,O,u,by simp⟩
 .have:d=F l:=by omega
  subst this;have:=p.out;rw[fB]at this;have q:=ae.mk this;clear this;refine bg @Iu ?_;exact⟨_,_,O,O,by rw[q.out]⟩
def apE:Tryz.f103.results.toList=[.tmp 2]:=am
def asW(h:Heap)(n:Nat)(e:0<n)(h2:n<=1000000):W4.call 103 [I (n:Nat)] h=J (.ret (.arr (F h.boxes) 0 n n),h.push ((eZ n).map I)):=by
 have f:=vk h n h2 .i64 .i64;have c:bB n (I 0)=(bB n (0:Int)).map I:=by rw[xx]
 rw[c]at f;have g:=um (H:=h.push ((bB n (0:Int)).map I)) (b:=h.boxes.length) (r:=bB n (0:Int)) (k:=0) (x:=1) (aK _ _) (by rw[l8];exact e);have d:(bB n (0:Int)).set 0 1=eZ n:=by obtain⟨i,rfl⟩:∃i,n=i+1:=⟨n-1,by omega⟩;unfold eZ;rw[Co];rfl
 rw[lO,d]at g;have ix:dH aa 23 (.arr (F h.boxes) 0 n n) (.v (.int .i64 0))=J (.ptr (.box (F h.boxes)) 0):=nN (n:=0) (k:=.i64) e;clear c d;unfold I at *
 refine cq O Tryz.func103 O ?_;exact iB @apE
def XK:Tryz.f104.results.toList=[.tmp 2]:=am
def aeM(h:Heap)(x y:U)(rows:List (List Int))(ac:List Int)(s:RL x rows)(u:IL y ac):∃h',W4.call 104 [.agg [x,y]] h=J (.ret (.v (.int .i64 (cd rows:Nat))),h')/\h'=h.push [x,y]:=by
 obtain⟨k,q,e,rfl,l,i,j⟩:=s;have X:(U.agg [.list k q (e.map λa=>[a]),y]).bG=J [.list k q (e.map λa=>[a]),y]:=by obtain⟨Y,sy,rfl,-⟩:=u;rfl
 have Z:=oc (aK h [.list k q (e.map λa=>[a]),y]);have R:=cT;have N:=gm;have T:=gV;have A:F (e.map λa=>[a])=F rows:=by rw[br];exact i
 refine gy O Tryz.func104 O ?_;by_cases d:F rows=0
 .have r:(F rows:Int)=0:=by omega
  have f:cd rows=1:=by unfold cd;rw[av d]
  rw[f];clear d j l i f;refine cK @XK @a_ @de ?_;exact⟨_,O,O⟩
 .have r:¬((F rows:Int)=0):=by omega
  obtain⟨a0,c⟩:∃a,e[0]?=J a:=⟨_,aN M⟩;obtain⟨o,g⟩:∃z2,rows[0]?=J z2:=⟨_,aN M⟩;have p:q=1:=l (by intro z1;rw[z1]at d;simp at d);subst p;have D:=iN (H:=h.push [.list k 1 (e.map λa=>[a]),y]) (s:=1) c;obtain⟨C,L,rfl,m⟩:=j 0 a0 o c g;have f:cd rows=F o:=by unfold cd;rw[aP d,eG,g];rfl
  rw[f];have B:=cE o;have v:(0:Int)<(F rows:Int):=by omega
  have z0:(0:Int).toNat=0:=rfl;clear d j l i f c g m;refine bA @XK @a_ @de @aT ?_;exact⟨_,O,O⟩
def qS:Tryz.f43.results.toList=[.tmp 2]:=am
def amf(h:Heap)(x:U)(l:List Int)(hx:IL x l)(hl:F l<=9223372036854775807):∃r h',W4.call 43 [x] h=J (r,h')/\h'=h/\r=.ret (.v (.bool (dy (-1) l))):=by
 obtain⟨k,z0,rfl,N⟩:=hx;have ks:=ae.mk N;clear N;have u23:=cT;have z3:=eR;have eC:=cE l;refine bL O Tryz.func43 O ?_;refine bg @qS ?_;refine b9 (λz1 Y B=>∃(d:Nat) (c:Int),d<=F l/\z1=F l-d/\ae (dy c (l.drop d)=dy (-1) l)/\ -1<=c/\ae (d=0->c= -1)/\ae (0<d->ag l (d-1)=c)/\Y.get 0=.list k z0 (ints l)/\Y.get 3=.v (.int .i64 (d:Nat))/\Y.defers=[]/\B=h) ?_ (F l) _ _ ?_;rotate_left 1
 .refine⟨0,-1,bV _,O,⟨O⟩,Cd _,⟨λ_=>rfl⟩,⟨λA=>absurd A (Qd _)⟩,?_,?_,?_,O⟩<;>exact gR
 rintro z1 Y B ⟨d,c,hi,rfl,T,DB,k0,k1,g0,g3,hd,rfl⟩;by_cases g:d<F l;rotate_left 1
 .have:d=F l:=by omega
  subst this;have e:dy (-1) l=V:=by rw[<-T.out,mW (aV _)];rfl
  have m:=ae.mk e;clear e;refine bg @qS ?_;exact⟨_,_,O,O,by rw[m.out]⟩
 have R:z0=1:=ks.out (by intro A;rw[A]at g;simp at g);subst R;have ld:=eJ (H:=B) (s:=1) g;have fH:(d:Int)<(F l:Int):=by omega
 have o:l.drop d=ag l d::l.drop (d+1):=by rw[fS g];exact ss g
 have s:=T.out;rw[o,dy]at s;have f:=ae.mk s;clear s o;by_cases i:ag l d<0
 .have C:decide (ag l d<0)=V:=by simp[i]
  have e:dy (-1) l=ai:=by rw[<-f.out];simp;omega
  have m:=ae.mk e;clear e i;refine bE @qS @aT ?_;refine du sW am ?_;refine bE @qS @aT ?_;exact⟨_,_,O,O,by rw[m.out]⟩
 have C:decide (ag l d<0)=ai:=by simp[i]
 by_cases p:64<=ag l d
 .have D:decide (64<=ag l d)=V:=by simp[p]
  have e:dy (-1) l=ai:=by rw[<-f.out];simp;omega
  have m:=ae.mk e;clear e i p;refine bE @qS @aT ?_;refine du sW am ?_;refine bE @qS @aT ?_;exact⟨_,_,O,O,by rw[m.out]⟩
 have D:decide (64<=ag l d)=ai:=by simp;omega
 by_cases H:d=0
 .subst H;have L:=k0.out O;have u:ae (dy (ag l 0) (l.drop (0+1))=dy (-1) l):=⟨by rw[<-f.out,bQ (M:c<ag l 0),bQ (M:ag l 0<=63)];rfl⟩;have q: -1<=ag l 0:=by omega
  have v:ae (0<0+1->ag l (0+1-1)=ag l 0):=⟨λ_=>rfl⟩;clear i p L f;refine bE @qS @aT ?_;refine du sW am ?_;refine bE @qS @aT ?_;exact⟨F l-1,by omega,0+1,ag l 0,by omega,O,u,q,⟨λA=>absurd A M⟩,v,by simp⟩
 .have j:=k1.out M;have X:=eJ (H:=B) (l:=l) (i:=d-1) (s:=1) M;rw[j]at X;have aiq:decide ((0:Int)<(d:Int))=V:=bQ M;have ML:(d:Int)-1=((d-1:Nat):Int):=by omega
  have Z:((d-1:Nat):Int)<(F l:Int):=by omega
  by_cases y:ag l d<=c
  .have E:decide (ag l d<=c)=V:=(by simp[y]);have e:dy (-1) l=ai:=(by rw[<-f.out];simp;omega);have m:=ae.mk e;clear e i p y j;refine bE @qS @aT ?_;refine du sW am ?_;refine bE @qS @aT ?_;exact⟨_,_,O,O,by rw[m.out]⟩
  .have E:decide (ag l d<=c)=ai:=(by simp;omega);have u:ae (dy (ag l d) (l.drop (d+1))=dy (-1) l):=⟨by rw[<-f.out,bQ (M:c<ag l d),bQ (M:ag l d<=63)];rfl⟩;have q: -1<=ag l d:=(by omega);have v:ae (0<d+1->ag l (d+1-1)=ag l d):=⟨λ_=>rfl⟩;clear i p y j f;refine bE @qS @aT ?_;refine du sW am ?_;refine bE @qS @aT ?_;exact⟨F l-(d+1),by omega,d+1,ag l d,by omega,O,u,q,⟨λA=>absurd A M⟩,v,by simp⟩
section
variable {pr:aQ->Option (List U->Heap->Option (U × Heap))}
def Ou:Tryz.f208.results.toList=[.tmp 4]:=am
def aiW(v:pr 164=af)(g:aQ)(aR:List U)(p:Int->Bool)(h:Heap)(x:U)(l:List Int)(H:IL x l)(hl:l.length<=1000000)(u:∀n∈l,(whole aa Gt pr).call g (I n::aR) h=J (.ret (.v (.bool (p n))),h)):
 ∃r h',(whole Tryz.prog Gt pr).call 164 [x,.func (.func g) [] aR] h=some (r,h')/\h'=h/\∃i:Int,r=.ret (I i)/\decide (0<=i)=l.any p:=by
 obtain⟨k,X,rfl,y⟩:=H;have N:=ae.mk u;have R:=ae.mk y;clear u y;have u23:=cT;have z3:=eR;have Y:=cE l;refine bL v aa3 rfl ?_;refine bg @qO ?_;refine b9 (λZ q D=>∃i:Nat,i<=l.length/\Z=l.length - i/\(l.take i).any p=ai/\q.get 0=.list k X (ints l)/\q.get 1=.func (.func g) [] aR/\q.get 7=.v (.int .i64 (l.length:Nat))/\q.get 8=.v (.int .i64 (i:Nat))/\q.defers=[]/\D=h) ?_ l.length _ _ ?_;rotate_left 1
 .refine⟨0,bV _,rfl,by simp,?_,?_,?_,?_,?_,rfl⟩<;>exact gR
 rintro Z q D ⟨i,hi,rfl,s,g0,g1,g7,g8,hd,rfl⟩;have B:=ae.mk s;clear s;by_cases d:i<l.length
 .have A:X=1:=R.out (by intro z0;rw[z0] at d;simp at d);subst A;have ld:=eJ (H:=D) (s:=1) d;have m:l[i]?=J (ag l i):=by rw[aN d,fS d]
  have o:=N.out (ag l i) (cU m);have E:(i:Int)<(l.length:Int):=by omega
  have e:(l.take (i+1)).any p=p (ag l i):=by rw[fY m,JA,B.out];simp
  have T:=ae.mk e;have L:=ae.mk m;clear m e;unfold I at o;cases c:p (ag l i) with
  |true=>rw[c] at o;have f:l.any p=V:=JB.2 ⟨_,cU L.out,c⟩;have j:=ae.mk f;clear f c;refine cK @qO @aT @eu.{0} ?_;exact⟨_,_,rfl,rfl,(i:Int),rfl,by rw[j.out];simp⟩
  |false=>rw[c] at o;have C:(l.take (i+1)).any p=ai:=T.out.trans c;clear c;refine cK @qO @aT @eu.{0} ?_;exact⟨l.length - (i+1),by omega,i+1,by omega,rfl,C,by simp⟩
 .have:i=l.length:=by omega
  subst this;have:=B.out;rw[fB] at this;have j:=ae.mk this;clear this;refine bg @qO ?_;exact⟨_,_,rfl,rfl,-1,rfl,by rw[j.out];rfl⟩
def FX(d:pr 164=af)(c:pr 91=af)(g:aQ)(aR:List U)(p:Int->Bool)(h:Heap)(x:U)(l:List Int)(m:IL x l)(j:F l<=1000000)(f:∀n∈l,(whole aa Gt pr).call g (I n::aR) h=J (.ret (.v (.bool (p n))),h)):
 (whole aa Gt pr).call 91 [x,.func (.func g) [] aR] h=J (.ret (.v (.bool (l.any p))),h):=by
 obtain⟨r,h',o,rfl,q,rfl,e⟩:=aiW d g aR p h x l m j f;have i:decide (0<=q)=l.any p:=e;unfold I at o;refine cq c abm O ?_;clear e f;exact iB @Oo
def asC(q:pr 208=af)(m:∀a b h,(whole aa Gt pr).call 80 [I a,I b] h=J (.ret (I (dx a b)),h))(g:aQ)(aR:List U)(f:Nat->Int)(h:Heap)(x:U)(l:List Int)(C:IL x l)(hl:F l<=1000000)
 (p:∀i,i<F l->(whole aa Gt pr).call g (I (i:Nat)::I (ag l i)::aR) h=J (.ret (I (f i)),h)):
 ∃h',(whole aa Gt pr).call 208 [x,.func (.func g) [] aR] h=J (.ret (I ((bZ (F l)).foldl (λx j=>dx x (f j)) 0)),h')/\h'=h:=by
 obtain⟨k,D,rfl,r⟩:=C;have u:=ae.mk (aj p r);clear p r;have N:=cT;have z3:=eR;have H:=cE l;unfold I;refine gy q Tryz.func208 O ?_;refine bg @Ou ?_;refine b9 (λL e o=>∃i:Nat,i<=F l/\L=F l-i/\e.get 1=.func (.func g) [] aR/\e.get 4=.v (.int .i64 ((bZ i).foldl (λx j=>dx x (f j)) 0))/\e.get 7=.list k D (ints l)/\e.get 8=.v (.int .i64 (F l:Nat))/\e.get 9=.v (.int .i64 (i:Nat))/\e.defers=[]/\o=h) ?_ (F l) _ _ ?_;rotate_left 1
 .refine⟨0,bV _,O,?_,?_,?_,?_,?_,?_,O⟩<;>exact gR
 rintro L e o ⟨i,hi,rfl,R,T,X,Y,Z,hd,rfl⟩;by_cases c:i<F l
 .have s:D=1:=u.out.2 (by intro z0;rw[z0]at c;simp at c);subst s;have ld:=eJ (H:=o) (s:=1) c;have A:=u.out.1 i c;have y:=λz1=>m z1 (f i) o;have B:(i:Int)<(F l:Int):=by omega
  have d:dx ((bZ i).foldl (λx j=>dx x (f j)) 0) (f i)=(bZ (i+1)).foldl (λx j=>dx x (f j)) 0:=by rw[jT,oj];rfl
  have v:=ae.mk d;clear d;generalize (bZ i).foldl (λx j=>dx x (f j)) 0=E at *
  unfold I at A y;refine cK @Ou @aT @eu.{0} ?_;exact⟨F l-(i+1),by omega,i+1,by omega,O,by trivial,by rw[v.out],by simp⟩
 .have:i=F l:=by omega
  subst this;refine bg @Ou ?_;exact⟨_,O,O⟩
end
def XO:Tryz.f206.results.toList=[.tmp 2]:=am
def apw:Tryz.f139.results.toList=[.tmp 2]:=am
def XI:Tryz.f140.results.toList=[.tmp 2]:=am
def apx:Tryz.f142.results.toList=[.tmp 4]:=am
def apK:Tryz.f209.results.toList=[.tmp 5]:=am
def apN:Tryz.f218.results.toList=[.tmp 2]:=am
def Is:Tryz.f158.results.toList=[.tmp 4]:=am
def Oq:Tryz.f159.results.toList=[.tmp 4]:=am
def ap7:Tryz.f82.results.toList=[.tmp 4]:=am
def aqa:Tryz.f68.results.toList=[.tmp 4]:=am
def amK(x n)(h):W4.call 82 [I x,I n] h=J (.ret (I (fb x n)),h):=by
 have c:=Li x n;unfold I at *
 refine cq O Tryz.func82 O ?_;exact iB @ap7
def amL(x n)(h):W4.call 68 [I x,I n] h=J (.ret (I (fb x n)),h):=by
 have c:=Li x n;unfold I at *
 refine cq O Tryz.func68 O ?_;exact iB @aqa
def alv(n):kj n= !cN n:=by
 unfold kj cN Qi;by_cases c:n<0
 .rw[bQ c,b_ (M:¬0<=n)];rfl
 .by_cases d:1073741789<=n
  .rw[b_ c,bQ d,bQ (M:0<=n),b_ (M:¬n<1073741789)];rfl
  .rw[b_ c,b_ d,bQ (M:0<=n),bQ (M:n<1073741789)];rfl
def alt(n)(h):W4.call 206 [I n] h=J (.ret (.v (.bool (kj n))),h):=by
 unfold I kj;by_cases c:n<0
 .refine cq O aa7 O ?_;have:decide (n<0)=V:=by simp[c]
  exact dV @XO @ZL
 .refine cq O aa7 O ?_;have:decide (n<0)=ai:=by simp[c]
  exact dV @XO @Fc
def Kj(l:List Int):(!l.any kj)=l.all cN:=by
 induction l with
 |nil=>rfl|cons a l c=>rw[aaa,Ch,<-c,alv];simp
def Wq(x)(l)(c:IL x l)(d:F l<=1000000)(h):W4.call 139 [x] h=J (.ret (.v (.bool (l.all cN))),h):=by have f:=FX (pr:=Bs) O O 206 [] kj h x l c d (λn _=>alt n h);have e:(!l.any kj)=l.all cN:=Kj l;refine cq O Tryz.func139 O ?_;clear c;exact iB @apw
def Sd(h:Heap)(x y:U)(rows:List (List Int))(ac:List Int)(s:RL x rows)(u:IL y ac):∃h',W4.call 140 [.agg [x,y]] h=J (.ret (.v (.int .i64 (cd rows:Nat))),h')/\h'=h.push [x,y]:=by
 obtain⟨k,q,e,rfl,l,i,j⟩:=s;have X:(U.agg [.list k q (e.map λa=>[a]),y]).bG=J [.list k q (e.map λa=>[a]),y]:=by obtain⟨Y,sy,rfl,-⟩:=u;rfl
 have Z:=oc (aK h [.list k q (e.map λa=>[a]),y]);have R:=cT;have N:=gm;have T:=gV;have A:F (e.map λa=>[a])=F rows:=by rw[br];exact i
 refine gy O Tryz.func140 O ?_;by_cases d:F rows=0
 .have r:(F rows:Int)=0:=by omega
  have f:cd rows=1:=by unfold cd;rw[av d]
  rw[f];clear d j l i f;refine cK @XI @a_ @de ?_;exact⟨_,O,O⟩
 .have r:¬((F rows:Int)=0):=by omega
  obtain⟨a0,c⟩:∃a,e[0]?=J a:=⟨_,aN M⟩;obtain⟨o,g⟩:∃z2,rows[0]?=J z2:=⟨_,aN M⟩;have p:q=1:=l (by intro z1;rw[z1]at d;simp at d);subst p;have D:=iN (H:=h.push [.list k 1 (e.map λa=>[a]),y]) (s:=1) c;obtain⟨C,L,rfl,m⟩:=j 0 a0 o c g;have f:cd rows=F o:=by unfold cd;rw[aP d,eG,g];rfl
  rw[f];have B:=cE o;have v:(0:Int)<(F rows:Int):=by omega
  have z0:(0:Int).toNat=0:=rfl;clear d j l i f c g m;refine bA @XI @a_ @de @aT ?_;exact⟨_,O,O⟩
def atd(h:Heap)(b i:Nat)(n:Int)(y:U)(l:List Int)(c:h.boxes[b]?=J [y])(f:IL y l)(hi:i<F l):W4.call 209 [I (i:Nat),I n,.ptr (.box b) 0] h=J (.ret (I (cS n (ag l i))),h):=by
 obtain⟨k,m,rfl,d⟩:=f;have e:m=1:=d (by intro r;rw[r]at hi;simp at hi);subst e;have p:=vf c;have q:=eJ (H:=h) (s:=1) hi;have o:=cT;have s:=eR;have j:=cE l;have g:(i:Int)<(F l:Int):=by omega
 have u:=Wb n (ag l i);unfold I at *
 clear d c;refine cq O Tryz.func209 O ?_;exact dV @apK @aT
def atb(h:Heap)(x y:U)(a b:List Int)(d:IL x a)(c:IL y b)(f:F a<=1000000)(i:F a<=F b):∃h',W4.call 142 [x,y] h=J (.ret (I (wu a b)),h')/\h'=h.push [y]:=by
 obtain⟨_,l,rfl⟩:=asC (pr:=Bs) O (λa b h=>QP a b h) 209 [.ptr (.box (F h.boxes)) 0] (λe=>cS (ag a e) (ag b e)) (h.push [y]) x a d f (λe o=>atd (h.push [y]) (F h.boxes) e (ag a e) y b (aK _ _) c M);have m:y.bG=J [y]:=by obtain⟨k,p,rfl,-⟩:=c;rfl
 have g:(bZ (F a)).foldl (λx j=>dx x (cS (ag a j) (ag b j))) 0=wu a b:=rfl;rw[g]at l;unfold I at *
 clear d c g;refine gy O Tryz.func142 O ?_;refine bE @apx @a_ ?_;exact⟨_,O,O⟩
def atH(n)(h):W4.call 218 [I n] h=J (.ret (.v (.bool (!bX n))),h):=by
 have c:=Y_ n;unfold I at *
 refine cq O Tryz.func218 O ?_;exact iB @apN
def Q0(p)(l:List Int):(l.any λn=> !p n)= !l.all p:=by
 induction l with
 |nil=>rfl|cons a l c=>rw[aaa,Ch,c];simp
def lP:Tryz.f40.results.toList=[.tmp 2]:=am
def anA(h:Heap)(x y:U)(rows:List (List Int))(ac:List Int)(hx:RL x rows)(E:IL y ac)(lH:F rows<=1000000):
 ∃r h',W4.call 40 [.agg [x,y]] h=J (r,h')/\h'=h.push [x,y]/\r=.ret (.v (.int .i64 (cG rows ac))):=by
 obtain⟨k,z1,C,rfl,hs,fa,mM⟩:=hx;obtain⟨ky,sy,rfl,jI⟩:=E;have kk:=ae.mk (aj hs (aj mM jI));clear hs mM jI;have u23:=cT;have u22:=gm;have z23:=gV;have z3:=eR;have eC:F (C.map λa=>[a])=F rows:=by rw[br];exact fa
 have Mm:=cE ac;have b0:(h.push [.list k z1 (C.map λa=>[a]),.list ky sy (ints ac)]).boxes[h.boxes.length]?=J [.list k z1 (C.map λa=>[a]),.list ky sy (ints ac)]:=aK _ _;have l0:=oc b0;have l1:=w9 b0;have bx:(U.agg [.list k z1 (C.map λa=>[a]),.list ky sy (ints ac)]).bG=J [.list k z1 (C.map λa=>[a]),.list ky sy (ints ac)]:=rfl;clear b0;have k1:ae (64<F rows->cG rows ac=2):=⟨λq=>by unfold cG;rw[av (by simp[q])]⟩;have k2:ae (∀(c:Nat) r,rows[c]?=J r->64<F r->cG rows ac=2):=⟨λc r hr q=>by unfold cG;rw[av];rw[Bool.or_eq_true];exact .inr (JB.2 ⟨r,cU hr,by simp[q]⟩)⟩;have k3:ae (F rows<=64->(rows.any λr=>decide (64<F r))=ai->F rows≠F ac->cG rows ac=230):=⟨λq1 q2 q3=>by unfold cG;rw[aP (by rw[q2];simp;omega),av q3]⟩;have k4:ae (F rows<=64->(rows.any λr=>decide (64<F r))=ai->F rows=F ac->cG rows ac=if ((bZ (F rows)).all (pO rows ac))=V then (0:Int) else 230):=⟨λq1 q2 q3=>by unfold cG;rw[aP (by rw[q2];simp;omega),aP (by simpa using q3)];rfl⟩;generalize cG rows ac=res at *
 obtain⟨z2,hH⟩:∃z2,h.push [.list k z1 (C.map λa=>[a]),.list ky sy (ints ac)]=z2:=⟨_,O⟩;rw[hH]at l0 l1;rw[hH];refine bL O Tryz.func40 O ?_;by_cases h1:64<F rows
 .have hq:((64:Int)<(F rows:Int)):=by omega
  have kr:=ae.mk (k1.out h1);clear h1;refine bA @lP @de @dR (aj @a_ @hH) ?_;exact⟨_,_,O,O,by rw[kr.out]⟩
 have hq:¬((64:Int)<(F rows:Int)):=by omega
 have Gp:F rows<=64:=by omega
 refine bA @lP @de @dR (aj @a_ @hH) ?_;refine bC.gen λo d m L N=>?_;have f1:o.get 1=.ptr (.box (F h.boxes)) 0:=by rw[d];exact gS
 have f3:o.get 3=.v (.int .i64 (0:Nat)):=by rw[d];exact gR
 have D:o.defers=[]:=by rw[m];exact gS
 clear d m L N bx hq h1 hH;refine b9 (λz5 T H2=>∃c:Nat,c<=F rows/\z5=F rows-c/\ae (((rows.take c).any λr=>decide (64<F r))=ai)/\T.get 1=.ptr (.box (F h.boxes)) 0/\T.get 3=.v (.int .i64 (c:Nat))/\T.defers=[]/\H2=z2) ?_ (F rows) _ _ ?_;rotate_left 1
 .exact⟨0,bV _,O,⟨b7⟩,f1,f3,D,O⟩
 clear f1 f3 D;rintro z5 T z2 ⟨c,hi,rfl,kt,H,g3,hd,rfl⟩;by_cases g:c<F rows
 .have eo:z1=1:=kk.out.1 (by intro q;rw[q]at g;simp at g);subst eo;obtain⟨a,j⟩:∃a,C[c]?=J a:=⟨_,aN M⟩;obtain⟨r,v⟩:∃r,rows[c]?=J r:=⟨_,aN g⟩;have ld:=iN (H:=z2) (s:=1) j;obtain⟨ka,sa,rfl,R⟩:=kk.out.2.1 c a r j v;have AP:=cE r;have fH:(c:Int)<(F rows:Int):=by omega
  by_cases hb:64<F r
  .have hbI:((64:Int)<(F r:Int)):=(by omega);have kr:=ae.mk (k2.out c r v hb);clear j v R hb;refine bA @lP @de @dR @aT ?_;exact⟨_,_,O,O,by rw[kr.out]⟩
  .have hbI:¬((64:Int)<(F r:Int)):=(by omega);have kt2:ae (((rows.take (c+1)).any λr=>decide (64<F r))=ai):=⟨by rw[fY v,JA,kt.out];simp;omega⟩;clear j v R hb;refine bA @lP @de @dR @aT ?_;exact⟨F rows-(c+1),by omega,c+1,by omega,O,kt2,by simp⟩
 have gf:c=F rows:=by omega
 subst gf;have Y:=kt.out;rw[fB]at Y;have kany:=ae.mk Y;clear Y kt hi;by_cases h3:F rows=F ac;rotate_left 1
 .have kr:=ae.mk (k3.out Gp kany.out h3);have hn:¬((F rows:Int)=(F ac:Int)):=by omega
  clear h3;refine cK @lP @de @dR ?_;exact⟨_,_,O,O,by rw[kr.out]⟩
 have kres:=ae.mk (k4.out Gp kany.out h3);have f:=ae.mk h3;have hn:(F ac:Int)=(F rows:Int):=by omega
 clear h3;refine cK @lP @de @dR ?_;refine bC.gen λo d m L N=>?_;have f1:o.get 1=.ptr (.box (F h.boxes)) 0:=by rw[d];simp only[gW,reduceIte,aJ,aB];exact H
 have f4:o.get 4=.v (.int .i64 (0:Nat)):=by rw[d];exact gR
 have D:o.defers=[]:=by rw[m];simp only[gW,reduceIte,aJ,aB];exact hd
 clear d m L N H g3 hd g;refine b9 (λz5 T H2=>∃c:Nat,c<=F rows/\z5=F rows-c/\ae (∀e,e<c->pO rows ac e=V)/\T.get 1=.ptr (.box (F h.boxes)) 0/\T.get 4=.v (.int .i64 (c:Nat))/\T.defers=[]/\H2=z2) ?_ (F rows) _ _ ?_;rotate_left 1
 .exact⟨0,bV _,O,⟨λe hj=>absurd hj (mY _)⟩,f1,f4,D,O⟩
 clear f1 f4 D;rintro z5 T H3 ⟨c,hi,rfl,kf,H,g4,hd,rfl⟩;by_cases g:c<F rows;rotate_left 1
 .have gf:c=F rows:=by omega
  subst gf;have k0:ae (res=0):=⟨by rw[kres.out,av];rw[eF];intro e hj;exact kf.out e (hy.1 hj)⟩;refine cK @lP @de @dR ?_;exact⟨_,_,O,O,by rw[k0.out]⟩
 have eo:z1=1:=kk.out.1 (by intro q;rw[q]at g;simp at g);subst eo;have uX:sy=1:=kk.out.2.2 (by intro q;have h0:=f.out;rw[q,fQ]at h0;omega);subst uX;obtain⟨a,j⟩:∃a,C[c]?=J a:=⟨_,aN M⟩;obtain⟨r,v⟩:∃r,rows[c]?=J r:=⟨_,aN g⟩;obtain⟨a0,Z⟩:∃a,C[0]?=J a:=⟨_,aN M⟩;obtain⟨r0,pY⟩:∃r,rows[0]?=J r:=⟨_,aN M⟩;have ld:=iN (H:=H3) (s:=1) j;have ld0:=iN (H:=H3) (s:=1) Z;obtain⟨ka,sa,rfl,R⟩:=kk.out.2.1 c a r j v;obtain⟨ka0,sa0,rfl,DN⟩:=kk.out.2.1 0 a0 r0 Z pY;have au9:=cE r;have aiu:=cE r0;have ldo:=eJ (H:=H3) (l:=ac) (i:=c) (s:=1) (by have:=f.out;omega);have Dw:pO rows ac c=(!r.isEmpty&&decide (F r=F r0)&&rM (ag ac c)&&r.all cN):=by
  unfold pO rM;have H:rows.getD c []=r:=by rw[eG,v];rfl
  have g2:rows.getD 0 []=r0:=by rw[eG,pY];rfl
  rw[H,g2]
 have u:=ae.mk Dw;have i:ae (pO rows ac c=ai->res=230):=⟨by intro q;rw[kres.out,aP];intro z;rw[eF]at z;have:=z c (hy.2 g);rw[q]at this;cases this⟩;have fH:(c:Int)<(F rows:Int):=by omega
 have C9:(0:Int)<(F rows:Int):=by omega
 have z0:(0:Int).toNat=0:=rfl;have ks:=ae.mk R;have TN:F r<=64:=by have q:=kany.out;rw[P0]at q;have:=q r (cU v);simpa using this
 clear Dw j v R Z pY DN;generalize ag ac c=z4 at *
 by_cases e1:F r=0
 .have tO:decide ((F r:Int)<1)=V:=bQ M;have s:ae (res=230):=⟨i.out (by rw[u.out,aan.1 e1];rfl)⟩;clear e1;refine bA @lP @de @dR @aT ?_;refine du sW am ?_;refine bA @lP @de @dR @aT ?_;exact⟨_,_,O,O,by rw[s.out]⟩
 have tO:decide ((F r:Int)<1)=ai:=b_ M;have A:r.isEmpty=ai:=by cases r with|nil=>exact absurd O e1|cons _ _=>rfl
 clear e1;by_cases e2:F r=F r0;rotate_left 1
 .have uV:decide ((F r:Int)=(F r0:Int))=ai:=b_ M;have s:ae (res=230):=⟨i.out (by rw[u.out,A,b_ e2];rfl)⟩;clear e2 A;refine bA @lP @de @dR @aT ?_;refine du sW am ?_;refine bA @lP @de @dR @aT ?_;exact⟨_,_,O,O,by rw[s.out]⟩
 have uV:decide ((F r:Int)=(F r0:Int))=V:=bQ M;have ke2:=ae.mk e2;clear e2;by_cases e3:z4<0
 .have UF:decide (z4<0)=V:=bQ e3;have s:ae (res=230):=⟨i.out (by rw[u.out];unfold rM;rw[b_ (M:¬0<=z4)];simp)⟩;clear e3 A;refine bA @lP @de @dR @aT ?_;refine du sW am ?_;refine bA @lP @de @dR @aT ?_;exact⟨_,_,O,O,by rw[s.out]⟩
 have UF:decide (z4<0)=ai:=b_ e3;by_cases e4:64<=z4
 .have UG:decide (64<=z4)=V:=bQ e4;have s:ae (res=230):=⟨i.out (by rw[u.out];unfold rM;rw[b_ (M:¬z4<=63)];simp)⟩;clear e3 e4 A;refine bA @lP @de @dR @aT ?_;refine du sW am ?_;refine bA @lP @de @dR @aT ?_;exact⟨_,_,O,O,by rw[s.out]⟩
 have UG:decide (64<=z4)=ai:=b_ e4;have B:ae (pO rows ac c=r.all cN):=⟨by rw[u.out,A,bQ ke2.out];unfold rM;rw[bQ (M:0<=z4),bQ (M:z4<=63)];rfl⟩;clear e3 e4 A;refine bA @lP @de @dR @aT ?_;refine du sW am ?_;refine bA @lP @de @dR @aT ?_;refine bC.gen λo d m L N=>?_;have f1:o.get 1=.ptr (.box (F h.boxes)) 0:=by rw[d];simp only[gW,reduceIte,aJ,aB];exact H
 have f4:o.get 4=.v (.int .i64 (c:Nat)):=by rw[d];simp only[gW,reduceIte,aJ,aB];exact g4
 have f5:o.get 5=.v (.int .i64 (0:Nat)):=by rw[d];exact gR
 have D:o.defers=[]:=by rw[m];simp only[gW,reduceIte,aJ,aB];exact hd
 clear d m L N H g4 hd;refine b9 (λz5 T H2=>∃e:Nat,e<=F r/\z5=F r-e/\ae ((r.take e).all cN=V)/\T.get 1=.ptr (.box (F h.boxes)) 0/\T.get 4=.v (.int .i64 (c:Nat))/\T.get 5=.v (.int .i64 (e:Nat))/\T.defers=[]/\H2=H3) ?_ (F r) _ _ ?_;rotate_left 1
 .exact⟨0,bV _,O,⟨b7⟩,f1,f4,f5,D,O⟩
 clear f1 f4 f5 D tO uV UF UG ldo ld0;rintro z5 T H4 ⟨e,hj,rfl,ka4,H,g4,g5,hd,rfl⟩;by_cases p:e<F r
 .have G7:sa=1:=ks.out (by intro q;rw[q]at p;simp at p);subst G7;have ldx:=eJ (H:=H4) (s:=1) p;have wX:r[e]?=J (ag r e):=by rw[aN p,fS p]
  have Up:(e:Int)<(F r:Int):=by omega
  have UV:(r.take (e+1)).all cN=cN (ag r e):=by rw[fY wX,sn,ka4.out];simp
  have kt5:=ae.mk (aj UV (cU wX));have UH:cN (ag r e)=(decide (0<=ag r e)&&decide (ag r e<1073741789)):=rfl;have kqq:=ae.mk UH;clear wX UV UH;generalize ag r e=n at *
  by_cases d1:n<0
  .have hC:decide (n<0)=V:=bQ d1;have s:ae (res=230):=⟨i.out (by rw[B.out,Jz];exact⟨n,kt5.out.2,by rw[kqq.out,b_ (M:¬0<=n)];simp⟩)⟩;clear d1;refine bA @lP @de @dR @aT ?_;exact⟨_,_,O,O,by rw[s.out]⟩
  have hC:decide (n<0)=ai:=b_ d1;by_cases d2:1073741789<=n
  .have jk:decide (1073741789<=n)=V:=bQ d2;have s:ae (res=230):=⟨i.out (by rw[B.out,Jz];exact⟨n,kt5.out.2,by rw[kqq.out,b_ (M:¬n<1073741789)];simp⟩)⟩;clear d1 d2;refine bA @lP @de @dR @aT ?_;exact⟨_,_,O,O,by rw[s.out]⟩
  have jk:decide (1073741789<=n)=ai:=b_ d2;have kt2:ae ((r.take (e+1)).all cN=V):=⟨by rw[kt5.out.1,kqq.out,bQ (M:0<=n),bQ (M:n<1073741789)];rfl⟩;clear d1 d2;refine bA @lP @de @dR @aT ?_;exact⟨F r-(e+1),by omega,e+1,by omega,O,kt2,by simp⟩
 .have pV:e=F r:=by omega
  subst pV;have X:=ka4.out;rw[fB]at X;have kf2:ae (∀e,e<c+1->pO rows ac e=V):=⟨λe hj=>by
   rcases Nat.lt_succ_iff_lt_or_eq.1 hj with q|q
   .exact kf.out e q
   .rw[q,B.out];exact X⟩
  clear X;refine bA @lP @de @dR @aT ?_;exact⟨F rows-(c+1),by omega,c+1,by omega,O,kf2,by simp⟩
end Go.Proofs.YtcbhpkjbiehcpaaGreatDoor
end
section
namespace Go.AE
open Go.RowKit (Below)
def nr(z:Nat)(cs:List U)(off len:Nat):List (List U):=(bZ len).map λc=>(cs.drop (off+c*z)).take z
def vB(z)(cs)(off):∀len,(nr z cs off len).flatten=(cs.drop off).take (len*z)
 |0=>by simp[nr]
 |n+1=>by
  have c:=vB z cs off n;unfold nr at *
  rw[jT,jB,oi,c,Nat.add_mul,Nat.one_mul,List.take_add,List.drop_drop];simp
def Ok(z)(cs)(off len):F (nr z cs off len)=len:=by unfold nr;simp
def Ol{z}{cs}{off len}(h:off+len*z<=F cs):∀r∈nr z cs off len,F r=z:=by
 intro r d;unfold nr at d;obtain⟨e,c,rfl⟩:=iV.1 d;have c:=hy.1 c;have:(e+1)*z<=len*z:=Nat.mul_le_mul_right _ c
 grind
mutual
def gO(z:Nat)(h:Heap):U->U
 | .list k g f=>.list (bU k) g (nG z h f)
 | .arr b c len e=>match h.boxes[b]? with
  |some d=>if c+len*z<=F d/\0<z then .list .held z (dk (nr z d c len)) else .arr b c len e
  |none=>.arr b c len e
 | .tuple d=>.tuple (ip z h d)
 | .agg d=>.agg (ip z h d)
 | .iface t x=>.iface t (gO z h x)
 |x=>x
def ip(z:Nat)(h:Heap):List U->List U
 | []=>[]
 |x::c=>gO z h x::ip z h c
def nG(z:Nat)(h:Heap):List (List U)->List (List U)
 | []=>[]
 |r::c=>ip z h r::nG z h c
end
section
variable {z:Nat} {h:Heap}
def S7:∀a b:List U,ip z h (a++b)=ip z h a++ip z h b
 | [],b=>rfl
 |x::a,b=>by rw[eu,ip,S7 a b,ip,eu]
def Gh:∀es:List (List U),(nG z h es).flatten=ip z h es.flatten
 | []=>rfl
 |r::es=>by rw[nG,jA,jA,S7,Gh es]
def S9:∀a:List U,F (ip z h a)=F a
 | []=>rfl
 |x::a=>by rw[ip,dY,S9 a,dY]
def Ta:∀a:List (List U),F (nG z h a)=F a
 | []=>rfl
 |x::a=>by rw[nG,dY,Ta a,dY]
def Tb{sz:Nat}:∀{es:List (List U)},(∀r∈es,F r=sz)->∀r∈nG z h es,F r=sz
 | [],_,r,c=>by cases c
 |a::es,d,r,c=>by
  rw[nG]at c;rcases gL.1 c with rfl|c
  .rw[S9];simp_all
  .exact Tb (λr c=>d r (gj _ c)) r c
def agx(x:U):(gO z h x).cW=x.cW:=by
 cases x with
 |arr b d len c=>
  rw[gO];split
  .split<;>rfl
  .rfl
 |_=>rfl
def S8:∀a:List U,(ip z h a).all U.cW=a.all U.cW
 | []=>rfl
 |x::a=>by rw[ip,Ch,agx,S8 a,Ch]
end
section
variable {P:Program} {G:Nat->Option (List U)} {ok:aQ->Nat->Code->Bool} {w0 w w':World} {K:aW} {h:Heap} {z:Nat}
def aW.still(K:aW)(w:World):aW:={K with base:=w.heap.size,β:=[],γ:=[],tn:=0,md:=[],ic:=λc d=>w.cell? ⟨c,d,af⟩}
def EV(s:bJ K G ok w0 h w):∀g j c,K.ic g j=J c->(K.still w).ic g j=J c:=s.ic
mutual
def aO.j8(s:bJ K G ok w0 h w):∀{x:U} {c:Value},aO K x c->au 0 0 0 (gO z h x)=V->aO (K.still w) (gO z h x) c
 |_,_,.bad c,_=>.bad c
 |_,_,.v x R,_=>.v x R
 |_,_,.nil l,_=>.nil l
 |_,_,.fP l a,_=>.fP l a
 |_,_,.list k l D o f z0 g cells hn E j L C H,d=>by
  simp only[gO,au,bm]at d;have i:=aH.j8 s j (by rw[<-Gh,oa];grind);rw[<-Gh]at i;have A:z0=F (nG z h D):=by rw[Ta];exact hn
  have u:(nG z h D).flatten.all U.cW=V:=by rw[Gh,S8];exact H
  have B:=Tb (z:=z) (h:=h) E;have v:=λX c q=>s.ic _ _ _ (L X c q);cases k with|nil=>exact C.2.elim|tight=>exact .list .tight l _ o f z0 g cells A B i v ⟨C.1,C.2⟩ u|free z1=>exact .list .held l _ o f z0 g cells A B i v ⟨C.1,aX⟩ u|held=>exact .list .held l _ o f z0 g cells A B i v ⟨C.1,aX⟩ u
 |_,_,.arr b o f len g e r Y hl ph ho E,d=>by
  simp only[gO]at d ⊢;cases y:h.boxes[b]? with
  |none=>rw[y]at d;simp[au]at d|some m=>
   rw[y]at d;simp only at d ⊢;split at d
   .rename_i p;rw[av p];obtain⟨p,hz⟩:=p;obtain⟨q1,q2,q3,cells,z4,q4,q5⟩:=s.box b o m Y y;have Un:=q5.le;by_cases h0:g=0
    .have:len=0:=(by omega);subst this;exact .list .held z [] o e 0 r [] O (λ_ h=>by cases h) .nil (λ_ _ h=>by grind) ⟨bV _,aX⟩ O
    .have N:e=f:=(by simp_all);subst N;have j:aH K ((m.drop e).take (len*z)) (((cells.toList.take (F m)).drop e).take (len*z)):=(q5.1.drop e).take (len*z);have i:=aH.io (K2:=K.still w) (EV s) (aH.hold j) (by simp only[au,bm]at d;have:=d.2;rw[<-oa,AL,vB]at this;omega);rw[<-vB,<-AL]at i;refine .list .held z _ o e len r (((cells.toList.take (F m)).drop e).take (len*z)) (by rw[DH,Ok]) (GR (Ol p)) i (λX c q=>?_) ⟨M,aX⟩ ?_
     .have Z:X<len*z:=(by have:=(aS.1 q).1;rw[cR]at this;omega);rw[mr,av Z,oL,mr,av M]at q;show w.cell? ⟨o,e+X,af⟩=J c;rw[cell_of q4];simp_all
     .rw[AL,Mn,vB]
      grind
   .simp[au]at d
 |_,_,.agg m T j,d=>.agg _ T (aH.j8 s j (by simpa only[gO,au] using d))
 |_,_,.tuple m T j,d=>.tuple _ T (aH.j8 s j (by simpa only[gO,au] using d))
 |_,_,.box b o f Y,d=>by simp[gO,au]at d
 |_,_,.dB o f,_=>.dB o f
 |_,_,.elem l D z1 f o z2 z3 cells E j L hi hp H,d=>.elem l D z1 f o z2 z3 cells E (aH.io (EV s) j (by rw[oa];simpa only[gO,au] using d)) (λX c q=>s.ic _ _ _ (L X c q)) hi hp H
 |_,_,.func fn first g fs m h1 h2,d=>by simp only[gO,au,bm]at d;exact .func fn first g fs m (aH.io (EV s) h1 d.1) (aH.io (EV s) h2 d.2)
 |_,_,.yield z5 o hl,d=>by simp[gO,au]at d
 |_,_,.iface t x c R,d=>by simp only[gO,au]at d;exact .iface t _ c (aO.j8 s R d)
def aH.j8(s:bJ K G ok w0 h w):∀{xs:List U} {cs:List Value},aH K xs cs->aA 0 0 0 (ip z h xs)=V->aH (K.still w) (ip z h xs) cs
 |_,_,.nil,_=>.nil
 |_,_,.cons x f xs cs e d,c=>by simp only[ip,aA,bm]at c;exact .cons _ f _ cs (aO.j8 s e c.1) (aH.j8 s d c.2)
end
def bJ.still(s:bJ K G ok w0 h w)(i:∀g cs,G g=J cs->aA 0 0 0 cs=V):bJ (K.still w) G ok w ⟨[],[],0,[]⟩ w:=by
 refine⟨Below.refl _ _,aV _,λg r q j=>j,λg cs e=>?_,O,λb f g c=>by simp[aW.still]at c,λb g cs c=>by simp_all,O,λb f g c=>by simp[aW.still]at c,λA g v u=>by simp_all,O,λt d=>?_,λt y d=>?_,λv m=>by simp[aW.still]at m,O⟩
 .obtain⟨cells,o,p⟩:=s.dB g cs e;exact⟨cells,aH.io (K1:=K) (K2:=K.still w) (EV s) o (i g cs e),λr q l=>s.ic _ _ _ (p r q l)⟩
 .simp[alive]at d
 .simp[alive]at d
def Gg(z:Nat)(R:Rec)(g:aQ)(args:List U)(h:Heap):Option (U × Heap):=
 if aA 0 0 0 (ip z h args)=V then
  match R.call g (ip z h args) ⟨[],[],0,[]⟩ with
  |some (.ret (.v c),_)=>J (.v c,h)
  |_=>af
 else af
def agy{aI:aQ->Option (List U->Heap->Option (U × Heap))}(H:Prog P)(B:∀g cs,G g=J cs->aA 0 0 0 cs=V)(d:∀u g p,aI g=J p->jV P G u g p){g:aQ}(j:∃fn,P.funcs[g]?=J fn/\fn.body.isSome=V)(u:World):
 jV P G u g (Gg z (whole P G aI) g):=by
 refine⟨j,λy h x h' c K w f L e cs=>?_⟩;unfold Gg at c;split at c
 .rename_i E;split at c
  .rename_i Y h2 D;injection c with c;injection c with r s;subst r;subst s;obtain⟨-,i⟩:=(E9 H (d w)).call g _ _ _ _ D;have N:=bJ.still e B;obtain⟨T,w',A,le,R,o,l,v,q,m⟩:=i (K.still w) w f (aH.j8 e L E) N cs;have C:Below w.heap.size w w':=(by have:=R.fD;rwa [le.base]at this);refine⟨.returned v,w',A,⟨v,_,O,aW.D3 e,?_,bJ.jN e C⟩,o,l,m⟩;cases q with|v _ X=>exact .v _ X
  grind
 grind
def w_(z:Nat)(R:Rec)(L c:List aQ)(g:aQ):Option (List U->Heap->Option (U × Heap)):=if L.contains g=V then J (wm R g) else if c.contains g=V then J (Gg z R g) else af
def ak0{aI:aQ->Option (List U->Heap->Option (U × Heap))}(i:Prog P)(f:∀g cs,G g=J cs->aA 0 0 0 cs=V)(d:∀e g p,aI g=J p->jV P G e g p){L o:List aQ}(j:∀g∈L,∃fn,P.funcs[g]?=J fn/\fn.body.isSome=V)(l:∀g∈o,∃fn,P.funcs[g]?=J fn/\fn.body.isSome=V):
 ∀e g p,w_ z (whole P G aI) L o g=some p->jV P G e g p:=by
 intro e g p c;unfold w_ at c;split at c
 .rename_i m;injection c with c;subst c;exact KG i f d (j g (by simp_all)) e
 .split at c
  .rename_i m;injection c with c;subst c;exact agy i f d (l g (by simp_all)) e
  grind
def gr{R:Rec}{L m:List aQ}{g:aQ}{args B:List U}{x y:U}{c:Heap}(i:L.contains g=V)(d:aZ args=B)(f:aA 0 0 0 B=V)(e:R.call g B ⟨[],[],0,[]⟩=J (.ret y,c))(l:dD c y=x)(j:au 0 0 0 x=V):
 ∀h,(whole P G (w_ z R L m)).call g args h=J (.ret x,h):=by
 intro h;subst d;subst l;rw[qZ];unfold j9 w_;rw[av i];simp only[wm,tW,av f,e,av j,fk]
def agw{R:Rec}{L j:List aQ}{g:aQ}{args B:List U}{y:Value}{h c:Heap}(l:L.contains g=ai)(i:j.contains g=V)(d:ip z h args=B)(f:aA 0 0 0 B=V)(e:R.call g B ⟨[],[],0,[]⟩=J (.ret (.v y),c)):
 (whole P G (w_ z R L j)).call g args h=J (.ret (.v y),h):=by
 subst d;rw[qZ];unfold j9 w_;rw[aP (by simp_all),av i];simp only[Gg,av f,e];rfl
end
end Go.AE
end
section
namespace Go.Proofs.YtcbhpkjbiehcpaaGreatDoor
open Go.AE Go.NT
def XY:Tryz.f134.results.toList=[.tmp 2]:=am
def aeO(h:Heap)(x y:U)(rows:List (List Int))(ac:List Int)(s:RL x rows)(u:IL y ac):∃h',W4.call 134 [.agg [x,y]] h=J (.ret (.v (.int .i64 (cd rows:Nat))),h')/\h'=h.push [x,y]:=by
 obtain⟨k,q,e,rfl,l,i,j⟩:=s;have X:(U.agg [.list k q (e.map λa=>[a]),y]).bG=J [.list k q (e.map λa=>[a]),y]:=by obtain⟨Y,sy,rfl,-⟩:=u;rfl
 have Z:=oc (aK h [.list k q (e.map λa=>[a]),y]);have R:=cT;have N:=gm;have T:=gV;have A:F (e.map λa=>[a])=F rows:=by rw[br];exact i
 refine gy O Tryz.func134 O ?_;by_cases d:F rows=0
 .have r:(F rows:Int)=0:=by omega
  have f:cd rows=1:=by unfold cd;rw[av d]
  rw[f];clear d j l i f;refine cK @XY @a_ @de ?_;exact⟨_,O,O⟩
 .have r:¬((F rows:Int)=0):=by omega
  obtain⟨a0,c⟩:∃a,e[0]?=J a:=⟨_,aN M⟩;obtain⟨o,g⟩:∃z2,rows[0]?=J z2:=⟨_,aN M⟩;have p:q=1:=l (by intro z1;rw[z1]at d;simp at d);subst p;have D:=iN (H:=h.push [.list k 1 (e.map λa=>[a]),y]) (s:=1) c;obtain⟨C,L,rfl,m⟩:=j 0 a0 o c g;have f:cd rows=F o:=by unfold cd;rw[aP d,eG,g];rfl
  rw[f];have B:=cE o;have v:(0:Int)<(F rows:Int):=by omega
  have z0:(0:Int).toNat=0:=rfl;clear d j l i f c g m;refine bA @XY @a_ @de @aT ?_;exact⟨_,O,O⟩
def RX(x y)(rows)(ac)(f:RL x rows)(g:IL y ac):∀h,W4.call 35 [.agg [x,y]] h=J (.ret (.v (.int .i64 (cG rows ac))),h):=by obtain⟨c,h2⟩:=f.fc;obtain⟨d,e⟩:=g.hold;exact bR (L:=L4) (B:=[.agg [al x,al y]]) O O (by simp[aA,au,h2,e]) (aej (al x) (al y) rows ac c d _) O rfl
def F6{b}:dQ aa 110 (.ptr (.box b) 0) 0=J (.ptr (.box b) 0):=am
def F7{b}:dQ aa 110 (.ptr (.box b) 0) 1=J (.ptr (.box b) 1):=am
def Nf{H}{b}{x y}(c:H.boxes[b]?=J [x,y]):aD aa Gt H 3 (.ptr (.box b) 0)=J x:=by rw[fe dS c];rfl
def Ng{H}{b}{x y}(c:H.boxes[b]?=J [x,y]):aD aa Gt H 3 (.ptr (.box b) 1)=J y:=by rw[fe dS c];rfl
def RL.bG{x}{rows}(h:RL x rows):x.bG=J [x]:=by obtain⟨k,d,c,rfl,-⟩:=h.form;rfl
def IL.bG{x}{l}(h:IL x l):x.bG=J [x]:=by obtain⟨k,c,rfl,-⟩:=h;rfl
def ua{x y}{rows}{ac}(c:RL x rows)(d:IL y ac):(U.agg [x,y]).bG=J [x,y]:=by obtain⟨k,i,g,rfl,-⟩:=c.form;obtain⟨e,f,rfl,-⟩:=d;rfl
def RL.dK{x}{rows}(h:RL x rows):dK aa 22 x=J (.v (.int .i64 (F rows:Nat))):=by obtain⟨k,f,e,rfl,d⟩:=h.form;have c:=gm;unfold Go.AE.dK;rw[c];simp only[br,d]
def IL.dK{x}{l}(h:IL x l):dK aa 23 x=J (.v (.int .i64 (F l:Nat))):=by obtain⟨k,d,rfl,-⟩:=h;have c:=cT;unfold Go.AE.dK;rw[c];simp only[cE]
def iz(rows:List (List Int))(ac c:List Int):Int:=if cG rows ac≠0 then cG rows ac else if decide (F c=cd rows)&&c.all bX then 0 else 340
def afh(h:Heap)(x y z:U)(rows:List (List Int))(ac c:List Int)(j:RL x rows)(l:IL y ac)(o:IL z c)(A:F c<=1000000):
 ∃r h',W4.call 158 [.agg [x,y],z] h=J (r,h')/\Ext h h'/\r=.ret (.v (.int .i64 (iz rows ac c))):=by
 have C:=ua j l;have u:=RX x y rows ac j l;obtain⟨_,v,rfl⟩:=Sd (h.push [x,y]) x y rows ac j l;have g:=FX (pr:=Bs) O O 218 [] (λn=> !bX n) ((h.push [x,y]).push [x,y]) z c o A (λn _=>atH n _);have D:=tV (aK h [x,y]);have H:=o.dK;have q:∀s,s≠0->cG rows ac=s->iz rows ac c=s:=λs f h2=>by unfold iz;rw[av (by rw[h2];exact f),h2]
 have m:cG rows ac=0->iz rows ac c=if decide (F c=cd rows)&&c.all bX then 0 else 340:=λh2=>by unfold iz;rw[aP (by simp[h2])]
 have p:=ae.mk (aj q m);clear q m j l o;rw[Q0]at g;generalize iz rows ac c=res at *
 refine bL O Tryz.func158 O ?_;by_cases i:cG rows ac=0
 .rw[i]at u;have d:=p.out.2 i;clear i;by_cases f:F c=cd rows
  .have B:decide ((F c:Int)=((cd rows:Nat):Int))=V:=bQ M;rw[bQ f,mq]at d;clear f;cases h2:c.all bX with
   |true=>rw[h2]at g d;have e:=ae.mk d;clear h2 d;refine bE @Is @a_ ?_;exact⟨_,_,O,(Ext.push _ _).trans (Ext.push _ _),by rw[e.out];rfl⟩
   |false=>rw[h2]at g d;have e:=ae.mk d;clear h2 d;refine bE @Is @a_ ?_;exact⟨_,_,O,(Ext.push _ _).trans (Ext.push _ _),by rw[e.out];rfl⟩
  .have B:decide ((F c:Int)=((cd rows:Nat):Int))=ai:=b_ M;rw[b_ f,ut]at d;have e:=ae.mk d;clear f d;refine bE @Is @a_ ?_;exact⟨_,_,O,(Ext.push _ _).trans (Ext.push _ _),by rw[e.out];rfl⟩
 .have e:=ae.mk (p.out.1 _ i O);clear p v g;generalize cG rows ac=s at *
  refine bE @Is @a_ ?_;exact⟨_,_,O,Ext.push _ _,by rw[e.out]⟩
def rU(rows:List (List Int))(p:Int × Int):Bool:=decide (0<=p.1)&&decide (p.1<F rows)&&cN p.2
def MX(n):IL (.list .tight 1 [[.v (.int .i64 n)]]) [n]:=⟨.tight,1,O,λ_=>rfl⟩
def an5(h:Heap)(x y:U)(rows:List (List Int))(ac:List Int)(d:RL x rows)(e:IL y ac)(a v:Int):
 ∃r h',W4.call 159 [.agg [x,y],.agg [I a,I v]] h=J (r,h')/\Ext h h'/\r=.ret (.v (.bool (rU rows (a,v)))):=by
 have i:=ua d e;have f:(U.agg [I a,I v]).bG=J [I a,I v]:=rfl;have l:aD aa Gt ((h.push [x,y]).push [I a,I v]) 22 (.ptr (.box (F h.boxes)) 0)=J x:=oc (aM (aK h [x,y]));have m:=Nf (aK (h.push [x,y]) [I a,I v]);have o:=Ng (aK (h.push [x,y]) [I a,I v]);have j:=Wq (.list .tight 1 [[.v (.int .i64 v)]]) [v] (MX v) b7 ((h.push [x,y]).push [I a,I v]);rw[(b7:[v].all cN=cN v)]at j;have g:=qw v;have p:=d.dK;clear d e;unfold rU;simp only;refine bL O Tryz.func159 O ?_;unfold I at *
 by_cases c:0<=a
 .have d1:decide (0<=a)=V:=bQ c;by_cases h2:a<F rows
  .have d2:decide (a<(F rows:Int))=V:=bQ h2;rw[d1,d2];clear c h2;refine bA @Oq @a_ @de (aj @F6 @F7) ?_;exact⟨_,_,O,(Ext.push _ _).trans (Ext.push _ _),O⟩
  .have d2:decide (a<(F rows:Int))=ai:=b_ h2;rw[d1,d2];clear c h2;refine bA @Oq @a_ @de (aj @F6 @F7) ?_;exact⟨_,_,O,(Ext.push _ _).trans (Ext.push _ _),O⟩
 .have d1:decide (0<=a)=ai:=b_ c;rw[d1];clear c;refine bA @Oq @a_ @de (aj @F6 @F7) ?_;exact⟨_,_,O,(Ext.push _ _).trans (Ext.push _ _),O⟩
def agU(c b)(k)(d:F b<=1099511620000)(e:F c<=1099511620000):∀h,W3.call 69 [.v (.string (bs c)),.list k 1 (bI b)] h=J (.ret (I (pc (jQ c b):Nat)),h):=
 bR (L:=L3) (B:=[.v (.string (bs c)),.list (bU k) 1 (bI b)]) O (by rw[aZ,aZ,al.eq_1,pX];rfl) (by simp[aA,au,ef,i']) (agT c b _ d e _) O rfl
def Tg(c b)(k)(d:F b<=1099511620000)(e:F c<=1099511620000):∀h,W4.call 69 [.v (.string (bs c)),.list k 1 (bI b)] h=J (.ret (I (pc (jQ c b):Nat)),h):=
 bR (L:=L4) (B:=[.v (.string (bs c)),.list (bU k) 1 (bI b)]) O (by rw[aZ,aZ,al.eq_1,pX];rfl) (by simp[aA,au,ef,i']) (agU c b _ d e _) O rfl
def afI{v}{r}(g:b8 v r)(e:fg v<=16)(f:F (cA v)<=1099511600000):∃t,∀h,W3.call 74 [.agg r] h=J (.ret (.tuple [.list t 1 (bI (cA v)),.v (.int .i64 0)]),h):=by obtain⟨c,h2⟩:=b8.hold v r g;obtain⟨t,d⟩:=afH c e f;exact⟨bU t,bR (L:=L3) (B:=[.agg (aZ r)]) O O (by simpa [aA,au] using h2) (d _) O (by simp[au,aA,ef,i'])⟩
def KV{v}{r}(g:b8 v r)(e:fg v<=16)(f:F (cA v)<=1099511600000):∃t,∀h,W4.call 74 [.agg r] h=J (.ret (.tuple [.list t 1 (bI (cA v)),.v (.int .i64 0)]),h):=by obtain⟨c,h2⟩:=b8.hold v r g;obtain⟨t,d⟩:=afI c e f;exact⟨bU t,bR (L:=L4) (B:=[.agg (aZ r)]) O O (by simpa [aA,au] using h2) (d _) O (by simp[au,aA,ef,i'])⟩
def EA:Tryz.f150.results.toList=[.cell 2 118]:=am
def apy:Tryz.f153.results.toList=[.tmp 4]:=am
def IC:Tryz.f70.results.toList=[.tmp 2]:=am
inductive q':U->Vl->Prop
 |int (n:Int) (hn:0<=n/\n<=4611686018427387903):q' (.iface 3 (.v (.int .i64 n))) (.int n)
 |text (k:Tok) (s:Nat) (b:List UInt8) (hs:b≠[]->s=1) (hb:b.length<=1099511620000):q' (.iface 60 (.list k s (bI b))) (.text b)
 |val (v:Vl) (r:List U) (h:b8 v r):q' (.iface 118 (.agg r)) v
def qj(xs:List U)(vs:List Vl):Prop:=F xs=F vs/\∀(c:Nat) x v,xs[c]?=J x->vs[c]?=J v->q' x v
def qj.nil:qj [] []:=⟨O,λc x d h=>by simp at h⟩
def qj.cons{x}{v}{xs}{vs}(h:q' x v)(e:qj xs vs):qj (x::xs) (v::vs):=by
 refine⟨by simp[e.1],λf g w d c=>?_⟩;cases f with|zero=>simp at d c;subst d;subst c;exact h|succ f=>simp at d c;exact e.2 f g w d c
def Q7(x):sQ aa (.iface 3 x) 3 V=J (.tuple [x,.v (.bool V)]):=am
def Q6(x):sQ aa (.iface 60 x) 3 V=J (.tuple [.v (.int .i64 0),.v (.bool ai)]):=am
def Q5(x):sQ aa (.iface 60 x) 60 V=J (.tuple [x,.v (.bool V)]):=am
def aci(x):sQ aa (.iface 118 x) 3 V=J (.tuple [.v (.int .i64 0),.v (.bool ai)]):=am
def ach(x):sQ aa (.iface 118 x) 60 V=J (.tuple [.list .nil 0 [],.v (.bool ai)]):=am
def acj(x):sQ aa (.iface 118 x) 118 V=J (.tuple [x,.v (.bool V)]):=am
def KQ{k}{s}{b}(i:b≠[]->s=1)(h):jX aa h 60 9 (.list k s (bI b))=J (.v (.string (bs b)),h):=by
 have f:aa.underlying 9=J .string:=Tryz.underlying9;have h2:aa.underlying 60=J (.slice 5):=Tryz.underlying60;have g:aa.underlying 5=J (.int .u8):=Tryz.underlying5;unfold jX;simp only[f,h2,g,rowsOf];rw[av (by
  by_cases d:b=[]
  .exact .inr (by rw[d];rfl)
  .exact .inl (i d))]
 have e:∀c:List UInt8,bytesOf (bI c)=J c:=by
  intro c
  induction c with
  |nil=>rfl|cons a c j=>show(match Go.AE.byteOf (ie a),bytesOf (bI c) with|some b,J c=>J (b::c)|_,_=>af)=_;rw[j];simp[Go.AE.byteOf,ie]
 simp only[e,fk];rfl
def xK{r}(e:F r=4)(d:(U.agg r).bG=J r):ff aa 116 1 [(0,.agg r)]=J (.list .tight 4 [r]):=by have c:aa.underlying 116=J (.slice 118):=kY;unfold ff;simp only[c,mU,sd];rw[av ⟨aY,O,by decide⟩];simp[wG,d,e]
def MY:∃i,aa.info? 118=J i/\i.size=4/\i.bytes<=64/\(i.zero.map λz=>z.cells.size)=J 4:=by
 have h:(match aa.info? 118 with|some i=>gX i.size 4&&JR i.bytes 64&&decide ((i.zero.map λz=>z.cells.size)=J 4)|none=>ai)=V:=am;cases c:aa.info? 118 with
 |none=>rw[c]at h;cases h
 |some i=>rw[c]at h;simp only[bm,decide_eq_true_eq]at h;exact⟨i,O,kU h.1.1,jq h.1.2,h.2⟩
def xG{H}{k}{n0 sz}{es}{r}(o:F es<1000000)(j:es≠[]->sz=4)(e:es=[]->sz=4∨k=.nil)(i:db n0 H k):
 gb aa H #[116,116] (.list k sz es) (.list .tight 4 [r])=J (.list (.free H.tn) 4 (es++[r]),H.app k):=by
 obtain⟨p,f,c,l,g⟩:=MY;have m:=ji (M:F es+1<=1000000) l;have:=zX (P:=aa) (h:=H) (n0:=n0) (k:=k) (sz:=sz) (es:=es) (new:=[r]) (x:=.list .tight 4 [r]) (t1:=116) kY (.inl ⟨118,kY⟩) f M (by rw[c];exact g) (by rw[c];rfl) b7 (by simp;omega) (by simp;omega) (by
  rw[c];by_cases d:es=[]
  .rcases e d with q|q
   .exact .inl q
   .exact .inr ⟨d,q⟩
  .exact .inl (j d)) i
 rwa [c]at this
structure om(h H:Heap)(c:Nat)(vs:List Vl)(t:Tok)(sz:Nat)(rows:List (List U)):Prop where
 box:H.boxes[c]?=J (ar 3 0 [] t sz rows)
 can:db h.tn H t
 ok:c_ H=V
 ext:Ext h H
 out:h.boxes.length<=c
 rel:fN vs rows
 four:rows≠[]->sz=4
 nil:rows=[]->sz=4∨t=.nil
 fit:e_ 0 0 0 rows=V
def SV:∀(rows:List (List U)) (r:List U),e_ 0 0 0 rows=V->aA 0 0 0 r=V->e_ 0 0 0 (rows++[r])=V
 | [],r,_,h=>by rw[dM,e_,h];rfl
 |a::rows,r,c,h2=>by rw[e_,bm]at c;rw[eu,e_,c.1,SV rows r c.2 h2];rfl
def om.push{h H}{c}{vs}{t}{sz}{rows}(g:om h H c vs t sz rows)(cs):om h (H.push cs) c vs t sz rows:=
 ⟨aM g.box,by rw[xP];exact g.can,g.ok,g.ext.trans (.push _ _),g.out,g.rel,g.four,g.nil,g.fit⟩
def om.put{h H}{c}{vs}{t}{sz}{rows}(g:om h H c vs t sz rows){v}{r}(o:b8 v r)(m:aA 0 0 0 r=V):
 om h ((H.app t).put c (ar 3 0 [] (.free H.tn) 4 (rows++[r]))) c (vs++[v]) (.free H.tn) 4 (rows++[r]):=by
 have j:=(aS.1 g.box).1;have i:=Grown.one g.can g.ok g.ext.tn;refine⟨dn (by rw[dP];exact j),by rw[Ac];exact i.can,i.ok,(i.ext g.ext (aV _)).fy g.out _,g.out,⟨by simp[g.rel.1],λp w x e d=>?_⟩,λ_=>rfl,λ_=>.inl O,SV _ _ g.fit m⟩;rcases dp p (F rows) with f|q
 .rw[qn f]at d;rw[qn (by rw[<-g.rel.1];exact f)]at e;exact g.rel.2 p w x e d
 .have:=(aS.1 d).1;rw[cg]at this;have l:p=F rows:=by simp at this;omega
  subst l;rw[zI]at d;rw[g.rel.1,zI]at e;injection d with d;injection e with e;subst d;subst e;exact o
def xi{H}{c}{t t2}{sz sz2}{rows rows2}(d:H.boxes[c]?=J (ar 3 0 [] t sz rows)):bY aa H 116 (.ptr (.box c) 3) (.list t2 sz2 rows2)=J (H.put c (ar 3 0 [] t2 sz2 rows2)):=
 fE (off:=3) (cs:=ar 3 0 [] t sz rows) (xs:=[.list t2 sz2 rows2]) O am d O (aV 4)
def arT{H:Heap}:bY aa (H.push (ar 0 0 [] .nil 0 [])) 3 (.ptr (.box (F H.boxes)) 0) (.v (.int .i64 3))=J (H.push (ar 3 0 [] .nil 0 [])):=by rw[fE (off:=0) (cs:=ar 0 0 [] .nil 0 []) (xs:=[.v (.int .i64 3)]) O eR (aK _ _) O aY];congr 1;exact lO _ _ _
def Vz{H}{xs:List U}{i s}{x}(h:xs[i]?=J x):aD aa Gt H 20 (.elem s (xs.map λa=>[a]) i 0)=J x:=by rw[oA am (row:=[x]) (by rw[dW,h];rfl)];rfl
def YW:cB aa 20=J 1:=am
def q'.adY{x}{v}(h:q' x v):(∃n,x=.iface 3 (.v (.int .i64 n))/\v=.int n/\0<=n/\n<=4611686018427387903)∨(∃k s b,x=.iface 60 (.list k s (bI b))/\v=.text b/\(b≠[]->s=1)/\F b<=1099511620000)∨∃r,x=.iface 118 (.agg r)/\b8 v r:=by
 cases h with|int n c=>exact .inl ⟨n,O,O,c.1,c.2⟩|text k s b e d=>exact .inr (.inl ⟨k,s,b,O,O,e,d⟩)|val v r h=>exact .inr (.inr ⟨r,O,h⟩)
def Nr(h:Heap)(fJ:c_ h=V)(k:Tok)(s:Nat)(xs:List U)(vs:List Vl)(hr:qj xs vs)(hs:xs≠[]->s=1)(hl:F xs<=1000)(hf:∀a∈xs,au 0 0 0 a=V):
 ∃r h',W4.call 150 [.list k s (xs.map λa=>[a])] h=J (r,h')/\Ext h h'/\∃t sz rows,r=.ret (.agg (ar 3 0 [] t sz rows))/\b8 (.list vs) (ar 3 0 [] t sz rows)/\e_ 0 0 0 rows=V/\(F xs=0->t=.nil/\sz=0/\rows=[]):=by
 have q:=ae.mk (aj hr (aj hs hf));clear hr hs hf;have z:=sd;have u180:=abn;have u94:=kY;have z20:=YW;have eC:F (xs.map λa=>[a])=F xs:=br _;have Y:om h (h.push (ar 3 0 [] .nil 0 [])) (F h.boxes) (vs.take 0) .nil 0 []:=⟨aK _ _,.inl O,fJ,.push _ _,aV _,⟨O,λi z0 r B=>by simp at B⟩,λB=>absurd O B,λ_=>.inr O,O⟩;refine bL O Tryz.func150 O ?_;refine bA @EA @dU @arT @iO ?_;refine bC.gen λu l H ek dm=>?_;have f2:u.get 2=.ptr (.box (F h.boxes)) 0:=by rw[l];exact gS
 have f9:u.get 9=.list k s (xs.map λa=>[a]):=by rw[l];exact gS
 have f10:u.get 10=.v (.int .i64 (F xs:Nat)):=by rw[l];exact gS
 have f11:u.get 11=.v (.int .i64 (0:Nat)):=by rw[l];exact gR
 have fd:u.defers=[]:=by rw[H];exact gS
 clear l H ek dm;refine b9 (λz1 X j=>∃(i:Nat) (t:Tok) (sz:Nat) (rows:List (List U)),i<=F xs/\z1=F xs-i/\ae (om h j (F h.boxes) (vs.take i) t sz rows)/\ae (i=0->t=.nil/\sz=0/\rows=[])/\X.get 2=.ptr (.box (F h.boxes)) 0/\X.get 9=.list k s (xs.map λa=>[a])/\X.get 10=.v (.int .i64 (F xs:Nat))/\X.get 11=.v (.int .i64 (i:Nat))/\X.defers=[]) ?_ (F xs) _ _ ?_;rotate_left 1
 .exact⟨0,.nil,0,[],bV _,O,⟨Y⟩,⟨λ_=>⟨O,O,O⟩⟩,f2,f9,f10,f11,fd⟩
 clear f2 f9 f10 f11 fd Y;rintro z1 X j ⟨i,t,sz,rows,hi,rfl,d,kN,g2,g9,g10,g11,hd⟩;by_cases v:i<F xs
 .have eo:s=1:=q.out.2.1 (by intro B;rw[B]at v;simp at v);subst eo;obtain⟨x,C⟩:∃x,xs[i]?=J x:=⟨_,aN v⟩;obtain⟨z0,m⟩:∃z0,vs[i]?=J z0:=⟨_,aN (by have:=q.out.1.1;omega)⟩;have p:=q.out.1.2 i x z0 C m;have o:=q.out.2.2 x (cU C);have ld:=Vz (H:=j) (s:=1) C;have A:=ae.mk (fY m);have y:F rows<1000000:=by have:=d.out.rel.1;rw[cR]at this;omega
  have fH:(i:Int)<(F xs:Int):=by omega
  clear C m;rcases p.adY with⟨n,rfl,rfl,N,R⟩|⟨kb,sb,b,rfl,rfl,D,E⟩|⟨r,rfl,c⟩
  .have c:b8 (.int n) (ar 1 n [] .nil 0 []):=.int n ⟨N,R⟩;have e:=ae.mk (d.out.put c O);have l3:=jv d.out.box;have Z:=xG (r:=ar 1 n [] .nil 0 []) y d.out.four d.out.nil d.out.can;have bl:=xK (r:=ar 1 n [] .nil 0 []) O O;have st:=xi (H:=j.app t) (t2:=.free j.tn) (sz2:=4) (rows2:=rows++[ar 1 n [] .nil 0 []]) (by rw[dP];exact d.out.box);rw[<-A.out]at e;clear c N R p o;refine bA @EA @dU @aT (aj @Q7 @Ks) ?_;exact⟨F xs-(i+1),by omega,i+1,_,_,_,by omega,O,e,⟨λB=>absurd B (Ql _)⟩,by simp⟩
  .have c:b8 (.text b) (ar 2 0 b .nil 0 []):=.text b E;have e:=ae.mk (d.out.put c O);have l3:=jv d.out.box;have Z:=xG (r:=ar 2 0 b .nil 0 []) y d.out.four d.out.nil d.out.can;have bl:=xK (r:=ar 2 0 b .nil 0 []) O O;have cv:=KQ (k:=kb) D;have st:=xi (H:=j.app t) (t2:=.free j.tn) (sz2:=4) (rows2:=rows++[ar 2 0 b .nil 0 []]) (by rw[dP];exact d.out.box);rw[<-A.out]at e;clear c D E p o;refine bA @EA @dU @aT (aj @Q6 (aj @Q5 @Kt)) ?_;exact⟨F xs-(i+1),by omega,i+1,_,_,_,by omega,O,e,⟨λB=>absurd B (Ql _)⟩,by simp⟩
  .have L:aA 0 0 0 r=V:=(by simpa [au] using o);have g:=d.out.push r;have e:=ae.mk (g.put c L);have l3:=jv g.box;have l4:=mQ c.len (aK j r);have Z:=xG (r:=r) y g.four g.nil g.can;have bl:=xK (r:=r) c.len c.cells;have st0:=Pc (H:=j) c;have st:=xi (H:=(j.push r).app t) (t2:=.free (j.push r).tn) (sz2:=4) (rows2:=rows++[r]) (by rw[dP];exact g.box);rw[<-A.out]at e;clear c p g o L;refine bA @EA @dU @aT (aj @aci (aj @ach @acj)) ?_;exact⟨F xs-(i+1),by omega,i+1,_,_,_,by omega,O,e,⟨λB=>absurd B (Ql _)⟩,by simp⟩
 .have gf:i=F xs:=by omega
  subst gf;have f:=d.out;rw[fR (by rw[q.out.1.1];exact aV _)]at f;have m:b8 (.list vs) (ar 3 0 [] t sz rows):=.list vs t sz rows f.rel.1 f.four (by have:=f.rel.1;have:=q.out.1.1;omega) f.rel.2;have ld:=mQ m.len f.box;have st:bY aa j 118 (.ptr (.box (F h.boxes)) 0) (.agg (ar 3 0 [] t sz rows))=J j:=by rw[fE iO mU f.box O (aV 4),xh O];rw[kC f.box]
  have T:=ae.mk (aj m (aj f.ext f.fit));clear m f;refine bg @EA ?_;exact⟨_,_,O,T.out.2.1,_,_,_,O,T.out.1,T.out.2.2,kN.out⟩
def bd3:iy aa 118 [(0,.v (.int .i64 3))]=J (.agg (ar 3 0 [] .nil 0 [])):=am
inductive uC:U->Vl->Prop
 |int (n:Int) (hn:0<=n/\n<=4611686018427387903):uC (.iface 3 (.v (.int .i64 n))) (.int n)
 |text (k:Tok) (s:Nat) (b:List UInt8) (hs:b≠[]->s=1) (hb:b.length<=1099511620000):uC (.iface 60 (.list k s (bI b))) (.text b)
def sI(xs:List U)(vs:List Vl):Prop:=F xs=F vs/\∀(c:Nat) x v,xs[c]?=J x->vs[c]?=J v->uC x v
def sI.nil:sI [] []:=⟨O,λc x d h=>by simp at h⟩
def sI.cons{x}{v}{xs}{vs}(h:uC x v)(e:sI xs vs):sI (x::xs) (v::vs):=by
 refine⟨by simp[e.1],λf g w d c=>?_⟩;cases f with|zero=>simp at d c;subst d;subst c;exact h|succ f=>simp at d c;exact e.2 f g w d c
def uC.adX{x}{v}(h:uC x v):(∃n,x=.iface 3 (.v (.int .i64 n))/\v=.int n/\0<=n/\n<=4611686018427387903)∨(∃k s b,x=.iface 60 (.list k s (bI b))/\v=.text b/\(b≠[]->s=1)/\F b<=1099511620000):=by
 cases h with|int n c=>exact .inl ⟨n,O,O,c.1,c.2⟩|text k s b e d=>exact .inr ⟨k,s,b,O,O,e,d⟩
def akt(h:Heap)(fJ:c_ h=V)(k:Tok)(s:Nat)(xs:List U)(vs:List Vl)(hr:sI xs vs)(hs:xs≠[]->s=1)(hl:F xs<=1000)(C:fg (.list vs)<=16)(D:F (cA (.list vs))<=1099511600000):
 ∃r h',W4.call 70 [.list k s (xs.map λa=>[a])] h=J (r,h')/\∃t,r=.ret (.list t 1 (bI (cA (.list vs)))):=by
 have m:=ae.mk (aj hr (aj hs (aj C D)));clear hr hs C D;have z:=sd;have u180:=abn;have u94:=kY;have z20:=YW;have eC:F (xs.map λa=>[a])=F xs:=br _;have X:om h (h.push (ar 3 0 [] .nil 0 [])) (F h.boxes) (vs.take 0) .nil 0 []:=⟨aK _ _,.inl O,fJ,.push _ _,aV _,⟨O,λi z1 r z0=>by simp at z0⟩,λz0=>absurd O z0,λ_=>.inr O,O⟩;refine bL O Tryz.func70 O ?_;refine bA @IC @dU @bd3 (aj @IY @iO) ?_;refine bC.gen λo e B ek dm=>?_;have f2:o.get 3=.ptr (.box (F h.boxes)) 0:=by rw[e];exact gS
 have f9:o.get 11=.list k s (xs.map λa=>[a]):=by rw[e];exact gS
 have f10:o.get 12=.v (.int .i64 (F xs:Nat)):=by rw[e];exact gS
 have f11:o.get 13=.v (.int .i64 (0:Nat)):=by rw[e];exact gR
 have Y:o.defers=[]:=by rw[B];exact gS
 clear e B ek dm;refine b9 (λz2 T u=>∃(i:Nat) (t:Tok) (v:Nat) (c:List (List U)),i<=F xs/\z2=F xs-i/\ae (om h u (F h.boxes) (vs.take i) t v c)/\T.get 3=.ptr (.box (F h.boxes)) 0/\T.get 11=.list k s (xs.map λa=>[a])/\T.get 12=.v (.int .i64 (F xs:Nat))/\T.get 13=.v (.int .i64 (i:Nat))/\T.defers=[]) ?_ (F xs) _ _ ?_;rotate_left 1
 .exact⟨0,.nil,0,[],bV _,O,⟨X⟩,f2,f9,f10,f11,Y⟩
 clear f2 f9 f10 f11 Y X;rintro z2 T u ⟨i,t,v,c,hi,rfl,d,g3,g11,g12,g13,hd⟩;by_cases p:i<F xs
 .have eo:s=1:=m.out.2.1 (by intro z0;rw[z0]at p;simp at p);subst eo;obtain⟨x,R⟩:∃x,xs[i]?=J x:=⟨_,aN p⟩;obtain⟨z1,l⟩:∃z1,vs[i]?=J z1:=⟨_,aN (by have:=m.out.1.1;omega)⟩;have q:=m.out.1.2 i x z1 R l;have ld:=Vz (H:=u) (s:=1) R;have N:=ae.mk (fY l);have L:F c<1000000:=by have:=d.out.rel.1;rw[cR]at this;omega
  have fH:(i:Int)<(F xs:Int):=by omega
  clear R l;rcases q.adX with⟨n,rfl,rfl,E,H⟩|⟨kb,sb,b,rfl,rfl,y,A⟩
  .have f:b8 (.int n) (ar 1 n [] .nil 0 []):=.int n ⟨E,H⟩;have g:=ae.mk (d.out.put f O);have l3:=jv d.out.box;have ap:=xG (r:=ar 1 n [] .nil 0 []) L d.out.four d.out.nil d.out.can;have bl:=xK (r:=ar 1 n [] .nil 0 []) O O;have st:=xi (H:=u.app t) (t2:=.free u.tn) (sz2:=4) (rows2:=c++[ar 1 n [] .nil 0 []]) (by rw[dP];exact d.out.box);rw[<-N.out]at g;clear f E H q;refine bA @IC @dU @aT (aj @Q7 @Ks) ?_;exact⟨F xs-(i+1),by omega,i+1,_,_,_,by omega,O,g,by simp⟩
  .have f:b8 (.text b) (ar 2 0 b .nil 0 []):=.text b A;have g:=ae.mk (d.out.put f O);have l3:=jv d.out.box;have ap:=xG (r:=ar 2 0 b .nil 0 []) L d.out.four d.out.nil d.out.can;have bl:=xK (r:=ar 2 0 b .nil 0 []) O O;have cv:=KQ (k:=kb) y;have st:=xi (H:=u.app t) (t2:=.free u.tn) (sz2:=4) (rows2:=c++[ar 2 0 b .nil 0 []]) (by rw[dP];exact d.out.box);rw[<-N.out]at g;clear f y A q;refine bA @IC @dU @aT (aj @Q6 (aj @Q5 @Kt)) ?_;exact⟨F xs-(i+1),by omega,i+1,_,_,_,by omega,O,g,by simp⟩
 .have Z:i=F xs:=by omega
  subst Z;have j:=d.out;rw[fR (by rw[m.out.1.1];exact aV _)]at j;have l:b8 (.list vs) (ar 3 0 [] t v c):=.list vs t v c j.rel.1 j.four (by have:=j.rel.1;have:=m.out.1.1;omega) j.rel.2;have ld:=mQ l.len j.box;obtain⟨te,ce⟩:=KV l m.out.2.2.1 m.out.2.2.2;clear l j;refine bg @IC ?_;exact⟨_,_,O,_,O⟩
def ahJ(h:Heap)(i:c_ h=V)(c:List UInt8)(k:Tok)(s:Nat)(xs:List U)(vs:List Vl)(j:qj xs vs)(l:xs≠[]->s=1)(g:F xs<=1000)(f:∀a∈xs,au 0 0 0 a=V)(p:F c<=1099511620000)(d:fg (.list vs)<=16)(e:F (cA (.list vs))<=1099511600000):
 ∃r h',W4.call 153 [.v (.string (bs c)),.list k s (xs.map λa=>[a])] h=J (r,h')/\r=.ret (I ((pR c (.list vs):Nat):Int)):=by
 obtain⟨_,B,y,-,t,C,q,rfl,m,-,-⟩:=Nr h i k s xs vs j l g f;obtain⟨u,A⟩:=KV m d e;have o:=Tg c (cA (.list vs)) u M p;have v:pc (jQ c (cA (.list vs)))=pR c (.list vs):=rfl;rw[v]at o;generalize pR c (.list vs)=n at *
 unfold I at *
 clear j l g m f v;refine bL O Tryz.func153 O ?_;refine bg @apy ?_;exact⟨_,_,O,O⟩
def ahd(n:Nat)(c:0<n)(f:n<=1099511627776)(H:Heap):W4.call 207 [.list .nil 0 [],.v (.int .i64 (n:Nat))] H=J (.ret (.arr (F H.boxes) 0 0 n),H.push (bB n [I 0]).flatten):=by
 have e:=cT;have a:=acq (H:=H) c f;have i:IntKind.i64.wrap ((0:Int)-0)=0:=by rfl
 have j:IntKind.i64.wrap (((n:Nat):Int)-0)=((n:Nat):Int):=by rw[Cg,ja M M]
 have d:gi aa 23 (.arr (F H.boxes) 0 n n) af (J (.v (.int .i64 (0:Nat)))) af=J (.arr (F H.boxes) 0 0 n):=Yp e eR aY aY M c;have d:gi aa 23 (.arr (F H.boxes) 0 n n) af (J (.v (.int .i64 0))) af=J (.arr (F H.boxes) 0 0 n):=d;have g:(0:Int)<(n:Nat):=by omega
 refine cq O aa8 O ?_;exact Gm @XP @CO @RF (aj @Yq (aj @fQ.{0} (aj @qm @Cg)))
def ahc(H:Heap):W4.call 207 [.list .nil 0 [],.v (.int .i64 (0:Nat))] H=J (.ret (.list .nil 0 []),H):=by
 have c:=cT;refine cq O aa8 O ?_;have d:IntKind.i64.wrap ((0:Int)-0)=0:=by rfl
 have e:IntKind.i64.wrap (((0:Nat):Int)-0)=0:=by rfl
 exact Gm @XP @CO @RF (aj @Yq (aj @fQ.{0} (aj @qm @Cg)))
def aeY(k:Tok)(xs:List U)(c:List (List (List U)))(hl:F xs=F c)(H:Heap)(hs:∀(i:Nat) x d,xs[i]?=J x->c[i]?=J d->dA 1 H x d)(hb:F c.flatten<=1099511627776)(fa:F xs<=1000):
 ∃r H',W4.call 141 [.list k 1 (xs.map λx=>[x])] H=J (r,H')/\∃y,r=.ret y/\Ext H H'/\dA 1 H' y c.flatten:=by
 have u23:=cT;have u22:=gm;have aE:=abP;have sE:=gV;have C:∀(i:Nat) x,xs[i]?=J x->(xs.map λx=>[x])[i]?=J [x]:=λi x f=>by rw[dW,f];rfl
 have iq:∀i,F (c.take i).flatten<=1099511627776:=λi=>by
  refine eS ?_ hb
  conv=>rhs;rw[<-pG i c,oi,cg]
  omega
 have B:∀(i:Nat) d,c[i]?=J d->(c.take (i+1)).flatten=(c.take i).flatten++d:=λi d s=>by rw[fY s,oi];simp
 have X:=ae.mk hs;have v:=ae.mk hl;have kr:=ae.mk C;have kst:=ae.mk B;have kle:=ae.mk iq;have E:F (xs.map λx=>[x])=F xs:=by simp
 clear hs C B iq hl;generalize hM:(xs.map λx=>[x])=N at *
 refine bL O Tryz.func141 O ?_;refine bg @xd ?_;refine b9 (λz0 g h'=>∃i:Nat,i<=F xs/\z0=F xs-i/\g.get 0=.list k 1 N/\g.get 9=.list k 1 N/\g.get 10=.v (.int .i64 (F xs:Nat))/\g.get 11=.v (.int .i64 i)/\g.get 3=.v (.int .i64 (F (c.take i).flatten:Nat))/\g.get 2=.list .nil 0 []/\g.defers=[]/\h'=H) ?_ (F xs) _ _ ?_;rotate_left 1
 .refine⟨0,bV _,O,?_,?_,?_,?_,?_,?_,?_,O⟩<;>(first|assumption|(simp only[gW,reduceIte,aJ,aB,E]<;>rfl))
 rintro z0 g h' ⟨i,s,rfl,g0,g9,Z,g11,g3,g2,T,rfl⟩;by_cases p:i<F xs
 .obtain⟨x,f⟩:∃x,xs[i]?=J x:=⟨_,aN p⟩;obtain⟨d,e⟩:∃d,c[i]?=J d:=⟨_,aN (by have:=v.out;omega)⟩;have l:=X.out i x d f e;have ls:=l.len u23;have q:=kr.out i x f;have DD:(i:Int)<(F N:Int):=by omega
  have Y:=kst.out i d e;have q1:=kle.out (i+1);rw[Y,cg]at q1;have ksum:=ae.mk (show(F (c.take (i+1)).flatten)=F (c.take i).flatten+F d by rw[Y,cg]);generalize F (c.take i).flatten=n1 at *
  have e1:IntKind.i64.wrap (((n1:Nat):Int)+((F d:Nat):Int))=((n1+F d:Nat):Int):=by rw[ja M M];omega
  have nn:¬(((n1+F d:Nat):Int)<0):=by omega
  have ld:aD aa Gt h' 23 (.elem 1 N i 0)=J x:=by rw[oA aE q];rfl
  clear Y q1 l;refine bE @xd @aT ?_;exact⟨F xs-(i+1),by omega,i+1,by omega,O,by trivial,by trivial,by trivial,by simp,by rw[ksum.out],by trivial,by trivial,by trivial⟩
 have:i=F xs:=by omega
 subst this;rw[show c.take (F xs)=c by rw[v.out];exact fB]at g3;have hn:=kle.out (F xs);rw[show c.take (F xs)=c by rw[v.out];exact fB]at hn;generalize R:F c.flatten=n at *
 rcases Nat.eq_zero_or_pos n with h0|h0
 .subst h0;have gn:=ahc h';have L:c.flatten=[]:=List.eq_nil_of_length_eq_zero R;refine bg @xd ?_;refine b9 (λz0 g m=>∃i:Nat,i<=F xs/\z0=F xs-i/\g.get 25=.list k 1 N/\g.get 26=.v (.int .i64 (F xs:Nat))/\g.get 27=.v (.int .i64 i)/\g.get 6=.list .nil 0 []/\g.defers=[]/\m=h') ?_ (F xs) _ _ ?_;rotate_left 1
  .refine⟨0,bV _,O,?_,?_,?_,?_,?_,O⟩<;>(first|assumption|(simp only[gW,reduceIte,aJ,aB,E]<;>rfl))
  clear g0 g9 Z g11 g3 g2 T gn;rintro z0 g m ⟨i,s,rfl,g25,g26,g27,g6,T,rfl⟩;by_cases p:i<F xs
  .obtain⟨x,f⟩:∃x,xs[i]?=J x:=⟨_,aN p⟩;obtain⟨d,e⟩:∃d,c[i]?=J d:=⟨_,aN (by have:=v.out;omega)⟩;have l:=X.out i x d f e;have MD:d=[]:=by
    have:=cU e;cases d with|nil=>rfl|cons a z2=>exact absurd (JL.2 ⟨_,this,gx⟩) (by rw[L];exact List.not_mem_nil)
   subst MD;have an:=abZ l;have q:=kr.out i x f;have DD:(i:Int)<(F N:Int):=(by omega);have ld:aD aa Gt m 23 (.elem 1 N i 0)=J x:=(by rw[oA aE q];rfl);clear l;refine bE @xd @aT ?_;exact⟨F xs-(i+1),by omega,i+1,by omega,O,by trivial,by trivial,by simp,by trivial,by trivial,by trivial⟩
  .have:i=F xs:=(by omega);subst this;refine bg @xd ?_;exact⟨_,_,O,_,O,Ext.refl _,by(try rw[L]);exact dA.list (λr C=>by cases C) (λY=>absurd O Y)⟩
 .have gn:=ahd n h0 hn h';refine bg @xd ?_;rw[Of];have uW:∀(i:Nat) d,c[i]?=J d->∀r∈d,F r=1:=λi d s=>by obtain⟨x,f⟩:∃x,xs[i]?=J x:=⟨_,aN (by rw[v.out];exact(aS.1 s).1)⟩;exact(X.out i x d f s).1
  have j:∀i,∀r∈(c.take i).flatten,F r=1:=λi r C=>by obtain⟨d,h1,h2⟩:=JL.1 C;obtain⟨z1,hj⟩:=List.mem_iff_getElem?.1 (xy h1);exact uW z1 d hj r h2
  have na:∀i,F (c.take i).flatten.flatten=F (c.take i).flatten:=λi=>by rw[lu (j i),jC]
  have A:∀i,F (c.take i).flatten<=n:=λi=>by
   rw[<-R]
   conv=>rhs;rw[<-pG i c,oi,cg]
   omega
  have kfl:=ae.mk na;have kmo:=ae.mk A;have kr2:=ae.mk j;clear uW na A j gn;refine b9 (λz0 g m=>∃i:Nat,i<=F xs/\z0=F xs-i/\g.get 25=.list k 1 N/\g.get 26=.v (.int .i64 (F xs:Nat))/\g.get 27=.v (.int .i64 i)/\g.get 6=.arr (F h'.boxes) 0 (F (c.take i).flatten) n/\g.defers=[]/\m.boxes[h'.boxes.length]?=J ((c.take i).flatten.flatten++bB (n-F (c.take i).flatten) (I 0))/\Ext h' m) ?_ (F xs) _ _ ?_;rotate_left 1
  .refine⟨0,bV _,O,?_,?_,?_,?_,?_,?_,Ext.push _ _⟩<;>(first|assumption|exact aK _ _|(simp only[gW,reduceIte,aJ,aB,E]<;>rfl))
  clear g0 g9 Z g11 g3 g2 T;rintro z0 g m ⟨i,s,rfl,g25,g26,g27,g6,T,o,D⟩;by_cases p:i<F xs
  .obtain⟨x,f⟩:∃x,xs[i]?=J x:=⟨_,aN p⟩;obtain⟨d,e⟩:∃d,c[i]?=J d:=⟨_,aN (by have:=v.out;omega)⟩;have l:=(X.out i x d f e).ext D;have Y:=kst.out i d e;have m1:=kmo.out (i+1);have f0:=kfl.out i;have u:F (c.take (i+1)).flatten=F (c.take i).flatten+F d:=(by rw[Y,cg]);rw[u]at m1;have ME:F d.flatten=F d:=(by rw[lu l.1,jC]);have ap:=abq l o m1 (by rw[cg,l8,f0];omega);have uY:dC ((c.take i).flatten.flatten++bB (n-F (c.take i).flatten) (I 0)) (F (c.take i).flatten) d.flatten=(c.take (i+1)).flatten.flatten++bB (n-F (c.take (i+1)).flatten) (I 0):=(by unfold dC;rw[List.take_left' f0,List.drop_append,mW (by rw[f0];omega),dM,f0,List.drop_replicate,Y,oi,cg,ME];congr 2;omega);rw[uY]at ap;have q:=kr.out i x f;have DD:(i:Int)<(F N:Int):=(by omega);have ld:aD aa Gt m 23 (.elem 1 N i 0)=J x:=(by rw[oA aE q];rfl);have kX:=ae.mk D;have yv:=(aS.1 o).1;have ks:=ae.mk u;clear l D o uY Y f0 u;refine bE @xd @aT ?_;refine⟨F xs-(i+1),by omega,i+1,by omega,O,by trivial,by trivial,by simp,by rw[ks.out],by trivial,?_,kX.out.fy (aV _) _⟩;exact dn yv
  .have:i=F xs:=(by omega);subst this;have ht:c.take (F xs)=c:=(by rw[v.out];exact fB);have f0:=kfl.out (F xs);have j:=kr2.out (F xs);rw[ht]at o g6 f0 j;rw[R]at o g6;rw[qs,aav,ga]at o;have kB:=ae.mk o;have kX:=ae.mk D;clear o D;refine bg @xd ?_;exact⟨_,_,O,_,O,kX.out,dA.box j R.symm kB.out⟩
def L5:List aQ:=[80,81,75,134,66,82,133,130,202,67,39,68,69,70,162,135,43,111,35,139,140,141,142,150,40,100,96,97,99,241,158,159,203,103,104,105,193,242,74,174,231,232,233,222,178]
noncomputable def Bt:aQ->Option (List U->Heap->Option (U × Heap)):=w_ 4 W4 L5 [153]
noncomputable abbrev W5:=whole aa Gt Bt
def jF:lW Bt L5:=λd c=>⟨tW W4 d,by unfold Bt w_;rw[av (by simpa using c)];rfl⟩
section
variable (a b n x:Int)
def FD:∀h,W5.call 80 [I a,I b] h=J (.ret (I (dx a b)),h):=gr (L:=L5) O O O (QP a b _) O rfl
def NC:∀h,W5.call 81 [I a,I b] h=J (.ret (I (cS a b)),h):=gr (L:=L5) O O O (Wb a b _) O rfl
def E6:∀h,W5.call 66 [I x] h=J (.ret (.v (.bool (bX x))),h):=gr (L:=L5) O O O (Y_ x _) O rfl
def Gk:∀h,W5.call 67 [I a,I b] h=J (.ret (.tuple [I (nI a b),I (rq a b)]),h):=gr (L:=L5) O O O (ag0 a b _) O rfl
def Gl:∀h,W5.call 75 [I a,I n] h=J (.ret (.tuple [I (fb a n),I (ox a)]),h):=gr (L:=L5) O O O (Li a n _) O rfl
def aoj:∀h,W5.call 231 [I n] h=J (.ret (.tuple [I (if fmod n=0 then 0 else ea n),I (if fmod n=0 then 90 else 0)]),h):=gr (L:=L5) O O O (aoi n _) O rfl
def aqI:∀h,W5.call 111 [I x] h=J (.ret (.v (.bool (bX x))),h):=gr (L:=L5) O O O (aqH x _) O rfl
def aod:∀h,W5.call 97 [I n] h=J (.ret (.agg (ar 1 n [] .nil 0 [])),h):=gr (L:=L5) O O O (aoc n _) O rfl
end
def NY(x n):∀h,W5.call 82 [I x,I n] h=J (.ret (I (fb x n)),h):=gr (L:=L5) O O O (amK x n _) O rfl
def WZ(x n):∀h,W5.call 68 [I x,I n] h=J (.ret (I (fb x n)),h):=gr (L:=L5) O O O (amL x n _) O rfl
def nR{x y}{rows}{ac}(c:RL x rows)(d:IL y ac):RL (al x) rows/\IL (al y) ac/\au 0 0 0 (al x)=V/\au 0 0 0 (al y)=V:=
 ⟨c.fc.1,d.hold.1,c.fc.2,d.hold.2⟩
def KK(x y)(rows)(ac)(f:RL x rows)(g:IL y ac):∀h,W5.call 35 [.agg [x,y]] h=J (.ret (I (cG rows ac)),h):=by obtain⟨c,h2,d,e⟩:=nR f g;exact gr (L:=L5) (B:=[.agg [al x,al y]]) O O (by simp[aA,au,d,e]) (RX (al x) (al y) rows ac c h2 _) O rfl
def aeL(x y)(rows)(ac)(f:RL x rows)(g:IL y ac):∀h,W5.call 140 [.agg [x,y]] h=J (.ret (I (cd rows:Nat)),h):=by obtain⟨c,h2,d,e⟩:=nR f g;obtain⟨h',i,-⟩:=Sd ⟨[],[],0,[]⟩ (al x) (al y) rows ac c h2;exact gr (L:=L5) (B:=[.agg [al x,al y]]) O O (by simp[aA,au,d,e]) i O rfl
def aeP(x y)(rows)(ac)(f:RL x rows)(g:IL y ac):∀h,W5.call 134 [.agg [x,y]] h=J (.ret (I (cd rows:Nat)),h):=by obtain⟨c,h2,d,e⟩:=nR f g;obtain⟨h',i,-⟩:=aeO ⟨[],[],0,[]⟩ (al x) (al y) rows ac c h2;exact gr (L:=L5) (B:=[.agg [al x,al y]]) O O (by simp[aA,au,d,e]) i O rfl
def aeN(x y)(rows)(ac)(f:RL x rows)(g:IL y ac):∀h,W5.call 104 [.agg [x,y]] h=J (.ret (I (cd rows:Nat)),h):=by obtain⟨c,h2,d,e⟩:=nR f g;obtain⟨h',i,-⟩:=aeM ⟨[],[],0,[]⟩ (al x) (al y) rows ac c h2;exact gr (L:=L5) (B:=[.agg [al x,al y]]) O O (by simp[aA,au,d,e]) i O rfl
def Xp(x y)(rows)(ac)(g:RL x rows)(i:IL y ac)(f:F rows<=1000000):∀h,W5.call 40 [.agg [x,y]] h=J (.ret (I (cG rows ac)),h):=by obtain⟨c,h2,d,e⟩:=nR g i;obtain⟨l,h',j,-,rfl⟩:=anA ⟨[],[],0,[]⟩ (al x) (al y) rows ac c h2 f;exact gr (L:=L5) (B:=[.agg [al x,al y]]) O O (by simp[aA,au,d,e]) j O rfl
def Wr(x)(l)(e:IL x l)(d:F l<=1000000):∀h,W5.call 139 [x] h=J (.ret (.v (.bool (l.all cN))),h):=by obtain⟨c,h2⟩:=e.hold;exact gr (L:=L5) (B:=[al x]) O O (by simp[aA,h2]) (Wq (al x) l c d _) O rfl
def WN(x)(l)(e:IL x l)(d:F l<=9223372036854775807):∀h,W5.call 43 [x] h=J (.ret (.v (.bool (dy (-1) l))),h):=by obtain⟨c,h2⟩:=e.hold;obtain⟨g,h',f,-,rfl⟩:=amf ⟨[],[],0,[]⟩ (al x) l c d;exact gr (L:=L5) (B:=[al x]) O O (by simp[aA,h2]) f O rfl
def Ls(x)(l)(n)(e:IL x l)(d:F l<=1099511627776):∀h,W5.call 105 [x,I n] h=J (.ret (.v (.bool (l.contains n))),h):=by obtain⟨c,h2⟩:=e.hold;obtain⟨g,h',f,-,rfl⟩:=ahA ⟨[],[],0,[]⟩ (al x) l n c d;exact gr (L:=L5) (B:=[al x,I n]) O O (by simp[aA,h2,au,I]) f O rfl
def asX(n)(c:0<n)(h2:n<=1000000):∀h,W5.call 103 [I (n:Nat)] h=J (.ret (.list .held 1 (ints (eZ n))),h):=
 gr (L:=L5) O O O (asW ⟨[],[],0,[]⟩ n c h2) (yK (aK _ _) (Pg c)) (by simp[au,jj,oJ])
def atc(x y)(a b)(i:IL x a)(j:IL y b)(g:F a<=1000000)(c:F a<=F b):∀h,W5.call 142 [x,y] h=J (.ret (I (wu a b)),h):=by obtain⟨d,h2⟩:=i.hold;obtain⟨e,f⟩:=j.hold;obtain⟨h',l,-⟩:=atb ⟨[],[],0,[]⟩ (al x) (al y) a b d e g c;exact gr (L:=L5) (B:=[al x,al y]) O O (by simp[aA,h2,f]) l O rfl
def Sj(x y z)(rows)(ac c)(l:RL x rows)(m:IL y ac)(o:IL z c)(j:F c<=1000000):∀h,W5.call 158 [.agg [x,y],z] h=J (.ret (I (iz rows ac c)),h):=by obtain⟨d,h2,e,f⟩:=nR l m;obtain⟨g,i⟩:=o.hold;obtain⟨q,h',p,-,rfl⟩:=afh ⟨[],[],0,[]⟩ (al x) (al y) (al z) rows ac c d h2 g j;exact gr (L:=L5) (B:=[.agg [al x,al y],al z]) O O (by simp[aA,au,e,f,i]) p O rfl
def an6(x y)(rows)(ac)(f:RL x rows)(g:IL y ac)(a v):∀h,W5.call 159 [.agg [x,y],.agg [I a,I v]] h=J (.ret (.v (.bool (rU rows (a,v)))),h):=by obtain⟨c,h2,d,e⟩:=nR f g;obtain⟨j,h',i,-,rfl⟩:=an5 ⟨[],[],0,[]⟩ (al x) (al y) rows ac c h2 a v;exact gr (L:=L5) (B:=[.agg [al x,al y],.agg [I a,I v]]) O O (by simp[aA,au,d,e,I]) i O rfl
def SY:∀l:List Int,(ints l).flatten=l.map I
 | []=>rfl
 |a::l=>by show(tT a::ints l).flatten=I a::l.map I;rw[jA,SY l];rfl
def aiK{h}{y}{l}(s:dA 1 h y (ints l)):IL (dD h y) l/\au 0 0 0 (dD h y)=V:=by
 rcases s.2 with⟨k,p,rfl,e⟩|⟨b,g,f,j,rfl,-,d,c,h2⟩
 .rw[dD];exact⟨⟨_,_,O,λo=>e (by unfold ints;simpa using o)⟩,by rw[au,ef,jj];rfl⟩
 .rw[dD,d];simp only;rw[jC]at c h2;have m:(ints l).flatten.map (λi=>[i])=ints l:=by have this:(ints l).flatten=l.map I:=SY l;rw[this,La]
  rw[av h2,c,m];exact⟨⟨_,_,O,λ_=>rfl⟩,by rw[au,jj];rfl⟩
def ae0(x y)(a b)(p:IL x a)(q:IL y b)(D:F a+F b<=1000000):∃z,IL z (a++b)/\∀h,W5.call 141 [.list .tight 1 [[x],[y]]] h=J (.ret z,h):=by
 obtain⟨i,h2⟩:=p.hold;obtain⟨j,l⟩:=q.hold;obtain⟨N,h',C,z,rfl,-,f⟩:=aeY .tight [al x,al y] [ints a,ints b] O ⟨[],[],0,[]⟩ (λv w R d c=>by
  have e:∀{w:U} {u:List Int},IL w u->dA 1 ⟨[],[],0,[]⟩ w (ints u):=λ{w u} d=>by obtain⟨k,T,rfl,o⟩:=d;exact dA.list (λN m=>by obtain⟨n,-,rfl⟩:=iV.1 m;rfl) λH=>o λg=>H (by rw[g];rfl)
  rcases v with _|_|v
  .injection d with d;injection c with c;subst d;subst c;exact e i
  .injection d with d;injection c with c;subst d;subst c;exact e j
  .cases d) (by simp[cE];omega) b7
 have g:[ints a,ints b].flatten=ints (a++b):=by simp[ints]
 rw[g]at f;obtain⟨r,s⟩:=aiK f;exact⟨_,r,gr (L:=L5) (B:=[.list .tight 1 [[al x],[al y]]]) O O (by simp[aA,au,e_,h2,l,oJ]) C O s⟩
def agV(c b)(k)(d:F b<=1099511620000)(e:F c<=1099511620000):∀h,W5.call 69 [.v (.string (bs c)),.list k 1 (bI b)] h=J (.ret (I (pc (jQ c b):Nat)),h):=
 gr (L:=L5) (B:=[.v (.string (bs c)),.list (bU k) 1 (bI b)]) O (by rw[aZ,aZ,al.eq_1,pX];rfl) (by simp[aA,au,ef,i']) (Tg c b _ d e _) O rfl
def q'.hold{x}{v}(h:q' x v):q' (al x) v/\au 0 0 0 (al x)=V:=by
 cases h with|int n e=>exact⟨.int n e,O⟩|text k i b f d=>rw[al,al,pX];exact⟨.text _ i b f d,by simp[au,ef,i']⟩|val v g h=>obtain⟨c,h2⟩:=b8.hold v g h;rw[al,al];exact⟨.val v _ c,by simpa [au] using h2⟩
def qj.hold{xs}{vs}(h:qj xs vs):qj (xs.map al) vs/\∀a∈xs.map al,au 0 0 0 a=V:=by
 refine⟨⟨by simp[h.1],λg x m c j=>?_⟩,λa i=>?_⟩
 .rw[dW]at c;cases d:xs[g]? with
  |none=>rw[d]at c;cases c
  |some l=>rw[d]at c;injection c with c;subst c;exact(h.2 g l m d j).hold.1
 .obtain⟨l,d,rfl⟩:=iV.1 i;obtain⟨g,e⟩:=qo d;have f:=(aS.1 e).1;exact(h.2 g l _ e (aN (by rw[<-h.1];exact f))).hold.2
def b8.tok{vs}{t}{sz}{rows}(h:b8 (.list vs) (ar 3 0 [] t sz rows))(t2):b8 (.list vs) (ar 3 0 [] t2 sz rows):=by
 generalize c:ar 3 0 [] t sz rows=m at h;cases h with|list l k z j a b f g=>unfold ar at c;injection c with _ c;injection c with _ c;injection c with _ c;injection c with c;injection c with i d e;subst d;subst e;exact .list vs t2 sz rows a b f g
def ako(k)(s)(xs)(vs)(g:qj xs vs)(i:xs≠[]->s=1)(f:F xs<=1000):
 ∃row,b8 (.list vs) row/\∀h,W5.call 150 [.list k s (xs.map λa=>[a])] h=J (.ret (.agg row),h):=by
 obtain⟨d,h2⟩:=g.hold;obtain⟨p,h',m,-,t,l,c,rfl,j,e,-⟩:=Nr ⟨[],[],0,[]⟩ vn (bU k) s (xs.map al) vs d (λo=>i (by simpa using o)) (by simpa using f) h2;refine⟨ar 3 0 [] (bU t) l c,j.tok _,gr (L:=L5) (B:=[.list (bU k) s ((xs.map al).map λa=>[a])]) O (by rw[aZ,aZ,al,yx]) (by rw[aA,aA,au,ef,uL _ h2];rfl) m O ?_⟩;rw[au,ar,aA,aA,aA,aA,aA,au,ef,e];rfl
def Tc{z}{h}:∀xs:List U,nG z h (xs.map λa=>[a])=(xs.map (gO z h)).map λa=>[a]
 | []=>rfl
 |x::xs=>by rw[eD,nG,Tc xs];rfl
def Td{z}{h}:∀b:List UInt8,nG z h (bI b)=bI b
 | []=>rfl
 |a::b=>by show nG z h (ie a::bI b)=_;rw[nG,Td b];rfl
def sf(h:Heap)(x:U)(v:Vl):Prop:=q' (gO 4 h x) v/\au 0 0 0 (gO 4 h x)=V
def vP(h:Heap)(xs:List U)(vs:List Vl):Prop:=F xs=F vs/\∀(c:Nat) x v,xs[c]?=J x->vs[c]?=J v->sf h x v
def vP.nil{h}:vP h [] []:=⟨O,λd x e c=>by simp at c⟩
def vP.cons{h}{x}{v}{xs}{vs}(q:sf h x v)(e:vP h xs vs):vP h (x::xs) (v::vs):=by
 refine⟨by simp[e.1],λf g w d c=>?_⟩;cases f with|zero=>simp at d c;subst d;subst c;exact q|succ f=>simp at d c;exact e.2 f g w d c
def sf.int{h}(n)(c:0<=n/\n<=4611686018427387903):sf h (.iface 3 (.v (.int .i64 n))) (.int n):=⟨.int n c,O⟩
def sf.text{h}(k)(s)(b)(d:b≠[]->s=1)(c:F b<=1099511620000):sf h (.iface 60 (.list k s (bI b))) (.text b):=by unfold sf;rw[gO,gO,Td];exact⟨.text _ s b d c,by simp[au,ef,i']⟩
def apm{z}{rows:List (List U)}(d:∀r∈rows,F r=z){i}{r}(h:rows[i]?=J r):(rows.flatten.drop (i*z)).take z=r:=by
 have e:=d r (cU h);refine nV λf=>?_;rw[mr];split
 .rename_i c;rw[oL,agl d i f c,h];rfl
 .rename_i c;rw[uy M]
def apo{z}(e:0<z):∀rows:List (List U),(∀r∈rows,F r=z)->nr z rows.flatten 0 (F rows)=rows:=by
 intro rows d;refine nV λf=>?_;unfold nr;rw[dW];rcases dp f (F rows) with c|c
 .rw[List.getElem?_range c,fk,nX,apm d (aN c),aN c]
 .rw[uy (by simpa using c),uy c];rfl
def sf.list{h}{vs}{rows}{b}(l:h.boxes[b]?=J rows.flatten)(c:fN vs rows)(m:F rows<=1000000):sf h (.iface 118 (.agg (I 3::I 0::sv []::[.arr b 0 (F rows) (F rows)]))) (.list vs):=by
 have g:∀p∈rows,F p=4:=λp i=>by obtain⟨r,e⟩:=qo i;have f:=(aS.1 e).1;exact(c.2 r _ p (aN (by rw[<-c.1];exact f)) e).len
 have q:gO 4 h (.iface 118 (.agg (I 3::I 0::sv []::[.arr b 0 (F rows) (F rows)])))=.iface 118 (.agg (ar 3 0 [] .held 4 (dk rows))):=by unfold I sv ar;simp only[gO,ip,l];rw[av ⟨by rw[lu g];omega,by decide⟩,apo aY rows g];rfl
 have o:b8 (.list vs) (ar 3 0 [] .held 4 rows):=.list vs .held 4 rows c.1 (λ_=>rfl) m c.2;obtain⟨d,h2⟩:=b8.hold _ _ o;have j:aZ (ar 3 0 [] .held 4 rows)=ar 3 0 [] .held 4 (dk rows):=rfl;rw[j]at d h2;unfold sf;rw[q];exact⟨.val _ _ d,by simpa [au] using h2⟩
def vP.j8{h}{xs}{vs}(q:vP h xs vs):qj (xs.map (gO 4 h)) vs/\∀a∈xs.map (gO 4 h),au 0 0 0 a=V:=by
 refine⟨⟨by simp[q.1],λg x m c j=>?_⟩,λa i=>?_⟩
 .rw[dW]at c;cases d:xs[g]? with
  |none=>rw[d]at c;cases c
  |some l=>rw[d]at c;injection c with c;subst c;exact(q.2 g l m d j).1
 .obtain⟨l,d,rfl⟩:=iV.1 i;obtain⟨g,e⟩:=qo d;have f:=(aS.1 e).1;exact(q.2 g l _ e (aN (by rw[<-q.1];exact f))).2
def TJ(h)(c)(k)(s)(xs)(vs)(i:vP h xs vs)(j:xs≠[]->s=1)(g:F xs<=1000)(l:F c<=1099511620000)(d:fg (.list vs)<=16)(e:F (cA (.list vs))<=1099511600000):
 W5.call 153 [.v (.string (bs c)),.list k s (xs.map λa=>[a])] h=J (.ret (I ((pR c (.list vs):Nat):Int)),h):=by
 obtain⟨f,h2⟩:=i.j8;obtain⟨p,h',m,rfl⟩:=ahJ ⟨[],[],0,[]⟩ vn c (bU k) s (xs.map (gO 4 h)) vs f (λo=>j (by simpa using o)) (by simpa using g) h2 l d e;refine agw (B:=[.v (.string (bs c)),.list (bU k) s ((xs.map (gO 4 h)).map λa=>[a])]) O O ?_ ?_ m
 .rw[ip,ip,ip,gO,Tc];rfl
 .simp only[aA,au,ef,uL _ h2,Bool.and_self]
def uC.hold{x}{v}(h:uC x v):uC (al x) v/\au 0 0 0 (al x)=V:=by
 cases h with|int n d=>exact⟨.int n d,O⟩|text k f b e c=>rw[al,al,pX];exact⟨.text _ f b e c,by simp[au,ef,i']⟩
def sI.hold{xs}{vs}(h:sI xs vs):sI (xs.map al) vs/\∀a∈xs.map al,au 0 0 0 a=V:=by
 refine⟨⟨by simp[h.1],λg x m c j=>?_⟩,λa i=>?_⟩
 .rw[dW]at c;cases d:xs[g]? with
  |none=>rw[d]at c;cases c
  |some l=>rw[d]at c;injection c with c;subst c;exact(h.2 g l m d j).hold.1
 .obtain⟨l,d,rfl⟩:=iV.1 i;obtain⟨g,e⟩:=qo d;have f:=(aS.1 e).1;exact(h.2 g l _ e (aN (by rw[<-h.1];exact f))).hold.2
def aku(k)(s)(xs)(vs)(g:sI xs vs)(i:xs≠[]->s=1)(f:F xs<=1000)(c:fg (.list vs)<=16)(d:F (cA (.list vs))<=1099511600000):
 ∃t,∀h,W5.call 70 [.list k s (xs.map λa=>[a])] h=J (.ret (.list t 1 (bI (cA (.list vs)))),h):=by
 obtain⟨e,h2⟩:=g.hold;obtain⟨m,h',j,t,rfl⟩:=akt ⟨[],[],0,[]⟩ vn (bU k) s (xs.map al) vs e (λl=>i (by simpa using l)) (by simpa using f) c d;exact⟨bU t,gr (L:=L5) (B:=[.list (bU k) s ((xs.map al).map λa=>[a])]) O (by rw[aZ,aZ,al,yx]) (by rw[aA,aA,au,ef,uL _ h2];rfl) j O (by simp[au,ef,i'])⟩
def QN(c)(s0)(xs:List U)(y z)(rows)(ac who)(v:RL (.list c s0 (xs.map λa=>[a])) rows)(A:IL y ac)(B:IL z who)(j:F who<=1099511627776):
 (∃e,fm rows ac who=([],ai,e)/\∀h,W5.call 39 [.agg [.list c s0 (xs.map λa=>[a]),y],z] h=J (.ret (.tuple [.list .nil 0 [],.v (.bool ai),.v (.int .i64 e)]),h))∨
 ∃l,fm rows ac who=(l,V,0)/\F l=F rows/\∀h,W5.call 39 [.agg [.list c s0 (xs.map λa=>[a]),y],z] h=J (.ret (.tuple [.list .held 1 (ints l),.v (.bool V),.v (.int .i64 0)]),h):=by
 obtain⟨o,h2⟩:=v.hold;obtain⟨p,q⟩:=A.hold;obtain⟨r,s⟩:=B.hold;have g:aZ [.agg [.list c s0 (xs.map λa=>[a]),y],z]=[.agg [.list (bU c) s0 ((xs.map al).map λa=>[a]),al y],al z]:=by rw[aZ,al,aZ,aZ,aZ,al,yx];rfl
 have i:aA 0 0 0 [.agg [.list (bU c) s0 ((xs.map al).map λa=>[a]),al y],al z]=V:=by have u:=uL _ h2;rw[aA,au,aA,aA,aA,aA,au,ef,u,q,s];rfl
 rcases abx (bU c) s0 (xs.map al) (al y) (al z) rows ac who o p r j with⟨e,d,f⟩|⟨l,d,m,f⟩
 .exact .inl ⟨e,d,gr (L:=L5) O g i (f _) O O⟩
 .exact .inr ⟨l,d,m,gr (L:=L5) O g i (f _) O (by simp[au,aA,jj,oJ])⟩
end Go.Proofs.YtcbhpkjbiehcpaaGreatDoor
end
