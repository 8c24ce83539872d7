/-
  Part of the proof: TE.
-/
import Derived.Test.YtcbhpkjbiehcpaaGreatDoorTD
import Derived.Test.YtcbhpkjbiehcpaaGreatDoorTA
import Derived.Test.YtcbhpkjbiehcpaaGreatDoorTB
import Derived.Test.YtcbhpkjbiehcpaaGreatDoorTC
import Derived.Test.YtcbhpkjbiehcpaaGreatDoorChecked
import Derived.KernelRfl
open True renaming intro->ba
open Go renaming FuncId->bk,World->cC,Value->a_,TypeId->aX
open List renaming range->bE,range_succ->jH,map_append->jr,length->F,mem_cons_self->gj,pairwise_cons->EC,mem_cons_of_mem->gi,mem_cons->gX,mem_singleton->js,length_pos_iff->BJ,length_map->bI,getElem?_eq_getElem->aW,mem_of_getElem?->dk,length_take->dF,take_length->gu,getElem?_eq_some_iff->aU,length_set->ox,getElem?_set->j',ext_getElem?->ou,getElem?_map->ek,foldl_append->nJ,getD_eq_getElem?_getD->fc,mem_map->iW,length_nil->gh,nil_append->fE,drop_eq_getElem_cons->we,getElem?_append_right->wg,length_append->db,length_cons->eR,append_assoc->jq,getElem?_append_left->qL,getElem?_range->xQ,drop_of_length_le->ot,append_nil->g',all_eq_true->e8,getElem?_drop->qM,getElem?_of_mem->sK,replicate->bT,take_zero->eE,foldl_nil->Ey,map_replicate->wj,map_eq_nil_iff->BK,map_cons->dK,filter_cons->BH,take_succ_cons->fe,mem_range->gb,all_append->rE,drop_length->adz,drop_zero->iI,getElem?_eq_none->pR,flatMap_cons->MA,cons_append->fw,take_of_length_le->gm,drop_drop->rF,drop_left->Mx,not_mem_nil->rI,take_left'->uS,length_drop->fL,getElem?_take->qb,mem_of_mem_drop->adQ
open Bool renaming true->aa,false->ar,and_eq_true->bR,true_and->pP,and_true->Em,false_eq_true->jE,true_eq_false->v8
open Option renaming some->J,map_some->gq,none->ao,bind_some->qO
open Nat renaming le_refl->aT,mul_le_mul->lu,zero_le->ck,reduceEqDiff->aR,mul_one->nO,zero_add->oy,lt_or_ge->dR,sub_self->tU,not_lt_zero->qc,lt_irrefl->EH,le_of_ble_eq_true->kj,add_mul->jt,min_def->MN
open Go.Proofs.Tryz renaming prog->af,checked->EL
open And renaming intro->au
open Int renaming toNat_natCast->eD,le_refl->Et
open Decidable renaming not_not->Mm
open Array renaming length_toList->nf,getElem?_push->acZ
open Nat renaming beq->iJ,eq_of_beq_eq_true->nM
open Bool renaming false_or->Mb
set_option maxHeartbeats 64000000
set_option maxRecDepth 100000
set_option linter.unusedSimpArgs false
set_option linter.unusedVariables false
set_option linter.constructorNameAsVariable false
set_option linter.defProp false
section
namespace Go.Proofs.YtcbhpkjbiehcpaaGreatDoor
open Go.AE Go.NT Go.Proofs.Tryz
variable{U t:List (List Int)}{b c i j n n0 s sz:Nat}{H h:am}{e k:Tok}{C X Y x:I}{D T cs f r r2:List I}{es:List (List I)}{N own ae ak z:List Int}{pv:List Nat}{l:List Pr}{v:Vl}{g:bk}{d:Dc}{p:Pr}{ep y:Int}
def GN:Tryz.f175.results.toList=[.tmp 4]:=by kernel_rfl
def zC(a b:Tok):Prop:=∀e,a=.free e->b≠ .free e
def zC.symm{a b}(h:zC a b):zC b a:=λi f e=>h i e f
def o_(ts:List Tok)(U:List (List Int)):List I:=List.zipWith (λt r=>I.ac t 1 (ay r)) ts U
def qj(U:List (List Int))(n:Nat):List (List Int):=(bE n).map λe=>U.map λr=>ah r e
def ahT(U)(k):qj U (k+1)=qj U k++[U.map λr=>ah r k]:=by unfold qj;rw[jH,jr];rfl
def Vw(U)(k):F (qj U k)=k:=by unfold qj;simp
structure uX(h H:am)(x:I)(ts:List Tok)(U:List (List Int))(t:Tok):Prop where
 can:∀u∈t::ts,cY h.tn H u
 E_:(t::ts).Pairwise zC
 len:ts.length=U.length
 ok:cS H=aa
 ext:Ext h H
 tab:(U=[]/\x=.ac .aK 1 [])∨(U≠[]/\∃b,x=.arr b 0 U.length U.length/\H.V[b]?=J (o_ ts U)/\h.V.length<=b)
def ahn{ts}(h:F ts=F U):F (o_ ts U)=F U:=by unfold o_;rw[List.length_zipWith,h,Nat.min_self]
def aho{ts}(h:F ts=F U)(t)(r):o_ (ts++[t]) (U++[r])=o_ ts U++[.ac t 1 (ay r)]:=by unfold o_;rw[List.zipWith_append h];rfl
def U8(e:cY n0 h k)(i:cS h=aa)(f:n0<=h.tn):cY n0 (h.app k) (.free h.tn):=(Grown.one e i f).can
def ae4(e:cY n0 h k):zC (.free h.tn) k:=by
 rintro j i rfl;injection i with i;rcases e with q2|q2|⟨n,q2,-,f⟩
 .cases q2
 .cases q2
 .injection q2 with q2;have:=rM f;omega
def uX.app{ts}{t}(w:uX h H x ts U t):uX h (H.app t) x ts U (.free H.tn):=by
 have hc:=w.can t gj;have f:=EC.1 w.E_;refine⟨λi e=>?_,EC.2 ⟨λi e=>ae4 (w.can i (gi _ e)),f.2⟩,w.len,zU w.ok hc,(Grown.one hc w.ok w.ext.tn).ext w.ext (aT _),?_⟩
 .rcases gX.1 e with rfl|e
  .exact U8 hc w.ok w.ext.tn
  .exact Ca (w.can i (gi _ e)) (f.1 i e)
 .rw[dC];exact w.tab
def uX.close{ts}{t}(w:uX h H x ts U t)(r)(hl:F U<1000000):
 ∃x2 f,nD af H #[22,22] x (.ac .aK 1 [[.ac t 1 (ay r)]])=J (x2,f)/\uX h f x2 (ts++[t]) (U++[r]) .aK:=by
 obtain⟨z0,K,i,q3,q4⟩:=JZ;have jO:=lu (ag:F U+1<=1000000) q3;have B:=EC.1 w.E_;have o:(Tok.aK::(ts++[t])).Pairwise zC:=by refine EC.2 ⟨λj _ z1 v=>(by cases v),List.pairwise_append.2 ⟨B.2,by simp,λa ha b u=>?_⟩⟩;rw[js]at u;subst u;exact(B.1 a ha).symm
 have m:∀f:am,(∀j,cY h.tn H j->cY h.tn f j)->∀j∈Tok.aK::(ts++[t]),cY h.tn f j:=by
  intro f v j e;rcases gX.1 e with rfl|e
  .exact .inr (.inl O)
  .rcases List.mem_append.1 e with e|e
   .exact v j (w.can j (gi _ e))
   .rw[js]at e;exact v j (w.can j (by rw[e];exact gj))
 have q:F (ts++[t])=F (U++[r]):=by simp[w.len]
 rcases w.tab with⟨rfl,rfl⟩|⟨E,b,rfl,u,D⟩
 .have G:ts=[]:=List.eq_nil_of_length_eq_zero w.len;subst G;have:=Bt (h:=H) (k:=.aK) (sz:=1) (es:=[]) (new:=[[.ac t 1 (ay r)]]) (x:=.ac .aK 1 [[.ac t 1 (ay r)]]) underlying22 underlying22 K ag (by rw[i];exact q4) cB (by simp;omega) cB (.inl i.symm) (.inr O) (by rw[i];rfl);exact⟨_,_,this,m _ λj e=>e,o,q,w.ok,w.ext.trans (.push _ _),.inr ⟨cB,H.V.length,O,aQ _ _,w.ext.len⟩⟩
 .have A:0<F U:=BJ.2 E;have fj:=ahn w.len;have:=Hk (h:=H) (b:=b) (len:=U.length) (cs:=o_ ts U) (new:=[[.ac t 1 (ay r)]]) (x:=.ac .aK 1 [[.ac t 1 (ay r)]]) underlying22 underlying22 K ag (by rw[i];exact q4) cB (by simp;omega) (by simp;omega) u A (by rw[i,fj];omega) (by rw[i];rfl);refine⟨_,_,this,m _ λj e=>e,o,q,?_,(w.ext.gg D _).trans (.push _ _),.inr ⟨cB,H.V.length,by simp,?_,w.ext.len⟩⟩
  .exact w.ok
  .rw[aho w.len];exact np (by rw[jA])
def axb(h:am)(eH:cS h=aa)(x:I)(U:List (List Int))(n:Nat)(hx:RL x U)(hw:∀r∈U,F r=n)(w:F U<=1000)(hn:n<=1000):
 ∃r h',W5.call 175 [x,im (n:Nat)] h=J (r,h')/\∃X ts,r=.ret X/\uX h h' X ts (qj U n) .aK:=by
 obtain⟨B,E,D,rfl,u,gH,jl⟩:=hx;have kx:=aj.mk (au u (au jl hw));clear u jl hw;have u23:=underlying23;have u22:=underlying22;have z23:=g_;have z3:=eQ;have JS:F (D.map λa=>[a])=F U:=by rw[bI];exact gH
 have b0:fF af 22 0 []=J (.ac .aK 1 []):=by kernel_rfl
 have b1:fF af 23 0 []=J (.ac .aK 1 []):=by kernel_rfl
 have T0:uX h h (.ac .aK 1 []) [] (qj U 0) .aK:=⟨λz2 hu=>.inr (.inl (by simpa using hu)),by simp,O,eH,.refl _,.inl ⟨O,O⟩⟩;unfold im;refine cq O func175 O ?_;refine br @GN ?_;refine cK (λz0 m H=>∃(e:Nat) (X:I) (ts:List Tok),e<=n/\z0=n-e/\aj (uX h H X ts (qj U e) .aK)/\m.get 0=.ac B E (D.map λa=>[a])/\m.get 1=(n:Nat)/\m.get 5=X/\m.get 6=(e:Nat)/\m.defers=[]) ?_ n _ _ ?_;rotate_left 1
 .refine⟨0,_,[],ck _,O,⟨T0⟩,?_,?_,?_,?_,?_⟩<;>first|(simp only[gW,reduceIte,aR,aM,b0];done)|(simp only[gW,reduceIte,aR,aM,b0]<;>rfl)
 clear T0;rintro z0 m H ⟨e,X,ts,hk,rfl,i,g0,g1,g5,g6,hd⟩;by_cases hkn:e<n;rotate_left 1
 .have:e=n:=by omega
  subst this;refine br @GN ?_;exact⟨_,_,O,X,ts,O,i.M⟩
 have hkI:(e:Int)<(n:Int):=by omega
 refine br @GN ?_;refine bJ.gen λk f G fA eg=>?_;have f0:k.get 0=.ac B E (D.map λa=>[a]):=by rw[f];simp only[gW,reduceIte,aR,aM];exact g0
 have f1:k.get 1=(n:Nat):=by rw[f];simp only[gW,reduceIte,aR,aM];exact g1
 have f5:k.get 5=X:=by rw[f];simp only[gW,reduceIte,aR,aM];exact g5
 have f6:k.get 6=(e:Nat):=by rw[f];simp only[gW,reduceIte,aR,aM];exact g6
 have f7:k.get 7=.ac .aK 1 (ay []):=by rw[f];exact gR
 have f8:k.get 8=(0:Nat):=by rw[f];exact gR
 have fd:k.defers=[]:=by rw[G];simp only[gW,reduceIte,aR,aM];exact hd
 clear f G fA eg g0 g1 g5 g6 hd b0 b1;refine cK (λz0 m H=>∃(j:Nat) (t:Tok),j<=F U/\z0=F U-j/\aj (uX h H X ts (qj U e) t)/\m.get 0=.ac B E (D.map λa=>[a])/\m.get 1=(n:Nat)/\m.get 5=X/\m.get 6=(e:Nat)/\m.get 7=.ac t 1 (ay ((U.take j).map λr=>ah r e))/\m.get 8=(j:Nat)/\m.defers=[]) ?_ (F U) _ _ ?_;rotate_left 1
 .exact⟨0,.aK,ck _,O,i,f0,f1,f5,f6,f7,f8,fd⟩
 clear f0 f1 f5 f6 f7 f8 fd i;rintro z0 e2 H2 ⟨j,t,hi,rfl,i,g0,g1,g5,g6,g7,g8,hd⟩;by_cases v:j<F U
 .obtain⟨a,ha⟩:∃a,D[j]?=J a:=⟨_,aW ag⟩;obtain⟨r,w⟩:∃r,U[j]?=J r:=⟨_,aW v⟩;have u:E=1:=kx.M.1 (by intro z1;rw[z1]at v;simp at v);subst u;obtain⟨ka,sa,rfl,K⟩:=kx.M.2.1 j a r ha w;have o:=kx.M.2.2 r (dk w);have PG:sa=1:=K (by intro z1;rw[z1]at o;simp at o;omega);subst PG;have l1:=jP (H:=H2) (s:=1) ha;have l2:=ev (H:=H2) (l:=r) (i:=e) (s:=1) ag;have C0:F (ay r)=n:=by rw[c'];exact o
  have bl:=oA (ah r e);have ap:=sM (x:=ah r e) (es:=(U.take j).map λr=>ah r e) (sz:=1) (show(F ((U.take j).map λr=>ah r e))<1099511627776 by rw[bI,dF];omega) (.inl O) (i.M.can t gj);have q:((U.take j).map λr=>ah r e)++[ah r e]=(U.take (j+1)).map λr=>ah r e:=by rw[fS w,jr];rfl
  rw[q]at ap;have A:=aj.mk i.M.app;have Jn:(j:Int)<(F U:Int):=by omega
  clear ha w K o q i;refine bB @GN @bh ?_;exact⟨F U-(j+1),by omega,j+1,_,by omega,O,A,by simp⟩
 .have gw:j=F U:=by omega
  subst gw;rw[gu]at g7;obtain⟨X2,H3,c1,c2⟩:=i.M.close (U.map λr=>ah r e) (by rw[Vw];omega);rw[<-ahT]at c2;have A:=aj.mk c2;have bl:=Io (.ac t 1 (ay (U.map λr=>ah r e))) O;clear c2 i;refine br @GN ?_;exact⟨n-(e+1),by omega,e+1,X2,_,by omega,O,A,by simp⟩
def xl:Tryz.f176.results.toList=[.tmp 4,.tmp 5]:=by kernel_rfl
def rL(H:am)(b:Nat)(t:List (List Int)):Prop:=∃e:List I,H.V[b]?=J e/\F e=F t/\∀(f:Nat) a r,e[f]?=J a->t[f]?=J r->IL a r
def rL.mono{H'}(T:rL H b t)(m:∀cs,H.V[b]?=J cs->H'.V[b]?=J cs):rL H' b t:=by obtain⟨cs,h1,e⟩:=T;exact⟨cs,m cs h1,e⟩
def Df{len aY}{k}(e:n<len):dM af 22 (.arr b 0 len aY) (.v (.int k (n:Nat)))=J (.ptr (.box b) n):=by rw[A8 underlying22 g_ ag ag,eD,nO,oy]
def ack{k n:Nat}{t}(f:H.V[b]?=J cs)(e:k<F cs):bU af H 23 (.ptr (.box b) k) (.ac t s es)=J (H.put b (cs.set k (.ac t s es))):=by rw[e7 (xs:=[I.ac t s es]) O g_ f O e];congr 2;unfold dW;rw[List.set_eq_take_append_cons_drop,aC e];simp
def rL.load{r}(T:rL H b t)(f:t[i]?=J r):∃k s,aF af Gt H 23 (.ptr (.box b) i)=J (.ac k s (ay r))/\(r≠[]->s=1):=by obtain⟨j,h1,m,o⟩:=T;obtain⟨a,e⟩:∃a,j[i]?=J a:=⟨_,aW (by rw[m];exact(aU.1 f).1)⟩;obtain⟨k,s,rfl,q⟩:=o i a r e f;exact⟨k,s,sd h1 e,q⟩
def rL.store{r}(T:rL H b t)(hi:i<F t)(o:r≠[]->s=1):∃H',bU af H 23 (.ptr (.box b) i) (.ac k s (ay r))=J H'/\rL H' b (t.set i r)/\∃cs,H'=H.put b cs:=by
 obtain⟨cs,h1,j,m⟩:=T;refine⟨_,ack (n:=0) h1 ag,⟨_,dy (aU.1 h1).1,by rw[ox,ox,j],λu a v e f=>?_⟩,_,O⟩;rw[j']at e f;by_cases q:i=u
 .subst q;rw[aC O,aC ag]at e;rw[aC O,aC hi]at f;injection e with e;injection f with f;subst e;subst f;exact⟨k,s,O,o⟩
 .rw[aL q]at e f;exact m u a v e f
def tD(c:Nat)(own:List Int)(j:Nat)(t:List (List Int)):List (List Int):=t.mapIdx λe a=>if e<j then ii (ah a c) a own else a
def Qo(c)(own)(j)(t):F (tD c own j t)=F t:=by unfold tD;simp
def Dl(c)(own)(j)(t)(i):(tD c own j t)[i]?=t[i]?.map λa=>if i<j then ii (ah a c) a own else a:=by unfold tD;rw[List.getElem?_mapIdx]
def anL(c)(own)(t):tD c own 0 t=t:=by apply ou;intro e;rw[Dl];cases t[e]?<;>simp
def anI(c)(own)(t):tD c own (F t) t=t.map λa=>ii (ah a c) a own:=by
 apply ou;intro e;rw[Dl,ek];cases h:t[e]? with|none=>rfl|some a=>rw[gq,gq,aC (aU.1 h).1]
def anJ:(tD c own j t)[j]?=t[j]?:=by rw[Dl];cases t[j]?<;>simp
def anK{a}(e:t[j]?=J a):(tD c own j t).set j (ii (ah a c) a own)=tD c own (j+1) t:=by
 apply ou;intro k;have f:=(aU.1 e).1;rw[j',Qo];by_cases i:j=k
 .subst i;rw[aC O,aC f,Dl,e,gq,aC (Nat.lt_succ_self _)]
 .rw[aL i,Dl,Dl];congr 1;funext a;by_cases h:k<j
  .rw[aC h,aC ag]
  .rw[aL h,aL ag]
def jS(t:List (List Int))(c:Nat):List (List Int) × List Nat:=(bE c).foldl na (t,[])
def abh(t)(c):jS t (c+1)=na (jS t c) c:=by unfold jS;rw[jH,nJ];rfl
def Rs{w}(j:∀a∈t,F a=w)(k:∀a∈t,∀x∈a,okF x):∀c,c<=w->uU w c (jS t c)/\F (jS t c).1=F t/\F (jS t c).2<=F t:=by
 intro c
 induction c with
 |zero=>intro _;exact⟨⟨j,k,λ_ _ _ _ v o=>by omega⟩,O,ck _⟩|succ c m=>
  intro hc;obtain⟨h1,e,f⟩:=m ag;rw[abh];refine⟨Lu h1 ag,?_,?_⟩
  .unfold na;split
   .exact e
   .simp[e]
  .unfold na;split
   .exact f
   .rename_i A i;obtain⟨q,u,-⟩:=Al i;simp;omega
def av1{k}{b o}(j:nU t (F pv) c=J k)(i:t[k]?=J b)(m:t[F pv]?=J o):
 na (t,pv) c=((tD c (scaleB b (eK (ah b c))) (F t) (t.set k o)).set (F pv) (scaleB b (eK (ah b c))),pv++[c]):=by
 have e:t.getD k []=b:=by rw[fc,i];rfl
 have f:t.getD (F pv) []=o:=by rw[fc,m];rfl
 unfold na;simp only[j,e,f];rw[show F t=F (t.set k o) by rw[ox],anI]
def acb(e:nU t (F pv) c=ao):na (t,pv) c=(t,pv):=by unfold na;simp only[e]
structure sL(h H:am)(b:Nat)(t:List (List Int))(k:Tok):Prop where
 tb:rL H b t
 can:cY h.tn H k
 ok:cS H=aa
 ext:Ext h H
 low:h.V.length<=b
def sL.put{e}(R:sL h H b t k)(cs)(T:rL (H.put b cs) b e):sL h (H.put b cs) b e k:=
 ⟨T,R.can,R.ok,R.ext.gg R.low cs,R.low⟩
def sL.app(R:sL h H b t k):sL h (H.app k) b t (.free H.tn):=
 ⟨R.tb.mono λe f=>by rw[dC];exact f,U8 R.can R.ok R.ext.tn,zU R.ok R.can,(Grown.one R.can R.ok R.ext.tn).ext R.ext (aT _),R.low⟩
def ajm(x):0<=eK x/\eK x<=9223372036854775807:=w_ (NY _)
def anO(x y)(a own)(n)(hx:IL x a)(E:IL y own)(j:F own=F a)(hw:F a<=1000000):∀h,W5.call 233 [x,y,im n] h=J (.ret (.ac .held 1 (ay (ii n a own))),h):=by obtain⟨h1,e⟩:=hx.hold;obtain⟨f,i⟩:=E.hold;exact gT (L:=L5) (A:=[av x,av y,im n]) O O (by simp[aJ,e,i,aI,im]) (anN (av x) (av y) a own n h1 f j hw _) O (by simp[aI,jw,qI])
def aw8(x)(a)(n)(hx:IL x a)(hw:F a<=1000000)(f:0<=n/\n<=9223372036854775807):∀h,W5.call 232 [x,im n] h=J (.ret (.ac .held 1 (ay (scaleB a n))),h):=by obtain⟨h1,e⟩:=hx.hold;exact gT (L:=L5) (A:=[av x,im n]) O O (by simp[aJ,e,aI,im]) (aw7 (av x) a n h1 hw f _) O (by simp[aI,jw,qI])
def arO(x y)(U)(e)(hx:RL x U)(E:IL y e)(q:F U<=64)(hw:∀r∈U,F r=F e)(j:F e<=64)(f:∀r∈U,∀x∈r,okF x)(i:∀x∈e,okF x):
 ∀h,W5.call 174 [x,y] h=J (.ret (.v (.int .i64 0)),h):=by
 obtain⟨h1,k⟩:=hx.iE;obtain⟨m,o⟩:=E.hold;exact gT (L:=L5) (A:=[av x,av y]) O O (by simp[aJ,k,o]) (arN (av x) (av y) U e h1 m q hw j f i _) O rfl
def arH(h:am)(eH:cS h=aa)(b:Nat)(U:List (List Int))(w many:Nat)(hT:rL h b U)(h0:0<F U)(hl:∀a∈U,F a=w)(ho:∀a∈U,∀x∈a,okF x)(hm:many<=w)(hr:F U<=1000)(hw:w<=1000):
 ∃r h',W5.call 176 [.arr b 0 (F U) (F U),im (many:Nat)] h=J (r,h')/\∃b2 Z,r=.ret (.tuple [.arr b2 0 (F U) (F U),Z])/\rL h' b2 (jS U many).1/\F (jS U many).1=F U/\IL Z (cH (jS U many).2)/\Ext h h':=by
 have u23:=underlying23;have u22:=underlying22;have z23:=g_;have z3:=eQ;have bn2:fF af 22 0 []=J (.ac .aK 1 []):=by kernel_rfl
 have bn3:fF af 23 0 []=J (.ac .aK 1 []):=by kernel_rfl
 obtain⟨H1,ap,R0⟩:∃H1,nD af h #[22,22] (.ac .aK 1 []) (.arr b 0 (F U) (F U))=J (.arr (F h.V) 0 (F U) (F U),H1)/\sL h H1 (F h.V) U .aK:=by
  obtain⟨cs,t1,t2,t3⟩:=hT;obtain⟨z0,q1,q2,q3,q4⟩:=JZ;have jO:=lu (ag:F U<=1000000) q3;have hn:=(d_.box (sz:=1) (h:=h) (b:=b) (n:=U.length) (U:=cs.map λc=>[c]) (λr hr=>by obtain⟨c,-,rfl⟩:=iW.1 hr;rfl) (by rw[bI,t2]) (by rw[G7];exact t1)).news;have rf:F (cs.map λc=>[c])=F U:=by rw[bI,t2]
  have fH:(cs.map λc=>[c])≠[]:=by intro q;rw[q]at rf;simp at rf;omega
  have:=Bt (h:=h) (k:=.aK) (sz:=1) (es:=[]) (new:=cs.map λc=>[c]) (x:=.arr b 0 (F U) (F U)) underlying22 underlying22 q1 ag (by rw[q2];exact q4) fH (by rw[rf];simp;omega) (by rw[rf];simp;omega) (.inl q2.symm) (.inr O) (by rw[q2];exact hn);rw[rf,gh,oy,fE,G7]at this;exact⟨_,this,⟨⟨cs,aQ _ _,t2,t3⟩,.inr (.inl O),eH,.push _ _,aT _⟩⟩
 have kR0:=aj.mk R0;have kl:=aj.mk (au hl ho);clear hT R0 hl ho;unfold im;refine cq O func176 O ?_;refine br @xl ?_;refine bJ.gen λi e u fA eg=>?_;have f1:i.get 1=(many:Nat):=by rw[e];exact gS
 have f6:i.get 6=.arr (F h.V) 0 (F U) (F U):=by rw[e];exact gS
 have f7:i.get 7=.ac .aK 1 (ay (cH [])):=by rw[e];exact gR
 have f8:i.get 8=(0:Nat):=by rw[e];exact gR
 have fd:i.defers=[]:=by rw[u];exact gS
 clear e u fA eg ap bn2 bn3;refine cK (λz4 B H=>∃(c:Nat) (v:Tok),c<=many/\z4=many-c/\aj (sL h H (F h.V) (jS U c).1 v)/\B.get 1=(many:Nat)/\B.get 6=.arr (F h.V) 0 (F U) (F U)/\B.get 7=.ac v 1 (ay (cH (jS U c).2))/\B.get 8=(c:Nat)/\B.defers=[]) ?_ many _ _ ?_;rotate_left 1
 .exact⟨0,.aK,ck _,O,kR0,f1,f6,f7,f8,fd⟩
 clear kR0 f1 f6 f7 f8 fd;rintro z4 B H ⟨c,v,hc,rfl,k,g1,g6,g7,g8,hd⟩;by_cases OL:c<many;rotate_left 1
 .have:c=many:=by omega
  subst this;refine br @xl ?_;exact⟨_,_,O,_,_,O,k.M.tb,(Rs kl.M.1 kl.M.2 c hm).2.1,⟨_,_,O,λ_=>rfl⟩,k.M.ext⟩
 obtain⟨RO,tl,pl⟩:=Rs kl.M.1 kl.M.2 c ag;have ksucc:aj (jS U (c+1)=na ((jS U c).1,(jS U c).2) c):=⟨abh U c⟩;have kRO:=aj.mk RO;clear RO;generalize jS U c=st at *
 obtain⟨t,f⟩:=st;dsimp only at *
 have JH:F (ay (cH f))=F f:=by rw[c'];unfold cH;rw[bI]
 have hcI:(c:Int)<(many:Int):=by omega
 refine br @xl ?_;refine bJ.gen λi e u fA eg=>?_;have f1:i.get 1=(many:Nat):=by rw[e];simp only[gW,reduceIte,aR,aM];exact g1
 have f6:i.get 6=.arr (F h.V) 0 (F U) (F U):=by rw[e];simp only[gW,reduceIte,aR,aM];exact g6
 have f7:i.get 7=.ac v 1 (ay (cH f)):=by rw[e];simp only[gW,reduceIte,aR,aM];exact g7
 have f8:i.get 8=(c:Nat):=by rw[e];simp only[gW,reduceIte,aR,aM];exact g8
 have f9:i.get 9=(F f:Nat):=by rw[e];exact gS
 have f10:i.get 10=(F f:Nat):=by rw[e];exact gS
 have fd:i.defers=[]:=by rw[u];simp only[gW,reduceIte,aR,aM];exact hd
 clear e u fA eg g1 g6 g7 g8 hd;refine cK (λz4 B H2=>∃A:Nat,A<=F U/\F f<=A/\z4=F U-A/\aj (∀z2,F f<=z2->z2<A->ah (t.getD z2 []) c=0)/\B.get 1=(many:Nat)/\B.get 6=.arr (F h.V) 0 (F U) (F U)/\B.get 7=.ac v 1 (ay (cH f))/\B.get 8=(c:Nat)/\B.get 9=(F f:Nat)/\B.get 10=(A:Nat)/\B.defers=[]/\H2=H) ?_ (F U-F f) _ _ ?_;rotate_left 1
 .exact⟨F f,pl,aT _,O,⟨λz2 q1 q2=>absurd q2 ag⟩,f1,f6,f7,f8,f9,f10,fd,O⟩
 clear f1 f6 f7 f8 f9 f10 fd;rintro z4 e2 H2 ⟨A,hj,Pv,rfl,kz,g1,g6,g7,g8,g9,g10,hd,rfl⟩;by_cases XU:A<F U;rotate_left 1
 .have nY:A=F U:=by omega
  subst nY;have K:nU t (F f) c=ao:=by rw[IQ (j:=U.length) Pv ag kz.M (λq=>absurd q ag),aC tl.symm]
  have kR2:aj (sL h H2 (F h.V) (jS U (c+1)).1 v):=⟨by rw[ksucc.M,acb K];exact k.M⟩;have k7:(jS U (c+1)).2=f:=by rw[ksucc.M,acb K]
  have k7:=aj.mk k7;clear K;refine br @xl ?_;exact⟨many-(c+1),by omega,c+1,v,by omega,O,kR2,by first|trivial|assumption,by first|trivial|assumption,by rw[k7.M],by simp⟩
 obtain⟨j,G⟩:∃r,t[A]?=J r:=⟨_,aW ag⟩;have XM:t.getD A []=j:=by rw[fc,G];rfl
 have D:=kRO.M.len j (dk G);have Yp:=kRO.M.ok j (dk G);obtain⟨k1,s1,ld1,E⟩:=k.M.tb.load G;have E:s1=1:=E (by intro q;rw[q]at D;simp at D;omega);subst E;have ix1:=Df (b:=h.V.length) (len:=U.length) (aY:=U.length) (k:=.i64) XU;have XN:F (ay j)=w:=by rw[c'];exact D
 have l1:=ev (H:=H2) (l:=j) (i:=c) (s:=1) ag;have FL:(A:Int)<(F U:Int):=by omega
 have hcw:(c:Int)<(w:Int):=by omega
 have kb:=aj.mk (au G (au XM (au D Yp)));clear G XM D Yp;by_cases hz:ah j c=0
 .have i_:decide (ah j c=0)=aa:=by simp[hz]
  have kz2:aj (∀z2,F f<=z2->z2<A+1->ah (t.getD z2 []) c=0):=⟨λz2 q1 q2=>by
   rcases dR z2 A with q|q
   .exact kz.M z2 q1 q
   .have:z2=A:=(by omega);subst this;rw[kb.M.2.1];exact hz⟩
  generalize ah j c=z at *
  clear hz;refine bB @xl @bh ?_;exact⟨F U-(A+1),by omega,A+1,by omega,by omega,O,kz2,by simp⟩
 have i_:decide (ah j c=0)=ar:=by simp[hz]
 have Yv:nU t (F f) c=J A:=by rw[IQ (j:=A) Pv ag kz.M (λ_=>by rw[kb.M.2.1];exact hz),aL ag]
 obtain⟨ro,oC⟩:∃r,t[F f]?=J r:=⟨_,aW ag⟩;have Ys:=kRO.M.len ro (dk oC);obtain⟨k2,s2,ld2,oD⟩:=k.M.tb.load oC;have ix2:=Df (b:=h.V.length) (len:=U.length) (aY:=U.length) (k:=.i64) (ag:F f<F U);obtain⟨H3,st1,T3,cs3,rfl⟩:=k.M.tb.store (i:=A) (k:=k2) ag oD;have kstep:=aj.mk (av1 Yv kb.M.1 oC);have R3:=k.M.put cs3 T3;have Gp:=pT kb.M.2.2.2 c;have yw:fmod (ah j c)=ah j c:=Ap Gp;have inv:=λh=>asg (ah j c) h;rw[yw,aL hz,aL hz]at inv;have tms:=aw8 (.ac k1 1 (ay j)) j (eK (ah j c)) ⟨_,_,O,λ_=>rfl⟩ (by rw[kb.M.2.2.1];omega) (ajm _);have AN:F (scaleB j (eK (ah j c)))=w:=by rw[abT];exact kb.M.2.2.1
 have l3:=ev (H:=H2.put (F h.V) cs3) (l:=j) (i:=c) (s:=1) (by rw[kb.M.2.2.1];omega);have vx:∀a∈t.set A ro,F a=w:=by
  intro a ha;rcases List.mem_or_eq_of_mem_set ha with q|q
  .exact kRO.M.len a q
  .rw[q];exact Ys
 have kall:=aj.mk vx;have azO:F (t.set A ro)=F U:=by rw[ox];exact tl
 have JF:(F f:Int)<(F U:Int):=by omega
 rw[tl]at kstep;generalize eK (ah j c)=fz at *
 generalize scaleB j fz=o at *
 generalize t.set A ro=t1 at *
 clear Ys oC oD Yv Gp yw vx kz T3 kRO k;have kR3:=aj.mk R3;clear R3;generalize ah j c=z at *
 generalize H2.put (F h.V) cs3=H3 at *
 clear hz;unfold im at inv tms;refine bB @xl @bh ?_;refine bJ.gen λi e u fA eg=>?_;have f1:i.get 1=(many:Nat):=by rw[e];simp only[gW,reduceIte,aR,aM];exact g1
 have f6:i.get 6=.arr (F h.V) 0 (F U) (F U):=by rw[e];simp only[gW,reduceIte,aR,aM];exact g6
 have f7:i.get 7=.ac v 1 (ay (cH f)):=by rw[e];simp only[gW,reduceIte,aR,aM];exact g7
 have f8:i.get 8=(c:Nat):=by rw[e];simp only[gW,reduceIte,aR,aM];exact g8
 have f9:i.get 9=(F f:Nat):=by rw[e];simp only[gW,reduceIte,aR,aM];exact g9
 have f11:i.get 11=.ac .held 1 (ay o):=by rw[e];exact gS
 have f14:i.get 14=(0:Nat):=by rw[e];exact gR
 have fd:i.defers=[]:=by rw[u];simp only[gW,reduceIte,aR,aM];exact hd
 clear e u fA eg g1 g6 g7 g8 g9 g10 hd ld1 ld2 st1 inv tms l1 l3 i_ ix1 XN;have kR4:aj (sL h H3 (F h.V) (tD c o 0 t1) v):=⟨by rw[anL];exact kR3.M⟩;refine cK (λz4 B H=>∃z0:Nat,z0<=F U/\z4=F U-z0/\aj (sL h H (F h.V) (tD c o z0 t1) v)/\B.get 1=(many:Nat)/\B.get 6=.arr (F h.V) 0 (F U) (F U)/\B.get 7=.ac v 1 (ay (cH f))/\B.get 8=(c:Nat)/\B.get 9=(F f:Nat)/\B.get 11=.ac .held 1 (ay o)/\B.get 14=(z0:Nat)/\B.defers=[]) ?_ (F U) _ _ ?_;rotate_left 1
 .exact⟨0,ck _,O,kR4,f1,f6,f7,f8,f9,f11,f14,fd⟩
 clear f1 f6 f7 f8 f9 f11 f14 fd kR4 kR3;rintro z4 e3 H4 ⟨z0,hi,rfl,k,g1,g6,g7,g8,g9,g11,g14,hd⟩;by_cases jW:z0<F U
 .obtain⟨a,ha⟩:∃r,t1[z0]?=J r:=⟨_,aW ag⟩;have vw:=kall.M a (dk ha);obtain⟨k1,s1,ld1,E⟩:=k.M.tb.load (anJ.trans ha);have E:s1=1:=E (by intro q;rw[q]at vw;simp at vw;omega);subst E;have ix1:=Df (b:=h.V.length) (len:=U.length) (aY:=U.length) (k:=.i64) jW;have XN:F (ay a)=w:=by rw[c'];exact vw
  have l1:=ev (H:=H4) (l:=a) (i:=c) (s:=1) ag;have ls:=anO (.ac k1 1 (ay a)) (.ac .held 1 (ay o)) a o (ah a c) ⟨_,_,O,λ_=>rfl⟩ ⟨_,_,O,λ_=>rfl⟩ ag ag;obtain⟨H5,st1,T5,m,rfl⟩:=k.M.tb.store (i:=z0) (r:=ii (ah a c) a o) (k:=.held) (s:=1) (by rw[Qo];omega) (λ_=>rfl);rw[anK ha]at T5;have kR5:=aj.mk (k.M.put m T5);have Jn:(z0:Int)<(F U:Int):=by omega
  clear T5 ha vw k;generalize ii (ah a c) a o=la at *
  generalize ah a c=z1 at *
  generalize H4.put (F h.V) m=H5 at *
  unfold im at ls;refine bB @xl @bh ?_
  repeat' (first|simp(maxSteps:=9^9) (disch:=first|exact dZ|fail) only[gW,reduceIte,aR,aM,xl,bh, *]|(refine dX ?_ ?_<;>(intro _;try omega))|refine eI kL cD ?_)
  exact⟨F U-(z0+1),by omega,z0+1,by omega,O,kR5,by simp⟩
 .have gw:z0=F U:=by omega
  subst gw;obtain⟨H5,st1,T5,m,rfl⟩:=k.M.tb.store (i:=f.length) (r:=o) (k:=.held) (s:=1) (by rw[Qo];omega) (λ_=>rfl);have R6:=(k.M.put m T5).app;have bl:=oA (c:Int);have ap:=sM (H:=H4.put (F h.V) m) (x:=(c:Int)) (es:=cH f) (sz:=1) (show(F (cH f))<1099511627776 by unfold cH;rw[bI];omega) (.inl O) ((k.M.put m T5).can);have ee:cH f++[(c:Int)]=cH (f++[c]):=by unfold cH;simp
  rw[ee]at ap;have kst:=aj.mk (ksucc.M.trans kstep.M);have kR6:aj (sL h ((H4.put (F h.V) m).app v) (F h.V) (jS U (c+1)).1 (.free (H4.put (F h.V) m).tn)):=⟨by rw[kst.M];exact R6⟩;have k7:aj ((jS U (c+1)).2=f++[c]):=⟨by rw[kst.M]⟩;clear T5 R6 ee kstep k;generalize H4.put (F h.V) m=H5 at *
  refine br @xl ?_;exact⟨many-(c+1),by omega,c+1,_,by omega,O,kR6,by first|trivial|assumption,by first|trivial|assumption,by rw[k7.M],by simp⟩
def vP:Tryz.f101.results.toList=[.tmp 4,.tmp 5,.tmp 6]:=by kernel_rfl
structure EN(h H:am)(b k:Nat)(t1 t2:List (List Int))(dc:List I)(ts:List Tok):Prop where
 iu:H.V[b]?=J (dc++o_ ts (t2.drop k))
 dl:dc.length=k
 row:∀(i:Nat) a r,dc[i]?=J a->t1[i]?=J r->IL a r
 tl:ts.length=t2.length - k
 can:∀u∈ts,cY h.tn H u
 E_:ts.Pairwise zC
 ok:cS H=aa
 ext:Ext h H
 low:h.V.length<=b
def EN.step{k}{t1 t2}{i}{ts}(f:EN h H b k t1 t2 i ts){r}{x}(G:t2[k]?=J r)(h1:t1[k]?=J (r++[x])):
 ∃t e,ts=t::e/\aF af Gt H 23 (.ptr (.box b) k)=J (.ac t 1 (ay r))/\cY h.tn H t/\∃v,bU af (H.app t) 23 (.ptr (.box b) k) (.ac (.free H.tn) 1 (ay (r++[x])))=J v/\EN h v b (k+1) t1 t2 (i++[.ac (.free H.tn) 1 (ay (r++[x]))]) e:=by
 have hk:=(aU.1 G).1;have q:t2.drop k=r::t2.drop (k+1):=by rw[we hk,(aU.1 G).2]
 obtain⟨t,e,rfl⟩:∃t e,ts=t::e:=by
  cases ts with|nil=>have:=f.tl;simp at this;omega|cons t e=>exact⟨t,e,O⟩
 have D:=EC.1 f.E_;have hc:=f.can t gj;have o:=f.iu;have w:o_ (t::e) (t2.drop k)=.ac t 1 (ay r)::o_ e (t2.drop (k+1)):=by rw[q];rfl
 rw[w]at o;have B:=(aU.1 o).1;have A:(H.app t).V[b]?=J (i++ .ac t 1 (ay r)::o_ e (t2.drop (k+1))):=by rw[dC];exact o
 refine⟨t,e,O,sd o (by rw[wg (by rw[f.dl];exact aT _),f.dl,tU];rfl),hc,_,ack (n:=0) A (by rw[db,eR,f.dl];omega),?_⟩;have u:(i++I.ac t 1 (ay r)::o_ e (t2.drop (k+1))).set k (.ac (.free H.tn) 1 (ay (r++[x])))=(i++[.ac (.free H.tn) 1 (ay (r++[x]))])++o_ e (t2.drop (k+1)):=by rw[List.set_append_right _ _ (by rw[f.dl];exact aT _),f.dl,tU,List.set_cons_zero,jq];rfl
 rw[u];refine⟨dy (by rw[dC];exact B),by rw[db,f.dl];rfl,λz0 a z2 j m=>?_,?_,λz1 K=>?_,D.2,?_,?_,f.low⟩
 .rcases dR z0 (F i) with E|po
  .rw[qL E]at j;exact f.row z0 a z2 j m
  .have:=(aU.1 j).1;rw[db]at this;have hi:z0=F i:=(by simp at this;omega);subst hi;rw[List.getElem?_concat_length]at j;rw[f.dl,h1]at m;injection j with j;injection m with m;subst j;subst m;exact⟨_,_,O,λ_=>rfl⟩
 .have:=f.tl;rw[eR]at this;omega
 .exact Ca (f.can z1 (gi _ K)) (D.1 z1 K)
 .exact zU f.ok hc
 .exact((Grown.one hc f.ok f.ext.tn).ext f.ext (aT _)).gg f.low _
def aq4(pv):F (ay (cH pv))=F pv:=by rw[c'];unfold cH;rw[bI]
def adc(U:List (List Int))(e:List Int)(h:am)(r:dP)(h':am):Prop:=
 Ext h h'/\((pi U e=ao/\r=.ret (.tuple [.ac .nil 0 [],(ar:I),im 0]))∨∃l b,pi U e=J l/\F l=F U/\r=.ret (.tuple [.arr b 0 (F U) (F U),(aa:I),im 0])/\h'.V[b]?=J (l.map im))
def ahZ(h:am)(eH:cS h=aa)(x y:I)(U:List (List Int))(e:List Int)(hx:RL x U)(E:IL y e)(hr:F U<=64)(hw:∀r∈U,F r=F e)(tj:F e<=64)(h0:0<F e)(Pp:∀r∈U,∀x∈r,okF x)(AR:∀x∈e,okF x):
 ∃r h',W5.call 101 [x,y] h=J (r,h')/\adc U e h r h':=by
 have c1:=arO x y U e hx E hr hw tj Pp AR;obtain⟨_,H1,c2,X,ts,rfl,T1⟩:=axb h eH x U (F e) hx hw ag ag;obtain⟨t1,t2⟩:=SO Pp AR;have tl:=SN U e;have cl:=Vw U (F e);have e1:pi U e=if ((jS (fU U e) (F U)).1.drop (F (jS (fU U e) U.length).2)).all (λa=>decide (ah a (F U)=0)) then J (oU (jS (fU U e) (F U)) (F U)) else ao:=rfl
 obtain⟨RO,rl,rp⟩:=Rs t1 t2 (F U) ag;obtain⟨-,z2⟩:=GC t1 t2 (ag:F U<=F U+1);have z2:BQ (F U) (jS (fU U e) (F U)):=z2;rw[tl]at rl rp;obtain⟨b,hX,J0⟩:∃b,X=.arr b 0 (F e) (F e)/\EN h H1 b 0 (fU U e) (qj U (F e)) [] ts:=by
  rcases T1.tab with⟨q,-⟩|⟨-,b,q1,q2,q3⟩
  .rw[q]at cl;simp at cl;omega
  .rw[cl]at q1;exact⟨b,q1,⟨q2,O,λB a r q=>by simp at q,by rw[T1.len];rfl,λz4 hu=>T1.can z4 (gi _ hu),(EC.1 T1.E_).2,T1.ok,T1.ext,q3⟩⟩
 subst hX;obtain⟨z0,s,xs,rfl,hs,gH,jl⟩:=hx;obtain⟨ky,sy,rfl,lV⟩:=E;have m:sy=1:=lV (by intro q;rw[q]at h0;simp at h0);subst m;have fG:F (xs.map λa=>[a])=F U:=by rw[bI];exact gH
 have yy:=c' e;have u23:=underlying23;have u22:=underlying22;have z23:=g_;have z3:=eQ;have kJ0:=aj.mk J0;have kk:=aj.mk (au t1 (au t2 (au RO (au z2 e1))));have kcl:=aj.mk cl;clear T1 J0 hs gH jl lV hw Pp AR t1 t2 RO z2 e1 cl;unfold im at c2;refine cq O func101 O ?_;refine br @vP ?_;refine bJ.gen λk j A fA eg=>?_;have f0:k.get 0=.ac z0 s (xs.map λa=>[a]):=by rw[j];exact gS
 have f1:k.get 1=.ac ky 1 (ay e):=by rw[j];exact gS
 have f8:k.get 8=.arr b 0 (F e) (F e):=by rw[j];exact gS
 have f9:k.get 9=(0:Nat):=by rw[j];exact gR
 have K:k.defers=[]:=by rw[A];exact gS
 clear j A fA eg c1 c2;refine cK (λz1 D H=>∃(i:Nat) (dc:List I) (ts:List Tok),i<=F e/\z1=F e-i/\aj (EN h H b i (fU U e) (qj U (F e)) dc ts)/\D.get 0=.ac z0 s (xs.map λa=>[a])/\D.get 1=.ac ky 1 (ay e)/\D.get 8=.arr b 0 (F e) (F e)/\D.get 9=(i:Nat)/\D.defers=[]) ?_ (F e) _ _ ?_;rotate_left 1
 .exact⟨0,[],ts,ck _,O,kJ0,f0,f1,f8,f9,K⟩
 clear f0 f1 f8 f9 K kJ0 ts;rintro z1 D H ⟨i,dc,ts,hj,rfl,kJ,g0,g1,g8,g9,hd⟩;by_cases G:i<F e
 .have Xx:(qj U (F e))[i]?=J (U.map λr=>ah r i):=by unfold qj;rw[ek,xQ G];rfl
  have YD:(fU U e)[i]?=J ((U.map λr=>ah r i)++[ah e i]):=by unfold fU;rw[ek,xQ G];rfl
  obtain⟨t,ts2,rfl,ld,hc,v,st,J3⟩:=kJ.M.step Xx YD;have ap:=sM (H:=H) (x:=ah e i) (es:=U.map λr=>ah r i) (sz:=1) (by rw[bI];omega) (.inl O) hc;have bl:=oA (ah e i);have l1:=ev (H:=H) (l:=e) (i:=i) (s:=1) G;have ix:=Df (b:=b) (len:=e.length) (aY:=e.length) (k:=.i64) G;have kJ3:=aj.mk J3;have FL:(i:Int)<(F e:Int):=by omega
  clear J3 Xx YD hc kJ;refine bB @vP @bh ?_
  repeat' (first|simp(maxSteps:=9^9) (disch:=first|exact dZ|fail) only[gW,reduceIte,aR,aM,vP,bh, *]|(refine dX ?_ ?_<;>(intro _;try omega))|refine eI kL cD ?_)
  exact⟨F e-(i+1),by omega,i+1,_,ts2,by omega,O,kJ3,by simp⟩
 have nY:i=F e:=by omega
 subst nY;have T2:rL H b (fU U e):=⟨_,kJ.M.iu,by
  have h1:o_ ts ((qj U (F e)).drop (F e))=[]:=by rw[ot (by rw[kcl.M];exact aT _)];unfold o_;simp
  rw[h1,g',kJ.M.dl,tl],λB a r o hr=>by
  have h1:o_ ts ((qj U (F e)).drop (F e))=[]:=by rw[ot (by rw[kcl.M];exact aT _)];unfold o_;simp
  rw[h1,g']at o;exact kJ.M.row B a r o hr⟩
 obtain⟨_,v,c3,b2,Z,rfl,T3,-,hZ,X3⟩:=arH H kJ.M.ok b (fU U e) (F U+1) (F U) T2 ag kk.M.1 kk.M.2.1 ag ag ag;rw[tl]at c3;obtain⟨kz,sz,rfl,ga⟩:=hZ;have JH:=aq4 (jS (fU U e) (F U)).2;have kV:aj (BQ (F U) (jS (fU U e) (F U))):=⟨kk.M.2.2.2.1⟩;have kRl:=aj.mk kk.M.2.2.1.len;have ke:=aj.mk kk.M.2.2.2.2;generalize gG:jS (fU U e) (F U)=st at *
 obtain⟨w,f⟩:=st;dsimp only at *
 have kT3:=aj.mk T3;have ksz:=aj.mk ga;have kX3:=aj.mk (kJ.M.ext.trans X3);clear T2 T3 ga X3 kk kJ gG kcl tl;unfold im at c3;refine br @vP ?_;refine bJ.gen λk j A fA eg=>?_;have f0:k.get 0=.ac z0 s (xs.map λa=>[a]):=by rw[j];simp only[gW,reduceIte,aR,aM];exact g0
 have f8:k.get 8=.arr b2 0 (F e) (F e):=by rw[j];exact gS
 have f10:k.get 10=.ac kz sz (ay (cH f)):=by rw[j];exact gS
 have f11:k.get 11=(F f:Nat):=by rw[j];exact gS
 have K:k.defers=[]:=by rw[A];simp only[gW,reduceIte,aR,aM];exact hd
 clear j A fA eg c3 g0 g1 g8 g9 hd;refine cK (λz1 D H=>∃i:Nat,i<=F e/\F f<=i/\z1=F e-i/\aj (∀B,F f<=B->B<i->∀a,w[B]?=J a->ah a (F U)=0)/\D.get 0=.ac z0 s (xs.map λa=>[a])/\D.get 8=.arr b2 0 (F e) (F e)/\D.get 10=.ac kz sz (ay (cH f))/\D.get 11=(i:Nat)/\D.defers=[]/\H=v) ?_ (F e-F f) _ _ ?_;rotate_left 1
 .exact⟨F f,rp,aT _,O,⟨λB q1 q2=>absurd q2 ag⟩,f0,f8,f10,f11,K,O⟩
 clear f0 f8 f10 f11 K;rintro z1 D v ⟨i,hj,Pv,rfl,kz0,g0,g8,g10,g11,hd,rfl⟩;by_cases G:i<F e
 .obtain⟨a,o⟩:∃a,w[i]?=J a:=⟨_,aW ag⟩;have u:=kRl.M a (dk o);obtain⟨k1,s1,ld1,m⟩:=kT3.M.load o;have m:s1=1:=m (by intro q;rw[q]at u;simp at u);subst m;have XO:F (ay a)=F U+1:=by rw[c'];exact u
  have l1:=ev (H:=v) (l:=a) (i:=U.length) (s:=1) ag;have ix:=Df (b:=b2) (len:=e.length) (aY:=e.length) (k:=.i64) G;have FL:(i:Int)<(F e:Int):=by omega
  have X7:(F U:Int)<((F U+1:Nat):Int):=by omega
  by_cases hz:ah a (F U)=0
  .have kz2:aj (∀B,F f<=B->B<i+1->∀a,w[B]?=J a->ah a (F U)=0):=⟨λB hi wM a' yq=>by
    rcases dR B i with q|q
    .exact kz0.M B hi q a' yq
    .rw[(ag:B=i),o]at yq;injection yq with yq;rw[<-yq];exact hz⟩
   have i_:decide (ah a (F U)=0)=aa:=(by simp[hz]);generalize ah a (F U)=z at *
   clear o u hz kz0;refine bB @vP @bh ?_;exact⟨F e-(i+1),by omega,i+1,by omega,by omega,O,kz2,by simp⟩
  .have e2:pi U e=ao:=(by rw[ke.M,aL];intro q;rw[e8]at q;have:=q a (dk (i:=i-F f) (by rw[qM,(ag:F f+(i-F f)=i)];exact o));exact hz (of_decide_eq_true this));have ke2:=aj.mk e2;have i_:decide (ah a (F U)=0)=ar:=(by simp[hz]);generalize ah a (F U)=z at *
   clear o u hz kz0 e2;refine bB @vP @bh ?_;exact⟨_,_,O,kX3.M,.inl ⟨ke2.M,O⟩⟩
 have nY:i=F e:=by omega
 subst nY;have e2:pi U e=J (oU (w,f) (F U)):=by rw[ke.M,aC];rw[e8];intro a o;obtain⟨B,hi⟩:=sK o;rw[qM]at hi;have fG:=(aU.1 hi).1;exact cy (kz0.M (F f+B) ag ag a hi)
 rw[<-abe]at e2;have ke2:=aj.mk e2;have mk:=w9 v (F U) ag .i64 .i64;have uh:bT (F U) (im 0)=(jZ w f (F U) 0).map im:=by unfold jZ;rw[eE,Ey,wj]
 rw[uh]at mk;clear e2 uh kz0 ke;unfold im at mk;refine br @vP ?_;refine bJ.gen λk j A fA eg=>?_;have f0:k.get 0=.ac z0 s (xs.map λa=>[a]):=by rw[j];simp only[gW,reduceIte,aR,aM];exact g0
 have f8:k.get 8=.arr b2 0 (F e) (F e):=by rw[j];simp only[gW,reduceIte,aR,aM];exact g8
 have f10:k.get 10=.ac kz sz (ay (cH f)):=by rw[j];simp only[gW,reduceIte,aR,aM];exact g10
 have f12:k.get 12=.arr (F v.V) 0 (F U) (F U):=by rw[j];exact gS
 have f13:k.get 13=(0:Nat):=by rw[j];exact gR
 have K:k.defers=[]:=by rw[A];simp only[gW,reduceIte,aR,aM];exact hd
 clear j A fA eg g0 g8 g10 g11 hd mk;refine cK (λz1 D H=>∃i:Nat,i<=F f/\z1=F f-i/\D.get 0=.ac z0 s (xs.map λa=>[a])/\D.get 8=.arr b2 0 (F e) (F e)/\D.get 10=.ac kz sz (ay (cH f))/\D.get 12=.arr (F v.V) 0 (F U) (F U)/\D.get 13=(i:Nat)/\D.defers=[]/\H=v.push ((jZ w f (F U) i).map im)) ?_ (F f) _ _ ?_;rotate_left 1
 .exact⟨0,ck _,O,f0,f8,f10,f12,f13,K,O⟩
 clear f0 f8 f10 f12 f13 K;rintro z1 D H ⟨i,hj,rfl,g0,g8,g10,g12,g13,hd,rfl⟩;by_cases dx:i<F f
 .obtain⟨p,JI⟩:∃p,f[i]?=J p:=⟨_,aW dx⟩;have yC:=kV.M.lt i p JI;have m:sz=1:=ksz.M (by intro q;unfold cH at q;rw[BK]at q;rw[q]at dx;exact qc _ dx);subst m;obtain⟨a,o⟩:∃a,w[i]?=J a:=⟨_,aW ag⟩;have u:=kRl.M a (dk o);obtain⟨k1,s1,ld1,m⟩:=(kT3.M.mono (H':=v.push ((jZ w f (F U) i).map im)) λ_ q=>aP q).load o;have m:s1=1:=m (by intro q;rw[q]at u;simp at u);subst m;have XO:F (ay a)=F U+1:=by rw[c'];exact u
  have l0:=ev (H:=v.push ((jZ w f (F U) i).map im)) (l:=cH f) (i:=i) (s:=1) (by unfold cH;rw[bI];exact dx);rw[aa5 JI]at l0;have l1:=ev (H:=v.push ((jZ w f (F U) i).map im)) (l:=a) (i:=U.length) (s:=1) ag;have ix1:=Df (b:=b2) (len:=e.length) (aY:=e.length) (k:=.i64) (ag:i<F e);have ix3:=pC (b:=v.V.length) (len:=U.length) (aY:=U.length) (k:=.i64) yC;have sk:=vV (H:=v.push ((jZ w f (F U) i).map im)) (b:=v.V.length) (r:=jZ w f (F U) i) (k:=p) (x:=ah a (F U)) (aQ _ _) (by rw[KG];exact yC);have gD:w.getD i []=a:=by rw[fc,o];rfl
  rw[mF,<-gD,abf JI,gD]at sk;have iy:(i:Int)<(F f:Int):=by omega
  have X7:(F U:Int)<((F U+1:Nat):Int):=by omega
  unfold im at *
  clear o u gD JI yC ke2;refine bB @vP @bh ?_
  repeat' (first|simp(maxSteps:=9^9) (disch:=first|exact dZ|fail) only[gW,reduceIte,aR,aM,vP,bh, *]|(refine dX ?_ ?_<;>(intro _;try omega))|refine eI kL cD ?_)
  exact⟨F f-(i+1),by omega,i+1,by omega,O,by simp⟩
 .have nY:i=F f:=by omega
  subst nY;refine br @vP ?_;exact⟨_,_,O,kX3.M.trans (.push _ _),.inr ⟨_,_,ke2.M,KG _ _ _ _,O,aQ _ _⟩⟩
def KS:Tryz.f102.results.toList=[.tmp 4]:=by kernel_rfl
def vR:Tryz.f44.results.toList=[.tmp 4,.tmp 5,.tmp 6]:=by kernel_rfl
def IL.same{l}(h:IL x l):df x x=aa:=by obtain⟨e,s,rfl,-⟩:=h;exact xo e s l
def abL:∀xs:List I,(∀a∈xs,df a a=aa)->nB (xs.map λa=>[a]) (xs.map λa=>[a])=aa
 | [],_=>rfl
 |x::xs,h=>by rw[dK,nB,abL xs λa e=>h a (gi _ e),gJ,h x gj];rfl
def RL.same(h:RL x U):df x x=aa:=by
 obtain⟨j,s,k,rfl,-,q,i⟩:=h;have o:tK j j=aa:=by cases j<;>simp[tK]
 rw[df,o,abL k λa f=>?_]
 .simp
 .obtain⟨u,e⟩:=sK f;have m:=(aU.1 e).1;exact(i u a _ e (aW ag)).same
def aps(h:am)(eH:cS h=aa)(x y z:I)(U:List (List Int))(ae ak:List Int)(hx:RL x U)(E:IL y ae)(hz:IL z ak)(ho:F U=F ae)(u:F U<=1000)(yH:F ak<=1099511627776):
 ∃r h',W5.call 102 [.agg [x,y],z] h=J (r,h')/\∃X,r=.ret X/\RL X ((ey ae ak).map λi=>U.getD i [])/\Ext h h'/\cS h'=aa:=by
 have bx:=uw hx E;have hs:=λn=>Xe z ak n hz yH;obtain⟨G,s0,e,rfl,Yy,gH,jl⟩:=hx;obtain⟨ky,sy,rfl,lV⟩:=E;have kx:=aj.mk (au Yy (au jl lV));have w:=aj.mk ho;clear Yy jl lV hz ho;have u23:=underlying23;have u22:=underlying22;have z23:=g_;have z3:=eQ;have JS:F (e.map λa=>[a])=F U:=by rw[bI];exact gH
 have fG:=c' ae;have kX0:=aj.mk (au (Ext.push h [.ac G s0 (e.map λa=>[a]),.ac ky sy (ay ae)]) (aQ h [.ac G s0 (e.map λa=>[a]),.ac ky sy (ay ae)]));have K:aj (cS (h.push [.ac G s0 (e.map λa=>[a]),.ac ky sy (ay ae)])=aa):=⟨eH⟩;refine cq O func102 O ?_;refine bB @KS @bG ?_;refine bJ.gen λB m iD fA eg=>?_;have f1:B.get 1=z:=by rw[m];exact gS
 have f2:B.get 2=.ptr (.box (F h.V)) 0:=by rw[m];exact gS
 have f5:B.get 5=.ac .nil 0 ((hy e ae ak 0).map λa=>[a]):=by rw[m];exact gR
 have f6:B.get 6=(0:Nat):=by rw[m];exact gR
 have fd:B.defers=[]:=by rw[iD];exact gS
 clear m iD fA eg bx;refine cK (λz4 z1 H=>∃(i:Nat) (f:Tok) (sz:Nat),i<=F U/\z4=F U-i/\aj (sz=1∨((hy e ae ak i)=[]/\f=.nil))/\aj (Ext h H/\H.V[F h.V]?=J [.ac G s0 (e.map λa=>[a]),.ac ky sy (ay ae)])/\aj (cS H=aa)/\aj (cY h.tn H f)/\z1.get 1=z/\z1.get 2=.ptr (.box (F h.V)) 0/\z1.get 5=.ac f sz ((hy e ae ak i).map λa=>[a])/\z1.get 6=(i:Nat)/\z1.defers=[]) ?_ (F U) _ _ ?_;rotate_left 1
 .exact⟨0,.nil,0,ck _,O,⟨.inr ⟨O,O⟩⟩,kX0,K,⟨.inl O⟩,f1,f2,f5,f6,fd⟩
 clear f1 f2 f5 f6 fd kX0 K;rintro z4 z1 H ⟨i,f,sz,hi,rfl,o,v,A,j,g1,g2,g5,g6,hd⟩;have l0:=qu v.M.2;have l1:=Dj v.M.2;by_cases D:i<F U;rotate_left 1
 .have gw:i=F U:=by omega
  subst gw;refine dL @KS @eF @fZ ?_;have hN:e_ ae ak (F U)=ey ae ak:=by unfold e_ ey;rw[w.M]
  refine⟨_,_,O,_,O,⟨_,_,_,O,λfH=>?_,?_,λi a r q u=>?_⟩,v.M.1,A.M⟩
  .rcases o.M with z0|⟨z0,-⟩
   .exact z0
   .exfalso;apply fH;rw[<-hN];unfold hy at z0;unfold e_;rw[BK]at z0;rw[z0];rfl
  .rw[bI,<-hN];unfold hy e_;rw[bI]
  .obtain⟨z2,j1,j2,rfl⟩:=Q8 q;rw[hN]at j1;rw[ek,j1]at u;injection u with u;subst u;refine kx.M.2.1 z2 _ _ ?_ ?_
   .rw[fc,aW ag];rfl
   .show U[z2]?=J (U.getD z2 []);rw[fc,aW j2];rfl
 have C5:s0=1:=kx.M.1 (by intro z0;rw[z0]at D;simp at D);subst C5;have dY:sy=1:=kx.M.2.2 (by intro z0;have ho:=w.M;rw[z0,gh]at ho;omega);subst dY;obtain⟨a,q⟩:∃a,e[i]?=J a:=⟨_,aW ag⟩;have ld:=jP (H:=H) (s:=1) q;have lo:=ev (H:=H) (l:=ae) (i:=i) (s:=1) (by have:=w.M;omega);have Jn:(i:Int)<(F U:Int):=by omega
 have ali:(i:Int)<(F ae:Int):=by have:=w.M;omega
 have c:=hs (ah ae i);cases hc:ak.contains (ah ae i) with
 |true=>
  rw[hc]at c;have pl:=aaF (xs:=e) (ae:=ae) (ak:=ak) (k:=i);have ap:=Ul (H:=H) (x:=a) (es:=hy e ae ak i) ag o.M j.M;rw[<-aaH hc q]at ap;obtain⟨k',s',xs',rfl⟩:∃k' s' xs',a=.ac k' s' xs':=by obtain⟨r,u⟩:∃r,U[i]?=J r:=⟨_,aW D⟩;obtain⟨k',s',rfl,-⟩:=kx.M.2.1 i a r q u;exact⟨_,_,_,O⟩
  have bl:=Io (.ac k' s' xs') O;have hG:=Grown.one j.M A.M v.M.1.tn;have kX2:aj (Ext h (H.app f)/\(H.app f).V[F h.V]?=J [.ac G 1 (e.map λa=>[a]),.ac ky 1 (ay ae)]):=⟨hG.ext v.M.1 (aT _),by rw[dC];exact v.M.2⟩;have kok2:aj (cS (H.app f)=aa):=⟨zU A.M j.M⟩;have kcan2:aj (cY h.tn (H.app f) (.free H.tn)):=⟨hG.can⟩;have ksz2:aj (1=1∨((hy e ae ak (i+1))=[]/\Tok.free H.tn=.nil)):=⟨.inl O⟩;clear hG q hc o v A j hs;unfold im at c;refine b_ @KS @eF @fZ @bh ?_;exact⟨F U-(i+1),by omega,i+1,_,1,by omega,O,(by first|assumption|trivial),(by first|assumption|trivial),(by first|assumption|trivial),(by first|assumption|trivial),by simp⟩
 |false=>rw[hc]at c;have eN:=aaG (xs:=e) hc;have ksz2:aj (sz=1∨((hy e ae ak (i+1))=[]/\f=.nil)):=⟨by rw[eN];exact o.M⟩;rw[<-eN]at g5;clear q hc o hs eN;unfold im at c;refine b_ @KS @eF @fZ @bh ?_;exact⟨F U-(i+1),by omega,i+1,f,sz,by omega,O,(by first|assumption|trivial),(by first|assumption|trivial),(by first|assumption|trivial),(by first|assumption|trivial),by simp⟩
def Sg(hi:i<F ae)(hc:ak.contains (ah ae i)=aa):(ey ae ak)[F (e_ ae ak i)]?=J i:=by
 have e:ey ae ak=e_ ae ak i++((bE (F ae-i)).map (i+·)).filter λf=>ak.contains (ah ae f):=by unfold ey e_;rw[<-List.filter_append,<-List.range_add];congr 2;omega
 rw[e,wg (aT _),tU,(ag:F ae-i=(F ae-i-1)+1),List.range_succ_eq_map,dK,Nat.add_zero,BH,aC hc];rfl
def ZT11{p:Prop}(h:p:=by
 simp only[js]at hp;subst hp;refine pM (x:=.ptr (.box (F h.V)) 0) (v:=.agg [.ac k0 s0 (xs.map λa=>[a]),.ac ky sy (ay ae)]) cD O O O cD (svs) ?_ ?_<;>(simp only[fe,eE];exact f_ @vR @and_self)):p:=h
def aey(h:am)(eH:cS h=aa)(x y z:I)(U:List (List Int))(ae ak:List Int)(hx:RL x U)(E:IL y ae)(hz:IL z ak)(lT:F U<=1000000)(yH:F ak<=1099511627776):
 ∃r h',W5.call 44 [.agg [x,y],z] h=J (r,h')/\((∃e,fg U ae ak=([],ar,e)/\r=.ret (.tuple [.ac .nil 0 [],(ar:I),((e:Int):I)]))∨∃l b,fg U ae ak=(l,aa,0)/\F l=F U/\r=.ret (.tuple [.arr b 0 (F U) (F U),(aa:I),.v (.int .i64 0)])/\h'.V[b]?=J (l.map im)):=by
 have bx:=uw hx E;have b0:(h.push [x,y]).V[F h.V]?=J [x,y]:=aQ _ _;have A:=λz0 (X:Ext (h.push [x,y]) z0)=>ul (X.box _ _ b0);have w:=λz0 (X:Ext (h.push [x,y]) z0)=>qu (X.box _ _ b0);have l23:=λz0 (X:Ext (h.push [x,y]) z0)=>Dj (X.box _ _ b0);have l0:=A _ (.refl _);have cc:=abd x y U ae hx E lT;have cp:=aaD z ak hz ag;have j:fg U ae ak=if cE U ae≠0 then ([],ar,cE U ae) else if !dD (-1) ak then ([],ar,1) else match pi ((ey ae ak).map λf=>U.getD f []) (fT (b7 U)) with|none=>([],ar,0)|some l=>(qH (F U) (ey ae ak) l,aa,0):=rfl
 have svs:df (.agg [x,y]) (.agg [x,y])=aa:=by rw[df,gJ,gJ,gJ,hx.same,E.same];rfl
 refine cq O func44 O ?_;by_cases o:cE U ae≠0
 .rw[aC o]at j;generalize cE U ae=pe at *
  have XD:decide (pe=0)=ar:=by simp[o]
  have ke:=aj.mk j;clear j o A w l23 hx E hz cp b0;unfold im at cc;refine bB @vR @bG ?_;exact⟨_,_,O,.inl ⟨pe,ke.M,O⟩⟩
 rw[aL o]at j;have o:cE U ae=0:=Mm.1 o;rw[o]at cc;cases q2:dD (-1) ak with
 |false=>rw[q2]at cp;rw[aC (by rw[q2];rfl)]at j;have ke:=aj.mk j;clear j o q2 A w l23 hx E hz b0;unfold im at cc;refine bB @vR @bG ?_;exact⟨_,_,O,.inl ⟨1,ke.M,O⟩⟩
 |true=>
 rw[q2]at cp;rw[aL (by rw[q2];simp)]at j;obtain⟨o1,o2,o3,-⟩:=oj o;obtain⟨n1,n2⟩:=pV o;have F6:F (fT (b7 U))=b7 U:=SI n1;have G:∀f∈ey ae ak,f<F U:=λf hi=>by unfold ey at hi;rw[o1];exact gb.1 (List.mem_filter.1 hi).1
 have nZ:F (ey ae ak)<=64:=by unfold ey;exact Nat.le_trans (List.length_filter_le _ _) (by rw[List.length_range];omega)
 have K:∀r∈(ey ae ak).map λf=>U.getD f [],r∈U:=λr hr=>by obtain⟨f,hi,rfl⟩:=iW.1 hr;have:=G f hi;rw[fc,aW this];exact List.getElem_mem _
 have c136:=ahW x y U ae hx E;have c135:=awQ (b7 U) n1 ag;obtain⟨_,H2,c134,X,rfl,hX,X2,CU⟩:=aps (h.push [x,y]) eH x y z U ae ak hx E hz o1 ag yH;have lH2:=A H2 X2;obtain⟨_,i,B,P3⟩:=ahZ H2 CU X (.ac .held 1 (ay (fT (b7 U)))) _ (fT (b7 U)) hX ⟨_,_,O,λ_=>rfl⟩ (by rw[bI];exact nZ) (λr hr=>by rw[F6];exact(o3 r (K r hr)).1) (by rw[F6];exact n2) ag (λr hr=>(o3 r (K r hr)).2.2.2) (λx hx=>by
  unfold fT at hx;rcases gX.1 hx with rfl|hx
  .exact⟨aZ,by decide⟩
  .rw[List.eq_of_mem_replicate hx];exact⟨aZ,by decide⟩)
 obtain⟨X3,P3⟩:=P3;have q:=aj.mk λz0 (X:Ext i z0)=>w z0 (X2.trans (X3.trans X));have u:=aj.mk λz0 (X:Ext i z0)=>l23 z0 (X2.trans (X3.trans X));have hs:=λn=>Xe z ak n hz yH;have ll0:=w i (X2.trans X3);rw[bI]at P3;obtain⟨k0,s0,xs,rfl,-,gH,-⟩:=hx;obtain⟨ky,sy,rfl,lV⟩:=E;have ksy:=aj.mk lV;have u23:=underlying23;have u22:=underlying22;have z3:=eQ;have JS:F (xs.map λa=>[a])=F U:=by rw[bI];exact gH
 have fG:=c' ae;have ko:=aj.mk (au G o1);clear K G o3 hX X2 X3 CU hz A w l23 b0 o gH lV o1;unfold im at cc c136 c135;rcases P3 with⟨e1,rfl⟩|⟨l,b,e1,e2,rfl,hb⟩
 .rw[e1]at j;have ke:=aj.mk j;clear j e1 q u hs;unfold im at B;refine bB @vR @bG ?_;refine jB [(2,3)] kL cD (λp hp=>?_) ?_
  .exact ZT11
  refine br @vR ?_;exact⟨_,_,O,.inl ⟨0,ke.M,O⟩⟩
 rw[e1]at j;have ke:=aj.mk j;have kb:=aj.mk (au hb e2);have mk:=w9 i (F U) ag .i64 .i64;have uh:bT (F U) (im 0)=(mf (F U) (ey ae ak) l (F (e_ ae ak 0))).map im:=by unfold mf;rw[show(F (e_ ae ak 0))=0 from O,eE,Ey,wj]
 rw[uh]at mk;clear j e1 uh hb;unfold im at B mk;refine bB @vR @bG ?_;refine jB [(2,3)] kL cD (λp hp=>?_) ?_
 .exact ZT11
 refine dL @vR @eF @fZ ?_;refine bJ.gen λD m iD fA eg=>?_;have f1:D.get 1=z:=by rw[m];exact gS
 have f2:D.get 2=.ptr (.box (F h.V)) 0:=by rw[m];exact gS
 have f8:D.get 8=.arr b 0 (F (ey ae ak)) (F (ey ae ak)):=by rw[m];exact gS
 have f11:D.get 11=.arr (F i.V) 0 (F U) (F U):=by rw[m];exact gS
 have f12:D.get 12=(F (e_ ae ak 0):Nat):=by rw[m];exact gR
 have f13:D.get 13=(0:Nat):=by rw[m];exact gR
 have fd:D.defers=[]:=by rw[iD];exact gS
 clear m iD fA eg mk cc cp c136 c135 c134 B l0 lH2 ll0 bx svs;refine cK (λz1 e H=>∃f:Nat,f<=F U/\z1=F U-f/\e.get 1=z/\e.get 2=.ptr (.box (F h.V)) 0/\e.get 8=.arr b 0 (F (ey ae ak)) (F (ey ae ak))/\e.get 11=.arr (F i.V) 0 (F U) (F U)/\e.get 12=(F (e_ ae ak f):Nat)/\e.get 13=(f:Nat)/\e.defers=[]/\H=i.push ((mf (F U) (ey ae ak) l (F (e_ ae ak f))).map im)) ?_ (F U) _ _ ?_;rotate_left 1
 .exact⟨0,ck _,O,f1,f2,f8,f11,f12,f13,fd,O⟩
 clear f1 f2 f8 f11 f12 f13 fd;rintro z1 e H ⟨f,hi,rfl,g1,g2,g8,g11,g12,g13,hd,rfl⟩;have l0:=q.M (i.push ((mf (F U) (ey ae ak) l (F (e_ ae ak f))).map im)) (.push _ _);have l1:=u.M (i.push ((mf (F U) (ey ae ak) l (F (e_ ae ak f))).map im)) (.push _ _);by_cases jW:f<F U;rotate_left 1
 .have gw:f=F U:=by omega
  subst gw;have hN:e_ ae ak (F U)=ey ae ak:=by unfold e_ ey;rw[ko.M.2]
  have kN:=aj.mk hN;clear hN;refine dL @vR @eF @fZ ?_;refine⟨_,_,O,.inr ⟨_,_,ke.M,?_,O,?_⟩⟩
  .rw[<-Lr];exact Ls
  .rw[aQ,kN.M,Lr]
 have dY:sy=1:=ksy.M (by intro z2;have o1:=ko.M.2;rw[z2,gh]at o1;omega);subst dY;have lo:=ev (H:=i.push ((mf (F U) (ey ae ak) l (F (e_ ae ak f))).map im)) (l:=ae) (i:=f) (s:=1) (by have:=ko.M.2;omega);have Jn:(f:Int)<(F U:Int):=by omega
 have ali:(f:Int)<(F ae:Int):=by have:=ko.M.2;omega
 have c:=hs (ah ae f);cases hc:ak.contains (ah ae f) with
 |true=>
  rw[hc]at c;have ud:=Sg (show f<F ae by have:=ko.M.2;omega) hc;have dx:=(aU.1 ud).1;have WV:=aaJ hc;have Ov:F (e_ ae ak (f+1))=F (e_ ae ak f)+1:=by rw[WV,db];rfl
  have ix1:=pC (b:=b) (len:=(ey ae ak).length) (aY:=(ey ae ak).length) (k:=.i64) dx;have ix3:=pC (b:=i.V.length) (len:=U.length) (aY:=U.length) (k:=.i64) jW;have lv:=wZ (H:=i.push ((mf (F U) (ey ae ak) l (F (e_ ae ak f))).map im)) (aP kb.M.1) (vJ (k:=(e_ ae ak f).length) (by rw[kb.M.2];exact dx));have sk:=vV (H:=i.push ((mf (F U) (ey ae ak) l (F (e_ ae ak f))).map im)) (b:=i.V.length) (r:=mf (F U) (ey ae ak) l (F (e_ ae ak f))) (k:=f) (x:=ah l (F (e_ ae ak f))) (aQ _ _) (by rw[Ls];exact jW);rw[mF,ab5 ud,<-Ov]at sk;have kNl:=aj.mk Ov;clear ud WV Ov hs q u;unfold im at c lv sk l0 l1 lo ⊢;refine b_ @vR @eF @fZ @bh ?_;exact⟨F U-(f+1),by omega,f+1,by omega,O,by trivial,by trivial,by trivial,by trivial,(by rw[kNl.M];first|rfl|simp),by simp,by trivial,by trivial⟩
 |false=>rw[hc]at c;have WU:=aaI hc;have kNn:=aj.mk WU;clear WU hs q u;unfold im at c;refine b_ @vR @eF @fZ @bh ?_;exact⟨F U-(f+1),by omega,f+1,by omega,O,by trivial,by trivial,by trivial,by trivial,by rw[kNn.M],by simp,by trivial,by rw[kNn.M]⟩
def L6:List bk:=L5++[37,30,127,26,71,79,44,101,102]
noncomputable def Rf:bk->Option (List I->am->Option (I × am)):=mN W5 L6
noncomputable abbrev W6:=whole af Gt Rf
def agO:nG Rf L6:=t_
section
variable (a b n x:Int)
def aeD:∀h,W6.call 80 [im a,im b] h=J (.ret (im (cV a b)),h):=bX (L:=L6) O O O (If a b _) O rfl
def axA:∀h,W6.call 66 [im x] h=J (.ret (.v (.bool (b8 x))),h):=bX (L:=L6) O O O (Hq x _) O rfl
def akq:∀h,W6.call 75 [im a,im n] h=J (.ret (.tuple [im (eO a n),im (lQ a)]),h):=bX (L:=L6) O O O (I4 a n _) O rfl
def arv:∀h,W6.call 130 [im a,im b] h=J (.ret (im (cV a b)),h):=bX (L:=L6) O O O (aru a b _) O rfl
def asV:∀h,W6.call 202 [im a,im b] h=J (.ret (im (cO a b)),h):=bX (L:=L6) O O O (asU a b _) O rfl
def auG:∀h,W6.call 111 [im x] h=J (.ret (.v (.bool (b8 x))),h):=bX (L:=L6) O O O (auF x _) O rfl
def ar0:∀h,W6.call 203 [im a,im n] h=J (.ret (.tuple [im (eO a n),im (lQ a)]),h):=bX (L:=L6) O O O (arZ a n _) O rfl
def abo:∀h,W6.call 97 [im n] h=J (.ret (.agg (aD 1 n [] .nil 0 [])),h):=bX (L:=L6) O O O (asa n _) O rfl
def aoW:∀h,W6.call 133 [im n] h=J (.ret (.v (.bool (cA n))),h):=bX (L:=L6) O O O (aoV n _) O rfl
end
def Yf:∀l:List Pr,dV (cU l)=cU l
 | []=>rfl
 |p::l=>by show dV (bm p::cU l)=_;rw[dV,Yf l];rfl
def NZ:∀l:List Pr,fX 0 0 0 (cU l)=aa
 | []=>rfl
 |p::l=>by show fX 0 0 0 (bm p::cU l)=_;rw[fX,NZ l];rfl
def Yh:∀l:List (Int × Int),dV (bD l)=bD l
 | []=>rfl
 |p::l=>by show dV (bN p::bD l)=_;rw[dV,Yh l];rfl
def Ff:∀l:List (Int × Int),fX 0 0 0 (bD l)=aa
 | []=>rfl
 |p::l=>by show fX 0 0 0 (bN p::bD l)=_;rw[fX,Ff l];rfl
def Yj:∀l:List Int,dV (l.map qJ)=l.map qJ
 | []=>rfl
 |p::l=>by rw[dK,dV,Yj l];rfl
def Wb:∀l:List Int,fX 0 0 0 (l.map qJ)=aa
 | []=>rfl
 |p::l=>by rw[dK,fX,Wb l];rfl
def PL.hold(h:PL x l):PL (av x) l/\aI 0 0 0 (av x)=aa:=by obtain⟨f,s,rfl,e⟩:=h;rw[av,Yf];exact⟨⟨cJ f,s,O,e⟩,by rw[aI,fB,NZ];rfl⟩
def SL.hold{l}(h:SL x l):SL (av x) l/\aI 0 0 0 (av x)=aa:=by obtain⟨f,s,rfl,e⟩:=h;rw[av,Yh];exact⟨⟨cJ f,s,O,e⟩,by rw[aI,fB,Ff];rfl⟩
def UL.hold{l}(h:UL x l):UL (av x) l/\aI 0 0 0 (av x)=aa:=by obtain⟨⟨i,s,rfl,f⟩,e⟩:=h;rw[av,Yj];exact⟨⟨⟨cJ i,s,O,f⟩,e⟩,by rw[aI,fB,Wb];rfl⟩
def BL.hold{b}(h:BL x b):BL (av x) b/\aI 0 0 0 (av x)=aa:=by obtain⟨f,s,rfl,e⟩:=h;rw[av,tf];exact⟨⟨cJ f,s,O,e⟩,by rw[aI,fB,nm];rfl⟩
def Ga(ep)(hx:RL X U)(E:IL Y ae)(hc:IL C ak):
 ∃f i e,av (.agg (aG ep X Y C))=.agg (aG ep f i e)/\RL f U/\IL i ae/\IL e ak/\aI 0 0 0 (.agg (aG ep f i e))=aa:=by
 obtain⟨h1,j⟩:=hx.iE;obtain⟨k,m⟩:=E.hold;obtain⟨o,q⟩:=hc.hold;exact⟨_,_,_,O,h1,k,o,by simp[aG,aI,aJ,j,m,q]⟩
section
variable (ep:Int) (X Y C T L:I) (U:List (List Int)) (ae aH:List Int) (aq:List UInt8) (l:List Pr)
 (hx:RL X U) (E:IL Y ae) (hc:IL C aH) (ht:BL T aq) (hp:PL L l) (fj:aH.length<=1000000) (fQ:l.length<=1000000)
include hx E hc ht hp fj fQ
def UI:(dA U ae ep aH aq l≠0/\∀h,W6.call 37 [.agg (aG ep X Y C),T,L] h=J (.ret (.tuple [.ac .nil 0 [],im 0,im 0,im (dA U ae ep aH aq l)]),h))∨
 (dA U ae ep aH aq l=0/\∃Z,IL Z (vd (ah aH 0) aq l)/\∀h,W6.call 37 [.agg (aG ep X Y C),T,L] h=J (.ret (.tuple [Z,im ((jz (ah aH 0) aq l:Nat):Int),im ((ef (ah aH 0) aq l:Nat):Int),im 0]),h)):=by
 obtain⟨f,i,e,m,h1,o,q,u⟩:=Ga ep hx E hc;obtain⟨v,w⟩:=ht.hold;obtain⟨A,B⟩:=hp.hold;have j:bA [.agg (aG ep X Y C),T,L]=[.agg (aG ep f i e),av T,av L]:=by rw[bA,bA,bA,bA,m]
 have k:aJ 0 0 0 [.agg (aG ep f i e),av T,av L]=aa:=by rw[aJ,aJ,aJ,aJ,u,w,B];rfl
 obtain⟨r,h',c,⟨K,rfl⟩|⟨K,Z,rfl,D⟩⟩:=af6 ⟨[],[],0,[]⟩ vK ep f i e (av T) (av L) U ae aH aq l h1 o q v A fj fQ
 .exact .inl ⟨K,bX (L:=L6) O j k c O O⟩
 .obtain⟨z0,s,rfl,G⟩:=D;refine .inr ⟨K,.ac (cJ z0) s (ay _),⟨_,_,O,G⟩,bX (L:=L6) O j k c ?_ ?_⟩
  .rfl
  .rw[aI,aJ,aI,fB,jw];rfl
def aok(S:I)(s:List (Int × Int))(e d f:Int)(hs:SL S s)(j:F s<=1000000):
 ∀h,W6.call 30 [.agg (aG ep X Y C),T,L,im e,S,im d,im f] h=J (.ret (.tuple [im (nx U ae ep aH aq l e s d f).1,im (nx U ae ep aH aq l e s d f).2]),h):=by
 obtain⟨m,o,k,q,h1,u,v,w⟩:=Ga ep hx E hc;obtain⟨A,B⟩:=ht.hold;obtain⟨D,G⟩:=hp.hold;obtain⟨K,i⟩:=hs.hold;obtain⟨r,h',c,rfl⟩:=aoj ⟨[],[],0,[]⟩ vK ep m o k (av T) (av L) (av S) U ae aH aq l s e d f h1 u v A D K fj fQ j;exact bX (L:=L6) O (by simp only[bA];rw[q];rfl) (by simp only[aJ];rw[w,B,G,i];rfl) c O rfl
def ajr(e z:Int):
 ∀h,W6.call 127 [.agg (aG ep X Y C),T,L,im e,im z] h=J (.ret (.tuple [.v (.bool (oP U ae ep aH aq l e z).1),im (oP U ae ep aH aq l e z).2]),h):=by
 obtain⟨i,j,f,k,h1,m,o,q⟩:=Ga ep hx E hc;obtain⟨u,v⟩:=ht.hold;obtain⟨w,A⟩:=hp.hold;obtain⟨r,B,c,rfl⟩:=ajp ⟨[],[],0,[]⟩ vK ep i j f (av T) (av L) U ae aH aq l e z h1 m o u w fj fQ;exact bX (L:=L6) O (by simp only[bA];rw[k];rfl) (by simp only[aJ];rw[q,v,A];rfl) c O rfl
end
def acQ(f e s)(T)(aq)(ht:BL T aq)(k:F aq<=1000000):
 ∀h,W6.call 26 [im f,T,.agg [im e,im s]] h=J (.ret (.v (.bool (nE f aq e s))),h):=by
 obtain⟨⟨q,z,i,m⟩,j⟩:=ht.hold;obtain⟨r,o,c,rfl,-⟩:=axB ⟨[],[],0,[]⟩ f e s q z aq m k;exact bX (L:=L6) O (by simp only[bA];rw[i];rfl) (by rw[<-i];simp only[aJ];rw[j];rfl) c O rfl
def aiy(x y z)(U)(ae G)(B)(hx:RL x U)(E:IL y ae)(w:IL z G)(v:F G<=1000)(f:F U<=1000000):
 (jL U ae B G≠0/\∀h,W6.call 71 [.agg [x,y],im B,z] h=J (.ret (.tuple [.ac .nil 0 [],.ac .nil 0 [],im (jL U ae B G)]),h))∨
 (jL U ae B G=0/\∃z0 z1,SL z0 (fD U (B::G))/\IL z1 (bF (B::G))/\∀h,W6.call 71 [.agg [x,y],im B,z] h=J (.ret (.tuple [z0,z1,im 0]),h)):=by
 obtain⟨h1,k,m,o⟩:=oi hx E;obtain⟨q,u⟩:=w.hold;have e:aJ 0 0 0 [.agg [av x,av y],im B,av z]=aa:=by simp[aJ,aI,m,o,u,im]
 obtain⟨r,h',c,⟨D,rfl⟩|⟨D,t1,K,t2,s2,rfl,i,j⟩⟩:=aix ⟨[],[],0,[]⟩ vK (av x) (av y) (av z) U ae G B h1 k q v f
 .exact .inl ⟨D,bX (L:=L6) (A:=[.agg [av x,av y],im B,av z]) O O e c O O⟩
 .refine .inr ⟨D,.ac (cJ t1) K (bD _),.ac (cJ t2) s2 (ay _),⟨_,_,O,i⟩,⟨_,_,O,λ_=>j⟩,bX (L:=L6) (A:=[.agg [av x,av y],im B,av z]) O O e c ?_ ?_⟩
  .rfl
  .rw[aI,aJ,aI,fB,Ff,aJ,aI,fB,jw];rfl
def ahw(x y)(U)(ae)(hx:RL x U)(E:IL y ae):∀h,W6.call 35 [.agg [x,y]] h=J (.ret (im (cE U ae)),h):=by obtain⟨h1,e,f,i⟩:=oi hx E;exact bX (L:=L6) (A:=[.agg [av x,av y]]) O O (by simp[aJ,aI,f,i]) (NF (av x) (av y) U ae h1 e _) O rfl
def Vx(x y)(U)(ae)(hx:RL x U)(E:IL y ae):∀h,W6.call 134 [.agg [x,y]] h=J (.ret (im (b7 U:Nat)),h):=by obtain⟨h1,e,f,i⟩:=oi hx E;exact bX (L:=L6) (A:=[.agg [av x,av y]]) O O (by simp[aJ,aI,f,i]) (ahX (av x) (av y) U ae h1 e _) O rfl
def ao1(x)(l)(hx:IL x l)(f:F l<=9223372036854775807):∀h,W6.call 135 [x] h=J (.ret (.v (.bool (l.all cA))),h):=by obtain⟨h1,e⟩:=hx.hold;exact bX (L:=L6) (A:=[av x]) O O (by simp[aJ,e]) (ao0 (av x) l h1 f _) O rfl
def ap3(x)(l)(hx:IL x l)(f:F l<=9223372036854775807):∀h,W6.call 43 [x] h=J (.ret (.v (.bool (dD (-1) l))),h):=by obtain⟨h1,e⟩:=hx.hold;exact bX (L:=L6) (A:=[av x]) O O (by simp[aJ,e]) (aaD (av x) l h1 f _) O rfl
def aex(x y z)(U)(ae ak)(hx:RL x U)(E:IL y ae)(v:IL z ak)(j:F ak<=1099511627776):
 (∃e,fg U ae ak=([],ar,e)/\∀h,W6.call 39 [.agg [x,y],z] h=J (.ret (.tuple [.ac .nil 0 [],(ar:I),im e]),h))∨
 ∃l,fg U ae ak=(l,aa,0)/\F l=F U/\∃Z,IL Z l/\∀h,W6.call 39 [.agg [x,y],z] h=J (.ret (.tuple [Z,(aa:I),im 0]),h):=by
 obtain⟨h1,k,m,o⟩:=oi hx E;obtain⟨q,u⟩:=v.hold;have i:aJ 0 0 0 [.agg [av x,av y],av z]=aa:=by simp[aJ,aI,m,o,u]
 obtain⟨G,s,D,f,-⟩:=h1.form;rw[f]at h1;rcases T9 G s D (av y) (av z) U ae ak h1 k q j with⟨e,w,c⟩|⟨l,w,B,c⟩
 .rw[<-f]at c;exact .inl ⟨e,w,bX (L:=L6) (A:=[.agg [av x,av y],av z]) O O i (c _) O O⟩
 .rw[<-f]at c;refine .inr ⟨l,w,B,.ac .held 1 (ay l),⟨_,_,O,λ_=>rfl⟩,bX (L:=L6) (A:=[.agg [av x,av y],av z]) O O i (c _) ?_ ?_⟩
  .rfl
  .rw[aI,aJ,aI,jw];rfl
def iE(k):cJ (cJ k)=cJ k:=by cases k<;>rfl
def ZT37{p:Prop}(h:p:=by
 unfold aD at e;simp only[aJ,bR]at e ⊢;exact⟨e.2.2.2.1,ba⟩):p:=h
def aAo{l}{U}(f:gy l U)(D:dV U=U)(k)(i:F U<=1000000):∀h,W2.call 96 [.ac k 4 U] h=J (.ret (.agg (aD 3 0 [] (cJ k) 4 U)),h):=by
 have j:cW (.ac l) (aD 3 0 [] k 4 U):=.ac l k 4 U f.1 (λ_=>rfl) i f.2;obtain⟨h1,e⟩:=cW.hold _ _ j;have m:bA (aD 3 0 [] k 4 U)=aD 3 0 [] (cJ k) 4 (dV U):=rfl;rw[m,D]at h1 e;refine bX (L:=L2) (A:=[.ac (cJ k) 4 U]) O ?_ ?_ (asQ _ _ _ _) ?_ ?_
 .simp only[bA,av,D]
 .exact ZT37
 .show I.agg [im 3,im 0,sv [],.ac (cJ (cJ k)) 4 U]=_;rw[iE];rfl
 .rw[aI];exact e
def aua(s):∀h,W3.call 99 [sv s] h=J (.ret (.agg (aD 2 0 s .nil 0 [])),h):=bX (L:=L3) O O O (at9 s _) O rfl
section
open YtcbhpkjbiehcpaaGreatDoor renaming aAk->Q57,L3->Q59
open AE renaming bX->Q58
def aAl(i:cW v r)(f:gc v<=16)(g:F (cr v)<=1099511600000):∃t,∀h,W3.call 100 [.agg r] h=J (.ret (.tuple [.ac t 1 (bV (cr v)),.v (.int .i64 0)]),h):=ZS11
end
def ZS14{p:Prop}(h:p:=by
 have j:cW (.ac l) (aD 3 0 [] k 4 U):=.ac l k 4 U f.1 (λ_=>rfl) i f.2;obtain⟨h1,e⟩:=cW.hold _ _ j;have m:bA (aD 3 0 [] k 4 U)=aD 3 0 [] (cJ k) 4 (dV U):=rfl;rw[m,D]at h1 e;refine Q67 (L:=Q68) (A:=[.ac (cJ k) 4 U]) O ?_ ?_ (Q69 f D (cJ k) i _) ?_ ?_
 .simp only[bA,av,D]
 .exact ZT37
 .show I.agg [im 3,im 0,sv [],.ac (cJ (cJ (cJ k))) 4 U]=_;rw[iE,iE];rfl
 .rw[aI];exact e):p:=h
section
open AE renaming bX->Q67
open YtcbhpkjbiehcpaaGreatDoor renaming L3->Q68,aAo->Q69
def aAp{l}{U}(f:gy l U)(D:dV U=U)(k)(i:F U<=1000000):∀h,W3.call 96 [.ac k 4 U] h=J (.ret (.agg (aD 3 0 [] (cJ k) 4 U)),h):=ZS14
end
def aub(s):∀h,W4.call 99 [sv s] h=J (.ret (.agg (aD 2 0 s .nil 0 [])),h):=bX (L:=L4) O O O (aua s _) O rfl
section
open YtcbhpkjbiehcpaaGreatDoor renaming aAl->Q57,L4->Q59
open AE renaming bX->Q58
def aAm(i:cW v r)(f:gc v<=16)(g:F (cr v)<=1099511600000):∃t,∀h,W4.call 100 [.agg r] h=J (.ret (.tuple [.ac t 1 (bV (cr v)),.v (.int .i64 0)]),h):=ZS11
end
section
open AE renaming bX->Q67
open YtcbhpkjbiehcpaaGreatDoor renaming L4->Q68,aAp->Q69
def aAq{l}{U}(f:gy l U)(D:dV U=U)(k)(i:F U<=1000000):∀h,W4.call 96 [.ac k 4 U] h=J (.ret (.agg (aD 3 0 [] (cJ k) 4 U)),h):=ZS14
end
def auc(s):∀h,W5.call 99 [sv s] h=J (.ret (.agg (aD 2 0 s .nil 0 [])),h):=gT (L:=L5) O O O (aub s _) O rfl
section
open YtcbhpkjbiehcpaaGreatDoor renaming aAm->Q57,L5->Q59
open AE renaming gT->Q58
def aAn(i:cW v r)(f:gc v<=16)(g:F (cr v)<=1099511600000):∃t,∀h,W5.call 100 [.agg r] h=J (.ret (.tuple [.ac t 1 (bV (cr v)),.v (.int .i64 0)]),h):=ZS11
end
section
open AE renaming gT->Q67
open YtcbhpkjbiehcpaaGreatDoor renaming L5->Q68,aAq->Q69
def aAr{l}{U}(f:gy l U)(D:dV U=U)(k)(i:F U<=1000000):∀h,W5.call 96 [.ac k 4 U] h=J (.ret (.agg (aD 3 0 [] (cJ k) 4 U)),h):=ZS14
end
def aud(s):∀h,W6.call 99 [sv s] h=J (.ret (.agg (aD 2 0 s .nil 0 [])),h):=bX (L:=L6) O O O (auc s _) O rfl
section
open YtcbhpkjbiehcpaaGreatDoor renaming aAn->Q57,L6->Q59
open AE renaming bX->Q58
def arI(i:cW v r)(f:gc v<=16)(g:F (cr v)<=1099511600000):∃t,∀h,W6.call 100 [.agg r] h=J (.ret (.tuple [.ac t 1 (bV (cr v)),.v (.int .i64 0)]),h):=ZS11
end
section
open AE renaming bX->Q67
open YtcbhpkjbiehcpaaGreatDoor renaming L6->Q68,aAr->Q69
def asP{l}{U}(f:gy l U)(D:dV U=U)(k)(i:F U<=1000000):∀h,W6.call 96 [.ac k 4 U] h=J (.ret (.agg (aD 3 0 [] (cJ k) 4 U)),h):=ZS14
end
def atJ:Tryz.f137.results.toList=[.tmp 4]:=by kernel_rfl
def KU:Tryz.f94.results.toList=[.tmp 4]:=by kernel_rfl
def aqI(x n)(h):W6.call 137 [im x,im n] h=J (.ret (im (eO x n)),h):=by
 have c:=λh=>ar0 x n h;unfold im at *
 refine cX O func137 O ?_;exact iT @atJ
def ah6(h:am)(x y z:I)(U:List (List Int))(ae aH:List Int)(hx:RL x U)(E:IL y ae)(hz:IL z aH)(hl:F aH<=1000000):
 ∃r h',W6.call 94 [.agg [x,y],z] h=J (r,h')/\h'=h.push [x,y]/\r=.ret (.v (.bool (aH.all b8&&decide (F aH=b7 U)))):=by
 have bx:=uw hx E;have c1:=Vx x y U ae hx E;have l0:=ul (aQ h [x,y]);have u:=λn=>auG n;obtain⟨z0,s,rfl,hs⟩:=hz;have ks:=aj.mk hs;clear hs hx E;have u23:=underlying23;have z3:=eQ;have fG:=c' aH;obtain⟨w,A⟩:∃w,h.push [x,y]=w:=⟨_,O⟩;rw[A]at l0;rw[A];unfold im at c1 u;refine cq O func94 O ?_;refine dL @KU @bG @A ?_;refine bJ.gen λq i v K eg=>?_;have f1:q.get 1=.ac z0 s (ay aH):=by rw[i];exact gS
 have f2:q.get 2=.ptr (.box (F h.V)) 0:=by rw[i];exact gS
 have f5:q.get 5=(0:Nat):=by rw[i];exact gR
 have G:q.defers=[]:=by rw[v];exact gS
 clear i v K eg bx;refine cK (λz1 D H=>∃f:Nat,f<=F aH/\z1=F aH-f/\aj ((aH.take f).all b8=aa)/\D.get 1=.ac z0 s (ay aH)/\D.get 2=.ptr (.box (F h.V)) 0/\D.get 5=(f:Nat)/\D.defers=[]/\H=w) ?_ (F aH) _ _ ?_;rotate_left 1
 .exact⟨0,ck _,O,⟨cB⟩,f1,f2,f5,G,O⟩
 clear f1 f2 f5 G;rintro z1 D H ⟨f,hi,rfl,ka,g1,g2,g5,hd,rfl⟩;by_cases e:f<F aH
 .have dY:s=1:=ks.M (by intro z2;rw[z2]at e;simp at e);subst dY;have ld:=ev (H:=H) (s:=1) e;have o:aH[f]?=J (ah aH f):=by rw[aW e,fy e]
  have iy:(f:Int)<(F aH:Int):=by omega
  have B:=u (ah aH f);have j:(aH.take (f+1)).all b8=b8 (ah aH f):=by rw[fS o,rE,ka.M];simp
  have kt:=aj.mk (au j (dk o));clear j o u;generalize ah aH f=n at *
  cases k:b8 n with
  |false=>rw[k]at B;have kf:aj (aH.all b8=ar):=⟨by rw[List.all_eq_false];exact⟨n,kt.M.2,by rw[k];simp⟩⟩;clear k;refine bB @KU @bh ?_;exact⟨_,_,O,O,by rw[kf.M];rfl⟩
  |true=>rw[k]at B;have kt2:aj ((aH.take (f+1)).all b8=aa):=⟨kt.M.1.trans k⟩;clear k;refine bB @KU @bh ?_;exact⟨F aH-(f+1),by omega,f+1,by omega,O,kt2,by simp⟩
 .have:f=F aH:=by omega
  subst this;have:=ka.M;rw[gu]at this;have kan:=aj.mk this;have m:decide ((F aH:Int)=(b7 U:Int))=decide (F aH=b7 U):=by rw[decide_eq_decide];omega
  have kd:=aj.mk m;clear this u m;generalize decide (F aH=b7 U)=dd at *
  refine br @KU ?_;exact⟨_,_,O,O,by rw[kan.M,kd.M];rfl⟩
def apE(p:Pr):Bool:=decide (0<=p.bC)&&decide (p.bC<64)&&decide (0<=p.no)&&decide (p.no<4096)&&b8 p.d&&b8 p.e
def DR:Tryz.f98.results.toList=[.cell 2 118]:=by kernel_rfl
def afI:iK af 118 [(0,.v (.int .i64 3))]=J (.agg (aD 3 0 [] .nil 0 [])):=by kernel_rfl
def dn(n:Int):List I:=aD 1 n [] .nil 0 []
def Sj(f:(I.agg r).bL=J r)(e:F r=4):bU af (H.push (aD 0 0 [] .nil 0 [])) 118 (.ptr (.box (F H.V)) 0) (.agg r)=J (H.push r):=jC f oo e rfl
def Zf(f:F r=4)(e:b<F H.V):aF af Gt (H.put b r) 118 (.ptr (.box b) 0)=J (.agg r):=oa f (dy e)
def ab7{z}(i:H.V[b]?=J z)(j:F z=4)(f:(I.agg r).bL=J r)(e:F r=4):bU af H 118 (.ptr (.box b) 0) (.agg r)=J (H.put b r):=by rw[e7 f oo i e ag,vU ag]
def amG(h:am)(eH:cS h=aa)(k:Tok)(l:List Int)(hl:F l<=1000)(w:l≠[])(hb:∀n∈l,0<=n/\n<=4611686018427387903):
 ∃r h',W6.call 98 [.ac k 1 (ay l)] h=J (r,h')/\∃n,r=.ret (.agg (aD 3 0 [] (.free n) 4 (l.map dn))):=by
 have z:=uL;have bd:=afI;have u23:=underlying23;have u94:=underlying116;have z3:=eQ;have fG:=c' l;have s1:=Sj (H:=h.push (aD 0 0 [] .nil 0 [])) (r:=aD 3 0 [] .nil 0 []) O O;have v:F (h.push (aD 0 0 [] .nil 0 [])).V=F h.V+1:=bP _ _;have G0:qh h ((h.push (aD 0 0 [] .nil 0 [])).push (aD 3 0 [] .nil 0 [])) (F h.V+1) ((l.map Vl.int).take 0) .nil 0 []:=⟨by rw[<-v];exact aQ _ _,.inl O,eH,(Ext.push _ _).trans (.push _ _),Nat.le_succ _,⟨O,λe z4 r z1=>by simp at z1⟩,λz1=>absurd O z1,λ_=>.inr O,O⟩;have B0:((h.push (aD 0 0 [] .nil 0 [])).push (aD 3 0 [] .nil 0 [])).V[F h.V]?=J (aD 0 0 [] .nil 0 []):=aP (aQ _ _);have o:=aj.mk (au G0 B0);rw[v]at s1;clear G0 B0;have kb:=aj.mk (au hb w);clear hb w;obtain⟨H0,hH⟩:∃H0,(h.push (aD 0 0 [] .nil 0 [])).push (aD 3 0 [] .nil 0 [])=H0:=⟨_,O⟩;rw[hH]at s1 o;refine cq O func98 O ?_;refine dL @DR @bG @jp ?_;refine bJ.gen λj i u fA eg=>?_;have f0:j.get 0=.ac k 1 (ay l):=by rw[i];exact gS
 have f2:j.get 2=.ptr (.box (F h.V)) 0:=by rw[i];exact gS
 have f3:j.get 3=.ptr (.box (F h.V+1)) 0:=by rw[i];simp only[gW,reduceIte,aR,aM,bP]
 have f4:j.get 4=(0:Nat):=by rw[i];exact gR
 have fd:j.defers=[]:=by rw[u];exact gS
 clear i u fA eg s1 hH z bd;refine cK (λz2 z0 H=>∃(e:Nat) (t:Tok) (sz:Nat),e<=F l/\z2=F l-e/\aj (qh h H (F h.V+1) ((l.map Vl.int).take e) t sz ((l.take e).map dn)/\H.V[F h.V]?=J (aD 0 0 [] .nil 0 []))/\aj (0<e->(∃n,t=.free n)/\sz=4)/\z0.get 0=.ac k 1 (ay l)/\z0.get 2=.ptr (.box (F h.V)) 0/\z0.get 3=.ptr (.box (F h.V+1)) 0/\z0.get 4=(e:Nat)/\z0.defers=[]) ?_ (F l) _ _ ?_;rotate_left 1
 .exact⟨0,.nil,0,ck _,O,o,⟨λz1=>absurd z1 (EH _)⟩,f0,f2,f3,f4,fd⟩
 clear f0 f2 f3 f4 fd o;rintro z2 z0 H ⟨e,t,sz,hi,rfl,f,kN,g0,g2,g3,g4,hd⟩;by_cases m:e<F l
 .have q:l[e]?=J (ah l e):=by rw[aW m,fy m]
  have B:cW (.int (ah l e)) (dn (ah l e)):=.int _ (kb.M.1 _ (dk q));have ld:=ev (H:=H) (s:=1) m;have c:=λH=>abo (ah l e) H;have A:F ((l.take e).map dn)<1000000:=by rw[bI,dF];omega
  have l3:=lj f.M.1.box;have ap:=zT (r:=dn (ah l e)) A f.M.1.four f.M.1.nil f.M.1.can;have bl:=zZ (r:=dn (ah l e)) O O;have st:=zw (H:=H.app t) (t2:=.free H.tn) (sz2:=4) (rows2:=(l.take e).map dn++[dn (ah l e)]) (by rw[dC];exact f.M.1.box);have E:=f.M.1.put B O;have G:(l.take e).map dn++[dn (ah l e)]=(l.take (e+1)).map dn:=by rw[fS q,jr];rfl
  have e2:(l.map Vl.int).take e++[Vl.int (ah l e)]=(l.map Vl.int).take (e+1):=by rw[fS (x:=Vl.int (ah l e)) (by rw[ek,q];rfl)]
  rw[G,e2]at E;rw[G]at ap st;have kG2:aj (qh h ((H.app t).put (F h.V+1) (aD 3 0 [] (.free H.tn) 4 ((l.take (e+1)).map dn))) (F h.V+1) ((l.map Vl.int).take (e+1)) (.free H.tn) 4 ((l.take (e+1)).map dn)/\((H.app t).put (F h.V+1) (aD 3 0 [] (.free H.tn) 4 ((l.take (e+1)).map dn))).V[F h.V]?=J (aD 0 0 [] .nil 0 [])):=⟨E,by rw[cG ag,dC];exact f.M.2⟩;have kN2:aj (0<e+1->(∃n,Tok.free H.tn=.free n)/\4=4):=⟨λ_=>⟨⟨_,O⟩,O⟩⟩;have iy:(e:Int)<(F l:Int):=by omega
  have D:aD 1 (ah l e) [] .nil 0 []=dn (ah l e):=rfl;rw[D]at c;clear E G e2 q B A f kN D;generalize dn (ah l e)=r at *
  generalize ah l e=n at *
  unfold im at *
  refine dL @DR @fh @bh ?_
  repeat' (first|simp(maxSteps:=9^9) (disch:=first|exact dZ|fail) only[gW,reduceIte,aR,aM,DR,fh,bh, *]|(refine dX ?_ ?_<;>(intro _;try omega))|refine eI agO cD ?_)
  exact⟨F l-(e+1),by omega,e+1,.free H.tn,4,by omega,O,(by first|exact kG2|trivial),(by first|exact kN2|trivial),by simp⟩
 .have gw:e=F l:=by omega
  subst gw;obtain⟨⟨n,rfl⟩,rfl⟩:=kN.M (BJ.2 kb.M.2);have K:=f.M.1;rw[gu]at K;have ld:=oa (r:=aD 3 0 [] (.free n) 4 (l.map dn)) O K.box;have st:=ab7 (r:=aD 3 0 [] (.free n) 4 (l.map dn)) f.M.2 O O O;have ll:=Zf (H:=H) (r:=aD 3 0 [] (.free n) 4 (l.map dn)) O (aU.1 f.M.2).1;clear K f kN;refine br @DR ?_;exact⟨_,_,O,n,O⟩
def L7:List bk:=L6++[131,84,94,253,197,199,198,137,196,200,98,194]
noncomputable def Kt:bk->Option (List I->am->Option (I × am)):=mN W6 L7
noncomputable abbrev W7:=whole af Gt Kt
def It:nG Kt L7:=t_
section
variable (R:Rec) (L:List bk)
noncomputable def up:Rec:=whole af Gt (mN R L)
def xJ:Prop:=∀n h,R.call 97 [im n] h=J (.ret (.agg (dn n)),h)
def xL:Prop:=∀s h,R.call 99 [sv s] h=J (.ret (.agg (aD 2 0 s .nil 0 [])),h)
def Me:Prop:=∀(e b:List UInt8) (f:Tok),F b<=1099511610000->F e<=1099511610000->∀h,R.call 241 [.v (.string (bs e)),.ac f 1 (bV b)] h=J (.ret (im (q_ (mg e b):Nat)),h)
def xI:Prop:=∀(e:Vl) (r:List I),cW e r->gc e<=16->F (cr e)<=1099511600000->∃t,∀h,R.call 100 [.agg r] h=J (.ret (.tuple [.ac t 1 (bV (cr e)),.v (.int .i64 0)]),h)
def xK:Prop:=∀(l:List Vl) (U:List (List I)),gy l U->dV U=U->∀e:Tok,F U<=1000000->∀h,R.call 96 [.ac e 4 U] h=J (.ret (.agg (aD 3 0 [] (cJ e) 4 U)),h)
def BF(g:bk):Prop:=∀x n h,R.call g [im x,im n] h=J (.ret (im (eO x n)),h)
def Mg(g:bk):Prop:=∀x n h,R.call g [im x,im n] h=J (.ret (im (pm x n)),h)
def BD(g:bk):Prop:=∀x n h,R.call g [im x,im n] h=J (.ret (im (cV x n)),h)
def BE(g:bk):Prop:=∀x n h,R.call g [im x,im n] h=J (.ret (im (cO x n)),h)
def Mj(g:bk):Prop:=∀x h,R.call g [im x] h=J (.ret (.v (.bool (b8 x))),h)
def Mh:Prop:=∀p h,R.call 253 [.agg (bm p)] h=J (.ret (.v (.bool (apE p))),h)
def Mf:Prop:=∀x l,PL x l->F l<=1000000->∃X,IL X (l.map Pr.bC)/\∀h,R.call 197 [x] h=J (.ret X,h)
def xG:Prop:=∀x y U ae,RL x U->IL y ae->F U<=1000000->∀h,R.call 40 [.agg [x,y]] h=J (.ret (im (cE U ae)),h)
def BC:Prop:=∀x y z U ae ak,RL x U->IL y ae->IL z ak->F U<=1000000->F ak<=1099511627776->
 (∃e,fg U ae ak=([],ar,e)/\∀h,R.call 44 [.agg [x,y],z] h=J (.ret (.tuple [.ac .nil 0 [],(ar:I),((e:Int):I)]),h))∨
 ∃l,fg U ae ak=(l,aa,0)/\F l=F U/\∀h,R.call 44 [.agg [x,y],z] h=J (.ret (.tuple [.ac .held 1 (ay l),(aa:I),.v (.int .i64 0)]),h)
def Hy:Prop:=∀x y z U ae aH,RL x U->IL y ae->IL z aH->F aH<=1000000->∀h,R.call 94 [.agg [x,y],z] h=J (.ret (.v (.bool (aH.all b8&&decide (F aH=b7 U)))),h)
def Mc:Prop:=∀x y U ae,RL x U->IL y ae->∃b,(b=aa->F U<=80/\F ae<=80)/\∀h,R.call 84 [.agg [x,y]] h=J (.ret ((b:Bool):I),h)
def zE:Prop:=∀(e:Tok) (l:List Int),F l<=1000->l≠[]->(∀n∈l,0<=n/\n<=4611686018427387903)->∀h,R.call 98 [.ac e 1 (ay l)] h=J (.ret (.agg (aD 3 0 [] .held 4 (l.map dn))),h)
def Mi(g:bk):Prop:=∀x y a b,IL x a->IL y b->F a<=1000000->F b<=1000000->∀h,R.call g [x,y] h=J (.ret (.v (.bool (decide (a=b)))),h)
end
section
variable {R:Rec} {L:List bk}
def PL.iE(h:PL x l):PL (av x) l/\aI 0 0 0 (av x)=aa:=by
 obtain⟨j,s,rfl,i⟩:=h;have h1:∀l:List Pr,dV (cU l)=cU l:=λl=>by
  induction l with
  |nil=>rfl|cons p l e=>show bA (bm p)::dV (cU l)=_;rw[e];rfl
 have f:∀l:List Pr,fX 0 0 0 (cU l)=aa:=λl=>by
  induction l with
  |nil=>rfl|cons p l e=>show(aJ 0 0 0 (bm p)&&fX 0 0 0 (cU l))=aa;rw[e];rfl
 rw[av,h1];exact⟨⟨cJ j,s,O,i⟩,by rw[aI,fB,f];rfl⟩
def xJ.up(e:L.contains 97=aa)(c:xJ R):xJ (up R L):=λn=>bX e O O (c n _) O rfl
def xL.up(e:L.contains 99=aa)(c:xL R):xL (up R L):=λs=>bX e O O (c s _) O rfl
def Me.up(i:L.contains 241=aa)(c:Me R):Me (up R L):=λe b j f ht=>
 bX (A:=[.v (.string (bs e)),.ac (cJ j) 1 (bV b)]) i (by rw[bA,bA,av.eq_1,tf];rfl) (by simp[aJ,aI,fB,nm]) (c e b _ f ht _) O rfl
def xI.up(i:L.contains 100=aa)(c:xI R):xI (up R L):=λm r k f j=>by obtain⟨h1,e⟩:=cW.hold m r k;obtain⟨t,c⟩:=c m _ h1 f j;exact⟨cJ t,bX (A:=[.agg (bA r)]) i O (by simpa [aJ,aI] using e) (c _) O (by simp[aI,aJ,fB,nm])⟩
def xK.up(k:L.contains 96=aa)(c:xK R):xK (up R L):=λl U f D i j=>by
 have m:cW (.ac l) (aD 3 0 [] i 4 U):=.ac l i 4 U f.1 (λ_=>rfl) j f.2;obtain⟨h1,e⟩:=cW.hold _ _ m;have o:bA (aD 3 0 [] i 4 U)=aD 3 0 [] (cJ i) 4 (dV U):=rfl;rw[o,D]at h1 e;refine bX (A:=[.ac (cJ i) 4 U]) k ?_ ?_ (c l U f D (cJ i) j _) ?_ ?_
 .simp only[bA,av,D]
 .exact ZT37
 .show I.agg [im 3,im 0,sv [],.ac (cJ (cJ (cJ i))) 4 U]=_;rw[iE,iE];rfl
 .rw[aI];exact e
def BF.up(e:L.contains g=aa)(c:BF R g):BF (up R L) g:=λx n=>bX e O O (c x n _) O rfl
def Mg.up(e:L.contains g=aa)(c:Mg R g):Mg (up R L) g:=λx n=>bX e O O (c x n _) O rfl
def BD.up(e:L.contains g=aa)(c:BD R g):BD (up R L) g:=λx n=>bX e O O (c x n _) O rfl
def BE.up(e:L.contains g=aa)(c:BE R g):BE (up R L) g:=λx n=>bX e O O (c x n _) O rfl
def Mj.up(e:L.contains g=aa)(c:Mj R g):Mj (up R L) g:=λx=>bX e O O (c x _) O rfl
def Mh.up(e:L.contains 253=aa)(c:Mh R):Mh (up R L):=λp=>bX e O O (c p _) O rfl
def IL.al9{l}(hx:IL x l)(h):IL (ea h x) l/\aI 0 0 0 (ea h x)=aa:=by obtain⟨f,s,rfl,e⟩:=hx;refine⟨⟨cJ f,s,O,e⟩,?_⟩;show aI 0 0 0 (.ac (cJ f) s (ay l))=aa;rw[aI,fB,jw];rfl
def Mf.up(k:L.contains 197=aa)(c:Mf R):Mf (up R L):=λx l hx m=>by obtain⟨h1,e⟩:=hx.iE;obtain⟨X,j,c⟩:=c _ l h1 m;obtain⟨f,i⟩:=j.al9 ⟨[],[],0,[]⟩;exact⟨_,f,bX (A:=[av x]) k O (by simp[aJ,e]) (c _) O i⟩
def xG.up(j:L.contains 40=aa)(c:xG R):xG (up R L):=λx y U ae hx E k=>by obtain⟨h1,e⟩:=hx.iE;obtain⟨f,i⟩:=E.hold;exact bX (A:=[.agg [av x,av y]]) j O (by simp[aJ,aI,e,i]) (c _ _ U ae h1 f k _) O rfl
def BC.up(k:L.contains 44=aa)(c:BC R):BC (up R L):=λx y z U ae ak hx E v u hw=>by
 obtain⟨h1,f⟩:=hx.iE;obtain⟨o,i⟩:=E.hold;obtain⟨q,j⟩:=v.hold;rcases c _ _ _ U ae ak h1 o q u hw with⟨w,e,hc⟩|⟨l,e,m,hc⟩
 .exact .inl ⟨w,e,bX (A:=[.agg [av x,av y],av z]) k O (by simp[aJ,aI,f,i,j]) (hc _) O O⟩
 .exact .inr ⟨l,e,m,bX (A:=[.agg [av x,av y],av z]) k O (by simp[aJ,aI,f,i,j]) (hc _) O (by simp[aI,aJ,jw,qI])⟩
def Hy.up(m:L.contains 94=aa)(c:Hy R):Hy (up R L):=λx y z U ae aH hx E q o=>by obtain⟨h1,e⟩:=hx.iE;obtain⟨f,i⟩:=E.hold;obtain⟨j,k⟩:=q.hold;exact bX (A:=[.agg [av x,av y],av z]) m O (by simp[aJ,aI,e,i,k]) (c _ _ _ U ae aH h1 f j o _) O rfl
def Mc.up(m:L.contains 84=aa)(c:Mc R):Mc (up R L):=λx y U ae hx E=>by obtain⟨e,f⟩:=hx.iE;obtain⟨i,j⟩:=E.hold;obtain⟨b,k,hc⟩:=c _ _ U ae e i;exact⟨b,k,bX (A:=[.agg [av x,av y]]) m O (by simp[aJ,aI,f,j]) (hc _) O O⟩
def JD:∀l:List Int,dV (l.map dn)=l.map dn/\fX 0 0 0 (l.map dn)=aa
 | []=>⟨O,O⟩
 |n::l=>by
  obtain⟨h1,e⟩:=JD l;refine⟨?_,?_⟩
  .show bA (dn n)::dV (l.map dn)=_;rw[h1];rfl
  .show(aJ 0 0 0 (dn n)&&fX 0 0 0 (l.map dn))=aa;rw[e];rfl
def zE.up(f:L.contains 98=aa)(c:zE R):zE (up R L):=λk l i j e=>
 bX (A:=[.ac (cJ k) 1 (ay l)]) f (by rw[bA,bA,av,ta]) (by simp[aJ,aI,fB,jw]) (c _ l i j e _) O (by simp only[aD,aI,aJ,(JD l).2];rfl)
def Mi.up(m:L.contains g=aa)(c:Mi R g):Mi (up R L) g:=λx y a b hx E j k=>by obtain⟨h1,e⟩:=hx.hold;obtain⟨f,i⟩:=E.hold;exact bX (A:=[av x,av y]) m O (by simp[aJ,e,i]) (c _ _ a b h1 f j k _) O rfl
end
def amE:xJ W7:=xJ.up O λn h=>abo n h
def awW:xL W7:=xL.up O λs h=>aud s h
def aiU:xI W7:=xI.up O λj r i e f=>arI i e f
def anV:xK W7:=xK.up O λl U f D i e h=>by rw[asP f D i e h]
def agK:BD W7 130:=BD.up O λx n h=>arv x n h
def ajF:BE W7 202:=BE.up O λx n h=>asV x n h
def aet:BC W6:=λx y z U ae ak hx E v u hw=>by
 obtain⟨h1,i⟩:=hx.iE;obtain⟨o,j⟩:=E.hold;obtain⟨q,k⟩:=v.hold;obtain⟨r,B,hc,⟨w,e,rfl⟩|⟨l,b,e,f,rfl,m⟩⟩:=aey ⟨[],[],0,[]⟩ O _ _ _ U ae ak h1 o q u hw
 .exact .inl ⟨w,e,bX (L:=L6) (A:=[.agg [av x,av y],av z]) O O (by simp[aJ,aI,i,j,k]) hc O O⟩
 .refine .inr ⟨l,e,f,bX (L:=L6) (A:=[.agg [av x,av y],av z]) O O (by simp[aJ,aI,i,j,k]) hc ?_ (by simp[aI,aJ,jw,qI])⟩;rw[ea,ja,A4 m f];rfl
def aeu:BC W7:=BC.up O aet
def ahx:xG W6:=xG.up O λx y U ae hx E e h=>abd x y U ae hx E e h
def Vk:xG W7:=xG.up O ahx
def ah4:Hy W7:=λx y z U ae aH hx E o m=>by obtain⟨h1,e⟩:=hx.iE;obtain⟨f,i⟩:=E.hold;obtain⟨j,k⟩:=o.hold;obtain⟨r,q,c,-,rfl⟩:=ah6 ⟨[],[],0,[]⟩ _ _ _ U ae aH h1 f j m;exact bX (L:=L7) (A:=[.agg [av x,av y],av z]) O O (by simp[aJ,aI,e,i,k]) c O rfl
def amH:zE W7:=λj l f i e=>by obtain⟨r,k,c,n,rfl⟩:=amG ⟨[],[],0,[]⟩ O (cJ j) l f i e;exact bX (L:=L7) (A:=[.ac (cJ j) 1 (ay l)]) O (by rw[bA,bA,av,ta]) (by simp[aJ,aI,fB,jw]) c O (by simp only[aD,aI,aJ,(JD l).2];rfl)
def RD:Tryz.f41.results.toList=[.tmp 2]:=by kernel_rfl
def ane(h:am)(ep:Int)(X Y C:I)(U:List (List Int))(ae aH:List Int)(hx:RL X U)(E:IL Y ae)(hc:IL C aH)(q:F aH<=1000000):
 ∃r h',W7.call 41 [.agg (aG ep X Y C)] h=J (r,h')/\r=.ret (.v (.bool (iF U ep aH))):=by
 have D:=ah4 X Y C U ae aH hx E hc q;have B:=mV (ep:=ep) hx E hc;have i:=aQ h (aG ep X Y C);have v:aF af Gt (h.push (aG ep X Y C)) 3 (.ptr (.box (F h.V)) 0)=J ((ep:Int):I):=di eu i O;have w:aF af Gt (h.push (aG ep X Y C)) 25 (.ptr (.box (F h.V)) 1)=J (.agg [X,Y]):=by rw[gt BU acE i (kj O)];rfl
 have A:aF af Gt (h.push (aG ep X Y C)) 23 (.ptr (.box (F h.V)) 3)=J C:=di kC i O;have e:aj (iF U ep aH=(decide (0<=ep)&&decide (ep<=64)&&decide (F aH=b7 U)&&aH.all b8)):=⟨O⟩;generalize iF U ep aH=res at *
 clear hx E hc i;obtain⟨H,j⟩:∃H,h.push (aG ep X Y C)=H:=⟨_,O⟩;rw[j]at v w A;generalize aG ep X Y C=K at *
 refine cq O func41 O ?_;by_cases h1:0<=ep;rotate_left 1
 .have o:res=ar:=by rw[e.M];simp[h1]
  have k:decide (0<=ep)=ar:=cR h1;clear h1 e;subst o;refine b_ @RD @bG @j (au @yk (au @kZ @mR)) ?_;exact⟨_,_,O,O⟩
 have k:decide (0<=ep)=aa:=cy h1;by_cases f:ep<=64;rotate_left 1
 .have o:res=ar:=by rw[e.M];simp[f]
  have m:decide (ep<=64)=ar:=cR f;clear h1 f e;subst o;refine b_ @RD @bG @j (au @yk (au @kZ @mR)) ?_;exact⟨_,_,O,O⟩
 have m:decide (ep<=64)=aa:=cy f;have u:aj (res=(aH.all b8&&decide (F aH=b7 U))):=⟨by rw[e.M,k,m,pP,pP,Bool.and_comm]⟩;clear h1 f e;generalize (aH.all b8&&decide (F aH=b7 U))=G at *
 refine b_ @RD @bG @j (au @yk (au @kZ @mR)) ?_;exact⟨_,_,O,by rw[u.M]⟩
def xg(p:Pr):List I:=aD 3 0 [] .held 4 ([p.bC,p.no,p.d,p.e].map dn)
def aep(p:Pr):Prop:=∀n∈[p.bC,p.no,p.d,p.e],0<=n/\n<=4611686018427387903
def Yg:∀l:List Pr,dV (l.map xg)=l.map xg/\fX 0 0 0 (l.map xg)=aa
 | []=>⟨O,O⟩
 |p::l=>by
  obtain⟨h1,e⟩:=Yg l;refine⟨?_,?_⟩
  .show bA (xg p)::dV (l.map xg)=_;rw[h1];rfl
  .show(aJ 0 0 0 (xg p)&&fX 0 0 0 (l.map xg))=aa;rw[e];rfl
def L8:List bk:=L7++[60,61,31,41,240,243]
noncomputable def Rg:bk->Option (List I->am->Option (I × am)):=mN W7 L8
noncomputable abbrev W8:=whole af Gt Rg
def B_:nG Rg L8:=t_
section
variable (R:Rec)
def Mk:Prop:=∀(e:Tok) (l:List Pr),F l<=1000->l≠[]->(∀p∈l,aep p)->∀h,R.call 240 [.ac e 4 (cU l)] h=J (.ret (.agg (aD 3 0 [] .held 4 (l.map xg))),h)
def Hz:Prop:=∀ep X Y C U ae aH,RL X U->IL Y ae->IL C aH->F aH<=1000000->∀h,R.call 41 [.agg (aG ep X Y C)] h=J (.ret (.v (.bool (iF U ep aH))),h)
def Md:Prop:=∀ep X Y C T L U ae aH aq l,RL X U->IL Y ae->IL C aH->BL T aq->PL L l->
 ∃b,(b=aa->F U<=80/\F ae<=80/\F aH<=80/\F aq<=70000/\F l<=80)/\∀h,R.call 31 [.agg (aG ep X Y C),T,L] h=J (.ret ((b:Bool):I),h)
end
def BL.iE{b}(h:BL x b):BL (av x) b/\aI 0 0 0 (av x)=aa:=by obtain⟨f,s,rfl,e⟩:=h;rw[av,tf];exact⟨⟨cJ f,s,O,e⟩,by rw[aI,fB,nm];rfl⟩
def aat(l):dV (cU l)=cU l/\fX 0 0 0 (cU l)=aa:=by
 induction l with
 |nil=>exact⟨O,O⟩|cons p l e=>
  refine⟨?_,?_⟩
  .show bA (bm p)::dV (cU l)=_;rw[e.1];rfl
  .show(aJ 0 0 0 (bm p)&&fX 0 0 0 (cU l))=aa;rw[e.2];rfl
section
variable {R:Rec} {L:List bk}
def ajo(l:List Pr):aI 0 0 0 (.agg (aD 3 0 [] .held 4 (l.map xg)))=aa:=by simp only[aD,aI,aJ,(Yg l).2];rfl
def Mk.up(f:L.contains 240=aa)(c:Mk R):Mk (up R L):=λk l i j e=>
 bX (A:=[.ac (cJ k) 4 (cU l)]) f (by rw[bA,bA,av,(aat l).1]) (by simp[aJ,aI,fB,(aat l).2]) (c _ l i j e _) O (ajo l)
def Hz.up(m:L.contains 41=aa)(c:Hz R):Hz (up R L):=λep X Y C U ae aH hx E hc o=>by obtain⟨h1,e⟩:=hx.iE;obtain⟨f,i⟩:=E.hold;obtain⟨j,k⟩:=hc.hold;exact bX (A:=[.agg (aG ep (av X) (av Y) (av C))]) m O (by simp[aG,aJ,aI,e,i,k]) (c ep _ _ _ U ae aH h1 f j o _) O rfl
def Md.up(w:L.contains 31=aa)(c:Md R):Md (up R L):=λep X Y C T B U ae aH aq l hx E hc ht hp=>by obtain⟨h1,f⟩:=hx.iE;obtain⟨i,j⟩:=E.hold;obtain⟨k,m⟩:=hc.hold;obtain⟨o,q⟩:=ht.iE;obtain⟨u,e⟩:=hp.iE;obtain⟨b,v,c⟩:=c ep _ _ _ _ _ U ae aH aq l h1 i k o u;exact⟨b,v,bX (A:=[.agg (aG ep (av X) (av Y) (av C)),av T,av B]) w O (by simp[aG,aJ,aI,f,j,m,q,e]) (c _) O O⟩
end
def amF:xJ W8:=amE.up rfl
def awX:xL W8:=awW.up rfl
def aiV:xI W8:=aiU.up rfl
def anY:xK W8:=anV.up rfl
def aeF:BD W8 130:=agK.up rfl
def ahy:xG W8:=Vk.up rfl
def anf:Hz W8:=λep X Y C U ae aH hx E hc m=>by obtain⟨h1,e⟩:=hx.iE;obtain⟨f,i⟩:=E.hold;obtain⟨j,k⟩:=hc.hold;obtain⟨r,o,c,rfl⟩:=ane ⟨[],[],0,[]⟩ ep _ _ _ U ae aH h1 f j m;exact bX (L:=L8) (A:=[.agg (aG ep (av X) (av Y) (av C))]) O O (by simp[aG,aJ,aI,e,i,k]) c O rfl
def aAe:Tryz.f143.results.toList=[.tmp 2]:=by kernel_rfl
def aAf:Tryz.f170.results.toList=[.tmp 2]:=by kernel_rfl
def KC:Tryz.f144.results.toList=[.tmp 4]:=by kernel_rfl
def tE:Tryz.f171.results.toList=[.tmp 4]:=by kernel_rfl
def KF:Tryz.f38.results.toList=[.tmp 2]:=by kernel_rfl
def ZS15{p:Prop}(h:p:=by
 unfold im Bw;by_cases e:0<=t
 .refine cX O Q70 O ?_;have:decide (0<=t)=aa:=by simp[e]
  exact f_ @Q71 @pP
 .refine cX O Q70 O ?_;have:decide (0<=t)=ar:=by simp[e]
  exact f_ @Q71 @Bool.false_and):p:=h
section
open Tryz renaming func143->Q70
open YtcbhpkjbiehcpaaGreatDoor renaming aAe->Q71
def aw1(t:Int)(h:am):W8.call 143 [im t] h=J (.ret (.v (.bool (Bw t))),h):=ZS15
end
section
open Tryz renaming func170->Q70
open YtcbhpkjbiehcpaaGreatDoor renaming aAf->Q71
def aw2(t:Int)(h:am):W8.call 170 [im t] h=J (.ret (.v (.bool (Bw t))),h):=ZS15
end
def VQ{l}(h:i<F l):l.drop i=ah l i::l.drop (i+1):=by rw[we h,fy h]
def ZT27{p:Prop}(h:p:=by
 repeat' (first|simp(maxSteps:=9^9) (disch:=first|exact dZ|fail) only[gW,reduceIte,aR,aM,KC,bh, *]|refine dX ?_ ?_<;>(intro _;try omega))
 all_goals exact⟨_,_,O,O,by rw[k.M]⟩):p:=h
def anT(h:am)(x:I)(l:List Int)(e:Int)(hx:IL x l)(hl:F l<=9223372036854775807):∃r h',W8.call 144 [x,im e] h=J (r,h')/\h'=h/\r=.ret (.v (.bool (ij l e))):=by
 obtain⟨z0,s,rfl,u⟩:=hx;have E:=aj.mk u;clear u;have u23:=underlying23;have z3:=eQ;have fG:=c' l;unfold im;refine cq O func144 O ?_;refine br @KC ?_;refine cK (λz1 m H=>∃(f:Nat) (last:Int),f<=F l/\z1=F l-f/\aj (oJ e last (l.drop f)=oJ e (-1) l)/\m.get 0=.ac z0 s (ay l)/\m.get 1=(e:Int)/\m.get 5=(last:Int)/\m.get 8=.ac z0 s (ay l)/\m.get 9=(F l:Nat)/\m.get 10=(f:Nat)/\m.defers=[]/\H=h) ?_ (F l) _ _ ?_;rotate_left 1
 .refine⟨0,-1,ck _,O,⟨O⟩,?_,?_,?_,?_,?_,?_,?_,O⟩<;>exact gR
 rintro z1 m H ⟨f,last,hi,rfl,w,g0,g1,g5,g8,g9,K,hd,rfl⟩;by_cases i:f<F l
 .have v:s=1:=E.M (by intro G;rw[G]at i;simp at i);subst v;have ld:=ev (H:=H) (s:=1) i;have B:(f:Int)<(F l:Int):=by omega
  have o:aj (oJ e (-1) l=(decide (last<ah l f)&&decide (ah l f<e)&&oJ e (ah l f) (l.drop (f+1)))):=⟨by rw[<-w.M,VQ i,oJ]⟩;generalize ah l f=j at *
  by_cases q:j<=last
  .have k:aj (ij l e=ar):=⟨by unfold ij;rw[o.M,cR (ag:¬last<j)];rfl⟩;have d1:decide (j<=last)=aa:=cy q
   exact ZT27
  .have d1:decide (j<=last)=ar:=cR q;by_cases A:e<=j
   .have k:aj (ij l e=ar):=⟨by unfold ij;rw[o.M,cR (ag:¬j<e),Bool.and_false];rfl⟩;have d2:decide (j>=e)=aa:=cy A
    exact ZT27
   .have D:aj (oJ e j (l.drop (f+1))=oJ e (-1) l):=⟨by rw[o.M,cy (ag:last<j),cy (ag:j<e)];rfl⟩;have d2:decide (j>=e)=ar:=cR ag
    repeat' (first|simp(maxSteps:=9^9) (disch:=first|exact dZ|fail) only[gW,reduceIte,aR,aM,KC,bh, *]|refine dX ?_ ?_<;>(intro _;try omega))
    all_goals exact⟨F l-(f+1),by omega,f+1,j,by omega,O,D,by simp⟩
 .have:f=F l:=by omega
  subst this;have k:aj (ij l e=decide (F l<=16)):=⟨by unfold ij;rw[<-w.M,adz];rfl⟩
  repeat' (first|simp(maxSteps:=9^9) (disch:=first|exact dZ|fail) only[gW,reduceIte,aR,aM,KC, *]|refine dX ?_ ?_<;>(intro _;try omega))
  all_goals exact⟨_,_,O,O,by rw[k.M];by_cases G:F l<=16<;>simp[G]<;>omega⟩
def ZT28{p:Prop}(h:p:=by
 repeat' (first|simp(maxSteps:=9^9) (disch:=first|exact dZ|fail) only[gW,reduceIte,aR,aM,KF,bh, *]|refine dX ?_ ?_<;>(intro _;try omega))
 all_goals exact⟨_,_,O,O,by rw[i.M]⟩):p:=h
def apZ(h:am)(x:I)(l:List Int)(hx:IL x l)(hl:F l<=9223372036854775807):∃r h',W8.call 38 [x] h=J (r,h')/\h'=h/\r=.ret (.v (.bool (dD (-1) l))):=by
 obtain⟨z1,s,rfl,q⟩:=hx;have G:=aj.mk q;clear q;have u23:=underlying23;have z3:=eQ;have K:=c' l;refine cq O func38 O ?_;refine br @KF ?_;refine cK (λz0 m H=>∃(f:Nat) (last:Int),f<=F l/\z0=F l-f/\aj (dD last (l.drop f)=dD (-1) l)/\aj (-1<=last)/\m.get 3=(last:Int)/\m.get 6=.ac z1 s (ay l)/\m.get 7=(F l:Nat)/\m.get 8=(f:Nat)/\m.defers=[]/\H=h) ?_ (F l) _ _ ?_;rotate_left 1
 .refine⟨0,-1,ck _,O,⟨O⟩,⟨Et _⟩,?_,?_,?_,?_,?_,O⟩<;>exact gR
 rintro z0 m H ⟨f,last,hi,rfl,v,w,g3,g6,g7,g8,hd,rfl⟩;by_cases e:f<F l
 .have u:s=1:=G.M (by intro z2;rw[z2]at e;simp at e);subst u;have ld:=ev (H:=H) (s:=1) e;have D:(f:Int)<(F l:Int):=by omega
  have k:aj (dD (-1) l=dD last (ah l f::l.drop (f+1))):=⟨by rw[<-v.M,VQ e]⟩;generalize ah l f=j at *
  by_cases o:j<=last
  .have i:aj (dD (-1) l=ar):=⟨by rw[k.M,dD];simp;omega⟩;have d1:decide (j<=last)=aa:=cy o
   exact ZT28
  .have d1:decide (j<=last)=ar:=cR o;by_cases B:64<=j
   .have i:aj (dD (-1) l=ar):=⟨by rw[k.M,dD];simp;omega⟩;have d2:decide (j>=64)=aa:=cy B
    exact ZT28
   .have E:aj (dD j (l.drop (f+1))=dD (-1) l):=⟨by have:=w.M;rw[k.M,dD];simp;omega⟩;have d2:decide (j>=64)=ar:=cR ag;have A:aj (-1<=j):=⟨by have:=w.M;omega⟩
    repeat' (first|simp(maxSteps:=9^9) (disch:=first|exact dZ|fail) only[gW,reduceIte,aR,aM,KF,bh, *]|refine dX ?_ ?_<;>(intro _;try omega))
    all_goals exact⟨F l-(f+1),by omega,f+1,j,by omega,O,E,A,by simp⟩
 .have:f=F l:=by omega
  subst this;have i:aj (dD (-1) l=aa):=⟨by rw[<-v.M,adz];rfl⟩
  repeat' (first|simp(maxSteps:=9^9) (disch:=first|exact dZ|fail) only[gW,reduceIte,aR,aM,KF, *]|refine dX ?_ ?_<;>(intro _;try omega))
  all_goals exact⟨_,_,O,O,by rw[i.M]⟩
def arl:Tryz.f72.results.toList=[.tmp 2]:=by kernel_rfl
def arm:Tryz.f95.results.toList=[.tmp 2]:=by kernel_rfl
def jc(b:UInt8):I:=.v (.int .u8 b.toNat)
def bQ(d:Dc)(p r n:I):List I:=[im d.no,im d.tm,im d.kd,im d.vl,im d.fr,im d.un,p,r,n]++d.tx.map jc
structure nI(d:Dc)(p r n:I):Prop where
 p:IL p d.pa
 r:IL r d.rv
 n:IL n d.nd
 t:d.tx.length=32
def Qs{l}(hx:IL x l)(f:F l<=9223372036854775807)(e):∀h,W8.call 144 [x,im e] h=J (.ret (.v (.bool (ij l e))),h):=λh=>by obtain⟨_,_,c,rfl,rfl⟩:=anT h x l e hx f;exact c
def axf(l:List UInt8):(l.map jc).all I.dm=aa:=by rw[e8];intro x hx;obtain⟨b,-,rfl⟩:=iW.1 hx;rfl
section
variable {d:Dc} {p r n:I} (ok:nI d p r n)
include ok
def nI.len:F (bQ d p r n)=41:=by unfold bQ;rw[db,bI,ok.t];rfl
def nI.cells:(I.agg (bQ d p r n)).bL=J (bQ d p r n):=by obtain⟨_,_,rfl,-⟩:=ok.p;obtain⟨_,_,rfl,-⟩:=ok.r;obtain⟨_,_,rfl,-⟩:=ok.n;have:=axf d.tx;unfold I.bL bQ;simp only;rw[aC];rw[rE,this];rfl
end
def II:(∀b,dQ af 31 (.ptr (.box b) 0) 0=J (.ptr (.box b) 0))/\(∀b,dQ af 31 (.ptr (.box b) 0) 1=J (.ptr (.box b) 1))/\(∀b,dQ af 31 (.ptr (.box b) 0) 2=J (.ptr (.box b) 2))/\(∀b,dQ af 31 (.ptr (.box b) 0) 3=J (.ptr (.box b) 3))/\
 (∀b,dQ af 31 (.ptr (.box b) 0) 4=J (.ptr (.box b) 4))/\(∀b,dQ af 31 (.ptr (.box b) 0) 5=J (.ptr (.box b) 5))/\(∀b,dQ af 31 (.ptr (.box b) 0) 6=J (.ptr (.box b) 6))/\(∀b,dQ af 31 (.ptr (.box b) 0) 7=J (.ptr (.box b) 7))/\
 (∀b,dQ af 31 (.ptr (.box b) 0) 8=J (.ptr (.box b) 8))/\∀b,dQ af 31 (.ptr (.box b) 0) 9=J (.ptr (.box b) 9):=
 ⟨λ_=>by kernel_rfl,λ_=>by kernel_rfl,λ_=>by kernel_rfl,λ_=>by kernel_rfl,λ_=>by kernel_rfl,λ_=>by kernel_rfl,λ_=>by kernel_rfl,λ_=>by kernel_rfl,λ_=>by kernel_rfl,λ_=>by kernel_rfl⟩
def wY{p r n}(e:H.V[b]?=J (bQ d p r n)):aF af Gt H 3 (.ptr (.box b) 0)=J (im d.no)/\aF af Gt H 3 (.ptr (.box b) 1)=J (im d.tm)/\aF af Gt H 3 (.ptr (.box b) 2)=J (im d.kd)/\aF af Gt H 3 (.ptr (.box b) 3)=J (im d.vl)/\aF af Gt H 3 (.ptr (.box b) 4)=J (im d.fr)/\aF af Gt H 3 (.ptr (.box b) 5)=J (im d.un)/\
 aF af Gt H 23 (.ptr (.box b) 6)=J p/\aF af Gt H 23 (.ptr (.box b) 7)=J r/\aF af Gt H 23 (.ptr (.box b) 8)=J n:=by
 refine⟨?_,?_,?_,?_,?_,?_,?_,?_,?_⟩<;>first|(rw[fI eu e];rfl)|(rw[fI kC e];rfl)
def yM(f:F D=41)(e:H.V[b]?=J D):aF af Gt H 31 (.ptr (.box b) 0)=J (.agg D):=by rw[gt cD (by kernel_rfl:cN af 31=J 41) e ag,iI,<-f,gu]
def ar5(h:am)(d:Dc)(p r n:I)(ok:nI d p r n)(e:F d.pa<=9223372036854775807)(f:F d.rv<=9223372036854775807)(i:F d.nd<=9223372036854775807):∃j h',W8.call 72 [.agg (bQ d p r n)] h=J (j,h')/\j=.ret (.v (.bool (gL d))):=by
 have u:=ok.cells;have k:=Qs ok.p e 1048577;have m:=Qs ok.r f d.no;have o:=Qs ok.n i d.no;have q:=aw1 d.tm;have L:=wY (aQ h (bQ d p r n));have z1:=II;clear ok e f i;unfold gL;generalize bQ d p r n=z0 at *
 generalize ij d.pa 1048577=u1 at *
 generalize ij d.rv d.no=u2 at *
 generalize ij d.nd d.no=u3 at *
 generalize Bw d.tm=u4 at *
 obtain⟨B,G,w,vl,v,un,D,E,A,K⟩:=d;simp only at L k m o q ⊢;unfold im at *
 refine cq O func72 O ?_
 repeat' (first|simp(maxSteps:=9^9) (disch:=first|exact dZ|fail) only[gW,reduceIte,aR,aM,arl,bG, *]|refine dX ?_ ?_<;>(intro _;try omega))
 all_goals exact⟨_,_,O,by simp[*]⟩
def anU(h:am)(x:I)(l:List Int)(e:Int)(hx:IL x l)(hl:F l<=9223372036854775807):∃r h',W8.call 171 [x,im e] h=J (r,h')/\h'=h/\r=.ret (.v (.bool (ij l e))):=by
 obtain⟨z1,s,rfl,hs⟩:=hx;have ks:=aj.mk hs;clear hs;have u23:=underlying23;have z3:=eQ;have fG:=c' l;unfold im;refine cq O func171 O ?_;refine br @tE ?_;refine cK (λz0 K H=>∃(f:Nat) (last:Int),f<=F l/\z0=F l-f/\aj (oJ e last (l.drop f)=oJ e (-1) l)/\ -1<=last/\aj (f=0->last= -1)/\aj (0<f->ah l (f-1)=last)/\K.get 0=.ac z1 s (ay l)/\K.get 1=(e:Int)/\K.get 5=(f:Nat)/\K.defers=[]/\H=h) ?_ (F l) _ _ ?_;rotate_left 1
 .refine⟨0,-1,ck _,O,⟨O⟩,Et _,⟨λ_=>rfl⟩,⟨λE=>absurd E (EH _)⟩,?_,?_,?_,?_,O⟩<;>exact gR
 rintro z0 K H ⟨f,last,hi,rfl,kP,FP,k0,k1,g0,g1,g5,hd,rfl⟩;by_cases k:f<F l;rotate_left 1
 .have:f=F l:=by omega
  subst this;have i:ij l e=decide (F l<=16):=by unfold ij;rw[<-kP.M,ot (aT _)];rfl
  have q:=aj.mk i;clear i;refine br @tE ?_;exact⟨_,_,O,O,by rw[q.M];by_cases E:F l<=16<;>simp[E]<;>omega⟩
 have dY:s=1:=ks.M (by intro E;rw[E]at k;simp at k);subst dY;have ld:=ev (H:=H) (s:=1) k;have iy:(f:Int)<(F l:Int):=by omega
 have u:l.drop f=ah l f::l.drop (f+1):=by rw[fy k];exact we k
 have A:=kP.M;rw[u,oJ]at A;have j:=aj.mk A;clear A u;by_cases m:ah l f<0
 .have i_:decide (ah l f<0)=aa:=by simp[m]
  have i:ij l e=ar:=by unfold ij;rw[<-j.M];simp;omega
  have q:=aj.mk i;clear i m;refine bB @tE @bh ?_;refine eI B_ cD ?_;refine bB @tE @bh ?_;exact⟨_,_,O,O,by rw[q.M]⟩
 have i_:decide (ah l f<0)=ar:=by simp[m]
 by_cases v:e<=ah l f
 .have jV:decide (e<=ah l f)=aa:=by simp[v]
  have i:ij l e=ar:=by unfold ij;rw[<-j.M];simp;omega
  have q:=aj.mk i;clear i m v;refine bB @tE @bh ?_;refine eI B_ cD ?_;refine bB @tE @bh ?_;exact⟨_,_,O,O,by rw[q.M]⟩
 have jV:decide (e<=ah l f)=ar:=by simp;omega
 by_cases O0:f=0
 .subst O0;have Jq:=k0.M O;have B:aj (oJ e (ah l 0) (l.drop (0+1))=oJ e (-1) l):=⟨by rw[<-j.M,cy (ag:last<ah l 0),cy (ag:ah l 0<e)];rfl⟩;have w: -1<=ah l 0:=by omega
  have D:aj (0<0+1->ah l (0+1-1)=ah l 0):=⟨λ_=>rfl⟩;clear m v Jq j;refine bB @tE @bh ?_;refine eI B_ cD ?_;refine bB @tE @bh ?_;exact⟨F l-1,by omega,0+1,ah l 0,by omega,O,B,w,⟨λE=>absurd E ag⟩,D,by simp⟩
 .have o:=k1.M ag;have ld1:=ev (H:=H) (l:=l) (i:=f-1) (s:=1) ag;rw[o]at ld1;have azD:decide ((0:Int)<(f:Int))=aa:=cy ag;have azK:(f:Int)-1=((f-1:Nat):Int):=by omega
  have azo:((f-1:Nat):Int)<(F l:Int):=by omega
  by_cases G:ah l f<=last
  .have rZ:decide (ah l f<=last)=aa:=(by simp[G]);have i:ij l e=ar:=(by unfold ij;rw[<-j.M];simp;omega);have q:=aj.mk i;clear i m v G o;refine bB @tE @bh ?_;refine eI B_ cD ?_;refine bB @tE @bh ?_;exact⟨_,_,O,O,by rw[q.M]⟩
  .have rZ:decide (ah l f<=last)=ar:=(by simp;omega);have B:aj (oJ e (ah l f) (l.drop (f+1))=oJ e (-1) l):=⟨by rw[<-j.M,cy (ag:last<ah l f),cy (ag:ah l f<e)];rfl⟩;have w: -1<=ah l f:=(by omega);have D:aj (0<f+1->ah l (f+1-1)=ah l f):=⟨λ_=>rfl⟩;clear m v G o j;refine bB @tE @bh ?_;refine eI B_ cD ?_;refine bB @tE @bh ?_;exact⟨F l-(f+1),by omega,f+1,ah l f,by omega,O,B,w,⟨λE=>absurd E ag⟩,D,by simp⟩
def Qt{l}(hx:IL x l)(f:F l<=9223372036854775807)(e):∀h,W8.call 171 [x,im e] h=J (.ret (.v (.bool (ij l e))),h):=λh=>by obtain⟨_,_,c,rfl,rfl⟩:=anU h x l e hx f;exact c
def ar6(h:am)(d:Dc)(p r n:I)(ok:nI d p r n)(e:F d.pa<=9223372036854775807)(f:F d.rv<=9223372036854775807)(i:F d.nd<=9223372036854775807):∃j h',W8.call 95 [.agg (bQ d p r n)] h=J (j,h')/\j=.ret (.v (.bool (gL d))):=by
 have u:=ok.cells;have k:=Qt ok.p e 1048577;have m:=Qt ok.r f d.no;have o:=Qt ok.n i d.no;have q:=aw2 d.tm;have L:=wY (aQ h (bQ d p r n));have z1:=II;clear ok e f i;unfold gL;generalize bQ d p r n=z0 at *
 generalize ij d.pa 1048577=u1 at *
 generalize ij d.rv d.no=u2 at *
 generalize ij d.nd d.no=u3 at *
 generalize Bw d.tm=u4 at *
 obtain⟨B,G,w,vl,v,un,D,E,A,K⟩:=d;simp only at L k m o q ⊢;unfold im at *
 refine cq O func95 O ?_
 repeat' (first|simp(maxSteps:=9^9) (disch:=first|exact dZ|fail) only[gW,reduceIte,aR,aM,arm,bG, *]|refine dX ?_ ?_<;>(intro _;try omega))
 all_goals exact⟨_,_,O,by simp[*]<;>omega⟩
def Sz(ep:Int)(X Y C S W L N:I):List I:=[im ep,X,Y,C,S,W,L,N]
abbrev nl:I:=.ac .nil 0 []
def sF:cN af 27=J 4:=ax
def awH:cN af 72=J 1:=ax
section
open Go renaming kk46->Q45,kk4->Q46,kk64->Q47
def amg:∃i,af.info? 46=J i/\i.size=4/\i.bytes<=64/\(i.zero.map λz=>z.cells.size)=J 4:=ZS8
end
def agi(p):fF af 32 1 [(0,.agg (bm p))]=J (.ac .aK 4 [bm p]):=ax
def ae2(j:F l<1000000)(f:sz=4∨(l=[]/\k=.nil))(e:cY n0 H k):
 gB af H #[32,32] (.ac k sz (cU l)) (.ac .aK 4 [bm p])=J (.ac (.free H.tn) 4 (cU (l++[p])),H.app k):=by
 have:=Ii (T:=32) (E:=46) (n:=4) (H:=H) (k:=k) (n0:=n0) (sz:=sz) (es:=cU l) (r:=bm p) underlying32 amg ag (by rw[Dz];omega) (f.imp_right λi=>⟨by rw[i.1];rfl,i.2⟩) e;rw[this];unfold cU;rw[jr];rfl
structure TI(h H:am)(X Y:I)(T:List I)(t:Tok):Prop where
 ext:Ext h H
 ok:cS H=aa
 can:cY h.tn H t
 pb:H.V[h.V.length]?=J [X,Y]
 tb:H.V[h.V.length+1]?=J T
section
variable {h H:am} {X Y:I} {T:List I} {t:Tok}
def TI.app(b:TI h H X Y T t):TI h (H.app t) X Y T (.free H.tn):=by have e:=Grown.one b.can b.ok b.ext.tn;exact⟨e.ext b.ext (aT _),e.ok,e.can,by rw[dC];exact b.pb,by rw[dC];exact b.tb⟩
def TI.push(b:TI h H X Y T t)(cs:List I):TI h (H.push cs) X Y T t:=⟨b.ext.trans (.push _ _),b.ok,by rw[sN];exact b.can,aP b.pb,aP b.tb⟩
def TI.put(b:TI h H X Y T t)(e:List I):TI h (H.put (F h.V+1) e) X Y e t:=by have f:=(aU.1 b.tb).1;exact⟨b.ext.gg ag _,b.ok,by rw[vh];exact b.can,by rw[cG ag];exact b.pb,dy f⟩
def TI.nil(b:TI h H X Y T t):TI h H X Y T .nil:=⟨b.ext,b.ok,.inl O,b.pb,b.tb⟩
end
section
variable {H:am} {b:Nat} {ep:Int} {X Y C S W L N x:I}
def stS(e:H.V[b]?=J (Sz ep X Y C S W L N))(hx:x.bL=J [x]):bU af H 72 (.ptr (.box b) 4) x=J (H.put b (Sz ep X Y C x W L N)):=
 e7 (off:=4) (cs:=Sz ep X Y C S W L N) (xs:=[x]) hx awH e O (kj O)
def RL.Ad{x}{l}(h:RL x l):x.bL=J [x]:=by obtain⟨f,s,e,rfl,-⟩:=h.form;rfl
def PL.Ad{x}(h:PL x l):x.bL=J [x]:=by obtain⟨e,s,rfl,-⟩:=h;rfl
def IL.Ad{x}{l}(h:IL x l):x.bL=J [x]:=by obtain⟨e,s,rfl,-⟩:=h;rfl
end
structure ayv(U:List (List Int))(ae aH:List Int)(sh:List (Int × Int))(ak:List Int)(l:List Pr)(nn:List Int)(X Y C S W L N:I):Prop where
 x:RL X U
 y:IL Y ae
 c:IL C aH
 s:SL S sh
 w:IL W ak
 p:PL L l
 n:IL N nn
 wl:ak.length<=16
 nl:nn.length=2 * ak.length
 sl:sh.length<=1000
 inn:∀p∈sh,0<=p.1/\p.1<ae.length
 cl:aH.length<=1000000
 ll:l.length<=1000000
structure TB(h H:am)(T:List I)(t:Tok):Prop where
 ext:Ext h H
 ok:cS H=aa
 can:cY h.tn H t
 tb:H.V[h.V.length]?=J T
section
variable {h H:am} {T:List I} {t:Tok}
def TB.app(b:TB h H T t):TB h (H.app t) T (.free H.tn):=by have e:=Grown.one b.can b.ok b.ext.tn;exact⟨e.ext b.ext (aT _),e.ok,e.can,by rw[dC];exact b.tb⟩
def TB.push(b:TB h H T t)(cs:List I):TB h (H.push cs) T t:=⟨b.ext.trans (.push _ _),b.ok,by rw[sN];exact b.can,aP b.tb⟩
def TB.start(e:cS h=aa)(T:List I):TB h (h.push T) T .nil:=⟨.push _ _,e,.inl O,aQ _ _⟩
end
def Hu:(fY af 52).bind I.bL=J [im 0,im 0]:=ax
def Hh:cN af 52=J 2:=ax
def aeS:fR af 52=J aa:=ax
def wX{x}(e:H.V[b]?=J [im x,im y]):aF af Gt H 52 (.ptr (.box b) 0)=J (.agg [im x,im y]):=by rw[gt aeS Hh e (aT 2)];rfl
def zu{x u v}(e:H.V[b]?=J [im x,im y]):bU af H 52 (.ptr (.box b) 0) (.agg [im u,im v])=J (H.put b [im u,im v]):=
 e7 (off:=0) (cs:=[im x,im y]) (xs:=[im u,im v]) O Hh e O (aT 2)
def wu(z:List Int)(k:Nat):Int:=(z.take k).foldl cV 0
def aeI{k}(h:k<F z):wu z (k+1)=cV (wu z k) (ah z k):=by unfold wu;rw[fS (aW h),nJ,fy h];rfl
structure oW(ak N:List Int)(l:List Pr):Prop where
 len:l.length=ak.length
 nl:N.length=2 * ak.length
 ok:∀x∈N,okF x
 at_:∀i<ak.length,∃no:Int,0<=no/\no<4096/\l[i]?=J ⟨ah ak i,no,(bZ Gn (ah N (2 * i)):Nat),(bZ Gn (ah N (2 * i+1)):Nat)⟩
def oW.ut(c:oW ak N l)(h:i<F ak):okF (ah N (2*i))/\okF (ah N (2*i+1)):=⟨c.ok _ (xW (by rw[c.nl];omega)),c.ok _ (xW (by rw[c.nl];omega))⟩
def oW.jm(c:oW ak N l):l.map Pr.bC=ak:=by
 refine ou λe=>?_;rcases dR e (F ak) with h|h
 .obtain⟨f,-,-,i⟩:=c.at_ e h;rw[ek,i,gq,fy h,aW h]
 .rw[pR (by rw[bI,c.len];exact h),pR h]
def VS(n):b8 ((bZ Gn n:Nat):Int)=aa:=by have h:=y9 qa n;unfold b8;rw[eD,h,Em,decide_eq_true_eq];have:=(elem_iff.1 h).1;omega
def apL:∀{l:List Pr} {last:Int},dD last (l.map Pr.bC)=aa->(∀p∈l,0<=p.no/\p.no<4096/\b8 p.d=aa/\b8 p.e=aa)->jY last l=aa:=by
 intro l
 induction l with
 |nil=>intro _ _ _;rfl|cons p l i=>intro last h1 e;rw[dK,dD]at h1;simp only[bR,decide_eq_true_eq]at h1;obtain⟨o,q,j,k⟩:=e p gj;rw[NT.jY,i h1.2 λm f=>e m (gi _ f),j,k];simp only[Em,bR,decide_eq_true_eq];omega
def oW.mem(c:oW ak N l)(hp:p∈l):∃i,∃(_:i<F ak) (f:Int),0<=f/\f<4096/\l[i]?=J p/\p=⟨ah ak i,f,(bZ Gn (ah N (2*i)):Nat),(bZ Gn (ah N (2*i+1)):Nat)⟩:=by obtain⟨i,j⟩:=sK hp;have e:=(aU.1 j).1;rw[c.len]at e;obtain⟨f,m,o,k⟩:=c.at_ i e;rw[j]at k;injection k with k;exact⟨i,e,f,m,o,j,k⟩
def oW.bH(c:oW ak N l)(hw:dD (-1) ak=aa):jY (-1) l=aa:=by refine apL (by rw[c.jm];exact hw) λp hp=>?_;obtain⟨k,i,j,e,f,-,rfl⟩:=c.mem hp;exact⟨e,f,VS _,VS _⟩
def A'(ak:List Int)(k:Int):Nat:=ak.idxOf k
def Y0(e:ak.Nodup)(h:i<F ak):A' ak (ah ak i)=i:=by unfold A';rw[fy h];exact e.idxOf_getElem i h
def oW.an5(c:oW ak N l)(hw:dD (-1) ak=aa):MK l (λk=>ah N (2*A' ak k)) (λk=>ah N (2*A' ak k+1)):=by intro p hp;obtain⟨m,e,j,f,i,-,rfl⟩:=c.mem hp;simp only[Y0 (QX hw).2 e];exact⟨ba,ba⟩
def aaq{s}(j:F U=F ae)(k):pD ae [k] (fD U s)=lY ae (iN U s) k:=by
 unfold pD lY iH fD;rw[j];have u:∀(L:List Nat),(∀e∈L,e<F U)->(L.map λe=>(((e:Nat):Int),lP (U.getD e []) s)).flatMap (yY ae [k])=(L.filter λe=>decide (ah ae e=k)).map λe=>(((e:Nat):Int),ah (iN U s) e):=by
  intro L
  induction L with
  |nil=>intro _;rfl|cons e L q=>
   intro i;have f:=i e gj;rw[dK,MA,q λv o=>i v (gi _ o),BH];unfold yY;rw[eD];by_cases m:ah ae e=k
   .rw[aC (by simp[m]),List.filter_cons_of_pos (by simp[m]),dK,dK,Sb f];rfl
   .rw[aL (by simp[m]),List.filter_cons_of_neg (by simp[Ne.symm m])];rfl
 exact u _ λe f=>by rw[j];exact gb.1 f
section
variable {U:List (List Int)} {ae ak N s y:List Int} {l:List Pr} {aq:List UInt8} {ep:Int}
def NM(c:oW ak N l)(e:fg U ae ak=(y,aa,0))(j:ak≠[])(k:F ak<=64)(ht:F aq<=65536)(i:0<=ep/\ep<=64)(hc:F z=b7 U)(f:z.all b8=aa):dA U ae ep z aq l=0:=by obtain⟨hp,hw,-⟩:=wt e;unfold dA;rw[aL (by simp[hp]),aL (by simp[hc,f,i.1,i.2]),aL ag,aL (by rw[c.len];omega),aL (by rw[c.bH hw];simp),c.jm,e];have:F ak≠0:=λm=>j (List.length_eq_zero_iff.1 m);simp[c.len,this]
def Cd(e:F s=b7 U):F (bF s)=b7 U/\(bF s).all b8=aa:=⟨by unfold bF;rw[bI,e],ah7⟩
def VC(c:oW ak N l)(f:fg U ae ak=(y,aa,0))(j:ak≠[])(k:F ak<=64)(ht:F aq<=65536)(m:0<=ep/\ep<=64)(e:F s=b7 U)(hi:i<F ak):
 nx U ae ep (bF s) aq l (ah ak i) (lY ae (iN U s) (ah ak i)) (ah N (2*i)) (ah N (2*i+1))=
  (pH U ae (bF s) aq l (ah ak i) (ah N (2*i)) (ah N (2*i+1)) (lY ae (iN U s) (ah ak i)),0):=by
 obtain⟨hp,hw,-⟩:=wt f;unfold nx;rw[aL (by rw[NM c f j k ht m (Cd e).1 (Cd e).2];simp)];obtain⟨q,-,-,u⟩:=c.at_ i hi;have o:=dk u;exact aom hp e (c.bH hw) o O O (c.ut hi).1 (c.ut hi).2
def aij(c:oW ak N l)(f:fg U ae ak=(y,aa,0))(j:ak≠[])(m:F ak<=64)(ht:F aq<=65536)(q:0<=ep/\ep<=64)(e:F s=b7 U)(hi:i<F ak){z:Int}(o:okF z):
 oP U ae ep (bF s) aq l (ah ak i) z=
  (decide (z=pH U ae (bF s) aq l (ah ak i) (ah N (2*i)) (ah N (2*i+1)) (lY ae (iN U s) (ah ak i))),0):=by
 obtain⟨hp,hw,-⟩:=wt f;unfold oP;rw[aL (by rw[NM c f j m ht q (Cd e).1 (Cd e).2];simp)];obtain⟨v,-,-,w⟩:=c.at_ i hi;have u:=dk w;have k:=aax (c.bH hw) u;unfold ym;rw[k];simp only[uj.2 o,Bool.not_true,jE,if_false];rw[ajt hp e O O o]
def ail(c:oW ak N l)(f:fg U ae ak=(y,aa,0))(k:F s=b7 U):
 nE (ah (bF s) 0) aq ((ef (ah (bF s) 0) aq l:Nat):Int) (((bE (F ak)).map λi=>pH U ae (bF s) aq l (ah ak i) (ah N (2*i)) (ah N (2*i+1)) (lY ae (iN U s) (ah ak i))).foldl cV 0)=aa:=by
 obtain⟨hp,hw,-⟩:=wt f;have e:=Sc (aq:=aq) (l:=l) (by rw[c.jm];exact f) k (c.an5 hw);rw[c.jm]at e;have m:(ak.map λj=>pH U ae (bF s) aq l j (ah N (2*A' ak j)) (ah N (2*A' ak j+1)) (lY ae (iN U s) j))=(bE (F ak)).map λi=>pH U ae (bF s) aq l (ah ak i) (ah N (2*i)) (ah N (2*i+1)) (lY ae (iN U s) (ah ak i)):=by
  refine ou λi=>?_;rcases dR i (F ak) with h|h
  .have hx:=Y0 (QX hw).2 h;rw[ek,ek,xQ h,aW h,gq,gq];rw[fy h]at hx ⊢;rw[hx]
  .rw[pR (by simpa using h),pR (by simpa using h)]
 rw[m]at e;exact e
end
def R3:List (List Int):=[[1,1],[1,2],[1,3]]
def O3:List Int:=[0,1,2]
def S2:List Int:=[10,4]
def xw:List UInt8:=[116,101,120,116]
def pA:Pr:=⟨0,0,(bZ Gn 5:Nat),(bZ Gn 6:Nat)⟩
def pB:Pr:=⟨2,2,(bZ Gn 7:Nat),(bZ Gn 8:Nat)⟩
def TX:fg R3 O3 [0,2]=([536870896,0,536870894],aa,0):=by decide+kernel
abbrev C3:List Int:=bF S2
abbrev b3(k:Int):Int:=((gK (ah C3 0) xw [pA,pB] k:Nat):Int)
abbrev Vg:Int:=((ef (ah C3 0) xw [pA,pB]:Nat):Int)
def x3:Int:=cV (cV 5 (cO 6 (b3 0))) (cO Vg 21)
def y3:Int:=cV (cV 7 (cO 8 (b3 2))) (cO Vg 1073741778)
def Ip(a b):fF af 23 2 [(0,((a:Int):I)),(1,((b:Int):I))]=J (.ac .aK 1 (ay [a,b])):=ax
def X3:I:=.ac .aK 1 [[.ac .aK 1 (ay [1,1])],[.ac .aK 1 (ay [1,2])],[.ac .aK 1 (ay [1,3])]]
def T3:I:=.ac .held 1 (bV xw)
def rl3:RL X3 R3:=by
 refine⟨.aK,1,[.ac .aK 1 (ay [1,1]),.ac .aK 1 (ay [1,2]),.ac .aK 1 (ay [1,3])],O,λ_=>rfl,O,λi a r e f=>?_⟩
 match i with
 |0=>injection e with e;injection f with f;subst e;subst f;exact⟨_,_,O,λ_=>rfl⟩
 |1=>injection e with e;injection f with f;subst e;subst f;exact⟨_,_,O,λ_=>rfl⟩
 |2=>injection e with e;injection f with f;subst e;subst f;exact⟨_,_,O,λ_=>rfl⟩
 |i+3=>simp at e
def agj(p q):fF af 32 2 [(0,.agg (bm p)),(1,.agg (bm q))]=J (.ac .aK 4 (cU [p,q])):=ax
def ax8:(fY af 25).bind I.bL=J [nl,nl]:=ax
def LS:(fY af 27).bind I.bL=J (aG 0 nl nl nl):=ax
def Ux(hx:RL X U)(E:IL Y ae)(hc:IL C ak):iK af 27 [(1,.agg [X,Y]),(2,C)]=J (.agg (aG 0 X Y C)):=by obtain⟨_,_,_,rfl,-⟩:=hx.form;obtain⟨_,_,rfl,-⟩:=E;obtain⟨_,_,rfl,-⟩:=hc;kernel_rfl
def afH(a b):iK af 52 [(0,im a),(1,im b)]=J (.agg [im a,im b]):=ax
section
variable {U:List (List Int)} {ae G eZ:List Int} {B sm:Int} {aq:List UInt8}
def xd(U:List (List Int))(ae s ak N:List Int)(l:List Pr)(aq:List UInt8)(i:Nat):Int:=
 pH U ae (bF s) aq l (ah ak i) (ah N (2*i)) (ah N (2*i+1)) (lY ae (iN U s) (ah ak i))
end
def BL.Ad{b}(h:BL x b):x.bL=J [x]:=by obtain⟨e,s,rfl,-⟩:=h;rfl
def pE(l:List Pr)(z:List Int):Bool:=decide (F z=F l)&&z.all cA
def oL(l:List Pr)(i:Nat):Int:=ah (l.map Pr.bC) i
def jh(U:List (List Int))(ae:List Int)(ep:Int)(aH:List Int)(aq:List UInt8)(l:List Pr)(z:List Int):(Int × Int) × Bool × Int:=
 if dA U ae ep aH aq l≠0 then ((0,0),ar,dA U ae ep aH aq l)
 else if pE l z=ar then ((0,0),ar,1)
 else if nE (ah aH 0) aq ((ef (ah aH 0) aq l:Nat):Int) (z.foldl cV 0) then ((((ef (ah aH 0) aq l:Nat):Int),z.foldl cV 0),aa,0)
 else ((0,0),ar,0)
def xX(U:List (List Int))(ae:List Int)(ep:Int)(aH:List Int)(aq:List UInt8)(l:List Pr)(z:List Int)(i:Nat):List Int:=
 if (oP U ae ep aH aq l (oL l i) (ah z i)).1 then [] else [oL l i]
def u'(U:List (List Int))(ae:List Int)(ep:Int)(aH:List Int)(aq:List UInt8)(l:List Pr)(z:List Int)(k:Nat):List Int:=
 (bE k).flatMap (xX U ae ep aH aq l z)
def nR(U:List (List Int))(ae:List Int)(ep:Int)(aH:List Int)(aq:List UInt8)(l:List Pr)(z:List Int):List Int × Int:=
 if dA U ae ep aH aq l≠0 then ([],dA U ae ep aH aq l)
 else if pE l z=ar then ([],1)
 else (u' U ae ep aH aq l z (F l),0)
def Uw(U)(ae)(ep)(aH)(aq)(l)(z)(k):
 u' U ae ep aH aq l z (k+1)=u' U ae ep aH aq l z k++xX U ae ep aH aq l z k:=by
 unfold u';rw[jH,List.flatMap_append];simp
def Kj:pE l z=aa↔F z=F l/\∀x∈z,okF x:=by unfold pE;simp only[bR,decide_eq_true_eq,e8,uj]
def Y9(h:l[i]?=J p):oL l i=p.bC:=by have f:=(aU.1 h);obtain⟨e,j⟩:=f;unfold oL;rw[fy (by rw[bI];exact e),List.getElem_map,j]
def apF(h:l[i]?=J p):∃q,pG l p.bC=J q:=by
 unfold pG;cases e:l.find? λx=>decide (x.bC=p.bC) with|some q=>exact⟨q,O⟩|none=>have:=List.find?_eq_none.1 e p (dk h);simp at this
def ajv{aq}(f:dA U ae ep ak aq l=0)(m:pE l z=aa)(hi:i<F l):
 (oP U ae ep ak aq l (oL l i) (ah z i)).2=0:=by
 obtain⟨o,j⟩:=Kj.1 m;have hp:l[i]?=J l[i]:=aW hi;rw[Y9 hp];obtain⟨q,k⟩:=apF hp;have e:cA (ah z i)=aa:=uj.2 (j _ (xW ag));unfold oP ym;rw[aL (by rw[f];simp),k];simp[e]
def ajz{α:Type}(f:Nat->α)(p:Nat->Bool):∀L:List Nat,L.flatMap (λi=>if p i then [] else [f i])=(L.filter λi=> !p i).map f:=by
 intro L
 induction L with
 |nil=>rfl|cons a L e=>rw[MA,e,BH];cases p a<;>rfl
section
variable {U:List (List Int)} {ae ak N s y z:List Int} {l:List Pr} {aq:List UInt8} {ep:Int}
def Gu(U:List (List Int))(ae s ak N:List Int)(l:List Pr)(aq:List UInt8):List Int:=(bE (F ak)).map (xd U ae s ak N l aq)
def apP(i:Nat):okF (xd U ae s ak N l aq i):=QU
def aik(c:oW ak N l)(i:Nat):oL l i=ah ak i:=by unfold oL;rw[c.jm]
structure sI(U:List (List Int))(ae ak N s y:List Int)(l:List Pr)(aq:List UInt8)(ep:Int):Prop where
 qk:oW ak N l
 acc:fg U ae ak=(y,aa,0)
 ne:ak≠[]
 wl:ak.length<=64
 tl:aq.length<=65536
 ep:0<=ep/\ep<=64
 sl:s.length=b7 U
def sI.UC(c:sI U ae ak N s y l aq ep):dA U ae ep (bF s) aq l=0:=
 NM c.qk c.acc c.ne c.wl c.tl c.ep (Cd c.sl).1 (Cd c.sl).2
def sI.Sc(c:sI U ae ak N s y l aq ep):nE (ah (bF s) 0) aq ((ef (ah (bF s) 0) aq l:Nat):Int) ((Gu U ae s ak N l aq).foldl cV 0)=aa:=
 ail c.qk c.acc c.sl
def sI.ah0(c:sI U ae ak N s y l aq ep)(e:pE l z=aa):jh U ae ep (bF s) aq l z=
 if nE (ah (bF s) 0) aq ((ef (ah (bF s) 0) aq l:Nat):Int) (z.foldl cV 0) then ((((ef (ah (bF s) 0) aq l:Nat):Int),z.foldl cV 0),aa,0) else ((0,0),ar,0):=by
 unfold jh;rw[aL (by rw[c.UC];simp),aL (by rw[e];simp)]
def sI.Np(c:sI U ae ak N s y l aq ep)(j:pE l z=aa):nR U ae ep (bF s) aq l z=
 (((bE (F ak)).filter λi=> !decide (ah z i=xd U ae s ak N l aq i)).map (ah ak),0):=by
 unfold nR;rw[aL (by rw[c.UC];simp),aL (by rw[j];simp)];rw[<-ajz];unfold u';rw[c.qk.len];refine congrArg (λw=>(w,(0:Int))) ?_;obtain⟨o,q⟩:=Kj.1 j;have k:∀L:List Nat,(∀i∈L,i<F ak)->L.flatMap (xX U ae ep (bF s) aq l z)=L.flatMap λi=>if decide (ah z i=xd U ae s ak N l aq i) then [] else [ah ak i]:=by
  intro L
  induction L with
  |nil=>intro _;rfl|cons i L u=>intro f;have e:=f i gj;rw[MA,MA,u λv m=>f v (gi _ m)];unfold xX;rw[aik c.qk,aij c.qk c.acc c.ne c.wl c.tl c.ep c.sl e (q _ (xW (by rw[o,c.qk.len];exact e)))];rfl
 exact k _ λi e=>gb.1 e
end
def ajh:(∀b,dQ af 110 (.ptr (.box b) 0) 0=J (.ptr (.box b) 0))/\∀b,dQ af 110 (.ptr (.box b) 0) 1=J (.ptr (.box b) 1):=⟨λb=>ax,λb=>ax⟩
def aye:(fY af 110).bind I.bL=J (bN (0,0)):=ax
def awk(p):bU af (H.push (bN (0,0))) 110 (.ptr (.box (F H.V)) 0) (.agg (bN p))=J (H.push (bN p)):=jC O Hi O rfl
def anq{p}(e:H.V[b]?=J (bN p)):aF af Gt H 110 (.ptr (.box b) 0)=J (.agg (bN p)):=by rw[gt Uf Hi e (aT 2)];rfl
section
variable {H:am} {b:Nat} {ep:Int} {X Y C S L Z x:I}
end
structure xU(h H:am)(X Y:I)(T:List I)(tz to:Tok):Prop where
 ti:TI h H X Y T tz
 co:cY h.tn H to
 ne:∀a,tz=.free a->to≠ .free a
def xU.start(b:TI h H X Y T e):xU h H X Y T e .nil:=⟨b,.inl O,λ_ _ f=>by cases f⟩
def xU.push{f}(b:xU h H X Y T f e)(cs):xU h (H.push cs) X Y T f e:=⟨b.ti.push cs,by rw[sN];exact b.co,b.ne⟩
def xU.app{j}(b:xU h H X Y T k j):xU h (H.app j) X Y T k (.free H.tn):=by
 have i:=Grown.one b.co b.ti.ok b.ti.ext.tn;refine⟨⟨i.ext b.ti.ext (aT _),i.ok,Ca b.ti.can λa e f=>b.ne a f e,by rw[dC];exact b.ti.pb,by rw[dC];exact b.ti.tb⟩,i.can,λa e f=>?_⟩;injection f with f;subst f;rcases b.ti.can with q|q|⟨o,q,-,m⟩
 .rw[q]at e;cases e
 .rw[q]at e;cases e
 .rw[q]at e;injection e with e;have:=rM m;omega
def O4:List Int:=[1,2,3]
def X4:I:=.ac .aK 1 [[.ac .aK 1 (ay [1,1])],[.ac .aK 1 (ay [1,2])],[.ac .aK 1 (ay [1,3])]]
def RL.oG{l}(hx:RL x l)(e:aI 0 0 0 x=aa)(h):RL (ea h x) l/\aI 0 0 0 (ea h x)=aa:=by obtain⟨k,s,f,rfl,j,h1,i⟩:=hx;refine⟨⟨cJ k,s,f,O,j,h1,i⟩,?_⟩;show aI 0 0 0 (.ac (cJ k) s (f.map λa=>[a]))=aa;rw[aI]at e ⊢;rw[fB,pP];simp only[bR]at e;exact e.2
def IL.oG{l}(hx:IL x l)(h):IL (ea h x) l/\aI 0 0 0 (ea h x)=aa:=by obtain⟨f,s,rfl,e⟩:=hx;refine⟨⟨cJ f,s,O,e⟩,?_⟩;show aI 0 0 0 (.ac (cJ f) s (ay l))=aa;rw[aI,fB,jw];rfl
def BL.oG{l}(hx:BL x l)(h):BL (ea h x) l/\aI 0 0 0 (ea h x)=aa:=by obtain⟨f,s,rfl,e⟩:=hx;refine⟨⟨cJ f,s,O,e⟩,?_⟩;show aI 0 0 0 (.ac (cJ f) s (bV l))=aa;rw[aI,fB,nm];rfl
def PL.oG(hx:PL x l)(h):PL (ea h x) l/\aI 0 0 0 (ea h x)=aa:=by obtain⟨f,s,rfl,e⟩:=hx;refine⟨⟨cJ f,s,O,e⟩,?_⟩;show aI 0 0 0 (.ac (cJ f) s (cU l))=aa;rw[aI,fB,NZ];rfl
def aeE(a b):∀h,W7.call 80 [im a,im b] h=J (.ret (im (cV a b)),h):=bX (L:=L7) O O O (aeD a b _) O rfl
section
variable (ep:Int) (X Y C T L:I) (U:List (List Int)) (ae aH:List Int) (aq:List UInt8) (l:List Pr)
 (hx:RL X U) (E:IL Y ae) (hc:IL C aH) (ht:BL T aq) (hp:PL L l) (fj:aH.length<=1000000) (fQ:l.length<=1000000)
include hx E hc ht hp fj fQ
def af7:(dA U ae ep aH aq l≠0/\∀h,W7.call 37 [.agg (aG ep X Y C),T,L] h=J (.ret (.tuple [.ac .nil 0 [],im 0,im 0,im (dA U ae ep aH aq l)]),h))∨
 (dA U ae ep aH aq l=0/\∃Z,IL Z (vd (ah aH 0) aq l)/\∀h,W7.call 37 [.agg (aG ep X Y C),T,L] h=J (.ret (.tuple [Z,im ((jz (ah aH 0) aq l:Nat):Int),im ((ef (ah aH 0) aq l:Nat):Int),im 0]),h)):=by
 obtain⟨f,i,e,m,h1,u,v,w⟩:=Ga ep hx E hc;obtain⟨A,B⟩:=ht.hold;obtain⟨D,G⟩:=hp.hold;have j:bA [.agg (aG ep X Y C),T,L]=[.agg (aG ep f i e),av T,av L]:=by rw[bA,bA,bA,bA,m]
 have k:aJ 0 0 0 [.agg (aG ep f i e),av T,av L]=aa:=by rw[aJ,aJ,aJ,aJ,w,B,G];rfl
 rcases UI ep f i e (av T) (av L) U ae aH aq l h1 u v A D fj fQ with⟨z0,c⟩|⟨z0,Z,K,c⟩
 .exact .inl ⟨z0,bX (L:=L7) O j k (c _) O O⟩
 .obtain⟨o,q⟩:=K.oG ⟨[],[],0,[]⟩;refine .inr ⟨z0,ea ⟨[],[],0,[]⟩ Z,o,bX (L:=L7) O j k (c _) O ?_⟩;rw[aI,aJ,q];rfl
def ajs(e z:Int):
 ∀h,W7.call 127 [.agg (aG ep X Y C),T,L,im e,im z] h=J (.ret (.tuple [.v (.bool (oP U ae ep aH aq l e z).1),im (oP U ae ep aH aq l e z).2]),h):=by
 obtain⟨i,j,f,k,h1,m,o,q⟩:=Ga ep hx E hc;obtain⟨u,v⟩:=ht.hold;obtain⟨w,A⟩:=hp.hold;exact bX (L:=L7) O (by simp only[bA];rw[k];rfl) (by simp only[aJ];rw[q,v,A];rfl) (ajr ep i j f (av T) (av L) U ae aH aq l h1 m o u w fj fQ e z _) O rfl
end
def axC(f e s)(T)(aq)(ht:BL T aq)(j:F aq<=1000000):
 ∀h,W7.call 26 [im f,T,.agg [im e,im s]] h=J (.ret (.v (.bool (nE f aq e s))),h):=by
 obtain⟨h1,i⟩:=ht.hold;exact bX (L:=L7) (A:=[im f,av T,.agg [im e,im s]]) O (by simp only[bA];rfl) (by simp only[aJ];rw[i];rfl) (acQ f e s (av T) aq h1 j _) O rfl
def Lg:Tryz.f122.results.toList=[.tmp 8,.tmp 9]:=ax
def aAy:Tryz.f184.results.toList=[.tmp 2]:=ax
def at6:Tryz.f123.results.toList=[.tmp 4]:=ax
def RY:Tryz.f124.results.toList=[.tmp 6]:=ax
def DX:Tryz.f60.results.toList=[.cell 8 52,.tmp 9,.tmp 10]:=ax
section
variable {A:bk->Option (List I->am->Option (I × am))}
def amn(B:A 164=ao)(g:bk)(p:Int->Bool)(h:am)(x:I)(l:List Int)(hx:IS h x l)(hl:l.length<=1000000)(hp:∀n∈l,(whole af Gt A).call g [im n] h=J (.ret (.v (.bool (p n))),h)):
 ∃r h',(whole Tryz.prog Gt A).call 164 [x,.func (.func g) [] []] h=some (r,h')/\h'=h/\∃i:Int,r=.ret (im i)/\decide (0<=i)=l.any p:=by
 have G:=hx.len;have u:=aj.mk (au hp hx);clear hp hx;refine cq B func164 rfl ?_;refine br @tF ?_;refine cK (λz0 v H=>∃i:Nat,i<=l.length/\z0=l.length - i/\(l.take i).any p=ar/\v.get 0=x/\v.get 1=.func (.func g) [] []/\v.get 7=(l.length:Nat)/\v.get 8=(i:Nat)/\v.defers=[]/\H=h) ?_ l.length _ _ ?_;rotate_left 1
 .refine⟨0,ck _,rfl,by simp,?_,?_,?_,?_,?_,rfl⟩<;>exact gR
 clear G;rintro z0 v H ⟨i,hi,rfl,w,g0,g1,g7,g8,hd,rfl⟩;have D:=aj.mk w;clear w;by_cases k:i<l.length
 .obtain⟨a,ix,q⟩:=u.M.2.at k;have ld:=q H u.M.2;clear q;have o:l[i]?=J (ah l i):=by rw[aW k,fy k]
  have hc:=u.M.1 (ah l i) (dk o);have K:(i:Int)<(l.length:Int):=by omega
  have f:(l.take (i+1)).any p=p (ah l i):=by rw[fS o,List.any_append,D.M];simp
  have kt:=aj.mk f;have kh:=aj.mk o;clear o f;unfold im at hc;cases e:p (ah l i) with
  |true=>rw[e] at hc;have j:l.any p=aa:=List.any_eq_true.2 ⟨_,dk kh.M,e⟩;have m:=aj.mk j;clear j e;refine dL @tF @fE.{0} @g'.{0} ?_;exact⟨_,_,rfl,rfl,(i:Int),rfl,by rw[m.M];simp⟩
  |false=>rw[e] at hc;have E:(l.take (i+1)).any p=ar:=kt.M.trans e;clear e;refine dL @tF @fE.{0} @g'.{0} ?_;exact⟨l.length - (i+1),by omega,i+1,by omega,rfl,E,by simp⟩
 .have:i=l.length:=by omega
  subst this;have:=D.M;rw[gu] at this;have m:=aj.mk this;clear this;refine br @tF ?_;exact⟨_,_,rfl,rfl,-1,rfl,by rw[m.M];rfl⟩
def aid(f:A 164=ao)(e:A 91=ao)(g:bk)(p:Int->Bool)(h:am)(x:I)(l:List Int)(hx:IS h x l)(k:F l<=1000000)(hp:∀n∈l,(whole af Gt A).call g [im n] h=J (.ret (.v (.bool (p n))),h)):
 (whole af Gt A).call 91 [x,.func (.func g) [] []] h=J (.ret (.v (.bool (l.any p))),h):=by
 obtain⟨r,m,c,rfl,o,rfl,i⟩:=amn f g p h x l hx k hp;have j:decide (0<=o)=l.any p:=i;unfold im at c;refine cX e func91 O ?_;clear i hp hx;exact iT @RE
end
section
open Tryz renaming func184->Q51
open YtcbhpkjbiehcpaaGreatDoor renaming aAy->Q52
def ao3(n)(h):W7.call 184 [im n] h=J (.ret (.v (.bool (oc n))),h):=ZS9
end
def vG(e:H.V[b]?=J (aG ep X Y C)):aF af Gt H 27 (.ptr (.box b) 0)=J (.agg (aG ep X Y C)):=by rw[gt ax sF e (kj O)];rfl
def mO(U:List (List Int))(ae:List Int)(ep:Int)(aH:List Int)(aq:List UInt8)(l:List Pr)(z:List Int):Int × Int:=
 if dA U ae ep aH aq l≠0 then (0,dA U ae ep aH aq l) else if pE l z=ar then (0,1) else (((ef (ah aH 0) aq l:Nat):Int),0)
def Vm(h:am)(ep:Int)(X Y C T L Z:I)(U:List (List Int))(ae aH:List Int)(aq:List UInt8)(l:List Pr)(z:List Int)
 (hx:RL X U) (E:IL Y ae) (hc:IL C aH) (ht:BL T aq) (hp:PL L l) (fj:F aH<=1000000) (fQ:F l<=1000000) (v:IS h Z z) (G:F z<=1000000):
 ∃r h',W7.call 122 [.agg (aG ep X Y C),T,L,Z] h=J (r,h')/\h'=h.push (aG ep X Y C)/\r=.ret (.tuple [im (mO U ae ep aH aq l z).1,im (mO U ae ep aH aq l z).2]):=by
 have bx:=mV (ep:=ep) hx E hc;have w:=af7 ep X Y C T L U ae aH aq l hx E hc ht hp fj fQ;have q:IS (h.push (aG ep X Y C)) Z z:=v.mono λc cs D=>aP D;have u:=aid (A:=Kt) O O 184 oc (h.push (aG ep X Y C)) Z z q G (λn _=>ao3 n _);have lnZ:=v.len;have lnL:=hp.dp;have l1:=vG (aQ h (aG ep X Y C));have f:(!z.any oc)=z.all cA:=Nc z;refine cq O func122 O ?_;rcases w with⟨D,w⟩|⟨D,z0,hB,w⟩
 .have i:aj (mO U ae ep aH aq l z=(0,dA U ae ep aH aq l)):=⟨by unfold mO;rw[aC D]⟩;generalize dA U ae ep aH aq l=be at *
  clear hx E hc ht hp v q f u;unfold im at *
  refine bB @Lg @bG ?_;exact⟨_,_,O,O,by rw[i.M]⟩
 have i:aj (mO U ae ep aH aq l z=if pE l z=ar then (0,1) else (((ef (ah aH 0) aq l:Nat):Int),0)):=⟨by unfold mO;rw[aL (by rw[D];simp)]⟩;have m:aj (pE l z=(decide (F z=F l)&&z.all cA)):=⟨O⟩;clear hx E hc ht hp v q D hB;generalize ((ef (ah aH 0) aq l:Nat):Int)=K at *
 generalize ((jz (ah aH 0) aq l:Nat):Int)=pt at *
 unfold im at *
 by_cases e:F z=F l;rotate_left 1
 .have B:¬((F z:Nat):Int)=((F l:Nat):Int):=by omega
  have dI:decide (((F z:Nat):Int)≠((F l:Nat):Int))=aa:=cy B;have j:aj (mO U ae ep aH aq l z=(0,1)):=⟨by rw[i.M,aC (by rw[m.M,cR e];rfl)]⟩;clear i m f u e;refine bB @Lg @bG ?_;exact⟨_,_,O,O,by rw[j.M]⟩
 have B:((F z:Nat):Int)=((F l:Nat):Int):=by omega
 have dI:decide (((F z:Nat):Int)=((F l:Nat):Int))=aa:=cy B;cases k:z.all cA with
 |true=>
  have o:z.any oc=ar:=by rw[k]at f;simpa using f
  rw[o]at u;have j:aj (mO U ae ep aH aq l z=(K,0)):=⟨by rw[i.M,aL (by rw[m.M,cy e,k];simp)]⟩;clear i m f o k e;refine bB @Lg @bG ?_;exact⟨_,_,O,O,by rw[j.M]⟩
 |false=>
  have o:z.any oc=aa:=by rw[k]at f;simpa using f
  rw[o]at u;have j:aj (mO U ae ep aH aq l z=(0,1)):=⟨by rw[i.M,aC (by rw[m.M,k];simp)]⟩;clear i m f o k e;refine bB @Lg @bG ?_;exact⟨_,_,O,O,by rw[j.M]⟩
def aeG(a b)(h):W7.call 123 [im a,im b] h=J (.ret (im (cV a b)),h):=by
 have c:=aeE a b;unfold im at *
 refine cX O func123 O ?_;exact iT @at6
def ajJ(h:am)(x:I)(l:List Int)(hx:IS h x l)(hl:F l<=1000000):
 ∃r h',W7.call 124 [x,im 0,.func (.func 123) [] []] h=J (r,h')/\h'=h/\r=.ret (im (l.foldl cV 0)):=by
 have q:=hx.len;have o:=aj.mk hx;clear hx;unfold im;refine cq O func124 O ?_;refine br @RY ?_;refine cK (λD j H=>∃e:Nat,e<=F l/\D=F l-e/\j.get 1=(wu l e:Int)/\j.get 2=.func (.func 123) [] []/\j.get 9=x/\j.get 10=(F l:Nat)/\j.get 11=(e:Nat)/\j.defers=[]/\H=h) ?_ (F l) _ _ ?_;rotate_left 1
 .refine⟨0,ck _,O,?_,?_,?_,?_,?_,?_,O⟩<;>exact gR
 clear q;rintro D j H ⟨e,hi,rfl,u,G,K,A,B,hd,rfl⟩;by_cases f:e<F l
 .obtain⟨a,ix,i⟩:=o.M.at f;have ld:=i H o.M;clear i;have hc:=aeG (wu l e) (ah l e) H;rw[<-aeI f]at hc;have v:(e:Int)<(F l:Int):=by omega
  generalize wu l e=E at *
  generalize m:wu l (e+1)=w at *
  generalize ah l e=z0 at *
  unfold im at hc;refine dL @RY @fE.{0} @g'.{0} ?_;exact⟨F l-(e+1),by omega,e+1,by omega,O,by rw[m],by simp⟩
 .have:e=F l:=by omega
  subst this;have k:wu l (F l)=l.foldl cV 0:=by unfold wu;rw[gu]
  rw[k]at u;refine br @RY ?_;exact⟨_,_,O,O,O⟩
def ah2(h:am)(ep:Int)(X Y C T L Z:I)(U:List (List Int))(ae aH:List Int)(aq:List UInt8)(l:List Pr)(z:List Int)
 (hx:RL X U) (E:IL Y ae) (hc:IL C aH) (ht:BL T aq) (hp:PL L l) (fj:F aH<=1000000) (fQ:F l<=1000000) (F6:F aq<=1000000) (hz:IS h Z z) (tt:F z<=1000000):
 ∃r h',W7.call 60 [.agg (aG ep X Y C),T,L,Z] h=J (r,h')/\Ext h h'/\r=.ret (.tuple [.agg [im (jh U ae ep aH aq l z).1.1,im (jh U ae ep aH aq l z).1.2],.v (.bool (jh U ae ep aH aq l z).2.1),im (jh U ae ep aH aq l z).2.2]):=by
 have bx:=mV (ep:=ep) hx E hc;have zc:=Hu;obtain⟨A,e⟩:∃A,(h.push (aG ep X Y C)).push [im 0,im 0]=A:=⟨_,O⟩;have o:F (h.push (aG ep X Y C)).V=F h.V+1:=bP _ _;have k0:A.V[F h.V]?=J (aG ep X Y C):=by rw[<-e];exact aP (aQ _ _)
 have g0:A.V[F h.V+1]?=J [im 0,im 0]:=by have:=aQ (h.push (aG ep X Y C)) [im 0,im 0];rw[o,e]at this;exact this
 have w:Ext h A:=by rw[<-e];exact(Ext.push _ _).trans (.push _ _)
 obtain⟨_,B,c1,qn,rfl⟩:=Vm A ep X Y C T L Z U ae aH aq l z hx E hc ht hp fj fQ (hz.mono λc cs z0=>w.box _ _ z0) tt;have k:Ext A B:=by rw[qn];exact .push _ _
 have k1:=k.box _ _ k0;have G:=k.box _ _ g0;have l0:=vG k0;have lG:=wX G;have sG:=zu (u:=0) (v:=0) G;rw[jb G]at sG;have kx:=aj.mk (w.trans k);have kv:aj (jh U ae ep aH aq l z=if dA U ae ep aH aq l≠0 then ((0,0),ar,dA U ae ep aH aq l) else if pE l z=ar then ((0,0),ar,1)
  else if nE (ah aH 0) aq ((ef (ah aH 0) aq l:Nat):Int) (z.foldl cV 0) then ((((ef (ah aH 0) aq l:Nat):Int),z.foldl cV 0),aa,0) else ((0,0),ar,0)):=⟨O⟩
 refine cq O func60 O ?_;by_cases j:dA U ae ep aH aq l=0;rotate_left 1
 .have m:mO U ae ep aH aq l z=(0,dA U ae ep aH aq l):=by unfold mO;rw[aC j]
  rw[m]at c1;have q:aj (jh U ae ep aH aq l z=((0,0),ar,dA U ae ep aH aq l)):=⟨by rw[kv.M,aC j]⟩;generalize dA U ae ep aH aq l=be at *
  clear hx E hc ht hp hz kv m qn w k k0 g0 k1 G;unfold im at *
  refine b_ @DX @bG @o @e ?_;exact⟨_,_,O,kx.M,by rw[q.M]⟩
 obtain⟨p1,p2,-⟩:=EV j;have K:0<F aH:=by rw[p2];exact(pV p1).1
 cases hk:pE l z with
 |false=>
  have m:mO U ae ep aH aq l z=(0,1):=by unfold mO;rw[aL (by rw[j];simp),aC hk]
  rw[m]at c1;have q:aj (jh U ae ep aH aq l z=((0,0),ar,1)):=⟨by rw[kv.M,aL (by rw[j];simp),aC hk]⟩;clear hx E hc ht hp hz kv m qn w k k0 g0 k1 G j hk p1 p2;unfold im at *
  refine b_ @DX @bG @o @e ?_;exact⟨_,_,O,kx.M,by rw[q.M]⟩
 |true=>
  have m:mO U ae ep aH aq l z=(((ef (ah aH 0) aq l:Nat):Int),0):=by unfold mO;rw[aL (by rw[j];simp),aL (by rw[hk];simp)]
  rw[m]at c1;have q:aj (jh U ae ep aH aq l z=if nE (ah aH 0) aq ((ef (ah aH 0) aq l:Nat):Int) (z.foldl cV 0) then ((((ef (ah aH 0) aq l:Nat):Int),z.foldl cV 0),aa,0) else ((0,0),ar,0)):=⟨by rw[kv.M,aL (by rw[j];simp),aL (by rw[hk];simp)]⟩;obtain⟨_,H1f,c2,e1f,rfl⟩:=ajJ B Z z (hz.mono λc cs z0=>(w.trans k).box _ _ z0) tt;rw[e1f]at c2;have c3:=axC (ah aH 0) ((ef (ah aH 0) aq l:Nat):Int) (z.foldl cV 0) T aq ht F6;have ixC:dM af 23 C (.v (.int .i64 0))=J (.elem 1 (ay aH) 0 0):=hc.ix (i:=0) K;have ldC:∀z1:am,aF af Gt z1 3 (.elem 1 (ay aH) 0 0)=J ((ah aH 0:Int):I):=λz1=>ev K;generalize z.foldl cV 0=sm at *
  generalize ((ef (ah aH 0) aq l:Nat):Int)=f at *
  generalize C9:nE (ah aH 0) aq f sm=vv at *
  generalize ah aH 0=key at *
  obtain⟨D,wI⟩:∃D,B.push [im f,im sm]=D:=⟨_,O⟩;have x2:Ext B D:=by rw[<-wI];exact .push _ _
  have l1:aF af Gt D 23 (.ptr (.box (F h.V)) 3)=J C:=di kC (x2.box _ _ k1) O;have s1:bU af (B.push [im 0,im 0]) 52 (.ptr (.box (F B.V)) 0) (.agg [im f,im sm])=J D:=by rw[<-wI];exact jC O Hh O O
  have t2:D.V[F B.V]?=J [im f,im sm]:=by rw[<-wI];exact aQ _ _
  have l2:=wX t2;have g2:=x2.box _ _ G;have lG2:=wX g2;have sG2:=zu (u:=0) (v:=0) g2;rw[jb g2]at sG2;have sR:=zu (u:=f) (v:=sm) g2;have gl:=(aU.1 g2).1;have lR:aF af Gt (D.put (F h.V+1) [im f,im sm]) 52 (.ptr (.box (F h.V+1)) 0)=J (.agg [im f,im sm]):=wX (dy gl);have bd:=afH f sm;have kx2:=aj.mk (au ((w.trans k).trans x2) (((w.trans k).trans x2).gg ag (b:=F h.V+1) [im f,im sm]));clear hx E hc ht hp hz kv m qn w k x2 k0 g0 k1 G g2 t2 j hk p1 p2 K kx gl sG lG;cases vv with
  |true=>
   have kr2:aj (jh U ae ep aH aq l z=((f,sm),aa,0)):=⟨q.M⟩;clear q C9 sG2 lG2;unfold im at *
   refine b_ @DX @bG @o (au @e @mR) ?_;refine eI It ax ?_;refine bB @DX @mR ?_;exact⟨_,_,O,kx2.M.2,by rw[kr2.M]⟩
  |false=>
   have kr2:aj (jh U ae ep aH aq l z=((0,0),ar,0)):=⟨q.M⟩;clear q C9 sR lR;unfold im at *
   refine b_ @DX @bG @o (au @e @mR) ?_;refine eI It ax ?_;refine bB @DX @mR ?_;exact⟨_,_,O,kx2.M.1,by rw[kr2.M]⟩
section
variable {g:bk} {a:List I} {x y:I} {h1:am}
def Vt(hc:W4.call g a ⟨[],[],0,[]⟩=J (.ret x,h1))(i:L5.contains g=aa)(e:bA a=a)(f:aJ 0 0 0 a=aa)(E:ea h1 x=y)(hx:aI 0 0 0 y=aa):cd W5 g a y:=⟨gT (L:=L5) i e f hc E hx,e,f,λh=>by rw[<-E];exact JX x,hx⟩
def wz(c:cd W6 g a y)(e:L7.contains g=aa)(f:L8.contains g=aa):cd W8 g a y:=(c.up (L:=L7) e).up (L:=L8) f
def Vu(c:cd W5 g a y)(e:L6.contains g=aa)(f:L7.contains g=aa)(i:L8.contains g=aa):cd W8 g a y:=wz (c.up (L:=L6) e) f i
end
section
variable {x y z:I} {l ak:List Int} {U:List (List Int)} {ae aH:List Int}
def Y7(n):cd W8 66 [im n] (.v (.bool (b8 n))):=wz ⟨axA n,O,O,λ_=>rfl,O⟩ O rfl
def Y2(a n):cd W8 75 [im a,im n] (.tuple [im (eO a n),im (lQ a)]):=wz ⟨akq a n,O,O,λ_=>rfl,O⟩ O rfl
def am3(hx:IL x l)(f:F l<=9223372036854775807):cd W8 43 [av x] (.v (.bool (dD (-1) l))):=by obtain⟨h1,e⟩:=hx.hold;exact wz ⟨ap3 _ l h1 f,by rw[bA,nr,bA],by rw[aJ,e];rfl,λ_=>rfl,O⟩ O rfl
def amX(hx:RL x U)(E:IL y ae):cd W8 35 [.agg [av x,av y]] (im (cE U ae)):=by obtain⟨h1,e,f,i⟩:=oi hx E;exact wz ⟨ahw _ _ U ae h1 e,lh [.agg [x,y]],by simp[aJ,aI,f,i],λ_=>rfl,O⟩ O rfl
def Y6(hx:RL x U)(E:IL y ae)(j:F U<=1000000):cd W8 40 [.agg [av x,av y]] (im (cE U ae)):=by obtain⟨h1,e,f,i⟩:=oi hx E;exact cd.up (L:=L8) ⟨Vk _ _ U ae h1 e j,lh [.agg [x,y]],by simp[aJ,aI,f,i],λ_=>rfl,O⟩ rfl
def amU(hx:RL x U)(E:IL y ae)(v:IL z ak)(i:F ak<=1099511627776):∃Z,cd W8 39 [.agg [av x,av y],av z] (.tuple [Z,.v (.bool (fg U ae ak).2.1),im (fg U ae ak).2.2]):=by
 obtain⟨h1,j,k,m⟩:=oi hx E;obtain⟨o,q⟩:=v.hold;have e:bA [.agg [av x,av y],av z]=[.agg [av x,av y],av z]:=lh [.agg [x,y],z];have f:aJ 0 0 0 [.agg [av x,av y],av z]=aa:=by simp[aJ,aI,k,m,q]
 rcases aex _ _ _ U ae ak h1 j o i with⟨B,w,c⟩|⟨l,w,-,Z,u,c⟩
 .rw[w];exact⟨_,wz ⟨c,e,f,λ_=>rfl,O⟩ O O⟩
 .rw[w];obtain⟨A,s,rfl,-⟩:=u;exact⟨.ac (cJ A) s (ay l),cd.up (L:=L8) (cd.new (L:=L7) (c _) O e f O (by rw[aI,aJ,aI,fB,jw];rfl)) O⟩
def am5(hx:RL x U)(E:IL y ae)(v:IL z ak)(u:F U<=1000000)(i:F ak<=1099511627776):∃Z,cd W8 44 [.agg [av x,av y],av z] (.tuple [Z,.v (.bool (fg U ae ak).2.1),im (fg U ae ak).2.2]):=by
 obtain⟨h1,j,k,m⟩:=oi hx E;obtain⟨o,q⟩:=v.hold;have e:bA [.agg [av x,av y],av z]=[.agg [av x,av y],av z]:=lh [.agg [x,y],z];have f:aJ 0 0 0 [.agg [av x,av y],av z]=aa:=by simp[aJ,aI,k,m,q]
 rcases aeu _ _ _ U ae ak h1 j o u i with⟨A,w,c⟩|⟨l,w,-,c⟩
 .rw[w];exact⟨_,cd.up (L:=L8) ⟨c,e,f,λ_=>rfl,O⟩ O⟩
 .rw[w];exact⟨_,cd.up (L:=L8) ⟨c,e,f,λ_=>rfl,by rw[aI,aJ,aI,jw];rfl⟩ O⟩
def anc(hx:IL x ak)(k:rD ak)(j:F ak<=1000000)(o:Int):∃i:Int,cd W8 178 [av x,im o] (.tuple [im i,.v (.bool (ak.contains o))]):=by obtain⟨h1,f⟩:=hx.hold;obtain⟨_,_,c,-,i,rfl⟩:=abU ⟨[],[],0,[]⟩ (av x) ak o h1 k j;have e:cd W3 178 [av x,im o] (.tuple [im i,.v (.bool (ak.contains o))]):=cd.new (L:=L3) c O (by rw[bA,nr];rfl) (by rw[aJ,f];rfl) O O;exact⟨i,Vu (Vt ((e.up (L:=L4) O).call _) O e.held e.fit (e.oG _) e.fits) O O O⟩
def am0(k:cW v r)(f:gc v<=16)(j:F (cr v)<=1099511600000):∃t,cd W8 74 [.agg (bA r)] (.tuple [.ac t 1 (bV (cr v)),im 0]):=by
 obtain⟨h1,e⟩:=cW.hold v r k;obtain⟨t,hc⟩:=NV h1 f j;have i:aJ 0 0 0 [.agg (bA r)]=aa:=by rw[aJ,aI,e];rfl
 exact⟨cJ t,Vu (Vt (hc _) O (lh [.agg r]) i O (by simp[aI,aJ,fB,nm,im])) O O O⟩
end
def LA:List bk:=L8++[143,144,72,170,171,95,38,32,64,65]
noncomputable def Rh:bk->Option (List I->am->Option (I × am)):=mN W8 LA
noncomputable abbrev SA:=whole af Gt Rh
def agP:nG Rh LA:=t_
def AO:∀a b:List I,bA (a++b)=bA a++bA b
 | [],_=>rfl
 |x::a,b=>by rw[fw,bA,AO a b];rfl
def IR:∀a b:List I,aJ 0 0 0 (a++b)=(aJ 0 0 0 a&&aJ 0 0 0 b)
 | [],_=>rfl
 |x::a,b=>by rw[fw,aJ,aJ,IR a b,Bool.and_assoc]
def Yi(l:List UInt8):bA (l.map jc)=l.map jc/\aJ 0 0 0 (l.map jc)=aa:=by
 induction l with
 |nil=>exact⟨O,O⟩|cons b l e=>
  refine⟨?_,?_⟩
  .show av (jc b)::bA (l.map jc)=_;rw[e.1];rfl
  .show(aI 0 0 0 (jc b)&&aJ 0 0 0 (l.map jc))=aa;rw[e.2];rfl
section
variable {d:Dc} {p r n:I}
def ye:bA (bQ d p r n)=bQ d (av p) (av r) (av n):=by unfold bQ;rw[AO,(Yi d.tx).1];rfl
def nI.hold(ok:nI d p r n):nI d (av p) (av r) (av n)/\aJ 0 0 0 (bQ d (av p) (av r) (av n))=aa:=by obtain⟨h1,e⟩:=ok.p.hold;obtain⟨f,i⟩:=ok.r.hold;obtain⟨j,k⟩:=ok.n.hold;refine⟨⟨h1,f,j,ok.t⟩,?_⟩;unfold bQ;rw[IR,(Yi d.tx).2];simp[aJ,aI,im,e,i,k]
def am6(ok:nI d p r n)(hc:d.pQ):cd SA 72 [.agg (bQ d (av p) (av r) (av n))] (.v (.bool (gL d))):=by obtain⟨f,e⟩:=ok.hold;obtain⟨_,_,c,rfl⟩:=ar5 ⟨[],[],0,[]⟩ d _ _ _ f hc.1 hc.2.1 hc.2.2;exact cd.new (L:=LA) c O (by rw[<-ye];exact lh [.agg (bQ d p r n)]) (by rw[aJ,aI,e];rfl) O rfl
def ana(ok:nI d p r n)(hc:d.pQ):cd SA 95 [.agg (bQ d (av p) (av r) (av n))] (.v (.bool (gL d))):=by obtain⟨f,e⟩:=ok.hold;obtain⟨_,_,c,rfl⟩:=ar6 ⟨[],[],0,[]⟩ d _ _ _ f hc.1 hc.2.1 hc.2.2;exact cd.new (L:=LA) c O (by rw[<-ye];exact lh [.agg (bQ d p r n)]) (by rw[aJ,aI,e];rfl) O rfl
end
def am4{l}(hx:IL x l)(f:F l<=9223372036854775807):cd SA 38 [av x] (.v (.bool (dD (-1) l))):=by obtain⟨h1,e⟩:=hx.hold;obtain⟨_,_,c,-,rfl⟩:=apZ ⟨[],[],0,[]⟩ (av x) l h1 f;exact cd.new (L:=LA) c O (by rw[bA,nr];rfl) (by rw[aJ,e];rfl) O rfl
def Rr:Tryz.f73.results.toList=[.cell 2 118]:=by kernel_rfl
def afv:iK af 118 [(0,.v (.int .i64 3))]=J (.agg (aD 3 0 [] .nil 0 [])):=by kernel_rfl
def afx(n):iK af 118 [(0,.v (.int .i64 1)),(1,((n:Int):I))]=J (.agg (aD 1 n [] .nil 0 [])):=by kernel_rfl
def LR:(fY af 118).bind I.bL=J (aD 0 0 [] .nil 0 []):=by kernel_rfl
def Zl(e:F r=4)(f:H.V[b]?=J r):aF af Gt H 118 (.ptr (.box b) 0)=J (.agg r):=by rw[gt cD (by kernel_rfl:cN af 118=J 4) f (by rw[e];exact aT 4)];simp[gm,e]
def Sx(i:F r=4)(e:F r2=4)(hc:(I.agg r2).bL=J r2)(f:H.V[b]?=J r):bU af H 118 (.ptr (.box b) 0) (.agg r2)=J (H.put b r2):=by rw[e7 (off:=0) (cs:=r) (xs:=r2) hc (by kernel_rfl:cN af 118=J 4) f e ag,vU ag]
def Kg(h:am)(eH:cS h=aa)(x:I)(l:List Int)(hx:IL x l)(hb:∀n∈l,0<=n/\n<=4611686018427387903)(hl:F l<=1000):
 ∃r h',SA.call 73 [x] h=J (r,h')/\Ext h h'/\∃t sz U,r=.ret (.agg (aD 3 0 [] t sz U))/\cW (.ac (l.map .int)) (aD 3 0 [] t sz U)/\fX 0 0 0 U=aa/\cY h.tn h' t/\F U=F l/\(U≠[]->sz=4)/\(U=[]->sz=4∨t=.nil):=by
 obtain⟨z1,s,rfl,hs⟩:=hx;have ks:=aj.mk (au hs hb);clear hs hb;have z:=LR;have u23:=underlying23;have u116:=underlying116;have z3:=eQ;have b3:=afv;have fG:=c' l;have q0:(h.push (aD 0 0 [] .nil 0 [])).V[F h.V]?=J (aD 0 0 [] .nil 0 []):=aQ _ _;have s3:bU af ((h.push (aD 0 0 [] .nil 0 [])).push (aD 0 0 [] .nil 0 [])) 118 (.ptr (.box (F (h.push (aD 0 0 [] .nil 0 [])).V)) 0) (.agg (aD 3 0 [] .nil 0 []))=J ((h.push (aD 0 0 [] .nil 0 [])).push (aD 3 0 [] .nil 0 [])):=by rw[Sx O O O (aQ _ _)];congr 1;exact mF _ _ _
 have E:qh h ((h.push (aD 0 0 [] .nil 0 [])).push (aD 3 0 [] .nil 0 [])) (F h.V+1) ((l.map Vl.int).take 0) .nil 0 []:=⟨by have:=aQ (h.push (aD 0 0 [] .nil 0 [])) (aD 3 0 [] .nil 0 []);rwa [bP]at this,.inl O,eH,(Ext.push h _).trans (.push _ _),by omega,⟨O,λf z4 r z0=>by simp at z0⟩,λz0=>absurd O z0,λ_=>.inr O,O⟩;have G:((h.push (aD 0 0 [] .nil 0 [])).push (aD 3 0 [] .nil 0 [])).V[F h.V]?=J (aD 0 0 [] .nil 0 []):=aP q0;refine cq O func73 O ?_;refine br @Rr ?_;refine bJ.gen λo i u fA eg=>?_;have f2:o.get 2=.ptr (.box (F h.V)) 0:=by rw[i];exact gS
 have f3:o.get 3=.ptr (.box (F h.V+1)) 0:=by rw[i];simp only[gW,reduceIte,aR,aM,bP]
 have f7:o.get 7=.ac z1 s (ay l):=by rw[i];exact gS
 have f8:o.get 8=(F l:Nat):=by rw[i];simp only[gW,reduceIte,aR,aM,fG]
 have f9:o.get 9=(0:Nat):=by rw[i];exact gR
 have K:o.defers=[]:=by rw[u];exact gS
 clear i u fA eg;refine cK (λz2 A H=>∃(f:Nat) (t:Tok) (sz:Nat) (U:List (List I)),f<=F l/\z2=F l-f/\aj (qh h H (F h.V+1) ((l.map Vl.int).take f) t sz U)/\aj (H.V[F h.V]?=J (aD 0 0 [] .nil 0 []))/\A.get 2=.ptr (.box (F h.V)) 0/\A.get 3=.ptr (.box (F h.V+1)) 0/\A.get 7=.ac z1 s (ay l)/\A.get 8=(F l:Nat)/\A.get 9=(f:Nat)/\A.defers=[]) ?_ (F l) _ _ ?_;rotate_left 1
 .exact⟨0,.nil,0,[],ck _,O,⟨E⟩,⟨G⟩,f2,f3,f7,f8,f9,K⟩
 clear f2 f3 f7 f8 f9 K E G q0 s3;rintro z2 A H ⟨f,t,sz,U,hi,rfl,m,B,g2,g3,g7,g8,g9,hd⟩;by_cases j:f<F l
 .have dY:s=1:=ks.M.1 (by intro z0;rw[z0]at j;simp at j);subst dY;have ld:=ev (H:=H) (s:=1) j;have k:l[f]?=J (ah l f):=by rw[aW j,fy j]
  have q:=ks.M.2 _ (dk k);have kst:=aj.mk (fS (l:=l.map Vl.int) (i:=f) (x:=.int (ah l f)) (by rw[ek,k];rfl));have iy:(f:Int)<(F l:Int):=by omega
  have lT:F U<1000000:=by have:=m.M.rel.1;rw[dF,bI]at this;omega
  have v:cW (.int (ah l f)) (aD 1 (ah l f) [] .nil 0 []):=.int _ q;have w:=aj.mk (m.M.put v O);have kR2:aj (((H.app t).put (F h.V+1) (aD 3 0 [] (.free H.tn) 4 (U++[aD 1 (ah l f) [] .nil 0 []]))).V[F h.V]?=J (aD 0 0 [] .nil 0 [])):=⟨by rw[cG ag,dC];exact B.M⟩;have l3:=lj m.M.box;have ap:=zT (r:=aD 1 (ah l f) [] .nil 0 []) lT m.M.four m.M.nil m.M.can;have bl:=zZ (r:=aD 1 (ah l f) [] .nil 0 []) O O;have bi:=afx (ah l f);have st:=zw (H:=H.app t) (t2:=.free H.tn) (sz2:=4) (rows2:=U++[aD 1 (ah l f) [] .nil 0 []]) (by rw[dC];exact m.M.box);rw[<-kst.M]at w;clear k q v;generalize ah l f=z4 at *
  refine dL @Rr @fh @bh ?_;exact⟨F l-(f+1),by omega,f+1,_,_,_,by omega,O,w,by first|exact kR2|trivial,by simp⟩
 .have gw:f=F l:=by omega
  subst gw;have e:=m.M;rw[gm (by rw[bI];exact aT _)]at e;have k:cW (.ac (l.map .int)) (aD 3 0 [] t sz U):=.ac (l.map .int) t sz U e.rel.1 e.four (by have:=e.rel.1;rw[bI]at this;omega) e.rel.2;have ld:=Zl k.len e.box;have st:=Sx (r:=aD 0 0 [] .nil 0 []) (r2:=aD 3 0 [] t sz U) O O jp B.M;have ld2:=Zl (H:=H.put (F h.V) (aD 3 0 [] t sz U)) (b:=h.V.length) k.len (dy (aU.1 B.M).1);have D:=aj.mk (au k (au (e.ext.gg (aT _) (aD 3 0 [] t sz U)) (au e.fit (au (show cY h.tn (H.put (F h.V) (aD 3 0 [] t sz U)) t by rw[vh];exact e.can) (au (show F U=F l by have:=e.rel.1;rw[bI]at this;omega) (au e.four e.nil))))));clear k e;refine br @Rr ?_;exact⟨_,_,O,D.M.2.1,_,_,_,O,D.M.1,D.M.2.2⟩
def zo:Tryz.f28.results.toList=[.tmp 2,.tmp 3]:=by kernel_rfl
def YR:∀l:List Int,gF (l.map Vl.int)=0
 | []=>rfl
 |n::l=>by rw[dK,gF,YR l];rfl
def J1:∀l:List Int,F (gM (l.map Vl.int))<=F l*11
 | []=>by simp[gM]
 |n::l=>by have h1:=iG 9 (iB n);have e:=J1 l;rw[dK,gM,db,cr,eR,eR,jt];omega
def VK(d):gc (eY d)<=16:=by simp only[eY,Dd,gc,gF,YR];omega
def NU(h1:F d.pa<=16)(B:F d.rv<=16)(D:F d.nd<=16)(E:F d.tx=32):F (cr (eY d))<=1000:=by
 have a0:=iG 9 (0+1+1+1+1+1+1+1+1+1+1);have e:=iG 9 (iB d.no);have f:=iG 9 (iB d.tm);have i:=iG 9 (iB d.kd);have j:=iG 9 (iB d.vl);have k:=iG 9 (iB d.fr);have m:=iG 9 (iB d.un);have o:=iG 9 (F d.pa);have q:=iG 9 (F d.rv);have u:=iG 9 (F d.nd);have v:=iG 9 (F d.tx);have w:=J1 d.pa;have A:=J1 d.rv;have b3:=J1 d.nd;simp only[eY,Dd,cr,gM,eR,db,gh,bI]at *
 omega
def YM{f}:∀{l:List Int} {last:Int},oJ f last l=aa->∀n∈l,last<n/\n<f
 | [],_,_,n,e=>by cases e
 |a::l,last,h,n,e=>by
  rw[oJ]at h;simp only[bR,decide_eq_true_eq]at h;rcases gX.1 e with rfl|e
  .exact h.1
  .have:=YM h.2 n e;exact⟨ag,this.2⟩
def VL(h:gL d=aa):(0<=d.no/\d.no<4096)/\(0<=d.tm/\d.tm<1099511627776)/\(0<=d.kd/\d.kd<16)/\(0<=d.vl/\d.vl<=1099511627776)/\(0<=d.fr/\d.fr<d.un)/\d.un<=1099511627776/\(ij d.pa 1048577=aa/\ij d.rv d.no=aa/\ij d.nd d.no=aa):=by unfold gL Bw at h;simp only[bR,decide_eq_true_eq]at h;exact⟨ag,by omega,by omega,by omega,by omega,by omega,h.1.1.2,h.1.2,h.2⟩
def Dm{l}{e}(h:ij l e=aa):F l<=16/\∀n∈l,0<=n/\n<e:=by unfold ij at h;simp only[bR,decide_eq_true_eq]at h;exact⟨h.2,λn f=>by have:=YM h.1 n f;omega⟩
def agf(a b c d e f):fF af 23 6 [(0,((a:Int):I)),(1,((b:Int):I)),(2,((c:Int):I)),(3,((d:Int):I)),(4,((e:Int):I)),(5,((f:Int):I))]=J (.ac .aK 1 (ay [a,b,c,d,e,f])):=by kernel_rfl
def afy(s):iK af 118 [(0,.v (.int .i64 2)),(2,.v (.string (bs s)))]=J (.agg (aD 2 0 s .nil 0 [])):=by kernel_rfl
def agb{e i}(h1:F e=4)(q:F r2=4)(u:F f=4)(v:F i=4)(j:(I.agg e).bL=J e)(c2:(I.agg r2).bL=J r2)(k:(I.agg f).bL=J f)(m:(I.agg i).bL=J i):
 fF af 116 4 [(0,.agg e),(1,.agg r2),(2,.agg f),(3,.agg i)]=J (.ac .aK 4 [e,r2,f,i]):=by
 have o:af.underlying 116=J (.slice 118):=underlying116;unfold fF;simp only[o,oo,uL];rw[aC ⟨aZ,O,by decide⟩];simp[yl,j,c2,k,m,h1,q,u,v]
def ae1{new}(B:F es<1000000)(o:new≠[])(w:F new<=1000)(u:es≠[]->sz=4)(i:es=[]->sz=4∨k=.nil)(m:cY n0 H k):
 gB af H #[116,116] (.ac k sz es) (.ac .aK 4 new)=J (.ac (.free H.tn) 4 (es++new),H.app k):=by
 obtain⟨D,h1,e,v,j⟩:=P2;have A:=lu (ag:F es+F new<=1001000) v;have:=zV (P:=af) (h:=H) (n0:=n0) (k:=k) (sz:=sz) (es:=es) (new:=new) (x:=.ac .aK 4 new) (t1:=116) underlying116 (.inl ⟨118,underlying116⟩) h1 ag (by rw[e];exact j) (by rw[e];unfold jX rowsOf;simp) o ag ag (by
  rw[e];by_cases f:es=[]
  .rcases i f with q|q
   .exact .inl q
   .exact .inr ⟨f,q⟩
  .exact .inl (u f)) m
 rwa [e]at this
def avj(b):gV af 29 (.ptr (.box b) 9) ao ao ao=J (.arr b 9 32 32):=by kernel_rfl
def axe(l)(e):((bE (F l)).map λi=>((e++l.map jc).drop (F e+i*1)).take 1)=bV l:=by
 apply ou;intro i;rw[ek];by_cases f:i<F l
 .rw[xQ f,gq,nO,<-rF,Mx,we (by simpa using f)];unfold bV;rw[ek,aW f];simp[jc,iL]
 .rw[pR (by simp;omega),pR (by unfold bV;simp;omega)];rfl
def agJ:∀l:List UInt8,bytesOf (bV l)=J l:=by
 intro l
 induction l with
 |nil=>rfl|cons a l e=>show(match Go.AE.byteOf (iL a),bytesOf (bV l) with|some b,J l=>J (b::l)|_,_=>ao)=_;rw[e];simp[Go.AE.byteOf,iL]
def Ch{p r n}(ht:F d.tx=32)(i:H.V[b]?=J (bQ d p r n)):lM af H 60 9 (.arr b 9 32 32)=J (.v (.string (bs d.tx)),H):=by
 have h1:af.underlying 9=J .string:=underlying9;have e:af.underlying 60=J (.slice 5):=underlying60;have f:af.underlying 5=J (.int .u8):=underlying5;have j:rowsOf H 1 (.arr b 9 32 32)=J (bV d.tx):=by
  simp only[rowsOf,i];have k:F (bQ d p r n)=41:=by unfold bQ;rw[db,bI,ht];rfl
  rw[aC ag];have:=axe d.tx [im d.no,im d.tm,im d.kd,im d.vl,im d.fr,im d.un,p,r,n];rw[ht]at this;exact congrArg J this
 unfold lM;simp only[h1,e,f,j,agJ,gq];rfl
def cW.an0{m o}{t v}{U rows2}(h1:cW (.ac m) (aD 3 0 [] t sz U))(i:gy o rows2)(u:F (U++rows2)<=1000000):cW (.ac (m++o)) (aD 3 0 [] v 4 (U++rows2)):=by
 cases h1 with
 |ac _ _ _ _ q D E w=>
  refine .ac _ _ _ _ (by rw[db,db,q,i.1]) (λ_=>rfl) u λA B r f e=>?_;rcases dR A (F U) with k|j
  .rw[qL k]at e;rw[qL ag]at f;exact w A B r f e
  .rw[wg j]at e;rw[wg ag,<-q]at f;exact i.2 _ B r f e
def gy.cons{l}{U}(h:cW v r)(e:gy l U):gy (v::l) (r::U):=by
 refine⟨by rw[eR,eR,e.1],λf i x hw hx=>?_⟩;cases f with|zero=>simp at hw hx;subst hw;subst hx;exact h|succ f=>exact e.2 f i x (by simpa using hw) (by simpa using hx)
def gy.nil:gy [] []:=⟨O,λe f r h=>by simp at h⟩
def ZT25{p:Prop}(h:p:=by
 refine pM (x:=.ptr (.box (F h.V)) 8) (v:=n) cD O O O cD (hn) ?_ ?_<;>(simp only[fe,eE];exact jN @zo @bG @fh (au @j @and_self))):p:=h
def ZT5{p:Prop}(h:p:=by
 refine mI (x:=.ptr (.box (F o.V)) 3) (v:=.ac t B U) cD O O O cD (hsm) ?_ ?_<;>(simp only[fe,eE];exact jN @zo @bG @fh (au @j @and_self))):p:=h
def awT(h:am)(eH:cS h=aa)(d:Dc)(p r n:I)(ok:nI d p r n)(hc:d.pQ)(kp:av p=p)(kr:av r=r)(kn:av n=n):
 ∃rr h',SA.call 28 [.agg (bQ d p r n)] h=J (rr,h')/\((gL d=ar/\rr=.ret (.tuple [.ac .nil 0 [],im 170]))∨(gL d=aa/\∃t,rr=.ret (.tuple [.ac t 1 (bV (cr (eY d))),im 0]))):=by
 have bx:=ok.cells;have hD:=ok.len;have K:=(am6 ok hc).call;rw[kp,kr,kn]at K;have lD:=yM hD (aQ h (bQ d p r n));cases hd:gL d with
 |false=>
  rw[hd]at K;clear ok hc;generalize bQ d p r n=z3 at *
  refine cq O func28 O ?_;refine bB @zo @bG ?_;exact⟨_,_,O,.inl ⟨by first|rfl|trivial,O⟩⟩
 |true=>
  rw[hd]at K;obtain⟨f1,f2,f3,f4,f5,f6,g1,g2,g3⟩:=VL hd;obtain⟨n1,m1⟩:=Dm g1;obtain⟨n2,m2⟩:=Dm g2;obtain⟨n3,m3⟩:=Dm g3;have L:=wY (aQ h (bQ d p r n));have z4:=II;have b6:=agf d.no d.tm d.kd d.vl d.fr d.un;obtain⟨_,o,c1,x1,t,B,U,rfl,v1,fr1,ca1,rl1,fo1,ni1⟩:=Kg (h.push (bQ d p r n)) eH (.ac .aK 1 (ay [d.no,d.tm,d.kd,d.vl,d.fr,d.un])) [d.no,d.tm,d.kd,d.vl,d.fr,d.un] ⟨_,_,O,λ_=>rfl⟩ (by intro z1 A;simp at A;omega) cB;have ok2:=x1.ok eH;have z:=LR;have s0:bU af (o.push (aD 0 0 [] .nil 0 [])) 118 (.ptr (.box (F o.V)) 0) (.agg (aD 3 0 [] t B U))=J (o.push (aD 3 0 [] t B U)):=by rw[Sx O O O (aQ _ _)];congr 1;exact mF _ _ _
  obtain⟨D,j⟩:∃D,o.push (aD 3 0 [] t B U)=D:=⟨_,O⟩;have ok3:cS D=aa:=by rw[<-j];exact ok2
  have e23:Ext o D:=by rw[<-j];exact .push _ _
  have b3:D.V[F o.V]?=J (aD 3 0 [] t B U):=by rw[<-j];exact aQ _ _
  obtain⟨_,H4,c2,E,t2,q,e,rfl,v2,fr2,ca2,rl2,fo2,ni2⟩:=Kg D ok3 p d.pa ok.p (λz1 A=>by have:=m1 z1 A;omega) ag;have ok4:=E.ok ok3;obtain⟨_,H5,c3,x3,t3,k,f,rfl,v3,fr3,ca3,rl3,fo3,ni3⟩:=Kg H4 ok4 r d.rv ok.r (λz1 A=>by have:=m2 z1 A;omega) ag;have ok5:=x3.ok ok4;obtain⟨_,w,c4,x4,t4,u,i,rfl,v4,fr4,ca4,rl4,fo4,ni4⟩:=Kg H5 ok5 n d.nd ok.n (λz1 A=>by have:=m3 z1 A;omega) ag;have ok6:=x4.ok ok5;have v5:cW (.aq d.tx) (aD 2 0 d.tx .nil 0 []):=.aq _ (by rw[ok.t];omega);have bt:=afy d.tx;have bl:=agb v2.len v3.len v4.len v5.len v2.cells v3.cells v4.cells v5.cells;have can6:=((ca1.ext e23).ext ((E.trans x3).trans x4));have ap:=ae1 (H:=w) (new:=[aD 3 0 [] t2 q e,aD 3 0 [] t3 k f,aD 3 0 [] t4 u i,aD 2 0 d.tx .nil 0 []]) (by rw[rl1];simp) cB cB fo1 ni1 can6;have G:w.V[F o.V]?=J (aD 3 0 [] t B U):=((E.trans x3).trans x4).box _ _ b3;have st:=zw (H:=w.app t) (t2:=.free w.tn) (sz2:=4) (rows2:=U++[aD 3 0 [] t2 q e,aD 3 0 [] t3 k f,aD 3 0 [] t4 u i,aD 2 0 d.tx .nil 0 []]) (by rw[dC];exact G);have vv:cW (eY d) (aD 3 0 [] (.free w.tn) 4 (U++[aD 3 0 [] t2 q e,aD 3 0 [] t3 k f,aD 3 0 [] t4 u i,aD 2 0 d.tx .nil 0 []])):=
   cW.an0 v1 (gy.cons v2 (gy.cons v3 (gy.cons v4 (gy.cons v5 gy.nil)))) (by rw[db,rl1];simp)
  have Qc:=oa (H:=(w.app t).put (F o.V) (aD 3 0 [] (.free w.tn) 4 (U++[aD 3 0 [] t2 q e,aD 3 0 [] t3 k f,aD 3 0 [] t4 u i,aD 2 0 d.tx .nil 0 []]))) (b:=o.V.length) vv.len (dy (by rw[dC];exact(aU.1 G).1));obtain⟨te,ce⟩:=am0 vv (VK d) (by have:=NU n1 n2 n3 ok.t;omega);have c74:∀h,SA.call 74 [.agg (aD 3 0 [] (.free w.tn) 4 (U++[aD 3 0 [] t2 q e,aD 3 0 [] t3 k f,aD 3 0 [] t4 u i,aD 2 0 d.tx .nil 0 []]))] h=J (.ret (.tuple [.ac te 1 (bV (cr (eY d))),im 0]),h):=cd.use (L:=LA) ce O O;have d0:D.V[F h.V]?=J (bQ d p r n):=e23.box _ _ (x1.box _ _ (aQ h (bQ d p r n)));have d4:=E.box _ _ d0;have d5:=x3.box _ _ d4;have d6:=x4.box _ _ d5;have M3:=wY d0;have M4:=wY d4;have M5:=wY d5;have w3:=lj b3;have w4:=lj (E.box _ _ b3);have w5:=lj (x3.box _ _ (E.box _ _ b3));have w6:=lj G;have y3:=Ch ok.t d0;have y4:=Ch ok.t d4;have y5:=Ch ok.t d5;have y6:=Ch ok.t d6;have d7:(w.app t).V[F h.V]?=J (bQ d p r n):=by rw[dC];exact d6
  have y7:=Ch ok.t d7;have fH:F h.V≠F o.V:=by have:=(aU.1 (x1.box _ _ (aQ h (bQ d p r n)))).1;have q1:=aQ h (bQ d p r n);intro z0;rw[z0]at this;omega
  have y8:=Ch (H:=(w.app t).put (F o.V) (aD 3 0 [] (.free w.tn) 4 (U++[aD 3 0 [] t2 q e,aD 3 0 [] t3 k f,aD 3 0 [] t4 u i,aD 2 0 d.tx .nil 0 []]))) ok.t (by rw[cG fH];exact d7);have sl:=avj (F h.V);have hsm:df (.ac t B U) (.ac t B U)=aa:=by have:=R_ _ _ v1;unfold aD at this;simp only[gJ,bR]at this;exact this.2.2.2.1
  have hp:df p p=aa:=by obtain⟨z2,s,z0,-⟩:=ok.p;rw[z0];exact xo _ _ _
  have hr:df r r=aa:=by obtain⟨z2,s,z0,-⟩:=ok.r;rw[z0];exact xo _ _ _
  have hn:df n n=aa:=by obtain⟨z2,s,z0,-⟩:=ok.n;rw[z0];exact xo _ _ _
  clear hd f1 f2 f3 f4 f5 f6 g1 g2 g3 n1 m1 n2 m2 n3 m3 v1 v2 v3 v4 v5 vv ok hc fr1 fr2 fr3 fr4 fo1 fo2 fo3 fo4 ni1 ni2 ni3 ni4 rl1 rl2 rl3 rl4 ca1 ca2 ca3 ca4 can6 ce x1 E x3 x4 e23 ok2 ok3 ok4 ok5 ok6 G b3 d0 d4 d5 d6 d7;generalize hDD:bQ d p r n=z3 at *
  generalize aD 3 0 [] (.free w.tn) 4 (U++[aD 3 0 [] t2 q e,aD 3 0 [] t3 k f,aD 3 0 [] t4 u i,aD 2 0 d.tx .nil 0 []])=FV at *
  generalize aD 3 0 [] t2 q e=V2 at *
  generalize aD 3 0 [] t3 k f=V3 at *
  generalize aD 3 0 [] t4 u i=V4 at *
  unfold im at *
  refine cq O func28 O ?_;refine b_ @zo @bG @fh @j ?_;refine D4 [13] [(1,4),(4,6),(1,7),(4,9),(7,9),(1,10)] cD ?_ ?_ ?_
  .intro z2 hk;simp only[js]at hk;subst hk;refine agX (v:=.arr (F h.V) 9 32 32) (x:=.v (.string (bs d.tx))) O O ?_ ?_
   .simp only[fe,eE];exact jN @zo @bG @fh (au @j @and_self)
   .intro m hm;change m<=19 at hm;rcases m with _|_|_|_|_|_|_|_|_|_|_|_|_|_|_|_|_|_|_|_|m
    rotate_right 1
    .omega
    all_goals (simp only[fe,eE];exact jN @zo @bG @fh (au @j @and_self))
  .intro z1 A;simp only[gX,rI,or_false]at A;rcases A with rfl|rfl|rfl|rfl|rfl|rfl
   .exact ZT5
   .refine pM (x:=.ptr (.box (F h.V)) 7) (v:=r) cD O O O cD (hr) ?_ ?_<;>(simp only[fe,eE];exact jN @zo @bG @fh (au @j @and_self))
   .exact ZT5
   .exact ZT25
   .exact ZT25
   .exact ZT5
  refine b_ @zo @bG @fh @j ?_;exact⟨_,_,O,.inr ⟨by first|rfl|trivial,_,O⟩⟩
def rx:Tryz.f42.results.toList=[.tmp 2,.tmp 3]:=by kernel_rfl
def afw:iK af 118 [(0,.v (.int .i64 3))]=J (.agg (aD 3 0 [] .nil 0 [])):=by kernel_rfl
def amJ(h:am)(k:Tok)(s:Nat):∃r h',W6.call 98 [.ac k s []] h=J (r,h')/\r=.ret (.agg (aD 3 0 [] .nil 0 [])):=by
 have z:=LR;have b3:=afw;have i:=underlying23;have D:bU af ((h.push (aD 0 0 [] .nil 0 [])).push (aD 0 0 [] .nil 0 [])) 118 (.ptr (.box (F (h.push (aD 0 0 [] .nil 0 [])).V)) 0) (.agg (aD 3 0 [] .nil 0 []))=J ((h.push (aD 0 0 [] .nil 0 [])).push (aD 3 0 [] .nil 0 [])):=Sj O O;have w:aF af Gt ((h.push (aD 0 0 [] .nil 0 [])).push (aD 3 0 [] .nil 0 [])) 118 (.ptr (.box (F (h.push (aD 0 0 [] .nil 0 [])).V)) 0)=J (.agg (aD 3 0 [] .nil 0 [])):=oa O (aQ _ _);have f:((h.push (aD 0 0 [] .nil 0 [])).push (aD 3 0 [] .nil 0 [])).V[F h.V]?=J (aD 0 0 [] .nil 0 []):=aP (aQ _ _);have B:=ab7 (r:=aD 3 0 [] .nil 0 []) f O O O;have v:=Zf (H:=(h.push (aD 0 0 [] .nil 0 [])).push (aD 3 0 [] .nil 0 [])) (r:=aD 3 0 [] .nil 0 []) O (aU.1 f).1;refine cq O func98 O ?_;refine br @DR ?_;refine cK (λA e H=>e.get 2=.ptr (.box (F h.V)) 0/\e.get 3=.ptr (.box (F (h.push (aD 0 0 [] .nil 0 [])).V)) 0/\e.get 0=.ac k s []/\e.get 4=.v (.int .i64 0)/\e.defers=[]/\H=(h.push (aD 0 0 [] .nil 0 [])).push (aD 3 0 [] .nil 0 [])) ?_ 0 _ _ ?_;rotate_left 1
 .refine⟨?_,?_,?_,?_,?_,O⟩<;>exact gS
 rintro A e H ⟨m,o,j,q,u,rfl⟩;refine bB @DR @gh.{0} ?_;exact⟨_,_,O,O⟩
def Db:xJ SA:=xJ.up O amF
def awY:xL SA:=xL.up O awX
def aiW:xI SA:=xI.up O aiV
def anZ:xK SA:=xK.up O anY
def amI:zE SA:=zE.up O (zE.up (R:=W7) (L:=L8) O amH)
def P6{l}(hx:IL x l)(u:F l<=1000)(k:∀n∈l,0<=n/\n<=4611686018427387903):∃t sz U,(∀h,SA.call 98 [x] h=J (.ret (.agg (aD 3 0 [] t sz U)),h))/\cW (Dd l) (aD 3 0 [] t sz U)/\bA (aD 3 0 [] t sz U)=aD 3 0 [] t sz U:=by
 obtain⟨o,s,rfl,v⟩:=hx;by_cases i:l=[]
 .subst i;obtain⟨_,_,c,rfl⟩:=amJ ⟨[],[],0,[]⟩ (cJ o) s;have q:cd W7 98 [.ac (cJ o) s []] (.agg (aD 3 0 [] .nil 0 [])):=cd.new (L:=L7) c O (by cases o<;>rfl) (by rw[aJ,aI,fB];rfl) O O;exact⟨.nil,0,[],cd.use (L:=LA) (q.up (L:=L8) O) O O,.ac _ _ _ _ O (λw=>absurd O w) (ck _) (λA B r w=>by simp at w),O⟩
 .have m:=v i;subst m;refine⟨.held,4,l.map dn,amI o l u i k,?_,?_⟩
  .refine .ac _ _ _ _ cB (λ_=>rfl) (by rw[bI];omega) λA B r e f=>?_;rw[ek]at e f;cases j:l[A]? with
   |none=>rw[j]at e;cases e
   |some n=>rw[j]at e f;injection e with e;injection f with f;subst e;subst f;exact .int _ (k n (dk j))
  .unfold aD;simp only[bA,av,(JD l).1];rfl
def amS(b i)(h:i<32):dM af 29 (.ptr (.box b) 9) ((i:Nat):I)=J (.ptr (.box b) (9+i)):=by
 have h1:af.underlying 29=J (.array 32 5):=underlying29;have e:cN af 5=J 1:=by kernel_rfl
 unfold dM;simp only[h1,e];rw[aC ag,eD,nO]
def anp{p r n}{c}(f:H.V[b]?=J (bQ d p r n))(hc:d.tx[i]?=J c):aF af Gt H 5 (.ptr (.box b) (9+i))=J (jc c):=by rw[fI cD f];unfold bQ;rw[List.drop_append,List.drop_eq_nil_of_le cB];have j:=(aU.1 hc);obtain⟨e,rfl⟩:=j;simp only[fE,eR,gh];rw[(ag:9+i-(0+1+1+1+1+1+1+1+1+1)=i),we (by simpa using e)];simp
def agl(c):fF af 60 1 [(0,jc c)]=J (.ac .aK 1 (bV [c])):=by kernel_rfl
def aga{i j k m o q u e}(h1:F f=4)(h2:F r2=4)(h3:F i=4)(h4:F j=4)(h5:F k=4)(h6:F m=4)(h7:F o=4)(h8:F q=4)(h9:F u=4)(h0:F e=4)
 (v:(I.agg f).bL=J f) (c2:(I.agg r2).bL=J r2) (w:(I.agg i).bL=J i) (A:(I.agg j).bL=J j) (B:(I.agg k).bL=J k) (D:(I.agg m).bL=J m) (E:(I.agg o).bL=J o) (G:(I.agg q).bL=J q) (K:(I.agg u).bL=J u) (c0:(I.agg e).bL=J e):
 fF af 116 10 [(0,.agg f),(1,.agg r2),(2,.agg i),(3,.agg j),(4,.agg k),(5,.agg m),(6,.agg o),(7,.agg q),(8,.agg u),(9,.agg e)]=J (.ac .aK 4 [f,r2,i,j,k,m,o,q,u,e]):=by
 have z0:af.underlying 116=J (.slice 118):=underlying116;unfold fF;simp only[z0,oo,uL];rw[aC ⟨aZ,O,by decide⟩];simp[yl,v,c2,w,A,B,D,E,G,K,c0,h1,h2,h3,h4,h5,h6,h7,h8,h9,h0]
def awV(h:am)(d:Dc)(p r n:I)(ok:nI d p r n)(hc:d.pQ)(kp:av p=p)(kr:av r=r)(kn:av n=n):
 ∃rr h',SA.call 42 [.agg (bQ d p r n)] h=J (rr,h')/\((gL d=ar/\rr=.ret (.tuple [.ac .nil 0 [],im 170]))∨(gL d=aa/\∃t,rr=.ret (.tuple [.ac t 1 (bV (cr (eY d))),im 0]))):=by
 have bx:=ok.cells;have hD:=ok.len;have q:=(ana ok hc).call;rw[kp,kr,kn]at q;have lD:=yM hD (aQ h (bQ d p r n));cases A:gL d with
 |false=>
  rw[A]at q;clear ok hc;generalize bQ d p r n=z5 at *
  refine cq O func42 O ?_;refine bB @rx @bG ?_;exact⟨_,_,O,.inl ⟨by first|rfl|trivial,O⟩⟩
 |true=>
  rw[A]at q;obtain⟨f1,f2,f3,f4,f5,f6,g1,g2,g3⟩:=VL A;obtain⟨n1,m1⟩:=Dm g1;obtain⟨n2,m2⟩:=Dm g2;obtain⟨n3,m3⟩:=Dm g3;have L:=wY (aQ h (bQ d p r n));have z7:=II;have htx:=ok.t;have lt:∀f c,d.tx[f]?=J c->aF af Gt (h.push (bQ d p r n)) 5 (.ptr (.box (F h.V)) (9+f))=J (jc c):=λf c e=>anp (aQ h (bQ d p r n)) e;have klt:=aj.mk lt;have i1:=Db d.no;have i2:=Db d.tm;have i3:=Db d.kd;have i4:=Db d.vl;have i5:=Db d.fr;have i6:=Db d.un;obtain⟨t1,k,i,e1,G,k1⟩:=P6 ok.p ag (λz0 e=>by have:=m1 z0 e;omega);obtain⟨t2,m,j,e2,K,k2⟩:=P6 ok.r ag (λz0 e=>by have:=m2 z0 e;omega);obtain⟨t3,o,R3,e3,v3,k3⟩:=P6 ok.n ag (λz0 e=>by have:=m3 z0 e;omega);have ct:∀h,SA.call 99 [.v (.string (bs d.tx))] h=J (.ret (.agg (aD 2 0 d.tx .nil 0 [])),h):=awY d.tx;have E:cW (.aq d.tx) (aD 2 0 d.tx .nil 0 []):=.aq _ ag;have w1:cW (.int d.no) (dn d.no):=.int _ ag;have w2:cW (.int d.tm) (dn d.tm):=.int _ ag;have w3:cW (.int d.kd) (dn d.kd):=.int _ ag;have w4:cW (.int d.vl) (dn d.vl):=.int _ ag;have w5:cW (.int d.fr) (dn d.fr):=.int _ ag;have w6:cW (.int d.un) (dn d.un):=.int _ ag;have bl:=aga w1.len w2.len w3.len w4.len w5.len w6.len G.len K.len v3.len E.len w1.cells w2.cells w3.cells w4.cells w5.cells w6.cells G.cells K.cells v3.cells E.cells;have vs:=gy.cons w1 (gy.cons w2 (gy.cons w3 (gy.cons w4 (gy.cons w5 (gy.cons w6 (gy.cons G (gy.cons K (gy.cons v3 (gy.cons E gy.nil)))))))));have D:dV [dn d.no,dn d.tm,dn d.kd,dn d.vl,dn d.fr,dn d.un,aD 3 0 [] t1 k i,aD 3 0 [] t2 m j,aD 3 0 [] t3 o R3,aD 2 0 d.tx .nil 0 []]=[dn d.no,dn d.tm,dn d.kd,dn d.vl,dn d.fr,dn d.un,aD 3 0 [] t1 k i,aD 3 0 [] t2 m j,aD 3 0 [] t3 o R3,aD 2 0 d.tx .nil 0 []]:=by simp only[dV,k1,k2,k3];rfl
  have cl:=anZ _ _ vs D .aK cB;have B:cW (eY d) (aD 3 0 [] .aK 4 [dn d.no,dn d.tm,dn d.kd,dn d.vl,dn d.fr,dn d.un,aD 3 0 [] t1 k i,aD 3 0 [] t2 m j,aD 3 0 [] t3 o R3,aD 2 0 d.tx .nil 0 []]):=.ac _ _ _ _ vs.1 (λ_=>rfl) cB vs.2;obtain⟨te,ce⟩:=aiW _ _ B (VK d) (by have:=NU n1 n2 n3 ok.t;omega);have z:=LR;have s9:=Sj (H:=h.push (bQ d p r n)) B.cells B.len;have l9:=oa B.len (aQ (h.push (bQ d p r n)) (aD 3 0 [] .aK 4 [dn d.no,dn d.tm,dn d.kd,dn d.vl,dn d.fr,dn d.un,aD 3 0 [] t1 k i,aD 3 0 [] t2 m j,aD 3 0 [] t3 o R3,aD 2 0 d.tx .nil 0 []]));have L9:=wY (H:=(h.push (bQ d p r n)).push (aD 0 0 [] .nil 0 [])) (aP (aQ h (bQ d p r n)));have L8:=wY (H:=(h.push (bQ d p r n)).push (aD 3 0 [] .aK 4 [dn d.no,dn d.tm,dn d.kd,dn d.vl,dn d.fr,dn d.un,aD 3 0 [] t1 k i,aD 3 0 [] t2 m j,aD 3 0 [] t3 o R3,aD 2 0 d.tx .nil 0 []])) (aP (aQ h (bQ d p r n)));have hp:df p p=aa:=by obtain⟨z4,s,u,-⟩:=ok.p;rw[u];exact xo _ _ _
  have hr:df r r=aa:=by obtain⟨z4,s,u,-⟩:=ok.r;rw[u];exact xo _ _ _
  have hn:df n n=aa:=by obtain⟨z4,s,u,-⟩:=ok.n;rw[u];exact xo _ _ _
  clear A f1 f2 f3 f4 f5 f6 g1 g2 g3 n1 m1 n2 m2 n3 m3 G K v3 E w1 w2 w3 w4 w5 w6 B vs D ok hc lt;generalize bQ d p r n=z5 at *
  generalize aD 3 0 [] t1 k i=V1 at *
  generalize aD 3 0 [] t2 m j=V2 at *
  generalize aD 3 0 [] t3 o R3=V3 at *
  generalize hV:aD 3 0 [] .aK 4 [dn d.no,dn d.tm,dn d.kd,dn d.vl,dn d.fr,dn d.un,V1,V2,V3,aD 2 0 d.tx .nil 0 []]=FV at *
  have cl2:∀h,SA.call 96 [.ac .aK 4 [dn d.no,dn d.tm,dn d.kd,dn d.vl,dn d.fr,dn d.un,V1,V2,V3,aD 2 0 d.tx .nil 0 []]] h=J (.ret (.agg FV),h):=by rw[<-hV];exact cl
  clear cl hV;unfold im at *
  refine cq O func42 O ?_;refine bB @rx @bG ?_;refine cK (λz6 u H=>∃f:Nat,f<=32/\z6=32-f/\u.get 1=.ptr (.box (F h.V)) 0/\u.get 4=.v (.string (bs (d.tx.take f)))/\u.get 5=(f:Nat)/\u.defers=[]/\H=h.push z5) ?_ 32 _ _ ?_;rotate_left 1
  .refine⟨0,by omega,O,?_,?_,?_,?_,O⟩<;>exact gR
  rintro z6 u H ⟨f,hi,rfl,g1,g4,g5,A,rfl⟩;by_cases dx:f<32
  .obtain⟨c,w⟩:∃c,d.tx[f]?=J c:=⟨_,aW ag⟩;have lc:=klt.M f c w;have ix:=amS (F h.V) f dx;have bu:fF af 60 1 [(0,jc c)]=J (.ac .aK 1 [iL c]):=agl c;have cv:∀h,lM af h 60 9 (.ac .aK 1 [iL c])=J (.v (.string (bs [c])),h):=NN (k:=.aK) (s:=1) (b:=[c]) (λ_=>rfl);have ad:∀t x y,de af .add t x y (.v (.string (bs (d.tx.take f)))) (.v (.string (bs [c])))=J (.v (.string (bs (d.tx.take f++[c])))):=λt x y=>UG (by rw[dF];simp;omega);have kts:=aj.mk (fS w);have iy:((f:Nat):Int)<32:=(by omega);clear w;refine br @rx ?_;exact⟨32-(f+1),by omega,f+1,by omega,O,by simp[kts.M]⟩
  .have gw:f=32:=(by omega);subst gw;rw[gm ag]at g4;clear klt;refine br @rx ?_;refine jB [(1,31),(4,31),(7,31),(10,31),(13,31),(16,31),(19,31),(22,31),(25,31)] agP cD (λz0 e=>?_) ?_
   .simp only[gX,rI,or_false]at e;rcases e with rfl|rfl|rfl|rfl|rfl|rfl|rfl|rfl|rfl
    .refine mI (x:=.ptr (.box (F h.V)) 0) (v:=((d.no:Int):I)) cD O O O cD (by simp[df,ip]) ?_ ?_<;>(simp only[fe,eE];exact f_ @rx @and_self)
    .refine mI (x:=.ptr (.box (F h.V)) 1) (v:=((d.tm:Int):I)) cD O O O cD (by simp[df,ip]) ?_ ?_<;>(simp only[fe,eE];exact f_ @rx @and_self)
    .refine mI (x:=.ptr (.box (F h.V)) 2) (v:=((d.kd:Int):I)) cD O O O cD (by simp[df,ip]) ?_ ?_<;>(simp only[fe,eE];exact f_ @rx @and_self)
    .refine mI (x:=.ptr (.box (F h.V)) 3) (v:=((d.vl:Int):I)) cD O O O cD (by simp[df,ip]) ?_ ?_<;>(simp only[fe,eE];exact f_ @rx @and_self)
    .refine mI (x:=.ptr (.box (F h.V)) 4) (v:=((d.fr:Int):I)) cD O O O cD (by simp[df,ip]) ?_ ?_<;>(simp only[fe,eE];exact f_ @rx @and_self)
    .refine mI (x:=.ptr (.box (F h.V)) 5) (v:=((d.un:Int):I)) cD O O O cD (by simp[df,ip]) ?_ ?_<;>(simp only[fe,eE];exact f_ @rx @and_self)
    .refine mI (x:=.ptr (.box (F h.V)) 6) (v:=p) cD O O O cD (hp) ?_ ?_<;>(simp only[fe,eE];exact f_ @rx @and_self)
    .refine mI (x:=.ptr (.box (F h.V)) 7) (v:=r) cD O O O cD (hr) ?_ ?_<;>(simp only[fe,eE];exact f_ @rx @and_self)
    .refine mI (x:=.ptr (.box (F h.V)) 8) (v:=n) cD O O O cD (hn) ?_ ?_<;>(simp only[fe,eE];exact f_ @rx @and_self)
   refine br @rx ?_;exact⟨_,_,O,.inr ⟨by first|rfl|trivial,_,O⟩⟩
section
variable {X Y C T L S Z:I} {U:List (List Int)} {ae aH G z:List Int} {aq:List UInt8} {l:List Pr} {s:List (Int × Int)} {ep:Int}
def yL(ep:Int)(hx:RL X U)(E:IL Y ae)(hc:IL C aH):RL (av X) U/\IL (av Y) ae/\IL (av C) aH/\aJ 0 0 0 (aG ep (av X) (av Y) (av C))=aa:=by obtain⟨h1,e,f,i⟩:=oi hx E;obtain⟨j,k⟩:=hc.hold;exact⟨h1,e,j,by simp[aG,aJ,aI,f,i,k,im]⟩
def amV(hx:RL X U)(E:IL Y ae)(hc:IL C aH)(fj:F aH<=1000000):cd W8 37 [.agg (aG ep (av X) (av Y) (av C)),.ac .nil 0 [],.ac .nil 0 []] (.tuple [.ac .nil 0 [],im 0,im 0,im (dA U ae ep aH [] [])]):=by
 obtain⟨h1,i,j,k⟩:=yL ep hx E hc;have e:dA U ae ep aH [] []≠0:=by
  unfold dA;split
  .assumption
  .split
   .decide
   .split
    .simp at *
    .split
     .simp at *
     .split
      .simp[NT.jY]at *
      .simp
 rcases UI ep (av X) (av Y) (av C) (.ac .nil 0 []) (.ac .nil 0 []) U ae aH [] [] h1 i j ⟨.nil,0,rfl,λf=>absurd O f⟩ ⟨.nil,0,O,λf=>absurd O f⟩ fj (ck _) with⟨-,c⟩|⟨f,-⟩
 .exact wz ⟨c,lh [.agg (aG ep X Y C),.ac .nil 0 [],.ac .nil 0 []],by rw[aJ,aI,k];rfl,λ_=>rfl,O⟩ O O
 .exact absurd f e
def afN:dA U ae ep aH [] []=if cE U ae≠0 then cE U ae else if iF U ep aH=ar then 380 else 420:=by
 unfold dA iF;by_cases h:cE U ae=0
 .simp only[h,ne_eq,not_true_eq_false,if_false];generalize (decide (0<=ep)&&decide (ep<=64)&&decide (F aH=b7 U)&&aH.all b8)=b;cases b<;>simp[NT.jY]
 .simp only[h,ne_eq,not_false_eq_true,if_true]
def Y3(hx:RL X U)(E:IL Y ae)(hc:IL C aH)(fj:F aH<=1000000):cd W8 41 [.agg (aG ep (av X) (av Y) (av C))] (.v (.bool (iF U ep aH))):=by obtain⟨h1,e,f,i⟩:=yL ep hx E hc;exact⟨anf ep _ _ _ U ae aH h1 e f fj,lh [.agg (aG ep X Y C)],by rw[aJ,aI,i];rfl,λ_=>rfl,O⟩
def amY(hx:RL X U)(E:IL Y ae)(hc:IL C aH)(ht:BL T aq)(hp:PL L l)(A:IL Z z)(fj:F aH<=1000000)(fQ:F l<=1000000)(f:F aq<=1000000)(i:F z<=1000000):
 cd W8 60 [.agg (aG ep (av X) (av Y) (av C)),av T,av L,av Z] (.tuple [.agg [im (jh U ae ep aH aq l z).1.1,im (jh U ae ep aH aq l z).1.2],.v (.bool (jh U ae ep aH aq l z).2.1),im (jh U ae ep aH aq l z).2.2]):=by
 obtain⟨h1,j,k,m⟩:=yL ep hx E hc;obtain⟨o,q⟩:=ht.hold;obtain⟨u,v⟩:=hp.hold;obtain⟨w,e⟩:=A.hold;obtain⟨_,_,c,-,rfl⟩:=ah2 ⟨[],[],0,[]⟩ ep _ _ _ _ _ _ U ae aH aq l z h1 j k o u fj fQ f (.inl w) i;exact cd.new (L:=L8) c O (lh [.agg (aG ep X Y C),T,L,Z]) (by rw[aJ,aI,m,aJ,q,aJ,v,aJ,e];rfl) O rfl
def amZ(hx:RL X U)(E:IL Y ae)(D:IL Z G)(w:F G<=1000)(e:F U<=1000000)(B:Int)(v:jL U ae B G=0):
 ∃i j,SL i (fD U (B::G))/\IL j (bF (B::G))/\cd W8 71 [.agg [av X,av Y],im B,av Z] (.tuple [i,j,im 0]):=by
 obtain⟨h1,k,m,o⟩:=oi hx E;obtain⟨q,u⟩:=D.hold;rcases aiy _ _ _ U ae G B h1 k q w e with⟨z1,-⟩|⟨-,i,j,⟨z0,s,rfl,A⟩,⟨K,s2,rfl,f⟩,c⟩
 .exact absurd v z1
 .exact⟨.ac (cJ z0) s (bD _),.ac (cJ K) s2 (ay _),⟨_,_,O,A⟩,⟨_,_,O,f⟩,cd.up (L:=L8) (cd.new (L:=L7) (c _) O (lh [.agg [X,Y],im B,Z]) (by simp[aJ,aI,m,o,u,im]) O (by rw[aI,aJ,aI,fB,Ff,aJ,aI,fB,jw];rfl)) O⟩
def Y4(hx:RL X U)(E:IL Y ae)(hc:IL C aH)(ht:BL T aq)(hp:PL L l)(B:SL S s)(fj:F aH<=1000000)(fQ:F l<=1000000)(j:F s<=1000000)(e d f:Int):
 cd W8 30 [.agg (aG ep (av X) (av Y) (av C)),av T,av L,im e,av S,im d,im f] (.tuple [im (nx U ae ep aH aq l e s d f).1,im (nx U ae ep aH aq l e s d f).2]):=by
 obtain⟨h1,k,m,o⟩:=yL ep hx E hc;obtain⟨q,u⟩:=ht.hold;obtain⟨v,w⟩:=hp.hold;obtain⟨A,i⟩:=B.hold;exact wz ⟨aok ep _ _ _ _ _ U ae aH aq l h1 k m q v fj fQ _ s e d f A j,lh [.agg (aG ep X Y C),T,L,im e,S,im d,im f],by simp only[aJ];rw[aI,o,u,w,i];rfl,λ_=>rfl,O⟩ O rfl
def Y8(ht:BL T aq)(k:F aq<=1000000)(f e s:Int):cd W8 26 [im f,av T,.agg [im e,im s]] (.v (.bool (nE f aq e s))):=by obtain⟨i,j⟩:=ht.hold;exact wz ⟨acQ f e s _ aq i k,lh [im f,T,.agg [im e,im s]],by simp only[aJ];rw[j];rfl,λ_=>rfl,O⟩ O rfl
end
def aa7:Tryz.f36.results.toList=[]:=by kernel_rfl
def aa9:Tryz.f85.results.toList=[]:=by kernel_rfl
def aa6:Tryz.f33.results.toList=[.cell 2 39]:=by kernel_rfl
def afz(e):iK af 134 [(0,((e:Int):I))]=J (.agg [((e:Int):I)]):=by kernel_rfl
def amc:isIface af 134=J ar:=by kernel_rfl
def afh(x):u7 af (.iface 134 (.agg x)) 134 aa=J (.tuple [.agg x,(aa:I)]):=by kernel_rfl
def amd:isIface af 20=J aa:=by kernel_rfl
def ax1:(fY af 134).bind I.bL=J [.v (.int .i64 0)]:=by kernel_rfl
def ayb:(fY af 39).bind I.bL=J [.v (.int .i64 0)]:=by kernel_rfl
def Ue:fR af 39=J ar:=by kernel_rfl
def awI:cN af 39=J 1:=by kernel_rfl
def awB:cN af 134=J 1:=by kernel_rfl
def aje(b):dQ af 134 (.ptr (.box b) 0) 0=J (.ptr (.box b) 0):=by kernel_rfl
def om(e:Int):I:=.iface 134 (.agg [((e:Int):I)])
def mQ(e:Int):dP:=if e=0 then .ret (.tuple []) else .panic (om e)
section
variable {h:am} {b:Nat} {n n':Int} {x:I}
def acl(e:h.V[b]?=J [x]):bU af h 39 (.ptr (.box b) 0) ((n':Int):I)=J (h.put b [((n':Int):I)]):=e7 (off:=0) (cs:=[x]) (xs:=[((n':Int):I)]) O awI e O (aT 1)
def awf(e:h.V[b]?=J [x]):bU af h 134 (.ptr (.box b) 0) (.agg [((n':Int):I)])=J (h.put b [((n':Int):I)]):=e7 (off:=0) (cs:=[x]) (xs:=[((n':Int):I)]) O awB e O (aT 1)
def Qv(e:h.V[b]?=J [x]):aF af Gt h 39 (.ptr (.box b) 0)=J x:=by rw[fI Ue e];rfl
end
section
variable {A:bk->Option (List I->am->Option (I × am))}
def Gh(hp:A 36=ao)(e:Int)(h:am):(whole af Gt A).call 36 [(aa:I),((e:Int):I)] h=J (.ret (.tuple []),h):=by refine cX hp func36 O ?_;exact iT @aa7
def Gg(hp:A 36=ao)(e:Int)(h:am):(whole af Gt A).call 36 [(ar:I),((e:Int):I)] h=J (.panic (om e),h):=by
 have f:=amc;refine cX hp func36 O ?_
 repeat' (first|simp(maxSteps:=9^9) (disch:=first|exact dZ|fail) only[gW,reduceIte,aR,aM,aa7,afz,om, *]|refine dX ?_ ?_<;>(intro _;try omega))
def aha(b:Nat)(h:am):(whole af Gt A).iS 85 [.ptr (.box b) 0] ao h=J (.ret (.tuple []),ao,h):=by have e:=underlying20;refine NO func85 O ?_;exact qm @aa9 @UF @and_self
def ahb(b:Nat)(h:am)(e:Int)(f:h.V[b]?=J [x]):(whole af Gt A).iS 85 [.ptr (.box b) 0] (J (om e,ar)) h=J (.ret (.tuple []),J (om e,aa),(h.push [((e:Int):I)]).put b [((e:Int):I)]):=by
 have k:=underlying20;have j:=amd;have i:=ax1;have o:=(aU.1 f).1;have q:bU af (h.push [.v (.int .i64 0)]) 134 (.ptr (.box (F h.V)) 0) (.agg [((e:Int):I)])=J (h.push [((e:Int):I)]):=by rw[awf (aQ _ _)];congr 1;exact mF _ _ _
 have m:=Qv (aQ h [((e:Int):I)]);have u:=acl (n':=e) (aP (cs:=[((e:Int):I)]) f);unfold om;refine NO func85 O ?_;exact jN @aa9 @afV @afh (au @aje @and_self)
def Im(hp:A 33=ao)(g:Nat)(i:List I)(h f:am)(e:Int)(c2:(whole af Gt A).call g i (h.push [.v (.int .i64 0)])=J (mQ e,f))(m:f.V[F h.V]?=J [.v (.int .i64 0)]):
 ∃h',(whole af Gt A).call 33 [.func (.func g) [] i] h=J (.ret ((e:Int):I),h')/\(∀b cs,b≠F h.V->f.V[b]?=J cs->h'.V[b]?=J cs):=by
 have E:=ayb;have D:=Ue;have w:=(aU.1 m).1;have q:=aha (A:=A) (F h.V) (f.put (F h.V) [.v (.int .i64 0)]);have u:=ahb (A:=A) (F h.V) f e m;have B:=acl (n':=0) m;refine ie hp func33 O ?_;unfold mQ at c2;by_cases k:e=0
 .rw[aC k]at c2;subst k;clear u;have v:=Qv (h:=f.put (F h.V) [.v (.int .i64 0)]) (x:=.v (.int .i64 0)) (dy w);refine br @aa6 ?_;exact⟨_,O,λb cs j o=>by rw[cG j];exact o⟩
 .rw[aL k]at c2;clear q B;have v:=Qv (h:=(f.push [((e:Int):I)]).put (F h.V) [((e:Int):I)]) (x:=((e:Int):I)) (dy (by rw[bP];omega));refine br @aa6 ?_;exact⟨_,O,λb cs j o=>by rw[cG j];exact aP o⟩
end
def LB:List bk:=LA++[28,42]
noncomputable def DL:bk->Option (List I->am->Option (I × am)):=mN SA LB
noncomputable abbrev SB:=whole af Gt DL
def lJ:nG DL LB:=t_
section
variable {d:Dc} {p r n:I}
def Ye(ok:nI d p r n):bA [.agg (bQ d (av p) (av r) (av n))]=[.agg (bQ d (av p) (av r) (av n))]:=by rw[<-ye];exact lh [.agg (bQ d p r n)]
def ZT16{p:Prop}(h:p:=by
 refine⟨.ac (cJ t) 1 (bV (cr (eY d))),λ_=>⟨_,_,O,λ_=>rfl⟩,by rw[av,tf];cases t<;>rfl,?_⟩;rw[aC (by simp[f])];exact cd.new (L:=LB) c O (Ye ok) (by rw[aJ,aI,e];rfl) O (by simp[aI,aJ,fB,nm,im])):p:=h
def ZT32{p:Prop}(h:p:=by
 refine⟨.ac .nil 0 [],λi=>by rw[f]at i;(first|cases i|contradiction),O,?_⟩;rw[aL (by simp[f])];exact cd.new (L:=LB) c O (Ye ok) (by rw[aJ,aI,e];rfl) O O):p:=h
def P'(ok:nI d p r n)(hc:d.pQ):∃T,(gL d=aa->BL T (cr (eY d)))/\av T=T/\cd SB 28 [.agg (bQ d (av p) (av r) (av n))] (.tuple [T,im (if gL d=aa then 0 else 170)]):=by
 obtain⟨k,e⟩:=ok.hold;obtain⟨m,j,c,⟨f,rfl⟩|⟨f,t,rfl⟩⟩:=awT ⟨[],[],0,[]⟩ O d _ _ _ k hc (nr p) (nr r) (nr n)
 .exact ZT32
 .exact ZT16
def anb(ok:nI d p r n)(hc:d.pQ):∃T,(gL d=aa->BL T (cr (eY d)))/\av T=T/\cd SB 42 [.agg (bQ d (av p) (av r) (av n))] (.tuple [T,im (if gL d=aa then 0 else 170)]):=by
 obtain⟨k,e⟩:=ok.hold;obtain⟨m,j,c,⟨f,rfl⟩|⟨f,t,rfl⟩⟩:=awV ⟨[],[],0,[]⟩ d _ _ _ k hc (nr p) (nr r) (nr n)
 .exact ZT32
 .exact ZT16
end
def d0:Dc:=⟨0,0,0,0,0,0,[],[],[],bT 32 0⟩
structure CA where
 X:I
 Y:I
 C:I
 p:I
 r:I
 n:I
 W:I
 Pa:I
 Z:I
variable{a:CA}
def aA(c:Ce)(a:CA):List I:=aG c.ep a.X a.Y a.C++bQ c.doc a.p a.r a.n++[a.W,a.Pa,a.Z]
structure c_(c:Ce)(a:CA):Prop where
 x:RL a.X c.U
 y:IL a.Y c.ae
 cm:IL a.C c.aH
 d:nI c.doc a.p a.r a.n
 w:IL a.W c.ak
 pa:PL a.Pa c.bH
 z:SL a.Z c.aS
def c0:Ce:=⟨[],[],0,[],d0,[],[],[]⟩
def a0:CA:=⟨nl,nl,nl,nl,nl,nl,nl,nl,nl⟩
def G8{A B B' C}{k}(e:F A=k)(h:F B'=F B):dW (A++B++C) k B'=A++B'++C:=by subst e;unfold dW;rw[jq,jq,List.take_left,<-rF,Mx,h,Mx,<-jq]
def PL.bL(h:PL x l):x.bL=J [x]:=by obtain⟨e,s,rfl,-⟩:=h;rfl
section
variable {c:Ce} {a:CA}
def c_.len(ok:c_ c a):F (aA c a)=48:=by unfold aA;rw[db,db,ok.d.len];unfold aG;rfl
def c_.cells(ok:c_ c a):(I.agg (aA c a)).bL=J (aA c a):=by
 have h1:=mV (ep:=c.ep) ok.x ok.y ok.cm;have e:=ok.d.cells;have i:a.W.dm=aa:=by obtain⟨q,s,f,-⟩:=ok.w;rw[f];rfl
 have j:a.Pa.dm=aa:=by obtain⟨q,s,f,-⟩:=ok.pa;rw[f];rfl
 have k:a.Z.dm=aa:=by obtain⟨q,s,f,-⟩:=ok.z;rw[f];rfl
 unfold I.bL at *
 simp only at h1 e ⊢;split at h1
 .split at e
  .rename_i m o;rw[aC];unfold aA;rw[rE,rE,m,o];simp[i,j,k]
  .cases e
 .cases h1
end
def hh:c_ c0 a0:=⟨⟨.nil,0,[],O,λe=>absurd O e,O,λf a r h=>by simp at h⟩,⟨.nil,0,O,λe=>absurd O e⟩,⟨.nil,0,O,λe=>absurd O e⟩,⟨⟨.nil,0,O,λe=>absurd O e⟩,⟨.nil,0,O,λe=>absurd O e⟩,⟨.nil,0,O,λe=>absurd O e⟩,O⟩,⟨.nil,0,O,λe=>absurd O e⟩,⟨.nil,0,O,λe=>absurd O e⟩,⟨.nil,0,O,λe=>absurd O e⟩⟩
def uK:(fY af 35).bind I.bL=J (aA c0 a0):=by kernel_rfl
def acV:iK af 35 []=J (.agg (aA c0 a0)):=by kernel_rfl
def aeR:fR af 35=J aa:=by kernel_rfl
def acF:cN af 35=J 48:=by kernel_rfl
def aeV:fR af 32=J ar:=by kernel_rfl
def aeW:fR af 33=J ar:=by kernel_rfl
def jy(f:F D=48)(e:H.V[b]?=J D):aF af Gt H 35 (.ptr (.box b) 0)=J (.agg D):=by rw[gt aeR acF e ag,iI,<-f,gu]
def rz{D2}(i:F D=48)(e:F D2=48)(hc:(I.agg D2).bL=J D2)(f:H.V[b]?=J D):bU af H 35 (.ptr (.box b) 0) (.agg D2)=J (H.put b D2):=by rw[e7 (off:=0) (cs:=D) (xs:=D2) hc acF f e ag,vU ag]
def vm:(∀b,dQ af 35 (.ptr (.box b) 0) 0=J (.ptr (.box b) 0))/\(∀b,dQ af 35 (.ptr (.box b) 0) 1=J (.ptr (.box b) 4))/\(∀b,dQ af 35 (.ptr (.box b) 0) 2=J (.ptr (.box b) 45))/\(∀b,dQ af 35 (.ptr (.box b) 0) 3=J (.ptr (.box b) 46))/\∀b,dQ af 35 (.ptr (.box b) 0) 4=J (.ptr (.box b) 47):=
 ⟨λ_=>by kernel_rfl,λ_=>by kernel_rfl,λ_=>by kernel_rfl,λ_=>by kernel_rfl,λ_=>by kernel_rfl⟩
def ET{K:List I}{k l}(e:F K=k)(f:F D=l):(K++D++T).drop (k+l+i)=T.drop i:=by subst e;subst f;rw[<-rF,<-db,Mx]
def mW{c}(ok:c_ c a)(e:H.V[b]?=J (aA c a)):aF af Gt H 27 (.ptr (.box b) 0)=J (.agg (aG c.ep a.X a.Y a.C))/\aF af Gt H 31 (.ptr (.box b) 4)=J (.agg (bQ c.doc a.p a.r a.n))/\aF af Gt H 23 (.ptr (.box b) 45)=J a.W/\aF af Gt H 32 (.ptr (.box b) 46)=J a.Pa/\aF af Gt H 33 (.ptr (.box b) 47)=J a.Z/\aF af Gt H 35 (.ptr (.box b) 0)=J (.agg (aA c a)):=by
 have k:=ok.len;have f:F (aG c.ep a.X a.Y a.C)=4:=rfl;have j:=ok.d.len;refine⟨?_,?_,?_,?_,?_,jy k e⟩
 .rw[gt cD (by kernel_rfl:cN af 27=J 4) e ag,iI];unfold aA;rw[jq,uS f]
 .rw[gt cD (by kernel_rfl:cN af 31=J 41) e ag];unfold aA;rw[jq,List.drop_left' f,uS j]
 .rw[fI kC e];unfold aA;rw[ET (i:=0) f j];rfl
 .rw[fI aeV e];unfold aA;rw[ET (i:=1) f j];rfl
 .rw[fI aeW e];unfold aA;rw[ET (i:=2) f j];rfl
def KE:Tryz.f34.results.toList=[]:=by kernel_rfl
def aq7:Tryz.f11.results.toList=[.cell 6 35,.tmp 7]:=by kernel_rfl
def Rp:Tryz.f12.results.toList=[.cell 6 35,.tmp 7]:=by kernel_rfl
structure dJ(a:CA):Prop where
 X:av a.X=a.X
 Y:av a.Y=a.Y
 C:av a.C=a.C
 p:av a.p=a.p
 r:av a.r=a.r
 n:av a.n=a.n
 W:av a.W=a.W
 Pa:av a.Pa=a.Pa
 Z:av a.Z=a.Z
structure HY(c:Ce)(a:CA):Prop where
 c35:∀h,SB.call 35 [.agg [a.X,a.Y]] h=J (.ret (im (cE c.U c.ae)),h)
 c40:∀h,SB.call 40 [.agg [a.X,a.Y]] h=J (.ret (im (cE c.U c.ae)),h)
 c37:∀h,SB.call 37 [.agg (aG c.ep a.X a.Y a.C),.ac .nil 0 [],.ac .nil 0 []] h=J (.ret (.tuple [.ac .nil 0 [],im 0,im 0,im (dA c.U c.ae c.ep c.aH [] [])]),h)
 c41:∀h,SB.call 41 [.agg (aG c.ep a.X a.Y a.C)] h=J (.ret (.v (.bool (iF c.U c.ep c.aH))),h)
 Is:∃T,∀h,SB.call 28 [.agg (bQ c.doc a.p a.r a.n)] h=J (.ret (.tuple [T,im (if gL c.doc=aa then 0 else 170)]),h)
 c42:∃T,∀h,SB.call 42 [.agg (bQ c.doc a.p a.r a.n)] h=J (.ret (.tuple [T,im (if gL c.doc=aa then 0 else 170)]),h)
 c38:∀h,SB.call 38 [a.W] h=J (.ret (.v (.bool (dD (-1) c.ak))),h)
 c43:∀h,SB.call 43 [a.W] h=J (.ret (.v (.bool (dD (-1) c.ak))),h)
 c39:∃Z,∀h,SB.call 39 [.agg [a.X,a.Y],a.W] h=J (.ret (.tuple [Z,.v (.bool (fg c.U c.ae c.ak).2.1),im (fg c.U c.ae c.ak).2.2]),h)
 c44:∃Z,∀h,SB.call 44 [.agg [a.X,a.Y],a.W] h=J (.ret (.tuple [Z,.v (.bool (fg c.U c.ae c.ak).2.1),im (fg c.U c.ae c.ak).2.2]),h)
def sO{a}{y}(c:cd W8 g a y)(h1:LA.contains g=aa)(e:LB.contains g=aa):cd SB g a y:=(c.up (L:=LA) h1).up (L:=LB) e
def aoL{c}(ok:c_ c a)(D:dJ a)(w:c.Fit):HY c a:=by obtain⟨f1,f2,f3,f4,-,-⟩:=w;have i:=sO (amX ok.x ok.y) O O;have j:=sO (Y6 ok.x ok.y f1) O O;have k:=sO (amV (ep:=c.ep) ok.x ok.y ok.cm f2) O O;have m:=sO (Y3 (ep:=c.ep) ok.x ok.y ok.cm f2) O O;obtain⟨A,-,-,o⟩:=P' ok.d f4;obtain⟨B,-,-,q⟩:=anb ok.d f4;have u:cd SB 38 [av a.W] (.v (.bool (dD (-1) c.ak))):=(am4 ok.w ag).up (L:=LB) O;have v:=sO (am3 ok.w ag) O O;obtain⟨E,f⟩:=amU ok.x ok.y ok.w ag;obtain⟨G,e⟩:=am5 ok.x ok.y ok.w f1 ag;have f:=sO f O O;have e:=sO e O O;simp only[D.X,D.Y,D.C,D.p,D.r,D.n,D.W]at i j k m o q u v f e;exact⟨i.call,j.call,k.call,m.call,⟨_,o.call⟩,⟨_,q.call⟩,u.call,v.call,⟨_,f.call⟩,⟨_,e.call⟩⟩
def ZX(c:Ce):c.ej=if cE c.U c.ae≠0 then cE c.U c.ae else if iF c.U c.ep c.aH=ar then 380 else if gL c.doc=ar then 170 else if dD (-1) c.ak=ar then 1
 else if (fg c.U c.ae c.ak).2.1=ar∨(fg c.U c.ae c.ak).2.2≠0 then 440 else 0:=by
 unfold Ce.ej NT.ej iF;rw[Bool.and_right_comm (decide (0<=c.ep)&&decide (c.ep<=64))]
def Uy{c}(ok:c_ c a):iK af 35 [(0,.agg (aG c.ep a.X a.Y a.C)),(1,.agg (bQ c.doc a.p a.r a.n)),(2,a.W)]=J (.agg (aG c.ep a.X a.Y a.C++bQ c.doc a.p a.r a.n++[a.W,nl,nl])):=by
 have h1:=mV (ep:=c.ep) ok.x ok.y ok.cm;have v:=ok.d.cells;have w:=ok.w.bL;have j:=ok.d.len;have q:=hh.d.len;obtain⟨f,B,o,E,G,K⟩:∃f,af.underlying 35=J (.struct f)/\(f.all λz1=>(af.info? z1.type).isSome)=aa/\placesOf af f 0=J (0,4)/\placesOf af f 1=J (4,41)/\placesOf af f 2=J (45,1):=⟨_,underlying35,by kernel_rfl,by kernel_rfl,by kernel_rfl,by kernel_rfl⟩;have D:aA c0 a0=[]++aG 0 nl nl nl++(bQ d0 nl nl nl++[nl,nl,nl]):=by unfold aA;rw[fE,jq];rfl
 have i:F (aG c.ep a.X a.Y a.C)=4:=rfl;have m:F (aG 0 nl nl nl)=4:=rfl;have e:F (bQ d0 nl nl nl)=41:=q;unfold iK;rw[B,uK];simp only;rw[aC o,D];simp only[sV,E,G,K,h1,v,w];have s1:dW ([]++aG 0 nl nl nl++(bQ d0 nl nl nl++[nl,nl,nl])) 0 (aG c.ep a.X a.Y a.C)=aG c.ep a.X a.Y a.C++bQ d0 nl nl nl++[nl,nl,nl]:=by rw[G8 (A:=[]) (k:=0) O (by rw[i,m]),fE,jq]
 have s2:dW (aG c.ep a.X a.Y a.C++bQ d0 nl nl nl++[nl,nl,nl]) 4 (bQ c.doc a.p a.r a.n)=aG c.ep a.X a.Y a.C++bQ c.doc a.p a.r a.n++[nl,nl,nl]:=G8 i (by rw[j,e]);have s3:dW (aG c.ep a.X a.Y a.C++bQ c.doc a.p a.r a.n++[nl,nl,nl]) 45 [a.W]=aG c.ep a.X a.Y a.C++bQ c.doc a.p a.r a.n++[a.W,nl,nl]:=by
  have z0:aG c.ep a.X a.Y a.C++bQ c.doc a.p a.r a.n++[nl,nl,nl]=(aG c.ep a.X a.Y a.C++bQ c.doc a.p a.r a.n)++[nl]++[nl,nl]:=by simp
  have u:dW ((aG c.ep a.X a.Y a.C++bQ c.doc a.p a.r a.n)++[nl]++[nl,nl]) 45 [a.W]=(aG c.ep a.X a.Y a.C++bQ c.doc a.p a.r a.n)++[a.W]++[nl,nl]:=G8 (by rw[db,i,j]) O;rw[z0,u];simp
 rw[s1,aC ⟨i,by simp only[db,m,e,gh,eR];omega⟩,s2,aC ⟨j,by simp only[db,i,e,gh,eR];omega⟩,s3,
  aC ⟨O,by simp only[db,i,j,gh,eR];omega⟩]
 rfl
def ZT29{p:Prop}(h:p:=by
 repeat' (first|simp(maxSteps:=9^9) (disch:=first|exact dZ|fail) only[gW,reduceIte,aR,aM,KE,om, *]|refine dX ?_ ?_<;>(intro _;try omega))
 all_goals exact⟨_,_,O,O,O⟩):p:=h
def ZT7{p:Prop}(h:p:=by
 repeat' (first|simp(maxSteps:=9^9) (disch:=first|exact dZ|fail) only[gW,reduceIte,aR,aM,KE,om, *]|refine dX ?_ ?_<;>(intro _;try omega))
 exact⟨_,_,O,O,O⟩):p:=h
def aoI(h:am)(c:Ce)(a:CA)(ok:c_ c a)(nc:HY c a)(k E B b3:Nat)(q:h.V[k]?=J (aG c.ep a.X a.Y a.C))(u:h.V[E]?=J (bQ c.doc a.p a.r a.n))(v:h.V[B]?=J [a.W])(w:h.V[b3]?=J (aA c0 a0)):
 ∃r h',SB.call 34 [.ptr (.box k) 0,.ptr (.box E) 0,.ptr (.box B) 0,.ptr (.box b3) 0] h=J (r,h')/\r=mQ c.ej/\h'=if c.ej=0 then h.put b3 (aG c.ep a.X a.Y a.C++bQ c.doc a.p a.r a.n++[a.W,nl,nl]) else h:=by
 have l0:aF af Gt h 25 (.ptr (.box k) 1)=J (.agg [a.X,a.Y]):=by rw[gt cD (by kernel_rfl:cN af 25=J 2) q (by decide:1+2<=4)];rfl
 have l1:aF af Gt h 27 (.ptr (.box k) 0)=J (.agg (aG c.ep a.X a.Y a.C)):=by rw[gt cD (by kernel_rfl:cN af 27=J 4) q (by decide:0+4<=4)];rfl
 have l2:=yM ok.d.len u;have l3:aF af Gt h 23 (.ptr (.box B) 0)=J a.W:=by rw[fI kC v];rfl
 have f1:=kZ (b:=k);obtain⟨c35,-,f,-,⟨T,e⟩,-,m,-,⟨Z,i⟩,-⟩:=nc;have G:=Gh (A:=DL) O;have yA:=Gg (A:=DL) O;have j:=Uy ok;have st:=rz (D2:=aG c.ep a.X a.Y a.C++bQ c.doc a.p a.r a.n++[a.W,nl,nl]) hh.len (by have:=ok.d.len;simp only[db,this];rfl) (by have K:c_ {c with bH:=[],aS:=[]} {a with Pa:=nl,Z:=nl}:=⟨ok.x,ok.y,ok.cm,ok.d,ok.w,hh.pa,hh.z⟩;exact K.cells) w;rw[afN]at f;rw[ZX];clear q u v w ok;generalize bQ c.doc a.p a.r a.n=z0 at *
 generalize aG c.ep a.X a.Y a.C=z3 at *
 generalize cE c.U c.ae=u1 at *
 generalize iF c.U c.ep c.aH=u2 at *
 generalize gL c.doc=u3 at *
 generalize dD (-1) c.ak=u4 at *
 generalize (fg c.U c.ae c.ak).2.1=u5 at *
 generalize (fg c.U c.ae c.ak).2.2=u6 at *
 generalize a.X=X at *
 generalize a.Y=Y at *
 generalize a.W=Wa at *
 generalize z3++z0++[Wa,nl,nl]=FC at *
 unfold im at *
 have z1:decide ((380:Int)=420)=ar:=by decide
 have z2:decide ((170:Int)=0)=ar:=by decide
 refine cq O func34 O ?_;by_cases o:u1=0;rotate_left 1
 .have d1:decide (u1=0)=ar:=cR o;clear f e m i j st G;rw[aC o]
  repeat' (first|simp(maxSteps:=9^9) (disch:=first|exact dZ|fail) only[gW,reduceIte,aR,aM,KE,om, *]|refine dX ?_ ?_<;>(intro _;try omega))
  exact⟨_,_,O,by unfold mQ;rw[aL o];rfl,by first|rfl|rw[aL o]⟩
 subst o;cases u2 with
 |false=>
  simp only[ne_eq,not_true_eq_false,if_false,if_true]at f ⊢;clear e m i j st
  exact ZT7
 |true=>
 simp only[ne_eq,not_true_eq_false,if_false,v8]at f ⊢;cases u3 with
 |false=>
  simp only[jE,if_false,if_true]at e ⊢;clear m i j st
  exact ZT7
 |true=>
 simp only[v8,if_false,if_true]at e ⊢;cases u4 with
 |false=>
  simp only[jE,if_false,if_true]at ⊢;clear i j st
  exact ZT7
 |true=>
 simp only[v8,if_false]at ⊢;cases u5 with
 |false=>
  simp only[true_or,if_true]at ⊢;clear j st
  exact ZT29
 |true=>
 by_cases D:u6=0
 .subst D;simp only[v8,false_or,ne_eq,not_true_eq_false,if_false,if_true]at ⊢
  repeat' (first|simp(maxSteps:=9^9) (disch:=first|exact dZ|fail) only[gW,reduceIte,aR,aM,KE, *]|refine dX ?_ ?_<;>(intro _;try omega))
  all_goals exact⟨_,_,O,O,O⟩
 .have d6:decide (u6=0)=ar:=cR D;simp only[D,v8,false_or,ne_eq,not_false_eq_true,if_true]at ⊢;clear j st
  exact ZT29
def jR(c:Ce):Ce:=if c.ej=0 then {c with bH:=[],aS:=[]} else c0
def jn(c:Ce)(a:CA):CA:=if c.ej=0 then {a with Pa:=nl,Z:=nl} else a0
def yR{c}(ok:c_ c a):c_ (jR c) (jn c a):=by
 unfold jR jn;split
 .exact⟨ok.x,ok.y,ok.cm,ok.d,ok.w,hh.pa,hh.z⟩
 .exact hh
def Z1(c)(a):aA (jR c) (jn c a)=if c.ej=0 then aG c.ep a.X a.Y a.C++bQ c.doc a.p a.r a.n++[a.W,nl,nl] else aA c0 a0:=by
 unfold jR jn;by_cases h:c.ej=0
 .rw[aC h,aC h,aC h];rfl
 .rw[aL h,aL h,aL h]
def az2(h:am)(c:Ce)(a:CA)(ok:c_ c a)(v:HY c a):
 ∃r h',SB.call 11 [.agg (aG c.ep a.X a.Y a.C),.agg (bQ c.doc a.p a.r a.n),a.W] h=J (r,h')/\r=.ret (.tuple [.agg (aA (jR c) (jn c a)),im c.ej]):=by
 have b1:=mV (ep:=c.ep) ok.x ok.y ok.cm;have b2:=ok.d.cells;have b3:=ok.w.bL;have z:=uK;obtain⟨e,f⟩:∃e,(((h.push (aG c.ep a.X a.Y a.C)).push (bQ c.doc a.p a.r a.n)).push [a.W]).push (aA c0 a0)=e:=⟨_,O⟩;have l4:F e.V=F h.V+4:=by rw[<-f];simp[bP]
 have w:e.V[F h.V]?=J (aG c.ep a.X a.Y a.C):=by rw[<-f];exact aP (aP (aP (aQ _ _)))
 have B:e.V[F h.V+1]?=J (bQ c.doc a.p a.r a.n):=by rw[<-f];refine aP (aP ?_);have:=aQ (h.push (aG c.ep a.X a.Y a.C)) (bQ c.doc a.p a.r a.n);rwa [bP]at this
 have D:e.V[F h.V+2]?=J [a.W]:=by rw[<-f];refine aP ?_;have:=aQ ((h.push (aG c.ep a.X a.Y a.C)).push (bQ c.doc a.p a.r a.n)) [a.W];rwa [bP,bP]at this
 have q:e.V[F h.V+3]?=J (aA c0 a0):=by rw[<-f];have:=aQ (((h.push (aG c.ep a.X a.Y a.C)).push (bQ c.doc a.p a.r a.n)).push [a.W]) (aA c0 a0);rwa [bP,bP,bP]at this
 obtain⟨_,m,j,rfl,k⟩:=aoI (e.push [.v (.int .i64 0)]) c a ok v (F h.V) (F h.V+1) (F h.V+2) (F h.V+3) (aP w) (aP B) (aP D) (aP q);have E:m.V[F h.V+3]?=J (aA (jR c) (jn c a)):=by
  rw[Z1,k];split
  .exact dy (by rw[bP];omega)
  .exact aP q
 have G:m.V[F e.V]?=J [.v (.int .i64 0)]:=by
  rw[k];split
  .rw[cG ag];exact aQ _ _
  .exact aQ _ _
 obtain⟨h3,K,u⟩:=Im (A:=DL) O 34 _ e m c.ej j G;have i:=u _ _ ag E;have o:=(yR ok).len;have ld:=jy o i;have st:=rz o o (yR ok).cells i;rw[jb i]at st;have n1:F (h.push (aG c.ep a.X a.Y a.C)).V=F h.V+1:=bP _ _;have n2:F ((h.push (aG c.ep a.X a.Y a.C)).push (bQ c.doc a.p a.r a.n)).V=F h.V+2:=by rw[bP,bP]
 have n3:F (((h.push (aG c.ep a.X a.Y a.C)).push (bQ c.doc a.p a.r a.n)).push [a.W]).V=F h.V+3:=by rw[bP,bP,bP]
 clear k j E G u w B D q i ok v;generalize aA (jR c) (jn c a)=N at *
 generalize aG c.ep a.X a.Y a.C=z1 at *
 generalize bQ c.doc a.p a.r a.n=z0 at *
 generalize aA c0 a0=Z0 at *
 generalize c.ej=z2 at *
 generalize a.W=Wa at *
 unfold im at *
 refine cq O func11 O ?_;refine bB @aq7 @f ?_;exact⟨_,_,O,O⟩
def ZT2{p:Prop}(h:p:=by
 repeat' (first|simp(maxSteps:=9^9) (disch:=first|exact dZ|fail) only[gW,reduceIte,aR,aM,Rp,e, *]|refine dX ?_ ?_<;>(intro _;try omega))
 all_goals exact⟨_,_,O,O⟩):p:=h
def aAs(h:am)(c:Ce)(a:CA)(ok:c_ c a)(nc:HY c a):
 ∃r h',SB.call 12 [.agg (aG c.ep a.X a.Y a.C),.agg (bQ c.doc a.p a.r a.n),a.W] h=J (r,h')/\r=.ret (.tuple [.agg (aA (jR c) (jn c a)),im c.ej]):=by
 have b1:=mV (ep:=c.ep) ok.x ok.y ok.cm;have b2:=ok.d.cells;have z:=uK;have zb:=acV;obtain⟨f,e⟩:∃f,((h.push (aG c.ep a.X a.Y a.C)).push (bQ c.doc a.p a.r a.n)).push (aA c0 a0)=f:=⟨_,O⟩;have B:f.V[F h.V]?=J (aG c.ep a.X a.Y a.C):=by rw[<-e];exact aP (aP (aQ _ _))
 have G:f.V[F h.V+1]?=J (bQ c.doc a.p a.r a.n):=by rw[<-e];refine aP ?_;have:=aQ (h.push (aG c.ep a.X a.Y a.C)) (bQ c.doc a.p a.r a.n);rwa [bP]at this
 have o:f.V[F h.V+2]?=J (aA c0 a0):=by rw[<-e];have:=aQ ((h.push (aG c.ep a.X a.Y a.C)).push (bQ c.doc a.p a.r a.n)) (aA c0 a0);rwa [bP,bP]at this
 have l0:aF af Gt f 25 (.ptr (.box (F h.V)) 1)=J (.agg [a.X,a.Y]):=by rw[gt cD (by kernel_rfl:cN af 25=J 2) B (by decide:1+2<=4)];rfl
 have l1:aF af Gt f 27 (.ptr (.box (F h.V)) 0)=J (.agg (aG c.ep a.X a.Y a.C)):=by rw[gt cD (by kernel_rfl:cN af 27=J 4) B (by decide:0+4<=4)];rfl
 have l2:=yM ok.d.len G;have f1:=kZ (b:=h.V.length);obtain⟨-,c40,-,D,-,⟨T,i⟩,-,q,-,⟨Z,j⟩⟩:=nc;have u:F (aG c.ep a.X a.Y a.C++bQ c.doc a.p a.r a.n++[a.W,nl,nl])=48:=by have:=ok.d.len;simp only[db,this];rfl
 have v:(I.agg (aG c.ep a.X a.Y a.C++bQ c.doc a.p a.r a.n++[a.W,nl,nl])).bL=J (aG c.ep a.X a.Y a.C++bQ c.doc a.p a.r a.n++[a.W,nl,nl]):=by have E:c_ {c with bH:=[],aS:=[]} {a with Pa:=nl,Z:=nl}:=⟨ok.x,ok.y,ok.cm,ok.d,ok.w,hh.pa,hh.z⟩;exact E.cells
 have k:=Uy ok;have st:=rz hh.len u v o;have s0:=rz hh.len hh.len hh.cells o;rw[jb o]at s0;have lZ:=jy hh.len o;have m:=jy (H:=f.put (F h.V+2) (aG c.ep a.X a.Y a.C++bQ c.doc a.p a.r a.n++[a.W,nl,nl])) u (dy (aU.1 o).1);have n1:F (h.push (aG c.ep a.X a.Y a.C)).V=F h.V+1:=bP _ _;have n2:F ((h.push (aG c.ep a.X a.Y a.C)).push (bQ c.doc a.p a.r a.n)).V=F h.V+2:=by rw[bP,bP]
 rw[Z1,ZX];clear B G o ok u v;generalize bQ c.doc a.p a.r a.n=z0 at *
 generalize aG c.ep a.X a.Y a.C=z1 at *
 generalize aA c0 a0=Z0 at *
 generalize cE c.U c.ae=K at *
 generalize iF c.U c.ep c.aH=u2 at *
 generalize gL c.doc=u3 at *
 generalize dD (-1) c.ak=u4 at *
 generalize (fg c.U c.ae c.ak).2.1=u5 at *
 generalize (fg c.U c.ae c.ak).2.2=u6 at *
 generalize a.X=X at *
 generalize a.Y=Y at *
 generalize a.W=Wa at *
 generalize z1++z0++[Wa,nl,nl]=FC at *
 have z2:decide ((170:Int)=0)=ar:=by decide
 unfold im at *
 refine cq O func12 O ?_;by_cases w:K=0;rotate_left 1
 .have d1:decide (K=0)=ar:=cR w;clear D i q j k st m;simp only[w,ne_eq,not_false_eq_true,if_true,if_false]
  repeat' (first|simp(maxSteps:=9^9) (disch:=first|exact dZ|fail) only[gW,reduceIte,aR,aM,Rp,e, *]|refine dX ?_ ?_<;>(intro _;try omega))
  all_goals exact⟨_,_,O,O⟩
 subst w;cases u2 with
 |false=>
  simp only[ne_eq,not_true_eq_false,if_false,if_true];clear i q j k st m
  exact ZT2
 |true=>
 cases u3 with
 |false=>
  simp only[jE,if_false,if_true,ne_eq,not_true_eq_false,v8]at i ⊢;clear q j k st m
  exact ZT2
 |true=>
 simp only[v8,if_false,if_true,ne_eq,not_true_eq_false]at i ⊢;cases u4 with
 |false=>
  simp only[jE,if_false,if_true]at ⊢;clear j k st m
  exact ZT2
 |true=>
 simp only[v8,if_false]at ⊢;cases u5 with
 |false=>
  simp only[true_or,if_true]at ⊢;clear k st m
  exact ZT2
 |true=>
 by_cases A:u6=0
 .subst A;simp only[v8,false_or,ne_eq,not_true_eq_false,if_false,if_true]at ⊢
  repeat' (first|simp(maxSteps:=9^9) (disch:=first|exact dZ|fail) only[gW,reduceIte,aR,aM,Rp,e, *]|refine dX ?_ ?_<;>(intro _;try omega))
  all_goals exact⟨_,_,O,O⟩
 .have d6:decide (u6=0)=ar:=cR A;simp only[A,v8,false_or,ne_eq,not_false_eq_true,if_true]at ⊢;clear k st m
  exact ZT2
def aq8:Tryz.f112.results.toList=[.tmp 4]:=by kernel_rfl
def arh:Tryz.f53.results.toList=[.tmp 4]:=by kernel_rfl
def arj:Tryz.f57.results.toList=[.tmp 4]:=by kernel_rfl
def VX:(∀b,dQ af 46 (.ptr (.box b) 0) 0=J (.ptr (.box b) 0))/\(∀b,dQ af 46 (.ptr (.box b) 0) 1=J (.ptr (.box b) 1))/\(∀b,dQ af 46 (.ptr (.box b) 0) 2=J (.ptr (.box b) 2))/\∀b,dQ af 46 (.ptr (.box b) 0) 3=J (.ptr (.box b) 3):=
 ⟨λ_=>by kernel_rfl,λ_=>by kernel_rfl,λ_=>by kernel_rfl,λ_=>by kernel_rfl⟩
def NW:(∀b,dQ af 48 (.ptr (.box b) 0) 0=J (.ptr (.box b) 0))/\∀b,dQ af 48 (.ptr (.box b) 0) 1=J (.ptr (.box b) 1):=
 ⟨λ_=>by kernel_rfl,λ_=>by kernel_rfl⟩
def Qa(e:H.V[b]?=J (bm p)):aF af Gt H 3 (.ptr (.box b) 0)=J (im p.bC)/\aF af Gt H 3 (.ptr (.box b) 1)=J (im p.no)/\aF af Gt H 3 (.ptr (.box b) 2)=J (im p.d)/\aF af Gt H 3 (.ptr (.box b) 3)=J (im p.e)/\aF af Gt H 46 (.ptr (.box b) 0)=J (.agg (bm p)):=by refine⟨?_,?_,?_,?_,vH e⟩<;>(rw[fI eu e];rfl)
def Di{q}(e:H.V[b]?=J (bN q)):aF af Gt H 3 (.ptr (.box b) 0)=J (im q.1)/\aF af Gt H 3 (.ptr (.box b) 1)=J (im q.2)/\aF af Gt H 48 (.ptr (.box b) 0)=J (.agg (bN q)):=by refine⟨by rw[fI eu e];rfl,by rw[fI eu e];rfl,?_⟩;rw[gt cD (by kernel_rfl:cN af 48=J 2) e (aT 2)];rfl
def Kp(p):(I.agg (bm p)).bL=J (bm p):=rfl
def Kq(q):(I.agg (bN q)).bL=J (bN q):=rfl
section
variable {c:Ce} {a:CA} (ok:c_ c a) (D:dJ a) (hw:c.ak.length<=1000000)
include ok D hw
def acI(f:rD c.ak)(h:am)(k:Int):∃h',SB.call 112 [.agg (aA c a),im k] h=J (.ret (.v (.bool (c.ak.contains k))),h')/\Ext h h':=by
 have j:=ok.cells;obtain⟨-,-,m,-,-,-⟩:=mW ok (aQ h (aA c a));obtain⟨-,-,f2,-,-⟩:=vm;obtain⟨o,e⟩:=anc ok.w f hw k;rw[D.W]at e;have i:=(sO e O O).call;have x:=Ext.push h (aA c a);clear ok f hw D e;generalize aA c a=N at *
 generalize c.ak.contains k=q at *
 unfold im at *
 refine ie O func112 O ?_;refine bB @aq8 @bG ?_;exact⟨_,O,x⟩
def atm(e:rD c.ak)(h:am)(p:Pr):∃r h',SB.call 53 [.agg (aA c a),.agg (bm p)] h=J (r,h')/\r=.ret (.v (.bool (pJ c.ak p))):=by
 have q:=ok.cells;have o:=Kp p;obtain⟨u,i,f⟩:=acI ok D hw e ((h.push (aA c a)).push (bm p)) p.bC;obtain⟨-,-,-,-,-,v⟩:=mW ok (aP (cs:=bm p) (aQ h (aA c a)));have L:=Qa (aQ (h.push (aA c a)) (bm p));have m:=Qa (f.box _ _ (aQ (h.push (aA c a)) (bm p)));have z0:=VX;have j:=(sO (Y7 p.d) O O).call;have k:=(sO (Y7 p.e) O O).call;clear ok D hw e f;unfold pJ;generalize bm p=K at *
 generalize aA c a=N at *
 generalize c.ak.contains p.bC=z1 at *
 generalize b8 p.d=E at *
 generalize b8 p.e=G at *
 obtain⟨B,pn,w,A⟩:=p;simp only at L m i j k ⊢;unfold im at *
 refine cq O func53 O ?_
 repeat' (first|simp(maxSteps:=9^9) (disch:=first|exact dZ|fail) only[gW,reduceIte,aR,aM,arh,bG, *]|refine dX ?_ ?_<;>(intro _;try omega))
 all_goals exact⟨_,_,O,by simp[*]⟩
def atn(e:rD c.ak)(h:am)(p:Int × Int):∃r h',SB.call 57 [.agg (aA c a),.agg (bN p)] h=J (r,h')/\r=.ret (.v (.bool (oQ c.ak p))):=by
 have m:=ok.cells;have k:=Kq p;obtain⟨o,i,f⟩:=acI ok D hw e ((h.push (aA c a)).push (bN p)) p.1;obtain⟨-,-,-,-,-,q⟩:=mW ok (aP (cs:=bN p) (aQ h (aA c a)));have L:=Di (aQ (h.push (aA c a)) (bN p));have j:=Di (f.box _ _ (aQ (h.push (aA c a)) (bN p)));have A:=NW;clear ok D hw e f;unfold oQ cA Qi;generalize bN p=w at *
 generalize aA c a=N at *
 generalize c.ak.contains p.1=B at *
 obtain⟨u,v⟩:=p;simp only at L j i ⊢;unfold im at *
 refine cq O func57 O ?_
 repeat' (first|simp(maxSteps:=9^9) (disch:=first|exact dZ|fail) only[gW,reduceIte,aR,aM,arj,bG, *]|refine dX ?_ ?_<;>(intro _;try omega))
 all_goals exact⟨_,_,O,by simp[*]⟩
end
section
open Go.AE Go.Lib Go.Proofs.Tryz
def ZS16{p:Prop}(h:p:=by
 have h:(match af.info? Q73 with|some i=>decide (i.size=Q74)&&decide (i.bytes<=64)&&(match i.zero with|some z=>decide (z.cells.size=Q74)|none=>ar)|none=>ar)=aa:=by kernel_rfl
 cases f:af.info? Q73 with
 |none=>rw[f]at h;cases h
 |some i=>
  rw[f]at h;simp only at h;cases e:i.zero with|none=>rw[e]at h;simp at h|some z=>rw[e]at h;simp only[bR,decide_eq_true_eq]at h;exact⟨i,O,h.1.1,h.1.2,z,e,h.2⟩):p:=h
section
open Go renaming kk46->Q73,kk4->Q74
def amq:∃i,af.info? 46=J i/\i.size=4/\i.bytes<=64/\∃z,i.zero=J z/\z.cells.size=4:=ZS16
end
def ZO17{p:Prop}(h:p:=by (try unfold Q77 at *);(try unfold Q78 at *);(try unfold Q79 at *);(try unfold Q81 at *);omega):p:=h
def ZS17{p:Prop}(h:p:=by
 obtain⟨inf,k,G,-,-⟩:=Q75;have u32:=Q76;have fj:F (cells.toList.take (n*Q77))=n*Q77:=by rw[dF,nf];exact ZO17
 have E:F ((cells.toList.take (n*Q77)).drop (i*Q77))=(n-i)*Q77:=by rw[fL,fj];exact ZO17
 obtain⟨w1,c1,ON,A,q2⟩:=IC (P:=af) (w:=w.drew) (dT:=Q78) (sT:=Q78) u32 k (g:=g) (o:=(i+1)*Q77) (dl:=n-i) (m:=n-i) (sl:=n+1-i) (a:=⟨g,i*Q77,ao⟩) (vs:=(cells.toList.take (n*Q77)).drop (i*Q77)) (hg:w.drew.heap[g]?=_) (by simp only[MN];split<;>exact ZO17) (by rw[E,G]) (λj v K=>by
  rw[Addr.jg,cell_of (w:=w.drew) hg];rw[qM,qb]at K;split at K
  .simpa using K
  .cases K) (by rw[E];exact ZO17) (λv hv=>vq v (adQ hv))
 have Xq:c1.size=cells.size:=by have:=congrArg F q2;simp only[db,dF,fL,nf,E]at this;rw[this];rw[fL,dF,nf]at E;exact ZO17
 obtain⟨w2,c2,OO,B,q4⟩:=IC (P:=af) (w:=w1) (dT:=Q78) (sT:=Q78) u32 k (g:=g) (o:=i*Q77) (dl:=n+1-i) (m:=1) (sl:=1) (a:=⟨q,ov,ao⟩) (vs:=vs) A.this (by simp only[MN];split<;>exact ZO17) (by rw[u,G]) (λj v K=>by rw[Addr.jg];have:=jx j v K;unfold World.cell? at this ⊢;rw[A.other q fH];exact this) (by rw[u,Xq];exact ZO17) vt;have hov:∀lb cb,(callFunc Q79 #[.slice (J ⟨q,ov,ao⟩) 1 vc,.slice (J ⟨g,(i+1)*Q77,ao⟩) lb cb]).run af w=.ok (.value (.bool ar)) w:=λlb cb=>by
  rw[run_callFunc_extern Q80 cD cD cD (e:=Extern.SlicesOverlaps.overlaps #[Q78,Q78] #[4]) cD,
   aur w Q78 4 Q81 u32 Q77 (λw=>by simp[sizeOf,typeInfo,k,G]) ⟨q,ov,ao⟩ ⟨g,(i+1)*Q77,ao⟩ 1 vc lb cb fH tA e kA cells.size f (by unfold World.shape?;rw[hg]) ?_ ZO17 (λj=>by rw[wF hg];exact Cv j) O]
  .rfl
  .intro z1;subst z1;have h0:=jx 0 _ (aW ZO17);unfold World.shape? at f;unfold World.cell? at h0;split at f
   .rename_i c e z D;simp only[Option.some.injEq,Prod.mk.injEq]at f;rw[D]at h0;simp only at h0;rw[Array.getElem?_eq_none ZO17]at h0;cases h0
   .cases f
 have mixed:af.follows .mixedOrders=aa:=EL.mixed;have u0:=run_underlying Q76;have yI:¬((1:Int)=0):=by exact ZO17
 have oF:¬((i:Int)=(n:Int)):=by exact ZO17
 have PV:IntKind.i64.wrap ((i:Int)+1)=(i:Int)+1:=by rw[IntKind.wrap_i64];exact ZO17
 have tj:IntKind.i64.wrap ((n:Int)+1)=(n:Int)+1:=by rw[IntKind.wrap_i64];exact ZO17
 have sX:(0:Int)<=(i:Int)+1:=by exact ZO17
 have jW:i<=n:=by exact ZO17
 have PO:((i:Int)+1).toNat=i+1:=by exact ZO17
 have mT:¬(c=i+1):=by exact ZO17
 have yr:(i:Int)<=(n:Int)+1:=by exact ZO17
 have CG:¬(c=i):=by exact ZO17
 have ga:(af.info? Q81).map (·.size)=J Q77:=by rw[k];simp[G]
 have AD:∃dS,mi w w2 g (.cells dS e (0,0))/\dS.size=cells.size/\dS.toList.take ((n+1)*Q77)=cells.toList.take (i*Q77)++vs++(cells.toList.take (n*Q77)).drop (i*Q77):=by
  refine⟨c2,⟨B.os.trans A.os,B.tape.trans A.tape,B.output.trans A.output,B.size.trans A.size,λz0 hk=>(B.other z0 hk).trans (A.other z0 hk),B.this⟩,?_,?_⟩
  .have:=congrArg F q4;simp only[db,dF,fL,nf,u]at this;exact ZO17
  .rw[q4,u,(ZO17:(n+1)*Q77=n*Q77+Q77)];refine amC (by rw[nf];exact ZO17) ZO17 u O ?_;rw[q2,(ZO17:(i+1)*Q77=i*Q77+Q77)]
 clear A q2 B q4 hg f jx vt vq
 go_enter Q82,Q83
 go_wp2_with (simp only[hov])
 go_region_law (refine step_copy_runI O _ _ Q78 Q78 O _ _ (by simp[Act.eval,Act.put]) (by simp[Act.eval,Act.put]) (ON _ _ _) ?_)
 go_wp2_with (at_builtin;refine wpList_copy_runI _ O _ _ Q78 Q78 O _ _ O O (OO _ _ _) ?_)
 go_ret
 exact⟨O,AD⟩):p:=h
section
open YtcbhpkjbiehcpaaGreatDoor renaming amq->Q75
open Tryz renaming underlying32->Q76,func180->Q80,func116->Q82,ntmps116->Q83
open Go renaming kk4->Q77,kk32->Q78,kk180->Q79,kk46->Q81
def amu(w:cC)(g n c i q ov vc:Nat)(cells:Array a_)(e:aX)(hg:w.heap[g]?=J (.cells cells e (0,0)))(hi:i<n)(FY:n+1<=c)(wN:n<1000000)(jk:c*4<=cells.size)(fH:q≠g)(vs:List a_)(u:F vs=4)(jx:∀j v,vs[j]?=J v->w.cell? ⟨q,ov+j,ao⟩=J v)(vt:∀v∈vs,nt v=aa)(vq:∀v∈cells.toList.take (n*4),nt v=aa)(tA:aX)(kA:Nat)(f:w.shape? q=J (tA,kA)):
 Calls af 116 #[.slice (J ⟨g,0,ao⟩) n c,.int .i64 i,.slice (J ⟨q,ov,ao⟩) 1 vc] w λr w'=>r=.returned (.slice (J ⟨g,0,ao⟩) (n+1) c)/\
  ∃dS,mi w w' g (.cells dS e (0,0))/\dS.size=cells.size/\dS.toList.take ((n+1)*4)=cells.toList.take (i*4)++vs++(cells.toList.take (n*4)).drop (i*4):=ZS17
end
def ZO18{p:Prop}(h:p:=by (try unfold Q86 at *);(try unfold Q87 at *);omega):p:=h
def ZS18{p:Prop}(h:p:=by
 have o:af.follows .mixedOrders=aa:=EL.mixed;have G:=run_underlying Q84;obtain⟨B,i,j,-,-⟩:=Q85;have v:(af.info? Q86).map (·.size)=J Q87:=by rw[i];simp[j]
 have A:¬((1:Int)=0):=by exact ZO18
 go_enter Q88,Q89
 cases e with
 |none=>
  go_wp2_with (at_builtin;refine Lib.wpList_append_run _ O _ _ _ _ O _ _ O O _ _ (f _) ?_)
  all_goals (go_ret;exact⟨O,O⟩)
 |some a0=>
  obtain⟨ab,D,u⟩:=a0
  go_wp2_with (at_builtin;refine Lib.wpList_append_run _ O _ _ _ _ O _ _ O O _ _ (f _) ?_)
  all_goals (go_ret;exact⟨O,O⟩)):p:=h
section
open Tryz renaming underlying32->Q84,func116->Q88,ntmps116->Q89
open YtcbhpkjbiehcpaaGreatDoor renaming amq->Q85
open Go renaming kk46->Q86,kk4->Q87
def ams(w w':cC)(e:Option Addr)(n c k:Nat)(a:Addr)(m:a_)(E:n<=c)(f:∀ty,(Builtin.append_ #[32,32] ty #[.slice e n c,.slice (J a) 1 k]).run af w=.ok m w'):
 Calls af 116 #[.slice e n c,.int .i64 n,.slice (J a) 1 k] w λr q=>r=.returned m/\q=w':=ZS18
end
def ZO19{p:Prop}(h:p:=by (try unfold Q92 at *);(try unfold Q93 at *);(try unfold Q94 at *);omega):p:=h
def ZS19{p:Prop}(h:p:=by
 obtain⟨inf,A,Jl,yx,z,hz,C'⟩:=Q90;have u32:=Q91;have fj:F (cells.toList.take (n*Q92))=n*Q92:=by rw[dF,nf];exact ZO19
 have CI:F ((cells.toList.take (n*Q92)).drop (i*Q92))=(n-i)*Q92:=by rw[fL,fj];exact ZO19
 have hcn:c=n:=by exact ZO19
 subst hcn;have hold:(Builtin.firstCells inf.size i (.slice (J ⟨g,0,ao⟩) i c)).run af w.drew=.ok (cells.toList.take (i*Q92)).toArray w.drew:=by
  have:=run_loadCells_list (P:=af) w.drew ⟨g,0,ao⟩ (cells.toList.take (i*Q92)) (λj v q=>by
   rw[Addr.jg,cell_of (w:=w.drew) hg];simp only[qb]at q;split at q
   .simpa using q
   .cases q)
  rw[show(F (cells.toList.take (i*Q92)))=i*inf.size by rw[dF,nf,Jl];exact ZO19]at this;exact this
 have Jc:=Lib.run_append_grow_zeros (P:=af) w Q93 3 Q93 Q94 inf z .i64 .i64 u32 underlying3 A hz (J ⟨g,0,ao⟩) i c (cells.toList.take (i*Q92)) hold (c+1-i) ZO19 ZO19 ZO19 ZO19 (by have:=lu (ZO19:c+1-i<=1000001) yx;exact ZO19) (by have:=growslice_fits (bytes:=inf.bytes) (ZO19:c<i+(c+1-i)) (by have:=lu (ZO19:i+(c+1-i)<=1000001) yx;exact ZO19);exact ZO19);rw[(ZO19:i+(c+1-i)=c+1)]at Jc;obtain⟨k,G⟩:∃k,k=grownCap w (c+1) c Q94:=⟨_,O⟩;have akG:c+1<=k:=by rw[G];exact grownCap_ge w _ _ _
 have ay0:k<=9223372036854775807:=by have:=grownCap_le_maxLen w (c+1) c Q94 (by unfold maxLen;exact ZO19);rw[<-G]at this;unfold maxLen at this;exact ZO19
 rw[<-G]at Jc;obtain⟨f,u⟩:∃f:Array a_,f=(cells.toList.take (i*Q92)).toArray++Builtin.zeroCells z.cells (c+1-i)++Builtin.zeroCells z.cells (k-(c+1)):=⟨_,O⟩;rw[<-u]at Jc;have WY:f.size=k*Q92:=by rw[u];simp only[Array.size_append,List.size_toArray,Sd,C',dF,nf];exact ZO19
 have WZ:f.toList.take (i*Q92)=cells.toList.take (i*Q92):=by rw[u];simp only[Array.toList_append];rw[jq];exact uS (by rw[dF,nf];exact ZO19)
 obtain⟨W1,K⟩:∃W1,W1=(w.alloc (.cells f Q94)).drew:=⟨_,O⟩;have Xb:W1.heap[w.heap.size]?=J (.cells f Q94 (0,0)):=by rw[K];show(w.heap.push _)[w.heap.size]?=_;rw[acZ,aC O]
 have Ow:∀z0,z0<w.heap.size->W1.heap[z0]?=w.heap[z0]?:=λz0 hk=>by rw[K];show(w.heap.push _)[z0]?=_;rw[acZ,aL ZO19]
 have hgs:=qw hg;have PQ:gv<w.heap.size:=block_lt_of_cell (jx 0 _ (aW ZO19));obtain⟨w1,c1,ON,D,q2⟩:=IC (P:=af) (w:=W1) (dT:=Q93) (sT:=Q93) u32 A (g:=w.heap.size) (o:=i*Q92) (dl:=c+1-i) (m:=1) (sl:=1) (a:=⟨gv,ov,ao⟩) (vs:=vs) Xb (by simp only[MN];split<;>exact ZO19) (by rw[B,Jl]) (λj v q=>by rw[Addr.jg];have:=jx j v q;unfold World.cell? at this ⊢;rw[Ow gv PQ];exact this) (by rw[B,WY];exact ZO19) vt;have Xq:c1.size=f.size:=by have:=congrArg F q2;simp only[db,dF,fL,nf,B]at this;exact ZO19
 have OY:w1.heap[g]?=J (.cells cells e (0,0)):=by rw[D.other g ZO19,Ow g hgs];exact hg
 obtain⟨w2,c2,OO,E,q4⟩:=IC (P:=af) (w:=w1.drew) (dT:=Q93) (sT:=Q93) u32 A (g:=w.heap.size) (o:=(i+1)*Q92) (dl:=c-i) (m:=c-i) (sl:=c-i) (a:=⟨g,i*Q92,ao⟩) (vs:=(cells.toList.take (c*Q92)).drop (i*Q92)) (D.this:w1.drew.heap[_]?=_) (by simp only[MN];split<;>exact ZO19) (by rw[CI,Jl]) (λj v q=>by
  rw[Addr.jg,cell_of (w:=w1.drew) OY];rw[qM,qb]at q;split at q
  .simpa using q
  .cases q) (by rw[CI];exact ZO19) (λv hv=>vq v (adQ hv))
 have mixed:af.follows .mixedOrders=aa:=EL.mixed;have u0:=run_underlying Q91;have yI:¬((1:Int)=0):=by exact ZO19
 have oF:¬((i:Int)=(c:Int)):=by exact ZO19
 have JU:(c:Int)<(c:Int)+1:=by exact ZO19
 have PV:IntKind.i64.wrap ((i:Int)+1)=(i:Int)+1:=by rw[IntKind.wrap_i64];exact ZO19
 have tj:IntKind.i64.wrap ((c:Int)+1)=(c:Int)+1:=by rw[IntKind.wrap_i64];exact ZO19
 have hw3:IntKind.i64.wrap ((c:Int)+1-(i:Int))=((c+1-i:Nat):Int):=by rw[IntKind.wrap_i64];exact ZO19
 have Jo:(c:Int)+1-(i:Int)=((c+1-i:Nat):Int):=by exact ZO19
 have sX:(0:Int)<=(i:Int)+1:=by exact ZO19
 have jW:i<=c:=by exact ZO19
 have PO:((i:Int)+1).toNat=i+1:=by exact ZO19
 have hGi:¬(k=i):=by exact ZO19
 have ay1:¬(k=i+1):=by exact ZO19
 have Ay:¬(c=i):=by exact ZO19
 have yr:(i:Int)<=(c:Int):=by exact ZO19
 have ga:(af.info? Q94).map (·.size)=J Q92:=by rw[A];simp[Jl]
 have AD:∃c3 N c0 dS,(.returned (.slice (J ⟨w.heap.size,0,ao⟩) (c+1) k):Ending)=.returned (.slice (J ⟨w.heap.size,0,ao⟩) (c+1) c3)/\c+1<=c3/\mi {w with drawn:=N,heap:=w.heap.push (.cells c0 Q94)} w2 w.heap.size (.cells dS Q94 (0,0))/\dS.size=c3*Q92/\dS.toList.take ((c+1)*Q92)=cells.toList.take (i*Q92)++vs++(cells.toList.take (c*Q92)).drop (i*Q92):=by
  subst K;refine⟨k,w.drew.drawn,f,c2,O,akG,⟨E.os.trans D.os,E.tape.trans D.tape,E.output.trans D.output,E.size.trans D.size,λz0 hk=>(E.other z0 hk).trans (D.other z0 hk),E.this⟩,?_,?_⟩
  .have:=congrArg F q4;simp only[db,dF,fL,nf,CI]at this;exact ZO19
  .rw[q4,CI];have e1:c1.toList.take ((i+1)*Q92)=cells.toList.take (i*Q92)++vs:=(by rw[q2,WZ];exact uS (by simp only[db,dF,nf,B];exact ZO19));rw[e1];exact uS (by simp only[db,dF,fL,nf,B];exact ZO19)
 clear D q2 E q4 hg jx vt vq WZ u hold Xb Ow OY G WY;subst K
 go_enter Q95,Q96
 go_wp2_with (first
  |(at_builtin;refine Lib.wpList_append_run _ O _ _ _ _ O _ _ O O _ _ (Jc) ?_)
  |(at_builtin;refine wpList_copy_runI _ O _ _ Q93 Q93 O _ _ O O (ON _ _ _) ?_))
 go_region_law (refine step_copy_runI O _ _ Q93 Q93 O (.slice (J ⟨w.heap.size,(i+1)*Q92,ao⟩) (c-i) (k-(i+1))) (.slice (J ⟨g,i*Q92,ao⟩) (c-i) (c-i)) (by simp[Act.eval,Act.put]) (by simp[Act.eval,Act.put]) (OO _ _ _) ?_)
 go_wp2
 go_ret
 exact AD):p:=h
section
open YtcbhpkjbiehcpaaGreatDoor renaming amq->Q90
open Tryz renaming underlying32->Q91,func116->Q95,ntmps116->Q96
open Go renaming kk4->Q92,kk32->Q93,kk46->Q94
def amt(w:cC)(g n c i gv ov vc:Nat)(cells:Array a_)(e:aX)(hg:w.heap[g]?=J (.cells cells e (0,0)))(hi:i<n)(Pg:n<=c)(FY:c<n+1)(hb:n<1000000)(jk:n*4<=cells.size)(vs:List a_)(B:F vs=4)(jx:∀j v,vs[j]?=J v->w.cell? ⟨gv,ov+j,ao⟩=J v)(vt:∀v∈vs,nt v=aa)(vq:∀v∈cells.toList.take (n*4),nt v=aa):
 Calls af 116 #[.slice (J ⟨g,0,ao⟩) n c,.int .i64 i,.slice (J ⟨gv,ov,ao⟩) 1 vc] w λr w'=>∃c2 N c0 dS,r=.returned (.slice (J ⟨w.heap.size,0,ao⟩) (n+1) c2)/\n+1<=c2/\mi {w with drawn:=N,heap:=w.heap.push (.cells c0 46)} w' w.heap.size (.cells dS 46 (0,0))/\dS.size=c2*4/\dS.toList.take ((n+1)*4)=cells.toList.take (i*4)++vs++(cells.toList.take (n*4)).drop (i*4):=ZS19
end
end
section
open Go.AE Go.Lib Go.Proofs.Tryz
section
open Go renaming kk48->Q73,kk2->Q74
def YN:∃i,af.info? 48=J i/\i.size=2/\i.bytes<=64/\∃z,i.zero=J z/\z.cells.size=2:=ZS16
end
section
open YtcbhpkjbiehcpaaGreatDoor renaming YN->Q75
open Tryz renaming underlying33->Q76,func182->Q80,func120->Q82,ntmps120->Q83
open Go renaming kk2->Q77,kk33->Q78,kk182->Q79,kk48->Q81
def amy(w:cC)(g n c i q ov vc:Nat)(cells:Array a_)(e:aX)(hg:w.heap[g]?=J (.cells cells e (0,0)))(hi:i<n)(FY:n+1<=c)(wN:n<1000000)(jk:c*2<=cells.size)(fH:q≠g)(vs:List a_)(u:F vs=2)(jx:∀j v,vs[j]?=J v->w.cell? ⟨q,ov+j,ao⟩=J v)(vt:∀v∈vs,nt v=aa)(vq:∀v∈cells.toList.take (n*2),nt v=aa)(tA:aX)(kA:Nat)(f:w.shape? q=J (tA,kA)):
 Calls af 120 #[.slice (J ⟨g,0,ao⟩) n c,.int .i64 i,.slice (J ⟨q,ov,ao⟩) 1 vc] w λr w'=>r=.returned (.slice (J ⟨g,0,ao⟩) (n+1) c)/\
  ∃dS,mi w w' g (.cells dS e (0,0))/\dS.size=cells.size/\dS.toList.take ((n+1)*2)=cells.toList.take (i*2)++vs++(cells.toList.take (n*2)).drop (i*2):=ZS17
end
section
open Tryz renaming underlying33->Q84,func120->Q88,ntmps120->Q89
open YtcbhpkjbiehcpaaGreatDoor renaming YN->Q85
open Go renaming kk48->Q86,kk2->Q87
def amw(w w':cC)(e:Option Addr)(n c k:Nat)(a:Addr)(m:a_)(E:n<=c)(f:∀ty,(Builtin.append_ #[33,33] ty #[.slice e n c,.slice (J a) 1 k]).run af w=.ok m w'):
 Calls af 120 #[.slice e n c,.int .i64 n,.slice (J a) 1 k] w λr q=>r=.returned m/\q=w':=ZS18
end
section
open YtcbhpkjbiehcpaaGreatDoor renaming YN->Q90
open Tryz renaming underlying33->Q91,func120->Q95,ntmps120->Q96
open Go renaming kk2->Q92,kk33->Q93,kk48->Q94
def amx(w:cC)(g n c i gv ov vc:Nat)(cells:Array a_)(e:aX)(hg:w.heap[g]?=J (.cells cells e (0,0)))(hi:i<n)(Pg:n<=c)(FY:c<n+1)(hb:n<1000000)(jk:n*2<=cells.size)(vs:List a_)(B:F vs=2)(jx:∀j v,vs[j]?=J v->w.cell? ⟨gv,ov+j,ao⟩=J v)(vt:∀v∈vs,nt v=aa)(vq:∀v∈cells.toList.take (n*2),nt v=aa):
 Calls af 120 #[.slice (J ⟨g,0,ao⟩) n c,.int .i64 i,.slice (J ⟨gv,ov,ao⟩) 1 vc] w λr w'=>∃c2 N c0 dS,r=.returned (.slice (J ⟨w.heap.size,0,ao⟩) (n+1) c2)/\n+1<=c2/\mi {w with drawn:=N,heap:=w.heap.push (.cells c0 48)} w' w.heap.size (.cells dS 48 (0,0))/\dS.size=c2*2/\dS.toList.take ((n+1)*2)=cells.toList.take (i*2)++vs++(cells.toList.take (n*2)).drop (i*2):=ZS19
end
end
section
open Go.AE Go.Proofs.Tryz
def amr:Mn af 116 32 46 4:=⟨⟨_,func116,by kernel_rfl⟩,by decide,underlying32,amq,amu,ams,amt⟩
def amv:Mn af 120 33 48 2:=⟨⟨_,func120,by kernel_rfl⟩,by decide,underlying33,YN,amy,amw,amx⟩
def vC(g:bk):Option (List I->am->Option (I × am)):=if g=116 then J (yK 4) else if g=120 then J (yK 2) else ao
def P4{G}:∀e g p,vC g=some p->mo Tryz.prog G e g p:=by
 intro e g p h;unfold vC at h;split at h
 .rename_i f;subst f;injection h with h;subst h;exact YP amr e
 .split at h
  .rename_i f;subst f;injection h with h;subst h;exact YP amv e
  .cases h
end
def LC:List bk:=LB++[11,12,53,57,50,51,9]
noncomputable def oh:bk->Option (List I->am->Option (I × am)):=nu SB LC (λ_=>0) vC
noncomputable abbrev SC:=whole af Gt oh
def xZ:nG oh LC:=λg e=>⟨yN SB g,by unfold oh nu;rw[aC (by simpa using e)];rfl⟩
def r_(e:x=.ac k s es)(D:av x=x)(h):ea h x=x:=by subst e;rw[av]at D;injection D with h1 f i;rw[ea,h1]
def JV(h):∀a b:List I,ja h (a++b)=ja h a++ja h b
 | [],_=>rfl
 |x::a,b=>by rw[fw,ja,JV h a b];rfl
def al8(h)(l:List UInt8):ja h (l.map jc)=l.map jc:=by
 induction l with
 |nil=>rfl|cons b l e=>show ea h (jc b)::ja h (l.map jc)=_;rw[e];rfl
section
variable {c:Ce} {a:CA}
def ND(ok:c_ c a)(D:dJ a)(h:am):ja h (aA c a)=aA c a:=by obtain⟨v,s1,xs,e,-⟩:=ok.x.form;obtain⟨w,s2,f,-⟩:=ok.y;obtain⟨A,s3,i,-⟩:=ok.cm;obtain⟨B,s4,j,-⟩:=ok.d.p;obtain⟨E,s5,k,-⟩:=ok.d.r;obtain⟨G,s6,m,-⟩:=ok.d.n;obtain⟨K,s7,o,-⟩:=ok.w;obtain⟨k8,s8,q,-⟩:=ok.pa;obtain⟨k9,s9,u,-⟩:=ok.z;unfold aA aG bQ;rw[JV,JV,JV,al8];simp only[ja,r_ e D.X,r_ f D.Y,r_ i D.C,r_ j D.p,r_ k D.r,r_ m D.n,r_ o D.W,r_ q D.Pa,r_ u D.Z];rfl
def vi(D:dJ a):bA (aA c a)=aA c a:=by unfold aA aG;rw[AO,AO,ye,D.p,D.r,D.n];simp only[bA,D.X,D.Y,D.C,D.W,D.Pa,D.Z];rfl
def qi(ok:c_ c a)(D:dJ a):aJ 0 0 0 (aA c a)=aa:=by obtain⟨h1,m,o,e⟩:=yL c.ep ok.x ok.y ok.cm;obtain⟨-,f⟩:=ok.d.hold;obtain⟨-,i⟩:=ok.w.hold;obtain⟨-,j⟩:=ok.pa.iE;obtain⟨-,k⟩:=ok.z.hold;rw[D.X,D.Y,D.C]at e;rw[D.p,D.r,D.n]at f;rw[D.W]at i;rw[D.Pa]at j;rw[D.Z]at k;unfold aA;rw[IR,IR,e,f];simp[aJ,i,j,k]
def FG:dJ a0:=⟨O,O,O,O,O,O,O,O,O⟩
def QH(D:dJ a):dJ (jn c a):=by
 unfold jn;split
 .exact⟨D.X,D.Y,D.C,D.p,D.r,D.n,D.W,O,O⟩
 .exact FG
def afd(D:dJ a):bA [.agg (aG c.ep a.X a.Y a.C),.agg (bQ c.doc a.p a.r a.n),a.W]=[.agg (aG c.ep a.X a.Y a.C),.agg (bQ c.doc a.p a.r a.n),a.W]:=by
 have e:bA (aG c.ep a.X a.Y a.C)=aG c.ep a.X a.Y a.C:=by unfold aG;simp only[bA,D.X,D.Y,D.C];rfl
 have f:bA (bQ c.doc a.p a.r a.n)=bQ c.doc a.p a.r a.n:=by rw[ye,D.p,D.r,D.n]
 simp only[bA,av,e,f,D.W]
def afc(ok:c_ c a)(D:dJ a):aJ 0 0 0 [.agg (aG c.ep a.X a.Y a.C),.agg (bQ c.doc a.p a.r a.n),a.W]=aa:=by obtain⟨h1,j,k,e⟩:=yL c.ep ok.x ok.y ok.cm;obtain⟨-,f⟩:=ok.d.hold;obtain⟨-,i⟩:=ok.w.hold;rw[D.X,D.Y,D.C]at e;rw[D.p,D.r,D.n]at f;rw[D.W]at i;simp[aJ,aI,e,f,i]
def ZS20{p:Prop}(h:p:=by
 obtain⟨_,_,f,rfl⟩:=Q97 ⟨[],[],0,[]⟩ c a ok (aoL ok D e);refine cd.Bg (L:=LC) f O (afd D) (afc ok D) ?_ ?_
 .simp only[ea,ja,ND (yR ok) (QH D)];rfl
 .simp[aI,aJ,qi (yR ok) (QH D),im]):p:=h
section
open YtcbhpkjbiehcpaaGreatDoor renaming az2->Q97
def Y5(ok:c_ c a)(D:dJ a)(e:c.Fit):cd SC 11 [.agg (aG c.ep a.X a.Y a.C),.agg (bQ c.doc a.p a.r a.n),a.W] (.tuple [.agg (aA (jR c) (jn c a)),im c.ej]):=ZS20
end
section
open YtcbhpkjbiehcpaaGreatDoor renaming aAs->Q97
def am7(ok:c_ c a)(D:dJ a)(e:c.Fit):cd SC 12 [.agg (aG c.ep a.X a.Y a.C),.agg (bQ c.doc a.p a.r a.n),a.W] (.tuple [.agg (aA (jR c) (jn c a)),im c.ej]):=ZS20
end
def Rb(p):bA (bm p)=bm p:=rfl
def am8(ok:c_ c a)(D:dJ a)(hw:F c.ak<=1000000)(e:rD c.ak)(p:Pr):cd SC 53 [.agg (aA c a),.agg (bm p)] (.v (.bool (pJ c.ak p))):=by obtain⟨_,_,f,rfl⟩:=atm ok D hw e ⟨[],[],0,[]⟩ p;exact cd.Bg (L:=LC) f O (by simp only[bA,av,vi D,Rb]) (by simp only[aJ,aI,qi ok D];rfl) O rfl
def am9(ok:c_ c a)(D:dJ a)(hw:F c.ak<=1000000)(e:rD c.ak)(p:Int × Int):cd SC 57 [.agg (aA c a),.agg (bN p)] (.v (.bool (oQ c.ak p))):=by obtain⟨_,_,f,rfl⟩:=atn ok D hw e ⟨[],[],0,[]⟩ p;exact cd.Bg (L:=LC) f O (by simp only[bA,av,vi D];rfl) (by simp only[aJ,aI,qi ok D];rfl) O rfl
end
abbrev pz00:Pr:=⟨0,0,0,0⟩
def arb:Tryz.f179.results.toList=[.tmp 2]:=by kernel_rfl
def Ro:Tryz.f115.results.toList=[.tmp 4]:=by kernel_rfl
def ari:Tryz.f55.results.toList=[.tmp 2]:=by kernel_rfl
def az9:Tryz.f114.results.toList=[.tmp 5]:=by kernel_rfl
def az8:Tryz.f113.results.toList=[.tmp 6,.tmp 7]:=by kernel_rfl
def ZU(n:Int)(h:am):SC.call 179 [((n:Int):I)] h=J (.ret (ar:I),h):=by
 have e:decide (n=n)=aa:=by simp
 refine cX O func179 O ?_;exact iT @arb
def yb(a b:Int):Int:=if a<b then -1 else if b<a then 1 else 0
def ahL(a b:Int)(h:am):SC.call 115 [((a:Int):I),((b:Int):I)] h=J (.ret ((yb a b:Int):I),h):=by
 have f:=ZU a h;have i:=ZU b h;unfold yb;by_cases h1:a<b
 .rw[aC h1];have d1:decide (a<b)=aa:=cy h1;refine cX O func115 O ?_;exact iT @Ro
 .rw[aL h1];have d1:decide (a<b)=ar:=cR h1;by_cases e:b<a
  .rw[aC e];have d2:decide (a>b)=aa:=cy e;refine cX O func115 O ?_;exact iT @Ro
  .rw[aL e];have d2:decide (a>b)=ar:=cR e;refine cX O func115 O ?_;exact iT @Ro
def az3(p:Pr)(h:am):SC.call 55 [.agg (bm p)] h=J (.ret ((p.bC:Int):I),h.push (bm p)):=by
 have e:=Kp p;have L:=Qa (aQ h (bm p));have i:=VX;generalize bm p=f at *
 unfold im at *
 refine cX O func55 O ?_;exact f_ @ari @bG
def ayB:fR af 98=J ar:=by kernel_rfl
def ZS21{p:Prop}(h:p:=by
 have bp:=Q104 p;have bq:=Q104 q;obtain⟨e,f⟩:∃e,(h.push (Q105 p)).push (Q105 q)=e:=⟨_,O⟩;have j:Ext h e:=by rw[<-f];exact(Ext.push _ _).trans (.push _ _)
 have w:e.V[F h.V]?=J (Q105 p):=by rw[<-f];exact aP (aQ _ _)
 have k:e.V[F (h.push (Q105 p)).V]?=J (Q105 q):=by rw[<-f];exact aQ _ _
 have m:=j.box _ _ o;have L0:=Q106 w;have L1:=Q106 k;have E:=Q106 (aP (cs:=Q105 p) k);have K:aF af Gt e Q107 (.ptr (.box i) 0)=J (.func (.func Q108) [] []):=by rw[fI Q109 m];rfl
 have F1:aF af Gt (e.push (Q105 p)) Q107 (.ptr (.box i) 0)=J (.func (.func Q108) [] []):=by rw[fI Q109 (aP m)];rfl
 have k1:=Q110 p e;have k2:=Q110 q (e.push (Q105 p));have k3:=ahL (Q111 p) (Q111 q) ((e.push (Q105 p)).push (Q105 q));have x:=(j.trans (.push e (Q105 p))).trans (.push _ (Q105 q));have B:df (.agg (Q105 q)) (.agg (Q105 q))=aa:=by simp[df,gJ,ip,Q105]
 have D:df (.func (.func Q108) [] []) (.func (.func Q108) [] [])=aa:=rfl;clear o w k m j;generalize Q105 p=G at *
 generalize Q105 q=A at *
 refine ie O Q112 O ?_;refine dL @Q113 @bG @f ?_;refine jB [(2,3),(2,4)] xZ cD (λz u=>?_) ?_
 .simp only[gX,rI,or_false]at u;rcases u with rfl|rfl
  .refine pM (x:=.ptr (.box i) 0) (v:=.func (.func Q108) [] []) cD O O O cD (D) ?_ ?_<;>(simp only[fe,eE];exact f_ @Q113 @and_self)
  .refine pM (x:=.ptr (.box (F (h.push G).V)) 0) (v:=.agg A) cD O O O cD (B) ?_ ?_<;>(simp only[fe,eE];exact f_ @Q113 @and_self)
 refine br @Q113 ?_;exact⟨_,O,x⟩):p:=h
section
open YtcbhpkjbiehcpaaGreatDoor renaming Kp->Q104,bm->Q105,vH->Q106,ayB->Q109,az3->Q110,az9->Q113
open Go renaming kk98->Q107,kk55->Q108
open NT.Pr renaming bC->Q111
open Tryz renaming func114->Q112
def azZ(p q:Pr)(i:Nat)(h:am)(o:h.V[i]?=J [.func (.func 55) [] []]):∃h',SC.call 114 [.agg (bm p),.agg (bm q),.ptr (.box i) 0] h=J (.ret ((yb p.bC q.bC:Int):I),h')/\Ext h h':=ZS21
end
def ahM(a b):decide (yb a b<0)=decide (a<b):=by
 unfold yb;by_cases h:a<b
 .rw[aC h];simp[h]
 .rw[aL h];split<;>simp[h]
def ahN(a b):decide (yb a b=0)=decide (a=b):=by
 unfold yb;by_cases h:a<b
 .rw[aC h];simp;omega
 .rw[aL h];split<;>simp<;>omega
def HA{α:Type}(k:α->Int)(l:List α):Prop:=∀(e f:Nat) (x y:α),l[e]?=J x->l[f]?=J y->e<f->k x<k y
def auR{α}{k}{l:List α}{n}{lo}(h1:lo<=F l)(e:∀j y,j<lo->l[j]?=J y->k y<n)(f:∀j y,lo<=j->l[j]?=J y->n<=k y):lH k n l=lo:=afq h1 e λy E=>by have:=f lo y (aT _) E;omega
def vD{α:Type}(k:α->Int)(n:Int)(l:List α):Bool:=(pY k n l).isSome
def ZO22{p:Prop}(h:p:=by (try unfold Q121 at *);(try unfold Q123 at *);(try unfold Q125 at *);omega):p:=h
def ZS22{p:Prop}(h:p:=by
 have kk:=aj.mk (au hs O5);clear hs O5;have u32:=Q114;have z46:=Q115;have bp:=Q116 p;have fG:F (Q117 l)=F l:=by unfold Q117;rw[bI]
 have kx0:=aj.mk (Ext.push h (Q118 p));have kb0:=aj.mk (aP (cs:=Q118 p) hb);have kp0:=aj.mk (aQ h (Q118 p));clear hb;refine cq O Q119 O ?_;refine bB @Q120 @bG ?_;refine bJ.gen λw m iD fA eg=>?_;have f0:w.get 0=.ac k s (Q117 l):=by rw[m];exact gS
 have f2:w.get 2=.func (.func Q121) [] [.ptr (.box v) 0]:=by rw[m];exact gS
 have f4:w.get 4=.ptr (.box (F h.V)) 0:=by rw[m];exact gS
 have f8:w.get 8=(F l:Nat):=by rw[m];simp only[gW,reduceIte,aR,aM,fG]
 have f9:w.get 9=(0:Nat):=by rw[m];exact gR
 have f10:w.get 10=(F l:Nat):=by rw[m];simp only[gW,reduceIte,aR,aM,fG]
 have fd:w.defers=[]:=by rw[iD];exact gS
 clear m iD fA eg;refine cK (λz2 z0 H=>∃e f:Nat,e<=f/\f<=F l/\z2=f-e/\aj ((∀j y,j<e->l[j]?=J y->(Q122 y)<(Q122 p))/\∀j y,f<=j->l[j]?=J y->(Q122 p)<=(Q122 y))/\z0.get 0=.ac k s (Q117 l)/\z0.get 2=.func (.func Q121) [] [.ptr (.box v) 0]/\z0.get 4=.ptr (.box (F h.V)) 0/\z0.get 8=(F l:Nat)/\z0.get 9=(e:Nat)/\z0.get 10=(f:Nat)/\z0.defers=[]/\aj (Ext h H)/\aj (H.V[v]?=J [.func (.func Q123) [] []])/\aj (H.V[F h.V]?=J (Q118 p))) ?_ (F l) _ _ ?_;rotate_left 1
 .exact⟨0,l.length,ck _,aT _,O,⟨λj y hj=>absurd hj (qc _),λj y h1 G=>by have:=(aU.1 G).1;exact ZO22⟩,f0,f2,f4,f8,f9,f10,fd,kx0,kb0,kp0⟩
 clear f0 f2 f4 f8 f9 f10 fd kx0 kb0 kp0;rintro z2 z0 H ⟨e,f,h1,G,rfl,kI,g0,g2,g4,g8,g9,g10,hd,kx,kb,kp⟩;have lp:=Q124 kp.M;by_cases dx:e<f
 .have dY:s=Q125:=kk.M.1 (by intro q;rw[q,gh]at G;exact ZO22);subst dY;obtain⟨i,u⟩:∃i:Nat,(e+f)/2=i:=⟨_,O⟩;obtain⟨y,E⟩:∃y,l[i]?=J y:=⟨_,aW ZO22⟩;have ld:=Q126 (H:=H) (s:=Q125) E;obtain⟨H2,ls,A⟩:=Q127 y p v H kb.M;have iy:(e:Int)<(f:Int):=by exact ZO22
  have Au:(e:Int)+(f:Int)=((e+f:Nat):Int):=by exact ZO22
  have PV:IntKind.u64.wrap ((e+f:Nat):Int)=((e+f:Nat):Int):=wrap_u64 ZO22;have tj:IntKind.i64.wrap (((e+f)/2:Nat):Int)=((i:Nat):Int):=by rw[u];exact ji ZO22 ZO22
  have alw:(i:Int)<(F l:Int):=by exact ZO22
  have cn:=ahM (Q122 y) (Q122 p);have D:=aj.mk (kx.M.trans A);have kb2:=aj.mk (A.box _ _ kb.M);have kp2:=aj.mk (A.box _ _ kp.M);have B:=aj.mk E;clear E A;by_cases hc:(Q122 y)<(Q122 p)
  .have kI2:aj ((∀j y,j<i+1->l[j]?=J y->(Q122 y)<(Q122 p))/\∀j y,f<=j->l[j]?=J y->(Q122 p)<=(Q122 y)):=⟨λj z1 hj hw=>by
    rcases dR j i with q|q
    .exact Int.lt_trans (kk.M.2 j i z1 y hw B.M q) hc
    .have:j=i:=ZO22;subst this;rw[B.M]at hw;injection hw with hw;rw[<-hw];exact hc,kI.M.2⟩
   rw[cy hc]at cn;have khm:=aj.mk u;clear hc u;refine b_ @Q120 @fw.{0} @fE.{0} (au @bh (au @pW (au @Cg @Ed))) ?_;refine eI xZ cD ?_;refine b_ @Q120 @fw.{0} @fE.{0} (au @bh (au @pW (au @Cg @Ed))) ?_;have:=khm.M;exact⟨f-(i+1),by exact ZO22,i+1,f,by exact ZO22,G,O,kI2,by simp,by first|exact D|trivial,by first|exact kb2|trivial,by first|exact kp2|trivial⟩
  .have kI2:aj ((∀j y,j<e->l[j]?=J y->(Q122 y)<(Q122 p))/\∀j y,i<=j->l[j]?=J y->(Q122 p)<=(Q122 y)):=⟨kI.M.1,λj z1 hj hw=>by
    rcases dR i j with q|q
    .have:=kk.M.2 i j y z1 B.M hw q;exact ZO22
    .have:j=i:=ZO22;subst this;rw[B.M]at hw;injection hw with hw;rw[<-hw];exact ZO22⟩
   rw[cR hc]at cn;have khm:=aj.mk u;clear hc u;refine b_ @Q120 @fw.{0} @fE.{0} (au @bh (au @pW (au @Cg @Ed))) ?_;refine eI xZ cD ?_;refine b_ @Q120 @fw.{0} @fE.{0} (au @bh (au @pW (au @Cg @Ed))) ?_;have:=khm.M;exact⟨i-e,by exact ZO22,e,i,by exact ZO22,by exact ZO22,O,kI2,by simp,by first|exact D|trivial,by first|exact kb2|trivial,by first|exact kp2|trivial⟩
 .have mU:e=f:=by exact ZO22
  subst mU;have o:=auR G kI.M.1 kI.M.2;by_cases jW:e<F l
  .have dY:s=Q125:=kk.M.1 (by intro q;rw[q,gh]at jW;exact ZO22);subst dY;obtain⟨y,E⟩:∃y,l[e]?=J y:=⟨_,aW jW⟩;have ld:=Q126 (H:=H) (s:=Q125) E;obtain⟨H2,ls,A⟩:=Q127 y p v H kb.M;have iy:(e:Int)<(F l:Int):=ZO22;have OR:decide ((e:Int)<(F l:Int))=aa:=(by simp[jW]);have cz:=ahN (Q122 y) (Q122 p);have K:vD Q128 (Q122 p) l=decide ((Q122 y)=(Q122 p)):=(by unfold vD pY;rw[o,E];simp only;split<;>simp[*]);have kf:=aj.mk K;have ka:=aj.mk o;have D:=aj.mk (kx.M.trans A);clear K o E A;refine b_ @Q120 @fw.{0} @fE.{0} @bh ?_;refine eI xZ cD ?_;refine b_ @Q120 @fw.{0} @fE.{0} @bh ?_;exact⟨_,_,O,by rw[kf.M,ka.M],D.M⟩
  .have K:vD Q128 (Q122 p) l=ar:=(by unfold vD pY;rw[o,pR ZO22];rfl);have OR:decide ((e:Int)<(F l:Int))=ar:=(by simp;exact ZO22);have kf:=aj.mk K;have ka:=aj.mk o;clear K o;refine b_ @Q120 @fw.{0} @fE.{0} @bh ?_;refine eI xZ cD ?_;refine b_ @Q120 @fw.{0} @fE.{0} @bh ?_;exact⟨_,_,O,by rw[kf.M,ka.M],kx.M⟩):p:=h
section
open Tryz renaming underlying32->Q114,func113->Q119
open YtcbhpkjbiehcpaaGreatDoor renaming xu->Q115,Kp->Q116,cU->Q117,bm->Q118,az8->Q120,vH->Q124,vI->Q126,azZ->Q127
open Go renaming kk114->Q121,kk55->Q123,kk4->Q125
open NT.Pr renaming bC->Q122,bC->Q128
def aAH(h:am)(k:Tok)(s:Nat)(l:List Pr)(p:Pr)(v:Nat)(hb:h.V[v]?=J [.func (.func 55) [] []])(hs:l≠[]->s=4)(O5:HA Pr.bC l)(hl:F l<=1000000):
 ∃r h',SC.call 113 [.ac k s (cU l),.agg (bm p),.func (.func 114) [] [.ptr (.box v) 0]] h=J (r,h')/\r=.ret (.tuple [((lH Pr.bC p.bC l:Nat):I),.v (.bool (vD Pr.bC p.bC l))])/\Ext h h':=ZS22
end
def yh(d)(a b):eP af (Op.equalIn (d+1) 3 (.int .i64 a) (.int .i64 b))=J (a==b):=by unfold Op.equalIn;rw[ny,Kx underlying3,qO];simp[eP];rfl
def y_{α}{P}(a):eP P (pure a:Sem α)=J a:=rfl
def DI(p:Pr):Array a_:=#[.int .i64 p.bC,.int .i64 p.no,.int .i64 p.d,.int .i64 p.e]
def ayT(d)(p q):eP af (Op.equalIn (d+2) 46 (.agg (DI p)) (.agg (DI q)))=J (decide (p=q)):=by
 have h1:∀p,eP af (part 3 (DI p) 0)=J (.int .i64 p.bC):=λp=>by kernel_rfl
 have f:∀p,eP af (part 3 (DI p) 1)=J (.int .i64 p.no):=λp=>by kernel_rfl
 have i:∀p,eP af (part 3 (DI p) 2)=J (.int .i64 p.d):=λp=>by kernel_rfl
 have j:∀p,eP af (part 3 (DI p) 3)=J (.int .i64 p.e):=λp=>by kernel_rfl
 have k:af.stoodInHeld 46=ar:=by kernel_rfl
 have hp:eP af program=J af:=rfl;have v:(p=q)↔(p.bC=q.bC/\p.no=q.no/\p.d=q.d/\p.e=q.e):=by
  constructor
  .intro G;subst G;exact⟨O,O,O,O⟩
  .obtain⟨a,b,c,d⟩:=p;obtain⟨A,B,D,E⟩:=q;rintro⟨rfl,rfl,rfl,rfl⟩;rfl
 have w:decide (p=q)=(decide (p.bC=q.bC)&&decide (p.no=q.no)&&decide (p.d=q.d)&&decide (p.e=q.e)):=by rw[Bool.eq_iff_iff];simp[v,and_assoc]
 rw[w];unfold Op.equalIn;rw[ny,Kx underlying46,qO];by_cases e:p.bC=q.bC
 .by_cases m:p.no=q.no
  .by_cases o:p.d=q.d
   .by_cases u:p.e=q.e
    .simp[ny,y_,hp,k,h1,f,i,j,yh,e,m,o,u]
    .simp[ny,y_,hp,k,h1,f,i,j,yh,e,m,o,u]
   .simp[ny,y_,hp,k,h1,f,i,j,yh,e,m,o]
  .simp[ny,y_,hp,k,h1,f,i,j,yh,e,m]
 .simp[ny,y_,hp,k,h1,f,i,j,yh,e]
def ZS23{p:Prop}(h:p:=by
 have e:eP af (eqGuard .eql Q129 x y (.agg (Q130 p)) (.agg (Q130 q)))=J ():=by kernel_rfl
 show(eP af (do eqGuard .eql Q129 x y (.agg (Q130 p)) (.agg (Q130 q));binOp .eql Q129 (.agg (Q130 p)) (.agg (Q130 q)))).bind nC=_;rw[ny,e,qO];show(eP af (do pure (.bool (<-Op.equal Q129 (.agg (Q130 p)) (.agg (Q130 q)))))).bind nC=_;rw[ny];have:=Q131 9998 p q;unfold Op.equal Op.maxDepth;rw[this];rfl):p:=h
section
open Go renaming kk46->Q129
open YtcbhpkjbiehcpaaGreatDoor renaming DI->Q130,ayT->Q131
def ayS{x y}(p q):de af .eql 46 x y (.agg (bm p)) (.agg (bm q))=J (.v (.bool (decide (p=q)))):=ZS23
end
def aAa:Tryz.f117.results.toList=[.tmp 2]:=by kernel_rfl
def aAi:Tryz.f54.results.toList=[.tmp 6]:=by kernel_rfl
def ayH:fF af 32 0 []=J (.ac .aK 4 []):=by kernel_rfl
def ZO24{p:Prop}(h:p:=by (try unfold Q134 at *);(try unfold Q135 at *);omega):p:=h
def ZS24{p:Prop}(h:p:=by
 subst o;obtain⟨u,h1,f,q,i⟩:=Q132;have w:=lu j q;have e:F (Q133 l)=F l:=by unfold Q133;rw[bI]
 have:=Bt (P:=af) (t0:=Q134) (t1:=Q134) (h:=h) (k:=.aK) (sz:=Q135) (es:=[]) (new:=Q133 l) (i:=u) (x:=.ac k Q135 (Q133 l)) Q136 Q136 h1 ZO24 (by rw[f];exact i) (by intro v;apply m;unfold Q133 at v;simpa using v) (by simp[e];exact ZO24) (by simp[e];exact ZO24) (.inl f.symm) (.inr O) (by rw[f];exact Ds);simpa [e] using this):p:=h
section
open YtcbhpkjbiehcpaaGreatDoor renaming amg->Q132,cU->Q133
open Go renaming kk32->Q134,kk4->Q135
open Tryz renaming underlying32->Q136
def aAM(m:l≠[])(j:F l<=1000000)(k)(o:s=4):nD af h #[32,32] (.ac .aK 4 []) (.ac k s (cU l))=J (.arr (F h.V) 0 (F l) (F l),h.push (cU l).flatten):=ZS24
end
def ZS25{p:Prop}(h:p:=by
 have A:=Q137;have b:=Q138;by_cases e:l=[]
 .subst e;clear i;have z1:Q139 ([]:List Q140)=[]:=rfl;rw[z1];by_cases f:k=.nil
  .subst f;refine cq O Q141 O ?_;have o:∀x y,de af .eql Q142 x y (.ac .nil s []) (.ac .nil 0 [])=J (aa:I):=λ_ _=>(by kernel_rfl);refine br @Q143 ?_;exact⟨_,_,O,.inl ⟨by first|rfl|trivial,O,_,_,O,.inl O⟩⟩
  .have o:∀x y,de af .eql Q142 x y (.ac k s []) (.ac .nil 0 [])=J (ar:I):=λ_ _=>by cases k<;>first|exact absurd O f|kernel_rfl
   have K:nD af h #[Q142,Q142] (.ac .aK Q144 []) (.ac k s [])=J (.ac .aK Q144 [],h):=(by obtain⟨z2,h1,G,q3,B⟩:=Q145;unfold nD;simp only[List.getElem?_toArray,List.getElem?_cons_zero,List.getElem?_cons_succ,qO,A,h1,jX,rowsOf];simp[G,B]);refine cq O Q141 O ?_;refine br @Q143 ?_;exact⟨_,_,O,.inl ⟨by first|rfl|trivial,O,_,_,O,.inr O⟩⟩
 .have w:=v e;subst w;have m:Q139 l≠[]:=by intro z0;apply e;unfold Q139 at z0;simpa using z0
  have K:=Q146 (h:=h) (s:=Q144) e u k O;obtain⟨j,R,q⟩:∃j R,Q139 l=j::R:=by
   cases D:Q139 l with|nil=>exact absurd D m|cons j R=>exact⟨j,R,O⟩
  by_cases f:k=.nil
  .exact absurd (i f) e
  .have o:∀x y,de af .eql Q142 x y (.ac k Q144 (Q139 l)) (.ac .nil 0 [])=J (ar:I):=λ_ _=>by rw[q];cases k<;>first|exact absurd O f|kernel_rfl
   have E:=aj.mk e;clear m q v u e i;generalize Q139 l=P at *
   refine cq O Q141 O ?_;refine br @Q143 ?_;exact⟨_,_,O,.inr ⟨by first|exact E.M|trivial,O,O⟩⟩):p:=h
section
open Tryz renaming underlying32->Q137,func117->Q141
open YtcbhpkjbiehcpaaGreatDoor renaming ayH->Q138,cU->Q139,aAa->Q143,amg->Q145,aAM->Q146
open NT renaming Pr->Q140
open Go renaming kk32->Q142,kk4->Q144
def ayM(h:am)(k:Tok)(s:Nat)(l:List Pr)(v:l≠[]->s=4)(i:k=.nil->l=[])(u:F l<=1000000):∃r h',SC.call 117 [.ac k s (cU l)] h=J (r,h')/\((l=[]/\h'=h/\∃kk s0,r=.ret (.ac kk s0 [])/\(kk=.nil∨kk=.aK))∨(l≠[]/\r=.ret (.arr (F h.V) 0 (F l) (F l))/\h'=h.push (cU l).flatten)):=ZS25
end
def azV{row}(e:h.V[b]?=J cs)(j:0<n)(f:n<1000000)(hi:i<=n)(hc:F cs=n*4):SC.call 116 [.arr b 0 n n,((i:Nat):I),.ac k 4 [row]] h=J (.ret (.arr (F h.V) 0 (n+1) (n+1)),(h.put b []).push (cs.take (i*4)++row++cs.drop (i*4))):=by rw[tO];unfold mA oh nu vC;rw[aL aZ];simp only[if_true];unfold yK;simp only[e];rw[aC ⟨ba,ba,j,f,by omega,by omega,ba,hc⟩,eD];rfl
def azW{kk}{s0}{row}(e:kk=.nil∨kk=.aK):SC.call 116 [.ac kk s0 [],.v (.int .i64 0),.ac k 4 [row]] h=J (.ret (.arr (F h.V) 0 1 1),h.push row):=by rw[tO];unfold mA oh nu vC;rw[aL aZ];simp only[if_true];unfold yK;simp only;rw[aC ⟨e,ba⟩];rfl
def aas(l):F (cU l).flatten=F l*4:=by
 induction l with
 |nil=>rfl|cons p l e=>show(F (bm p++(cU l).flatten))=_;rw[db,e,eR,jt];show 4+_=_;omega
def aau:∀(l:List Pr) (i:Nat),(cU l).flatten.take (i*4)=(cU (l.take i)).flatten/\(cU l).flatten.drop (i*4)=(cU (l.drop i)).flatten
 | [],i=>by simp[cU]
 |p::l,0=>by simp[cU]
 |p::l,i+1=>by obtain⟨h1,e⟩:=aau l i;have j:(cU (p::l)).flatten=bm p++(cU l).flatten:=rfl;have f:F (bm p)=4:=rfl;rw[j,show(i+1)*4=F (bm p)+i*4 by rw[f];omega,List.take_length_add_append,List.drop_length_add_append,h1,e];exact⟨O,O⟩
def az5(l)(p)(i):(cU l).flatten.take (i*4)++bm p++(cU l).flatten.drop (i*4)=(cU (l.take i++p::l.drop i)).flatten:=by obtain⟨h1,e⟩:=aau l i;rw[h1,e];unfold cU;rw[jr,dK,List.flatten_append,List.flatten_cons,jq]
def ayG(p):fF af 32 1 [(0,.agg (bm p))]=J (.ac .aK 4 [bm p]):=by kernel_rfl
def ajI(g:Nat):(I.func (.func g) [] []).bL=J [.func (.func g) [] []]:=rfl
def TO(h h':am)(x:I)(l:List Pr)(p:Pr)(r:dP):Prop:=
 match pY Pr.bC p.bC l with
 |some y=>if y=p then r=.ret x else r=.panic (om 151)
 |none=>∃b,r=.ret (.arr b 0 (F l+1) (F l+1))/\F h.V<=b/\h'.V[b]?=J (cU (n_ Pr.bC p l)).flatten
def ZO26{p:Prop}(h:p:=by (try unfold Q148 at *);(try unfold Q159 at *);(try unfold Q166 at *);omega):p:=h
def ZT19{p:Prop}(h:p:=by
 simp only[js]at hz;subst hz;refine pM (x:=.ptr (.box (F h.V)) 0) (v:=.agg z0) cD O O O cD (sB) ?_ ?_<;>(simp only[fe,eE];exact f_ @Q162 @and_self)):p:=h
def ZS26{p:Prop}(h:p:=by
 have bp:=Q147 p;have bf:=ajI Q148;obtain⟨w,e⟩:∃w,(h.push (Q149 p)).push [.func (.func Q148) [] []]=w:=⟨_,O⟩;have e2:Ext h w:=by rw[<-e];exact(Ext.push _ _).trans (.push _ _)
 have D:w.V[F h.V]?=J (Q149 p):=by rw[<-e];exact aP (aQ _ _)
 have o:w.V[F (h.push (Q149 p)).V]?=J [.func (.func Q148) [] []]:=by rw[<-e];exact aQ _ _
 have n1:=bP h (Q149 p);rw[n1]at o;obtain⟨_,f,K,rfl,x3⟩:=Q150 w k s l p (F h.V+1) o q m ZO26;have L2:=Q151 D;have L3:=Q151 (x3.box _ _ D);have sB:df (.agg (Q149 p)) (.agg (Q149 p))=aa:=by simp[df,gJ,ip,Q149]
 have u32:=Q152;have z46:=Q153;have fG:F (Q154 l)=F l:=by unfold Q154;rw[bI]
 have kx:=aj.mk (e2.trans x3);have s_:=Gh (A:=oh) O;have yA:=Gg (A:=oh) O;unfold Q155;cases j:pY Q156 (Q157 p) l with
 |some y=>
  have B:vD Q156 (Q157 p) l=aa:=by unfold vD;rw[j];rfl
  rw[B]at K;have E:l[lH Q156 (Q157 p) l]?=J y:=by
   unfold pY at j;split at j
   .split at j
    .rename_i z1 _;rw[z1];exact j
    .cases j
   .cases j
  have dx:=(aU.1 E).1;have PD:=q (by intro z2;rw[z2]at dx;simp at dx);subst PD;have ld:=Q158 (H:=f) (s:=Q159) E;have eq:=λx z=>Q160 (x:=x) (y:=z) y p;generalize lH Q156 (Q157 p) l=at' at *
  have iy:(at':Int)<(F l:Int):=by exact ZO26
  clear j B E q u m D o e2 x3;by_cases hp:y=p
  .rw[cy hp]at eq;have khp:=aj.mk hp;clear hp;refine cq O Q161 O ?_;refine b_ @Q162 @bG @e @bh ?_;refine eI xZ cD ?_;refine b_ @Q162 @bG @e @bh ?_;exact⟨_,_,O,kx.M,by rw[aC khp.M]⟩
  .rw[cR hp]at eq;have khp:=aj.mk hp;clear hp;refine cq O Q161 O ?_;refine b_ @Q162 @bG @e @bh ?_;refine aun (n:=6) O cD cD cD ?_;simp only[fe,eE];refine b_ @Q162 @bG @e (au @bh (au @List.drop_succ_cons.{0} (au @iI.{0} (au @anh (au @awN @awO))))) ?_;exact⟨_,_,O,kx.M,by rw[aL khp.M]⟩
 |none=>
  have B:vD Q156 (Q157 p) l=ar:=by unfold vD;rw[j];rfl
  rw[B]at K;have ud:=Uv (k:=Q156) (Q157 p) l;have bl:=Q163 p;obtain⟨_,G,cc,⟨hn,rfl,kk,s0,rfl,Jo⟩|⟨hn,rfl,rfl⟩⟩:=Q164 f k s l q u ZO26
  .subst hn;have CF:lH Q156 (Q157 p) ([]:List Q165)=0:=rfl;rw[CF]at K;have ci:SC.call Q166 [.ac kk s0 [],((0:Nat):I),.ac .aK Q159 [Q149 p]] G=_:=Q167 (h:=G) (k:=.aK) (s0:=s0) (row:=Q149 p) Jo;have kb:aj (F h.V<=F G.V):=⟨by have:=(aU.1 (x3.box _ _ o)).1;exact ZO26⟩;have kl:=aj.mk (aQ G (Q149 p));have kx2:=aj.mk (kx.M.trans (.push G (Q149 p)));clear j B q u m D o e2 x3 ud s_ yA;have el:Q154 ([]:List Q165)=[]:=rfl;simp only[el]at K cc ⊢;generalize hB:Q149 p=z0 at *
   refine cq O Q161 O ?_;refine dL @Q162 @bG @e ?_;refine jB [(1,3)] xZ cD (λz hz=>?_) ?_
   .exact ZT19
   refine dL @Q162 @bG @e ?_;exact⟨_,_,O,kx2.M,_,O,kb.M,by rw[<-hB]at kl;rw[<-hB];exact kl.M⟩
  .have PD:=q hn;subst PD;have CG:=aQ f (Q154 l).flatten;have ci:=Q168 (h:=f.push (Q154 l).flatten) (b:=f.V.length) (n:=l.length) (i:=lH Q156 (Q157 p) l) (row:=Q149 p) (k:=.aK) CG (by cases l with|nil=>exact absurd O hn|cons _ _=>simp) hl ud (Q169 l);rw[Q170]at ci;have ei:l.take (lH Q156 (Q157 p) l)++p::l.drop (lH Q156 (Q157 p) l)=n_ Q156 p l:=rfl;rw[ei]at ci;have L4:=Q151 (aP (cs:=(Q154 l).flatten) (x3.box _ _ D));have kb:aj (F h.V<=F (f.push (Q154 l).flatten).V):=⟨by have:=(aU.1 (x3.box _ _ o)).1;rw[bP];exact ZO26⟩;have kl:aj ((((f.push (Q154 l).flatten).put (F f.V) []).push (Q154 (n_ Q156 p l)).flatten).V[F (f.push (Q154 l).flatten).V]?=J (Q154 (n_ Q156 p l)).flatten):=⟨by
    have:=aQ ((f.push (Q154 l).flatten).put (F f.V) []) (Q154 (n_ Q156 p l)).flatten
    rwa [jA]at this⟩
   have kx2:aj (Ext h (((f.push (Q154 l).flatten).put (F f.V) []).push (Q154 (n_ Q156 p l)).flatten)):=⟨((kx.M.trans (.push f _)).gg (by have:=(aU.1 (x3.box _ _ o)).1;exact ZO26) []).trans (.push _ _)⟩;clear j B q u m D o e2 x3 ud s_ yA CG ei;generalize hB:Q149 p=z0 at *
   generalize lH Q156 (Q157 p) l=at' at *
   generalize (Q154 l).flatten=PF at *
   generalize (Q154 (n_ Q156 p l)).flatten=IF at *
   refine cq O Q161 O ?_;refine dL @Q162 @bG @e ?_;refine jB [(1,3)] xZ cD (λz hz=>?_) ?_
   .exact ZT19
   refine dL @Q162 @bG @e ?_;exact⟨_,_,O,kx2.M,_,O,kb.M,kl.M⟩):p:=h
section
open YtcbhpkjbiehcpaaGreatDoor renaming Kp->Q147,bm->Q149,aAH->Q150,vH->Q151,xu->Q153,cU->Q154,TO->Q155,vI->Q158,ayS->Q160,aAi->Q162,ayG->Q163,ayM->Q164,azW->Q167,azV->Q168,aas->Q169,az5->Q170
open Go renaming kk55->Q148,kk4->Q159,kk116->Q166
open Tryz renaming underlying32->Q152,func54->Q161
open NT.Pr renaming bC->Q156,bC->Q157
open NT renaming Pr->Q165
def aqV(h:am)(k:Tok)(s:Nat)(l:List Pr)(p:Pr)(q:l≠[]->s=4)(u:k=.nil->l=[])(m:HA Pr.bC l)(hl:F l<1000000):
 ∃r h',SC.call 54 [.ac k s (cU l),.agg (bm p),.func (.func 55) [] []] h=J (r,h')/\Ext h h'/\TO h h' (.ac k s (cU l)) l p r:=ZS26
end
end Go.Proofs.YtcbhpkjbiehcpaaGreatDoor
end
