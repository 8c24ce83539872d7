/-
  Part of the proof: TD.
-/
import Derived.Test.YtcbhpkjbiehcpaaGreatDoorTC
import Derived.Test.YtcbhpkjbiehcpaaGreatDoorTB
open True renaming intro->ba
open Go renaming FuncId->bk
open Option renaming some->J,none->ao,map_some->gq
open Bool renaming false->ar,true->aa,false_or->Mb,false_and->BA,true_and->pP,and_eq_true->bR,and_true->Em,and_eq_false_iff->ac7,not_eq_true->ada,not_eq_false'->ac9
open Nat renaming zero_le->ck,reduceEqDiff->aR,le_refl->aT,mul_one->nO,not_lt_zero->qc,lt_or_ge->dR,le_trans->ff,mul_le_mul->lu,zero_add->oy,succ_ne_zero->TK,add_mul->jt,le_of_ble_eq_true->kj,beq_refl->ad5
open List renaming getElem?_eq_getElem->aW,mem_of_getElem?->dk,any_append->Mv,any_eq_true->Mw,nil_append->fE,append_nil->g',take_length->gu,length->F,length_map->bI,any_eq_false->To,replicate->bT,length_replicate->oY,getElem?_zipIdx->adH,foldl_append->nJ,take_of_length_le->gm,mem_cons->gX,getElem?_map->ek,all_eq_true->e8,getElem?_drop->qM,getElem?_eq_some_iff->aU,getElem?_of_mem->sK,take_zero->eE,foldl_nil->Ey,map_replicate->wj,map_eq_nil_iff->BK,getD_eq_getElem?_getD->fc,range->bE,mem_range->gb,length_nil->gh,length_eq_zero_iff->adK,getElem_mem->jG,contains_eq_mem->wd,length_cons->eR,map_append->jr,range_succ->jH,filter_append->Ex,filter_cons->BH,map_cons->dK,map_nil->tT,length_filter_le->xR,drop_eq_getElem_cons->we,drop_of_length_le->ot,map_inj_right->MF,replicate_succ->BM,mem_singleton->js,take_succ_cons->fe,mem_cons_of_mem->gi,mem_cons_self->gj,mem_map->iW,mem_filter->rH,length_range->ME,all_append->rE,all_eq_false->HI,cons_append->fw,any_cons->adt,all_cons->Ew,getElem?_append_left->qL,length_append->db,getElem?_concat_length->Ez,length_take->dF,ext_getElem?->ou,getElem?_eq_none->pR,getElem?_range->xQ,find?_append->adE,mem_of_mem_take->uR,not_mem_nil->rI,length_pos_iff->BJ,append_assoc->jq
open And renaming intro->au
open Go.Proofs.Tryz renaming prog->af
open Int renaming toNat_natCast->eD,lt_trans->adg,le_refl->Et,zero_sub->Tm
open Decidable renaming not_not->Mm
open Prod renaming fst->ju
open Nat renaming beq->iJ,eq_of_beq_eq_true->nM,eq_zero_or_pos->HR,sub_self->tU
open List renaming drop_append->zG,drop_replicate->My,eq_nil_of_length_eq_zero->adB,flatten_append->tR,mem_flatten->adP,replicate_zero->adV,take_append_drop->wn,take_left'->uS
open Int renaming natCast_zero->uP,sub_zero->Tl
set_option maxHeartbeats 64000000
set_option maxRecDepth 100000
set_option linter.unusedSimpArgs false
set_option linter.unusedVariables false
set_option linter.constructorNameAsVariable false
set_option linter.defProp false
section
namespace Go.Proofs.YtcbhpkjbiehcpaaGreatDoor
open Go.AE Go.NT Go.Proofs.Tryz
variable{l ae ak:List Int}{C x y:I}{H H' h:am}{b c i j n n0 s sz z:Nat}{k t t1 t2:Tok}{r xs:List I}{es:List (List I)}{U:List (List Int)}{v:Vl}{vs:List Vl}{a ep:Int}{T:TypeId}{p:Int × Int}
def RE:Tryz.f91.results.toList=[.tmp 4]:=ax
def tF:Tryz.f164.results.toList=[.tmp 4]:=ax
def atA:Tryz.f87.results.toList=[.tmp 4]:=ax
def K_:Tryz.f163.results.toList=[.tmp 4]:=ax
def aAC:Tryz.f248.results.toList=[.tmp 2]:=ax
def GR:Tryz.f221.results.toList=[]:=ax
def abB:Tryz.f167.results.toList=[]:=ax
def amj(g:bk)(p:Int->Bool)(h:am)(x:I)(l:List Int)(A:IL x l)(Z:l.length<=1000000)(s:∀n∈l,W2.call g [im n] h=J (.ret (.v (.bool (p n))),h)):
 ∃r h',W2.call 164 [x,.func (.func g) [] []] h=some (r,h')/\h'=h/\∃i:Int,r=.ret (im i)/\decide (0<=i)=l.any p:=by
 obtain⟨z0,G,rfl,t⟩:=A;have C:=aj.mk s;have D:=aj.mk t;clear s t;have L:=underlying23;have z3:=eQ;have H:=c' l;refine cq rfl func164 rfl ?_;refine br @tF ?_;refine cK (λK o y=>∃i:Nat,i<=l.length/\K=l.length - i/\(l.take i).any p=ar/\o.get 0=.ac z0 G (ay l)/\o.get 1=.func (.func g) [] []/\o.get 7=(l.length:Nat)/\o.get 8=(i:Nat)/\o.defers=[]/\y=h) ?_ l.length _ _ ?_;rotate_left 1
 .refine⟨0,ck _,rfl,by simp,?_,?_,?_,?_,?_,rfl⟩<;>exact gR
 rintro K o y ⟨i,Y,rfl,q,N,R,S,T,X,rfl⟩;have v:=aj.mk q;clear q;by_cases d:i<l.length
 .have u:G=1:=D.M (by intro z1;rw[z1] at d;simp at d);subst u;have ld:=ev (H:=y) (s:=1) d;have k:l[i]?=J (ah l i):=by rw[aW d,fy d]
  have m:=C.M (ah l i) (dk k);have z:(i:Int)<(l.length:Int):=by omega
  have e:(l.take (i+1)).any p=p (ah l i):=by rw[fS k,Mv,v.M];simp
  have E:=aj.mk e;have B:=aj.mk k;clear k e;unfold im at m;cases c:p (ah l i) with
  |true=>rw[c] at m;have f:l.any p=aa:=Mw.2 ⟨_,dk B.M,c⟩;have j:=aj.mk f;clear f c;refine b_ @tF @bh @fE.{0} @g'.{0} ?_;exact⟨_,_,rfl,rfl,(i:Int),rfl,by rw[j.M];simp⟩
  |false=>rw[c] at m;have w:(l.take (i+1)).any p=ar:=E.M.trans c;clear c;refine b_ @tF @bh @fE.{0} @g'.{0} ?_;exact⟨l.length - (i+1),by omega,i+1,by omega,rfl,w,by simp⟩
 .have:i=l.length:=by omega
  subst this;have:=v.M;rw[gu] at this;have j:=aj.mk this;clear this;refine br @tF ?_;exact⟨_,_,rfl,rfl,-1,rfl,by rw[j.M];rfl⟩
def VA(g)(p)(h)(x)(l)(j:IL x l)(f:F l<=1000000)(i:∀n∈l,W2.call g [im n] h=J (.ret (.v (.bool (p n))),h)):
 W2.call 91 [x,.func (.func g) [] []] h=J (.ret (.v (.bool (l.any p))),h):=by
 obtain⟨q,o,m,rfl,k,rfl,c⟩:=amj g p h x l j f i;have d:(0<=k)=(l.any p=aa):=by rw[<-c];simp
 have e:decide (0<=k)=l.any p:=c;unfold im at m;refine cX O func91 O ?_;clear c d;exact iT @RE
def amk(g:bk)(p:List Int->Bool)(h:am)(x:I)(l:List (List Int))(G:RL x l)(hl:l.length<=1000000)(v:∀a r,r∈l->IL a r->W2.call g [a] h=J (.ret (.v (.bool (p r))),h)):
 ∃r h',W2.call 163 [x,.func (.func g) [] []] h=some (r,h')/\h'=h/\∃i:Int,r=.ret (im i)/\decide (0<=i)=l.any p:=by
 obtain⟨z0,R,q,rfl,w,z,o⟩:=G;have C:=aj.mk o;clear o;have K:=aj.mk v;have L:=aj.mk w;clear v w;have X:=underlying22;have Y:=g_;have S:(q.map λa=>[a]).length=l.length:=by rw[bI];exact z
 refine cq rfl func163 rfl ?_;refine br @K_ ?_;refine cK (λT s D=>∃i:Nat,i<=l.length/\T=l.length - i/\(l.take i).any p=ar/\s.get 0=.ac z0 R (q.map λa=>[a])/\s.get 1=.func (.func g) [] []/\s.get 7=(l.length:Nat)/\s.get 8=(i:Nat)/\s.defers=[]/\D=h) ?_ l.length _ _ ?_;rotate_left 1
 .refine⟨0,ck _,rfl,by simp,?_,?_,?_,?_,?_,rfl⟩<;>exact gR
 rintro T s D ⟨i,hi,rfl,t,Z,g1,g7,g8,hd,rfl⟩;have A:=aj.mk t;clear t;by_cases j:i<l.length
 .have y:R=1:=L.M (by intro z1;rw[z1] at j;simp at j);subst y;obtain⟨a,f⟩:∃a,q[i]?=J a:=⟨_,aW ag⟩;obtain⟨r,k⟩:∃r,l[i]?=J r:=⟨_,aW j⟩;have ld:=jP (H:=D) (s:=1) f;have u:=K.M a r (dk k) (C.M i a r f k);clear f;have E:(i:Int)<(l.length:Int):=by omega
  have d:(l.take (i+1)).any p=p r:=by rw[fS k,Mv,A.M];simp
  have N:=aj.mk d;have H:=aj.mk k;clear k d;cases c:p r with
  |true=>rw[c] at u;have e:l.any p=aa:=Mw.2 ⟨_,dk H.M,c⟩;have m:=aj.mk e;clear e c;refine b_ @K_ @bh @fE.{0} @g'.{0} ?_;exact⟨_,_,rfl,rfl,(i:Int),rfl,by rw[m.M];simp⟩
  |false=>rw[c] at u;have B:(l.take (i+1)).any p=ar:=N.M.trans c;clear c;refine b_ @K_ @bh @fE.{0} @g'.{0} ?_;exact⟨l.length - (i+1),by omega,i+1,by omega,rfl,B,by simp⟩
 .have:i=l.length:=by omega
  subst this;have:=A.M;rw[gu] at this;have m:=aj.mk this;clear this;refine br @K_ ?_;exact⟨_,_,rfl,rfl,-1,rfl,by rw[m.M];rfl⟩
def aic(g)(p)(h)(x)(l)(j:RL x l)(f:F l<=1000000)(i:∀a r,r∈l->IL a r->W2.call g [a] h=J (.ret (.v (.bool (p r))),h)):
 W2.call 87 [x,.func (.func g) [] []] h=J (.ret (.v (.bool (l.any p))),h):=by
 obtain⟨r,o,m,rfl,k,rfl,c⟩:=amk g p h x l j f i;have d:(0<=k)=(l.any p=aa):=by rw[<-c];simp
 have e:decide (0<=k)=l.any p:=c;unfold im at m;refine cX O func87 O ?_;clear c d;exact iT @atA
def oc(n:Int):Bool:=decide (n<0)||decide (1073741789<=n)
def ZS9{p:Prop}(h:p:=by
 unfold im oc;by_cases c:n<0
 .refine cX O Q51 O ?_;have:decide (n<0)=aa:=by simp[c]
  exact f_ @Q52 @Bool.true_or
 .refine cX O Q51 O ?_;have:decide (n<0)=ar:=by simp[c]
  exact f_ @Q52 @Mb):p:=h
section
open Tryz renaming func248->Q51
open YtcbhpkjbiehcpaaGreatDoor renaming aAC->Q52
def ao6(n:Int)(h:am):W2.call 248 [im n] h=J (.ret (.v (.bool (oc n))),h):=ZS9
end
def Kc(e:Int)(h:am):W2.call 220 [(aa:I),im e] h=J (.ret (.tuple []),h):=by unfold im;refine cX O func220 O ?_;exact iT @atQ
def ao8(h:∀x∈l,okF x):l.any oc=ar:=by rw[To];intro x c;obtain⟨d,e⟩:=h x c;have:Qi=1073741789:=rfl;unfold oc;simp;omega
def Vi(h:am)(x:I)(U:List (List Int))(w:Nat)(hx:RL x U)(hr:F U<=1000)(Y:∀r∈U,F r=w)(tj:w<=64)(z:∀r∈U,∀x∈r,okF x):∃h',W2.call 221 [x] h=J (.ret (.tuple []),h')/\h'=h:=by
 obtain⟨L,v,f,rfl,X,Z,A⟩:=hx;have i:=aj.mk (au X (au A (au Y z)));clear X A Y z;have u23:=underlying23;have u22:=underlying22;have z23:=g_;have fG:F (f.map λa=>[a])=F U:=by rw[bI];exact Z
 have n2:=Kc 2;have H:=Kc 130;unfold im at n2 H;refine ie O func221 O ?_;refine br @GR ?_;refine cK (λz1 m q=>∃e:Nat,e<=F U/\z1=F U-e/\m.get 0=.ac L v (f.map λa=>[a])/\m.get 7=.ac L v (f.map λa=>[a])/\m.get 8=(F U:Nat)/\m.get 9=(e:Nat)/\m.defers=[]/\q=h) ?_ (F U) _ _ ?_;rotate_left 1
 .refine⟨0,ck _,O,?_,?_,?_,?_,?_,O⟩<;>exact gR
 rintro z1 m q ⟨e,R,rfl,B,g7,g8,g9,C,rfl⟩;by_cases c:e<F U
 .have t:v=1:=i.M.1 (by intro z2;rw[z2]at c;simp at c);subst t;obtain⟨a,d⟩:∃a,f[e]?=J a:=⟨_,aW ag⟩;obtain⟨r,k⟩:∃r,U[e]?=J r:=⟨_,aW c⟩;have ld:=jP (H:=q) (s:=1) d;obtain⟨ka,sa,rfl,o⟩:=i.M.2.1 e a r d k;have j:=i.M.2.2.1 r (dk k);have E:F (ay r)=w:=by rw[c'];exact j
  have D:(e:Int)<(F U:Int):=by omega
  have hwd:decide ((w:Int)<=64)=aa:=by simp;omega
  clear d k o j;refine bB @GR @bh ?_;exact⟨F U-(e+1),by omega,e+1,by omega,O,by simp⟩
 .refine br @GR ?_;refine bJ.gen λp g y S T=>?_;have f0:p.get 0=.ac L v (f.map λa=>[a]):=by rw[g];simp only[gW,reduceIte,aR,aM];exact B
  have f4:p.get 4=.func (.func 248) [] []:=by rw[g];exact gS
  have f18:p.get 18=.ac L v (f.map λa=>[a]):=by rw[g];exact gS
  have f19:p.get 19=(F U:Nat):=by rw[g];exact gS
  have f20:p.get 20=(0:Nat):=by rw[g];exact gR
  have N:p.defers=[]:=by rw[y];simp only[gW,reduceIte,aR,aM];exact C
  clear g y S T B g7 g8 g9 C R c;refine cK (λz1 m H2=>∃e:Nat,e<=F U/\z1=F U-e/\m.get 0=.ac L v (f.map λa=>[a])/\m.get 4=.func (.func 248) [] []/\m.get 18=.ac L v (f.map λa=>[a])/\m.get 19=(F U:Nat)/\m.get 20=(e:Nat)/\m.defers=[]/\H2=q) ?_ (F U) _ _ ?_;rotate_left 1
  .exact⟨0,ck _,O,f0,f4,f18,f19,f20,N,O⟩
  clear f0 f4 f18 f19 f20 N;rintro z1 m q ⟨e,R,rfl,B,g4,g18,g19,g20,C,rfl⟩;by_cases c:e<F U
  .have t:v=1:=i.M.1 (by intro z2;rw[z2]at c;simp at c);subst t;obtain⟨a,d⟩:∃a,f[e]?=J a:=⟨_,aW ag⟩;obtain⟨r,k⟩:∃r,U[e]?=J r:=⟨_,aW c⟩;obtain⟨a0,l⟩:∃a,f[0]?=J a:=⟨_,aW ag⟩;obtain⟨K,u⟩:∃r,U[0]?=J r:=⟨_,aW ag⟩;have ld:=jP (H:=q) (s:=1) d;have ld0:=jP (H:=q) (s:=1) l;obtain⟨ka,sa,rfl,o⟩:=i.M.2.1 e a r d k;obtain⟨ka0,sa0,rfl,G⟩:=i.M.2.1 0 a0 K l u;have j:=i.M.2.2.1 r (dk k);have s:=i.M.2.2.1 K (dk u);have cc:=VA 248 oc q (.ac ka sa (ay r)) r ⟨_,_,O,o⟩ ag (λn _=>ao6 n q);rw[ao8 (i.M.2.2.2 r (dk k))]at cc;have E:F (ay r)=w:=(by rw[c'];exact j);have alJ:F (ay K)=w:=(by rw[c'];exact s);have D:(e:Int)<(F U:Int):=(by omega);have Oj:(0:Int)<(F U:Int):=(by omega);have z0:(0:Int).toNat=0:=rfl;clear d k o j l u G s;refine bB @GR @bh ?_;exact⟨F U-(e+1),by omega,e+1,by omega,O,by simp⟩
  .refine br @GR ?_;exact⟨_,O,O⟩
def DQ:Tryz.f93.results.toList=[.tmp 4,.tmp 5,.cell 6 39]:=ax
def atL:Tryz.f166.results.toList=[]:=ax
def Io(x)(c:x.dm=aa):fF af 22 1 [(0,x)]=J (.ac .aK 1 [[x]]):=by cases x<;>first|(cases c;done)|kernel_rfl
def IL.cell(h:IL x l):x.dm=aa:=by obtain⟨c,d,rfl,-⟩:=h;rfl
def U9(b:Nat)(h:am):W2.iS 166 [.ptr (.box b) 0] ao h=J (.ret (.tuple []),ao,h):=by have c:=underlying20;refine NO func166 O ?_;exact qm @atL @UF @and_self
def ajc(h:am)(x y:I)(U:List (List Int))(c:List Int)(B:RL x U)(s:IL y c)(g:F U<=64)(l:∀r∈U,F r=F c)(q:F c<=64)(o:∀r∈U,∀x∈r,okF x)(p:∀x∈c,okF x):
 W2.call 167 [x,y] h=J (.ret (.tuple []),h):=by
 obtain⟨L,G,v⟩:=Vi h x U (F c) B ag l q o;rw[v]at G;clear v L;have m:RL (.ac .aK 1 [[y]]) [c]:=⟨.aK,1,[y],O,λ_=>rfl,O,λz1 a r f g=>by
  cases z1 with
  |zero=>simp only[List.getElem?_cons_zero]at f g;injection f with f;injection g with g;subst f;subst g;exact s
  |succ z1=>simp at f⟩
 obtain⟨N,K,w⟩:=Vi h (.ac .aK 1 [[y]]) [c] (F c) m cB cB q (by simpa using p);rw[w]at K;clear w N;have bl:=Io y s.cell;have Y:=Kc 2;have t:=Kc 130;obtain⟨z4,z2,D,rfl,z,C,k⟩:=B;obtain⟨ky,sy,rfl,lV⟩:=s;have u23:=underlying23;have u22:=underlying22;have z23:=g_;have fG:F (D.map λa=>[a])=F U:=by rw[bI];exact C
 have R:=c' c;have hrI:decide ((F U:Int)<=64)=aa:=by simp;omega
 unfold im at Y t;clear m o p;refine cX O func167 O ?_;by_cases e:F U=0
 .have S:decide ((F U:Int)=0)=aa:=by simp[e]
  clear l k e;exact iT @abB
 .have S:decide ((F U:Int)=0)=ar:=by simp[e]
  obtain⟨a0,d⟩:∃a,D[0]?=J a:=⟨_,aW ag⟩;obtain⟨u,j⟩:∃r,U[0]?=J r:=⟨_,aW ag⟩;have A:z2=1:=z (by intro z3;rw[z3]at e;simp at e);subst A;have ld0:=jP (H:=h) (s:=1) d;obtain⟨ka0,sa0,rfl,X⟩:=k 0 a0 u d j;have i:=l u (dk j);have T:F (ay u)=F c:=by rw[c'];exact i
  have Z:(0:Int)<(F U:Int):=by omega
  have z0:(0:Int).toNat=0:=rfl;clear l k d j i z;exact f_ @abB @bh
def ww:fR af 39=J ar:=ax
def He:cN af 39=J 1:=ax
def acX:(fY af 39).bind I.bL=J [im 0]:=ax
def Zi(c:H.V[b]?=J [x]):aF af Gt H 39 (.ptr (.box b) 0)=J x:=by rw[fI ww c];rfl
def aca{n}(c:H.V[b]?=J [x]):bU af H 39 (.ptr (.box b) 0) ((n:Int):I)=J (H.put b [((n:Int):I)]):=e7 (off:=0) (cs:=[x]) (xs:=[im n]) O He c O (aT 1)
def avl{k}(e:k<=n):∃off,gV af 207 (.arr b 0 n n) (J ((k:Nat):I)) ao ao=J (.arr b off (n-k) (n-k))/\(k<n->off=k):=by
 refine⟨if n=k then 0 else 0+k*1,?_,λf=>by rw[aL ag];omega⟩;have c:gC n ao n=J n:=rfl;have d:gC n (J ((k:Nat):I)) 0=J k:=by show(if 0<=(k:Int)/\(k:Int)<=(n:Int) then J (k:Int).toNat else ao)=_;rw[aC ⟨ag,by omega⟩];rfl
 unfold gV;simp only[underlying207,g_,c,d,Option.isSome_none,BA,Bool.false_eq_true,false_and,if_false];rfl
def amT{off len aY}{k}(c:n<len):dM af 207 (.arr b off len aY) (.v (.int k (n:Nat)))=J (.ptr (.box b) (off+n)):=by rw[A8 underlying207 g_ ag ag,eD,nO]
def jZ(t:List (List Int))(pv:List Nat)(n j:Nat):List Int:=(pv.zipIdx.take j).foldl (λd c=>d.set c.1 (ah (t.getD c.2 []) n)) (bT n 0)
def KG(t)(pv)(n j):F (jZ t pv n j)=n:=by unfold jZ;rw[Fj (λc=>ah (t.getD c.2 []) n),oY]
def abf{t}{pv}{p}(h:pv[j]?=J p):(jZ t pv n j).set p (ah (t.getD j []) n)=jZ t pv n (j+1):=by
 have c:pv.zipIdx[j]?=J (p,j):=by rw[adH,h];simp
 unfold jZ;rw[fS c,nJ];rfl
def abe(t)(pv)(n):jZ t pv n (F pv)=oU (t,pv) n:=by unfold jZ oU;rw[gm cB]
def adb(U:List (List Int))(c:List Int)(h:am)(r:dP)(h':am):Prop:=
 Ext h h'/\((pi U c=ao/\r=.ret (.tuple [.ac .nil 0 [],(ar:I),im 0]))∨∃d b,pi U c=J d/\F d=F U/\r=.ret (.tuple [.arr b 0 (F U) (F U),(aa:I),im 0])/\h'.V[b]?=J (d.map im))
def ah3(h:am)(x y:I)(U:List (List Int))(c:List Int)(hx:RL x U)(E:IL y c)(hr:F U<=64)(hw:∀r∈U,F r=F c)(tj:F c<=64)(eH:∀r∈U,∀x∈r,okF x)(AR:∀x∈c,okF x)(ho:cS h=aa):
 ∃r h',W2.call 93 [x,y] h=J (r,h')/\adb U c h r h':=by
 have c1:=ajc (h.push [im 0]) x y U c hx E hr hw tj eH AR;obtain⟨_,H2,c2,u,z5,rfl,T2,X2,sX,mT⟩:=axc (h.push [im 0]) x y U c hx E ag ag hw;obtain⟨t1,t2⟩:=SO eH AR;have tl:=SN U c;obtain⟨_,g,c3,tk,s3,B3,rfl,j,T3,I_,G3⟩:=arE H2 u z5 (fU U c) (F U+1) (F U) T2 ag ag ag t2 (X2.ok ho);have z:=arF (many:=U.length) t1 t2 ag;obtain⟨z6,R⟩:=GC t1 t2 (ag:F U<=F U+1);rw[z]at j T3 c3;rw[tl]at c3;have A:pi U c=if ((io (fU U c) (F U)).1.drop (F (io (fU U c) U.length).2)).all (λa=>decide (ah a (F U)=0)) then J (oU (io (fU U c) (F U)) (F U)) else ao:=rfl
 have Jr:F (io (fU U c) U.length).1=F c:=by have:=(abj t1 t2 (F U) ag).2.1;rw[<-abi,z]at this;omega
 have X3:Ext (h.push [im 0]) g:=X2.QD (G3.mu.uI X2.tn) (λb t=>by
  rcases gX.1 t with q|q
  .rw[q];exact sX
  .exact mT b q)
 have m:g.V[F h.V]?=J [im 0]:=X3.box _ _ (aQ _ _);have p:Ext h g:=(Ext.push h [im 0]).trans X3;obtain⟨z1,z7,xs,rfl,hs,gH,jl⟩:=hx;obtain⟨ky,sy,rfl,lV⟩:=E;have fG:F (xs.map λa=>[a])=F U:=by rw[bI];exact gH
 have azE:=R.len;generalize gG:io (fU U c) (F U)=st at *
 obtain⟨k,d⟩:=st;dsimp only at *
 have JH:=P7 d;have kk:=aj.mk (au T3 (au R (au A (au p (au m j)))));clear T2 X2 sX mT t1 t2 tl z z6 R A I_ G3 X3 m p T3 hs gH jl lV gG j eH AR hw ho;have u23:=underlying23;have u22:=underlying22;have u203:=underlying207;have z23:=g_;have z32:=acX;obtain⟨G,oE,Z⟩:=avl (b:=u) (ag:F d<=F c);have khoff:=aj.mk Z;clear Z;unfold im at *
 refine cq O func93 O ?_;refine br @DQ ?_;refine bJ.gen λi e C D eg=>?_;have f6:i.get 6=.ptr (.box (F h.V)) 0:=by rw[e];exact gS
 have f7:i.get 7=(F U:Nat):=by rw[e];exact gS
 have f8:i.get 8=.arr u 0 (F c) (F c):=by rw[e];exact gS
 have f9:i.get 9=.ac tk s3 (ay (cH d)):=by rw[e];exact gS
 have f28:i.get 28=.arr u G (F c-F d) (F c-F d):=by rw[e];exact gS
 have f29:i.get 29=(F c-F d:Nat):=by rw[e];exact gS
 have f30:i.get 30=(0:Nat):=by rw[e];exact gR
 have S:i.defers=[(166,[.ptr (.box (F h.V)) 0])]:=by rw[C];exact gS
 have T:i.da=ao:=by rw[D];exact gS
 clear e C D eg c1 c2 c3 oE;refine cK (λz4 s z0=>∃f:Nat,f<=F c-F d/\z4=F c-F d-f/\aj (∀K,K<f->∀a,k[F d+K]?=J a->ah a (F U)=0)/\s.get 6=.ptr (.box (F h.V)) 0/\s.get 7=(F U:Nat)/\s.get 8=.arr u 0 (F c) (F c)/\s.get 9=.ac tk s3 (ay (cH d))/\s.get 28=.arr u G (F c-F d) (F c-F d)/\s.get 29=(F c-F d:Nat)/\s.get 30=(f:Nat)/\s.defers=[(166,[.ptr (.box (F h.V)) 0])]/\s.da=ao/\z0=g) ?_ (F c-F d) _ _ ?_;rotate_left 1
 .exact⟨0,ck _,O,⟨λK N=>absurd N (qc _)⟩,f6,f7,f8,f9,f28,f29,f30,S,T,O⟩
 clear f6 f7 f8 f9 f28 f29 f30 S T;rintro z4 s g ⟨f,hj,rfl,kz,g6,g7,g8,g9,g28,g29,g30,hd,hp,rfl⟩;obtain⟨T3,R,A,p,m,j⟩:=kk.M;have s6:=λn=>aca (n:=n) m;by_cases w:f<F c-F d
 .obtain⟨a,o⟩:∃a,k[F d+f]?=J a:=⟨_,aW ag⟩;obtain⟨b,t⟩:∃b,B3[F d+f]?=J b:=⟨_,aW (by rw[T3.len];omega)⟩;have wa:=T3.wid a (dk o);have v:(B3.map λb=>I.arr b 0 (F U+1) (F U+1))[G+f]?=J (.arr b 0 (F U+1) (F U+1)):=by rw[khoff.M ag,ek,t];rfl
  have m1:=sd T3.iu v;have m2:=wZ (T3.row _ _ _ t o) (vJ (k:=U.length) ag);have ix1:=amT (b:=u) (off:=G) (aY:=F c-F d) (k:=.i64) w;have ix2:=pC (b:=b) (len:=F U+1) (aY:=F U+1) (k:=.i64) (ag:F U<F U+1);have iy:(f:Int)<((F c-F d:Nat):Int):=by omega
  by_cases hz:ah a (F U)=0
  .have kz2:aj (∀K,K<f+1->∀a,k[F d+K]?=J a->ah a (F U)=0):=⟨λK N a' B=>by
    rcases dR K f with q|q
    .exact kz.M K q a' B
    .rw[(ag:K=f),o]at B;injection B with B;rw[<-B];exact hz⟩
   rw[hz]at m2;unfold im at *
   clear T3 R A p m j s6 o t wa v hz kz;refine br @DQ ?_;exact⟨F c-F d-(f+1),by omega,f+1,by omega,O,kz2,by simp⟩
  .have L:pi U c=ao:=(by rw[A,aL];intro q;rw[e8]at q;have:=q a (dk (i:=f) (by rw[qM];exact o));exact hz (of_decide_eq_true this));have ke:=aj.mk L;have kX:=aj.mk p;have kb:=aj.mk m;have l6:∀n,aF af Gt (g.put (F h.V) [((n:Int):I)]) 39 (.ptr (.box (F h.V)) 0)=J ((n:Int):I):=λn=>Zi (dy (aU.1 m).1);unfold im at *
   clear T3 R A p m j o t wa v kz L
   repeat' (first|simp(maxSteps:=9^9) (disch:=first|exact dZ|fail) only[gW,reduceIte,aR,aM,DQ,SV (U9 _ _), *]|refine dX ?_ ?_<;>(intro _;try omega))
   exact⟨_,_,O,kX.M.gg (aT _) _,.inl ⟨ke.M,O⟩⟩
 .have X:f=F c-F d:=by omega
  subst X;have L:pi U c=J (oU (k,d) (F U)):=by rw[A,aC];rw[e8];intro a o;obtain⟨K,N⟩:=sK o;rw[qM]at N;have fG:=(aU.1 N).1;exact cy (kz.M K ag a N)
  rw[<-abe]at L;have ke:=aj.mk L;have mk:=w9 g (F U) ag .i64 .i64;have uh:bT (F U) (im 0)=(jZ k d (F U) 0).map im:=by unfold jZ;rw[eE,Ey,wj]
  rw[uh]at mk;clear A L uh kz m s6 p T3 R j;unfold im at mk;refine br @DQ ?_;refine bJ.gen λi e C D eg=>?_;have f4:i.get 4=.arr (F g.V) 0 (F U) (F U):=by rw[e];exact gS
  have f6:i.get 6=.ptr (.box (F h.V)) 0:=by rw[e];simp only[gW,reduceIte,aR,aM];exact g6
  have f7:i.get 7=(F U:Nat):=by rw[e];simp only[gW,reduceIte,aR,aM];exact g7
  have f8:i.get 8=.arr u 0 (F c) (F c):=by rw[e];simp only[gW,reduceIte,aR,aM];exact g8
  have f42:i.get 42=.ac tk s3 (ay (cH d)):=by rw[e];exact gS
  have f43:i.get 43=(F d:Nat):=by rw[e];exact gS
  have f44:i.get 44=(0:Nat):=by rw[e];exact gR
  have S:i.defers=[(166,[.ptr (.box (F h.V)) 0])]:=by rw[C];simp only[gW,reduceIte,aR,aM];exact hd
  have T:i.da=ao:=by rw[D];simp only[gW,reduceIte,aR,aM];exact hp
  clear e C D eg g6 g7 g8 g9 g28 g29 g30 hd hp mk;refine cK (λz4 s z0=>∃f:Nat,f<=F d/\z4=F d-f/\s.get 4=.arr (F g.V) 0 (F U) (F U)/\s.get 6=.ptr (.box (F h.V)) 0/\s.get 7=(F U:Nat)/\s.get 8=.arr u 0 (F c) (F c)/\s.get 42=.ac tk s3 (ay (cH d))/\s.get 43=(F d:Nat)/\s.get 44=(f:Nat)/\s.defers=[(166,[.ptr (.box (F h.V)) 0])]/\s.da=ao/\z0=g.push ((jZ k d (F U) f).map im)) ?_ (F d) _ _ ?_;rotate_left 1
  .exact⟨0,ck _,O,f4,f6,f7,f8,f42,f43,f44,S,T,O⟩
  clear f4 f6 f7 f8 f42 f43 f44 S T;rintro z4 s z0 ⟨f,hj,rfl,g4,g6,g7,g8,g42,g43,g44,hd,hp,rfl⟩;obtain⟨T3,R,-,p,m,j⟩:=kk.M;by_cases w:f<F d
  .obtain⟨z2,H⟩:∃z2,d[f]?=J z2:=⟨_,aW w⟩;have yC:=R.lt f z2 H;have dY:s3=1:=by
    rcases j with q|⟨q,-⟩
    .exact q
    .exfalso;unfold cH at q;rw[BK]at q;rw[q]at w;exact qc _ w
   subst dY;obtain⟨a,o⟩:∃a,k[f]?=J a:=⟨_,aW ag⟩;obtain⟨b,t⟩:∃b,B3[f]?=J b:=⟨_,aW (by rw[T3.len];omega)⟩;have wa:=T3.wid a (dk o);have v:(B3.map λb=>I.arr b 0 (F U+1) (F U+1))[f]?=J (.arr b 0 (F U+1) (F U+1)):=(by rw[ek,t];rfl);have JF:ah (cH d) f=(z2:Int):=(by have:(cH d)[f]?=J (z2:Int):=(by unfold cH;rw[ek,H];rfl);unfold ah;rw[fc,this];rfl);have l0:=ev (H:=g.push ((jZ k d (F U) f).map im)) (l:=cH d) (i:=f) (s:=1) (by unfold cH;rw[bI];exact w);rw[JF]at l0;have m1:=sd (H:=g.push ((jZ k d (F U) f).map im)) (aP T3.iu) v;have m2:=wZ (H:=g.push ((jZ k d (F U) f).map im)) (aP (T3.row _ _ _ t o)) (vJ (k:=U.length) ag);have ix1:=De (b:=u) (len:=c.length) (aY:=c.length) (k:=.i64) (ag:f<F c);have ix2:=pC (b:=b) (len:=F U+1) (aY:=F U+1) (k:=.i64) (ag:F U<F U+1);have ix3:=pC (b:=g.V.length) (len:=U.length) (aY:=U.length) (k:=.i64) yC;have sk:=vV (H:=g.push ((jZ k d (F U) f).map im)) (b:=g.V.length) (r:=jZ k d (F U) f) (k:=z2) (x:=ah a (F U)) (aQ _ _) (by rw[KG];exact yC);have gD:k.getD f []=a:=(by rw[fc,o];rfl);rw[mF,<-gD,abf H,gD]at sk;have iy:(f:Int)<(F d:Int):=(by omega);have z3:=eQ;unfold im at *
   clear T3 R p m j o t wa v gD JF H kk ke;refine bB @DQ @bh ?_;exact⟨F d-(f+1),by omega,f+1,by omega,O,by simp⟩
  .have X:f=F d:=(by omega);subst X;have b1:(g.push ((jZ k d (F U) (F d)).map im)).V[F h.V]?=J [im 0]:=aP m;have s6:=λn=>aca (n:=n) b1;have Y:=(aU.1 b1).1;have l6:∀n,aF af Gt ((g.push ((jZ k d (F U) (F d)).map im)).put (F h.V) [((n:Int):I)]) 39 (.ptr (.box (F h.V)) 0)=J ((n:Int):I):=λn=>Zi (dy Y);have fH:F g.V≠F h.V:=(by have:=(aU.1 m).1;omega);have kX:=aj.mk p;clear T3 R p m b1 j Y
   repeat' (first|simp(maxSteps:=9^9) (disch:=first|exact dZ|fail) only[gW,reduceIte,aR,aM,DQ,SV (U9 _ _), *]|refine dX ?_ ?_<;>(intro _;try omega))
   exact⟨_,_,O,(kX.M.trans (.push _ _)).gg (aT _) _,.inr ⟨_,_,ke.M,KG _ _ _ _,O,(cG fH).trans (aQ _ _)⟩⟩
def abz:Tryz.f89.results.toList=[.tmp 6]:=ax
def atC:Tryz.f90.results.toList=[.tmp 2]:=ax
def atz:Tryz.f86.results.toList=[.tmp 2]:=ax
def atB:Tryz.f88.results.toList=[.tmp 2]:=ax
def vT:Tryz.f35.results.toList=[.tmp 2]:=ax
def acT(n a b)(h):W2.call 89 [im n,im a,im b] h=J (.ret (.v (.bool (decide (a<=n)&&decide (n<=b)))),h):=by
 unfold im;by_cases c:a<=n
 .have:decide (a<=n)=aa:=by simp[c]
  refine cX O func89 O ?_;exact f_ @abz @pP
 .have:decide (a<=n)=ar:=by simp[c]
  refine cX O func89 O ?_;exact f_ @abz @BA
def uv(n:Int):Bool:=decide (0<=n)&&decide (n<=63)
def aaE(n)(h):W2.call 90 [im n] h=J (.ret (.v (.bool (uv n))),h):=by
 have c:=acT n 0 63 h;unfold uv;unfold im at *
 refine cX O func90 O ?_;exact iT @atC
def an6(a)(r)(c:IL a r)(h):W2.call 86 [a] h=J (.ret (.v (.bool (decide (64<F r)))),h):=by
 obtain⟨g,i,rfl,-⟩:=c;have e:=underlying23;have f:=c' r;have d:decide (64<F r)=decide ((64:Int)<(F r:Int)):=by rw[decide_eq_decide];omega
 rw[d];refine cX O func86 O ?_;exact iT @atz
def ao4(n)(h):W2.call 88 [im n] h=J (.ret (.v (.bool (!cA n))),h):=by
 have d:=acT n 0 1073741788 h;have c:cA n=(decide (0<=n)&&decide (n<=1073741788)):=by unfold cA Qi;congr 1;rw[decide_eq_decide];omega
 rw[c];unfold im at *
 refine cX O func88 O ?_;exact iT @atB
def M9:fR af 22=J ar:=ax
def BU:fR af 25=J aa:=ax
def eF:dQ af 25 (.ptr (.box b) 0) 0=J (.ptr (.box b) 0):=ax
def fZ:dQ af 25 (.ptr (.box b) 0) 1=J (.ptr (.box b) 1):=ax
def qu(c:H.V[b]?=J [x,y]):aF af Gt H 22 (.ptr (.box b) 0)=J x:=by rw[fI M9 c];rfl
def Dj(c:H.V[b]?=J [x,y]):aF af Gt H 23 (.ptr (.box b) 1)=J y:=by rw[fI kC c];rfl
def rP(U:List (List Int))(ae:List Int)(i:Nat):Bool:= !(U.getD i []).isEmpty&&decide (F (U.getD i [])=F (U.getD 0 []))&&(decide (0<=ah ae i)&&decide (ah ae i<=63))&&(U.getD i []).all cA
def Vn(h:am)(x y:I)(U:List (List Int))(ae:List Int)(hx:RL x U)(E:IL y ae):
 ∃h',W2.call 35 [.agg [x,y]] h=J (.ret ((cE U ae:Int):I),h')/\h'=h.push [x,y]:=by
 have c1:=λ(hl:F U<=64)=>aic 86 (λd=>decide (64<F d)) (h.push [x,y]) x U hx ag (λa d _ ha=>an6 a d ha _);obtain⟨z1,H,g,rfl,hs,gH,jl⟩:=hx;obtain⟨D,v,rfl,lV⟩:=E;have kk:=aj.mk (au hs (au jl lV));clear hs jl lV;have u23:=underlying23;have u22:=underlying22;have z23:=g_;have z3:=eQ;have fG:F (g.map λa=>[a])=F U:=by rw[bI];exact gH
 have AN:=c' ae;have b0:(h.push [.ac z1 H (g.map λa=>[a]),.ac D v (ay ae)]).V[F h.V]?=J [.ac z1 H (g.map λa=>[a]),.ac D v (ay ae)]:=aQ _ _;have l0:=qu b0;have l1:=Dj b0;have bx:(I.agg [.ac z1 H (g.map λa=>[a]),.ac D v (ay ae)]).bL=J [.ac z1 H (g.map λa=>[a]),.ac D v (ay ae)]:=rfl;clear b0;unfold cE;refine ie O func35 O ?_;by_cases h1:64<F U
 .have hq:decide ((64:Int)<(F U:Int))=aa:=by simp;omega
  rw[aC (by simp[h1])];clear c1;generalize r:h.push [.ac z1 H (g.map λa=>[a]),.ac D v (ay ae)]=z2 at *
  refine b_ @vT @eF @fZ (au @bG @r) ?_;exact⟨_,O,O⟩
 have hq:decide ((64:Int)<(F U:Int))=ar:=by simp;omega
 have Y:=c1 ag;have i_:decide (64<F U)=ar:=by simp[h1]
 rw[i_,Mb];clear c1 i_;cases C:U.any λd=>decide (64<F d) with
 |true=>rw[C]at Y;rw[aC O];clear C;refine b_ @vT @eF @fZ @bG ?_;exact⟨_,O,O⟩|false=>
  rw[C]at Y;rw[aL cB];by_cases h3:F U=F ae;rotate_left 1
  .rw[aC h3];clear C;have hn:¬((F U:Int)=(F ae:Int)):=(by omega);refine b_ @vT @eF @fZ @bG ?_;exact⟨_,O,O⟩
  rw[aL (by simpa using h3)];have vu:=aj.mk C;have hn:(F U:Int)=(F ae:Int):=by omega
  have kn:=aj.mk h3;clear C h3;obtain⟨z2,r⟩:∃z2,h.push [.ac z1 H (g.map λa=>[a]),.ac D v (ay ae)]=z2:=⟨_,O⟩;rw[r]at l0 l1 Y;rw[r];generalize S:(if ((bE (F U)).all λc=> !(U.getD c []).isEmpty&&decide (F (U.getD c [])=F (U.getD 0 []))&&(decide (0<=ah ae c)&&decide (ah ae c<=63))&&(U.getD c []).all cA)=aa then (0:Int) else 230)=res;have X:aj (res=if ((bE (F U)).all (rP U ae))=aa then (0:Int) else 230):=⟨S.symm⟩;have kH:=aj.mk r;clear S hn;have mU:F U<=64:=by omega
  have hn':(F ae:Int)=(F U:Int):=by have:=kn.M;omega
  refine b_ @vT @eF @fZ (au @bG @r) ?_;refine bJ.gen λK o iD fA eg=>?_;have f1:K.get 1=.ptr (.box (F h.V)) 0:=by rw[o];exact gS
  have f25:K.get 25=.ac z1 H (g.map λa=>[a]):=by rw[o];exact gS
  have f26:K.get 26=(F U:Nat):=by rw[o];exact gS
  have f27:K.get 27=(0:Nat):=by rw[o];exact gR
  have fd:K.defers=[]:=by rw[iD];exact gS
  clear o iD fA eg r bx Y hq h1;refine cK (λz5 z4 m=>∃c:Nat,c<=F U/\z5=F U-c/\aj (∀G,G<c->rP U ae G=aa)/\z4.get 1=.ptr (.box (F h.V)) 0/\z4.get 25=.ac z1 H (g.map λa=>[a])/\z4.get 26=(F U:Nat)/\z4.get 27=(c:Nat)/\z4.defers=[]/\m=z2) ?_ (F U) _ _ ?_;rotate_left 1
  .exact⟨0,ck _,O,⟨λG hj=>absurd hj (qc _)⟩,f1,f25,f26,f27,fd,O⟩
  clear f1 f25 f26 f27 fd;rintro z5 z4 m ⟨c,hi,rfl,kf,g1,g25,g26,g27,hd,WO⟩;rw[<-WO]at l0 l1 kH ⊢;clear WO;by_cases w:c<F U;rotate_left 1
  .have gw:c=F U:=(by omega);subst gw;have h0:res=0:=(by rw[X.M,aC];rw[e8];intro G hj;exact kf.M G (gb.1 hj));have k0:=aj.mk h0;clear h0;refine br @vT ?_;exact⟨_,by rw[k0.M],O⟩
  have dY:H=1:=kk.M.1 (by intro q;rw[q]at w;simp at w);subst dY;have oD:v=1:=kk.M.2.2 (by intro q;have h0:=kn.M;rw[q,gh]at h0;omega);subst oD;obtain⟨a,N⟩:∃a,g[c]?=J a:=⟨_,aW ag⟩;obtain⟨d,hv⟩:∃d,U[c]?=J d:=⟨_,aW w⟩;obtain⟨a0,s⟩:∃a,g[0]?=J a:=⟨_,aW ag⟩;obtain⟨u,T⟩:∃d,U[0]?=J d:=⟨_,aW ag⟩;have ld:=jP (H:=m) (s:=1) N;have ld0:=jP (H:=m) (s:=1) s;have yy:=kk.M.2.1 c a d N hv;obtain⟨ka,sa,rfl,AW⟩:=yy;obtain⟨ka0,sa0,rfl,PE⟩:=kk.M.2.1 0 a0 u s T;have lT:=c' d;have alI:=c' u;have ldo:=ev (H:=m) (l:=ae) (i:=c) (s:=1) (by have:=kn.M;omega);have Xk:F d<=64:=by have:=vu.M;rw[To]at this;have:=this d (dk hv);simpa using this
  have z:=VA 88 (λn=> !cA n) m (.ac ka sa (ay d)) d ⟨_,_,O,AW⟩ ag (λn _=>ao4 n m);have Z:=aaE (ah ae c) m;have R:rP U ae c=(!d.isEmpty&&decide (F d=F u)&&uv (ah ae c)&&d.all cA):=by unfold rP uv;have g1:U.getD c []=d:=(by rw[fc,hv];rfl);have g2:U.getD 0 []=u:=(by rw[fc,T];rfl);rw[g1,g2]
  have L:(d.any λn=> !cA n)= !(d.all cA):=by rw[List.any_eq_not_all_not];simp
  rw[L]at z;have e:=aj.mk R;have bad:rP U ae c=ar->res=230:=by intro q;rw[X.M,aL];intro z6;rw[e8]at z6;have:=z6 c (gb.2 w);rw[q]at this;cases this
  have k:=aj.mk bad;have iy:(c:Int)<(F U:Int):=by omega
  have Oj:(0:Int)<(F U:Int):=by omega
  have z0:(0:Int).toNat=0:=rfl;clear R bad L Xk N hv AW s T PE;unfold im at *
  generalize ah ae c=z7 at *
  by_cases j:F d=0
  .have tg:decide ((F d:Int)=0)=aa:=(by simp[j]);have f:res=230:=k.M (by rw[e.M,adK.1 j];rfl);have t:=aj.mk f;clear f j z Z;refine b_ @vT @eF @fZ @bh ?_;exact⟨_,by rw[t.M],O⟩
  have tg:decide ((F d:Int)=0)=ar:=by simp[j]
  have i:d.isEmpty=ar:=by cases d with|nil=>exact absurd O j|cons _ _=>rfl
  by_cases A:F d=F u;rotate_left 1
  .have wP:decide ((F d:Int)=(F u:Int))=ar:=(by simp;omega);have f:res=230:=k.M (by rw[e.M,i,cR A];rfl);have t:=aj.mk f;clear f j A i z Z;refine b_ @vT @eF @fZ @bh ?_;exact⟨_,by rw[t.M],O⟩
  have wP:decide ((F d:Int)=(F u:Int))=aa:=by simp;omega
  cases p:uv z7 with
  |false=>have f:res=230:=k.M (by rw[e.M,p];simp);have t:=aj.mk f;rw[p]at Z;clear f j A i z p;refine b_ @vT @eF @fZ @bh ?_;exact⟨_,by rw[t.M],O⟩
  |true=>
   rw[p]at Z;cases B:d.all cA with
   |false=>have f:res=230:=k.M (by rw[e.M,B];simp);have t:=aj.mk f;rw[B]at z;clear f j A i p B;refine b_ @vT @eF @fZ @bh ?_;exact⟨_,by rw[t.M],O⟩
   |true=>
    rw[B]at z;have kf2:aj (∀G,G<c+1->rP U ae G=aa):=⟨λG hj=>by
     rcases dR G c with q|q
     .exact kf.M G q
     .rw[(ag:G=c),e.M,i,cy A,p,B];rfl⟩
    clear j A i p B e kf;refine b_ @vT @eF @fZ @bh ?_;exact⟨F U-(c+1),by omega,c+1,by omega,O,kf2,by simp⟩
def DU:Tryz.f178.results.toList=[.tmp 4,.tmp 5]:=ax
def atV:Tryz.f234.results.toList=[.tmp 4]:=ax
def atW:Tryz.f235.results.toList=[.tmp 2]:=ax
def atX:Tryz.f179.results.toList=[.tmp 2]:=ax
def ZV(n)(h):W2.call 179 [im n] h=J (.ret (ar:I),h):=by
 unfold im;refine cX O func179 O ?_
 repeat' (first|simp(maxSteps:=9^9) (disch:=first|exact dZ|fail) only[gW,reduceIte,aR,aM,atX,ne_eq,not_true_eq_false,decide_false, *]|refine dX ?_ ?_<;>(intro _;try omega))
def aoG(n)(h):W2.call 235 [im n] h=J (.ret (ar:I),h):=by
 unfold im;refine cX O func235 O ?_
 repeat' (first|simp(maxSteps:=9^9) (disch:=first|exact dZ|fail) only[gW,reduceIte,aR,aM,atW,ne_eq,not_true_eq_false,decide_false, *]|refine dX ?_ ?_<;>(intro _;try omega))
def anM(a b)(h):W2.call 234 [im a,im b] h=J (.ret (.v (.bool (decide (a<b)))),h):=by
 have c:=ZV a h;have d:=ZV b h;unfold im at *
 refine cX O func234 O ?_;exact iT @atV
def Cg(n)(h):lM af h 176 3 (.v (.int .u64 n))=J (((IntKind.i64.wrap n:Int):I),h):=ax
def Ed{t}{x y}:de af .shr t x y (.v (.int .u64 (n:Nat))) (.v (.int .u64 1))=J (.v (.int .u64 ((n/2:Nat):Int))):=by rw[BY aZ];congr 3;show((n:Nat):Int).fdiv (2^1)=_;rw[Int.fdiv_eq_ediv_of_nonneg _ aZ];simp
def wrap_u64(h:n<18446744073709551616):IntKind.u64.wrap (n:Nat)=(n:Nat):=by show((n:Nat):Int).emod 18446744073709551616=_;exact Int.emod_eq_of_lt ag ag
def rD(ak:List Int):Prop:=∀d c:Nat,d<c->c<F ak->ah ak d<ah ak c
def xW(h:i<F l):ah l i∈l:=by rw[fy h];exact jG h
def ZM{x}(h:x∈l):∃i,i<F l/\ah l i=x:=by obtain⟨i,c,rfl⟩:=List.getElem_of_mem h;exact⟨i,c,fy c⟩
def abU(h:am)(x:I)(ak:List Int)(o:Int)(hx:IL x ak)(hs:rD ak)(hl:F ak<=1000000):
 ∃r h',W2.call 178 [x,im o] h=J (r,h')/\h'=h/\∃i:Int,r=.ret (.tuple [im i,.v (.bool (ak.contains o))]):=by
 obtain⟨z0,X,rfl,H⟩:=hx;have C:=aj.mk (au H hs);clear H hs;have u23:=underlying23;have z3:=eQ;have fG:=c' ak;have Jx:=λn=>aoG n h;unfold im at *
 refine cq O func178 O ?_;refine br @DU ?_;refine bJ.gen λt j G fA eg=>?_;have f0:t.get 0=.ac z0 X (ay ak):=by rw[j];exact gS
 have f1:t.get 1=(o:Int):=by rw[j];exact gS
 have f6:t.get 6=(F ak:Nat):=by rw[j];exact gS
 have f7:t.get 7=(0:Nat):=by rw[j];exact gR
 have f8:t.get 8=(F ak:Nat):=by rw[j];exact gS
 have Y:t.defers=[]:=by rw[G];exact gS
 clear j G fA eg;refine cK (λz1 L K=>∃c f:Nat,c<=f/\f<=F ak/\z1=f-c/\aj ((∀e,e<c->ah ak e<o)/\∀e,f<=e->e<F ak->o<=ah ak e)/\L.get 0=.ac z0 X (ay ak)/\L.get 1=(o:Int)/\L.get 6=(F ak:Nat)/\L.get 7=(c:Nat)/\L.get 8=(f:Nat)/\L.defers=[]/\K=h) ?_ (F ak) _ _ ?_;rotate_left 1
 .exact⟨0,ak.length,ck _,aT _,O,⟨λe v=>absurd v (qc _),λe h1 N=>by omega⟩,f0,f1,f6,f7,f8,Y,O⟩
 clear f0 f1 f6 f7 f8 Y;rintro z1 L K ⟨c,f,h1,N,rfl,E,g0,g1,g6,g7,g8,hd,rfl⟩;by_cases dx:c<f
 .have y:X=1:=C.M.1 (by intro q;rw[q,gh]at N;omega);subst y;obtain⟨d,m⟩:∃d:Nat,(c+f)/2=d:=⟨_,O⟩;have ld:=ev (H:=K) (l:=ak) (i:=d) (s:=1) ag;have T:=anM (ah ak d) o K;have R:(c:Int)<(f:Int):=by omega
  have Au:(c:Int)+(f:Int)=((c+f:Nat):Int):=by omega
  have PV:IntKind.u64.wrap ((c+f:Nat):Int)=((c+f:Nat):Int):=wrap_u64 ag;have tj:IntKind.i64.wrap (((c+f)/2:Nat):Int)=((d:Nat):Int):=by rw[m];exact ji ag ag
  have alw:(d:Int)<(F ak:Int):=by omega
  unfold im at T;by_cases g:ah ak d<o
  .have k:decide (ah ak d<o)=aa:=(by simp[g]);rw[k]at T;have z:aj ((∀e,e<d+1->ah ak e<o)/\∀e,f<=e->e<F ak->o<=ah ak e):=⟨λe v=>by
    rcases dR e d with q|q
    .exact adg (C.M.2 e d q ag) g
    .rw[(ag:e=d)];exact g,E.M.2⟩
   have B:=aj.mk m;clear g k m;refine b_ @DU @bh @pW (au @Cg @Ed) ?_;have:=B.M;exact⟨f-(d+1),by omega,d+1,f,by omega,N,O,z,ba,ba,ba,by simp,O,ba,ba⟩
  .have k:decide (ah ak d<o)=ar:=(by simp[g]);rw[k]at T;have z:aj ((∀e,e<c->ah ak e<o)/\∀e,d<=e->e<F ak->o<=ah ak e):=⟨E.M.1,λe v XS=>by
    rcases dR d e with q|q
    .have:=C.M.2 d e q XS;omega
    .rw[(ag:e=d)];omega⟩
   have B:=aj.mk m;clear g k m;refine b_ @DU @bh @pW (au @Cg @Ed) ?_;have:=B.M;exact⟨d-c,by omega,c,d,by omega,by omega,O,z,ba,ba,ba,O,by simp,ba,ba⟩
 .have w:c=f:=by omega
  subst w;have p:∀e,e<F ak->ah ak e=o->e=c:=by
   intro e v he;rcases Nat.lt_trichotomy e c with q|q|q
   .have:=E.M.1 e q;omega
   .exact q
   .have h3:=C.M.2 c e q v;have h4:=E.M.2 c (aT _) ag;omega
  by_cases s:c<F ak
  .have y:X=1:=C.M.1 (by intro q;rw[q,gh]at s;omega);subst y;have ld:=ev (H:=K) (l:=ak) (i:=c) (s:=1) s;have R:(c:Int)<(F ak:Int):=(by omega);have OR:decide ((c:Int)<(F ak:Int))=aa:=(by simp[s]);by_cases u:ah ak c=o
   .have g:ak.contains o=aa:=(by rw[wd,cy (by rw[<-u];exact xW s)]);have A:=aj.mk g;have Z:decide (ah ak c=o)=aa:=(by simp[u]);clear g u p;refine bB @DU @bh ?_;exact⟨_,_,O,O,_,by rw[A.M]⟩
   .have g:ak.contains o=ar:=(by rw[wd,cR];intro q;obtain⟨e,S,D⟩:=ZM q;have:=p e S D;subst this;exact u D);have A:=aj.mk g;have Z:decide (ah ak c=o)=ar:=(by simp[u]);clear g u p;refine bB @DU @bh ?_;exact⟨_,_,O,O,_,by rw[A.M]⟩
  .have g:ak.contains o=ar:=(by rw[wd,cR];intro q;obtain⟨e,S,D⟩:=ZM q;have:=p e S D;omega);have A:=aj.mk g;have w:c=F ak:=(by omega);subst w;have OR:decide ((F ak:Int)<(F ak:Int))=ar:=(by simp);clear g p;refine bB @DU @bh ?_;exact⟨_,_,O,O,_,by rw[A.M]⟩
def atK:Tryz.f165.results.toList=[.tmp 4]:=ax
def Lb:Tryz.f219.results.toList=[]:=ax
def apt(h:am)(x y z:I)(c:(I.agg [x,y]).bL=J [x,y])(d:z.bL=J [z]):W2.call 165 [.agg [x,y],z] h=J (.ret (.func (.func 219) [] [.ptr (.box (F h.V)) 0,.ptr (.box (F h.V+1)) 0]),(h.push [x,y]).push [z]):=by refine cX O func165 O ?_;exact qm @atK @bG @bP
def ZT24{p:Prop}(h:p:=by
 refine b_ @Lb @eF @fZ @bh ?_;refine eI z' ax ?_;refine b_ @Lb @eF @fZ (au @bh @B8) ?_;exact⟨F U-(k+1),by omega,k+1,by omega,O,i,by simp⟩):p:=h
def apu(l A B:Nat)(T:Tok)(s0:Nat)(xs:List I)(y z:I)(U:List (List Int))(ae ak:List Int)(Inv:Nat->am->Prop)
 (E:IL y ae) (S:IL z ak) (R:F xs=F U) (p:F ae=F U) (q:U≠[]->s0=1) (g:rD ak) (N:F ak<=1000000) (lT:F U<=1000000)
 (w:∀k H,Inv k H->H.V[A]?=J [.ac T s0 (xs.map λa=>[a]),y]/\H.V[B]?=J [z])
 (D:∀k a H,k<F U->xs[k]?=J a->ak.contains (ah ae k)=aa->Inv k H->∃H',W2.round l [im (k:Nat),a] H=J (.ret (aa:I),H')/\Inv (k+1) H')
 (G:∀k H,k<F U->ak.contains (ah ae k)=ar->Inv k H->Inv (k+1) H)
 (t:am) (v:Inv 0 t):∃H',W2.call 219 [.yield l,.ptr (.box A) 0,.ptr (.box B) 0] t=J (.ret (.tuple []),H')/\Inv (F U) H':=by
 have c:=aj.mk (au w (au D (au G (au v (au q (au g S))))));obtain⟨f,j⟩:=w 0 t v;have Y:=qu f;obtain⟨ky,sy,rfl,r⟩:=E;have X:=aj.mk r;clear w D G v q g S f j r;have u23:=underlying23;have u22:=underlying22;have z3:=eQ;have z23:=g_;have fG:F (xs.map λa=>[a])=F U:=by rw[bI];exact R
 have yy:F (ay ae)=F U:=by rw[c'];exact p
 refine ie O func219 O ?_;refine dL @Lb @eF @fZ ?_;refine cK (λz1 o H=>∃k:Nat,k<=F U/\z1=F U-k/\aj (Inv k H)/\o.get 0=.yield l/\o.get 1=.ptr (.box A) 0/\o.get 2=.ptr (.box B) 0/\o.get 9=.ac T s0 (xs.map λa=>[a])/\o.get 10=(F U:Nat)/\o.get 11=(k:Nat)/\o.defers=[]) ?_ (F U) _ _ ?_;rotate_left 1
 .refine⟨0,ck _,O,⟨c.M.2.2.2.1⟩,?_,?_,?_,?_,?_,?_,?_⟩<;>exact gR
 clear Y;rintro z1 o H ⟨k,hk,rfl,e,g0,g1,g2,g9,g10,g11,hd⟩;by_cases h:k<F U;rotate_left 1
 .have:k=F U:=by omega
  subst this;refine br @Lb ?_;exact⟨_,O,e.M⟩
 obtain⟨f,j⟩:=c.M.1 k H e.M;have K:s0=1:=c.M.2.2.2.2.1 (by intro z0;rw[z0,gh]at h;omega);subst K;have L:sy=1:=X.M (by intro z0;rw[z0,gh]at p;omega);subst L;obtain⟨a,m⟩:∃a,xs[k]?=J a:=⟨_,aW ag⟩;have ld:=jP (H:=H) (s:=1) m;have lo:=ev (H:=H) (l:=ae) (i:=k) (s:=1) ag;have Y:=Dj f;have l2:=tw j;obtain⟨_,H2,u,C,z2,rfl⟩:=abU H z ak (ah ae k) c.M.2.2.2.2.2.2 c.M.2.2.2.2.2.1 N;rw[C]at u;clear C f j;have iy:(k:Int)<(F U:Int):=by omega
 cases d:ak.contains (ah ae k) with
 |true=>
  obtain⟨H',r1,Z⟩:=c.M.2.1 k a H h m d e.M;rw[d]at u;have i:=aj.mk Z;clear Z m d e;unfold im at *
  exact ZT24
 |false=>
  have i:=aj.mk (c.M.2.2.1 k H h d e.M);rw[d]at u;clear m d e;unfold im at *
  exact ZT24
structure zO(h H:am)(t1 t2:Tok):Prop where
 c1:cY h.tn H t1
 c2:cY h.tn H t2
 ne:∀a,t1=.free a->t2≠ .free a
 ok:cS H=aa
 ext:Ext h H
def Ca(f:cY n0 H k)(d:∀a,t=.free a->k≠ .free a):cY n0 (H.app t) k:=by
 rcases f with q|q|⟨j,rfl,h,c⟩
 .exact .inl q
 .exact .inr (.inl q)
 .refine .inr (.inr ⟨j,O,h,?_⟩);have i:=rM c;unfold alive at *
  simp only[bR,Bool.not_eq_true',wd,decide_eq_false_iff_not,decide_eq_true_eq]at *
  refine⟨by rw[EU];omega,?_⟩;cases t with
  |free a=>
   intro g;rcases gX.1 g with e|e
   .exact d a O (by rw[e])
   .exact c.2 e
  |_=>exact c.2
def zO.app(w:zO h H t1 t2):cY h.tn (H.app t1) t2/\zO h ((H.app t1).app t2) (.free H.tn) (.free (H.app t1).tn):=by
 have i:=w.ext.tn;have e:=Grown.one (n0:=h.tn) w.c1 w.ok i;have f:=Ca w.c2 w.ne;have g:=Grown.one (n0:=h.tn) f e.ok (ff i e.tn);refine⟨f,?_,g.can,?_,g.ok,g.ext (e.ext w.ext (aT _)) (aT _)⟩
 .refine Ca e.can λa c d=>?_;injection d with d;subst d;rcases f with q|q|⟨m,q,-,l⟩
  .rw[q]at c;cases c
  .rw[q]at c;cases c
  .rw[q]at c;injection c with c;subst c;rcases w.c2 with z|z|⟨k,z,-,j⟩
   .rw[z]at q;cases q
   .rw[z]at q;cases q
   .rw[z]at q;injection q with q;have:=rM j;omega
 .intro a c d;injection c with c;injection d with d;rw[EU]at d;omega
def zO.put(w:zO h H t1 t2)(c:F h.V<=b)(cs):zO h (H.put b cs) t1 t2:=⟨w.c1,w.c2,w.ne,w.ok,w.ext.gg c cs⟩
def xk:Tryz.f92.results.toList=[.cell 4 22,.cell 5 23,.tmp 6,.tmp 7]:=ax
def ax3:(fY af 22).bind I.bL=J [.ac .nil 0 []]:=ax
def ax4:(fY af 23).bind I.bL=J [.ac .nil 0 []]:=ax
def awE:cN af 22=J 1:=ax
def Ul{es}(m:F es<1000000)(f:sz=1∨(es=[]/\k=.nil))(e:cY n0 H k):
 gB af H #[22,22] (.ac k sz (es.map λa=>[a])) (.ac .aK 1 [[x]])=J (.ac (.free H.tn) 1 ((es++[x]).map λa=>[a]),H.app k):=by
 obtain⟨j,g,c,h,i⟩:=JZ;have l:=lu (ag:F es+1<=1000000) h;have:=zV (t0:=22) (t1:=22) (n0:=n0) (i:=j) (sz:=sz) (es:=es.map λa=>[a]) (new:=[[x]]) (x:=.ac .aK 1 [[x]]) underlying22 (.inl ⟨_,underlying22⟩) g ag (by rw[c];exact i) (by rw[c];rfl) cB
  (by simp only[bI,eR,gh,oy];omega) (by simp only[bI,eR,gh];omega) (f.imp (λd=>d.trans c.symm) λd=>⟨by rw[d.1];rfl,d.2⟩) e
 rw[c]at this;rw[jr];exact this
def hy(xs:List I)(ae ak:List Int)(k:Nat):List I:=((bE k).filter λc=>ak.contains (ah ae c)).map λc=>xs.getD c default
def e_(ae ak:List Int)(k:Nat):List Nat:=(bE k).filter λc=>ak.contains (ah ae c)
def aaJ{k}(h:ak.contains (ah ae k)=aa):e_ ae ak (k+1)=e_ ae ak k++[k]:=by unfold e_;rw[jH,Ex,BH,aC h];rfl
def aaI{k}(h:ak.contains (ah ae k)=ar):e_ ae ak (k+1)=e_ ae ak k:=by unfold e_;rw[jH,Ex,BH,aL (by rw[h];simp)];simp
def aaH{k}{a}(h:ak.contains (ah ae k)=aa)(c:xs[k]?=J a):hy xs ae ak (k+1)=hy xs ae ak k++[a]:=by
 have d:xs.getD k default=a:=by rw[fc,c];rfl
 unfold hy;rw[jH,Ex,BH,aC h,List.filter_nil,jr,dK,tT,d]
def aaG{k}(h:ak.contains (ah ae k)=ar):hy xs ae ak (k+1)=hy xs ae ak k:=by unfold hy;rw[jH,Ex,BH,aL (by rw[h];simp)];simp
def aaF{k}:F (hy xs ae ak k)<=k:=by unfold hy;rw[bI];exact ff (xR _ _) cB
def Kr:∀(ak:List Int) (last:Int),dD last ak=aa->(∀i,i<F ak->last<ah ak i)/\rD ak:=by
 intro ak
 induction ak with
 |nil=>exactλ_ _=>⟨λi d=>absurd d (qc _),λi g _ c=>absurd c (qc _)⟩|cons n l j=>
  intro last e;unfold dD at e;simp only[bR,decide_eq_true_eq]at e;obtain⟨f,h⟩:=j n e.2;refine⟨λi d=>?_,λi g k c=>?_⟩
  .cases i with|zero=>exact e.1.1|succ i=>exact adg e.1.1 (f i (by simpa using d))
  .cases g with
   |zero=>omega|succ g=>
    cases i with|zero=>exact f g (by simpa using c)|succ i=>exact h i g ag (by simpa using c)
def J6(c:H.V[b]?=J [x]):aF af Gt H 22 (.ptr (.box b) 0)=J x:=by rw[fI M9 c];rfl
def Sq(c:H.V[b]?=J [x]):bU af H 22 (.ptr (.box b) 0) (.ac k s es)=J (H.put b [.ac k s es]):=e7 (off:=0) (cs:=[x]) (xs:=[.ac k s es]) O awE c O (aT 1)
def Lv(c:H.V[b]?=J [x]):bU af H 23 (.ptr (.box b) 0) (.ac k s es)=J (H.put b [.ac k s es]):=e7 (off:=0) (cs:=[x]) (xs:=[.ac k s es]) O g_ c O (aT 1)
def acE:cN af 25=J 2:=ax
def ul(c:H.V[b]?=J [x,y]):aF af Gt H 25 (.ptr (.box b) 0)=J (.agg [x,y]):=by rw[gt BU acE c (aT 2)];rfl
def afm(h:rD ak)(d:∀i,i<F ak-> -1<ah ak i):∀i:Nat,i<F ak->(i:Int)<=ah ak i:=by
 intro i
 induction i with
 |zero=>intro c;have:=d 0 c;omega|succ i e=>intro c;have f:=e ag;have g:=h i (i+1) ag c;omega
def ap5:∀(ak:List Int) (last:Int),dD last ak=aa->∀i,i<F ak->ah ak i<=63:=by
 intro ak
 induction ak with
 |nil=>exactλ_ _ i c=>absurd c (qc _)|cons n f e=>
  intro last d i c;unfold dD at d;simp only[bR,decide_eq_true_eq]at d;cases i with|zero=>exact d.1.2|succ i=>exact e n d.2 i (by simpa using c)
def afl(h:dD (-1) ak=aa):F ak<=64:=by
 obtain⟨c,d⟩:=Kr ak (-1) h;rcases dR 64 (F ak) with q|q
 .have e:=afm d c 64 q;have f:=ap5 ak (-1) h 64 q;omega
 .exact q
def xo(k)(s)(l):df (.ac k s (ay l)) (.ac k s (ay l))=aa:=by
 have d:nB (ay l) (ay l)=aa:=by
  induction l with
  |nil=>simp[ay,nB]|cons n l c=>have:ay (n::l)=[((n:Int):I)]::ay l:=rfl;rw[this];simp[nB,gJ,df,ip,c]
 rw[df,d,Em];cases k<;>simp[tK]
def UU{l}{r}:(H.busy l r).app t=(H.app t).busy l r:=by cases t<;>rfl
def ajl{l}{r}{d}{e c2}:({V:=(((((H.busy l r).app t1).app t2).put c e).put d c2).V,aB:=H.aB,tn:=(((((H.busy l r).app t1).app t2).put c e).put d c2).tn,dead:=(((((H.busy l r).app t1).app t2).put c e).put d c2).dead}:am)=(((H.app t1).app t2).put c e).put d c2:=by cases t1<;>cases t2<;>rfl
def Ib(h:am)(L:List iq)(e f b3 b4 g:Nat)(i j l:List I)(xs:List I)(ae ak:List Int)(k:Nat)(H:am):Prop:=
 ∃t1 c t2 d,H.aB=L/\H.V[e]?=J [.ac t1 c ((hy xs ae ak k).map λa=>[a])]/\H.V[f]?=J [.ac t2 d (ay (cH (e_ ae ak k)))]/\(c=1∨(hy xs ae ak k=[]/\t1=.nil))/\(d=1∨(cH (e_ ae ak k)=[]/\t2=.nil))/\zO h H t1 t2/\H.V[b3]?=J i/\H.V[b4]?=J j/\H.V[g]?=J l
def aq5(l)(k:Nat):cH (l++[k])=cH l++[(k:Int)]:=by unfold cH;simp
def ap7{k}:F (cH (e_ ae ak k))<=k:=by unfold cH e_;rw[bI];exact ff (xR _ _) cB
def TQ(xs:List I)(U:List (List Int))(ae ak:List Int)(h:am)(r:dP)(h':am):Prop:=
 Ext h h'/\if cE U ae≠0 then r=.ret (.tuple [.ac .nil 0 [],.ac .nil 0 [],.ac .nil 0 [],((cE U ae:Int):I)])
  else if dD (-1) ak=ar then r=.ret (.tuple [.ac .nil 0 [],.ac .nil 0 [],.ac .nil 0 [],.v (.int .i64 1)])
  else ∃c e d f g,r=.ret (.tuple [.ac c e ((hy xs ae ak (F U)).map λa=>[a]),.ac d f (ay (cH (e_ ae ak (F U)))),.arr g 0 (b7 U) (b7 U),.v (.int .i64 0)])/\(e=1∨(hy xs ae ak (F U)=[]/\c=.nil))/\(f=1∨(cH (e_ ae ak (F U))=[]/\d=.nil))/\h'.V[g]?=J ((fT (b7 U)).map im)
def ZT33{p:Prop}(h:p:=by
 repeat' (first|simp(maxSteps:=9^9) (disch:=first|exact dZ|fail) only[gW,reduceIte,aR,aM,xk,eF,fZ,bh, *]|refine dX ?_ ?_<;>(intro _;try omega))):p:=h
def arn(h:am)(d:Tok)(s0:Nat)(xs:List I)(y z:I)(U:List (List Int))(ae ak:List Int)(hx:RL (.ac d s0 (xs.map λa=>[a])) U)(gH:F xs=F U)(E:IL y ae)(hz:IL z ak)(yH:F ak<=1099511627776)(ho:cS h=aa):
 ∃r h',W2.call 92 [.agg [.ac d s0 (xs.map λa=>[a]),y],z] h=J (r,h')/\TQ xs U ae ak h r h':=by
 obtain⟨c,c97,Z⟩:=Vn (((h.push [.ac d s0 (xs.map λa=>[a]),y]).push [.ac .nil 0 []]).push [.ac .nil 0 []]) _ y U ae hx E;have kyz:=aj.mk (au hx (au E (au hz ho)));have bx:(I.agg [.ac d s0 (xs.map λa=>[a]),y]).bL=J [.ac d s0 (xs.map λa=>[a]),y]:=by obtain⟨ky,sy,rfl,-⟩:=E;rfl
 have X1:Ext h c:=by rw[Z];exact(((Ext.push _ _).trans (.push _ _)).trans (.push _ _)).trans (.push _ _)
 have p0:c.V[F h.V]?=J [.ac d s0 (xs.map λa=>[a]),y]:=by rw[Z];exact aP (aP (aP (aQ _ _)))
 have m:c.V[F h.V+1]?=J [.ac .nil 0 []]:=by rw[Z];exact aP (aP (np (by rw[bP])))
 have j:c.V[F h.V+1+1]?=J [.ac .nil 0 []]:=by rw[Z];exact aP (np (by rw[bP,bP]))
 have K:F c.V=F h.V+4:=by rw[Z];simp only[bP]
 have ut:cS c=aa:=X1.ok ho;have l0:aF af Gt (((h.push [.ac d s0 (xs.map λa=>[a]),y]).push [.ac .nil 0 []]).push [.ac .nil 0 []]) 25 (.ptr (.box (F h.V)) 0)=J (.agg [.ac d s0 (xs.map λa=>[a]),y]):=ul (aP (aP (aQ _ _)));have tn1:c.tn=h.tn:=by rw[Z];rfl
 have kX:=aj.mk (au X1 (au ut (au K tn1)));have z22:=ax3;have z23:=ax4;have kp:=aj.mk (au p0 (au m j));have s4:=λ(e:Tok) s es=>Sq (k:=e) (s:=s) (es:=es) m;have B:=(aU.1 m).1;have C:=(aU.1 j).1;clear Z X1 p0 K ut tn1 hx E ho;unfold TQ;refine cq O func92 O ?_;generalize yB:cE U ae=pe at *
 by_cases A1:pe=0;rotate_left 1
 .have s5:bU af (c.put (F h.V+1) [.ac .nil 0 []]) 23 (.ptr (.box (F h.V+1+1)) 0) (.ac .nil 0 [])=J ((c.put (F h.V+1) [.ac .nil 0 []]).put (F h.V+1+1) [.ac .nil 0 []]):=Lv (by rw[cG ag];exact j);have m1:aF af Gt ((c.put (F h.V+1) [.ac .nil 0 []]).put (F h.V+1+1) [.ac .nil 0 []]) 22 (.ptr (.box (F h.V+1)) 0)=J (.ac .nil 0 []):=J6 (by rw[cG ag];exact dy B);have m2:aF af Gt ((c.put (F h.V+1) [.ac .nil 0 []]).put (F h.V+1+1) [.ac .nil 0 []]) 23 (.ptr (.box (F h.V+1+1)) 0)=J (.ac .nil 0 []):=tw (dy (by rw[jA];exact C));have XD:decide (pe=0)=ar:=by simp[A1]
  clear m j hz B C;refine dL @xk @bG @bP ?_;exact⟨_,_,O,(kX.M.1.gg ag _).gg ag _,by rw[aC A1]⟩
 .subst A1;obtain⟨g,f,rfl,ga⟩:=kyz.M.2.2.1;have ksz:=aj.mk ga;clear ga hz;have u23:=underlying23;have z3':=eQ;have azS:=c' ak;have T:=aj.mk yB;clear yB;refine dL @xk @bG @bP ?_;refine bJ.gen λA i iD fA w=>?_;have f1:A.get 1=.ac g f (ay ak):=by rw[i];exact gS
  have f2:A.get 2=.ptr (.box (F h.V)) 0:=by rw[i];exact gS
  have f4:A.get 4=.ptr (.box (F h.V+1)) 0:=by rw[i];simp only[gW,reduceIte,aR,aM,bP]
  have f5:A.get 5=.ptr (.box (F h.V+1+1)) 0:=by rw[i];simp only[gW,reduceIte,aR,aM,bP]
  have f8:A.get 8=.v (.int .i64 (-1)):=by rw[i];exact gS
  have f19:A.get 19=.ac g f (ay ak):=by rw[i];exact gS
  have f20:A.get 20=(F ak:Nat):=by rw[i];exact gS
  have f21:A.get 21=(0:Nat):=by rw[i];exact gR
  have fd:A.defers=[]:=by rw[iD];exact gS
  clear i iD fA w l0 c97;refine cK (λz7 z3 H=>∃(G:Nat) (last:Int),G<=F ak/\z7=F ak-G/\ -1<=last/\aj (dD last (ak.drop G)=dD (-1) ak)/\z3.get 1=.ac g f (ay ak)/\z3.get 2=.ptr (.box (F h.V)) 0/\z3.get 4=.ptr (.box (F h.V+1)) 0/\z3.get 5=.ptr (.box (F h.V+1+1)) 0/\z3.get 8=(last:Int)/\z3.get 19=.ac g f (ay ak)/\z3.get 20=(F ak:Nat)/\z3.get 21=(G:Nat)/\z3.defers=[]/\H=c) ?_ (F ak) _ _ ?_;rotate_left 1
  .exact⟨0,-1,ck _,O,Et _,⟨O⟩,f1,f2,f4,f5,f8,f19,f20,f21,fd,O⟩
  clear f1 f2 f4 f5 f8 f19 f20 f21 fd;rintro z7 z3 c ⟨G,last,hi,rfl,FP,kP,g1,g2,g4,g5,g8,g19,g20,g21,hd,rfl⟩;by_cases dx:G<F ak
  .have dY:f=1:=ksz.M (by intro z2;rw[z2,gh]at dx;omega);subst dY;have ld:=ev (H:=c) (l:=ak) (s:=1) dx;have cp:=aaE (ah ak G) c;have iy:(G:Int)<(F ak:Int):=(by omega);have p:ak.drop G=ah ak G::ak.drop (G+1):=(by rw[fy dx];exact we dx);have q:=kP.M;rw[p,dD]at q;have s5:bU af (c.put (F h.V+1) [.ac .nil 0 []]) 23 (.ptr (.box (F h.V+1+1)) 0) (.ac .nil 0 [])=J ((c.put (F h.V+1) [.ac .nil 0 []]).put (F h.V+1+1) [.ac .nil 0 []]):=Lv (by rw[cG ag];exact j);have m1:aF af Gt ((c.put (F h.V+1) [.ac .nil 0 []]).put (F h.V+1+1) [.ac .nil 0 []]) 22 (.ptr (.box (F h.V+1)) 0)=J (.ac .nil 0 []):=J6 (by rw[cG ag];exact dy B);have m2:aF af Gt ((c.put (F h.V+1) [.ac .nil 0 []]).put (F h.V+1+1) [.ac .nil 0 []]) 23 (.ptr (.box (F h.V+1+1)) 0)=J (.ac .nil 0 []):=tw (dy (by rw[jA];exact C));unfold im uv at *
   generalize ah ak G=n at *
   by_cases h1:0<=n/\n<=63
   .have i_:(decide (0<=n)&&decide (n<=63))=aa:=(by simp[h1.1,h1.2]);rw[i_]at cp;by_cases h2:n<=last
    .have jV:decide (n<=last)=aa:=(by simp[h2]);have R:dD (-1) ak=ar:=(by rw[<-q];simp;omega);have kf:=aj.mk R;clear q R p m j h2 h1 kP;refine bB @xk @bh ?_;exact⟨_,_,O,(kX.M.1.gg ag _).gg ag _,by rw[aL (by simp[T.M]),aC kf.M]⟩
    .have jV:decide (n<=last)=ar:=(by simp;omega);have kP2:aj (dD n (ak.drop (G+1))=dD (-1) ak):=⟨by rw[<-q,cy (ag:last<n),cy h1.2];rfl⟩;have h3: -1<=n:=(by omega);clear q p m j h2 h1 kP s4 s5 m1 m2;refine bB @xk @bh ?_;exact⟨F ak-(G+1),by omega,G+1,n,by omega,O,h3,kP2,by simp⟩
   .have i_:(decide (0<=n)&&decide (n<=63))=ar:=(by simp only[ac7,decide_eq_false_iff_not];omega);rw[i_]at cp;have R:dD (-1) ak=ar:=(by rw[<-q];simp only[ac7,decide_eq_false_iff_not];omega);have kf:=aj.mk R;clear q R p m j h1 kP;refine bB @xk @bh ?_;exact⟨_,_,O,(kX.M.1.gg ag _).gg ag _,by rw[aL (by simp[T.M]),aC kf.M]⟩
  .have gw:G=F ak:=(by omega);subst gw;have R:dD (-1) ak=aa:=(by rw[<-kP.M,ot (aT _)];rfl);have kf:=aj.mk R;clear R kP;obtain⟨o1,o2,o3,o4⟩:=oj T.M;obtain⟨n1,n2⟩:=pV T.M;have Xf:=(Kr ak (-1) kf.M).2;have azT:=afl kf.M;have ko:=aj.mk (au o3 Xf);have WX:(U≠[]->s0=1)/\∀(G:Nat) (a:I) (r:List Int),xs[G]?=J a->U[G]?=J r->IL a r:=(by obtain⟨k',s',xs',he,JK,-,D⟩:=kyz.M.1;injection he with _ PH he;have:=(MF (λx y h=>by injection h)).1 he;subst this;subst PH;exact⟨JK,D⟩);have kRL:=aj.mk WX;have ko1:=aj.mk o1;have l22:aF af Gt c 22 (.ptr (.box (F h.V)) 0)=J (.ac d s0 (xs.map λa=>[a])):=qu kp.M.1;have u22:=underlying22;have fG:F (xs.map λa=>[a])=F U:=(by rw[bI];exact gH);have mk:=w9 c (b7 U) ag .i64 .i64;have uh:bT (b7 U) (im 0)=(bT (b7 U) (0:Int)).map im:=(by rw[wj]);rw[uh]at mk;have sk:=vV (H:=c.push ((bT (b7 U) (0:Int)).map im)) (b:=c.V.length) (r:=bT (b7 U) (0:Int)) (k:=0) (x:=1) (aQ _ _) (by rw[oY];exact n1);have C7:(bT (b7 U) (0:Int)).set 0 1=fT (b7 U):=(by obtain⟨z6,t⟩:∃z6,b7 U=z6+1:=⟨b7 U-1,by omega⟩;rw[t];unfold fT;rw[BM];rfl);rw[mF,C7]at sk;have ix:dM af 23 (.arr (F c.V) 0 (b7 U) (b7 U)) (.v (.int .i64 0))=J (.ptr (.box (F c.V)) 0):=pC (n:=0) (k:=.i64) n1;have l25:aF af Gt (c.push ((fT (b7 U)).map im)) 25 (.ptr (.box (F h.V)) 0)=J (.agg [.ac d s0 (xs.map λa=>[a]),y]):=ul (aP kp.M.1);have ow:=apt (c.push ((fT (b7 U)).map im)) (.ac d s0 (xs.map λa=>[a])) y (.ac g f (ay ak)) bx O;have kmk:=aj.mk (au m j);have OQ:((0:Nat):Int)=0:=rfl;clear C7 uh Xf o3 o4 o1 WX m j s4 B C;unfold im at *
   have Xy:(F U=0->b7 U=1)/\∀Y,U[0]?=J Y->F Y=b7 U:=(by refine⟨λz2=>by unfold b7;rw[aC z2],λY z2=>?_⟩;exact(ko.M.1 Y (dk z2)).1);have kcols:=aj.mk Xy;clear Xy;generalize b7 U=cw at *
   have two:F U=0∨0<F U:=(by omega);rcases two with w|w
   case' inl=>
    have hc1:=kcols.M.1 w;have iu:¬((0:Int)<(F U:Int)):=(by omega);have mk':w8 af c 23 (.v (.int .i64 1)) (.v (.int .i64 1))=J (.arr (F c.V) 0 cw cw,c.push ((bT cw (0:Int)).map λn=>((n:Int):I))):=(by have:=mk;rw[show((cw:Nat):Int)=1 by omega]at this;exact this);clear w mk hc1
    repeat' (first|simp(maxSteps:=9^9) (disch:=first|exact dZ|fail) only[gW,reduceIte,aR,aM,xk,eF,fZ,bh, *]|refine dX ?_ ?_<;>(intro _;try omega))
   case' inr=>
    obtain⟨a0,OC⟩:∃a,xs[0]?=J a:=⟨_,aW ag⟩;obtain⟨Y,wS⟩:∃r,U[0]?=J r:=⟨_,aW ag⟩;have dY:s0=1:=kRL.M.1 (by intro z2;rw[z2,gh]at w;omega);have ixr:dM af 22 (.ac d s0 (xs.map λa=>[a])) (.v (.int .i64 0))=J (.elem 1 (xs.map λa=>[a]) 0 0):=(by rw[dY];exact bh u22 g_ (Et _) (by rw[fG];omega));clear dY;have ld0:=jP (H:=c) (s:=1) OC;obtain⟨ka0,sa0,rfl,-⟩:=kRL.M.2 0 a0 Y OC wS;have lT:F (ay Y)=cw:=(by rw[c'];exact kcols.M.2 Y wS);have iu:(0:Int)<(F U:Int):=(by omega);have z0:(0:Int).toNat=0:=rfl;have z23':=g_;clear OC wS
    repeat' (first|simp(maxSteps:=9^9) (disch:=first|exact dZ|fail) only[gW,reduceIte,aR,aM,xk,eF,fZ,bh, *]|refine dX ?_ ?_<;>(intro _;try omega))
   all_goals
    refine bJ.gen λe4 N rb uf ug=>?_;have f4:e4.get 4=.ptr (.box (F h.V+1)) 0:=(by rw[N];simp only[gW,reduceIte,aR,aM];exact g4);have f5:e4.get 5=.ptr (.box (F h.V+1+1)) 0:=(by rw[N];simp only[gW,reduceIte,aR,aM];exact g5);have f6:e4.get 6=.arr (F c.V) 0 cw cw:=(by rw[N];exact gS);have f50:e4.get 50=.func (.func 219) [] [.ptr (.box (F (c.push ((fT cw).map λn=>((n:Int):I))).V)) 0,.ptr (.box (F (c.push ((fT cw).map λn=>((n:Int):I))).V+1)) 0]:=(by rw[N];exact gS);have fd:e4.defers=[]:=(by rw[rb];simp only[gW,reduceIte,aR,aM];exact hd);clear N rb uf ug g1 g2 g4 g5 g8 g19 g20 g21 hd;refine Bn (by rw[yj];exact f50) λrec w1 w2 w3 w4 w5 w6=>?_;obtain⟨x1,ut,K,tn1⟩:=kX.M;obtain⟨p0,m,j⟩:=kp.M;have X3:Ext h (((c.push ((fT cw).map im)).push [.ac d s0 (xs.map λa=>[a]),y]).push [.ac g f (ay ak)]):=((x1.trans (.push _ _)).trans (.push _ _)).trans (.push _ _);have b0:(((c.push ((fT cw).map im)).push [.ac d s0 (xs.map λa=>[a]),y]).push [.ac g f (ay ak)]).V[F c.V]?=J ((fT cw).map im):=aP (aP (aQ _ _));have b1:(((c.push ((fT cw).map im)).push [.ac d s0 (xs.map λa=>[a]),y]).push [.ac g f (ay ak)]).V[F h.V+1]?=J [.ac .nil 0 []]:=aP (aP (aP m));have b2:(((c.push ((fT cw).map im)).push [.ac d s0 (xs.map λa=>[a]),y]).push [.ac g f (ay ak)]).V[F h.V+1+1]?=J [.ac .nil 0 []]:=aP (aP (aP j));have b3:(((c.push ((fT cw).map im)).push [.ac d s0 (xs.map λa=>[a]),y]).push [.ac g f (ay ak)]).V[F c.V+1]?=J [.ac d s0 (xs.map λa=>[a]),y]:=aP (np (by rw[bP]));have b4:(((c.push ((fT cw).map im)).push [.ac d s0 (xs.map λa=>[a]),y]).push [.ac g f (ay ak)]).V[F c.V+1+1]?=J [.ac g f (ay ak)]:=np (by rw[bP,bP]);have ok3:cS (((c.push ((fT cw).map im)).push [.ac d s0 (xs.map λa=>[a]),y]).push [.ac g f (ay ak)])=aa:=ut;have fQ:F (((c.push ((fT cw).map im)).push [.ac d s0 (xs.map λa=>[a]),y]).push [.ac g f (ay ak)]).aB=F c.aB:=rfl;have yp:F h.aB<=F c.aB:=x1.Dn;rw[bP]at f50;unfold im at *
    rw[bP];generalize ((c.push ((fT cw).map λn=>I.v (.int .i64 n))).push [.ac d s0 (xs.map λa=>[a]),y]).push [.ac g f (ay ak)]=o at *
    have ay4:F h.V+1<F o.V:=(aU.1 b1).1;have ay5:F h.V+1+1<F o.V:=(aU.1 b2).1;have k_:(o.loop rec).aB[F c.aB]?=J rec:=(by rw[<-fQ];exact @Be o rec);have feed:=apu (F c.aB) (F c.V+1) (F c.V+1+1) d s0 xs y (.ac g f (ay ak)) U ae ak
     (Ib h (o.loop rec).aB (F h.V+1) (F h.V+1+1) (F c.V) (F c.V+1) (F c.V+1+1) ((fT cw).map λn=>((n:Int):I)) [.ac d s0 (xs.map λa=>[a]),y] [.ac g f (ay ak)] xs ae ak)
     kyz.M.2.1 kyz.M.2.2.1 gH ko1.M.symm kRL.M.1 ko.M.2 ag ag
     (λe H z2=>by obtain⟨_,_,_,_,_,_,_,_,_,_,_,q1,X⟩:=z2;exact⟨q1,X⟩)
     ?_
     (λe H _ t z2=>by
      unfold Ib at *
      rw[aaG t,aaI t];exact z2)
     (o.loop rec) ⟨.nil,0,.nil,0,O,b1,b2,.inr ⟨O,O⟩,.inr ⟨O,O⟩,⟨.inl O,.inl O,λa z2=>(nomatch z2),ok3,X3.trans ((Fr.yO (bn:=o.V.length) (l0:=o.aB.length) (n0:=o.tn) o rec).ext (aT _) (aT _) (aT _))⟩,b0,b3,b4⟩
    rotate_left 1
    .rintro e a H hk Av t ⟨t1,s1,t2,u,i1,i2,S,i4,i5,i6,i7,i8,i9⟩;have sZ:H.aB[F c.aB]?=J rec:=(by rw[i1];exact k_);have z5:=i6;have q0:(H.busy (F c.aB) rec).V=H.V:=rfl;have e22:=λt=>aaH (xs:=xs) (ae:=ae) (ak:=ak) (k:=e) (a:=a) t Av;have e23:=aaJ (ae:=ae) (ak:=ak) (k:=e) t;have wA:=z5.app;refine GG (Post:=Ib h (o.loop rec).aB (F h.V+1) (F h.V+1+1) (F c.V) (F c.V+1) (F c.V+1+1) ((fT cw).map λn=>((n:Int):I)) [.ac d s0 (xs.map λa=>[a]),y] [.ac g f (ay ak)] xs ae ak (e+1)) sZ (by rw[w2];rfl) w5 w6 ?_;have r1:∀z4,(mG (F c.aB) rec [im (e:Nat),a]).get z4=if 52=z4 then a else if 51=z4 then im (e:Nat) else e4.get z4:=λz4=>GF w2 w1
     have d1:(mG (F c.aB) rec [im (e:Nat),a]).defers=[]:=rfl;obtain⟨z1,hK⟩:∃z1,H.busy (F c.aB) rec=z1:=⟨_,O⟩;have kc1:cY h.tn z1 t1:=(by rw[<-hK];exact z5.c1);have kc2:cY h.tn (z1.app t1) t2:=(by rw[<-hK,UU];exact wA.1);have kb1:z1.V[F h.V+1]?=J [.ac t1 s1 ((hy xs ae ak e).map λa=>[a])]:=(by rw[<-hK];exact i2);have kb2:(z1.app t1).V[F h.V+1+1]?=J [.ac t2 u (ay (cH (e_ ae ak e)))]:=(by rw[dC,<-hK];exact S);have kb22:z1.V[F h.V+1+1]?=J [.ac t2 u (ay (cH (e_ ae ak e)))]:=(by rw[<-hK];exact S);have pl1:=aaF (xs:=xs) (ae:=ae) (ak:=ak) (k:=e);have pl2:=ap7 (ae:=ae) (ak:=ak) (k:=e);have ap1:=Ul (x:=a) (ag:F (hy xs ae ak e)<1000000) i4 kc1;have ap2:=sM (x:=(e:Int)) (show(F (cH (e_ ae ak e)))<1099511627776 by omega) i5 kc2;rw[<-e22 t]at ap1;rw[<-aq5,<-e23]at ap2;have lA:=J6 kb1;have lB:=tw kb2;have lB0:=tw kb22;have sA:=Sq (H:=(z1.app t1).app t2) (b:=F h.V+1) (k:=.free z1.tn) (s:=1) (es:=(hy xs ae ak (e+1)).map λa=>[a]) (by rw[dC,dC];exact kb1);have sB:=Lv (H:=((z1.app t1).app t2).put (F h.V+1) [.ac (.free z1.tn) 1 ((hy xs ae ak (e+1)).map λa=>[a])]) (b:=F h.V+1+1) (k:=.free (z1.app t1).tn) (s:=1) (es:=ay (cH (e_ ae ak (e+1)))) (by rw[cG ag,dC];exact kb2);have blA:fF af 22 1 [(0,a)]=J (.ac .aK 1 [[a]]):=(by obtain⟨r',th⟩:∃r',U[e]?=J r':=⟨_,aW hk⟩;exact Io a (kRL.M.2 e a r' Av th).cell);have blB:=oA (e:Int);have svs:=xo t2 u (cH (e_ ae ak e));have k:aj (Ib h (o.loop rec).aB (F h.V+1) (F h.V+1+1) (F c.V) (F c.V+1) (F c.V+1+1) ((fT cw).map λn=>((n:Int):I)) [.ac d s0 (xs.map λa=>[a]),y] [.ac g f (ay ak)] xs ae ak (e+1) ((((H.app t1).app t2).put (F h.V+1) [.ac (.free H.tn) 1 ((hy xs ae ak (e+1)).map λa=>[a])]).put (F h.V+1+1) [.ac (.free (H.app t1).tn) 1 (ay (cH (e_ ae ak (e+1))))])):=by
      have AJ:=(aU.1 i2).1;have AK:=(aU.1 S).1;refine⟨_,1,_,1,?_,?_,?_,.inl O,.inl O,(wA.2.put ag _).put ag _,?_,?_,?_⟩
      .show((H.app t1).app t2).aB=_;rw[uZ,uZ];exact i1
      .rw[cG ag];exact dy (by rw[dC,dC];exact AJ)
      .exact dy (by rw[jA,dC,dC];exact AK)
      .rw[cG ag,cG ag,dC,dC];exact i7
      .rw[cG ag,cG ag,dC,dC];exact i8
      .rw[cG ag,cG ag,dC,dC];exact i9
     clear i1 i2 S i4 i5 i6 i7 i8 i9 z5 wA q0 e22 e23 b0 b1 b2 b3 b4 kb1 kb2 kb22 pl1 pl2 t Av kc1 kc2 X3 ok3 fQ p0 m j x1 ut f50;rw[hK];unfold im at *
     rw[w3,w4];refine wH ?_;refine⟨ba,ba,?_⟩;refine bJ.gen λe2 L jV pq C4=>?_;have q4:e2.get 4=.ptr (.box (F h.V+1)) 0:=(by rw[L];simp only[gW,reduceIte,aR,aM,r1];exact f4);have q5:e2.get 5=.ptr (.box (F h.V+1+1)) 0:=(by rw[L];simp only[gW,reduceIte,aR,aM,r1];exact f5);have q12:e2.get 12=(e:Int):=(by rw[L];simp only[gW,reduceIte,aR,aM,r1]);have q13:e2.get 13=a:=(by rw[L];simp only[gW,reduceIte,aR,aM,r1]);clear L jV pq C4 r1 d1 w1 w2 w3 w4 w5 w6;refine wH ?_;refine jB [(3,4)] z' ax (λz8 hp=>?_) ?_
     .simp only[js]at hp;subst hp;refine pM (x:=.ptr (.box (F h.V+1+1)) 0) (v:=.ac t2 u (ay (cH (e_ ae ak e)))) ax O O O ax (svs) ?_ ?_<;>(simp only[fe,eE];exact f_ @g'.{0} @and_self)
     refine wH ?_;have kf2:=k.M;rw[K]at kf2;refine⟨ba,?_,?_⟩
     .show((z1.app t1).app t2).aB=_;rw[uZ,uZ]
     .rw[<-hK,ajl,UU];exact kf2
    .obtain⟨Hf,c1,t1,s1,t2,u,i1,i2,S,i4,i5,i6,i7,i8,i9⟩:=feed;rw[fQ];refine⟨_,_,c1,rec,by rw[i1];exact k_,by rw[w5];decide,.inl ⟨w6,?_⟩⟩;have hf1:=(aU.1 i2).1;have CL:=(aU.1 S).1;have q1:(Hf.eM (F c.aB) {rec with state:=.exhausted}).V[F h.V+1]?=J [.ac t1 s1 ((hy xs ae ak (F U)).map λa=>[a])]:=i2;have X:(Hf.eM (F c.aB) {rec with state:=.exhausted}).V[F h.V+1+1]?=J [.ac t2 u (ay (cH (e_ ae ak (F U))))]:=S;have q7:(Hf.eM (F c.aB) {rec with state:=.exhausted}).V[F c.V]?=J ((fT cw).map λn=>((n:Int):I)):=i7;have XF:Ext h (Hf.eM (F c.aB) {rec with state:=.exhausted}):=((Fr.Bh (bn:=h.V.length) (l0:=h.aB.length) (n0:=h.tn) i6.ext (aT _)).trans (.eM yp _)).ext (aT _) (aT _) (aT _);generalize Hf.eM (F c.aB) {rec with state:=.exhausted}=HF at *
     have OY:=(aU.1 q1).1;have hg2:=(aU.1 X).1;have lA:=J6 q1;have lB:=tw X;have sA:=Sq (k:=t1) (s:=s1) (es:=(hy xs ae ak (F U)).map λa=>[a]) q1;have lB2:aF af Gt (HF.put (F h.V+1) [.ac t1 s1 ((hy xs ae ak (F U)).map λa=>[a])]) 23 (.ptr (.box (F h.V+1+1)) 0)=J (.ac t2 u (ay (cH (e_ ae ak (F U))))):=tw (by rw[cG ag];exact X);have sB:=Lv (H:=HF.put (F h.V+1) [.ac t1 s1 ((hy xs ae ak (F U)).map λa=>[a])]) (b:=F h.V+1+1) (k:=t2) (s:=u) (es:=ay (cH (e_ ae ak (F U)))) (by rw[cG ag];exact X);have eA:=jb q1;have eB:=jb (h:=HF) X;rw[eA]at sA sB lB2;rw[eB]at sB;have svs:=xo t2 u (cH (e_ ae ak (F U)));have k:=aj.mk (au XF (au i4 (au i5 q7)));clear q1 X q7 XF i1 i2 S i4 i5 i6 i7 i8 i9 c1 b0 b1 b2 b3 b4 X3 ok3 fQ p0 m j x1 ut f50 k_ w1 w2 w3 w4 w5 w6 eA eB;refine br @xk ?_;refine jB [(1,3)] z' ax (λz8 hp=>?_) ?_
     .simp only[js]at hp;subst hp;refine mI (x:=.ptr (.box (F h.V+1+1)) 0) (v:=.ac t2 u (ay (cH (e_ ae ak (F U))))) ax O O O ax (svs) ?_ ?_<;>(simp only[fe,eE];exact f_ @xk @and_self)
     refine br @xk ?_;exact⟨_,_,O,k.M.1,by rw[aL (by simp[T.M]),aL (by simp[kf.M])];exact⟨_,_,_,_,_,O,k.M.2.1,k.M.2.2.1,by rw[<-K];exact k.M.2.2.2⟩⟩
def IL.hold(h:IL x l):IL (av x) l/\aI 0 0 0 (av x)=aa:=by obtain⟨d,e,rfl,c⟩:=h;rw[av,ta];exact⟨⟨cJ d,e,O,c⟩,by rw[aI,fB,jw];rfl⟩
def AP:∀xs:List I,dV (xs.map λa=>[a])=(xs.map av).map λa=>[a]
 | []=>rfl
 |x::xs=>by rw[dK,dV,AP xs];rfl
def wE:∀xs:List I,(∀a∈xs,aI 0 0 0 a=aa)->fX 0 0 0 (xs.map λa=>[a])=aa
 | [],_=>rfl
 |x::xs,d=>by rw[dK,fX,wE xs λa c=>d a (gi _ c),aJ,d x gj];rfl
def RL.hold(h:RL (.ac k s (xs.map λa=>[a])) U):
 RL (.ac (cJ k) s ((xs.map av).map λa=>[a])) U/\∀a∈xs.map av,aI 0 0 0 a=aa:=by
 obtain⟨w,z,v,t,u,g,i⟩:=h;injection t with m o p;have q:=(MF (λx A h=>by injection h)).1 p;subst m;subst o;subst q;refine⟨⟨cJ k,s,xs.map av,O,u,by rw[bI];exact g,λl a y c j=>?_⟩,λa c=>?_⟩
 .rw[ek]at c;cases d:xs[l]? with
  |none=>rw[d]at c;cases c
  |some b=>rw[d]at c;injection c with c;rw[<-c];exact(i l b y d j).hold.1
 .obtain⟨b,r,rfl⟩:=iW.1 c;obtain⟨l,e⟩:=sK r;have f:=(aU.1 e).1;exact(i l b _ e (aW (by rw[<-g];exact f))).hold.2
def L3:List bk:=[80,81,75,66,130,202,67,69,162,111,35,100,96,97,99,241,203,193,242,92,93,74,231,222,178]
noncomputable def Re:bk->Option (List I->am->Option (I × am)):=mN W2 L3
noncomputable abbrev W3:=whole af Gt Re
def U3:nG Re L3:=t_
section
variable (a b n x:Int)
def aeC:∀h,W3.call 80 [im a,im b] h=J (.ret (im (cV a b)),h):=bX (L:=L3) O O O (T_ a b _) O rfl
def aoF:∀h,W3.call 81 [im a,im b] h=J (.ret (im (cO a b)),h):=bX (L:=L3) O O O (QB a b _) O rfl
def axz:∀h,W3.call 66 [im x] h=J (.ret (.v (.bool (b8 x))),h):=bX (L:=L3) O O O (axy x _) O rfl
def akj:∀h,W3.call 67 [im a,im b] h=J (.ret (.tuple [im (pm a b),im (rT a b)]),h):=bX (L:=L3) O O O (aki a b _) O rfl
def akp:∀h,W3.call 75 [im a,im n] h=J (.ret (.tuple [im (eO a n),im (lQ a)]),h):=bX (L:=L3) O O O (ako a n _) O rfl
def abc:∀h,W3.call 130 [im a,im b] h=J (.ret (im (cV a b)),h):=bX (L:=L3) O O O (ars a b _) O rfl
def abp:∀h,W3.call 202 [im a,im b] h=J (.ret (im (cO a b)),h):=bX (L:=L3) O O O (asS a b _) O rfl
def ase:∀h,W3.call 231 [im n] h=J (.ret (.tuple [im (if fmod n=0 then 0 else eK n),im (if fmod n=0 then 90 else 0)]),h):=bX (L:=L3) O O O (asd n _) O rfl
def auD:∀h,W3.call 111 [im x] h=J (.ret (.v (.bool (b8 x))),h):=bX (L:=L3) O O O (auC x _) O rfl
def arX:∀h,W3.call 203 [im a,im n] h=J (.ret (.tuple [im (eO a n),im (lQ a)]),h):=bX (L:=L3) O O O (arW a n _) O rfl
def ar8:∀h,W3.call 97 [im n] h=J (.ret (.agg (aD 1 n [] .nil 0 [])),h):=bX (L:=L3) O O O (ar7 n _) O rfl
end
def RL.form(h:RL x U):∃(k:Tok) (s:Nat) (xs:List I),x=.ac k s (xs.map λa=>[a])/\F xs=F U:=by obtain⟨k,s,xs,c,-,d,-⟩:=h;exact⟨k,s,xs,c,d⟩
def RL.iE(h:RL x U):RL (av x) U/\aI 0 0 0 (av x)=aa:=by obtain⟨f,g,e,rfl,-⟩:=h.form;obtain⟨c,d⟩:=h.hold;rw[av,AP];exact⟨c,by rw[aI,fB,wE _ d];rfl⟩
def ahu(x y)(U)(ae)(i:RL x U)(j:IL y ae):∀h,W3.call 35 [.agg [x,y]] h=J (.ret ((cE U ae:Int):I),h):=by obtain⟨c,d⟩:=i.iE;obtain⟨e,f⟩:=j.hold;obtain⟨k,g,-⟩:=Vn ⟨[],[],0,[]⟩ (av x) (av y) U ae c e;exact bX (L:=L3) (A:=[.agg [av x,av y]]) O O (by simp[aJ,aI,d,f]) g O rfl
def N8(l):(l.map im).map (λc=>[c])=ay l:=by unfold ay;rw[List.map_map];rfl
def A4(c:h.V[b]?=J (l.map im))(d:F l=n):ea h (.arr b 0 n n)=.ac .held 1 (ay l):=by subst d;rw[ea,c];simp only;rw[aC (by rw[bI];omega),List.drop_zero,gm (by rw[bI];exact aT _),N8]
def ah1(x y)(U)(c)(u:RL x U)(v:IL y c)(s:F U<=64)(t:∀r∈U,F r=F c)(m:F c<=64)(j:∀r∈U,∀x∈r,okF x)(k:∀x∈c,okF x):
 (pi U c=ao/\∀h,W3.call 93 [x,y] h=J (.ret (.tuple [.ac .nil 0 [],(ar:I),im 0]),h))∨∃l,pi U c=J l/\F l=F U/\∀h,W3.call 93 [x,y] h=J (.ret (.tuple [.ac .held 1 (ay l),(aa:I),im 0]),h):=by
 obtain⟨p,f⟩:=u.iE;obtain⟨q,g⟩:=v.hold;obtain⟨r,w,i,-,⟨d,rfl⟩|⟨l,b,d,e,rfl,o⟩⟩:=ah3 ⟨[],[],0,[]⟩ (av x) (av y) U c p q s t m j k O
 .exact .inl ⟨d,bX (L:=L3) (A:=[av x,av y]) O O (by simp[aJ,f,g]) i O O⟩
 .refine .inr ⟨l,d,e,bX (L:=L3) (A:=[av x,av y]) O O (by simp[aJ,f,g]) i ?_ (by simp[aI,aJ,jw,qI,im])⟩;rw[ea,ja,A4 o e];rfl
def Q8{a}(h:(hy xs ae ak n)[i]?=J a):∃j,(e_ ae ak n)[i]?=J j/\j<n/\a=xs.getD j default:=by
 unfold hy at h;rw[ek]at h;cases c:((bE n).filter λi=>ak.contains (ah ae i))[i]? with
 |none=>rw[c]at h;cases h
 |some j=>rw[c]at h;injection h with h;exact⟨j,c,gb.1 (rH.1 (dk c)).1,h.symm⟩
def aro(c)(s0)(xs:List I)(y z)(U)(ae ak)(hx:RL (.ac c s0 (xs.map λa=>[a])) U)(E:IL y ae)(hz:IL z ak)(G:F ak<=1099511627776):
 (cE U ae≠0/\∀h,W3.call 92 [.agg [.ac c s0 (xs.map λa=>[a]),y],z] h=J (.ret (.tuple [.ac .nil 0 [],.ac .nil 0 [],.ac .nil 0 [],((cE U ae:Int):I)]),h))∨
 (cE U ae=0/\dD (-1) ak=ar/\∀h,W3.call 92 [.agg [.ac c s0 (xs.map λa=>[a]),y],z] h=J (.ret (.tuple [.ac .nil 0 [],.ac .nil 0 [],.ac .nil 0 [],.v (.int .i64 1)]),h))∨
 (cE U ae=0/\dD (-1) ak=aa/\∃z0 A,RL z0 ((ey ae ak).map λi=>U.getD i [])/\IL A (cH (ey ae ak))/\∀h,W3.call 92 [.agg [.ac c s0 (xs.map λa=>[a]),y],z] h=J (.ret (.tuple [z0,A,.ac .held 1 (ay (fT (b7 U))),.v (.int .i64 0)]),h)):=by
 obtain⟨r,w⟩:=hx.hold;obtain⟨h3,h4⟩:=E.hold;obtain⟨h5,h6⟩:=hz.hold;have H:F (xs.map av)=F U:=by obtain⟨_,_,X,u,-,B,-⟩:=r;injection u with _ _ m;have o:=(MF (λx y h=>by injection h)).1 m;rw[o];exact B
 have p:bA [.agg [.ac c s0 (xs.map λa=>[a]),y],z]=[.agg [.ac (cJ c) s0 ((xs.map av).map λa=>[a]),av y],av z]:=by rw[bA,av,bA,bA,bA,av,AP];rfl
 have q:aJ 0 0 0 [.agg [.ac (cJ c) s0 ((xs.map av).map λa=>[a]),av y],av z]=aa:=by have hf:=wE _ w;rw[aJ,aI,aJ,aJ,aJ,aJ,aI,fB,hf,h4,h6];rfl
 obtain⟨z1,h',t,-,d⟩:=arn ⟨[],[],0,[]⟩ (cJ c) s0 (xs.map av) (av y) (av z) U ae ak r H h3 h5 G O;by_cases l:cE U ae≠0
 .rw[aC l]at d;subst d;exact .inl ⟨l,bX (L:=L3) O p q t O O⟩
 .rw[aL l]at d;have e:cE U ae=0:=Mm.1 l;cases T:dD (-1) ak with
  |false=>rw[aC T]at d;subst d;exact .inr (.inl ⟨e,O,bX (L:=L3) O p q t O O⟩)|true=>
   rw[aL (by rw[T];simp)]at d;obtain⟨R,s1,S,s2,tb,rfl,Z,e2,m⟩:=d;obtain⟨o1,-,-,-⟩:=oj e;have f:e_ ae ak (F U)=ey ae ak:=(by unfold e_ ey;rw[o1]);obtain⟨n1,-⟩:=pV e;have C:F (fT (b7 U))=b7 U:=(by unfold fT;simp;omega);refine .inr (.inr ⟨e,O,.ac (cJ R) s1 ((hy (xs.map av) ae ak (F U)).map λa=>[a]),.ac (cJ S) s2 (ay (cH (ey ae ak))),⟨_,_,_,O,λg=>?_,?_,λi a z1 s k=>?_⟩,⟨_,_,O,λg=>?_⟩,bX (L:=L3) O p q t ?_ ?_⟩)
   .rcases Z with j|⟨j,-⟩
    .exact j
    .exfalso;apply g;rw[<-f];unfold hy at j;unfold e_;rw[BK]at j;rw[j];rfl
   .rw[bI,<-f];unfold hy e_;rw[bI]
   .obtain⟨Y,K,N,rfl⟩:=Q8 s;rw[f]at K;rw[ek,K]at k;injection k with k;subst k;obtain⟨_,_,X,u,-,B,D⟩:=r;injection u with _ _ e5;have o:=(MF (λx y h=>by injection h)).1 e5;subst o;refine D Y _ _ ?_ ?_
    .rw[fc,aW ag];rfl
    .show U[Y]?=J (U.getD Y []);rw[fc,aW N];rfl
   .rcases e2 with j|⟨j,-⟩
    .exact j
    .rw[f]at j;exact absurd j g
   .rw[ea,ja,ja,ja,A4 m C,f];rfl
   .have v:fX 0 0 0 ((hy (xs.map av) ae ak (F U)).map λa=>[a])=aa:=wE _ λa s=>(by obtain⟨i,hi⟩:=sK s;obtain⟨Y,-,N,rfl⟩:=Q8 hi;refine w _ ?_;rw[fc,aW ag];exact jG _);cases R<;>cases S<;>simp[aI,aJ,cJ,jw,v,qI]
def DZ:Tryz.f39.results.toList=[.tmp 4,.tmp 5,.tmp 6]:=ax
def mf(n:Nat)(c:List Nat)(l:List Int)(j:Nat):List Int:=(c.zipIdx.take j).foldl (λe d=>e.set d.1 (ah l d.2)) (bT n 0)
def Ls{c}:F (mf n c l j)=n:=by unfold mf;rw[Fj (λd=>ah l d.2),oY]
def ab5{p}{c}(h:c[j]?=J p):(mf n c l j).set p (ah l j)=mf n c l (j+1):=by
 have d:c.zipIdx[j]?=J (p,j):=by rw[adH,h];simp
 unfold mf;rw[fS d,nJ];rfl
def Lr{c}:mf n c l (F c)=qH n c l:=by unfold mf qH;rw[gm cB]
def aa5{l}{p:Nat}(h:l[j]?=J p):ah (cH l) j=(p:Int):=by
 have:(cH l)[j]?=J (p:Int):=by unfold cH;rw[ek,h];rfl
 unfold ah;rw[fc,this];rfl
def S5(U:List (List Int))(ae ak:List Int)(h:am)(r:dP)(h':am):Prop:=
 Ext h h'/\((∃d,fg U ae ak=([],ar,d)/\r=.ret (.tuple [.ac .nil 0 [],(ar:I),((d:Int):I)]))∨∃c b,fg U ae ak=(c,aa,0)/\F c=F U/\r=.ret (.tuple [.arr b 0 (F U) (F U),(aa:I),.v (.int .i64 0)])/\h'.V[b]?=J (c.map im))
def aez(h:am)(f:Tok)(s0:Nat)(xs:List I)(y z:I)(U:List (List Int))(ae ak:List Int)(m:RL (.ac f s0 (xs.map λa=>[a])) U)(E:IL y ae)(hz:IL z ak)(yH:F ak<=1099511627776):
 ∃r h',W3.call 39 [.agg [.ac f s0 (xs.map λa=>[a]),y],z] h=J (r,h')/\S5 U ae ak h r h':=by
 have hq:=aro f s0 xs y z U ae ak m E hz yH;obtain⟨_,_,xs',he,X⟩:=m.form;have JS:F (xs.map λa=>[a])=F U:=by injection he with _ _ e5;rw[e5,bI];exact X
 have bx:(I.agg [.ac f s0 (xs.map λa=>[a]),y]).bL=J [.ac f s0 (xs.map λa=>[a]),y]:=by obtain⟨ky,sy,rfl,-⟩:=E;rfl
 have Y:(h.push [.ac f s0 (xs.map λa=>[a]),y]).V[F h.V]?=J [.ac f s0 (xs.map λa=>[a]),y]:=aQ _ _;have l25:=ul Y;have l22:=qu Y;have u23:=underlying23;have u22:=underlying22;have z3:=eQ;clear he X m E hz Y;unfold S5;have d:fg U ae ak=if cE U ae≠0 then ([],ar,cE U ae) else if !dD (-1) ak then ([],ar,1) else match pi ((ey ae ak).map λG=>U.getD G []) (fT (b7 U)) with|none=>([],ar,0)|some p=>(qH (F U) (ey ae ak) p,aa,0):=rfl
 refine cq O func39 O ?_;rcases hq with⟨e,z2⟩|⟨e,v,z2⟩|⟨e,v,z6,z7,hX,hA,z2⟩
 .rw[aC e]at d;generalize cE U ae=pe at *
  have XD:decide (pe=0)=ar:=by simp[e]
  have o:=aj.mk d;clear d e;refine bB @DZ @bG ?_;exact⟨_,_,O,.push _ _,.inl ⟨pe,o.M,O⟩⟩
 .rw[aL (by simp[e]),aC (by rw[v];rfl)]at d;have o:=aj.mk d;clear d e v;refine bB @DZ @bG ?_;exact⟨_,_,O,.push _ _,.inl ⟨1,o.M,O⟩⟩
 .rw[aL (by simp[e]),aL (by rw[v];simp)]at d;obtain⟨o1,o2,L,-⟩:=oj e;obtain⟨n1,n2⟩:=pV e;have T:F (fT (b7 U))=b7 U:=by unfold fT;simp;omega
  have i:∀G∈ey ae ak,G<F U:=λG K=>by unfold ey at K;rw[o1];exact gb.1 (rH.1 K).1
  have nZ:F (ey ae ak)<=64:=by unfold ey;exact ff (xR _ _) (by rw[ME];omega)
  have j:∀r∈(ey ae ak).map λG=>U.getD G [],r∈U:=λr C=>by obtain⟨G,K,rfl⟩:=iW.1 C;have:=i G K;rw[fc,aW this];exact jG _
  have OL:=ah1 z6 (.ac .held 1 (ay (fT (b7 U)))) _ (fT (b7 U)) hX ⟨_,_,O,λ_=>rfl⟩ (by rw[bI];exact nZ) (λr C=>by rw[T];exact(L r (j r C)).1) (by rw[T];exact n2) (λr C=>(L r (j r C)).2.2.2) (λx m=>by
   unfold fT at m;rcases gX.1 m with rfl|m
   .exact⟨aZ,by decide⟩
   .rw[List.eq_of_mem_replicate m];exact⟨aZ,by decide⟩)
  rcases OL with⟨A,H⟩|⟨p,A,e2,H⟩
  .rw[A]at d;have o:=aj.mk d;unfold im at H;clear d e v A j i L;refine bB @DZ @bG ?_;exact⟨_,_,O,.push _ _,.inl ⟨0,o.M,O⟩⟩
  .rw[A]at d;have o:=aj.mk d;have mk:=w9 (h.push [.ac f s0 (xs.map λa=>[a]),y]) (F U) ag .i64 .i64;have D:bT (F U) (im 0)=(mf (F U) (ey ae ak) p 0).map im:=(by unfold mf;rw[eE,Ey,wj]);rw[D]at mk;rw[bI]at e2;have ko:=aj.mk i;obtain⟨ka,sa,rfl,S⟩:=hA;have ksa:=aj.mk S;have vw:=P7 (ey ae ak);have fQ:=c' p;clear d e v A j i L D hX S;unfold im at H mk;generalize ey ae ak=c at *
   clear o1;refine dL @DZ @bG @eF ?_;refine bJ.gen λu g N fA eg=>?_;have f4:u.get 4=.arr (F h.V+1) 0 (F U) (F U):=(by rw[g];simp only[gW,reduceIte,aR,aM,bP]);have f10:u.get 10=.ac .held 1 (ay p):=(by rw[g];exact gS);have f42:u.get 42=.ac ka sa (ay (cH c)):=(by rw[g];exact gS);have f43:u.get 43=(F c:Nat):=(by rw[g];exact gS);have f44:u.get 44=(0:Nat):=(by rw[g];exact gR);have fd:u.defers=[]:=(by rw[N];exact gS);clear g N fA eg mk z2 H l25 l22;have B:F (h.push [.ac f s0 (xs.map λa=>[a]),y]).V=F h.V+1:=bP _ _;have X1:Ext h (h.push [.ac f s0 (xs.map λa=>[a]),y]):=.push _ _;generalize h.push [.ac f s0 (xs.map λa=>[a]),y]=w at *
   have kX:=aj.mk (au X1 B);clear X1;refine cK (λz5 Z z0=>∃l:Nat,l<=F c/\z5=F c-l/\Z.get 4=.arr (F h.V+1) 0 (F U) (F U)/\Z.get 10=.ac .held 1 (ay p)/\Z.get 42=.ac ka sa (ay (cH c))/\Z.get 43=(F c:Nat)/\Z.get 44=(l:Nat)/\Z.defers=[]/\z0=w.push ((mf (F U) c p l).map im)) ?_ (F c) _ _ ?_;rotate_left 1
   .exact⟨0,ck _,O,f4,f10,f42,f43,f44,fd,O⟩
   clear f4 f10 f42 f43 f44 fd;rintro z5 Z z0 ⟨l,hj,rfl,g4,g10,g42,g43,g44,hd,rfl⟩;by_cases q:l<F c
   .obtain⟨z1,t⟩:∃z1,c[l]?=J z1:=⟨_,aW q⟩;have R:=ko.M z1 (dk t);have dY:sa=1:=ksa.M (by intro z4;unfold cH at z4;rw[BK]at z4;rw[z4]at q;exact qc _ q);subst dY;have l0:=ev (H:=w.push ((mf (F U) c p l).map im)) (l:=cH c) (i:=l) (s:=1) (by unfold cH;rw[bI];exact q);rw[aa5 t]at l0;have l1:=ev (H:=w.push ((mf (F U) c p l).map im)) (l:=p) (i:=l) (s:=1) ag;have ix3:=pC (b:=F h.V+1) (len:=U.length) (aY:=U.length) (k:=.i64) R;have sk:=vV (H:=w.push ((mf (F U) c p l).map im)) (b:=w.V.length) (r:=mf (F U) c p l) (k:=z1) (x:=ah p l) (aQ _ _) (by rw[Ls];exact R);rw[mF,ab5 t,B]at sk;have iy:(l:Int)<(F c:Int):=(by omega);unfold im at *
    clear t B;refine bB @DZ @bh ?_;exact⟨F c-(l+1),by omega,l+1,by omega,O,by simp⟩
   .have nY:l=F c:=(by omega);subst nY;refine br @DZ ?_;refine⟨_,_,O,kX.M.1.trans (.push _ _),.inr ⟨_,F h.V+1,o.M,?_,O,?_⟩⟩
    .rw[<-Lr,Ls]
    .rw[<-Lr];exact np kX.M.2.symm
def IS(H:am)(x:I)(l:List Int):Prop:=IL x l∨∃b,x=.arr b 0 (F l) (F l)/\H.V[b]?=J (l.map im)
def IS.mono(s:IS H x l)(m:∀(c:Nat) cs,H.V[c]?=J cs->H'.V[c]?=J cs):IS H' x l:=by
 rcases s with f|⟨b,d,e⟩
 .exact .inl f
 .exact .inr ⟨b,d,m _ _ e⟩
def IS.len(s:IS H x l):dp af 23 x=J ((F l:Nat):I):=by
 rcases s with⟨c,d,rfl,-⟩|⟨b,rfl,-⟩
 .rw[Qn underlying23,c']
 .rw[Gc underlying23]
def IS.at(s:IS H x l)(hi:i<F l):∃a,dM af 23 x ((i:Nat):I)=J a/\∀H':am,IS H' x l->aF af Gt H' 3 a=J (ah l i:I):=by
 rcases s with⟨d,k,rfl,h⟩|⟨b,rfl,o⟩
 .have:k=1:=h (by intro e;rw[e]at hi;exact qc _ hi);subst this;have e:=bh (t:=23) (k:=d) (kk:=.i64) (sz:=1) (es:=ay l) (a:=((i:Nat):Int)) underlying23 eQ ag (by rw[c'];omega);rw[eD]at e;exact⟨_,e,λH' _=>ev hi⟩
 .refine⟨.ptr (.box b) i,pC (b:=b) (len:=l.length) (aY:=l.length) (n:=i) (k:=.i64) hi,λH' j=>?_⟩;rcases j with⟨d,k,f,-⟩|⟨m,f,c⟩
  .cases f
  .injection f with g;subst g;exact wZ c (vJ hi)
def La:Tryz.f233.results.toList=[.tmp 6]:=ax
def atP:Tryz.f232.results.toList=[.tmp 4]:=ax
def Zt(h:am)(x y:I)(a own:List Int)(n:Int)(q:IS h x a)(A:IS h y own)(v:F own=F a)(H:F a<=1000000):
 ∃r h',W3.call 233 [x,y,im n] h=J (r,h')/\Ext h h'/\r=.ret (.arr (F h.V) 0 (F a) (F a))/\h'.V[F h.V]?=J ((ii n a own).map im):=by
 have s:=w9 h (F a) H .i64 .i64;have l:=aj.mk (au q A);have lx:=q.len;have j:bT (F a) (im 0)=(jK (λd=>jj n (ah a d) (ah own d)) (bT (F a) 0) 0 0).map im:=by rw[VE,wj]
 rw[j]at s;unfold im at s;clear q A j;refine cq O func233 O ?_;unfold im;refine br @La ?_;refine bJ.gen λi e m w z=>?_;have f0:i.get 0=x:=by rw[e];exact gS
 have f1:i.get 1=y:=by rw[e];exact gS
 have f2:i.get 2=(n:Int):=by rw[e];exact gS
 have f7:i.get 7=.arr (F h.V) 0 (F a) (F a):=by rw[e];exact gS
 have f8:i.get 8=(0:Nat):=by rw[e];exact gR
 have u:i.defers=[]:=by rw[m];exact gS
 clear e m w z s;refine cK (λN p D=>∃c:Nat,c<=F a/\N=F a-c/\p.get 0=x/\p.get 1=y/\p.get 2=(n:Int)/\p.get 7=.arr (F h.V) 0 (F a) (F a)/\p.get 8=(c:Nat)/\p.defers=[]/\D=h.push ((jK (λd=>jj n (ah a d) (ah own d)) (bT (F a) 0) 0 c).map im)) ?_ (F a) _ _ ?_;rotate_left 1
 .exact⟨0,ck _,O,f0,f1,f2,f7,f8,u,O⟩
 clear f0 f1 f2 f7 f8 u;rintro N p D ⟨c,hk,rfl,Z,g1,g2,g7,g8,hd,rfl⟩;by_cases g:c<F a
 .obtain⟨R,i1,B⟩:=l.M.1.at g;obtain⟨S,j1,C⟩:=l.M.2.at (ag:c<F own);have l1:=B (h.push ((jK (λd=>jj n (ah a d) (ah own d)) (bT (F a) 0) 0 c).map im)) (l.M.1.mono λ_ _ K=>aP K);have l2:=C (h.push ((jK (λd=>jj n (ah a d) (ah own d)) (bT (F a) 0) 0 c).map im)) (l.M.2.mono λ_ _ K=>aP K);have T:=λh=>abp n (ah own c) h;have X:=λh=>abc (ah a c) (0-cO n (ah own c)) h;have fl:jj n (ah a c) (ah own c)=cV (ah a c) (0-cO n (ah own c)):=by rw[Tm];rfl
  have Y:=w_ (Fi n (ah own c));have o:F (bT a.length (0:Int))=F a:=oY;have L:=vV (H:=h.push ((jK (λd=>jj n (ah a d) (ah own d)) (bT (F a) 0) 0 c).map im)) (b:=h.V.length) (r:=jK (λd=>jj n (ah a d) (ah own d)) (bT (F a) 0) 0 c) (k:=c) (x:=jj n (ah a c) (ah own c)) (aQ _ _) (by rw[qW,o];exact g);have t:=VD (f:=λd=>jj n (ah a d) (ah own d)) (a:=bT (F a) 0) (ck c) (by rw[o];exact g);rw[mF,t,fl]at L;have ix:=pC (b:=h.V.length) (len:=a.length) (aY:=a.length) (k:=.i64) g;have G:(c:Int)<(F a:Int):=by omega
  clear B C t fl;generalize cO n (ah own c)=z0 at *
  unfold im at *
  refine br @La ?_;refine eI U3 ax ?_;refine br @La ?_;exact⟨F a-(c+1),by omega,c+1,by omega,O,by simp⟩
 .have:c=F a:=by omega
  subst this;refine br @La ?_;refine⟨_,_,O,.push _ _,O,?_⟩;rw[aQ];congr 2;refine vO (by rw[qW,uq v.symm,oY]) λd k=>?_;rw[qW,oY]at k;rw[Cf (by rw[oY];exact k),aC ⟨ck _,k⟩,u_ v.symm k]
def aw6(h:am)(x:I)(a:List Int)(n:Int)(e:IS h x a)(f:F a<=1000000)(m:0<=n/\n<=9223372036854775807):
 ∃r h',W3.call 232 [x,im n] h=J (r,h')/\Ext h h'/\∃b,r=.ret (.arr b 0 (F a) (F a))/\h'.V[b]?=J ((scaleB a n).map im):=by
 have j:=w9 h (F a) f .i64 .i64;have o:=e.len;have g:(h.push (bT (F a) (im 0))).V[F h.V]?=J ((bT (F a) (0:Int)).map im):=by rw[aQ,wj]
 have c:F (bT a.length (0:Int))=F a:=oY;obtain⟨r,h',l,k,rfl,d⟩:=Zt (h.push (bT (F a) (im 0))) (.arr (F h.V) 0 (F a) (F a)) x (bT (F a) 0) a (0-n) (.inr ⟨F h.V,by rw[c],g⟩) (e.mono λ_ _ p=>aP p) c.symm (by rw[c];exact f);rw[c]at l;rw[Tm]at d;have i:=aj.mk (au k d);clear e g c k d;unfold im at l j ⊢;refine cq O func232 O ?_;refine br @atP ?_;exact⟨_,_,O,(Ext.push _ _).trans i.M.1,_,O,i.M.2⟩
def GQ:Tryz.f230.results.toList=[.tmp 2]:=ax
def aaf(h:am)(x:I)(l:List Int)(C:IL x l)(T:F l<=1000000):∃r h',W3.call 230 [x] h=J (r,h')/\h'=h/\r=.ret (.v (.bool (l.all cA))):=by
 obtain⟨X,E,rfl,t⟩:=C;have D:=aj.mk t;clear t;have K:=underlying23;have z3:=eQ;have G:=c' l;refine cq O func230 O ?_;refine br @GQ ?_;refine cK (λH A z=>∃c:Nat,c<=F l/\H=F l-c/\aj ((l.take c).all cA=aa)/\A.get 0=.ac X E (ay l)/\A.get 3=(c:Nat)/\A.defers=[]/\z=h) ?_ (F l) _ _ ?_;rotate_left 1
 .refine⟨0,ck _,O,⟨cB⟩,?_,?_,?_,O⟩<;>exact gR
 rintro H A z ⟨c,S,rfl,v,L,N,R,rfl⟩;by_cases d:c<F l
 .have u:E=1:=D.M (by intro Z;rw[Z]at d;simp at d);subst u;have Y:=ev (H:=z) (s:=1) d;have m:l[c]?=J (ah l c):=by rw[aW d,fy d]
  have B:(c:Int)<(F l:Int):=by omega
  have e:(l.take (c+1)).all cA=cA (ah l c):=by rw[fS m,rE,v.M];simp
  have j:=dk m;have p:=aj.mk (au e j);have f:cA (ah l c)=(decide (0<=ah l c)&&decide (ah l c<1073741789)):=rfl;clear m e j;generalize ah l c=n at *
  by_cases g:n<0
  .have q:decide (n<0)=aa:=(by simp[g]);have i:l.all cA=ar:=(by rw[HI];exact⟨n,p.M.2,by rw[f];simp;omega⟩);have o:=aj.mk i;clear i f g;refine bB @GQ @bh ?_;exact⟨_,_,O,O,by rw[o.M]⟩
  .have q:decide (n<0)=ar:=(by simp[g]);by_cases k:1073741789<=n
   .have s:decide (1073741789<=n)=aa:=(by simp[k]);have i:l.all cA=ar:=(by rw[HI];exact⟨n,p.M.2,by rw[f];simp;omega⟩);have o:=aj.mk i;clear i f g k;refine bB @GQ @bh ?_;exact⟨_,_,O,O,by rw[o.M]⟩
   .have s:decide (1073741789<=n)=ar:=(by simp;omega);have y:aj ((l.take (c+1)).all cA=aa):=⟨by rw[p.M.1,f];simp;omega⟩;clear f g k;refine bB @GQ @bh ?_;exact⟨F l-(c+1),by omega,c+1,by omega,O,y,by simp⟩
 .have:c=F l:=by omega
  subst this;have:=v.M;rw[gu]at this;have w:=aj.mk this;clear this;refine br @GQ ?_;exact⟨_,_,O,O,by rw[w.M]⟩
def DT:Tryz.f229.results.toList=[.tmp 2]:=ax
def YL(h:∀x∈l,okF x):l.all cA=aa:=by rw[e8];intro x e;obtain⟨c,d⟩:=h x e;unfold cA;simp[c,d]
def ary(h:am)(x:I)(U:List (List Int))(w:Nat)(hx:RL x U)(hr:F U<=64)(X:∀r∈U,F r=w)(tj:w<=64)(v:∀r∈U,∀x∈r,okF x):∃h',W3.call 229 [x] h=J (.ret (.v (.int .i64 0)),h')/\h'=h:=by
 obtain⟨z2,z,k,rfl,T,Y,y⟩:=hx;have f:=aj.mk (au T (au y (au X v)));clear T y X v;have u23:=underlying23;have u22:=underlying22;have z23:=g_;have fG:F (k.map λa=>[a])=F U:=by rw[bI];exact Y
 have Ok:¬((64:Int)<(F U:Int)):=by omega
 refine ie O func229 O ?_;refine br @DT ?_;refine cK (λz1 t m=>∃e:Nat,e<=F U/\z1=F U-e/\t.get 0=.ac z2 z (k.map λa=>[a])/\t.get 3=(e:Nat)/\t.defers=[]/\m=h) ?_ (F U) _ _ ?_;rotate_left 1
 .refine⟨0,ck _,O,?_,?_,?_,O⟩<;>exact gR
 rintro z1 t m ⟨e,N,rfl,B,g3,C,rfl⟩;by_cases c:e<F U
 .have q:z=1:=f.M.1 (by intro z3;rw[z3]at c;simp at c);subst q;obtain⟨a,d⟩:∃a,k[e]?=J a:=⟨_,aW ag⟩;obtain⟨r,i⟩:∃r,U[e]?=J r:=⟨_,aW c⟩;have ld:=jP (H:=m) (s:=1) d;obtain⟨Z,sa,rfl,l⟩:=f.M.2.1 e a r d i;have g:=f.M.2.2.1 r (dk i);have E:F (ay r)=w:=by rw[c'];exact g
  have D:(e:Int)<(F U:Int):=by omega
  have hwd:¬((64:Int)<(w:Int)):=by omega
  clear d i l g;refine bB @DT @bh ?_;exact⟨F U-(e+1),by omega,e+1,by omega,O,by simp⟩
 .refine br @DT ?_;refine bJ.gen λA o u R S=>?_;have f0:A.get 0=.ac z2 z (k.map λa=>[a]):=by rw[o];simp only[gW,reduceIte,aR,aM];exact B
  have f4:A.get 4=(0:Nat):=by rw[o];exact gR
  have L:A.defers=[]:=by rw[u];simp only[gW,reduceIte,aR,aM];exact C
  clear o u R S B g3 C N c;refine cK (λz1 t H2=>∃e:Nat,e<=F U/\z1=F U-e/\t.get 0=.ac z2 z (k.map λa=>[a])/\t.get 4=(e:Nat)/\t.defers=[]/\H2=m) ?_ (F U) _ _ ?_;rotate_left 1
  .exact⟨0,ck _,O,f0,f4,L,O⟩
  clear f0 f4 L;rintro z1 t m ⟨e,N,rfl,B,g4,C,rfl⟩;by_cases c:e<F U
  .have q:z=1:=f.M.1 (by intro z3;rw[z3]at c;simp at c);subst q;obtain⟨a,d⟩:∃a,k[e]?=J a:=⟨_,aW ag⟩;obtain⟨r,i⟩:∃r,U[e]?=J r:=⟨_,aW c⟩;obtain⟨a0,j⟩:∃a,k[0]?=J a:=⟨_,aW ag⟩;obtain⟨H,s⟩:∃r,U[0]?=J r:=⟨_,aW ag⟩;have ld:=jP (H:=m) (s:=1) d;have ld0:=jP (H:=m) (s:=1) j;obtain⟨Z,sa,rfl,l⟩:=f.M.2.1 e a r d i;obtain⟨ka0,sa0,rfl,G⟩:=f.M.2.1 0 a0 H j s;have g:=f.M.2.2.1 r (dk i);have p:=f.M.2.2.1 H (dk s);obtain⟨_,H5,cc,K,rfl⟩:=aaf m (.ac Z sa (ay r)) r ⟨_,_,O,l⟩ ag;rw[K,YL (f.M.2.2.2 r (dk i))]at cc;have E:F (ay r)=w:=(by rw[c'];exact g);have alJ:F (ay H)=w:=(by rw[c'];exact p);have D:(e:Int)<(F U:Int):=(by omega);have Oj:(0:Int)<(F U:Int):=(by omega);have z0:(0:Int).toNat=0:=rfl;have Je:decide ((w:Int)=(w:Int))=aa:=(by simp);clear d i l g j s G p K;refine bB @DT @bh ?_;refine eI U3 ax ?_;refine bB @DT @bh ?_;exact⟨F U-(e+1),by omega,e+1,by omega,O,by simp⟩
  .refine br @DT ?_;exact⟨_,O,O⟩
def abA:Tryz.f174.results.toList=[.tmp 4]:=ax
def arM(h:am)(x y:I)(U:List (List Int))(c:List Int)(u:RL x U)(w:IL y c)(L:F U<=64)(j:∀r∈U,F r=F c)(t:F c<=64)(k:∀r∈U,∀x∈r,okF x)(l:∀x∈c,okF x):
 W3.call 174 [x,y] h=J (.ret (.v (.int .i64 0)),h):=by
 obtain⟨C,A,o⟩:=ary h x U (F c) u L j t k;rw[o]at A;obtain⟨_,D,B,p,rfl⟩:=aaf h y c w ag;rw[p,YL l]at B;clear o p C D;obtain⟨z3,z1,z,rfl,q,v,g⟩:=u;obtain⟨ky,sy,rfl,Z⟩:=w;have u23:=underlying23;have u22:=underlying22;have z23:=g_;have Y:F (z.map λa=>[a])=F U:=by rw[bI];exact v
 have G:=c' c;have T:¬((64:Int)<(F c:Int)):=by omega
 clear k l;refine cX O func174 O ?_;by_cases i:F U=0
 .have K:decide ((0:Int)<(F U:Int))=ar:=cR ag;clear j g i;exact iT @abA
 .have K:decide ((0:Int)<(F U:Int))=aa:=cy ag;obtain⟨a0,d⟩:∃a,z[0]?=J a:=⟨_,aW ag⟩;obtain⟨m,f⟩:∃r,U[0]?=J r:=⟨_,aW ag⟩;have s:z1=1:=q (by intro z2;rw[z2]at i;simp at i);subst s;have ld0:=jP (H:=h) (s:=1) d;obtain⟨ka0,sa0,rfl,R⟩:=g 0 a0 m d f;have e:=j m (dk f);have N:F (ay m)=F c:=by rw[c'];exact e
  have S:(0:Int)<(F U:Int):=by omega
  have z0:(0:Int).toNat=0:=rfl;have X:decide ((F c:Int)=(F c:Int))=aa:=by simp
  clear j g d f e q i;exact f_ @abA @bh
def L4:List bk:=[80,81,75,66,130,202,67,39,69,162,111,35,100,96,97,99,241,203,193,242,74,174,231,232,233,222,178]
noncomputable def DJ:bk->Option (List I->am->Option (I × am)):=mN W3 L4
noncomputable abbrev W4:=whole af Gt DJ
def vf:nG DJ L4:=t_
section
variable (a b n x:Int)
def Ua:∀h,W4.call 80 [im a,im b] h=J (.ret (im (cV a b)),h):=bX (L:=L4) O O O (aeC a b _) O rfl
def ZT:∀h,W4.call 81 [im a,im b] h=J (.ret (im (cO a b)),h):=bX (L:=L4) O O O (aoF a b _) O rfl
def acO:∀h,W4.call 66 [im x] h=J (.ret (.v (.bool (b8 x))),h):=bX (L:=L4) O O O (axz x _) O rfl
def akk:∀h,W4.call 67 [im a,im b] h=J (.ret (.tuple [im (pm a b),im (rT a b)]),h):=bX (L:=L4) O O O (akj a b _) O rfl
def Of:∀h,W4.call 75 [im a,im n] h=J (.ret (.tuple [im (eO a n),im (lQ a)]),h):=bX (L:=L4) O O O (akp a n _) O rfl
def art:∀h,W4.call 130 [im a,im b] h=J (.ret (im (cV a b)),h):=bX (L:=L4) O O O (abc a b _) O rfl
def asT:∀h,W4.call 202 [im a,im b] h=J (.ret (im (cO a b)),h):=bX (L:=L4) O O O (abp a b _) O rfl
def asf:∀h,W4.call 231 [im n] h=J (.ret (.tuple [im (if fmod n=0 then 0 else eK n),im (if fmod n=0 then 90 else 0)]),h):=bX (L:=L4) O O O (ase n _) O rfl
def auE:∀h,W4.call 111 [im x] h=J (.ret (.v (.bool (b8 x))),h):=bX (L:=L4) O O O (auD x _) O rfl
def arY:∀h,W4.call 203 [im a,im n] h=J (.ret (.tuple [im (eO a n),im (lQ a)]),h):=bX (L:=L4) O O O (arX a n _) O rfl
def ar9:∀h,W4.call 97 [im n] h=J (.ret (.agg (aD 1 n [] .nil 0 [])),h):=bX (L:=L4) O O O (ar8 n _) O rfl
end
def anN(x y)(a own)(n)(l:IL x a)(m:IL y own)(c:F own=F a)(k:F a<=1000000):∀h,W4.call 233 [x,y,im n] h=J (.ret (.ac .held 1 (ay (ii n a own))),h):=by obtain⟨d,e⟩:=l.hold;obtain⟨f,g⟩:=m.hold;obtain⟨p,o,j,-,rfl,i⟩:=Zt ⟨[],[],0,[]⟩ (av x) (av y) a own n (.inl d) (.inl f) c k;exact bX (L:=L4) (A:=[av x,av y,im n]) O O (by simp[aJ,e,g,aI,im]) j (A4 i (uq c.symm)) (by simp[aI,jw,qI])
def abT(a)(n):F (scaleB a n)=F a:=by unfold scaleB;rw[uq (by rw[oY]),oY]
def aw7(x)(a)(n)(j:IL x a)(i:F a<=1000000)(g:0<=n/\n<=9223372036854775807):∀h,W4.call 232 [x,im n] h=J (.ret (.ac .held 1 (ay (scaleB a n))),h):=by obtain⟨c,d⟩:=j.hold;obtain⟨l,k,f,-,b,rfl,e⟩:=aw6 ⟨[],[],0,[]⟩ (av x) a n (.inl c) i g;exact bX (L:=L4) (A:=[av x,im n]) O O (by simp[aJ,d,aI,im]) f (A4 e (abT a n)) (by simp[aI,jw,qI])
def aew(c)(s0)(xs:List I)(y z)(U)(ae ak)(v:RL (.ac c s0 (xs.map λa=>[a])) U)(w:IL y ae)(A:IL z ak)(k:F ak<=1099511627776):
 (∃e,fg U ae ak=([],ar,e)/\∀h,W4.call 39 [.agg [.ac c s0 (xs.map λa=>[a]),y],z] h=J (.ret (.tuple [.ac .nil 0 [],(ar:I),((e:Int):I)]),h))∨
 ∃l,fg U ae ak=(l,aa,0)/\F l=F U/\∀h,W4.call 39 [.agg [.ac c s0 (xs.map λa=>[a]),y],z] h=J (.ret (.tuple [.ac .held 1 (ay l),(aa:I),.v (.int .i64 0)]),h):=by
 obtain⟨o,p⟩:=v.hold;obtain⟨q,r⟩:=w.hold;obtain⟨s,t⟩:=A.hold;have g:bA [.agg [.ac c s0 (xs.map λa=>[a]),y],z]=[.agg [.ac (cJ c) s0 ((xs.map av).map λa=>[a]),av y],av z]:=by rw[bA,av,bA,bA,bA,av,AP];rfl
 have i:aJ 0 0 0 [.agg [.ac (cJ c) s0 ((xs.map av).map λa=>[a]),av y],av z]=aa:=by have u:=wE _ p;rw[aJ,aI,aJ,aJ,aJ,aJ,aI,fB,u,r,t];rfl
 obtain⟨C,B,j,-,⟨e,d,rfl⟩|⟨l,b,d,f,rfl,m⟩⟩:=aez ⟨[],[],0,[]⟩ (cJ c) s0 (xs.map av) (av y) (av z) U ae ak o q s k
 .exact .inl ⟨e,d,bX (L:=L4) O g i j O O⟩
 .refine .inr ⟨l,d,f,bX (L:=L4) O g i j ?_ (by simp[aI,aJ,jw,qI])⟩;rw[ea,ja,A4 m f];rfl
def arN(x y)(U)(c)(o:RL x U)(p:IL y c)(l:F U<=64)(m:∀r∈U,F r=F c)(f:F c<=64)(d:∀r∈U,∀x∈r,okF x)(e:∀x∈c,okF x):
 ∀h,W4.call 174 [x,y] h=J (.ret (.v (.int .i64 0)),h):=by
 obtain⟨g,i⟩:=o.iE;obtain⟨j,k⟩:=p.hold;exact bX (L:=L4) (A:=[av x,av y]) O O (by simp[aJ,i,k]) (arM ⟨[],[],0,[]⟩ (av x) (av y) U c g j l m f d e) O rfl
def KT:Tryz.f105.results.toList=[.tmp 4]:=ax
def akK(h:am)(x:I)(l:List Int)(n:Int)(w:IL x l)(R:F l<=1099511627776):∃r h',W4.call 105 [x,im n] h=J (r,h')/\h'=h/\r=.ret (.v (.bool (l.contains n))):=by
 obtain⟨S,B,rfl,j⟩:=w;have z:=aj.mk j;clear j;have E:=underlying23;have X:=eQ;have C:=c' l;unfold im;refine cq O func105 O ?_;refine br @KT ?_;refine cK (λD f u=>∃d:Nat,d<=F l/\D=F l-d/\aj ((l.take d).contains n=ar)/\f.get 0=.ac S B (ay l)/\f.get 1=(n:Int)/\f.get 5=(d:Nat)/\f.defers=[]/\u=h) ?_ (F l) _ _ ?_;rotate_left 1
 .refine⟨0,ck _,O,⟨cB⟩,?_,?_,?_,?_,O⟩<;>exact gR
 rintro D f u ⟨d,N,rfl,o,G,H,K,L,rfl⟩;by_cases c:d<F l
 .have k:B=1:=z.M (by intro A;rw[A]at c;simp at c);subst k;have T:=ev (H:=u) (s:=1) c;have m:l[d]?=J (ah l d):=by rw[aW c,fy c]
  have v:(d:Int)<(F l:Int):=by omega
  have t:=aj.mk m;clear m;by_cases e:ah l d=n
  .have g:decide (ah l d=n)=aa:=(by simp[e]);have i:l.contains n=aa:=(by rw[wd,cy];rw[<-e];exact dk t.M);have y:=aj.mk i;clear i;have q:=aj.mk e;generalize ah l d=Y at *
   clear e
   repeat' (first|simp(maxSteps:=9^9) (disch:=first|exact dZ|fail) only[gW,reduceIte,aR,aM,KT,bh, *]|refine dX ?_ ?_<;>(intro _;try omega))
   all_goals first|exact⟨_,_,O,O,by rw[y.M]⟩|exact absurd q.M (by assumption)
  .have g:decide (ah l d=n)=ar:=(by simp[e]);have s:aj ((l.take (d+1)).contains n=ar):=⟨by
    have:=o.M;rw[fS t.M];rw[wd,decide_eq_false_iff_not]at *
    rw[List.mem_append,not_or];exact⟨this,by rw[js];exactλA=>e A.symm⟩⟩
   repeat' (first|simp(maxSteps:=9^9) (disch:=first|exact dZ|fail) only[gW,reduceIte,aR,aM,KT,bh, *]|refine dX ?_ ?_<;>(intro _;try omega))
   all_goals exact⟨F l-(d+1),by omega,d+1,by omega,O,s,by simp⟩
 .have:d=F l:=by omega
  subst this;have:=o.M;rw[gu]at this;have p:=aj.mk this;clear this;refine br @KT ?_;exact⟨_,_,O,O,by rw[p.M]⟩
def atx:Tryz.f103.results.toList=[.tmp 2]:=ax
def awP(h:am)(n:Nat)(e:0<n)(f:n<=1000000):W4.call 103 [im (n:Nat)] h=J (.ret (.arr (F h.V) 0 n n),h.push ((fT n).map im)):=by
 have g:=w9 h n f .i64 .i64;have c:bT n (im 0)=(bT n (0:Int)).map im:=by rw[wj]
 rw[c]at g;have i:=vV (H:=h.push ((bT n (0:Int)).map im)) (b:=h.V.length) (r:=bT n (0:Int)) (k:=0) (x:=1) (aQ _ _) (by rw[oY];exact e);have d:(bT n (0:Int)).set 0 1=fT n:=by obtain⟨j,rfl⟩:∃j,n=j+1:=⟨n-1,by omega⟩;unfold fT;rw[BM];rfl
 rw[mF,d]at i;have ix:dM af 23 (.arr (F h.V) 0 n n) (.v (.int .i64 0))=J (.ptr (.box (F h.V)) 0):=pC (n:=0) (k:=.i64) e;clear c d;unfold im at *
 refine cX O func103 O ?_;exact iT @atx
def aAw:Tryz.f104.results.toList=[.tmp 2]:=ax
def ZS10{p:Prop}(h:p:=by
 obtain⟨q,p,e,rfl,k,i,j⟩:=s;have K:(I.agg [.ac q p (e.map λa=>[a]),y]).bL=J [.ac q p (e.map λa=>[a]),y]:=by obtain⟨L,T,rfl,-⟩:=t;rfl
 have N:=qu (aQ h [.ac q p (e.map λa=>[a]),y]);have D:=underlying23;have C:=underlying22;have G:=g_;have v:F (e.map λa=>[a])=F U:=by rw[bI];exact i
 refine ie O Q55 O ?_;by_cases d:F U=0
 .have r:(F U:Int)=0:=by omega
  have f:b7 U=1:=by unfold b7;rw[aC d]
  rw[f];clear d j k i f;refine dL @Q56 @bG @eF ?_;exact⟨_,O,O⟩
 .have r:¬((F U:Int)=0):=by omega
  obtain⟨a0,c⟩:∃a,e[0]?=J a:=⟨_,aW ag⟩;obtain⟨m,g⟩:∃S,U[0]?=J S:=⟨_,aW ag⟩;have o:p=1:=k (by intro R;rw[R]at d;simp at d);subst o;have A:=jP (H:=h.push [.ac q 1 (e.map λa=>[a]),y]) (s:=1) c;obtain⟨z,B,rfl,l⟩:=j 0 a0 m c g;have f:b7 U=F m:=by unfold b7;rw[aL d,fc,g];rfl
  rw[f];have w:=c' m;have u:(0:Int)<(F U:Int):=by omega
  have X:(0:Int).toNat=0:=rfl;clear d j k i f c g l;refine b_ @Q56 @bG @eF @bh ?_;exact⟨_,O,O⟩):p:=h
section
open Tryz renaming func104->Q55
open YtcbhpkjbiehcpaaGreatDoor renaming aAw->Q56
def ayO(h:am)(x y:I)(U:List (List Int))(ae:List Int)(s:RL x U)(t:IL y ae):∃h',W4.call 104 [.agg [x,y]] h=J (.ret ((b7 U:Nat):I),h')/\h'=h.push [x,y]:=ZS10
end
def tI:Tryz.f43.results.toList=[.tmp 2]:=ax
def ap0(h:am)(x:I)(l:List Int)(T:IL x l)(hl:F l<=9223372036854775807):∃r h',W4.call 43 [x] h=J (r,h')/\h'=h/\r=.ret (.v (.bool (dD (-1) l))):=by
 obtain⟨z1,N,rfl,C⟩:=T;have Z:=aj.mk C;clear C;have u23:=underlying23;have z3:=eQ;have fG:=c' l;refine cq O func43 O ?_;refine br @tI ?_;refine cK (λz0 H v=>∃(c:Nat) (last:Int),c<=F l/\z0=F l-c/\aj (dD last (l.drop c)=dD (-1) l)/\ -1<=last/\aj (c=0->last= -1)/\aj (0<c->ah l (c-1)=last)/\H.get 0=.ac z1 N (ay l)/\H.get 3=(c:Nat)/\H.defers=[]/\v=h) ?_ (F l) _ _ ?_;rotate_left 1
 .refine⟨0,-1,ck _,O,⟨O⟩,Et _,⟨λ_=>rfl⟩,⟨λu=>absurd u (Nat.lt_irrefl _)⟩,?_,?_,?_,O⟩<;>exact gR
 rintro z0 H v ⟨c,last,hi,rfl,E,FP,X,Y,g0,g3,hd,rfl⟩;by_cases f:c<F l;rotate_left 1
 .have:c=F l:=by omega
  subst this;have d:dD (-1) l=aa:=by rw[<-E.M,ot (aT _)];rfl
  have j:=aj.mk d;clear d;refine br @tI ?_;exact⟨_,_,O,O,by rw[j.M]⟩
 have D:N=1:=Z.M (by intro u;rw[u]at f;simp at f);subst D;have ld:=ev (H:=v) (s:=1) f;have R:(c:Int)<(F l:Int):=by omega
 have k:l.drop c=ah l c::l.drop (c+1):=by rw[fy f];exact we f
 have p:=E.M;rw[k,dD]at p;have e:=aj.mk p;clear p k;by_cases g:ah l c<0
 .have w:decide (ah l c<0)=aa:=by simp[g]
  have d:dD (-1) l=ar:=by rw[<-e.M];simp;omega
  have j:=aj.mk d;clear d g;refine bB @tI @bh ?_;refine eI vf ax ?_;refine bB @tI @bh ?_;exact⟨_,_,O,O,by rw[j.M]⟩
 have w:decide (ah l c<0)=ar:=by simp[g]
 by_cases m:64<=ah l c
 .have y:decide (64<=ah l c)=aa:=by simp[m]
  have d:dD (-1) l=ar:=by rw[<-e.M];simp;omega
  have j:=aj.mk d;clear d g m;refine bB @tI @bh ?_;refine eI vf ax ?_;refine bB @tI @bh ?_;exact⟨_,_,O,O,by rw[j.M]⟩
 have y:decide (64<=ah l c)=ar:=by simp;omega
 by_cases A:c=0
 .subst A;have B:=X.M O;have q:aj (dD (ah l 0) (l.drop (0+1))=dD (-1) l):=⟨by rw[<-e.M,cy (ag:last<ah l 0),cy (ag:ah l 0<=63)];rfl⟩;have o: -1<=ah l 0:=by omega
  have s:aj (0<0+1->ah l (0+1-1)=ah l 0):=⟨λ_=>rfl⟩;clear g m B e;refine bB @tI @bh ?_;refine eI vf ax ?_;refine bB @tI @bh ?_;exact⟨F l-1,by omega,0+1,ah l 0,by omega,O,q,o,⟨λu=>absurd u ag⟩,s,by simp⟩
 .have i:=Y.M ag;have G:=ev (H:=v) (l:=l) (i:=c-1) (s:=1) ag;rw[i]at G;have L:decide ((0:Int)<(c:Int))=aa:=cy ag;have S:(c:Int)-1=((c-1:Nat):Int):=by omega
  have K:((c-1:Nat):Int)<(F l:Int):=by omega
  by_cases t:ah l c<=last
  .have z:decide (ah l c<=last)=aa:=(by simp[t]);have d:dD (-1) l=ar:=(by rw[<-e.M];simp;omega);have j:=aj.mk d;clear d g m t i;refine bB @tI @bh ?_;refine eI vf ax ?_;refine bB @tI @bh ?_;exact⟨_,_,O,O,by rw[j.M]⟩
  .have z:decide (ah l c<=last)=ar:=(by simp;omega);have q:aj (dD (ah l c) (l.drop (c+1))=dD (-1) l):=⟨by rw[<-e.M,cy (ag:last<ah l c),cy (ag:ah l c<=63)];rfl⟩;have o: -1<=ah l c:=(by omega);have s:aj (0<c+1->ah l (c+1-1)=ah l c):=⟨λ_=>rfl⟩;clear g m t i e;refine bB @tI @bh ?_;refine eI vf ax ?_;refine bB @tI @bh ?_;exact⟨F l-(c+1),by omega,c+1,ah l c,by omega,O,q,o,⟨λu=>absurd u ag⟩,s,by simp⟩
section
variable {A:bk->Option (List I->am->Option (I × am))}
def RH:Tryz.f208.results.toList=[.tmp 4]:=ax
def amm(t:A 164=ao)(g:bk)(aY:List I)(p:Int->Bool)(h:am)(x:I)(l:List Int)(C:IL x l)(hl:l.length<=1000000)(s:∀n∈l,(whole af Gt A).call g (im n::aY) h=J (.ret (.v (.bool (p n))),h)):
 ∃r h',(whole Tryz.prog Gt A).call 164 [x,.func (.func g) [] aY] h=some (r,h')/\h'=h/\∃i:Int,r=.ret (im i)/\decide (0<=i)=l.any p:=by
 obtain⟨z0,K,rfl,u⟩:=C;have E:=aj.mk s;have G:=aj.mk u;clear s u;have R:=underlying23;have z3:=eQ;have L:=c' l;refine cq t func164 rfl ?_;refine br @tF ?_;refine cK (λN o z=>∃i:Nat,i<=l.length/\N=l.length - i/\(l.take i).any p=ar/\o.get 0=.ac z0 K (ay l)/\o.get 1=.func (.func g) [] aY/\o.get 7=(l.length:Nat)/\o.get 8=(i:Nat)/\o.defers=[]/\z=h) ?_ l.length _ _ ?_;rotate_left 1
 .refine⟨0,ck _,rfl,by simp,?_,?_,?_,?_,?_,rfl⟩<;>exact gR
 rintro N o z ⟨i,hi,rfl,q,S,T,X,Y,Z,rfl⟩;have w:=aj.mk q;clear q;by_cases d:i<l.length
 .have v:K=1:=G.M (by intro z1;rw[z1] at d;simp at d);subst v;have ld:=ev (H:=z) (s:=1) d;have k:l[i]?=J (ah l i):=by rw[aW d,fy d]
  have m:=E.M (ah l i) (dk k);have B:(i:Int)<(l.length:Int):=by omega
  have e:(l.take (i+1)).any p=p (ah l i):=by rw[fS k,Mv,w.M];simp
  have H:=aj.mk e;have D:=aj.mk k;clear k e;unfold im at m;cases c:p (ah l i) with
  |true=>rw[c] at m;have f:l.any p=aa:=Mw.2 ⟨_,dk D.M,c⟩;have j:=aj.mk f;clear f c;refine dL @tF @bh @fw.{0} ?_;exact⟨_,_,rfl,rfl,(i:Int),rfl,by rw[j.M];simp⟩
  |false=>rw[c] at m;have y:(l.take (i+1)).any p=ar:=H.M.trans c;clear c;refine dL @tF @bh @fw.{0} ?_;exact⟨l.length - (i+1),by omega,i+1,by omega,rfl,y,by simp⟩
 .have:i=l.length:=by omega
  subst this;have:=w.M;rw[gu] at this;have j:=aj.mk this;clear this;refine br @tF ?_;exact⟨_,_,rfl,rfl,-1,rfl,by rw[j.M];rfl⟩
def IB(d:A 164=ao)(c:A 91=ao)(g:bk)(aY:List I)(p:Int->Bool)(h:am)(x:I)(l:List Int)(k:IL x l)(j:F l<=1000000)(f:∀n∈l,(whole af Gt A).call g (im n::aY) h=J (.ret (.v (.bool (p n))),h)):
 (whole af Gt A).call 91 [x,.func (.func g) [] aY] h=J (.ret (.v (.bool (l.any p))),h):=by
 obtain⟨r,o,m,rfl,q,rfl,e⟩:=amm d g aY p h x l k j f;have i:decide (0<=q)=l.any p:=e;unfold im at m;refine cX c func91 O ?_;clear e f;exact iT @RE
def awr(p:A 208=ao)(k:∀a b h,(whole af Gt A).call 80 [im a,im b] h=J (.ret (im (cV a b)),h))(g:bk)(aY:List I)(f:Nat->Int)(h:am)(x:I)(l:List Int)(y:IL x l)(T:F l<=1000000)
 (o:∀i,i<F l->(whole af Gt A).call g (im (i:Nat)::im (ah l i)::aY) h=J (.ret (im (f i)),h)):
 ∃h',(whole af Gt A).call 208 [x,.func (.func g) [] aY] h=J (.ret (im ((bE (F l)).foldl (λx j=>cV x (f j)) 0)),h')/\h'=h:=by
 obtain⟨X,z,rfl,q⟩:=y;have s:=aj.mk (au o q);clear o q;have E:=underlying23;have z3:=eQ;have C:=c' l;unfold im;refine ie p func208 O ?_;refine br @RH ?_;refine cK (λD e m=>∃i:Nat,i<=F l/\D=F l-i/\e.get 1=.func (.func g) [] aY/\e.get 4=.v (.int .i64 ((bE i).foldl (λx j=>cV x (f j)) 0))/\e.get 7=.ac X z (ay l)/\e.get 8=(F l:Nat)/\e.get 9=(i:Nat)/\e.defers=[]/\m=h) ?_ (F l) _ _ ?_;rotate_left 1
 .refine⟨0,ck _,O,?_,?_,?_,?_,?_,?_,O⟩<;>exact gR
 rintro D e m ⟨i,S,rfl,G,H,K,L,N,R,rfl⟩;by_cases c:i<F l
 .have r:z=1:=s.M.2 (by intro Z;rw[Z]at c;simp at c);subst r;have Y:=ev (H:=m) (s:=1) c;have v:=s.M.1 i c;have u:=λz0=>k z0 (f i) m;have w:(i:Int)<(F l:Int):=by omega
  have d:cV ((bE i).foldl (λx j=>cV x (f j)) 0) (f i)=(bE (i+1)).foldl (λx j=>cV x (f j)) 0:=by rw[jH,nJ];rfl
  have t:=aj.mk d;clear d;generalize (bE i).foldl (λx j=>cV x (f j)) 0=B at *
  unfold im at v u;refine dL @RH @bh @fw.{0} ?_;exact⟨F l-(i+1),by omega,i+1,by omega,O,by trivial,by rw[t.M],by simp⟩
 .have:i=F l:=by omega
  subst this;refine br @RH ?_;exact⟨_,O,O⟩
end
def aAz:Tryz.f206.results.toList=[.tmp 2]:=ax
def atp:Tryz.f139.results.toList=[.tmp 2]:=ax
def aAt:Tryz.f140.results.toList=[.tmp 2]:=ax
def atq:Tryz.f142.results.toList=[.tmp 4]:=ax
def atE:Tryz.f209.results.toList=[.tmp 5]:=ax
def atI:Tryz.f218.results.toList=[.tmp 2]:=ax
def KR:Tryz.f158.results.toList=[.tmp 4]:=ax
def RF:Tryz.f159.results.toList=[.tmp 4]:=ax
def at1:Tryz.f82.results.toList=[.tmp 4]:=ax
def at4:Tryz.f68.results.toList=[.tmp 4]:=ax
def aqJ(x n)(h):W4.call 82 [im x,im n] h=J (.ret (im (eO x n)),h):=by
 have c:=Of x n;unfold im at *
 refine cX O func82 O ?_;exact iT @at1
def aqK(x n)(h):W4.call 68 [im x,im n] h=J (.ret (im (eO x n)),h):=by
 have c:=Of x n;unfold im at *
 refine cX O func68 O ?_;exact iT @at4
def ao7(n):oc n= !cA n:=by
 unfold oc cA Qi;by_cases c:n<0
 .rw[cy c,cR (ag:¬0<=n)];rfl
 .by_cases d:1073741789<=n
  .rw[cR c,cy d,cy (ag:0<=n),cR (ag:¬n<1073741789)];rfl
  .rw[cR c,cR d,cy (ag:0<=n),cy (ag:n<1073741789)];rfl
section
open Tryz renaming func206->Q51
open YtcbhpkjbiehcpaaGreatDoor renaming aAz->Q52
def ao5(n)(h):W4.call 206 [im n] h=J (.ret (.v (.bool (oc n))),h):=ZS9
end
def Nc(l:List Int):(!l.any oc)=l.all cA:=by
 induction l with
 |nil=>rfl|cons a l c=>rw[adt,Ew,<-c,ao7];simp
def aad(x)(l)(c:IL x l)(d:F l<=1000000)(h):W4.call 139 [x] h=J (.ret (.v (.bool (l.all cA))),h):=by have f:=IB (A:=DJ) O O 206 [] oc h x l c d (λn _=>ao5 n h);have e:(!l.any oc)=l.all cA:=Nc l;refine cX O func139 O ?_;clear c;exact iT @atp
section
open Tryz renaming func140->Q55
open YtcbhpkjbiehcpaaGreatDoor renaming aAt->Q56
def ahU(h:am)(x y:I)(U:List (List Int))(ae:List Int)(s:RL x U)(t:IL y ae):∃h',W4.call 140 [.agg [x,y]] h=J (.ret ((b7 U:Nat):I),h')/\h'=h.push [x,y]:=ZS10
end
def aw5(h:am)(b i:Nat)(n:Int)(y:I)(l:List Int)(c:h.V[b]?=J [y])(f:IL y l)(hi:i<F l):W4.call 209 [im (i:Nat),im n,.ptr (.box b) 0] h=J (.ret (im (cO n (ah l i))),h):=by
 obtain⟨t,k,rfl,d⟩:=f;have e:k=1:=d (by intro q;rw[q]at hi;simp at hi);subst e;have o:=tw c;have p:=ev (H:=h) (s:=1) hi;have m:=underlying23;have r:=eQ;have j:=c' l;have g:(i:Int)<(F l:Int):=by omega
 have s:=ZT n (ah l i);unfold im at *
 clear d c;refine cX O func209 O ?_;exact f_ @atE @bh
def aw3(h:am)(x y:I)(a b:List Int)(d:IL x a)(c:IL y b)(f:F a<=1000000)(i:F a<=F b):∃h',W4.call 142 [x,y] h=J (.ret (im (lP a b)),h')/\h'=h.push [y]:=by
 obtain⟨_,k,rfl⟩:=awr (A:=DJ) O (λa b h=>Ua a b h) 209 [.ptr (.box (F h.V)) 0] (λe=>cO (ah a e) (ah b e)) (h.push [y]) x a d f (λe m=>aw5 (h.push [y]) (F h.V) e (ah a e) y b (aQ _ _) c ag);have l:y.bL=J [y]:=by obtain⟨o,p,rfl,-⟩:=c;rfl
 have g:(bE (F a)).foldl (λx j=>cV x (cO (ah a j) (ah b j))) 0=lP a b:=rfl;rw[g]at k;unfold im at *
 clear d c g;refine ie O func142 O ?_;refine bB @atq @bG ?_;exact⟨_,O,O⟩
def axx(n)(h):W4.call 218 [im n] h=J (.ret (.v (.bool (!b8 n))),h):=by
 have c:=acO n;unfold im at *
 refine cX O func218 O ?_;exact iT @atI
def Uk(p)(l:List Int):(l.any λn=> !p n)= !l.all p:=by
 induction l with
 |nil=>rfl|cons a l c=>rw[adt,Ew,c];simp
def m_:Tryz.f40.results.toList=[.tmp 2]:=ax
def arx(h:am)(x y:I)(U:List (List Int))(ae:List Int)(hx:RL x U)(E:IL y ae)(lT:F U<=1000000):
 ∃r h',W4.call 40 [.agg [x,y]] h=J (r,h')/\h'=h.push [x,y]/\r=.ret ((cE U ae:Int):I):=by
 obtain⟨z5,Z,v,rfl,hs,gH,jl⟩:=hx;obtain⟨ky,Y,rfl,lV⟩:=E;have X:=aj.mk (au hs (au jl lV));clear hs jl lV;have u23:=underlying23;have u22:=underlying22;have z23:=g_;have z3:=eQ;have fG:F (v.map λa=>[a])=F U:=by rw[bI];exact gH
 have AN:=c' ae;have b0:(h.push [.ac z5 Z (v.map λa=>[a]),.ac ky Y (ay ae)]).V[F h.V]?=J [.ac z5 Z (v.map λa=>[a]),.ac ky Y (ay ae)]:=aQ _ _;have l0:=qu b0;have l1:=Dj b0;have bx:(I.agg [.ac z5 Z (v.map λa=>[a]),.ac ky Y (ay ae)]).bL=J [.ac z5 Z (v.map λa=>[a]),.ac ky Y (ay ae)]:=rfl;clear b0;have k1:aj (64<F U->cE U ae=2):=⟨λq=>by unfold cE;rw[aC (by simp[q])]⟩;have k2:aj (∀(c:Nat) r,U[c]?=J r->64<F r->cE U ae=2):=⟨λc r hr q=>by unfold cE;rw[aC];rw[Bool.or_eq_true];exact .inr (Mw.2 ⟨r,dk hr,by simp[q]⟩)⟩;have k3:aj (F U<=64->(U.any λr=>decide (64<F r))=ar->F U≠F ae->cE U ae=230):=⟨λq1 q2 q3=>by unfold cE;rw[aL (by rw[q2];simp;omega),aC q3]⟩;have k4:aj (F U<=64->(U.any λr=>decide (64<F r))=ar->F U=F ae->cE U ae=if ((bE (F U)).all (rP U ae))=aa then (0:Int) else 230):=⟨λq1 q2 q3=>by unfold cE;rw[aL (by rw[q2];simp;omega),aL (by simpa using q3)];rfl⟩;generalize cE U ae=res at *
 obtain⟨z1,hH⟩:∃z1,h.push [.ac z5 Z (v.map λa=>[a]),.ac ky Y (ay ae)]=z1:=⟨_,O⟩;rw[hH]at l0 l1;rw[hH];refine cq O func40 O ?_;by_cases h1:64<F U
 .have hq:((64:Int)<(F U:Int)):=by omega
  have kr:=aj.mk (k1.M h1);clear h1;refine b_ @m_ @eF @fZ (au @bG @hH) ?_;exact⟨_,_,O,O,by rw[kr.M]⟩
 have hq:¬((64:Int)<(F U:Int)):=by omega
 have Ok:F U<=64:=by omega
 refine b_ @m_ @eF @fZ (au @bG @hH) ?_;refine bJ.gen λk d j A B=>?_;have f1:k.get 1=.ptr (.box (F h.V)) 0:=by rw[d];exact gS
 have f3:k.get 3=(0:Nat):=by rw[d];exact gR
 have w:k.defers=[]:=by rw[j];exact gS
 clear d j A B bx hq h1 hH;refine cK (λz4 D H2=>∃c:Nat,c<=F U/\z4=F U-c/\aj (((U.take c).any λr=>decide (64<F r))=ar)/\D.get 1=.ptr (.box (F h.V)) 0/\D.get 3=(c:Nat)/\D.defers=[]/\H2=z1) ?_ (F U) _ _ ?_;rotate_left 1
 .exact⟨0,ck _,O,⟨cB⟩,f1,f3,w,O⟩
 clear f1 f3 w;rintro z4 D z1 ⟨c,hi,rfl,kt,z,g3,S,rfl⟩;by_cases f:c<F U
 .have dY:Z=1:=X.M.1 (by intro q;rw[q]at f;simp at f);subst dY;obtain⟨a,i⟩:∃a,v[c]?=J a:=⟨_,aW ag⟩;obtain⟨r,s⟩:∃r,U[c]?=J r:=⟨_,aW f⟩;have ld:=jP (H:=z1) (s:=1) i;obtain⟨ka,sa,rfl,C⟩:=X.M.2.1 c a r i s;have C0:=c' r;have iy:(c:Int)<(F U:Int):=by omega
  by_cases hb:64<F r
  .have hbI:((64:Int)<(F r:Int)):=(by omega);have kr:=aj.mk (k2.M c r s hb);clear i s C hb;refine b_ @m_ @eF @fZ @bh ?_;exact⟨_,_,O,O,by rw[kr.M]⟩
  .have hbI:¬((64:Int)<(F r:Int)):=(by omega);have kt2:aj (((U.take (c+1)).any λr=>decide (64<F r))=ar):=⟨by rw[fS s,Mv,kt.M];simp;omega⟩;clear i s C hb;refine b_ @m_ @eF @fZ @bh ?_;exact⟨F U-(c+1),by omega,c+1,by omega,O,kt2,by simp⟩
 have gw:c=F U:=by omega
 subst gw;have H:=kt.M;rw[gu]at H;have L:=aj.mk H;clear H kt hi;by_cases h3:F U=F ae;rotate_left 1
 .have kr:=aj.mk (k3.M Ok L.M h3);have hn:¬((F U:Int)=(F ae:Int)):=by omega
  clear h3;refine dL @m_ @eF @fZ ?_;exact⟨_,_,O,O,by rw[kr.M]⟩
 have kres:=aj.mk (k4.M Ok L.M h3);have kn:=aj.mk h3;have hn:(F ae:Int)=(F U:Int):=by omega
 clear h3;refine dL @m_ @eF @fZ ?_;refine bJ.gen λk d j A B=>?_;have f1:k.get 1=.ptr (.box (F h.V)) 0:=by rw[d];simp only[gW,reduceIte,aR,aM];exact z
 have f4:k.get 4=(0:Nat):=by rw[d];exact gR
 have w:k.defers=[]:=by rw[j];simp only[gW,reduceIte,aR,aM];exact S
 clear d j A B z g3 S f;refine cK (λz4 D H2=>∃c:Nat,c<=F U/\z4=F U-c/\aj (∀e,e<c->rP U ae e=aa)/\D.get 1=.ptr (.box (F h.V)) 0/\D.get 4=(c:Nat)/\D.defers=[]/\H2=z1) ?_ (F U) _ _ ?_;rotate_left 1
 .exact⟨0,ck _,O,⟨λe T=>absurd T (qc _)⟩,f1,f4,w,O⟩
 clear f1 f4 w;rintro z4 D H3 ⟨c,hi,rfl,kf,z,g4,S,rfl⟩;by_cases f:c<F U;rotate_left 1
 .have gw:c=F U:=by omega
  subst gw;have k0:aj (res=0):=⟨by rw[kres.M,aC];rw[e8];intro e T;exact kf.M e (gb.1 T)⟩;refine dL @m_ @eF @fZ ?_;exact⟨_,_,O,O,by rw[k0.M]⟩
 have dY:Z=1:=X.M.1 (by intro q;rw[q]at f;simp at f);subst dY;have oD:Y=1:=X.M.2.2 (by intro q;have h0:=kn.M;rw[q,gh]at h0;omega);subst oD;obtain⟨a,i⟩:∃a,v[c]?=J a:=⟨_,aW ag⟩;obtain⟨r,s⟩:∃r,U[c]?=J r:=⟨_,aW f⟩;obtain⟨a0,K⟩:∃a,v[0]?=J a:=⟨_,aW ag⟩;obtain⟨N,wS⟩:∃r,U[0]?=J r:=⟨_,aW ag⟩;have ld:=jP (H:=H3) (s:=1) i;have ld0:=jP (H:=H3) (s:=1) K;obtain⟨ka,sa,rfl,C⟩:=X.M.2.1 c a r i s;obtain⟨ka0,sa0,rfl,PE⟩:=X.M.2.1 0 a0 N K wS;have azG:=c' r;have alI:=c' N;have ldo:=ev (H:=H3) (l:=ae) (i:=c) (s:=1) (by have:=kn.M;omega);have XI:rP U ae c=(!r.isEmpty&&decide (F r=F N)&&uv (ah ae c)&&r.all cA):=by
  unfold rP uv;have z:U.getD c []=r:=by rw[fc,s];rfl
  have g2:U.getD 0 []=N:=by rw[fc,wS];rfl
  rw[z,g2]
 have p:=aj.mk XI;have g:aj (rP U ae c=ar->res=230):=⟨by intro q;rw[kres.M,aL];intro z6;rw[e8]at z6;have:=z6 c (gb.2 f);rw[q]at this;cases this⟩;have iy:(c:Int)<(F U:Int):=by omega
 have Oj:(0:Int)<(F U:Int):=by omega
 have z0:(0:Int).toNat=0:=rfl;have ks:=aj.mk C;have Xk:F r<=64:=by have q:=L.M;rw[To]at q;have:=q r (dk s);simpa using this
 clear XI i s C K wS PE;generalize ah ae c=z2 at *
 by_cases e1:F r=0
 .have tg:decide ((F r:Int)<1)=aa:=cy ag;have o:aj (res=230):=⟨g.M (by rw[p.M,adK.1 e1];rfl)⟩;clear e1;refine b_ @m_ @eF @fZ @bh ?_;refine eI vf ax ?_;refine b_ @m_ @eF @fZ @bh ?_;exact⟨_,_,O,O,by rw[o.M]⟩
 have tg:decide ((F r:Int)<1)=ar:=cR ag;have t:r.isEmpty=ar:=by cases r with|nil=>exact absurd O e1|cons _ _=>rfl
 clear e1;by_cases e2:F r=F N;rotate_left 1
 .have wP:decide ((F r:Int)=(F N:Int))=ar:=cR ag;have o:aj (res=230):=⟨g.M (by rw[p.M,t,cR e2];rfl)⟩;clear e2 t;refine b_ @m_ @eF @fZ @bh ?_;refine eI vf ax ?_;refine b_ @m_ @eF @fZ @bh ?_;exact⟨_,_,O,O,by rw[o.M]⟩
 have wP:decide ((F r:Int)=(F N:Int))=aa:=cy ag;have ke2:=aj.mk e2;clear e2;by_cases e3:z2<0
 .have Ym:decide (z2<0)=aa:=cy e3;have o:aj (res=230):=⟨g.M (by rw[p.M];unfold uv;rw[cR (ag:¬0<=z2)];simp)⟩;clear e3 t;refine b_ @m_ @eF @fZ @bh ?_;refine eI vf ax ?_;refine b_ @m_ @eF @fZ @bh ?_;exact⟨_,_,O,O,by rw[o.M]⟩
 have Ym:decide (z2<0)=ar:=cR e3;by_cases e4:64<=z2
 .have Yn:decide (64<=z2)=aa:=cy e4;have o:aj (res=230):=⟨g.M (by rw[p.M];unfold uv;rw[cR (ag:¬z2<=63)];simp)⟩;clear e3 e4 t;refine b_ @m_ @eF @fZ @bh ?_;refine eI vf ax ?_;refine b_ @m_ @eF @fZ @bh ?_;exact⟨_,_,O,O,by rw[o.M]⟩
 have Yn:decide (64<=z2)=ar:=cR e4;have u:aj (rP U ae c=r.all cA):=⟨by rw[p.M,t,cy ke2.M];unfold uv;rw[cy (ag:0<=z2),cy (ag:z2<=63)];rfl⟩;clear e3 e4 t;refine b_ @m_ @eF @fZ @bh ?_;refine eI vf ax ?_;refine b_ @m_ @eF @fZ @bh ?_;refine bJ.gen λk d j A B=>?_;have f1:k.get 1=.ptr (.box (F h.V)) 0:=by rw[d];simp only[gW,reduceIte,aR,aM];exact z
 have f4:k.get 4=(c:Nat):=by rw[d];simp only[gW,reduceIte,aR,aM];exact g4
 have f5:k.get 5=(0:Nat):=by rw[d];exact gR
 have w:k.defers=[]:=by rw[j];simp only[gW,reduceIte,aR,aM];exact S
 clear d j A B z g4 S;refine cK (λz4 D H2=>∃e:Nat,e<=F r/\z4=F r-e/\aj ((r.take e).all cA=aa)/\D.get 1=.ptr (.box (F h.V)) 0/\D.get 4=(c:Nat)/\D.get 5=(e:Nat)/\D.defers=[]/\H2=H3) ?_ (F r) _ _ ?_;rotate_left 1
 .exact⟨0,ck _,O,⟨cB⟩,f1,f4,f5,w,O⟩
 clear f1 f4 f5 w tg wP Ym Yn ldo ld0;rintro z4 D H4 ⟨e,T,rfl,ka4,z,g4,g5,S,rfl⟩;by_cases m:e<F r
 .have JL:sa=1:=ks.M (by intro q;rw[q]at m;simp at m);subst JL;have ldx:=ev (H:=H4) (s:=1) m;have JQ:r[e]?=J (ah r e):=by rw[aW m,fy m]
  have azp:(e:Int)<(F r:Int):=by omega
  have R:(r.take (e+1)).all cA=cA (ah r e):=by rw[fS JQ,rE,ka4.M];simp
  have kt5:=aj.mk (au R (dk JQ));have Yo:cA (ah r e)=(decide (0<=ah r e)&&decide (ah r e<1073741789)):=rfl;have kqq:=aj.mk Yo;clear JQ R Yo;generalize ah r e=n at *
  by_cases d1:n<0
  .have i_:decide (n<0)=aa:=cy d1;have o:aj (res=230):=⟨g.M (by rw[u.M,HI];exact⟨n,kt5.M.2,by rw[kqq.M,cR (ag:¬0<=n)];simp⟩)⟩;clear d1;refine b_ @m_ @eF @fZ @bh ?_;exact⟨_,_,O,O,by rw[o.M]⟩
  have i_:decide (n<0)=ar:=cR d1;by_cases d2:1073741789<=n
  .have jV:decide (1073741789<=n)=aa:=cy d2;have o:aj (res=230):=⟨g.M (by rw[u.M,HI];exact⟨n,kt5.M.2,by rw[kqq.M,cR (ag:¬n<1073741789)];simp⟩)⟩;clear d1 d2;refine b_ @m_ @eF @fZ @bh ?_;exact⟨_,_,O,O,by rw[o.M]⟩
  have jV:decide (1073741789<=n)=ar:=cR d2;have kt2:aj ((r.take (e+1)).all cA=aa):=⟨by rw[kt5.M.1,kqq.M,cy (ag:0<=n),cy (ag:n<1073741789)];rfl⟩;clear d1 d2;refine b_ @m_ @eF @fZ @bh ?_;exact⟨F r-(e+1),by omega,e+1,by omega,O,kt2,by simp⟩
 .have nY:e=F r:=by omega
  subst nY;have G:=ka4.M;rw[gu]at G;have kf2:aj (∀e,e<c+1->rP U ae e=aa):=⟨λe T=>by
   rcases Nat.lt_succ_iff_lt_or_eq.1 T with q|q
   .exact kf.M e q
   .rw[q,u.M];exact G⟩
  clear G;refine b_ @m_ @eF @fZ @bh ?_;exact⟨F U-(c+1),by omega,c+1,by omega,O,kf2,by simp⟩
def abH:Tryz.f133.results.toList=[.tmp 2]:=ax
def Lh:Tryz.f135.results.toList=[.tmp 2]:=ax
def aAE:Tryz.f134.results.toList=[.tmp 2]:=ax
def aac(n:Int)(h:am):W4.call 133 [im n] h=J (.ret (.v (.bool (cA n))),h):=by
 unfold im cA Qi;by_cases c:0<=n
 .refine cX O func133 O ?_;have:decide (0<=n)=aa:=by simp[c]
  exact f_ @abH @pP
 .refine cX O func133 O ?_;have:decide (0<=n)=ar:=by simp[c]
  exact f_ @abH @BA
def aoZ(h:am)(x:I)(l:List Int)(v:IL x l)(K:F l<=9223372036854775807):∃r h',W4.call 135 [x] h=J (r,h')/\h'=h/\r=.ret (.v (.bool (l.all cA))):=by
 obtain⟨L,z,rfl,j⟩:=v;have y:=aj.mk j;clear j;have C:=underlying23;have S:=eQ;have A:=c' l;refine cq O func135 O ?_;refine br @Lh ?_;refine cK (λB s i=>∃d:Nat,d<=F l/\B=F l-d/\aj ((l.take d).all cA=aa)/\s.get 0=.ac L z (ay l)/\s.get 3=(d:Nat)/\s.defers=[]/\i=h) ?_ (F l) _ _ ?_;rotate_left 1
 .refine⟨0,ck _,O,⟨cB⟩,?_,?_,?_,O⟩<;>exact gR
 rintro B s i ⟨d,H,rfl,m,D,E,G,rfl⟩;by_cases c:d<F l
 .have k:z=1:=y.M (by intro R;rw[R]at c;simp at c);subst k;have N:=ev (H:=i) (s:=1) c;have g:l[d]?=J (ah l d):=by rw[aW c,fy c]
  have u:(d:Int)<(F l:Int):=by omega
  have e:(l.take (d+1)).all cA=cA (ah l d):=by rw[fS g,rE,m.M];simp
  have p:=aj.mk (au e (dk g));have t:=aac (ah l d) i;unfold im at t;clear g e;generalize ah l d=n at *
  cases f:cA n with
  |false=>have w:aj (l.all cA=ar):=⟨by rw[HI];exact⟨n,p.M.2,by simp[f]⟩⟩;rw[f]at t;clear f;refine bB @Lh @bh ?_;exact⟨_,_,O,O,by rw[w.M]⟩
  |true=>have q:aj ((l.take (d+1)).all cA=aa):=⟨by rw[p.M.1,f]⟩;rw[f]at t;clear f;refine bB @Lh @bh ?_;exact⟨F l-(d+1),by omega,d+1,by omega,O,q,by simp⟩
 .have:d=F l:=by omega
  subst this;have:=m.M;rw[gu]at this;have o:=aj.mk this;clear this;refine br @Lh ?_;exact⟨_,_,O,O,by rw[o.M]⟩
section
open Tryz renaming func134->Q55
open YtcbhpkjbiehcpaaGreatDoor renaming aAE->Q56
def ayP(h:am)(x y:I)(U:List (List Int))(ae:List Int)(s:RL x U)(t:IL y ae):∃h',W4.call 134 [.agg [x,y]] h=J (.ret ((b7 U:Nat):I),h')/\h'=h.push [x,y]:=ZS10
end
def Vj(x y)(U)(ae)(g:RL x U)(i:IL y ae):∀h,W4.call 35 [.agg [x,y]] h=J (.ret ((cE U ae:Int):I),h):=by obtain⟨c,d⟩:=g.iE;obtain⟨e,f⟩:=i.hold;exact bX (L:=L4) (A:=[.agg [av x,av y]]) O O (by simp[aJ,aI,d,f]) (ahu (av x) (av y) U ae c e _) O rfl
def IJ:dQ af 110 (.ptr (.box b) 0) 0=J (.ptr (.box b) 0):=ax
def IK:dQ af 110 (.ptr (.box b) 0) 1=J (.ptr (.box b) 1):=ax
def Qe(c:H.V[b]?=J [x,y]):aF af Gt H 3 (.ptr (.box b) 0)=J x:=by rw[fI eu c];rfl
def Qf(c:H.V[b]?=J [x,y]):aF af Gt H 3 (.ptr (.box b) 1)=J y:=by rw[fI eu c];rfl
def RL.bL(h:RL x U):x.bL=J [x]:=by obtain⟨d,e,c,rfl,-⟩:=h.form;rfl
def IL.bL(h:IL x l):x.bL=J [x]:=by obtain⟨c,d,rfl,-⟩:=h;rfl
def uw(c:RL x U)(d:IL y ae):(I.agg [x,y]).bL=J [x,y]:=by obtain⟨h,i,g,rfl,-⟩:=c.form;obtain⟨e,f,rfl,-⟩:=d;rfl
def RL.dp(h:RL x U):dp af 22 x=J ((F U:Nat):I):=by obtain⟨f,g,e,rfl,d⟩:=h.form;have c:=underlying22;unfold Go.AE.dp;rw[c];simp only[bI,d]
def IL.dp(h:IL x l):dp af 23 x=J ((F l:Nat):I):=by obtain⟨d,e,rfl,-⟩:=h;have c:=underlying23;unfold Go.AE.dp;rw[c];simp only[c']
def iC(U:List (List Int))(ae c:List Int):Int:=if cE U ae≠0 then cE U ae else if decide (F c=b7 U)&&c.all b8 then 0 else 340
def aiw(h:am)(x y z:I)(U:List (List Int))(ae c:List Int)(k:RL x U)(l:IL y ae)(o:IL z c)(v:F c<=1000000):
 ∃r h',W4.call 158 [.agg [x,y],z] h=J (r,h')/\Ext h h'/\r=.ret ((iC U ae c:Int):I):=by
 have B:=uw k l;have t:=Vj x y U ae k l;obtain⟨_,u,rfl⟩:=ahU (h.push [x,y]) x y U ae k l;have i:=IB (A:=DJ) O O 218 [] (λn=> !b8 n) ((h.push [x,y]).push [x,y]) z c o v (λn _=>axx n _);have C:=ul (aQ h [x,y]);have D:=o.dp;have q:∀s,s≠0->cE U ae=s->iC U ae c=s:=λs g e=>by unfold iC;rw[aC (by rw[e];exact g),e]
 have m:cE U ae=0->iC U ae c=if decide (F c=b7 U)&&c.all b8 then 0 else 340:=λe=>by unfold iC;rw[aL (by simp[e])]
 have p:=aj.mk (au q m);clear q m k l o;rw[Uk]at i;generalize iC U ae c=res at *
 refine cq O func158 O ?_;by_cases j:cE U ae=0
 .rw[j]at t;have d:=p.M.2 j;clear j;by_cases g:F c=b7 U
  .have w:decide ((F c:Int)=((b7 U:Nat):Int))=aa:=cy ag;rw[cy g,pP]at d;clear g;cases e:c.all b8 with
   |true=>rw[e]at i d;have f:=aj.mk d;clear e d;refine bB @KR @bG ?_;exact⟨_,_,O,(Ext.push _ _).trans (Ext.push _ _),by rw[f.M];rfl⟩
   |false=>rw[e]at i d;have f:=aj.mk d;clear e d;refine bB @KR @bG ?_;exact⟨_,_,O,(Ext.push _ _).trans (Ext.push _ _),by rw[f.M];rfl⟩
  .have w:decide ((F c:Int)=((b7 U:Nat):Int))=ar:=cR ag;rw[cR g,BA]at d;have f:=aj.mk d;clear g d;refine bB @KR @bG ?_;exact⟨_,_,O,(Ext.push _ _).trans (Ext.push _ _),by rw[f.M];rfl⟩
 .have f:=aj.mk (p.M.1 _ j O);clear p u i;generalize cE U ae=s at *
  refine bB @KR @bG ?_;exact⟨_,_,O,Ext.push _ _,by rw[f.M]⟩
def uD(U:List (List Int))(p:Int × Int):Bool:=decide (0<=p.1)&&decide (p.1<F U)&&cA p.2
def JY(n):IL (.ac .aK 1 [[((n:Int):I)]]) [n]:=⟨.aK,1,O,λ_=>rfl⟩
def ar3(h:am)(x y:I)(U:List (List Int))(ae:List Int)(e:RL x U)(f:IL y ae)(a v:Int):
 ∃r h',W4.call 159 [.agg [x,y],.agg [im a,im v]] h=J (r,h')/\Ext h h'/\r=.ret (.v (.bool (uD U (a,v)))):=by
 have j:=uw e f;have g:(I.agg [im a,im v]).bL=J [im a,im v]:=rfl;have l:aF af Gt ((h.push [x,y]).push [im a,im v]) 22 (.ptr (.box (F h.V)) 0)=J x:=qu (aP (aQ h [x,y]));have m:=Qe (aQ (h.push [x,y]) [im a,im v]);have o:=Qf (aQ (h.push [x,y]) [im a,im v]);have k:=aad (.ac .aK 1 [[((v:Int):I)]]) [v] (JY v) cB ((h.push [x,y]).push [im a,im v]);rw[(cB:[v].all cA=cA v)]at k;have i:=oA v;have p:=e.dp;clear e f;unfold uD;simp only;refine cq O func159 O ?_;unfold im at *
 by_cases c:0<=a
 .have d1:decide (0<=a)=aa:=cy c;by_cases d:a<F U
  .have d2:decide (a<(F U:Int))=aa:=cy d;rw[d1,d2];clear c d;refine b_ @RF @bG @eF (au @IJ @IK) ?_;exact⟨_,_,O,(Ext.push _ _).trans (Ext.push _ _),O⟩
  .have d2:decide (a<(F U:Int))=ar:=cR d;rw[d1,d2];clear c d;refine b_ @RF @bG @eF (au @IJ @IK) ?_;exact⟨_,_,O,(Ext.push _ _).trans (Ext.push _ _),O⟩
 .have d1:decide (0<=a)=ar:=cR c;rw[d1];clear c;refine b_ @RF @bG @eF (au @IJ @IK) ?_;exact⟨_,_,O,(Ext.push _ _).trans (Ext.push _ _),O⟩
def ake(c b)(k)(d:F b<=1099511620000)(e:F c<=1099511620000):∀h,W3.call 69 [.v (.string (bs c)),.ac k 1 (bV b)] h=J (.ret (im (q_ (mg c b):Nat)),h):=
 bX (L:=L3) (A:=[.v (.string (bs c)),.ac (cJ k) 1 (bV b)]) O (by rw[bA,bA,av.eq_1,tf];rfl) (by simp[aJ,aI,fB,nm]) (akd c b _ d e _) O rfl
def WC(c b)(k)(d:F b<=1099511620000)(e:F c<=1099511620000):∀h,W4.call 69 [.v (.string (bs c)),.ac k 1 (bV b)] h=J (.ret (im (q_ (mg c b):Nat)),h):=
 bX (L:=L4) (A:=[.v (.string (bs c)),.ac (cJ k) 1 (bV b)]) O (by rw[bA,bA,av.eq_1,tf];rfl) (by simp[aJ,aI,fB,nm]) (ake c b _ d e _) O rfl
def ZS11{p:Prop}(h:p:=by obtain⟨c,d⟩:=cW.hold v r i;obtain⟨t,e⟩:=Q57 c f g;exact⟨cJ t,Q58 (L:=Q59) (A:=[.agg (bA r)]) O O (by simpa [aJ,aI] using d) (e _) O (by simp[aI,aJ,fB,nm])⟩):p:=h
section
open YtcbhpkjbiehcpaaGreatDoor renaming ayQ->Q57,L3->Q59
open AE renaming bX->Q58
def ayR(i:cW v r)(f:gc v<=16)(g:F (cr v)<=1099511600000):∃t,∀h,W3.call 74 [.agg r] h=J (.ret (.tuple [.ac t 1 (bV (cr v)),.v (.int .i64 0)]),h):=ZS11
end
section
open YtcbhpkjbiehcpaaGreatDoor renaming ayR->Q57,L4->Q59
open AE renaming bX->Q58
def NV(i:cW v r)(f:gc v<=16)(g:F (cr v)<=1099511600000):∃t,∀h,W4.call 74 [.agg r] h=J (.ret (.tuple [.ac t 1 (bV (cr v)),.v (.int .i64 0)]),h):=ZS11
end
def GK:Tryz.f150.results.toList=[.cell 2 118]:=ax
def atr:Tryz.f153.results.toList=[.tmp 4]:=ax
def Lf:Tryz.f70.results.toList=[.tmp 2]:=ax
inductive tQ:I->Vl->Prop
 |int (n:Int) (hn:0<=n/\n<=4611686018427387903):tQ (.iface 3 (.v (.int .i64 n))) (.int n)
 |aq (k:Tok) (s:Nat) (b:List UInt8) (hs:b≠[]->s=1) (hb:b.length<=1099511620000):tQ (.iface 60 (.ac k s (bV b))) (.aq b)
 |val (v:Vl) (r:List I) (h:cW v r):tQ (.iface 118 (.agg r)) v
def sH(xs:List I)(vs:List Vl):Prop:=F xs=F vs/\∀(c:Nat) x v,xs[c]?=J x->vs[c]?=J v->tQ x v
def sH.nil:sH [] []:=⟨O,λd x e c=>by simp at c⟩
def sH.cons(h:tQ x v)(e:sH xs vs):sH (x::xs) (v::vs):=by
 refine⟨by simp[e.1],λf i g d c=>?_⟩;cases f with|zero=>simp at d c;subst d;subst c;exact h|succ f=>simp at d c;exact e.2 f i g d c
def Us(x):u7 af (.iface 3 x) 3 aa=J (.tuple [x,(aa:I)]):=ax
def Ur(x):u7 af (.iface 60 x) 3 aa=J (.tuple [.v (.int .i64 0),(ar:I)]):=ax
def Uq(x):u7 af (.iface 60 x) 60 aa=J (.tuple [x,(aa:I)]):=ax
def afj(x):u7 af (.iface 118 x) 3 aa=J (.tuple [.v (.int .i64 0),(ar:I)]):=ax
def afi(x):u7 af (.iface 118 x) 60 aa=J (.tuple [.ac .nil 0 [],(ar:I)]):=ax
def afk(x):u7 af (.iface 118 x) 118 aa=J (.tuple [x,(aa:I)]):=ax
def NN{b}(j:b≠[]->s=1)(h):lM af h 60 9 (.ac k s (bV b))=J (.v (.string (bs b)),h):=by
 have f:af.underlying 9=J .string:=underlying9;have g:af.underlying 60=J (.slice 5):=underlying60;have i:af.underlying 5=J (.int .u8):=underlying5;unfold lM;simp only[f,g,i,rowsOf];rw[aC (by
  by_cases d:b=[]
  .exact .inr (by rw[d];rfl)
  .exact .inl (j d))]
 have e:∀c:List UInt8,bytesOf (bV c)=J c:=by
  intro c
  induction c with
  |nil=>rfl|cons a c l=>show(match Go.AE.byteOf (iL a),bytesOf (bV c) with|some b,J c=>J (b::c)|_,_=>ao)=_;rw[l];simp[Go.AE.byteOf,iL]
 simp only[e,gq];rfl
def zZ(e:F r=4)(d:(I.agg r).bL=J r):fF af 116 1 [(0,.agg r)]=J (.ac .aK 4 [r]):=by have c:af.underlying 116=J (.slice 118):=underlying116;unfold fF;simp only[c,oo,uL];rw[aC ⟨aZ,O,by decide⟩];simp[yl,d,e]
section
open Go renaming kk118->Q45,kk4->Q46,kk64->Q47
def P2:∃i,af.info? 118=J i/\i.size=4/\i.bytes<=64/\(i.zero.map λz=>z.cells.size)=J 4:=ZS8
end
def zT(o:F es<1000000)(j:es≠[]->sz=4)(e:es=[]->sz=4∨k=.nil)(i:cY n0 H k):
 gB af H #[116,116] (.ac k sz es) (.ac .aK 4 [r])=J (.ac (.free H.tn) 4 (es++[r]),H.app k):=by
 obtain⟨p,f,c,l,g⟩:=P2;have m:=lu (ag:F es+1<=1000000) l;have:=zV (P:=af) (h:=H) (n0:=n0) (k:=k) (sz:=sz) (es:=es) (new:=[r]) (x:=.ac .aK 4 [r]) (t1:=116) underlying116 (.inl ⟨118,underlying116⟩) f ag (by rw[c];exact g) (by rw[c];rfl) cB (by simp;omega) (by simp;omega) (by
  rw[c];by_cases d:es=[]
  .rcases e d with q|q
   .exact .inl q
   .exact .inr ⟨d,q⟩
  .exact .inl (j d)) i
 rwa [c]at this
structure qh(h H:am)(c:Nat)(vs:List Vl)(t:Tok)(sz:Nat)(U:List (List I)):Prop where
 box:H.V[c]?=J (aD 3 0 [] t sz U)
 can:cY h.tn H t
 ok:cS H=aa
 ext:Ext h H
 M:h.V.length<=c
 rel:gy vs U
 four:U≠[]->sz=4
 nil:U=[]->sz=4∨t=.nil
 fit:fX 0 0 0 U=aa
def V':∀(U:List (List I)) (r:List I),fX 0 0 0 U=aa->aJ 0 0 0 r=aa->fX 0 0 0 (U++[r])=aa
 | [],r,_,e=>by rw[fE,fX,e];rfl
 |a::U,r,c,d=>by rw[fX,bR]at c;rw[fw,fX,c.1,V' U r c.2 d];rfl
def qh.push{U}(g:qh h H c vs t sz U)(cs):qh h (H.push cs) c vs t sz U:=
 ⟨aP g.box,by rw[sN];exact g.can,g.ok,g.ext.trans (.push _ _),g.M,g.rel,g.four,g.nil,g.fit⟩
def qh.put{U}(g:qh h H c vs t sz U)(m:cW v r)(l:aJ 0 0 0 r=aa):
 qh h ((H.app t).put c (aD 3 0 [] (.free H.tn) 4 (U++[r]))) c (vs++[v]) (.free H.tn) 4 (U++[r]):=by
 have j:=(aU.1 g.box).1;have i:=Grown.one g.can g.ok g.ext.tn;refine⟨dy (by rw[dC];exact j),by rw[vh];exact i.can,i.ok,(i.ext g.ext (aT _)).gg g.M _,g.M,⟨by simp[g.rel.1],λo q x e d=>?_⟩,λ_=>rfl,λ_=>.inl O,V' _ _ g.fit l⟩;rcases dR o (F U) with f|p
 .rw[qL f]at d;rw[qL (by rw[<-g.rel.1];exact f)]at e;exact g.rel.2 o q x e d
 .have:=(aU.1 d).1;rw[db]at this;have k:o=F U:=by simp at this;omega
  subst k;rw[Ez]at d;rw[g.rel.1,Ez]at e;injection d with d;injection e with e;subst d;subst e;exact m
def zw{sz2}{U rows2}(d:H.V[c]?=J (aD 3 0 [] t sz U)):bU af H 116 (.ptr (.box c) 3) (.ac t2 sz2 rows2)=J (H.put c (aD 3 0 [] t2 sz2 rows2)):=
 e7 (off:=3) (cs:=aD 3 0 [] t sz U) (xs:=[.ac t2 sz2 rows2]) O ax d O (aT 4)
def avL:bU af (H.push (aD 0 0 [] .nil 0 [])) 3 (.ptr (.box (F H.V)) 0) (.v (.int .i64 3))=J (H.push (aD 3 0 [] .nil 0 [])):=by rw[e7 (off:=0) (cs:=aD 0 0 [] .nil 0 []) (xs:=[.v (.int .i64 3)]) O eQ (aQ _ _) O aZ];congr 1;exact mF _ _ _
def Zc(h:xs[i]?=J x):aF af Gt H 20 (.elem s (xs.map λa=>[a]) i 0)=J x:=by rw[rm ax (row:=[x]) (by rw[ek,h];rfl)];rfl
def acD:cN af 20=J 1:=ax
def tQ.ag8(h:tQ x v):(∃n,x=.iface 3 ((n:Int):I)/\v=.int n/\0<=n/\n<=4611686018427387903)∨(∃k s b,x=.iface 60 (.ac k s (bV b))/\v=.aq b/\(b≠[]->s=1)/\F b<=1099511620000)∨∃r,x=.iface 118 (.agg r)/\cW v r:=by
 cases h with|int n c=>exact .inl ⟨n,O,O,c.1,c.2⟩|aq k s b e d=>exact .inr (.inl ⟨k,s,b,O,O,e,d⟩)|val v r h=>exact .inr (.inr ⟨r,O,h⟩)
def Qr(h:am)(Z:cS h=aa)(k:Tok)(s:Nat)(xs:List I)(vs:List Vl)(hr:sH xs vs)(hs:xs≠[]->s=1)(hl:F xs<=1000)(X:∀a∈xs,aI 0 0 0 a=aa):
 ∃r h',W4.call 150 [.ac k s (xs.map λa=>[a])] h=J (r,h')/\Ext h h'/\∃t sz U,r=.ret (.agg (aD 3 0 [] t sz U))/\cW (.ac vs) (aD 3 0 [] t sz U)/\fX 0 0 0 U=aa/\(F xs=0->t=.nil/\sz=0/\U=[]):=by
 have q:=aj.mk (au hr (au hs X));clear hr hs X;have z2:=uL;have u180:=underlying177;have u94:=underlying116;have z20:=acD;have fG:F (xs.map λa=>[a])=F xs:=bI _;have N:qh h (h.push (aD 3 0 [] .nil 0 [])) (F h.V) (vs.take 0) .nil 0 []:=⟨aQ _ _,.inl O,Z,.push _ _,aT _,⟨O,λi z0 r z=>by simp at z⟩,λz=>absurd O z,λ_=>.inr O,O⟩;refine cq O func150 O ?_;refine b_ @GK @fh @avL @jp ?_;refine bJ.gen λu l D fA eg=>?_;have f2:u.get 2=.ptr (.box (F h.V)) 0:=by rw[l];exact gS
 have f9:u.get 9=.ac k s (xs.map λa=>[a]):=by rw[l];exact gS
 have f10:u.get 10=(F xs:Nat):=by rw[l];exact gS
 have f11:u.get 11=(0:Nat):=by rw[l];exact gR
 have T:u.defers=[]:=by rw[D];exact gS
 clear l D fA eg;refine cK (λz1 L j=>∃(i:Nat) (t:Tok) (sz:Nat) (U:List (List I)),i<=F xs/\z1=F xs-i/\aj (qh h j (F h.V) (vs.take i) t sz U)/\aj (i=0->t=.nil/\sz=0/\U=[])/\L.get 2=.ptr (.box (F h.V)) 0/\L.get 9=.ac k s (xs.map λa=>[a])/\L.get 10=(F xs:Nat)/\L.get 11=(i:Nat)/\L.defers=[]) ?_ (F xs) _ _ ?_;rotate_left 1
 .exact⟨0,.nil,0,[],ck _,O,⟨N⟩,⟨λ_=>⟨O,O,O⟩⟩,f2,f9,f10,f11,T⟩
 clear f2 f9 f10 f11 T N;rintro z1 L j ⟨i,t,sz,U,hi,rfl,d,kN,g2,g9,g10,g11,hd⟩;by_cases v:i<F xs
 .have dY:s=1:=q.M.2.1 (by intro z;rw[z]at v;simp at v);subst dY;obtain⟨x,A⟩:∃x,xs[i]?=J x:=⟨_,aW v⟩;obtain⟨z0,m⟩:∃z0,vs[i]?=J z0:=⟨_,aW (by have:=q.M.1.1;omega)⟩;have p:=q.M.1.2 i x z0 A m;have o:=q.M.2.2 x (dk A);have ld:=Zc (H:=j) (s:=1) A;have y:=aj.mk (fS m);have w:F U<1000000:=by have:=d.M.rel.1;rw[dF]at this;omega
  have iy:(i:Int)<(F xs:Int):=by omega
  clear A m;rcases p.ag8 with⟨n,rfl,rfl,G,H⟩|⟨kb,sb,b,rfl,rfl,B,C⟩|⟨r,rfl,c⟩
  .have c:cW (.int n) (aD 1 n [] .nil 0 []):=.int n ⟨G,H⟩;have e:=aj.mk (d.M.put c O);have l3:=lj d.M.box;have R:=zT (r:=aD 1 n [] .nil 0 []) w d.M.four d.M.nil d.M.can;have S:=zZ (r:=aD 1 n [] .nil 0 []) O O;have st:=zw (H:=j.app t) (t2:=.free j.tn) (sz2:=4) (rows2:=U++[aD 1 n [] .nil 0 []]) (by rw[dC];exact d.M.box);rw[<-y.M]at e;clear c G H p o;refine b_ @GK @fh @bh (au @Us @Nh) ?_;exact⟨F xs-(i+1),by omega,i+1,_,_,_,by omega,O,e,⟨λz=>absurd z (TK _)⟩,by simp⟩
  .have c:cW (.aq b) (aD 2 0 b .nil 0 []):=.aq b C;have e:=aj.mk (d.M.put c O);have l3:=lj d.M.box;have R:=zT (r:=aD 2 0 b .nil 0 []) w d.M.four d.M.nil d.M.can;have S:=zZ (r:=aD 2 0 b .nil 0 []) O O;have cv:=NN (k:=kb) B;have st:=zw (H:=j.app t) (t2:=.free j.tn) (sz2:=4) (rows2:=U++[aD 2 0 b .nil 0 []]) (by rw[dC];exact d.M.box);rw[<-y.M]at e;clear c B C p o;refine b_ @GK @fh @bh (au @Ur (au @Uq @Ni)) ?_;exact⟨F xs-(i+1),by omega,i+1,_,_,_,by omega,O,e,⟨λz=>absurd z (TK _)⟩,by simp⟩
  .have E:aJ 0 0 0 r=aa:=(by simpa [aI] using o);have g:=d.M.push r;have e:=aj.mk (g.put c E);have l3:=lj g.box;have l4:=oa c.len (aQ j r);have R:=zT (r:=r) w g.four g.nil g.can;have S:=zZ (r:=r) c.len c.cells;have st0:=Sw (H:=j) c;have st:=zw (H:=(j.push r).app t) (t2:=.free (j.push r).tn) (sz2:=4) (rows2:=U++[r]) (by rw[dC];exact g.box);rw[<-y.M]at e;clear c p g o E;refine b_ @GK @fh @bh (au @afj (au @afi @afk)) ?_;exact⟨F xs-(i+1),by omega,i+1,_,_,_,by omega,O,e,⟨λz=>absurd z (TK _)⟩,by simp⟩
 .have Y:i=F xs:=by omega
  subst Y;have f:=d.M;rw[gm (by rw[q.M.1.1];exact aT _)]at f;have m:cW (.ac vs) (aD 3 0 [] t sz U):=.ac vs t sz U f.rel.1 f.four (by have:=f.rel.1;have:=q.M.1.1;omega) f.rel.2;have ld:=oa m.len f.box;have st:bU af j 118 (.ptr (.box (F h.V)) 0) (.agg (aD 3 0 [] t sz U))=J j:=by rw[e7 jp oo f.box O (aT 4),vU O];rw[jb f.box]
  have K:=aj.mk (au m (au f.ext f.fit));clear m f;refine br @GK ?_;exact⟨_,_,O,K.M.2.1,_,_,_,O,K.M.1,K.M.2.2,kN.M⟩
def bd3:iK af 118 [(0,.v (.int .i64 3))]=J (.agg (aD 3 0 [] .nil 0 [])):=ax
inductive wp:I->Vl->Prop
 |int (n:Int) (hn:0<=n/\n<=4611686018427387903):wp (.iface 3 (.v (.int .i64 n))) (.int n)
 |aq (k:Tok) (s:Nat) (b:List UInt8) (hs:b≠[]->s=1) (hb:b.length<=1099511620000):wp (.iface 60 (.ac k s (bV b))) (.aq b)
def uT(xs:List I)(vs:List Vl):Prop:=F xs=F vs/\∀(c:Nat) x v,xs[c]?=J x->vs[c]?=J v->wp x v
def uT.nil:uT [] []:=⟨O,λd x e c=>by simp at c⟩
def uT.cons(h:wp x v)(e:uT xs vs):uT (x::xs) (v::vs):=by
 refine⟨by simp[e.1],λf i g d c=>?_⟩;cases f with|zero=>simp at d c;subst d;subst c;exact h|succ f=>simp at d c;exact e.2 f i g d c
def wp.ag7(h:wp x v):(∃n,x=.iface 3 ((n:Int):I)/\v=.int n/\0<=n/\n<=4611686018427387903)∨(∃k s b,x=.iface 60 (.ac k s (bV b))/\v=.aq b/\(b≠[]->s=1)/\F b<=1099511620000):=by
 cases h with|int n c=>exact .inl ⟨n,O,O,c.1,c.2⟩|aq k s b e d=>exact .inr ⟨k,s,b,O,O,e,d⟩
def anW(h:am)(S:cS h=aa)(k:Tok)(s:Nat)(xs:List I)(vs:List Vl)(X:uT xs vs)(Z:xs≠[]->s=1)(hl:F xs<=1000)(A:gc (.ac vs)<=16)(B:F (cr (.ac vs))<=1099511600000):
 ∃r h',W4.call 70 [.ac k s (xs.map λa=>[a])] h=J (r,h')/\∃t,r=.ret (.ac t 1 (bV (cr (.ac vs)))):=by
 have m:=aj.mk (au X (au Z (au A B)));clear X Z A B;have z3:=uL;have u180:=underlying177;have u94:=underlying116;have z20:=acD;have fG:F (xs.map λa=>[a])=F xs:=bI _;have L:qh h (h.push (aD 3 0 [] .nil 0 [])) (F h.V) (vs.take 0) .nil 0 []:=⟨aQ _ _,.inl O,S,.push _ _,aT _,⟨O,λi z1 r z0=>by simp at z0⟩,λz0=>absurd O z0,λ_=>.inr O,O⟩;refine cq O func70 O ?_;refine b_ @Lf @fh @bd3 (au @Lx @jp) ?_;refine bJ.gen λo e z T Y=>?_;have f2:o.get 3=.ptr (.box (F h.V)) 0:=by rw[e];exact gS
 have f9:o.get 11=.ac k s (xs.map λa=>[a]):=by rw[e];exact gS
 have f10:o.get 12=(F xs:Nat):=by rw[e];exact gS
 have f11:o.get 13=(0:Nat):=by rw[e];exact gR
 have N:o.defers=[]:=by rw[z];exact gS
 clear e z T Y;refine cK (λz2 K u=>∃(i:Nat) (t:Tok) (v:Nat) (c:List (List I)),i<=F xs/\z2=F xs-i/\aj (qh h u (F h.V) (vs.take i) t v c)/\K.get 3=.ptr (.box (F h.V)) 0/\K.get 11=.ac k s (xs.map λa=>[a])/\K.get 12=(F xs:Nat)/\K.get 13=(i:Nat)/\K.defers=[]) ?_ (F xs) _ _ ?_;rotate_left 1
 .exact⟨0,.nil,0,[],ck _,O,⟨L⟩,f2,f9,f10,f11,N⟩
 clear f2 f9 f10 f11 N L;rintro z2 K u ⟨i,t,v,c,hi,rfl,d,g3,g11,g12,g13,hd⟩;by_cases p:i<F xs
 .have dY:s=1:=m.M.2.1 (by intro z0;rw[z0]at p;simp at p);subst dY;obtain⟨x,H⟩:∃x,xs[i]?=J x:=⟨_,aW p⟩;obtain⟨z1,l⟩:∃z1,vs[i]?=J z1:=⟨_,aW (by have:=m.M.1.1;omega)⟩;have q:=m.M.1.2 i x z1 H l;have ld:=Zc (H:=u) (s:=1) H;have G:=aj.mk (fS l);have E:F c<1000000:=by have:=d.M.rel.1;rw[dF]at this;omega
  have iy:(i:Int)<(F xs:Int):=by omega
  clear H l;rcases q.ag7 with⟨n,rfl,rfl,C,D⟩|⟨kb,sb,b,rfl,rfl,w,y⟩
  .have f:cW (.int n) (aD 1 n [] .nil 0 []):=.int n ⟨C,D⟩;have g:=aj.mk (d.M.put f O);have l3:=lj d.M.box;have ap:=zT (r:=aD 1 n [] .nil 0 []) E d.M.four d.M.nil d.M.can;have bl:=zZ (r:=aD 1 n [] .nil 0 []) O O;have st:=zw (H:=u.app t) (t2:=.free u.tn) (sz2:=4) (rows2:=c++[aD 1 n [] .nil 0 []]) (by rw[dC];exact d.M.box);rw[<-G.M]at g;clear f C D q;refine b_ @Lf @fh @bh (au @Us @Nh) ?_;exact⟨F xs-(i+1),by omega,i+1,_,_,_,by omega,O,g,by simp⟩
  .have f:cW (.aq b) (aD 2 0 b .nil 0 []):=.aq b y;have g:=aj.mk (d.M.put f O);have l3:=lj d.M.box;have ap:=zT (r:=aD 2 0 b .nil 0 []) E d.M.four d.M.nil d.M.can;have bl:=zZ (r:=aD 2 0 b .nil 0 []) O O;have cv:=NN (k:=kb) w;have st:=zw (H:=u.app t) (t2:=.free u.tn) (sz2:=4) (rows2:=c++[aD 2 0 b .nil 0 []]) (by rw[dC];exact d.M.box);rw[<-G.M]at g;clear f w y q;refine b_ @Lf @fh @bh (au @Ur (au @Uq @Ni)) ?_;exact⟨F xs-(i+1),by omega,i+1,_,_,_,by omega,O,g,by simp⟩
 .have R:i=F xs:=by omega
  subst R;have j:=d.M;rw[gm (by rw[m.M.1.1];exact aT _)]at j;have l:cW (.ac vs) (aD 3 0 [] t v c):=.ac vs t v c j.rel.1 j.four (by have:=j.rel.1;have:=m.M.1.1;omega) j.rel.2;have ld:=oa l.len j.box;obtain⟨te,ce⟩:=NV l m.M.2.2.1 m.M.2.2.2;clear l j;refine br @Lf ?_;exact⟨_,_,O,_,O⟩
def akS(h:am)(i:cS h=aa)(c:List UInt8)(k:Tok)(s:Nat)(xs:List I)(vs:List Vl)(j:sH xs vs)(l:xs≠[]->s=1)(g:F xs<=1000)(f:∀a∈xs,aI 0 0 0 a=aa)(p:F c<=1099511620000)(d:gc (.ac vs)<=16)(e:F (cr (.ac vs))<=1099511600000):
 ∃r h',W4.call 153 [.v (.string (bs c)),.ac k s (xs.map λa=>[a])] h=J (r,h')/\r=.ret (im ((rX c (.ac vs):Nat):Int)):=by
 obtain⟨_,w,v,-,z,y,q,rfl,m,-,-⟩:=Qr h i k s xs vs j l g f;obtain⟨t,ce⟩:=NV m d e;have o:=WC c (cr (.ac vs)) t ag p;have u:q_ (mg c (cr (.ac vs)))=rX c (.ac vs):=rfl;rw[u]at o;generalize rX c (.ac vs)=n at *
 unfold im at *
 clear j l g m f u;refine cq O func153 O ?_;refine br @atr ?_;exact⟨_,_,O,O⟩
section
open Tryz renaming underlying23->Q15,func207->Q19
open YtcbhpkjbiehcpaaGreatDoor renaming ayE->Q16,eQ->Q18,atD->Q20,ag1->Q21,avv->Q22
open Go renaming kk23->Q17
def ayX(n:Nat)(c:0<n)(f:n<=1099511627776)(H:am):W4.call 207 [.ac .nil 0 [],((n:Nat):I)] H=J (.ret (.arr (F H.V) 0 0 n),H.push (bT n [im 0]).flatten):=ZS6
end
def ayW(H:am):W4.call 207 [.ac .nil 0 [],((0:Nat):I)] H=J (.ret (.ac .nil 0 []),H):=by
 have c:=underlying23;refine cX O func207 O ?_;have d:IntKind.i64.wrap ((0:Int)-0)=0:=by rfl
 have e:IntKind.i64.wrap (((0:Nat):Int)-0)=0:=by rfl
 exact Oi @atD @Iw @ag1 (au @avv (au @gh.{0} (au @Int.natCast_zero @Int.sub_zero)))
section
open Tryz renaming underlying23->Q32,underlying22->Q33,func141->Q36
open YtcbhpkjbiehcpaaGreatDoor renaming ayz->Q34,g_->Q35,aAu->Q37,ayW->Q39,ayC->Q40,ayX->Q41,im->Q42,ayw->Q43
open Go renaming kk23->Q38
def ah8(k:Tok)(xs:List I)(c:List (List (List I)))(hl:F xs=F c)(H:am)(hs:∀(i:Nat) x d,xs[i]?=J x->c[i]?=J d->d_ 1 H x d)(hb:F c.flatten<=1099511627776)(gH:F xs<=1000):
 ∃r H',W4.call 141 [.ac k 1 (xs.map λx=>[x])] H=J (r,H')/\∃y,r=.ret y/\Ext H H'/\d_ 1 H' y c.flatten:=ZS7
end
def L5:List bk:=[80,81,75,134,66,82,133,130,202,67,39,68,69,70,162,135,43,111,35,139,140,141,142,150,40,100,96,97,99,241,158,159,203,103,104,105,193,242,74,174,231,232,233,222,178]
noncomputable def DK:bk->Option (List I->am->Option (I × am)):=yQ 4 W4 L5 [153]
noncomputable abbrev W5:=whole af Gt DK
def kL:nG DK L5:=λd c=>⟨yN W4 d,by unfold DK yQ;rw[aC (by simpa using c)];rfl⟩
section
variable (a b n x:Int)
def If:∀h,W5.call 80 [im a,im b] h=J (.ret (im (cV a b)),h):=gT (L:=L5) O O O (Ua a b _) O rfl
def Kb:∀h,W5.call 81 [im a,im b] h=J (.ret (im (cO a b)),h):=gT (L:=L5) O O O (ZT a b _) O rfl
def Hq:∀h,W5.call 66 [im x] h=J (.ret (.v (.bool (b8 x))),h):=gT (L:=L5) O O O (acO x _) O rfl
def Cy:∀h,W5.call 67 [im a,im b] h=J (.ret (.tuple [im (pm a b),im (rT a b)]),h):=gT (L:=L5) O O O (akk a b _) O rfl
def I4:∀h,W5.call 75 [im a,im n] h=J (.ret (.tuple [im (eO a n),im (lQ a)]),h):=gT (L:=L5) O O O (Of a n _) O rfl
def aru:∀h,W5.call 130 [im a,im b] h=J (.ret (im (cV a b)),h):=gT (L:=L5) O O O (art a b _) O rfl
def asU:∀h,W5.call 202 [im a,im b] h=J (.ret (im (cO a b)),h):=gT (L:=L5) O O O (asT a b _) O rfl
def asg:∀h,W5.call 231 [im n] h=J (.ret (.tuple [im (if fmod n=0 then 0 else eK n),im (if fmod n=0 then 90 else 0)]),h):=gT (L:=L5) O O O (asf n _) O rfl
def auF:∀h,W5.call 111 [im x] h=J (.ret (.v (.bool (b8 x))),h):=gT (L:=L5) O O O (auE x _) O rfl
def arZ:∀h,W5.call 203 [im a,im n] h=J (.ret (.tuple [im (eO a n),im (lQ a)]),h):=gT (L:=L5) O O O (arY a n _) O rfl
def asa:∀h,W5.call 97 [im n] h=J (.ret (.agg (aD 1 n [] .nil 0 [])),h):=gT (L:=L5) O O O (ar9 n _) O rfl
end
def Gx(x n):∀h,W5.call 82 [im x,im n] h=J (.ret (im (eO x n)),h):=gT (L:=L5) O O O (aqJ x n _) O rfl
def aaR(x n):∀h,W5.call 68 [im x,im n] h=J (.ret (im (eO x n)),h):=gT (L:=L5) O O O (aqK x n _) O rfl
def aoV(n):∀h,W5.call 133 [im n] h=J (.ret (.v (.bool (cA n))),h):=gT (L:=L5) O O O (aac n _) O rfl
def oi(c:RL x U)(d:IL y ae):RL (av x) U/\IL (av y) ae/\aI 0 0 0 (av x)=aa/\aI 0 0 0 (av y)=aa:=
 ⟨c.iE.1,d.hold.1,c.iE.2,d.hold.2⟩
def NF(x y)(U)(ae)(g:RL x U)(i:IL y ae):∀h,W5.call 35 [.agg [x,y]] h=J (.ret (im (cE U ae)),h):=by obtain⟨c,d,e,f⟩:=oi g i;exact gT (L:=L5) (A:=[.agg [av x,av y]]) O O (by simp[aJ,aI,e,f]) (Vj (av x) (av y) U ae c d _) O rfl
def ZS12{p:Prop}(h:p:=by obtain⟨c,d,e,f⟩:=oi g i;obtain⟨k,j,-⟩:=Q60 ⟨[],[],0,[]⟩ (av x) (av y) U ae c d;exact gT (L:=L5) (A:=[.agg [av x,av y]]) O O (by simp[aJ,aI,e,f]) j O rfl):p:=h
section
open YtcbhpkjbiehcpaaGreatDoor renaming ahU->Q60
def ahV(x y)(U)(ae)(g:RL x U)(i:IL y ae):∀h,W5.call 140 [.agg [x,y]] h=J (.ret (im (b7 U:Nat)),h):=ZS12
end
section
open YtcbhpkjbiehcpaaGreatDoor renaming ayP->Q60
def ahX(x y)(U)(ae)(g:RL x U)(i:IL y ae):∀h,W5.call 134 [.agg [x,y]] h=J (.ret (im (b7 U:Nat)),h):=ZS12
end
section
open YtcbhpkjbiehcpaaGreatDoor renaming ayO->Q60
def ahW(x y)(U)(ae)(g:RL x U)(i:IL y ae):∀h,W5.call 104 [.agg [x,y]] h=J (.ret (im (b7 U:Nat)),h):=ZS12
end
def abd(x y)(U)(ae)(i:RL x U)(j:IL y ae)(g:F U<=1000000):∀h,W5.call 40 [.agg [x,y]] h=J (.ret (im (cE U ae)),h):=by obtain⟨c,d,e,f⟩:=oi i j;obtain⟨m,l,k,-,rfl⟩:=arx ⟨[],[],0,[]⟩ (av x) (av y) U ae c d g;exact gT (L:=L5) (A:=[.agg [av x,av y]]) O O (by simp[aJ,aI,e,f]) k O rfl
def aae(x)(l)(f:IL x l)(e:F l<=1000000):∀h,W5.call 139 [x] h=J (.ret (.v (.bool (l.all cA))),h):=by obtain⟨c,d⟩:=f.hold;exact gT (L:=L5) (A:=[av x]) O O (by simp[aJ,d]) (aad (av x) l c e _) O rfl
def ao0(x)(l)(f:IL x l)(e:F l<=9223372036854775807):∀h,W5.call 135 [x] h=J (.ret (.v (.bool (l.all cA))),h):=by obtain⟨c,d⟩:=f.hold;obtain⟨j,i,g,-,rfl⟩:=aoZ ⟨[],[],0,[]⟩ (av x) l c e;exact gT (L:=L5) (A:=[av x]) O O (by simp[aJ,d]) g O rfl
def aaD(x)(l)(f:IL x l)(e:F l<=9223372036854775807):∀h,W5.call 43 [x] h=J (.ret (.v (.bool (dD (-1) l))),h):=by obtain⟨c,d⟩:=f.hold;obtain⟨j,i,g,-,rfl⟩:=ap0 ⟨[],[],0,[]⟩ (av x) l c e;exact gT (L:=L5) (A:=[av x]) O O (by simp[aJ,d]) g O rfl
def Xe(x)(l)(n)(f:IL x l)(e:F l<=1099511627776):∀h,W5.call 105 [x,im n] h=J (.ret (.v (.bool (l.contains n))),h):=by obtain⟨c,d⟩:=f.hold;obtain⟨j,i,g,-,rfl⟩:=akK ⟨[],[],0,[]⟩ (av x) l n c e;exact gT (L:=L5) (A:=[av x,im n]) O O (by simp[aJ,d,aI,im]) g O rfl
def awQ(n)(c:0<n)(d:n<=1000000):∀h,W5.call 103 [im (n:Nat)] h=J (.ret (.ac .held 1 (ay (fT n))),h):=
 gT (L:=L5) O O O (awP ⟨[],[],0,[]⟩ n c d) (A4 (aQ _ _) (SI c)) (by simp[aI,jw,qI])
def aw4(x y)(a b)(j:IL x a)(k:IL y b)(i:F a<=1000000)(c:F a<=F b):∀h,W5.call 142 [x,y] h=J (.ret (im (lP a b)),h):=by obtain⟨d,e⟩:=j.hold;obtain⟨f,g⟩:=k.hold;obtain⟨m,l,-⟩:=aw3 ⟨[],[],0,[]⟩ (av x) (av y) a b d f i c;exact gT (L:=L5) (A:=[av x,av y]) O O (by simp[aJ,e,g]) l O rfl
def VG(x y z)(U)(ae c)(l:RL x U)(m:IL y ae)(o:IL z c)(k:F c<=1000000):∀h,W5.call 158 [.agg [x,y],z] h=J (.ret (im (iC U ae c)),h):=by obtain⟨d,e,f,g⟩:=oi l m;obtain⟨i,j⟩:=o.hold;obtain⟨r,q,p,-,rfl⟩:=aiw ⟨[],[],0,[]⟩ (av x) (av y) (av z) U ae c d e i k;exact gT (L:=L5) (A:=[.agg [av x,av y],av z]) O O (by simp[aJ,aI,f,g,j]) p O rfl
def ar4(x y)(U)(ae)(g:RL x U)(i:IL y ae)(a v):∀h,W5.call 159 [.agg [x,y],.agg [im a,im v]] h=J (.ret (.v (.bool (uD U (a,v)))),h):=by obtain⟨c,d,e,f⟩:=oi g i;obtain⟨l,k,j,-,rfl⟩:=ar3 ⟨[],[],0,[]⟩ (av x) (av y) U ae c d a v;exact gT (L:=L5) (A:=[.agg [av x,av y],.agg [im a,im v]]) O O (by simp[aJ,aI,e,f,im]) j O rfl
def We:∀l:List Int,(ay l).flatten=l.map im
 | []=>rfl
 |a::l=>by show(wT a::ay l).flatten=im a::l.map im;rw[List.flatten_cons,We l];rfl
def al7(s:d_ 1 h y (ay l)):IL (ea h y) l/\aI 0 0 0 (ea h y)=aa:=by
 rcases s.2 with⟨q,p,rfl,f⟩|⟨b,i,g,k,rfl,-,e,c,d⟩
 .rw[ea];exact⟨⟨_,_,O,λo=>f (by unfold ay;simpa using o)⟩,by rw[aI,fB,jw];rfl⟩
 .rw[ea,e];simp only;rw[nO]at c d;have m:(ay l).flatten.map (λj=>[j])=ay l:=by have this:(ay l).flatten=l.map im:=We l;rw[this,N8]
  rw[aC d,c,m];exact⟨⟨_,_,O,λ_=>rfl⟩,by rw[aI,jw];rfl⟩
def aia(x y)(a b)(q:IL x a)(r:IL y b)(C:F a+F b<=1000000):∃z,IL z (a++b)/\∀h,W5.call 141 [.ac .aK 1 [[x],[y]]] h=J (.ret z,h):=by
 obtain⟨j,k⟩:=q.hold;obtain⟨l,m⟩:=r.hold;obtain⟨G,B,w,z,rfl,-,f⟩:=ah8 .aK [av x,av y] [ay a,ay b] O ⟨[],[],0,[]⟩ (λv g H d c=>by
  have e:∀{g:I} {u:List Int},IL g u->d_ 1 ⟨[],[],0,[]⟩ g (ay u):=λ{g u} d=>by obtain⟨K,N,rfl,p⟩:=d;exact d_.ac (λG o=>by obtain⟨n,-,rfl⟩:=iW.1 o;rfl) λD=>p λi=>D (by rw[i];rfl)
  rcases v with _|_|v
  .injection d with d;injection c with c;subst d;subst c;exact e j
  .injection d with d;injection c with c;subst d;subst c;exact e l
  .cases d) (by simp[c'];omega) cB
 have i:[ay a,ay b].flatten=ay (a++b):=by simp[ay]
 rw[i]at f;obtain⟨s,t⟩:=al7 f;exact⟨_,s,gT (L:=L5) (A:=[.ac .aK 1 [[av x],[av y]]]) O O (by simp[aJ,aI,fX,k,m,qI]) w O t⟩
def akf(c b)(k)(d:F b<=1099511620000)(e:F c<=1099511620000):∀h,W5.call 69 [.v (.string (bs c)),.ac k 1 (bV b)] h=J (.ret (im (q_ (mg c b):Nat)),h):=
 gT (L:=L5) (A:=[.v (.string (bs c)),.ac (cJ k) 1 (bV b)]) O (by rw[bA,bA,av.eq_1,tf];rfl) (by simp[aJ,aI,fB,nm]) (WC c b _ d e _) O rfl
def tQ.hold(h:tQ x v):tQ (av x) v/\aI 0 0 0 (av x)=aa:=by
 cases h with|int n f=>exact⟨.int n f,O⟩|aq k j b g e=>rw[av,av,tf];exact⟨.aq _ j b g e,by simp[aI,fB,nm]⟩|val v i h=>obtain⟨c,d⟩:=cW.hold v i h;rw[av,av];exact⟨.val v _ c,by simpa [aI] using d⟩
def ZS13{p:Prop}(h:p:=by
 refine⟨⟨by simp[h.1],λg x l c j=>?_⟩,λa i=>?_⟩
 .rw[ek]at c;cases d:xs[g]? with
  |none=>rw[d]at c;cases c
  |some k=>rw[d]at c;injection c with c;subst c;exact(h.2 g k l d j).hold.1
 .obtain⟨k,d,rfl⟩:=iW.1 i;obtain⟨g,e⟩:=sK d;have f:=(aU.1 e).1;exact(h.2 g k _ e (aW (by rw[<-h.1];exact f))).hold.2):p:=h
def sH.hold(h:sH xs vs):sH (xs.map av) vs/\∀a∈xs.map av,aI 0 0 0 a=aa:=ZS13
def cW.tok{U}(h:cW (.ac vs) (aD 3 0 [] t sz U))(t2):cW (.ac vs) (aD 3 0 [] t2 sz U):=by
 generalize c:aD 3 0 [] t sz U=m at h;cases h with|ac l k o j a b f g=>unfold aD at c;injection c with _ c;injection c with _ c;injection c with _ c;injection c with c;injection c with i d e;subst d;subst e;exact .ac vs t2 sz U a b f g
def anR(k)(s)(xs)(vs)(i:sH xs vs)(j:xs≠[]->s=1)(g:F xs<=1000):
 ∃row,cW (.ac vs) row/\∀h,W5.call 150 [.ac k s (xs.map λa=>[a])] h=J (.ret (.agg row),h):=by
 obtain⟨e,d⟩:=i.hold;obtain⟨t,p,o,-,r,m,c,rfl,l,f,-⟩:=Qr ⟨[],[],0,[]⟩ vK (cJ k) s (xs.map av) vs e (λq=>j (by simpa using q)) (by simpa using g) d;refine⟨aD 3 0 [] (cJ r) m c,l.tok _,gT (L:=L5) (A:=[.ac (cJ k) s ((xs.map av).map λa=>[a])]) O (by rw[bA,bA,av,AP]) (by rw[aJ,aJ,aI,fB,wE _ d];rfl) o O ?_⟩;rw[aI,aD,aJ,aJ,aJ,aJ,aJ,aI,fB,f];rfl
def Wv:∀xs:List I,pj z h (xs.map λa=>[a])=(xs.map (ig z h)).map λa=>[a]
 | []=>rfl
 |x::xs=>by rw[dK,pj,Wv xs];rfl
def Ww:∀b:List UInt8,pj z h (bV b)=bV b
 | []=>rfl
 |a::b=>by show pj z h (iL a::bV b)=_;rw[pj,Ww b];rfl
def uM(h:am)(x:I)(v:Vl):Prop:=tQ (ig 4 h x) v/\aI 0 0 0 (ig 4 h x)=aa
def xB(h:am)(xs:List I)(vs:List Vl):Prop:=F xs=F vs/\∀(c:Nat) x v,xs[c]?=J x->vs[c]?=J v->uM h x v
def xB.nil:xB h [] []:=⟨O,λd x e c=>by simp at c⟩
def xB.cons(q:uM h x v)(e:xB h xs vs):xB h (x::xs) (v::vs):=by
 refine⟨by simp[e.1],λf i g d c=>?_⟩;cases f with|zero=>simp at d c;subst d;subst c;exact q|succ f=>simp at d c;exact e.2 f i g d c
def uM.int(n)(c:0<=n/\n<=4611686018427387903):uM h (.iface 3 ((n:Int):I)) (.int n):=⟨.int n c,O⟩
def uM.aq(k)(s)(b)(d:b≠[]->s=1)(c:F b<=1099511620000):uM h (.iface 60 (.ac k s (bV b))) (.aq b):=by unfold uM;rw[ig,ig,Ww];exact⟨.aq _ s b d c,by simp[aI,fB,nm]⟩
def ath{U:List (List I)}(d:∀r∈U,F r=z)(h:U[i]?=J r):(U.flatten.drop (i*z)).take z=r:=by
 have e:=d r (dk h);refine ou λf=>?_;rw[List.getElem?_take];split
 .rename_i c;rw[qM,ajB d i f c,h];rfl
 .rename_i c;rw[pR ag]
def ati(e:0<z):∀U:List (List I),(∀r∈U,F r=z)->oR z U.flatten 0 (F U)=U:=by
 intro U d;refine ou λf=>?_;unfold oR;rw[ek];rcases dR f (F U) with c|c
 .rw[xQ c,gq,oy,ath d (aW c),aW c]
 .rw[pR (by simpa using c),pR c];rfl
def uM.ac{U}(l:h.V[b]?=J U.flatten)(c:gy vs U)(m:F U<=1000000):uM h (.iface 118 (.agg (im 3::im 0::sv []::[.arr b 0 (F U) (F U)]))) (.ac vs):=by
 have i:∀p∈U,F p=4:=λp j=>by obtain⟨r,f⟩:=sK j;have g:=(aU.1 f).1;exact(c.2 r _ p (aW (by rw[<-c.1];exact g)) f).len
 have q:ig 4 h (.iface 118 (.agg (im 3::im 0::sv []::[.arr b 0 (F U) (F U)])))=.iface 118 (.agg (aD 3 0 [] .held 4 (dV U))):=by unfold im sv aD;simp only[ig,iM,l];rw[aC ⟨by rw[nW i];omega,by decide⟩,ati aZ U i];rfl
 have o:cW (.ac vs) (aD 3 0 [] .held 4 U):=.ac vs .held 4 U c.1 (λ_=>rfl) m c.2;obtain⟨d,e⟩:=cW.hold _ _ o;have k:bA (aD 3 0 [] .held 4 U)=aD 3 0 [] .held 4 (dV U):=rfl;rw[k]at d e;unfold uM;rw[q];exact⟨.val _ _ d,by simpa [aI] using e⟩
def xB.mz(q:xB h xs vs):sH (xs.map (ig 4 h)) vs/\∀a∈xs.map (ig 4 h),aI 0 0 0 a=aa:=by
 refine⟨⟨by simp[q.1],λg x l c j=>?_⟩,λa i=>?_⟩
 .rw[ek]at c;cases d:xs[g]? with
  |none=>rw[d]at c;cases c
  |some k=>rw[d]at c;injection c with c;subst c;exact(q.2 g k l d j).1
 .obtain⟨k,d,rfl⟩:=iW.1 i;obtain⟨g,e⟩:=sK d;have f:=(aU.1 e).1;exact(q.2 g k _ e (aW (by rw[<-q.1];exact f))).2
def Xg(h)(c)(k)(s)(xs)(vs)(j:xB h xs vs)(l:xs≠[]->s=1)(i:F xs<=1000)(m:F c<=1099511620000)(e:gc (.ac vs)<=16)(f:F (cr (.ac vs))<=1099511600000):
 W5.call 153 [.v (.string (bs c)),.ac k s (xs.map λa=>[a])] h=J (.ret (im ((rX c (.ac vs):Nat):Int)),h):=by
 obtain⟨g,d⟩:=j.mz;obtain⟨r,p,o,rfl⟩:=akS ⟨[],[],0,[]⟩ vK c (cJ k) s (xs.map (ig 4 h)) vs g (λq=>l (by simpa using q)) (by simpa using i) d m e f;refine ajP (A:=[.v (.string (bs c)),.ac (cJ k) s ((xs.map (ig 4 h)).map λa=>[a])]) O O ?_ ?_ o
 .rw[iM,iM,iM,ig,Wv];rfl
 .simp only[aJ,aI,fB,wE _ d,Bool.and_self]
def wp.hold(h:wp x v):wp (av x) v/\aI 0 0 0 (av x)=aa:=by
 cases h with|int n d=>exact⟨.int n d,O⟩|aq g f b e c=>rw[av,av,tf];exact⟨.aq _ f b e c,by simp[aI,fB,nm]⟩
def uT.hold(h:uT xs vs):uT (xs.map av) vs/\∀a∈xs.map av,aI 0 0 0 a=aa:=ZS13
def anX(k)(s)(xs)(vs)(i:uT xs vs)(j:xs≠[]->s=1)(g:F xs<=1000)(c:gc (.ac vs)<=16)(d:F (cr (.ac vs))<=1099511600000):
 ∃t,∀h,W5.call 70 [.ac k s (xs.map λa=>[a])] h=J (.ret (.ac t 1 (bV (cr (.ac vs)))),h):=by
 obtain⟨e,f⟩:=i.hold;obtain⟨p,m,l,t,rfl⟩:=anW ⟨[],[],0,[]⟩ vK (cJ k) s (xs.map av) vs e (λo=>j (by simpa using o)) (by simpa using g) c d;exact⟨cJ t,gT (L:=L5) (A:=[.ac (cJ k) s ((xs.map av).map λa=>[a])]) O (by rw[bA,bA,av,AP]) (by rw[aJ,aJ,aI,fB,wE _ f];rfl) l O (by simp[aI,fB,nm])⟩
def T9(c)(s0)(xs:List I)(y z)(U)(ae ak)(u:RL (.ac c s0 (xs.map λa=>[a])) U)(v:IL y ae)(w:IL z ak)(j:F ak<=1099511627776):
 (∃e,fg U ae ak=([],ar,e)/\∀h,W5.call 39 [.agg [.ac c s0 (xs.map λa=>[a]),y],z] h=J (.ret (.tuple [.ac .nil 0 [],(ar:I),((e:Int):I)]),h))∨
 ∃l,fg U ae ak=(l,aa,0)/\F l=F U/\∀h,W5.call 39 [.agg [.ac c s0 (xs.map λa=>[a]),y],z] h=J (.ret (.tuple [.ac .held 1 (ay l),(aa:I),.v (.int .i64 0)]),h):=by
 obtain⟨m,o⟩:=u.hold;obtain⟨p,q⟩:=v.hold;obtain⟨r,s⟩:=w.hold;have g:bA [.agg [.ac c s0 (xs.map λa=>[a]),y],z]=[.agg [.ac (cJ c) s0 ((xs.map av).map λa=>[a]),av y],av z]:=by rw[bA,av,bA,bA,bA,av,AP];rfl
 have i:aJ 0 0 0 [.agg [.ac (cJ c) s0 ((xs.map av).map λa=>[a]),av y],av z]=aa:=by have t:=wE _ o;rw[aJ,aI,aJ,aJ,aJ,aJ,aI,fB,t,q,s];rfl
 rcases aew (cJ c) s0 (xs.map av) (av y) (av z) U ae ak m p r j with⟨e,d,f⟩|⟨l,d,k,f⟩
 .exact .inl ⟨e,d,gT (L:=L5) O g i (f _) O O⟩
 .exact .inr ⟨l,d,k,gT (L:=L5) O g i (f _) O (by simp[aI,aJ,jw,qI])⟩
def DW:Tryz.f26.results.toList=[.tmp 6]:=ax
def Cq:dQ af 52 (.ptr (.box b) 0) 0=J (.ptr (.box b) 0):=ax
def Cr:dQ af 52 (.ptr (.box b) 0) 1=J (.ptr (.box b) 1):=ax
def F_:isIface af 3=J ar:=ax
def P0:isIface af 60=J ar:=ax
def amb:isIface af 118=J ar:=ax
def UR(t u v)(x y z):fF af 177 3 [(0,.iface t x),(1,.iface u y),(2,.iface v z)]=J (.ac .aK 1 [[.iface t x],[.iface u y],[.iface v z]]):=ax
def ab2(a b)(t):F (cr (.ac [.int a,.int b,.aq t]))<=60+F t:=by
 have c:=iG 9 (0+1+1+1);have d:=iG 9 (iB a);have e:=iG 9 (iB b);have f:=iG 9 (F t);simp only[cr,gM,eR,db,gh]at *
 omega
def sS:b8 4=aa:=by decide+kernel
def rU(h:b8 a=aa)(n):eO a n=((bZ a.toNat n:Nat):Int):=by unfold eO;rw[aC h]
def ub{a}(h:elem a=aa):b8 ((a:Nat):Int)=aa:=by unfold b8;rw[eD,h,Em];have:=(elem_iff.1 h).1;exact cy ag
def Cn(h:b8 a=aa):elem a.toNat=aa:=by unfold b8 at h;rw[bR]at h;exact h.2
def Co(h:b8 a=aa):1<=a/\a<=2147483578:=by obtain⟨n,rfl,c,d,e⟩:=Fa h;have:P=2147483579:=rfl;omega
def aiR(h:b8 a=aa)(n):b8 ((bZ a.toNat n:Nat):Int)=aa:=ub (y9 (Cn h) n)
def wB(h:b8 a=aa)(n):b8 (eO a n)=aa:=by rw[rU h];exact aiR h n
def Fk{b}(h:b8 a=aa)(k:b8 b=aa):pm a b=((a.toNat*b.toNat%P:Nat):Int):=by unfold pm;rw[aC ⟨h,k⟩]
def aiQ{b}(h:b8 a=aa)(k:b8 b=aa):b8 (pm a b)=aa:=by rw[Fk h k];exact ub (Fb (Cn h) (Cn k))
def axB(h:am)(c e s:Int)(l:Tok)(st:Nat)(aq:List UInt8)(B:aq≠[]->st=1)(R:F aq<=1000000):
 ∃r h',W5.call 26 [im c,.ac l st (bV aq),.agg [im e,im s]] h=J (r,h')/\r=.ret (.v (.bool (nE c aq e s)))/\Ext h h':=by
 have m:=Hq c;have H:(I.agg [im e,im s]).bL=J [im e,im s]:=rfl;have S:=Qe (aQ h [im e,im s]);have T:=Qf (aQ h [im e,im s]);have g:aj (nE c aq e s=(b8 c&&cA e&&cA s&&decide (e=((zt ((bZ Gn s*bZ c.toNat (0-e)%P:Nat):Int) c aq:Nat):Int)))):=⟨by rw[Tm];rfl⟩;generalize nE c aq e s=res at *
 refine cq O func26 O ?_;unfold im at *
 by_cases hA:e<0∨s<0
 .have d1:decide ((if s<e then s else e)<0)=aa:=cy (by split<;>omega);have f:aj (res=ar):=⟨by
   rw[g.M];unfold cA;rcases hA with q|q
   .rw[cR (ag:¬0<=e)];simp
   .rw[cR (ag:¬0<=s)];simp⟩
  clear hA;refine b_ @DW @Cq @Cr (au @bG (au @Gf @Bf)) ?_;exact⟨_,_,O,by rw[f.M],.push _ _⟩
 have d1:decide ((if s<e then s else e)<0)=ar:=cR (by split<;>omega);by_cases j:1073741789<=e∨1073741789<=s
 .have d2:decide (1073741789<=(if e<s then s else e))=aa:=cy (by split<;>omega);have f:aj (res=ar):=⟨by
   rw[g.M];unfold cA Qi;rcases j with q|q
   .rw[cR (ag:¬e<1073741789)];simp
   .rw[cR (ag:¬s<1073741789)];simp⟩
  clear hA j;refine b_ @DW @Cq @Cr (au @bG (au @Gf @Bf)) ?_;exact⟨_,_,O,by rw[f.M],.push _ _⟩
 have d2:decide (1073741789<=(if e<s then s else e))=ar:=cR (by split<;>omega);have t:0<=e:=by omega
 have u:e<1073741789:=by omega
 have z:0<=s:=by omega
 have A:s<1073741789:=by omega
 clear hA j;cases d:b8 c with
 |false=>rw[d]at m;have f:aj (res=ar):=⟨by rw[g.M,d];rfl⟩;clear d;refine b_ @DW @Cq @Cr (au @bG (au @Gf @Bf)) ?_;exact⟨_,_,O,by rw[f.M],.push _ _⟩
 |true=>
  rw[d]at m;have K:=aaR 4 s;have L:=aaR c (0-e);have N:=Cy (eO 4 s) (eO c (0-e));have w:=aiQ (wB sS s) (wB d (0-e));have p:pm (eO 4 s) (eO c (0-e))=((bZ Gn s*bZ c.toNat (0-e)%P:Nat):Int):=by rw[Fk (wB sS s) (wB d (0-e)),rU sS,rU d,eD,eD];rfl
  have f:aj (res=decide (e=((zt (pm (eO 4 s) (eO c (0-e))) c aq:Nat):Int))):=⟨by rw[g.M,d,p,uj.2 (show okF e from⟨t,u⟩),uj.2 (show okF s from⟨z,A⟩)];rfl⟩;have E:=Co d;have y:=Co w;clear d p w;generalize pm (eO 4 s) (eO c (0-e))=i at *
  have k:=ab2 i c aq;obtain⟨G,C⟩:=anX .aK 1 [.iface 3 ((i:Int):I),.iface 3 ((c:Int):I),.iface 60 (.ac l st (bV aq))] [.int i,.int c,.aq aq]
   (.cons (.int i ⟨ag,by omega⟩) (.cons (.int c ⟨ag,by omega⟩) (.cons (.aq l st aq B ag) .nil))) (λ_=>rfl) cB (by simp[gc,gF]) ag
  have o:=akf Bo (cr (.ac [.int i,.int c,.aq aq])) G ag aZ;have v:q_ (mg Bo (cr (.ac [.int i,.int c,.aq aq])))=zt i c aq:=rfl;rw[v]at o;simp only[dK,tT]at C;generalize zt i c aq=n at *
  rw[show Bo=[115,105,103,110] from O]at o;have X:IntKind.i64.wrap (0-e)=0-e:=ji ag ag;unfold im at *
  clear k v E y;refine b_ @DW @Cq @Cr (au @bG (au @Gf @Bf)) ?_;refine eI kL ax ?_;refine dL @DW @Cq @Cr ?_;refine eI kL ax ?_;refine b_ @DW @Cq @Cr (au @F_ (au @P0 @UR)) ?_;exact⟨_,_,O,by rw[f.M],.push _ _⟩
def DY:Tryz.f160.results.toList=[.tmp 6,.tmp 7]:=ax
def RS:Tryz.f79.results.toList=[.tmp 6,.tmp 7]:=ax
def vM(c row:List Int)(k:Nat):Nat:=(bE k).foldl (λx d=>x*bZ (ah c d).toNat (ah row d)%P) 1
def aaU(c row)(k):vM c row (k+1)=vM c row k*bZ (ah c k).toNat (ah row k)%P:=by unfold vM;rw[jH,nJ];rfl
def Rl{c row}(h:c.all b8=aa):∀k,k<=F c->elem (vM c row k)=aa
 |0,_=>Cp
 |k+1,d=>by rw[aaU];refine Fb (Rl h k ag) (y9 (Cn ?_) _);rw[e8]at h;exact h _ (by rw[fy ag];exact jG _)
def ss(U:List (List Int))(ae c:List Int)(row:Int):Int × Int:=
 if iC U ae c≠0 then (0,iC U ae c) else if decide (row<0)||decide ((F U:Int)<=row) then (0,1) else (((mE c (U.getD row.toNat []):Nat):Int),0)
def Vo{c}(h:iC U ae c=0):cE U ae=0/\F c=b7 U/\c.all b8=aa:=by
 unfold iC at h;split at h
 .rename_i e;exact absurd h e
 .rename_i e;split at h
  .rename_i d;rw[bR,decide_eq_true_eq]at d;exact⟨by simpa using e,d.1,d.2⟩
  .cases h
def aaW(h:am)(x y z:I)(U:List (List Int))(ae c:List Int)(C:RL x U)(Z:IL y ae)(hz:IL z c)(hl:F c<=1000000)(row:Int):
 ∃r h',W5.call 160 [.agg [x,y],z,im row] h=J (r,h')/\r=.ret (.tuple [im (ss U ae c row).1,im (ss U ae c row).2])/\Ext h h':=by
 have bx:=uw C Z;have c1:=VG x y z U ae c C Z hz hl;have X:=aQ h [x,y];have l0:=ul X;have l1:=qu X;have ln:=C.dp;have kx:=aj.mk (au C hz);clear C Z X;have K:aj (iC U ae c≠0->ss U ae c row=(0,iC U ae c)):=⟨λq=>by unfold ss;rw[aC q]⟩;have B:aj (iC U ae c=0->row<0∨(F U:Int)<=row->ss U ae c row=(0,1)):=⟨λq p=>by
  unfold ss;rw[aL (by simp[q]),aC];rcases p with p|p
  .rw[cy p];rfl
  .rw[cy p];simp⟩
 have L:aj (iC U ae c=0->¬row<0->¬(F U:Int)<=row->ss U ae c row=(((mE c (U.getD row.toNat []):Nat):Int),0)):=⟨λq p1 p2=>by unfold ss;rw[aL (by simp[q]),aL (by rw[cR p1,cR p2];simp)]⟩;have H:=λq=>@Vo ae U c q;have T:=aj.mk H;clear H;generalize ss U ae c row=res at *
 unfold im at *
 refine cq O func160 O ?_;by_cases g:iC U ae c=0;rotate_left 1
 .have k:=aj.mk (K.M g);generalize iC U ae c=q at *
  refine bB @DY @bG ?_;exact⟨_,_,O,by rw[k.M],.push _ _⟩
 rw[g]at c1;by_cases j:row<0
 .have d1:decide (row<0)=aa:=cy j;have k:=aj.mk (B.M g (.inl j));clear j g;refine dL @DY @bG @eF ?_;exact⟨_,_,O,by rw[k.M],.push _ _⟩
 have d1:decide (row<0)=ar:=cR j;by_cases s:(F U:Int)<=row
 .have d2:decide ((F U:Int)<=row)=aa:=cy s;have k:=aj.mk (B.M g (.inr s));clear j g s;refine dL @DY @bG @eF ?_;exact⟨_,_,O,by rw[k.M],.push _ _⟩
 have d2:decide ((F U:Int)<=row)=ar:=cR s;have k:=aj.mk (L.M g j s);obtain⟨q1,q2,q3⟩:=T.M g;obtain⟨w1,w2,w3,w4⟩:=oj q1;have e:row.toNat<F U:=by omega
 have o:=w3 _ (jG e);rw[<-mS (t:=U) e]at o;generalize hR:U.getD row.toNat []=f at *
 have v:F f=F c:=by rw[o.1,q2]
 have fj:F c<=64:=by rw[<-v];exact o.2.2.1
 obtain⟨z1,z2,u,rfl,hs,gH,S⟩:=kx.M.1;obtain⟨kz,sz,rfl,R⟩:=kx.M.2;have dY:z2=1:=hs (by intro q;rw[q]at e;simp at e);subst dY;obtain⟨a,w⟩:∃a,u[row.toNat]?=J a:=⟨_,aW ag⟩;have hv:U[row.toNat]?=J f:=by rw[<-hR,fc,aW e];rfl
 obtain⟨ka,sa,rfl,N⟩:=S _ a f w hv;have ld:=jP (H:=h.push [.ac z1 1 (u.map λa=>[a]),y]) (s:=1) w;have G:=aj.mk (au R (au N q3));have CB:0<=row:=by omega
 have vu:row<(F U:Int):=by omega
 have fG:F (u.map λa=>[a])=F U:=by rw[bI];exact gH
 have yy:=c' f;have XO:=c' c;have u23:=underlying23;have u22:=underlying22;have z23:=g_;have z3:=eQ;clear hs S R N w hv hR o w1 w2 w3 w4 q1 q2 q3 K B L g kx T hz j s;refine dL @DY @bG @eF ?_;refine cK (λz4 D z0=>∃d:Nat,d<=F c/\z4=F c-d/\D.get 2=(row:Int)/\D.get 3=.ptr (.box (F h.V)) 0/\D.get 6=(vM c f d:Nat)/\D.get 28=.ac kz sz (ay c)/\D.get 29=(F c:Nat)/\D.get 30=(d:Nat)/\D.defers=[]/\z0=h.push [.ac z1 1 (u.map λa=>[a]),y]) ?_ (F c) _ _ ?_;rotate_left 1
 .refine⟨0,ck _,O,?_,?_,?_,?_,?_,?_,?_,O⟩<;>exact gR
 rintro z4 D z0 ⟨d,hj,rfl,g2,g3,g6,g28,g29,g30,hd,rfl⟩;by_cases m:d<F c
 .have yI:sz=1:=G.M.1 (by intro q;rw[q]at m;simp at m);subst yI;have Jb:sa=1:=G.M.2.1 (by intro q;rw[q]at v;simp at v;omega);subst Jb;have iy:(d:Int)<(F c:Int):=by omega
  have azq:(d:Int)<(F f:Int):=by omega
  have lc:=ev (H:=h.push [.ac z1 1 (u.map λa=>[a]),y]) (l:=c) (i:=d) (s:=1) m;have lr:=ev (H:=h.push [.ac z1 1 (u.map λa=>[a]),y]) (l:=f) (i:=d) (s:=1) ag;have A:b8 (ah c d)=aa:=by have:=G.M.2.2;rw[e8]at this;exact this _ (by rw[fy m];exact jG _)
  have c2:=I4 (ah c d) (ah f d);have c3:=Cy ((vM c f d:Nat):Int) (eO (ah c d) (ah f d));have Y:=ub (Rl (row:=f) G.M.2.2 d hj);have e3:pm ((vM c f d:Nat):Int) (eO (ah c d) (ah f d))=((vM c f (d+1):Nat):Int):=by rw[Fk Y (wB A _),rU A,aaU,eD,eD]
  have e4:lQ (ah c d)=0:=by unfold lQ;rw[aC A]
  have e5:rT ((vM c f d:Nat):Int) (eO (ah c d) (ah f d))=0:=by unfold rT;rw[aC ⟨Y,wB A _⟩]
  rw[e4]at c2;rw[e3,e5]at c3;clear A Y e3 e4 e5;generalize eO (ah c d) (ah f d)=pw at *
  generalize ah c d=cj at *
  generalize ah f d=rj at *
  unfold im at *
  refine dL @DY @eF @bh ?_;exact⟨F c-(d+1),by omega,d+1,by omega,O,by simp⟩
 .have:d=F c:=by omega
  subst this;have D:vM c f (F c)=mE c f:=rfl;refine br @DY ?_;exact⟨_,_,O,by rw[k.M,<-D],.push _ _⟩
def rQ(U:List (List Int))(ae c:List Int)(p:Int × Int):Bool × Int:=
 if iC U ae c≠0 then (ar,iC U ae c) else if uD U p=ar then (ar,340) else (decide (bZ Gn p.2=mE c (U.getD p.1.toNat [])),0)
def ajq(h:am)(x y z:I)(U:List (List Int))(ae c:List Int)(g:RL x U)(i:IL y ae)(t:IL z c)(G:F c<=1000000)(a v:Int):
 ∃r h',W5.call 79 [.agg [x,y],z,.agg [im a,im v]] h=J (r,h')/\r=.ret (.tuple [.v (.bool (rQ U ae c (a,v)).1),im (rQ U ae c (a,v)).2])/\Ext h h':=by
 have T:=uw g i;have S:(I.agg [im a,im v]).bL=J [im a,im v]:=rfl;have N:=VG x y z U ae c g i t G;have q:=ar4 x y U ae g i a v;obtain⟨_,L,s,rfl,x3⟩:=aaW ((h.push [x,y]).push [im a,im v]) x y z U ae c g i t G a;have A:=I4 4 v;have B:lQ 4=0:=by unfold lQ;rw[aC sS]
 rw[B,rU sS]at A;have K:((h.push [x,y]).push [im a,im v]).V[F h.V]?=J [x,y]:=aP (aQ h [x,y]);have j:=aQ (h.push [x,y]) [im a,im v];have X:=ul K;have Y:aF af Gt ((h.push [x,y]).push [im a,im v]) 110 (.ptr (.box (F (h.push [x,y]).V)) 0)=J (.agg [im a,im v]):=by rw[gt ax (by kernel_rfl:cN af 110=J 2) j (aT 2)];rfl
 have Z:=Qe j;have H:aF af Gt L 3 (.ptr (.box (F (h.push [x,y]).V)) 1)=J (im v):=Qf (x3.box _ _ j);have R:=aj.mk (((Ext.push h [x,y]).trans (.push _ [im a,im v])).trans x3);have w:=aj.mk ((Ext.push h [x,y]).trans (.push _ [im a,im v]));have k:aj (iC U ae c≠0->rQ U ae c (a,v)=(ar,iC U ae c)):=⟨λp=>by unfold rQ;rw[aC p]⟩;have l:aj (iC U ae c=0->uD U (a,v)=ar->rQ U ae c (a,v)=(ar,340)):=⟨λp u=>by unfold rQ;rw[aL (by simp[p]),aC u]⟩;have m:aj (iC U ae c=0->uD U (a,v)=aa->rQ U ae c (a,v)=(decide (bZ Gn v=mE c (U.getD a.toNat [])),0)):=⟨λp u=>by unfold rQ;rw[aL (by simp[p]),aL (by simp[u])]⟩;have o:aj (iC U ae c=0->uD U (a,v)=aa->ss U ae c a=(((mE c (U.getD a.toNat []):Nat):Int),0)):=⟨λp u=>by unfold uD at u;simp only[bR,decide_eq_true_eq]at u;unfold ss;rw[aL (by simp[p]),aL];rw[cR (ag:¬a<0),cR (ag:¬(F U:Int)<=a)];simp⟩;clear g i t K j x3 B;generalize rQ U ae c (a,v)=res at *
 refine cq O func79 O ?_;by_cases d:iC U ae c=0;rotate_left 1
 .have f:=aj.mk (k.M d);clear s q H;generalize iC U ae c=p at *
  unfold im at *
  refine bB @RS @bG ?_;exact⟨_,_,O,by rw[f.M],w.M⟩
 rw[d]at N;cases e:uD U (a,v) with
 |false=>
  have f:=aj.mk (l.M d e);rw[e]at q;clear s e d H;unfold im at *
  refine bB @RS @bG ?_;exact⟨_,_,O,by rw[f.M],w.M⟩
 |true=>
  have f:=aj.mk (m.M d e);rw[o.M d e]at s;rw[e]at q;clear e d;have C:(4:Int).toNat=Gn:=rfl;rw[C]at A;have D:decide (bZ Gn v=mE c (U.getD a.toNat []))=decide (((bZ Gn v:Nat):Int)=((mE c (U.getD a.toNat []):Nat):Int)):=by rw[decide_eq_decide];omega
  rw[D]at f;generalize ((bZ Gn v:Nat):Int)=p1 at *
  generalize ((mE c (U.getD a.toNat []):Nat):Int)=p2 at *
  clear k l m o D C;unfold im at *
  refine b_ @RS @bG @IJ @IK ?_;exact⟨_,_,O,by rw[f.M],R.M⟩
def xn:Tryz.f71.results.toList=[.tmp 6,.tmp 7,.tmp 8]:=ax
def Ii{E}(d:af.underlying T=J (.slice E))(hi:∃i,af.info? E=J i/\i.size=n/\i.bytes<=64/\(i.zero.map λz=>z.cells.size)=J n)(p:0<n)
 (o:F es<1000000) (j:sz=n∨(es=[]/\k=.nil)) (g:cY n0 H k):gB af H #[T,T] (.ac k sz es) (.ac .aK n [r])=J (.ac (.free H.tn) n (es++[r]),H.app k):=by
 obtain⟨i,e,c,l,f⟩:=hi;have m:=lu (ag:F es+1<=1000000) l;have:=zV (P:=af) (h:=H) (n0:=n0) (k:=k) (sz:=sz) (es:=es) (new:=[r]) (x:=.ac .aK n [r]) (t1:=T) d (.inl ⟨E,d⟩) e ag (by rw[c];exact f) (by rw[c];unfold jX rowsOf;simp) cB (by simp;omega) (by simp;omega) (by rw[c];exact j) g
 rwa [c]at this
section
open Go renaming kk110->Q45,kk2->Q46,kk64->Q47
def P1:∃i,af.info? 110=J i/\i.size=2/\i.bytes<=64/\(i.zero.map λz=>z.cells.size)=J 2:=ZS8
end
def bN(p:Int × Int):List I:=[((p.1:Int):I),((p.2:Int):I)]
def bD(l:List (Int × Int)):List (List I):=l.map bN
def SL(x:I)(l:List (Int × Int)):Prop:=∃d c,x=.ac d c (bD l)/\(l≠[]->c=2)
def fD(U:List (List Int))(s:List Int):List (Int × Int):=(bE (F U)).map λc=>(((c:Nat):Int),lP (U.getD c []) s)
def E9(U)(s):F (fD U s)=F U:=by unfold fD;simp
def NP{s r}(h:U[i]?=J r):(fD U s)[i]?=J (((i:Nat):Int),lP r s):=by unfold fD;have c:=(aU.1 h).1;rw[ek,xQ c,gq,fc,h];rfl
def jL(U:List (List Int))(ae:List Int)(B:Int)(c:List Int):Int:=
 if cE U ae≠0 then cE U ae else if cA B&&c.all cA&&decide ((F c:Int)=(b7 U:Nat)-1) then 0 else 1
def Gr(h H:am)(t:Tok):Prop:=Ext h H/\cS H=aa/\cY h.tn H t
def Gr.app(g:Gr h H t):Gr h (H.app t) (.free H.tn):=by have c:=Grown.one g.2.2 g.2.1 g.1.tn;exact⟨c.ext g.1 (aT _),c.ok,c.can⟩
def Gr.push(g:Gr h H t)(cs):Gr h (H.push cs) t:=⟨g.1.trans (.push _ _),g.2.1,by rw[sN];exact g.2.2⟩
def Gr.nil(x:Ext h H)(o:cS H=aa):Gr h H .nil:=⟨x,o,.inl O⟩
def agc(x y)(c:x.dm=aa)(d:y.dm=aa):fF af 22 2 [(0,x),(1,y)]=J (.ac .aK 1 [[x],[y]]):=by cases x<;>first|(cases c;done)|(cases y<;>first|(cases d;done)|kernel_rfl)
def IL.dm(h:IL x l):x.dm=aa:=by obtain⟨c,d,rfl,-⟩:=h;rfl
def UK(a b):fF af 72 1 [(0,.agg [((a:Int):I),((b:Int):I)])]=J (.ac .aK 2 [[((a:Int):I),((b:Int):I)]]):=ax
def UB(a b):iK af 110 [(0,((a:Int):I)),(1,((b:Int):I))]=J (.agg [((a:Int):I),((b:Int):I)]):=ax
def aix(h:am)(eH:cS h=aa)(x y z:I)(U:List (List Int))(ae c:List Int)(B:Int)(H:RL x U)(E:IL y ae)(hz:IL z c)(hl:F c<=1000)(qs:F U<=1000000):
 ∃r h',W5.call 71 [.agg [x,y],im B,z] h=J (r,h')/\
  ((jL U ae B c≠0/\r=.ret (.tuple [.ac .nil 0 [],.ac .nil 0 [],im (jL U ae B c)]))∨
  (jL U ae B c=0/\∃t1 s1 t2 s2,r=.ret (.tuple [.ac t1 s1 (bD (fD U (B::c))),.ac t2 s2 (ay (bF (B::c))),im 0])/\(fD U (B::c)≠[]->s1=2)/\s2=1)):=by
 have bx:=uw H E;have c1:=NF x y U ae H E;have q:=aae (.ac .aK 1 [[((B:Int):I)]]) [B] (JY B) cB;rw[(cB:[B].all cA=cA B)]at q;have K:=aae z c hz ag;have c4:=ahV x y U ae H E;obtain⟨z2,oF,L⟩:=aia (.ac .aK 1 [[((B:Int):I)]]) z [B] c (JY B) hz (by simp;omega);have b0:=aQ h [x,y];have l0:=ul b0;have l1:=qu b0;have lz:=hz.dp;have bl:=oA B;have blt:=agc (.ac .aK 1 [[((B:Int):I)]]) z O hz.dm;have lx:=H.dp;have vA:aj (cE U ae≠0->jL U ae B c=cE U ae):=⟨λk=>by unfold jL;rw[aC k]⟩;have pq:aj (cE U ae=0->jL U ae B c=if cA B&&c.all cA&&decide ((F c:Int)=(b7 U:Nat)-1) then 0 else 1):=⟨λk=>by unfold jL;rw[aL (by simp[k])]⟩;have kok:=aj.mk (λk=>@oj ae U k);have kcp:=aj.mk (λk=>@pV ae U k);have kx:=aj.mk (au H oF);have yv:(b7 U:Int)<=1000000∨cE U ae≠0:=by
  by_cases k:cE U ae=0
  .have:=(pV k).2;exact .inl ag
  .exact .inr k
 clear H E hz b0 oF;generalize jL U ae B c=res at *
 unfold im at *
 refine cq O func71 O ?_;by_cases j:cE U ae=0;rotate_left 1
 .have e1:=vA.M j;have g:=aj.mk (au j e1);clear e1 yv q K c4 L;generalize cE U ae=k at *
  refine bB @xn @bG ?_;exact⟨_,_,O,.inl ⟨by rw[g.M.2];exact g.M.1,by rw[g.M.2]⟩⟩
 rw[j]at c1;have w:=pq.M j;have hcp:=kcp.M j;have hw:IntKind.i64.wrap ((b7 U:Nat)-1:Int)=(b7 U:Nat)-1:=ji ag ag;clear vA pq kcp yv;have bad:∀(k:(cA B&&c.all cA&&decide ((F c:Int)=(b7 U:Nat)-1))=ar),res=1:=λk=>by rw[w,aL (by simp[k])]
 have R:∀(k:(cA B&&c.all cA&&decide ((F c:Int)=(b7 U:Nat)-1))=aa),res=0:=λk=>by rw[w,aC k]
 have kb:=aj.mk bad;have kg:=aj.mk R;clear bad R w;cases i:cA B with
 |false=>rw[i]at q;have g:aj (res=1):=⟨kb.M (by rw[i];rfl)⟩;clear i j K c4 L;refine bB @xn @bG ?_;exact⟨_,_,O,.inl ⟨by rw[g.M];decide,by rw[g.M]⟩⟩
 |true=>
 rw[i]at q;cases o:c.all cA with
 |false=>rw[o]at K;have g:aj (res=1):=⟨kb.M (by rw[i,o];rfl)⟩;clear i o j c4 L;refine bB @xn @bG ?_;exact⟨_,_,O,.inl ⟨by rw[g.M];decide,by rw[g.M]⟩⟩
 |true=>
 rw[o]at K;by_cases h3:(F c:Int)=(b7 U:Nat)-1;rotate_left 1
 .have d3:decide ((F c:Int)=((b7 U:Nat):Int)-1)=ar:=cR h3;have g:aj (res=1):=⟨kb.M (by rw[i,o,d3];rfl)⟩;clear i o h3 j L;refine bB @xn @bG ?_;exact⟨_,_,O,.inl ⟨by rw[g.M];decide,by rw[g.M]⟩⟩
 have d3:decide ((F c:Int)=((b7 U:Nat):Int)-1)=aa:=cy h3;have g:aj (res=0):=⟨kg.M (by rw[i,o,d3];rfl)⟩;have oE:F (B::c)=b7 U:=by simp;omega
 obtain⟨w1,w2,w3,w4⟩:=kok.M j;have kw:=aj.mk w3;have ks:=aj.mk oE;rw[List.singleton_append]at kx;obtain⟨z6,z5,xs,rfl,hs,gH,jl⟩:=kx.M.1;obtain⟨kz,D,rfl,ga⟩:=kx.M.2;have kk:=aj.mk (au hs (au jl ga));have alU:D=1:=ga cB;subst alU;have u23:=underlying23;have u22:=underlying22;have u36:=underlying72;have z23:=g_;have z3:=eQ;have fG:F (xs.map λa=>[a])=F U:=by rw[bI];exact gH
 have yy:=c' (B::c);clear hs jl ga w1 w3 w4 i o h3 j oE kok kb kg;generalize hS:B::c=e at *
 refine dL @xn @bG @eF ?_;refine bJ.gen λf d s Y Z=>?_;have f6:f.get 6=.ac .nil 0 []:=by rw[d];exact gS
 have f7:f.get 7=.ac .nil 0 []:=by rw[d];exact gS
 have f10:f.get 10=.ac kz 1 (ay e):=by rw[d];exact gS
 have f45:f.get 45=.ac z6 z5 (xs.map λa=>[a]):=by rw[d];exact gS
 have f46:f.get 46=(F U:Nat):=by rw[d];exact gS
 have f47:f.get 47=(0:Nat):=by rw[d];exact gR
 have N:f.defers=[]:=by rw[s];exact gS
 clear d s Y Z c1 q K c4 L l0 l1 bl blt hw d3 lz;refine cK (λz4 u z1=>∃(p:Nat) (z0:Tok) (D:Nat),p<=F U/\z4=F U-p/\aj (Gr h z1 z0)/\aj (D=2∨(bD ((fD U e).take p)=[]/\z0=.nil))/\u.get 6=.ac z0 D (bD ((fD U e).take p))/\u.get 7=.ac .nil 0 []/\u.get 10=.ac kz 1 (ay e)/\u.get 45=.ac z6 z5 (xs.map λa=>[a])/\u.get 46=(F U:Nat)/\u.get 47=(p:Nat)/\u.defers=[]) ?_ (F U) _ _ ?_;rotate_left 1
 .exact⟨0,.nil,0,ck _,O,⟨Gr.nil (.push _ _) eH⟩,⟨.inr ⟨O,O⟩⟩,f6,f7,f10,f45,f46,f47,N⟩
 clear f6 f7 f10 f45 f46 f47 N;rintro z4 u z1 ⟨p,z0,D,hi,rfl,t,ksz,g6,g7,g10,g45,g46,g47,hd⟩;by_cases X:p<F U
 .have dY:z5=1:=kk.M.1 (by intro k;rw[k]at X;simp at X);subst dY;obtain⟨a,S⟩:∃a,xs[p]?=J a:=⟨_,aW ag⟩;obtain⟨r,A⟩:∃r,U[p]?=J r:=⟨_,aW X⟩;have ld:=jP (H:=z1) (s:=1) S;have FW:=kk.M.2.1 p a r S A;have PC:=kw.M r (dk A);have c6:=aw4 a (.ac kz 1 (ay e)) r e FW ⟨_,_,O,λ_=>rfl⟩ ag (by have:=ks.M;omega);have iy:(p:Int)<(F U:Int):=by omega
  have ap:=Ii (T:=72) (r:=bN (((p:Nat):Int),lP r e)) u36 P1 aZ (by unfold bD;rw[bI,dF];omega) ksz.M t.M.2.2;have kG2:=aj.mk t.M.app;have e9:bD ((fD U e).take p)++[bN (((p:Nat):Int),lP r e)]=bD ((fD U e).take (p+1)):=by rw[fS (NP A)];unfold bD;simp
  rw[e9]at ap;clear S A FW PC e9;generalize lP r e=dv at *
  unfold im bN at *
  refine b_ @xn @bh @UB @UK ?_;exact⟨F U-(p+1),by omega,p+1,_,2,by omega,O,kG2,⟨.inl O⟩,by simp⟩
 have gw:p=F U:=by omega
 subst gw;rw[gm (by rw[E9];exact aT _)]at g6 ksz;have kX:=aj.mk t.M.1;have ko:=aj.mk t.M.2.1;clear t;refine br @xn ?_;refine bJ.gen λf d s Y Z=>?_;have f6:f.get 6=.ac z0 D (bD (fD U e)):=by rw[d];simp only[gW,reduceIte,aR,aM];exact g6
 have f7:f.get 7=.ac .nil 0 []:=by rw[d];simp only[gW,reduceIte,aR,aM];exact g7
 have f61:f.get 61=.ac kz 1 (ay e):=by rw[d];exact gS
 have f62:f.get 62=(F e:Nat):=by rw[d];exact gS
 have f63:f.get 63=(0:Nat):=by rw[d];exact gR
 have N:f.defers=[]:=by rw[s];simp only[gW,reduceIte,aR,aM];exact hd
 clear d s Y Z g6 g7 g10 g45 g46 g47 hd;have hSl:F e<=1001:=by rw[<-hS];simp;omega
 have e4:lQ 4=0:=by unfold lQ;rw[aC sS]
 clear hS;have fj:F (bF e)=F e:=by unfold bF;simp
 refine cK (λz4 u H2=>∃(m:Nat) (t2:Tok) (sz2:Nat),m<=F e/\z4=F e-m/\aj (Gr h H2 t2)/\aj (sz2=1∨((bF e).take m=[]/\t2=.nil))/\u.get 6=.ac z0 D (bD (fD U e))/\u.get 7=.ac t2 sz2 (ay ((bF e).take m))/\u.get 61=.ac kz 1 (ay e)/\u.get 62=(F e:Nat)/\u.get 63=(m:Nat)/\u.defers=[]) ?_ (F e) _ _ ?_;rotate_left 1
 .exact⟨0,.nil,0,ck _,O,⟨Gr.nil kX.M ko.M⟩,⟨.inr ⟨O,O⟩⟩,f6,f7,f61,f62,f63,N⟩
 clear f6 f7 f61 f62 f63 N;rintro z4 u H2 ⟨m,t2,sz2,hj,rfl,t,C,g6,g7,g61,g62,g63,hd⟩;by_cases v:m<F e
 .have ld:=ev (H:=H2) (l:=e) (i:=m) (s:=1) v;have q:=I4 4 (ah e m);rw[e4,rU sS]at q;have hG:(4:Int).toNat=Gn:=rfl;rw[hG]at q;have iy:(m:Int)<(F e:Int):=by omega
  have A:(bF e)[m]?=J ((bZ Gn (ah e m):Nat):Int):=by unfold bF;rw[ek,aW v,fy v];rfl
  have ap:=sM (x:=((bZ Gn (ah e m):Nat):Int)) (es:=(bF e).take m) (by rw[dF];omega) C.M t.M.2.2;have kG2:=aj.mk t.M.app;rw[<-fS A]at ap;have bl:=oA ((bZ Gn (ah e m):Nat):Int);clear A hG;generalize ((bZ Gn (ah e m):Nat):Int)=pv at *
  generalize ah e m=sj at *
  unfold im at *
  refine bB @xn @bh ?_;exact⟨F e-(m+1),by omega,m+1,_,1,by omega,O,kG2,⟨.inl O⟩,by simp⟩
 .have nY:m=F e:=by omega
  subst nY;rw[gm ag]at g7 C;refine br @xn ?_;refine⟨_,_,O,.inr ⟨g.M,_,_,_,_,O,λk=>?_,?_⟩⟩
  .rcases ksz.M with z|⟨z,-⟩
   .exact z
   .exact absurd (BK.1 z) k
  .rcases C.M with z|⟨z,-⟩
   .exact z
   .exfalso;have i:=ks.M;have o:F (bF e)=0:=(by rw[z];rfl);omega
def bm(p:Pr):List I:=[((p.bC:Int):I),((p.no:Int):I),((p.d:Int):I),((p.e:Int):I)]
def zA:(fY af 46).bind I.bL=J (bm ⟨0,0,0,0⟩):=ax
def xu:cN af 46=J 4:=ax
def Ug:fR af 46=J aa:=ax
def xq(p):bU af (H.push (bm ⟨0,0,0,0⟩)) 46 (.ptr (.box (F H.V)) 0) (.agg (bm p))=J (H.push (bm p)):=jC O xu O rfl
def vH{p}(c:H.V[b]?=J (bm p)):aF af Gt H 46 (.ptr (.box b) 0)=J (.agg (bm p)):=by rw[gt Ug xu c (aT 4)];rfl
def qJ(n:Int):List I:=[.v (.int .u32 n)]
def UL(x:I)(l:List Int):Prop:=(∃d c,x=.ac d c (l.map qJ)/\(l≠[]->c=1))/\∀n∈l,0<=n/\n<4294967296
def air(n)(h):lM af h 69 3 (.v (.int .u32 n))=J (((IntKind.i64.wrap n:Int):I),h):=ax
def Zk(h:i<F l):aF af Gt H 69 (.elem s (l.map qJ) i 0)=J (.v (.int .u32 (ah l i))):=by rw[rm ax (row:=qJ (ah l i)) (by rw[ek,aW h,fy h];rfl)];rfl
def yY(ae ak:List Int)(p:Int × Int):List (Int × Int):=(ak.filter λn=>decide (n=ah ae p.1.toNat)).map λ_=>p
def pD(ae ak:List Int)(l:List (Int × Int)):List (Int × Int):=l.flatMap (yY ae ak)
def ao9{l:List (Int × Int)}(h:l[i]?=some p):pD ae ak (l.take (i+1))=pD ae ak (l.take i)++yY ae ak p:=by unfold pD;rw[fS h,List.flatMap_append];simp
def ap8(ae ak)(p):F (yY ae ak p)<=F ak:=by unfold yY;rw[bI];exact xR _ _
def QN(ae ak):∀l:List (Int × Int),F (pD ae ak l)<=F l*F ak
 | []=>by simp[pD]
 |p::l=>by
  have c:=ap8 ae ak p;have d:=QN ae ak l;unfold pD at *
  rw[List.flatMap_cons,db,eR,jt];omega
def ant{l}(h:l[i]?=J p):aF af Gt H 3 (.elem s (bD l) i 0)=J ((p.1:Int):I):=by rw[rm eu (row:=bN p) (by unfold bD;rw[ek,h];rfl)];rfl
def anu{l}(h:l[i]?=J p):aF af Gt H 3 (.elem s (bD l) i 1)=J ((p.2:Int):I):=by rw[rm eu (row:=bN p) (by unfold bD;rw[ek,h];rfl)];rfl
def Uf:fR af 110=J aa:=ax
def Hi:cN af 110=J 2:=ax
def Zj{l}(h:l[i]?=J p):aF af Gt H 110 (.elem s (bD l) i 0)=J (.agg [((p.1:Int):I),((p.2:Int):I)]):=by rw[Do Uf Hi (row:=bN p) (by unfold bD;rw[ek,h];rfl) (aT 2)];rfl
def Cs:dQ af 110 (.elem sz es i 0) 0=J (.elem sz es i 0):=ax
def VZ:dQ af 110 (.elem sz es i 0) 1=J (.elem sz es i 1):=ax
def uF(l):F (bD l)=F l:=bI _
def ab0(l)(p):bD l++[bN p]=bD (l++[p]):=by unfold bD;simp
def KP:Tryz.f154.results.toList=[.tmp 4]:=ax
def RC:Tryz.f151.results.toList=[.tmp 4]:=ax
def RU:Tryz.f187.results.toList=[.tmp 4]:=ax
def cU(l:List Pr):List (List I):=l.map bm
def Dz(l):F (cU l)=F l:=bI _
def PL(x:I)(l:List Pr):Prop:=∃d c,x=.ac d c (cU l)/\(l≠[]->c=4)
def vI{l}{p}(h:l[i]?=J p):aF af Gt H 46 (.elem s (cU l) i 0)=J (.agg (bm p)):=by rw[Do Ug xu (row:=bm p) (by unfold cU;rw[ek,h];rfl) (aT 4)];rfl
def PL.dp{l}(h:PL x l):dp af 32 x=J ((F l:Nat):I):=by obtain⟨d,e,rfl,-⟩:=h;have c:=underlying32;unfold Go.AE.dp;rw[c];simp only[Dz]
def ami(g:bk)(aY:List I)(p:Pr->Bool)(h:am)(x:I)(l:List Pr)(D:PL x l)(hl:F l<=1000000)
 (u:∀q∈l,∀H,Ext h H->∃H',W5.call g (.agg (bm q)::aY) H=J (.ret (.v (.bool (p q))),H')/\Ext H H'):
 ∃r h',W5.call 154 [x,.func (.func g) [] aY] h=J (r,h')/\Ext h h'/\((l.find? p=ao/\r=.ret (im (-1)))∨∃(i:Nat) (q:Pr),r=.ret (im (i:Nat))/\l[i]?=J q/\l.find? p=J q):=by
 obtain⟨z0,K,rfl,v⟩:=D;have z:=aj.mk (au u v);clear u v;have R:=underlying32;have S:=xu;have L:=Dz l;unfold im;refine cq O func154 O ?_;refine br @KP ?_;refine cK (λN f H=>∃i:Nat,i<=F l/\N=F l-i/\aj ((l.take i).find? p=ao)/\aj (Ext h H)/\f.get 0=.ac z0 K (cU l)/\f.get 1=.func (.func g) [] aY/\f.get 7=(F l:Nat)/\f.get 8=(i:Nat)/\f.defers=[]) ?_ (F l) _ _ ?_;rotate_left 1
 .refine⟨0,ck _,O,⟨O⟩,⟨.refl _⟩,?_,?_,?_,?_,?_⟩<;>exact gR
 rintro N f H ⟨i,hi,rfl,o,m,T,X,Y,Z,hd⟩;by_cases d:i<F l
 .have w:K=4:=z.M.2 (by intro q;rw[q]at d;simp at d);subst w;obtain⟨q,e⟩:∃q,l[i]?=J q:=⟨_,aW d⟩;have ld:=vI (H:=H) (s:=4) e;obtain⟨H',t,s⟩:=z.M.1 q (dk e) H m.M;have k:=aj.mk (m.M.trans s);have C:(i:Int)<(F l:Int):=by omega
  have A:=aj.mk e;have G:=aj.mk (fS e);clear s e;cases c:p q with
  |true=>rw[c]at t;have j:l.find? p=J q:=(by have f:l=l.take i++q::l.drop (i+1):=(by rw[<-List.getElem_of_getElem? A.M|>.2];simp);rw[f,adE,o.M,List.find?_cons_of_pos c];rfl);have E:=aj.mk j;clear j c;refine dL @KP @bh @fw.{0} ?_;exact⟨_,_,O,k.M,.inr ⟨i,q,O,A.M,E.M⟩⟩
  |false=>rw[c]at t;have B:aj ((l.take (i+1)).find? p=ao):=⟨by rw[G.M,adE,o.M];simp[c]⟩;clear c;refine dL @KP @bh @fw.{0} ?_;exact⟨F l-(i+1),by omega,i+1,by omega,O,B,by first|exact k|trivial,by simp⟩
 .have:i=F l:=by omega
  subst this;have:=o.M;rw[gu]at this;have y:=aj.mk this;clear this;refine br @KP ?_;exact⟨_,_,O,m.M,.inl ⟨y.M,O⟩⟩
def Oe{a}(c:elem a=aa)(d:elem b=aa):pm ((a:Nat):Int) ((b:Nat):Int)=((a*b%P:Nat):Int):=by rw[Fk (ub c) (ub d),eD,eD]
def Gy{α:Type}{f:α->Nat}:∀{l:List α} (_:∀p∈l,elem (f p)=aa) {k:Nat} (_:elem k=aa),elem (l.foldl (λx p=>x*f p%P) k)=aa
 | [],_,_,c=>c
 |a::l,e,k,c=>Gy (l:=l) (λp d=>e p (gi _ d)) (Fb c (e a gj))
def aqP(g:bk)(first aY:List I)(f:Pr->Nat)(h:am)(x:I)(l:List Pr)(E:PL x l)(hl:F l<=1000000)(w:∀q∈l,elem (f q)=aa)
 (k:∀q∈l,∀H,Ext h H->∃H',W5.call g (first++[.agg (bm q)]++aY) H=J (.ret (im (f q:Nat)),H')/\Ext H H'):
 ∃r h',W5.call 151 [x,.func (.func g) first aY] h=J (r,h')/\Ext h h'/\r=.ret (im ((l.foldl (λx q=>x*f q%P) 1:Nat):Int)):=by
 obtain⟨z0,K,rfl,y⟩:=E;have i:=aj.mk (au k (au y w));clear k y w;have T:=underlying32;have X:=xu;have zc:=zA;have R:=Dz l;unfold im;refine cq O func151 O ?_;refine br @RC ?_;refine cK (λS p H=>∃c:Nat,c<=F l/\S=F l-c/\aj (Ext h H)/\p.get 1=.func (.func g) first aY/\p.get 5=((l.take c).foldl (λx q=>x*f q%P) 1:Nat)/\p.get 8=.ac z0 K (cU l)/\p.get 9=(F l:Nat)/\p.get 10=(c:Nat)/\p.defers=[]) ?_ (F l) _ _ ?_;rotate_left 1
 .refine⟨0,ck _,O,⟨.refl _⟩,?_,?_,?_,?_,?_,?_⟩<;>exact gR
 rintro S p H ⟨c,hi,rfl,s,Z,C,g8,g9,N,hd⟩;by_cases e:c<F l
 .have z:K=4:=i.M.2.1 (by intro q;rw[q]at e;simp at e);subst z;obtain⟨q,m⟩:∃q,l[c]?=J q:=⟨_,aW e⟩;have j:=dk m;have ld:=vI (H:=H) (s:=4) m;have st:=xq (H:=H) q;have l2:=vH (aQ H (bm q));obtain⟨H',hc,v⟩:=i.M.1 q j (H.push (bm q)) (s.M.trans (.push _ _));have A:=aj.mk ((s.M.trans (.push H (bm q))).trans v);have D:(c:Int)<(F l:Int):=by omega
  have d:elem ((l.take c).foldl (λx q=>x*f q%P) 1)=aa:=Gy (λz1 k=>i.M.2.2 z1 (uR k)) Cp;have B:=Cy (((l.take c).foldl (λx q=>x*f q%P) 1:Nat):Int) ((f q:Nat):Int);have t:rT (((l.take c).foldl (λx q=>x*f q%P) 1:Nat):Int) ((f q:Nat):Int)=0:=by unfold rT;rw[aC ⟨ub d,ub (i.M.2.2 q j)⟩]
  have u:(l.take c).foldl (λx q=>x*f q%P) 1*f q%P=(l.take (c+1)).foldl (λx q=>x*f q%P) 1:=by rw[fS m,nJ];rfl
  rw[Oe d (i.M.2.2 q j),t,u]at B;clear v m t u d j;generalize (l.take c).foldl (λx q=>x*f q%P) 1=L at *
  generalize o:(l.take (c+1)).foldl (λx q=>x*f q%P) 1=TX at *
  have G:=aj.mk o;clear o;generalize f q=Y at *
  unfold im at *
  refine dL @RC @bh @fw.{0} ?_;exact⟨F l-(c+1),by omega,c+1,by omega,O,by first|exact A|trivial,by simp[G.M]⟩
 .have:c=F l:=by omega
  subst this;rw[gu]at C;refine br @RC ?_;exact⟨_,_,O,s.M,O⟩
def aqR(g:bk)(first aY:List I)(f:Int->Nat)(h:am)(x:I)(l:List Int)(G:IL x l)(hl:F l<=1000000)(w:∀q∈l,elem (f q)=aa)
 (k:∀q∈l,∀H,Ext h H->∃H',W5.call g (first++[im q]++aY) H=J (.ret (im (f q:Nat)),H')/\Ext H H'):
 ∃r h',W5.call 187 [x,.func (.func g) first aY] h=J (r,h')/\Ext h h'/\r=.ret (im ((l.foldl (λx q=>x*f q%P) 1:Nat):Int)):=by
 obtain⟨z0,L,rfl,y⟩:=G;have i:=aj.mk (au k (au y w));clear k y w;have X:=underlying23;have z3:=eQ;have S:=c' l;unfold im;refine cq O func187 O ?_;refine br @RU ?_;refine cK (λT o H=>∃c:Nat,c<=F l/\T=F l-c/\aj (Ext h H)/\o.get 1=.func (.func g) first aY/\o.get 5=((l.take c).foldl (λx q=>x*f q%P) 1:Nat)/\o.get 8=.ac z0 L (ay l)/\o.get 9=(F l:Nat)/\o.get 10=(c:Nat)/\o.defers=[]) ?_ (F l) _ _ ?_;rotate_left 1
 .refine⟨0,ck _,O,⟨.refl _⟩,?_,?_,?_,?_,?_,?_⟩<;>exact gR
 rintro T o H ⟨c,hi,rfl,s,Z,C,g8,g9,R,hd⟩;by_cases d:c<F l
 .have z:L=1:=i.M.2.1 (by intro q;rw[q]at d;simp at d);subst z;have p:l[c]?=J (ah l c):=by rw[aW d,fy d]
  have j:=dk p;have ld:=ev (H:=H) (s:=1) d;generalize ah l c=q at *
  obtain⟨H',D,v⟩:=i.M.1 q j H s.M;unfold im at D;have A:=aj.mk (s.M.trans v);have E:(c:Int)<(F l:Int):=by omega
  have e:elem ((l.take c).foldl (λx q=>x*f q%P) 1)=aa:=Gy (λz1 k=>i.M.2.2 z1 (uR k)) Cp;have B:=Cy (((l.take c).foldl (λx q=>x*f q%P) 1:Nat):Int) ((f q:Nat):Int);have t:rT (((l.take c).foldl (λx q=>x*f q%P) 1:Nat):Int) ((f q:Nat):Int)=0:=by unfold rT;rw[aC ⟨ub e,ub (i.M.2.2 q j)⟩]
  have u:(l.take c).foldl (λx q=>x*f q%P) 1*f q%P=(l.take (c+1)).foldl (λx q=>x*f q%P) 1:=by rw[fS p,nJ];rfl
  rw[Oe e (i.M.2.2 q j),t,u]at B;clear v p t u e j;generalize (l.take c).foldl (λx q=>x*f q%P) 1=N at *
  generalize m:(l.take (c+1)).foldl (λx q=>x*f q%P) 1=TX at *
  have K:=aj.mk m;clear m;generalize f q=Y at *
  unfold im at *
  refine dL @RU @bh @fw.{0} ?_;exact⟨F l-(c+1),by omega,c+1,by omega,O,by first|exact A|trivial,by simp[K.M]⟩
 .have:c=F l:=by omega
  subst this;rw[gu]at C;refine br @RU ?_;exact⟨_,_,O,s.M,O⟩
def GJ:Tryz.f149.results.toList=[.tmp 2]:=ax
def atG:Tryz.f217.results.toList=[.tmp 2]:=ax
def abG:Tryz.f83.results.toList=[.tmp 4]:=ax
def Ld:Tryz.f152.results.toList=[.tmp 4]:=ax
def yk:dQ af 27 (.ptr (.box b) 0) 0=J (.ptr (.box b) 0):=ax
def kZ:dQ af 27 (.ptr (.box b) 0) 1=J (.ptr (.box b) 1):=ax
def mR:dQ af 27 (.ptr (.box b) 0) 2=J (.ptr (.box b) 3):=ax
def Fc:dQ af 25 (.ptr (.box b) 1) 0=J (.ptr (.box b) 1):=ax
def ajf:dQ af 25 (.ptr (.box b) 1) 1=J (.ptr (.box b) 2):=ax
def ql:(∀b,dQ af 132 (.ptr (.box b) 0) 0=J (.ptr (.box b) 0))/\(∀b,dQ af 132 (.ptr (.box b) 0) 1=J (.ptr (.box b) 4))/\(∀b,dQ af 132 (.ptr (.box b) 0) 2=J (.ptr (.box b) 5))/\(∀b,dQ af 132 (.ptr (.box b) 0) 3=J (.ptr (.box b) 6))/\
 (∀b,dQ af 132 (.ptr (.box b) 0) 4=J (.ptr (.box b) 7))/\(∀b,dQ af 132 (.ptr (.box b) 0) 5=J (.ptr (.box b) 11))/\∀b,dQ af 132 (.ptr (.box b) 0) 6=J (.ptr (.box b) 12):=
 ⟨λ_=>ax,λ_=>ax,λ_=>ax,λ_=>ax,λ_=>ax,λ_=>ax,λ_=>ax⟩
def VY:dQ af 118 (.ptr (.box b) 7) 3=J (.ptr (.box b) 10):=ax
def jv:(∀b,dQ af 46 (.ptr (.box b) 0) 0=J (.ptr (.box b) 0))/\(∀b,dQ af 46 (.ptr (.box b) 0) 1=J (.ptr (.box b) 1))/\(∀b,dQ af 46 (.ptr (.box b) 0) 2=J (.ptr (.box b) 2))/\∀b,dQ af 46 (.ptr (.box b) 0) 3=J (.ptr (.box b) 3):=
 ⟨λ_=>ax,λ_=>ax,λ_=>ax,λ_=>ax⟩
def di{t}{cs}(c:fR af t=J ar)(d:H.V[b]?=J cs)(e:cs[j]?=J x):aF af Gt H t (.ptr (.box b) j)=J x:=by rw[fI c d,List.head?_drop,e]
def M':fR af 60=J ar:=ax
def BV:fR af 32=J ar:=ax
def uY:fR af 121=J ar:=ax
def aG(ep:Int)(c d C:I):List I:=[((ep:Int):I),c,d,C]
def gP(ep:Int)(g h C T L d c:I)(f e:Int):List I:=[((ep:Int):I),g,h,C,T,L,d,.v (.int .i64 3),.v (.int .i64 0),sv [],c,((f:Int):I),((e:Int):I)]
def iF(U:List (List Int))(ep:Int)(c:List Int):Bool:=decide (0<=ep)&&decide (ep<=64)&&decide (F c=b7 U)&&c.all b8
def axw(n)(h):W5.call 217 [im n] h=J (.ret (.v (.bool (!b8 n))),h):=by
 have c:=Hq n;unfold im at *
 refine cX O func217 O ?_;exact iT @atG
def mV{d e}{c}(g:RL d U)(h:IL e ae)(f:IL C c):(I.agg (aG ep d e C)).bL=J (aG ep d e C):=by obtain⟨o,p,m,rfl,-⟩:=g.form;obtain⟨j,l,rfl,-⟩:=h;obtain⟨i,k,rfl,-⟩:=f;rfl
def ZT17{p:Prop}(h:p:=by
 have d2:decide (ep<=64)=ar:=cR f;have d:aj (res=ar):=⟨by rw[k.M,d2];simp⟩;clear e f o;refine b_ @GJ @bG @yk (au @kZ (au @mR (au @Fc @bh))) ?_;exact⟨_,_,O,O,by rw[d.M]⟩):p:=h
def ZT18{p:Prop}(h:p:=by
 have d1:decide (0<=ep)=ar:=cR e;have d:aj (res=ar):=⟨by rw[k.M,d1];rfl⟩;clear e o;refine b_ @GJ @bG @yk (au @kZ (au @mR (au @Fc @bh))) ?_;exact⟨_,_,O,O,by rw[d.M]⟩):p:=h
def ZT36{p:Prop}(h:p:=by
 clear e f i;refine b_ @GJ @bG @yk (au @kZ (au @mR (au @Fc @bh))) ?_;exact⟨_,_,O,O,by rw[d.M]⟩):p:=h
def ar2(h:am)(ep:Int)(t u C:I)(U:List (List Int))(ae c:List Int)(G:RL t U)(X:IL u ae)(w:IL C c)(hl:F c<=1000000):
 ∃r h',W5.call 149 [.agg (aG ep t u C)] h=J (r,h')/\h'=h.push (aG ep t u C)/\r=.ret (.v (.bool (iF U ep c))):=by
 have bx:=mV (ep:=ep) G X w;have v:=aQ h (aG ep t u C);have l0:aF af Gt (h.push (aG ep t u C)) 3 (.ptr (.box (F h.V)) 0)=J ((ep:Int):I):=di eu v O;have l1:aF af Gt (h.push (aG ep t u C)) 22 (.ptr (.box (F h.V)) 1)=J t:=di M9 v O;have l3:aF af Gt (h.push (aG ep t u C)) 23 (.ptr (.box (F h.V)) 3)=J C:=di kC v O;have ln:=G.dp;have lc:=w.dp;have o:=IB (A:=DK) O O 217 [] (λn=> !b8 n) (h.push (aG ep t u C)) C c w hl (λn _=>axw n _);rw[Uk]at o;have K:aj (iF U ep c=(decide (0<=ep)&&decide (ep<=64)&&decide (F c=b7 U)&&c.all b8)):=⟨O⟩;generalize iF U ep c=res at *
 obtain⟨z2,z1,L,rfl,R,T,z⟩:=G;have Y:=aj.mk (au R z);have u23:=underlying23;have u22:=underlying22;have z23:=g_;have fG:F (L.map λa=>[a])=F U:=by rw[bI];exact T
 clear R z w X v;have j:aj (F U=0->b7 U=1):=⟨λB=>by unfold b7;rw[aC B]⟩;have g:aj (∀m,U[0]?=J m->b7 U=F m):=⟨λm B=>by unfold b7;rw[aL (by have:=(aU.1 B).1;omega),fc,B];rfl⟩;refine cq O func149 O ?_;have y:∀n:Nat,b7 U=n->aj (res=(decide (0<=ep)&&decide (ep<=64)&&decide (F c=n)&&c.all b8)):=λn B=>⟨by rw[K.M,B]⟩;have l:=aj.mk y;clear y;rcases Nat.eq_zero_or_pos (F U) with q|q
 .have hq:¬((0:Int)<(F U:Int)):=by omega
  have k:=l.M _ (j.M q);clear q;clear j g l K;by_cases e:0<=ep;rotate_left 1
  .exact ZT18
  have d1:decide (0<=ep)=aa:=cy e;by_cases f:ep<=64;rotate_left 1
  .exact ZT17
  have d2:decide (ep<=64)=aa:=cy f;by_cases i:F c=1;rotate_left 1
  .have d3:decide ((F c:Int)=1)=ar:=cR ag;have d:aj (res=ar):=⟨by rw[k.M,cR i];simp⟩;clear e f i o;refine b_ @GJ @bG @yk (au @kZ (au @mR (au @Fc @bh))) ?_;exact⟨_,_,O,O,by rw[d.M]⟩
  have d3:decide ((F c:Int)=1)=aa:=cy ag;have d:aj (res=c.all b8):=⟨by rw[k.M,d1,d2,cy i];rfl⟩;have N:(!!c.all b8)=c.all b8:=by simp
  exact ZT36
 .have hq:((0:Int)<(F U:Int)):=by omega
  have S:z1=1:=Y.M.1 (by intro B;rw[B]at q;simp at q);subst S;obtain⟨a0,p⟩:∃a,L[0]?=J a:=⟨_,aW ag⟩;obtain⟨m,s⟩:∃r,U[0]?=J r:=⟨_,aW ag⟩;have ld0:=jP (H:=h.push (aG ep (.ac z2 1 (L.map λa=>[a])) u C)) (s:=1) p;obtain⟨ka0,sa0,rfl,D⟩:=Y.M.2 0 a0 m p s;have k:=l.M _ (g.M m s);have lT:=c' m;have z0:(0:Int).toNat=0:=rfl;generalize F m=Z at *
  clear p s D q;clear j g l K;by_cases e:0<=ep;rotate_left 1
  .exact ZT18
  have d1:decide (0<=ep)=aa:=cy e;by_cases f:ep<=64;rotate_left 1
  .exact ZT17
  have d2:decide (ep<=64)=aa:=cy f;by_cases i:F c=Z;rotate_left 1
  .have d3:decide ((F c:Int)=(Z:Int))=ar:=cR ag;have d:aj (res=ar):=⟨by rw[k.M,cR i];simp⟩;clear e f i o;refine b_ @GJ @bG @yk (au @kZ (au @mR (au @Fc @bh))) ?_;exact⟨_,_,O,O,by rw[d.M]⟩
  have d3:decide ((F c:Int)=(Z:Int))=aa:=cy ag;have d:aj (res=c.all b8):=⟨by rw[k.M,d1,d2,cy i];rfl⟩;have N:(!!c.all b8)=c.all b8:=by simp
  exact ZT36
structure tV(H:am)(c:Nat)(ep:Int)(X Y C T L Wt:I)(pt ch:Int)(aH:List Int)(aq:List UInt8)(l:List Pr):Prop where
 p9:∃(b:Nat) (U:List (List I)),H.V[c]?=J (gP ep X Y C T L Wt (.arr b 0 U.length U.length) pt ch)/\H.V[b]?=J U.flatten/\gy (l.map Pr.val) U
 NL:IL C aH
 pos:0<aH.length
 c0:0<=ah aH 0/\ah aH 0<=4611686018427387903
 xw:∃kt st,T=.ac kt st (bV aq)/\(aq≠[]->st=1)
 tl:aq.length<=65536
 ll:l.length<=64
def tV.mono{m o T L f}{h g}{d}{aq}{l}(w:tV H c ep m o C T L f h g d aq l)(x:Ext H H'):tV H' c ep m o C T L f h g d aq l:=by obtain⟨b,e,i,j,k⟩:=w.p9;exact⟨⟨b,e,x.box _ _ i,x.box _ _ j,k⟩,w.NL,w.pos,w.c0,w.xw,w.tl,w.ll⟩
def axt(l:List Pr):gF (l.map Pr.val)<=1:=by
 induction l with
 |nil=>simp[gF]|cons d l c=>
  rw[dK,gF];have:gc d.val=1:=by simp[Pr.val,gc,gF]
  omega
def axu(p:Pr):F (cr p.val)<=100:=by
 have c:=iG 9 (0+1+1+1+1);have d:=iG 9 (iB p.bC);have e:=iG 9 (iB p.no);have f:=iG 9 (iB p.d);have g:=iG 9 (iB p.e);simp only[Pr.val,cr,gM,eR,db,gh]at *
 omega
def acP:∀l:List Pr,F (gM (l.map Pr.val))<=F l*100
 | []=>by simp[gM]
 |p::l=>by have c:=axu p;have d:=acP l;rw[dK,gM,db,eR,jt];omega
def af8(c0)(aq)(l)(k):F (cr (.ac [.int c0,.aq aq,DE l,.int k]))<=100+F aq+F l*100:=by
 have c:=iG 9 (0+1+1+1+1);have d:=iG 9 (iB c0);have e:=iG 9 (F aq);have f:=iG 9 (iB k);have g:=iG 9 (F (l.map Pr.val));have h:=acP l;simp only[DE,cr,gM,eR,db,gh]at *
 omega
def Ns(t u v w)(x y z q):fF af 177 4 [(0,.iface t x),(1,.iface u y),(2,.iface v z),(3,.iface w q)]=J (.ac .aK 1 [[.iface t x],[.iface u y],[.iface v z],[.iface w q]]):=ax
def Nn(H:am)(c:Nat)(ep:Int)(z1 z2 C T L A:I)(R E:Int)(d:List Int)(aq:List UInt8)(l:List Pr)(w:tV H c ep z1 z2 C T L A R E d aq l)(q:Pr)(K:0<=q.bC/\q.bC<=4611686018427387903):
 ∃r H',W5.call 83 [.ptr (.box c) 0,.agg (bm q)] H=J (r,H')/\H'=H.push (bm q)/\r=.ret (im ((gK (ah d 0) aq l q.bC:Nat):Int)):=by
 have y:=w.mono (.push H (bm q));obtain⟨b,e,g,v,m⟩:=y.p9;obtain⟨N,S,rfl,j⟩:=w.NL;obtain⟨t,st,rfl,k⟩:=w.xw;have f:=w.pos;have p:S=1:=j (by intro z4;rw[z4]at f;simp at f);subst p;have Y:F e<=64:=by have:=m.1;rw[bI]at this;have:=w.ll;omega
 have B:=af8 (ah d 0) aq l q.bC;have G:=axt l;have o:=Xg (H.push (bm q)) Lk .aK 1 [.iface 3 ((ah d 0:Int):I),.iface 60 (.ac t st (bV aq)),.iface 118 (.agg (im 3::im 0::sv []::[.arr b 0 (F e) (F e)])),.iface 3 ((q.bC:Int):I)] [.int (ah d 0),.aq aq,DE l,.int q.bC]
  (.cons (.int _ w.c0) (.cons (.aq t st aq k (by have:=w.tl;omega)) (.cons (.ac v m ag) (.cons (.int _ K) .nil)))) (λ_=>rfl) cB aZ (by simp[DE,gc,gF];omega) (by have:=w.tl;have:=w.ll;omega)
 have h:rX Lk (.ac [.int (ah d 0),.aq aq,DE l,.int q.bC])=gK (ah d 0) aq l q.bC:=rfl;rw[h]at o;rw[show Lk=[98,105,110,100] from O]at o;generalize gK (ah d 0) aq l q.bC=bn at *
 have u:=aQ H (bm q);have l0:aF af Gt (H.push (bm q)) 3 (.ptr (.box (F H.V)) 0)=J ((q.bC:Int):I):=di eu u O;have l1:aF af Gt (H.push (bm q)) 23 (.ptr (.box c) 3)=J (.ac N 1 (ay d)):=di kC g O;have l2:aF af Gt (H.push (bm q)) 60 (.ptr (.box c) 4)=J (.ac t st (bV aq)):=di M' g O;have l3:aF af Gt (H.push (bm q)) 118 (.ptr (.box c) 7)=J (.agg [im 3,im 0,sv [],.arr b 0 (F e) (F e)]):=by rw[gt Nb oo g (kj O)];rfl
 have l4:=ev (H:=H.push (bm q)) (l:=d) (i:=0) (s:=1) f;have bc:(I.agg (bm q)).bL=J (bm q):=rfl;have X:=c' d;have Z:=underlying23;have z3:=eQ;have z:(0:Int)<(F d:Int):=by omega
 have z0:(0:Int).toNat=0:=rfl;simp only[dK,tT]at o;clear w y g v m j k h B G u f;generalize ah d 0=c0 at *
 unfold im at *
 refine cq O func83 O ?_;refine bB @abG @bG ?_;refine eI kL ax ?_;refine b_ @abG @ql @mR (au @jv (au @bh (au @F_ (au @P0 (au @amb @Ns))))) ?_;exact⟨_,_,O,O,O⟩
def af9(c0)(aq)(l)(k):okF ((gK c0 aq l k:Nat):Int):=Xi _ _
def Z7(H:am)(c:Nat)(ep:Int)(y z C T L g:I)(m h:Int)(d:List Int)(aq:List UInt8)(l:List Pr)(w:tV H c ep y z C T L g m h d aq l)(q:Pr)(u:0<=q.bC/\q.bC<=4611686018427387903)(t:b8 q.d=aa)(j:b8 q.e=aa):
 ∃r H',W5.call 152 [.ptr (.box c) 0,.agg (bm q)] H=J (r,H')/\Ext H H'/\r=.ret (im ((qx (ah d 0) aq l q:Nat):Int)):=by
 obtain⟨_,D,G,rfl,rfl⟩:=Nn (H.push (bm q)) c ep y z C T L g m h d aq l (w.mono (.push _ _)) q u;have s:=af9 (ah d 0) aq l q.bC;have K:=Gx q.e ((gK (ah d 0) aq l q.bC:Nat):Int);have p:=Cy q.d (eO q.e ((gK (ah d 0) aq l q.bC:Nat):Int));have i:pm q.d (eO q.e ((gK (ah d 0) aq l q.bC:Nat):Int))=((qx (ah d 0) aq l q:Nat):Int):=by rw[Fk t (wB j _),rU j];unfold qx;rw[eD];unfold gK;rw[Q_]
 rw[i]at p;generalize qx (ah d 0) aq l q=X at *
 generalize ((gK (ah d 0) aq l q.bC:Nat):Int)=o at *
 generalize eO q.e o=Y at *
 have e:=aQ H (bm q);have f:((H.push (bm q)).push (bm q)).V[F H.V]?=J (bm q):=aP e;have N:aF af Gt (H.push (bm q)) 3 (.ptr (.box (F H.V)) 2)=J ((q.d:Int):I):=di eu e O;have R:aF af Gt (H.push (bm q)) 3 (.ptr (.box (F H.V)) 3)=J ((q.e:Int):I):=di eu e O;have S:=vH e;have A:aF af Gt ((H.push (bm q)).push (bm q)) 3 (.ptr (.box (F H.V)) 2)=J ((q.d:Int):I):=di eu f O;have B:aF af Gt ((H.push (bm q)).push (bm q)) 3 (.ptr (.box (F H.V)) 3)=J ((q.e:Int):I):=di eu f O;have E:(I.agg (bm q)).bL=J (bm q):=rfl;clear w s i e f;unfold im at *
 refine cq O func152 O ?_;refine bB @Ld @bG ?_;refine jB [(1,6),(3,6)] kL ax (λZ k=>?_) ?_
 .simp only[gX,rI,or_false]at k;rcases k with rfl|rfl
  .refine mI (x:=.ptr (.box (F H.V)) 2) (v:=((q.d:Int):I)) ax O O O ax (by simp[df,ip]) ?_ ?_<;>(simp only[fe,eE];exact qm @Ld @jv @and_self)
  .refine mI (x:=.ptr (.box (F H.V)) 3) (v:=((q.e:Int):I)) ax O O O ax (by simp[df,ip]) ?_ ?_<;>(simp only[fe,eE];exact qm @Ld @jv @and_self)
 refine bB @Ld @jv ?_;exact⟨_,_,O,(Ext.push _ _).trans (Ext.push _ _),O⟩
end Go.Proofs.YtcbhpkjbiehcpaaGreatDoor
end
section
namespace Go.Proofs.YtcbhpkjbiehcpaaGreatDoor
open Go.AE Go.NT Go.Proofs.Tryz
variable{H:am}{c e:Nat}{d:I}{vs:List Vl}{U:List (List I)}{v:Vl}{r:List I}
def oS:Tryz.f76.results.toList=[.tmp 6,.tmp 7]:=ax
def xO(H:am)(c f:Nat)(e:I)(vs:List Vl):Prop:=(vs=[]/\e=.ac .nil 0 [])∨(vs≠[]/\∃(b:Nat) (d:List (List I)),e=.arr b 0 (F d) (F d)/\H.V[b]?=J d.flatten/\gy vs d/\b≠c/\f<=b)
def xO.dp(q:xO H c e d vs):dp af 116 d=J ((F vs:Nat):I):=by
 have f:=underlying116;unfold Go.AE.dp;rw[f];rcases q with⟨rfl,rfl⟩|⟨-,b,h,rfl,-,g,-⟩
 .rfl
 .simp only[g.1]
def xO.dm(q:xO H c e d vs):d.dm=aa:=by rcases q with⟨rfl,rfl⟩|⟨-,b,f,rfl,-⟩<;>rfl
def rC:List I:=aD 0 0 [] .nil 0 []
def gy.four(h:gy vs U):∀r∈U,F r=4:=λr e=>by obtain⟨f,c⟩:=sK e;have d:=(aU.1 c).1;exact(h.2 f _ r (aW (by rw[<-h.1];exact d)) c).len
def gy.snoc(h:gy vs U)(g:cW v r):gy (vs++[v]) (U++[r]):=by
 refine⟨by simp[h.1],λi k x d c=>?_⟩;rcases dR i (F U) with e|j
 .rw[qL e]at c;rw[qL (by rw[<-h.1];exact e)]at d;exact h.2 i k x d c
 .have:=(aU.1 c).1;rw[db]at this;have f:i=F U:=by simp at this;omega
  subst f;rw[Ez]at c;rw[h.1,Ez]at d;injection c with c;injection d with d;subst c;subst d;exact g
def xO.more{t}{o}(q:xO H c e o vs)(N:Ext t H)(Z:F t.V<=e)(hc:c<F H.V)(p:e<=F H.V)(hl:F vs<1000000)(j:cW v r):
 ∃g,nD af H #[116,116] o (.ac .aK 4 [rC])=J (.arr (F H.V) 0 (F vs+1) (F vs+1),g)/\F g.V=F H.V+1/\g.tn=H.tn/\g.dead=H.dead/\Ext t g/\
  dM af 116 (.arr (F H.V) 0 (F vs+1) (F vs+1)) ((F vs:Nat):I)=J (.ptr (.box (F H.V)) (F vs*4))/\
  (∀(a:Nat) (cs:List I),H.V[a]?=J cs->(a<e∨a=c)->g.V[a]?=J cs)/\
  ∃cs,bU af g 118 (.ptr (.box (F H.V)) (F vs*4)) (.agg r)=J (g.put (F H.V) cs)/\
  ∀m,m.V[F H.V]?=J cs->xO m c e (.arr (F H.V) 0 (F vs+1) (F vs+1)) (vs++[v]):=by
 obtain⟨z0,R,l,Y,S⟩:=P2;have E:=lu (ag:F vs+1<=1000000) Y;have T:=underlying116;have i:=j.len;have s:dM af 116 (.arr (F H.V) 0 (F vs+1) (F vs+1)) ((F vs:Nat):I)=J (.ptr (.box (F H.V)) (F vs*4)):=by unfold dM;simp only[T,oo];rw[aC ⟨ag,by omega⟩];simp
 rcases q with⟨rfl,rfl⟩|⟨G,b,d,rfl,D,u,w,h4⟩
 .have:=Bt (h:=H) (k:=.nil) (sz:=0) (es:=[]) (new:=[rC]) (x:=.ac .aK 4 [rC]) underlying116 underlying116 R ag (by rw[l];exact S) cB (by simp;omega) cB (.inr O) (.inl O) (by rw[l];rfl);refine⟨_,this,bP _ _,O,O,N.trans (.push _ _),s,λa cs y _=>aP y,r,?_,λm w=>.inr ⟨cB,H.V.length,[r],O,by rw[w];simp,gy.snoc (vs:=[]) (U:=[]) ⟨O,λz0 v r q=>by simp at q⟩ j,by omega,p⟩⟩;have B:(H.push ([]++[rC]).flatten).V[F H.V]?=J rC:=aQ _ _;exact(e7 (off:=0) (cs:=rC) (xs:=r) j.cells oo B i (aT 4)).trans (by rw[vU (by rw[i];rfl)])
 .have A:=nW u.four;have f:=u.1;have C:0<F d:=by rw[f];exact BJ.2 G
  rw[<-f]at E;have:=Hk (h:=H) (b:=b) (len:=d.length) (cs:=d.flatten) (new:=[rC]) (x:=.ac .aK 4 [rC]) underlying116 underlying116 R ag (by rw[l];exact S) cB (by simp;omega) (by simp;omega) D C (by rw[l,A]) (by rw[l];rfl);have dx:=(aU.1 D).1;rw[show F d+F [rC]=F vs+1 by simp[f]]at this;refine⟨_,this,by rw[bP,jA],O,O,(N.gg ag _).trans (.push _ _),s,λa cs y K=>aP ((cG ?_).trans y),(d++[r]).flatten,?_,λm X=>.inr ⟨cB,H.V.length,d++[r],by simp[f],X,u.snoc j,by omega,p⟩⟩
  .rcases K with z|z
   .omega
   .rintro rfl;exact w z
  .have B:((H.put b []).push (d.flatten++[rC].flatten)).V[F H.V]?=J (d.flatten++[rC].flatten):=np (by rw[jA]);refine(e7 (off:=F vs*4) (xs:=r) j.cells oo B i ?_).trans ?_
   .rw[db,A,f];exact aT _
   .have L:dW (d.flatten++[rC].flatten) (F vs*4) r=(d++[r]).flatten:=(by unfold dW;rw[i,<-f,<-A,List.take_left' O,ot (by rw[db];exact aT _),g'];simp);rw[L]
def aof:∃h',W4.call 150 [.ac .nil 0 []] ⟨[],[],0,[]⟩=J (.ret (.agg (aD 3 0 [] .nil 0 [])),h'):=by obtain⟨i,h',f,-,j,h,e,rfl,-,-,d⟩:=Qr ⟨[],[],0,[]⟩ vK .nil 0 [] [] .nil (λg=>absurd O g) cB (λa c=>by cases c);obtain⟨rfl,rfl,rfl⟩:=d O;rw[tT]at f;exact⟨h',f⟩
def anS:∀h,W5.call 150 [.ac .nil 0 []] h=J (.ret (.agg (aD 3 0 [] .nil 0 [])),h):=by obtain⟨d,c⟩:=aof;exact gT (L:=L5) (A:=[.ac .nil 0 []]) aZ (by rw[bA,bA,av,cJ,dV];intro n e;cases e) aZ c (by rfl) aZ
end Go.Proofs.YtcbhpkjbiehcpaaGreatDoor
end
section
namespace Go.Proofs.YtcbhpkjbiehcpaaGreatDoor
open Go.AE Go.NT Go.Proofs.Tryz
variable{C L T d e g i m x y:I}{l:List Pr}{H h:am}{ep f n:Int}{b c k:Nat}{vs:List Vl}{t:Tok}{U:List (List Int)}{ae:List Int}{s:List (Int × Int)}
def afJ(ep)(g h i j k)(l m o p q)(c e2 d e f):
 iK af 132 [(0,.agg (aG ep (.ac g l c) (.ac h m e2) (.ac i o d))),(1,.ac j p e),(2,.ac k q f),(4,.agg (aD 3 0 [] .nil 0 []))]=J (.agg (gP ep (.ac g l c) (.ac h m e2) (.ac i o d) (.ac j p e) (.ac k q f) (.ac .nil 0 []) (.ac .nil 0 []) 0 0)):=ax
def BL(x:I)(b:List UInt8):Prop:=∃d c,x=.ac d c (bV b)/\(b≠[]->c=1)
def acM(b):F (bV b)=F b:=bI _
def BL.dp{b}(h:BL x b):dp af 60 x=J ((F b:Nat):I):=by obtain⟨d,e,rfl,-⟩:=h;have c:=underlying60;unfold Go.AE.dp;rw[c];simp only[acM]
def PL.ix(h:PL x l){i}(hi:i<F l):dM af 32 x ((i:Nat):I)=J (.elem 4 (cU l) i 0):=by obtain⟨e,g,rfl,d⟩:=h;have c:g=4:=d (by intro f;rw[f]at hi;simp at hi);subst c;have:=bh (k:=e) (kk:=.i64) (es:=cU l) (a:=((i:Nat):Int)) underlying32 xu ag (by rw[Dz];omega);rw[this,eD]
def IL.ix{l}(h:IL x l){i}(hi:i<F l):dM af 23 x ((i:Nat):I)=J (.elem 1 (ay l) i 0):=by obtain⟨e,g,rfl,d⟩:=h;have c:g=1:=d (by intro f;rw[f]at hi;simp at hi);subst c;have:=bh (k:=e) (kk:=.i64) (es:=ay l) (a:=((i:Nat):Int)) underlying23 eQ ag (by rw[c'];omega);rw[this,eD]
structure BI(h H:am)(ep:Int)(X Y C T L:I)(kb c:Nat)(cur:I)(vs:List Vl)(t:Tok):Prop where
 ext:Ext h H
 ok:cS H=aa
 can:cY h.tn H t
 key:H.V[kb]?=J (aG ep X Y C)
 work:H.V[c]?=J (gP ep X Y C T L (.ac .nil 0 []) cur 0 0)
 la:xO H c (c+1) cur vs
 lo:h.V.length<=kb
 lt:kb<c
def BI.push{l}{f}(b:BI h H ep l m C T L f c d vs t)(cs):BI h (H.push cs) ep l m C T L f c d vs t:=by
 refine⟨b.ext.trans (.push _ _),b.ok,by rw[sN];exact b.can,aP b.key,aP b.work,?_,b.lo,b.lt⟩;rcases b.la with g|⟨g,x,e,i,j,k⟩
 .exact .inl g
 .exact .inr ⟨g,x,e,i,aP j,k⟩
def BI.app{o}{g}(b:BI h H ep m o C T L g c d vs t):BI h (H.app t) ep m o C T L g c d vs (.free H.tn):=by
 have e:=Grown.one b.can b.ok b.ext.tn;refine⟨e.ext b.ext (aT _),e.ok,e.can,by rw[dC];exact b.key,by rw[dC];exact b.work,?_,b.lo,b.lt⟩;rcases b.la with i|⟨i,x,f,j,k,l⟩
 .exact .inl i
 .exact .inr ⟨i,x,f,j,by rw[dC];exact k,l⟩
def BI.NG{f}{e}(b:BI h H ep f g C T L e c d vs t):c<F H.V:=(aU.1 b.work).1
def awo{h}{g}(j:H.V[c]?=J (gP ep h i C T L e d g f))(k:x.bL=J [x]):bU af H 116 (.ptr (.box c) 10) x=J (H.put c (gP ep h i C T L e x g f)):=
 e7 (off:=10) (cs:=gP ep h i C T L e d g f) (xs:=[x]) k ax j O (kj O)
def awn{h}{e}(j:H.V[c]?=J (gP ep h i C T L g d f e))(k:x.bL=J [x]):bU af H 23 (.ptr (.box c) 6) x=J (H.put c (gP ep h i C T L x d f e)):=
 e7 (off:=6) (cs:=gP ep h i C T L g d f e) (xs:=[x]) k g_ j O (kj O)
def awq{h}{g}(j:H.V[c]?=J (gP ep h i C T L e d g f)):bU af H 3 (.ptr (.box c) 11) ((n:Int):I)=J (H.put c (gP ep h i C T L e d n f)):=
 e7 (off:=11) (cs:=gP ep h i C T L e d g f) (xs:=[((n:Int):I)]) O eQ j O (kj O)
def awp{h}{g}(j:H.V[c]?=J (gP ep h i C T L e d f g)):bU af H 3 (.ptr (.box c) 12) ((n:Int):I)=J (H.put c (gP ep h i C T L e d f n)):=
 e7 (off:=12) (cs:=gP ep h i C T L e d f g) (xs:=[((n:Int):I)]) O eQ j O (kj O)
def UO:fF af 116 1 [(0,.agg [us (Value.int .i64 0),us (Value.int .i64 0),us (Value.string (bs [])),us (Value.slice ao 0 0)])]=J (.ac .aK 4 [rC]):=ax
def BI.next{f}(b:BI h H ep g i C T L f c e vs t)(s:F vs<1000000){v}{r}(u:cW v r):
 ∃d cs,nD af H #[116,116] e (.ac .aK 4 [rC])=J (.arr (F H.V) 0 (F vs+1) (F vs+1),d)/\
  dM af 116 (.arr (F H.V) 0 (F vs+1) (F vs+1)) ((F vs:Nat):I)=J (.ptr (.box (F H.V)) (F vs*4))/\
  bU af d 118 (.ptr (.box (F H.V)) (F vs*4)) (.agg r)=J (d.put (F H.V) cs)/\
  bU af (d.put (F H.V) cs) 116 (.ptr (.box c) 10) (.arr (F H.V) 0 (F vs+1) (F vs+1))=J ((d.put (F H.V) cs).put c (gP ep g i C T L (.ac .nil 0 []) (.arr (F H.V) 0 (F vs+1) (F vs+1)) 0 0))/\
  BI h ((d.put (F H.V) cs).put c (gP ep g i C T L (.ac .nil 0 []) (.arr (F H.V) 0 (F vs+1) (F vs+1)) 0 0)) ep g i C T L f c (.arr (F H.V) 0 (F vs+1) (F vs+1)) (vs++[v]) t:=by
 have p:=b.NG;have j:=b.lo;have k:=b.lt;obtain⟨d,y,A,l,m,B,D,o,cs,E,G⟩:=b.la.more b.ext ag p ag s u;have w:(d.put (F H.V) cs).V[c]?=J (gP ep g i C T L (.ac .nil 0 []) e 0 0):=by rw[cG ag];exact o c _ b.work (.inr O)
 have q:((d.put (F H.V) cs).put c (gP ep g i C T L (.ac .nil 0 []) (.arr (F H.V) 0 (F vs+1) (F vs+1)) 0 0)).V[f]?=J (aG ep g i C):=by rw[cG ag,cG ag];exact o f _ b.key (.inl ag)
 refine⟨d,cs,y,D,E,awo w O,(B.gg (by have:=b.ext.len;omega) _).gg ag _,?_,?_,q,dy (by rw[jA];omega),?_,j,k⟩
 .have:=b.ok;unfold cS at *
  show d.dead.all (λn=>decide (n<d.tn))=aa;rw[l,m];exact this
 .have:=b.can;rw[vh,vh];rcases this with z|z|⟨R,z,K,N⟩
  .exact .inl z
  .exact .inr (.inl z)
  .refine .inr (.inr ⟨R,z,K,?_⟩);unfold alive at *
   rw[l,m];exact N
 .refine G _ ?_;rw[cG ag];exact dy (by rw[A];omega)
def apK(p:Pr)(h:∀x∈[p.bC,p.no,p.d,p.e],0<=x/\x<=4611686018427387903):∃r,cW p.val r/\∀H,W5.call 150 [.ac .aK 1 [[.iface 3 ((p.bC:Int):I)],[.iface 3 ((p.no:Int):I)],[.iface 3 ((p.d:Int):I)],[.iface 3 ((p.e:Int):I)]]] H=J (.ret (.agg r),H):=by
 have:=anR .aK 1 [.iface 3 ((p.bC:Int):I),.iface 3 ((p.no:Int):I),.iface 3 ((p.d:Int):I),.iface 3 ((p.e:Int):I)] [.int p.bC,.int p.no,.int p.d,.int p.e]
  (.cons (.int _ (h _ cB)) (.cons (.int _ (h _ cB)) (.cons (.int _ (h _ cB)) (.cons (.int _ (h _ cB)) .nil)))) (λ_=>rfl) cB
 simp only[dK,tT]at this;exact this
def jm(l:List Pr):List Int:=l.map Pr.bC
def S8(U:List (List Int))(ae:List Int)(ep:Int)(f g C T L:I)(c:List Int)(aq:List UInt8)(l:List Pr)(h:am)(r:dP)(h':am):Prop:=
 Ext h h'/\((dA U ae ep c aq l≠0/\r=.ret (.tuple [.v (.pointer ao),((dA U ae ep c aq l:Int):I)]))∨
  (dA U ae ep c aq l=0/\∃e d,r=.ret (.tuple [.ptr (.box e) 0,.v (.int .i64 0)])/\IL d (fb U ae l)/\tV h' e ep f g C T L d ((jz (ah c 0) aq l:Nat):Int) ((ef (ah c 0) aq l:Nat):Int) c aq l))
def yW:∀{last:Int},jY last l=aa->∀p∈l,last<p.bC/\p.bC<64/\0<=p.no/\p.no<4096/\b8 p.d=aa/\b8 p.e=aa:=by
 induction l with
 |nil=>intro _ _ p c;simp at c|cons v l m=>
  intro last d p c;rw[NT.jY]at d;simp only[bR,decide_eq_true_eq]at d;obtain⟨⟨⟨⟨⟨⟨e,f⟩,g⟩,h⟩,i⟩,j⟩,k⟩:=d;rcases gX.1 c with rfl|c
  .exact⟨e,f,g,h,i,j⟩
  .obtain⟨u,o,q,r,s,t⟩:=m k p c;exact⟨ag,o,q,r,s,t⟩
def QJ{c0}{aq}{p}(c:b8 p.d=aa)(d:b8 p.e=aa):elem (qx c0 aq l p)=aa:=by unfold qx gK;rw[Q_];exact Fb (Cn c) (y9 (Cn d) _)
def aqh{c0}{aq}(h:jY ep l=aa):elem (jz c0 aq l)=aa:=
 Gy (λd c=>QJ (yW h d c).2.2.2.2.1 (yW h d c).2.2.2.2.2) Cp
def ZT31{p:Prop}(h:p:=by
 refine dL @oS @bG @kZ ?_;exact⟨_,_,O,X2.M,.inl ⟨by rw[d.M];decide,by rw[d.M]⟩⟩):p:=h
def Nk(h:am)(eH:cS h=aa)(ep:Int)(g f C T L:I)(U:List (List Int))(ae c:List Int)(aq:List UInt8)(l:List Pr)
 (hx:RL g U) (E:IL f ae) (hc:IL C c) (ht:BL T aq) (hp:PL L l) (fj:F c<=1000000) (fQ:F l<=1000000):
 ∃r h',W5.call 76 [.agg (aG ep g f C),T,L] h=J (r,h')/\S8 U ae ep g f C T L c aq l h r h':=by
 have bx:=mV (ep:=ep) hx E hc;obtain⟨_,h2,c2,rfl,rfl⟩:=ar2 (h.push (aG ep g f C)) ep g f C U ae c hx E hc fj;have c1:=NF g f U ae hx E;have H:=aQ h (aG ep g f C);have l1:aF af Gt (h.push (aG ep g f C)) 25 (.ptr (.box (F h.V)) 1)=J (.agg [g,f]):=by rw[gt BU (by kernel_rfl:cN af 25=J 2) H (kj O)];rfl
 have l2:aF af Gt (h.push (aG ep g f C)) 27 (.ptr (.box (F h.V)) 0)=J (.agg (aG ep g f C)):=by rw[gt ax (by kernel_rfl:cN af 27=J 4) H (kj O)];rfl
 have l3:aF af Gt ((h.push (aG ep g f C)).push (aG ep g f C)) 27 (.ptr (.box (F h.V)) 0)=J (.agg (aG ep g f C)):=by rw[gt ax (by kernel_rfl:cN af 27=J 4) (aP H) (kj O)];rfl
 have ln1:=ht.dp;have ln2:=hp.dp;have lst:=anS;have bw:iK af 132 [(0,.agg (aG ep g f C)),(1,T),(2,L),(4,.agg (aD 3 0 [] .nil 0 []))]=J (.agg (gP ep g f C T L (.ac .nil 0 []) (.ac .nil 0 []) 0 0))/\(I.agg (gP ep g f C T L (.ac .nil 0 []) (.ac .nil 0 []) 0 0)).bL=J (gP ep g f C T L (.ac .nil 0 []) (.ac .nil 0 []) 0 0):=by obtain⟨kx,sx,xs,rfl,-⟩:=hx.form;obtain⟨ky,sy,rfl,-⟩:=E;obtain⟨kc,sc,rfl,-⟩:=hc;obtain⟨kt,st,rfl,-⟩:=ht;obtain⟨kp,sp,rfl,-⟩:=hp;exact⟨afJ ep kx ky kc kt kp sx sy sc st sp _ _ _ _ _,O⟩
 obtain⟨bw1,bw2⟩:=bw;have A:=aj.mk (au hx (au E (au hc (au ht hp))));have B0:BI h (((h.push (aG ep g f C)).push (aG ep g f C)).push (gP ep g f C T L (.ac .nil 0 []) (.ac .nil 0 []) 0 0)) ep g f C T L (F h.V) (F ((h.push (aG ep g f C)).push (aG ep g f C)).V) (.ac .nil 0 []) [] .nil:=
  ⟨((Ext.push _ _).trans (.push _ _)).trans (.push _ _),eH,.inl O,aP (aP H),aQ _ _,.inl ⟨O,O⟩,aT _,by rw[bP,bP];omega⟩
 have X1:=aj.mk (Ext.push h (aG ep g f C));have X2:=aj.mk ((Ext.push h (aG ep g f C)).trans (Ext.push _ (aG ep g f C)));have Y:aj (cE U ae≠0->dA U ae ep c aq l=cE U ae):=⟨λj=>by unfold dA;rw[aC j]⟩;have Z:aj (cE U ae=0->iF U ep c=ar->dA U ae ep c aq l=380):=⟨λX q=>by unfold dA;rw[aL (by simp[X]),aC];unfold iF at q;rw[q];rfl⟩;have kE3:aj (cE U ae=0->iF U ep c=aa->65536<F aq->dA U ae ep c aq l=2):=⟨λX q q3=>by unfold dA;unfold iF at q;rw[aL (by simp[X]),aL (by rw[q];decide),aC q3]⟩;have kE4:aj (cE U ae=0->iF U ep c=aa->¬65536<F aq->64<F l->dA U ae ep c aq l=420):=⟨λX q q3 q4=>by unfold dA;unfold iF at q;rw[aL (by simp[X]),aL (by rw[q];decide),aL q3,aC q4]⟩;have kE5:aj (cE U ae=0->iF U ep c=aa->¬65536<F aq->¬64<F l->jY (-1) l=ar->dA U ae ep c aq l=420):=⟨λX q q3 q4 q5=>by unfold dA;unfold iF at q;rw[aL (by simp[X]),aL (by rw[q];decide),aL q3,aL q4,aC (by rw[q5];rfl)]⟩;have kE6:aj (cE U ae=0->iF U ep c=aa->¬65536<F aq->¬64<F l->jY (-1) l=aa->∀K z2 R,fg U ae (jm l)=(K,z2,R)->dA U ae ep c aq l=if R≠0∨z2=ar∨F l=0 then 420 else 0):=⟨λX q q3 q4 q5 K z2 R q6=>by unfold dA;unfold iF at q;rw[aL (by simp[X]),aL (by rw[q];decide),aL q3,aL q4,aL (by rw[q5];decide)];unfold jm at q6;rw[q6]⟩;have kW:aj (∀K z2 R,fg U ae (jm l)=(K,z2,R)->fb U ae l=K):=⟨λK z2 R j=>by unfold fb;unfold jm at j;rw[j]⟩;have kR:aj (iF U ep c=aa->F c=b7 U/\c.all b8=aa):=⟨λj=>by unfold iF at j;simp only[bR,decide_eq_true_eq]at j;exact⟨j.1.2,j.2⟩⟩;unfold S8;generalize dA U ae ep c aq l=res at *
 clear hx E hc ht hp H;refine cq O func76 O ?_;by_cases w:cE U ae=0;rotate_left 1
 .have d:=aj.mk (au w (Y.M w));clear Y Z kE3 kE4 kE5 kE6 c2 bw1 bw2 B0 lst l3;generalize cE U ae=j at *
  unfold im at *
  refine dL @oS @bG @kZ ?_;exact⟨_,_,O,X1.M,.inl ⟨by rw[d.M.2];exact d.M.1,by rw[d.M.2]⟩⟩
 rw[w]at c1;cases y:iF U ep c with
 |false=>
  have d:=aj.mk (Z.M w y);rw[y]at c2;clear Y Z kE3 kE4 kE5 kE6 bw1 bw2 B0 lst l3 w y;unfold im at *
  exact ZT31
 |true=>
 rw[y]at c2;by_cases h3:65536<F aq
 .have d:=aj.mk (kE3.M w y h3);have hI:(65536:Int)<(F aq:Int):=by omega
  clear Y Z kE3 kE4 kE5 kE6 bw1 bw2 B0 lst l3 w y h3;unfold im at *
  exact ZT31
 have hI:¬(65536:Int)<(F aq:Int):=by omega
 by_cases h4:64<F l
 .have d:=aj.mk (kE4.M w y h3 h4);have WP:(64:Int)<(F l:Int):=by omega
  clear Y Z kE3 kE4 kE5 kE6 bw1 bw2 B0 lst l3 w y h3 h4;unfold im at *
  exact ZT31
 have WP:¬(64:Int)<(F l:Int):=by omega
 have kbad:=aj.mk (λj=>kE5.M w y h3 h4 j);have kgood:=aj.mk (λj=>kE6.M w y h3 h4 j);have kcom:=aj.mk (kR.M y);have kprog:=aj.mk w;have ktl:aj (F aq<=65536):=⟨ag⟩;have Js:F l<=64:=by omega
 clear Y Z kE3 kE4 kE5 kE6 kR w y h3 h4 X1 X2;have kB0:=aj.mk B0;clear B0;obtain⟨HW,WN⟩:∃HW,((h.push (aG ep g f C)).push (aG ep g f C)).push (gP ep g f C T L (.ac .nil 0 []) (.ac .nil 0 []) 0 0)=HW:=⟨_,O⟩;unfold im at *
 refine dL @oS @bG @kZ ?_;refine eI kL ax ?_;refine dL @oS @bG @kZ ?_;rw[WN]at kB0;refine bJ.gen λv m iD fA eg=>?_;have f1:v.get 1=T:=by rw[m];exact gS
 have f2:v.get 2=L:=by rw[m];exact gS
 have f3:v.get 3=.ptr (.box (F h.V)) 0:=by rw[m];exact gS
 have f6:v.get 6=.ptr (.box (F ((h.push (aG ep g f C)).push (aG ep g f C)).V)) 0:=by rw[m];exact gS
 have f9:v.get 9=.ac .nil 0 []:=by rw[m];exact gS
 have f10:v.get 10=.v (.int .i64 (-1)):=by rw[m];exact gS
 have f39:v.get 39=L:=by rw[m];exact gS
 have f40:v.get 40=(F l:Nat):=by rw[m];exact gS
 have f41:v.get 41=(0:Nat):=by rw[m];exact gR
 have fd:v.defers=[]:=by rw[iD];exact gS
 clear m iD fA eg c1 c2 l1 l2 l3 bw1 bw2 lst WN hI WP ln1;generalize F ((h.push (aG ep g f C)).push (aG ep g f C)).V=N at *
 generalize F h.V=kb at *
 refine cK (λz4 R k=>∃(t:Nat) (last:Int) (z0:Tok) (sz:Nat) (cur:I),t<=F l/\z4=F l-t/\aj (jY last (l.drop t)=jY (-1) l)/\(-1<=last)/\aj (BI h k ep g f C T L kb N cur ((l.take t).map Pr.val) z0)/\aj (sz=1∨(jm (l.take t)=[]/\z0=.nil))/\
  R.get 1=T/\R.get 2=L/\R.get 3=.ptr (.box kb) 0/\R.get 6=.ptr (.box N) 0/\R.get 9=.ac z0 sz (ay (jm (l.take t)))/\R.get 10=(last:Int)/\R.get 39=L/\R.get 40=(F l:Nat)/\R.get 41=(t:Nat)/\R.defers=[]) ?_ (F l) _ _ ?_
 rotate_left 1
 .exact⟨0,-1,.nil,0,.ac .nil 0 [],ck _,O,⟨O⟩,Et _,kB0,⟨.inr ⟨O,O⟩⟩,f1,f2,f3,f6,f9,f10,f39,f40,f41,fd⟩
 clear f1 f2 f3 f6 f9 f10 f39 f40 f41 fd kB0 HW;rintro z4 R k ⟨t,last,z0,sz,cur,hi,rfl,kP,FP,z,ksz,g1,g2,g3,g6,g9,g10,g39,g40,g41,hd⟩;by_cases dx:t<F l
 .obtain⟨e,JG⟩:∃e,l[t]?=J e:=⟨_,aW dx⟩;have XC:l.drop t=e::l.drop (t+1):=by rw[we dx,(aU.1 JG).2]
  have Pu:=kP.M;rw[XC,NT.jY]at Pu;have kpf:=aj.mk Pu;have ix:=A.M.2.2.2.2.ix dx;have ld:=vI (H:=k) (s:=4) JG;have st:=xq (H:=k) e;have zc:=zA;have H:=aQ k (bm e);have q0:aF af Gt (k.push (bm e)) 3 (.ptr (.box (F k.V)) 0)=J ((e.bC:Int):I):=di eu H O;have X:aF af Gt (k.push (bm e)) 3 (.ptr (.box (F k.V)) 1)=J ((e.no:Int):I):=di eu H O;have q:aF af Gt (k.push (bm e)) 3 (.ptr (.box (F k.V)) 2)=J ((e.d:Int):I):=di eu H O;have q3:aF af Gt (k.push (bm e)) 3 (.ptr (.box (F k.V)) 3)=J ((e.e:Int):I):=di eu H O;have v1:=Hq e.d;have v2:=Hq e.e;have iy:(t:Int)<(F l:Int):=by omega
  have u:=aj.mk (z.M.push (bm e));have ktake:=aj.mk (fS JG);clear Pu XC JG H;have i:aj ((decide (last<e.bC)&&decide (e.bC<64)&&decide (0<=e.no)&&decide (e.no<4096)&&b8 e.d&&b8 e.e)=ar->res=420):=⟨λj=>by refine kbad.M ?_;rw[<-kpf.M,j];rfl⟩;unfold im at *
  by_cases e1:e.bC<=last
  .have d1:decide (e.bC<=last)=aa:=cy e1;have d:=aj.mk (i.M (by rw[cR (ag:¬last<e.bC)];rfl));clear e1;refine bB @oS @jv ?_;exact⟨_,_,O,u.M.ext,.inl ⟨by rw[d.M];decide,by rw[d.M]⟩⟩
  have d1:decide (e.bC<=last)=ar:=cR e1;by_cases e2:64<=e.bC
  .have d2:decide (64<=e.bC)=aa:=cy e2;have d:=aj.mk (i.M (by rw[cR (ag:¬e.bC<64)];simp));clear e1 e2;refine bB @oS @jv ?_;exact⟨_,_,O,u.M.ext,.inl ⟨by rw[d.M];decide,by rw[d.M]⟩⟩
  have d2:decide (64<=e.bC)=ar:=cR e2;by_cases e3:e.no<0
  .have d3:decide (e.no<0)=aa:=cy e3;have d:=aj.mk (i.M (by rw[cR (ag:¬0<=e.no)];simp));clear e1 e2 e3;refine bB @oS @jv ?_;exact⟨_,_,O,u.M.ext,.inl ⟨by rw[d.M];decide,by rw[d.M]⟩⟩
  have d3:decide (e.no<0)=ar:=cR e3;by_cases e4:4096<=e.no
  .have d4:decide (4096<=e.no)=aa:=cy e4;have d:=aj.mk (i.M (by rw[cR (ag:¬e.no<4096)];simp));clear e1 e2 e3 e4;refine bB @oS @jv ?_;exact⟨_,_,O,u.M.ext,.inl ⟨by rw[d.M];decide,by rw[d.M]⟩⟩
  have d4:decide (4096<=e.no)=ar:=cR e4;cases e5:b8 e.d with
  |false=>have d:=aj.mk (i.M (by rw[e5];simp));rw[e5]at v1;clear e1 e2 e3 e4 e5;refine bB @oS @jv ?_;exact⟨_,_,O,u.M.ext,.inl ⟨by rw[d.M];decide,by rw[d.M]⟩⟩
  |true=>
  rw[e5]at v1;cases e6:b8 e.e with
  |false=>have d:=aj.mk (i.M (by rw[e6];simp));rw[e6]at v2;clear e1 e2 e3 e4 e5 e6;refine bB @oS @jv ?_;exact⟨_,_,O,u.M.ext,.inl ⟨by rw[d.M];decide,by rw[d.M]⟩⟩
  |true=>
  rw[e6]at v2;have FU:=Co e5;have hr6:=Co e6;have kP2:aj (jY e.bC (l.drop (t+1))=jY (-1) l):=⟨by rw[<-kpf.M,cy (ag:last<e.bC),cy (ag:e.bC<64),cy (ag:0<=e.no),cy (ag:e.no<4096),e5,e6];rfl⟩;obtain⟨r,yG,lr⟩:=apK e (by intro x hx;simp only[gX,rI,or_false]at hx;rcases hx with rfl|rfl|rfl|rfl<;>omega);have hkl:F (jm (l.take t))=t:=by unfold jm;rw[bI,dF];omega
  have ap:=sM (x:=e.bC) (es:=jm (l.take t)) ag ksz.M u.M.can;have bl:=oA e.bC;have XW:jm (l.take t)++[e.bC]=jm (l.take (t+1)):=by unfold jm;rw[ktake.M,jr];rfl
  rw[XW]at ap;have kBa:=aj.mk u.M.app;have rg:F ((l.take t).map Pr.val)=t:=by rw[bI,dF];omega
  obtain⟨H2,cs,t1,t2,t3,t4,t5⟩:=kBa.M.next ag yG;have len94:=kBa.M.la.dp;have lw:aF af Gt ((k.push (bm e)).app z0) 116 (.ptr (.box N) 10)=J cur:=di Uh kBa.M.work O;have bxx:((k.push (bm e)).app z0).V[F k.V]?=J (bm e):=by rw[dC];exact aQ _ _
  have q0':aF af Gt ((k.push (bm e)).app z0) 3 (.ptr (.box (F k.V)) 0)=J ((e.bC:Int):I):=di eu bxx O;have q1':aF af Gt ((k.push (bm e)).app z0) 3 (.ptr (.box (F k.V)) 1)=J ((e.no:Int):I):=di eu bxx O;have q2':aF af Gt ((k.push (bm e)).app z0) 3 (.ptr (.box (F k.V)) 2)=J ((e.d:Int):I):=di eu bxx O;have q3':aF af Gt ((k.push (bm e)).app z0) 3 (.ptr (.box (F k.V)) 3)=J ((e.e:Int):I):=di eu bxx O;have YI:(l.take t).map Pr.val++[e.val]=(l.take (t+1)).map Pr.val:=by rw[ktake.M,jr];rfl
  rw[YI]at t5;have kB2:=aj.mk t5;have fH:F ((k.push (bm e)).app z0).V≠N:=by have:=kBa.M.NG;omega
  rw[rg]at t1 t2 t3 t4 kB2 len94;have knext: -1<=e.bC:=by omega
  clear e1 e2 e3 e4 e5 e6 FU hr6 t5 YI bxx XW yG hkl rg u kBa i kpf kP FP;refine bB @oS @jv ?_;refine auo 23 kL ax ax ax ?_ ?_
  .refine apD (n:=27) (bi:=((k.push (bm e)).app z0).V.length) (bn:=N) (x1:=t*4) (x2:=10) ax O O O O ?_ ?_ fH<;>(simp only[fe,eE];exact jN @oS @ql @jv (au @VY (au @F_ (au @Ns (au @UO @and_self)))))
  refine b_ @oS @ql @jv (au @VY (au @F_ (au @Ns @UO))) ?_;exact⟨F l-(t+1),by omega,t+1,e.bC,_,1,_,by omega,O,kP2,knext,kB2,⟨.inl O⟩,by simp⟩
 have gw:t=F l:=by omega
 subst gw;rw[gu]at g9 ksz z;have WW:jY (-1) l=aa:=by rw[<-kP.M,ot (aT _)];rfl
 have p:=aj.mk WW;have lk:aF af Gt k 25 (.ptr (.box kb) 1)=J (.agg [g,f]):=by rw[gt BU (by kernel_rfl:cN af 25=J 2) z.M.key (kj O)];rfl
 have YK:IL (.ac z0 sz (ay (jm l))) (jm l):=⟨z0,sz,O,λj=>by
  rcases ksz.M with z3|⟨z3,-⟩
  .exact z3
  .exact absurd z3 j⟩
 have alk:F (jm l)<=64:=by unfold jm;rw[bI];exact Js
 have akI:(∃R,fg U ae (jm l)=([],ar,R)/\∀h,W5.call 39 [.agg [g,f],.ac z0 sz (ay (jm l))] h=J (.ret (.tuple [.ac .nil 0 [],(ar:I),((R:Int):I)]),h))∨∃K,fg U ae (jm l)=(K,aa,0)/\F K=F U/\∀h,W5.call 39 [.agg [g,f],.ac z0 sz (ay (jm l))] h=J (.ret (.tuple [.ac .held 1 (ay K),(aa:I),.v (.int .i64 0)]),h):=by obtain⟨k0,s0,xs,Xc,-⟩:=A.M.1.form;have:=T9 k0 s0 xs f (.ac z0 sz (ay (jm l))) U ae (jm l) (by rw[<-Xc];exact A.M.1) A.M.2.1 YK ag;rw[<-Xc]at this;exact this
 clear WW YK alk dx kP FP hi;rcases akI with⟨v,a1,ca⟩|⟨K,a1,a2,ca⟩
 .have d:aj (res=420):=⟨by rw[kgood.M p.M _ _ _ a1,aC (.inr (.inl O))]⟩;clear a1;by_cases S:v=0
  .subst S;refine bB @oS @kZ ?_;exact⟨_,_,O,z.M.ext,.inl ⟨by rw[d.M];decide,by rw[d.M]⟩⟩
  .have d9:decide (v=0)=ar:=cR S;refine bB @oS @kZ ?_;exact⟨_,_,O,z.M.ext,.inl ⟨by rw[d.M];decide,by rw[d.M]⟩⟩
 by_cases S:F l=0
 .have d:aj (res=420):=⟨by rw[kgood.M p.M _ _ _ a1,aC (.inr (.inr S))]⟩;have d9:decide ((F l:Int)=0)=aa:=cy ag;clear a1 S;refine bB @oS @kZ ?_;exact⟨_,_,O,z.M.ext,.inl ⟨by rw[d.M];decide,by rw[d.M]⟩⟩
 have d9:decide ((F l:Int)=0)=ar:=cR ag;have d:aj (res=0):=⟨by rw[kgood.M p.M _ _ _ a1,aL (by simp;intro j;rw[j]at S;exact S O)]⟩;have kWt:=aj.mk (kW.M _ _ _ a1);obtain⟨m1,m2⟩:=kcom.M;have mpos:=(pV kprog.M).1;have yv:b8 (ah c 0)=aa:=by rw[e8]at m2;exact m2 _ (by rw[fy ag];exact jG _)
 have akY:=Co yv;have hlo:=z.M.lo;have alq:=z.M.lt;have s1:=awn (x:=.ac .held 1 (ay K)) z.M.work O;obtain⟨b,B,ak4,sX,mT,yr,CG⟩:∃(b:Nat) (B:List (List I)),cur=.arr b 0 (F B) (F B)/\k.V[b]?=J B.flatten/\gy (l.map Pr.val) B/\b≠N/\N+1<=b:=by
  rcases z.M.la with⟨j,-⟩|⟨-,j⟩
  .exfalso;rw[BK]at j;rw[j]at S;exact S O
  .exact j
 subst ak4;have OK:=z.M.NG;have W1:tV (k.put N (gP ep g f C T L (.ac .held 1 (ay K)) (.arr b 0 (F B) (F B)) 0 0)) N ep g f C T L (.ac .held 1 (ay K)) 0 0 c aq l:=
  ⟨⟨b,B,dy OK,by rw[cG yr];exact sX,mT⟩,A.M.2.2.1,by omega,⟨ag,by omega⟩,A.M.2.2.2.1,ktl.M,Js⟩
 have E1:Ext h (k.put N (gP ep g f C T L (.ac .held 1 (ay K)) (.arr b 0 (F B) (F B)) 0 0)):=z.M.ext.gg ag _;obtain⟨_,Hp,cp,xp,rfl⟩:=aqP 152 [.ptr (.box N) 0] [] (qx (ah c 0) aq l) _ L l A.M.2.2.2.2 ag (λj hq=>QJ (yW p.M j hq).2.2.2.2.1 (yW p.M j hq).2.2.2.2.2) (λj hq H' hX=>by have hm:=yW p.M j hq;obtain⟨_,H2,n1,n2,rfl⟩:=Z7 H' N ep g f C T L (.ac .held 1 (ay K)) 0 0 c aq l (W1.mono hX) j ⟨ag,by omega⟩ hm.2.2.2.2.1 hm.2.2.2.2.2;exact⟨H2,n1,n2⟩);have yB:l.foldl (λx j=>x*qx (ah c 0) aq l j%P) 1=jz (ah c 0) aq l:=rfl;rw[yB]at cp;have hpr:=Co (ub (aqh (c0:=ah c 0) (aq:=aq) p.M));have E2:=E1.trans xp;have W2:=W1.mono xp;obtain⟨b',o,w1,w2,w3⟩:=W2.p9;have OD:b'≠N:=by intro j;have z1:Hp.V[N]?=J (gP ep g f C T L (.ac .held 1 (ay K)) (.arr b 0 (F B) (F B)) 0 0):=xp.box _ _ (dy OK);rw[z1]at w1;unfold gP at w1;injection w1 with w1;simp only[List.cons.injEq,I.arr.injEq,true_and,and_true]at w1;omega
 have s2:=awq (n:=((jz (ah c 0) aq l:Nat):Int)) w1;have Xw:=(aU.1 w1).1;obtain⟨kt,st,Xa,gG⟩:=A.M.2.2.2.1;obtain⟨G,wJ⟩:∃G,Hp.put N (gP ep g f C T L (.ac .held 1 (ay K)) (.arr b' 0 (F o) (F o)) ((jz (ah c 0) aq l:Nat):Int) 0)=G:=⟨_,O⟩;have w5:G.V[N]?=J (gP ep g f C T L (.ac .held 1 (ay K)) (.arr b' 0 (F o) (F o)) ((jz (ah c 0) aq l:Nat):Int) 0):=by rw[<-wJ];exact dy Xw
 have E5:Ext h G:=by rw[<-wJ];exact E2.gg ag _
 have v5:G.V[b']?=J o.flatten:=by rw[<-wJ,cG OD];exact w2
 have sl:=ab2 ((jz (ah c 0) aq l:Nat):Int) (ah c 0) aq;have D:=Xg G Bo .aK 1 [.iface 3 ((jz (ah c 0) aq l:Nat):I),.iface 3 ((ah c 0:Int):I),.iface 60 (.ac kt st (bV aq))] [.int ((jz (ah c 0) aq l:Nat):Int),.int (ah c 0),.aq aq]
  (.cons (.int _ ⟨ag,by omega⟩) (.cons (.int _ ⟨ag,by omega⟩) (.cons (.aq kt st aq gG (by have:=ktl.M;omega)) .nil))) (λ_=>rfl) cB aZ (by simp[gc,gF]) (by have:=ktl.M;omega)
 have Xv:rX Bo (.ac [.int ((jz (ah c 0) aq l:Nat):Int),.int (ah c 0),.aq aq])=ef (ah c 0) aq l:=rfl;rw[Xv,<-Xa,show Bo=[115,105,103,110] from O]at D;simp only[dK,tT]at D;have lp:aF af Gt G 3 (.ptr (.box N) 11)=J ((jz (ah c 0) aq l:Nat):I):=di eu w5 O;have lC:aF af Gt G 23 (.ptr (.box N) 3)=J C:=di kC w5 O;obtain⟨kc,sc,hCe,hsc⟩:=A.M.2.2.1;have ixC:=A.M.2.2.1.ix (i:=0) ag;have lC0:=ev (H:=G) (l:=c) (i:=0) (s:=1) ag;have s3:=awp (n:=((ef (ah c 0) aq l:Nat):Int)) w5;have Y_:aj (Ext h (G.put N (gP ep g f C T L (.ac .held 1 (ay K)) (.arr b' 0 (F o) (F o)) ((jz (ah c 0) aq l:Nat):Int) ((ef (ah c 0) aq l:Nat):Int)))/\tV (G.put N (gP ep g f C T L (.ac .held 1 (ay K)) (.arr b' 0 (F o) (F o)) ((jz (ah c 0) aq l:Nat):Int) ((ef (ah c 0) aq l:Nat):Int))) N ep g f C T L (.ac .held 1 (ay K)) ((jz (ah c 0) aq l:Nat):Int) ((ef (ah c 0) aq l:Nat):Int) c aq l):=
  ⟨E5.gg ag _,⟨⟨b',o,dy (aU.1 w5).1,by rw[cG OD];exact v5,w3⟩,A.M.2.2.1,by omega,⟨ag,by omega⟩,A.M.2.2.2.1,ktl.M,Js⟩⟩
 have kyw:aj (IL (.ac .held 1 (ay K)) (fb U ae l)):=⟨by rw[kWt.M];exact⟨_,_,O,λ_=>rfl⟩⟩;have ix0:dM af 23 C (.v (.int .i64 0))=J (.elem 1 (ay c) 0 0):=ixC;clear W1 W2 E1 E2 E5 w1 w2 w3 v5 sl Xv yB xp sX mT yr CG OK Xw OD yv akY hpr mpos m1 m2 hlo alq Xa gG hCe hsc S a1 a2 ixC w5;generalize ((jz (ah c 0) aq l:Nat):Int)=ptv at *
 generalize ((ef (ah c 0) aq l:Nat):Int)=chv at *
 generalize ah c 0=c0 at *
 unfold im at *
 refine b_ @oS @kZ @ql @fw.{0} ?_;refine eI kL ax ?_;refine b_ @oS @mR @ql (au @F_ (au @P0 @UR)) ?_;exact⟨_,_,O,Y_.M.1,.inr ⟨d.M,_,_,O,kyw.M,Y_.M.2⟩⟩
def GL:Tryz.f37.results.toList=[.tmp 6,.tmp 7,.tmp 8,.tmp 9]:=ax
def RR:Tryz.f77.results.toList=[.cell 6 46,.tmp 7]:=ax
def atw:Tryz.f155.results.toList=[.tmp 3]:=ax
def aAv:Tryz.f156.results.toList=[.tmp 2]:=ax
def vd(c0:Int)(aq:List UInt8)(l:List Pr):List Int:=l.map λc=>((gK c0 aq l c.bC:Nat):Int)
def EV{c}{aq}(h:dA U ae ep c aq l=0):
 cE U ae=0/\F c=b7 U/\c.all b8=aa/\F l<=64/\F aq<=65536/\jY (-1) l=aa:=by
 unfold dA at h;split at h
 .rename_i j;exact absurd h j
 .rename_i f;split at h
  .simp at h
  .rename_i g;split at h
   .simp at h
   .rename_i k;split at h
    .simp at h
    .rename_i m;split at h
     .simp at h
     .rename_i i;have d:=(ada _).mp g;rw[ac9]at d;simp only[bR,decide_eq_true_eq]at d;have e:=(ada _).mp i;rw[ac9]at e;exact⟨Mm.1 f,d.1.2,d.2,by omega,by omega,e⟩
def af6(h:am)(y:cS h=aa)(ep:Int)(t u C T L:I)(U:List (List Int))(ae c:List Int)(aq:List UInt8)(l:List Pr)
 (B:RL t U) (D:IL u ae) (A:IL C c) (ht:BL T aq) (o:PL L l) (X:F c<=1000000) (fQ:F l<=1000000):
 ∃r h',W5.call 37 [.agg (aG ep t u C),T,L] h=J (r,h')/\
  ((dA U ae ep c aq l≠0/\r=.ret (.tuple [.ac .nil 0 [],.v (.int .i64 0),.v (.int .i64 0),((dA U ae ep c aq l:Int):I)]))∨
  (dA U ae ep c aq l=0/\∃Z,r=.ret (.tuple [Z,((jz (ah c 0) aq l:Nat):I),((ef (ah c 0) aq l:Nat):I),.v (.int .i64 0)])/\IL Z (vd (ah c 0) aq l))):=by
 have bx:=mV (ep:=ep) B D A;obtain⟨r1,h1,c1,x1,H⟩:=Nk (h.push (aG ep t u C)) y ep t u C T L U ae c aq l B D A ht o X fQ;have N:=aQ h (aG ep t u C);have l0:aF af Gt (h.push (aG ep t u C)) 27 (.ptr (.box (F h.V)) 0)=J (.agg (aG ep t u C)):=by rw[gt ax (by kernel_rfl:cN af 27=J 4) N (kj O)];rfl
 have kp:=aj.mk o;have ko:=aj.mk (x1.ok y);have kbo:=aj.mk (λp=>@EV l ep U ae c aq p);have ln2:=o.dp;clear B D A ht o N x1;generalize dA U ae ep c aq l=res at *
 refine cq O func37 O ?_;rcases H with⟨p,rfl⟩|⟨p,R,Wt,rfl,-,z1⟩
 .have kr:=aj.mk p;refine bB @GL @bG ?_;exact⟨_,_,O,.inl ⟨kr.M,O⟩⟩
 obtain⟨-,-,-,-,-,p6⟩:=kbo.M p;have kP:=aj.mk p6;have kW:=aj.mk z1;have kr:=aj.mk p;have Js:=z1.ll;obtain⟨b,vr,w1,-⟩:=z1.p9;clear p6 z1;subst p;refine bB @GL @bG ?_;refine bJ.gen λg d v fA eg=>?_;have f6:g.get 6=.ac .nil 0 []:=by rw[d];exact gS
 have f10:g.get 10=.ptr (.box R) 0:=by rw[d];exact gS
 have f23:g.get 23=L:=by rw[d];exact gS
 have f24:g.get 24=(F l:Nat):=by rw[d];exact gS
 have f25:g.get 25=(0:Nat):=by rw[d];exact gR
 have S:g.defers=[]:=by rw[v];exact gS
 clear d v fA eg c1 l0 w1;have kbl:aj (F (vd (ah c 0) aq l)=F l):=⟨by unfold vd;simp⟩;refine cK (λz3 z m=>∃(f:Nat) (z0:Tok) (q:Nat),f<=F l/\z3=F l-f/\aj (Gr h1 m z0)/\aj (q=1∨((vd (ah c 0) aq l).take f=[]/\z0=.nil))/\z.get 6=.ac z0 q (ay ((vd (ah c 0) aq l).take f))/\z.get 10=.ptr (.box R) 0/\z.get 23=L/\z.get 24=(F l:Nat)/\z.get 25=(f:Nat)/\z.defers=[]) ?_ (F l) _ _ ?_;rotate_left 1
 .exact⟨0,.nil,0,ck _,O,⟨Gr.nil (.refl _) ko.M⟩,⟨.inr ⟨O,O⟩⟩,f6,f10,f23,f24,f25,S⟩
 clear f6 f10 f23 f24 f25 S;rintro z3 z m ⟨f,z0,q,hi,rfl,G,k,g6,g10,g23,g24,g25,hd⟩;by_cases w:f<F l
 .obtain⟨i,e⟩:∃i,l[f]?=J i:=⟨_,aW w⟩;have hm:=yW kP.M i (dk e);have ix:=kp.M.ix w;have ld:=vI (H:=m) (s:=4) e;have st:=xq (H:=m) i;have zc:=zA;have l2:=vH (aQ m (bm i));obtain⟨_,H2,cb,rfl,rfl⟩:=Nn (m.push (bm i)) R ep t u C T L Wt _ _ c aq l ((kW.M.mono G.M.1).mono (.push _ _)) i ⟨ag,by omega⟩;have hv:(vd (ah c 0) aq l)[f]?=J ((gK (ah c 0) aq l i.bC:Nat):Int):=by unfold vd;rw[ek,e];rfl
  have j:=(G.M.push (bm i)).push (bm i);have ap:=sM (x:=((gK (ah c 0) aq l i.bC:Nat):Int)) (es:=(vd (ah c 0) aq l).take f) (by rw[dF];omega) k.M j.2.2;rw[<-fS hv]at ap;have kG3:=aj.mk j.app;have bl:=oA ((gK (ah c 0) aq l i.bC:Nat):Int);have iy:(f:Int)<(F l:Int):=by omega
  clear hv hm e j;generalize ((gK (ah c 0) aq l i.bC:Nat):Int)=bn at *
  unfold im at *
  refine br @GL ?_;exact⟨F l-(f+1),by omega,f+1,_,1,by omega,O,kG3,⟨.inl O⟩,by simp⟩
 .have Y:f=F l:=by omega
  subst Y;rw[gm (by rw[kbl.M];exact aT _)]at g6 k;obtain⟨b2,vr2,K,-⟩:=(kW.M.mono G.M.1).p9;have lp:aF af Gt m 3 (.ptr (.box R) 11)=J ((jz (ah c 0) aq l:Nat):I):=di eu K O;have lc:aF af Gt m 3 (.ptr (.box R) 12)=J ((ef (ah c 0) aq l:Nat):I):=di eu K O;clear K;generalize ((jz (ah c 0) aq l:Nat):Int)=ptv at *
  generalize ((ef (ah c 0) aq l:Nat):Int)=chv at *
  refine br @GL ?_;refine eI kL ax ?_;refine bB @GL @ql ?_;refine⟨_,_,O,.inr ⟨ba,_,O,z0,q,O,λp=>?_⟩⟩;rcases k.M with z2|⟨z2,-⟩
  .exact z2
  .exact absurd z2 p
def Kf(n):(I.v (.int .i64 n)).bL=J [((n:Int):I)]:=rfl
def aqS(r)(o):(I.ptr r o).bL=J [.ptr r o]:=rfl
section
open Tryz renaming func156->Q51
open YtcbhpkjbiehcpaaGreatDoor renaming aAv->Q52
def ao2(n)(h):W5.call 156 [im n] h=J (.ret (.v (.bool (oc n))),h):=ZS9
end
def amN(H)(b)(k)(c:H.V[b]?=J [((k:Int):I)])(q):∃H',W5.call 155 [.agg (bm q),.ptr (.box b) 0] H=J (.ret (.v (.bool (decide (q.bC=k)))),H')/\Ext H H':=by have d:(I.agg (bm q)).bL=J (bm q):=rfl;have e:aF af Gt (H.push (bm q)) 3 (.ptr (.box (F H.V)) 0)=J ((q.bC:Int):I):=di eu (aQ _ _) O;have f:aF af Gt (H.push (bm q)) 3 (.ptr (.box b) 0)=J ((k:Int):I):=di eu (aP c) O;refine ie O func155 O ?_;clear c;refine dL @atw @bG @jv ?_;exact⟨_,O,.push _ _⟩
def V8(h:am)(c:Nat)(cs:List I)(L:I)(l:List Pr)(d:Int)(g:List Int)(Z:I)(K:h.V[c]?=J cs)(k:cs[5]?=J L)(y:PL L l)(hl:F l<=1000000)(H:IL Z g)(rf:F g<=1000):
 ∃r h',W5.call 77 [.ptr (.box c) 0,((d:Int):I),Z] h=J (r,h')/\Ext h h'/\
  (((pG l d=ao∨g.all cA=ar)/\r=.ret (.tuple [.agg (bm ⟨0,0,0,0⟩),.v (.int .i64 1)]))∨∃q,pG l d=J q/\g.all cA=aa/\r=.ret (.tuple [.agg (bm q),.v (.int .i64 0)])):=by
 have zc:=zA;have D:((h.push [((d:Int):I)]).push (bm ⟨0,0,0,0⟩)).V[F h.V]?=J [((d:Int):I)]:=aP (aQ _ _);have v:((h.push [((d:Int):I)]).push (bm ⟨0,0,0,0⟩)).V[c]?=J cs:=aP (aP K);have E:=aQ (h.push [((d:Int):I)]) (bm ⟨0,0,0,0⟩);obtain⟨_,f,c1,p,C⟩:=ami 155 [.ptr (.box (F h.V)) 0] (λz2=>decide (z2.bC=d)) ((h.push [((d:Int):I)]).push (bm ⟨0,0,0,0⟩)) L l y hl (λq _ z0 hX=>amN z0 (F h.V) d (hX.box _ _ D) q);have l0:aF af Gt ((h.push [((d:Int):I)]).push (bm ⟨0,0,0,0⟩)) 32 (.ptr (.box c) 5)=J L:=di BV v k;have l1:aF af Gt f 32 (.ptr (.box c) 5)=J L:=di BV (p.box _ _ v) k;have i:=p.box _ _ E;have l2:=vH i;have Y:bU af f 46 (.ptr (.box (F (h.push [((d:Int):I)]).V)) 0) (.agg (bm ⟨0,0,0,0⟩))=J f:=by rw[e7 (off:=0) (xs:=bm ⟨0,0,0,0⟩) O xu i O (aT 4),vU O,jb i]
 have w:=IB (A:=DK) O O 156 [] oc f Z g H ag (λn _=>ao2 n _);have e:=Nc g;have X3:=aj.mk (((Ext.push h [((d:Int):I)]).trans (Ext.push _ (bm ⟨0,0,0,0⟩))).trans p);have t:=(aU.1 i).1;have u:∀q:Pr,bU af f 46 (.ptr (.box (F (h.push [((d:Int):I)]).V)) 0) (.agg (bm q))=J (f.put (F (h.push [((d:Int):I)]).V) (bm q))/\aF af Gt (f.put (F (h.push [((d:Int):I)]).V) (bm q)) 46 (.ptr (.box (F (h.push [((d:Int):I)]).V)) 0)=J (.agg (bm q)):=λq=>by refine⟨?_,vH (dy t)⟩;rw[e7 (off:=0) (xs:=bm q) O xu i O (aT 4)];rfl
 have G:∀q:Pr,Ext h (f.put (F (h.push [((d:Int):I)]).V) (bm q)):=λq=>X3.M.gg (by rw[bP];omega) _;have S:=aj.mk (au u G);rw[bP]at l2 Y;have kp:=aj.mk y;unfold pG;clear D v E K k i p H u G y t;refine cq O func77 O ?_;unfold im at *
 rcases C with⟨T,rfl⟩|⟨z1,q,rfl,o,X⟩
 .have B:=aj.mk T;clear T w;refine b_ @RR @bG @bP (au @ql @Kf) ?_;exact⟨_,_,O,X3.M,.inl ⟨.inl B.M,O⟩⟩
 .have B:=aj.mk (au o X);have N:=(aU.1 o).1;have ix:=kp.M.ix N;have ld:=vI (H:=f) (s:=4) o;have alB:decide (((z1:Nat):Int)<0)=ar:=cR ag;obtain⟨s1,s2⟩:=S.M.1 q;rw[bP]at s1 s2;have j:=S.M.2 q;rw[bP]at j;have R:=aj.mk j;clear j;clear o X;cases m:g.any oc with|true=>rw[m]at w e;have z:=aj.mk e;clear m e;refine b_ @RR @bG @bP (au @ql @Kf) ?_;exact⟨_,_,O,X3.M,.inl ⟨.inr z.M.symm,O⟩⟩|false=>rw[m]at w e;have z:=aj.mk e;clear m e;refine b_ @RR @bG @bP (au @ql @Kf) ?_;exact⟨_,_,O,R.M,.inr ⟨q,B.M.2,z.M.symm,O⟩⟩
def aog(k)(s)(es):(I.ac k s es).bL=J [.ac k s es]:=rfl
def atZ:Tryz.f78.results.toList=[.tmp 4]:=ax
def KQ:Tryz.f157.results.toList=[]:=ax
def at3:Tryz.f188.results.toList=[.tmp 2]:=ax
def aby:Tryz.f238.results.toList=[.tmp 4]:=ax
def eC(ae:List Int)(c:Int)(k:Nat):List Nat:=(bE k).filter λd=>decide (ah ae d=c)
def GH{c}(h:ah ae k=c):eC ae c (k+1)=eC ae c k++[k]:=by unfold eC;rw[jH,Ex,List.filter_cons_of_pos (by simp[h])];rfl
def Bl{c}(h:ah ae k≠c):eC ae c (k+1)=eC ae c k:=by unfold eC;rw[jH,Ex,List.filter_cons_of_neg (by simp[h])];simp
def KO(ae)(c):eC ae c (F ae)=iH ae c:=rfl
def atj(ae)(c)(k):F (eC ae c k)<=k:=by unfold eC;exact ff (xR _ _) cB
def abt(h:am)(c:Nat)(d:Int):W5.call 78 [.ptr (.box c) 0,((d:Int):I)] h=J (.ret (.func (.func 157) [] [.ptr (.box (F h.V)) 0,.ptr (.box (F h.V+1)) 0]),(h.push [.ptr (.box c) 0]).push [((d:Int):I)]):=by refine cX O func78 O ?_;exact jN @atZ @bG @bP (au @Kf @aqS)
def ZT43{p:Prop}(h:p:=by
 refine bB @KQ @B8 ?_;exact⟨F ae-(k+1),by omega,k+1,by omega,O,e,by simp⟩):p:=h
def abu(l v p c:Nat)(C:I)(ae:List Int)(d:Int)(Inv:Nat->am->Prop)(Stop:am->Prop)(u:IL C ae)(X:F ae<=1000000)
 (t:∀k H,Inv k H->H.V[v]?=J [.ptr (.box c) 0]/\H.V[p]?=J [((d:Int):I)]/\∃cs,H.V[c]?=J cs/\cs[2]?=J C)
 (z:∀k H,k<F ae->ah ae k=d->Inv k H->(∃H',W5.round l [((k:Nat):I)] H=J (.ret (aa:I),H')/\Inv (k+1) H')∨∃H',W5.round l [((k:Nat):I)] H=J (.ret (ar:I),H')/\Stop H')
 (A:∀k H,k<F ae->ah ae k≠d->Inv k H->Inv (k+1) H)
 (j:am) (r:Inv 0 j):∃H',W5.call 157 [.yield l,.ptr (.box v) 0,.ptr (.box p) 0] j=J (.ret (.tuple []),H')/\(Inv (F ae) H'∨Stop H'):=by
 have m:=aj.mk (au t (au z (au A (au r u))));obtain⟨w,-,cs,b3,b4⟩:=t 0 j r;have K:aF af Gt j 121 (.ptr (.box v) 0)=J (.ptr (.box c) 0):=di uY w O;have L:aF af Gt j 23 (.ptr (.box c) 2)=J C:=di kC b3 b4;have ln:=u.dp;clear t z A r u w b3 b4;refine ie O func157 O ?_;refine b_ @KQ @ql @kZ @ajf ?_;refine cK (λY q H=>∃k:Nat,k<=F ae/\Y=F ae-k/\aj (Inv k H)/\q.get 0=.yield l/\q.get 2=.ptr (.box p) 0/\q.get 11=C/\q.get 12=(F ae:Nat)/\q.get 13=(k:Nat)/\q.defers=[]) ?_ (F ae) _ _ ?_;rotate_left 1
 .refine⟨0,ck _,O,⟨m.M.2.2.2.1⟩,?_,?_,?_,?_,?_,?_⟩<;>exact gR
 clear K L;rintro Y q H ⟨k,hk,rfl,g,Z,g2,R,S,T,hd⟩;by_cases h:k<F ae;rotate_left 1
 .have:k=F ae:=by omega
  subst this;refine br @KQ ?_;exact⟨_,O,.inl g.M⟩
 obtain⟨-,y,-⟩:=m.M.1 k H g.M;have ix:=m.M.2.2.2.2.ix h;have ld:=ev (H:=H) (l:=ae) (i:=k) (s:=1) h;have lk:aF af Gt H 3 (.ptr (.box p) 0)=J ((d:Int):I):=di eu y O;have G:(k:Int)<(F ae:Int):=by omega
 clear y;by_cases f:ah ae k=d
 .have D:decide (ah ae k=d)=aa:=cy f;rcases m.M.2.1 k H h f g.M with⟨H',N,o⟩|⟨H',N,o⟩
  .have e:=aj.mk o;clear o f g;generalize ah ae k=B at *
   exact ZT43
  .have e:=aj.mk o;clear o f g;generalize ah ae k=B at *
   refine bB @KQ @B8 ?_;exact⟨_,O,.inr e.M⟩
 .have D:decide (ah ae k=d)=ar:=cR f;have e:=aj.mk (m.M.2.2.1 k H h f g.M);clear f g;generalize ah ae k=B at *
  exact ZT43
def En(h g:am)(d:Nat)(f:List iq)(ae:List Int)(c:Int)(k:Nat)(H:am):Prop:=
 ∃i j,H.aB=f/\H.V[d]?=J [.ac i j (ay (cH (eC ae c k)))]/\(j=1∨(eC ae c k=[]/\i=.nil))/\cY h.tn H i/\cS H=aa/\Ext h H/\∀(a:Nat) (e:List I),g.V[a]?=J e->a≠d->H.V[a]?=J e
def ae6(h:am)(eH:cS h=aa)(c w u:Nat)(z2:I)(ae:List Int)(d:Int)(cs:List I)(E:IL z2 ae)(AN:F ae<=1000000)(A:h.V[w]?=J [.ptr (.box c) 0])(B:h.V[u]?=J [((d:Int):I)])(b3:h.V[c]?=J cs)(b4:cs[2]?=J z2):
 ∃r h',W5.call 238 [.ac .nil 0 [],.func (.func 157) [] [.ptr (.box w) 0,.ptr (.box u) 0]] h=J (r,h')/\Ext h h'/\∃Z,r=.ret Z/\IL Z (cH (iH ae d)):=by
 refine cq O func238 O ?_;refine dL @aby @bG @aog ?_;refine bJ.gen λC p S uf ug=>?_;have f2:C.get 2=.ptr (.box (F h.V)) 0:=by rw[p];exact gS
 have f6:C.get 6=.func (.func 157) [] [.ptr (.box w) 0,.ptr (.box u) 0]:=by rw[p];exact gS
 have fd:C.defers=[]:=by rw[S];exact gS
 clear p S uf ug;refine Bn (by rw[yj];exact f6) λrec w1 w2 w3 w4 w5 w6=>?_;have AZ:=(aU.1 A).1;have T:=(aU.1 B).1;have R:=(aU.1 b3).1;obtain⟨e,f⟩:∃e,h.push [.ac .nil 0 []]=e:=⟨_,O⟩;have g0:e.V[F h.V]?=J [.ac .nil 0 []]:=by rw[<-f];exact aQ _ _
 have g1:e.V[w]?=J [.ptr (.box c) 0]:=by rw[<-f];exact aP A
 have g2:e.V[u]?=J [((d:Int):I)]:=by rw[<-f];exact aP B
 have g3:e.V[c]?=J cs:=by rw[<-f];exact aP b3
 have X:F e.aB=F h.aB:=by rw[<-f];rfl
 have k:cS e=aa:=by rw[<-f];exact eH
 have X1:Ext h e:=by rw[<-f];exact .push _ _
 have q:(e.loop rec).aB[F e.aB]?=J rec:=@Be e rec;have XL:Ext h (e.loop rec):=X1.trans ((Fr.yO (bn:=e.V.length) (l0:=e.aB.length) (n0:=e.tn) e rec).ext (aT _) (aT _) (aT _));rw[f];have feed:=abu (F e.aB) w u c z2 ae d (En h e (F h.V) (e.loop rec).aB ae d) (λ_=>False) E AN
  (λg z0 N=>by obtain⟨_,_,-,-,-,-,-,-,q7⟩:=N;exact⟨q7 _ _ g1 ag,q7 _ _ g2 ag,cs,q7 _ _ g3 ag,b4⟩)
  ?_
  (λg z0 _ H N=>by
   unfold En at *
   rw[Bl H];exact N)
  (e.loop rec) ⟨.nil,0,O,g0,.inr ⟨O,O⟩,.inl O,k,XL,λa cs ha _=>ha⟩
 rotate_left 1
 .rintro g z0 hk H ⟨j,z1,l,m,s,t,K,o,L⟩;left;have sZ:z0.aB[F e.aB]?=J rec:=by rw[l];exact q
  refine GG (Post:=En h e (F h.V) (e.loop rec).aB ae d (g+1)) sZ (by rw[w2];rfl) w5 w6 ?_;have r1:∀j,(mG (F e.aB) rec [((g:Nat):I)]).get j=if 7=j then ((g:Nat):I) else C.get j:=λj=>abr w2 w1
  have d1:(mG (F e.aB) rec [((g:Nat):I)]).defers=[]:=rfl;obtain⟨y,G⟩:∃y,z0.busy (F e.aB) rec=y:=⟨_,O⟩;have v:y.V[F h.V]?=J [.ac j z1 (ay (cH (eC ae d g)))]:=by rw[<-G];exact m
  have kc1:cY h.tn y j:=by rw[<-G];exact t
  have nZ:F (cH (eC ae d g))<=g:=by unfold cH;rw[bI];exact atj _ _ _
  have ap:=sM (x:=(g:Int)) (es:=cH (eC ae d g)) ag (s.imp_right λN=>⟨by rw[N.1];rfl,N.2⟩) kc1;have gG:cH (eC ae d g)++[(g:Int)]=cH (eC ae d (g+1)):=by rw[GH H];unfold cH;simp
  rw[gG]at ap;have lA:=tw v;have sA:bU af (y.app j) 23 (.ptr (.box (F h.V)) 0) (.ac (.free y.tn) 1 (ay (cH (eC ae d (g+1)))))=J ((y.app j).put (F h.V) [.ac (.free y.tn) 1 (ay (cH (eC ae d (g+1))))]):=
   e7 (off:=0) (cs:=[.ac j z1 (ay (cH (eC ae d g)))]) (xs:=[.ac (.free y.tn) 1 (ay (cH (eC ae d (g+1))))]) O g_ (by rw[dC];exact v) O (aT 1)
  have bl:=oA (g:Int);have D:=Grown.one t K o.tn;have i:aj (En h e (F h.V) (e.loop rec).aB ae d (g+1) ((z0.app j).put (F h.V) [.ac (.free z0.tn) 1 (ay (cH (eC ae d (g+1))))])):=by
   have AJ:=(aU.1 m).1;refine⟨_,1,?_,?_,.inl O,by rw[vh];exact D.can,D.ok,(D.ext o (aT _)).gg (aT _) _,λa cs ha Y=>?_⟩
   .show(z0.app j).aB=_;rw[uZ];exact l
   .exact dy (by rw[dC];exact AJ)
   .rw[cG Y,dC];exact L a cs ha Y
  clear l m s t K o L D gG nZ H v kc1 g0 g1 g2 g3 X1 XL k X AZ T R A B b3 f;rw[G];rw[w3,w4];refine wH ?_;refine⟨ba,ba,ba,?_,?_⟩
  .show(y.app j).aB=_;rw[uZ]
  .rw[<-G];refine(congrArg (En h e (F h.V) (e.loop rec).aB ae d (g+1)) ?_).mpr i.M;cases j<;>rfl
 .obtain⟨Hf,c1,⟨j,z1,l,m,s,t,K,o,L⟩|z⟩:=feed;rotate_left 1
  .exact z.elim
  refine⟨_,_,c1,rec,by rw[l];exact q,by rw[w5];decide,.inl ⟨w6,?_⟩⟩;have q1:(Hf.eM (F e.aB) {rec with state:=.exhausted}).V[F h.V]?=J [.ac j z1 (ay (cH (eC ae d (F ae))))]:=m;have XF:Ext h (Hf.eM (F e.aB) {rec with state:=.exhausted}):=((Fr.Bh (bn:=h.V.length) (l0:=h.aB.length) (n0:=h.tn) o (aT _)).trans (.eM ag _)).ext (aT _) (aT _) (aT _);generalize Hf.eM (F e.aB) {rec with state:=.exhausted}=HF at *
  have lA:=tw q1;have i:=aj.mk (au XF s);clear q1 XF l m s t K o L c1 g0 g1 g2 g3 X1 XL k X AZ T R A B b3 q w1 w2 w3 w4 w5 w6 f;refine br @aby ?_;refine⟨_,_,O,i.M.1,_,O,j,z1,by rw[KO],λN=>?_⟩;rcases i.M.2 with z|⟨z,-⟩
  .exact z
  .exfalso;rw[KO]at z;rw[z]at N;exact N rfl
def ahS(h)(k:cS h=aa)(c f e)(p)(ae)(d)(cs)(m:IL p ae)(l:F ae<=1000000)(g:h.V[f]?=J [.ptr (.box c) 0])(i:h.V[e]?=J [((d:Int):I)])(b3:h.V[c]?=J cs)(b4:cs[2]?=J p):
 ∃r h',W5.call 188 [.func (.func 157) [] [.ptr (.box f) 0,.ptr (.box e) 0]] h=J (r,h')/\Ext h h'/\∃Z,r=.ret Z/\IL Z (cH (iH ae d)):=by
 obtain⟨_,h',s,q,Z,rfl,j⟩:=ae6 h k c f e p ae d cs m l g i b3 b4;have o:=aj.mk (au q j);clear q j g i b3 b4 m;refine cq O func188 O ?_;refine br @at3 ?_;exact⟨_,_,O,o.M.1,_,O,o.M.2⟩
def abI:Tryz.f186.results.toList=[.tmp 4]:=ax
def GU:Tryz.f127.results.toList=[.tmp 10,.tmp 11]:=ax
def acY:(fY af 121).bind I.bL=J [.v (.pointer ao)]:=ax
def Su(c):bU af (H.push [.v (.pointer ao)]) 121 (.ptr (.box (F H.V)) 0) (.ptr (.box c) 0)=J (H.push [.ptr (.box c) 0]):=jC O ax O rfl
def ux(U:List (List Int))(c W:List Int)(d:Int)(row:Int):Nat:=bZ (mE c (U.getD row.toNat [])) (ah W row.toNat*d)
def Rm{c row}(h:c.all b8=aa):elem (mE c row)=aa:=Rl h _ (aT _)
def aqB(x)(a b):bZ x (cO a b)=bZ x (a*b):=Gv (by rw[rR,Int.emod_emod_of_dvd _ (Int.dvd_refl _)])
def aqT(H:am)(j r c:Nat)(ep:Int)(t u C T L o:I)(pt e:Int)(U:List (List Int))(ae d W:List Int)(aq:List UInt8)(l:List Pr)
 (B:RL t U) (D:IL u ae) (y:IL C d) (v:IL o W) (z:F d<=1000000) (f:iC U ae d=0) (yH:F W=F U)
 (p:H.V[j]?=J (aG ep t u C)) (G:H.V[r]?=J [.ptr (.box c) 0]) (w:tV H c ep t u C T L o pt e d aq l) (row:Nat) (S:row<F U):
 ∃H',W5.call 186 [im (row:Nat),.ptr (.box j) 0,.ptr (.box r) 0] H=J (.ret (im (ux U d W e (row:Nat):Nat)),H')/\Ext H H':=by
 obtain⟨_,h,N,rfl,k⟩:=aaW H t u C U ae d B D y z (row:Nat);obtain⟨Y,Z,K⟩:=Vo f;have g:ss U ae d (row:Nat)=(((mE d (U.getD row []):Nat):Int),0):=by unfold ss;rw[aL (by simp[f]),aL (by rw[cR (show ¬((row:Nat):Int)<0 by omega),cR (show ¬(F U:Int)<=((row:Nat):Int) by omega)];simp),eD]
 rw[g]at N;have l1:aF af Gt H 25 (.ptr (.box j) 1)=J (.agg [t,u]):=by rw[gt BU (by kernel_rfl:cN af 25=J 2) p (kj O)];rfl
 have l2:aF af Gt H 23 (.ptr (.box j) 3)=J C:=di kC p O;have l3:aF af Gt h 121 (.ptr (.box r) 0)=J (.ptr (.box c) 0):=di uY (k.box _ _ G) O;obtain⟨b,vr,q,-⟩:=(w.mono k).p9;have l4:aF af Gt h 23 (.ptr (.box c) 6)=J o:=di kC q O;have l5:aF af Gt h 3 (.ptr (.box c) 12)=J ((e:Int):I):=di eu q O;have ix:=v.ix (i:=row) ag;have l6:=ev (H:=h) (l:=W) (i:=row) (s:=1) ag;have c2:=Kb (ah W row) e;have A:=ub (Rm (row:=U.getD row []) K);have R:=Gx ((mE d (U.getD row []):Nat):Int) (cO (ah W row) e);rw[rU A,eD,aqB]at R;have m:ux U d W e (row:Nat)=bZ (mE d (U.getD row [])) (ah W row*e):=by unfold ux;rw[eD]
 rw[m];have X:=aj.mk k;clear g m A k w q p G B D y v f Y Z K;generalize ((bZ (mE d (U.getD row [])) (ah W row*e):Nat):Int)=res at *
 generalize cO (ah W row) e=z0 at *
 generalize ((mE d (U.getD row []):Nat):Int)=pv at *
 generalize ah W row=wr at *
 unfold im at *
 refine ie O func186 O ?_;refine dL @abI @kZ @mR ?_;refine eI kL ax ?_;refine bB @abI @ql ?_;exact⟨_,O,X.M⟩
def acS{c}{aq}(h:dA U ae ep c aq l=0):
 ∃y,fg U ae (l.map Pr.bC)=(y,aa,0)/\fb U ae l=y/\F y=F U:=by
 have e:=h;unfold dA at h;rw[aL (by simp[(EV e).1])]at h;split at h
 .simp at h
 .split at h
  .simp at h
  .split at h
   .simp at h
   .split at h
    .simp at h
    .cases d:fg U ae (l.map Pr.bC) with
     |mk y f=>
      obtain⟨m,k⟩:=f;rw[d]at h;simp only at h;split at h
      .simp at h
      .rename_i j;simp only[not_or,Mm,Bool.not_eq_false]at j;obtain⟨g,i,-⟩:=j;subst g;subst i;exact⟨y,O,by unfold fb;rw[d],(wt d).2.2.1⟩
def oP(U:List (List Int))(ae:List Int)(ep:Int)(c:List Int)(aq:List UInt8)(l:List Pr)(d z:Int):Bool × Int:=
 if dA U ae ep c aq l≠0 then (ar,dA U ae ep c aq l) else ym U ae c aq l d z
def abO(c o):df (.ptr (.box c) o) (.ptr (.box c) o)=aa:=by rw[df,Lm,ad5,ad5];rfl
def aav{c}{q}(h:pG l c=J q):q∈l/\q.bC=c:=by unfold pG at h;refine⟨List.mem_of_find?_eq_some h,?_⟩;have:=List.find?_some h;simpa using this
def Wj(f:Int->Nat):∀(l:List Nat) (k:Nat),(cH l).foldl (λx q=>x*f q%P) k=l.foldl (λx i=>x*f ((i:Nat):Int)%P) k
 | [],_=>rfl
 |a::l,k=>Wj f l _
def ajp(h:am)(eH:cS h=aa)(ep:Int)(G D C T L:I)(U:List (List Int))(ae c:List Int)(aq:List UInt8)(l:List Pr)(d z:Int)
 (hx:RL G U) (E:IL D ae) (hc:IL C c) (ht:BL T aq) (A:PL L l) (fj:F c<=1000000) (fQ:F l<=1000000):
 ∃r h',W5.call 127 [.agg (aG ep G D C),T,L,im d,im z] h=J (r,h')/\r=.ret (.tuple [.v (.bool (oP U ae ep c aq l d z).1),im (oP U ae ep c aq l d z).2]):=by
 have bx:=mV (ep:=ep) hx E hc;obtain⟨r1,e,c1,x1,k⟩:=Nk (h.push (aG ep G D C)) eH ep G D C T L U ae c aq l hx E hc ht A fj fQ;have b0:=aQ h (aG ep G D C);have l0:aF af Gt (h.push (aG ep G D C)) 27 (.ptr (.box (F h.V)) 0)=J (.agg (aG ep G D C)):=by rw[gt ax (by kernel_rfl:cN af 27=J 4) b0 (kj O)];rfl
 have s:aj (dA U ae ep c aq l≠0->oP U ae ep c aq l d z=(ar,dA U ae ep c aq l)):=⟨λq=>by unfold oP;rw[aC q]⟩;have t:aj (dA U ae ep c aq l=0->oP U ae ep c aq l d z=ym U ae c aq l d z):=⟨λq=>by unfold oP;rw[aL (by simp[q])]⟩;have u:=aj.mk (λq=>@EV l ep U ae c aq q);have w:=aj.mk (λq=>@acS l ep U ae c aq q);have zc:=acY;have zp:=zA;have kf:=aj.mk (au hx (au E (au hc A)));have g1:=x1.box _ _ b0;have i:=x1.ok eH;generalize oP U ae ep c aq l d z=res at *
 generalize dA U ae ep c aq l=be at *
 clear hx E hc ht A b0 x1;refine cq O func127 O ?_;rcases k with⟨q,rfl⟩|⟨q,f,Wt,rfl,rW,z1⟩
 .have B:=aj.mk (s.M q);have st:=Su (H:=e);have stn:bU af (e.push [.v (.pointer ao)]) 121 (.ptr (.box (F e.V)) 0) (.v (.pointer ao))=J (e.push [.v (.pointer ao)]):=jC O ax O O;clear s t u w g1 i;unfold im at *
  refine bB @GU @bG ?_;exact⟨_,_,O,by rw[B.M]⟩
 obtain⟨p1,p2,p3,p4,p5,p6⟩:=u.M q;obtain⟨z4,a1,a2,a3⟩:=w.M q;have j:=t.M q;subst q;have st:=Su (H:=e) f;have g2:(e.push [.ptr (.box f) 0]).V[F h.V]?=J (aG ep G D C):=aP g1;have g3:=aQ e [I.ptr (.box f) 0];have w2:=z1.mono (.push e [.ptr (.box f) 0]);obtain⟨b,vr,w3,-⟩:=w2.p9;obtain⟨_,h4,c2,x4,k⟩:=V8 (e.push [.ptr (.box f) 0]) f _ L l d [z] (.ac .aK 1 [[((z:Int):I)]]) w3 O kf.M.2.2.2 fQ (JY z) cB;rw[(cB:[z].all cA=cA z)]at k;have l1:aF af Gt (e.push [.ptr (.box f) 0]) 121 (.ptr (.box (F e.V)) 0)=J (.ptr (.box f) 0):=di uY g3 O;have bl:=oA z;have H:aj (pG l d=ao∨cA z=ar->ym U ae c aq l d z=(ar,1)):=⟨λq=>by
  unfold ym;cases hpo:pG l d with
  |none=>rfl|some x=>
   rcases q with q|q
   .rw[hpo]at q;cases q
   .simp only[q];rfl⟩
 have K:aj (∀x,pG l d=J x->cA z=aa->ym U ae c aq l d z=(decide (bZ Gn z=vY U ae c aq l x),0)):=⟨λx q1 q2=>by unfold ym;rw[q1];simp only[q2];rfl⟩;clear w3;rcases k with⟨q,rfl⟩|⟨x,q1,q2,rfl⟩
 .have B:=aj.mk (j.trans (H.M q));have sq:=xq (H:=h4) ⟨0,0,0,0⟩;clear s t u w g1 g2 g3 z1 w2 i H K j a1 a2 a3 q p1 p2 p3 p6 x4;unfold im at *
  refine bB @GU @bG ?_;exact⟨_,_,O,by rw[B.M]⟩
 have B:=aj.mk (j.trans (K.M x q1 q2));obtain⟨gH,tq⟩:=aav q1;have S:=yW p6 x gH;have X:=x4.ok (show cS (e.push [.ptr (.box f) 0])=aa from i);have sq:=xq (H:=h4) x;obtain⟨g,R⟩:∃g,h4.push (bm x)=g:=⟨_,O⟩;have X5:Ext (e.push [.ptr (.box f) 0]) g:=by rw[<-R];exact x4.trans (.push _ _)
 have Y:cS g=aa:=by rw[<-R];exact X
 have k5:g.V[F h.V]?=J (aG ep G D C):=X5.box _ _ g2;have m5:g.V[F e.V]?=J [.ptr (.box f) 0]:=X5.box _ _ g3;have o:=w2.mono X5;have q5:g.V[F h4.V]?=J (bm x):=by rw[<-R];exact aQ _ _
 have lp5:=vH q5;have lw5:aF af Gt g 121 (.ptr (.box (F e.V)) 0)=J (.ptr (.box f) 0):=di uY m5 O;obtain⟨_,y,c3,x6,rfl⟩:=Z7 g f ep G D C T L Wt _ _ c aq l o x ⟨ag,by omega⟩ S.2.2.2.2.1 S.2.2.2.2.2;have Z:=x6.ok Y;have m6:=x6.box _ _ m5;have lw6:aF af Gt y 121 (.ptr (.box (F e.V)) 0)=J (.ptr (.box f) 0):=di uY m6 O;have c4:=abt y f d;have W6':=o.mono x6;obtain⟨b6,vr6,w6,-⟩:=W6'.p9;have Ya:cS ((y.push [.ptr (.box f) 0]).push [((d:Int):I)])=aa:=Z;obtain⟨_,h8,c5,x8,z2,rfl,hZ⟩:=ahS ((y.push [.ptr (.box f) 0]).push [((d:Int):I)]) Ya f (F y.V) (F y.V+1) D ae d _ kf.M.2.1 (by obtain⟨o1,o2,-⟩:=oj p1;omega)
  (aP (aQ _ _)) (np (by rw[bP])) (aP (aP w6)) O
 have X8:Ext g h8:=x6.trans (((Ext.push _ _).trans (.push _ _)).trans x8);have N:iC U ae c=0:=by unfold iC;rw[aL (by simp[p1]),aC (by rw[cy p2,p3];rfl)]
 obtain⟨o1,o2,o3,o4⟩:=oj p1;have lT:∀q∈cH (iH ae d),∃m:Nat,q=(m:Int)/\m<F U:=λq hq=>by unfold cH at hq;obtain⟨m,hi,rfl⟩:=iW.1 hq;unfold iH at hi;exact⟨m,O,by rw[o1];exact gb.1 (rH.1 hi).1⟩
 have tt:F (cH (iH ae d))<=1000000:=by unfold cH iH;rw[bI];exact ff (xR _ _) (by rw[ME];omega)
 obtain⟨_,h9,c6,x9,rfl⟩:=aqR 186 [] [.ptr (.box (F h.V)) 0,.ptr (.box (F e.V)) 0] (ux U c (fb U ae l) ((ef (ah c 0) aq l:Nat):Int)) h8 z2 (cH (iH ae d)) hZ tt
  (λq hq=>by unfold ux;exact y9 (Rm p3) _)
  (λq hq z0 hH=>by obtain⟨m,rfl,hi⟩:=lT q hq;exact aqT z0 (F h.V) (F e.V) f ep G D C T L Wt _ _ U ae c (fb U ae l) aq l kf.M.1 kf.M.2.1 kf.M.2.2.1 rW fj N (by rw[a2];exact a3) ((X8.trans hH).box _ _ k5) ((X8.trans hH).box _ _ m5) (o.mono (X8.trans hH)) m hi)
 rw[Wj]at c6;have hN:=QJ (c0:=ah c 0) (aq:=aq) (l:=l) S.2.2.2.2.1 S.2.2.2.2.2;have hF:elem ((iH ae d).foldl (λx m=>x*ux U c (fb U ae l) ((ef (ah c 0) aq l:Nat):Int) ((m:Nat):Int)%P) 1)=aa:=Gy (λm _=>by unfold ux;exact y9 (Rm p3) _) Cp;have c7:=Cy ((qx (ah c 0) aq l x:Nat):Int) (((iH ae d).foldl (λx m=>x*ux U c (fb U ae l) ((ef (ah c 0) aq l:Nat):Int) ((m:Nat):Int)%P) 1:Nat):Int);have p:qx (ah c 0) aq l x*((iH ae d).foldl (λx m=>x*ux U c (fb U ae l) ((ef (ah c 0) aq l:Nat):Int) ((m:Nat):Int)%P) 1)%P=vY U ae c aq l x:=by unfold vY ux;rw[tq];simp only[eD]
 rw[Oe hN hF,p]at c7;have c8:=Gx 4 z;have hG:(4:Int).toNat=Gn:=rfl;rw[rU sS,hG]at c8;have hd:decide (bZ Gn z=vY U ae c aq l x)=decide (((bZ Gn z:Nat):Int)=((vY U ae c aq l x:Nat):Int)):=by rw[decide_eq_decide];omega
 rw[hd]at B;clear s t u w H K j a1 a2 a3 p1 p2 p3 p6 x4 X5 i X Y Z Ya g1 g2 g3 z1 w2 o W6' w6 k5 m5 q5 m6 x6 x8 X8 x9 hZ N o1 o2 o3 o4 lT tt hN hF p hG hd S gH tq q1 q2 rW;generalize ((vY U ae c aq l x:Nat):Int)=wv at *
 generalize ((bZ Gn z:Nat):Int)=pz at *
 generalize ((qx (ah c 0) aq l x:Nat):Int)=nv at *
 generalize (((iH ae d).foldl (λx m=>x*ux U c (fb U ae l) ((ef (ah c 0) aq l:Nat):Int) ((m:Nat):Int)%P) 1:Nat):Int)=fv at *
 unfold im at *
 refine bB @GU @bG ?_;refine jB [(2,3)] kL ax (λz3 A=>?_) ?_
 .simp only[js]at A;subst A;refine pM (x:=.ptr (.box (F e.V)) 0) (v:=.ptr (.box f) 0) ax O O O ax (abO f 0) ?_ ?_<;>(simp only[fe,eE];exact f_ @GU @and_self)
 refine br @GU ?_;exact⟨_,_,O,by rw[B.M]⟩
def mb:Tryz.f30.results.toList=[.cell 14 3,.cell 15 39]:=ax
def atk(ae)(c):∀{n:Nat},k<=n->∃t,eC ae c n=eC ae c k++t:=by
 intro n
 induction n with
 |zero=>intro i;exact⟨[],by rw[(ag:k=0)];simp⟩
 |succ n g=>
  intro i;rcases dR n k with h|d
  .exact⟨[],by rw[(ag:k=n+1)];simp⟩
  .obtain⟨t,f⟩:=g d;by_cases e:ah ae n=c
   .exact⟨t++[n],by rw[GH e,f,jq]⟩
   .exact⟨t,by rw[Bl e,f]⟩
def apx{d}{c}(h:l_ U ae d c s=aa)(m:k<F ae)(l:ah ae k=c):
 ∃p,s[F (eC ae c k)]?=J p/\p.1=((k:Nat):Int)/\Bp U d p=aa:=by
 unfold l_ at h;rw[bR,decide_eq_true_eq]at h;obtain⟨j,g⟩:=h;obtain⟨o,i⟩:=atk ae c (ag:k+1<=F ae);rw[KO,GH l]at i;have e:(s.map ju)[F (eC ae c k)]?=J ((k:Nat):Int):=by rw[j,i,ek,jq,List.getElem?_append_right (aT _),Nat.sub_self];rfl
 rw[ek]at e;cases f:s[F (eC ae c k)]? with
 |none=>rw[f]at e;cases e
 |some p=>rw[f]at e;injection e with e;rw[e8]at g;exact⟨p,O,e,g p (dk f)⟩
def G_(c:H.V[b]?=J [x]):bU af H 3 (.ptr (.box b) 0) ((n:Int):I)=J (H.put b [((n:Int):I)]):=e7 (off:=0) (cs:=[x]) (xs:=[((n:Int):I)]) O eQ c O (aT 1)
def Na:fR af 72=J ar:=ax
def G9(c:H.V[b]?=J [x]):bU af H 39 (.ptr (.box b) 0) ((n:Int):I)=J (H.put b [((n:Int):I)]):=e7 (off:=0) (cs:=[x]) (xs:=[((n:Int):I)]) O He c O (aT 1)
def ayc:(fY af 3).bind I.bL=J [.v (.int .i64 0)]:=ax
def aya:(fY af 39).bind I.bL=J [.v (.int .i64 0)]:=ax
def axW{y}{i}{p}(h:s[i]?=J p):jT y (s.take (i+1))=cV (jT y (s.take i)) (cO (ah y p.1.toNat) p.2):=by unfold jT;rw[fS h,nJ];rfl
def SL.ix{l}(h:SL x l){i}(hi:i<F l):dM af 72 x ((i:Nat):I)=J (.elem 2 (bD l) i 0):=by obtain⟨e,g,rfl,d⟩:=h;have c:g=2:=d (by intro f;rw[f]at hi;simp at hi);subst c;have:=bh (k:=e) (kk:=.i64) (es:=bD l) (a:=((i:Nat):Int)) underlying72 Hi ag (by rw[uF];omega);rw[this,eD]
def SL.dp{l}(h:SL x l):dp af 72 x=J ((F l:Nat):I):=by obtain⟨d,e,rfl,-⟩:=h;have c:=underlying72;unfold Go.AE.dp;rw[c];simp only[uF]
def SL.bL{l}(h:SL x l):x.bL=J [x]:=by obtain⟨c,d,rfl,-⟩:=h;rfl
structure EE(Hb:am)(li:Nat)(rec:iq)(acC ib zb eb:Nat)(U:List (List Int))(ae aH W:List Int)(bC:Int)(s:List (Int × Int))(k:Nat)(H:am):Prop where
 lp:H.aB[li]?=J rec
 fM:∀(a:Nat) (cs:List I),Hb.V[a]?=J cs->a≠acC->a≠ib->H.V[a]?=J cs
 sum:H.V[acC]?=J [((jT W (s.take (eC ae bC k).length):Int):I)]
 ix:H.V[ib]?=J [(((eC ae bC k).length:Nat):I)]
 le:(eC ae bC k).length<=s.length
 same:(s.take (eC ae bC k).length).map ju=(eC ae bC k).map λ(i:Nat)=>(i:Int)
 ok:(s.take (eC ae bC k).length).all (Bp U aH)=aa
structure EF(li:Nat)(rec:iq)(zb eb:Nat)(H:am):Prop where
 lp:H.aB[li]?=J {rec with state:=.done,pending:=J .ret}
 z:H.V[zb]?=J [.v (.int .i64 0)]
 e:H.V[eb]?=J [.v (.int .i64 340)]
def ahz{c}(d:cE U ae=0)(e:F c=b7 U)(f:c.all b8=aa):iC U ae c=0:=by unfold iC;rw[aL (by simp[d]),aC (by rw[cy e,f];rfl)]
def aju{c}(e:iC U ae c=0){v}(g:k<F U):
 (Bp U c (((k:Nat):Int),v)=aa/\rQ U ae c (((k:Nat):Int),v)=(aa,0))∨(Bp U c (((k:Nat):Int),v)=ar/\(rQ U ae c (((k:Nat):Int),v)=(ar,340)∨rQ U ae c (((k:Nat):Int),v)=(ar,0))):=by
 have f:uD U (((k:Nat):Int),v)=cA v:=by unfold uD;rw[cy (show(0:Int)<=((k:Nat):Int) by omega),cy (show((k:Nat):Int)<(F U:Int) by omega)];rfl
 unfold Bp rQ;rw[aL (by simp[e]),f];simp only[eD];cases h:cA v with
 |false=>exact .inr ⟨O,.inl O⟩|true=>
  by_cases d:bZ Gn v=mE c (U.getD k [])
  .left;rw[cy d];exact⟨O,O⟩
  .right;rw[cR d];exact⟨O,.inr O⟩
def Ak{Hx}{zb eb}(f:Hx.V[zb]?=J [x])(d:Hx.V[eb]?=J [y])(c:zb≠eb)(n m):
 bU af Hx 3 (.ptr (.box zb) 0) ((n:Int):I)=J (Hx.put zb [((n:Int):I)])/\aF af Gt Hx 39 (.ptr (.box eb) 0)=J y/\aF af Gt (Hx.put zb [((n:Int):I)]) 39 (.ptr (.box eb) 0)=J y/\
  bU af (Hx.put zb [((n:Int):I)]) 39 (.ptr (.box eb) 0) ((m:Int):I)=J ((Hx.put zb [((n:Int):I)]).put eb [((m:Int):I)])/\
  aF af Gt ((Hx.put zb [((n:Int):I)]).put eb [((m:Int):I)]) 3 (.ptr (.box zb) 0)=J ((n:Int):I)/\aF af Gt ((Hx.put zb [((n:Int):I)]).put eb [((m:Int):I)]) 39 (.ptr (.box eb) 0)=J ((m:Int):I):=by
 have g:=(aU.1 f).1;have e:=(aU.1 d).1;have j:(Hx.put zb [I.v (.int .i64 n)]).V[eb]?=J [y]:=by rw[cG (Ne.symm c)];exact d
 have h:((Hx.put zb [I.v (.int .i64 n)]).put eb [I.v (.int .i64 m)]).V[zb]?=J [((n:Int):I)]:=by rw[cG c];exact dy g
 have i:((Hx.put zb [I.v (.int .i64 n)]).put eb [I.v (.int .i64 m)]).V[eb]?=J [((m:Int):I)]:=dy (by rw[jA];exact e);exact⟨G_ f,di ww d O,di ww j O,G9 j,di eu h O,di ww i O⟩
def nx(U:List (List Int))(ae:List Int)(ep:Int)(c:List Int)(aq:List UInt8)(l:List Pr)(e:Int)(s:List (Int × Int))(d f:Int):Int × Int:=
 if dA U ae ep c aq l≠0 then (0,dA U ae ep c aq l) else yP U ae c aq l e s d f
def aoo{e}{aq}{c}{d}(h:pG l c=ao∨[d,f].all cA=ar):yP U ae e aq l c s d f=(0,1):=by
 unfold yP;cases g:pG l c with
 |none=>rfl|some x=>
  rcases h with q|q
  .rw[g]at q;cases q
  .have:(cA d&&cA f)=ar:=(by simpa using q);simp only[this];rfl
def aoq{c}{aq}{e}{d}{x}(h:pG l e=J x)(g:[d,f].all cA=aa):yP U ae c aq l e s d f=
 if l_ U ae c e s=ar then (0,340) else if ¬((bZ Gn d:Nat):Int)=x.d∨¬((bZ Gn f:Nat):Int)=x.e then (0,420)
 else (cV (cV d (cO f (gK (ah c 0) aq l e))) (cO (ef (ah c 0) aq l) (jT (fb U ae l) s)),0):=by
 unfold yP;have:(cA d&&cA f)=aa:=by simpa using g
 rw[h];simp only[this];cases l_ U ae c e s<;>rfl
def agh(a b):fF af 23 2 [(0,((a:Int):I)),(1,((b:Int):I))]=J (.ac .aK 1 (ay [a,b])):=ax
def ZT26{p:Prop}(h:p:=by
 rw[fo]at cf;clear fo;generalize F (eC ae c y)=zh at *
 refine dL @Cs @kZ @mR ?_;refine⟨ba,ba,?_⟩;refine eI kL ax ?_;refine dL @Cs @kZ @mR ?_;exact Y.M):p:=h
def ZT6{p:Prop}(h:p:=by
 simp only[js]at p;subst p;refine avT (x:=.ptr (.box pb) 3) (v:=((x.e:Int):I)) ax O O ax (by simp[df,ip]) ?_ ?_
 .simp only[fe,eE];refine bB @mb @jv ?_;refine⟨by trivial,?_,by trivial,by trivial⟩;simp[fC,Sk]
 .simp only[fe,eE];exact qm @mb @jv @and_self):p:=h
def aoj(h:am)(eH:cS h=aa)(ep:Int)(ze z9 C T L zg:I)(U:List (List Int))(ae e:List Int)(aq:List UInt8)(l:List Pr)(s:List (Int × Int))(c d f:Int)
 (hx:RL ze U) (E:IL z9 ae) (hc:IL C e) (ht:BL T aq) (p:PL L l) (hs:SL zg s) (fj:F e<=1000000) (fQ:F l<=1000000) (oE:F s<=1000000):
 ∃r h',W5.call 30 [.agg (aG ep ze z9 C),T,L,((c:Int):I),zg,((d:Int):I),((f:Int):I)] h=J (r,h')/\r=.ret (.tuple [(((nx U ae ep e aq l c s d f).1:Int):I),(((nx U ae ep e aq l c s d f).2:Int):I)]):=by
 have bx:=mV (ep:=ep) hx E hc;have bS:=hs.bL;have zc:=acY;have zp:=zA;have z3:=ayc;have z32:=aya;obtain⟨h0,CM⟩:∃h0,(((h.push (aG ep ze z9 C)).push [zg]).push [.v (.int .i64 0)]).push [.v (.int .i64 0)]=h0:=⟨_,O⟩;obtain⟨sb,wQ⟩:∃n,F (h.push (aG ep ze z9 C)).V=n:=⟨_,O⟩;obtain⟨u,PY⟩:∃n,F ((h.push (aG ep ze z9 C)).push [zg]).V=n:=⟨_,O⟩;obtain⟨k,OT⟩:∃n,F (((h.push (aG ep ze z9 C)).push [zg]).push [.v (.int .i64 0)]).V=n:=⟨_,O⟩;obtain⟨kb,O7⟩:∃n,F h.V=n:=⟨_,O⟩;have o1:kb<sb/\sb<u/\u<k:=by rw[<-O7,<-wQ,<-PY,<-OT];simp only[bP];omega
 have gk:h0.V[kb]?=J (aG ep ze z9 C):=by rw[<-CM,<-O7];exact aP (aP (aP (aQ _ _)))
 have gs:h0.V[sb]?=J [zg]:=by rw[<-CM,<-wQ];exact aP (aP (aQ _ _))
 have gz:h0.V[u]?=J [.v (.int .i64 0)]:=by rw[<-CM,<-PY];exact aP (aQ _ _)
 have ge:h0.V[k]?=J [.v (.int .i64 0)]:=by rw[<-CM,<-OT];exact aQ _ _
 have Pk:cS h0=aa:=by rw[<-CM];exact eH
 obtain⟨r1,h1,c1,x1,post⟩:=Nk h0 Pk ep ze z9 C T L U ae e aq l hx E hc ht p fj fQ;have l0:aF af Gt h0 27 (.ptr (.box kb) 0)=J (.agg (aG ep ze z9 C)):=by rw[gt ax (by kernel_rfl:cN af 27=J 4) gk (kj O)];rfl
 have kE1:aj (dA U ae ep e aq l≠0->nx U ae ep e aq l c s d f=(0,dA U ae ep e aq l)):=⟨λq=>by unfold nx;rw[aC q]⟩;have kE2:aj (dA U ae ep e aq l=0->nx U ae ep e aq l c s d f=yP U ae e aq l c s d f):=⟨λq=>by unfold nx;rw[aL (by simp[q])]⟩;have kbo:=aj.mk (λq=>@EV l ep U ae e aq q);have kwt:=aj.mk (λq=>@acS l ep U ae e aq q);have kf:=aj.mk (au hx (au E (au hc (au p hs))));have gk1:=x1.box _ _ gk;have gs1:=x1.box _ _ gs;have iT:=x1.box _ _ gz;have ge1:=x1.box _ _ ge;have FR:=x1.ok Pk;have lS:=hs.dp;generalize nx U ae ep e aq l c s d f=res at *
 generalize dA U ae ep e aq l=be at *
 have XX:=(aU.1 ge1).1;clear hx E hc ht p hs x1 gk gs gz ge Pk eH;refine cq O func30 O ?_;rcases post with⟨q,rfl⟩|⟨q,z0,Wt,rfl,rW,zn⟩
 .have kr:=aj.mk (kE1.M q);have stn:bU af (h1.push [.v (.pointer ao)]) 121 (.ptr (.box (F h1.V)) 0) (.v (.pointer ao))=J (h1.push [.v (.pointer ao)]):=jC O ax O O;have ste:bU af (h1.push [.v (.pointer ao)]) 39 (.ptr (.box k) 0) ((be:Int):I)=J ((h1.push [.v (.pointer ao)]).put k [((be:Int):I)]):=G9 (aP ge1);obtain⟨a1,a2,a3,a4,a5,a6⟩:=Ak (Hx:=(h1.push [.v (.pointer ao)]).put k [((be:Int):I)]) (zb:=u) (eb:=k) (x:=.v (.int .i64 0)) (y:=((be:Int):I)) (by rw[cG ag];exact aP iT) (dy (by rw[bP];omega)) ag 0 be;clear kE1 kE2 kbo kwt gk1 gs1 iT ge1 FR;refine bB @mb @bG ?_;refine jB [(0,1)] kL ax (λzf p=>?_) ?_
  .simp only[js]at p;subst p;refine mI (x:=.ptr (.box k) 0) (v:=((be:Int):I)) ax O O O ax (by simp[df,ip]) ?_ ?_<;>(simp only[fe,eE];exact f_ @mb @and_self)
  refine br @mb ?_;exact⟨_,_,O,by rw[kr.M]⟩
 obtain⟨p1,p2,p3,p4,p5,p6⟩:=kbo.M q;obtain⟨zl,w1,w2,w3⟩:=kwt.M q;have m:=kE2.M q;have R:=ahz p1 p2 p3;subst q;clear kE1 kE2 kbo kwt;obtain⟨B,vz⟩:∃B,h1.push [.ptr (.box z0) 0]=B:=⟨_,O⟩;obtain⟨wb,AZ⟩:∃n,F h1.V=n:=⟨_,O⟩;have stn:bU af (h1.push [.v (.pointer ao)]) 121 (.ptr (.box wb) 0) (.ptr (.box z0) 0)=J B:=by rw[<-vz,<-AZ];exact Su z0
 have gk2:B.V[kb]?=J (aG ep ze z9 C):=by rw[<-vz];exact aP gk1
 have gs2:B.V[sb]?=J [zg]:=by rw[<-vz];exact aP gs1
 have f_:B.V[u]?=J [.v (.int .i64 0)]:=by rw[<-vz];exact aP iT
 have ge2:B.V[k]?=J [.v (.int .i64 0)]:=by rw[<-vz];exact aP ge1
 have gw2:B.V[wb]?=J [.ptr (.box z0) 0]:=by rw[<-vz,<-AZ];exact aQ _ _
 have ste:bU af B 39 (.ptr (.box k) 0) (.v (.int .i64 0))=J B:=by rw[G9 ge2,jb ge2]
 have le2:aF af Gt B 39 (.ptr (.box k) 0)=J (.v (.int .i64 0)):=di ww ge2 O;have lw2:aF af Gt B 121 (.ptr (.box wb) 0)=J (.ptr (.box z0) 0):=di uY gw2 O;have W2:tV B z0 ep ze z9 C T L Wt ((jz (ah e 0) aq l:Nat):Int) ((ef (ah e 0) aq l:Nat):Int) e aq l:=by rw[<-vz];exact zn.mono (.push _ _)
 have CU:cS B=aa:=by rw[<-vz];exact FR
 obtain⟨b,vr,w4,-⟩:=W2.p9;obtain⟨_,h3,c2,x3,post⟩:=V8 B z0 _ L l c [d,f] (.ac .aK 1 (ay [d,f])) w4 O kf.M.2.2.2.1 fQ ⟨_,_,O,λ_=>rfl⟩ cB;have bl:=agh d f;have azR:k<wb:=by rw[<-AZ];exact XX
 clear w4 zn gk1 gs1 iT ge1 FR XX;have qm:=x3.box _ _ f_;have ge3:=x3.box _ _ ge2;rcases post with⟨q,rfl⟩|⟨x,q1,q2,rfl⟩
 .have kr:=aj.mk (m.trans (aoo q));have sq:=xq (H:=h3) ⟨0,0,0,0⟩;have se:bU af (h3.push (bm ⟨0,0,0,0⟩)) 39 (.ptr (.box k) 0) (.v (.int .i64 1))=J ((h3.push (bm ⟨0,0,0,0⟩)).put k [.v (.int .i64 1)]):=G9 (aP ge3);obtain⟨a1,a2,a3,a4,a5,a6⟩:=Ak (Hx:=(h3.push (bm ⟨0,0,0,0⟩)).put k [.v (.int .i64 1)]) (zb:=u) (eb:=k) (x:=.v (.int .i64 0)) (y:=.v (.int .i64 1)) (by rw[cG ag];exact aP qm) (dy (by rw[bP];have:=(aU.1 ge3).1;omega)) ag 0 1;clear m q W2 x3 gk2 gs2 f_ ge2 gw2 CU qm ge3 p1 p2 p3 p6 w1 w2 w3 R rW;refine bB @mb @bG ?_;refine jB [(0,1)] kL ax (λzf p=>?_) ?_
  .simp only[js]at p;subst p;refine mI (x:=.ptr (.box k) 0) (v:=.v (.int .i64 1)) ax O O O ax (by simp[df,ip]) ?_ ?_<;>(simp only[fe,eE];exact f_ @mb @and_self)
  refine br @mb ?_;exact⟨_,_,O,by rw[kr.M]⟩
 rw[aoq q1 q2]at m;obtain⟨gH,tq⟩:=aav q1;have hm:=yW p6 x gH;have sq:=xq (H:=h3) x;obtain⟨h4,Jj⟩:∃h4,h3.push (bm x)=h4:=⟨_,O⟩;obtain⟨pb,Pt⟩:∃n,F h3.V=n:=⟨_,O⟩;rw[Jj,Pt]at sq;have o3:wb<pb:=by have i:=(aU.1 gw2).1;have G:=x3.len;omega
 have X4:Ext B h4:=by rw[<-Jj];exact x3.trans (.push _ _)
 have gk4:=X4.box _ _ gk2;have gs4:=X4.box _ _ gs2;have jN:=X4.box _ _ f_;have ge4:=X4.box _ _ ge2;have gw4:=X4.box _ _ gw2;have gp4:h4.V[pb]?=J (bm x):=by rw[<-Jj,<-Pt];exact aQ _ _
 have W4':=W2.mono X4;have ste4:bU af h4 39 (.ptr (.box k) 0) (.v (.int .i64 0))=J h4:=by rw[G9 ge4,jb ge4]
 have le4:aF af Gt h4 39 (.ptr (.box k) 0)=J (.v (.int .i64 0)):=di ww ge4 O;obtain⟨S,Jk⟩:∃S,(h4.push [.v (.int .i64 0)]).push [.v (.int .i64 0)]=S:=⟨_,O⟩;obtain⟨g,JO⟩:∃n,F h4.V=n:=⟨_,O⟩;obtain⟨t,yx⟩:∃n,F (h4.push [.v (.int .i64 0)]).V=n:=⟨_,O⟩;have o2:pb<g/\g<t:=by refine⟨?_,by rw[<-JO,<-yx,bP];omega⟩;rw[<-JO];exact(aU.1 gp4).1
 have gsum5:S.V[g]?=J [.v (.int .i64 0)]:=by rw[<-Jk,<-JO];exact aP (aQ _ _)
 have gib5:S.V[t]?=J [.v (.int .i64 0)]:=by rw[<-Jk,<-yx];exact aQ _ _
 have X5:Ext h4 S:=by rw[<-Jk];exact(Ext.push _ _).trans (.push _ _)
 have st5a:bU af S 3 (.ptr (.box g) 0) (.v (.int .i64 0))=J S:=by rw[G_ gsum5,jb gsum5]
 have st5b:bU af S 3 (.ptr (.box t) 0) (.v (.int .i64 0))=J S:=by rw[G_ gib5,jb gib5]
 have gw5:=X5.box _ _ gw4;have lw5:aF af Gt S 121 (.ptr (.box wb) 0)=J (.ptr (.box z0) 0):=di uY gw5 O;have c3:=abt S z0 c;obtain⟨j,AI⟩:∃j,(S.push [.ptr (.box z0) 0]).push [((c:Int):I)]=j:=⟨_,O⟩;rw[AI]at c3;have X6:Ext h4 j:=by rw[<-AI];exact X5.trans ((Ext.push _ _).trans (.push _ _))
 have w:j.V[g]?=J [.v (.int .i64 0)]:=by rw[<-AI];exact aP (aP gsum5)
 have N:j.V[t]?=J [.v (.int .i64 0)]:=by rw[<-AI];exact aP (aP gib5)
 have ga6:j.V[F S.V]?=J [.ptr (.box z0) 0]:=by rw[<-AI];exact aP (aQ _ _)
 have gb6:j.V[F S.V+1]?=J [((c:Int):I)]:=by rw[<-AI];exact np (by rw[bP])
 have l5:g<F S.V/\t<F S.V:=⟨(aU.1 gsum5).1,(aU.1 gib5).1⟩;have kall:=aj.mk (au m (au tq (au hm (au w2 (au w3 rW)))));have kprog:=aj.mk (au p1 (au p3 R));have gk6:=X6.box _ _ gk4;have gs6:=X6.box _ _ gs4;have vo:=X6.box _ _ jN;have ge6:=X6.box _ _ ge4;have gw6:=X6.box _ _ gw4;have gp6:=X6.box _ _ gp4;have W6':=W4'.mono X6;have kst:=aj.mk (au gk6 (au gs6 (au vo (au ge6 (au gw6 (au gp6 W6'))))));have sumv:g<F h4.V+1:=by omega
 have kxl:=gH;clear m tq hm w1 w2 w3 rW p1 p3 R gk6 gs6 vo ge6 gw6 gp6 W6' W4' W2 gk4 gs4 jN ge4 gw4 gp4 gk2 gs2 f_ ge2 gw2 qm ge3 q1 q2 gH x3 X4 X5 gw5 gsum5 gib5 CU p2 p6 sumv;refine bB @mb @bG ?_;refine bJ.gen λe4 Z rb uf ug=>?_;have f5:e4.get 5=(d:Int):=by rw[Z];exact gS
 have f6:e4.get 6=(f:Int):=by rw[Z];exact gS
 have f7:e4.get 7=.ptr (.box kb) 0:=by rw[Z];exact gS
 have f11:e4.get 11=.ptr (.box sb) 0:=by rw[Z];exact gS
 have f14:e4.get 14=.ptr (.box u) 0:=by rw[Z];exact gS
 have f15:e4.get 15=.ptr (.box k) 0:=by rw[Z];exact gS
 have f16:e4.get 16=.ptr (.box wb) 0:=by rw[Z];exact gS
 have f17:e4.get 17=.ptr (.box pb) 0:=by rw[Z];exact gS
 have f18:e4.get 18=.ptr (.box g) 0:=by rw[Z];exact gS
 have f19:e4.get 19=.ptr (.box t) 0:=by rw[Z];exact gS
 have f47:e4.get 47=.func (.func 157) [] [.ptr (.box (F S.V)) 0,.ptr (.box (F S.V+1)) 0]:=by rw[Z];exact gS
 have fd:e4.defers=[]:=by rw[rb];exact gS
 clear Z rb uf ug c1 c2 c3 l0 lS bl stn ste le2 lw2 sq ste4 le4 st5a st5b lw5 zc zp z3 z32 bx bS CM wQ PY OT O7 vz AZ Jj Pt Jk JO yx AI;obtain⟨gk6,gs6,vo,ge6,gw6,gp6,W6⟩:=kst.M;obtain⟨p1,p3,R⟩:=kprog.M;obtain⟨m,tq,hm,w2,w3,rW⟩:=kall.M;have kW:=aj.mk W6;clear kst kprog kall W6;obtain⟨og1,og2,og3,og4⟩:=oj p1;have jl:cS j=cS j:=rfl;refine Bn (by rw[yj];exact f47) λrec v1 v2 v3 v4 v5 v6=>?_;have k_:(j.loop rec).aB[F j.aB]?=J rec:=@Be j rec;have feed:=abu (F j.aB) (F S.V) (F S.V+1) z0 z9 ae c (EE (j.loop rec) (F j.aB) rec g t u k U ae e (fb U ae l) c s)
  (λz8=>EF (F j.aB) rec u k z8/\l_ U ae e c s=ar) kf.M.2.1 ag
  (λy z8 q=>by
   obtain⟨b6,vr6,i,-⟩:=kW.M.p9;refine⟨q.fM _ _ ga6 ag ag,q.fM _ _ gb6 ag ag,_,q.fM _ _ i (λz7=>?_) (λz7=>?_),O⟩
   .rw[z7]at i;rw[w]at i;unfold gP at i;simp at i
   .rw[z7]at i;rw[N]at i;unfold gP at i;simp at i)
  ?_
  (λy z8 hk hc q=>⟨q.lp,q.fM,by rw[Bl hc];exact q.sum,by rw[Bl hc];exact q.ix,by rw[Bl hc];exact q.le,by rw[Bl hc];exact q.same,by rw[Bl hc];exact q.ok⟩)
  (j.loop rec) ⟨k_,λa cs ha _ _=>ha,w,N,ck _,by simp[eC],by simp[eC]⟩
 rotate_left 1
 .intro y z8 hk hc q;have sZ:=q.lp
  suffices hs:∃b H',W5.round (F j.aB) [((y:Nat):I)] z8=J (.ret ((b:Bool):I),H')/\if b=aa then EE (j.loop rec) (F j.aB) rec g t u k U ae e (fb U ae l) c s (y+1) H' else (EF (F j.aB) rec u k H'/\l_ U ae e c s=ar) by
   obtain⟨b,H',q1,q2⟩:=hs;cases b with|true=>exact .inl ⟨H',q1,q2⟩|false=>exact .inr ⟨H',q1,q2⟩
  refine ate (Post:=λb H'=>if b=aa then EE (j.loop rec) (F j.aB) rec g t u k U ae e (fb U ae l) c s (y+1) H' else (EF (F j.aB) rec u k H'/\l_ U ae e c s=ar)) sZ (by rw[v2];rfl) v5 v6 ?_;have r1:∀zj,(mG (F j.aB) rec [((y:Nat):I)]).get zj=if 48=zj then ((y:Nat):I) else e4.get zj:=λzj=>abr v2 v1
  have d1:(mG (F j.aB) rec [((y:Nat):I)]).defers=[]:=rfl;obtain⟨zd,hK⟩:∃zd,z8.busy (F j.aB) rec=zd:=⟨_,O⟩;have pZ:∀a:Nat,zd.V[a]?=z8.V[a]?:=λa=>by rw[<-hK];rfl
  have At:zd.aB[F j.aB]?=J {rec with state:=.busy}:=by rw[<-hK];have:=(aU.1 sZ).1;show(z8.aB.set _ _)[_]?=_;simp[this]
  have z:∀(a:Nat) (cs:List I),j.V[a]?=J cs->a≠g->a≠t->zd.V[a]?=J cs:=λa cs ha n1 n2=>by rw[pZ];exact q.fM a cs ha n1 n2
  have CR:=z _ _ gk6 ag ag;have C6:=z _ _ gs6 ag ag;have A3:=z _ _ vo ag ag;have AB:=z _ _ ge6 ag ag;have F8:=z _ _ gw6 ag ag;have F4:=(pZ g).trans q.sum;have CP:=(pZ t).trans q.ix;have mU:=q.le;have lib:aF af Gt zd 3 (.ptr (.box t) 0)=J ((F (eC ae c y):Nat):I):=di eu CP O;have lsb:aF af Gt zd 72 (.ptr (.box sb) 0)=J zg:=di Na C6 O;have lSn:=kf.M.2.2.2.2.dp;obtain⟨a1,a2,a3,a4,a5,a6⟩:=Ak A3 AB ag 0 340;have tt:=(aU.1 A3).1;have Jg:=(aU.1 AB).1;have kstop:aj (∀(o:am),o.aB[F j.aB]?=J {rec with state:=.busy}->u<F o.V->k<F o.V->EF (F j.aB) rec u k (((o.put u [.v (.int .i64 0)]).put k [.v (.int .i64 340)]).eM (F j.aB) {rec with state:=.done,pending:=J .ret})):=⟨λo q1 q2 q3=>by
   have fQ:=(aU.1 q1).1;refine⟨abW fQ,?_,?_⟩
   .show((o.put u [.v (.int .i64 0)]).put k [.v (.int .i64 340)]).V[u]?=_;rw[cG ag];exact dy q2
   .show((o.put u [.v (.int .i64 0)]).put k [.v (.int .i64 340)]).V[k]?=_;exact dy (by rw[jA];exact q3)⟩
  have kown:=aj.mk (λq=>@apx y U ae s e c q hk hc);have kq:=aj.mk q;have kog:=aj.mk z;obtain⟨Q,hQ⟩:∃Q:Xt->am->Prop,Q=λzi B=>B.aB[F j.aB]?=J {rec with state:=.busy}/\
   ((zi=.normal/\EE (j.loop rec) (F j.aB) rec g t u k U ae e (fb U ae l) c s (y+1) (B.eM (F j.aB) rec))∨(zi=.ret/\EF (F j.aB) rec u k (B.eM (F j.aB) {rec with state:=.done,pending:=J .ret})/\l_ U ae e c s=ar)):=⟨_,O⟩
  have kQs:aj (∀(o:am),o.aB[F j.aB]?=J {rec with state:=.busy}->u<F o.V->k<F o.V->l_ U ae e c s=ar->Q .ret ((o.put u [.v (.int .i64 0)]).put k [.v (.int .i64 340)])):=⟨λo i G z3 z4=>by rw[hQ];exact⟨i,.inr ⟨O,kstop.M o i G z3,z4⟩⟩⟩;have kQn:aj (∀(o:am),o.aB[F j.aB]?=J {rec with state:=.busy}->EE (j.loop rec) (F j.aB) rec g t u k U ae e (fb U ae l) c s (y+1) (o.eM (F j.aB) rec)->Q .normal o):=⟨λo i G=>by rw[hQ];exact⟨i,.inl ⟨O,G⟩⟩⟩;rw[hK]
  suffices JJ:bJ W5 rec.assign (mG (F j.aB) rec [((y:Nat):I)]) z8 (λzi e1 h1=>zi=.normal/\h1=z8/\bJ W5 rec.body e1 zd (λzi _ B=>Q zi B)) by
   obtain⟨zi,e1,D,i,G,z3,o',e2,vu,z4,z5⟩:=JJ;refine⟨zi,e1,D,i,G,z3,o',e2,vu,z4,?_⟩;rw[hQ]at z5;obtain⟨z5,z6⟩:=z5;refine⟨z5,?_⟩;rcases z6 with⟨y1,y2⟩|⟨y1,y2⟩
   .exact .inl ⟨y1,y2⟩
   .exact .inr ⟨y1,y2⟩
  clear hQ kstop;rw[v3,v4];rcases dR (F (eC ae c y)) (F s) with dx|po;rotate_left 1
  .have gw:F (eC ae c y)=F s:=(by omega);have H:l_ U ae e c s=ar:=by
    cases ho:l_ U ae e c s with|false=>rfl|true=>obtain⟨zf,i,-⟩:=kown.M ho;rw[pR ag]at i;cases i
   have dd:decide (((F (eC ae c y):Nat):Int)=(F s:Int))=aa:=cy ag;have Y:=aj.mk (kQs.M zd At tt Jg H);clear gw H po mU q z sZ hK pZ At CR C6 A3 AB F8 F4 CP v1 v2 v3 v4 v5 v6 kQs kQn;generalize F (eC ae c y)=zh at *
   refine wH ?_;exact⟨ba,ba,Y.M⟩
  obtain⟨zf,p⟩:∃zf,s[F (eC ae c y)]?=J zf:=⟨_,aW dx⟩;have dd:decide (((F (eC ae c y):Nat):Int)=(F s:Int))=ar:=cR ag;have ixS:=kf.M.2.2.2.2.ix dx;have ls0:=ant (H:=zd) (s:=2) p;by_cases AU:zf.1=((y:Nat):Int);rotate_left 1
  .have H:l_ U ae e c s=ar:=by
    cases ho:l_ U ae e c s with|false=>rfl|true=>obtain⟨p',i,G,-⟩:=kown.M ho;rw[p]at i;injection i with i;subst i;exact absurd G AU
   have dr:decide (zf.1=((y:Nat):Int))=ar:=cR AU;have Y:=aj.mk (kQs.M zd At tt Jg H);clear H dx mU q z sZ hK pZ At CR C6 A3 AB F8 F4 CP v1 v2 v3 v4 v5 v6 kQs kQn p AU;generalize F (eC ae c y)=zh at *
   refine br @Cs ?_;exact⟨ba,ba,Y.M⟩
  have O8:y<F U:=by omega
  have dr:decide (((y:Nat):Int)=((y:Nat):Int))=aa:=cy O;obtain⟨A,pv⟩:=zf;simp only at AU;subst AU;obtain⟨_,o,cf,rfl,xf⟩:=ajq zd ze z9 C U ae e kf.M.1 kf.M.2.1 kf.M.2.2.1 fj ((y:Nat):Int) pv;have lk1:aF af Gt zd 25 (.ptr (.box kb) 1)=J (.agg [ze,z9]):=by rw[gt BU (by kernel_rfl:cN af 25=J 2) CR (kj O)];rfl
  have lk3:aF af Gt zd 23 (.ptr (.box kb) 3)=J C:=di kC CR O;have ls81:=Zj (H:=zd) (s:=2) p;have Fv:=xf.loop _ _ At;have oF:=xf.box _ _ A3;have r8:=xf.box _ _ AB;rcases aju (v:=pv) R O8 with⟨so,fo⟩|⟨so,fo⟩;rotate_left 1
  .have H:l_ U ae e c s=ar:=by
    cases ho:l_ U ae e c s with|false=>rfl|true=>obtain⟨p',i,G,z3⟩:=kown.M ho;rw[p]at i;injection i with i;subst i;rw[so]at z3;cases z3
   have Y:=aj.mk (kQs.M o Fv (aU.1 oF).1 (aU.1 r8).1 H);obtain⟨t1,t2,t3,t4,t5,t6⟩:=Ak oF r8 ag 0 340;clear H dx mU q z sZ hK pZ At CR C6 A3 AB F8 F4 CP v1 v2 v3 v4 v5 v6 kQs kQn p a1 a2 a3 a4 a5 a6 xf oF r8 Fv so;unfold im at cf;rcases fo with fo|fo
   .exact ZT26
   .exact ZT26
  rw[fo]at cf;have tj:=xf.box _ _ F8;have oD:=xf.box _ _ C6;have JN:=xf.box _ _ F4;have Jm:=xf.box _ _ CP;obtain⟨b6,vr6,i,-⟩:=kW.M.p9;have jk:z0≠g:=λz7=>by rw[z7]at i;rw[w]at i;unfold gP at i;simp at i
  have Ay:z0≠t:=λz7=>by rw[z7]at i;rw[N]at i;unfold gP at i;simp at i
  have Xr:=xf.box _ _ (z _ _ i jk Ay);have lwb:aF af Gt o 121 (.ptr (.box wb) 0)=J (.ptr (.box z0) 0):=di uY tj O;have lWt:aF af Gt o 23 (.ptr (.box z0) 6)=J Wt:=di kC Xr O;have A':=rW.ix (i:=y) (by rw[w2,w3];exact O8);have lWk:=ev (H:=o) (l:=fb U ae l) (i:=y) (s:=1) (by rw[w2,w3];exact O8);have lsb2:aF af Gt o 72 (.ptr (.box sb) 0)=J zg:=di Na oD O;have lib2:aF af Gt o 3 (.ptr (.box t) 0)=J ((F (eC ae c y):Nat):I):=di eu Jm O;have lsum2:aF af Gt o 3 (.ptr (.box g) 0)=J ((jT (fb U ae l) (s.take (F (eC ae c y))):Int):I):=di eu JN O;have ls1:=anu (H:=o) (s:=2) p;have cm:=Kb (ah (fb U ae l) y) pv;have ca:=If (jT (fb U ae l) (s.take (F (eC ae c y)))) (cO (ah (fb U ae l) y) pv);have gG:=axW (y:=fb U ae l) p;simp only[eD]at gG;rw[<-gG]at ca;have stS:=G_ (n:=jT (fb U ae l) (s.take (F (eC ae c y)+1))) JN;have O1:(o.put g [((jT (fb U ae l) (s.take (F (eC ae c y)+1)):Int):I)]).V[t]?=J [((F (eC ae c y):Nat):I)]:=by rw[cG ag];exact Jm
  have lib3:aF af Gt (o.put g [((jT (fb U ae l) (s.take (F (eC ae c y)+1)):Int):I)]) 3 (.ptr (.box t) 0)=J ((F (eC ae c y):Nat):I):=di eu O1 O;have stI:=G_ (n:=((F (eC ae c y)+1:Nat):Int)) O1;have akZ:((F (eC ae c y)+1:Nat):Int)=(F (eC ae c y):Int)+1:=by omega
  have Y:=aj.mk (kQn.M ((o.put g [((jT (fb U ae l) (s.take (F (eC ae c y)+1)):Int):I)]).put t [((F (eC ae c y)+1:Nat):I)]) Fv (by
   have fQ:=(aU.1 Fv).1;have alR:=(aU.1 JN).1;have yy:=(aU.1 Jm).1;have nZ:F (eC ae c (y+1))=F (eC ae c y)+1:=(by rw[GH hc];simp);refine⟨abW fQ,λa cs ha n1 n2=>?_,?_,?_,by omega,?_,?_⟩
   .show((o.put g _).put t _).V[a]?=_;rw[cG n2,cG n1];exact xf.box _ _ (by rw[pZ];exact q.fM a cs ha n1 n2)
   .show((o.put g _).put t _).V[g]?=_;rw[cG ag,nZ];exact dy alR
   .show((o.put g _).put t _).V[t]?=_;rw[nZ];exact dy (by rw[jA];exact yy)
   .rw[nZ,fS p,jr,q.same,GH hc,jr];rfl
   .rw[nZ,fS p,rE,q.ok,pP];simp[so]))
  clear mU q z sZ hK pZ At CR C6 A3 AB F8 F4 CP v1 v2 v3 v4 v5 v6 kQs kQn p a1 a2 a3 a4 a5 a6 xf oF r8 Fv so fo tj oD JN Jm O1 Xr i gG w2 w3;unfold im at *
  generalize F (eC ae c y)=zh at *
  generalize jT (fb U ae l) (s.take zh)=sv at *
  generalize jT (fb U ae l) (s.take (zh+1))=sv2 at *
  generalize cO (ah (fb U ae l) y) pv=mv at *
  generalize ah (fb U ae l) y=wv at *
  rw[akZ]at stI Y;refine dL @Cs @kZ @mR ?_;refine⟨ba,ba,?_⟩;refine eI kL ax ?_;refine b_ @Cs @VZ @kZ @mR ?_;refine eI kL ax ?_;refine dL @Cs @VZ @ql ?_;exact Y.M
 .obtain⟨Hf,cF,hF⟩:=feed;rcases hF with q|⟨q,H⟩;rotate_left 1
  .have FX:res=(0,340):=(by rw[m,aC H]);have kr:=aj.mk FX;refine⟨_,_,cF,_,q.lp,(aZ:LoopState.done≠ .busy),.inr ⟨O,?_⟩⟩;have qz:(Hf.eM (F j.aB) {rec with state:=.exhausted,pending:=J .ret}).V[u]?=J [.v (.int .i64 0)]:=q.z;have qe:(Hf.eM (F j.aB) {rec with state:=.exhausted,pending:=J .ret}).V[k]?=J [.v (.int .i64 340)]:=q.e;have lz:aF af Gt (Hf.eM (F j.aB) {rec with state:=.exhausted,pending:=J .ret}) 3 (.ptr (.box u) 0)=J (.v (.int .i64 0)):=di eu qz O;have le:aF af Gt (Hf.eM (F j.aB) {rec with state:=.exhausted,pending:=J .ret}) 39 (.ptr (.box k) 0)=J (.v (.int .i64 340)):=di ww qe O;clear cF q H m FX kf kW gk6 gs6 vo ge6 gw6 gp6 ga6 gb6 w N hm w2 w3 rW p1 p3 R og1 og2 og3 og4 k_ v1 v2 v3 v4 v5 v6 qz qe tq;refine br @mb ?_;exact⟨_,_,O,by rw[kr.M]⟩
  refine⟨_,_,cF,_,q.lp,by rw[v5];decide,.inl ⟨v6,?_⟩⟩;obtain⟨HF,CD⟩:∃HF,Hf.eM (F j.aB) {rec with state:=.exhausted}=HF:=⟨_,O⟩;have rY:∀a:Nat,HF.V[a]?=Hf.V[a]?:=λa=>by rw[<-CD];rfl
  have z:∀(a:Nat) (cs:List I),j.V[a]?=J cs->a≠g->a≠t->HF.V[a]?=J cs:=λa cs ha n1 n2=>by rw[rY];exact q.fM a cs ha n1 n2
  have FZ:=z _ _ gs6 ag ag;have A2:=z _ _ vo ag ag;have AA:=z _ _ ge6 ag ag;have C_:=z _ _ gw6 ag ag;have AS:=z _ _ gp6 ag ag;have K:=(rY g).trans q.sum;have CO:=(rY t).trans q.ix;have mU:=q.le;have X:=q.same;have AM:=q.ok;rw[KO]at K CO mU X AM;rw[CD];have lib:aF af Gt HF 3 (.ptr (.box t) 0)=J ((F (iH ae c):Nat):I):=di eu CO O;have lsb:aF af Gt HF 72 (.ptr (.box sb) 0)=J zg:=di Na FZ O;have lSn:=kf.M.2.2.2.2.dp;rcases dR (F (iH ae c)) (F s) with dx|po
  .have H:l_ U ae e c s=ar:=by
    cases ho:l_ U ae e c s with|false=>rfl|true=>unfold l_ at ho;rw[bR,decide_eq_true_eq]at ho;have:=congrArg F ho.1;rw[bI,bI]at this;omega
   have FX:res=(0,340):=(by rw[m,aC H]);have kr:=aj.mk FX;obtain⟨a1,a2,a3,a4,a5,a6⟩:=Ak A2 AA ag 0 340;have dd:decide (((F (iH ae c):Nat):Int)<(F s:Int))=aa:=cy ag;clear cF q H m FX kf kW gk6 gs6 vo ge6 gw6 gp6 ga6 gb6 w N hm w2 w3 rW p1 p3 R og1 og2 og3 og4 k_ v1 v2 v3 v4 v5 v6 tq CD rY z FZ A2 AA C_ AS K CO mU X AM dx;refine br @mb ?_;exact⟨_,_,O,by rw[kr.M]⟩
  have fH:F (iH ae c)=F s:=by omega
  have JT:l_ U ae e c s=aa:=by unfold l_;rw[fH,gu]at X AM;rw[X,AM];simp
  have dd:decide (((F (iH ae c):Nat):Int)<(F s:Int))=ar:=cR ag;rw[fH,gu]at K;rw[aL (by rw[JT];simp)]at m;have c8:=Gx 4 d;have c9:=Gx 4 f;have hG:(4:Int).toNat=Gn:=rfl;rw[rU sS,hG]at c8 c9;have lpD:aF af Gt HF 3 (.ptr (.box pb) 2)=J ((x.d:Int):I):=di eu AS O;have lpE:aF af Gt HF 3 (.ptr (.box pb) 3)=J ((x.e:Int):I):=di eu AS O;obtain⟨a1,a2,a3,a4,a5,a6⟩:=Ak A2 AA ag 0 420;by_cases i_:((bZ Gn d:Nat):Int)=x.d;rotate_left 1
  .have kr:=aj.mk (m.trans (aC (.inl i_)));have dq:decide (((bZ Gn d:Nat):Int)=x.d)=ar:=cR i_;clear cF q JT m kf kW gk6 gs6 vo ge6 gw6 gp6 ga6 gb6 w N hm w2 w3 rW p1 p3 R og1 og2 og3 og4 k_ v1 v2 v3 v4 v5 v6 tq CD rY z FZ A2 AA C_ AS K CO mU X AM po fH hG i_;generalize ((bZ Gn d:Nat):Int)=pd at *
   unfold im at *
   refine br @mb ?_;refine jB [(7,9)] kL ax (λzf p=>?_) ?_
   .simp only[js]at p;subst p;refine avU ax O O ax ?_ ?_
    .simp only[fe,eE];refine bB @mb @jv ?_;refine⟨by trivial,?_⟩;simp[fC,Sk]
    .simp only[fe,eE];exact f_ @mb @jv
   refine bB @mb @jv ?_;exact⟨_,_,O,by rw[kr.M]⟩
  have dq:decide (((bZ Gn d:Nat):Int)=x.d)=aa:=cy i_;by_cases jV:((bZ Gn f:Nat):Int)=x.e;rotate_left 1
  .have kr:=aj.mk (m.trans (aC (.inr jV)));have dq2:decide (((bZ Gn f:Nat):Int)=x.e)=ar:=cR jV;clear cF q JT m kf kW gk6 gs6 vo ge6 gw6 gp6 ga6 gb6 w N hm w2 w3 rW p1 p3 R og1 og2 og3 og4 k_ v1 v2 v3 v4 v5 v6 tq CD rY z FZ A2 AA C_ AS K CO mU X AM po fH hG i_ jV;generalize ((bZ Gn d:Nat):Int)=pd at *
   generalize ((bZ Gn f:Nat):Int)=pf at *
   unfold im at *
   refine br @mb ?_;refine jB [(7,9)] kL ax (λzf p=>?_) ?_
   .exact ZT6
   refine bB @mb @jv ?_;exact⟨_,_,O,by rw[kr.M]⟩
  have dq2:decide (((bZ Gn f:Nat):Int)=x.e)=aa:=cy jV;rw[aL (by simp[i_,jV])]at m;have kr:=aj.mk m;obtain⟨b6,vr6,i,G,z3⟩:=kW.M.p9;have jk:z0≠g:=λz7=>by rw[z7]at i;rw[w]at i;unfold gP at i;simp at i
  have Ay:z0≠t:=λz7=>by rw[z7]at i;rw[N]at i;unfold gP at i;simp at i
  have rg:=z3.1;have qp:=nW z3.four;rw[bI]at rg;have aln:0<F l:=BJ.2 (λz7=>by rw[z7]at kxl;simp at kxl);have OF:b6≠g:=λz7=>by rw[z7]at G;rw[w]at G;injection G with G;rw[<-G]at qp;simp at qp;omega
  have FB:b6≠t:=λz7=>by rw[z7]at G;rw[N]at G;injection G with G;rw[<-G]at qp;simp at qp;omega
  have WF:tV HF z0 ep ze z9 C T L Wt ((jz (ah e 0) aq l:Nat):Int) ((ef (ah e 0) aq l:Nat):Int) e aq l:=
   ⟨⟨b6,vr6,z _ _ i jk Ay,z _ _ G OF FB,z3⟩,kW.M.NL,kW.M.pos,kW.M.c0,kW.M.xw,kW.M.tl,kW.M.ll⟩
  obtain⟨_,_,cb,rfl,rfl⟩:=Nn HF z0 ep ze z9 C T L Wt _ _ e aq l WF x ⟨ag,by omega⟩;rw[tq]at cb;have OI:=z _ _ i jk Ay;have lwb:aF af Gt HF 121 (.ptr (.box wb) 0)=J (.ptr (.box z0) 0):=di uY C_ O;have lwb2:aF af Gt (HF.push (bm x)) 121 (.ptr (.box wb) 0)=J (.ptr (.box z0) 0):=di uY (aP C_) O;have lch:aF af Gt HF 3 (.ptr (.box z0) 12)=J ((ef (ah e 0) aq l:Nat):I):=di eu OI O;have lch2:aF af Gt (HF.push (bm x)) 3 (.ptr (.box z0) 12)=J ((ef (ah e 0) aq l:Nat):I):=di eu (aP OI) O;have lsu:aF af Gt HF 3 (.ptr (.box g) 0)=J ((jT (fb U ae l) s:Int):I):=di eu K O;have lsu2:aF af Gt (HF.push (bm x)) 3 (.ptr (.box g) 0)=J ((jT (fb U ae l) s:Int):I):=di eu (aP K) O;have lpp:=vH AS;have m1:=Kb f ((gK (ah e 0) aq l c:Nat):Int);have m2:=If d (cO f ((gK (ah e 0) aq l c:Nat):Int));have m3:=Kb ((ef (ah e 0) aq l:Nat):Int) (jT (fb U ae l) s);have m4:=If (cV d (cO f ((gK (ah e 0) aq l c:Nat):Int))) (cO ((ef (ah e 0) aq l:Nat):Int) (jT (fb U ae l) s));obtain⟨t1,t2,t3,t4,t5,t6⟩:=Ak (Hx:=HF.push (bm x)) (aP A2) (aP AA) ag (cV (cV d (cO f ((gK (ah e 0) aq l c:Nat):Int))) (cO ((ef (ah e 0) aq l:Nat):Int) (jT (fb U ae l) s))) 0;clear cF q JT m kf kW gk6 gs6 vo ge6 gw6 gp6 ga6 gb6 w N hm w2 w3 rW p1 p3 R og1 og2 og3 og4 k_ v1 v2 v3 v4 v5 v6 tq CD rY z FZ A2 AA C_ AS K CO mU X AM po fH hG i_ jV a1 a2 a3 a4 a5 a6 WF OI i G z3 jk Ay OF FB rg qp aln kxl;generalize cV (cV d (cO f ((gK (ah e 0) aq l c:Nat):Int))) (cO ((ef (ah e 0) aq l:Nat):Int) (jT (fb U ae l) s))=zz at *
  generalize cV d (cO f ((gK (ah e 0) aq l c:Nat):Int))=za at *
  generalize cO f ((gK (ah e 0) aq l c:Nat):Int)=zm at *
  generalize cO ((ef (ah e 0) aq l:Nat):Int) (jT (fb U ae l) s)=zs at *
  generalize ((gK (ah e 0) aq l c:Nat):Int)=bv at *
  generalize ((ef (ah e 0) aq l:Nat):Int)=chv at *
  generalize jT (fb U ae l) s=wv at *
  generalize ((bZ Gn d:Nat):Int)=pd at *
  generalize ((bZ Gn f:Nat):Int)=pf at *
  unfold im at *
  refine br @mb ?_;refine jB [(7,9)] kL ax (λzf p=>?_) ?_
  .exact ZT6
  refine bB @mb @jv ?_;refine jB [(4,7),(4,10),(4,11)] kL ax (λzf p=>?_) ?_
  .simp only[gX,rI,or_false]at p;rcases p with rfl|rfl|rfl
   .refine pM (x:=.ptr (.box wb) 0) (v:=.ptr (.box z0) 0) ax O O O ax (abO z0 0) ?_ ?_<;>(simp only[fe,eE];exact qm @mb @jv @and_self)
   .refine pM (x:=.ptr (.box z0) 12) (v:=((chv:Int):I)) ax O O O ax (by simp[df,ip]) ?_ ?_<;>(simp only[fe,eE];exact jN @mb @jv @ql @and_self)
   .refine pM (x:=.ptr (.box g) 0) (v:=((wv:Int):I)) ax O O O ax (by simp[df,ip]) ?_ ?_<;>(simp only[fe,eE];exact jN @mb @jv @ql @and_self)
  refine dL @mb @jv @ql ?_;exact⟨_,_,O,by rw[kr.M]⟩
end Go.Proofs.YtcbhpkjbiehcpaaGreatDoor
end
