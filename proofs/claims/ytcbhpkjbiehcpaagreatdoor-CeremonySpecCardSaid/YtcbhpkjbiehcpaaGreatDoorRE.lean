/-
  The engine, part 52: a user's rule for a region whose last store may change places with another one.
-/
import Derived.Test.YtcbhpkjbiehcpaaGreatDoorRD
import Derived.Test.YtcbhpkjbiehcpaaGreatDoorRC
import Derived.Test.YtcbhpkjbiehcpaaGreatDoorRB
open True renaming intro->aX
open Go.Proofs.Tryz renaming prog->aa,underlying23->cT,underlying22->gm,underlying72->QJ,underlying32->kZ,underlying116->kY,func156->aa2
open Option renaming some->J,map_some->fk,none->af
open Bool renaming false->ai,true->V,and_eq_true->bm,not_eq_true->ZJ,not_eq_false'->ZI,true_and->mq
open List renaming length->F,length_cons->dY,length_append->cg,length_nil->fQ,map_cons->eD,map_nil->uz,range->bZ,range_succ->jT,foldl_append->oj,all_eq_true->eF,getElem_mem->iP,getElem?_eq_getElem->aN,getD_eq_getElem?_getD->eG,length_map->br,getElem?_eq_some_iff->aS,getElem?_map->dW,getElem?_range->P5,mem_of_getElem?->cU,length_take->cR,take_of_length_le->fR,map_eq_nil_iff->zJ,find?_append->aag,cons_append->eu,take_length->fB,mem_cons_of_mem->gj,mem_cons_self->gx,mem_cons->gL,not_mem_nil->qp,take_succ_cons->dw,take_zero->cX,getElem?_of_mem->qo,getElem?_append_left->qn,getElem?_concat_length->zI,length_pos_iff->JI,drop_of_length_le->mW,append_nil->ga,mem_filter->uA,drop_eq_getElem_cons->ss,map_append->jB,filter_append->zH,append_assoc->iE,getElem?_append_right->v_,mem_singleton->hY,all_append->sn,pairwise_cons->Cn,length_set->mX,getElem?_set->kQ,ext_getElem?->nV,mem_map->iV,getElem?_drop->oL,replicate->bB,foldl_nil->Cj,map_replicate->xx
open Int renaming toNat_natCast->fh
open And renaming intro->aj
open Nat renaming zero_le->bV,le_refl->aV,mul_le_mul->ji,beq->gX,le_of_ble_eq_true->jq,reduceEqDiff->aJ,lt_or_ge->dp,beq_refl->aaF,sub_self->qs,zero_add->nX
open Go renaming FuncId->aQ,Operand->bP
open Decidable renaming not_not->Ju
open Array renaming getElem?_eq_none->B7
open Prod renaming fst->dN
set_option maxHeartbeats 64000000
set_option maxRecDepth 100000
set_option linter.unusedSimpArgs false
set_option linter.unusedVariables false
set_option linter.constructorNameAsVariable false
set_option linter.defProp false
section
namespace Go.Proofs.YtcbhpkjbiehcpaaGreatDoor
open Go.AE Go.NT
def BJ:Tryz.f26.results.toList=[.tmp 6]:=am
def As{b}:dQ aa 52 (.ptr (.box b) 0) 0=J (.ptr (.box b) 0):=am
def At{b}:dQ aa 52 (.ptr (.box b) 0) 1=J (.ptr (.box b) 1):=am
def DX:isIface aa 3=J ai:=am
def MW:isIface aa 60=J ai:=am
def aiN:isIface aa 118=J ai:=am
def Rm(t u v)(x y z):ff aa 177 3 [(0,.iface t x),(1,.iface u y),(2,.iface v z)]=J (.list .tight 1 [[.iface t x],[.iface u y],[.iface v z]]):=am
def Yn(a b)(t):F (cA (.list [.int a,.int b,.text t]))<=60+F t:=by
 have c:=hw 9 (0+1+1+1);have d:=hw 9 (g_ a);have f:=hw 9 (g_ b);have g:=hw 9 (F t);simp only[cA,fU,dY,cg,fQ]at *
 omega
def ww:bX 4=V:=by decide+kernel
def wH{a}(h:bX a=V)(n):fb a n=((ec a.toNat n:Nat):Int):=by unfold fb;rw[av h]
def wx{a}(h:elem a=V):bX ((a:Nat):Int)=V:=by unfold bX;rw[fh,h,Bool.and_true];have:=(elem_iff.1 h).1;exact bQ M
def Ao{a}(h:bX a=V):elem a.toNat=V:=by unfold bX at h;rw[bm]at h;exact h.2
def Ap{a}(h:bX a=V):1<=a/\a<=2147483578:=by obtain⟨n,rfl,c,d,f⟩:=FZ h;have:P=2147483579:=rfl;omega
def afA{a}(h:bX a=V)(n):bX ((ec a.toNat n:Nat):Int)=V:=wx (HR (Ao h) n)
def xU{a}(h:bX a=V)(n):bX (fb a n)=V:=by rw[wH h];exact afA h n
def C6{a b}(h:bX a=V)(k:bX b=V):nI a b=((a.toNat*b.toNat%P:Nat):Int):=by unfold nI;rw[av ⟨h,k⟩]
def afz{a b}(h:bX a=V)(k:bX b=V):bX (nI a b)=V:=by rw[C6 h k];exact wx (CW (Ao h) (Ao k))
def atL(h:Heap)(c e s:Int)(k:Tok)(st:Nat)(text:List UInt8)(B:text≠[]->st=1)(hl:F text<=1000000):
 ∃r h',W5.call 26 [I c,.list k st (bI text),.agg [I e,I s]] h=J (r,h')/\r=.ret (.v (.bool (qY c text e s)))/\Ext h h':=by
 have m:=E6 c;have N:(U.agg [I e,I s]).bG=J [I e,I s]:=rfl;have l0:=Nf (aK h [I e,I s]);have l1:=Ng (aK h [I e,I s]);have g:ae (qY c text e s=(bX c&&cN e&&cN s&&decide (e=((BT ((ec Gn s*ec c.toNat (0-e)%P:Nat):Int) c text:Nat):Int)))):=⟨by rw[Int.zero_sub];rfl⟩;generalize qY c text e s=res at *
 refine bL O Tryz.func26 O ?_;unfold I at *
 by_cases hA:e<0∨s<0
 .have d1:decide ((if s<e then s else e)<0)=V:=bQ (by split<;>omega);have f:ae (res=ai):=⟨by
   rw[g.out];unfold cN;rcases hA with q|q
   .rw[b_ (M:¬0<=e)];simp
   .rw[b_ (M:¬0<=s)];simp⟩
  clear hA;refine bA @BJ @As @At (aj @a_ (aj @Ec @yX)) ?_;exact⟨_,_,O,by rw[f.out],.push _ _⟩
 have d1:decide ((if s<e then s else e)<0)=ai:=b_ (by split<;>omega);by_cases i:1073741789<=e∨1073741789<=s
 .have d2:decide (1073741789<=(if e<s then s else e))=V:=bQ (by split<;>omega);have f:ae (res=ai):=⟨by
   rw[g.out];unfold cN Qi;rcases i with q|q
   .rw[b_ (M:¬e<1073741789)];simp
   .rw[b_ (M:¬s<1073741789)];simp⟩
  clear hA i;refine bA @BJ @As @At (aj @a_ (aj @Ec @yX)) ?_;exact⟨_,_,O,by rw[f.out],.push _ _⟩
 have d2:decide (1073741789<=(if e<s then s else e))=ai:=b_ (by split<;>omega);have t:0<=e:=by omega
 have u:e<1073741789:=by omega
 have z:0<=s:=by omega
 have A:s<1073741789:=by omega
 clear hA i;cases d:bX c with
 |false=>rw[d]at m;have f:ae (res=ai):=⟨by rw[g.out,d];rfl⟩;clear d;refine bA @BJ @As @At (aj @a_ (aj @Ec @yX)) ?_;exact⟨_,_,O,by rw[f.out],.push _ _⟩
 |true=>
  rw[d]at m;have S:=WZ 4 s;have Z:=WZ c (0-e);have c4:=Gk (fb 4 s) (fb c (0-e));have w:=afz (xU ww s) (xU d (0-e));have p:nI (fb 4 s) (fb c (0-e))=((ec Gn s*ec c.toNat (0-e)%P:Nat):Int):=by rw[C6 (xU ww s) (xU d (0-e)),wH ww,wH d,fh,fh];rfl
  have f:ae (res=decide (e=((BT (nI (fb 4 s) (fb c (0-e))) c text:Nat):Int))):=⟨by rw[g.out,d,p,Hk.2 (show okF e from⟨t,u⟩),Hk.2 (show okF s from⟨z,A⟩)];rfl⟩;have H:=Ap d;have y:=Ap w;clear d p w;generalize nI (fb 4 s) (fb c (0-e))=R at *
  have j:=Yn R c text;obtain⟨K,E⟩:=aku .tight 1 [.iface 3 (.v (.int .i64 R)),.iface 3 (.v (.int .i64 c)),.iface 60 (.list k st (bI text))] [.int R,.int c,.text text]
   (.cons (.int R ⟨M,by omega⟩) (.cons (.int c ⟨M,by omega⟩) (.cons (.text k st text B M) .nil))) (λ_=>rfl) b7 (by simp[fg,fO]) M
  have o:=agV zn (cA (.list [.int R,.int c,.text text])) K M aY;have v:pc (jQ zn (cA (.list [.int R,.int c,.text text])))=BT R c text:=rfl;rw[v]at o;simp only[eD,uz]at E;generalize BT R c text=n at *
  rw[show zn=[115,105,103,110] from O]at o;have wn:IntKind.i64.wrap (0-e)=0-e:=ja M M;unfold I at *
  clear j v H y;refine bA @BJ @As @At (aj @a_ (aj @Ec @yX)) ?_;refine du jF am ?_;refine cK @BJ @As @At ?_;refine du jF am ?_;refine bA @BJ @As @At (aj @DX (aj @MW @Rm)) ?_;exact⟨_,_,O,by rw[f.out],.push _ _⟩
def BM:Tryz.f160.results.toList=[.tmp 6,.tmp 7]:=am
def OF:Tryz.f79.results.toList=[.tmp 6,.tmp 7]:=am
def uc(ah row:List Int)(k:Nat):Nat:=(bZ k).foldl (λx c=>x*ec (ag ah c).toNat (ag row c)%P) 1
def Xa(ah row)(k):uc ah row (k+1)=uc ah row k*ec (ag ah k).toNat (ag row k)%P:=by unfold uc;rw[jT,oj];rfl
def W_{ah row}(h:ah.all bX=V):∀k,k<=F ah->elem (uc ah row k)=V
 |0,_=>F3
 |k+1,c=>by rw[Xa];refine CW (W_ h k M) (HR (Ao ?_) _);rw[eF]at h;exact h _ (by rw[fS M];exact iP _)
def rO(rows:List (List Int))(ac ah:List Int)(row:Int):Int × Int:=
 if iz rows ac ah≠0 then (0,iz rows ac ah) else if decide (row<0)||decide ((F rows:Int)<=row) then (0,1) else (((rN ah (rows.getD row.toNat []):Nat):Int),0)
def aep{rows}{ac ah}(h:iz rows ac ah=0):cG rows ac=0/\F ah=cd rows/\ah.all bX=V:=by
 unfold iz at h;split at h
 .rename_i d;exact absurd h d
 .rename_i d;split at h
  .rename_i c;rw[bm,decide_eq_true_eq]at c;exact⟨by simpa using d,c.1,c.2⟩
  .cases h
def amS(h:Heap)(x y z:U)(rows:List (List Int))(ac ah:List Int)(hx:RL x rows)(E:IL y ac)(hz:IL z ah)(hl:F ah<=1000000)(row:Int):
 ∃r h',W5.call 160 [.agg [x,y],z,I row] h=J (r,h')/\r=.ret (.tuple [I (rO rows ac ah row).1,I (rO rows ac ah row).2])/\Ext h h':=by
 have bx:=ua hx E;have c1:=Sj x y z rows ac ah hx E hz hl;have b0:=aK h [x,y];have l0:=tV b0;have l1:=oc b0;have ln:=hx.dK;have kx:=ae.mk (aj hx hz);clear hx E b0;have H:ae (iz rows ac ah≠0->rO rows ac ah row=(0,iz rows ac ah)):=⟨λo=>by unfold rO;rw[av o]⟩;have A:ae (iz rows ac ah=0->row<0∨(F rows:Int)<=row->rO rows ac ah row=(0,1)):=⟨λo p=>by
  unfold rO;rw[aP (by simp[o]),av];rcases p with p|p
  .rw[bQ p];rfl
  .rw[bQ p];simp⟩
 have K:ae (iz rows ac ah=0->¬row<0->¬(F rows:Int)<=row->rO rows ac ah row=(((rN ah (rows.getD row.toNat []):Nat):Int),0)):=⟨λo p1 p2=>by unfold rO;rw[aP (by simp[o]),aP (by rw[b_ p1,b_ p2];simp)]⟩;have D:=λo=>@aep rows ac ah o;have kck:=ae.mk D;clear D;generalize rO rows ac ah row=res at *
 unfold I at *
 refine bL O Tryz.func160 O ?_;by_cases f:iz rows ac ah=0;rotate_left 1
 .have j:=ae.mk (H.out f);generalize iz rows ac ah=o at *
  refine bE @BM @a_ ?_;exact⟨_,_,O,by rw[j.out],.push _ _⟩
 rw[f]at c1;by_cases g:row<0
 .have d1:decide (row<0)=V:=bQ g;have j:=ae.mk (A.out f (.inl g));clear g f;refine cK @BM @a_ @de ?_;exact⟨_,_,O,by rw[j.out],.push _ _⟩
 have d1:decide (row<0)=ai:=b_ g;by_cases q:(F rows:Int)<=row
 .have d2:decide ((F rows:Int)<=row)=V:=bQ q;have j:=ae.mk (A.out f (.inr q));clear g f q;refine cK @BM @a_ @de ?_;exact⟨_,_,O,by rw[j.out],.push _ _⟩
 have d2:decide ((F rows:Int)<=row)=ai:=b_ q;have j:=ae.mk (K.out f g q);obtain⟨q1,q2,q3⟩:=kck.out f;obtain⟨w1,w2,w3,w4⟩:=ub q1;have d:row.toNat<F rows:=by omega
 have m:=w3 _ (iP d);rw[<-mI (t:=rows) d]at m;generalize hR:rows.getD row.toNat []=R at *
 have u:F R=F ah:=by rw[m.1,q2]
 have eI:F ah<=64:=by rw[<-u];exact m.2.2.1
 obtain⟨z1,z2,s,rfl,hs,fa,Z⟩:=kx.out.1;obtain⟨kz,sz,rfl,S⟩:=kx.out.2;have eo:z2=1:=hs (by intro o;rw[o]at d;simp at d);subst eo;obtain⟨a,v⟩:∃a,s[row.toNat]?=J a:=⟨_,aN M⟩;have hv:rows[row.toNat]?=J R:=by rw[<-hR,eG,aN d];rfl
 obtain⟨ka,sa,rfl,N⟩:=Z _ a R v hv;have ld:=iN (H:=h.push [.list z1 1 (s.map λa=>[a]),y]) (s:=1) v;have B:=ae.mk (aj S (aj N q3));have Aw:0<=row:=by omega
 have tC:row<(F rows:Int):=by omega
 have eC:F (s.map λa=>[a])=F rows:=by rw[br];exact fa
 have uS:=cE R;have Ue:=cE ah;have u23:=cT;have u22:=gm;have z23:=gV;have z3:=eR;clear hs Z S N v hv hR m w1 w2 w3 w4 q1 q2 q3 H A K f kx kck hz g q;refine cK @BM @a_ @de ?_;refine b9 (λz4 e z0=>∃c:Nat,c<=F ah/\z4=F ah-c/\e.get 2=.v (.int .i64 row)/\e.get 3=.ptr (.box (F h.boxes)) 0/\e.get 6=.v (.int .i64 (uc ah R c:Nat))/\e.get 28=.list kz sz (ints ah)/\e.get 29=.v (.int .i64 (F ah:Nat))/\e.get 30=.v (.int .i64 (c:Nat))/\e.defers=[]/\z0=h.push [.list z1 1 (s.map λa=>[a]),y]) ?_ (F ah) _ _ ?_;rotate_left 1
 .refine⟨0,bV _,O,?_,?_,?_,?_,?_,?_,?_,O⟩<;>exact gR
 rintro z4 e z0 ⟨c,hj,rfl,g2,g3,g6,g28,g29,g30,hd,rfl⟩;by_cases k:c<F ah
 .have DW:sz=1:=B.out.1 (by intro o;rw[o]at k;simp at k);subst DW;have Gx:sa=1:=B.out.2.1 (by intro o;rw[o]at u;simp at u;omega);subst Gx;have fH:(c:Int)<(F ah:Int):=by omega
  have auW:(c:Int)<(F R:Int):=by omega
  have lc:=eJ (H:=h.push [.list z1 1 (s.map λa=>[a]),y]) (l:=ah) (i:=c) (s:=1) k;have lr:=eJ (H:=h.push [.list z1 1 (s.map λa=>[a]),y]) (l:=R) (i:=c) (s:=1) M;have w:bX (ag ah c)=V:=by have:=B.out.2.2;rw[eF]at this;exact this _ (by rw[fS k];exact iP _)
  have c2:=Gl (ag ah c) (ag R c);have c3:=Gk ((uc ah R c:Nat):Int) (fb (ag ah c) (ag R c));have hK:=wx (W_ (row:=R) B.out.2.2 c hj);have e3:nI ((uc ah R c:Nat):Int) (fb (ag ah c) (ag R c))=((uc ah R (c+1):Nat):Int):=by rw[C6 hK (xU w _),wH w,Xa,fh,fh]
  have e4:ox (ag ah c)=0:=by unfold ox;rw[av w]
  have e5:rq ((uc ah R c:Nat):Int) (fb (ag ah c) (ag R c))=0:=by unfold rq;rw[av ⟨hK,xU w _⟩]
  rw[e4]at c2;rw[e3,e5]at c3;clear w hK e3 e4 e5;generalize fb (ag ah c) (ag R c)=pw at *
  generalize ag ah c=cj at *
  generalize ag R c=rj at *
  unfold I at *
  refine cK @BM @de @aT ?_;exact⟨F ah-(c+1),by omega,c+1,by omega,O,by simp⟩
 .have:c=F ah:=by omega
  subst this;have e:uc ah R (F ah)=rN ah R:=rfl;refine bg @BM ?_;exact⟨_,_,O,by rw[j.out,<-e],.push _ _⟩
def pP(rows:List (List Int))(ac ah:List Int)(p:Int × Int):Bool × Int:=
 if iz rows ac ah≠0 then (ai,iz rows ac ah) else if rU rows p=ai then (ai,340) else (decide (ec Gn p.2=rN ah (rows.getD p.1.toNat [])),0)
def agi(h:Heap)(x y z:U)(rows:List (List Int))(ac ah:List Int)(hx:RL x rows)(E:IL y ac)(s:IL z ah)(H:F ah<=1000000)(a v:Int):
 ∃r h',W5.call 79 [.agg [x,y],z,.agg [I a,I v]] h=J (r,h')/\r=.ret (.tuple [.v (.bool (pP rows ac ah (a,v)).1),I (pP rows ac ah (a,v)).2])/\Ext h h':=by
 have bx:=ua hx E;have b2:(U.agg [I a,I v]).bG=J [I a,I v]:=rfl;have Z:=Sj x y z rows ac ah hx E s H;have p:=an6 x y rows ac hx E a v;obtain⟨_,S,q,rfl,x3⟩:=amS ((h.push [x,y]).push [I a,I v]) x y z rows ac ah hx E s H a;have w:=Gl 4 v;have A:ox 4=0:=by unfold ox;rw[av ww]
 rw[A,wH ww]at w;have N:((h.push [x,y]).push [I a,I v]).boxes[h.boxes.length]?=J [x,y]:=aM (aK h [x,y]);have g:=aK (h.push [x,y]) [I a,I v];have l0:=tV N;have l1:aD aa Gt ((h.push [x,y]).push [I a,I v]) 110 (.ptr (.box (F (h.push [x,y]).boxes)) 0)=J (.agg [I a,I v]):=by rw[fC am (by kernel_rfl:cB aa 110=J 2) g (aV 2)];rfl
 have l2:=Nf g;have K:aD aa Gt S 3 (.ptr (.box (F (h.push [x,y]).boxes)) 1)=J (I v):=Ng (x3.box _ _ g);have kX:=ae.mk (((Ext.push h [x,y]).trans (.push _ [I a,I v])).trans x3);have u:=ae.mk ((Ext.push h [x,y]).trans (.push _ [I a,I v]));have i:ae (iz rows ac ah≠0->pP rows ac ah (a,v)=(ai,iz rows ac ah)):=⟨λo=>by unfold pP;rw[av o]⟩;have j:ae (iz rows ac ah=0->rU rows (a,v)=ai->pP rows ac ah (a,v)=(ai,340)):=⟨λo t=>by unfold pP;rw[aP (by simp[o]),av t]⟩;have k:ae (iz rows ac ah=0->rU rows (a,v)=V->pP rows ac ah (a,v)=(decide (ec Gn v=rN ah (rows.getD a.toNat [])),0)):=⟨λo t=>by unfold pP;rw[aP (by simp[o]),aP (by simp[t])]⟩;have m:ae (iz rows ac ah=0->rU rows (a,v)=V->rO rows ac ah a=(((rN ah (rows.getD a.toNat []):Nat):Int),0)):=⟨λo t=>by unfold rU at t;simp only[bm,decide_eq_true_eq]at t;unfold rO;rw[aP (by simp[o]),aP];rw[b_ (M:¬a<0),b_ (M:¬(F rows:Int)<=a)];simp⟩;clear hx E s N g x3 A;generalize pP rows ac ah (a,v)=res at *
 refine bL O Tryz.func79 O ?_;by_cases c:iz rows ac ah=0;rotate_left 1
 .have f:=ae.mk (i.out c);clear q p K;generalize iz rows ac ah=o at *
  unfold I at *
  refine bE @OF @a_ ?_;exact⟨_,_,O,by rw[f.out],u.out⟩
 rw[c]at Z;cases d:rU rows (a,v) with
 |false=>
  have f:=ae.mk (j.out c d);rw[d]at p;clear q d c K;unfold I at *
  refine bE @OF @a_ ?_;exact⟨_,_,O,by rw[f.out],u.out⟩
 |true=>
  have f:=ae.mk (k.out c d);rw[m.out c d]at q;rw[d]at p;clear d c;have B:(4:Int).toNat=Gn:=rfl;rw[B]at w;have D:decide (ec Gn v=rN ah (rows.getD a.toNat []))=decide (((ec Gn v:Nat):Int)=((rN ah (rows.getD a.toNat []):Nat):Int)):=by rw[decide_eq_decide];omega
  rw[D]at f;generalize ((ec Gn v:Nat):Int)=p1 at *
  generalize ((rN ah (rows.getD a.toNat []):Nat):Int)=p2 at *
  clear i j k m D B;unfold I at *
  refine bA @OF @a_ @F6 @F7 ?_;exact⟨_,_,O,by rw[f.out],kX.out⟩
def vD:Tryz.f71.results.toList=[.tmp 6,.tmp 7,.tmp 8]:=am
def apT{T f}{n}(d:aa.underlying T=J (.slice f))(hi:∃i,aa.info? f=J i/\i.size=n/\i.bytes<=64/\(i.zero.map λz=>z.cells.size)=J n)(t:0<n){H}{k}{n0 sz}{es}{r}
 (s:F es<1000000) (o:sz=n∨(es=[]/\k=.nil)) (m:db n0 H k):gb aa H #[T,T] (.list k sz es) (.list .tight n [r])=J (.list (.free H.tn) n (es++[r]),H.app k):=by
 obtain⟨i,g,c,p,j⟩:=hi;have q:=ji (M:F es+1<=1000000) p;have:=zX (P:=aa) (h:=H) (n0:=n0) (k:=k) (sz:=sz) (es:=es) (new:=[r]) (x:=.list .tight n [r]) (t1:=T) d (.inl ⟨f,d⟩) g M (by rw[c];exact j) (by rw[c];unfold jx rowsOf;simp) b7 (by simp;omega) (by simp;omega) (by rw[c];exact o) m
 rwa [c]at this
def aiR:∃i,aa.info? 110=J i/\i.size=2/\i.bytes<=64/\(i.zero.map λz=>z.cells.size)=J 2:=by
 have h:(match aa.info? 110 with|some i=>gX i.size 2&&Nat.ble i.bytes 64&&decide ((i.zero.map λz=>z.cells.size)=J 2)|none=>ai)=V:=am;cases c:aa.info? 110 with
 |none=>rw[c]at h;cases h
 |some i=>rw[c]at h;simp only[bm,decide_eq_true_eq]at h;exact⟨i,O,Nat.eq_of_beq_eq_true h.1.1,jq h.1.2,h.2⟩
def bh(p:Int × Int):List U:=[.v (.int .i64 p.1),.v (.int .i64 p.2)]
def bN(l:List (Int × Int)):List (List U):=l.map bh
def SL(x:U)(l:List (Int × Int)):Prop:=∃d c,x=.list d c (bN l)/\(l≠[]->c=2)
def ou(rows:List (List Int))(s:List Int):List (Int × Int):=(bZ (F rows)).map λc=>(((c:Nat):Int),wu (rows.getD c []) s)
def afl(rows)(s):F (ou rows s)=F rows:=by unfold ou;simp
def afk{rows}{s r}{i}(h:rows[i]?=J r):(ou rows s)[i]?=J (((i:Nat):Int),wu r s):=by unfold ou;have c:=(aS.1 h).1;rw[dW,P5 c,fk,eG,h];rfl
def pM(rows:List (List Int))(ac:List Int)(d:Int)(c:List Int):Int:=
 if cG rows ac≠0 then cG rows ac else if cN d&&c.all cN&&decide ((F c:Int)=(cd rows:Nat)-1) then 0 else 1
def Gr(h H:Heap)(t:Tok):Prop:=Ext h H/\c_ H=V/\db h.tn H t
def Gr.app{h H}{t}(g:Gr h H t):Gr h (H.app t) (.free H.tn):=by have c:=Grown.one g.2.2 g.2.1 g.1.tn;exact⟨c.ext g.1 (aV _),c.ok,c.can⟩
def Gr.push{h H}{t}(g:Gr h H t)(cs):Gr h (H.push cs) t:=⟨g.1.trans (.push _ _),g.2.1,by rw[xP];exact g.2.2⟩
def Gr.nil{h H}(x:Ext h H)(o:c_ H=V):Gr h H .nil:=⟨x,o,.inl O⟩
def ac8(x y)(hx:x.cW=V)(E:y.cW=V):ff aa 22 2 [(0,x),(1,y)]=J (.list .tight 1 [[x],[y]]):=by cases x<;>first|(cases hx;done)|(cases y<;>first|(cases E;done)|kernel_rfl)
def IL.cW{x}{l}(h:IL x l):x.cW=V:=by obtain⟨c,d,rfl,-⟩:=h;rfl
def adj(a b):ff aa 72 1 [(0,.agg [.v (.int .i64 a),.v (.int .i64 b)])]=J (.list .tight 2 [[.v (.int .i64 a),.v (.int .i64 b)]]):=am
def acI(a b):iy aa 110 [(0,.v (.int .i64 a)),(1,.v (.int .i64 b))]=J (.agg [.v (.int .i64 a),.v (.int .i64 b)]):=am
def afi(h:Heap)(fJ:c_ h=V)(x y z:U)(rows:List (List Int))(ac d:List Int)(c:Int)(hx:RL x rows)(E:IL y ac)(hz:IL z d)(hl:F d<=1000)(rD:F rows<=1000000):
 ∃r h',W5.call 71 [.agg [x,y],I c,z] h=J (r,h')/\
  ((pM rows ac c d≠0/\r=.ret (.tuple [.list .nil 0 [],.list .nil 0 [],I (pM rows ac c d)]))∨
  (pM rows ac c d=0/\∃t1 s1 t2 s2,r=.ret (.tuple [.list t1 s1 (bN (ou rows (c::d))),.list t2 s2 (ints (pJ (c::d))),I 0])/\(ou rows (c::d)≠[]->s1=2)/\s2=1)):=by
 have bx:=ua hx E;have c1:=KK x y rows ac hx E;have t:=Wr (.list .tight 1 [[.v (.int .i64 c)]]) [c] (MX c) b7;rw[(b7:[c].all cN=cN c)]at t;have Z:=Wr z d hz M;have c4:=aeL x y rows ac hx E;obtain⟨z2,oz,c5⟩:=ae0 (.list .tight 1 [[.v (.int .i64 c)]]) z [c] d (MX c) hz (by simp;omega);have b0:=aK h [x,y];have l0:=tV b0;have l1:=oc b0;have lz:=hz.dK;have bl:=qw c;have blt:=ac8 (.list .tight 1 [[.v (.int .i64 c)]]) z O hz.cW;have lx:=hx.dK;have GU:ae (cG rows ac≠0->pM rows ac c d=cG rows ac):=⟨λo=>by unfold pM;rw[av o]⟩;have rB:ae (cG rows ac=0->pM rows ac c d=if cN c&&d.all cN&&decide ((F d:Int)=(cd rows:Nat)-1) then 0 else 1):=⟨λo=>by unfold pM;rw[aP (by simp[o])]⟩;have kok:=ae.mk (λo=>@ub rows ac o);have kcp:=ae.mk (λo=>@uI rows ac o);have kx:=ae.mk (aj hx oz);have Dn:(cd rows:Int)<=1000000∨cG rows ac≠0:=by
  by_cases o:cG rows ac=0
  .have:=(uI o).2;exact .inl M
  .exact .inr o
 clear hx E hz b0 oz;generalize pM rows ac c d=res at *
 unfold I at *
 refine bL O Tryz.func71 O ?_;by_cases m:cG rows ac=0;rotate_left 1
 .have e1:=GU.out m;have j:=ae.mk (aj m e1);clear e1 Dn t Z c4 c5;generalize cG rows ac=o at *
  refine bE @vD @a_ ?_;exact⟨_,_,O,.inl ⟨by rw[j.out.2];exact j.out.1,by rw[j.out.2]⟩⟩
 rw[m]at c1;have H:=rB.out m;have hcp:=kcp.out m;have A:IntKind.i64.wrap ((cd rows:Nat)-1:Int)=(cd rows:Nat)-1:=ja M M;clear GU rB kcp Dn;have bad:∀(o:(cN c&&d.all cN&&decide ((F d:Int)=(cd rows:Nat)-1))=ai),res=1:=λo=>by rw[H,aP (by simp[o])]
 have good:∀(o:(cN c&&d.all cN&&decide ((F d:Int)=(cd rows:Nat)-1))=V),res=0:=λo=>by rw[H,av o]
 have kb:=ae.mk bad;have kg:=ae.mk good;clear bad good H;cases k:cN c with
 |false=>rw[k]at t;have j:ae (res=1):=⟨kb.out (by rw[k];rfl)⟩;clear k m Z c4 c5;refine bE @vD @a_ ?_;exact⟨_,_,O,.inl ⟨by rw[j.out];decide,by rw[j.out]⟩⟩
 |true=>
 rw[k]at t;cases q:d.all cN with
 |false=>rw[q]at Z;have j:ae (res=1):=⟨kb.out (by rw[k,q];rfl)⟩;clear k q m c4 c5;refine bE @vD @a_ ?_;exact⟨_,_,O,.inl ⟨by rw[j.out];decide,by rw[j.out]⟩⟩
 |true=>
 rw[q]at Z;by_cases h3:(F d:Int)=(cd rows:Nat)-1;rotate_left 1
 .have d3:decide ((F d:Int)=((cd rows:Nat):Int)-1)=ai:=b_ h3;have j:ae (res=1):=⟨kb.out (by rw[k,q,d3];rfl)⟩;clear k q h3 m c5;refine bE @vD @a_ ?_;exact⟨_,_,O,.inl ⟨by rw[j.out];decide,by rw[j.out]⟩⟩
 have d3:decide ((F d:Int)=((cd rows:Nat):Int)-1)=V:=bQ h3;have j:ae (res=0):=⟨kg.out (by rw[k,q,d3];rfl)⟩;have qG:F (c::d)=cd rows:=by simp;omega
 obtain⟨w1,w2,w3,w4⟩:=kok.out m;have kw:=ae.mk w3;have ks:=ae.mk qG;rw[List.singleton_append]at kx;obtain⟨z6,z5,xs,rfl,hs,fa,mM⟩:=kx.out.1;obtain⟨kz,S,rfl,gC⟩:=kx.out.2;have kk:=ae.mk (aj hs (aj mM gC));have aiB:S=1:=gC b7;subst aiB;have u23:=cT;have u22:=gm;have u36:=QJ;have z23:=gV;have z3:=eR;have eC:F (xs.map λa=>[a])=F rows:=by rw[br];exact fa
 have uS:=cE (c::d);clear hs mM gC w1 w3 w4 k q h3 m qG kok kb kg;generalize hS:c::d=g at *
 refine cK @vD @a_ @de ?_;refine bC.gen λi f w ek dm=>?_;have f6:i.get 6=.list .nil 0 []:=by rw[f];exact gS
 have f7:i.get 7=.list .nil 0 []:=by rw[f];exact gS
 have f10:i.get 10=.list kz 1 (ints g):=by rw[f];exact gS
 have f45:i.get 45=.list z6 z5 (xs.map λa=>[a]):=by rw[f];exact gS
 have f46:i.get 46=.v (.int .i64 (F rows:Nat)):=by rw[f];exact gS
 have f47:i.get 47=.v (.int .i64 (0:Nat)):=by rw[f];exact gR
 have fd:i.defers=[]:=by rw[w];exact gS
 clear f w ek dm c1 t Z c4 c5 l0 l1 bl blt A d3 lz;refine b9 (λz4 e z1=>∃(s:Nat) (z0:Tok) (S:Nat),s<=F rows/\z4=F rows-s/\ae (Gr h z1 z0)/\ae (S=2∨(bN ((ou rows g).take s)=[]/\z0=.nil))/\e.get 6=.list z0 S (bN ((ou rows g).take s))/\e.get 7=.list .nil 0 []/\e.get 10=.list kz 1 (ints g)/\e.get 45=.list z6 z5 (xs.map λa=>[a])/\e.get 46=.v (.int .i64 (F rows:Nat))/\e.get 47=.v (.int .i64 (s:Nat))/\e.defers=[]) ?_ (F rows) _ _ ?_;rotate_left 1
 .exact⟨0,.nil,0,bV _,O,⟨Gr.nil (.push _ _) fJ⟩,⟨.inr ⟨O,O⟩⟩,f6,f7,f10,f45,f46,f47,fd⟩
 clear f6 f7 f10 f45 f46 f47 fd;rintro z4 e z1 ⟨s,z0,S,hi,rfl,B,ksz,g6,g7,g10,g45,g46,g47,hd⟩;by_cases dj:s<F rows
 .have eo:z5=1:=kk.out.1 (by intro o;rw[o]at dj;simp at dj);subst eo;obtain⟨a,yi⟩:∃a,xs[s]?=J a:=⟨_,aN M⟩;obtain⟨r,K⟩:∃r,rows[s]?=J r:=⟨_,aN dj⟩;have ld:=iN (H:=z1) (s:=1) yi;have UI:=kk.out.2.1 s a r yi K;have hrw:=kw.out r (cU K);have c6:=atc a (.list kz 1 (ints g)) r g UI ⟨_,_,O,λ_=>rfl⟩ M (by have:=ks.out;omega);have fH:(s:Int)<(F rows:Int):=by omega
  have ap:=apT (T:=72) (r:=bh (((s:Nat):Int),wu r g)) u36 aiR aY (by unfold bN;rw[br,cR];omega) ksz.out B.out.2.2;have kG2:=ae.mk B.out.app;have e9:bN ((ou rows g).take s)++[bh (((s:Nat):Int),wu r g)]=bN ((ou rows g).take (s+1)):=by rw[fY (afk K)];unfold bN;simp
  rw[e9]at ap;clear yi K UI hrw e9;generalize wu r g=dv at *
  unfold I bh at *
  refine bA @vD @aT @acI @adj ?_;exact⟨F rows-(s+1),by omega,s+1,_,2,by omega,O,kG2,⟨.inl O⟩,by simp⟩
 have gf:s=F rows:=by omega
 subst gf;rw[fR (by rw[afl];exact aV _)]at g6 ksz;have kX:=ae.mk B.out.1;have ko:=ae.mk B.out.2.1;clear B;refine bg @vD ?_;refine bC.gen λi f w ek dm=>?_;have f6:i.get 6=.list z0 S (bN (ou rows g)):=by rw[f];simp only[gW,reduceIte,aJ,aB];exact g6
 have f7:i.get 7=.list .nil 0 []:=by rw[f];simp only[gW,reduceIte,aJ,aB];exact g7
 have f61:i.get 61=.list kz 1 (ints g):=by rw[f];exact gS
 have f62:i.get 62=.v (.int .i64 (F g:Nat)):=by rw[f];exact gS
 have f63:i.get 63=.v (.int .i64 (0:Nat)):=by rw[f];exact gR
 have fd:i.defers=[]:=by rw[w];simp only[gW,reduceIte,aJ,aB];exact hd
 clear f w ek dm g6 g7 g10 g45 g46 g47 hd;have hSl:F g<=1001:=by rw[<-hS];simp;omega
 have e4:ox 4=0:=by unfold ox;rw[av ww]
 clear hS;have eI:F (pJ g)=F g:=by unfold pJ;simp
 refine b9 (λz4 e H2=>∃(p:Nat) (t2:Tok) (sz2:Nat),p<=F g/\z4=F g-p/\ae (Gr h H2 t2)/\ae (sz2=1∨((pJ g).take p=[]/\t2=.nil))/\e.get 6=.list z0 S (bN (ou rows g))/\e.get 7=.list t2 sz2 (ints ((pJ g).take p))/\e.get 61=.list kz 1 (ints g)/\e.get 62=.v (.int .i64 (F g:Nat))/\e.get 63=.v (.int .i64 (p:Nat))/\e.defers=[]) ?_ (F g) _ _ ?_;rotate_left 1
 .exact⟨0,.nil,0,bV _,O,⟨Gr.nil kX.out ko.out⟩,⟨.inr ⟨O,O⟩⟩,f6,f7,f61,f62,f63,fd⟩
 clear f6 f7 f61 f62 f63 fd;rintro z4 e H2 ⟨p,t2,sz2,hj,rfl,B,N,g6,g7,g61,g62,g63,hd⟩;by_cases D:p<F g
 .have ld:=eJ (H:=H2) (l:=g) (i:=p) (s:=1) D;have t:=Gl 4 (ag g p);rw[e4,wH ww]at t;have hG:(4:Int).toNat=Gn:=rfl;rw[hG]at t;have fH:(p:Int)<(F g:Int):=by omega
  have K:(pJ g)[p]?=J ((ec Gn (ag g p):Nat):Int):=by unfold pJ;rw[dW,aN D,fS D];rfl
  have ap:=wi (x:=((ec Gn (ag g p):Nat):Int)) (es:=(pJ g).take p) (by rw[cR];omega) N.out B.out.2.2;have kG2:=ae.mk B.out.app;rw[<-fY K]at ap;have bl:=qw ((ec Gn (ag g p):Nat):Int);clear K hG;generalize ((ec Gn (ag g p):Nat):Int)=pv at *
  generalize ag g p=sj at *
  unfold I at *
  refine bE @vD @aT ?_;exact⟨F g-(p+1),by omega,p+1,_,1,by omega,O,kG2,⟨.inl O⟩,by simp⟩
 .have pV:p=F g:=by omega
  subst pV;rw[fR M]at g7 N;refine bg @vD ?_;refine⟨_,_,O,.inr ⟨j.out,_,_,_,_,O,λo=>?_,?_⟩⟩
  .rcases ksz.out with z|⟨z,-⟩
   .exact z
   .exact absurd (zJ.1 z) o
  .rcases N.out with z|⟨z,-⟩
   .exact z
   .exfalso;have k:=ks.out;have q:F (pJ g)=0:=(by rw[z];rfl);omega
def aL(p:Pr):List U:=[.v (.int .i64 p.aU),.v (.int .i64 p.no),.v (.int .i64 p.d),.v (.int .i64 p.e)]
def zA:(fM aa 46).bind U.bG=J (aL ⟨0,0,0,0⟩):=am
def qh:cB aa 46=J 4:=am
def QV:fx aa 46=J V:=am
def zr{H:Heap}(p):bY aa (H.push (aL ⟨0,0,0,0⟩)) 46 (.ptr (.box (F H.boxes)) 0) (.agg (aL p))=J (H.push (aL p)):=kL O qh O rfl
def nj{H}{b}{p}(c:H.boxes[b]?=J (aL p)):aD aa Gt H 46 (.ptr (.box b) 0)=J (.agg (aL p)):=by rw[fC QV qh c (aV 4)];rfl
def I6(n:Int):List U:=[.v (.int .u32 n)]
def UL(x:U)(l:List Int):Prop:=(∃d c,x=.list d c (l.map I6)/\(l≠[]->c=1))/\∀n∈l,0<=n/\n<4294967296
def aj3{H}{l}{i s}{p}(h:l[i]?=J p):aD aa Gt H 3 (.elem s (bN l) i 0)=J (.v (.int .i64 p.1)):=by rw[oA dS (row:=bh p) (by unfold bN;rw[dW,h];rfl)];rfl
def aj4{H}{l}{i s}{p}(h:l[i]?=J p):aD aa Gt H 3 (.elem s (bN l) i 1)=J (.v (.int .i64 p.2)):=by rw[oA dS (row:=bh p) (by unfold bN;rw[dW,h];rfl)];rfl
def abU:fx aa 110=J V:=am
def YZ:cB aa 110=J 2:=am
def aj2{H}{l}{i s}{p}(h:l[i]?=J p):aD aa Gt H 110 (.elem s (bN l) i 0)=J (.agg [.v (.int .i64 p.1),.v (.int .i64 p.2)]):=by rw[D_ abU YZ (row:=bh p) (by unfold bN;rw[dW,h];rfl) (aV 2)];rfl
def wF{sz i}{es}:dQ aa 110 (.elem sz es i 0) 0=J (.elem sz es i 0):=am
def SM{sz i}{es}:dQ aa 110 (.elem sz es i 0) 1=J (.elem sz es i 1):=am
def vG(l):F (bN l)=F l:=br _
def Ir:Tryz.f154.results.toList=[.tmp 4]:=am
def Om:Tryz.f151.results.toList=[.tmp 4]:=am
def bH(l:List Pr):List (List U):=l.map aL
def HO(l):F (bH l)=F l:=br _
def PL(x:U)(l:List Pr):Prop:=∃d c,x=.list d c (bH l)/\(l≠[]->c=4)
def p_{H}{l}{i s}{p}(h:l[i]?=J p):aD aa Gt H 46 (.elem s (bH l) i 0)=J (.agg (aL p)):=by rw[D_ QV qh (row:=aL p) (by unfold bH;rw[dW,h];rfl) (aV 4)];rfl
def PL.dK{x}{l}(h:PL x l):dK aa 32 x=J (.v (.int .i64 (F l:Nat))):=by obtain⟨d,f,rfl,-⟩:=h;have c:=kZ;unfold Go.AE.dK;rw[c];simp only[HO]
def aiS(g:aQ)(aR:List U)(p:Pr->Bool)(h:Heap)(x:U)(l:List Pr)(hx:PL x l)(hl:F l<=1000000)
 (hp:∀q∈l,∀H,Ext h H->∃H',W5.call g (.agg (aL q)::aR) H=J (.ret (.v (.bool (p q))),H')/\Ext H H'):
 ∃r h',W5.call 154 [x,.func (.func g) [] aR] h=J (r,h')/\Ext h h'/\((l.find? p=af/\r=.ret (I (-1)))∨∃(i:Nat) (q:Pr),r=.ret (I (i:Nat))/\l[i]?=J q/\l.find? p=J q):=by
 obtain⟨z0,E,rfl,t⟩:=hx;have w:=ae.mk (aj hp t);clear hp t;have S:=kZ;have Z:=qh;have K:=HO l;unfold I;refine bL O Tryz.func154 O ?_;refine bg @Ir ?_;refine b9 (λN e H=>∃i:Nat,i<=F l/\N=F l-i/\ae ((l.take i).find? p=af)/\ae (Ext h H)/\e.get 0=.list z0 E (bH l)/\e.get 1=.func (.func g) [] aR/\e.get 7=.v (.int .i64 (F l:Nat))/\e.get 8=.v (.int .i64 (i:Nat))/\e.defers=[]) ?_ (F l) _ _ ?_;rotate_left 1
 .refine⟨0,bV _,O,⟨O⟩,⟨.refl _⟩,?_,?_,?_,?_,?_⟩<;>exact gR
 rintro N e H ⟨i,hi,rfl,o,m,g0,g1,g7,g8,hd⟩;by_cases d:i<F l
 .have u:E=4:=w.out.2 (by intro q;rw[q]at d;simp at d);subst u;obtain⟨q,f⟩:∃q,l[i]?=J q:=⟨_,aN d⟩;have ld:=p_ (H:=H) (s:=4) f;obtain⟨H',hc,s⟩:=w.out.1 q (cU f) H m.out;have k:=ae.mk (m.out.trans s);have A:(i:Int)<(F l:Int):=by omega
  have y:=ae.mk f;have D:=ae.mk (fY f);clear s f;cases c:p q with
  |true=>rw[c]at hc;have j:l.find? p=J q:=(by have e:l=l.take i++q::l.drop (i+1):=(by rw[<-List.getElem_of_getElem? y.out|>.2];simp);rw[e,aag,o.out,List.find?_cons_of_pos c];rfl);have B:=ae.mk j;clear j c;refine cK @Ir @aT @eu.{0} ?_;exact⟨_,_,O,k.out,.inr ⟨i,q,O,y.out,B.out⟩⟩
  |false=>rw[c]at hc;have z:ae ((l.take (i+1)).find? p=af):=⟨by rw[D.out,aag,o.out];simp[c]⟩;clear c;refine cK @Ir @aT @eu.{0} ?_;exact⟨F l-(i+1),by omega,i+1,by omega,O,z,by first|exact k|trivial,by simp⟩
 .have:i=F l:=by omega
  subst this;have:=o.out;rw[fB]at this;have v:=ae.mk this;clear this;refine bg @Ir ?_;exact⟨_,_,O,m.out,.inl ⟨v.out,O⟩⟩
def agC{a b}(c:elem a=V)(d:elem b=V):nI ((a:Nat):Int) ((b:Nat):Int)=((a*b%P:Nat):Int):=by rw[C6 (wx c) (wx d),fh,fh]
def N8{α:Type}{f:α->Nat}:∀{l:List α} (_:∀p∈l,elem (f p)=V) {k:Nat} (_:elem k=V),elem (l.foldl (λx p=>x*f p%P) k)=V
 | [],_,_,c=>c
 |a::l,h,k,c=>N8 (l:=l) (λp hp=>h p (gj _ hp)) (CW c (h a gx))
def amQ(g:aQ)(first aR:List U)(f:Pr->Nat)(h:Heap)(x:U)(l:List Pr)(hx:PL x l)(hl:F l<=1000000)(v:∀q∈l,elem (f q)=V)
 (hp:∀q∈l,∀H,Ext h H->∃H',W5.call g (first++[.agg (aL q)]++aR) H=J (.ret (I (f q:Nat)),H')/\Ext H H'):
 ∃r h',W5.call 151 [x,.func (.func g) first aR] h=J (r,h')/\Ext h h'/\r=.ret (I ((l.foldl (λx q=>x*f q%P) 1:Nat):Int)):=by
 obtain⟨z1,K,rfl,w⟩:=hx;have j:=ae.mk (aj hp (aj w v));clear hp w v;have u29:=kZ;have z85:=qh;have zc:=zA;have Z:=HO l;unfold I;refine bL O Tryz.func151 O ?_;refine bg @Om ?_;refine b9 (λz0 e H=>∃c:Nat,c<=F l/\z0=F l-c/\ae (Ext h H)/\e.get 1=.func (.func g) first aR/\e.get 5=.v (.int .i64 (((l.take c).foldl (λx q=>x*f q%P) 1:Nat):Int))/\e.get 8=.list z1 K (bH l)/\e.get 9=.v (.int .i64 (F l:Nat))/\e.get 10=.v (.int .i64 (c:Nat))/\e.defers=[]) ?_ (F l) _ _ ?_;rotate_left 1
 .refine⟨0,bV _,O,⟨.refl _⟩,?_,?_,?_,?_,?_,?_⟩<;>exact gR
 rintro z0 e H ⟨c,hi,rfl,p,g1,B,g8,g9,S,hd⟩;by_cases i:c<F l
 .have y:K=4:=j.out.2.1 (by intro q;rw[q]at i;simp at i);subst y;obtain⟨q,m⟩:∃q,l[c]?=J q:=⟨_,aN i⟩;have k:=cU m;have ld:=p_ (H:=H) (s:=4) m;have st:=zr (H:=H) q;have l2:=nj (aK H (aL q));obtain⟨H',hc,u⟩:=j.out.1 q k (H.push (aL q)) (p.out.trans (.push _ _));have z:=ae.mk ((p.out.trans (.push H (aL q))).trans u);have D:(c:Int)<(F l:Int):=by omega
  have d:elem ((l.take c).foldl (λx q=>x*f q%P) 1)=V:=N8 (λz2 hp=>j.out.2.2 z2 (List.mem_of_mem_take hp)) F3;have A:=Gk (((l.take c).foldl (λx q=>x*f q%P) 1:Nat):Int) ((f q:Nat):Int);have s:rq (((l.take c).foldl (λx q=>x*f q%P) 1:Nat):Int) ((f q:Nat):Int)=0:=by unfold rq;rw[av ⟨wx d,wx (j.out.2.2 q k)⟩]
  have t:(l.take c).foldl (λx q=>x*f q%P) 1*f q%P=(l.take (c+1)).foldl (λx q=>x*f q%P) 1:=by rw[fY m,oj];rfl
  rw[agC d (j.out.2.2 q k),s,t]at A;clear u m s t d k;generalize (l.take c).foldl (λx q=>x*f q%P) 1=N at *
  generalize o:(l.take (c+1)).foldl (λx q=>x*f q%P) 1=abt at *
  have E:=ae.mk o;clear o;generalize f q=fq at *
  unfold I at *
  refine cK @Om @aT @eu.{0} ?_;exact⟨F l-(c+1),by omega,c+1,by omega,O,by first|exact z|trivial,by simp[E.out]⟩
 .have:c=F l:=by omega
  subst this;rw[fB]at B;refine bg @Om ?_;exact⟨_,_,O,p.out,O⟩
def xe:Tryz.f149.results.toList=[.tmp 2]:=am
def apL:Tryz.f217.results.toList=[.tmp 2]:=am
def XZ:Tryz.f83.results.toList=[.tmp 4]:=am
def IB:Tryz.f152.results.toList=[.tmp 4]:=am
def qA{b}:dQ aa 27 (.ptr (.box b) 0) 0=J (.ptr (.box b) 0):=am
def gN{b}:dQ aa 27 (.ptr (.box b) 0) 1=J (.ptr (.box b) 1):=am
def iK{b}:dQ aa 27 (.ptr (.box b) 0) 2=J (.ptr (.box b) 3):=am
def wC{b}:dQ aa 25 (.ptr (.box b) 1) 0=J (.ptr (.box b) 1):=am
def af2{b}:dQ aa 25 (.ptr (.box b) 1) 1=J (.ptr (.box b) 2):=am
def oY:(∀b,dQ aa 132 (.ptr (.box b) 0) 0=J (.ptr (.box b) 0))/\(∀b,dQ aa 132 (.ptr (.box b) 0) 1=J (.ptr (.box b) 4))/\(∀b,dQ aa 132 (.ptr (.box b) 0) 2=J (.ptr (.box b) 5))/\(∀b,dQ aa 132 (.ptr (.box b) 0) 3=J (.ptr (.box b) 6))/\
 (∀b,dQ aa 132 (.ptr (.box b) 0) 4=J (.ptr (.box b) 7))/\(∀b,dQ aa 132 (.ptr (.box b) 0) 5=J (.ptr (.box b) 11))/\∀b,dQ aa 132 (.ptr (.box b) 0) 6=J (.ptr (.box b) 12):=
 ⟨λ_=>am,λ_=>am,λ_=>am,λ_=>am,λ_=>am,λ_=>am,λ_=>am⟩
def SK{b}:dQ aa 118 (.ptr (.box b) 7) 3=J (.ptr (.box b) 10):=am
def iS:(∀b,dQ aa 46 (.ptr (.box b) 0) 0=J (.ptr (.box b) 0))/\(∀b,dQ aa 46 (.ptr (.box b) 0) 1=J (.ptr (.box b) 1))/\(∀b,dQ aa 46 (.ptr (.box b) 0) 2=J (.ptr (.box b) 2))/\∀b,dQ aa 46 (.ptr (.box b) 0) 3=J (.ptr (.box b) 3):=
 ⟨λ_=>am,λ_=>am,λ_=>am,λ_=>am⟩
def dE{H}{t}{b j}{cs}{x}(c:fx aa t=J ai)(d:H.boxes[b]?=J cs)(f:cs[j]?=J x):aD aa Gt H t (.ptr (.box b) j)=J x:=by rw[fe c d,List.head?_drop,f]
def abR:fx aa 60=J ai:=am
def QT:fx aa 32=J ai:=am
def zV:fx aa 121=J ai:=am
def aF(ep:Int)(X Y C:U):List U:=[.v (.int .i64 ep),X,Y,C]
def f_(ep:Int)(X Y C T L d c:U)(g f:Int):List U:=[.v (.int .i64 ep),X,Y,C,T,L,d,.v (.int .i64 3),.v (.int .i64 0),sv [],c,.v (.int .i64 g),.v (.int .i64 f)]
def iM(rows:List (List Int))(ep:Int)(ah:List Int):Bool:=decide (0<=ep)&&decide (ep<=64)&&decide (F ah=cd rows)&&ah.all bX
def atG(n)(h):W5.call 217 [I n] h=J (.ret (.v (.bool (!bX n))),h):=by
 have c:=E6 n;unfold I at *
 refine cq O Tryz.func217 O ?_;exact iB @apL
def mP{ep}{X Y C}{rows}{ac ah}(hx:RL X rows)(E:IL Y ac)(hc:IL C ah):(U.agg (aF ep X Y C)).bG=J (aF ep X Y C):=by obtain⟨j,k,i,rfl,-⟩:=hx.form;obtain⟨d,g,rfl,-⟩:=E;obtain⟨c,f,rfl,-⟩:=hc;rfl
def an4(h:Heap)(ep:Int)(X Y C:U)(rows:List (List Int))(ac ah:List Int)(hx:RL X rows)(E:IL Y ac)(hc:IL C ah)(hl:F ah<=1000000):
 ∃r h',W5.call 149 [.agg (aF ep X Y C)] h=J (r,h')/\h'=h.push (aF ep X Y C)/\r=.ret (.v (.bool (iM rows ep ah))):=by
 have bx:=mP (ep:=ep) hx E hc;have u:=aK h (aF ep X Y C);have l0:aD aa Gt (h.push (aF ep X Y C)) 3 (.ptr (.box (F h.boxes)) 0)=J (.v (.int .i64 ep)):=dE dS u O;have l1:aD aa Gt (h.push (aF ep X Y C)) 22 (.ptr (.box (F h.boxes)) 1)=J X:=dE Kf u O;have l3:aD aa Gt (h.push (aF ep X Y C)) 23 (.ptr (.box (F h.boxes)) 3)=J C:=dE mE u O;have ln:=hx.dK;have lc:=hc.dK;have p:=FX (pr:=Bt) O O 217 [] (λn=> !bX n) (h.push (aF ep X Y C)) C ah hc hl (λn _=>atG n _);rw[Q0]at p;have A:ae (iM rows ep ah=(decide (0<=ep)&&decide (ep<=64)&&decide (F ah=cd rows)&&ah.all bX)):=⟨O⟩;generalize iM rows ep ah=res at *
 obtain⟨z3,z2,B,rfl,K,S,w⟩:=hx;have Z:=ae.mk (aj K w);have u23:=cT;have u22:=gm;have z23:=gV;have eC:F (B.map λa=>[a])=F rows:=by rw[br];exact S
 clear K w hc E u;have j:ae (F rows=0->cd rows=1):=⟨λy=>by unfold cd;rw[av y]⟩;have g:ae (∀o,rows[0]?=J o->cd rows=F o):=⟨λo y=>by unfold cd;rw[aP (by have:=(aS.1 y).1;omega),eG,y];rfl⟩;refine bL O Tryz.func149 O ?_;have v:∀n:Nat,cd rows=n->ae (res=(decide (0<=ep)&&decide (ep<=64)&&decide (F ah=n)&&ah.all bX)):=λn y=>⟨by rw[A.out,y]⟩;have m:=ae.mk v;clear v;rcases Nat.eq_zero_or_pos (F rows) with s|s
 .have hq:¬((0:Int)<(F rows:Int)):=by omega
  have k:=m.out _ (j.out s);clear s;clear j g m A;by_cases d:0<=ep;rotate_left 1
  .have d1:decide (0<=ep)=ai:=b_ d;have c:ae (res=ai):=⟨by rw[k.out,d1];rfl⟩;clear d p;refine bA @xe @a_ @qA (aj @gN (aj @iK (aj @wC @aT))) ?_;exact⟨_,_,O,O,by rw[c.out]⟩
  have d1:decide (0<=ep)=V:=bQ d;by_cases f:ep<=64;rotate_left 1
  .have d2:decide (ep<=64)=ai:=b_ f;have c:ae (res=ai):=⟨by rw[k.out,d2];simp⟩;clear d f p;refine bA @xe @a_ @qA (aj @gN (aj @iK (aj @wC @aT))) ?_;exact⟨_,_,O,O,by rw[c.out]⟩
  have d2:decide (ep<=64)=V:=bQ f;by_cases i:F ah=1;rotate_left 1
  .have d3:decide ((F ah:Int)=1)=ai:=b_ M;have c:ae (res=ai):=⟨by rw[k.out,b_ i];simp⟩;clear d f i p;refine bA @xe @a_ @qA (aj @gN (aj @iK (aj @wC @aT))) ?_;exact⟨_,_,O,O,by rw[c.out]⟩
  have d3:decide ((F ah:Int)=1)=V:=bQ M;have c:ae (res=ah.all bX):=⟨by rw[k.out,d1,d2,bQ i];rfl⟩;have D:(!!ah.all bX)=ah.all bX:=by simp
  clear d f i;refine bA @xe @a_ @qA (aj @gN (aj @iK (aj @wC @aT))) ?_;exact⟨_,_,O,O,by rw[c.out]⟩
 .have hq:((0:Int)<(F rows:Int)):=by omega
  have N:z2=1:=Z.out.1 (by intro y;rw[y]at s;simp at s);subst N;obtain⟨a0,q⟩:∃a,B[0]?=J a:=⟨_,aN M⟩;obtain⟨o,t⟩:∃r,rows[0]?=J r:=⟨_,aN M⟩;have ld0:=iN (H:=h.push (aF ep (.list z3 1 (B.map λa=>[a])) Y C)) (s:=1) q;obtain⟨ka0,sa0,rfl,z⟩:=Z.out.2 0 a0 o q t;have k:=m.out _ (g.out o t);have lH:=cE o;have z0:(0:Int).toNat=0:=rfl;generalize F o=z1 at *
  clear q t z s;clear j g m A;by_cases d:0<=ep;rotate_left 1
  .have d1:decide (0<=ep)=ai:=b_ d;have c:ae (res=ai):=⟨by rw[k.out,d1];rfl⟩;clear d p;refine bA @xe @a_ @qA (aj @gN (aj @iK (aj @wC @aT))) ?_;exact⟨_,_,O,O,by rw[c.out]⟩
  have d1:decide (0<=ep)=V:=bQ d;by_cases f:ep<=64;rotate_left 1
  .have d2:decide (ep<=64)=ai:=b_ f;have c:ae (res=ai):=⟨by rw[k.out,d2];simp⟩;clear d f p;refine bA @xe @a_ @qA (aj @gN (aj @iK (aj @wC @aT))) ?_;exact⟨_,_,O,O,by rw[c.out]⟩
  have d2:decide (ep<=64)=V:=bQ f;by_cases i:F ah=z1;rotate_left 1
  .have d3:decide ((F ah:Int)=(z1:Int))=ai:=b_ M;have c:ae (res=ai):=⟨by rw[k.out,b_ i];simp⟩;clear d f i p;refine bA @xe @a_ @qA (aj @gN (aj @iK (aj @wC @aT))) ?_;exact⟨_,_,O,O,by rw[c.out]⟩
  have d3:decide ((F ah:Int)=(z1:Int))=V:=bQ M;have c:ae (res=ah.all bX):=⟨by rw[k.out,d1,d2,bQ i];rfl⟩;have D:(!!ah.all bX)=ah.all bX:=by simp
  clear d f i;refine bA @xe @a_ @qA (aj @gN (aj @iK (aj @wC @aT))) ?_;exact⟨_,_,O,O,by rw[c.out]⟩
structure sN(H:Heap)(c:Nat)(ep:Int)(X Y C T L Wt:U)(pt ch:Int)(ah:List Int)(text:List UInt8)(l:List Pr):Prop where
 qi:∃(b:Nat) (rows:List (List U)),H.boxes[c]?=J (f_ ep X Y C T L Wt (.arr b 0 rows.length rows.length) pt ch)/\H.boxes[b]?=J rows.flatten/\fN (l.map Pr.val) rows
 KP:IL C ah
 pos:0<ah.length
 c0:0<=ag ah 0/\ag ah 0<=4611686018427387903
 zx:∃kt st,T=.list kt st (bI text)/\(text≠[]->st=1)
 tl:text.length<=65536
 ll:l.length<=64
def sN.mono{H H'}{c}{ep}{X Y C T L d}{g f}{ah}{text}{l}(w:sN H c ep X Y C T L d g f ah text l)(x:Ext H H'):sN H' c ep X Y C T L d g f ah text l:=by obtain⟨b,rows,i,j,k⟩:=w.qi;exact⟨⟨b,rows,x.box _ _ i,x.box _ _ j,k⟩,w.KP,w.pos,w.c0,w.zx,w.tl,w.ll⟩
def atC(l:List Pr):fO (l.map Pr.val)<=1:=by
 induction l with
 |nil=>simp[fO]|cons d l c=>
  rw[eD,fO];have:fg d.val=1:=by simp[Pr.val,fg,fO]
  omega
def atD(p:Pr):F (cA p.val)<=100:=by
 have c:=hw 9 (0+1+1+1+1);have d:=hw 9 (g_ p.aU);have f:=hw 9 (g_ p.no);have g:=hw 9 (g_ p.d);have i:=hw 9 (g_ p.e);simp only[Pr.val,cA,fU,dY,cg,fQ]at *
 omega
def Y':∀l:List Pr,F (fU (l.map Pr.val))<=F l*100
 | []=>by simp[fU]
 |p::l=>by have c:=atD p;have d:=Y' l;rw[eD,fU,cg,dY,Nat.add_mul];omega
def ac4(c0)(text)(l)(k):F (cA (.list [.int c0,.text text,Bq l,.int k]))<=100+F text+F l*100:=by
 have c:=hw 9 (0+1+1+1+1);have d:=hw 9 (g_ c0);have f:=hw 9 (F text);have g:=hw 9 (g_ k);have i:=hw 9 (F (l.map Pr.val));have j:=Y' l;simp only[Bq,cA,fU,dY,cg,fQ]at *
 omega
def KA(t u v w)(x y z q):ff aa 177 4 [(0,.iface t x),(1,.iface u y),(2,.iface v z),(3,.iface w q)]=J (.list .tight 1 [[.iface t x],[.iface u y],[.iface v z],[.iface w q]]):=am
def Kx(H:Heap)(c:Nat)(ep:Int)(X Y C T L A:U)(Z E:Int)(ah:List Int)(text:List UInt8)(l:List Pr)(w:sN H c ep X Y C T L A Z E ah text l)(q:Pr)(N:0<=q.aU/\q.aU<=4611686018427387903):
 ∃r H',W5.call 83 [.ptr (.box c) 0,.agg (aL q)] H=J (r,H')/\H'=H.push (aL q)/\r=.ret (I ((iQ (ag ah 0) text l q.aU:Nat):Int)):=by
 have y:=w.mono (.push H (aL q));obtain⟨b,rows,f,v,m⟩:=y.qi;obtain⟨S,sc,rfl,j⟩:=w.KP;obtain⟨t,st,rfl,k⟩:=w.zx;have d:=w.pos;have p:sc=1:=j (by intro e;rw[e]at d;simp at d);subst p;have gB:F rows<=64:=by have:=m.1;rw[br]at this;have:=w.ll;omega
 have B:=ac4 (ag ah 0) text l q.aU;have K:=atC l;have o:=TJ (H.push (aL q)) II .tight 1 [.iface 3 (.v (.int .i64 (ag ah 0))),.iface 60 (.list t st (bI text)),.iface 118 (.agg (I 3::I 0::sv []::[.arr b 0 (F rows) (F rows)])),.iface 3 (.v (.int .i64 q.aU))] [.int (ag ah 0),.text text,Bq l,.int q.aU]
  (.cons (.int _ w.c0) (.cons (.text t st text k (by have:=w.tl;omega)) (.cons (.list v m M) (.cons (.int _ N) .nil)))) (λ_=>rfl) b7 aY (by simp[Bq,fg,fO];omega) (by have:=w.tl;have:=w.ll;omega)
 have g:pR II (.list [.int (ag ah 0),.text text,Bq l,.int q.aU])=iQ (ag ah 0) text l q.aU:=rfl;rw[g]at o;rw[show II=[98,105,110,100] from O]at o;generalize iQ (ag ah 0) text l q.aU=bn at *
 have u:=aK H (aL q);have l0:aD aa Gt (H.push (aL q)) 3 (.ptr (.box (F H.boxes)) 0)=J (.v (.int .i64 q.aU)):=dE dS u O;have l1:aD aa Gt (H.push (aL q)) 23 (.ptr (.box c) 3)=J (.list S 1 (ints ah)):=dE mE f O;have l2:aD aa Gt (H.push (aL q)) 60 (.ptr (.box c) 4)=J (.list t st (bI text)):=dE abR f O;have l3:aD aa Gt (H.push (aL q)) 118 (.ptr (.box c) 7)=J (.agg [I 3,I 0,sv [],.arr b 0 (F rows) (F rows)]):=by rw[fC Ki mU f (jq O)];rfl
 have l4:=eJ (H:=H.push (aL q)) (l:=ah) (i:=0) (s:=1) d;have bc:(U.agg (aL q)).bG=J (aL q):=rfl;have eC:=cE ah;have u23:=cT;have z3:=eR;have z:(0:Int)<(F ah:Int):=by omega
 have z0:(0:Int).toNat=0:=rfl;simp only[eD,uz]at o;clear w y f v m j k g B K u d;generalize ag ah 0=c0 at *
 unfold I at *
 refine bL O Tryz.func83 O ?_;refine bE @XZ @a_ ?_;refine du jF am ?_;refine bA @XZ @oY @iK (aj @iS (aj @aT (aj @DX (aj @MW (aj @aiN @KA))))) ?_;exact⟨_,_,O,O,O⟩
def ac5(c0)(text)(l)(k):okF ((iQ c0 text l k:Nat):Int):=TK _ _
def alo(H:Heap)(c:Nat)(ep:Int)(X Y C T L g:U)(m i:Int)(ah:List Int)(text:List UInt8)(l:List Pr)(w:sN H c ep X Y C T L g m i ah text l)(q:Pr)(u:0<=q.aU/\q.aU<=4611686018427387903)(t:bX q.d=V)(k:bX q.e=V):
 ∃r H',W5.call 152 [.ptr (.box c) 0,.agg (aL q)] H=J (r,H')/\Ext H H'/\r=.ret (I ((vm (ag ah 0) text l q:Nat):Int)):=by
 obtain⟨_,A,D,rfl,rfl⟩:=Kx (H.push (aL q)) c ep X Y C T L g m i ah text l (w.mono (.push _ _)) q u;have s:=ac5 (ag ah 0) text l q.aU;have E:=NY q.e ((iQ (ag ah 0) text l q.aU:Nat):Int);have p:=Gk q.d (fb q.e ((iQ (ag ah 0) text l q.aU:Nat):Int));have j:nI q.d (fb q.e ((iQ (ag ah 0) text l q.aU:Nat):Int))=((vm (ag ah 0) text l q:Nat):Int):=by rw[C6 t (xU k _),wH k];unfold vm;rw[fh];unfold iQ;rw[WY]
 rw[j]at p;generalize vm (ag ah 0) text l q=Z at *
 generalize ((iQ (ag ah 0) text l q.aU:Nat):Int)=o at *
 generalize fb q.e o=pw at *
 have d:=aK H (aL q);have f:((H.push (aL q)).push (aL q)).boxes[H.boxes.length]?=J (aL q):=aM d;have K:aD aa Gt (H.push (aL q)) 3 (.ptr (.box (F H.boxes)) 2)=J (.v (.int .i64 q.d)):=dE dS d O;have N:aD aa Gt (H.push (aL q)) 3 (.ptr (.box (F H.boxes)) 3)=J (.v (.int .i64 q.e)):=dE dS d O;have S:=nj d;have y:aD aa Gt ((H.push (aL q)).push (aL q)) 3 (.ptr (.box (F H.boxes)) 2)=J (.v (.int .i64 q.d)):=dE dS f O;have z:aD aa Gt ((H.push (aL q)).push (aL q)) 3 (.ptr (.box (F H.boxes)) 3)=J (.v (.int .i64 q.e)):=dE dS f O;have B:(U.agg (aL q)).bG=J (aL q):=rfl;clear w s j d f;unfold I at *
 refine bL O Tryz.func152 O ?_;refine bE @IB @a_ ?_;refine iC [(1,6),(3,6)] jF am (λz0 hp=>?_) ?_
 .simp only[gL,qp,or_false]at hp;rcases hp with rfl|rfl
  .refine kJ (x:=.ptr (.box (F H.boxes)) 2) (v:=.v (.int .i64 q.d)) am O O O am (by simp[cH,gH]) ?_ ?_<;>(simp only[dw,cX];exact o0 @IB @iS @and_self)
  .refine kJ (x:=.ptr (.box (F H.boxes)) 3) (v:=.v (.int .i64 q.e)) am O O O am (by simp[cH,gH]) ?_ ?_<;>(simp only[dw,cX];exact o0 @IB @iS @and_self)
 refine bE @IB @iS ?_;exact⟨_,_,O,(Ext.push _ _).trans (Ext.push _ _),O⟩
end Go.Proofs.YtcbhpkjbiehcpaaGreatDoor
end
section
set_option linter.constructorNameAsVariable false
namespace Go.Proofs.YtcbhpkjbiehcpaaGreatDoor
open Go.AE Go.NT
def mj:Tryz.f76.results.toList=[.tmp 6,.tmp 7]:=am
def v8(H:Heap)(c f:Nat)(d:U)(vs:List Vl):Prop:=(vs=[]/\d=.list .nil 0 [])∨(vs≠[]/\∃(b:Nat) (rows:List (List U)),d=.arr b 0 (F rows) (F rows)/\H.boxes[b]?=J rows.flatten/\fN vs rows/\b≠c/\f<=b)
def v8.dK{H}{c f}{d}{vs}(q:v8 H c f d vs):dK aa 116 d=J (.v (.int .i64 (F vs:Nat))):=by
 have g:=kY;unfold Go.AE.dK;rw[g];rcases q with⟨rfl,rfl⟩|⟨-,b,rows,rfl,-,i,-⟩
 .rfl
 .simp only[i.1]
def v8.cW{H}{c f}{d}{vs}(q:v8 H c f d vs):d.cW=V:=by rcases q with⟨rfl,rfl⟩|⟨-,b,rows,rfl,-⟩<;>rfl
def pD:List U:=ar 0 0 [] .nil 0 []
def fN.four{vs}{rows}(h:fN vs rows):∀r∈rows,F r=4:=λr f=>by obtain⟨g,c⟩:=qo f;have d:=(aS.1 c).1;exact(h.2 g _ r (aN (by rw[<-h.1];exact d)) c).len
def fN.snoc{vs}{rows}(h:fN vs rows){v}{r}(g:b8 v r):fN (vs++[v]) (rows++[r]):=by
 refine⟨by simp[h.1],λi k x c hx=>?_⟩;rcases dp i (F rows) with d|j
 .rw[qn d]at hx;rw[qn (by rw[<-h.1];exact d)]at c;exact h.2 i k x c hx
 .have:=(aS.1 hx).1;rw[cg]at this;have f:i=F rows:=by simp at this;omega
  subst f;rw[zI]at hx;rw[h.1,zI]at c;injection hx with hx;injection c with c;subst hx;subst c;exact g
def v8.more{u H}{c d}{p}{vs}(q:v8 H c d p vs)(hx:Ext u H)(Az:F u.boxes<=d)(hc:c<F H.boxes)(s:d<=F H.boxes)(hl:F vs<1000000){v}{r}(j:b8 v r):
 ∃g,lU aa H #[116,116] p (.list .tight 4 [pD])=J (.arr (F H.boxes) 0 (F vs+1) (F vs+1),g)/\F g.boxes=F H.boxes+1/\g.tn=H.tn/\g.dead=H.dead/\Ext u g/\
  dH aa 116 (.arr (F H.boxes) 0 (F vs+1) (F vs+1)) (.v (.int .i64 (F vs:Nat)))=J (.ptr (.box (F H.boxes)) (F vs*4))/\
  (∀(a:Nat) (cs:List U),H.boxes[a]?=J cs->(a<d∨a=c)->g.boxes[a]?=J cs)/\
  ∃cs,bY aa g 118 (.ptr (.box (F H.boxes)) (F vs*4)) (.agg r)=J (g.put (F H.boxes) cs)/\
  ∀o,o.boxes[H.boxes.length]?=J cs->v8 o c d (.arr (F H.boxes) 0 (F vs+1) (F vs+1)) (vs++[v]):=by
 obtain⟨z0,q1,m,q3,q4⟩:=MY;have N:=ji (M:F vs+1<=1000000) q3;have u94:=kY;have i:=j.len;have t:dH aa 116 (.arr (F H.boxes) 0 (F vs+1) (F vs+1)) (.v (.int .i64 (F vs:Nat)))=J (.ptr (.box (F H.boxes)) (F vs*4)):=by unfold dH;simp only[u94,mU];rw[av ⟨M,by omega⟩];simp
 rcases q with⟨rfl,rfl⟩|⟨S,b,rows,rfl,K,w,y,h4⟩
 .have:=zu (h:=H) (k:=.nil) (sz:=0) (es:=[]) (new:=[pD]) (x:=.list .tight 4 [pD]) kY kY q1 M (by rw[m];exact q4) b7 (by simp;omega) b7 (.inr O) (.inl O) (by rw[m];rfl);refine⟨_,this,bF _ _,O,O,hx.trans (.push _ _),t,λa cs A _=>aM A,r,?_,λo y=>.inr ⟨b7,H.boxes.length,[r],O,by rw[y];simp,fN.snoc (vs:=[]) (rows:=[]) ⟨O,λz0 v r q=>by simp at q⟩ j,by omega,s⟩⟩;have D:(H.push ([]++[pD]).flatten).boxes[H.boxes.length]?=J pD:=aK _ _;exact(fE (off:=0) (cs:=pD) (xs:=r) j.cells mU D i (aV 4)).trans (by rw[xh (by rw[i];rfl)])
 .have B:=lu w.four;have f:=w.1;have E:0<F rows:=by rw[f];exact JI.2 S
  rw[<-f]at N;have:=I5 (h:=H) (b:=b) (len:=rows.length) (cs:=rows.flatten) (new:=[pD]) (x:=.list .tight 4 [pD]) kY kY q1 M (by rw[m];exact q4) b7 (by simp;omega) (by simp;omega) K E (by rw[m,B]) (by rw[m];rfl);have dj:=(aS.1 K).1;rw[show F rows+F [pD]=F vs+1 by simp[f]]at this;refine⟨_,this,by rw[bF,jd],O,O,(hx.fy M _).trans (.push _ _),t,λa cs A Z=>aM ((cr ?_).trans A),(rows++[r]).flatten,?_,λo h5=>.inr ⟨b7,H.boxes.length,rows++[r],by simp[f],h5,w.snoc j,by omega,s⟩⟩
  .rcases Z with z|z
   .omega
   .rintro rfl;exact y z
  .have D:((H.put b []).push (rows.flatten++[pD].flatten)).boxes[H.boxes.length]?=J (rows.flatten++[pD].flatten):=mJ (by rw[jd]);refine(fE (off:=F vs*4) (xs:=r) j.cells mU D i ?_).trans ?_
   .rw[cg,B,f];exact aV _
   .have uY:dC (rows.flatten++[pD].flatten) (F vs*4) r=(rows++[r]).flatten:=(by unfold dC;rw[i,<-f,<-B,List.take_left' O,mW (by rw[cg];exact aV _),ga];simp);rw[uY]
def akL:∃h',W4.call 150 [.list .nil 0 []] ⟨[],[],0,[]⟩=J (.ret (.agg (ar 3 0 [] .nil 0 [])),h'):=by obtain⟨j,h',f,-,k,i,rows,rfl,-,-,d⟩:=Nr ⟨[],[],0,[]⟩ vn .nil 0 [] [] .nil (λg=>absurd O g) b7 (λa c=>by cases c);obtain⟨rfl,rfl,rfl⟩:=d O;rw[uz]at f;exact⟨h',f⟩
def akp:∀h,W5.call 150 [.list .nil 0 []] h=J (.ret (.agg (ar 3 0 [] .nil 0 [])),h):=by obtain⟨d,c⟩:=akL;exact gr (L:=L5) (B:=[.list .nil 0 []]) aY (by rw[aZ,aZ,al,bU,dk];intro n f;cases f) aY c (by rfl) aY
end Go.Proofs.YtcbhpkjbiehcpaaGreatDoor
end
section
namespace Go.AE
section
variable {P:Program} {G:Nat->Option (List U)} {aI:aQ->Option (List U->Heap->Option (U × Heap))} {Q:Xt->Env->Heap->Prop} {e:Env} {h:Heap} {L:List aQ} {R:Rec}
def alY{ops:Array Oper}{i n bi bn x1 x2:Nat}{r s:Oper}{t1 t2:TypeId}{k m B D:bP}(y:ops.size-1=n)(c:ops[i]?=J r)(g:r.op=.store t1 k B)(p:ops[n]?=J s)(j:s.op=.store t2 m D)
 (u:ck P G R ops (ops.toList.take i) e h (λq d _=>q=.normal/\d.eval k=.ptr (.box bi) x1))
 (v:ck P G R ops (ops.toList.take n) e h (λq f _=>q=.normal/\f.eval m=.ptr (.box bn) x2)) (K:bi≠bn):px P G R ops e h i=V:=by
 subst y;have w:i<ops.size:=(Array.getElem?_eq_some_iff.1 c).1;obtain⟨S,d,E,o,rfl,t⟩:=u;obtain⟨Z,f,H,f1,rfl,f2⟩:=v;rw[<-nP (Nat.le_of_lt w)]at o;rw[<-nP M]at f1;unfold px;have z:oD ops i d=J bi:=by unfold oD;rw[c];simp only[g,t]
 have A:oD ops (ops.size-1) f=J bn:=by unfold oD;rw[p];simp only[j,f2]
 simp only[o,f1,z,A];cases N:gX bi bn with|false=>rfl|true=>simp_all
def aqr{id:Nat}{ops:Array Oper}(i:Nat)(p:lW aI L)(hi:Nat.blt i ops.size=V)(f:Bp ops i=V)(q:Al (fG ops i (ops.size-1)) (KH P (fG ops i (ops.size-1)) L) []=V)
 (d:px P G (whole P G aI) ops e h i=V) (g:ck P G (whole P G aI) ops ops.toList e h (sX Q)):bC (whole P G aI) (.region id ops V) e h Q:=by
 have hi:i<ops.size:=by simpa [Nat.blt_eq] using hi
 have j:=g;obtain⟨t,k,s,m,o⟩:=j;cases t with
 |normal=>
  have c:bW P G (whole P G aI) (fG ops i (ops.size-1)) (bZ (fG ops i (ops.size-1)).size) e h=J (.normal,k,s):=by rw[oX,yY,nP (aV _),<-Array.length_toList,fB];exact m
  exact run_draw_stores (stores_of hi f d (K4 q (λu r=>RD p c (uA.1 r).2) (λv hp=>nomatch hp))) g
 |_=>exact o.elim
def apk{Post:Bool->Heap->Prop}{H:Heap}{l:Nat}{rec:gM}{args:List U}(i:H.loops[l]?=J rec)(m:rec.params.size=F args)(d:rec.state=.ready)(hp:rec.pending=af)
 (s:bC (whole P G aI) rec.assign (nq l rec args) H (λo f g=>o=.normal/\g=H/\bC (whole P G aI) rec.body f (H.busy l rec) (λo _ c=>c.loops[l]?=J {rec with state:=.busy}/\
  ((o=.normal/\Post V (c.eY l rec))∨(o=.ret/\Post ai (c.eY l {rec with state:=.done,pending:=J .ret})))))):
 ∃b H',(whole P G aI).round l args H=J (.ret (.v (.bool b)),H')/\Post b H':=by
 obtain⟨o,f,g,p,rfl,rfl,u,k,c,q,r,j⟩:=s;have t:{rec with state:=LoopState.ready,pending:=af}=rec:=by cases rec;cases d;cases hp;rfl
 rcases j with⟨rfl,j⟩|⟨rfl,j⟩
 .refine⟨V,_,In i m ⟨_,f,g,p,O,rec,i,d,.normal,k,c,q,{rec with state:=.busy},r,O,O⟩,?_⟩;show Post V (c.eY l {rec with state:=LoopState.ready,pending:=af});simp_all
 .exact⟨ai,_,In i m ⟨_,f,g,p,O,rec,i,d,.ret,k,c,q,{rec with state:=.busy},r,O,O⟩,j⟩
end
end Go.AE
end
section
namespace Go.Proofs.YtcbhpkjbiehcpaaGreatDoor
open Go.AE Go.NT
def acK(ep)(i j k m o)(p q r s t)(c e2 d f g):
 iy aa 132 [(0,.agg (aF ep (.list i p c) (.list j q e2) (.list k r d))),(1,.list m s f),(2,.list o t g),(4,.agg (ar 3 0 [] .nil 0 []))]=J (.agg (f_ ep (.list i p c) (.list j q e2) (.list k r d) (.list m s f) (.list o t g) (.list .nil 0 []) (.list .nil 0 []) 0 0)):=am
def BL(x:U)(b:List UInt8):Prop:=∃d c,x=.list d c (bI b)/\(b≠[]->c=1)
def atp(b):F (bI b)=F b:=br _
def BL.dK{x}{b}(h:BL x b):dK aa 60 x=J (.v (.int .i64 (F b:Nat))):=by obtain⟨d,f,rfl,-⟩:=h;have c:=Tryz.underlying60;unfold Go.AE.dK;rw[c];simp only[atp]
def PL.ix{x}{l}(h:PL x l){i}(hi:i<F l):dH aa 32 x (.v (.int .i64 (i:Nat)))=J (.elem 4 (bH l) i 0):=by obtain⟨f,j,rfl,d⟩:=h;have c:j=4:=d (by intro g;rw[g]at hi;simp at hi);subst c;have:=aT (k:=f) (kk:=.i64) (es:=bH l) (a:=((i:Nat):Int)) kZ qh M (by rw[HO];omega);rw[this,fh]
def IL.ix{x}{l}(h:IL x l){i}(hi:i<F l):dH aa 23 x (.v (.int .i64 (i:Nat)))=J (.elem 1 (ints l) i 0):=by obtain⟨f,j,rfl,d⟩:=h;have c:j=1:=d (by intro g;rw[g]at hi;simp at hi);subst c;have:=aT (k:=f) (kk:=.i64) (es:=ints l) (a:=((i:Nat):Int)) cT eR M (by rw[cE];omega);rw[this,fh]
structure BI(h H:Heap)(ep:Int)(X Y C T L:U)(kb c:Nat)(cur:U)(vs:List Vl)(t:Tok):Prop where
 ext:Ext h H
 ok:c_ H=V
 can:db h.tn H t
 key:H.boxes[kb]?=J (aF ep X Y C)
 work:H.boxes[c]?=J (f_ ep X Y C T L (.list .nil 0 []) cur 0 0)
 la:v8 H c (c+1) cur vs
 lo:h.boxes.length<=kb
 lt:kb<c
def BI.push{h H}{ep}{X Y C T L}{f c}{d}{vs}{t}(b:BI h H ep X Y C T L f c d vs t)(cs):BI h (H.push cs) ep X Y C T L f c d vs t:=by
 refine⟨b.ext.trans (.push _ _),b.ok,by rw[xP];exact b.can,aM b.key,aM b.work,?_,b.lo,b.lt⟩;rcases b.la with g|⟨g,x,rows,i,j,k⟩
 .exact .inl g
 .exact .inr ⟨g,x,rows,i,aM j,k⟩
def BI.app{h H}{ep}{X Y C T L}{g c}{d}{vs}{t}(b:BI h H ep X Y C T L g c d vs t):BI h (H.app t) ep X Y C T L g c d vs (.free H.tn):=by
 have f:=Grown.one b.can b.ok b.ext.tn;refine⟨f.ext b.ext (aV _),f.ok,f.can,by rw[dP];exact b.key,by rw[dP];exact b.work,?_,b.lo,b.lt⟩;rcases b.la with i|⟨i,x,rows,j,k,m⟩
 .exact .inl i
 .exact .inr ⟨i,x,rows,j,by rw[dP];exact k,m⟩
def BI.KL{h H}{ep}{X Y C T L}{f c}{d}{vs}{t}(b:BI h H ep X Y C T L f c d vs t):c<F H.boxes:=(aS.1 b.work).1
def asz{H}{c}{ep}{X Y C T L f d x}{i g}(j:H.boxes[c]?=J (f_ ep X Y C T L f d i g))(hx:x.bG=J [x]):bY aa H 116 (.ptr (.box c) 10) x=J (H.put c (f_ ep X Y C T L f x i g)):=
 fE (off:=10) (cs:=f_ ep X Y C T L f d i g) (xs:=[x]) hx am j O (jq O)
def asy{H}{c}{ep}{X Y C T L i d x}{g f}(j:H.boxes[c]?=J (f_ ep X Y C T L i d g f))(hx:x.bG=J [x]):bY aa H 23 (.ptr (.box c) 6) x=J (H.put c (f_ ep X Y C T L x d g f)):=
 fE (off:=6) (cs:=f_ ep X Y C T L i d g f) (xs:=[x]) hx gV j O (jq O)
def asB{H}{c}{ep}{X Y C T L f d}{i g n}(j:H.boxes[c]?=J (f_ ep X Y C T L f d i g)):bY aa H 3 (.ptr (.box c) 11) (.v (.int .i64 n))=J (H.put c (f_ ep X Y C T L f d n g)):=
 fE (off:=11) (cs:=f_ ep X Y C T L f d i g) (xs:=[.v (.int .i64 n)]) O eR j O (jq O)
def asA{H}{c}{ep}{X Y C T L f d}{g i n}(j:H.boxes[c]?=J (f_ ep X Y C T L f d g i)):bY aa H 3 (.ptr (.box c) 12) (.v (.int .i64 n))=J (H.put c (f_ ep X Y C T L f d g n)):=
 fE (off:=12) (cs:=f_ ep X Y C T L f d g i) (xs:=[.v (.int .i64 n)]) O eR j O (jq O)
def Rj:ff aa 116 1 [(0,.agg [rJ (Value.int .i64 0),rJ (Value.int .i64 0),rJ (Value.string (bs [])),rJ (Value.slice af 0 0)])]=J (.list .tight 4 [pD]):=am
def BI.next{h H}{ep}{X Y C T L}{g c}{f}{vs}{t}(b:BI h H ep X Y C T L g c f vs t)(q:F vs<1000000){v}{r}(s:b8 v r):
 ∃d cs,lU aa H #[116,116] f (.list .tight 4 [pD])=J (.arr (F H.boxes) 0 (F vs+1) (F vs+1),d)/\
  dH aa 116 (.arr (F H.boxes) 0 (F vs+1) (F vs+1)) (.v (.int .i64 (F vs:Nat)))=J (.ptr (.box (F H.boxes)) (F vs*4))/\
  bY aa d 118 (.ptr (.box (F H.boxes)) (F vs*4)) (.agg r)=J (d.put (F H.boxes) cs)/\
  bY aa (d.put (F H.boxes) cs) 116 (.ptr (.box c) 10) (.arr (F H.boxes) 0 (F vs+1) (F vs+1))=J ((d.put (F H.boxes) cs).put c (f_ ep X Y C T L (.list .nil 0 []) (.arr (F H.boxes) 0 (F vs+1) (F vs+1)) 0 0))/\
  BI h ((d.put (F H.boxes) cs).put c (f_ ep X Y C T L (.list .nil 0 []) (.arr (F H.boxes) 0 (F vs+1) (F vs+1)) 0 0)) ep X Y C T L g c (.arr (F H.boxes) 0 (F vs+1) (F vs+1)) (vs++[v]) t:=by
 have hc:=b.KL;have i:=b.lo;have j:=b.lt;obtain⟨d,w,y,k,m,B,D,o,cs,E,K⟩:=b.la.more b.ext M hc M q s;have u:(d.put (F H.boxes) cs).boxes[c]?=J (f_ ep X Y C T L (.list .nil 0 []) f 0 0):=by rw[cr M];exact o c _ b.work (.inr O)
 have p:((d.put (F H.boxes) cs).put c (f_ ep X Y C T L (.list .nil 0 []) (.arr (F H.boxes) 0 (F vs+1) (F vs+1)) 0 0)).boxes[g]?=J (aF ep X Y C):=by rw[cr M,cr M];exact o g _ b.key (.inl M)
 refine⟨d,cs,w,D,E,asz u O,(B.fy (by have:=b.ext.len;omega) _).fy M _,?_,?_,p,dn (by rw[jd];omega),?_,i,j⟩
 .have:=b.ok;unfold c_ at *
  show d.dead.all (λn=>decide (n<d.tn))=V;rw[k,m];exact this
 .have:=b.can;rw[Ac,Ac];rcases this with z|z|⟨Z,z,N,S⟩
  .exact .inl z
  .exact .inr (.inl z)
  .refine .inr (.inr ⟨Z,z,N,?_⟩);unfold alive at *
   rw[k,m];exact S
 .refine K _ ?_;rw[cr M];exact dn (by rw[y];omega)
def al7(p:Pr)(h:∀x∈[p.aU,p.no,p.d,p.e],0<=x/\x<=4611686018427387903):∃r,b8 p.val r/\∀H,W5.call 150 [.list .tight 1 [[.iface 3 (.v (.int .i64 p.aU))],[.iface 3 (.v (.int .i64 p.no))],[.iface 3 (.v (.int .i64 p.d))],[.iface 3 (.v (.int .i64 p.e))]]] H=J (.ret (.agg r),H):=by
 have:=ako .tight 1 [.iface 3 (.v (.int .i64 p.aU)),.iface 3 (.v (.int .i64 p.no)),.iface 3 (.v (.int .i64 p.d)),.iface 3 (.v (.int .i64 p.e))] [.int p.aU,.int p.no,.int p.d,.int p.e]
  (.cons (.int _ (h _ b7)) (.cons (.int _ (h _ b7)) (.cons (.int _ (h _ b7)) (.cons (.int _ (h _ b7)) .nil)))) (λ_=>rfl) b7
 simp only[eD,uz]at this;exact this
def jt(l:List Pr):List Int:=l.map Pr.aU
def PB(rows:List (List Int))(ac:List Int)(ep:Int)(X Y C T L:U)(ah:List Int)(text:List UInt8)(l:List Pr)(h:Heap)(r:dO)(h':Heap):Prop:=
 Ext h h'/\((d_ rows ac ep ah text l≠0/\r=.ret (.tuple [.v (.pointer af),.v (.int .i64 (d_ rows ac ep ah text l))]))∨
  (d_ rows ac ep ah text l=0/\∃d c,r=.ret (.tuple [.ptr (.box d) 0,.v (.int .i64 0)])/\IL c (gK rows ac l)/\sN h' d ep X Y C T L c ((jy (ag ah 0) text l:Nat):Int) ((gc (ag ah 0) text l:Nat):Int) ah text l))
def yZ{l}:∀{c:Int},mh c l=V->∀p∈l,c<p.aU/\p.aU<64/\0<=p.no/\p.no<4096/\bX p.d=V/\bX p.e=V:=by
 induction l with
 |nil=>intro _ _ p hp;simp at hp|cons w l o=>
  intro c h p hp;rw[NT.mh]at h;simp only[bm,decide_eq_true_eq]at h;obtain⟨⟨⟨⟨⟨⟨d,f⟩,g⟩,i⟩,j⟩,k⟩,m⟩:=h;rcases gL.1 hp with rfl|hp
  .exact⟨d,f,g,i,j,k⟩
  .obtain⟨v,q,r,s,t,u⟩:=o m p hp;exact⟨M,q,r,s,t,u⟩
def Wl{c0}{text}{l}{p}(c:bX p.d=V)(d:bX p.e=V):elem (vm c0 text l p)=V:=by unfold vm iQ;rw[WY];exact CW (Ao c) (HR (Ao d) _)
def amr{c0}{text}{l}{c:Int}(h:mh c l=V):elem (jy c0 text l)=V:=
 N8 (λd hp=>Wl (yZ h d hp).2.2.2.2.1 (yZ h d hp).2.2.2.2.2) F3
def Q'(h:Heap)(fJ:c_ h=V)(ep:Int)(X Y C T L:U)(rows:List (List Int))(ac ah:List Int)(text:List UInt8)(l:List Pr)
 (hx:RL X rows) (E:IL Y ac) (hc:IL C ah) (ht:BL T text) (hp:PL L l) (eI:F ah<=1000000) (gB:F l<=1000000):
 ∃r h',W5.call 76 [.agg (aF ep X Y C),T,L] h=J (r,h')/\PB rows ac ep X Y C T L ah text l h r h':=by
 have bx:=mP (ep:=ep) hx E hc;obtain⟨_,h2,c2,rfl,rfl⟩:=an4 (h.push (aF ep X Y C)) ep X Y C rows ac ah hx E hc eI;have c1:=KK X Y rows ac hx E;have H:=aK h (aF ep X Y C);have l1:aD aa Gt (h.push (aF ep X Y C)) 25 (.ptr (.box (F h.boxes)) 1)=J (.agg [X,Y]):=by rw[fC zU (by kernel_rfl:cB aa 25=J 2) H (jq O)];rfl
 have l2:aD aa Gt (h.push (aF ep X Y C)) 27 (.ptr (.box (F h.boxes)) 0)=J (.agg (aF ep X Y C)):=by rw[fC am (by kernel_rfl:cB aa 27=J 4) H (jq O)];rfl
 have l3:aD aa Gt ((h.push (aF ep X Y C)).push (aF ep X Y C)) 27 (.ptr (.box (F h.boxes)) 0)=J (.agg (aF ep X Y C)):=by rw[fC am (by kernel_rfl:cB aa 27=J 4) (aM H) (jq O)];rfl
 have ln1:=ht.dK;have ln2:=hp.dK;have lst:=akp;have bw:iy aa 132 [(0,.agg (aF ep X Y C)),(1,T),(2,L),(4,.agg (ar 3 0 [] .nil 0 []))]=J (.agg (f_ ep X Y C T L (.list .nil 0 []) (.list .nil 0 []) 0 0))/\(U.agg (f_ ep X Y C T L (.list .nil 0 []) (.list .nil 0 []) 0 0)).bG=J (f_ ep X Y C T L (.list .nil 0 []) (.list .nil 0 []) 0 0):=by obtain⟨kx,sx,xs,rfl,-⟩:=hx.form;obtain⟨ky,sy,rfl,-⟩:=E;obtain⟨kc,sc,rfl,-⟩:=hc;obtain⟨kt,st,rfl,-⟩:=ht;obtain⟨kp,sp,rfl,-⟩:=hp;exact⟨acK ep kx ky kc kt kp sx sy sc st sp _ _ _ _ _,O⟩
 obtain⟨bw1,bw2⟩:=bw;have z:=ae.mk (aj hx (aj E (aj hc (aj ht hp))));have B0:BI h (((h.push (aF ep X Y C)).push (aF ep X Y C)).push (f_ ep X Y C T L (.list .nil 0 []) (.list .nil 0 []) 0 0)) ep X Y C T L (F h.boxes) (F ((h.push (aF ep X Y C)).push (aF ep X Y C)).boxes) (.list .nil 0 []) [] .nil:=
  ⟨((Ext.push _ _).trans (.push _ _)).trans (.push _ _),fJ,.inl O,aM (aM H),aK _ _,.inl ⟨O,O⟩,aV _,by rw[bF,bF];omega⟩
 have X1:=ae.mk (Ext.push h (aF ep X Y C));have X2:=ae.mk ((Ext.push h (aF ep X Y C)).trans (Ext.push _ (aF ep X Y C)));have kE1:ae (cG rows ac≠0->d_ rows ac ep ah text l=cG rows ac):=⟨λi=>by unfold d_;rw[av i]⟩;have kE2:ae (cG rows ac=0->iM rows ep ah=ai->d_ rows ac ep ah text l=380):=⟨λZ p=>by unfold d_;rw[aP (by simp[Z]),av];unfold iM at p;rw[p];rfl⟩;have kE3:ae (cG rows ac=0->iM rows ep ah=V->65536<F text->d_ rows ac ep ah text l=2):=⟨λZ p q3=>by unfold d_;unfold iM at p;rw[aP (by simp[Z]),aP (by rw[p];decide),av q3]⟩;have kE4:ae (cG rows ac=0->iM rows ep ah=V->¬65536<F text->64<F l->d_ rows ac ep ah text l=420):=⟨λZ p q3 q4=>by unfold d_;unfold iM at p;rw[aP (by simp[Z]),aP (by rw[p];decide),aP q3,av q4]⟩;have kE5:ae (cG rows ac=0->iM rows ep ah=V->¬65536<F text->¬64<F l->mh (-1) l=ai->d_ rows ac ep ah text l=420):=⟨λZ p q3 q4 q5=>by unfold d_;unfold iM at p;rw[aP (by simp[Z]),aP (by rw[p];decide),aP q3,aP q4,av (by rw[q5];rfl)]⟩;have kE6:ae (cG rows ac=0->iM rows ep ah=V->¬65536<F text->¬64<F l->mh (-1) l=V->∀K z2 e,fm rows ac (jt l)=(K,z2,e)->d_ rows ac ep ah text l=if e≠0∨z2=ai∨F l=0 then 420 else 0):=⟨λZ p q3 q4 q5 K z2 e q6=>by unfold d_;unfold iM at p;rw[aP (by simp[Z]),aP (by rw[p];decide),aP q3,aP q4,aP (by rw[q5];decide)];unfold jt at q6;rw[q6]⟩;have kW:ae (∀K z2 e,fm rows ac (jt l)=(K,z2,e)->gK rows ac l=K):=⟨λK z2 e i=>by unfold gK;unfold jt at i;rw[i]⟩;have kR:ae (iM rows ep ah=V->F ah=cd rows/\ah.all bX=V):=⟨λi=>by unfold iM at i;simp only[bm,decide_eq_true_eq]at i;exact⟨i.1.2,i.2⟩⟩;unfold PB;generalize d_ rows ac ep ah text l=res at *
 clear hx E hc ht hp H;refine bL O Tryz.func76 O ?_;by_cases v:cG rows ac=0;rotate_left 1
 .have c:=ae.mk (aj v (kE1.out v));clear kE1 kE2 kE3 kE4 kE5 kE6 c2 bw1 bw2 B0 lst l3;generalize cG rows ac=i at *
  unfold I at *
  refine cK @mj @a_ @gN ?_;exact⟨_,_,O,X1.out,.inl ⟨by rw[c.out.2];exact c.out.1,by rw[c.out.2]⟩⟩
 rw[v]at c1;cases w:iM rows ep ah with
 |false=>
  have c:=ae.mk (kE2.out v w);rw[w]at c2;clear kE1 kE2 kE3 kE4 kE5 kE6 bw1 bw2 B0 lst l3 v w;unfold I at *
  refine cK @mj @a_ @gN ?_;exact⟨_,_,O,X2.out,.inl ⟨by rw[c.out];decide,by rw[c.out]⟩⟩
 |true=>
 rw[w]at c2;by_cases h3:65536<F text
 .have c:=ae.mk (kE3.out v w h3);have hI:(65536:Int)<(F text:Int):=by omega
  clear kE1 kE2 kE3 kE4 kE5 kE6 bw1 bw2 B0 lst l3 v w h3;unfold I at *
  refine cK @mj @a_ @gN ?_;exact⟨_,_,O,X2.out,.inl ⟨by rw[c.out];decide,by rw[c.out]⟩⟩
 have hI:¬(65536:Int)<(F text:Int):=by omega
 by_cases h4:64<F l
 .have c:=ae.mk (kE4.out v w h3 h4);have Tr:(64:Int)<(F l:Int):=by omega
  clear kE1 kE2 kE3 kE4 kE5 kE6 bw1 bw2 B0 lst l3 v w h3 h4;unfold I at *
  refine cK @mj @a_ @gN ?_;exact⟨_,_,O,X2.out,.inl ⟨by rw[c.out];decide,by rw[c.out]⟩⟩
 have Tr:¬(64:Int)<(F l:Int):=by omega
 have kbad:=ae.mk (λi=>kE5.out v w h3 h4 i);have kgood:=ae.mk (λi=>kE6.out v w h3 h4 i);have kcom:=ae.mk (kR.out w);have kprog:=ae.mk v;have ktl:ae (F text<=65536):=⟨M⟩;have GK:F l<=64:=by omega
 clear kE1 kE2 kE3 kE4 kE5 kE6 kR v w h3 h4 X1 X2;have kB0:=ae.mk B0;clear B0;obtain⟨HW,Tp⟩:∃HW,((h.push (aF ep X Y C)).push (aF ep X Y C)).push (f_ ep X Y C T L (.list .nil 0 []) (.list .nil 0 []) 0 0)=HW:=⟨_,O⟩;unfold I at *
 refine cK @mj @a_ @gN ?_;refine du jF am ?_;refine cK @mj @a_ @gN ?_;rw[Tp]at kB0;refine bC.gen λu k g' ek dm=>?_;have f1:u.get 1=T:=by rw[k];exact gS
 have f2:u.get 2=L:=by rw[k];exact gS
 have f3:u.get 3=.ptr (.box (F h.boxes)) 0:=by rw[k];exact gS
 have f6:u.get 6=.ptr (.box (F ((h.push (aF ep X Y C)).push (aF ep X Y C)).boxes)) 0:=by rw[k];exact gS
 have f9:u.get 9=.list .nil 0 []:=by rw[k];exact gS
 have f10:u.get 10=.v (.int .i64 (-1)):=by rw[k];exact gS
 have f39:u.get 39=L:=by rw[k];exact gS
 have f40:u.get 40=.v (.int .i64 (F l:Nat)):=by rw[k];exact gS
 have f41:u.get 41=.v (.int .i64 (0:Nat)):=by rw[k];exact gR
 have fd:u.defers=[]:=by rw[g'];exact gS
 clear k g' ek dm c1 c2 l1 l2 l3 bw1 bw2 lst Tp hI Tr ln1;generalize F ((h.push (aF ep X Y C)).push (aF ep X Y C)).boxes=N at *
 generalize F h.boxes=kb at *
 refine b9 (λz4 e j=>∃(q:Nat) (f:Int) (z0:Tok) (sz:Nat) (cur:U),q<=F l/\z4=F l-q/\ae (mh f (l.drop q)=mh (-1) l)/\(-1<=f)/\ae (BI h j ep X Y C T L kb N cur ((l.take q).map Pr.val) z0)/\ae (sz=1∨(jt (l.take q)=[]/\z0=.nil))/\
  e.get 1=T/\e.get 2=L/\e.get 3=.ptr (.box kb) 0/\e.get 6=.ptr (.box N) 0/\e.get 9=.list z0 sz (ints (jt (l.take q)))/\e.get 10=.v (.int .i64 f)/\e.get 39=L/\e.get 40=.v (.int .i64 (F l:Nat))/\e.get 41=.v (.int .i64 (q:Nat))/\e.defers=[]) ?_ (F l) _ _ ?_
 rotate_left 1
 .exact⟨0,-1,.nil,0,.list .nil 0 [],bV _,O,⟨O⟩,Int.le_refl _,kB0,⟨.inr ⟨O,O⟩⟩,f1,f2,f3,f6,f9,f10,f39,f40,f41,fd⟩
 clear f1 f2 f3 f6 f9 f10 f39 f40 f41 fd kB0 HW;rintro z4 e j ⟨q,f,z0,sz,cur,hi,rfl,kP,DB,y,ksz,g1,g2,g3,g6,g9,g10,g39,g40,g41,hd⟩;by_cases dj:q<F l
 .obtain⟨d,GV⟩:∃d,l[q]?=J d:=⟨_,aN dj⟩;have Dr:l.drop q=d::l.drop (q+1):=by rw[ss dj,(aS.1 GV).2]
  have yC:=kP.out;rw[Dr,NT.mh]at yC;have kpf:=ae.mk yC;have ix:=z.out.2.2.2.2.ix dj;have ld:=p_ (H:=j) (s:=4) GV;have st:=zr (H:=j) d;have zc:=zA;have H:=aK j (aL d);have q0:aD aa Gt (j.push (aL d)) 3 (.ptr (.box (F j.boxes)) 0)=J (.v (.int .i64 d.aU)):=dE dS H O;have Z:aD aa Gt (j.push (aL d)) 3 (.ptr (.box (F j.boxes)) 1)=J (.v (.int .i64 d.no)):=dE dS H O;have p:aD aa Gt (j.push (aL d)) 3 (.ptr (.box (F j.boxes)) 2)=J (.v (.int .i64 d.d)):=dE dS H O;have q3:aD aa Gt (j.push (aL d)) 3 (.ptr (.box (F j.boxes)) 3)=J (.v (.int .i64 d.e)):=dE dS H O;have v1:=E6 d.d;have v2:=E6 d.e;have fH:(q:Int)<(F l:Int):=by omega
  have t:=ae.mk (y.out.push (aL d));have ktake:=ae.mk (fY GV);clear yC Dr GV H;have g:ae ((decide (f<d.aU)&&decide (d.aU<64)&&decide (0<=d.no)&&decide (d.no<4096)&&bX d.d&&bX d.e)=ai->res=420):=⟨λi=>by refine kbad.out ?_;rw[<-kpf.out,i];rfl⟩;unfold I at *
  by_cases e1:d.aU<=f
  .have d1:decide (d.aU<=f)=V:=bQ e1;have c:=ae.mk (g.out (by rw[b_ (M:¬f<d.aU)];rfl));clear e1;refine bE @mj @iS ?_;exact⟨_,_,O,t.out.ext,.inl ⟨by rw[c.out];decide,by rw[c.out]⟩⟩
  have d1:decide (d.aU<=f)=ai:=b_ e1;by_cases e2:64<=d.aU
  .have d2:decide (64<=d.aU)=V:=bQ e2;have c:=ae.mk (g.out (by rw[b_ (M:¬d.aU<64)];simp));clear e1 e2;refine bE @mj @iS ?_;exact⟨_,_,O,t.out.ext,.inl ⟨by rw[c.out];decide,by rw[c.out]⟩⟩
  have d2:decide (64<=d.aU)=ai:=b_ e2;by_cases e3:d.no<0
  .have d3:decide (d.no<0)=V:=bQ e3;have c:=ae.mk (g.out (by rw[b_ (M:¬0<=d.no)];simp));clear e1 e2 e3;refine bE @mj @iS ?_;exact⟨_,_,O,t.out.ext,.inl ⟨by rw[c.out];decide,by rw[c.out]⟩⟩
  have d3:decide (d.no<0)=ai:=b_ e3;by_cases e4:4096<=d.no
  .have d4:decide (4096<=d.no)=V:=bQ e4;have c:=ae.mk (g.out (by rw[b_ (M:¬d.no<4096)];simp));clear e1 e2 e3 e4;refine bE @mj @iS ?_;exact⟨_,_,O,t.out.ext,.inl ⟨by rw[c.out];decide,by rw[c.out]⟩⟩
  have d4:decide (4096<=d.no)=ai:=b_ e4;cases e5:bX d.d with
  |false=>have c:=ae.mk (g.out (by rw[e5];simp));rw[e5]at v1;clear e1 e2 e3 e4 e5;refine bE @mj @iS ?_;exact⟨_,_,O,t.out.ext,.inl ⟨by rw[c.out];decide,by rw[c.out]⟩⟩
  |true=>
  rw[e5]at v1;cases e6:bX d.e with
  |false=>have c:=ae.mk (g.out (by rw[e6];simp));rw[e6]at v2;clear e1 e2 e3 e4 e5 e6;refine bE @mj @iS ?_;exact⟨_,_,O,t.out.ext,.inl ⟨by rw[c.out];decide,by rw[c.out]⟩⟩
  |true=>
  rw[e6]at v2;have DJ:=Ap e5;have hr6:=Ap e6;have kP2:ae (mh d.aU (l.drop (q+1))=mh (-1) l):=⟨by rw[<-kpf.out,bQ (M:f<d.aU),bQ (M:d.aU<64),bQ (M:0<=d.no),bQ (M:d.no<4096),e5,e6];rfl⟩;obtain⟨r,wY,lr⟩:=al7 d (by intro x hx;simp only[gL,qp,or_false]at hx;rcases hx with rfl|rfl|rfl|rfl<;>omega);have hkl:F (jt (l.take q))=q:=by unfold jt;rw[br,cR];omega
  have ap:=wi (x:=d.aU) (es:=jt (l.take q)) M ksz.out t.out.can;have bl:=qw d.aU;have Ul:jt (l.take q)++[d.aU]=jt (l.take (q+1)):=by unfold jt;rw[ktake.out,jB];rfl
  rw[Ul]at ap;have kBa:=ae.mk t.out.app;have pj:F ((l.take q).map Pr.val)=q:=by rw[br,cR];omega
  obtain⟨H2,cs,t1,t2,t3,t4,t5⟩:=kBa.out.next M wY;have len94:=kBa.out.la.dK;have lw:aD aa Gt ((j.push (aL d)).app z0) 116 (.ptr (.box N) 10)=J cur:=dE QW kBa.out.work O;have bxx:((j.push (aL d)).app z0).boxes[j.boxes.length]?=J (aL d):=by rw[dP];exact aK _ _
  have q0':aD aa Gt ((j.push (aL d)).app z0) 3 (.ptr (.box (F j.boxes)) 0)=J (.v (.int .i64 d.aU)):=dE dS bxx O;have q1':aD aa Gt ((j.push (aL d)).app z0) 3 (.ptr (.box (F j.boxes)) 1)=J (.v (.int .i64 d.no)):=dE dS bxx O;have q2':aD aa Gt ((j.push (aL d)).app z0) 3 (.ptr (.box (F j.boxes)) 2)=J (.v (.int .i64 d.d)):=dE dS bxx O;have q3':aD aa Gt ((j.push (aL d)).app z0) 3 (.ptr (.box (F j.boxes)) 3)=J (.v (.int .i64 d.e)):=dE dS bxx O;have U1:(l.take q).map Pr.val++[d.val]=(l.take (q+1)).map Pr.val:=by rw[ktake.out,jB];rfl
  rw[U1]at t5;have kB2:=ae.mk t5;have fI:F ((j.push (aL d)).app z0).boxes≠N:=by have:=kBa.out.KL;omega
  rw[pj]at t1 t2 t3 t4 kB2 len94;have knext: -1<=d.aU:=by omega
  clear e1 e2 e3 e4 e5 e6 DJ hr6 t5 U1 bxx Ul wY hkl pj t kBa g kpf kP DB;refine bE @mj @iS ?_;refine aqr 23 jF am am am ?_ ?_
  .refine alY (n:=27) (bi:=((j.push (aL d)).app z0).boxes.length) (bn:=N) (x1:=q*4) (x2:=10) am O O O O ?_ ?_ fI<;>(simp only[dw,cX];exact jb @mj @oY @iS (aj @SK (aj @DX (aj @KA (aj @Rj @and_self)))))
  refine bA @mj @oY @iS (aj @SK (aj @DX (aj @KA @Rj))) ?_;exact⟨F l-(q+1),by omega,q+1,d.aU,_,1,_,by omega,O,kP2,knext,kB2,⟨.inl O⟩,by simp⟩
 have gf:q=F l:=by omega
 subst gf;rw[fB]at g9 ksz y;have Tw:mh (-1) l=V:=by rw[<-kP.out,mW (aV _)];rfl
 have o:=ae.mk Tw;have lk:aD aa Gt j 25 (.ptr (.box kb) 1)=J (.agg [X,Y]):=by rw[fC zU (by kernel_rfl:cB aa 25=J 2) y.out.key (jq O)];rfl
 have U2:IL (.list z0 sz (ints (jt l))) (jt l):=⟨z0,sz,O,λi=>by
  rcases ksz.out with z3|⟨z3,-⟩
  .exact z3
  .exact absurd z3 i⟩
 have aia:F (jt l)<=64:=by unfold jt;rw[br];exact GK
 have ahy:(∃e,fm rows ac (jt l)=([],ai,e)/\∀h,W5.call 39 [.agg [X,Y],.list z0 sz (ints (jt l))] h=J (.ret (.tuple [.list .nil 0 [],.v (.bool ai),.v (.int .i64 e)]),h))∨∃K,fm rows ac (jt l)=(K,V,0)/\F K=F rows/\∀h,W5.call 39 [.agg [X,Y],.list z0 sz (ints (jt l))] h=J (.ret (.tuple [.list .held 1 (ints K),.v (.bool V),.v (.int .i64 0)]),h):=by obtain⟨k0,s0,xs,TC,-⟩:=z.out.1.form;have:=QN k0 s0 xs Y (.list z0 sz (ints (jt l))) rows ac (jt l) (by rw[<-TC];exact z.out.1) z.out.2.1 U2 M;rw[<-TC]at this;exact this
 clear Tw U2 aia dj kP DB hi;rcases ahy with⟨u,a1,ca⟩|⟨K,a1,a2,ca⟩
 .have c:ae (res=420):=⟨by rw[kgood.out o.out _ _ _ a1,av (.inr (.inl O))]⟩;clear a1;by_cases S:u=0
  .subst S;refine bE @mj @gN ?_;exact⟨_,_,O,y.out.ext,.inl ⟨by rw[c.out];decide,by rw[c.out]⟩⟩
  .have d9:decide (u=0)=ai:=b_ S;refine bE @mj @gN ?_;exact⟨_,_,O,y.out.ext,.inl ⟨by rw[c.out];decide,by rw[c.out]⟩⟩
 by_cases S:F l=0
 .have c:ae (res=420):=⟨by rw[kgood.out o.out _ _ _ a1,av (.inr (.inr S))]⟩;have d9:decide ((F l:Int)=0)=V:=bQ M;clear a1 S;refine bE @mj @gN ?_;exact⟨_,_,O,y.out.ext,.inl ⟨by rw[c.out];decide,by rw[c.out]⟩⟩
 have d9:decide ((F l:Int)=0)=ai:=b_ M;have c:ae (res=0):=⟨by rw[kgood.out o.out _ _ _ a1,aP (by simp;intro i;rw[i]at S;exact S O)]⟩;have kWt:=ae.mk (kW.out _ _ _ a1);obtain⟨m1,m2⟩:=kcom.out;have mpos:=(uI kprog.out).1;have Dn:bX (ag ah 0)=V:=by rw[eF]at m2;exact m2 _ (by rw[fS M];exact iP _)
 have ahR:=Ap Dn;have hlo:=y.out.lo;have aic:=y.out.lt;have s1:=asy (x:=.list .held 1 (ints K)) y.out.work O;obtain⟨b,A,ahX,ob,j_,tG,uQ⟩:∃(b:Nat) (A:List (List U)),cur=.arr b 0 (F A) (F A)/\j.boxes[b]?=J A.flatten/\fN (l.map Pr.val) A/\b≠N/\N+1<=b:=by
  rcases y.out.la with⟨i,-⟩|⟨-,i⟩
  .exfalso;rw[zJ]at i;rw[i]at S;exact S O
  .exact i
 subst ahX;have Lz:=y.out.KL;have W1:sN (j.put N (f_ ep X Y C T L (.list .held 1 (ints K)) (.arr b 0 (F A) (F A)) 0 0)) N ep X Y C T L (.list .held 1 (ints K)) 0 0 ah text l:=
  ⟨⟨b,A,dn Lz,by rw[cr tG];exact ob,j_⟩,z.out.2.2.1,by omega,⟨M,by omega⟩,z.out.2.2.2.1,ktl.out,GK⟩
 have E1:Ext h (j.put N (f_ ep X Y C T L (.list .held 1 (ints K)) (.arr b 0 (F A) (F A)) 0 0)):=y.out.ext.fy M _;obtain⟨_,Hp,cp,xp,rfl⟩:=amQ 152 [.ptr (.box N) 0] [] (vm (ag ah 0) text l) _ L l z.out.2.2.2.2 M (λi hq=>Wl (yZ o.out i hq).2.2.2.2.1 (yZ o.out i hq).2.2.2.2.2) (λi hq H' hX=>by have hm:=yZ o.out i hq;obtain⟨_,H2,n1,n2,rfl⟩:=alo H' N ep X Y C T L (.list .held 1 (ints K)) 0 0 ah text l (W1.mono hX) i ⟨M,by omega⟩ hm.2.2.2.2.1 hm.2.2.2.2.2;exact⟨H2,n1,n2⟩);have DI:l.foldl (λx i=>x*vm (ag ah 0) text l i%P) 1=jy (ag ah 0) text l:=rfl;rw[DI]at cp;have My:=Ap (wx (amr (c0:=ag ah 0) (text:=text) o.out));have E2:=E1.trans xp;have W2:=W1.mono xp;obtain⟨b',m,w1,w2,w3⟩:=W2.qi;have Lu:b'≠N:=by intro i;have z1:Hp.boxes[N]?=J (f_ ep X Y C T L (.list .held 1 (ints K)) (.arr b 0 (F A) (F A)) 0 0):=xp.box _ _ (dn Lz);rw[z1]at w1;unfold f_ at w1;injection w1 with w1;simp only[List.cons.injEq,U.arr.injEq,true_and,and_true]at w1;omega
 have s2:=asB (n:=((jy (ag ah 0) text l:Nat):Int)) w1;have TT:=(aS.1 w1).1;obtain⟨kt,st,TA,gP⟩:=z.out.2.2.2.1;obtain⟨B,uN⟩:∃B,Hp.put N (f_ ep X Y C T L (.list .held 1 (ints K)) (.arr b' 0 (F m) (F m)) ((jy (ag ah 0) text l:Nat):Int) 0)=B:=⟨_,O⟩;have w5:B.boxes[N]?=J (f_ ep X Y C T L (.list .held 1 (ints K)) (.arr b' 0 (F m) (F m)) ((jy (ag ah 0) text l:Nat):Int) 0):=by rw[<-uN];exact dn TT
 have E5:Ext h B:=by rw[<-uN];exact E2.fy M _
 have v5:B.boxes[b']?=J m.flatten:=by rw[<-uN,cr Lu];exact w2
 have sl:=Yn ((jy (ag ah 0) text l:Nat):Int) (ag ah 0) text;have D:=TJ B zn .tight 1 [.iface 3 (.v (.int .i64 ((jy (ag ah 0) text l:Nat):Int))),.iface 3 (.v (.int .i64 (ag ah 0))),.iface 60 (.list kt st (bI text))] [.int ((jy (ag ah 0) text l:Nat):Int),.int (ag ah 0),.text text]
  (.cons (.int _ ⟨M,by omega⟩) (.cons (.int _ ⟨M,by omega⟩) (.cons (.text kt st text gP (by have:=ktl.out;omega)) .nil))) (λ_=>rfl) b7 aY (by simp[fg,fO]) (by have:=ktl.out;omega)
 have TS:pR zn (.list [.int ((jy (ag ah 0) text l:Nat):Int),.int (ag ah 0),.text text])=gc (ag ah 0) text l:=rfl;rw[TS,<-TA,show zn=[115,105,103,110] from O]at D;simp only[eD,uz]at D;have lp:aD aa Gt B 3 (.ptr (.box N) 11)=J (.v (.int .i64 ((jy (ag ah 0) text l:Nat):Int))):=dE dS w5 O;have lC:aD aa Gt B 23 (.ptr (.box N) 3)=J C:=dE mE w5 O;obtain⟨kc,sc,hCe,hsc⟩:=z.out.2.2.1;have ixC:=z.out.2.2.1.ix (i:=0) M;have lC0:=eJ (H:=B) (l:=ah) (i:=0) (s:=1) M;have s3:=asA (n:=((gc (ag ah 0) text l:Nat):Int)) w5;have po:ae (Ext h (B.put N (f_ ep X Y C T L (.list .held 1 (ints K)) (.arr b' 0 (F m) (F m)) ((jy (ag ah 0) text l:Nat):Int) ((gc (ag ah 0) text l:Nat):Int)))/\sN (B.put N (f_ ep X Y C T L (.list .held 1 (ints K)) (.arr b' 0 (F m) (F m)) ((jy (ag ah 0) text l:Nat):Int) ((gc (ag ah 0) text l:Nat):Int))) N ep X Y C T L (.list .held 1 (ints K)) ((jy (ag ah 0) text l:Nat):Int) ((gc (ag ah 0) text l:Nat):Int) ah text l):=
  ⟨E5.fy M _,⟨⟨b',m,dn (aS.1 w5).1,by rw[cr Lu];exact v5,w3⟩,z.out.2.2.1,by omega,⟨M,by omega⟩,z.out.2.2.2.1,ktl.out,GK⟩⟩
 have kyw:ae (IL (.list .held 1 (ints K)) (gK rows ac l)):=⟨by rw[kWt.out];exact⟨_,_,O,λ_=>rfl⟩⟩;have ix0:dH aa 23 C (.v (.int .i64 0))=J (.elem 1 (ints ah) 0 0):=ixC;clear W1 W2 E1 E2 E5 w1 w2 w3 v5 sl TS DI xp ob j_ tG uQ Lz TT Lu Dn ahR My mpos m1 m2 hlo aic TA gP hCe hsc S a1 a2 ixC w5;generalize ((jy (ag ah 0) text l:Nat):Int)=ptv at *
 generalize ((gc (ag ah 0) text l:Nat):Int)=chv at *
 generalize ag ah 0=c0 at *
 unfold I at *
 refine bA @mj @gN @oY @eu.{0} ?_;refine du jF am ?_;refine bA @mj @iK @oY (aj @DX (aj @MW @Rm)) ?_;exact⟨_,_,O,po.out.1,.inr ⟨c.out,_,_,O,kyw.out,po.out.2⟩⟩
def EC:Tryz.f37.results.toList=[.tmp 6,.tmp 7,.tmp 8,.tmp 9]:=am
def OE:Tryz.f77.results.toList=[.cell 6 46,.tmp 7]:=am
def apD:Tryz.f155.results.toList=[.tmp 3]:=am
def XJ:Tryz.f156.results.toList=[.tmp 2]:=am
def sV(c0:Int)(text:List UInt8)(l:List Pr):List Int:=l.map λc=>((iQ c0 text l c.aU:Nat):Int)
def FK{rows}{ac ah}{ep}{text}{l}(h:d_ rows ac ep ah text l=0):
 cG rows ac=0/\F ah=cd rows/\ah.all bX=V/\F l<=64/\F text<=65536/\mh (-1) l=V:=by
 unfold d_ at h;split at h
 .rename_i j;exact absurd h j
 .rename_i f;split at h
  .simp at h
  .rename_i g;split at h
   .simp at h
   .rename_i k;split at h
    .simp at h
    .rename_i m;split at h
     .simp at h
     .rename_i i;have c:=(ZJ _).mp g;rw[ZI]at c;simp only[bm,decide_eq_true_eq]at c;have d:=(ZJ _).mp i;rw[ZI]at d;exact⟨Ju.1 f,c.1.2,c.2,by omega,by omega,d⟩
def ac2(h:Heap)(u:c_ h=V)(ep:Int)(X Y C T L:U)(rows:List (List Int))(ac ah:List Int)(text:List UInt8)(l:List Pr)
 (hx:RL X rows) (E:IL Y ac) (hc:IL C ah) (ht:BL T text) (hp:PL L l) (eI:F ah<=1000000) (gB:F l<=1000000):
 ∃r h',W5.call 37 [.agg (aF ep X Y C),T,L] h=J (r,h')/\
  ((d_ rows ac ep ah text l≠0/\r=.ret (.tuple [.list .nil 0 [],.v (.int .i64 0),.v (.int .i64 0),.v (.int .i64 (d_ rows ac ep ah text l))]))∨
  (d_ rows ac ep ah text l=0/\∃Z,r=.ret (.tuple [Z,.v (.int .i64 ((jy (ag ah 0) text l:Nat):Int)),.v (.int .i64 ((gc (ag ah 0) text l:Nat):Int)),.v (.int .i64 0)])/\IL Z (sV (ag ah 0) text l))):=by
 have bx:=mP (ep:=ep) hx E hc;obtain⟨r1,h1,c1,x1,w⟩:=Q' (h.push (aF ep X Y C)) u ep X Y C T L rows ac ah text l hx E hc ht hp eI gB;have z:=aK h (aF ep X Y C);have l0:aD aa Gt (h.push (aF ep X Y C)) 27 (.ptr (.box (F h.boxes)) 0)=J (.agg (aF ep X Y C)):=by rw[fC am (by kernel_rfl:cB aa 27=J 4) z (jq O)];rfl
 have kp:=ae.mk hp;have ko:=ae.mk (x1.ok u);have kbo:=ae.mk (λo=>@FK rows ac ah ep text l o);have ln2:=hp.dK;clear hx E hc ht hp z x1;generalize d_ rows ac ep ah text l=res at *
 refine bL O Tryz.func37 O ?_;rcases w with⟨o,rfl⟩|⟨o,A,Wt,rfl,-,z1⟩
 .have kr:=ae.mk o;refine bE @EC @a_ ?_;exact⟨_,_,O,.inl ⟨kr.out,O⟩⟩
 obtain⟨-,-,-,-,-,p6⟩:=kbo.out o;have kP:=ae.mk p6;have kW:=ae.mk z1;have kr:=ae.mk o;have GK:=z1.ll;obtain⟨b,vr,w1,-⟩:=z1.qi;clear p6 z1;subst o;refine bE @EC @a_ ?_;refine bC.gen λg c q H K=>?_;have f6:g.get 6=.list .nil 0 []:=by rw[c];exact gS
 have f10:g.get 10=.ptr (.box A) 0:=by rw[c];exact gS
 have f23:g.get 23=L:=by rw[c];exact gS
 have f24:g.get 24=.v (.int .i64 (F l:Nat)):=by rw[c];exact gS
 have f25:g.get 25=.v (.int .i64 (0:Nat)):=by rw[c];exact gR
 have B:g.defers=[]:=by rw[q];exact gS
 clear c q H K c1 l0 w1;have kbl:ae (F (sV (ag ah 0) text l)=F l):=⟨by unfold sV;simp⟩;refine b9 (λz3 e m=>∃(f:Nat) (z0:Tok) (p:Nat),f<=F l/\z3=F l-f/\ae (Gr h1 m z0)/\ae (p=1∨((sV (ag ah 0) text l).take f=[]/\z0=.nil))/\e.get 6=.list z0 p (ints ((sV (ag ah 0) text l).take f))/\e.get 10=.ptr (.box A) 0/\e.get 23=L/\e.get 24=.v (.int .i64 (F l:Nat))/\e.get 25=.v (.int .i64 (f:Nat))/\e.defers=[]) ?_ (F l) _ _ ?_;rotate_left 1
 .exact⟨0,.nil,0,bV _,O,⟨Gr.nil (.refl _) ko.out⟩,⟨.inr ⟨O,O⟩⟩,f6,f10,f23,f24,f25,B⟩
 clear f6 f10 f23 f24 f25 B;rintro z3 e m ⟨f,z0,p,hi,rfl,v,k,g6,g10,g23,g24,g25,hd⟩;by_cases t:f<F l
 .obtain⟨i,d⟩:∃i,l[f]?=J i:=⟨_,aN t⟩;have hm:=yZ kP.out i (cU d);have ix:=kp.out.ix t;have ld:=p_ (H:=m) (s:=4) d;have st:=zr (H:=m) i;have zc:=zA;have l2:=nj (aK m (aL i));obtain⟨_,H2,cb,rfl,rfl⟩:=Kx (m.push (aL i)) A ep X Y C T L Wt _ _ ah text l ((kW.out.mono v.out.1).mono (.push _ _)) i ⟨M,by omega⟩;have N:(sV (ag ah 0) text l)[f]?=J ((iQ (ag ah 0) text l i.aU:Nat):Int):=by unfold sV;rw[dW,d];rfl
  have j:=(v.out.push (aL i)).push (aL i);have ap:=wi (x:=((iQ (ag ah 0) text l i.aU:Nat):Int)) (es:=(sV (ag ah 0) text l).take f) (by rw[cR];omega) k.out j.2.2;rw[<-fY N]at ap;have S:=ae.mk j.app;have bl:=qw ((iQ (ag ah 0) text l i.aU:Nat):Int);have fH:(f:Int)<(F l:Int):=by omega
  clear N hm d j;generalize ((iQ (ag ah 0) text l i.aU:Nat):Int)=bn at *
  unfold I at *
  refine bg @EC ?_;exact⟨F l-(f+1),by omega,f+1,_,1,by omega,O,S,⟨.inl O⟩,by simp⟩
 .have D:f=F l:=by omega
  subst D;rw[fR (by rw[kbl.out];exact aV _)]at g6 k;obtain⟨b2,vr2,y,-⟩:=(kW.out.mono v.out.1).qi;have lp:aD aa Gt m 3 (.ptr (.box A) 11)=J (.v (.int .i64 ((jy (ag ah 0) text l:Nat):Int))):=dE dS y O;have lc:aD aa Gt m 3 (.ptr (.box A) 12)=J (.v (.int .i64 ((gc (ag ah 0) text l:Nat):Int))):=dE dS y O;clear y;generalize ((jy (ag ah 0) text l:Nat):Int)=ptv at *
  generalize ((gc (ag ah 0) text l:Nat):Int)=chv at *
  refine bg @EC ?_;refine du jF am ?_;refine bE @EC @oY ?_;refine⟨_,_,O,.inr ⟨aX,_,O,z0,p,O,λo=>?_⟩⟩;rcases k.out with z2|⟨z2,-⟩
  .exact z2
  .exact absurd z2 o
def HC(n):(U.v (.int .i64 n)).bG=J [.v (.int .i64 n)]:=rfl
def amR(r)(o):(U.ptr r o).bG=J [.ptr r o]:=rfl
def alq(n)(h):W5.call 156 [I n] h=J (.ret (.v (.bool (kj n))),h):=by
 unfold I kj;by_cases c:n<0
 .refine cq O aa2 O ?_;have:decide (n<0)=V:=by simp[c]
  exact dV @XJ @Bool.true_or
 .refine cq O aa2 O ?_;have:decide (n<0)=ai:=by simp[c]
  exact dV @XJ @Bool.false_or
def ajm(H)(b)(k)(c:H.boxes[b]?=J [.v (.int .i64 k)])(q):∃H',W5.call 155 [.agg (aL q),.ptr (.box b) 0] H=J (.ret (.v (.bool (decide (q.aU=k)))),H')/\Ext H H':=by have d:(U.agg (aL q)).bG=J (aL q):=rfl;have f:aD aa Gt (H.push (aL q)) 3 (.ptr (.box (F H.boxes)) 0)=J (.v (.int .i64 q.aU)):=dE dS (aK _ _) O;have g:aD aa Gt (H.push (aL q)) 3 (.ptr (.box b) 0)=J (.v (.int .i64 k)):=dE dS (aM c) O;refine gy O Tryz.func155 O ?_;clear c;refine cK @apD @a_ @iS ?_;exact⟨_,O,.push _ _⟩
def agd(h:Heap)(c:Nat)(cs:List U)(L:U)(l:List Pr)(d:Int)(j:List Int)(z0:U)(S:h.boxes[c]?=J cs)(o:cs[5]?=J L)(hp:PL L l)(hl:F l<=1000000)(N:IL z0 j)(GP:F j<=1000):
 ∃r h',W5.call 77 [.ptr (.box c) 0,.v (.int .i64 d),z0] h=J (r,h')/\Ext h h'/\
  (((vu l d=af∨j.all cN=ai)/\r=.ret (.tuple [.agg (aL ⟨0,0,0,0⟩),.v (.int .i64 1)]))∨∃q,vu l d=J q/\j.all cN=V/\r=.ret (.tuple [.agg (aL q),.v (.int .i64 0)])):=by
 have zc:=zA;have E:((h.push [.v (.int .i64 d)]).push (aL ⟨0,0,0,0⟩)).boxes[h.boxes.length]?=J [.v (.int .i64 d)]:=aM (aK _ _);have y:((h.push [.v (.int .i64 d)]).push (aL ⟨0,0,0,0⟩)).boxes[c]?=J cs:=aM (aM S);have H:=aK (h.push [.v (.int .i64 d)]) (aL ⟨0,0,0,0⟩);obtain⟨_,i,c1,u,D⟩:=aiS 155 [.ptr (.box (F h.boxes)) 0] (λz3=>decide (z3.aU=d)) ((h.push [.v (.int .i64 d)]).push (aL ⟨0,0,0,0⟩)) L l hp hl (λq _ z1 hX=>ajm z1 (F h.boxes) d (hX.box _ _ E) q);have l0:aD aa Gt ((h.push [.v (.int .i64 d)]).push (aL ⟨0,0,0,0⟩)) 32 (.ptr (.box c) 5)=J L:=dE QT y o;have l1:aD aa Gt i 32 (.ptr (.box c) 5)=J L:=dE QT (u.box _ _ y) o;have k:=u.box _ _ H;have l2:=nj k;have st0:bY aa i 46 (.ptr (.box (F (h.push [.v (.int .i64 d)]).boxes)) 0) (.agg (aL ⟨0,0,0,0⟩))=J i:=by rw[fE (off:=0) (xs:=aL ⟨0,0,0,0⟩) O qh k O (aV 4),xh O,kC k]
 have z:=FX (pr:=Bt) O O 156 [] kj i z0 j N M (λn _=>alq n _);have g:=Kj j;have X3:=ae.mk (((Ext.push h [.v (.int .i64 d)]).trans (Ext.push _ (aL ⟨0,0,0,0⟩))).trans u);have v:=(aS.1 k).1;have w:∀q:Pr,bY aa i 46 (.ptr (.box (F (h.push [.v (.int .i64 d)]).boxes)) 0) (.agg (aL q))=J (i.put (F (h.push [.v (.int .i64 d)]).boxes) (aL q))/\aD aa Gt (i.put (F (h.push [.v (.int .i64 d)]).boxes) (aL q)) 46 (.ptr (.box (F (h.push [.v (.int .i64 d)]).boxes)) 0)=J (.agg (aL q)):=λq=>by refine⟨?_,nj (dn v)⟩;rw[fE (off:=0) (xs:=aL q) O qh k O (aV 4)];rfl
 have K:∀q:Pr,Ext h (i.put (F (h.push [.v (.int .i64 d)]).boxes) (aL q)):=λq=>X3.out.fy (by rw[bF];omega) _;have kq:=ae.mk (aj w K);rw[bF]at l2 st0;have kp:=ae.mk hp;unfold vu;clear E y H S o k u N w K hp v;refine bL O Tryz.func77 O ?_;unfold I at *
 rcases D with⟨p1,rfl⟩|⟨z2,q,rfl,t,p3⟩
 .have B:=ae.mk p1;clear p1 z;refine bA @OE @a_ @bF (aj @oY @HC) ?_;exact⟨_,_,O,X3.out,.inl ⟨.inl B.out,O⟩⟩
 .have B:=ae.mk (aj t p3);have Z:=(aS.1 t).1;have ix:=kp.out.ix Z;have ld:=p_ (H:=i) (s:=4) t;have auZ:decide (((z2:Nat):Int)<0)=ai:=b_ M;obtain⟨s1,s2⟩:=kq.out.1 q;rw[bF]at s1 s2;have m:=kq.out.2 q;rw[bF]at m;have kXQ:=ae.mk m;clear m;clear t p3;cases p:j.any kj with|true=>rw[p]at z g;have A:=ae.mk g;clear p g;refine bA @OE @a_ @bF (aj @oY @HC) ?_;exact⟨_,_,O,X3.out,.inl ⟨.inr A.out.symm,O⟩⟩|false=>rw[p]at z g;have A:=ae.mk g;clear p g;refine bA @OE @a_ @bF (aj @oY @HC) ?_;exact⟨_,_,O,kXQ.out,.inr ⟨q,B.out.2,A.out.symm,O⟩⟩
def ap6:Tryz.f78.results.toList=[.tmp 4]:=am
def EB:Tryz.f157.results.toList=[]:=am
def eX(ac:List Int)(c:Int)(k:Nat):List Nat:=(bZ k).filter λd=>decide (ag ac d=c)
def Ip{ac}{c}{k}(h:ag ac k=c):eX ac c (k+1)=eX ac c k++[k]:=by unfold eX;rw[jT,zH,List.filter_cons_of_pos (by simp[h])];rfl
def BA{ac}{c}{k}(h:ag ac k≠c):eX ac c (k+1)=eX ac c k:=by unfold eX;rw[jT,zH,List.filter_cons_of_neg (by simp[h])];simp
def XH(ac)(c):eX ac c (F ac)=zj ac c:=rfl
def apn(h:Heap)(c:Nat)(d:Int):W5.call 78 [.ptr (.box c) 0,.v (.int .i64 d)] h=J (.ret (.func (.func 157) [] [.ptr (.box (F h.boxes)) 0,.ptr (.box (F h.boxes+1)) 0]),(h.push [.ptr (.box c) 0]).push [.v (.int .i64 d)]):=by refine cq O Tryz.func78 O ?_;exact jb @ap6 @a_ @bF (aj @HC @amR)
def apr(l u q c:Nat)(Y:U)(ac:List Int)(d:Int)(Inv:Nat->Heap->Prop)(Stop:Heap->Prop)(E:IL Y ac)(Mm:F ac<=1000000)
 (t:∀k H,Inv k H->H.boxes[u]?=J [.ptr (.box c) 0]/\H.boxes[q]?=J [.v (.int .i64 d)]/\∃cs,H.boxes[c]?=J cs/\cs[2]?=J Y)
 (y:∀k H,k<F ac->ag ac k=d->Inv k H->(∃H',W5.round l [.v (.int .i64 (k:Nat))] H=J (.ret (.v (.bool V)),H')/\Inv (k+1) H')∨∃H',W5.round l [.v (.int .i64 (k:Nat))] H=J (.ret (.v (.bool ai)),H')/\Stop H')
 (z:∀k H,k<F ac->ag ac k≠d->Inv k H->Inv (k+1) H)
 (m:Heap) (r:Inv 0 m):∃H',W5.call 157 [.yield l,.ptr (.box u) 0,.ptr (.box q) 0] m=J (.ret (.tuple []),H')/\(Inv (F ac) H'∨Stop H'):=by
 have o:=ae.mk (aj t (aj y (aj z (aj r E))));obtain⟨v,-,cs,b3,b4⟩:=t 0 m r;have K:aD aa Gt m 121 (.ptr (.box u) 0)=J (.ptr (.box c) 0):=dE zV v O;have N:aD aa Gt m 23 (.ptr (.box c) 2)=J Y:=dE mE b3 b4;have ln:=E.dK;clear t y z r E v b3 b4;refine gy O Tryz.func157 O ?_;refine bA @EB @oY @gN @af2 ?_;refine b9 (λz0 e H=>∃k:Nat,k<=F ac/\z0=F ac-k/\ae (Inv k H)/\e.get 0=.yield l/\e.get 2=.ptr (.box q) 0/\e.get 11=Y/\e.get 12=.v (.int .i64 (F ac:Nat))/\e.get 13=.v (.int .i64 (k:Nat))/\e.defers=[]) ?_ (F ac) _ _ ?_;rotate_left 1
 .refine⟨0,bV _,O,⟨o.out.2.2.2.1⟩,?_,?_,?_,?_,?_,?_⟩<;>exact gR
 clear K N;rintro z0 e H ⟨k,hk,rfl,g,g0,g2,Z,g12,g13,hd⟩;by_cases j:k<F ac;rotate_left 1
 .have:k=F ac:=by omega
  subst this;refine bg @EB ?_;exact⟨_,O,.inl g.out⟩
 obtain⟨-,w,-⟩:=o.out.1 k H g.out;have ix:=o.out.2.2.2.2.ix j;have ld:=eJ (H:=H) (l:=ac) (i:=k) (s:=1) j;have lk:aD aa Gt H 3 (.ptr (.box q) 0)=J (.v (.int .i64 d)):=dE dS w O;have D:(k:Int)<(F ac:Int):=by omega
 clear w;by_cases hc:ag ac k=d
 .have B:decide (ag ac k=d)=V:=bQ hc;rcases o.out.2.1 k H j hc g.out with⟨H',S,p⟩|⟨H',S,p⟩
  .have f:=ae.mk p;clear p hc g;generalize ag ac k=A at *
   refine bE @EB @xN ?_;exact⟨F ac-(k+1),by omega,k+1,by omega,O,f,by simp⟩
  .have f:=ae.mk p;clear p hc g;generalize ag ac k=A at *
   refine bE @EB @xN ?_;exact⟨_,O,.inr f.out⟩
 .have B:decide (ag ac k=d)=ai:=b_ hc;have f:=ae.mk (o.out.2.2.1 k H j hc g.out);clear hc g;generalize ag ac k=A at *
  refine bE @EB @xN ?_;exact⟨F ac-(k+1),by omega,k+1,by omega,O,f,by simp⟩
def auj:(fM aa 121).bind U.bG=J [.v (.pointer af)]:=am
def asr{H:Heap}(c):bY aa (H.push [.v (.pointer af)]) 121 (.ptr (.box (F H.boxes)) 0) (.ptr (.box c) 0)=J (H.push [.ptr (.box c) 0]):=kL O am O rfl
def atP{rows}{ac ah}{ep}{text}{l}(h:d_ rows ac ep ah text l=0):
 ∃y,fm rows ac (l.map Pr.aU)=(y,V,0)/\gK rows ac l=y/\F y=F rows:=by
 have d:=h;unfold d_ at h;rw[aP (by simp[(FK d).1])]at h;split at h
 .simp at h
 .split at h
  .simp at h
  .split at h
   .simp at h
   .split at h
    .simp at h
    .cases c:fm rows ac (l.map Pr.aU) with
     |mk y f=>
      obtain⟨k,e⟩:=f;rw[c]at h;simp only at h;split at h
      .simp at h
      .rename_i j;simp only[not_or,Ju,Bool.not_eq_false]at j;obtain⟨g,i,-⟩:=j;subst g;subst i;exact⟨y,O,by unfold gK;rw[c],(abB c).2.2.1⟩
def aqV(c o):cH (.ptr (.box c) o) (.ptr (.box c) o)=V:=by rw[cH,IM,aaF,aaF];rfl
def al4{l}{c}{q}(h:vu l c=J q):q∈l/\q.aU=c:=by unfold vu at h;refine⟨List.mem_of_find?_eq_some h,?_⟩;have:=List.find?_some h;simpa using this
end Go.Proofs.YtcbhpkjbiehcpaaGreatDoor
end
section
namespace Go.AE
section
variable {P:Program} {G:Nat->Option (List U)} {R:Rec}
def O2{ops:Array Oper}{e:Env}{h:Heap}{i j:Nat}{o:Oper}{t:TypeId}{a:bP}(m:nB ops i j=V)(d:ops[j]?=J o)(f:o.op=.load t a)
 (k:(ops[i]?).map (λo=>ig o.op)=J .h_) {x v:U} (B:cH v v=V)
 (z:ck P G R ops (ops.toList.take j) e h (λq g r=>q=.normal/\et ops g o=J V/\g.eval a=x/\aD P G r t x=J v))
 (A:ck P G R ops (ops.toList.take i) e h (λq _ p=>q=.normal/\aD P G p t x=J v)):jn P G R ops e h i j=V:=by
 have K:i<ops.size:=by
  rcases dp i ops.size with c|c
  .exact c
  .rw[B7 c]at k;cases k
 have E:j<ops.size:=by
  rcases dp j ops.size with c|c
  .exact c
  .rw[B7 c]at d;cases d
 have hc:(ops[j]?).map (λo=>ig o.op)=J .reads:=by rw[d];simp only[fk,f];rfl
 unfold jn;rw[m,hc,k];simp only[mq];unfold nS;rw[d,nP M,nP M];obtain⟨N,g,r,u,rfl,s,w,y⟩:=z;obtain⟨S,H,p,f1,rfl,f2⟩:=A;rw[u,f1];simp only[s,f,w,y,f2,B]
def ar1{ops:Array Oper}{e:Env}{h:Heap}{i j:Nat}{o:Oper}{t:TypeId}{a:bP}(k:nB ops i j=V)(d:ops[j]?=J o)(m:o.op=.load t a)
 (f:(ops[i]?).map (λo=>ig o.op)=J .h_)
 (s:ck P G R ops (ops.toList.take j) e h (λq g w=>q=.normal/\et ops g o=J ai))
 (u:ck P G R ops (ops.toList.take i) e h (λq _ v=>q=.normal)):jn P G R ops e h i j=V:=by
 have A:i<ops.size:=by
  rcases dp i ops.size with c|c
  .exact c
  .rw[B7 c]at f;cases f
 have y:j<ops.size:=by
  rcases dp j ops.size with c|c
  .exact c
  .rw[B7 c]at d;cases d
 have hc:(ops[j]?).map (λo=>ig o.op)=J .reads:=by rw[d];simp only[fk,m];rfl
 unfold jn;rw[k,hc,f];simp only[mq];unfold nS;rw[d,nP M,nP M];obtain⟨B,g,w,r,rfl,p⟩:=s;obtain⟨E,z,v,f1,rfl⟩:=u;rw[r,f1];simp only[p]
end
end Go.AE
end
section
namespace Go.Proofs.YtcbhpkjbiehcpaaGreatDoor
open Go.AE Go.NT
def jm:Tryz.f30.results.toList=[.cell 14 3,.cell 15 39]:=am
def apq(ac)(c){k}:∀{n:Nat},k<=n->∃t,eX ac c n=eX ac c k++t:=by
 intro n
 induction n with
 |zero=>intro h;exact⟨[],by rw[(M:k=0)];simp⟩
 |succ n g=>
  intro h;rcases dp n k with i|d
  .exact⟨[],by rw[(M:k=n+1)];simp⟩
  .obtain⟨t,ht⟩:=g d;by_cases f:ag ac n=c
   .exact⟨t++[n],by rw[Ip f,ht,iE]⟩
   .exact⟨t,by rw[BA f,ht]⟩
def alS{rows}{ac ah}{c}{s}(h:lK rows ac ah c s=V){k}(i:k<F ac)(g:ag ac k=c):
 ∃p,s[(eX ac c k).length]?=J p/\p.1=((k:Nat):Int)/\BS rows ah p=V:=by
 unfold lK at h;rw[bm,decide_eq_true_eq]at h;obtain⟨f,d⟩:=h;obtain⟨j,ht⟩:=apq ac c (M:k+1<=F ac);rw[XH,Ip g]at ht;have e:(s.map dN)[(eX ac c k).length]?=J ((k:Nat):Int):=by rw[f,ht,dW,iE,v_ (aV _),qs];rfl
 rw[dW]at e;cases hp:s[(eX ac c k).length]? with
 |none=>rw[hp]at e;cases e
 |some p=>rw[hp]at e;injection e with e;rw[eF]at d;exact⟨p,O,e,d p (cU hp)⟩
def ES{H}{b}{x}{n}(c:H.boxes[b]?=J [x]):bY aa H 3 (.ptr (.box b) 0) (.v (.int .i64 n))=J (H.put b [.v (.int .i64 n)]):=fE (off:=0) (cs:=[x]) (xs:=[.v (.int .i64 n)]) O eR c O (aV 1)
def Kg:fx aa 72=J ai:=am
def ER{H}{b}{x}{n}(c:H.boxes[b]?=J [x]):bY aa H 39 (.ptr (.box b) 0) (.v (.int .i64 n))=J (H.put b [.v (.int .i64 n)]):=fE (off:=0) (cs:=[x]) (xs:=[.v (.int .i64 n)]) O YX c O (aV 1)
def aui:(fM aa 3).bind U.bG=J [.v (.int .i64 0)]:=am
def aug:(fM aa 39).bind U.bG=J [.v (.int .i64 0)]:=am
def at5{y}{s:List (Int × Int)}{i}{p}(h:s[i]?=J p):kO y (s.take (i+1))=dx (kO y (s.take i)) (cS (ag y p.1.toNat) p.2):=by unfold kO;rw[fY h,oj];rfl
def SL.ix{x}{l}(h:SL x l){i}(hi:i<F l):dH aa 72 x (.v (.int .i64 (i:Nat)))=J (.elem 2 (bN l) i 0):=by obtain⟨f,j,rfl,d⟩:=h;have c:j=2:=d (by intro g;rw[g]at hi;simp at hi);subst c;have:=aT (k:=f) (kk:=.i64) (es:=bN l) (a:=((i:Nat):Int)) QJ YZ M (by rw[vG];omega);rw[this,fh]
def SL.dK{x}{l}(h:SL x l):dK aa 72 x=J (.v (.int .i64 (F l:Nat))):=by obtain⟨d,f,rfl,-⟩:=h;have c:=QJ;unfold Go.AE.dK;rw[c];simp only[vG]
def SL.bG{x}{l}(h:SL x l):x.bG=J [x]:=by obtain⟨c,d,rfl,-⟩:=h;rfl
structure Cq(Hb:Heap)(li:Nat)(rec:gM)(YV ib zb eb:Nat)(rows:List (List Int))(ac ah W:List Int)(aU:Int)(s:List (Int × Int))(k:Nat)(H:Heap):Prop where
 lp:H.loops[li]?=J rec
 fD:∀(a:Nat) (cs:List U),Hb.boxes[a]?=J cs->a≠YV->a≠ib->H.boxes[a]?=J cs
 sum:H.boxes[YV]?=J [.v (.int .i64 (kO W (s.take (eX ac aU k).length)))]
 ix:H.boxes[ib]?=J [.v (.int .i64 ((eX ac aU k).length:Nat))]
 le:(eX ac aU k).length<=s.length
 same:(s.take (eX ac aU k).length).map dN=(eX ac aU k).map λ(i:Nat)=>(i:Int)
 ok:(s.take (eX ac aU k).length).all (BS rows ah)=V
structure Cr(li:Nat)(rec:gM)(zb eb:Nat)(H:Heap):Prop where
 lp:H.loops[li]?=J {rec with state:=.done,pending:=J .ret}
 z:H.boxes[zb]?=J [.v (.int .i64 0)]
 e:H.boxes[eb]?=J [.v (.int .i64 340)]
def aeq{rows}{ac ah}(c:cG rows ac=0)(d:F ah=cd rows)(f:ah.all bX=V):iz rows ac ah=0:=by unfold iz;rw[aP (by simp[c]),av (by rw[bQ d,f];rfl)]
def agj{rows}{ac ah}(hc:iz rows ac ah=0){k}{v}(f:k<F rows):
 (BS rows ah (((k:Nat):Int),v)=V/\pP rows ac ah (((k:Nat):Int),v)=(V,0))∨(BS rows ah (((k:Nat):Int),v)=ai/\(pP rows ac ah (((k:Nat):Int),v)=(ai,340)∨pP rows ac ah (((k:Nat):Int),v)=(ai,0))):=by
 have d:rU rows (((k:Nat):Int),v)=cN v:=by unfold rU;rw[bQ (show(0:Int)<=((k:Nat):Int) by omega),bQ (show((k:Nat):Int)<(F rows:Int) by omega)];rfl
 unfold BS pP;rw[aP (by simp[hc]),d];simp only[fh];cases g:cN v with
 |false=>exact .inr ⟨O,.inl O⟩|true=>
  by_cases c:ec Gn v=rN ah (rows.getD k [])
  .left;rw[bQ c];exact⟨O,O⟩
  .right;rw[b_ c];exact⟨O,.inr O⟩
def xY{Hx}{zb eb}{x y}(g:Hx.boxes[zb]?=J [x])(d:Hx.boxes[eb]?=J [y])(c:zb≠eb)(n m):
 bY aa Hx 3 (.ptr (.box zb) 0) (.v (.int .i64 n))=J (Hx.put zb [.v (.int .i64 n)])/\aD aa Gt Hx 39 (.ptr (.box eb) 0)=J y/\aD aa Gt (Hx.put zb [.v (.int .i64 n)]) 39 (.ptr (.box eb) 0)=J y/\
  bY aa (Hx.put zb [.v (.int .i64 n)]) 39 (.ptr (.box eb) 0) (.v (.int .i64 m))=J ((Hx.put zb [.v (.int .i64 n)]).put eb [.v (.int .i64 m)])/\
  aD aa Gt ((Hx.put zb [.v (.int .i64 n)]).put eb [.v (.int .i64 m)]) 3 (.ptr (.box zb) 0)=J (.v (.int .i64 n))/\aD aa Gt ((Hx.put zb [.v (.int .i64 n)]).put eb [.v (.int .i64 m)]) 39 (.ptr (.box eb) 0)=J (.v (.int .i64 m)):=by
 have i:=(aS.1 g).1;have f:=(aS.1 d).1;have o:(Hx.put zb [U.v (.int .i64 n)]).boxes[eb]?=J [y]:=by rw[cr (Ne.symm c)];exact d
 have j:((Hx.put zb [U.v (.int .i64 n)]).put eb [U.v (.int .i64 m)]).boxes[zb]?=J [.v (.int .i64 n)]:=by rw[cr c];exact dn i
 have k:((Hx.put zb [U.v (.int .i64 n)]).put eb [U.v (.int .i64 m)]).boxes[eb]?=J [.v (.int .i64 m)]:=dn (by rw[jd];exact f);exact⟨ES g,dE xE d O,dE xE o O,ER o,dE dS j O,dE xE k O⟩
def oC(rows:List (List Int))(ac:List Int)(ep:Int)(ah:List Int)(text:List UInt8)(l:List Pr)(c:Int)(s:List (Int × Int))(d f:Int):Int × Int:=
 if d_ rows ac ep ah text l≠0 then (0,d_ rows ac ep ah text l) else Bb rows ac ah text l c s d f
def akR{rows}{ac ah}{text}{l}{c}{s}{d f}(h:vu l c=af∨[d,f].all cN=ai):Bb rows ac ah text l c s d f=(0,1):=by
 unfold Bb;cases hp:vu l c with
 |none=>rfl|some x=>
  rcases h with q|q
  .rw[hp]at q;cases q
  .have:(cN d&&cN f)=ai:=(by simpa using q);simp only[this];rfl
def akS{rows}{ac ah}{text}{l}{c}{s}{d f}{x}(h:vu l c=J x)(g:[d,f].all cN=V):Bb rows ac ah text l c s d f=
 if lK rows ac ah c s=ai then (0,340) else if ¬((ec Gn d:Nat):Int)=x.d∨¬((ec Gn f:Nat):Int)=x.e then (0,420)
 else (dx (dx d (cS f (iQ (ag ah 0) text l c))) (cS (gc (ag ah 0) text l) (kO (gK rows ac l) s)),0):=by
 unfold Bb;have:(cN d&&cN f)=V:=by simpa using g
 rw[h];simp only[this];cases lK rows ac ah c s<;>rfl
def adc(a b):ff aa 23 2 [(0,.v (.int .i64 a)),(1,.v (.int .i64 b))]=J (.list .tight 1 (ints [a,b])):=am
def akO(h:Heap)(fJ:c_ h=V)(ep:Int)(X Y C T L zd:U)(rows:List (List Int))(ac ah:List Int)(text:List UInt8)(l:List Pr)(s:List (Int × Int))(c d f:Int)
 (hx:RL X rows) (E:IL Y ac) (hc:IL C ah) (ht:BL T text) (hp:PL L l) (hs:SL zd s) (eI:F ah<=1000000) (gB:F l<=1000000) (qG:F s<=1000000):
 ∃r h',W5.call 30 [.agg (aF ep X Y C),T,L,.v (.int .i64 c),zd,.v (.int .i64 d),.v (.int .i64 f)] h=J (r,h')/\r=.ret (.tuple [.v (.int .i64 (oC rows ac ep ah text l c s d f).1),.v (.int .i64 (oC rows ac ep ah text l c s d f).2)]):=by
 have bx:=mP (ep:=ep) hx E hc;have bS:=hs.bG;have zc:=auj;have zp:=zA;have z3:=aui;have z32:=aug;obtain⟨h0,AF⟩:∃h0,(((h.push (aF ep X Y C)).push [zd]).push [.v (.int .i64 0)]).push [.v (.int .i64 0)]=h0:=⟨_,O⟩;obtain⟨sb,DO⟩:∃n,F (h.push (aF ep X Y C)).boxes=n:=⟨_,O⟩;obtain⟨t,MU⟩:∃n,F ((h.push (aF ep X Y C)).push [zd]).boxes=n:=⟨_,O⟩;obtain⟨k,LP⟩:∃n,F (((h.push (aF ep X Y C)).push [zd]).push [.v (.int .i64 0)]).boxes=n:=⟨_,O⟩;obtain⟨kb,L'⟩:∃n,F h.boxes=n:=⟨_,O⟩;have o1:kb<sb/\sb<t/\t<k:=by rw[<-L',<-DO,<-MU,<-LP];simp only[bF];omega
 have gk:h0.boxes[kb]?=J (aF ep X Y C):=by rw[<-AF,<-L'];exact aM (aM (aM (aK _ _)))
 have gs:h0.boxes[sb]?=J [zd]:=by rw[<-AF,<-DO];exact aM (aM (aK _ _))
 have gz:h0.boxes[t]?=J [.v (.int .i64 0)]:=by rw[<-AF,<-MU];exact aM (aK _ _)
 have ge:h0.boxes[k]?=J [.v (.int .i64 0)]:=by rw[<-AF,<-LP];exact aK _ _
 have Ml:c_ h0=V:=by rw[<-AF];exact fJ
 obtain⟨r1,h1,c1,x1,post⟩:=Q' h0 Ml ep X Y C T L rows ac ah text l hx E hc ht hp eI gB;have l0:aD aa Gt h0 27 (.ptr (.box kb) 0)=J (.agg (aF ep X Y C)):=by rw[fC am (by kernel_rfl:cB aa 27=J 4) gk (jq O)];rfl
 have kE1:ae (d_ rows ac ep ah text l≠0->oC rows ac ep ah text l c s d f=(0,d_ rows ac ep ah text l)):=⟨λp=>by unfold oC;rw[av p]⟩;have kE2:ae (d_ rows ac ep ah text l=0->oC rows ac ep ah text l c s d f=Bb rows ac ah text l c s d f):=⟨λp=>by unfold oC;rw[aP (by simp[p])]⟩;have kbo:=ae.mk (λp=>@FK rows ac ah ep text l p);have kwt:=ae.mk (λp=>@atP rows ac ah ep text l p);have kf:=ae.mk (aj hx (aj E (aj hc (aj hp hs))));have gk1:=x1.box _ _ gk;have gs1:=x1.box _ _ gs;have iB:=x1.box _ _ gz;have ge1:=x1.box _ _ ge;have DG:=x1.ok Ml;have lS:=hs.dK;generalize oC rows ac ep ah text l c s d f=res at *
 generalize d_ rows ac ep ah text l=be at *
 have Um:=(aS.1 ge1).1;clear hx E hc ht hp hs x1 gk gs gz ge Ml fJ;refine bL O Tryz.func30 O ?_;rcases post with⟨p,rfl⟩|⟨p,z0,Wt,rfl,tE,zi⟩
 .have kr:=ae.mk (kE1.out p);have stn:bY aa (h1.push [.v (.pointer af)]) 121 (.ptr (.box (F h1.boxes)) 0) (.v (.pointer af))=J (h1.push [.v (.pointer af)]):=kL O am O O;have ste:bY aa (h1.push [.v (.pointer af)]) 39 (.ptr (.box k) 0) (.v (.int .i64 be))=J ((h1.push [.v (.pointer af)]).put k [.v (.int .i64 be)]):=ER (aM ge1);obtain⟨a1,a2,a3,a4,a5,a6⟩:=xY (Hx:=(h1.push [.v (.pointer af)]).put k [.v (.int .i64 be)]) (zb:=t) (eb:=k) (x:=.v (.int .i64 0)) (y:=.v (.int .i64 be)) (by rw[cr M];exact aM iB) (dn (by rw[bF];omega)) M 0 be;clear kE1 kE2 kbo kwt gk1 gs1 iB ge1 DG;refine bE @jm @a_ ?_;refine iC [(0,1)] jF am (λz9 hp=>?_) ?_
  .simp only[hY]at hp;subst hp;refine kJ (x:=.ptr (.box k) 0) (v:=.v (.int .i64 be)) am O O O am (by simp[cH,gH]) ?_ ?_<;>(simp only[dw,cX];exact dV @jm @and_self)
  refine bg @jm ?_;exact⟨_,_,O,by rw[kr.out]⟩
 obtain⟨p1,p2,p3,p4,p5,p6⟩:=kbo.out p;obtain⟨zh,w1,w2,w3⟩:=kwt.out p;have m:=kE2.out p;have N:=aeq p1 p2 p3;subst p;clear kE1 kE2 kbo kwt;obtain⟨z,tK⟩:∃z,h1.push [.ptr (.box z0) 0]=z:=⟨_,O⟩;obtain⟨wb,Ha⟩:∃n,F h1.boxes=n:=⟨_,O⟩;have stn:bY aa (h1.push [.v (.pointer af)]) 121 (.ptr (.box wb) 0) (.ptr (.box z0) 0)=J z:=by rw[<-tK,<-Ha];exact asr z0
 have gk2:z.boxes[kb]?=J (aF ep X Y C):=by rw[<-tK];exact aM gk1
 have gs2:z.boxes[sb]?=J [zd]:=by rw[<-tK];exact aM gs1
 have dV:z.boxes[t]?=J [.v (.int .i64 0)]:=by rw[<-tK];exact aM iB
 have ge2:z.boxes[k]?=J [.v (.int .i64 0)]:=by rw[<-tK];exact aM ge1
 have gw2:z.boxes[wb]?=J [.ptr (.box z0) 0]:=by rw[<-tK,<-Ha];exact aK _ _
 have ste:bY aa z 39 (.ptr (.box k) 0) (.v (.int .i64 0))=J z:=by rw[ER ge2,kC ge2]
 have le2:aD aa Gt z 39 (.ptr (.box k) 0)=J (.v (.int .i64 0)):=dE xE ge2 O;have lw2:aD aa Gt z 121 (.ptr (.box wb) 0)=J (.ptr (.box z0) 0):=dE zV gw2 O;have W2:sN z z0 ep X Y C T L Wt ((jy (ag ah 0) text l:Nat):Int) ((gc (ag ah 0) text l:Nat):Int) ah text l:=by rw[<-tK];exact zi.mono (.push _ _)
 have AK:c_ z=V:=by rw[<-tK];exact DG
 obtain⟨b,vr,w4,-⟩:=W2.qi;obtain⟨_,h3,c2,x3,post⟩:=agd z z0 _ L l c [d,f] (.list .tight 1 (ints [d,f])) w4 O kf.out.2.2.2.1 gB ⟨_,_,O,λ_=>rfl⟩ b7;have bl:=adc d f;have avj:k<wb:=by rw[<-Ha];exact Um
 clear w4 zi gk1 gs1 iB ge1 DG Um;have o0:=x3.box _ _ dV;have ge3:=x3.box _ _ ge2;rcases post with⟨p,rfl⟩|⟨x,q1,q2,rfl⟩
 .have kr:=ae.mk (m.trans (akR p));have sq:=zr (H:=h3) ⟨0,0,0,0⟩;have se:bY aa (h3.push (aL ⟨0,0,0,0⟩)) 39 (.ptr (.box k) 0) (.v (.int .i64 1))=J ((h3.push (aL ⟨0,0,0,0⟩)).put k [.v (.int .i64 1)]):=ER (aM ge3);obtain⟨a1,a2,a3,a4,a5,a6⟩:=xY (Hx:=(h3.push (aL ⟨0,0,0,0⟩)).put k [.v (.int .i64 1)]) (zb:=t) (eb:=k) (x:=.v (.int .i64 0)) (y:=.v (.int .i64 1)) (by rw[cr M];exact aM o0) (dn (by rw[bF];have:=(aS.1 ge3).1;omega)) M 0 1;clear m p W2 x3 gk2 gs2 dV ge2 gw2 AK o0 ge3 p1 p2 p3 p6 w1 w2 w3 N tE;refine bE @jm @a_ ?_;refine iC [(0,1)] jF am (λz9 hp=>?_) ?_
  .simp only[hY]at hp;subst hp;refine kJ (x:=.ptr (.box k) 0) (v:=.v (.int .i64 1)) am O O O am (by simp[cH,gH]) ?_ ?_<;>(simp only[dw,cX];exact dV @jm @and_self)
  refine bg @jm ?_;exact⟨_,_,O,by rw[kr.out]⟩
 rw[akS q1 q2]at m;obtain⟨fa,uZ⟩:=al4 q1;have hm:=yZ p6 x fa;have sq:=zr (H:=h3) x;obtain⟨h4,GF⟩:∃h4,h3.push (aL x)=h4:=⟨_,O⟩;obtain⟨pb,Mw⟩:∃n,F h3.boxes=n:=⟨_,O⟩;rw[GF,Mw]at sq;have o3:wb<pb:=by have i:=(aS.1 gw2).1;have A:=x3.len;omega
 have X4:Ext z h4:=by rw[<-GF];exact x3.trans (.push _ _)
 have gk4:=X4.box _ _ gk2;have gs4:=X4.box _ _ gs2;have jb:=X4.box _ _ dV;have ge4:=X4.box _ _ ge2;have gw4:=X4.box _ _ gw2;have gp4:h4.boxes[pb]?=J (aL x):=by rw[<-GF,<-Mw];exact aK _ _
 have W4':=W2.mono X4;have ste4:bY aa h4 39 (.ptr (.box k) 0) (.v (.int .i64 0))=J h4:=by rw[ER ge4,kC ge4]
 have le4:aD aa Gt h4 39 (.ptr (.box k) 0)=J (.v (.int .i64 0)):=dE xE ge4 O;obtain⟨S,GG⟩:∃S,(h4.push [.v (.int .i64 0)]).push [.v (.int .i64 0)]=S:=⟨_,O⟩;obtain⟨g,G_⟩:∃n,F h4.boxes=n:=⟨_,O⟩;obtain⟨q,rz⟩:∃n,F (h4.push [.v (.int .i64 0)]).boxes=n:=⟨_,O⟩;have o2:pb<g/\g<q:=by refine⟨?_,by rw[<-G_,<-rz,bF];omega⟩;rw[<-G_];exact(aS.1 gp4).1
 have gsum5:S.boxes[g]?=J [.v (.int .i64 0)]:=by rw[<-GG,<-G_];exact aM (aK _ _)
 have gib5:S.boxes[q]?=J [.v (.int .i64 0)]:=by rw[<-GG,<-rz];exact aK _ _
 have X5:Ext h4 S:=by rw[<-GG];exact(Ext.push _ _).trans (.push _ _)
 have st5a:bY aa S 3 (.ptr (.box g) 0) (.v (.int .i64 0))=J S:=by rw[ES gsum5,kC gsum5]
 have st5b:bY aa S 3 (.ptr (.box q) 0) (.v (.int .i64 0))=J S:=by rw[ES gib5,kC gib5]
 have gw5:=X5.box _ _ gw4;have lw5:aD aa Gt S 121 (.ptr (.box wb) 0)=J (.ptr (.box z0) 0):=dE zV gw5 O;have c3:=apn S z0 c;obtain⟨j,yr⟩:∃j,(S.push [.ptr (.box z0) 0]).push [.v (.int .i64 c)]=j:=⟨_,O⟩;rw[yr]at c3;have X6:Ext h4 j:=by rw[<-yr];exact X5.trans ((Ext.push _ _).trans (.push _ _))
 have u:j.boxes[g]?=J [.v (.int .i64 0)]:=by rw[<-yr];exact aM (aM gsum5)
 have K:j.boxes[q]?=J [.v (.int .i64 0)]:=by rw[<-yr];exact aM (aM gib5)
 have ga6:j.boxes[S.boxes.length]?=J [.ptr (.box z0) 0]:=by rw[<-yr];exact aM (aK _ _)
 have gb6:j.boxes[F S.boxes+1]?=J [.v (.int .i64 c)]:=by rw[<-yr];exact mJ (by rw[bF])
 have l5:g<F S.boxes/\q<F S.boxes:=⟨(aS.1 gsum5).1,(aS.1 gib5).1⟩;have kall:=ae.mk (aj m (aj uZ (aj hm (aj w2 (aj w3 tE)))));have kprog:=ae.mk (aj p1 (aj p3 N));have gk6:=X6.box _ _ gk4;have gs6:=X6.box _ _ gs4;have tv:=X6.box _ _ jb;have ge6:=X6.box _ _ ge4;have gw6:=X6.box _ _ gw4;have gp6:=X6.box _ _ gp4;have W6':=W4'.mono X6;have kst:=ae.mk (aj gk6 (aj gs6 (aj tv (aj ge6 (aj gw6 (aj gp6 W6'))))));have sumv:g<F h4.boxes+1:=by omega
 have kxl:=fa;clear m uZ hm w1 w2 w3 tE p1 p3 N gk6 gs6 tv ge6 gw6 gp6 W6' W4' W2 gk4 gs4 jb ge4 gw4 gp4 gk2 gs2 dV ge2 gw2 o0 ge3 q1 q2 fa x3 X4 X5 gw5 gsum5 gib5 AK p2 p6 sumv;refine bE @jm @a_ ?_;refine bC.gen λe4 m_ rx yA yE=>?_;have f5:e4.get 5=.v (.int .i64 d):=by rw[m_];exact gS
 have f6:e4.get 6=.v (.int .i64 f):=by rw[m_];exact gS
 have f7:e4.get 7=.ptr (.box kb) 0:=by rw[m_];exact gS
 have f11:e4.get 11=.ptr (.box sb) 0:=by rw[m_];exact gS
 have f14:e4.get 14=.ptr (.box t) 0:=by rw[m_];exact gS
 have f15:e4.get 15=.ptr (.box k) 0:=by rw[m_];exact gS
 have f16:e4.get 16=.ptr (.box wb) 0:=by rw[m_];exact gS
 have f17:e4.get 17=.ptr (.box pb) 0:=by rw[m_];exact gS
 have f18:e4.get 18=.ptr (.box g) 0:=by rw[m_];exact gS
 have f19:e4.get 19=.ptr (.box q) 0:=by rw[m_];exact gS
 have f47:e4.get 47=.func (.func 157) [] [.ptr (.box (F S.boxes)) 0,.ptr (.box (F S.boxes+1)) 0]:=by rw[m_];exact gS
 have fd:e4.defers=[]:=by rw[rx];exact gS
 clear m_ rx yA yE c1 c2 c3 l0 lS bl stn ste le2 lw2 sq ste4 le4 st5a st5b lw5 zc zp z3 z32 bx bS AF DO MU LP L' tK Ha GF Mw GG G_ rz yr;obtain⟨gk6,gs6,tv,ge6,gw6,gp6,W6⟩:=kst.out;obtain⟨p1,p3,N⟩:=kprog.out;obtain⟨m,uZ,hm,w2,w3,tE⟩:=kall.out;have kW:=ae.mk W6;clear kst kprog kall W6;obtain⟨og1,og2,og3,og4⟩:=ub p1;have mM:c_ j=c_ j:=rfl;refine EL (by rw[Aq];exact f47) λrec v1 v2 v3 v4 v5 v6=>?_;have nb:(j.loop rec).loops[j.loops.length]?=J rec:=@D' j rec;have feed:=apr (F j.loops) (F S.boxes) (F S.boxes+1) z0 Y ac c (Cq (j.loop rec) (F j.loops) rec g q t k rows ac ah (gK rows ac l) c s)
  (λz7=>Cr (F j.loops) rec t k z7/\lK rows ac ah c s=ai) kf.out.2.1 M
  (λw z7 p=>by
   obtain⟨b6,vr6,i,-⟩:=kW.out.qi;refine⟨p.fD _ _ ga6 M M,p.fD _ _ gb6 M M,_,p.fD _ _ i (λe=>?_) (λe=>?_),O⟩
   .rw[e]at i;rw[u]at i;unfold f_ at i;simp at i
   .rw[e]at i;rw[K]at i;unfold f_ at i;simp at i)
  ?_
  (λw z7 hk hc p=>⟨p.lp,p.fD,by rw[BA hc];exact p.sum,by rw[BA hc];exact p.ix,by rw[BA hc];exact p.le,by rw[BA hc];exact p.same,by rw[BA hc];exact p.ok⟩)
  (j.loop rec) ⟨nb,λa cs ha _ _=>ha,u,K,bV _,by simp[eX],by simp[eX]⟩
 rotate_left 1
 .intro w z7 hk hc p;have wS:=p.lp
  suffices hs:∃b H',W5.round (F j.loops) [.v (.int .i64 (w:Nat))] z7=J (.ret (.v (.bool b)),H')/\if b=V then Cq (j.loop rec) (F j.loops) rec g q t k rows ac ah (gK rows ac l) c s (w+1) H' else (Cr (F j.loops) rec t k H'/\lK rows ac ah c s=ai) by
   obtain⟨b,H',q1,q2⟩:=hs;cases b with|true=>exact .inl ⟨H',q1,q2⟩|false=>exact .inr ⟨H',q1,q2⟩
  refine apk (Post:=λb H'=>if b=V then Cq (j.loop rec) (F j.loops) rec g q t k rows ac ah (gK rows ac l) c s (w+1) H' else (Cr (F j.loops) rec t k H'/\lK rows ac ah c s=ai)) wS (by rw[v2];rfl) v5 v6 ?_;have r1:∀zg,(nq (F j.loops) rec [.v (.int .i64 (w:Nat))]).get zg=if 48=zg then .v (.int .i64 (w:Nat)) else e4.get zg:=λzg=>apf v2 v1
  have d1:(nq (F j.loops) rec [.v (.int .i64 (w:Nat))]).defers=[]:=rfl;obtain⟨z8,hK⟩:∃z8,z7.busy (F j.loops) rec=z8:=⟨_,O⟩;have wL:∀a:Nat,z8.boxes[a]?=z7.boxes[a]?:=λa=>by rw[<-hK];rfl
  have yd:z8.loops[j.loops.length]?=J {rec with state:=.busy}:=by rw[<-hK];have:=(aS.1 wS).1;show(z7.loops.set _ _)[_]?=_;simp[this]
  have y:∀(a:Nat) (cs:List U),j.boxes[a]?=J cs->a≠g->a≠q->z8.boxes[a]?=J cs:=λa cs ha n1 n2=>by rw[wL];exact p.fD a cs ha n1 n2
  have AI:=y _ _ gk6 M M;have AS:=y _ _ gs6 M M;have yI:=y _ _ tv M M;have yn:=y _ _ ge6 M M;have DU:=y _ _ gw6 M M;have DP:=(wL g).trans p.sum;have AH:=(wL q).trans p.ix;have iq:=p.le;have lib:aD aa Gt z8 3 (.ptr (.box q) 0)=J (.v (.int .i64 (F (eX ac c w):Nat))):=dE dS AH O;have lsb:aD aa Gt z8 72 (.ptr (.box sb) 0)=J zd:=dE Kg AS O;have lSn:=kf.out.2.2.2.2.dK;obtain⟨a1,a2,a3,a4,a5,a6⟩:=xY yI yn M 0 340;have yJ:=(aS.1 yI).1;have GC:=(aS.1 yn).1;have kstop:ae (∀(o:Heap),o.loops[j.loops.length]?=J {rec with state:=.busy}->t<F o.boxes->k<F o.boxes->Cr (F j.loops) rec t k (((o.put t [.v (.int .i64 0)]).put k [.v (.int .i64 340)]).eY (F j.loops) {rec with state:=.done,pending:=J .ret})):=⟨λo q1 q2 q3=>by
   have gB:=(aS.1 q1).1;refine⟨Yj gB,?_,?_⟩
   .show((o.put t [.v (.int .i64 0)]).put k [.v (.int .i64 340)]).boxes[t]?=_;rw[cr M];exact dn q2
   .show((o.put t [.v (.int .i64 0)]).put k [.v (.int .i64 340)]).boxes[k]?=_;exact dn (by rw[jd];exact q3)⟩
  have kown:=ae.mk (λp=>@alS rows ac ah c s p w hk hc);have kq:=ae.mk p;have kog:=ae.mk y;obtain⟨Q,hQ⟩:∃Q:Xt->Heap->Prop,Q=λzf z=>z.loops[j.loops.length]?=J {rec with state:=.busy}/\
   ((zf=.normal/\Cq (j.loop rec) (F j.loops) rec g q t k rows ac ah (gK rows ac l) c s (w+1) (z.eY (F j.loops) rec))∨(zf=.ret/\Cr (F j.loops) rec t k (z.eY (F j.loops) {rec with state:=.done,pending:=J .ret})/\lK rows ac ah c s=ai)):=⟨_,O⟩
  have kQs:ae (∀(o:Heap),o.loops[j.loops.length]?=J {rec with state:=.busy}->t<F o.boxes->k<F o.boxes->lK rows ac ah c s=ai->Q .ret ((o.put t [.v (.int .i64 0)]).put k [.v (.int .i64 340)])):=⟨λo i A z3 z4=>by rw[hQ];exact⟨i,.inr ⟨O,kstop.out o i A z3,z4⟩⟩⟩;have kQn:ae (∀(o:Heap),o.loops[j.loops.length]?=J {rec with state:=.busy}->Cq (j.loop rec) (F j.loops) rec g q t k rows ac ah (gK rows ac l) c s (w+1) (o.eY (F j.loops) rec)->Q .normal o):=⟨λo i A=>by rw[hQ];exact⟨i,.inl ⟨O,A⟩⟩⟩;rw[hK]
  suffices wU:bC W5 rec.assign (nq (F j.loops) rec [.v (.int .i64 (w:Nat))]) z7 (λzf e1 h1=>zf=.normal/\h1=z7/\bC W5 rec.body e1 z8 (λzf _ z=>Q zf z)) by
   obtain⟨zf,e1,D,i,A,z3,o',e2,tC,z4,z5⟩:=wU;refine⟨zf,e1,D,i,A,z3,o',e2,tC,z4,?_⟩;rw[hQ]at z5;obtain⟨z5,z6⟩:=z5;refine⟨z5,?_⟩;rcases z6 with⟨y1,y2⟩|⟨y1,y2⟩
   .exact .inl ⟨y1,y2⟩
   .exact .inr ⟨y1,y2⟩
  clear hQ kstop;rw[v3,v4];rcases dp (F (eX ac c w)) (F s) with dj|pi;rotate_left 1
  .have gf:F (eX ac c w)=F s:=(by omega);have B:lK rows ac ah c s=ai:=by
    cases ho:lK rows ac ah c s with|false=>rfl|true=>obtain⟨z9,i,-⟩:=kown.out ho;rw[List.getElem?_eq_none M]at i;cases i
   have dd:decide (((F (eX ac c w):Nat):Int)=(F s:Int))=V:=bQ M;have po:=ae.mk (kQs.out z8 yd yJ GC B);clear gf B pi iq p y wS hK wL yd AI AS yI yn DU DP AH v1 v2 v3 v4 v5 v6 kQs kQn;generalize F (eX ac c w)=ze at *
   refine wI ?_;exact⟨aX,aX,po.out⟩
  obtain⟨z9,hp⟩:∃z9,s[(eX ac c w).length]?=J z9:=⟨_,aN dj⟩;have dd:decide (((F (eX ac c w):Nat):Int)=(F s:Int))=ai:=b_ M;have ixS:=kf.out.2.2.2.2.ix dj;have ls0:=aj3 (H:=z8) (s:=2) hp;by_cases tP:z9.1=((w:Nat):Int);rotate_left 1
  .have B:lK rows ac ah c s=ai:=by
    cases ho:lK rows ac ah c s with|false=>rfl|true=>obtain⟨p',i,A,-⟩:=kown.out ho;rw[hp]at i;injection i with i;subst i;exact absurd A tP
   have dr:decide (z9.1=((w:Nat):Int))=ai:=b_ tP;have po:=ae.mk (kQs.out z8 yd yJ GC B);clear B dj iq p y wS hK wL yd AI AS yI yn DU DP AH v1 v2 v3 v4 v5 v6 kQs kQn hp tP;generalize F (eX ac c w)=ze at *
   refine bg @wF ?_;exact⟨aX,aX,po.out⟩
  have Ma:w<F rows:=by omega
  have dr:decide (((w:Nat):Int)=((w:Nat):Int))=V:=bQ O;obtain⟨pr,pv⟩:=z9;simp only at tP;subst tP;obtain⟨_,o,cf,rfl,xf⟩:=agi z8 X Y C rows ac ah kf.out.1 kf.out.2.1 kf.out.2.2.1 eI ((w:Nat):Int) pv;have lk1:aD aa Gt z8 25 (.ptr (.box kb) 1)=J (.agg [X,Y]):=by rw[fC zU (by kernel_rfl:cB aa 25=J 2) AI (jq O)];rfl
  have lk3:aD aa Gt z8 23 (.ptr (.box kb) 3)=J C:=dE mE AI O;have ls81:=aj2 (H:=z8) (s:=2) hp;have Df:=xf.loop _ _ yd;have oz:=xf.box _ _ yI;have pU:=xf.box _ _ yn;rcases agj (v:=pv) N Ma with⟨so,fo⟩|⟨so,fo⟩;rotate_left 1
  .have B:lK rows ac ah c s=ai:=by
    cases ho:lK rows ac ah c s with|false=>rfl|true=>obtain⟨p',i,A,z3⟩:=kown.out ho;rw[hp]at i;injection i with i;subst i;rw[so]at z3;cases z3
   have po:=ae.mk (kQs.out o Df (aS.1 oz).1 (aS.1 pU).1 B);obtain⟨t1,t2,t3,t4,t5,t6⟩:=xY oz pU M 0 340;clear B dj iq p y wS hK wL yd AI AS yI yn DU DP AH v1 v2 v3 v4 v5 v6 kQs kQn hp a1 a2 a3 a4 a5 a6 xf oz pU Df so;unfold I at cf;rcases fo with fo|fo
   .rw[fo]at cf;clear fo;generalize F (eX ac c w)=ze at *
    refine cK @wF @gN @iK ?_;refine⟨aX,aX,?_⟩;refine du jF am ?_;refine cK @wF @gN @iK ?_;exact po.out
   .rw[fo]at cf;clear fo;generalize F (eX ac c w)=ze at *
    refine cK @wF @gN @iK ?_;refine⟨aX,aX,?_⟩;refine du jF am ?_;refine cK @wF @gN @iK ?_;exact po.out
  rw[fo]at cf;have oy:=xf.box _ _ DU;have uX:=xf.box _ _ AS;have G9:=xf.box _ _ DP;have GH:=xf.box _ _ AH;obtain⟨b6,vr6,i,-⟩:=kW.out.qi;have iT:z0≠g:=λe=>by rw[e]at i;rw[u]at i;unfold f_ at i;simp at i
  have yj:z0≠q:=λe=>by rw[e]at i;rw[K]at i;unfold f_ at i;simp at i
  have TQ:=xf.box _ _ (y _ _ i iT yj);have lwb:aD aa Gt o 121 (.ptr (.box wb) 0)=J (.ptr (.box z0) 0):=dE zV oy O;have lWt:aD aa Gt o 23 (.ptr (.box z0) 6)=J Wt:=dE mE TQ O;have ixW:=tE.ix (i:=w) (by rw[w2,w3];exact Ma);have lWk:=eJ (H:=o) (l:=gK rows ac l) (i:=w) (s:=1) (by rw[w2,w3];exact Ma);have lsb2:aD aa Gt o 72 (.ptr (.box sb) 0)=J zd:=dE Kg uX O;have lib2:aD aa Gt o 3 (.ptr (.box q) 0)=J (.v (.int .i64 (F (eX ac c w):Nat))):=dE dS GH O;have lsum2:aD aa Gt o 3 (.ptr (.box g) 0)=J (.v (.int .i64 (kO (gK rows ac l) (s.take (F (eX ac c w)))))):=dE dS G9 O;have ls1:=aj4 (H:=o) (s:=2) hp;have cm:=NC (ag (gK rows ac l) w) pv;have ca:=FD (kO (gK rows ac l) (s.take (F (eX ac c w)))) (cS (ag (gK rows ac l) w) pv);have gP:=at5 (y:=gK rows ac l) hp;simp only[fh]at gP;rw[<-gP]at ca;have stS:=ES (n:=kO (gK rows ac l) (s.take (F (eX ac c w)+1))) G9;have LX:(o.put g [.v (.int .i64 (kO (gK rows ac l) (s.take (F (eX ac c w)+1))))]).boxes[q]?=J [.v (.int .i64 (F (eX ac c w):Nat))]:=by rw[cr M];exact GH
  have lib3:aD aa Gt (o.put g [.v (.int .i64 (kO (gK rows ac l) (s.take (F (eX ac c w)+1))))]) 3 (.ptr (.box q) 0)=J (.v (.int .i64 (F (eX ac c w):Nat))):=dE dS LX O;have stI:=ES (n:=((F (eX ac c w)+1:Nat):Int)) LX;have ahT:((F (eX ac c w)+1:Nat):Int)=(F (eX ac c w):Int)+1:=by omega
  have po:=ae.mk (kQn.out ((o.put g [.v (.int .i64 (kO (gK rows ac l) (s.take (F (eX ac c w)+1))))]).put q [.v (.int .i64 ((F (eX ac c w)+1:Nat):Int))]) Df (by
   have gB:=(aS.1 Df).1;have aiz:=(aS.1 G9).1;have uS:=(aS.1 GH).1;have pW:F (eX ac c (w+1))=F (eX ac c w)+1:=(by rw[Ip hc];simp);refine⟨Yj gB,λa cs ha n1 n2=>?_,?_,?_,by omega,?_,?_⟩
   .show((o.put g _).put q _).boxes[a]?=_;rw[cr n2,cr n1];exact xf.box _ _ (by rw[wL];exact p.fD a cs ha n1 n2)
   .show((o.put g _).put q _).boxes[g]?=_;rw[cr M,pW];exact dn aiz
   .show((o.put g _).put q _).boxes[q]?=_;rw[pW];exact dn (by rw[jd];exact uS)
   .rw[pW,fY hp,jB,p.same,Ip hc,jB];rfl
   .rw[pW,fY hp,sn,p.ok,mq];simp[so]))
  clear iq p y wS hK wL yd AI AS yI yn DU DP AH v1 v2 v3 v4 v5 v6 kQs kQn hp a1 a2 a3 a4 a5 a6 xf oz pU Df so fo oy uX G9 GH LX TQ i gP w2 w3;unfold I at *
  generalize F (eX ac c w)=ze at *
  generalize kO (gK rows ac l) (s.take ze)=sv at *
  generalize kO (gK rows ac l) (s.take (ze+1))=sv2 at *
  generalize cS (ag (gK rows ac l) w) pv=mv at *
  generalize ag (gK rows ac l) w=wv at *
  rw[ahT]at stI po;refine cK @wF @gN @iK ?_;refine⟨aX,aX,?_⟩;refine du jF am ?_;refine bA @wF @SM @gN @iK ?_;refine du jF am ?_;refine cK @wF @SM @oY ?_;exact po.out
 .obtain⟨Hf,cF,hF⟩:=feed;rcases hF with p|⟨p,B⟩;rotate_left 1
  .have DK:res=(0,340):=(by rw[m,av B]);have kr:=ae.mk DK;refine⟨_,_,cF,_,p.lp,(aY:LoopState.done≠ .busy),.inr ⟨O,?_⟩⟩;have qz:(Hf.eY (F j.loops) {rec with state:=.exhausted,pending:=J .ret}).boxes[t]?=J [.v (.int .i64 0)]:=p.z;have qe:(Hf.eY (F j.loops) {rec with state:=.exhausted,pending:=J .ret}).boxes[k]?=J [.v (.int .i64 340)]:=p.e;have lz:aD aa Gt (Hf.eY (F j.loops) {rec with state:=.exhausted,pending:=J .ret}) 3 (.ptr (.box t) 0)=J (.v (.int .i64 0)):=dE dS qz O;have le:aD aa Gt (Hf.eY (F j.loops) {rec with state:=.exhausted,pending:=J .ret}) 39 (.ptr (.box k) 0)=J (.v (.int .i64 340)):=dE xE qe O;clear cF p B m DK kf kW gk6 gs6 tv ge6 gw6 gp6 ga6 gb6 u K hm w2 w3 tE p1 p3 N og1 og2 og3 og4 nb v1 v2 v3 v4 v5 v6 qz qe uZ;refine bg @jm ?_;exact⟨_,_,O,by rw[kr.out]⟩
  refine⟨_,_,cF,_,p.lp,by rw[v5];decide,.inl ⟨v6,?_⟩⟩;obtain⟨HF,Ax⟩:∃HF,Hf.eY (F j.loops) {rec with state:=.exhausted}=HF:=⟨_,O⟩;have pS:∀a:Nat,HF.boxes[a]?=Hf.boxes[a]?:=λa=>by rw[<-Ax];rfl
  have y:∀(a:Nat) (cs:List U),j.boxes[a]?=J cs->a≠g->a≠q->HF.boxes[a]?=J cs:=λa cs ha n1 n2=>by rw[pS];exact p.fD a cs ha n1 n2
  have DM:=y _ _ gs6 M M;have yH:=y _ _ tv M M;have ym:=y _ _ ge6 M M;have AX:=y _ _ gw6 M M;have yB:=y _ _ gp6 M M;have H:=(pS g).trans p.sum;have AG:=(pS q).trans p.ix;have iq:=p.le;have Z:=p.same;have yw:=p.ok;rw[XH]at H AG iq Z yw;rw[Ax];have lib:aD aa Gt HF 3 (.ptr (.box q) 0)=J (.v (.int .i64 (F (zj ac c):Nat))):=dE dS AG O;have lsb:aD aa Gt HF 72 (.ptr (.box sb) 0)=J zd:=dE Kg DM O;have lSn:=kf.out.2.2.2.2.dK;rcases dp (F (zj ac c)) (F s) with dj|pi
  .have B:lK rows ac ah c s=ai:=by
    cases ho:lK rows ac ah c s with|false=>rfl|true=>unfold lK at ho;rw[bm,decide_eq_true_eq]at ho;have:=congrArg F ho.1;rw[br,br]at this;omega
   have DK:res=(0,340):=(by rw[m,av B]);have kr:=ae.mk DK;obtain⟨a1,a2,a3,a4,a5,a6⟩:=xY yH ym M 0 340;have dd:decide (((F (zj ac c):Nat):Int)<(F s:Int))=V:=bQ M;clear cF p B m DK kf kW gk6 gs6 tv ge6 gw6 gp6 ga6 gb6 u K hm w2 w3 tE p1 p3 N og1 og2 og3 og4 nb v1 v2 v3 v4 v5 v6 uZ Ax pS y DM yH ym AX yB H AG iq Z yw dj;refine bg @jm ?_;exact⟨_,_,O,by rw[kr.out]⟩
  have fI:F (zj ac c)=F s:=by omega
  have He:lK rows ac ah c s=V:=by unfold lK;rw[fI,fB]at Z yw;rw[Z,yw];simp
  have dd:decide (((F (zj ac c):Nat):Int)<(F s:Int))=ai:=b_ M;rw[fI,fB]at H;rw[aP (by rw[He];simp)]at m;have c8:=NY 4 d;have c9:=NY 4 f;have hG:(4:Int).toNat=Gn:=rfl;rw[wH ww,hG]at c8 c9;have lpD:aD aa Gt HF 3 (.ptr (.box pb) 2)=J (.v (.int .i64 x.d)):=dE dS yB O;have lpE:aD aa Gt HF 3 (.ptr (.box pb) 3)=J (.v (.int .i64 x.e)):=dE dS yB O;obtain⟨a1,a2,a3,a4,a5,a6⟩:=xY yH ym M 0 420;by_cases hC:((ec Gn d:Nat):Int)=x.d;rotate_left 1
  .have kr:=ae.mk (m.trans (av (.inl hC)));have dq:decide (((ec Gn d:Nat):Int)=x.d)=ai:=b_ hC;clear cF p He m kf kW gk6 gs6 tv ge6 gw6 gp6 ga6 gb6 u K hm w2 w3 tE p1 p3 N og1 og2 og3 og4 nb v1 v2 v3 v4 v5 v6 uZ Ax pS y DM yH ym AX yB H AG iq Z yw pi fI hG hC;generalize ((ec Gn d:Nat):Int)=pd at *
   unfold I at *
   refine bg @jm ?_;refine iC [(7,9)] jF am (λz9 hp=>?_) ?_
   .simp only[hY]at hp;subst hp;refine ar1 am O O am ?_ ?_
    .simp only[dw,cX];refine bE @jm @iS ?_;refine⟨by trivial,?_⟩;simp[et,ET]
    .simp only[dw,cX];exact dV @jm @iS
   refine bE @jm @iS ?_;exact⟨_,_,O,by rw[kr.out]⟩
  have dq:decide (((ec Gn d:Nat):Int)=x.d)=V:=bQ hC;by_cases jk:((ec Gn f:Nat):Int)=x.e;rotate_left 1
  .have kr:=ae.mk (m.trans (av (.inr jk)));have dq2:decide (((ec Gn f:Nat):Int)=x.e)=ai:=b_ jk;clear cF p He m kf kW gk6 gs6 tv ge6 gw6 gp6 ga6 gb6 u K hm w2 w3 tE p1 p3 N og1 og2 og3 og4 nb v1 v2 v3 v4 v5 v6 uZ Ax pS y DM yH ym AX yB H AG iq Z yw pi fI hG hC jk;generalize ((ec Gn d:Nat):Int)=pd at *
   generalize ((ec Gn f:Nat):Int)=pf at *
   unfold I at *
   refine bg @jm ?_;refine iC [(7,9)] jF am (λz9 hp=>?_) ?_
   .simp only[hY]at hp;subst hp;refine O2 (x:=.ptr (.box pb) 3) (v:=.v (.int .i64 x.e)) am O O am (by simp[cH,gH]) ?_ ?_
    .simp only[dw,cX];refine bE @jm @iS ?_;refine⟨by trivial,?_,by trivial,by trivial⟩;simp[et,ET]
    .simp only[dw,cX];exact o0 @jm @iS @and_self
   refine bE @jm @iS ?_;exact⟨_,_,O,by rw[kr.out]⟩
  have dq2:decide (((ec Gn f:Nat):Int)=x.e)=V:=bQ jk;rw[aP (by simp[hC,jk])]at m;have kr:=ae.mk m;obtain⟨b6,vr6,i,A,z3⟩:=kW.out.qi;have iT:z0≠g:=λe=>by rw[e]at i;rw[u]at i;unfold f_ at i;simp at i
  have yj:z0≠q:=λe=>by rw[e]at i;rw[K]at i;unfold f_ at i;simp at i
  have pj:=z3.1;have na:=lu z3.four;rw[br]at pj;have aib:0<F l:=JI.2 (λe=>by rw[e]at kxl;simp at kxl);have Lw:b6≠g:=λe=>by rw[e]at A;rw[u]at A;injection A with A;rw[<-A]at na;simp at na;omega
  have TM:b6≠q:=λe=>by rw[e]at A;rw[K]at A;injection A with A;rw[<-A]at na;simp at na;omega
  have WF:sN HF z0 ep X Y C T L Wt ((jy (ag ah 0) text l:Nat):Int) ((gc (ag ah 0) text l:Nat):Int) ah text l:=
   ⟨⟨b6,vr6,y _ _ i iT yj,y _ _ A Lw TM,z3⟩,kW.out.KP,kW.out.pos,kW.out.c0,kW.out.zx,kW.out.tl,kW.out.ll⟩
  obtain⟨_,_,cb,rfl,rfl⟩:=Kx HF z0 ep X Y C T L Wt _ _ ah text l WF x ⟨M,by omega⟩;rw[uZ]at cb;have Lx:=y _ _ i iT yj;have lwb:aD aa Gt HF 121 (.ptr (.box wb) 0)=J (.ptr (.box z0) 0):=dE zV AX O;have lwb2:aD aa Gt (HF.push (aL x)) 121 (.ptr (.box wb) 0)=J (.ptr (.box z0) 0):=dE zV (aM AX) O;have lch:aD aa Gt HF 3 (.ptr (.box z0) 12)=J (.v (.int .i64 ((gc (ag ah 0) text l:Nat):Int))):=dE dS Lx O;have lch2:aD aa Gt (HF.push (aL x)) 3 (.ptr (.box z0) 12)=J (.v (.int .i64 ((gc (ag ah 0) text l:Nat):Int))):=dE dS (aM Lx) O;have lsu:aD aa Gt HF 3 (.ptr (.box g) 0)=J (.v (.int .i64 (kO (gK rows ac l) s))):=dE dS H O;have lsu2:aD aa Gt (HF.push (aL x)) 3 (.ptr (.box g) 0)=J (.v (.int .i64 (kO (gK rows ac l) s))):=dE dS (aM H) O;have lpp:=nj yB;have m1:=NC f ((iQ (ag ah 0) text l c:Nat):Int);have m2:=FD d (cS f ((iQ (ag ah 0) text l c:Nat):Int));have m3:=NC ((gc (ag ah 0) text l:Nat):Int) (kO (gK rows ac l) s);have m4:=FD (dx d (cS f ((iQ (ag ah 0) text l c:Nat):Int))) (cS ((gc (ag ah 0) text l:Nat):Int) (kO (gK rows ac l) s));obtain⟨t1,t2,t3,t4,t5,t6⟩:=xY (Hx:=HF.push (aL x)) (aM yH) (aM ym) M (dx (dx d (cS f ((iQ (ag ah 0) text l c:Nat):Int))) (cS ((gc (ag ah 0) text l:Nat):Int) (kO (gK rows ac l) s))) 0;clear cF p He m kf kW gk6 gs6 tv ge6 gw6 gp6 ga6 gb6 u K hm w2 w3 tE p1 p3 N og1 og2 og3 og4 nb v1 v2 v3 v4 v5 v6 uZ Ax pS y DM yH ym AX yB H AG iq Z yw pi fI hG hC jk a1 a2 a3 a4 a5 a6 WF Lx i A z3 iT yj Lw TM pj na aib kxl;generalize dx (dx d (cS f ((iQ (ag ah 0) text l c:Nat):Int))) (cS ((gc (ag ah 0) text l:Nat):Int) (kO (gK rows ac l) s))=zz at *
  generalize dx d (cS f ((iQ (ag ah 0) text l c:Nat):Int))=za at *
  generalize cS f ((iQ (ag ah 0) text l c:Nat):Int)=zm at *
  generalize cS ((gc (ag ah 0) text l:Nat):Int) (kO (gK rows ac l) s)=zs at *
  generalize ((iQ (ag ah 0) text l c:Nat):Int)=bv at *
  generalize ((gc (ag ah 0) text l:Nat):Int)=chv at *
  generalize kO (gK rows ac l) s=wv at *
  generalize ((ec Gn d:Nat):Int)=pd at *
  generalize ((ec Gn f:Nat):Int)=pf at *
  unfold I at *
  refine bg @jm ?_;refine iC [(7,9)] jF am (λz9 hp=>?_) ?_
  .simp only[hY]at hp;subst hp;refine O2 (x:=.ptr (.box pb) 3) (v:=.v (.int .i64 x.e)) am O O am (by simp[cH,gH]) ?_ ?_
   .simp only[dw,cX];refine bE @jm @iS ?_;refine⟨by trivial,?_,by trivial,by trivial⟩;simp[et,ET]
   .simp only[dw,cX];exact o0 @jm @iS @and_self
  refine bE @jm @iS ?_;refine iC [(4,7),(4,10),(4,11)] jF am (λz9 hp=>?_) ?_
  .simp only[gL,qp,or_false]at hp;rcases hp with rfl|rfl|rfl
   .refine jP (x:=.ptr (.box wb) 0) (v:=.ptr (.box z0) 0) am O O O am (aqV z0 0) ?_ ?_<;>(simp only[dw,cX];exact o0 @jm @iS @and_self)
   .refine jP (x:=.ptr (.box z0) 12) (v:=.v (.int .i64 chv)) am O O O am (by simp[cH,gH]) ?_ ?_<;>(simp only[dw,cX];exact jb @jm @iS @oY @and_self)
   .refine jP (x:=.ptr (.box g) 0) (v:=.v (.int .i64 wv)) am O O O am (by simp[cH,gH]) ?_ ?_<;>(simp only[dw,cX];exact jb @jm @iS @oY @and_self)
  refine cK @jm @iS @oY ?_;exact⟨_,_,O,by rw[kr.out]⟩
def ED:Tryz.f175.results.toList=[.tmp 4]:=by kernel_rfl
def xo(a b:Tok):Prop:=∀c,a=.free c->b≠ .free c
def xo.symm{a b}(h:xo a b):xo b a:=λf d c=>h f c d
def nC(ts:List Tok)(rows:List (List Int)):List U:=List.zipWith (λd c=>U.list d 1 (ints c)) ts rows
def ot(rows:List (List Int))(n:Nat):List (List Int):=(bZ n).map λc=>rows.map λd=>ag d c
def aeK(rows)(k):ot rows (k+1)=ot rows k++[rows.map λr=>ag r k]:=by unfold ot;rw[jT,jB];rfl
def Sc(rows)(k):F (ot rows k)=k:=by unfold ot;simp
structure sM(h H:Heap)(x:U)(ts:List Tok)(rows:List (List Int))(t:Tok):Prop where
 can:∀u∈t::ts,db h.tn H u
 CU:(t::ts).Pairwise xo
 len:ts.length=rows.length
 ok:c_ H=V
 ext:Ext h H
 tab:(rows=[]/\x=.list .tight 1 [])∨(rows≠[]/\∃b,x=.arr b 0 rows.length rows.length/\H.boxes[b]?=J (nC ts rows)/\h.boxes.length<=b)
def aec{ts}{rows}(h:F ts=F rows):F (nC ts rows)=F rows:=by unfold nC;rw[List.length_zipWith,h,Nat.min_self]
def aed{ts}{rows}(h:F ts=F rows)(t)(r):nC (ts++[t]) (rows++[r])=nC ts rows++[.list t 1 (ints r)]:=by unfold nC;rw[List.zipWith_append h];rfl
def RE{n0}{h}{k}(c:db n0 h k)(f:c_ h=V)(d:n0<=h.tn):db n0 (h.app k) (.free h.tn):=(Grown.one c f d).can
def ab4{n0}{h}{k}(d:db n0 h k):xo (.free h.tn) k:=by
 rintro i g rfl;injection g with g;rcases d with c|c|⟨n,c,-,f⟩
 .cases c
 .cases c
 .injection c with c;have:=qu f;omega
def sM.app{h H}{x}{ts}{rows}{t}(w:sM h H x ts rows t):sM h (H.app t) x ts rows (.free H.tn):=by
 have hc:=w.can t gx;have d:=Cn.1 w.CU;refine⟨λf c=>?_,Cn.2 ⟨λf c=>ab4 (w.can f (gj _ c)),d.2⟩,w.len,CI w.ok hc,(Grown.one hc w.ok w.ext.tn).ext w.ext (aV _),?_⟩
 .rcases gL.1 c with rfl|c
  .exact RE hc w.ok w.ext.tn
  .exact CN (w.can f (gj _ c)) (d.1 f c)
 .rw[dP];exact w.tab
def sM.close{h H}{x}{ts}{rows}{t}(w:sM h H x ts rows t)(r)(K:F rows<1000000):
 ∃x2 d,lU aa H #[22,22] x (.list .tight 1 [[.list t 1 (ints r)]])=J (x2,d)/\sM h d x2 (ts++[t]) (rows++[r]) .tight:=by
 obtain⟨N,z,f,D,A⟩:=Hj;have E:=ji (M:F rows+1<=1000000) D;have s:=Cn.1 w.CU;have j:(Tok.tight::(ts++[t])).Pairwise xo:=by refine Cn.2 ⟨λg _ S p=>(by cases p),List.pairwise_append.2 ⟨s.2,by simp,λa B b o=>?_⟩⟩;rw[hY]at o;subst o;exact(s.1 a B).symm
 have i:∀d:Heap,(∀g,db h.tn H g->db h.tn d g)->∀g∈Tok.tight::(ts++[t]),db h.tn d g:=by
  intro d p g c;rcases gL.1 c with rfl|c
  .exact .inr (.inl O)
  .rcases List.mem_append.1 c with c|c
   .exact p g (w.can g (gj _ c))
   .rw[hY]at c;exact p g (w.can g (by rw[c];exact gx))
 have m:F (ts++[t])=F (rows++[r]):=by simp[w.len]
 rcases w.tab with⟨rfl,rfl⟩|⟨v,b,rfl,o,u⟩
 .have y:ts=[]:=List.eq_nil_of_length_eq_zero w.len;subst y;have:=zu (h:=H) (k:=.tight) (sz:=1) (es:=[]) (new:=[[.list t 1 (ints r)]]) (x:=.list .tight 1 [[.list t 1 (ints r)]]) gm gm z M (by rw[f];exact A) b7 (by simp;omega) b7 (.inl f.symm) (.inr O) (by rw[f];rfl);exact⟨_,_,this,i _ λg c=>c,j,m,w.ok,w.ext.trans (.push _ _),.inr ⟨b7,H.boxes.length,O,aK _ _,w.ext.len⟩⟩
 .have q:0<F rows:=JI.2 v;have eI:=aec w.len;have:=I5 (h:=H) (b:=b) (len:=rows.length) (cs:=nC ts rows) (new:=[[.list t 1 (ints r)]]) (x:=.list .tight 1 [[.list t 1 (ints r)]]) gm gm z M (by rw[f];exact A) b7 (by simp;omega) (by simp;omega) o q (by rw[f,eI];omega) (by rw[f];rfl);refine⟨_,_,this,i _ λg c=>c,j,m,?_,(w.ext.fy u _).trans (.push _ _),.inr ⟨b7,H.boxes.length,by simp,?_,w.ext.len⟩⟩
  .exact w.ok
  .rw[aed w.len];exact mJ (by rw[jd])
def atj(h:Heap)(fJ:c_ h=V)(x:U)(rows:List (List Int))(n:Nat)(hx:RL x rows)(A:∀r∈rows,F r=n)(p:F rows<=1000)(hn:n<=1000):
 ∃r h',W5.call 175 [x,I (n:Nat)] h=J (r,h')/\∃X ts,r=.ret X/\sM h h' X ts (ot rows n) .tight:=by
 obtain⟨t,v,u,rfl,m,fa,z⟩:=hx;have kx:=ae.mk (aj m (aj z A));clear m z A;have u23:=cT;have u22:=gm;have z23:=gV;have z3:=eR;have Hd:F (u.map λa=>[a])=F rows:=by rw[br];exact fa
 have B:ff aa 22 0 []=J (.list .tight 1 []):=by kernel_rfl
 have b1:ff aa 23 0 []=J (.list .tight 1 []):=by kernel_rfl
 have T0:sM h h (.list .tight 1 []) [] (ot rows 0) .tight:=⟨λz5 hu=>.inr (.inl (by simpa using hu)),by simp,O,fJ,.refl _,.inl ⟨O,O⟩⟩;unfold I;refine bL O Tryz.func175 O ?_;refine bg @ED ?_;refine b9 (λz1 e z0=>∃(c:Nat) (X:U) (ts:List Tok),c<=n/\z1=n-c/\ae (sM h z0 X ts (ot rows c) .tight)/\e.get 0=.list t v (u.map λa=>[a])/\e.get 1=.v (.int .i64 (n:Nat))/\e.get 5=X/\e.get 6=.v (.int .i64 (c:Nat))/\e.defers=[]) ?_ n _ _ ?_;rotate_left 1
 .refine⟨0,_,[],bV _,O,⟨T0⟩,?_,?_,?_,?_,?_⟩<;>first|(simp only[gW,reduceIte,aJ,aB,B];done)|(simp only[gW,reduceIte,aJ,aB,B]<;>rfl)
 clear T0;rintro z1 e z0 ⟨c,X,ts,hk,rfl,f,E,H,K,N,Z⟩;by_cases hkn:c<n;rotate_left 1
 .have:c=n:=by omega
  subst this;refine bg @ED ?_;exact⟨_,_,O,X,ts,O,f.out⟩
 have hkI:(c:Int)<(n:Int):=by omega
 refine bg @ED ?_;refine bC.gen λi d w ek dm=>?_;have f0:i.get 0=.list t v (u.map λa=>[a]):=by rw[d];simp only[gW,reduceIte,aJ,aB];exact E
 have f1:i.get 1=.v (.int .i64 (n:Nat)):=by rw[d];simp only[gW,reduceIte,aJ,aB];exact H
 have f5:i.get 5=X:=by rw[d];simp only[gW,reduceIte,aJ,aB];exact K
 have f6:i.get 6=.v (.int .i64 (c:Nat)):=by rw[d];simp only[gW,reduceIte,aJ,aB];exact N
 have f7:i.get 7=.list .tight 1 (ints []):=by rw[d];exact gR
 have f8:i.get 8=.v (.int .i64 (0:Nat)):=by rw[d];exact gR
 have fd:i.defers=[]:=by rw[w];simp only[gW,reduceIte,aJ,aB];exact Z
 clear d w ek dm E H K N Z B b1;refine b9 (λz1 e z0=>∃(g:Nat) (z2:Tok),g<=F rows/\z1=F rows-g/\ae (sM h z0 X ts (ot rows c) z2)/\e.get 0=.list t v (u.map λa=>[a])/\e.get 1=.v (.int .i64 (n:Nat))/\e.get 5=X/\e.get 6=.v (.int .i64 (c:Nat))/\e.get 7=.list z2 1 (ints ((rows.take g).map λr=>ag r c))/\e.get 8=.v (.int .i64 (g:Nat))/\e.defers=[]) ?_ (F rows) _ _ ?_;rotate_left 1
 .exact⟨0,.tight,bV _,O,f,f0,f1,f5,f6,f7,f8,fd⟩
 clear f0 f1 f5 f6 f7 f8 fd f;rintro z1 e2 H2 ⟨g,z2,hi,rfl,f,E,H,K,N,g7,g8,Z⟩;by_cases o:g<F rows
 .obtain⟨a,S⟩:∃a,u[g]?=J a:=⟨_,aN M⟩;obtain⟨r,p⟩:∃r,rows[g]?=J r:=⟨_,aN o⟩;have m:v=1:=kx.out.1 (by intro z4;rw[z4]at o;simp at o);subst m;obtain⟨ka,sa,rfl,y⟩:=kx.out.2.1 g a r S p;have j:=kx.out.2.2 r (cU p);have MG:sa=1:=y (by intro z4;rw[z4]at j;simp at j;omega);subst MG;have l1:=iN (H:=H2) (s:=1) S;have l2:=eJ (H:=H2) (l:=r) (i:=c) (s:=1) M;have AP:F (ints r)=n:=by rw[cE];exact j
  have bl:=qw (ag r c);have ap:=wi (x:=ag r c) (es:=(rows.take g).map λr=>ag r c) (sz:=1) (show(F ((rows.take g).map λr=>ag r c))<1099511627776 by rw[br,cR];omega) (.inl O) (f.out.can z2 gx);have k:((rows.take g).map λr=>ag r c)++[ag r c]=(rows.take (g+1)).map λr=>ag r c:=by rw[fY p,jB];rfl
  rw[k]at ap;have q:=ae.mk f.out.app;have GI:(g:Int)<(F rows:Int):=by omega
  clear S p y j k f;refine bE @ED @aT ?_;exact⟨F rows-(g+1),by omega,g+1,_,by omega,O,q,by simp⟩
 .have gf:g=F rows:=by omega
  subst gf;rw[fB]at g7;obtain⟨X2,H3,c1,D⟩:=f.out.close (rows.map λr=>ag r c) (by rw[Sc];omega);rw[<-aeK]at D;have q:=ae.mk D;have bl:=FL (.list z2 1 (ints (rows.map λr=>ag r c))) O;clear D f;refine bg @ED ?_;exact⟨n-(c+1),by omega,c+1,X2,_,by omega,O,q,by simp⟩
def vC:Tryz.f176.results.toList=[.tmp 4,.tmp 5]:=by kernel_rfl
def pH(H:Heap)(b:Nat)(t:List (List Int)):Prop:=∃c:List U,H.boxes[b]?=J c/\F c=F t/\∀(d:Nat) a r,c[d]?=J a->t[d]?=J r->IL a r
def pH.mono{H H'}{b}{t}(T:pH H b t)(m:∀cs,H.boxes[b]?=J cs->H'.boxes[b]?=J cs):pH H' b t:=by obtain⟨cs,c,d⟩:=T;exact⟨cs,m cs c,d⟩
def A5{b len aR n}{k}(c:n<len):dH aa 22 (.arr b 0 len aR) (.v (.int k (n:Nat)))=J (.ptr (.box b) n):=by rw[A1 gm gV M M,fh,Nat.mul_one,nX]
def YK{H}{b k s n:Nat}{t}{cs}{es}(d:H.boxes[b]?=J cs)(c:k<F cs):bY aa H 23 (.ptr (.box b) k) (.list t s es)=J (H.put b (cs.set k (.list t s es))):=by rw[fE (xs:=[U.list t s es]) O gV d O c];congr 2;unfold dC;rw[List.set_eq_take_append_cons_drop,av c];simp
def pH.load{H}{b i}{t}{r}(T:pH H b t)(d:t[i]?=J r):∃k s,aD aa Gt H 23 (.ptr (.box b) i)=J (.list k s (ints r))/\(r≠[]->s=1):=by obtain⟨f,g,j,m⟩:=T;obtain⟨a,c⟩:∃a,f[i]?=J a:=⟨_,aN (by rw[j];exact(aS.1 d).1)⟩;obtain⟨k,s,rfl,o⟩:=m i a r c d;exact⟨k,s,p9 g c,o⟩
def pH.store{H}{b i}{t}{r}{k}{s}(T:pH H b t)(hi:i<F t)(m:r≠[]->s=1):∃H',bY aa H 23 (.ptr (.box b) i) (.list k s (ints r))=J H'/\pH H' b (t.set i r)/\∃cs,H'=H.put b cs:=by
 obtain⟨cs,f,g,j⟩:=T;refine⟨_,YK (n:=0) f M,⟨_,dn (aS.1 f).1,by rw[mX,mX,g],λo a p c d=>?_⟩,_,O⟩;rw[kQ]at c d;by_cases e:i=o
 .subst e;rw[av O,av M]at c;rw[av O,av hi]at d;injection c with c;injection d with d;subst c;subst d;exact⟨k,s,O,m⟩
 .rw[aP e]at c d;exact j o a p c d
def qL(c:Nat)(own:List Int)(j:Nat)(t:List (List Int)):List (List Int):=t.mapIdx λd a=>if d<j then gQ (ag a c) a own else a
def Np(c)(own)(j)(t):F (qL c own j t)=F t:=by unfold qL;simp
def A9(c)(own)(j)(t)(i):(qL c own j t)[i]?=t[i]?.map λa=>if i<j then gQ (ag a c) a own else a:=by unfold qL;rw[List.getElem?_mapIdx]
def aki(c)(own)(t):qL c own 0 t=t:=by apply nV;intro d;rw[A9];cases t[d]?<;>simp
def akf(c)(own)(t):qL c own (F t) t=t.map λa=>gQ (ag a c) a own:=by
 apply nV;intro d;rw[A9,dW];cases h:t[d]? with|none=>rfl|some a=>rw[fk,fk,av (aS.1 h).1]
def akg{c}{own}{j}{t}:(qL c own j t)[j]?=t[j]?:=by rw[A9];cases t[j]?<;>simp
def akh{c}{own a}{j}{t}(d:t[j]?=J a):(qL c own j t).set j (gQ (ag a c) a own)=qL c own (j+1) t:=by
 apply nV;intro g;have f:=(aS.1 d).1;rw[kQ,Np];by_cases e:j=g
 .subst e;rw[av O,av f,A9,d,fk,av (Nat.lt_succ_self _)]
 .rw[aP e,A9,A9];congr 1;funext a;by_cases h:g<j
  .rw[av h,av M]
  .rw[aP h,aP M]
def je(t:List (List Int))(c:Nat):List (List Int) × List Nat:=(bZ c).foldl lT (t,[])
def Xu(t)(c):je t (c+1)=lT (je t c) c:=by unfold je;rw[jT,oj];rfl
def Od{t}{w}(j:∀a∈t,F a=w)(k:∀a∈t,∀x∈a,okF x):∀c,c<=w->sJ w c (je t c)/\F (je t c).1=F t/\F (je t c).2<=F t:=by
 intro c
 induction c with
 |zero=>intro _;exact⟨⟨j,k,λ_ _ _ _ r o=>by omega⟩,O,bV _⟩|succ c m=>
  intro hc;obtain⟨f,d,g⟩:=m M;rw[Xu];refine⟨IW f M,?_,?_⟩
  .unfold lT;split
   .exact d
   .simp[d]
  .unfold lT;split
   .exact g
   .rename_i s i;obtain⟨p,q,-⟩:=xZ i;simp;omega
def ar8{t}{pv}{c k}{b o}(i:mH t (F pv) c=J k)(g:t[k]?=J b)(j:t[pv.length]?=J o):
 lT (t,pv) c=((qL c (scaleB b (ea (ag b c))) (F t) (t.set k o)).set (F pv) (scaleB b (ea (ag b c))),pv++[c]):=by
 have d:t.getD k []=b:=by rw[eG,g];rfl
 have f:t.getD (F pv) []=o:=by rw[eG,j];rfl
 unfold lT;simp only[i,d,f];rw[show F t=F (t.set k o) by rw[mX],akf]
def YC{t}{pv}{c}(d:mH t (F pv) c=af):lT (t,pv) c=(t,pv):=by unfold lT;simp only[d]
structure qt(h H:Heap)(b:Nat)(t:List (List Int))(k:Tok):Prop where
 tb:pH H b t
 can:db h.tn H k
 ok:c_ H=V
 ext:Ext h H
 low:h.boxes.length<=b
def qt.put{h H}{b}{t c}{k}(R:qt h H b t k)(cs)(T:pH (H.put b cs) b c):qt h (H.put b cs) b c k:=
 ⟨T,R.can,R.ok,R.ext.fy R.low cs,R.low⟩
def qt.app{h H}{b}{t}{k}(R:qt h H b t k):qt h (H.app k) b t (.free H.tn):=
 ⟨R.tb.mono λc d=>by rw[dP];exact d,RE R.can R.ok R.ext.tn,CI R.ok R.can,(Grown.one R.can R.ok R.ext.tn).ext R.ext (aV _),R.low⟩
def age(x):0<=ea x/\ea x<=9223372036854775807:=vp (KZ _)
def akl(x y)(a own)(n)(hx:IL x a)(E:IL y own)(i:F own=F a)(j:F a<=1000000):∀h,W5.call 233 [x,y,I n] h=J (.ret (.list .held 1 (ints (gQ n a own))),h):=by obtain⟨c,d⟩:=hx.hold;obtain⟨f,g⟩:=E.hold;exact gr (L:=L5) (B:=[al x,al y,I n]) O O (by simp[aA,d,g,au,I]) (akk (al x) (al y) a own n c f i j _) O (by simp[au,jj,oJ])
def atg(x)(a)(n)(hx:IL x a)(g:F a<=1000000)(f:0<=n/\n<=9223372036854775807):∀h,W5.call 232 [x,I n] h=J (.ret (.list .held 1 (ints (scaleB a n))),h):=by obtain⟨c,d⟩:=hx.hold;exact gr (L:=L5) (B:=[al x,I n]) O O (by simp[aA,d,au,I]) (atf (al x) a n c g f _) O (by simp[au,jj,oJ])
def anX(x y)(rows)(c)(hx:RL x rows)(E:IL y c)(o:F rows<=64)(p:∀r∈rows,F r=F c)(g:F c<=64)(d:∀r∈rows,∀x∈r,okF x)(f:∀x∈c,okF x):
 ∀h,W5.call 174 [x,y] h=J (.ret (.v (.int .i64 0)),h):=by
 obtain⟨i,j⟩:=hx.fc;obtain⟨k,m⟩:=E.hold;exact gr (L:=L5) (B:=[al x,al y]) O O (by simp[aA,j,m]) (anW (al x) (al y) rows c i k o p g d f _) O rfl
def anL(h:Heap)(fJ:c_ h=V)(b:Nat)(rows:List (List Int))(w many:Nat)(hT:pH h b rows)(h0:0<F rows)(hl:∀a∈rows,F a=w)(ho:∀a∈rows,∀x∈a,okF x)(hm:many<=w)(hr:F rows<=1000)(A:w<=1000):
 ∃r h',W5.call 176 [.arr b 0 (F rows) (F rows),I (many:Nat)] h=J (r,h')/\∃b2 Z,r=.ret (.tuple [.arr b2 0 (F rows) (F rows),Z])/\pH h' b2 (je rows many).1/\F (je rows many).1=F rows/\IL Z (cJ (je rows many).2)/\Ext h h':=by
 have u23:=cT;have u22:=gm;have z23:=gV;have z3:=eR;have bn2:ff aa 22 0 []=J (.list .tight 1 []):=by kernel_rfl
 have bn3:ff aa 23 0 []=J (.list .tight 1 []):=by kernel_rfl
 obtain⟨H1,ap,R0⟩:∃H1,lU aa h #[22,22] (.list .tight 1 []) (.arr b 0 (F rows) (F rows))=J (.arr (F h.boxes) 0 (F rows) (F rows),H1)/\qt h H1 (F h.boxes) rows .tight:=by
  obtain⟨cs,t1,t2,t3⟩:=hT;obtain⟨B,q1,q2,q3,q4⟩:=Hj;have tH:=ji (M:F rows<=1000000) q3;have hn:=(dA.box (sz:=1) (h:=h) (b:=b) (n:=rows.length) (rows:=cs.map λc=>[c]) (λr hr=>by obtain⟨c,-,rfl⟩:=iV.1 hr;rfl) (by rw[br,t2]) (by rw[EP];exact t1)).news;have N:F (cs.map λc=>[c])=F rows:=by rw[br,t2]
  have fI:(cs.map λc=>[c])≠[]:=by intro q;rw[q]at N;simp at N;omega
  have:=zu (h:=h) (k:=.tight) (sz:=1) (es:=[]) (new:=cs.map λc=>[c]) (x:=.arr b 0 (F rows) (F rows)) gm gm q1 M (by rw[q2];exact q4) fI (by rw[N];simp;omega) (by rw[N];simp;omega) (.inl q2.symm) (.inr O) (by rw[q2];exact hn);rw[N,fQ,nX,List.nil_append,EP]at this;exact⟨_,this,⟨⟨cs,aK _ _,t2,t3⟩,.inr (.inl O),fJ,.push _ _,aV _⟩⟩
 have kR0:=ae.mk R0;have kl:=ae.mk (aj hl ho);clear hT R0 hl ho;unfold I;refine bL O Tryz.func176 O ?_;refine bg @vC ?_;refine bC.gen λg d o S dm=>?_;have f1:g.get 1=.v (.int .i64 (many:Nat)):=by rw[d];exact gS
 have f6:g.get 6=.arr (F h.boxes) 0 (F rows) (F rows):=by rw[d];exact gS
 have f7:g.get 7=.list .tight 1 (ints (cJ [])):=by rw[d];exact gR
 have f8:g.get 8=.v (.int .i64 (0:Nat)):=by rw[d];exact gR
 have K:g.defers=[]:=by rw[o];exact gS
 clear d o S dm ap bn2 bn3;refine b9 (λz4 e z2=>∃(c:Nat) (p:Tok),c<=many/\z4=many-c/\ae (qt h z2 (F h.boxes) (je rows c).1 p)/\e.get 1=.v (.int .i64 (many:Nat))/\e.get 6=.arr (F h.boxes) 0 (F rows) (F rows)/\e.get 7=.list p 1 (ints (cJ (je rows c).2))/\e.get 8=.v (.int .i64 (c:Nat))/\e.defers=[]) ?_ many _ _ ?_;rotate_left 1
 .exact⟨0,.tight,bV _,O,kR0,f1,f6,f7,f8,K⟩
 clear kR0 f1 f6 f7 f8 K;rintro z4 e z2 ⟨c,p,hc,rfl,j,g1,g6,g7,g8,hd⟩;by_cases LI:c<many;rotate_left 1
 .have:c=many:=by omega
  subst this;refine bg @vC ?_;exact⟨_,_,O,_,_,O,j.out.tb,(Od kl.out.1 kl.out.2 c hm).2.1,⟨_,_,O,λ_=>rfl⟩,j.out.ext⟩
 obtain⟨RO,tl,pl⟩:=Od kl.out.1 kl.out.2 c M;have H:ae (je rows (c+1)=lT ((je rows c).1,(je rows c).2) c):=⟨Xu rows c⟩;have kRO:=ae.mk RO;clear RO;generalize je rows c=st at *
 obtain⟨z0,f⟩:=st;dsimp only at *
 have GW:F (ints (cJ f))=F f:=by rw[cE];unfold cJ;rw[br]
 have hcI:(c:Int)<(many:Int):=by omega
 refine bg @vC ?_;refine bC.gen λg d o S dm=>?_;have f1:g.get 1=.v (.int .i64 (many:Nat)):=by rw[d];simp only[gW,reduceIte,aJ,aB];exact g1
 have f6:g.get 6=.arr (F h.boxes) 0 (F rows) (F rows):=by rw[d];simp only[gW,reduceIte,aJ,aB];exact g6
 have f7:g.get 7=.list p 1 (ints (cJ f)):=by rw[d];simp only[gW,reduceIte,aJ,aB];exact g7
 have f8:g.get 8=.v (.int .i64 (c:Nat)):=by rw[d];simp only[gW,reduceIte,aJ,aB];exact g8
 have f9:g.get 9=.v (.int .i64 (F f:Nat)):=by rw[d];exact gS
 have f10:g.get 10=.v (.int .i64 (F f:Nat)):=by rw[d];exact gS
 have K:g.defers=[]:=by rw[o];simp only[gW,reduceIte,aJ,aB];exact hd
 clear d o S dm g1 g6 g7 g8 hd;refine b9 (λz4 e H2=>∃t:Nat,t<=F rows/\F f<=t/\z4=F rows-t/\ae (∀D,F f<=D->D<t->ag (z0.getD D []) c=0)/\e.get 1=.v (.int .i64 (many:Nat))/\e.get 6=.arr (F h.boxes) 0 (F rows) (F rows)/\e.get 7=.list p 1 (ints (cJ f))/\e.get 8=.v (.int .i64 (c:Nat))/\e.get 9=.v (.int .i64 (F f:Nat))/\e.get 10=.v (.int .i64 (t:Nat))/\e.defers=[]/\H2=z2) ?_ (F rows-F f) _ _ ?_;rotate_left 1
 .exact⟨F f,pl,aV _,O,⟨λD q1 q2=>absurd q2 M⟩,f1,f6,f7,f8,f9,f10,K,O⟩
 clear f1 f6 f7 f8 f9 f10 K;rintro z4 e2 H2 ⟨t,hj,Mx,rfl,kz,g1,g6,g7,g8,g9,g10,hd,rfl⟩;by_cases hjn:t<F rows;rotate_left 1
 .have pV:t=F rows:=by omega
  subst pV;have z:mH z0 (F f) c=af:=by rw[F_ (j:=rows.length) Mx M kz.out (λq=>absurd q M),av tl.symm]
  have kR2:ae (qt h H2 (F h.boxes) (je rows (c+1)).1 p):=⟨by rw[H.out,YC z];exact j.out⟩;have k7:(je rows (c+1)).2=f:=by rw[H.out,YC z]
  have k7:=ae.mk k7;clear z;refine bg @vC ?_;exact⟨many-(c+1),by omega,c+1,p,by omega,O,kR2,by first|trivial|assumption,by first|trivial|assumption,by rw[k7.out],by simp⟩
 obtain⟨i,y⟩:∃r,z0[t]?=J r:=⟨_,aN M⟩;have Uc:z0.getD t []=i:=by rw[eG,y];rfl
 have u:=kRO.out.len i (cU y);have UJ:=kRO.out.ok i (cU y);obtain⟨k1,s1,ld1,v⟩:=j.out.tb.load y;have v:s1=1:=v (by intro q;rw[q]at u;simp at u;omega);subst v;have ix1:=A5 (b:=h.boxes.length) (len:=rows.length) (aR:=rows.length) (k:=.i64) hjn;have Ud:F (ints i)=w:=by rw[cE];exact u
 have l1:=eJ (H:=H2) (l:=i) (i:=c) (s:=1) M;have Uk:(t:Int)<(F rows:Int):=by omega
 have hcw:(c:Int)<(w:Int):=by omega
 have kb:=ae.mk (aj y (aj Uc (aj u UJ)));clear y Uc u UJ;by_cases hz:ag i c=0
 .have hC:decide (ag i c=0)=V:=by simp[hz]
  have kz2:ae (∀D,F f<=D->D<t+1->ag (z0.getD D []) c=0):=⟨λD q1 q2=>by
   rcases dp D t with q|q
   .exact kz.out D q1 q
   .have:D=t:=(by omega);subst this;rw[kb.out.2.1];exact hz⟩
  generalize ag i c=z5 at *
  clear hz;refine bE @vC @aT ?_;exact⟨F rows-(t+1),by omega,t+1,by omega,by omega,O,kz2,by simp⟩
 have hC:decide (ag i c=0)=ai:=by simp[hz]
 have UR:mH z0 (F f) c=J t:=by rw[F_ (j:=t) Mx M kz.out (λ_=>by rw[kb.out.2.1];exact hz),aP M]
 obtain⟨ro,nf⟩:∃r,z0[f.length]?=J r:=⟨_,aN M⟩;have UO:=kRO.out.len ro (cU nf);obtain⟨k2,s2,ld2,uX⟩:=j.out.tb.load nf;have ix2:=A5 (b:=h.boxes.length) (len:=rows.length) (aR:=rows.length) (k:=.i64) (M:F f<F rows);obtain⟨H3,st1,T3,cs3,rfl⟩:=j.out.tb.store (i:=t) (k:=k2) M uX;have E:=ae.mk (ar8 UR kb.out.1 nf);have R3:=j.out.put cs3 T3;have okz:=nZ kb.out.2.2.2 c;have wP:fmod (ag i c)=ag i c:=Av okz;have inv:=λh=>aoj (ag i c) h;rw[wP,aP hz,aP hz]at inv;have tms:=atg (.list k1 1 (ints i)) i (ea (ag i c)) ⟨_,_,O,λ_=>rfl⟩ (by rw[kb.out.2.2.1];omega) (age _);have Mm:F (scaleB i (ea (ag i c)))=w:=by rw[Yf];exact kb.out.2.2.1
 have l3:=eJ (H:=H2.put (F h.boxes) cs3) (l:=i) (i:=c) (s:=1) (by rw[kb.out.2.2.1];omega);have Dl:∀a∈z0.set t ro,F a=w:=by
  intro a ha;rcases List.mem_or_eq_of_mem_set ha with q|q
  .exact kRO.out.len a q
  .rw[q];exact UO
 have kall:=ae.mk Dl;have avg:F (z0.set t ro)=F rows:=by rw[mX];exact tl
 have Mv:(F f:Int)<(F rows:Int):=by omega
 rw[tl]at E;generalize ea (ag i c)=fz at *
 generalize scaleB i fz=m at *
 generalize z0.set t ro=t1 at *
 clear UO nf uX UR okz wP Dl kz T3 kRO j;have kR3:=ae.mk R3;clear R3;generalize ag i c=z5 at *
 generalize H2.put (F h.boxes) cs3=H3 at *
 clear hz;unfold I at inv tms;refine bE @vC @aT ?_;refine bC.gen λg d o S dm=>?_;have f1:g.get 1=.v (.int .i64 (many:Nat)):=by rw[d];simp only[gW,reduceIte,aJ,aB];exact g1
 have f6:g.get 6=.arr (F h.boxes) 0 (F rows) (F rows):=by rw[d];simp only[gW,reduceIte,aJ,aB];exact g6
 have f7:g.get 7=.list p 1 (ints (cJ f)):=by rw[d];simp only[gW,reduceIte,aJ,aB];exact g7
 have f8:g.get 8=.v (.int .i64 (c:Nat)):=by rw[d];simp only[gW,reduceIte,aJ,aB];exact g8
 have f9:g.get 9=.v (.int .i64 (F f:Nat)):=by rw[d];simp only[gW,reduceIte,aJ,aB];exact g9
 have f11:g.get 11=.list .held 1 (ints m):=by rw[d];exact gS
 have f14:g.get 14=.v (.int .i64 (0:Nat)):=by rw[d];exact gR
 have K:g.defers=[]:=by rw[o];simp only[gW,reduceIte,aJ,aB];exact hd
 clear d o S dm g1 g6 g7 g8 g9 g10 hd ld1 ld2 st1 inv tms l1 l3 hC ix1 Ud;have kR4:ae (qt h H3 (F h.boxes) (qL c m 0 t1) p):=⟨by rw[aki];exact kR3.out⟩;refine b9 (λz4 e z2=>∃B:Nat,B<=F rows/\z4=F rows-B/\ae (qt h z2 (F h.boxes) (qL c m B t1) p)/\e.get 1=.v (.int .i64 (many:Nat))/\e.get 6=.arr (F h.boxes) 0 (F rows) (F rows)/\e.get 7=.list p 1 (ints (cJ f))/\e.get 8=.v (.int .i64 (c:Nat))/\e.get 9=.v (.int .i64 (F f:Nat))/\e.get 11=.list .held 1 (ints m)/\e.get 14=.v (.int .i64 (B:Nat))/\e.defers=[]) ?_ (F rows) _ _ ?_;rotate_left 1
 .exact⟨0,bV _,O,kR4,f1,f6,f7,f8,f9,f11,f14,K⟩
 clear f1 f6 f7 f8 f9 f11 f14 K kR4 kR3;rintro z4 e3 H4 ⟨B,hi,rfl,j,g1,g6,g7,g8,g9,g11,g14,hd⟩;by_cases js:B<F rows
 .obtain⟨a,ha⟩:∃r,t1[B]?=J r:=⟨_,aN M⟩;have tF:=kall.out a (cU ha);obtain⟨k1,s1,ld1,v⟩:=j.out.tb.load (akg.trans ha);have v:s1=1:=v (by intro q;rw[q]at tF;simp at tF;omega);subst v;have ix1:=A5 (b:=h.boxes.length) (len:=rows.length) (aR:=rows.length) (k:=.i64) js;have Ud:F (ints a)=w:=by rw[cE];exact tF
  have l1:=eJ (H:=H4) (l:=a) (i:=c) (s:=1) M;have ls:=akl (.list k1 1 (ints a)) (.list .held 1 (ints m)) a m (ag a c) ⟨_,_,O,λ_=>rfl⟩ ⟨_,_,O,λ_=>rfl⟩ M M;obtain⟨H5,st1,T5,k,rfl⟩:=j.out.tb.store (i:=B) (r:=gQ (ag a c) a m) (k:=.held) (s:=1) (by rw[Np];omega) (λ_=>rfl);rw[akh ha]at T5;have kR5:=ae.mk (j.out.put k T5);have GI:(B:Int)<(F rows:Int):=by omega
  clear T5 ha tF j;generalize gQ (ag a c) a m=la at *
  generalize ag a c=z1 at *
  generalize H4.put (F h.boxes) k=H5 at *
  unfold I at ls;refine bE @vC @aT ?_
  repeat' (first|simp(maxSteps:=9999999) (disch:=first|exact dZ|fail) only[gW,reduceIte,aJ,aB,vC,aT, *]|(refine dX ?_ ?_<;>(intro _;try omega))|refine du jF bD ?_)
  exact⟨F rows-(B+1),by omega,B+1,by omega,O,kR5,by simp⟩
 .have gf:B=F rows:=by omega
  subst gf;obtain⟨H5,st1,T5,k,rfl⟩:=j.out.tb.store (i:=f.length) (r:=m) (k:=.held) (s:=1) (by rw[Np];omega) (λ_=>rfl);have R6:=(j.out.put k T5).app;have bl:=qw (c:Int);have ap:=wi (H:=H4.put (F h.boxes) k) (x:=(c:Int)) (es:=cJ f) (sz:=1) (show(F (cJ f))<1099511627776 by unfold cJ;rw[br];omega) (.inl O) ((j.out.put k T5).can);have ee:cJ f++[(c:Int)]=cJ (f++[c]):=by unfold cJ;simp
  rw[ee]at ap;have kst:=ae.mk (H.out.trans E.out);have kR6:ae (qt h ((H4.put (F h.boxes) k).app p) (F h.boxes) (je rows (c+1)).1 (.free (H4.put (F h.boxes) k).tn)):=⟨by rw[kst.out];exact R6⟩;have k7:ae ((je rows (c+1)).2=f++[c]):=⟨by rw[kst.out]⟩;clear T5 R6 ee E j;generalize H4.put (F h.boxes) k=H5 at *
  refine bg @vC ?_;exact⟨many-(c+1),by omega,c+1,_,by omega,O,kR6,by first|trivial|assumption,by first|trivial|assumption,by rw[k7.out],by simp⟩
def uh:Tryz.f101.results.toList=[.tmp 4,.tmp 5,.tmp 6]:=by kernel_rfl
structure CB(h H:Heap)(b k:Nat)(t1 t2:List (List Int))(dc:List U)(ts:List Tok):Prop where
 gZ:H.boxes[b]?=J (dc++nC ts (t2.drop k))
 dl:dc.length=k
 row:∀(i:Nat) a r,dc[i]?=J a->t1[i]?=J r->IL a r
 tl:ts.length=t2.length - k
 can:∀u∈ts,db h.tn H u
 CU:ts.Pairwise xo
 ok:c_ H=V
 ext:Ext h H
 low:h.boxes.length<=b
def CB.step{h H}{b k}{t1 t2}{f}{ts}(d:CB h H b k t1 t2 f ts){r}{x}(y:t2[k]?=J r)(A:t1[k]?=J (r++[x])):
 ∃t c,ts=t::c/\aD aa Gt H 23 (.ptr (.box b) k)=J (.list t 1 (ints r))/\db h.tn H t/\∃p,bY aa (H.app t) 23 (.ptr (.box b) k) (.list (.free H.tn) 1 (ints (r++[x])))=J p/\CB h p b (k+1) t1 t2 (f++[.list (.free H.tn) 1 (ints (r++[x]))]) c:=by
 have D:=(aS.1 y).1;have m:t2.drop k=r::t2.drop (k+1):=by rw[ss D,(aS.1 y).2]
 obtain⟨t,c,rfl⟩:∃t c,ts=t::c:=by
  cases ts with|nil=>have:=d.tl;simp at this;omega|cons t c=>exact⟨t,c,O⟩
 have v:=Cn.1 d.CU;have hc:=d.can t gx;have j:=d.gZ;have q:nC (t::c) (t2.drop k)=.list t 1 (ints r)::nC c (t2.drop (k+1)):=by rw[m];rfl
 rw[q]at j;have u:=(aS.1 j).1;have s:(H.app t).boxes[b]?=J (f++ .list t 1 (ints r)::nC c (t2.drop (k+1))):=by rw[dP];exact j
 refine⟨t,c,O,p9 j (by rw[v_ (by rw[d.dl];exact aV _),d.dl,qs];rfl),hc,_,YK (n:=0) s (by rw[cg,dY,d.dl];omega),?_⟩;have o:(f++U.list t 1 (ints r)::nC c (t2.drop (k+1))).set k (.list (.free H.tn) 1 (ints (r++[x])))=(f++[.list (.free H.tn) 1 (ints (r++[x]))])++nC c (t2.drop (k+1)):=by rw[List.set_append_right _ _ (by rw[d.dl];exact aV _),d.dl,qs,List.set_cons_zero,iE];rfl
 rw[o];refine⟨dn (by rw[dP];exact u),by rw[cg,d.dl];rfl,λE a S g i=>?_,?_,λN z=>?_,v.2,?_,?_,d.low⟩
 .rcases dp E (F f) with w|K
  .rw[qn w]at g;exact d.row E a S g i
  .have:=(aS.1 g).1;rw[cg]at this;have B:E=F f:=(by simp at this;omega);subst B;rw[zI]at g;rw[d.dl,A]at i;injection g with g;injection i with i;subst g;subst i;exact⟨_,_,O,λ_=>rfl⟩
 .have:=d.tl;rw[dY]at this;omega
 .exact CN (d.can N (gj _ z)) (v.1 N z)
 .exact CI d.ok hc
 .exact((Grown.one hc d.ok d.ext.tn).ext d.ext (aV _)).fy d.low _
def am3(pv):F (ints (cJ pv))=F pv:=by rw[cE];unfold cJ;rw[br]
def ZN(rows:List (List Int))(c:List Int)(h:Heap)(r:dO)(h':Heap):Prop:=
 Ext h h'/\((nF rows c=af/\r=.ret (.tuple [.list .nil 0 [],.v (.bool ai),I 0]))∨∃l b,nF rows c=J l/\F l=F rows/\r=.ret (.tuple [.arr b 0 (F rows) (F rows),.v (.bool V),I 0])/\h'.boxes[b]?=J (l.map I))
def aeR(h:Heap)(fJ:c_ h=V)(x y:U)(rows:List (List Int))(c:List Int)(hx:RL x rows)(E:IL y c)(hr:F rows<=64)(A:∀r∈rows,F r=F c)(oy:F c<=64)(h0:0<F c)(Mr:∀r∈rows,∀x∈r,okF x)(yy:∀x∈c,okF x):
 ∃r h',W5.call 101 [x,y] h=J (r,h')/\ZN rows c h r h':=by
 have c1:=anX x y rows c hx E hr A oy Mr yy;obtain⟨_,H1,c2,X,S,rfl,Z⟩:=atj h fJ x rows (F c) hx A M M;obtain⟨t1,t2⟩:=Pk Mr yy;have tl:=Pj rows c;have cl:=Sc rows (F c);have e1:nF rows c=if ((je (e7 rows c) (F rows)).1.drop (F (je (e7 rows c) rows.length).2)).all (λa=>decide (ag a (F rows)=0)) then J (nu (je (e7 rows c) (F rows)) (F rows)) else af:=rfl
 obtain⟨RO,rl,rp⟩:=Od t1 t2 (F rows) M;obtain⟨-,z4⟩:=Ev t1 t2 (M:F rows<=F rows+1);have z4:zQ (F rows) (je (e7 rows c) (F rows)):=z4;rw[tl]at rl rp;obtain⟨b,hX,J0⟩:∃b,X=.arr b 0 (F c) (F c)/\CB h H1 b 0 (e7 rows c) (ot rows (F c)) [] S:=by
  rcases Z.tab with⟨q,-⟩|⟨-,b,q1,q2,q3⟩
  .rw[q]at cl;simp at cl;omega
  .rw[cl]at q1;exact⟨b,q1,⟨q2,O,λt a r q=>by simp at q,by rw[Z.len];rfl,λz6 hu=>Z.can z6 (gj _ hu),(Cn.1 Z.CU).2,Z.ok,Z.ext,q3⟩⟩
 subst hX;obtain⟨z0,z1,xs,rfl,hs,fa,mM⟩:=hx;obtain⟨ky,sy,rfl,jI⟩:=E;have j:sy=1:=jI (by intro q;rw[q]at h0;simp at h0);subst j;have eC:F (xs.map λa=>[a])=F rows:=by rw[br];exact fa
 have uS:=cE c;have u23:=cT;have u22:=gm;have z23:=gV;have z3:=eR;have kJ0:=ae.mk J0;have kk:=ae.mk (aj t1 (aj t2 (aj RO (aj z4 e1))));have kcl:=ae.mk cl;clear Z J0 hs fa mM jI A Mr yy t1 t2 RO z4 e1 cl;unfold I at c2;refine bL O Tryz.func101 O ?_;refine bg @uh ?_;refine bC.gen λi g s D H=>?_;have f0:i.get 0=.list z0 z1 (xs.map λa=>[a]):=by rw[g];exact gS
 have f1:i.get 1=.list ky 1 (ints c):=by rw[g];exact gS
 have f8:i.get 8=.arr b 0 (F c) (F c):=by rw[g];exact gS
 have f9:i.get 9=.v (.int .i64 (0:Nat)):=by rw[g];exact gR
 have w:i.defers=[]:=by rw[s];exact gS
 clear g s D H c1 c2;refine b9 (λz2 e v=>∃(f:Nat) (dc:List U) (S:List Tok),f<=F c/\z2=F c-f/\ae (CB h v b f (e7 rows c) (ot rows (F c)) dc S)/\e.get 0=.list z0 z1 (xs.map λa=>[a])/\e.get 1=.list ky 1 (ints c)/\e.get 8=.arr b 0 (F c) (F c)/\e.get 9=.v (.int .i64 (f:Nat))/\e.defers=[]) ?_ (F c) _ _ ?_;rotate_left 1
 .exact⟨0,[],S,bV _,O,kJ0,f0,f1,f8,f9,w⟩
 clear f0 f1 f8 f9 w kJ0 S;rintro z2 e v ⟨f,dc,S,hj,rfl,K,g0,g1,g8,g9,hd⟩;by_cases u:f<F c
 .have TU:(ot rows (F c))[f]?=J (rows.map λr=>ag r f):=by unfold ot;rw[dW,P5 u];rfl
  have UX:(e7 rows c)[f]?=J ((rows.map λr=>ag r f)++[ag c f]):=by unfold e7;rw[dW,P5 u];rfl
  obtain⟨z9,ts2,rfl,ld,hc,o,st,J3⟩:=K.out.step TU UX;have ap:=wi (H:=v) (x:=ag c f) (es:=rows.map λr=>ag r f) (sz:=1) (by rw[br];omega) (.inl O) hc;have bl:=qw (ag c f);have l1:=eJ (H:=v) (l:=c) (i:=f) (s:=1) u;have ix:=A5 (b:=b) (len:=c.length) (aR:=c.length) (k:=.i64) u;have kJ3:=ae.mk J3;have Uk:(f:Int)<(F c:Int):=by omega
  clear J3 TU UX hc K;refine bE @uh @aT ?_
  repeat' (first|simp(maxSteps:=9999999) (disch:=first|exact dZ|fail) only[gW,reduceIte,aJ,aB,uh,aT, *]|(refine dX ?_ ?_<;>(intro _;try omega))|refine du jF bD ?_)
  exact⟨F c-(f+1),by omega,f+1,_,ts2,by omega,O,kJ3,by simp⟩
 have B:f=F c:=by omega
 subst B;have T2:pH v b (e7 rows c):=⟨_,K.out.gZ,by
  have h1:nC S ((ot rows (F c)).drop (F c))=[]:=by rw[mW (by rw[kcl.out];exact aV _)];unfold nC;simp
  rw[h1,ga,K.out.dl,tl],λt a r k hr=>by
  have h1:nC S ((ot rows (F c)).drop (F c))=[]:=by rw[mW (by rw[kcl.out];exact aV _)];unfold nC;simp
  rw[h1,ga]at k;exact K.out.row t a r k hr⟩
 obtain⟨_,o,c3,b2,z8,rfl,T3,-,hZ,X3⟩:=anL v K.out.ok b (e7 rows c) (F rows+1) (F rows) T2 M kk.out.1 kk.out.2.1 M M M;rw[tl]at c3;obtain⟨kz,sz,rfl,gC⟩:=hZ;have GW:=am3 (je (e7 rows c) (F rows)).2;have kV:ae (zQ (F rows) (je (e7 rows c) (F rows))):=⟨kk.out.2.2.2.1⟩;have kRl:=ae.mk kk.out.2.2.1.len;have ke:=ae.mk kk.out.2.2.2.2;generalize gP:je (e7 rows c) (F rows)=st at *
 obtain⟨p,d⟩:=st;dsimp only at *
 have kT3:=ae.mk T3;have ksz:=ae.mk gC;have kX3:=ae.mk (K.out.ext.trans X3);clear T2 T3 gC X3 kk K gP kcl tl;unfold I at c3;refine bg @uh ?_;refine bC.gen λi g s D H=>?_;have f0:i.get 0=.list z0 z1 (xs.map λa=>[a]):=by rw[g];simp only[gW,reduceIte,aJ,aB];exact g0
 have f8:i.get 8=.arr b2 0 (F c) (F c):=by rw[g];exact gS
 have f10:i.get 10=.list kz sz (ints (cJ d)):=by rw[g];exact gS
 have f11:i.get 11=.v (.int .i64 (F d:Nat)):=by rw[g];exact gS
 have w:i.defers=[]:=by rw[s];simp only[gW,reduceIte,aJ,aB];exact hd
 clear g s D H c3 g0 g1 g8 g9 hd;refine b9 (λz2 e v=>∃f:Nat,f<=F c/\F d<=f/\z2=F c-f/\ae (∀t,F d<=t->t<f->∀a,p[t]?=J a->ag a (F rows)=0)/\e.get 0=.list z0 z1 (xs.map λa=>[a])/\e.get 8=.arr b2 0 (F c) (F c)/\e.get 10=.list kz sz (ints (cJ d))/\e.get 11=.v (.int .i64 (f:Nat))/\e.defers=[]/\v=o) ?_ (F c-F d) _ _ ?_;rotate_left 1
 .exact⟨F d,rp,aV _,O,⟨λt q1 q2=>absurd q2 M⟩,f0,f8,f10,f11,w,O⟩
 clear f0 f8 f10 f11 w;rintro z2 e o ⟨f,hj,Mx,rfl,N,g0,g8,g10,g11,hd,rfl⟩;by_cases u:f<F c
 .obtain⟨a,k⟩:∃a,p[f]?=J a:=⟨_,aN M⟩;have m:=kRl.out a (cU k);obtain⟨k1,s1,ld1,j⟩:=kT3.out.load k;have j:s1=1:=j (by intro q;rw[q]at m;simp at m);subst j;have Ue:F (ints a)=F rows+1:=by rw[cE];exact m
  have l1:=eJ (H:=o) (l:=a) (i:=rows.length) (s:=1) M;have ix:=A5 (b:=b2) (len:=c.length) (aR:=c.length) (k:=.i64) u;have Uk:(f:Int)<(F c:Int):=by omega
  have hnI:(F rows:Int)<((F rows+1:Nat):Int):=by omega
  by_cases hz:ag a (F rows)=0
  .have kz2:ae (∀t,F d<=t->t<f+1->∀a,p[t]?=J a->ag a (F rows)=0):=⟨λt hi uR a' z=>by
    rcases dp t f with q|q
    .exact N.out t hi q a' z
    .rw[(M:t=f),k]at z;injection z with z;rw[<-z];exact hz⟩
   have hC:decide (ag a (F rows)=0)=V:=(by simp[hz]);generalize ag a (F rows)=z7 at *
   clear k m hz N;refine bE @uh @aT ?_;exact⟨F c-(f+1),by omega,f+1,by omega,by omega,O,kz2,by simp⟩
  .have e2:nF rows c=af:=(by rw[ke.out,aP];intro q;rw[eF]at q;have:=q a (cU (i:=f-F d) (by rw[oL,(M:F d+(f-F d)=f)];exact k));exact hz (of_decide_eq_true this));have ke2:=ae.mk e2;have hC:decide (ag a (F rows)=0)=ai:=(by simp[hz]);generalize ag a (F rows)=z7 at *
   clear k m hz N e2;refine bE @uh @aT ?_;exact⟨_,_,O,kX3.out,.inl ⟨ke2.out,O⟩⟩
 have B:f=F c:=by omega
 subst B;have e2:nF rows c=J (nu (p,d) (F rows)):=by rw[ke.out,av];rw[eF];intro a k;obtain⟨t,hi⟩:=qo k;rw[oL]at hi;have eC:=(aS.1 hi).1;exact bQ (N.out (F d+t) M M a hi)
 rw[<-Xq]at e2;have ke2:=ae.mk e2;have mk:=vk o (F rows) M .i64 .i64;have rC:bB (F rows) (I 0)=(jl p d (F rows) 0).map I:=by unfold jl;rw[cX,Cj,xx]
 rw[rC]at mk;clear e2 rC N ke;unfold I at mk;refine bg @uh ?_;refine bC.gen λi g s D H=>?_;have f0:i.get 0=.list z0 z1 (xs.map λa=>[a]):=by rw[g];simp only[gW,reduceIte,aJ,aB];exact g0
 have f8:i.get 8=.arr b2 0 (F c) (F c):=by rw[g];simp only[gW,reduceIte,aJ,aB];exact g8
 have f10:i.get 10=.list kz sz (ints (cJ d)):=by rw[g];simp only[gW,reduceIte,aJ,aB];exact g10
 have f12:i.get 12=.arr (F o.boxes) 0 (F rows) (F rows):=by rw[g];exact gS
 have f13:i.get 13=.v (.int .i64 (0:Nat)):=by rw[g];exact gR
 have w:i.defers=[]:=by rw[s];simp only[gW,reduceIte,aJ,aB];exact hd
 clear g s D H g0 g8 g10 g11 hd mk;refine b9 (λz2 e v=>∃f:Nat,f<=F d/\z2=F d-f/\e.get 0=.list z0 z1 (xs.map λa=>[a])/\e.get 8=.arr b2 0 (F c) (F c)/\e.get 10=.list kz sz (ints (cJ d))/\e.get 12=.arr (F o.boxes) 0 (F rows) (F rows)/\e.get 13=.v (.int .i64 (f:Nat))/\e.defers=[]/\v=o.push ((jl p d (F rows) f).map I)) ?_ (F d) _ _ ?_;rotate_left 1
 .exact⟨0,bV _,O,f0,f8,f10,f12,f13,w,O⟩
 clear f0 f8 f10 f12 f13 w;rintro z2 e v ⟨f,hj,rfl,g0,g8,g10,g12,g13,hd,rfl⟩;by_cases dj:f<F d
 .obtain⟨z5,GY⟩:∃z5,d[f]?=J z5:=⟨_,aN dj⟩;have wT:=kV.out.lt f z5 GY;have j:sz=1:=ksz.out (by intro q;unfold cJ at q;rw[zJ]at q;rw[q]at dj;exact Nat.not_lt_zero _ dj);subst j;obtain⟨a,k⟩:∃a,p[f]?=J a:=⟨_,aN M⟩;have m:=kRl.out a (cU k);obtain⟨k1,s1,ld1,j⟩:=(kT3.out.mono (H':=o.push ((jl p d (F rows) f).map I)) λ_ q=>aM q).load k;have j:s1=1:=j (by intro q;rw[q]at m;simp at m);subst j;have Ue:F (ints a)=F rows+1:=by rw[cE];exact m
  have l0:=eJ (H:=o.push ((jl p d (F rows) f).map I)) (l:=cJ d) (i:=f) (s:=1) (by unfold cJ;rw[br];exact dj);rw[Xg GY]at l0;have l1:=eJ (H:=o.push ((jl p d (F rows) f).map I)) (l:=a) (i:=rows.length) (s:=1) M;have ix1:=A5 (b:=b2) (len:=c.length) (aR:=c.length) (k:=.i64) (M:f<F c);have ix3:=nN (b:=o.boxes.length) (len:=rows.length) (aR:=rows.length) (k:=.i64) wT;have sk:=um (H:=o.push ((jl p d (F rows) f).map I)) (b:=o.boxes.length) (r:=jl p d (F rows) f) (k:=z5) (x:=ag a (F rows)) (aK _ _) (by rw[Ih];exact wT);have gD:p.getD f []=a:=by rw[eG,k];rfl
  rw[lO,<-gD,Xr GY,gD]at sk;have fH:(f:Int)<(F d:Int):=by omega
  have hnI:(F rows:Int)<((F rows+1:Nat):Int):=by omega
  unfold I at *
  clear k m gD GY wT ke2;refine bE @uh @aT ?_
  repeat' (first|simp(maxSteps:=9999999) (disch:=first|exact dZ|fail) only[gW,reduceIte,aJ,aB,uh,aT, *]|(refine dX ?_ ?_<;>(intro _;try omega))|refine du jF bD ?_)
  exact⟨F d-(f+1),by omega,f+1,by omega,O,by simp⟩
 .have B:f=F d:=by omega
  subst B;refine bg @uh ?_;exact⟨_,_,O,kX3.out.trans (.push _ _),.inr ⟨_,_,ke2.out,Ih _ _ _ _,O,aK _ _⟩⟩
def It:Tryz.f102.results.toList=[.tmp 4]:=by kernel_rfl
def rX:Tryz.f44.results.toList=[.tmp 4,.tmp 5,.tmp 6]:=by kernel_rfl
def IL.same{x}{l}(h:IL x l):cH x x=V:=by obtain⟨c,d,rfl,-⟩:=h;exact vE c d l
def X_:∀xs:List U,(∀a∈xs,cH a a=V)->ml (xs.map λa=>[a]) (xs.map λa=>[a])=V
 | [],_=>rfl
 |x::xs,h=>by rw[eD,ml,X_ xs λa c=>h a (gj _ c),fL,h x gx];rfl
def RL.same{x}{rows}(h:RL x rows):cH x x=V:=by
 obtain⟨g,o,i,rfl,-,k,f⟩:=h;have e:qU g g=V:=by cases g<;>simp[qU]
 rw[cH,e,X_ i λa d=>?_]
 .simp
 .obtain⟨m,c⟩:=qo d;have j:=(aS.1 c).1;exact(f m a _ c (aN M)).same
def alO(h:Heap)(fJ:c_ h=V)(x y z:U)(rows:List (List Int))(ac who:List Int)(hx:RL x rows)(E:IL y ac)(hz:IL z who)(ho:F rows=F ac)(p:F rows<=1000)(pZ:F who<=1099511627776):
 ∃r h',W5.call 102 [.agg [x,y],z] h=J (r,h')/\∃X,r=.ret X/\RL X ((dG ac who).map λi=>rows.getD i [])/\Ext h h'/\c_ h'=V:=by
 have bx:=ua hx E;have hs:=λn=>Ls z who n hz pZ;obtain⟨A,H,c,rfl,UT,fa,mM⟩:=hx;obtain⟨D,K,rfl,jI⟩:=E;have kx:=ae.mk (aj UT (aj mM jI));have t:=ae.mk ho;clear UT mM jI hz ho;have u23:=cT;have u22:=gm;have z23:=gV;have z3:=eR;have Hd:F (c.map λa=>[a])=F rows:=by rw[br];exact fa
 have eC:=cE ac;have kX0:=ae.mk (aj (Ext.push h [.list A H (c.map λa=>[a]),.list D K (ints ac)]) (aK h [.list A H (c.map λa=>[a]),.list D K (ints ac)]));have B:ae (c_ (h.push [.list A H (c.map λa=>[a]),.list D K (ints ac)])=V):=⟨fJ⟩;refine bL O Tryz.func102 O ?_;refine bE @It @a_ ?_;refine bC.gen λv j g' ek dm=>?_;have f1:v.get 1=z:=by rw[j];exact gS
 have f2:v.get 2=.ptr (.box (F h.boxes)) 0:=by rw[j];exact gS
 have f5:v.get 5=.list .nil 0 ((gE c ac who 0).map λa=>[a]):=by rw[j];exact gR
 have f6:v.get 6=.v (.int .i64 (0:Nat)):=by rw[j];exact gR
 have fd:v.defers=[]:=by rw[g'];exact gS
 clear j g' ek dm bx;refine b9 (λz4 e g=>∃(i:Nat) (d:Tok) (S:Nat),i<=F rows/\z4=F rows-i/\ae (S=1∨((gE c ac who i)=[]/\d=.nil))/\ae (Ext h g/\g.boxes[h.boxes.length]?=J [.list A H (c.map λa=>[a]),.list D K (ints ac)])/\ae (c_ g=V)/\ae (db h.tn g d)/\e.get 1=z/\e.get 2=.ptr (.box (F h.boxes)) 0/\e.get 5=.list d S ((gE c ac who i).map λa=>[a])/\e.get 6=.v (.int .i64 (i:Nat))/\e.defers=[]) ?_ (F rows) _ _ ?_;rotate_left 1
 .exact⟨0,.nil,0,bV _,O,⟨.inr ⟨O,O⟩⟩,kX0,B,⟨.inl O⟩,f1,f2,f5,f6,fd⟩
 clear f1 f2 f5 f6 fd kX0 B;rintro z4 e g ⟨i,d,S,hi,rfl,m,q,u,f,g1,g2,g5,g6,hd⟩;have l0:=oc q.out.2;have l1:=w9 q.out.2;by_cases w:i<F rows;rotate_left 1
 .have gf:i=F rows:=by omega
  subst gf;refine cK @It @de @dR ?_;have hN:er ac who (F rows)=dG ac who:=by unfold er dG;rw[t.out]
  refine⟨_,_,O,_,O,⟨_,_,_,O,λfI=>?_,?_,λi a r o p=>?_⟩,q.out.1,u.out⟩
  .rcases m.out with z0|⟨z0,-⟩
   .exact z0
   .exfalso;apply fI;rw[<-hN];unfold gE at z0;unfold er;rw[zJ]at z0;rw[z0];rfl
  .rw[br,<-hN];unfold gE er;rw[br]
  .obtain⟨z2,j1,j2,rfl⟩:=NW o;rw[hN]at j1;rw[dW,j1]at p;injection p with p;subst p;refine kx.out.2.1 z2 _ _ ?_ ?_
   .rw[eG,aN M];rfl
   .show rows[z2]?=J (rows.getD z2 []);rw[eG,aN j2];rfl
 have AR:H=1:=kx.out.1 (by intro z0;rw[z0]at w;simp at w);subst AR;have eo:K=1:=kx.out.2.2 (by intro z0;have ho:=t.out;rw[z0,fQ]at ho;omega);subst eo;obtain⟨a,o⟩:∃a,c[i]?=J a:=⟨_,aN M⟩;have ld:=iN (H:=g) (s:=1) o;have lo:=eJ (H:=g) (l:=ac) (i:=i) (s:=1) (by have:=t.out;omega);have GI:(i:Int)<(F rows:Int):=by omega
 have ah8:(i:Int)<(F ac:Int):=by have:=t.out;omega
 have z1:=hs (ag ac i);cases hc:who.contains (ag ac i) with
 |true=>
  rw[hc]at z1;have pl:=WP (xs:=c) (ac:=ac) (who:=who) (k:=i);have ap:=Q1 (H:=g) (x:=a) (es:=gE c ac who i) M m.out f.out;rw[<-WR hc o]at ap;obtain⟨N,s',Z,rfl⟩:∃N s' Z,a=.list N s' Z:=by obtain⟨r,p⟩:∃r,rows[i]?=J r:=⟨_,aN w⟩;obtain⟨N,s',rfl,-⟩:=kx.out.2.1 i a r o p;exact⟨_,_,_,O⟩
  have bl:=FL (.list N s' Z) O;have hG:=Grown.one f.out u.out q.out.1.tn;have kX2:ae (Ext h (g.app d)/\(g.app d).boxes[h.boxes.length]?=J [.list A 1 (c.map λa=>[a]),.list D 1 (ints ac)]):=⟨hG.ext q.out.1 (aV _),by rw[dP];exact q.out.2⟩;have kok2:ae (c_ (g.app d)=V):=⟨CI u.out f.out⟩;have kcan2:ae (db h.tn (g.app d) (.free g.tn)):=⟨hG.can⟩;have ksz2:ae (1=1∨((gE c ac who (i+1))=[]/\Tok.free g.tn=.nil)):=⟨.inl O⟩;clear hG o hc m q u f hs;unfold I at z1;refine bA @It @de @dR @aT ?_;exact⟨F rows-(i+1),by omega,i+1,_,1,by omega,O,(by first|assumption|trivial),(by first|assumption|trivial),(by first|assumption|trivial),(by first|assumption|trivial),by simp⟩
 |false=>rw[hc]at z1;have eN:=WQ (xs:=c) hc;have ksz2:ae (S=1∨((gE c ac who (i+1))=[]/\d=.nil)):=⟨by rw[eN];exact m.out⟩;rw[<-eN]at g5;clear o hc m hs eN;unfold I at z1;refine bA @It @de @dR @aT ?_;exact⟨F rows-(i+1),by omega,i+1,d,S,by omega,O,(by first|assumption|trivial),(by first|assumption|trivial),(by first|assumption|trivial),(by first|assumption|trivial),by simp⟩
def OY{ac who}{i}(hi:i<F ac)(hc:who.contains (ag ac i)=V):(dG ac who)[(er ac who i).length]?=J i:=by
 have e:dG ac who=er ac who i++((bZ (F ac-i)).map (i+·)).filter λc=>who.contains (ag ac c):=by unfold dG er;rw[<-zH,<-List.range_add];congr 2;omega
 rw[e,v_ (aV _),qs,(M:F ac-i=(F ac-i-1)+1),List.range_succ_eq_map,eD,Nat.add_zero,List.filter_cons,av hc];rfl
def abz(h:Heap)(fJ:c_ h=V)(x y z:U)(rows:List (List Int))(ac who:List Int)(hx:RL x rows)(E:IL y ac)(H:IL z who)(lH:F rows<=1000000)(pZ:F who<=1099511627776):
 ∃r h',W5.call 44 [.agg [x,y],z] h=J (r,h')/\((∃e,fm rows ac who=([],ai,e)/\r=.ret (.tuple [.list .nil 0 [],.v (.bool ai),.v (.int .i64 e)]))∨∃l b,fm rows ac who=(l,V,0)/\F l=F rows/\r=.ret (.tuple [.arr b 0 (F rows) (F rows),.v (.bool V),.v (.int .i64 0)])/\h'.boxes[b]?=J (l.map I)):=by
 have bx:=ua hx E;have D:(h.push [x,y]).boxes[h.boxes.length]?=J [x,y]:=aK _ _;have p:=λN (X:Ext (h.push [x,y]) N)=>tV (X.box _ _ D);have o:=λN (X:Ext (h.push [x,y]) N)=>oc (X.box _ _ D);have B:=λN (X:Ext (h.push [x,y]) N)=>w9 (X.box _ _ D);have l0:=p _ (.refl _);have cc:=Xp x y rows ac hx E lH;have cp:=WN z who H M;have f:fm rows ac who=if cG rows ac≠0 then ([],ai,cG rows ac) else if !dy (-1) who then ([],ai,1) else match nF ((dG ac who).map λc=>rows.getD c []) (eZ (cd rows)) with|none=>([],ai,0)|some l=>(oI (F rows) (dG ac who) l,V,0):=rfl
 have svs:cH (.agg [x,y]) (.agg [x,y])=V:=by rw[cH,fL,fL,fL,hx.same,E.same];rfl
 refine bL O Tryz.func44 O ?_;by_cases i:cG rows ac≠0
 .rw[av i]at f;generalize cG rows ac=pe at *
  have TZ:decide (pe=0)=ai:=by simp[i]
  have A:=ae.mk f;clear f i p o B hx E H cp D;unfold I at cc;refine bE @rX @a_ ?_;exact⟨_,_,O,.inl ⟨pe,A.out,O⟩⟩
 rw[aP i]at f;have i:cG rows ac=0:=Ju.1 i;rw[i]at cc;cases q2:dy (-1) who with
 |false=>rw[q2]at cp;rw[av (by rw[q2];rfl)]at f;have A:=ae.mk f;clear f i q2 p o B hx E H D;unfold I at cc;refine bE @rX @a_ ?_;exact⟨_,_,O,.inl ⟨1,A.out,O⟩⟩
 |true=>
 rw[q2]at cp;rw[aP (by rw[q2];simp)]at f;obtain⟨K,o2,o3,-⟩:=ub i;obtain⟨n1,n2⟩:=uI i;have wV:F (eZ (cd rows))=cd rows:=Pg n1;have u:∀c∈dG ac who,c<F rows:=λc hi=>by unfold dG at hi;rw[K];exact List.mem_range.1 (uA.1 hi).1
 have pW:F (dG ac who)<=64:=by unfold dG;exact Nat.le_trans (List.length_filter_le _ _) (by rw[List.length_range];omega)
 have w:∀r∈(dG ac who).map λc=>rows.getD c [],r∈rows:=λr hr=>by obtain⟨c,hi,rfl⟩:=iV.1 hr;have:=u c hi;rw[eG,aN this];exact iP _
 have c136:=aeN x y rows ac hx E;have Z:=asX (cd rows) n1 M;obtain⟨_,H2,c134,X,rfl,hX,S,AK⟩:=alO (h.push [x,y]) fJ x y z rows ac who hx E H K M pZ;have lH2:=p H2 S;obtain⟨_,d,q,P3⟩:=aeR H2 AK X (.list .held 1 (ints (eZ (cd rows)))) _ (eZ (cd rows)) hX ⟨_,_,O,λ_=>rfl⟩ (by rw[br];exact pW) (λr hr=>by rw[wV];exact(o3 r (w r hr)).1) (by rw[wV];exact n2) M (λr hr=>(o3 r (w r hr)).2.2.2) (λx hx=>by
  unfold eZ at hx;rcases gL.1 hx with rfl|hx
  .exact⟨aY,by decide⟩
  .rw[List.eq_of_mem_replicate hx];exact⟨aY,by decide⟩)
 obtain⟨X3,P3⟩:=P3;have j:=ae.mk λN (X:Ext d N)=>o N (S.trans (X3.trans X));have m:=ae.mk λN (X:Ext d N)=>B N (S.trans (X3.trans X));have hs:=λn=>Ls z who n H pZ;have ll0:=o d (S.trans X3);rw[br]at P3;obtain⟨k0,s0,xs,rfl,-,fa,-⟩:=hx;obtain⟨ky,sy,rfl,jI⟩:=E;have ksy:=ae.mk jI;have u23:=cT;have u22:=gm;have z3:=eR;have Hd:F (xs.map λa=>[a])=F rows:=by rw[br];exact fa
 have eC:=cE ac;have ko:=ae.mk (aj u K);clear w u o3 hX S X3 AK H p o B D i fa jI K;unfold I at cc c136 Z;rcases P3 with⟨e1,rfl⟩|⟨l,b,e1,e2,rfl,hb⟩
 .rw[e1]at f;have A:=ae.mk f;clear f e1 j m hs;unfold I at q;refine bE @rX @a_ ?_;refine iC [(2,3)] jF bD (λz4 hp=>?_) ?_
  .simp only[hY]at hp;subst hp;refine jP (x:=.ptr (.box (F h.boxes)) 0) (v:=.agg [.list k0 s0 (xs.map λa=>[a]),.list ky sy (ints ac)]) bD O O O bD (svs) ?_ ?_<;>(simp only[dw,cX];exact dV @rX @and_self)
  refine bg @rX ?_;exact⟨_,_,O,.inl ⟨0,A.out,O⟩⟩
 rw[e1]at f;have A:=ae.mk f;have kb:=ae.mk (aj hb e2);have mk:=vk d (F rows) M .i64 .i64;have rC:bB (F rows) (I 0)=(jO (F rows) (dG ac who) l (F (er ac who 0))).map I:=by unfold jO;rw[show(F (er ac who 0))=0 from O,cX,Cj,xx]
 rw[rC]at mk;clear f e1 rC hb;unfold I at q mk;refine bE @rX @a_ ?_;refine iC [(2,3)] jF bD (λz4 hp=>?_) ?_
 .simp only[hY]at hp;subst hp;refine jP (x:=.ptr (.box (F h.boxes)) 0) (v:=.agg [.list k0 s0 (xs.map λa=>[a]),.list ky sy (ints ac)]) bD O O O bD (svs) ?_ ?_<;>(simp only[dw,cX];exact dV @rX @and_self)
 refine cK @rX @de @dR ?_;refine bC.gen λt g g' ek dm=>?_;have f1:t.get 1=z:=by rw[g];exact gS
 have f2:t.get 2=.ptr (.box (F h.boxes)) 0:=by rw[g];exact gS
 have f8:t.get 8=.arr b 0 (F (dG ac who)) (F (dG ac who)):=by rw[g];exact gS
 have f11:t.get 11=.arr (F d.boxes) 0 (F rows) (F rows):=by rw[g];exact gS
 have f12:t.get 12=.v (.int .i64 (F (er ac who 0):Nat)):=by rw[g];exact gR
 have f13:t.get 13=.v (.int .i64 (0:Nat)):=by rw[g];exact gR
 have fd:t.defers=[]:=by rw[g'];exact gS
 clear g g' ek dm mk cc cp c136 Z c134 q l0 lH2 ll0 bx svs;refine b9 (λz2 e z0=>∃c:Nat,c<=F rows/\z2=F rows-c/\e.get 1=z/\e.get 2=.ptr (.box (F h.boxes)) 0/\e.get 8=.arr b 0 (F (dG ac who)) (F (dG ac who))/\e.get 11=.arr (F d.boxes) 0 (F rows) (F rows)/\e.get 12=.v (.int .i64 (F (er ac who c):Nat))/\e.get 13=.v (.int .i64 (c:Nat))/\e.defers=[]/\z0=d.push ((jO (F rows) (dG ac who) l (F (er ac who c))).map I)) ?_ (F rows) _ _ ?_;rotate_left 1
 .exact⟨0,bV _,O,f1,f2,f8,f11,f12,f13,fd,O⟩
 clear f1 f2 f8 f11 f12 f13 fd;rintro z2 e z0 ⟨c,hi,rfl,g1,g2,g8,g11,g12,g13,hd,rfl⟩;have l0:=j.out (d.push ((jO (F rows) (dG ac who) l (F (er ac who c))).map I)) (.push _ _);have l1:=m.out (d.push ((jO (F rows) (dG ac who) l (F (er ac who c))).map I)) (.push _ _);by_cases js:c<F rows;rotate_left 1
 .have gf:c=F rows:=by omega
  subst gf;have hN:er ac who (F rows)=dG ac who:=by unfold er dG;rw[ko.out.2]
  have kN:=ae.mk hN;clear hN;refine cK @rX @de @dR ?_;refine⟨_,_,O,.inr ⟨_,_,A.out,?_,O,?_⟩⟩
  .rw[<-IT];exact IU
  .rw[aK,kN.out,IT]
 have eo:sy=1:=ksy.out (by intro z5;have K:=ko.out.2;rw[z5,fQ]at K;omega);subst eo;have lo:=eJ (H:=d.push ((jO (F rows) (dG ac who) l (F (er ac who c))).map I)) (l:=ac) (i:=c) (s:=1) (by have:=ko.out.2;omega);have GI:(c:Int)<(F rows:Int):=by omega
 have ah8:(c:Int)<(F ac:Int):=by have:=ko.out.2;omega
 have z1:=hs (ag ac c);cases hc:who.contains (ag ac c) with
 |true=>
  rw[hc]at z1;have ru:=OY (show c<F ac by have:=ko.out.2;omega) hc;have dj:=(aS.1 ru).1;have Tv:=WT hc;have Lo:F (er ac who (c+1))=F (er ac who c)+1:=by rw[Tv,cg];rfl
  have ix1:=nN (b:=b) (len:=(dG ac who).length) (aR:=(dG ac who).length) (k:=.i64) dj;have ix3:=nN (b:=d.boxes.length) (len:=rows.length) (aR:=rows.length) (k:=.i64) js;have lv:=vg (H:=d.push ((jO (F rows) (dG ac who) l (F (er ac who c))).map I)) (aM kb.out.1) (tY (k:=(er ac who c).length) (by rw[kb.out.2];exact dj));have sk:=um (H:=d.push ((jO (F rows) (dG ac who) l (F (er ac who c))).map I)) (b:=d.boxes.length) (r:=jO (F rows) (dG ac who) l (F (er ac who c))) (k:=c) (x:=ag l (F (er ac who c))) (aK _ _) (by rw[IU];exact js);rw[lO,Yv ru,<-Lo]at sk;have kNl:=ae.mk Lo;clear ru Tv Lo hs j m;unfold I at z1 lv sk l0 l1 lo ⊢;refine bA @rX @de @dR @aT ?_;exact⟨F rows-(c+1),by omega,c+1,by omega,O,by trivial,by trivial,by trivial,by trivial,(by rw[kNl.out];first|rfl|simp),by simp,by trivial,by trivial⟩
 |false=>rw[hc]at z1;have Tu:=WS hc;have kNn:=ae.mk Tu;clear Tu hs j m;unfold I at z1;refine bA @rX @de @dR @aT ?_;exact⟨F rows-(c+1),by omega,c+1,by omega,O,by trivial,by trivial,by trivial,by trivial,by rw[kNn.out],by simp,by trivial,by rw[kNn.out]⟩
def L6:List aQ:=L5++[37,30,127,26,71,79,44,101,102]
noncomputable def N3:aQ->Option (List U->Heap->Option (U × Heap)):=lh W5 L6
noncomputable abbrev W6:=whole aa Gt N3
def adJ:lW N3 L6:=rm
section
variable (a b n x:Int)
def abE:∀h,W6.call 80 [I a,I b] h=J (.ret (I (dx a b)),h):=bR (L:=L6) O O O (FD a b _) O rfl
def atK:∀h,W6.call 66 [I x] h=J (.ret (.v (.bool (bX x))),h):=bR (L:=L6) O O O (E6 x _) O rfl
def aha:∀h,W6.call 75 [I a,I n] h=J (.ret (.tuple [I (fb a n),I (ox a)]),h):=bR (L:=L6) O O O (Gl a n _) O rfl
def X9:∀h,W6.call 111 [I x] h=J (.ret (.v (.bool (bX x))),h):=bR (L:=L6) O O O (aqI x _) O rfl
def XC:∀h,W6.call 97 [I n] h=J (.ret (.agg (ar 1 n [] .nil 0 [])),h):=bR (L:=L6) O O O (aod n _) O rfl
end
def Uz:∀l:List Pr,dk (bH l)=bH l
 | []=>rfl
 |p::l=>by show dk (aL p::bH l)=_;rw[dk,Uz l];rfl
def K3:∀l:List Pr,e_ 0 0 0 (bH l)=V
 | []=>rfl
 |p::l=>by show e_ 0 0 0 (aL p::bH l)=_;rw[e_,K3 l];rfl
def UB:∀l:List (Int × Int),dk (bN l)=bN l
 | []=>rfl
 |p::l=>by show dk (bh p::bN l)=_;rw[dk,UB l];rfl
def Ga:∀l:List (Int × Int),e_ 0 0 0 (bN l)=V
 | []=>rfl
 |p::l=>by show e_ 0 0 0 (bh p::bN l)=_;rw[e_,Ga l];rfl
def UD:∀l:List Int,dk (l.map I6)=l.map I6
 | []=>rfl
 |p::l=>by rw[eD,dk,UD l];rfl
def SW:∀l:List Int,e_ 0 0 0 (l.map I6)=V
 | []=>rfl
 |p::l=>by rw[eD,e_,SW l];rfl
def PL.hold{x}{l}(h:PL x l):PL (al x) l/\au 0 0 0 (al x)=V:=by obtain⟨d,f,rfl,c⟩:=h;rw[al,Uz];exact⟨⟨bU d,f,O,c⟩,by rw[au,ef,K3];rfl⟩
def SL.hold{x}{l}(h:SL x l):SL (al x) l/\au 0 0 0 (al x)=V:=by obtain⟨d,f,rfl,c⟩:=h;rw[al,UB];exact⟨⟨bU d,f,O,c⟩,by rw[au,ef,Ga];rfl⟩
def UL.hold{x}{l}(h:UL x l):UL (al x) l/\au 0 0 0 (al x)=V:=by obtain⟨⟨f,g,rfl,d⟩,c⟩:=h;rw[al,UD];exact⟨⟨⟨bU f,g,O,d⟩,c⟩,by rw[au,ef,SW];rfl⟩
def BL.hold{x}{b}(h:BL x b):BL (al x) b/\au 0 0 0 (al x)=V:=by obtain⟨d,f,rfl,c⟩:=h;rw[al,pX];exact⟨⟨bU d,f,O,c⟩,by rw[au,ef,i'];rfl⟩
def Na{X Y C}{rows}{ac ah}(ep)(hx:RL X rows)(E:IL Y ac)(hc:IL C ah):
 ∃d f c,al (.agg (aF ep X Y C))=.agg (aF ep d f c)/\RL d rows/\IL f ac/\IL c ah/\au 0 0 0 (.agg (aF ep d f c))=V:=by
 obtain⟨g,i⟩:=hx.fc;obtain⟨j,k⟩:=E.hold;obtain⟨m,o⟩:=hc.hold;exact⟨_,_,_,O,g,j,m,by simp[aF,au,aA,i,k,o]⟩
section
variable (ep:Int) (X Y C T L:U) (rows:List (List Int)) (ac ah:List Int) (text:List UInt8) (l:List Pr)
 (hx:RL X rows) (E:IL Y ac) (hc:IL C ah) (ht:BL T text) (hp:PL L l) (eI:ah.length<=1000000) (gB:l.length<=1000000)
include hx E hc ht hp eI gB
def Rf:(d_ rows ac ep ah text l≠0/\∀h,W6.call 37 [.agg (aF ep X Y C),T,L] h=J (.ret (.tuple [.list .nil 0 [],I 0,I 0,I (d_ rows ac ep ah text l)]),h))∨
 (d_ rows ac ep ah text l=0/\∃Z,IL Z (sV (ag ah 0) text l)/\∀h,W6.call 37 [.agg (aF ep X Y C),T,L] h=J (.ret (.tuple [Z,I ((jy (ag ah 0) text l:Nat):Int),I ((gc (ag ah 0) text l:Nat):Int),I 0]),h)):=by
 obtain⟨d,f,c,j,k,m,o,p⟩:=Na ep hx E hc;obtain⟨q,r⟩:=ht.hold;obtain⟨s,t⟩:=hp.hold;have g:aZ [.agg (aF ep X Y C),T,L]=[.agg (aF ep d f c),al T,al L]:=by rw[aZ,aZ,aZ,aZ,j]
 have i:aA 0 0 0 [.agg (aF ep d f c),al T,al L]=V:=by rw[aA,aA,aA,aA,p,r,t];rfl
 obtain⟨D,z,y,⟨w,rfl⟩|⟨w,Z,rfl,u⟩⟩:=ac2 ⟨[],[],0,[]⟩ vn ep d f c (al T) (al L) rows ac ah text l k m o q s eI gB
 .exact .inl ⟨w,bR (L:=L6) O g i y O O⟩
 .obtain⟨A,B,rfl,v⟩:=u;refine .inr ⟨w,.list (bU A) B (ints _),⟨_,_,O,v⟩,bR (L:=L6) O g i y ?_ ?_⟩
  .rfl
  .rw[au,aA,au,ef,jj];rfl
def akP(k:U)(s:List (Int × Int))(c d f:Int)(B:SL k s)(i:F s<=1000000):
 ∀h,W6.call 30 [.agg (aF ep X Y C),T,L,I c,k,I d,I f] h=J (.ret (.tuple [I (oC rows ac ep ah text l c s d f).1,I (oC rows ac ep ah text l c s d f).2]),h):=by
 obtain⟨m,o,j,p,q,r,t,u⟩:=Na ep hx E hc;obtain⟨v,w⟩:=ht.hold;obtain⟨y,z⟩:=hp.hold;obtain⟨A,g⟩:=B.hold;obtain⟨K,H,D,rfl⟩:=akO ⟨[],[],0,[]⟩ vn ep m o j (al T) (al L) (al k) rows ac ah text l s c d f q r t v y A eI gB i;exact bR (L:=L6) O (by simp only[aZ];rw[p];rfl) (by simp only[aA];rw[u,w,z,g];rfl) D O rfl
end
def Za(c e s)(T)(text)(ht:BL T text)(g:F text<=1000000):
 ∀h,W6.call 26 [I c,T,.agg [I e,I s]] h=J (.ret (.v (.bool (qY c text e s))),h):=by
 obtain⟨⟨m,o,d,i⟩,f⟩:=ht.hold;obtain⟨p,k,j,rfl,-⟩:=atL ⟨[],[],0,[]⟩ c e s m o text i g;exact bR (L:=L6) O (by simp only[aZ];rw[d];rfl) (by rw[<-d];simp only[aA];rw[f];rfl) j O rfl
def afj(x y z)(rows)(ac d)(c)(hx:RL x rows)(E:IL y ac)(t:IL z d)(s:F d<=1000)(g:F rows<=1000000):
 (pM rows ac c d≠0/\∀h,W6.call 71 [.agg [x,y],I c,z] h=J (.ret (.tuple [.list .nil 0 [],.list .nil 0 [],I (pM rows ac c d)]),h))∨
 (pM rows ac c d=0/\∃H K,SL H (ou rows (c::d))/\IL K (pJ (c::d))/\∀h,W6.call 71 [.agg [x,y],I c,z] h=J (.ret (.tuple [H,K,I 0]),h)):=by
 obtain⟨k,m,o,p⟩:=nR hx E;obtain⟨q,r⟩:=t.hold;have f:aA 0 0 0 [.agg [al x,al y],I c,al z]=V:=by simp[aA,au,o,p,r,I]
 obtain⟨Z,S,N,⟨w,rfl⟩|⟨w,t1,A,t2,D,rfl,i,j⟩⟩:=afi ⟨[],[],0,[]⟩ vn (al x) (al y) (al z) rows ac d c k m q s g
 .exact .inl ⟨w,bR (L:=L6) (B:=[.agg [al x,al y],I c,al z]) O O f N O O⟩
 .refine .inr ⟨w,.list (bU t1) A (bN _),.list (bU t2) D (ints _),⟨_,_,O,i⟩,⟨_,_,O,λ_=>j⟩,bR (L:=L6) (B:=[.agg [al x,al y],I c,al z]) O O f N ?_ ?_⟩
  .rfl
  .rw[au,aA,au,ef,Ga,aA,au,ef,jj];rfl
def ael(x y)(rows)(ac)(hx:RL x rows)(E:IL y ac):∀h,W6.call 35 [.agg [x,y]] h=J (.ret (I (cG rows ac)),h):=by obtain⟨c,d,f,g⟩:=nR hx E;exact bR (L:=L6) (B:=[.agg [al x,al y]]) O O (by simp[aA,au,f,g]) (KK (al x) (al y) rows ac c d _) O rfl
def aeQ(x y)(rows)(ac)(hx:RL x rows)(E:IL y ac):∀h,W6.call 134 [.agg [x,y]] h=J (.ret (I (cd rows:Nat)),h):=by obtain⟨c,d,f,g⟩:=nR hx E;exact bR (L:=L6) (B:=[.agg [al x,al y]]) O O (by simp[aA,au,f,g]) (aeP (al x) (al y) rows ac c d _) O rfl
def amg(x)(l)(hx:IL x l)(f:F l<=9223372036854775807):∀h,W6.call 43 [x] h=J (.ret (.v (.bool (dy (-1) l))),h):=by obtain⟨c,d⟩:=hx.hold;exact bR (L:=L6) (B:=[al x]) O O (by simp[aA,d]) (WN (al x) l c f _) O rfl
def aby(x y z)(rows)(ac who)(hx:RL x rows)(E:IL y ac)(q:IL z who)(i:F who<=1099511627776):
 (∃e,fm rows ac who=([],ai,e)/\∀h,W6.call 39 [.agg [x,y],z] h=J (.ret (.tuple [.list .nil 0 [],.v (.bool ai),I e]),h))∨
 ∃l,fm rows ac who=(l,V,0)/\F l=F rows/\∃Z,IL Z l/\∀h,W6.call 39 [.agg [x,y],z] h=J (.ret (.tuple [Z,.v (.bool V),I 0]),h):=by
 obtain⟨d,j,k,m⟩:=nR hx E;obtain⟨o,p⟩:=q.hold;have g:aA 0 0 0 [.agg [al x,al y],al z]=V:=by simp[aA,au,k,m,p]
 obtain⟨u,v,t,c,-⟩:=d.form;rw[c]at d;rcases QN u v t (al y) (al z) rows ac who d j o i with⟨e,r,f⟩|⟨l,r,s,f⟩
 .rw[<-c]at f;exact .inl ⟨e,r,bR (L:=L6) (B:=[.agg [al x,al y],al z]) O O g (f _) O O⟩
 .rw[<-c]at f;refine .inr ⟨l,r,s,.list .held 1 (ints l),⟨_,_,O,λ_=>rfl⟩,bR (L:=L6) (B:=[.agg [al x,al y],al z]) O O g (f _) ?_ ?_⟩
  .rfl
  .rw[au,aA,au,jj];rfl
def fc(k):bU (bU k)=bU k:=by cases k<;>rfl
def aoR{l}{rows}(f:fN l rows)(d:dk rows=rows)(k)(i:F rows<=1000000):∀h,W2.call 96 [.list k 4 rows] h=J (.ret (.agg (ar 3 0 [] (bU k) 4 rows)),h):=by
 have j:b8 (.list l) (ar 3 0 [] k 4 rows):=.list l k 4 rows f.1 (λ_=>rfl) i f.2;obtain⟨g,c⟩:=b8.hold _ _ j;have e:aZ (ar 3 0 [] k 4 rows)=ar 3 0 [] (bU k) 4 (dk rows):=rfl;rw[e,d]at g c;refine bR (L:=L2) (B:=[.list (bU k) 4 rows]) O ?_ ?_ (aoW _ _ _ _) ?_ ?_
 .simp only[aZ,al,d]
 .unfold ar at c;simp only[aA,bm]at c ⊢;exact⟨c.2.2.2.1,aX⟩
 .show U.agg [I 3,I 0,sv [],.list (bU (bU k)) 4 rows]=_;rw[fc];rfl
 .rw[au];exact c
def aqe(s):∀h,W3.call 99 [sv s] h=J (.ret (.agg (ar 2 0 s .nil 0 [])),h):=bR (L:=L3) O O O (aqd s _) O rfl
def anO{v}{r}(i:b8 v r)(f:fg v<=16)(g:F (cA v)<=1099511600000):∃t,∀h,W3.call 100 [.agg r] h=J (.ret (.tuple [.list t 1 (bI (cA v)),.v (.int .i64 0)]),h):=by obtain⟨c,d⟩:=b8.hold v r i;obtain⟨t,j⟩:=anN c f g;exact⟨bU t,bR (L:=L3) (B:=[.agg (aZ r)]) O O (by simpa [aA,au] using d) (j _) O (by simp[au,aA,ef,i'])⟩
def aoS{l}{rows}(f:fN l rows)(d:dk rows=rows)(k)(g:F rows<=1000000):∀h,W3.call 96 [.list k 4 rows] h=J (.ret (.agg (ar 3 0 [] (bU k) 4 rows)),h):=by
 have j:b8 (.list l) (ar 3 0 [] k 4 rows):=.list l k 4 rows f.1 (λ_=>rfl) g f.2;obtain⟨i,c⟩:=b8.hold _ _ j;have e:aZ (ar 3 0 [] k 4 rows)=ar 3 0 [] (bU k) 4 (dk rows):=rfl;rw[e,d]at i c;refine bR (L:=L3) (B:=[.list (bU k) 4 rows]) O ?_ ?_ (aoR f d (bU k) g _) ?_ ?_
 .simp only[aZ,al,d]
 .unfold ar at c;simp only[aA,bm]at c ⊢;exact⟨c.2.2.2.1,aX⟩
 .show U.agg [I 3,I 0,sv [],.list (bU (bU (bU k))) 4 rows]=_;rw[fc,fc];rfl
 .rw[au];exact c
def aqf(s):∀h,W4.call 99 [sv s] h=J (.ret (.agg (ar 2 0 s .nil 0 [])),h):=bR (L:=L4) O O O (aqe s _) O rfl
def anP{v}{r}(i:b8 v r)(f:fg v<=16)(g:F (cA v)<=1099511600000):∃t,∀h,W4.call 100 [.agg r] h=J (.ret (.tuple [.list t 1 (bI (cA v)),.v (.int .i64 0)]),h):=by obtain⟨c,d⟩:=b8.hold v r i;obtain⟨t,j⟩:=anO c f g;exact⟨bU t,bR (L:=L4) (B:=[.agg (aZ r)]) O O (by simpa [aA,au] using d) (j _) O (by simp[au,aA,ef,i'])⟩
def aoT{l}{rows}(f:fN l rows)(d:dk rows=rows)(k)(g:F rows<=1000000):∀h,W4.call 96 [.list k 4 rows] h=J (.ret (.agg (ar 3 0 [] (bU k) 4 rows)),h):=by
 have j:b8 (.list l) (ar 3 0 [] k 4 rows):=.list l k 4 rows f.1 (λ_=>rfl) g f.2;obtain⟨i,c⟩:=b8.hold _ _ j;have e:aZ (ar 3 0 [] k 4 rows)=ar 3 0 [] (bU k) 4 (dk rows):=rfl;rw[e,d]at i c;refine bR (L:=L4) (B:=[.list (bU k) 4 rows]) O ?_ ?_ (aoS f d (bU k) g _) ?_ ?_
 .simp only[aZ,al,d]
 .unfold ar at c;simp only[aA,bm]at c ⊢;exact⟨c.2.2.2.1,aX⟩
 .show U.agg [I 3,I 0,sv [],.list (bU (bU (bU k))) 4 rows]=_;rw[fc,fc];rfl
 .rw[au];exact c
def aqg(s):∀h,W5.call 99 [sv s] h=J (.ret (.agg (ar 2 0 s .nil 0 [])),h):=gr (L:=L5) O O O (aqf s _) O rfl
def anQ{v}{r}(i:b8 v r)(f:fg v<=16)(g:F (cA v)<=1099511600000):∃t,∀h,W5.call 100 [.agg r] h=J (.ret (.tuple [.list t 1 (bI (cA v)),.v (.int .i64 0)]),h):=by obtain⟨c,d⟩:=b8.hold v r i;obtain⟨t,j⟩:=anP c f g;exact⟨bU t,gr (L:=L5) (B:=[.agg (aZ r)]) O O (by simpa [aA,au] using d) (j _) O (by simp[au,aA,ef,i'])⟩
def aoU{l}{rows}(f:fN l rows)(d:dk rows=rows)(k)(g:F rows<=1000000):∀h,W5.call 96 [.list k 4 rows] h=J (.ret (.agg (ar 3 0 [] (bU k) 4 rows)),h):=by
 have j:b8 (.list l) (ar 3 0 [] k 4 rows):=.list l k 4 rows f.1 (λ_=>rfl) g f.2;obtain⟨i,c⟩:=b8.hold _ _ j;have e:aZ (ar 3 0 [] k 4 rows)=ar 3 0 [] (bU k) 4 (dk rows):=rfl;rw[e,d]at i c;refine gr (L:=L5) (B:=[.list (bU k) 4 rows]) O ?_ ?_ (aoT f d (bU k) g _) ?_ ?_
 .simp only[aZ,al,d]
 .unfold ar at c;simp only[aA,bm]at c ⊢;exact⟨c.2.2.2.1,aX⟩
 .show U.agg [I 3,I 0,sv [],.list (bU (bU (bU k))) 4 rows]=_;rw[fc,fc];rfl
 .rw[au];exact c
def aqh(s):∀h,W6.call 99 [sv s] h=J (.ret (.agg (ar 2 0 s .nil 0 [])),h):=bR (L:=L6) O O O (aqg s _) O rfl
def anR{v}{r}(i:b8 v r)(f:fg v<=16)(g:F (cA v)<=1099511600000):∃t,∀h,W6.call 100 [.agg r] h=J (.ret (.tuple [.list t 1 (bI (cA v)),.v (.int .i64 0)]),h):=by obtain⟨c,d⟩:=b8.hold v r i;obtain⟨t,j⟩:=anQ c f g;exact⟨bU t,bR (L:=L6) (B:=[.agg (aZ r)]) O O (by simpa [aA,au] using d) (j _) O (by simp[au,aA,ef,i'])⟩
def aoV{l}{rows}(f:fN l rows)(d:dk rows=rows)(k)(g:F rows<=1000000):∀h,W6.call 96 [.list k 4 rows] h=J (.ret (.agg (ar 3 0 [] (bU k) 4 rows)),h):=by
 have j:b8 (.list l) (ar 3 0 [] k 4 rows):=.list l k 4 rows f.1 (λ_=>rfl) g f.2;obtain⟨i,c⟩:=b8.hold _ _ j;have e:aZ (ar 3 0 [] k 4 rows)=ar 3 0 [] (bU k) 4 (dk rows):=rfl;rw[e,d]at i c;refine bR (L:=L6) (B:=[.list (bU k) 4 rows]) O ?_ ?_ (aoU f d (bU k) g _) ?_ ?_
 .simp only[aZ,al,d]
 .unfold ar at c;simp only[aA,bm]at c ⊢;exact⟨c.2.2.2.1,aX⟩
 .show U.agg [I 3,I 0,sv [],.list (bU (bU (bU k))) 4 rows]=_;rw[fc,fc];rfl
 .rw[au];exact c
def Iv:Tryz.f94.results.toList=[.tmp 4]:=by kernel_rfl
def rW:Tryz.f84.results.toList=[.tmp 2]:=by kernel_rfl
def aeX(h:Heap)(x y z:U)(rows:List (List Int))(ac ah:List Int)(hx:RL x rows)(E:IL y ac)(hz:IL z ah)(hl:F ah<=1000000):
 ∃r h',W6.call 94 [.agg [x,y],z] h=J (r,h')/\h'=h.push [x,y]/\r=.ret (.v (.bool (ah.all bX&&decide (F ah=cd rows)))):=by
 have bx:=ua hx E;have c1:=aeQ x y rows ac hx E;have l0:=tV (aK h [x,y]);have o:=λn=>X9 n;obtain⟨z0,Z,rfl,A⟩:=hz;have ks:=ae.mk A;clear A hx E;have u23:=cT;have z3:=eR;have eC:=cE ah;obtain⟨q,s⟩:∃q,h.push [x,y]=q:=⟨_,O⟩;rw[s]at l0;rw[s];unfold I at c1 o;refine bL O Tryz.func94 O ?_;refine cK @Iv @a_ @s ?_;refine bC.gen λm f p v w=>?_;have f1:m.get 1=.list z0 Z (ints ah):=by rw[f];exact gS
 have f2:m.get 2=.ptr (.box (F h.boxes)) 0:=by rw[f];exact gS
 have f5:m.get 5=.v (.int .i64 (0:Nat)):=by rw[f];exact gR
 have u:m.defers=[]:=by rw[p];exact gS
 clear f p v w bx;refine b9 (λz1 e S=>∃d:Nat,d<=F ah/\z1=F ah-d/\ae ((ah.take d).all bX=V)/\e.get 1=.list z0 Z (ints ah)/\e.get 2=.ptr (.box (F h.boxes)) 0/\e.get 5=.v (.int .i64 (d:Nat))/\e.defers=[]/\S=q) ?_ (F ah) _ _ ?_;rotate_left 1
 .exact⟨0,bV _,O,⟨b7⟩,f1,f2,f5,u,O⟩
 clear f1 f2 f5 u;rintro z1 e S ⟨d,hi,rfl,D,g1,g2,g5,hd,rfl⟩;by_cases c:d<F ah
 .have B:Z=1:=ks.out (by intro z2;rw[z2]at c;simp at c);subst B;have ld:=eJ (H:=S) (s:=1) c;have k:ah[d]?=J (ag ah d):=by rw[aN c,fS c]
  have fH:(d:Int)<(F ah:Int):=by omega
  have t:=o (ag ah d);have g:(ah.take (d+1)).all bX=bX (ag ah d):=by rw[fY k,sn,D.out];simp
  have K:=ae.mk (aj g (cU k));clear g k o;generalize ag ah d=n at *
  cases i:bX n with
  |false=>rw[i]at t;have kf:ae (ah.all bX=ai):=⟨by rw[List.all_eq_false];exact⟨n,K.out.2,by rw[i];simp⟩⟩;clear i;refine bE @Iv @aT ?_;exact⟨_,_,O,O,by rw[kf.out];rfl⟩
  |true=>rw[i]at t;have N:ae ((ah.take (d+1)).all bX=V):=⟨K.out.1.trans i⟩;clear i;refine bE @Iv @aT ?_;exact⟨F ah-(d+1),by omega,d+1,by omega,O,N,by simp⟩
 .have:d=F ah:=by omega
  subst this;have:=D.out;rw[fB]at this;have H:=ae.mk this;have j:decide ((F ah:Int)=(cd rows:Int))=decide (F ah=cd rows):=by rw[decide_eq_decide];omega
  have kd:=ae.mk j;clear this o j;generalize decide (F ah=cd rows)=dd at *
  refine bg @Iv ?_;exact⟨_,_,O,O,by rw[H.out,kd.out];rfl⟩
def alZ(p:Pr):Bool:=decide (0<=p.aU)&&decide (p.aU<64)&&decide (0<=p.no)&&decide (p.no<4096)&&bX p.d&&bX p.e
def af6(h:Heap)(x y:U)(rows:List (List Int))(ac:List Int)(hx:RL x rows)(E:IL y ac):
 ∃r h',W6.call 84 [.agg [x,y]] h=J (r,h')/\h'=h.push [x,y]/\∃b,r=.ret (.v (.bool b))/\(b=V->F rows<=80/\F ac<=80):=by
 have bx:=ua hx E;have l0:=oc (aK h [x,y]);have l1:=w9 (aK h [x,y]);obtain⟨z3,z1,B,rfl,N,fa,v⟩:=hx;obtain⟨ky,sy,rfl,jI⟩:=E;have kk:=ae.mk (aj N v);clear N v jI;have u23:=cT;have u22:=gm;have z23:=gV;have eC:F (B.map λa=>[a])=F rows:=by rw[br];exact fa
 have au1:=cE ac;obtain⟨z,d⟩:∃z,h.push [.list z3 z1 (B.map λa=>[a]),.list ky sy (ints ac)]=z:=⟨_,O⟩;rw[d]at l0 l1;rw[d];refine bL O Tryz.func84 O ?_;by_cases j:80<F rows
 .have q:(80:Int)<(F rows:Int):=by omega
  have c:(16:Int)<(F rows:Int):=by omega
  have f:¬(F rows:Int)<=64:=by omega
  clear j;refine bA @rW @a_ @d (aj @de @dR) ?_;exact⟨_,_,O,O,ai,O,λg=>by cases g⟩
 by_cases s:80<F ac
 .have w:(80:Int)<(F ac:Int):=by omega
  have q:¬(80:Int)<(F rows:Int):=by omega
  by_cases p:16<F rows
  .have c:(16:Int)<(F rows:Int):=(by omega);by_cases t:F rows<=64
   .have f:(F rows:Int)<=64:=(by omega);clear p t j s;refine bA @rW @a_ @d (aj @de @dR) ?_;exact⟨_,_,O,O,ai,O,λg=>by cases g⟩
   .have f:¬(F rows:Int)<=64:=(by omega);clear p t j s;refine bA @rW @a_ @d (aj @de @dR) ?_;exact⟨_,_,O,O,ai,O,λg=>by cases g⟩
  .have c:¬(16:Int)<(F rows:Int):=(by omega);clear p j s;refine bA @rW @a_ @d (aj @de @dR) ?_;exact⟨_,_,O,O,ai,O,λg=>by cases g⟩
 have kq:ae (F rows<=80/\F ac<=80):=⟨M,by omega⟩;have lH:F rows<=80:=by omega
 have q:¬(80:Int)<(F rows:Int):=by omega
 have w:¬(80:Int)<(F ac:Int):=by omega
 have key:(16<F rows/\F rows<=64)∨¬(16:Int)<(F rows:Int)∨((16:Int)<(F rows:Int)/\¬(F rows:Int)<=64):=by omega
 rcases key with⟨p,t⟩|key
 .have c:(16:Int)<(F rows:Int):=by omega
  have f:(F rows:Int)<=64:=by omega
  clear p t j s;refine bA @rW @a_ @d (aj @de @dR) ?_;exact⟨_,_,O,O,ai,O,λg=>by cases g⟩
 clear j s;rcases key with c|⟨c,f⟩
 all_goals
  refine bA @rW @a_ @d (aj @de @dR) ?_;refine bC.gen λA m u H K=>?_;have f1:A.get 1=.ptr (.box (F h.boxes)) 0:=by rw[m];exact gS
  have f3:A.get 3=.v (.int .i64 (0:Nat)):=by rw[m];exact gR
  have D:A.defers=[]:=by rw[u];exact gS
  clear m u H K bx l1 c q w d
  try clear f
  refine b9 (λz2 e z0=>∃i:Nat,i<=F rows/\z2=F rows-i/\e.get 1=.ptr (.box (F h.boxes)) 0/\e.get 3=.v (.int .i64 (i:Nat))/\e.defers=[]/\z0=z) ?_ (F rows) _ _ ?_;rotate_left 1
  .exact⟨0,bV _,O,f1,f3,D,O⟩
  clear f1 f3 D;rintro z2 e z0 ⟨i,hi,rfl,g1,g3,hd,rfl⟩;by_cases o:i<F rows
  .have S:z1=1:=kk.out.1 (by intro g;rw[g]at o;simp at o);subst S;obtain⟨a,k⟩:∃a,B[i]?=J a:=⟨_,aN M⟩;obtain⟨r,hv⟩:∃r,rows[i]?=J r:=⟨_,aN o⟩;have ld:=iN (H:=z0) (s:=1) k;obtain⟨ka,sa,rfl,Z⟩:=kk.out.2 i a r k hv;have AP:=cE r;have fH:(i:Int)<(F rows:Int):=(by omega);clear k hv Z;by_cases p1:(16:Int)<(F r:Int)
   .by_cases p2:(F r:Int)<=64
    .refine bA @rW @de @dR @aT ?_;exact⟨_,_,O,O,ai,O,λg=>by cases g⟩
    .by_cases p3:(80:Int)<(F r:Int)
     .refine bA @rW @de @dR @aT ?_;exact⟨_,_,O,O,ai,O,λg=>by cases g⟩
     .refine bA @rW @de @dR @aT ?_;exact⟨F rows-(i+1),by omega,i+1,by omega,O,by simp⟩
   .have p3:¬(80:Int)<(F r:Int):=(by omega);refine bA @rW @de @dR @aT ?_;exact⟨F rows-(i+1),by omega,i+1,by omega,O,by simp⟩
  .have:i=F rows:=(by omega);subst this;refine cK @rW @de @dR ?_;exact⟨_,_,O,O,V,O,λ_=>⟨by first|trivial|omega,kq.out.2⟩⟩
def BC:Tryz.f98.results.toList=[.cell 2 118]:=by kernel_rfl
def acJ:iy aa 118 [(0,.v (.int .i64 3))]=J (.agg (ar 3 0 [] .nil 0 [])):=by kernel_rfl
def cO(n:Int):List U:=ar 1 n [] .nil 0 []
def O1{H:Heap}{r}(d:(U.agg r).bG=J r)(c:F r=4):bY aa (H.push (ar 0 0 [] .nil 0 [])) 118 (.ptr (.box (F H.boxes)) 0) (.agg r)=J (H.push r):=kL d mU c rfl
def VE{H:Heap}{b}{r}(d:F r=4)(c:b<F H.boxes):aD aa Gt (H.put b r) 118 (.ptr (.box b) 0)=J (.agg r):=mQ d (dn c)
def Yx{H}{b}{z r}(f:H.boxes[b]?=J z)(g:F z=4)(d:(U.agg r).bG=J r)(c:F r=4):bY aa H 118 (.ptr (.box b) 0) (.agg r)=J (H.put b r):=by rw[fE d mU f c M,xh M]
def ajf(h:Heap)(fJ:c_ h=V)(k:Tok)(l:List Int)(hl:F l<=1000)(t:l≠[])(hb:∀n∈l,0<=n/\n<=4611686018427387903):
 ∃r h',W6.call 98 [.list k 1 (ints l)] h=J (r,h')/\∃n,r=.ret (.agg (ar 3 0 [] (.free n) 4 (l.map cO))):=by
 have z4:=sd;have bd:=acJ;have u23:=cT;have u94:=kY;have z3:=eR;have eC:=cE l;have D:=O1 (H:=h.push (ar 0 0 [] .nil 0 [])) (r:=ar 3 0 [] .nil 0 []) O O;have q:F (h.push (ar 0 0 [] .nil 0 [])).boxes=F h.boxes+1:=bF _ _;have N:om h ((h.push (ar 0 0 [] .nil 0 [])).push (ar 3 0 [] .nil 0 [])) (F h.boxes+1) ((l.map Vl.int).take 0) .nil 0 []:=⟨by rw[<-q];exact aK _ _,.inl O,fJ,(Ext.push _ _).trans (.push _ _),Nat.le_succ _,⟨O,λc z5 r z0=>by simp at z0⟩,λz0=>absurd O z0,λ_=>.inr O,O⟩;have K:((h.push (ar 0 0 [] .nil 0 [])).push (ar 3 0 [] .nil 0 [])).boxes[h.boxes.length]?=J (ar 0 0 [] .nil 0 []):=aM (aK _ _);have m:=ae.mk (aj N K);rw[q]at D;clear N K;have kb:=ae.mk (aj hb t);clear hb t;obtain⟨S,hH⟩:∃S,(h.push (ar 0 0 [] .nil 0 [])).push (ar 3 0 [] .nil 0 [])=S:=⟨_,O⟩;rw[hH]at D m;refine bL O Tryz.func98 O ?_;refine cK @BC @a_ @iO ?_;refine bC.gen λi g p ek dm=>?_;have f0:i.get 0=.list k 1 (ints l):=by rw[g];exact gS
 have f2:i.get 2=.ptr (.box (F h.boxes)) 0:=by rw[g];exact gS
 have f3:i.get 3=.ptr (.box (F h.boxes+1)) 0:=by rw[g];simp only[gW,reduceIte,aJ,aB,bF]
 have f4:i.get 4=.v (.int .i64 (0:Nat)):=by rw[g];exact gR
 have fd:i.defers=[]:=by rw[p];exact gS
 clear g p ek dm D hH z4 bd;refine b9 (λz1 e f=>∃(c:Nat) (H:Tok) (E:Nat),c<=F l/\z1=F l-c/\ae (om h f (F h.boxes+1) ((l.map Vl.int).take c) H E ((l.take c).map cO)/\f.boxes[h.boxes.length]?=J (ar 0 0 [] .nil 0 []))/\ae (0<c->(∃n,H=.free n)/\E=4)/\e.get 0=.list k 1 (ints l)/\e.get 2=.ptr (.box (F h.boxes)) 0/\e.get 3=.ptr (.box (F h.boxes+1)) 0/\e.get 4=.v (.int .i64 (c:Nat))/\e.defers=[]) ?_ (F l) _ _ ?_;rotate_left 1
 .exact⟨0,.nil,0,bV _,O,m,⟨λz0=>absurd z0 (Nat.lt_irrefl _)⟩,f0,f2,f3,f4,fd⟩
 clear f0 f2 f3 f4 fd m;rintro z1 e f ⟨c,H,E,hi,rfl,d,B,g0,g2,g3,g4,hd⟩;by_cases j:c<F l
 .have o:l[c]?=J (ag l c):=by rw[aN j,fS j]
  have v:b8 (.int (ag l c)) (cO (ag l c)):=.int _ (kb.out.1 _ (cU o));have ld:=eJ (H:=f) (s:=1) j;have z2:=λf=>XC (ag l c) f;have u:F ((l.take c).map cO)<1000000:=by rw[br,cR];omega
  have l3:=jv d.out.1.box;have ap:=xG (r:=cO (ag l c)) u d.out.1.four d.out.1.nil d.out.1.can;have bl:=xK (r:=cO (ag l c)) O O;have st:=xi (H:=f.app H) (t2:=.free f.tn) (sz2:=4) (rows2:=(l.take c).map cO++[cO (ag l c)]) (by rw[dP];exact d.out.1.box);have y:=d.out.1.put v O;have z:(l.take c).map cO++[cO (ag l c)]=(l.take (c+1)).map cO:=by rw[fY o,jB];rfl
  have Z:(l.map Vl.int).take c++[Vl.int (ag l c)]=(l.map Vl.int).take (c+1):=by rw[fY (x:=Vl.int (ag l c)) (by rw[dW,o];rfl)]
  rw[z,Z]at y;rw[z]at ap st;have kG2:ae (om h ((f.app H).put (F h.boxes+1) (ar 3 0 [] (.free f.tn) 4 ((l.take (c+1)).map cO))) (F h.boxes+1) ((l.map Vl.int).take (c+1)) (.free f.tn) 4 ((l.take (c+1)).map cO)/\((f.app H).put (F h.boxes+1) (ar 3 0 [] (.free f.tn) 4 ((l.take (c+1)).map cO))).boxes[h.boxes.length]?=J (ar 0 0 [] .nil 0 [])):=⟨y,by rw[cr M,dP];exact d.out.2⟩;have kN2:ae (0<c+1->(∃n,Tok.free f.tn=.free n)/\4=4):=⟨λ_=>⟨⟨_,O⟩,O⟩⟩;have fH:(c:Int)<(F l:Int):=by omega
  have w:ar 1 (ag l c) [] .nil 0 []=cO (ag l c):=rfl;rw[w]at z2;clear y z Z o v u d B w;generalize cO (ag l c)=r at *
  generalize ag l c=n at *
  unfold I at *
  refine cK @BC @dU @aT ?_
  repeat' (first|simp(maxSteps:=9999999) (disch:=first|exact dZ|fail) only[gW,reduceIte,aJ,aB,BC,dU,aT, *]|(refine dX ?_ ?_<;>(intro _;try omega))|refine du adJ bD ?_)
  exact⟨F l-(c+1),by omega,c+1,.free f.tn,4,by omega,O,(by first|exact kG2|trivial),(by first|exact kN2|trivial),by simp⟩
 .have gf:c=F l:=by omega
  subst gf;obtain⟨⟨n,rfl⟩,rfl⟩:=B.out (JI.2 kb.out.2);have A:=d.out.1;rw[fB]at A;have ld:=mQ (r:=ar 3 0 [] (.free n) 4 (l.map cO)) O A.box;have st:=Yx (r:=ar 3 0 [] (.free n) 4 (l.map cO)) d.out.2 O O O;have ll:=VE (H:=f) (r:=ar 3 0 [] (.free n) 4 (l.map cO)) O (aS.1 d.out.2).1;clear A d B;refine bg @BC ?_;exact⟨_,_,O,n,O⟩
def L7:List aQ:=L6++[131,84,94,253,197,199,198,137,196,200,98,194]
noncomputable def HT:aQ->Option (List U->Heap->Option (U × Heap)):=lh W6 L7
noncomputable abbrev W7:=whole aa Gt HT
def Ry:lW HT L7:=rm
end Go.Proofs.YtcbhpkjbiehcpaaGreatDoor
end
