/-
  The engine, part 52: a user's rule for a region whose last store may change places with another one.
-/
import Derived.Test.YtcbhpkjbiehcpaaGreatDoorSD
import Derived.Test.YtcbhpkjbiehcpaaGreatDoorSC
import Derived.Test.YtcbhpkjbiehcpaaGreatDoorSB
open True renaming intro->br
open Go.Proofs.Tryz renaming prog->ag,underlying23->dp,underlying22->gZ,underlying72->Hu,underlying32->xv,underlying116->mw
open Option renaming some->J,map_some->gc,none->aq
open Bool renaming false->au,true->aa,and_eq_true->bQ,not_eq_true->abZ,not_eq_false'->abY,true_and->pF
open List renaming length->F,length_cons->eZ,length_append->de,length_nil->gi,map_cons->dR,map_nil->sV,range->bT,range_succ->lP,foldl_append->ot,all_eq_true->ff,getElem_mem->jf,getElem?_eq_getElem->aY,getD_eq_getElem?_getD->fg,length_map->bJ,getElem?_eq_some_iff->bk,getElem?_map->eF,getElem?_range->Bb,mem_of_getElem?->dy,length_take->dJ,take_of_length_le->fK,map_eq_nil_iff->Be,length_filter_le->Bc,find?_append->acs,cons_append->eY,take_length->gy,mem_cons_of_mem->gr,mem_cons_self->gt,mem_cons->hh,not_mem_nil->qR,take_succ_cons->dY,take_zero->dG,getElem?_of_mem->sS,getElem?_append_left->rC,getElem?_concat_length->Ba,length_pos_iff->Bd,drop_of_length_le->oo,append_nil->iB,mem_filter->rE,drop_eq_getElem_cons->uw,map_append->jN,filter_append->A_,append_assoc->jx,getElem?_append_right->xm,mem_singleton->iL,all_append->qP,pairwise_cons->DZ,length_set->nS,getElem?_set->mq,ext_getElem?->oq,mem_map->iX,getElem?_drop->rD,replicate->bR,foldl_nil->DX,map_replicate->yO
open Int renaming toNat_natCast->fe
open And renaming intro->ar
open Nat renaming zero_le->cC,le_refl->bh,mul_le_mul->kL,reduceEqDiff->aT,add_mul->jm,le_of_ble_eq_true->lQ,lt_or_ge->eg,beq_refl->acT,sub_self->sW,zero_add->nT
open Go renaming FuncId->a_,Operand->ck
open Decidable renaming not_not->Lp
open Array renaming getElem?_eq_none->KX
open Prod renaming fst->jz
open Bool renaming false_or->Ld
set_option maxHeartbeats 64000000
set_option maxRecDepth 100000
set_option linter.unusedSimpArgs false
set_option linter.unusedVariables false
set_option linter.constructorNameAsVariable false
set_option linter.defProp false
section
namespace Go.Proofs.YtcbhpkjbiehcpaaGreatDoor
open Go.AE Go.NT
def Ds:Tryz.f26.results.toList=[.tmp 6]:=aB
def BT{b}:eo ag 52 (.ptr (.box b) 0) 0=J (.ptr (.box b) 0):=aB
def BU{b}:eo ag 52 (.ptr (.box b) 0) 1=J (.ptr (.box b) 1):=aB
def FK:isIface ag 3=J au:=aB
def OT:isIface ag 60=J au:=aB
def ala:isIface ag 118=J au:=aB
def TL(t u v)(x y z):fC ag 177 3 [(0,.iface t x),(1,.iface u y),(2,.iface v z)]=J (.ac .aP 1 [[.iface t x],[.iface u y],[.iface v z]]):=aB
def aaV(a b)(t):F (cH (.ac [.int a,.int b,.aC t]))<=60+F t:=by
 have c:=iK 9 (0+1+1+1);have d:=iK 9 (iE a);have f:=iK 9 (iE b);have g:=iK 9 (F t);simp only[cH,gK,eZ,de,gi]at *
 omega
def tv:cq 4=aa:=by decide+kernel
def tD{a}(h:cq a=aa)(n):eR a n=((cN a.toNat n:Nat):Int):=by unfold eR;rw[aH h]
def xG{a}(h:elem a=aa):cq ((a:Nat):Int)=aa:=by unfold cq;rw[fe,h,Bool.and_true];have:=(elem_iff.1 h).1;exact cD af
def BP{a}(h:cq a=aa):elem a.toNat=aa:=by unfold cq at h;rw[bQ]at h;exact h.2
def BQ{a}(h:cq a=aa):1<=a/\a<=2147483578:=by obtain⟨n,rfl,c,d,f⟩:=EI h;have:P=2147483579:=rfl;omega
def ahZ{a}(h:cq a=aa)(n):cq ((cN a.toNat n:Nat):Int)=aa:=xG (C9 (BP h) n)
def v9{a}(h:cq a=aa)(n):cq (eR a n)=aa:=by rw[tD h];exact ahZ h n
def ES{a b}(h:cq a=aa)(k:cq b=aa):oI a b=((a.toNat*b.toNat%P:Nat):Int):=by unfold oI;rw[aH ⟨h,k⟩]
def ahY{a b}(h:cq a=aa)(k:cq b=aa):cq (oI a b)=aa:=by rw[ES h k];exact xG (EJ (BP h) (BP k))
def awD(h:ah)(c e s:Int)(k:Tok)(st:Nat)(aC:List UInt8)(B:aC≠[]->st=1)(hl:F aC<=1000000):
 ∃r h',W5.call 26 [im c,.ac k st (bW aC),.agg [im e,im s]] h=J (r,h')/\r=.ret (.v (.bool (ol c aC e s)))/\Ext h h':=by
 have m:=GQ c;have N:(V.agg [im e,im s]).bP=J [im e,im s]:=rfl;have l0:=Pd (aU h [im e,im s]);have l1:=Pe (aU h [im e,im s]);have g:aj (ol c aC e s=(cq c&&cG e&&cG s&&decide (e=((yA ((cN Gn s*cN c.toNat (0-e)%P:Nat):Int) c aC:Nat):Int)))):=⟨by rw[Int.zero_sub];rfl⟩;generalize ol c aC e s=res at *
 refine cA O Tryz.func26 O ?_;unfold im at *
 by_cases hA:e<0∨s<0
 .have d1:decide ((if s<e then s else e)<0)=aa:=cD (by split<;>omega);have f:aj (res=au):=⟨by
   rw[g.M];unfold cG;rcases hA with q|q
   .rw[cR (af:¬0<=e)];simp
   .rw[cR (af:¬0<=s)];simp⟩
  clear hA;refine cg @Ds @BT @BU (ar @bC (ar @FR @AB)) ?_;exact⟨_,_,O,by rw[f.M],.push _ _⟩
 have d1:decide ((if s<e then s else e)<0)=au:=cR (by split<;>omega);by_cases i:1073741789<=e∨1073741789<=s
 .have d2:decide (1073741789<=(if e<s then s else e))=aa:=cD (by split<;>omega);have f:aj (res=au):=⟨by
   rw[g.M];unfold cG Qi;rcases i with q|q
   .rw[cR (af:¬e<1073741789)];simp
   .rw[cR (af:¬s<1073741789)];simp⟩
  clear hA i;refine cg @Ds @BT @BU (ar @bC (ar @FR @AB)) ?_;exact⟨_,_,O,by rw[f.M],.push _ _⟩
 have d2:decide (1073741789<=(if e<s then s else e))=au:=cR (by split<;>omega);have t:0<=e:=by omega
 have u:e<1073741789:=by omega
 have z:0<=s:=by omega
 have A:s<1073741789:=by omega
 clear hA i;cases d:cq c with
 |false=>rw[d]at m;have f:aj (res=au):=⟨by rw[g.M,d];rfl⟩;clear d;refine cg @Ds @BT @BU (ar @bC (ar @FR @AB)) ?_;exact⟨_,_,O,by rw[f.M],.push _ _⟩
 |true=>
  rw[d]at m;have S:=ZN 4 s;have Z:=ZN c (0-e);have c4:=Ip (eR 4 s) (eR c (0-e));have w:=ahY (v9 tv s) (v9 d (0-e));have p:oI (eR 4 s) (eR c (0-e))=((cN Gn s*cN c.toNat (0-e)%P:Nat):Int):=by rw[ES (v9 tv s) (v9 d (0-e)),tD tv,tD d,fe,fe];rfl
  have f:aj (res=decide (e=((yA (oI (eR 4 s) (eR c (0-e))) c aC:Nat):Int))):=⟨by rw[g.M,d,p,ws.2 (show okF e from⟨t,u⟩),ws.2 (show okF s from⟨z,A⟩)];rfl⟩;have H:=BQ d;have y:=BQ w;clear d p w;generalize oI (eR 4 s) (eR c (0-e))=R at *
  have j:=aaV R c aC;obtain⟨K,E⟩:=amT .aP 1 [.iface 3 ((R:Int):V),.iface 3 ((c:Int):V),.iface 60 (.ac k st (bW aC))] [.int R,.int c,.aC aC]
   (.cons (.int R ⟨af,by omega⟩) (.cons (.int c ⟨af,by omega⟩) (.cons (.aC k st aC B af) .nil))) (λ_=>rfl) cE (by simp[gf,gF]) af
  have o:=ajj AN (cH (.ac [.int R,.int c,.aC aC])) K af bm;have v:qo (lK AN (cH (.ac [.int R,.int c,.aC aC])))=yA R c aC:=rfl;rw[v]at o;simp only[dR,sV]at E;generalize yA R c aC=n at *
  rw[show AN=[115,105,103,110] from O]at o;have wn:IntKind.i64.wrap (0-e)=0-e:=jq af af;unfold im at *
  clear j v H y;refine cg @Ds @BT @BU (ar @bC (ar @FR @AB)) ?_;refine dW k_ aB ?_;refine dA @Ds @BT @BU ?_;refine dW k_ aB ?_;refine cg @Ds @BT @BU (ar @FK (ar @OT @TL)) ?_;exact⟨_,_,O,by rw[f.M],.push _ _⟩
def Du:Tryz.f160.results.toList=[.tmp 6,.tmp 7]:=aB
def QL:Tryz.f79.results.toList=[.tmp 6,.tmp 7]:=aB
def vp(av row:List Int)(k:Nat):Nat:=(bT k).foldl (λx c=>x*cN (al av c).toNat (al row c)%P) 1
def ZS(av row)(k):vp av row (k+1)=vp av row k*cN (al av k).toNat (al row k)%P:=by unfold vp;rw[lP,ot];rfl
def ZR{av row}(h:av.all cq=aa):∀k,k<=F av->elem (vp av row k)=aa
 |0,_=>HZ
 |k+1,c=>by rw[ZS];refine EJ (ZR h k af) (C9 (BP ?_) _);rw[ff]at h;exact h _ (by rw[fL af];exact jf _)
def ub(U:List (List Int))(ae av:List Int)(row:Int):Int × Int:=
 if iZ U ae av≠0 then (0,iZ U ae av) else if decide (row<0)||decide ((F U:Int)<=row) then (0,1) else (((qI av (U.getD row.toNat []):Nat):Int),0)
def agG{U}{ae av}(h:iZ U ae av=0):cI U ae=0/\F av=cr U/\av.all cq=aa:=by
 unfold iZ at h;split at h
 .rename_i d;exact absurd h d
 .rename_i d;split at h
  .rename_i c;rw[bQ,decide_eq_true_eq]at c;exact⟨by simpa using d,c.1,c.2⟩
  .cases h
def apL(h:ah)(x y z:V)(U:List (List Int))(ae av:List Int)(hx:RL x U)(E:IL y ae)(hz:IL z av)(hl:F av<=1000000)(row:Int):
 ∃r h',W5.call 160 [.agg [x,y],z,im row] h=J (r,h')/\r=.ret (.tuple [im (ub U ae av row).1,im (ub U ae av row).2])/\Ext h h':=by
 have bx:=ua hx E;have c1:=UM x y z U ae av hx E hz hl;have b0:=aU h [x,y];have l0:=tN b0;have l1:=oP b0;have ln:=hx.dw;have kx:=aj.mk (ar hx hz);clear hx E b0;have H:aj (iZ U ae av≠0->ub U ae av row=(0,iZ U ae av)):=⟨λo=>by unfold ub;rw[aH o]⟩;have A:aj (iZ U ae av=0->row<0∨(F U:Int)<=row->ub U ae av row=(0,1)):=⟨λo p=>by
  unfold ub;rw[aV (by simp[o]),aH];rcases p with p|p
  .rw[cD p];rfl
  .rw[cD p];simp⟩
 have K:aj (iZ U ae av=0->¬row<0->¬(F U:Int)<=row->ub U ae av row=(((qI av (U.getD row.toNat []):Nat):Int),0)):=⟨λo p1 p2=>by unfold ub;rw[aV (by simp[o]),aV (by rw[cR p1,cR p2];simp)]⟩;have D:=λo=>@agG U ae av o;have kck:=aj.mk D;clear D;generalize ub U ae av row=res at *
 unfold im at *
 refine cA O Tryz.func160 O ?_;by_cases f:iZ U ae av=0;rotate_left 1
 .have j:=aj.mk (H.M f);generalize iZ U ae av=o at *
  refine bF @Du @bC ?_;exact⟨_,_,O,by rw[j.M],.push _ _⟩
 rw[f]at c1;by_cases g:row<0
 .have d1:decide (row<0)=aa:=cD g;have j:=aj.mk (A.M f (.inl g));clear g f;refine dA @Du @bC @dN ?_;exact⟨_,_,O,by rw[j.M],.push _ _⟩
 have d1:decide (row<0)=au:=cR g;by_cases q:(F U:Int)<=row
 .have d2:decide ((F U:Int)<=row)=aa:=cD q;have j:=aj.mk (A.M f (.inr q));clear g f q;refine dA @Du @bC @dN ?_;exact⟨_,_,O,by rw[j.M],.push _ _⟩
 have d2:decide ((F U:Int)<=row)=au:=cR q;have j:=aj.mk (K.M f g q);obtain⟨q1,q2,q3⟩:=kck.M f;obtain⟨w1,w2,w3,w4⟩:=pD q1;have d:row.toNat<F U:=by omega
 have m:=w3 _ (jf d);rw[<-mB (t:=U) d]at m;generalize hR:U.getD row.toNat []=R at *
 have u:F R=F av:=by rw[m.1,q2]
 have fw:F av<=64:=by rw[<-u];exact m.2.2.1
 obtain⟨z1,z2,s,rfl,hs,fF,Z⟩:=kx.M.1;obtain⟨kz,sz,rfl,S⟩:=kx.M.2;have eM:z2=1:=hs (by intro o;rw[o]at d;simp at d);subst eM;obtain⟨a,v⟩:∃a,s[row.toNat]?=J a:=⟨_,aY af⟩;have hv:U[row.toNat]?=J R:=by rw[<-hR,fg,aY d];rfl
 obtain⟨ka,sa,rfl,N⟩:=Z _ a R v hv;have ld:=jc (H:=h.push [.ac z1 1 (s.map λa=>[a]),y]) (s:=1) v;have B:=aj.mk (ar S (ar N q3));have B7:0<=row:=by omega
 have uV:row<(F U:Int):=by omega
 have e_:F (s.map λa=>[a])=F U:=by rw[bJ];exact fF
 have u':=db R;have WA:=db av;have u23:=dp;have u22:=gZ;have z23:=iA;have z3:=fa;clear hs Z S N v hv hR m w1 w2 w3 w4 q1 q2 q3 H A K f kx kck hz g q;refine dA @Du @bC @dN ?_;refine cJ (λz4 e z0=>∃c:Nat,c<=F av/\z4=F av-c/\e.get 2=(row:Int)/\e.get 3=.ptr (.box (F h.I)) 0/\e.get 6=(vp av R c:Nat)/\e.get 28=.ac kz sz (aF av)/\e.get 29=(F av:Nat)/\e.get 30=(c:Nat)/\e.defers=[]/\z0=h.push [.ac z1 1 (s.map λa=>[a]),y]) ?_ (F av) _ _ ?_;rotate_left 1
 .refine⟨0,cC _,O,?_,?_,?_,?_,?_,?_,?_,O⟩<;>exact gR
 rintro z4 e z0 ⟨c,hj,rfl,g2,g3,g6,g28,g29,g30,hd,rfl⟩;by_cases k:c<F av
 .have Ji:sz=1:=B.M.1 (by intro o;rw[o]at k;simp at k);subst Ji;have Iz:sa=1:=B.M.2.1 (by intro o;rw[o]at u;simp at u;omega);subst Iz;have gG:(c:Int)<(F av:Int):=by omega
  have aym:(c:Int)<(F R:Int):=by omega
  have lc:=eI (H:=h.push [.ac z1 1 (s.map λa=>[a]),y]) (l:=av) (i:=c) (s:=1) k;have lr:=eI (H:=h.push [.ac z1 1 (s.map λa=>[a]),y]) (l:=R) (i:=c) (s:=1) af;have w:cq (al av c)=aa:=by have:=B.M.2.2;rw[ff]at this;exact this _ (by rw[fL k];exact jf _)
  have c2:=Iq (al av c) (al R c);have c3:=Ip ((vp av R c:Nat):Int) (eR (al av c) (al R c));have hK:=xG (ZR (row:=R) B.M.2.2 c hj);have e3:oI ((vp av R c:Nat):Int) (eR (al av c) (al R c))=((vp av R (c+1):Nat):Int):=by rw[ES hK (v9 w _),tD w,ZS,fe,fe]
  have e4:lm (al av c)=0:=by unfold lm;rw[aH w]
  have e5:tC ((vp av R c:Nat):Int) (eR (al av c) (al R c))=0:=by unfold tC;rw[aH ⟨hK,v9 w _⟩]
  rw[e4]at c2;rw[e3,e5]at c3;clear w hK e3 e4 e5;generalize eR (al av c) (al R c)=pw at *
  generalize al av c=cj at *
  generalize al R c=rj at *
  unfold im at *
  refine dA @Du @dN @bj ?_;exact⟨F av-(c+1),by omega,c+1,by omega,O,by simp⟩
 .have:c=F av:=by omega
  subst this;have e:vp av R (F av)=qI av R:=rfl;refine bD @Du ?_;exact⟨_,_,O,by rw[j.M,<-e],.push _ _⟩
def qY(U:List (List Int))(ae av:List Int)(p:Int × Int):Bool × Int:=
 if iZ U ae av≠0 then (au,iZ U ae av) else if ug U p=au then (au,340) else (decide (cN Gn p.2=qI av (U.getD p.1.toNat [])),0)
def aiy(h:ah)(x y z:V)(U:List (List Int))(ae av:List Int)(hx:RL x U)(E:IL y ae)(s:IL z av)(H:F av<=1000000)(a v:Int):
 ∃r h',W5.call 79 [.agg [x,y],z,.agg [im a,im v]] h=J (r,h')/\r=.ret (.tuple [.v (.bool (qY U ae av (a,v)).1),im (qY U ae av (a,v)).2])/\Ext h h':=by
 have bx:=ua hx E;have b2:(V.agg [im a,im v]).bP=J [im a,im v]:=rfl;have Z:=UM x y z U ae av hx E s H;have p:=aq0 x y U ae hx E a v;obtain⟨_,S,q,rfl,x3⟩:=apL ((h.push [x,y]).push [im a,im v]) x y z U ae av hx E s H a;have w:=Iq 4 v;have A:lm 4=0:=by unfold lm;rw[aH tv]
 rw[A,tD tv]at w;have N:((h.push [x,y]).push [im a,im v]).I[F h.I]?=J [x,y]:=aX (aU h [x,y]);have g:=aU (h.push [x,y]) [im a,im v];have l0:=tN N;have l1:aL ag Gt ((h.push [x,y]).push [im a,im v]) 110 (.ptr (.box (F (h.push [x,y]).I)) 0)=J (.agg [im a,im v]):=by rw[fS aB (by kernel_rfl:cQ ag 110=J 2) g (bh 2)];rfl
 have l2:=Pd g;have K:aL ag Gt S 3 (.ptr (.box (F (h.push [x,y]).I)) 1)=J (im v):=Pe (x3.box _ _ g);have kX:=aj.mk (((Ext.push h [x,y]).trans (.push _ [im a,im v])).trans x3);have u:=aj.mk ((Ext.push h [x,y]).trans (.push _ [im a,im v]));have i:aj (iZ U ae av≠0->qY U ae av (a,v)=(au,iZ U ae av)):=⟨λo=>by unfold qY;rw[aH o]⟩;have j:aj (iZ U ae av=0->ug U (a,v)=au->qY U ae av (a,v)=(au,340)):=⟨λo t=>by unfold qY;rw[aV (by simp[o]),aH t]⟩;have k:aj (iZ U ae av=0->ug U (a,v)=aa->qY U ae av (a,v)=(decide (cN Gn v=qI av (U.getD a.toNat [])),0)):=⟨λo t=>by unfold qY;rw[aV (by simp[o]),aV (by simp[t])]⟩;have m:aj (iZ U ae av=0->ug U (a,v)=aa->ub U ae av a=(((qI av (U.getD a.toNat []):Nat):Int),0)):=⟨λo t=>by unfold ug at t;simp only[bQ,decide_eq_true_eq]at t;unfold ub;rw[aV (by simp[o]),aV];rw[cR (af:¬a<0),cR (af:¬(F U:Int)<=a)];simp⟩;clear hx E s N g x3 A;generalize qY U ae av (a,v)=res at *
 refine cA O Tryz.func79 O ?_;by_cases c:iZ U ae av=0;rotate_left 1
 .have f:=aj.mk (i.M c);clear q p K;generalize iZ U ae av=o at *
  unfold im at *
  refine bF @QL @bC ?_;exact⟨_,_,O,by rw[f.M],u.M⟩
 rw[c]at Z;cases d:ug U (a,v) with
 |false=>
  have f:=aj.mk (j.M c d);rw[d]at p;clear q d c K;unfold im at *
  refine bF @QL @bC ?_;exact⟨_,_,O,by rw[f.M],u.M⟩
 |true=>
  have f:=aj.mk (k.M c d);rw[m.M c d]at q;rw[d]at p;clear d c;have B:(4:Int).toNat=Gn:=rfl;rw[B]at w;have D:decide (cN Gn v=qI av (U.getD a.toNat []))=decide (((cN Gn v:Nat):Int)=((qI av (U.getD a.toNat []):Nat):Int)):=by rw[decide_eq_decide];omega
  rw[D]at f;generalize ((cN Gn v:Nat):Int)=p1 at *
  generalize ((qI av (U.getD a.toNat []):Nat):Int)=p2 at *
  clear i j k m D B;unfold im at *
  refine cg @QL @bC @H7 @H_ ?_;exact⟨_,_,O,by rw[f.M],kX.M⟩
def wR:Tryz.f71.results.toList=[.tmp 6,.tmp 7,.tmp 8]:=aB
def HB{T E}{n}(d:ag.underlying T=J (.slice E))(hi:∃i,ag.info? E=J i/\i.size=n/\i.bytes<=64/\(i.zero.map λz=>z.cells.size)=J n)(s:0<n){H}{k}{n0 sz}{es}{r}
 (q:F es<1000000) (m:sz=n∨(es=[]/\k=.nil)) (j:dm n0 H k):gC ag H #[T,T] (.ac k sz es) (.ac .aP n [r])=J (.ac (.free H.tn) n (es++[r]),H.app k):=by
 obtain⟨i,f,c,o,g⟩:=hi;have p:=kL (af:F es+1<=1000000) o;have:=yZ (P:=ag) (h:=H) (n0:=n0) (k:=k) (sz:=sz) (es:=es) (new:=[r]) (x:=.ac .aP n [r]) (t1:=T) d (.inl ⟨E,d⟩) f af (by rw[c];exact g) (by rw[c];unfold jT rowsOf;simp) cE (by simp;omega) (by simp;omega) (by rw[c];exact m) j
 rwa [c]at this
section
open Go renaming kk110->Q45,kk2->Q46,kk64->Q47
def OV:∃i,ag.info? 110=J i/\i.size=2/\i.bytes<=64/\(i.zero.map λz=>z.cells.size)=J 2:=ZS8
end
def bI(p:Int × Int):List V:=[((p.1:Int):V),((p.2:Int):V)]
def bY(l:List (Int × Int)):List (List V):=l.map bI
def SL(x:V)(l:List (Int × Int)):Prop:=∃d c,x=.ac d c (bY l)/\(l≠[]->c=2)
def fA(U:List (List Int))(s:List Int):List (Int × Int):=(bT (F U)).map λc=>(((c:Nat):Int),lj (U.getD c []) s)
def EF(U)(s):F (fA U s)=F U:=by unfold fA;simp
def MV{U}{s r}{i}(h:U[i]?=J r):(fA U s)[i]?=J (((i:Nat):Int),lj r s):=by unfold fA;have c:=(bk.1 h).1;rw[eF,Bb c,gc,fg,h];rfl
def jD(U:List (List Int))(ae:List Int)(A:Int)(c:List Int):Int:=
 if cI U ae≠0 then cI U ae else if cG A&&c.all cG&&decide ((F c:Int)=(cr U:Nat)-1) then 0 else 1
def Gr(h H:ah)(t:Tok):Prop:=Ext h H/\du H=aa/\dm h.tn H t
def Gr.app{h H}{t}(g:Gr h H t):Gr h (H.app t) (.free H.tn):=by have c:=Grown.one g.2.2 g.2.1 g.1.tn;exact⟨c.ext g.1 (bh _),c.ok,c.can⟩
def Gr.push{h H}{t}(g:Gr h H t)(cs):Gr h (H.push cs) t:=⟨g.1.trans (.push _ _),g.2.1,by rw[tj];exact g.2.2⟩
def Gr.nil{h H}(x:Ext h H)(o:du H=aa):Gr h H .nil:=⟨x,o,.inl O⟩
def afq(x y)(hx:x.dt=aa)(E:y.dt=aa):fC ag 22 2 [(0,x),(1,y)]=J (.ac .aP 1 [[x],[y]]):=by cases x<;>first|(cases hx;done)|(cases y<;>first|(cases E;done)|kernel_rfl)
def IL.dt{x}{l}(h:IL x l):x.dt=aa:=by obtain⟨c,d,rfl,-⟩:=h;rfl
def TE(a b):fC ag 72 1 [(0,.agg [((a:Int):V),((b:Int):V)])]=J (.ac .aP 2 [[((a:Int):V),((b:Int):V)]]):=aB
def Tu(a b):iP ag 110 [(0,((a:Int):V)),(1,((b:Int):V))]=J (.agg [((a:Int):V),((b:Int):V)]):=aB
def ahF(h:ah)(fR:du h=aa)(x y z:V)(U:List (List Int))(ae c:List Int)(A:Int)(hx:RL x U)(E:IL y ae)(hz:IL z c)(hl:F c<=1000)(ri:F U<=1000000):
 ∃r h',W5.call 71 [.agg [x,y],im A,z] h=J (r,h')/\
  ((jD U ae A c≠0/\r=.ret (.tuple [.ac .nil 0 [],.ac .nil 0 [],im (jD U ae A c)]))∨
  (jD U ae A c=0/\∃t1 s1 t2 s2,r=.ret (.tuple [.ac t1 s1 (bY (fA U (A::c))),.ac t2 s2 (aF (bU (A::c))),im 0])/\(fA U (A::c)≠[]->s1=2)/\s2=1)):=by
 have bx:=ua hx E;have c1:=MM x y U ae hx E;have s:=Y9 (.ac .aP 1 [[((A:Int):V)]]) [A] (OU A) cE;rw[(cE:[A].all cG=cG A)]at s;have N:=Y9 z c hz af;have c4:=ag2 x y U ae hx E;obtain⟨z2,qA,S⟩:=ahl (.ac .aP 1 [[((A:Int):V)]]) z [A] c (OU A) hz (by simp;omega);have b0:=aU h [x,y];have l0:=tN b0;have l1:=oP b0;have lz:=hz.dw;have bl:=p_ A;have blt:=afq (.ac .aP 1 [[((A:Int):V)]]) z O hz.dt;have lx:=hx.dw;have vd:aj (cI U ae≠0->jD U ae A c=cI U ae):=⟨λm=>by unfold jD;rw[aH m]⟩;have oL:aj (cI U ae=0->jD U ae A c=if cG A&&c.all cG&&decide ((F c:Int)=(cr U:Nat)-1) then 0 else 1):=⟨λm=>by unfold jD;rw[aV (by simp[m])]⟩;have kok:=aj.mk (λm=>@pD U ae m);have kcp:=aj.mk (λm=>@pm U ae m);have kx:=aj.mk (ar hx qA);have xU:(cr U:Int)<=1000000∨cI U ae≠0:=by
  by_cases m:cI U ae=0
  .have:=(pm m).2;exact .inl af
  .exact .inr m
 clear hx E hz b0 qA;generalize jD U ae A c=res at *
 unfold im at *
 refine cA O Tryz.func71 O ?_;by_cases k:cI U ae=0;rotate_left 1
 .have e1:=vd.M k;have i:=aj.mk (ar k e1);clear e1 xU s N c4 S;generalize cI U ae=m at *
  refine bF @wR @bC ?_;exact⟨_,_,O,.inl ⟨by rw[i.M.2];exact i.M.1,by rw[i.M.2]⟩⟩
 rw[k]at c1;have w:=oL.M k;have hcp:=kcp.M k;have hw:IntKind.i64.wrap ((cr U:Nat)-1:Int)=(cr U:Nat)-1:=jq af af;clear vd oL kcp xU;have bad:∀(m:(cG A&&c.all cG&&decide ((F c:Int)=(cr U:Nat)-1))=au),res=1:=λm=>by rw[w,aV (by simp[m])]
 have good:∀(m:(cG A&&c.all cG&&decide ((F c:Int)=(cr U:Nat)-1))=aa),res=0:=λm=>by rw[w,aH m]
 have kb:=aj.mk bad;have kg:=aj.mk good;clear bad good w;cases j:cG A with
 |false=>rw[j]at s;have i:aj (res=1):=⟨kb.M (by rw[j];rfl)⟩;clear j k N c4 S;refine bF @wR @bC ?_;exact⟨_,_,O,.inl ⟨by rw[i.M];decide,by rw[i.M]⟩⟩
 |true=>
 rw[j]at s;cases p:c.all cG with
 |false=>rw[p]at N;have i:aj (res=1):=⟨kb.M (by rw[j,p];rfl)⟩;clear j p k c4 S;refine bF @wR @bC ?_;exact⟨_,_,O,.inl ⟨by rw[i.M];decide,by rw[i.M]⟩⟩
 |true=>
 rw[p]at N;by_cases h3:(F c:Int)=(cr U:Nat)-1;rotate_left 1
 .have d3:decide ((F c:Int)=((cr U:Nat):Int)-1)=au:=cR h3;have i:aj (res=1):=⟨kb.M (by rw[j,p,d3];rfl)⟩;clear j p h3 k S;refine bF @wR @bC ?_;exact⟨_,_,O,.inl ⟨by rw[i.M];decide,by rw[i.M]⟩⟩
 have d3:decide ((F c:Int)=((cr U:Nat):Int)-1)=aa:=cD h3;have i:aj (res=0):=⟨kg.M (by rw[j,p,d3];rfl)⟩;have nX:F (A::c)=cr U:=by simp;omega
 obtain⟨w1,w2,w3,w4⟩:=kok.M k;have kw:=aj.mk w3;have ks:=aj.mk nX;rw[List.singleton_append]at kx;obtain⟨z6,z5,xs,rfl,hs,fF,jS⟩:=kx.M.1;obtain⟨kz,K,rfl,hJ⟩:=kx.M.2;have kk:=aj.mk (ar hs (ar jS hJ));have akW:K=1:=hJ cE;subst akW;have u23:=dp;have u22:=gZ;have u36:=Hu;have z23:=iA;have z3:=fa;have e_:F (xs.map λa=>[a])=F U:=by rw[bJ];exact fF
 have u':=db (A::c);clear hs jS hJ w1 w3 w4 j p h3 k nX kok kb kg;generalize hS:A::c=f at *
 refine dA @wR @bC @dN ?_;refine bM.gen λg d t fM eS=>?_;have f6:g.get 6=.ac .nil 0 []:=by rw[d];exact gS
 have f7:g.get 7=.ac .nil 0 []:=by rw[d];exact gS
 have f10:g.get 10=.ac kz 1 (aF f):=by rw[d];exact gS
 have f45:g.get 45=.ac z6 z5 (xs.map λa=>[a]):=by rw[d];exact gS
 have f46:g.get 46=(F U:Nat):=by rw[d];exact gS
 have f47:g.get 47=(0:Nat):=by rw[d];exact gR
 have Z:g.defers=[]:=by rw[t];exact gS
 clear d t fM eS c1 s N c4 S l0 l1 bl blt hw d3 lz;refine cJ (λz4 e z1=>∃(q:Nat) (z0:Tok) (K:Nat),q<=F U/\z4=F U-q/\aj (Gr h z1 z0)/\aj (K=2∨(bY ((fA U f).take q)=[]/\z0=.nil))/\e.get 6=.ac z0 K (bY ((fA U f).take q))/\e.get 7=.ac .nil 0 []/\e.get 10=.ac kz 1 (aF f)/\e.get 45=.ac z6 z5 (xs.map λa=>[a])/\e.get 46=(F U:Nat)/\e.get 47=(q:Nat)/\e.defers=[]) ?_ (F U) _ _ ?_;rotate_left 1
 .exact⟨0,.nil,0,cC _,O,⟨Gr.nil (.push _ _) fR⟩,⟨.inr ⟨O,O⟩⟩,f6,f7,f10,f45,f46,f47,Z⟩
 clear f6 f7 f10 f45 f46 f47 Z;rintro z4 e z1 ⟨q,z0,K,hi,rfl,u,ksz,g6,g7,g10,g45,g46,g47,hd⟩;by_cases dD:q<F U
 .have eM:z5=1:=kk.M.1 (by intro m;rw[m]at dD;simp at dD);subst eM;obtain⟨a,zR⟩:∃a,xs[q]?=J a:=⟨_,aY af⟩;obtain⟨r,D⟩:∃r,U[q]?=J r:=⟨_,aY dD⟩;have ld:=jc (H:=z1) (s:=1) zR;have Fx:=kk.M.2.1 q a r zR D;have Oy:=kw.M r (dy D);have c6:=av6 a (.ac kz 1 (aF f)) r f Fx ⟨_,_,O,λ_=>rfl⟩ af (by have:=ks.M;omega);have gG:(q:Int)<(F U:Int):=by omega
  have ap:=HB (T:=72) (r:=bI (((q:Nat):Int),lj r f)) u36 OV bm (by unfold bY;rw[bJ,dJ];omega) ksz.M u.M.2.2;have kG2:=aj.mk u.M.app;have e9:bY ((fA U f).take q)++[bI (((q:Nat):Int),lj r f)]=bY ((fA U f).take (q+1)):=by rw[ga (MV D)];unfold bY;simp
  rw[e9]at ap;clear zR D Fx Oy e9;generalize lj r f=dv at *
  unfold im bI at *
  refine cg @wR @bj @Tu @TE ?_;exact⟨F U-(q+1),by omega,q+1,_,2,by omega,O,kG2,⟨.inl O⟩,by simp⟩
 have gq:q=F U:=by omega
 subst gq;rw[fK (by rw[EF];exact bh _)]at g6 ksz;have kX:=aj.mk u.M.1;have ko:=aj.mk u.M.2.1;clear u;refine bD @wR ?_;refine bM.gen λg d t fM eS=>?_;have f6:g.get 6=.ac z0 K (bY (fA U f)):=by rw[d];simp only[gW,reduceIte,aT,aN];exact g6
 have f7:g.get 7=.ac .nil 0 []:=by rw[d];simp only[gW,reduceIte,aT,aN];exact g7
 have f61:g.get 61=.ac kz 1 (aF f):=by rw[d];exact gS
 have f62:g.get 62=(F f:Nat):=by rw[d];exact gS
 have f63:g.get 63=(0:Nat):=by rw[d];exact gR
 have Z:g.defers=[]:=by rw[t];simp only[gW,reduceIte,aT,aN];exact hd
 clear d t fM eS g6 g7 g10 g45 g46 g47 hd;have hSl:F f<=1001:=by rw[<-hS];simp;omega
 have e4:lm 4=0:=by unfold lm;rw[aH tv]
 clear hS;have fw:F (bU f)=F f:=by unfold bU;simp
 refine cJ (λz4 e H2=>∃(o:Nat) (t2:Tok) (sz2:Nat),o<=F f/\z4=F f-o/\aj (Gr h H2 t2)/\aj (sz2=1∨((bU f).take o=[]/\t2=.nil))/\e.get 6=.ac z0 K (bY (fA U f))/\e.get 7=.ac t2 sz2 (aF ((bU f).take o))/\e.get 61=.ac kz 1 (aF f)/\e.get 62=(F f:Nat)/\e.get 63=(o:Nat)/\e.defers=[]) ?_ (F f) _ _ ?_;rotate_left 1
 .exact⟨0,.nil,0,cC _,O,⟨Gr.nil kX.M ko.M⟩,⟨.inr ⟨O,O⟩⟩,f6,f7,f61,f62,f63,Z⟩
 clear f6 f7 f61 f62 f63 Z;rintro z4 e H2 ⟨o,t2,sz2,hj,rfl,u,H,g6,g7,g61,g62,g63,hd⟩;by_cases v:o<F f
 .have ld:=eI (H:=H2) (l:=f) (i:=o) (s:=1) v;have s:=Iq 4 (al f o);rw[e4,tD tv]at s;have hG:(4:Int).toNat=Gn:=rfl;rw[hG]at s;have gG:(o:Int)<(F f:Int):=by omega
  have D:(bU f)[o]?=J ((cN Gn (al f o):Nat):Int):=by unfold bU;rw[eF,aY v,fL v];rfl
  have ap:=vY (x:=((cN Gn (al f o):Nat):Int)) (es:=(bU f).take o) (by rw[dJ];omega) H.M u.M.2.2;have kG2:=aj.mk u.M.app;rw[<-ga D]at ap;have bl:=p_ ((cN Gn (al f o):Nat):Int);clear D hG;generalize ((cN Gn (al f o):Nat):Int)=pv at *
  generalize al f o=sj at *
  unfold im at *
  refine bF @wR @bj ?_;exact⟨F f-(o+1),by omega,o+1,_,1,by omega,O,kG2,⟨.inl O⟩,by simp⟩
 .have oJ:o=F f:=by omega
  subst oJ;rw[fK af]at g7 H;refine bD @wR ?_;refine⟨_,_,O,.inr ⟨i.M,_,_,_,_,O,λm=>?_,?_⟩⟩
  .rcases ksz.M with z|⟨z,-⟩
   .exact z
   .exact absurd (Be.1 z) m
  .rcases H.M with z|⟨z,-⟩
   .exact z
   .exfalso;have j:=ks.M;have p:F (bU f)=0:=(by rw[z];rfl);omega
def bB(p:Pr):List V:=[((p.bN:Int):V),((p.no:Int):V),((p.d:Int):V),((p.e:Int):V)]
def DL:(gp ag 46).bind V.bP=J (bB ⟨0,0,0,0⟩):=aB
def vD:cQ ag 46=J 4:=aB
def Tb:f' ag 46=J aa:=aB
def DH{H:ah}(p):b9 ag (H.push (bB ⟨0,0,0,0⟩)) 46 (.ptr (.box (F H.I)) 0) (.agg (bB p))=J (H.push (bB p)):=j3 O vD O rfl
def wB{H}{b}{p}(c:H.I[b]?=J (bB p)):aL ag Gt H 46 (.ptr (.box b) 0)=J (.agg (bB p)):=by rw[fS Tb vD c (bh 4)];rfl
def KK(n:Int):List V:=[.v (.int .u32 n)]
def UL(x:V)(l:List Int):Prop:=(∃d c,x=.ac d c (l.map KK)/\(l≠[]->c=1))/\∀n∈l,0<=n/\n<4294967296
def ys(ae am:List Int)(p:Int × Int):List (Int × Int):=(am.filter λn=>decide (n=al ae p.1.toNat)).map λ_=>p
def oQ(ae am:List Int)(l:List (Int × Int)):List (Int × Int):=l.flatMap (ys ae am)
def aoc{ae am}{l:List (Int × Int)}{i}{p}(h:l[i]?=some p):oQ ae am (l.take (i+1))=oQ ae am (l.take i)++ys ae am p:=by unfold oQ;rw[ga h,List.flatMap_append];simp
def ao5(ae am)(p):F (ys ae am p)<=F am:=by unfold ys;rw[bJ];exact Bc _ _
def PP(ae am):∀l:List (Int × Int),F (oQ ae am l)<=F l*F am
 | []=>by simp[oQ]
 |p::l=>by
  have c:=ao5 ae am p;have d:=PP ae am l;unfold oQ at *
  rw[List.flatMap_cons,de,eZ,jm];omega
def ams{H}{l}{i s}{p}(h:l[i]?=J p):aL ag Gt H 3 (.elem s (bY l) i 0)=J ((p.1:Int):V):=by rw[ru eH (row:=bI p) (by unfold bY;rw[eF,h];rfl)];rfl
def amt{H}{l}{i s}{p}(h:l[i]?=J p):aL ag Gt H 3 (.elem s (bY l) i 1)=J ((p.2:Int):V):=by rw[ru eH (row:=bI p) (by unfold bY;rw[eF,h];rfl)];rfl
def Ta:f' ag 110=J aa:=aB
def GH:cQ ag 110=J 2:=aB
def Ym{H}{l}{i s}{p}(h:l[i]?=J p):aL ag Gt H 110 (.elem s (bY l) i 0)=J (.agg [((p.1:Int):V),((p.2:Int):V)]):=by rw[CO Ta GH (row:=bI p) (by unfold bY;rw[eF,h];rfl) (bh 2)];rfl
def xM{sz i}{es}:eo ag 110 (.elem sz es i 0) 0=J (.elem sz es i 0):=aB
def U4{sz i}{es}:eo ag 110 (.elem sz es i 0) 1=J (.elem sz es i 1):=aB
def sH(l):F (bY l)=F l:=bJ _
def aaS(l)(p):bY l++[bI p]=bY (l++[p]):=by unfold bY;simp
def Ka:Tryz.f154.results.toList=[.tmp 4]:=aB
def Qx:Tryz.f151.results.toList=[.tmp 4]:=aB
def cL(l:List Pr):List (List V):=l.map bB
def C5(l):F (cL l)=F l:=bJ _
def PL(x:V)(l:List Pr):Prop:=∃d c,x=.ac d c (cL l)/\(l≠[]->c=4)
def vm{H}{l}{i s}{p}(h:l[i]?=J p):aL ag Gt H 46 (.elem s (cL l) i 0)=J (.agg (bB p)):=by rw[CO Tb vD (row:=bB p) (by unfold cL;rw[eF,h];rfl) (bh 4)];rfl
def PL.dw{x}{l}(h:PL x l):dw ag 32 x=J ((F l:Nat):V):=by obtain⟨d,f,rfl,-⟩:=h;have c:=xv;unfold Go.AE.dw;rw[c];simp only[C5]
def alh(g:a_)(ba:List V)(p:Pr->Bool)(h:ah)(x:V)(l:List Pr)(hx:PL x l)(hl:F l<=1000000)
 (hp:∀q∈l,∀H,Ext h H->∃H',W5.call g (.agg (bB q)::ba) H=J (.ret (.v (.bool (p q))),H')/\Ext H H'):
 ∃r h',W5.call 154 [x,.func (.func g) [] ba] h=J (r,h')/\Ext h h'/\((l.find? p=aq/\r=.ret (im (-1)))∨∃(i:Nat) (q:Pr),r=.ret (im (i:Nat))/\l[i]?=J q/\l.find? p=J q):=by
 obtain⟨z0,E,rfl,t⟩:=hx;have w:=aj.mk (ar hp t);clear hp t;have S:=xv;have Z:=vD;have K:=C5 l;unfold im;refine cA O Tryz.func154 O ?_;refine bD @Ka ?_;refine cJ (λN e H=>∃i:Nat,i<=F l/\N=F l-i/\aj ((l.take i).find? p=aq)/\aj (Ext h H)/\e.get 0=.ac z0 E (cL l)/\e.get 1=.func (.func g) [] ba/\e.get 7=(F l:Nat)/\e.get 8=(i:Nat)/\e.defers=[]) ?_ (F l) _ _ ?_;rotate_left 1
 .refine⟨0,cC _,O,⟨O⟩,⟨.refl _⟩,?_,?_,?_,?_,?_⟩<;>exact gR
 rintro N e H ⟨i,hi,rfl,o,m,g0,g1,g7,g8,hd⟩;by_cases d:i<F l
 .have u:E=4:=w.M.2 (by intro q;rw[q]at d;simp at d);subst u;obtain⟨q,f⟩:∃q,l[i]?=J q:=⟨_,aY d⟩;have ld:=vm (H:=H) (s:=4) f;obtain⟨H',hc,s⟩:=w.M.1 q (dy f) H m.M;have k:=aj.mk (m.M.trans s);have A:(i:Int)<(F l:Int):=by omega
  have y:=aj.mk f;have D:=aj.mk (ga f);clear s f;cases c:p q with
  |true=>rw[c]at hc;have j:l.find? p=J q:=(by have e:l=l.take i++q::l.drop (i+1):=(by rw[<-List.getElem_of_getElem? y.M|>.2];simp);rw[e,acs,o.M,List.find?_cons_of_pos c];rfl);have B:=aj.mk j;clear j c;refine dA @Ka @bj @eY.{0} ?_;exact⟨_,_,O,k.M,.inr ⟨i,q,O,y.M,B.M⟩⟩
  |false=>rw[c]at hc;have z:aj ((l.take (i+1)).find? p=aq):=⟨by rw[D.M,acs,o.M];simp[c]⟩;clear c;refine dA @Ka @bj @eY.{0} ?_;exact⟨F l-(i+1),by omega,i+1,by omega,O,z,by first|exact k|trivial,by simp⟩
 .have:i=F l:=by omega
  subst this;have:=o.M;rw[gy]at this;have v:=aj.mk this;clear this;refine bD @Ka ?_;exact⟨_,_,O,m.M,.inl ⟨v.M,O⟩⟩
def ai0{a b}(c:elem a=aa)(d:elem b=aa):oI ((a:Nat):Int) ((b:Nat):Int)=((a*b%P:Nat):Int):=by rw[ES (xG c) (xG d),fe,fe]
def Qg{α:Type}{f:α->Nat}:∀{l:List α} (_:∀p∈l,elem (f p)=aa) {k:Nat} (_:elem k=aa),elem (l.foldl (λx p=>x*f p%P) k)=aa
 | [],_,_,c=>c
 |a::l,h,k,c=>Qg (l:=l) (λp hp=>h p (gr _ hp)) (EJ c (h a gt))
def apH(g:a_)(first ba:List V)(f:Pr->Nat)(h:ah)(x:V)(l:List Pr)(hx:PL x l)(hl:F l<=1000000)(v:∀q∈l,elem (f q)=aa)
 (hp:∀q∈l,∀H,Ext h H->∃H',W5.call g (first++[.agg (bB q)]++ba) H=J (.ret (im (f q:Nat)),H')/\Ext H H'):
 ∃r h',W5.call 151 [x,.func (.func g) first ba] h=J (r,h')/\Ext h h'/\r=.ret (im ((l.foldl (λx q=>x*f q%P) 1:Nat):Int)):=by
 obtain⟨z1,K,rfl,w⟩:=hx;have j:=aj.mk (ar hp (ar w v));clear hp w v;have u29:=xv;have z85:=vD;have zc:=DL;have Z:=C5 l;unfold im;refine cA O Tryz.func151 O ?_;refine bD @Qx ?_;refine cJ (λz0 e H=>∃c:Nat,c<=F l/\z0=F l-c/\aj (Ext h H)/\e.get 1=.func (.func g) first ba/\e.get 5=((l.take c).foldl (λx q=>x*f q%P) 1:Nat)/\e.get 8=.ac z1 K (cL l)/\e.get 9=(F l:Nat)/\e.get 10=(c:Nat)/\e.defers=[]) ?_ (F l) _ _ ?_;rotate_left 1
 .refine⟨0,cC _,O,⟨.refl _⟩,?_,?_,?_,?_,?_,?_⟩<;>exact gR
 rintro z0 e H ⟨c,hi,rfl,p,g1,B,g8,g9,S,hd⟩;by_cases i:c<F l
 .have y:K=4:=j.M.2.1 (by intro q;rw[q]at i;simp at i);subst y;obtain⟨q,m⟩:∃q,l[c]?=J q:=⟨_,aY i⟩;have k:=dy m;have ld:=vm (H:=H) (s:=4) m;have st:=DH (H:=H) q;have l2:=wB (aU H (bB q));obtain⟨H',hc,u⟩:=j.M.1 q k (H.push (bB q)) (p.M.trans (.push _ _));have z:=aj.mk ((p.M.trans (.push H (bB q))).trans u);have D:(c:Int)<(F l:Int):=by omega
  have d:elem ((l.take c).foldl (λx q=>x*f q%P) 1)=aa:=Qg (λz2 hp=>j.M.2.2 z2 (List.mem_of_mem_take hp)) HZ;have A:=Ip (((l.take c).foldl (λx q=>x*f q%P) 1:Nat):Int) ((f q:Nat):Int);have s:tC (((l.take c).foldl (λx q=>x*f q%P) 1:Nat):Int) ((f q:Nat):Int)=0:=by unfold tC;rw[aH ⟨xG d,xG (j.M.2.2 q k)⟩]
  have t:(l.take c).foldl (λx q=>x*f q%P) 1*f q%P=(l.take (c+1)).foldl (λx q=>x*f q%P) 1:=by rw[ga m,ot];rfl
  rw[ai0 d (j.M.2.2 q k),s,t]at A;clear u m s t d k;generalize (l.take c).foldl (λx q=>x*f q%P) 1=N at *
  generalize o:(l.take (c+1)).foldl (λx q=>x*f q%P) 1=adE at *
  have E:=aj.mk o;clear o;generalize f q=fq at *
  unfold im at *
  refine dA @Qx @bj @eY.{0} ?_;exact⟨F l-(c+1),by omega,c+1,by omega,O,by first|exact z|trivial,by simp[E.M]⟩
 .have:c=F l:=by omega
  subst this;rw[gy]at B;refine bD @Qx ?_;exact⟨_,_,O,p.M,O⟩
def yx:Tryz.f149.results.toList=[.tmp 2]:=aB
def asG:Tryz.f217.results.toList=[.tmp 2]:=aB
def aaz:Tryz.f83.results.toList=[.tmp 4]:=aB
def Kk:Tryz.f152.results.toList=[.tmp 4]:=aB
def rL{b}:eo ag 27 (.ptr (.box b) 0) 0=J (.ptr (.box b) 0):=aB
def iM{b}:eo ag 27 (.ptr (.box b) 0) 1=J (.ptr (.box b) 1):=aB
def jF{b}:eo ag 27 (.ptr (.box b) 0) 2=J (.ptr (.box b) 3):=aB
def xL{b}:eo ag 25 (.ptr (.box b) 1) 0=J (.ptr (.box b) 1):=aB
def aio{b}:eo ag 25 (.ptr (.box b) 1) 1=J (.ptr (.box b) 2):=aB
def qm:(∀b,eo ag 132 (.ptr (.box b) 0) 0=J (.ptr (.box b) 0))/\(∀b,eo ag 132 (.ptr (.box b) 0) 1=J (.ptr (.box b) 4))/\(∀b,eo ag 132 (.ptr (.box b) 0) 2=J (.ptr (.box b) 5))/\(∀b,eo ag 132 (.ptr (.box b) 0) 3=J (.ptr (.box b) 6))/\
 (∀b,eo ag 132 (.ptr (.box b) 0) 4=J (.ptr (.box b) 7))/\(∀b,eo ag 132 (.ptr (.box b) 0) 5=J (.ptr (.box b) 11))/\∀b,eo ag 132 (.ptr (.box b) 0) 6=J (.ptr (.box b) 12):=
 ⟨λ_=>aB,λ_=>aB,λ_=>aB,λ_=>aB,λ_=>aB,λ_=>aB,λ_=>aB⟩
def U3{b}:eo ag 118 (.ptr (.box b) 7) 3=J (.ptr (.box b) 10):=aB
def jp:(∀b,eo ag 46 (.ptr (.box b) 0) 0=J (.ptr (.box b) 0))/\(∀b,eo ag 46 (.ptr (.box b) 0) 1=J (.ptr (.box b) 1))/\(∀b,eo ag 46 (.ptr (.box b) 0) 2=J (.ptr (.box b) 2))/\∀b,eo ag 46 (.ptr (.box b) 0) 3=J (.ptr (.box b) 3):=
 ⟨λ_=>aB,λ_=>aB,λ_=>aB,λ_=>aB⟩
def eu{H}{t}{b j}{cs}{x}(c:f' ag t=J au)(d:H.I[b]?=J cs)(f:cs[j]?=J x):aL ag Gt H t (.ptr (.box b) j)=J x:=by rw[fx c d,List.head?_drop,f]
def ad3:f' ag 60=J au:=aB
def S9:f' ag 32=J au:=aB
def Bp:f' ag 121=J au:=aB
def aJ(ep:Int)(X Y C:V):List V:=[((ep:Int):V),X,Y,C]
def gO(ep:Int)(X Y C T L d c:V)(g f:Int):List V:=[((ep:Int):V),X,Y,C,T,L,d,.v (.int .i64 3),.v (.int .i64 0),sv [],c,((g:Int):V),((f:Int):V)]
def iI(U:List (List Int))(ep:Int)(av:List Int):Bool:=decide (0<=ep)&&decide (ep<=64)&&decide (F av=cr U)&&av.all cq
def awy(n)(h):W5.call 217 [im n] h=J (.ret (.v (.bool (!cq n))),h):=by
 have c:=GQ n;unfold im at *
 refine da O Tryz.func217 O ?_;exact iU @asG
def mD{ep}{X Y C}{U}{ae av}(hx:RL X U)(E:IL Y ae)(hc:IL C av):(V.agg (aJ ep X Y C)).bP=J (aJ ep X Y C):=by obtain⟨j,k,i,rfl,-⟩:=hx.form;obtain⟨d,g,rfl,-⟩:=E;obtain⟨c,f,rfl,-⟩:=hc;rfl
def aqY(h:ah)(ep:Int)(X Y C:V)(U:List (List Int))(ae av:List Int)(hx:RL X U)(E:IL Y ae)(hc:IL C av)(hl:F av<=1000000):
 ∃r h',W5.call 149 [.agg (aJ ep X Y C)] h=J (r,h')/\h'=h.push (aJ ep X Y C)/\r=.ret (.v (.bool (iI U ep av))):=by
 have bx:=mD (ep:=ep) hx E hc;have u:=aU h (aJ ep X Y C);have l0:aL ag Gt (h.push (aJ ep X Y C)) 3 (.ptr (.box (F h.I)) 0)=J ((ep:Int):V):=eu eH u O;have l1:aL ag Gt (h.push (aJ ep X Y C)) 22 (.ptr (.box (F h.I)) 1)=J X:=eu Ml u O;have l3:aL ag Gt (h.push (aJ ep X Y C)) 23 (.ptr (.box (F h.I)) 3)=J C:=eu mV u O;have ln:=hx.dw;have lc:=hc.dw;have p:=HU (pr:=Da) O O 217 [] (λn=> !cq n) (h.push (aJ ep X Y C)) C av hc hl (λn _=>awy n _);rw[Tf]at p;have A:aj (iI U ep av=(decide (0<=ep)&&decide (ep<=64)&&decide (F av=cr U)&&av.all cq)):=⟨O⟩;generalize iI U ep av=res at *
 obtain⟨z3,z2,B,rfl,K,S,w⟩:=hx;have Z:=aj.mk (ar K w);have u23:=dp;have u22:=gZ;have z23:=iA;have e_:F (B.map λa=>[a])=F U:=by rw[bJ];exact S
 clear K w hc E u;have j:aj (F U=0->cr U=1):=⟨λy=>by unfold cr;rw[aH y]⟩;have g:aj (∀o,U[0]?=J o->cr U=F o):=⟨λo y=>by unfold cr;rw[aV (by have:=(bk.1 y).1;omega),fg,y];rfl⟩;refine cA O Tryz.func149 O ?_;have v:∀n:Nat,cr U=n->aj (res=(decide (0<=ep)&&decide (ep<=64)&&decide (F av=n)&&av.all cq)):=λn y=>⟨by rw[A.M,y]⟩;have m:=aj.mk v;clear v;rcases Nat.eq_zero_or_pos (F U) with s|s
 .have hq:¬((0:Int)<(F U:Int)):=by omega
  have k:=m.M _ (j.M s);clear s;clear j g m A;by_cases d:0<=ep;rotate_left 1
  .have d1:decide (0<=ep)=au:=cR d;have c:aj (res=au):=⟨by rw[k.M,d1];rfl⟩;clear d p;refine cg @yx @bC @rL (ar @iM (ar @jF (ar @xL @bj))) ?_;exact⟨_,_,O,O,by rw[c.M]⟩
  have d1:decide (0<=ep)=aa:=cD d;by_cases f:ep<=64;rotate_left 1
  .have d2:decide (ep<=64)=au:=cR f;have c:aj (res=au):=⟨by rw[k.M,d2];simp⟩;clear d f p;refine cg @yx @bC @rL (ar @iM (ar @jF (ar @xL @bj))) ?_;exact⟨_,_,O,O,by rw[c.M]⟩
  have d2:decide (ep<=64)=aa:=cD f;by_cases i:F av=1;rotate_left 1
  .have d3:decide ((F av:Int)=1)=au:=cR af;have c:aj (res=au):=⟨by rw[k.M,cR i];simp⟩;clear d f i p;refine cg @yx @bC @rL (ar @iM (ar @jF (ar @xL @bj))) ?_;exact⟨_,_,O,O,by rw[c.M]⟩
  have d3:decide ((F av:Int)=1)=aa:=cD af;have c:aj (res=av.all cq):=⟨by rw[k.M,d1,d2,cD i];rfl⟩;have D:(!!av.all cq)=av.all cq:=by simp
  clear d f i;refine cg @yx @bC @rL (ar @iM (ar @jF (ar @xL @bj))) ?_;exact⟨_,_,O,O,by rw[c.M]⟩
 .have hq:((0:Int)<(F U:Int)):=by omega
  have N:z2=1:=Z.M.1 (by intro y;rw[y]at s;simp at s);subst N;obtain⟨a0,q⟩:∃a,B[0]?=J a:=⟨_,aY af⟩;obtain⟨o,t⟩:∃r,U[0]?=J r:=⟨_,aY af⟩;have ld0:=jc (H:=h.push (aJ ep (.ac z3 1 (B.map λa=>[a])) Y C)) (s:=1) q;obtain⟨ka0,sa0,rfl,z⟩:=Z.M.2 0 a0 o q t;have k:=m.M _ (g.M o t);have mX:=db o;have z0:(0:Int).toNat=0:=rfl;generalize F o=z1 at *
  clear q t z s;clear j g m A;by_cases d:0<=ep;rotate_left 1
  .have d1:decide (0<=ep)=au:=cR d;have c:aj (res=au):=⟨by rw[k.M,d1];rfl⟩;clear d p;refine cg @yx @bC @rL (ar @iM (ar @jF (ar @xL @bj))) ?_;exact⟨_,_,O,O,by rw[c.M]⟩
  have d1:decide (0<=ep)=aa:=cD d;by_cases f:ep<=64;rotate_left 1
  .have d2:decide (ep<=64)=au:=cR f;have c:aj (res=au):=⟨by rw[k.M,d2];simp⟩;clear d f p;refine cg @yx @bC @rL (ar @iM (ar @jF (ar @xL @bj))) ?_;exact⟨_,_,O,O,by rw[c.M]⟩
  have d2:decide (ep<=64)=aa:=cD f;by_cases i:F av=z1;rotate_left 1
  .have d3:decide ((F av:Int)=(z1:Int))=au:=cR af;have c:aj (res=au):=⟨by rw[k.M,cR i];simp⟩;clear d f i p;refine cg @yx @bC @rL (ar @iM (ar @jF (ar @xL @bj))) ?_;exact⟨_,_,O,O,by rw[c.M]⟩
  have d3:decide ((F av:Int)=(z1:Int))=aa:=cD af;have c:aj (res=av.all cq):=⟨by rw[k.M,d1,d2,cD i];rfl⟩;have D:(!!av.all cq)=av.all cq:=by simp
  clear d f i;refine cg @yx @bC @rL (ar @iM (ar @jF (ar @xL @bj))) ?_;exact⟨_,_,O,O,by rw[c.M]⟩
structure uE(H:ah)(c:Nat)(ep:Int)(X Y C T L Wt:V)(pt ch:Int)(av:List Int)(aC:List UInt8)(l:List Pr):Prop where
 rx:∃(b:Nat) (U:List (List V)),H.I[c]?=J (gO ep X Y C T L Wt (.arr b 0 U.length U.length) pt ch)/\H.I[b]?=J U.flatten/\gB (l.map Pr.val) U
 MS:IL C av
 pos:0<av.length
 c0:0<=al av 0/\al av 0<=4611686018427387903
 wX:∃kt st,T=.ac kt st (bW aC)/\(aC≠[]->st=1)
 tl:aC.length<=65536
 ll:l.length<=64
def uE.mono{H H'}{c}{ep}{X Y C T L d}{g f}{av}{aC}{l}(w:uE H c ep X Y C T L d g f av aC l)(x:Ext H H'):uE H' c ep X Y C T L d g f av aC l:=by obtain⟨b,U,i,j,k⟩:=w.rx;exact⟨⟨b,U,x.box _ _ i,x.box _ _ j,k⟩,w.MS,w.pos,w.c0,w.wX,w.tl,w.ll⟩
def awv(l:List Pr):gF (l.map Pr.val)<=1:=by
 induction l with
 |nil=>simp[gF]|cons d l c=>
  rw[dR,gF];have:gf d.val=1:=by simp[Pr.val,gf,gF]
  omega
def aww(p:Pr):F (cH p.val)<=100:=by
 have c:=iK 9 (0+1+1+1+1);have d:=iK 9 (iE p.bN);have f:=iK 9 (iE p.no);have g:=iK 9 (iE p.d);have i:=iK 9 (iE p.e);simp only[Pr.val,cH,gK,eZ,de,gi]at *
 omega
def abJ:∀l:List Pr,F (gK (l.map Pr.val))<=F l*100
 | []=>by simp[gK]
 |p::l=>by have c:=aww p;have d:=abJ l;rw[dR,gK,de,eZ,jm];omega
def afm(c0)(aC)(l)(k):F (cH (.ac [.int c0,.aC aC,C7 l,.int k]))<=100+F aC+F l*100:=by
 have c:=iK 9 (0+1+1+1+1);have d:=iK 9 (iE c0);have f:=iK 9 (F aC);have g:=iK 9 (iE k);have i:=iK 9 (F (l.map Pr.val));have j:=abJ l;simp only[C7,cH,gK,eZ,de,gi]at *
 omega
def MA(t u v w)(x y z q):fC ag 177 4 [(0,.iface t x),(1,.iface u y),(2,.iface v z),(3,.iface w q)]=J (.ac .aP 1 [[.iface t x],[.iface u y],[.iface v z],[.iface w q]]):=aB
def Mx(H:ah)(c:Nat)(ep:Int)(X Y C T L A:V)(Z E:Int)(av:List Int)(aC:List UInt8)(l:List Pr)(w:uE H c ep X Y C T L A Z E av aC l)(q:Pr)(N:0<=q.bN/\q.bN<=4611686018427387903):
 ∃r H',W5.call 83 [.ptr (.box c) 0,.agg (bB q)] H=J (r,H')/\H'=H.push (bB q)/\r=.ret (im ((gJ (al av 0) aC l q.bN:Nat):Int)):=by
 have y:=w.mono (.push H (bB q));obtain⟨b,U,f,v,m⟩:=y.rx;obtain⟨S,sc,rfl,j⟩:=w.MS;obtain⟨t,st,rfl,k⟩:=w.wX;have d:=w.pos;have p:sc=1:=j (by intro e;rw[e]at d;simp at d);subst p;have gU:F U<=64:=by have:=m.1;rw[bJ]at this;have:=w.ll;omega
 have B:=afm (al av 0) aC l q.bN;have K:=awv l;have o:=V9 (H.push (bB q)) Kq .aP 1 [.iface 3 ((al av 0:Int):V),.iface 60 (.ac t st (bW aC)),.iface 118 (.agg (im 3::im 0::sv []::[.arr b 0 (F U) (F U)])),.iface 3 ((q.bN:Int):V)] [.int (al av 0),.aC aC,C7 l,.int q.bN]
  (.cons (.int _ w.c0) (.cons (.aC t st aC k (by have:=w.tl;omega)) (.cons (.ac v m af) (.cons (.int _ N) .nil)))) (λ_=>rfl) cE bm (by simp[C7,gf,gF];omega) (by have:=w.tl;have:=w.ll;omega)
 have g:q_ Kq (.ac [.int (al av 0),.aC aC,C7 l,.int q.bN])=gJ (al av 0) aC l q.bN:=rfl;rw[g]at o;rw[show Kq=[98,105,110,100] from O]at o;generalize gJ (al av 0) aC l q.bN=bn at *
 have u:=aU H (bB q);have l0:aL ag Gt (H.push (bB q)) 3 (.ptr (.box (F H.I)) 0)=J ((q.bN:Int):V):=eu eH u O;have l1:aL ag Gt (H.push (bB q)) 23 (.ptr (.box c) 3)=J (.ac S 1 (aF av)):=eu mV f O;have l2:aL ag Gt (H.push (bB q)) 60 (.ptr (.box c) 4)=J (.ac t st (bW aC)):=eu ad3 f O;have l3:aL ag Gt (H.push (bB q)) 118 (.ptr (.box c) 7)=J (.agg [im 3,im 0,sv [],.arr b 0 (F U) (F U)]):=by rw[fS Mn nP f (lQ O)];rfl
 have l4:=eI (H:=H.push (bB q)) (l:=av) (i:=0) (s:=1) d;have bc:(V.agg (bB q)).bP=J (bB q):=rfl;have e_:=db av;have u23:=dp;have z3:=fa;have z:(0:Int)<(F av:Int):=by omega
 have z0:(0:Int).toNat=0:=rfl;simp only[dR,sV]at o;clear w y f v m j k g B K u d;generalize al av 0=c0 at *
 unfold im at *
 refine cA O Tryz.func83 O ?_;refine bF @aaz @bC ?_;refine dW k_ aB ?_;refine cg @aaz @qm @jF (ar @jp (ar @bj (ar @FK (ar @OT (ar @ala @MA))))) ?_;exact⟨_,_,O,O,O⟩
def afn(c0)(aC)(l)(k):okF ((gJ c0 aC l k:Nat):Int):=V' _ _
def anU(H:ah)(c:Nat)(ep:Int)(X Y C T L g:V)(m i:Int)(av:List Int)(aC:List UInt8)(l:List Pr)(w:uE H c ep X Y C T L g m i av aC l)(q:Pr)(u:0<=q.bN/\q.bN<=4611686018427387903)(t:cq q.d=aa)(k:cq q.e=aa):
 ∃r H',W5.call 152 [.ptr (.box c) 0,.agg (bB q)] H=J (r,H')/\Ext H H'/\r=.ret (im ((tT (al av 0) aC l q:Nat):Int)):=by
 obtain⟨_,A,D,rfl,rfl⟩:=Mx (H.push (bB q)) c ep X Y C T L g m i av aC l (w.mono (.push _ _)) q u;have s:=afn (al av 0) aC l q.bN;have E:=P7 q.e ((gJ (al av 0) aC l q.bN:Nat):Int);have p:=Ip q.d (eR q.e ((gJ (al av 0) aC l q.bN:Nat):Int));have j:oI q.d (eR q.e ((gJ (al av 0) aC l q.bN:Nat):Int))=((tT (al av 0) aC l q:Nat):Int):=by rw[ES t (v9 k _),tD k];unfold tT;rw[fe];unfold gJ;rw[P6]
 rw[j]at p;generalize tT (al av 0) aC l q=Z at *
 generalize ((gJ (al av 0) aC l q.bN:Nat):Int)=o at *
 generalize eR q.e o=pw at *
 have d:=aU H (bB q);have f:((H.push (bB q)).push (bB q)).I[F H.I]?=J (bB q):=aX d;have K:aL ag Gt (H.push (bB q)) 3 (.ptr (.box (F H.I)) 2)=J ((q.d:Int):V):=eu eH d O;have N:aL ag Gt (H.push (bB q)) 3 (.ptr (.box (F H.I)) 3)=J ((q.e:Int):V):=eu eH d O;have S:=wB d;have y:aL ag Gt ((H.push (bB q)).push (bB q)) 3 (.ptr (.box (F H.I)) 2)=J ((q.d:Int):V):=eu eH f O;have z:aL ag Gt ((H.push (bB q)).push (bB q)) 3 (.ptr (.box (F H.I)) 3)=J ((q.e:Int):V):=eu eH f O;have B:(V.agg (bB q)).bP=J (bB q):=rfl;clear w s j d f;unfold im at *
 refine cA O Tryz.func152 O ?_;refine bF @Kk @bC ?_;refine jY [(1,6),(3,6)] k_ aB (λz0 hp=>?_) ?_
 .simp only[hh,qR,or_false]at hp;rcases hp with rfl|rfl
  .refine jL (x:=.ptr (.box (F H.I)) 2) (v:=((q.d:Int):V)) aB O O O aB (by simp[dh,iz]) ?_ ?_<;>(simp only[dY,dG];exact qn @Kk @jp @and_self)
  .refine jL (x:=.ptr (.box (F H.I)) 3) (v:=((q.e:Int):V)) aB O O O aB (by simp[dh,iz]) ?_ ?_<;>(simp only[dY,dG];exact qn @Kk @jp @and_self)
 refine bF @Kk @jp ?_;exact⟨_,_,O,(Ext.push _ _).trans (Ext.push _ _),O⟩
end Go.Proofs.YtcbhpkjbiehcpaaGreatDoor
end
section
set_option linter.constructorNameAsVariable false
namespace Go.Proofs.YtcbhpkjbiehcpaaGreatDoor
open Go.AE Go.NT
def nb:Tryz.f76.results.toList=[.tmp 6,.tmp 7]:=aB
def xj(H:ah)(c f:Nat)(d:V)(vs:List Vl):Prop:=(vs=[]/\d=.ac .nil 0 [])∨(vs≠[]/\∃(b:Nat) (U:List (List V)),d=.arr b 0 (F U) (F U)/\H.I[b]?=J U.flatten/\gB vs U/\b≠c/\f<=b)
def xj.dw{H}{c f}{d}{vs}(q:xj H c f d vs):dw ag 116 d=J ((F vs:Nat):V):=by
 have g:=mw;unfold Go.AE.dw;rw[g];rcases q with⟨rfl,rfl⟩|⟨-,b,U,rfl,-,i,-⟩
 .rfl
 .simp only[i.1]
def xj.dt{H}{c f}{d}{vs}(q:xj H c f d vs):d.dt=aa:=by rcases q with⟨rfl,rfl⟩|⟨-,b,U,rfl,-⟩<;>rfl
def qN:List V:=aG 0 0 [] .nil 0 []
def gB.four{vs}{U}(h:gB vs U):∀r∈U,F r=4:=λr f=>by obtain⟨g,c⟩:=sS f;have d:=(bk.1 c).1;exact(h.2 g _ r (aY (by rw[<-h.1];exact d)) c).len
def gB.snoc{vs}{U}(h:gB vs U){v}{r}(g:cW v r):gB (vs++[v]) (U++[r]):=by
 refine⟨by simp[h.1],λi k x c hx=>?_⟩;rcases eg i (F U) with d|j
 .rw[rC d]at hx;rw[rC (by rw[<-h.1];exact d)]at c;exact h.2 i k x c hx
 .have:=(bk.1 hx).1;rw[de]at this;have f:i=F U:=by simp at this;omega
  subst f;rw[Ba]at hx;rw[h.1,Ba]at c;injection hx with hx;injection c with c;subst hx;subst c;exact g
def xj.more{u H}{c d}{p}{vs}(q:xj H c d p vs)(hx:Ext u H)(xR:F u.I<=d)(hc:c<F H.I)(s:d<=F H.I)(hl:F vs<1000000){v}{r}(j:cW v r):
 ∃g,ng ag H #[116,116] p (.ac .aP 4 [qN])=J (.arr (F H.I) 0 (F vs+1) (F vs+1),g)/\F g.I=F H.I+1/\g.tn=H.tn/\g.dead=H.dead/\Ext u g/\
  dU ag 116 (.arr (F H.I) 0 (F vs+1) (F vs+1)) ((F vs:Nat):V)=J (.ptr (.box (F H.I)) (F vs*4))/\
  (∀(a:Nat) (cs:List V),H.I[a]?=J cs->(a<d∨a=c)->g.I[a]?=J cs)/\
  ∃cs,b9 ag g 118 (.ptr (.box (F H.I)) (F vs*4)) (.agg r)=J (g.put (F H.I) cs)/\
  ∀o,o.I[F H.I]?=J cs->xj o c d (.arr (F H.I) 0 (F vs+1) (F vs+1)) (vs++[v]):=by
 obtain⟨z0,q1,m,q3,q4⟩:=OW;have N:=kL (af:F vs+1<=1000000) q3;have u94:=mw;have i:=j.len;have t:dU ag 116 (.arr (F H.I) 0 (F vs+1) (F vs+1)) ((F vs:Nat):V)=J (.ptr (.box (F H.I)) (F vs*4)):=by unfold dU;simp only[u94,nP];rw[aH ⟨af,by omega⟩];simp
 rcases q with⟨rfl,rfl⟩|⟨S,b,U,rfl,K,w,y,h4⟩
 .have:=AT (h:=H) (k:=.nil) (sz:=0) (es:=[]) (new:=[qN]) (x:=.ac .aP 4 [qN]) mw mw q1 af (by rw[m];exact q4) cE (by simp;omega) cE (.inr O) (.inl O) (by rw[m];rfl);refine⟨_,this,bV _ _,O,O,hx.trans (.push _ _),t,λa cs A _=>aX A,r,?_,λo y=>.inr ⟨cE,H.I.length,[r],O,by rw[y];simp,gB.snoc (vs:=[]) (U:=[]) ⟨O,λz0 v r q=>by simp at q⟩ j,by omega,s⟩⟩;have D:(H.push ([]++[qN]).flatten).I[F H.I]?=J qN:=aU _ _;exact(fI (off:=0) (cs:=qN) (xs:=r) j.cells nP D i (bh 4)).trans (by rw[vA (by rw[i];rfl)])
 .have B:=nA w.four;have f:=w.1;have E:0<F U:=by rw[f];exact Bd.2 S
  rw[<-f]at N;have:=GJ (h:=H) (b:=b) (len:=U.length) (cs:=U.flatten) (new:=[qN]) (x:=.ac .aP 4 [qN]) mw mw q1 af (by rw[m];exact q4) cE (by simp;omega) (by simp;omega) K E (by rw[m,B]) (by rw[m];rfl);have dD:=(bk.1 K).1;rw[show F U+F [qN]=F vs+1 by simp[f]]at this;refine⟨_,this,by rw[bV,jV],O,O,(hx.gw af _).trans (.push _ _),t,λa cs A Z=>aX ((cS ?_).trans A),(U++[r]).flatten,?_,λo h5=>.inr ⟨cE,H.I.length,U++[r],by simp[f],h5,w.snoc j,by omega,s⟩⟩
  .rcases Z with z|z
   .omega
   .rintro rfl;exact y z
  .have D:((H.put b []).push (U.flatten++[qN].flatten)).I[F H.I]?=J (U.flatten++[qN].flatten):=nB (by rw[jV]);refine(fI (off:=F vs*4) (xs:=r) j.cells nP D i ?_).trans ?_
   .rw[de,B,f];exact bh _
   .have Cv:ej (U.flatten++[qN].flatten) (F vs*4) r=(U++[r]).flatten:=(by unfold ej;rw[i,<-f,<-B,List.take_left' O,oo (by rw[de];exact bh _),iB];simp);rw[Cv]
def anb:∃h',W4.call 150 [.ac .nil 0 []] ⟨[],[],0,[]⟩=J (.ret (.agg (aG 3 0 [] .nil 0 [])),h'):=by obtain⟨j,h',f,-,k,i,U,rfl,-,-,d⟩:=Pp ⟨[],[],0,[]⟩ wG .nil 0 [] [] .nil (λg=>absurd O g) cE (λa c=>by cases c);obtain⟨rfl,rfl,rfl⟩:=d O;rw[sV]at f;exact⟨h',f⟩
def amO:∀h,W5.call 150 [.ac .nil 0 []] h=J (.ret (.agg (aG 3 0 [] .nil 0 [])),h):=by obtain⟨d,c⟩:=anb;exact gV (L:=L5) (u:=[.ac .nil 0 []]) bm (by rw[bE,bE,aA,cK,ef];intro n f;cases f) bm c (by rfl) bm
end Go.Proofs.YtcbhpkjbiehcpaaGreatDoor
end
section
namespace Go.AE
section
variable {P:Program} {G:Nat->Option (List V)} {aS:a_->Option (List V->ah->Option (V × ah))} {Q:Xt->Env->ah->Prop} {e:Env} {h:ah} {L:List a_} {R:Rec}
def aoF{ops:Array Oper}{i n bi bn x1 x2:Nat}{r s:Oper}{t1 t2:TypeId}{k m B D:ck}(y:ops.size-1=n)(c:ops[i]?=J r)(g:r.op=.store t1 k B)(p:ops[n]?=J s)(j:s.op=.store t2 m D)
 (u:cO P G R ops (ops.toList.take i) e h (λq d _=>q=.normal/\d.eval k=.ptr (.box bi) x1))
 (v:cO P G R ops (ops.toList.take n) e h (λq f _=>q=.normal/\f.eval m=.ptr (.box bn) x2)) (K:bi≠bn):qE P G R ops e h i=aa:=by
 subst y;have w:i<ops.size:=(Array.getElem?_eq_some_iff.1 c).1;obtain⟨S,d,E,o,rfl,t⟩:=u;obtain⟨Z,f,H,f1,rfl,f2⟩:=v;rw[<-oR (Nat.le_of_lt w)]at o;rw[<-oR af]at f1;unfold qE;have z:pQ ops i d=J bi:=by unfold pQ;rw[c];simp only[g,t]
 have A:pQ ops (ops.size-1) f=J bn:=by unfold pQ;rw[p];simp only[j,f2]
 simp only[o,f1,z,A];cases N:Nat.beq bi bn with|false=>rfl|true=>simp_all
def atj{id:Nat}{ops:Array Oper}(i:Nat)(p:mN aS L)(hi:Nat.blt i ops.size=aa)(f:C6 ops i=aa)(q:BK (gu ops i (ops.size-1)) (MH P (gu ops i (ops.size-1)) L) []=aa)
 (d:qE P G (whole P G aS) ops e h i=aa) (g:cO P G (whole P G aS) ops ops.toList e h (uJ Q)):bM (whole P G aS) (.region id ops aa) e h Q:=by
 have hi:i<ops.size:=by simpa [Nat.blt_eq] using hi
 have j:=g;obtain⟨t,k,s,m,o⟩:=j;cases t with
 |normal=>
  have c:cB P G (whole P G aS) (gu ops i (ops.size-1)) (bT (gu ops i (ops.size-1)).size) e h=J (.normal,k,s):=by rw[ql,AF,oR (bh _),<-Array.length_toList,gy];exact m
  exact run_draw_stores (stores_of hi f d (Na q (λu r=>Uc p c (rE.1 r).2) (λv hp=>nomatch hp))) g
 |_=>exact o.elim
def asd{Post:Bool->ah->Prop}{H:ah}{l:Nat}{rec:ij}{args:List V}(i:H.aI[l]?=J rec)(m:rec.params.size=F args)(d:rec.state=.ready)(hp:rec.pending=aq)
 (s:bM (whole P G aS) rec.assign (oe l rec args) H (λo f g=>o=.normal/\g=H/\bM (whole P G aS) rec.body f (H.busy l rec) (λo _ c=>c.aI[l]?=J {rec with state:=.busy}/\
  ((o=.normal/\Post aa (c.fV l rec))∨(o=.ret/\Post au (c.fV l {rec with state:=.done,pending:=J .ret})))))):
 ∃b H',(whole P G aS).round l args H=J (.ret (.v (.bool b)),H')/\Post b H':=by
 obtain⟨o,f,g,p,rfl,rfl,u,k,c,q,r,j⟩:=s;have t:{rec with state:=LoopState.ready,pending:=aq}=rec:=by cases rec;cases d;cases hp;rfl
 rcases j with⟨rfl,j⟩|⟨rfl,j⟩
 .refine⟨aa,_,J9 i m ⟨_,f,g,p,O,rec,i,d,.normal,k,c,q,{rec with state:=.busy},r,O,O⟩,?_⟩;show Post aa (c.fV l {rec with state:=LoopState.ready,pending:=aq});simp_all
 .exact⟨au,_,J9 i m ⟨_,f,g,p,O,rec,i,d,.ret,k,c,q,{rec with state:=.busy},r,O,O⟩,j⟩
end
end Go.AE
end
section
namespace Go.Proofs.YtcbhpkjbiehcpaaGreatDoor
open Go.AE Go.NT
def aeV(ep)(i j k m o)(p q r s t)(c e2 d f g):
 iP ag 132 [(0,.agg (aJ ep (.ac i p c) (.ac j q e2) (.ac k r d))),(1,.ac m s f),(2,.ac o t g),(4,.agg (aG 3 0 [] .nil 0 []))]=J (.agg (gO ep (.ac i p c) (.ac j q e2) (.ac k r d) (.ac m s f) (.ac o t g) (.ac .nil 0 []) (.ac .nil 0 []) 0 0)):=aB
def BL(x:V)(b:List UInt8):Prop:=∃d c,x=.ac d c (bW b)/\(b≠[]->c=1)
def abF(b):F (bW b)=F b:=bJ _
def BL.dw{x}{b}(h:BL x b):dw ag 60 x=J ((F b:Nat):V):=by obtain⟨d,f,rfl,-⟩:=h;have c:=Tryz.underlying60;unfold Go.AE.dw;rw[c];simp only[abF]
def PL.ix{x}{l}(h:PL x l){i}(hi:i<F l):dU ag 32 x ((i:Nat):V)=J (.elem 4 (cL l) i 0):=by obtain⟨f,j,rfl,d⟩:=h;have c:j=4:=d (by intro g;rw[g]at hi;simp at hi);subst c;have:=bj (k:=f) (kk:=.i64) (es:=cL l) (a:=((i:Nat):Int)) xv vD af (by rw[C5];omega);rw[this,fe]
def IL.ix{x}{l}(h:IL x l){i}(hi:i<F l):dU ag 23 x ((i:Nat):V)=J (.elem 1 (aF l) i 0):=by obtain⟨f,j,rfl,d⟩:=h;have c:j=1:=d (by intro g;rw[g]at hi;simp at hi);subst c;have:=bj (k:=f) (kk:=.i64) (es:=aF l) (a:=((i:Nat):Int)) dp fa af (by rw[db];omega);rw[this,fe]
structure BI(h H:ah)(ep:Int)(X Y C T L:V)(kb c:Nat)(cur:V)(vs:List Vl)(t:Tok):Prop where
 ext:Ext h H
 ok:du H=aa
 can:dm h.tn H t
 key:H.I[kb]?=J (aJ ep X Y C)
 work:H.I[c]?=J (gO ep X Y C T L (.ac .nil 0 []) cur 0 0)
 la:xj H c (c+1) cur vs
 lo:h.I.length<=kb
 lt:kb<c
def BI.push{h H}{ep}{X Y C T L}{f c}{d}{vs}{t}(b:BI h H ep X Y C T L f c d vs t)(cs):BI h (H.push cs) ep X Y C T L f c d vs t:=by
 refine⟨b.ext.trans (.push _ _),b.ok,by rw[tj];exact b.can,aX b.key,aX b.work,?_,b.lo,b.lt⟩;rcases b.la with g|⟨g,x,U,i,j,k⟩
 .exact .inl g
 .exact .inr ⟨g,x,U,i,aX j,k⟩
def BI.app{h H}{ep}{X Y C T L}{g c}{d}{vs}{t}(b:BI h H ep X Y C T L g c d vs t):BI h (H.app t) ep X Y C T L g c d vs (.free H.tn):=by
 have f:=Grown.one b.can b.ok b.ext.tn;refine⟨f.ext b.ext (bh _),f.ok,f.can,by rw[ey];exact b.key,by rw[ey];exact b.work,?_,b.lo,b.lt⟩;rcases b.la with i|⟨i,x,U,j,k,m⟩
 .exact .inl i
 .exact .inr ⟨i,x,U,j,by rw[ey];exact k,m⟩
def BI.MN{h H}{ep}{X Y C T L}{f c}{d}{vs}{t}(b:BI h H ep X Y C T L f c d vs t):c<F H.I:=(bk.1 b.work).1
def avq{H}{c}{ep}{X Y C T L f d x}{i g}(j:H.I[c]?=J (gO ep X Y C T L f d i g))(hx:x.bP=J [x]):b9 ag H 116 (.ptr (.box c) 10) x=J (H.put c (gO ep X Y C T L f x i g)):=
 fI (off:=10) (cs:=gO ep X Y C T L f d i g) (xs:=[x]) hx aB j O (lQ O)
def avp{H}{c}{ep}{X Y C T L i d x}{g f}(j:H.I[c]?=J (gO ep X Y C T L i d g f))(hx:x.bP=J [x]):b9 ag H 23 (.ptr (.box c) 6) x=J (H.put c (gO ep X Y C T L x d g f)):=
 fI (off:=6) (cs:=gO ep X Y C T L i d g f) (xs:=[x]) hx iA j O (lQ O)
def avs{H}{c}{ep}{X Y C T L f d}{i g n}(j:H.I[c]?=J (gO ep X Y C T L f d i g)):b9 ag H 3 (.ptr (.box c) 11) ((n:Int):V)=J (H.put c (gO ep X Y C T L f d n g)):=
 fI (off:=11) (cs:=gO ep X Y C T L f d i g) (xs:=[((n:Int):V)]) O fa j O (lQ O)
def avr{H}{c}{ep}{X Y C T L f d}{g i n}(j:H.I[c]?=J (gO ep X Y C T L f d g i)):b9 ag H 3 (.ptr (.box c) 12) ((n:Int):V)=J (H.put c (gO ep X Y C T L f d g n)):=
 fI (off:=12) (cs:=gO ep X Y C T L f d g i) (xs:=[((n:Int):V)]) O fa j O (lQ O)
def TH:fC ag 116 1 [(0,.agg [tU (Value.int .i64 0),tU (Value.int .i64 0),tU (Value.string (bs [])),tU (Value.slice aq 0 0)])]=J (.ac .aP 4 [qN]):=aB
def BI.next{h H}{ep}{X Y C T L}{g c}{f}{vs}{t}(b:BI h H ep X Y C T L g c f vs t)(q:F vs<1000000){v}{r}(s:cW v r):
 ∃d cs,ng ag H #[116,116] f (.ac .aP 4 [qN])=J (.arr (F H.I) 0 (F vs+1) (F vs+1),d)/\
  dU ag 116 (.arr (F H.I) 0 (F vs+1) (F vs+1)) ((F vs:Nat):V)=J (.ptr (.box (F H.I)) (F vs*4))/\
  b9 ag d 118 (.ptr (.box (F H.I)) (F vs*4)) (.agg r)=J (d.put (F H.I) cs)/\
  b9 ag (d.put (F H.I) cs) 116 (.ptr (.box c) 10) (.arr (F H.I) 0 (F vs+1) (F vs+1))=J ((d.put (F H.I) cs).put c (gO ep X Y C T L (.ac .nil 0 []) (.arr (F H.I) 0 (F vs+1) (F vs+1)) 0 0))/\
  BI h ((d.put (F H.I) cs).put c (gO ep X Y C T L (.ac .nil 0 []) (.arr (F H.I) 0 (F vs+1) (F vs+1)) 0 0)) ep X Y C T L g c (.arr (F H.I) 0 (F vs+1) (F vs+1)) (vs++[v]) t:=by
 have hc:=b.MN;have i:=b.lo;have j:=b.lt;obtain⟨d,w,y,k,m,A,B,o,cs,D,E⟩:=b.la.more b.ext af hc af q s;have u:(d.put (F H.I) cs).I[c]?=J (gO ep X Y C T L (.ac .nil 0 []) f 0 0):=by rw[cS af];exact o c _ b.work (.inr O)
 have p:((d.put (F H.I) cs).put c (gO ep X Y C T L (.ac .nil 0 []) (.arr (F H.I) 0 (F vs+1) (F vs+1)) 0 0)).I[g]?=J (aJ ep X Y C):=by rw[cS af,cS af];exact o g _ b.key (.inl af)
 refine⟨d,cs,w,B,D,avq u O,(A.gw (by have:=b.ext.len;omega) _).gw af _,?_,?_,p,dM (by rw[jV];omega),?_,i,j⟩
 .have:=b.ok;unfold du at *
  show d.dead.all (λn=>decide (n<d.tn))=aa;rw[k,m];exact this
 .have:=b.can;rw[Bz,Bz];rcases this with z|z|⟨S,z,K,N⟩
  .exact .inl z
  .exact .inr (.inl z)
  .refine .inr (.inr ⟨S,z,K,?_⟩);unfold alive at *
   rw[k,m];exact N
 .refine E _ ?_;rw[cS af];exact dM (by rw[y];omega)
def aoN(p:Pr)(h:∀x∈[p.bN,p.no,p.d,p.e],0<=x/\x<=4611686018427387903):∃r,cW p.val r/\∀H,W5.call 150 [.ac .aP 1 [[.iface 3 ((p.bN:Int):V)],[.iface 3 ((p.no:Int):V)],[.iface 3 ((p.d:Int):V)],[.iface 3 ((p.e:Int):V)]]] H=J (.ret (.agg r),H):=by
 have:=amN .aP 1 [.iface 3 ((p.bN:Int):V),.iface 3 ((p.no:Int):V),.iface 3 ((p.d:Int):V),.iface 3 ((p.e:Int):V)] [.int p.bN,.int p.no,.int p.d,.int p.e]
  (.cons (.int _ (h _ cE)) (.cons (.int _ (h _ cE)) (.cons (.int _ (h _ cE)) (.cons (.int _ (h _ cE)) .nil)))) (λ_=>rfl) cE
 simp only[dR,sV]at this;exact this
def js(l:List Pr):List Int:=l.map Pr.bN
def RG(U:List (List Int))(ae:List Int)(ep:Int)(X Y C T L:V)(av:List Int)(aC:List UInt8)(l:List Pr)(h:ah)(r:dV)(h':ah):Prop:=
 Ext h h'/\((eK U ae ep av aC l≠0/\r=.ret (.tuple [.v (.pointer aq),((eK U ae ep av aC l:Int):V)]))∨
  (eK U ae ep av aC l=0/\∃d c,r=.ret (.tuple [.ptr (.box d) 0,.v (.int .i64 0)])/\IL c (gh U ae l)/\uE h' d ep X Y C T L c ((jt (al av 0) aC l:Nat):Int) ((ft (al av 0) aC l:Nat):Int) av aC l))
def AG{l}:∀{c:Int},jU c l=aa->∀p∈l,c<p.bN/\p.bN<64/\0<=p.no/\p.no<4096/\cq p.d=aa/\cq p.e=aa:=by
 induction l with
 |nil=>intro _ _ p hp;simp at hp|cons w l o=>
  intro c h p hp;rw[NT.jU]at h;simp only[bQ,decide_eq_true_eq]at h;obtain⟨⟨⟨⟨⟨⟨d,f⟩,g⟩,i⟩,j⟩,k⟩,m⟩:=h;rcases hh.1 hp with rfl|hp
  .exact⟨d,f,g,i,j,k⟩
  .obtain⟨v,q,r,s,t,u⟩:=o m p hp;exact⟨af,q,r,s,t,u⟩
def Y2{c0}{aC}{l}{p}(c:cq p.d=aa)(d:cq p.e=aa):elem (tT c0 aC l p)=aa:=by unfold tT gJ;rw[P6];exact EJ (BP c) (C9 (BP d) _)
def ape{c0}{aC}{l}{c:Int}(h:jU c l=aa):elem (jt c0 aC l)=aa:=
 Qg (λd hp=>Y2 (AG h d hp).2.2.2.2.1 (AG h d hp).2.2.2.2.2) HZ
def Tv(h:ah)(fR:du h=aa)(ep:Int)(X Y C T L:V)(U:List (List Int))(ae av:List Int)(aC:List UInt8)(l:List Pr)
 (hx:RL X U) (E:IL Y ae) (hc:IL C av) (ht:BL T aC) (hp:PL L l) (fw:F av<=1000000) (gU:F l<=1000000):
 ∃r h',W5.call 76 [.agg (aJ ep X Y C),T,L] h=J (r,h')/\RG U ae ep X Y C T L av aC l h r h':=by
 have bx:=mD (ep:=ep) hx E hc;obtain⟨_,h2,c2,rfl,rfl⟩:=aqY (h.push (aJ ep X Y C)) ep X Y C U ae av hx E hc fw;have c1:=MM X Y U ae hx E;have H:=aU h (aJ ep X Y C);have l1:aL ag Gt (h.push (aJ ep X Y C)) 25 (.ptr (.box (F h.I)) 1)=J (.agg [X,Y]):=by rw[fS El (by kernel_rfl:cQ ag 25=J 2) H (lQ O)];rfl
 have l2:aL ag Gt (h.push (aJ ep X Y C)) 27 (.ptr (.box (F h.I)) 0)=J (.agg (aJ ep X Y C)):=by rw[fS aB (by kernel_rfl:cQ ag 27=J 4) H (lQ O)];rfl
 have l3:aL ag Gt ((h.push (aJ ep X Y C)).push (aJ ep X Y C)) 27 (.ptr (.box (F h.I)) 0)=J (.agg (aJ ep X Y C)):=by rw[fS aB (by kernel_rfl:cQ ag 27=J 4) (aX H) (lQ O)];rfl
 have ln1:=ht.dw;have ln2:=hp.dw;have lst:=amO;have bw:iP ag 132 [(0,.agg (aJ ep X Y C)),(1,T),(2,L),(4,.agg (aG 3 0 [] .nil 0 []))]=J (.agg (gO ep X Y C T L (.ac .nil 0 []) (.ac .nil 0 []) 0 0))/\(V.agg (gO ep X Y C T L (.ac .nil 0 []) (.ac .nil 0 []) 0 0)).bP=J (gO ep X Y C T L (.ac .nil 0 []) (.ac .nil 0 []) 0 0):=by obtain⟨kx,sx,xs,rfl,-⟩:=hx.form;obtain⟨ky,sy,rfl,-⟩:=E;obtain⟨kc,sc,rfl,-⟩:=hc;obtain⟨kt,st,rfl,-⟩:=ht;obtain⟨kp,sp,rfl,-⟩:=hp;exact⟨aeV ep kx ky kc kt kp sx sy sc st sp _ _ _ _ _,O⟩
 obtain⟨bw1,bw2⟩:=bw;have z:=aj.mk (ar hx (ar E (ar hc (ar ht hp))));have B0:BI h (((h.push (aJ ep X Y C)).push (aJ ep X Y C)).push (gO ep X Y C T L (.ac .nil 0 []) (.ac .nil 0 []) 0 0)) ep X Y C T L (F h.I) (F ((h.push (aJ ep X Y C)).push (aJ ep X Y C)).I) (.ac .nil 0 []) [] .nil:=
  ⟨((Ext.push _ _).trans (.push _ _)).trans (.push _ _),fR,.inl O,aX (aX H),aU _ _,.inl ⟨O,O⟩,bh _,by rw[bV,bV];omega⟩
 have X1:=aj.mk (Ext.push h (aJ ep X Y C));have X2:=aj.mk ((Ext.push h (aJ ep X Y C)).trans (Ext.push _ (aJ ep X Y C)));have kE1:aj (cI U ae≠0->eK U ae ep av aC l=cI U ae):=⟨λi=>by unfold eK;rw[aH i]⟩;have kE2:aj (cI U ae=0->iI U ep av=au->eK U ae ep av aC l=380):=⟨λZ p=>by unfold eK;rw[aV (by simp[Z]),aH];unfold iI at p;rw[p];rfl⟩;have kE3:aj (cI U ae=0->iI U ep av=aa->65536<F aC->eK U ae ep av aC l=2):=⟨λZ p q3=>by unfold eK;unfold iI at p;rw[aV (by simp[Z]),aV (by rw[p];decide),aH q3]⟩;have kE4:aj (cI U ae=0->iI U ep av=aa->¬65536<F aC->64<F l->eK U ae ep av aC l=420):=⟨λZ p q3 q4=>by unfold eK;unfold iI at p;rw[aV (by simp[Z]),aV (by rw[p];decide),aV q3,aH q4]⟩;have kE5:aj (cI U ae=0->iI U ep av=aa->¬65536<F aC->¬64<F l->jU (-1) l=au->eK U ae ep av aC l=420):=⟨λZ p q3 q4 q5=>by unfold eK;unfold iI at p;rw[aV (by simp[Z]),aV (by rw[p];decide),aV q3,aV q4,aH (by rw[q5];rfl)]⟩;have kE6:aj (cI U ae=0->iI U ep av=aa->¬65536<F aC->¬64<F l->jU (-1) l=aa->∀K z2 e,fm U ae (js l)=(K,z2,e)->eK U ae ep av aC l=if e≠0∨z2=au∨F l=0 then 420 else 0):=⟨λZ p q3 q4 q5 K z2 e q6=>by unfold eK;unfold iI at p;rw[aV (by simp[Z]),aV (by rw[p];decide),aV q3,aV q4,aV (by rw[q5];decide)];unfold js at q6;rw[q6]⟩;have kW:aj (∀K z2 e,fm U ae (js l)=(K,z2,e)->gh U ae l=K):=⟨λK z2 e i=>by unfold gh;unfold js at i;rw[i]⟩;have kR:aj (iI U ep av=aa->F av=cr U/\av.all cq=aa):=⟨λi=>by unfold iI at i;simp only[bQ,decide_eq_true_eq]at i;exact⟨i.1.2,i.2⟩⟩;unfold RG;generalize eK U ae ep av aC l=res at *
 clear hx E hc ht hp H;refine cA O Tryz.func76 O ?_;by_cases v:cI U ae=0;rotate_left 1
 .have c:=aj.mk (ar v (kE1.M v));clear kE1 kE2 kE3 kE4 kE5 kE6 c2 bw1 bw2 B0 lst l3;generalize cI U ae=i at *
  unfold im at *
  refine dA @nb @bC @iM ?_;exact⟨_,_,O,X1.M,.inl ⟨by rw[c.M.2];exact c.M.1,by rw[c.M.2]⟩⟩
 rw[v]at c1;cases w:iI U ep av with
 |false=>
  have c:=aj.mk (kE2.M v w);rw[w]at c2;clear kE1 kE2 kE3 kE4 kE5 kE6 bw1 bw2 B0 lst l3 v w;unfold im at *
  refine dA @nb @bC @iM ?_;exact⟨_,_,O,X2.M,.inl ⟨by rw[c.M];decide,by rw[c.M]⟩⟩
 |true=>
 rw[w]at c2;by_cases h3:65536<F aC
 .have c:=aj.mk (kE3.M v w h3);have hI:(65536:Int)<(F aC:Int):=by omega
  clear kE1 kE2 kE3 kE4 kE5 kE6 bw1 bw2 B0 lst l3 v w h3;unfold im at *
  refine dA @nb @bC @iM ?_;exact⟨_,_,O,X2.M,.inl ⟨by rw[c.M];decide,by rw[c.M]⟩⟩
 have hI:¬(65536:Int)<(F aC:Int):=by omega
 by_cases h4:64<F l
 .have c:=aj.mk (kE4.M v w h3 h4);have VL:(64:Int)<(F l:Int):=by omega
  clear kE1 kE2 kE3 kE4 kE5 kE6 bw1 bw2 B0 lst l3 v w h3 h4;unfold im at *
  refine dA @nb @bC @iM ?_;exact⟨_,_,O,X2.M,.inl ⟨by rw[c.M];decide,by rw[c.M]⟩⟩
 have VL:¬(64:Int)<(F l:Int):=by omega
 have kbad:=aj.mk (λi=>kE5.M v w h3 h4 i);have kgood:=aj.mk (λi=>kE6.M v w h3 h4 i);have kcom:=aj.mk (kR.M w);have kprog:=aj.mk v;have ktl:aj (F aC<=65536):=⟨af⟩;have IT:F l<=64:=by omega
 clear kE1 kE2 kE3 kE4 kE5 kE6 kR v w h3 h4 X1 X2;have kB0:=aj.mk B0;clear B0;obtain⟨HW,VJ⟩:∃HW,((h.push (aJ ep X Y C)).push (aJ ep X Y C)).push (gO ep X Y C T L (.ac .nil 0 []) (.ac .nil 0 []) 0 0)=HW:=⟨_,O⟩;unfold im at *
 refine dA @nb @bC @iM ?_;refine dW k_ aB ?_;refine dA @nb @bC @iM ?_;rw[VJ]at kB0;refine bM.gen λu k ja fM eS=>?_;have f1:u.get 1=T:=by rw[k];exact gS
 have f2:u.get 2=L:=by rw[k];exact gS
 have f3:u.get 3=.ptr (.box (F h.I)) 0:=by rw[k];exact gS
 have f6:u.get 6=.ptr (.box (F ((h.push (aJ ep X Y C)).push (aJ ep X Y C)).I)) 0:=by rw[k];exact gS
 have f9:u.get 9=.ac .nil 0 []:=by rw[k];exact gS
 have f10:u.get 10=.v (.int .i64 (-1)):=by rw[k];exact gS
 have f39:u.get 39=L:=by rw[k];exact gS
 have f40:u.get 40=(F l:Nat):=by rw[k];exact gS
 have f41:u.get 41=(0:Nat):=by rw[k];exact gR
 have fd:u.defers=[]:=by rw[ja];exact gS
 clear k ja fM eS c1 c2 l1 l2 l3 bw1 bw2 lst VJ hI VL ln1;generalize F ((h.push (aJ ep X Y C)).push (aJ ep X Y C)).I=N at *
 generalize F h.I=kb at *
 refine cJ (λz4 e j=>∃(q:Nat) (f:Int) (z0:Tok) (sz:Nat) (cur:V),q<=F l/\z4=F l-q/\aj (jU f (l.drop q)=jU (-1) l)/\(-1<=f)/\aj (BI h j ep X Y C T L kb N cur ((l.take q).map Pr.val) z0)/\aj (sz=1∨(js (l.take q)=[]/\z0=.nil))/\
  e.get 1=T/\e.get 2=L/\e.get 3=.ptr (.box kb) 0/\e.get 6=.ptr (.box N) 0/\e.get 9=.ac z0 sz (aF (js (l.take q)))/\e.get 10=(f:Int)/\e.get 39=L/\e.get 40=(F l:Nat)/\e.get 41=(q:Nat)/\e.defers=[]) ?_ (F l) _ _ ?_
 rotate_left 1
 .exact⟨0,-1,.nil,0,.ac .nil 0 [],cC _,O,⟨O⟩,Int.le_refl _,kB0,⟨.inr ⟨O,O⟩⟩,f1,f2,f3,f6,f9,f10,f39,f40,f41,fd⟩
 clear f1 f2 f3 f6 f9 f10 f39 f40 f41 fd kB0 HW;rintro z4 e j ⟨q,f,z0,sz,cur,hi,rfl,kP,Fm,y,ksz,g1,g2,g3,g6,g9,g10,g39,g40,g41,hd⟩;by_cases dD:q<F l
 .obtain⟨d,I5⟩:∃d,l[q]?=J d:=⟨_,aY dD⟩;have Fa:l.drop q=d::l.drop (q+1):=by rw[uw dD,(bk.1 I5).2]
  have Ag:=kP.M;rw[Fa,NT.jU]at Ag;have kpf:=aj.mk Ag;have ix:=z.M.2.2.2.2.ix dD;have ld:=vm (H:=j) (s:=4) I5;have st:=DH (H:=j) d;have zc:=DL;have H:=aU j (bB d);have q0:aL ag Gt (j.push (bB d)) 3 (.ptr (.box (F j.I)) 0)=J ((d.bN:Int):V):=eu eH H O;have Z:aL ag Gt (j.push (bB d)) 3 (.ptr (.box (F j.I)) 1)=J ((d.no:Int):V):=eu eH H O;have p:aL ag Gt (j.push (bB d)) 3 (.ptr (.box (F j.I)) 2)=J ((d.d:Int):V):=eu eH H O;have q3:aL ag Gt (j.push (bB d)) 3 (.ptr (.box (F j.I)) 3)=J ((d.e:Int):V):=eu eH H O;have v1:=GQ d.d;have v2:=GQ d.e;have gG:(q:Int)<(F l:Int):=by omega
  have t:=aj.mk (y.M.push (bB d));have ktake:=aj.mk (ga I5);clear Ag Fa I5 H;have g:aj ((decide (f<d.bN)&&decide (d.bN<64)&&decide (0<=d.no)&&decide (d.no<4096)&&cq d.d&&cq d.e)=au->res=420):=⟨λi=>by refine kbad.M ?_;rw[<-kpf.M,i];rfl⟩;unfold im at *
  by_cases e1:d.bN<=f
  .have d1:decide (d.bN<=f)=aa:=cD e1;have c:=aj.mk (g.M (by rw[cR (af:¬f<d.bN)];rfl));clear e1;refine bF @nb @jp ?_;exact⟨_,_,O,t.M.ext,.inl ⟨by rw[c.M];decide,by rw[c.M]⟩⟩
  have d1:decide (d.bN<=f)=au:=cR e1;by_cases e2:64<=d.bN
  .have d2:decide (64<=d.bN)=aa:=cD e2;have c:=aj.mk (g.M (by rw[cR (af:¬d.bN<64)];simp));clear e1 e2;refine bF @nb @jp ?_;exact⟨_,_,O,t.M.ext,.inl ⟨by rw[c.M];decide,by rw[c.M]⟩⟩
  have d2:decide (64<=d.bN)=au:=cR e2;by_cases e3:d.no<0
  .have d3:decide (d.no<0)=aa:=cD e3;have c:=aj.mk (g.M (by rw[cR (af:¬0<=d.no)];simp));clear e1 e2 e3;refine bF @nb @jp ?_;exact⟨_,_,O,t.M.ext,.inl ⟨by rw[c.M];decide,by rw[c.M]⟩⟩
  have d3:decide (d.no<0)=au:=cR e3;by_cases e4:4096<=d.no
  .have d4:decide (4096<=d.no)=aa:=cD e4;have c:=aj.mk (g.M (by rw[cR (af:¬d.no<4096)];simp));clear e1 e2 e3 e4;refine bF @nb @jp ?_;exact⟨_,_,O,t.M.ext,.inl ⟨by rw[c.M];decide,by rw[c.M]⟩⟩
  have d4:decide (4096<=d.no)=au:=cR e4;cases e5:cq d.d with
  |false=>have c:=aj.mk (g.M (by rw[e5];simp));rw[e5]at v1;clear e1 e2 e3 e4 e5;refine bF @nb @jp ?_;exact⟨_,_,O,t.M.ext,.inl ⟨by rw[c.M];decide,by rw[c.M]⟩⟩
  |true=>
  rw[e5]at v1;cases e6:cq d.e with
  |false=>have c:=aj.mk (g.M (by rw[e6];simp));rw[e6]at v2;clear e1 e2 e3 e4 e5 e6;refine bF @nb @jp ?_;exact⟨_,_,O,t.M.ext,.inl ⟨by rw[c.M];decide,by rw[c.M]⟩⟩
  |true=>
  rw[e6]at v2;have Fw:=BQ e5;have hr6:=BQ e6;have kP2:aj (jU d.bN (l.drop (q+1))=jU (-1) l):=⟨by rw[<-kpf.M,cD (af:f<d.bN),cD (af:d.bN<64),cD (af:0<=d.no),cD (af:d.no<4096),e5,e6];rfl⟩;obtain⟨r,yc,lr⟩:=aoN d (by intro x hx;simp only[hh,qR,or_false]at hx;rcases hx with rfl|rfl|rfl|rfl<;>omega);have hkl:F (js (l.take q))=q:=by unfold js;rw[bJ,dJ];omega
  have ap:=vY (x:=d.bN) (es:=js (l.take q)) af ksz.M t.M.can;have bl:=p_ d.bN;have WI:js (l.take q)++[d.bN]=js (l.take (q+1)):=by unfold js;rw[ktake.M,jN];rfl
  rw[WI]at ap;have kBa:=aj.mk t.M.app;have qy:F ((l.take q).map Pr.val)=q:=by rw[bJ,dJ];omega
  obtain⟨H2,cs,t1,t2,t3,t4,t5⟩:=kBa.M.next af yc;have len94:=kBa.M.la.dw;have lw:aL ag Gt ((j.push (bB d)).app z0) 116 (.ptr (.box N) 10)=J cur:=eu Tc kBa.M.work O;have bxx:((j.push (bB d)).app z0).I[F j.I]?=J (bB d):=by rw[ey];exact aU _ _
  have q0':aL ag Gt ((j.push (bB d)).app z0) 3 (.ptr (.box (F j.I)) 0)=J ((d.bN:Int):V):=eu eH bxx O;have q1':aL ag Gt ((j.push (bB d)).app z0) 3 (.ptr (.box (F j.I)) 1)=J ((d.no:Int):V):=eu eH bxx O;have q2':aL ag Gt ((j.push (bB d)).app z0) 3 (.ptr (.box (F j.I)) 2)=J ((d.d:Int):V):=eu eH bxx O;have q3':aL ag Gt ((j.push (bB d)).app z0) 3 (.ptr (.box (F j.I)) 3)=J ((d.e:Int):V):=eu eH bxx O;have XG:(l.take q).map Pr.val++[d.val]=(l.take (q+1)).map Pr.val:=by rw[ktake.M,jN];rfl
  rw[XG]at t5;have kB2:=aj.mk t5;have gb:F ((j.push (bB d)).app z0).I≠N:=by have:=kBa.M.MN;omega
  rw[qy]at t1 t2 t3 t4 kB2 len94;have knext: -1<=d.bN:=by omega
  clear e1 e2 e3 e4 e5 e6 Fw hr6 t5 XG bxx WI yc hkl qy t kBa g kpf kP Fm;refine bF @nb @jp ?_;refine atj 23 k_ aB aB aB ?_ ?_
  .refine aoF (n:=27) (bi:=((j.push (bB d)).app z0).I.length) (bn:=N) (x1:=q*4) (x2:=10) aB O O O O ?_ ?_ gb<;>(simp only[dY,dG];exact iH @nb @qm @jp (ar @U3 (ar @FK (ar @MA (ar @TH @and_self)))))
  refine cg @nb @qm @jp (ar @U3 (ar @FK (ar @MA @TH))) ?_;exact⟨F l-(q+1),by omega,q+1,d.bN,_,1,_,by omega,O,kP2,knext,kB2,⟨.inl O⟩,by simp⟩
 have gq:q=F l:=by omega
 subst gq;rw[gy]at g9 ksz y;have VQ:jU (-1) l=aa:=by rw[<-kP.M,oo (bh _)];rfl
 have o:=aj.mk VQ;have lk:aL ag Gt j 25 (.ptr (.box kb) 1)=J (.agg [X,Y]):=by rw[fS El (by kernel_rfl:cQ ag 25=J 2) y.M.key (lQ O)];rfl
 have XH:IL (.ac z0 sz (aF (js l))) (js l):=⟨z0,sz,O,λi=>by
  rcases ksz.M with z3|⟨z3,-⟩
  .exact z3
  .exact absurd z3 i⟩
 have akl:F (js l)<=64:=by unfold js;rw[bJ];exact IT
 have ajM:(∃e,fm U ae (js l)=([],au,e)/\∀h,W5.call 39 [.agg [X,Y],.ac z0 sz (aF (js l))] h=J (.ret (.tuple [.ac .nil 0 [],(au:V),((e:Int):V)]),h))∨∃K,fm U ae (js l)=(K,aa,0)/\F K=F U/\∀h,W5.call 39 [.agg [X,Y],.ac z0 sz (aF (js l))] h=J (.ret (.tuple [.ac .held 1 (aF K),(aa:V),.v (.int .i64 0)]),h):=by obtain⟨k0,s0,xs,VZ,-⟩:=z.M.1.form;have:=S4 k0 s0 xs Y (.ac z0 sz (aF (js l))) U ae (js l) (by rw[<-VZ];exact z.M.1) z.M.2.1 XH af;rw[<-VZ]at this;exact this
 clear VQ XH akl dD kP Fm hi;rcases ajM with⟨u,a1,ca⟩|⟨K,a1,a2,ca⟩
 .have c:aj (res=420):=⟨by rw[kgood.M o.M _ _ _ a1,aH (.inr (.inl O))]⟩;clear a1;by_cases S:u=0
  .subst S;refine bF @nb @iM ?_;exact⟨_,_,O,y.M.ext,.inl ⟨by rw[c.M];decide,by rw[c.M]⟩⟩
  .have d9:decide (u=0)=au:=cR S;refine bF @nb @iM ?_;exact⟨_,_,O,y.M.ext,.inl ⟨by rw[c.M];decide,by rw[c.M]⟩⟩
 by_cases S:F l=0
 .have c:aj (res=420):=⟨by rw[kgood.M o.M _ _ _ a1,aH (.inr (.inr S))]⟩;have d9:decide ((F l:Int)=0)=aa:=cD af;clear a1 S;refine bF @nb @iM ?_;exact⟨_,_,O,y.M.ext,.inl ⟨by rw[c.M];decide,by rw[c.M]⟩⟩
 have d9:decide ((F l:Int)=0)=au:=cR af;have c:aj (res=0):=⟨by rw[kgood.M o.M _ _ _ a1,aV (by simp;intro i;rw[i]at S;exact S O)]⟩;have kWt:=aj.mk (kW.M _ _ _ a1);obtain⟨m1,m2⟩:=kcom.M;have mpos:=(pm kprog.M).1;have xU:cq (al av 0)=aa:=by rw[ff]at m2;exact m2 _ (by rw[fL af];exact jf _)
 have aj2:=BQ xU;have hlo:=y.M.lo;have akp:=y.M.lt;have s1:=avp (x:=.ac .held 1 (aF K)) y.M.work O;obtain⟨b,A,aj8,qp,mC,xS,Ca⟩:∃(b:Nat) (A:List (List V)),cur=.arr b 0 (F A) (F A)/\j.I[b]?=J A.flatten/\gB (l.map Pr.val) A/\b≠N/\N+1<=b:=by
  rcases y.M.la with⟨i,-⟩|⟨-,i⟩
  .exfalso;rw[Be]at i;rw[i]at S;exact S O
  .exact i
 subst aj8;have NM:=y.M.MN;have W1:uE (j.put N (gO ep X Y C T L (.ac .held 1 (aF K)) (.arr b 0 (F A) (F A)) 0 0)) N ep X Y C T L (.ac .held 1 (aF K)) 0 0 av aC l:=
  ⟨⟨b,A,dM NM,by rw[cS xS];exact qp,mC⟩,z.M.2.2.1,by omega,⟨af,by omega⟩,z.M.2.2.2.1,ktl.M,IT⟩
 have E1:Ext h (j.put N (gO ep X Y C T L (.ac .held 1 (aF K)) (.arr b 0 (F A) (F A)) 0 0)):=y.M.ext.gw af _;obtain⟨_,Hp,cp,xp,rfl⟩:=apH 152 [.ptr (.box N) 0] [] (tT (al av 0) aC l) _ L l z.M.2.2.2.2 af (λi hq=>Y2 (AG o.M i hq).2.2.2.2.1 (AG o.M i hq).2.2.2.2.2) (λi hq H' hX=>by have hm:=AG o.M i hq;obtain⟨_,H2,n1,n2,rfl⟩:=anU H' N ep X Y C T L (.ac .held 1 (aF K)) 0 0 av aC l (W1.mono hX) i ⟨af,by omega⟩ hm.2.2.2.2.1 hm.2.2.2.2.2;exact⟨H2,n1,n2⟩);have Fu:l.foldl (λx i=>x*tT (al av 0) aC l i%P) 1=jt (al av 0) aC l:=rfl;rw[Fu]at cp;have Ou:=BQ (xG (ape (c0:=al av 0) (aC:=aC) o.M));have E2:=E1.trans xp;have W2:=W1.mono xp;obtain⟨b',m,w1,w2,w3⟩:=W2.rx;have NG:b'≠N:=by intro i;have z1:Hp.I[N]?=J (gO ep X Y C T L (.ac .held 1 (aF K)) (.arr b 0 (F A) (F A)) 0 0):=xp.box _ _ (dM NM);rw[z1]at w1;unfold gO at w1;injection w1 with w1;simp only[List.cons.injEq,V.arr.injEq,true_and,and_true]at w1;omega
 have s2:=avs (n:=((jt (al av 0) aC l:Nat):Int)) w1;have Wn:=(bk.1 w1).1;obtain⟨kt,st,VW,iq⟩:=z.M.2.2.2.1;obtain⟨B,wh⟩:∃B,Hp.put N (gO ep X Y C T L (.ac .held 1 (aF K)) (.arr b' 0 (F m) (F m)) ((jt (al av 0) aC l:Nat):Int) 0)=B:=⟨_,O⟩;have w5:B.I[N]?=J (gO ep X Y C T L (.ac .held 1 (aF K)) (.arr b' 0 (F m) (F m)) ((jt (al av 0) aC l:Nat):Int) 0):=by rw[<-wh];exact dM Wn
 have E5:Ext h B:=by rw[<-wh];exact E2.gw af _
 have v5:B.I[b']?=J m.flatten:=by rw[<-wh,cS NG];exact w2
 have sl:=aaV ((jt (al av 0) aC l:Nat):Int) (al av 0) aC;have D:=V9 B AN .aP 1 [.iface 3 ((jt (al av 0) aC l:Nat):V),.iface 3 ((al av 0:Int):V),.iface 60 (.ac kt st (bW aC))] [.int ((jt (al av 0) aC l:Nat):Int),.int (al av 0),.aC aC]
  (.cons (.int _ ⟨af,by omega⟩) (.cons (.int _ ⟨af,by omega⟩) (.cons (.aC kt st aC iq (by have:=ktl.M;omega)) .nil))) (λ_=>rfl) cE bm (by simp[gf,gF]) (by have:=ktl.M;omega)
 have Wm:q_ AN (.ac [.int ((jt (al av 0) aC l:Nat):Int),.int (al av 0),.aC aC])=ft (al av 0) aC l:=rfl;rw[Wm,<-VW,show AN=[115,105,103,110] from O]at D;simp only[dR,sV]at D;have lp:aL ag Gt B 3 (.ptr (.box N) 11)=J ((jt (al av 0) aC l:Nat):V):=eu eH w5 O;have lC:aL ag Gt B 23 (.ptr (.box N) 3)=J C:=eu mV w5 O;obtain⟨kc,sc,hCe,hsc⟩:=z.M.2.2.1;have ixC:=z.M.2.2.1.ix (i:=0) af;have lC0:=eI (H:=B) (l:=av) (i:=0) (s:=1) af;have s3:=avr (n:=((ft (al av 0) aC l:Nat):Int)) w5;have rU:aj (Ext h (B.put N (gO ep X Y C T L (.ac .held 1 (aF K)) (.arr b' 0 (F m) (F m)) ((jt (al av 0) aC l:Nat):Int) ((ft (al av 0) aC l:Nat):Int)))/\uE (B.put N (gO ep X Y C T L (.ac .held 1 (aF K)) (.arr b' 0 (F m) (F m)) ((jt (al av 0) aC l:Nat):Int) ((ft (al av 0) aC l:Nat):Int))) N ep X Y C T L (.ac .held 1 (aF K)) ((jt (al av 0) aC l:Nat):Int) ((ft (al av 0) aC l:Nat):Int) av aC l):=
  ⟨E5.gw af _,⟨⟨b',m,dM (bk.1 w5).1,by rw[cS NG];exact v5,w3⟩,z.M.2.2.1,by omega,⟨af,by omega⟩,z.M.2.2.2.1,ktl.M,IT⟩⟩
 have kyw:aj (IL (.ac .held 1 (aF K)) (gh U ae l)):=⟨by rw[kWt.M];exact⟨_,_,O,λ_=>rfl⟩⟩;have ix0:dU ag 23 C (.v (.int .i64 0))=J (.elem 1 (aF av) 0 0):=ixC;clear W1 W2 E1 E2 E5 w1 w2 w3 v5 sl Wm Fu xp qp mC xS Ca NM Wn NG xU aj2 Ou mpos m1 m2 hlo akp VW iq hCe hsc S a1 a2 ixC w5;generalize ((jt (al av 0) aC l:Nat):Int)=ptv at *
 generalize ((ft (al av 0) aC l:Nat):Int)=chv at *
 generalize al av 0=c0 at *
 unfold im at *
 refine cg @nb @iM @qm @eY.{0} ?_;refine dW k_ aB ?_;refine cg @nb @jF @qm (ar @FK (ar @OT @TL)) ?_;exact⟨_,_,O,rU.M.1,.inr ⟨c.M,_,_,O,kyw.M,rU.M.2⟩⟩
def Gg:Tryz.f37.results.toList=[.tmp 6,.tmp 7,.tmp 8,.tmp 9]:=aB
def QK:Tryz.f77.results.toList=[.cell 6 46,.tmp 7]:=aB
def asx:Tryz.f155.results.toList=[.tmp 3]:=aB
def azp:Tryz.f156.results.toList=[.tmp 2]:=aB
def uH(c0:Int)(aC:List UInt8)(l:List Pr):List Int:=l.map λc=>((gJ c0 aC l c.bN:Nat):Int)
def HH{U}{ae av}{ep}{aC}{l}(h:eK U ae ep av aC l=0):
 cI U ae=0/\F av=cr U/\av.all cq=aa/\F l<=64/\F aC<=65536/\jU (-1) l=aa:=by
 unfold eK at h;split at h
 .rename_i j;exact absurd h j
 .rename_i f;split at h
  .simp at h
  .rename_i g;split at h
   .simp at h
   .rename_i k;split at h
    .simp at h
    .rename_i m;split at h
     .simp at h
     .rename_i i;have c:=(abZ _).mp g;rw[abY]at c;simp only[bQ,decide_eq_true_eq]at c;have d:=(abZ _).mp i;rw[abY]at d;exact⟨Lp.1 f,c.1.2,c.2,by omega,by omega,d⟩
def afk(h:ah)(u:du h=aa)(ep:Int)(X Y C T L:V)(U:List (List Int))(ae av:List Int)(aC:List UInt8)(l:List Pr)
 (hx:RL X U) (E:IL Y ae) (hc:IL C av) (ht:BL T aC) (hp:PL L l) (fw:F av<=1000000) (gU:F l<=1000000):
 ∃r h',W5.call 37 [.agg (aJ ep X Y C),T,L] h=J (r,h')/\
  ((eK U ae ep av aC l≠0/\r=.ret (.tuple [.ac .nil 0 [],.v (.int .i64 0),.v (.int .i64 0),((eK U ae ep av aC l:Int):V)]))∨
  (eK U ae ep av aC l=0/\∃Z,r=.ret (.tuple [Z,((jt (al av 0) aC l:Nat):V),((ft (al av 0) aC l:Nat):V),.v (.int .i64 0)])/\IL Z (uH (al av 0) aC l))):=by
 have bx:=mD (ep:=ep) hx E hc;obtain⟨r1,h1,c1,x1,w⟩:=Tv (h.push (aJ ep X Y C)) u ep X Y C T L U ae av aC l hx E hc ht hp fw gU;have z:=aU h (aJ ep X Y C);have l0:aL ag Gt (h.push (aJ ep X Y C)) 27 (.ptr (.box (F h.I)) 0)=J (.agg (aJ ep X Y C)):=by rw[fS aB (by kernel_rfl:cQ ag 27=J 4) z (lQ O)];rfl
 have kp:=aj.mk hp;have ko:=aj.mk (x1.ok u);have kbo:=aj.mk (λo=>@HH U ae av ep aC l o);have ln2:=hp.dw;clear hx E hc ht hp z x1;generalize eK U ae ep av aC l=res at *
 refine cA O Tryz.func37 O ?_;rcases w with⟨o,rfl⟩|⟨o,A,Wt,rfl,-,z1⟩
 .have kr:=aj.mk o;refine bF @Gg @bC ?_;exact⟨_,_,O,.inl ⟨kr.M,O⟩⟩
 obtain⟨-,-,-,-,-,p6⟩:=kbo.M o;have kP:=aj.mk p6;have kW:=aj.mk z1;have kr:=aj.mk o;have IT:=z1.ll;obtain⟨b,vr,w1,-⟩:=z1.rx;clear p6 z1;subst o;refine bF @Gg @bC ?_;refine bM.gen λg c q H K=>?_;have f6:g.get 6=.ac .nil 0 []:=by rw[c];exact gS
 have f10:g.get 10=.ptr (.box A) 0:=by rw[c];exact gS
 have f23:g.get 23=L:=by rw[c];exact gS
 have f24:g.get 24=(F l:Nat):=by rw[c];exact gS
 have f25:g.get 25=(0:Nat):=by rw[c];exact gR
 have B:g.defers=[]:=by rw[q];exact gS
 clear c q H K c1 l0 w1;have kbl:aj (F (uH (al av 0) aC l)=F l):=⟨by unfold uH;simp⟩;refine cJ (λz3 e m=>∃(f:Nat) (z0:Tok) (p:Nat),f<=F l/\z3=F l-f/\aj (Gr h1 m z0)/\aj (p=1∨((uH (al av 0) aC l).take f=[]/\z0=.nil))/\e.get 6=.ac z0 p (aF ((uH (al av 0) aC l).take f))/\e.get 10=.ptr (.box A) 0/\e.get 23=L/\e.get 24=(F l:Nat)/\e.get 25=(f:Nat)/\e.defers=[]) ?_ (F l) _ _ ?_;rotate_left 1
 .exact⟨0,.nil,0,cC _,O,⟨Gr.nil (.refl _) ko.M⟩,⟨.inr ⟨O,O⟩⟩,f6,f10,f23,f24,f25,B⟩
 clear f6 f10 f23 f24 f25 B;rintro z3 e m ⟨f,z0,p,hi,rfl,v,k,g6,g10,g23,g24,g25,hd⟩;by_cases t:f<F l
 .obtain⟨i,d⟩:∃i,l[f]?=J i:=⟨_,aY t⟩;have hm:=AG kP.M i (dy d);have ix:=kp.M.ix t;have ld:=vm (H:=m) (s:=4) d;have st:=DH (H:=m) i;have zc:=DL;have l2:=wB (aU m (bB i));obtain⟨_,H2,cb,rfl,rfl⟩:=Mx (m.push (bB i)) A ep X Y C T L Wt _ _ av aC l ((kW.M.mono v.M.1).mono (.push _ _)) i ⟨af,by omega⟩;have N:(uH (al av 0) aC l)[f]?=J ((gJ (al av 0) aC l i.bN:Nat):Int):=by unfold uH;rw[eF,d];rfl
  have j:=(v.M.push (bB i)).push (bB i);have ap:=vY (x:=((gJ (al av 0) aC l i.bN:Nat):Int)) (es:=(uH (al av 0) aC l).take f) (by rw[dJ];omega) k.M j.2.2;rw[<-ga N]at ap;have S:=aj.mk j.app;have bl:=p_ ((gJ (al av 0) aC l i.bN:Nat):Int);have gG:(f:Int)<(F l:Int):=by omega
  clear N hm d j;generalize ((gJ (al av 0) aC l i.bN:Nat):Int)=bn at *
  unfold im at *
  refine bD @Gg ?_;exact⟨F l-(f+1),by omega,f+1,_,1,by omega,O,S,⟨.inl O⟩,by simp⟩
 .have D:f=F l:=by omega
  subst D;rw[fK (by rw[kbl.M];exact bh _)]at g6 k;obtain⟨b2,vr2,y,-⟩:=(kW.M.mono v.M.1).rx;have lp:aL ag Gt m 3 (.ptr (.box A) 11)=J ((jt (al av 0) aC l:Nat):V):=eu eH y O;have lc:aL ag Gt m 3 (.ptr (.box A) 12)=J ((ft (al av 0) aC l:Nat):V):=eu eH y O;clear y;generalize ((jt (al av 0) aC l:Nat):Int)=ptv at *
  generalize ((ft (al av 0) aC l:Nat):Int)=chv at *
  refine bD @Gg ?_;refine dW k_ aB ?_;refine bF @Gg @qm ?_;refine⟨_,_,O,.inr ⟨br,_,O,z0,p,O,λo=>?_⟩⟩;rcases k.M with z2|⟨z2,-⟩
  .exact z2
  .exact absurd z2 o
def JC(n):(V.v (.int .i64 n)).bP=J [((n:Int):V)]:=rfl
def apJ(r)(o):(V.ptr r o).bP=J [.ptr r o]:=rfl
section
open Go.Proofs.Tryz renaming func156->Q51
open Go.Proofs.YtcbhpkjbiehcpaaGreatDoor renaming azp->Q52
def an5(n)(h):W5.call 156 [im n] h=J (.ret (.v (.bool (nH n))),h):=ZS9
end
def alN(H)(b)(k)(c:H.I[b]?=J [((k:Int):V)])(q):∃H',W5.call 155 [.agg (bB q),.ptr (.box b) 0] H=J (.ret (.v (.bool (decide (q.bN=k)))),H')/\Ext H H':=by have d:(V.agg (bB q)).bP=J (bB q):=rfl;have f:aL ag Gt (H.push (bB q)) 3 (.ptr (.box (F H.I)) 0)=J ((q.bN:Int):V):=eu eH (aU _ _) O;have g:aL ag Gt (H.push (bB q)) 3 (.ptr (.box b) 0)=J ((k:Int):V):=eu eH (aX c) O;refine iG O Tryz.func155 O ?_;clear c;refine dA @asx @bC @jp ?_;exact⟨_,O,.push _ _⟩
def aiu(h:ah)(c:Nat)(cs:List V)(L:V)(l:List Pr)(d:Int)(j:List Int)(z0:V)(S:h.I[c]?=J cs)(o:cs[5]?=J L)(hp:PL L l)(hl:F l<=1000000)(N:IL z0 j)(wp:F j<=1000):
 ∃r h',W5.call 77 [.ptr (.box c) 0,((d:Int):V),z0] h=J (r,h')/\Ext h h'/\
  (((tY l d=aq∨j.all cG=au)/\r=.ret (.tuple [.agg (bB ⟨0,0,0,0⟩),.v (.int .i64 1)]))∨∃q,tY l d=J q/\j.all cG=aa/\r=.ret (.tuple [.agg (bB q),.v (.int .i64 0)])):=by
 have zc:=DL;have E:((h.push [((d:Int):V)]).push (bB ⟨0,0,0,0⟩)).I[F h.I]?=J [((d:Int):V)]:=aX (aU _ _);have y:((h.push [((d:Int):V)]).push (bB ⟨0,0,0,0⟩)).I[c]?=J cs:=aX (aX S);have H:=aU (h.push [((d:Int):V)]) (bB ⟨0,0,0,0⟩);obtain⟨_,i,c1,u,D⟩:=alh 155 [.ptr (.box (F h.I)) 0] (λz3=>decide (z3.bN=d)) ((h.push [((d:Int):V)]).push (bB ⟨0,0,0,0⟩)) L l hp hl (λq _ z1 hX=>alN z1 (F h.I) d (hX.box _ _ E) q);have l0:aL ag Gt ((h.push [((d:Int):V)]).push (bB ⟨0,0,0,0⟩)) 32 (.ptr (.box c) 5)=J L:=eu S9 y o;have l1:aL ag Gt i 32 (.ptr (.box c) 5)=J L:=eu S9 (u.box _ _ y) o;have k:=u.box _ _ H;have l2:=wB k;have st0:b9 ag i 46 (.ptr (.box (F (h.push [((d:Int):V)]).I)) 0) (.agg (bB ⟨0,0,0,0⟩))=J i:=by rw[fI (off:=0) (xs:=bB ⟨0,0,0,0⟩) O vD k O (bh 4),vA O,ju k]
 have z:=HU (pr:=Da) O O 156 [] nH i z0 j N af (λn _=>an5 n _);have g:=Mo j;have X3:=aj.mk (((Ext.push h [((d:Int):V)]).trans (Ext.push _ (bB ⟨0,0,0,0⟩))).trans u);have v:=(bk.1 k).1;have w:∀q:Pr,b9 ag i 46 (.ptr (.box (F (h.push [((d:Int):V)]).I)) 0) (.agg (bB q))=J (i.put (F (h.push [((d:Int):V)]).I) (bB q))/\aL ag Gt (i.put (F (h.push [((d:Int):V)]).I) (bB q)) 46 (.ptr (.box (F (h.push [((d:Int):V)]).I)) 0)=J (.agg (bB q)):=λq=>by refine⟨?_,wB (dM v)⟩;rw[fI (off:=0) (xs:=bB q) O vD k O (bh 4)];rfl
 have K:∀q:Pr,Ext h (i.put (F (h.push [((d:Int):V)]).I) (bB q)):=λq=>X3.M.gw (by rw[bV];omega) _;have kq:=aj.mk (ar w K);rw[bV]at l2 st0;have kp:=aj.mk hp;unfold tY;clear E y H S o k u N w K hp v;refine cA O Tryz.func77 O ?_;unfold im at *
 rcases D with⟨p1,rfl⟩|⟨z2,q,rfl,t,p3⟩
 .have B:=aj.mk p1;clear p1 z;refine cg @QK @bC @bV (ar @qm @JC) ?_;exact⟨_,_,O,X3.M,.inl ⟨.inl B.M,O⟩⟩
 .have B:=aj.mk (ar t p3);have Z:=(bk.1 t).1;have ix:=kp.M.ix Z;have ld:=vm (H:=i) (s:=4) t;have akA:decide (((z2:Nat):Int)<0)=au:=cR af;obtain⟨s1,s2⟩:=kq.M.1 q;rw[bV]at s1 s2;have m:=kq.M.2 q;rw[bV]at m;have kXQ:=aj.mk m;clear m;clear t p3;cases p:j.any nH with|true=>rw[p]at z g;have A:=aj.mk g;clear p g;refine cg @QK @bC @bV (ar @qm @JC) ?_;exact⟨_,_,O,X3.M,.inl ⟨.inr A.M.symm,O⟩⟩|false=>rw[p]at z g;have A:=aj.mk g;clear p g;refine cg @QK @bC @bV (ar @qm @JC) ?_;exact⟨_,_,O,kXQ.M,.inr ⟨q,B.M.2,A.M.symm,O⟩⟩
def asY:Tryz.f78.results.toList=[.tmp 4]:=aB
def Gf:Tryz.f157.results.toList=[]:=aB
def fU(ae:List Int)(c:Int)(k:Nat):List Nat:=(bT k).filter λd=>decide (al ae d=c)
def J'{ae}{c}{k}(h:al ae k=c):fU ae c (k+1)=fU ae c k++[k]:=by unfold fU;rw[lP,A_,List.filter_cons_of_pos (by simp[h])];rfl
def Dk{ae}{c}{k}(h:al ae k≠c):fU ae c (k+1)=fU ae c k:=by unfold fU;rw[lP,A_,List.filter_cons_of_neg (by simp[h])];simp
def aap(ae)(c):fU ae c (F ae)=oU ae c:=rfl
def ash(h:ah)(c:Nat)(d:Int):W5.call 78 [.ptr (.box c) 0,((d:Int):V)] h=J (.ret (.func (.func 157) [] [.ptr (.box (F h.I)) 0,.ptr (.box (F h.I+1)) 0]),(h.push [.ptr (.box c) 0]).push [((d:Int):V)]):=by refine da O Tryz.func78 O ?_;exact iH @asY @bC @bV (ar @JC @apJ)
def asl(l u q c:Nat)(Y:V)(ae:List Int)(d:Int)(Inv:Nat->ah->Prop)(Stop:ah->Prop)(E:IL Y ae)(Cl:F ae<=1000000)
 (t:∀k H,Inv k H->H.I[u]?=J [.ptr (.box c) 0]/\H.I[q]?=J [((d:Int):V)]/\∃cs,H.I[c]?=J cs/\cs[2]?=J Y)
 (y:∀k H,k<F ae->al ae k=d->Inv k H->(∃H',W5.round l [((k:Nat):V)] H=J (.ret (aa:V),H')/\Inv (k+1) H')∨∃H',W5.round l [((k:Nat):V)] H=J (.ret (au:V),H')/\Stop H')
 (z:∀k H,k<F ae->al ae k≠d->Inv k H->Inv (k+1) H)
 (m:ah) (r:Inv 0 m):∃H',W5.call 157 [.yield l,.ptr (.box u) 0,.ptr (.box q) 0] m=J (.ret (.tuple []),H')/\(Inv (F ae) H'∨Stop H'):=by
 have o:=aj.mk (ar t (ar y (ar z (ar r E))));obtain⟨v,-,cs,b3,b4⟩:=t 0 m r;have K:aL ag Gt m 121 (.ptr (.box u) 0)=J (.ptr (.box c) 0):=eu Bp v O;have N:aL ag Gt m 23 (.ptr (.box c) 2)=J Y:=eu mV b3 b4;have ln:=E.dw;clear t y z r E v b3 b4;refine iG O Tryz.func157 O ?_;refine cg @Gf @qm @iM @aio ?_;refine cJ (λz0 e H=>∃k:Nat,k<=F ae/\z0=F ae-k/\aj (Inv k H)/\e.get 0=.yield l/\e.get 2=.ptr (.box q) 0/\e.get 11=Y/\e.get 12=(F ae:Nat)/\e.get 13=(k:Nat)/\e.defers=[]) ?_ (F ae) _ _ ?_;rotate_left 1
 .refine⟨0,cC _,O,⟨o.M.2.2.2.1⟩,?_,?_,?_,?_,?_,?_⟩<;>exact gR
 clear K N;rintro z0 e H ⟨k,hk,rfl,g,g0,g2,Z,g12,g13,hd⟩;by_cases j:k<F ae;rotate_left 1
 .have:k=F ae:=by omega
  subst this;refine bD @Gf ?_;exact⟨_,O,.inl g.M⟩
 obtain⟨-,w,-⟩:=o.M.1 k H g.M;have ix:=o.M.2.2.2.2.ix j;have ld:=eI (H:=H) (l:=ae) (i:=k) (s:=1) j;have lk:aL ag Gt H 3 (.ptr (.box q) 0)=J ((d:Int):V):=eu eH w O;have D:(k:Int)<(F ae:Int):=by omega
 clear w;by_cases hc:al ae k=d
 .have B:decide (al ae k=d)=aa:=cD hc;rcases o.M.2.1 k H j hc g.M with⟨H',S,p⟩|⟨H',S,p⟩
  .have f:=aj.mk p;clear p hc g;generalize al ae k=A at *
   refine bF @Gf @zr ?_;exact⟨F ae-(k+1),by omega,k+1,by omega,O,f,by simp⟩
  .have f:=aj.mk p;clear p hc g;generalize al ae k=A at *
   refine bF @Gf @zr ?_;exact⟨_,O,.inr f.M⟩
 .have B:decide (al ae k=d)=au:=cR hc;have f:=aj.mk (o.M.2.2.1 k H j hc g.M);clear hc g;generalize al ae k=A at *
  refine bF @Gf @zr ?_;exact⟨F ae-(k+1),by omega,k+1,by omega,O,f,by simp⟩
def axf:(gp ag 121).bind V.bP=J [.v (.pointer aq)]:=aB
def avm{H:ah}(c):b9 ag (H.push [.v (.pointer aq)]) 121 (.ptr (.box (F H.I)) 0) (.ptr (.box c) 0)=J (H.push [.ptr (.box c) 0]):=j3 O aB O rfl
def awJ{U}{ae av}{ep}{aC}{l}(h:eK U ae ep av aC l=0):
 ∃y,fm U ae (l.map Pr.bN)=(y,aa,0)/\gh U ae l=y/\F y=F U:=by
 have d:=h;unfold eK at h;rw[aV (by simp[(HH d).1])]at h;split at h
 .simp at h
 .split at h
  .simp at h
  .split at h
   .simp at h
   .split at h
    .simp at h
    .cases c:fm U ae (l.map Pr.bN) with
     |mk y f=>
      obtain⟨k,e⟩:=f;rw[c]at h;simp only at h;split at h
      .simp at h
      .rename_i j;simp only[not_or,Lp,Bool.not_eq_false]at j;obtain⟨g,i,-⟩:=j;subst g;subst i;exact⟨y,O,by unfold gh;rw[c],(xw c).2.2.1⟩
def atO(c o):dh (.ptr (.box c) o) (.ptr (.box c) o)=aa:=by rw[dh,Kt,acT,acT];rfl
def aoI{l}{c}{q}(h:tY l c=J q):q∈l/\q.bN=c:=by unfold tY at h;refine⟨List.mem_of_find?_eq_some h,?_⟩;have:=List.find?_some h;simpa using this
end Go.Proofs.YtcbhpkjbiehcpaaGreatDoor
end
section
namespace Go.AE
section
variable {P:Program} {G:Nat->Option (List V)} {R:Rec}
def aa4{ops:Array Oper}{e:Env}{h:ah}{i j:Nat}{o:Oper}{t:TypeId}{a:ck}(m:oB ops i j=aa)(d:ops[j]?=J o)(f:o.op=.load t a)
 (k:(ops[i]?).map (λo=>iR o.op)=J .iO) {x v:V} (B:dh v v=aa)
 (z:cO P G R ops (ops.toList.take j) e h (λq g r=>q=.normal/\fh ops g o=J aa/\g.eval a=x/\aL P G r t x=J v))
 (A:cO P G R ops (ops.toList.take i) e h (λq _ p=>q=.normal/\aL P G p t x=J v)):jZ P G R ops e h i j=aa:=by
 have K:i<ops.size:=by
  rcases eg i ops.size with c|c
  .exact c
  .rw[KX c]at k;cases k
 have E:j<ops.size:=by
  rcases eg j ops.size with c|c
  .exact c
  .rw[KX c]at d;cases d
 have hc:(ops[j]?).map (λo=>iR o.op)=J .reads:=by rw[d];simp only[gc,f];rfl
 unfold jZ;rw[m,hc,k];simp only[pF];unfold oV;rw[d,oR af,oR af];obtain⟨N,g,r,u,rfl,s,w,y⟩:=z;obtain⟨S,H,p,f1,rfl,f2⟩:=A;rw[u,f1];simp only[s,f,w,y,f2,B]
def auV{ops:Array Oper}{e:Env}{h:ah}{i j:Nat}{o:Oper}{t:TypeId}{a:ck}(k:oB ops i j=aa)(d:ops[j]?=J o)(m:o.op=.load t a)
 (f:(ops[i]?).map (λo=>iR o.op)=J .iO)
 (s:cO P G R ops (ops.toList.take j) e h (λq g w=>q=.normal/\fh ops g o=J au))
 (u:cO P G R ops (ops.toList.take i) e h (λq _ v=>q=.normal)):jZ P G R ops e h i j=aa:=by
 have A:i<ops.size:=by
  rcases eg i ops.size with c|c
  .exact c
  .rw[KX c]at f;cases f
 have y:j<ops.size:=by
  rcases eg j ops.size with c|c
  .exact c
  .rw[KX c]at d;cases d
 have hc:(ops[j]?).map (λo=>iR o.op)=J .reads:=by rw[d];simp only[gc,m];rfl
 unfold jZ;rw[k,hc,f];simp only[pF];unfold oV;rw[d,oR af,oR af];obtain⟨B,g,w,r,rfl,p⟩:=s;obtain⟨E,z,v,f1,rfl⟩:=u;rw[r,f1];simp only[p]
end
end Go.AE
end
section
namespace Go.Proofs.YtcbhpkjbiehcpaaGreatDoor
open Go.AE Go.NT
def jX:Tryz.f30.results.toList=[.cell 14 3,.cell 15 39]:=aB
def asj(ae)(c){k}:∀{n:Nat},k<=n->∃t,fU ae c n=fU ae c k++t:=by
 intro n
 induction n with
 |zero=>intro h;exact⟨[],by rw[(af:k=0)];simp⟩
 |succ n g=>
  intro h;rcases eg n k with i|d
  .exact⟨[],by rw[(af:k=n+1)];simp⟩
  .obtain⟨t,ht⟩:=g d;by_cases f:al ae n=c
   .exact⟨t++[n],by rw[J' f,ht,jx]⟩
   .exact⟨t,by rw[Dk f,ht]⟩
def aoz{U}{ae av}{c}{s}(h:lu U ae av c s=aa){k}(i:k<F ae)(g:al ae k=c):
 ∃p,s[F (fU ae c k)]?=J p/\p.1=((k:Nat):Int)/\AO U av p=aa:=by
 unfold lu at h;rw[bQ,decide_eq_true_eq]at h;obtain⟨f,d⟩:=h;obtain⟨j,ht⟩:=asj ae c (af:k+1<=F ae);rw[aap,J' g]at ht;have e:(s.map jz)[F (fU ae c k)]?=J ((k:Nat):Int):=by rw[f,ht,eF,jx,xm (bh _),sW];rfl
 rw[eF]at e;cases hp:s[F (fU ae c k)]? with
 |none=>rw[hp]at e;cases e
 |some p=>rw[hp]at e;injection e with e;rw[ff]at d;exact⟨p,O,e,d p (dy hp)⟩
def GC{H}{b}{x}{n}(c:H.I[b]?=J [x]):b9 ag H 3 (.ptr (.box b) 0) ((n:Int):V)=J (H.put b [((n:Int):V)]):=fI (off:=0) (cs:=[x]) (xs:=[((n:Int):V)]) O fa c O (bh 1)
def Mm:f' ag 72=J au:=aB
def GB{H}{b}{x}{n}(c:H.I[b]?=J [x]):b9 ag H 39 (.ptr (.box b) 0) ((n:Int):V)=J (H.put b [((n:Int):V)]):=fI (off:=0) (cs:=[x]) (xs:=[((n:Int):V)]) O abx c O (bh 1)
def axc:(gp ag 3).bind V.bP=J [.v (.int .i64 0)]:=aB
def axa:(gp ag 39).bind V.bP=J [.v (.int .i64 0)]:=aB
def awY{y}{s:List (Int × Int)}{i}{p}(h:s[i]?=J p):jM y (s.take (i+1))=cX (jM y (s.take i)) (cV (al y p.1.toNat) p.2):=by unfold jM;rw[ga h,ot];rfl
def SL.ix{x}{l}(h:SL x l){i}(hi:i<F l):dU ag 72 x ((i:Nat):V)=J (.elem 2 (bY l) i 0):=by obtain⟨f,j,rfl,d⟩:=h;have c:j=2:=d (by intro g;rw[g]at hi;simp at hi);subst c;have:=bj (k:=f) (kk:=.i64) (es:=bY l) (a:=((i:Nat):Int)) Hu GH af (by rw[sH];omega);rw[this,fe]
def SL.dw{x}{l}(h:SL x l):dw ag 72 x=J ((F l:Nat):V):=by obtain⟨d,f,rfl,-⟩:=h;have c:=Hu;unfold Go.AE.dw;rw[c];simp only[sH]
def SL.bP{x}{l}(h:SL x l):x.bP=J [x]:=by obtain⟨c,d,rfl,-⟩:=h;rfl
structure Ea(Hb:ah)(li:Nat)(rec:ij)(abu ib zb eb:Nat)(U:List (List Int))(ae av W:List Int)(bN:Int)(s:List (Int × Int))(k:Nat)(H:ah):Prop where
 lp:H.aI[li]?=J rec
 fG:∀(a:Nat) (cs:List V),Hb.I[a]?=J cs->a≠abu->a≠ib->H.I[a]?=J cs
 sum:H.I[abu]?=J [((jM W (s.take (fU ae bN k).length):Int):V)]
 ix:H.I[ib]?=J [(((fU ae bN k).length:Nat):V)]
 le:(fU ae bN k).length<=s.length
 same:(s.take (fU ae bN k).length).map jz=(fU ae bN k).map λ(i:Nat)=>(i:Int)
 ok:(s.take (fU ae bN k).length).all (AO U av)=aa
structure Eb(li:Nat)(rec:ij)(zb eb:Nat)(H:ah):Prop where
 lp:H.aI[li]?=J {rec with state:=.done,pending:=J .ret}
 z:H.I[zb]?=J [.v (.int .i64 0)]
 e:H.I[eb]?=J [.v (.int .i64 340)]
def agH{U}{ae av}(c:cI U ae=0)(d:F av=cr U)(f:av.all cq=aa):iZ U ae av=0:=by unfold iZ;rw[aV (by simp[c]),aH (by rw[cD d,f];rfl)]
def aiz{U}{ae av}(hc:iZ U ae av=0){k}{v}(f:k<F U):
 (AO U av (((k:Nat):Int),v)=aa/\qY U ae av (((k:Nat):Int),v)=(aa,0))∨(AO U av (((k:Nat):Int),v)=au/\(qY U ae av (((k:Nat):Int),v)=(au,340)∨qY U ae av (((k:Nat):Int),v)=(au,0))):=by
 have d:ug U (((k:Nat):Int),v)=cG v:=by unfold ug;rw[cD (show(0:Int)<=((k:Nat):Int) by omega),cD (show((k:Nat):Int)<(F U:Int) by omega)];rfl
 unfold AO qY;rw[aV (by simp[hc]),d];simp only[fe];cases g:cG v with
 |false=>exact .inr ⟨O,.inl O⟩|true=>
  by_cases c:cN Gn v=qI av (U.getD k [])
  .left;rw[cD c];exact⟨O,O⟩
  .right;rw[cR c];exact⟨O,.inr O⟩
def zE{Hx}{zb eb}{x y}(g:Hx.I[zb]?=J [x])(d:Hx.I[eb]?=J [y])(c:zb≠eb)(n m):
 b9 ag Hx 3 (.ptr (.box zb) 0) ((n:Int):V)=J (Hx.put zb [((n:Int):V)])/\aL ag Gt Hx 39 (.ptr (.box eb) 0)=J y/\aL ag Gt (Hx.put zb [((n:Int):V)]) 39 (.ptr (.box eb) 0)=J y/\
  b9 ag (Hx.put zb [((n:Int):V)]) 39 (.ptr (.box eb) 0) ((m:Int):V)=J ((Hx.put zb [((n:Int):V)]).put eb [((m:Int):V)])/\
  aL ag Gt ((Hx.put zb [((n:Int):V)]).put eb [((m:Int):V)]) 3 (.ptr (.box zb) 0)=J ((n:Int):V)/\aL ag Gt ((Hx.put zb [((n:Int):V)]).put eb [((m:Int):V)]) 39 (.ptr (.box eb) 0)=J ((m:Int):V):=by
 have i:=(bk.1 g).1;have f:=(bk.1 d).1;have o:(Hx.put zb [V.v (.int .i64 n)]).I[eb]?=J [y]:=by rw[cS (Ne.symm c)];exact d
 have j:((Hx.put zb [V.v (.int .i64 n)]).put eb [V.v (.int .i64 m)]).I[zb]?=J [((n:Int):V)]:=by rw[cS c];exact dM i
 have k:((Hx.put zb [V.v (.int .i64 n)]).put eb [V.v (.int .i64 m)]).I[eb]?=J [((m:Int):V)]:=dM (by rw[jV];exact f);exact⟨GC g,eu yW d O,eu yW o O,GB o,eu eH j O,eu yW k O⟩
def na(U:List (List Int))(ae:List Int)(ep:Int)(av:List Int)(aC:List UInt8)(l:List Pr)(c:Int)(s:List (Int × Int))(d f:Int):Int × Int:=
 if eK U ae ep av aC l≠0 then (0,eK U ae ep av aC l) else yl U ae av aC l c s d f
def ank{U}{ae av}{aC}{l}{c}{s}{d f}(h:tY l c=aq∨[d,f].all cG=au):yl U ae av aC l c s d f=(0,1):=by
 unfold yl;cases hp:tY l c with
 |none=>rfl|some x=>
  rcases h with q|q
  .rw[hp]at q;cases q
  .have:(cG d&&cG f)=au:=(by simpa using q);simp only[this];rfl
def anm{U}{ae av}{aC}{l}{c}{s}{d f}{x}(h:tY l c=J x)(g:[d,f].all cG=aa):yl U ae av aC l c s d f=
 if lu U ae av c s=au then (0,340) else if ¬((cN Gn d:Nat):Int)=x.d∨¬((cN Gn f:Nat):Int)=x.e then (0,420)
 else (cX (cX d (cV f (gJ (al av 0) aC l c))) (cV (ft (al av 0) aC l) (jM (gh U ae l) s)),0):=by
 unfold yl;have:(cG d&&cG f)=aa:=by simpa using g
 rw[h];simp only[this];cases lu U ae av c s<;>rfl
def afu(a b):fC ag 23 2 [(0,((a:Int):V)),(1,((b:Int):V))]=J (.ac .aP 1 (aF [a,b])):=aB
def anf(h:ah)(fR:du h=aa)(ep:Int)(X Y C T L zd:V)(U:List (List Int))(ae av:List Int)(aC:List UInt8)(l:List Pr)(s:List (Int × Int))(c d f:Int)
 (hx:RL X U) (E:IL Y ae) (hc:IL C av) (ht:BL T aC) (hp:PL L l) (hs:SL zd s) (fw:F av<=1000000) (gU:F l<=1000000) (nX:F s<=1000000):
 ∃r h',W5.call 30 [.agg (aJ ep X Y C),T,L,((c:Int):V),zd,((d:Int):V),((f:Int):V)] h=J (r,h')/\r=.ret (.tuple [(((na U ae ep av aC l c s d f).1:Int):V),(((na U ae ep av aC l c s d f).2:Int):V)]):=by
 have bx:=mD (ep:=ep) hx E hc;have bS:=hs.bP;have zc:=axf;have zp:=DL;have z3:=axc;have z32:=axa;obtain⟨h0,Cf⟩:∃h0,(((h.push (aJ ep X Y C)).push [zd]).push [.v (.int .i64 0)]).push [.v (.int .i64 0)]=h0:=⟨_,O⟩;obtain⟨sb,FD⟩:∃n,F (h.push (aJ ep X Y C)).I=n:=⟨_,O⟩;obtain⟨t,OR⟩:∃n,F ((h.push (aJ ep X Y C)).push [zd]).I=n:=⟨_,O⟩;obtain⟨k,NX⟩:∃n,F (((h.push (aJ ep X Y C)).push [zd]).push [.v (.int .i64 0)]).I=n:=⟨_,O⟩;obtain⟨kb,N8⟩:∃n,F h.I=n:=⟨_,O⟩;have o1:kb<sb/\sb<t/\t<k:=by rw[<-N8,<-FD,<-OR,<-NX];simp only[bV];omega
 have gk:h0.I[kb]?=J (aJ ep X Y C):=by rw[<-Cf,<-N8];exact aX (aX (aX (aU _ _)))
 have gs:h0.I[sb]?=J [zd]:=by rw[<-Cf,<-FD];exact aX (aX (aU _ _))
 have gz:h0.I[t]?=J [.v (.int .i64 0)]:=by rw[<-Cf,<-OR];exact aX (aU _ _)
 have ge:h0.I[k]?=J [.v (.int .i64 0)]:=by rw[<-Cf,<-NX];exact aU _ _
 have Oh:du h0=aa:=by rw[<-Cf];exact fR
 obtain⟨r1,h1,c1,x1,post⟩:=Tv h0 Oh ep X Y C T L U ae av aC l hx E hc ht hp fw gU;have l0:aL ag Gt h0 27 (.ptr (.box kb) 0)=J (.agg (aJ ep X Y C)):=by rw[fS aB (by kernel_rfl:cQ ag 27=J 4) gk (lQ O)];rfl
 have kE1:aj (eK U ae ep av aC l≠0->na U ae ep av aC l c s d f=(0,eK U ae ep av aC l)):=⟨λp=>by unfold na;rw[aH p]⟩;have kE2:aj (eK U ae ep av aC l=0->na U ae ep av aC l c s d f=yl U ae av aC l c s d f):=⟨λp=>by unfold na;rw[aV (by simp[p])]⟩;have kbo:=aj.mk (λp=>@HH U ae av ep aC l p);have kwt:=aj.mk (λp=>@awJ U ae av ep aC l p);have kf:=aj.mk (ar hx (ar E (ar hc (ar hp hs))));have gk1:=x1.box _ _ gk;have gs1:=x1.box _ _ gs;have iU:=x1.box _ _ gz;have ge1:=x1.box _ _ ge;have Fs:=x1.ok Oh;have lS:=hs.dw;generalize na U ae ep av aC l c s d f=res at *
 generalize eK U ae ep av aC l=be at *
 have WJ:=(bk.1 ge1).1;clear hx E hc ht hp hs x1 gk gs gz ge Oh fR;refine cA O Tryz.func30 O ?_;rcases post with⟨p,rfl⟩|⟨p,z0,Wt,rfl,uX,zi⟩
 .have kr:=aj.mk (kE1.M p);have stn:b9 ag (h1.push [.v (.pointer aq)]) 121 (.ptr (.box (F h1.I)) 0) (.v (.pointer aq))=J (h1.push [.v (.pointer aq)]):=j3 O aB O O;have ste:b9 ag (h1.push [.v (.pointer aq)]) 39 (.ptr (.box k) 0) ((be:Int):V)=J ((h1.push [.v (.pointer aq)]).put k [((be:Int):V)]):=GB (aX ge1);obtain⟨a1,a2,a3,a4,a5,a6⟩:=zE (Hx:=(h1.push [.v (.pointer aq)]).put k [((be:Int):V)]) (zb:=t) (eb:=k) (x:=.v (.int .i64 0)) (y:=((be:Int):V)) (by rw[cS af];exact aX iU) (dM (by rw[bV];omega)) af 0 be;clear kE1 kE2 kbo kwt gk1 gs1 iU ge1 Fs;refine bF @jX @bC ?_;refine jY [(0,1)] k_ aB (λz9 hp=>?_) ?_
  .simp only[iL]at hp;subst hp;refine jL (x:=.ptr (.box k) 0) (v:=((be:Int):V)) aB O O O aB (by simp[dh,iz]) ?_ ?_<;>(simp only[dY,dG];exact f_ @jX @and_self)
  refine bD @jX ?_;exact⟨_,_,O,by rw[kr.M]⟩
 obtain⟨p1,p2,p3,p4,p5,p6⟩:=kbo.M p;obtain⟨zh,w1,w2,w3⟩:=kwt.M p;have m:=kE2.M p;have N:=agH p1 p2 p3;subst p;clear kE1 kE2 kbo kwt;obtain⟨z,u_⟩:∃z,h1.push [.ptr (.box z0) 0]=z:=⟨_,O⟩;obtain⟨wb,Je⟩:∃n,F h1.I=n:=⟨_,O⟩;have stn:b9 ag (h1.push [.v (.pointer aq)]) 121 (.ptr (.box wb) 0) (.ptr (.box z0) 0)=J z:=by rw[<-u_,<-Je];exact avm z0
 have gk2:z.I[kb]?=J (aJ ep X Y C):=by rw[<-u_];exact aX gk1
 have gs2:z.I[sb]?=J [zd]:=by rw[<-u_];exact aX gs1
 have f_:z.I[t]?=J [.v (.int .i64 0)]:=by rw[<-u_];exact aX iU
 have ge2:z.I[k]?=J [.v (.int .i64 0)]:=by rw[<-u_];exact aX ge1
 have gw2:z.I[wb]?=J [.ptr (.box z0) 0]:=by rw[<-u_,<-Je];exact aU _ _
 have ste:b9 ag z 39 (.ptr (.box k) 0) (.v (.int .i64 0))=J z:=by rw[GB ge2,ju ge2]
 have le2:aL ag Gt z 39 (.ptr (.box k) 0)=J (.v (.int .i64 0)):=eu yW ge2 O;have lw2:aL ag Gt z 121 (.ptr (.box wb) 0)=J (.ptr (.box z0) 0):=eu Bp gw2 O;have W2:uE z z0 ep X Y C T L Wt ((jt (al av 0) aC l:Nat):Int) ((ft (al av 0) aC l:Nat):Int) av aC l:=by rw[<-u_];exact zi.mono (.push _ _)
 have Ck:du z=aa:=by rw[<-u_];exact Fs
 obtain⟨b,vr,w4,-⟩:=W2.rx;obtain⟨_,h3,c2,x3,post⟩:=aiu z z0 _ L l c [d,f] (.ac .aP 1 (aF [d,f])) w4 O kf.M.2.2.2.1 gU ⟨_,_,O,λ_=>rfl⟩ cE;have bl:=afu d f;have ayJ:k<wb:=by rw[<-Je];exact WJ
 clear w4 zi gk1 gs1 iU ge1 Fs WJ;have qn:=x3.box _ _ f_;have ge3:=x3.box _ _ ge2;rcases post with⟨p,rfl⟩|⟨x,q1,q2,rfl⟩
 .have kr:=aj.mk (m.trans (ank p));have sq:=DH (H:=h3) ⟨0,0,0,0⟩;have se:b9 ag (h3.push (bB ⟨0,0,0,0⟩)) 39 (.ptr (.box k) 0) (.v (.int .i64 1))=J ((h3.push (bB ⟨0,0,0,0⟩)).put k [.v (.int .i64 1)]):=GB (aX ge3);obtain⟨a1,a2,a3,a4,a5,a6⟩:=zE (Hx:=(h3.push (bB ⟨0,0,0,0⟩)).put k [.v (.int .i64 1)]) (zb:=t) (eb:=k) (x:=.v (.int .i64 0)) (y:=.v (.int .i64 1)) (by rw[cS af];exact aX qn) (dM (by rw[bV];have:=(bk.1 ge3).1;omega)) af 0 1;clear m p W2 x3 gk2 gs2 f_ ge2 gw2 Ck qn ge3 p1 p2 p3 p6 w1 w2 w3 N uX;refine bF @jX @bC ?_;refine jY [(0,1)] k_ aB (λz9 hp=>?_) ?_
  .simp only[iL]at hp;subst hp;refine jL (x:=.ptr (.box k) 0) (v:=.v (.int .i64 1)) aB O O O aB (by simp[dh,iz]) ?_ ?_<;>(simp only[dY,dG];exact f_ @jX @and_self)
  refine bD @jX ?_;exact⟨_,_,O,by rw[kr.M]⟩
 rw[anm q1 q2]at m;obtain⟨fF,wr⟩:=aoI q1;have hm:=AG p6 x fF;have sq:=DH (H:=h3) x;obtain⟨h4,II⟩:∃h4,h3.push (bB x)=h4:=⟨_,O⟩;obtain⟨pb,Oq⟩:∃n,F h3.I=n:=⟨_,O⟩;rw[II,Oq]at sq;have o3:wb<pb:=by have i:=(bk.1 gw2).1;have A:=x3.len;omega
 have X4:Ext z h4:=by rw[<-II];exact x3.trans (.push _ _)
 have gk4:=X4.box _ _ gk2;have gs4:=X4.box _ _ gs2;have iH:=X4.box _ _ f_;have ge4:=X4.box _ _ ge2;have gw4:=X4.box _ _ gw2;have gp4:h4.I[pb]?=J (bB x):=by rw[<-II,<-Oq];exact aU _ _
 have W4':=W2.mono X4;have ste4:b9 ag h4 39 (.ptr (.box k) 0) (.v (.int .i64 0))=J h4:=by rw[GB ge4,ju ge4]
 have le4:aL ag Gt h4 39 (.ptr (.box k) 0)=J (.v (.int .i64 0)):=eu yW ge4 O;obtain⟨S,IJ⟩:∃S,(h4.push [.v (.int .i64 0)]).push [.v (.int .i64 0)]=S:=⟨_,O⟩;obtain⟨g,Jc⟩:∃n,F h4.I=n:=⟨_,O⟩;obtain⟨q,xX⟩:∃n,F (h4.push [.v (.int .i64 0)]).I=n:=⟨_,O⟩;have o2:pb<g/\g<q:=by refine⟨?_,by rw[<-Jc,<-xX,bV];omega⟩;rw[<-Jc];exact(bk.1 gp4).1
 have gsum5:S.I[g]?=J [.v (.int .i64 0)]:=by rw[<-IJ,<-Jc];exact aX (aU _ _)
 have gib5:S.I[q]?=J [.v (.int .i64 0)]:=by rw[<-IJ,<-xX];exact aU _ _
 have X5:Ext h4 S:=by rw[<-IJ];exact(Ext.push _ _).trans (.push _ _)
 have st5a:b9 ag S 3 (.ptr (.box g) 0) (.v (.int .i64 0))=J S:=by rw[GC gsum5,ju gsum5]
 have st5b:b9 ag S 3 (.ptr (.box q) 0) (.v (.int .i64 0))=J S:=by rw[GC gib5,ju gib5]
 have gw5:=X5.box _ _ gw4;have lw5:aL ag Gt S 121 (.ptr (.box wb) 0)=J (.ptr (.box z0) 0):=eu Bp gw5 O;have c3:=ash S z0 c;obtain⟨j,zZ⟩:∃j,(S.push [.ptr (.box z0) 0]).push [((c:Int):V)]=j:=⟨_,O⟩;rw[zZ]at c3;have X6:Ext h4 j:=by rw[<-zZ];exact X5.trans ((Ext.push _ _).trans (.push _ _))
 have u:j.I[g]?=J [.v (.int .i64 0)]:=by rw[<-zZ];exact aX (aX gsum5)
 have K:j.I[q]?=J [.v (.int .i64 0)]:=by rw[<-zZ];exact aX (aX gib5)
 have ga6:j.I[F S.I]?=J [.ptr (.box z0) 0]:=by rw[<-zZ];exact aX (aU _ _)
 have gb6:j.I[F S.I+1]?=J [((c:Int):V)]:=by rw[<-zZ];exact nB (by rw[bV])
 have l5:g<F S.I/\q<F S.I:=⟨(bk.1 gsum5).1,(bk.1 gib5).1⟩;have kall:=aj.mk (ar m (ar wr (ar hm (ar w2 (ar w3 uX)))));have kprog:=aj.mk (ar p1 (ar p3 N));have gk6:=X6.box _ _ gk4;have gs6:=X6.box _ _ gs4;have uR:=X6.box _ _ iH;have ge6:=X6.box _ _ ge4;have gw6:=X6.box _ _ gw4;have gp6:=X6.box _ _ gp4;have W6':=W4'.mono X6;have kst:=aj.mk (ar gk6 (ar gs6 (ar uR (ar ge6 (ar gw6 (ar gp6 W6'))))));have sumv:g<F h4.I+1:=by omega
 have kxl:=fF;clear m wr hm w1 w2 w3 uX p1 p3 N gk6 gs6 uR ge6 gw6 gp6 W6' W4' W2 gk4 gs4 iH ge4 gw4 gp4 gk2 gs2 f_ ge2 gw2 qn ge3 q1 q2 fF x3 X4 X5 gw5 gsum5 gib5 Ck p2 p6 sumv;refine bF @jX @bC ?_;refine bM.gen λe4 nV tG Ae Ai=>?_;have f5:e4.get 5=(d:Int):=by rw[nV];exact gS
 have f6:e4.get 6=(f:Int):=by rw[nV];exact gS
 have f7:e4.get 7=.ptr (.box kb) 0:=by rw[nV];exact gS
 have f11:e4.get 11=.ptr (.box sb) 0:=by rw[nV];exact gS
 have f14:e4.get 14=.ptr (.box t) 0:=by rw[nV];exact gS
 have f15:e4.get 15=.ptr (.box k) 0:=by rw[nV];exact gS
 have f16:e4.get 16=.ptr (.box wb) 0:=by rw[nV];exact gS
 have f17:e4.get 17=.ptr (.box pb) 0:=by rw[nV];exact gS
 have f18:e4.get 18=.ptr (.box g) 0:=by rw[nV];exact gS
 have f19:e4.get 19=.ptr (.box q) 0:=by rw[nV];exact gS
 have f47:e4.get 47=.func (.func 157) [] [.ptr (.box (F S.I)) 0,.ptr (.box (F S.I+1)) 0]:=by rw[nV];exact gS
 have fd:e4.defers=[]:=by rw[tG];exact gS
 clear nV tG Ae Ai c1 c2 c3 l0 lS bl stn ste le2 lw2 sq ste4 le4 st5a st5b lw5 zc zp z3 z32 bx bS Cf FD OR NX N8 u_ Je II Oq IJ Jc xX zZ;obtain⟨gk6,gs6,uR,ge6,gw6,gp6,W6⟩:=kst.M;obtain⟨p1,p3,N⟩:=kprog.M;obtain⟨m,wr,hm,w2,w3,uX⟩:=kall.M;have kW:=aj.mk W6;clear kst kprog kall W6;obtain⟨og1,og2,og3,og4⟩:=pD p1;have jS:du j=du j:=rfl;refine Gu (by rw[BS];exact f47) λrec v1 v2 v3 v4 v5 v6=>?_;have nW:(j.loop rec).aI[F j.aI]?=J rec:=@FO j rec;have feed:=asl (F j.aI) (F S.I) (F S.I+1) z0 Y ae c (Ea (j.loop rec) (F j.aI) rec g q t k U ae av (gh U ae l) c s)
  (λz7=>Eb (F j.aI) rec t k z7/\lu U ae av c s=au) kf.M.2.1 af
  (λw z7 p=>by
   obtain⟨b6,vr6,i,-⟩:=kW.M.rx;refine⟨p.fG _ _ ga6 af af,p.fG _ _ gb6 af af,_,p.fG _ _ i (λe=>?_) (λe=>?_),O⟩
   .rw[e]at i;rw[u]at i;unfold gO at i;simp at i
   .rw[e]at i;rw[K]at i;unfold gO at i;simp at i)
  ?_
  (λw z7 hk hc p=>⟨p.lp,p.fG,by rw[Dk hc];exact p.sum,by rw[Dk hc];exact p.ix,by rw[Dk hc];exact p.le,by rw[Dk hc];exact p.same,by rw[Dk hc];exact p.ok⟩)
  (j.loop rec) ⟨nW,λa cs ha _ _=>ha,u,K,cC _,by simp[fU],by simp[fU]⟩
 rotate_left 1
 .intro w z7 hk hc p;have xZ:=p.lp
  suffices hs:∃b H',W5.round (F j.aI) [((w:Nat):V)] z7=J (.ret ((b:Bool):V),H')/\if b=aa then Ea (j.loop rec) (F j.aI) rec g q t k U ae av (gh U ae l) c s (w+1) H' else (Eb (F j.aI) rec t k H'/\lu U ae av c s=au) by
   obtain⟨b,H',q1,q2⟩:=hs;cases b with|true=>exact .inl ⟨H',q1,q2⟩|false=>exact .inr ⟨H',q1,q2⟩
  refine asd (Post:=λb H'=>if b=aa then Ea (j.loop rec) (F j.aI) rec g q t k U ae av (gh U ae l) c s (w+1) H' else (Eb (F j.aI) rec t k H'/\lu U ae av c s=au)) xZ (by rw[v2];rfl) v5 v6 ?_;have r1:∀zg,(oe (F j.aI) rec [((w:Nat):V)]).get zg=if 48=zg then ((w:Nat):V) else e4.get zg:=λzg=>ar8 v2 v1
  have d1:(oe (F j.aI) rec [((w:Nat):V)]).defers=[]:=rfl;obtain⟨z8,hK⟩:∃z8,z7.busy (F j.aI) rec=z8:=⟨_,O⟩;have xQ:∀a:Nat,z8.I[a]?=z7.I[a]?:=λa=>by rw[<-hK];rfl
  have zM:z8.aI[F j.aI]?=J {rec with state:=.busy}:=by rw[<-hK];have:=(bk.1 xZ).1;show(z7.aI.set _ _)[_]?=_;simp[this]
  have y:∀(a:Nat) (cs:List V),j.I[a]?=J cs->a≠g->a≠q->z8.I[a]?=J cs:=λa cs ha n1 n2=>by rw[xQ];exact p.fG a cs ha n1 n2
  have Ci:=y _ _ gk6 af af;have Cu:=y _ _ gs6 af af;have An:=y _ _ uR af af;have zU:=y _ _ ge6 af af;have FI:=y _ _ gw6 af af;have FF:=(xQ g).trans p.sum;have Ch:=(xQ q).trans p.ix;have jR:=p.le;have lib:aL ag Gt z8 3 (.ptr (.box q) 0)=J ((F (fU ae c w):Nat):V):=eu eH Ch O;have lsb:aL ag Gt z8 72 (.ptr (.box sb) 0)=J zd:=eu Mm Cu O;have lSn:=kf.M.2.2.2.2.dw;obtain⟨a1,a2,a3,a4,a5,a6⟩:=zE An zU af 0 340;have Ao:=(bk.1 An).1;have IE:=(bk.1 zU).1;have kstop:aj (∀(o:ah),o.aI[F j.aI]?=J {rec with state:=.busy}->t<F o.I->k<F o.I->Eb (F j.aI) rec t k (((o.put t [.v (.int .i64 0)]).put k [.v (.int .i64 340)]).fV (F j.aI) {rec with state:=.done,pending:=J .ret})):=⟨λo q1 q2 q3=>by
   have gU:=(bk.1 q1).1;refine⟨aaO gU,?_,?_⟩
   .show((o.put t [.v (.int .i64 0)]).put k [.v (.int .i64 340)]).I[t]?=_;rw[cS af];exact dM q2
   .show((o.put t [.v (.int .i64 0)]).put k [.v (.int .i64 340)]).I[k]?=_;exact dM (by rw[jV];exact q3)⟩
  have kown:=aj.mk (λp=>@aoz U ae av c s p w hk hc);have kq:=aj.mk p;have kog:=aj.mk y;obtain⟨Q,hQ⟩:∃Q:Xt->ah->Prop,Q=λzf z=>z.aI[F j.aI]?=J {rec with state:=.busy}/\
   ((zf=.normal/\Ea (j.loop rec) (F j.aI) rec g q t k U ae av (gh U ae l) c s (w+1) (z.fV (F j.aI) rec))∨(zf=.ret/\Eb (F j.aI) rec t k (z.fV (F j.aI) {rec with state:=.done,pending:=J .ret})/\lu U ae av c s=au)):=⟨_,O⟩
  have kQs:aj (∀(o:ah),o.aI[F j.aI]?=J {rec with state:=.busy}->t<F o.I->k<F o.I->lu U ae av c s=au->Q .ret ((o.put t [.v (.int .i64 0)]).put k [.v (.int .i64 340)])):=⟨λo i A z3 z4=>by rw[hQ];exact⟨i,.inr ⟨O,kstop.M o i A z3,z4⟩⟩⟩;have kQn:aj (∀(o:ah),o.aI[F j.aI]?=J {rec with state:=.busy}->Ea (j.loop rec) (F j.aI) rec g q t k U ae av (gh U ae l) c s (w+1) (o.fV (F j.aI) rec)->Q .normal o):=⟨λo i A=>by rw[hQ];exact⟨i,.inl ⟨O,A⟩⟩⟩;rw[hK]
  suffices x_:bM W5 rec.assign (oe (F j.aI) rec [((w:Nat):V)]) z7 (λzf e1 h1=>zf=.normal/\h1=z7/\bM W5 rec.body e1 z8 (λzf _ z=>Q zf z)) by
   obtain⟨zf,e1,D,i,A,z3,o',e2,uV,z4,z5⟩:=x_;refine⟨zf,e1,D,i,A,z3,o',e2,uV,z4,?_⟩;rw[hQ]at z5;obtain⟨z5,z6⟩:=z5;refine⟨z5,?_⟩;rcases z6 with⟨y1,y2⟩|⟨y1,y2⟩
   .exact .inl ⟨y1,y2⟩
   .exact .inr ⟨y1,y2⟩
  clear hQ kstop;rw[v3,v4];rcases eg (F (fU ae c w)) (F s) with dD|pN;rotate_left 1
  .have gq:F (fU ae c w)=F s:=(by omega);have B:lu U ae av c s=au:=by
    cases ho:lu U ae av c s with|false=>rfl|true=>obtain⟨z9,i,-⟩:=kown.M ho;rw[List.getElem?_eq_none af]at i;cases i
   have dd:decide (((F (fU ae c w):Nat):Int)=(F s:Int))=aa:=cD af;have rU:=aj.mk (kQs.M z8 zM Ao IE B);clear gq B pN jR p y xZ hK xQ zM Ci Cu An zU FI FF Ch v1 v2 v3 v4 v5 v6 kQs kQn;generalize F (fU ae c w)=ze at *
   refine xO ?_;exact⟨br,br,rU.M⟩
  obtain⟨z9,hp⟩:∃z9,s[F (fU ae c w)]?=J z9:=⟨_,aY dD⟩;have dd:decide (((F (fU ae c w):Nat):Int)=(F s:Int))=au:=cR af;have ixS:=kf.M.2.2.2.2.ix dD;have ls0:=ams (H:=z8) (s:=2) hp;by_cases vg:z9.1=((w:Nat):Int);rotate_left 1
  .have B:lu U ae av c s=au:=by
    cases ho:lu U ae av c s with|false=>rfl|true=>obtain⟨p',i,A,-⟩:=kown.M ho;rw[hp]at i;injection i with i;subst i;exact absurd A vg
   have dr:decide (z9.1=((w:Nat):Int))=au:=cR vg;have rU:=aj.mk (kQs.M z8 zM Ao IE B);clear B dD jR p y xZ hK xQ zM Ci Cu An zU FI FF Ch v1 v2 v3 v4 v5 v6 kQs kQn hp vg;generalize F (fU ae c w)=ze at *
   refine bD @xM ?_;exact⟨br,br,rU.M⟩
  have N9:w<F U:=by omega
  have dr:decide (((w:Nat):Int)=((w:Nat):Int))=aa:=cD O;obtain⟨pr,pv⟩:=z9;simp only at vg;subst vg;obtain⟨_,o,cf,rfl,xf⟩:=aiy z8 X Y C U ae av kf.M.1 kf.M.2.1 kf.M.2.2.1 fw ((w:Nat):Int) pv;have lk1:aL ag Gt z8 25 (.ptr (.box kb) 1)=J (.agg [X,Y]):=by rw[fS El (by kernel_rfl:cQ ag 25=J 2) Ci (lQ O)];rfl
  have lk3:aL ag Gt z8 23 (.ptr (.box kb) 3)=J C:=eu mV Ci O;have ls81:=Ym (H:=z8) (s:=2) hp;have E7:=xf.loop _ _ zM;have qA:=xf.box _ _ An;have qt:=xf.box _ _ zU;rcases aiz (v:=pv) N N9 with⟨so,fo⟩|⟨so,fo⟩;rotate_left 1
  .have B:lu U ae av c s=au:=by
    cases ho:lu U ae av c s with|false=>rfl|true=>obtain⟨p',i,A,z3⟩:=kown.M ho;rw[hp]at i;injection i with i;subst i;rw[so]at z3;cases z3
   have rU:=aj.mk (kQs.M o E7 (bk.1 qA).1 (bk.1 qt).1 B);obtain⟨t1,t2,t3,t4,t5,t6⟩:=zE qA qt af 0 340;clear B dD jR p y xZ hK xQ zM Ci Cu An zU FI FF Ch v1 v2 v3 v4 v5 v6 kQs kQn hp a1 a2 a3 a4 a5 a6 xf qA qt E7 so;unfold im at cf;rcases fo with fo|fo
   .rw[fo]at cf;clear fo;generalize F (fU ae c w)=ze at *
    refine dA @xM @iM @jF ?_;refine⟨br,br,?_⟩;refine dW k_ aB ?_;refine dA @xM @iM @jF ?_;exact rU.M
   .rw[fo]at cf;clear fo;generalize F (fU ae c w)=ze at *
    refine dA @xM @iM @jF ?_;refine⟨br,br,?_⟩;refine dW k_ aB ?_;refine dA @xM @iM @jF ?_;exact rU.M
  rw[fo]at cf;have rR:=xf.box _ _ FI;have qx:=xf.box _ _ Cu;have Jb:=xf.box _ _ FF;have IK:=xf.box _ _ Ch;obtain⟨b6,vr6,i,-⟩:=kW.M.rx;have jr:z0≠g:=λe=>by rw[e]at i;rw[u]at i;unfold gO at i;simp at i
  have zS:z0≠q:=λe=>by rw[e]at i;rw[K]at i;unfold gO at i;simp at i
  have Wk:=xf.box _ _ (y _ _ i jr zS);have lwb:aL ag Gt o 121 (.ptr (.box wb) 0)=J (.ptr (.box z0) 0):=eu Bp rR O;have lWt:aL ag Gt o 23 (.ptr (.box z0) 6)=J Wt:=eu mV Wk O;have Aw:=uX.ix (i:=w) (by rw[w2,w3];exact N9);have lWk:=eI (H:=o) (l:=gh U ae l) (i:=w) (s:=1) (by rw[w2,w3];exact N9);have lsb2:aL ag Gt o 72 (.ptr (.box sb) 0)=J zd:=eu Mm qx O;have lib2:aL ag Gt o 3 (.ptr (.box q) 0)=J ((F (fU ae c w):Nat):V):=eu eH IK O;have lsum2:aL ag Gt o 3 (.ptr (.box g) 0)=J ((jM (gh U ae l) (s.take (F (fU ae c w))):Int):V):=eu eH Jb O;have ls1:=amt (H:=o) (s:=2) hp;have cm:=Pz (al (gh U ae l) w) pv;have ca:=Hw (jM (gh U ae l) (s.take (F (fU ae c w)))) (cV (al (gh U ae l) w) pv);have iq:=awY (y:=gh U ae l) hp;simp only[fe]at iq;rw[<-iq]at ca;have stS:=GC (n:=jM (gh U ae l) (s.take (F (fU ae c w)+1))) Jb;have N3:(o.put g [((jM (gh U ae l) (s.take (F (fU ae c w)+1)):Int):V)]).I[q]?=J [((F (fU ae c w):Nat):V)]:=by rw[cS af];exact IK
  have lib3:aL ag Gt (o.put g [((jM (gh U ae l) (s.take (F (fU ae c w)+1)):Int):V)]) 3 (.ptr (.box q) 0)=J ((F (fU ae c w):Nat):V):=eu eH N3 O;have stI:=GC (n:=((F (fU ae c w)+1:Nat):Int)) N3;have aj4:((F (fU ae c w)+1:Nat):Int)=(F (fU ae c w):Int)+1:=by omega
  have rU:=aj.mk (kQn.M ((o.put g [((jM (gh U ae l) (s.take (F (fU ae c w)+1)):Int):V)]).put q [((F (fU ae c w)+1:Nat):V)]) E7 (by
   have gU:=(bk.1 E7).1;have akS:=(bk.1 Jb).1;have u':=(bk.1 IK).1;have qu:F (fU ae c (w+1))=F (fU ae c w)+1:=(by rw[J' hc];simp);refine⟨aaO gU,λa cs ha n1 n2=>?_,?_,?_,by omega,?_,?_⟩
   .show((o.put g _).put q _).I[a]?=_;rw[cS n2,cS n1];exact xf.box _ _ (by rw[xQ];exact p.fG a cs ha n1 n2)
   .show((o.put g _).put q _).I[g]?=_;rw[cS af,qu];exact dM akS
   .show((o.put g _).put q _).I[q]?=_;rw[qu];exact dM (by rw[jV];exact u')
   .rw[qu,ga hp,jN,p.same,J' hc,jN];rfl
   .rw[qu,ga hp,qP,p.ok,pF];simp[so]))
  clear jR p y xZ hK xQ zM Ci Cu An zU FI FF Ch v1 v2 v3 v4 v5 v6 kQs kQn hp a1 a2 a3 a4 a5 a6 xf qA qt E7 so fo rR qx Jb IK N3 Wk i iq w2 w3;unfold im at *
  generalize F (fU ae c w)=ze at *
  generalize jM (gh U ae l) (s.take ze)=sv at *
  generalize jM (gh U ae l) (s.take (ze+1))=sv2 at *
  generalize cV (al (gh U ae l) w) pv=mv at *
  generalize al (gh U ae l) w=wv at *
  rw[aj4]at stI rU;refine dA @xM @iM @jF ?_;refine⟨br,br,?_⟩;refine dW k_ aB ?_;refine cg @xM @U4 @iM @jF ?_;refine dW k_ aB ?_;refine dA @xM @U4 @qm ?_;exact rU.M
 .obtain⟨Hf,cF,hF⟩:=feed;rcases hF with p|⟨p,B⟩;rotate_left 1
  .have Fy:res=(0,340):=(by rw[m,aH B]);have kr:=aj.mk Fy;refine⟨_,_,cF,_,p.lp,(bm:LoopState.done≠ .busy),.inr ⟨O,?_⟩⟩;have qz:(Hf.fV (F j.aI) {rec with state:=.exhausted,pending:=J .ret}).I[t]?=J [.v (.int .i64 0)]:=p.z;have qe:(Hf.fV (F j.aI) {rec with state:=.exhausted,pending:=J .ret}).I[k]?=J [.v (.int .i64 340)]:=p.e;have lz:aL ag Gt (Hf.fV (F j.aI) {rec with state:=.exhausted,pending:=J .ret}) 3 (.ptr (.box t) 0)=J (.v (.int .i64 0)):=eu eH qz O;have le:aL ag Gt (Hf.fV (F j.aI) {rec with state:=.exhausted,pending:=J .ret}) 39 (.ptr (.box k) 0)=J (.v (.int .i64 340)):=eu yW qe O;clear cF p B m Fy kf kW gk6 gs6 uR ge6 gw6 gp6 ga6 gb6 u K hm w2 w3 uX p1 p3 N og1 og2 og3 og4 nW v1 v2 v3 v4 v5 v6 qz qe wr;refine bD @jX ?_;exact⟨_,_,O,by rw[kr.M]⟩
  refine⟨_,_,cF,_,p.lp,by rw[v5];decide,.inl ⟨v6,?_⟩⟩;obtain⟨HF,B8⟩:∃HF,Hf.fV (F j.aI) {rec with state:=.exhausted}=HF:=⟨_,O⟩;have rf:∀a:Nat,HF.I[a]?=Hf.I[a]?:=λa=>by rw[<-B8];rfl
  have y:∀(a:Nat) (cs:List V),j.I[a]?=J cs->a≠g->a≠q->HF.I[a]?=J cs:=λa cs ha n1 n2=>by rw[rf];exact p.fG a cs ha n1 n2
  have FA:=y _ _ gs6 af af;have Am:=y _ _ uR af af;have zT:=y _ _ ge6 af af;have CB:=y _ _ gw6 af af;have Af:=y _ _ gp6 af af;have H:=(rf g).trans p.sum;have Cg:=(rf q).trans p.ix;have jR:=p.le;have Z:=p.same;have Aa:=p.ok;rw[aap]at H Cg jR Z Aa;rw[B8];have lib:aL ag Gt HF 3 (.ptr (.box q) 0)=J ((F (oU ae c):Nat):V):=eu eH Cg O;have lsb:aL ag Gt HF 72 (.ptr (.box sb) 0)=J zd:=eu Mm FA O;have lSn:=kf.M.2.2.2.2.dw;rcases eg (F (oU ae c)) (F s) with dD|pN
  .have B:lu U ae av c s=au:=by
    cases ho:lu U ae av c s with|false=>rfl|true=>unfold lu at ho;rw[bQ,decide_eq_true_eq]at ho;have:=congrArg F ho.1;rw[bJ,bJ]at this;omega
   have Fy:res=(0,340):=(by rw[m,aH B]);have kr:=aj.mk Fy;obtain⟨a1,a2,a3,a4,a5,a6⟩:=zE Am zT af 0 340;have dd:decide (((F (oU ae c):Nat):Int)<(F s:Int))=aa:=cD af;clear cF p B m Fy kf kW gk6 gs6 uR ge6 gw6 gp6 ga6 gb6 u K hm w2 w3 uX p1 p3 N og1 og2 og3 og4 nW v1 v2 v3 v4 v5 v6 wr B8 rf y FA Am zT CB Af H Cg jR Z Aa dD;refine bD @jX ?_;exact⟨_,_,O,by rw[kr.M]⟩
  have gb:F (oU ae c)=F s:=by omega
  have Jh:lu U ae av c s=aa:=by unfold lu;rw[gb,gy]at Z Aa;rw[Z,Aa];simp
  have dd:decide (((F (oU ae c):Nat):Int)<(F s:Int))=au:=cR af;rw[gb,gy]at H;rw[aV (by rw[Jh];simp)]at m;have c8:=P7 4 d;have c9:=P7 4 f;have hG:(4:Int).toNat=Gn:=rfl;rw[tD tv,hG]at c8 c9;have lpD:aL ag Gt HF 3 (.ptr (.box pb) 2)=J ((x.d:Int):V):=eu eH Af O;have lpE:aL ag Gt HF 3 (.ptr (.box pb) 3)=J ((x.e:Int):V):=eu eH Af O;obtain⟨a1,a2,a3,a4,a5,a6⟩:=zE Am zT af 0 420;by_cases iN:((cN Gn d:Nat):Int)=x.d;rotate_left 1
  .have kr:=aj.mk (m.trans (aH (.inl iN)));have dq:decide (((cN Gn d:Nat):Int)=x.d)=au:=cR iN;clear cF p Jh m kf kW gk6 gs6 uR ge6 gw6 gp6 ga6 gb6 u K hm w2 w3 uX p1 p3 N og1 og2 og3 og4 nW v1 v2 v3 v4 v5 v6 wr B8 rf y FA Am zT CB Af H Cg jR Z Aa pN gb hG iN;generalize ((cN Gn d:Nat):Int)=pd at *
   unfold im at *
   refine bD @jX ?_;refine jY [(7,9)] k_ aB (λz9 hp=>?_) ?_
   .simp only[iL]at hp;subst hp;refine auV aB O O aB ?_ ?_
    .simp only[dY,dG];refine bF @jX @jp ?_;refine⟨by trivial,?_⟩;simp[fh,KA]
    .simp only[dY,dG];exact f_ @jX @jp
   refine bF @jX @jp ?_;exact⟨_,_,O,by rw[kr.M]⟩
  have dq:decide (((cN Gn d:Nat):Int)=x.d)=aa:=cD iN;by_cases jQ:((cN Gn f:Nat):Int)=x.e;rotate_left 1
  .have kr:=aj.mk (m.trans (aH (.inr jQ)));have dq2:decide (((cN Gn f:Nat):Int)=x.e)=au:=cR jQ;clear cF p Jh m kf kW gk6 gs6 uR ge6 gw6 gp6 ga6 gb6 u K hm w2 w3 uX p1 p3 N og1 og2 og3 og4 nW v1 v2 v3 v4 v5 v6 wr B8 rf y FA Am zT CB Af H Cg jR Z Aa pN gb hG iN jQ;generalize ((cN Gn d:Nat):Int)=pd at *
   generalize ((cN Gn f:Nat):Int)=pf at *
   unfold im at *
   refine bD @jX ?_;refine jY [(7,9)] k_ aB (λz9 hp=>?_) ?_
   .simp only[iL]at hp;subst hp;refine aa4 (x:=.ptr (.box pb) 3) (v:=((x.e:Int):V)) aB O O aB (by simp[dh,iz]) ?_ ?_
    .simp only[dY,dG];refine bF @jX @jp ?_;refine⟨by trivial,?_,by trivial,by trivial⟩;simp[fh,KA]
    .simp only[dY,dG];exact qn @jX @jp @and_self
   refine bF @jX @jp ?_;exact⟨_,_,O,by rw[kr.M]⟩
  have dq2:decide (((cN Gn f:Nat):Int)=x.e)=aa:=cD jQ;rw[aV (by simp[iN,jQ])]at m;have kr:=aj.mk m;obtain⟨b6,vr6,i,A,z3⟩:=kW.M.rx;have jr:z0≠g:=λe=>by rw[e]at i;rw[u]at i;unfold gO at i;simp at i
  have zS:z0≠q:=λe=>by rw[e]at i;rw[K]at i;unfold gO at i;simp at i
  have qy:=z3.1;have pM:=nA z3.four;rw[bJ]at qy;have akm:0<F l:=Bd.2 (λe=>by rw[e]at kxl;simp at kxl);have NI:b6≠g:=λe=>by rw[e]at A;rw[u]at A;injection A with A;rw[<-A]at pM;simp at pM;omega
  have Wc:b6≠q:=λe=>by rw[e]at A;rw[K]at A;injection A with A;rw[<-A]at pM;simp at pM;omega
  have WF:uE HF z0 ep X Y C T L Wt ((jt (al av 0) aC l:Nat):Int) ((ft (al av 0) aC l:Nat):Int) av aC l:=
   ⟨⟨b6,vr6,y _ _ i jr zS,y _ _ A NI Wc,z3⟩,kW.M.MS,kW.M.pos,kW.M.c0,kW.M.wX,kW.M.tl,kW.M.ll⟩
  obtain⟨_,_,cb,rfl,rfl⟩:=Mx HF z0 ep X Y C T L Wt _ _ av aC l WF x ⟨af,by omega⟩;rw[wr]at cb;have NK:=y _ _ i jr zS;have lwb:aL ag Gt HF 121 (.ptr (.box wb) 0)=J (.ptr (.box z0) 0):=eu Bp CB O;have lwb2:aL ag Gt (HF.push (bB x)) 121 (.ptr (.box wb) 0)=J (.ptr (.box z0) 0):=eu Bp (aX CB) O;have lch:aL ag Gt HF 3 (.ptr (.box z0) 12)=J ((ft (al av 0) aC l:Nat):V):=eu eH NK O;have lch2:aL ag Gt (HF.push (bB x)) 3 (.ptr (.box z0) 12)=J ((ft (al av 0) aC l:Nat):V):=eu eH (aX NK) O;have lsu:aL ag Gt HF 3 (.ptr (.box g) 0)=J ((jM (gh U ae l) s:Int):V):=eu eH H O;have lsu2:aL ag Gt (HF.push (bB x)) 3 (.ptr (.box g) 0)=J ((jM (gh U ae l) s:Int):V):=eu eH (aX H) O;have lpp:=wB Af;have m1:=Pz f ((gJ (al av 0) aC l c:Nat):Int);have m2:=Hw d (cV f ((gJ (al av 0) aC l c:Nat):Int));have m3:=Pz ((ft (al av 0) aC l:Nat):Int) (jM (gh U ae l) s);have m4:=Hw (cX d (cV f ((gJ (al av 0) aC l c:Nat):Int))) (cV ((ft (al av 0) aC l:Nat):Int) (jM (gh U ae l) s));obtain⟨t1,t2,t3,t4,t5,t6⟩:=zE (Hx:=HF.push (bB x)) (aX Am) (aX zT) af (cX (cX d (cV f ((gJ (al av 0) aC l c:Nat):Int))) (cV ((ft (al av 0) aC l:Nat):Int) (jM (gh U ae l) s))) 0;clear cF p Jh m kf kW gk6 gs6 uR ge6 gw6 gp6 ga6 gb6 u K hm w2 w3 uX p1 p3 N og1 og2 og3 og4 nW v1 v2 v3 v4 v5 v6 wr B8 rf y FA Am zT CB Af H Cg jR Z Aa pN gb hG iN jQ a1 a2 a3 a4 a5 a6 WF NK i A z3 jr zS NI Wc qy pM akm kxl;generalize cX (cX d (cV f ((gJ (al av 0) aC l c:Nat):Int))) (cV ((ft (al av 0) aC l:Nat):Int) (jM (gh U ae l) s))=zz at *
  generalize cX d (cV f ((gJ (al av 0) aC l c:Nat):Int))=za at *
  generalize cV f ((gJ (al av 0) aC l c:Nat):Int)=zm at *
  generalize cV ((ft (al av 0) aC l:Nat):Int) (jM (gh U ae l) s)=zs at *
  generalize ((gJ (al av 0) aC l c:Nat):Int)=bv at *
  generalize ((ft (al av 0) aC l:Nat):Int)=chv at *
  generalize jM (gh U ae l) s=wv at *
  generalize ((cN Gn d:Nat):Int)=pd at *
  generalize ((cN Gn f:Nat):Int)=pf at *
  unfold im at *
  refine bD @jX ?_;refine jY [(7,9)] k_ aB (λz9 hp=>?_) ?_
  .simp only[iL]at hp;subst hp;refine aa4 (x:=.ptr (.box pb) 3) (v:=((x.e:Int):V)) aB O O aB (by simp[dh,iz]) ?_ ?_
   .simp only[dY,dG];refine bF @jX @jp ?_;refine⟨by trivial,?_,by trivial,by trivial⟩;simp[fh,KA]
   .simp only[dY,dG];exact qn @jX @jp @and_self
  refine bF @jX @jp ?_;refine jY [(4,7),(4,10),(4,11)] k_ aB (λz9 hp=>?_) ?_
  .simp only[hh,qR,or_false]at hp;rcases hp with rfl|rfl|rfl
   .refine nO (x:=.ptr (.box wb) 0) (v:=.ptr (.box z0) 0) aB O O O aB (atO z0 0) ?_ ?_<;>(simp only[dY,dG];exact qn @jX @jp @and_self)
   .refine nO (x:=.ptr (.box z0) 12) (v:=((chv:Int):V)) aB O O O aB (by simp[dh,iz]) ?_ ?_<;>(simp only[dY,dG];exact iH @jX @jp @qm @and_self)
   .refine nO (x:=.ptr (.box g) 0) (v:=((wv:Int):V)) aB O O O aB (by simp[dh,iz]) ?_ ?_<;>(simp only[dY,dG];exact iH @jX @jp @qm @and_self)
  refine dA @jX @jp @qm ?_;exact⟨_,_,O,by rw[kr.M]⟩
def Gh:Tryz.f175.results.toList=[.tmp 4]:=by kernel_rfl
def yF(a b:Tok):Prop:=∀c,a=.free c->b≠ .free c
def yF.symm{a b}(h:yF a b):yF b a:=λf d c=>h f c d
def oC(ts:List Tok)(U:List (List Int)):List V:=List.zipWith (λd c=>V.ac d 1 (aF c)) ts U
def pK(U:List (List Int))(n:Nat):List (List Int):=(bT n).map λc=>U.map λd=>al d c
def ag0(U)(k):pK U (k+1)=pK U k++[U.map λr=>al r k]:=by unfold pK;rw[lP,jN];rfl
def UB(U)(k):F (pK U k)=k:=by unfold pK;simp
structure uD(h H:ah)(x:V)(ts:List Tok)(U:List (List Int))(t:Tok):Prop where
 can:∀u∈t::ts,dm h.tn H u
 EG:(t::ts).Pairwise yF
 len:ts.length=U.length
 ok:du H=aa
 ext:Ext h H
 tab:(U=[]/\x=.ac .aP 1 [])∨(U≠[]/\∃b,x=.arr b 0 U.length U.length/\H.I[b]?=J (oC ts U)/\h.I.length<=b)
def agt{ts}{U}(h:F ts=F U):F (oC ts U)=F U:=by unfold oC;rw[List.length_zipWith,h,Nat.min_self]
def agu{ts}{U}(h:F ts=F U)(t)(r):oC (ts++[t]) (U++[r])=oC ts U++[.ac t 1 (aF r)]:=by unfold oC;rw[List.zipWith_append h];rfl
def Ue{n0}{h}{k}(c:dm n0 h k)(f:du h=aa)(d:n0<=h.tn):dm n0 (h.app k) (.free h.tn):=(Grown.one c f d).can
def aeh{n0}{h}{k}(c:dm n0 h k):yF (.free h.tn) k:=by
 rintro g f rfl;injection f with f;rcases c with q2|q2|⟨n,q2,-,d⟩
 .cases q2
 .cases q2
 .injection q2 with q2;have:=qV d;omega
def uD.app{h H}{x}{ts}{U}{t}(w:uD h H x ts U t):uD h (H.app t) x ts U (.free H.tn):=by
 have hc:=w.can t gt;have d:=DZ.1 w.EG;refine⟨λf c=>?_,DZ.2 ⟨λf c=>aeh (w.can f (gr _ c)),d.2⟩,w.len,Bs w.ok hc,(Grown.one hc w.ok w.ext.tn).ext w.ext (bh _),?_⟩
 .rcases hh.1 c with rfl|c
  .exact Ue hc w.ok w.ext.tn
  .exact BA (w.can f (gr _ c)) (d.1 f c)
 .rw[ey];exact w.tab
def uD.close{h H}{x}{ts}{U}{t}(w:uD h H x ts U t)(r)(K:F U<1000000):
 ∃x2 d,ng ag H #[22,22] x (.ac .aP 1 [[.ac t 1 (aF r)]])=J (x2,d)/\uD h d x2 (ts++[t]) (U++[r]) .aP:=by
 obtain⟨N,z,f,D,A⟩:=Jn;have E:=kL (af:F U+1<=1000000) D;have s:=DZ.1 w.EG;have j:(Tok.aP::(ts++[t])).Pairwise yF:=by refine DZ.2 ⟨λg _ S p=>(by cases p),List.pairwise_append.2 ⟨s.2,by simp,λa B b o=>?_⟩⟩;rw[iL]at o;subst o;exact(s.1 a B).symm
 have i:∀d:ah,(∀g,dm h.tn H g->dm h.tn d g)->∀g∈Tok.aP::(ts++[t]),dm h.tn d g:=by
  intro d p g c;rcases hh.1 c with rfl|c
  .exact .inr (.inl O)
  .rcases List.mem_append.1 c with c|c
   .exact p g (w.can g (gr _ c))
   .rw[iL]at c;exact p g (w.can g (by rw[c];exact gt))
 have m:F (ts++[t])=F (U++[r]):=by simp[w.len]
 rcases w.tab with⟨rfl,rfl⟩|⟨v,b,rfl,o,u⟩
 .have y:ts=[]:=List.eq_nil_of_length_eq_zero w.len;subst y;have:=AT (h:=H) (k:=.aP) (sz:=1) (es:=[]) (new:=[[.ac t 1 (aF r)]]) (x:=.ac .aP 1 [[.ac t 1 (aF r)]]) gZ gZ z af (by rw[f];exact A) cE (by simp;omega) cE (.inl f.symm) (.inr O) (by rw[f];rfl);exact⟨_,_,this,i _ λg c=>c,j,m,w.ok,w.ext.trans (.push _ _),.inr ⟨cE,H.I.length,O,aU _ _,w.ext.len⟩⟩
 .have q:0<F U:=Bd.2 v;have fw:=agt w.len;have:=GJ (h:=H) (b:=b) (len:=U.length) (cs:=oC ts U) (new:=[[.ac t 1 (aF r)]]) (x:=.ac .aP 1 [[.ac t 1 (aF r)]]) gZ gZ z af (by rw[f];exact A) cE (by simp;omega) (by simp;omega) o q (by rw[f,fw];omega) (by rw[f];rfl);refine⟨_,_,this,i _ λg c=>c,j,m,?_,(w.ext.gw u _).trans (.push _ _),.inr ⟨cE,H.I.length,by simp,?_,w.ext.len⟩⟩
  .exact w.ok
  .rw[agu w.len];exact nB (by rw[jV])
def awd(h:ah)(fR:du h=aa)(x:V)(U:List (List Int))(n:Nat)(hx:RL x U)(hw:∀r∈U,F r=n)(p:F U<=1000)(hn:n<=1000):
 ∃r h',W5.call 175 [x,im (n:Nat)] h=J (r,h')/\∃X ts,r=.ret X/\uD h h' X ts (pK U n) .aP:=by
 obtain⟨t,v,u,rfl,m,fF,z⟩:=hx;have kx:=aj.mk (ar m (ar z hw));clear m z hw;have u23:=dp;have u22:=gZ;have z23:=iA;have z3:=fa;have Jg:F (u.map λa=>[a])=F U:=by rw[bJ];exact fF
 have A:fC ag 22 0 []=J (.ac .aP 1 []):=by kernel_rfl
 have b1:fC ag 23 0 []=J (.ac .aP 1 []):=by kernel_rfl
 have T0:uD h h (.ac .aP 1 []) [] (pK U 0) .aP:=⟨λz5 hu=>.inr (.inl (by simpa using hu)),by simp,O,fR,.refl _,.inl ⟨O,O⟩⟩;unfold im;refine cA O Tryz.func175 O ?_;refine bD @Gh ?_;refine cJ (λz1 e z0=>∃(c:Nat) (X:V) (ts:List Tok),c<=n/\z1=n-c/\aj (uD h z0 X ts (pK U c) .aP)/\e.get 0=.ac t v (u.map λa=>[a])/\e.get 1=(n:Nat)/\e.get 5=X/\e.get 6=(c:Nat)/\e.defers=[]) ?_ n _ _ ?_;rotate_left 1
 .refine⟨0,_,[],cC _,O,⟨T0⟩,?_,?_,?_,?_,?_⟩<;>first|(simp only[gW,reduceIte,aT,aN,A];done)|(simp only[gW,reduceIte,aT,aN,A]<;>rfl)
 clear T0;rintro z1 e z0 ⟨c,X,ts,hk,rfl,f,D,E,H,K,S⟩;by_cases hkn:c<n;rotate_left 1
 .have:c=n:=by omega
  subst this;refine bD @Gh ?_;exact⟨_,_,O,X,ts,O,f.M⟩
 have hkI:(c:Int)<(n:Int):=by omega
 refine bD @Gh ?_;refine bM.gen λi d w fM eS=>?_;have f0:i.get 0=.ac t v (u.map λa=>[a]):=by rw[d];simp only[gW,reduceIte,aT,aN];exact D
 have f1:i.get 1=(n:Nat):=by rw[d];simp only[gW,reduceIte,aT,aN];exact E
 have f5:i.get 5=X:=by rw[d];simp only[gW,reduceIte,aT,aN];exact H
 have f6:i.get 6=(c:Nat):=by rw[d];simp only[gW,reduceIte,aT,aN];exact K
 have f7:i.get 7=.ac .aP 1 (aF []):=by rw[d];exact gR
 have f8:i.get 8=(0:Nat):=by rw[d];exact gR
 have fd:i.defers=[]:=by rw[w];simp only[gW,reduceIte,aT,aN];exact S
 clear d w fM eS D E H K S A b1;refine cJ (λz1 e z0=>∃(g:Nat) (z2:Tok),g<=F U/\z1=F U-g/\aj (uD h z0 X ts (pK U c) z2)/\e.get 0=.ac t v (u.map λa=>[a])/\e.get 1=(n:Nat)/\e.get 5=X/\e.get 6=(c:Nat)/\e.get 7=.ac z2 1 (aF ((U.take g).map λr=>al r c))/\e.get 8=(g:Nat)/\e.defers=[]) ?_ (F U) _ _ ?_;rotate_left 1
 .exact⟨0,.aP,cC _,O,f,f0,f1,f5,f6,f7,f8,fd⟩
 clear f0 f1 f5 f6 f7 f8 fd f;rintro z1 e2 H2 ⟨g,z2,hi,rfl,f,D,E,H,K,g7,g8,S⟩;by_cases o:g<F U
 .obtain⟨a,N⟩:∃a,u[g]?=J a:=⟨_,aY af⟩;obtain⟨r,p⟩:∃r,U[g]?=J r:=⟨_,aY o⟩;have m:v=1:=kx.M.1 (by intro z4;rw[z4]at o;simp at o);subst m;obtain⟨ka,sa,rfl,y⟩:=kx.M.2.1 g a r N p;have j:=kx.M.2.2 r (dy p);have Z:sa=1:=y (by intro z4;rw[z4]at j;simp at j;omega);subst Z;have l1:=jc (H:=H2) (s:=1) N;have l2:=eI (H:=H2) (l:=r) (i:=c) (s:=1) af;have Cr:F (aF r)=n:=by rw[db];exact j
  have bl:=p_ (al r c);have ap:=vY (x:=al r c) (es:=(U.take g).map λr=>al r c) (sz:=1) (show(F ((U.take g).map λr=>al r c))<1099511627776 by rw[bJ,dJ];omega) (.inl O) (f.M.can z2 gt);have k:((U.take g).map λr=>al r c)++[al r c]=(U.take (g+1)).map λr=>al r c:=by rw[ga p,jN];rfl
  rw[k]at ap;have q:=aj.mk f.M.app;have IM:(g:Int)<(F U:Int):=by omega
  clear N p y j k f;refine bF @Gh @bj ?_;exact⟨F U-(g+1),by omega,g+1,_,by omega,O,q,by simp⟩
 .have gq:g=F U:=by omega
  subst gq;rw[gy]at g7;obtain⟨X2,H3,c1,B⟩:=f.M.close (U.map λr=>al r c) (by rw[UB];omega);rw[<-ag0]at B;have q:=aj.mk B;have bl:=HI (.ac z2 1 (aF (U.map λr=>al r c))) O;clear B f;refine bD @Gh ?_;exact⟨n-(c+1),by omega,c+1,X2,_,by omega,O,q,by simp⟩
def wQ:Tryz.f176.results.toList=[.tmp 4,.tmp 5]:=by kernel_rfl
def qU(H:ah)(b:Nat)(t:List (List Int)):Prop:=∃c:List V,H.I[b]?=J c/\F c=F t/\∀(d:Nat) a r,c[d]?=J a->t[d]?=J r->IL a r
def qU.mono{H H'}{b}{t}(T:qU H b t)(m:∀cs,H.I[b]?=J cs->H'.I[b]?=J cs):qU H' b t:=by obtain⟨cs,c,d⟩:=T;exact⟨cs,m cs c,d⟩
def CG{b len ba n}{k}(c:n<len):dU ag 22 (.arr b 0 len ba) (.v (.int k (n:Nat)))=J (.ptr (.box b) n):=by rw[At gZ iA af af,fe,Nat.mul_one,nT]
def abf{H}{b k s n:Nat}{t}{cs}{es}(d:H.I[b]?=J cs)(c:k<F cs):b9 ag H 23 (.ptr (.box b) k) (.ac t s es)=J (H.put b (cs.set k (.ac t s es))):=by rw[fI (xs:=[V.ac t s es]) O iA d O c];congr 2;unfold ej;rw[List.set_eq_take_append_cons_drop,aH c];simp
def qU.load{H}{b i}{t}{r}(T:qU H b t)(d:t[i]?=J r):∃k s,aL ag Gt H 23 (.ptr (.box b) i)=J (.ac k s (aF r))/\(r≠[]->s=1):=by obtain⟨f,g,j,m⟩:=T;obtain⟨a,c⟩:∃a,f[i]?=J a:=⟨_,aY (by rw[j];exact(bk.1 d).1)⟩;obtain⟨k,s,rfl,o⟩:=m i a r c d;exact⟨k,s,rn g c,o⟩
def qU.store{H}{b i}{t}{r}{k}{s}(T:qU H b t)(hi:i<F t)(m:r≠[]->s=1):∃H',b9 ag H 23 (.ptr (.box b) i) (.ac k s (aF r))=J H'/\qU H' b (t.set i r)/\∃cs,H'=H.put b cs:=by
 obtain⟨cs,f,g,j⟩:=T;refine⟨_,abf (n:=0) f af,⟨_,dM (bk.1 f).1,by rw[nS,nS,g],λo a p c d=>?_⟩,_,O⟩;rw[mq]at c d;by_cases e:i=o
 .subst e;rw[aH O,aH af]at c;rw[aH O,aH hi]at d;injection c with c;injection d with d;subst c;subst d;exact⟨k,s,O,m⟩
 .rw[aV e]at c d;exact j o a p c d
def rZ(c:Nat)(own:List Int)(j:Nat)(t:List (List Int)):List (List Int):=t.mapIdx λd a=>if d<j then ir (al a c) a own else a
def Pm(c)(own)(j)(t):F (rZ c own j t)=F t:=by unfold rZ;simp
def CM(c)(own)(j)(t)(i):(rZ c own j t)[i]?=t[i]?.map λa=>if i<j then ir (al a c) a own else a:=by unfold rZ;rw[List.getElem?_mapIdx]
def amH(c)(own)(t):rZ c own 0 t=t:=by apply oq;intro d;rw[CM];cases t[d]?<;>simp
def amE(c)(own)(t):rZ c own (F t) t=t.map λa=>ir (al a c) a own:=by
 apply oq;intro d;rw[CM,eF];cases h:t[d]? with|none=>rfl|some a=>rw[gc,gc,aH (bk.1 h).1]
def amF{c}{own}{j}{t}:(rZ c own j t)[j]?=t[j]?:=by rw[CM];cases t[j]?<;>simp
def amG{c}{own a}{j}{t}(d:t[j]?=J a):(rZ c own j t).set j (ir (al a c) a own)=rZ c own (j+1) t:=by
 apply oq;intro g;have f:=(bk.1 d).1;rw[mq,Pm];by_cases e:j=g
 .subst e;rw[aH O,aH f,CM,d,gc,aH (Nat.lt_succ_self _)]
 .rw[aV e,CM,CM];congr 1;funext a;by_cases h:g<j
  .rw[aH h,aH af]
  .rw[aV h,aV af]
def jJ(t:List (List Int))(c:Nat):List (List Int) × List Nat:=(bT c).foldl mK (t,[])
def aae(t)(c):jJ t (c+1)=mK (jJ t c) c:=by unfold jJ;rw[lP,ot];rfl
def Qn{t}{w}(j:∀a∈t,F a=w)(k:∀a∈t,∀x∈a,okF x):∀c,c<=w->uz w c (jJ t c)/\F (jJ t c).1=F t/\F (jJ t c).2<=F t:=by
 intro c
 induction c with
 |zero=>intro _;exact⟨⟨j,k,λ_ _ _ _ r o=>by omega⟩,O,cC _⟩|succ c m=>
  intro hc;obtain⟨f,d,g⟩:=m af;rw[aae];refine⟨KC f af,?_,?_⟩
  .unfold mK;split
   .exact d
   .simp[d]
  .unfold mK;split
   .exact g
   .rename_i s i;obtain⟨p,q,-⟩:=zF i;simp;omega
def au2{t}{pv}{c k}{b o}(i:ny t (F pv) c=J k)(g:t[k]?=J b)(j:t[F pv]?=J o):
 mK (t,pv) c=((rZ c (scaleB b (e8 (al b c))) (F t) (t.set k o)).set (F pv) (scaleB b (e8 (al b c))),pv++[c]):=by
 have d:t.getD k []=b:=by rw[fg,g];rfl
 have f:t.getD (F pv) []=o:=by rw[fg,j];rfl
 unfold mK;simp only[i,d,f];rw[show F t=F (t.set k o) by rw[nS],amE]
def aa7{t}{pv}{c}(d:ny t (F pv) c=aq):mK (t,pv) c=(t,pv):=by unfold mK;simp only[d]
structure rF(h H:ah)(b:Nat)(t:List (List Int))(k:Tok):Prop where
 tb:qU H b t
 can:dm h.tn H k
 ok:du H=aa
 ext:Ext h H
 low:h.I.length<=b
def rF.put{h H}{b}{t c}{k}(R:rF h H b t k)(cs)(T:qU (H.put b cs) b c):rF h (H.put b cs) b c k:=
 ⟨T,R.can,R.ok,R.ext.gw R.low cs,R.low⟩
def rF.app{h H}{b}{t}{k}(R:rF h H b t k):rF h (H.app k) b t (.free H.tn):=
 ⟨R.tb.mono λc d=>by rw[ey];exact d,Ue R.can R.ok R.ext.tn,Bs R.ok R.can,(Grown.one R.can R.ok R.ext.tn).ext R.ext (bh _),R.low⟩
def aiv(x):0<=e8 x/\e8 x<=9223372036854775807:=wH (M_ _)
def amK(x y)(a own)(n)(hx:IL x a)(E:IL y own)(i:F own=F a)(j:F a<=1000000):∀h,W5.call 233 [x,y,im n] h=J (.ret (.ac .held 1 (aF (ir n a own))),h):=by obtain⟨c,d⟩:=hx.hold;obtain⟨f,g⟩:=E.hold;exact gV (L:=L5) (u:=[aA x,aA y,im n]) O O (by simp[aM,d,g,aK,im]) (amJ (aA x) (aA y) a own n c f i j _) O (by simp[aK,jG,pX])
def awa(x)(a)(n)(hx:IL x a)(g:F a<=1000000)(f:0<=n/\n<=9223372036854775807):∀h,W5.call 232 [x,im n] h=J (.ret (.ac .held 1 (aF (scaleB a n))),h):=by obtain⟨c,d⟩:=hx.hold;exact gV (L:=L5) (u:=[aA x,im n]) O O (by simp[aM,d,aK,im]) (av9 (aA x) a n c g f _) O (by simp[aK,jG,pX])
def aqK(x y)(U)(c)(hx:RL x U)(E:IL y c)(o:F U<=64)(p:∀r∈U,F r=F c)(g:F c<=64)(d:∀r∈U,∀x∈r,okF x)(f:∀x∈c,okF x):
 ∀h,W5.call 174 [x,y] h=J (.ret (.v (.int .i64 0)),h):=by
 obtain⟨i,j⟩:=hx.ip;obtain⟨k,m⟩:=E.hold;exact gV (L:=L5) (u:=[aA x,aA y]) O O (by simp[aM,j,m]) (aqJ (aA x) (aA y) U c i k o p g d f _) O rfl
def aqD(h:ah)(fR:du h=aa)(b:Nat)(U:List (List Int))(w many:Nat)(hT:qU h b U)(h0:0<F U)(hl:∀a∈U,F a=w)(ho:∀a∈U,∀x∈a,okF x)(hm:many<=w)(hr:F U<=1000)(hw:w<=1000):
 ∃r h',W5.call 176 [.arr b 0 (F U) (F U),im (many:Nat)] h=J (r,h')/\∃b2 Z,r=.ret (.tuple [.arr b2 0 (F U) (F U),Z])/\qU h' b2 (jJ U many).1/\F (jJ U many).1=F U/\IL Z (dn (jJ U many).2)/\Ext h h':=by
 have u23:=dp;have u22:=gZ;have z23:=iA;have z3:=fa;have bn2:fC ag 22 0 []=J (.ac .aP 1 []):=by kernel_rfl
 have bn3:fC ag 23 0 []=J (.ac .aP 1 []):=by kernel_rfl
 obtain⟨H1,ap,R0⟩:∃H1,ng ag h #[22,22] (.ac .aP 1 []) (.arr b 0 (F U) (F U))=J (.arr (F h.I) 0 (F U) (F U),H1)/\rF h H1 (F h.I) U .aP:=by
  obtain⟨cs,t1,t2,t3⟩:=hT;obtain⟨A,q1,q2,q3,q4⟩:=Jn;have nD:=kL (af:F U<=1000000) q3;have hn:=(ek.box (sz:=1) (h:=h) (b:=b) (n:=U.length) (U:=cs.map λc=>[c]) (λr hr=>by obtain⟨c,-,rfl⟩:=iX.1 hr;rfl) (by rw[bJ,t2]) (by rw[Gz];exact t1)).news;have K:F (cs.map λc=>[c])=F U:=by rw[bJ,t2]
  have gb:(cs.map λc=>[c])≠[]:=by intro q;rw[q]at K;simp at K;omega
  have:=AT (h:=h) (k:=.aP) (sz:=1) (es:=[]) (new:=cs.map λc=>[c]) (x:=.arr b 0 (F U) (F U)) gZ gZ q1 af (by rw[q2];exact q4) gb (by rw[K];simp;omega) (by rw[K];simp;omega) (.inl q2.symm) (.inr O) (by rw[q2];exact hn);rw[K,gi,nT,List.nil_append,Gz]at this;exact⟨_,this,⟨⟨cs,aU _ _,t2,t3⟩,.inr (.inl O),fR,.push _ _,bh _⟩⟩
 have kR0:=aj.mk R0;have kl:=aj.mk (ar hl ho);clear hT R0 hl ho;unfold im;refine cA O Tryz.func176 O ?_;refine bD @wQ ?_;refine bM.gen λg d o N S=>?_;have f1:g.get 1=(many:Nat):=by rw[d];exact gS
 have f6:g.get 6=.arr (F h.I) 0 (F U) (F U):=by rw[d];exact gS
 have f7:g.get 7=.ac .aP 1 (aF (dn [])):=by rw[d];exact gR
 have f8:g.get 8=(0:Nat):=by rw[d];exact gR
 have H:g.defers=[]:=by rw[o];exact gS
 clear d o N S ap bn2 bn3;refine cJ (λz4 e z2=>∃(c:Nat) (p:Tok),c<=many/\z4=many-c/\aj (rF h z2 (F h.I) (jJ U c).1 p)/\e.get 1=(many:Nat)/\e.get 6=.arr (F h.I) 0 (F U) (F U)/\e.get 7=.ac p 1 (aF (dn (jJ U c).2))/\e.get 8=(c:Nat)/\e.defers=[]) ?_ many _ _ ?_;rotate_left 1
 .exact⟨0,.aP,cC _,O,kR0,f1,f6,f7,f8,H⟩
 clear kR0 f1 f6 f7 f8 H;rintro z4 e z2 ⟨c,p,hc,rfl,j,g1,g6,g7,g8,hd⟩;by_cases NN:c<many;rotate_left 1
 .have:c=many:=by omega
  subst this;refine bD @wQ ?_;exact⟨_,_,O,_,_,O,j.M.tb,(Qn kl.M.1 kl.M.2 c hm).2.1,⟨_,_,O,λ_=>rfl⟩,j.M.ext⟩
 obtain⟨RO,tl,pl⟩:=Qn kl.M.1 kl.M.2 c af;have E:aj (jJ U (c+1)=mK ((jJ U c).1,(jJ U c).2) c):=⟨aae U c⟩;have kRO:=aj.mk RO;clear RO;generalize jJ U c=st at *
 obtain⟨z0,f⟩:=st;dsimp only at *
 have Fv:F (aF (dn f))=F f:=by rw[db];unfold dn;rw[bJ]
 have Wj:(c:Int)<(many:Int):=by omega
 refine bD @wQ ?_;refine bM.gen λg d o N S=>?_;have f1:g.get 1=(many:Nat):=by rw[d];simp only[gW,reduceIte,aT,aN];exact g1
 have f6:g.get 6=.arr (F h.I) 0 (F U) (F U):=by rw[d];simp only[gW,reduceIte,aT,aN];exact g6
 have f7:g.get 7=.ac p 1 (aF (dn f)):=by rw[d];simp only[gW,reduceIte,aT,aN];exact g7
 have f8:g.get 8=(c:Nat):=by rw[d];simp only[gW,reduceIte,aT,aN];exact g8
 have f9:g.get 9=(F f:Nat):=by rw[d];exact gS
 have f10:g.get 10=(F f:Nat):=by rw[d];exact gS
 have H:g.defers=[]:=by rw[o];simp only[gW,reduceIte,aT,aN];exact hd
 clear d o N S g1 g6 g7 g8 hd;refine cJ (λz4 e H2=>∃t:Nat,t<=F U/\F f<=t/\z4=F U-t/\aj (∀B,F f<=B->B<t->al (z0.getD B []) c=0)/\e.get 1=(many:Nat)/\e.get 6=.arr (F h.I) 0 (F U) (F U)/\e.get 7=.ac p 1 (aF (dn f))/\e.get 8=(c:Nat)/\e.get 9=(F f:Nat)/\e.get 10=(t:Nat)/\e.defers=[]/\H2=z2) ?_ (F U-F f) _ _ ?_;rotate_left 1
 .exact⟨F f,pl,bh _,O,⟨λB q1 q2=>absurd q2 af⟩,f1,f6,f7,f8,f9,f10,H,O⟩
 clear f1 f6 f7 f8 f9 f10 H;rintro z4 e2 H2 ⟨t,hj,Ot,rfl,kz,g1,g6,g7,g8,g9,g10,hd,rfl⟩;by_cases WH:t<F U;rotate_left 1
 .have oJ:t=F U:=by omega
  subst oJ;have z:ny z0 (F f) c=aq:=by rw[Ie (j:=U.length) Ot af kz.M (λq=>absurd q af),aH tl.symm]
  have kR2:aj (rF h H2 (F h.I) (jJ U (c+1)).1 p):=⟨by rw[E.M,aa7 z];exact j.M⟩;have k7:(jJ U (c+1)).2=f:=by rw[E.M,aa7 z]
  have k7:=aj.mk k7;clear z;refine bD @wQ ?_;exact⟨many-(c+1),by omega,c+1,p,by omega,O,kR2,by first|trivial|assumption,by first|trivial|assumption,by rw[k7.M],by simp⟩
 obtain⟨i,y⟩:∃r,z0[t]?=J r:=⟨_,aY af⟩;have Wy:z0.getD t []=i:=by rw[fg,y];rfl
 have u:=kRO.M.len i (dy y);have Xf:=kRO.M.ok i (dy y);obtain⟨k1,s1,ld1,v⟩:=j.M.tb.load y;have v:s1=1:=v (by intro q;rw[q]at u;simp at u;omega);subst v;have ix1:=CG (b:=h.I.length) (len:=U.length) (ba:=U.length) (k:=.i64) WH;have Wz:F (aF i)=w:=by rw[db];exact u
 have l1:=eI (H:=H2) (l:=i) (i:=c) (s:=1) af;have Fj:(t:Int)<(F U:Int):=by omega
 have hcw:(c:Int)<(w:Int):=by omega
 have kb:=aj.mk (ar y (ar Wy (ar u Xf)));clear y Wy u Xf;by_cases hz:al i c=0
 .have iN:decide (al i c=0)=aa:=by simp[hz]
  have kz2:aj (∀B,F f<=B->B<t+1->al (z0.getD B []) c=0):=⟨λB q1 q2=>by
   rcases eg B t with q|q
   .exact kz.M B q1 q
   .have:B=t:=(by omega);subst this;rw[kb.M.2.1];exact hz⟩
  generalize al i c=z5 at *
  clear hz;refine bF @wQ @bj ?_;exact⟨F U-(t+1),by omega,t+1,by omega,by omega,O,kz2,by simp⟩
 have iN:decide (al i c=0)=au:=by simp[hz]
 have Xp:ny z0 (F f) c=J t:=by rw[Ie (j:=t) Ot af kz.M (λ_=>by rw[kb.M.2.1];exact hz),aV af]
 obtain⟨ro,rP⟩:∃r,z0[F f]?=J r:=⟨_,aY af⟩;have Xk:=kRO.M.len ro (dy rP);obtain⟨k2,s2,ld2,qx⟩:=j.M.tb.load rP;have ix2:=CG (b:=h.I.length) (len:=U.length) (ba:=U.length) (k:=.i64) (af:F f<F U);obtain⟨H3,st1,T3,cs3,rfl⟩:=j.M.tb.store (i:=t) (k:=k2) af qx;have D:=aj.mk (au2 Xp kb.M.1 rP);have R3:=j.M.put cs3 T3;have Y':=ph kb.M.2.2.2 c;have xW:fmod (al i c)=al i c:=BX Y';have inv:=λh=>arc (al i c) h;rw[xW,aV hz,aV hz]at inv;have tms:=awa (.ac k1 1 (aF i)) i (e8 (al i c)) ⟨_,_,O,λ_=>rfl⟩ (by rw[kb.M.2.2.1];omega) (aiv _);have Cl:F (scaleB i (e8 (al i c)))=w:=by rw[aaJ];exact kb.M.2.2.1
 have l3:=eI (H:=H2.put (F h.I) cs3) (l:=i) (i:=c) (s:=1) (by rw[kb.M.2.2.1];omega);have zP:∀a∈z0.set t ro,F a=w:=by
  intro a ha;rcases List.mem_or_eq_of_mem_set ha with q|q
  .exact kRO.M.len a q
  .rw[q];exact Xk
 have kall:=aj.mk zP;have ayG:F (z0.set t ro)=F U:=by rw[nS];exact tl
 have I4:(F f:Int)<(F U:Int):=by omega
 rw[tl]at D;generalize e8 (al i c)=fz at *
 generalize scaleB i fz=m at *
 generalize z0.set t ro=t1 at *
 clear Xk rP qx Xp Y' xW zP kz T3 kRO j;have kR3:=aj.mk R3;clear R3;generalize al i c=z5 at *
 generalize H2.put (F h.I) cs3=H3 at *
 clear hz;unfold im at inv tms;refine bF @wQ @bj ?_;refine bM.gen λg d o N S=>?_;have f1:g.get 1=(many:Nat):=by rw[d];simp only[gW,reduceIte,aT,aN];exact g1
 have f6:g.get 6=.arr (F h.I) 0 (F U) (F U):=by rw[d];simp only[gW,reduceIte,aT,aN];exact g6
 have f7:g.get 7=.ac p 1 (aF (dn f)):=by rw[d];simp only[gW,reduceIte,aT,aN];exact g7
 have f8:g.get 8=(c:Nat):=by rw[d];simp only[gW,reduceIte,aT,aN];exact g8
 have f9:g.get 9=(F f:Nat):=by rw[d];simp only[gW,reduceIte,aT,aN];exact g9
 have f11:g.get 11=.ac .held 1 (aF m):=by rw[d];exact gS
 have f14:g.get 14=(0:Nat):=by rw[d];exact gR
 have H:g.defers=[]:=by rw[o];simp only[gW,reduceIte,aT,aN];exact hd
 clear d o N S g1 g6 g7 g8 g9 g10 hd ld1 ld2 st1 inv tms l1 l3 iN ix1 Wz;have kR4:aj (rF h H3 (F h.I) (rZ c m 0 t1) p):=⟨by rw[amH];exact kR3.M⟩;refine cJ (λz4 e z2=>∃A:Nat,A<=F U/\z4=F U-A/\aj (rF h z2 (F h.I) (rZ c m A t1) p)/\e.get 1=(many:Nat)/\e.get 6=.arr (F h.I) 0 (F U) (F U)/\e.get 7=.ac p 1 (aF (dn f))/\e.get 8=(c:Nat)/\e.get 9=(F f:Nat)/\e.get 11=.ac .held 1 (aF m)/\e.get 14=(A:Nat)/\e.defers=[]) ?_ (F U) _ _ ?_;rotate_left 1
 .exact⟨0,cC _,O,kR4,f1,f6,f7,f8,f9,f11,f14,H⟩
 clear f1 f6 f7 f8 f9 f11 f14 H kR4 kR3;rintro z4 e3 H4 ⟨A,hi,rfl,j,g1,g6,g7,g8,g9,g11,g14,hd⟩;by_cases mg:A<F U
 .obtain⟨a,ha⟩:∃r,t1[A]?=J r:=⟨_,aY af⟩;have uY:=kall.M a (dy ha);obtain⟨k1,s1,ld1,v⟩:=j.M.tb.load (amF.trans ha);have v:s1=1:=v (by intro q;rw[q]at uY;simp at uY;omega);subst v;have ix1:=CG (b:=h.I.length) (len:=U.length) (ba:=U.length) (k:=.i64) mg;have Wz:F (aF a)=w:=by rw[db];exact uY
  have l1:=eI (H:=H4) (l:=a) (i:=c) (s:=1) af;have ls:=amK (.ac k1 1 (aF a)) (.ac .held 1 (aF m)) a m (al a c) ⟨_,_,O,λ_=>rfl⟩ ⟨_,_,O,λ_=>rfl⟩ af af;obtain⟨H5,st1,T5,k,rfl⟩:=j.M.tb.store (i:=A) (r:=ir (al a c) a m) (k:=.held) (s:=1) (by rw[Pm];omega) (λ_=>rfl);rw[amG ha]at T5;have kR5:=aj.mk (j.M.put k T5);have IM:(A:Int)<(F U:Int):=by omega
  clear T5 ha uY j;generalize ir (al a c) a m=la at *
  generalize al a c=z1 at *
  generalize H4.put (F h.I) k=H5 at *
  unfold im at ls;refine bF @wQ @bj ?_
  repeat' (first|simp(maxSteps:=9999999) (disch:=first|exact dZ|fail) only[gW,reduceIte,aT,aN,wQ,bj, *]|(refine dX ?_ ?_<;>(intro _;try omega))|refine dW k_ bX ?_)
  exact⟨F U-(A+1),by omega,A+1,by omega,O,kR5,by simp⟩
 .have gq:A=F U:=by omega
  subst gq;obtain⟨H5,st1,T5,k,rfl⟩:=j.M.tb.store (i:=f.length) (r:=m) (k:=.held) (s:=1) (by rw[Pm];omega) (λ_=>rfl);have R6:=(j.M.put k T5).app;have bl:=p_ (c:Int);have ap:=vY (H:=H4.put (F h.I) k) (x:=(c:Int)) (es:=dn f) (sz:=1) (show(F (dn f))<1099511627776 by unfold dn;rw[bJ];omega) (.inl O) ((j.M.put k T5).can);have ee:dn f++[(c:Int)]=dn (f++[c]):=by unfold dn;simp
  rw[ee]at ap;have kst:=aj.mk (E.M.trans D.M);have kR6:aj (rF h ((H4.put (F h.I) k).app p) (F h.I) (jJ U (c+1)).1 (.free (H4.put (F h.I) k).tn)):=⟨by rw[kst.M];exact R6⟩;have k7:aj ((jJ U (c+1)).2=f++[c]):=⟨by rw[kst.M]⟩;clear T5 R6 ee D j;generalize H4.put (F h.I) k=H5 at *
  refine bD @wQ ?_;exact⟨many-(c+1),by omega,c+1,_,by omega,O,kR6,by first|trivial|assumption,by first|trivial|assumption,by rw[k7.M],by simp⟩
def vw:Tryz.f101.results.toList=[.tmp 4,.tmp 5,.tmp 6]:=by kernel_rfl
structure Ek(h H:ah)(b k:Nat)(t1 t2:List (List Int))(dc:List V)(ts:List Tok):Prop where
 iC:H.I[b]?=J (dc++oC ts (t2.drop k))
 dl:dc.length=k
 row:∀(i:Nat) a r,dc[i]?=J a->t1[i]?=J r->IL a r
 tl:ts.length=t2.length - k
 can:∀u∈ts,dm h.tn H u
 EG:ts.Pairwise yF
 ok:du H=aa
 ext:Ext h H
 low:h.I.length<=b
def Ek.step{h H}{b k}{t1 t2}{f}{ts}(d:Ek h H b k t1 t2 f ts){r}{x}(y:t2[k]?=J r)(A:t1[k]?=J (r++[x])):
 ∃t c,ts=t::c/\aL ag Gt H 23 (.ptr (.box b) k)=J (.ac t 1 (aF r))/\dm h.tn H t/\∃p,b9 ag (H.app t) 23 (.ptr (.box b) k) (.ac (.free H.tn) 1 (aF (r++[x])))=J p/\Ek h p b (k+1) t1 t2 (f++[.ac (.free H.tn) 1 (aF (r++[x]))]) c:=by
 have D:=(bk.1 y).1;have m:t2.drop k=r::t2.drop (k+1):=by rw[uw D,(bk.1 y).2]
 obtain⟨t,c,rfl⟩:∃t c,ts=t::c:=by
  cases ts with|nil=>have:=d.tl;simp at this;omega|cons t c=>exact⟨t,c,O⟩
 have v:=DZ.1 d.EG;have hc:=d.can t gt;have j:=d.iC;have q:oC (t::c) (t2.drop k)=.ac t 1 (aF r)::oC c (t2.drop (k+1)):=by rw[m];rfl
 rw[q]at j;have u:=(bk.1 j).1;have s:(H.app t).I[b]?=J (f++ .ac t 1 (aF r)::oC c (t2.drop (k+1))):=by rw[ey];exact j
 refine⟨t,c,O,rn j (by rw[xm (by rw[d.dl];exact bh _),d.dl,sW];rfl),hc,_,abf (n:=0) s (by rw[de,eZ,d.dl];omega),?_⟩;have o:(f++V.ac t 1 (aF r)::oC c (t2.drop (k+1))).set k (.ac (.free H.tn) 1 (aF (r++[x])))=(f++[.ac (.free H.tn) 1 (aF (r++[x]))])++oC c (t2.drop (k+1)):=by rw[List.set_append_right _ _ (by rw[d.dl];exact bh _),d.dl,sW,List.set_cons_zero,jx];rfl
 rw[o];refine⟨dM (by rw[ey];exact u),by rw[de,d.dl];rfl,λE a S g i=>?_,?_,λN z=>?_,v.2,?_,?_,d.low⟩
 .rcases eg E (F f) with w|K
  .rw[rC w]at g;exact d.row E a S g i
  .have:=(bk.1 g).1;rw[de]at this;have B:E=F f:=(by simp at this;omega);subst B;rw[Ba]at g;rw[d.dl,A]at i;injection g with g;injection i with i;subst g;subst i;exact⟨_,_,O,λ_=>rfl⟩
 .have:=d.tl;rw[eZ]at this;omega
 .exact BA (d.can N (gr _ z)) (v.1 N z)
 .exact Bs d.ok hc
 .exact((Grown.one hc d.ok d.ext.tn).ext d.ext (bh _)).gw d.low _
def apX(pv):F (aF (dn pv))=F pv:=by rw[db];unfold dn;rw[bJ]
def ab2(U:List (List Int))(c:List Int)(h:ah)(r:dV)(h':ah):Prop:=
 Ext h h'/\((oE U c=aq/\r=.ret (.tuple [.ac .nil 0 [],(au:V),im 0]))∨∃l b,oE U c=J l/\F l=F U/\r=.ret (.tuple [.arr b 0 (F U) (F U),(aa:V),im 0])/\h'.I[b]?=J (l.map im))
def aha(h:ah)(fR:du h=aa)(x y:V)(U:List (List Int))(c:List Int)(hx:RL x U)(E:IL y c)(hr:F U<=64)(hw:∀r∈U,F r=F c)(rR:F c<=64)(h0:0<F c)(Om:∀r∈U,∀x∈r,okF x)(Ad:∀x∈c,okF x):
 ∃r h',W5.call 101 [x,y] h=J (r,h')/\ab2 U c h r h':=by
 have c1:=aqK x y U c hx E hr hw rR Om Ad;obtain⟨_,H1,c2,X,N,rfl,S⟩:=awd h fR x U (F c) hx hw af af;obtain⟨t1,t2⟩:=Rq Om Ad;have tl:=Rp U c;have cl:=UB U (F c);have e1:oE U c=if ((jJ (fX U c) (F U)).1.drop (F (jJ (fX U c) U.length).2)).all (λa=>decide (al a (F U)=0)) then J (oi (jJ (fX U c) (F U)) (F U)) else aq:=rfl
 obtain⟨RO,rl,rp⟩:=Qn t1 t2 (F U) af;obtain⟨-,z4⟩:=Ga t1 t2 (af:F U<=F U+1);have z4:Bk (F U) (jJ (fX U c) (F U)):=z4;rw[tl]at rl rp;obtain⟨b,hX,J0⟩:∃b,X=.arr b 0 (F c) (F c)/\Ek h H1 b 0 (fX U c) (pK U (F c)) [] N:=by
  rcases S.tab with⟨q,-⟩|⟨-,b,q1,q2,q3⟩
  .rw[q]at cl;simp at cl;omega
  .rw[cl]at q1;exact⟨b,q1,⟨q2,O,λt a r q=>by simp at q,by rw[S.len];rfl,λz6 hu=>S.can z6 (gr _ hu),(DZ.1 S.EG).2,S.ok,S.ext,q3⟩⟩
 subst hX;obtain⟨z0,z1,Z,rfl,hs,fF,jS⟩:=hx;obtain⟨ky,sy,rfl,j9⟩:=E;have j:sy=1:=j9 (by intro q;rw[q]at h0;simp at h0);subst j;have e_:F (Z.map λa=>[a])=F U:=by rw[bJ];exact fF
 have u':=db c;have u23:=dp;have u22:=gZ;have z23:=iA;have z3:=fa;have kJ0:=aj.mk J0;have kk:=aj.mk (ar t1 (ar t2 (ar RO (ar z4 e1))));have kcl:=aj.mk cl;clear S J0 hs fF jS j9 hw Om Ad t1 t2 RO z4 e1 cl;unfold im at c2;refine cA O Tryz.func101 O ?_;refine bD @vw ?_;refine bM.gen λi g s B D=>?_;have f0:i.get 0=.ac z0 z1 (Z.map λa=>[a]):=by rw[g];exact gS
 have f1:i.get 1=.ac ky 1 (aF c):=by rw[g];exact gS
 have f8:i.get 8=.arr b 0 (F c) (F c):=by rw[g];exact gS
 have f9:i.get 9=(0:Nat):=by rw[g];exact gR
 have w:i.defers=[]:=by rw[s];exact gS
 clear g s B D c1 c2;refine cJ (λz2 e v=>∃(f:Nat) (dc:List V) (N:List Tok),f<=F c/\z2=F c-f/\aj (Ek h v b f (fX U c) (pK U (F c)) dc N)/\e.get 0=.ac z0 z1 (Z.map λa=>[a])/\e.get 1=.ac ky 1 (aF c)/\e.get 8=.arr b 0 (F c) (F c)/\e.get 9=(f:Nat)/\e.defers=[]) ?_ (F c) _ _ ?_;rotate_left 1
 .exact⟨0,[],N,cC _,O,kJ0,f0,f1,f8,f9,w⟩
 clear f0 f1 f8 f9 w kJ0 N;rintro z2 e v ⟨f,dc,N,hj,rfl,H,g0,g1,g8,g9,hd⟩;by_cases u:f<F c
 .have Wo:(pK U (F c))[f]?=J (U.map λr=>al r f):=by unfold pK;rw[eF,Bb u];rfl
  have Xy:(fX U c)[f]?=J ((U.map λr=>al r f)++[al c f]):=by unfold fX;rw[eF,Bb u];rfl
  obtain⟨z9,ts2,rfl,ld,hc,o,st,J3⟩:=H.M.step Wo Xy;have ap:=vY (H:=v) (x:=al c f) (es:=U.map λr=>al r f) (sz:=1) (by rw[bJ];omega) (.inl O) hc;have bl:=p_ (al c f);have l1:=eI (H:=v) (l:=c) (i:=f) (s:=1) u;have ix:=CG (b:=b) (len:=c.length) (ba:=c.length) (k:=.i64) u;have kJ3:=aj.mk J3;have Fj:(f:Int)<(F c:Int):=by omega
  clear J3 Wo Xy hc H;refine bF @vw @bj ?_
  repeat' (first|simp(maxSteps:=9999999) (disch:=first|exact dZ|fail) only[gW,reduceIte,aT,aN,vw,bj, *]|(refine dX ?_ ?_<;>(intro _;try omega))|refine dW k_ bX ?_)
  exact⟨F c-(f+1),by omega,f+1,_,ts2,by omega,O,kJ3,by simp⟩
 have A:f=F c:=by omega
 subst A;have T2:qU v b (fX U c):=⟨_,H.M.iC,by
  have h1:oC N ((pK U (F c)).drop (F c))=[]:=by rw[oo (by rw[kcl.M];exact bh _)];unfold oC;simp
  rw[h1,iB,H.M.dl,tl],λt a r k hr=>by
  have h1:oC N ((pK U (F c)).drop (F c))=[]:=by rw[oo (by rw[kcl.M];exact bh _)];unfold oC;simp
  rw[h1,iB]at k;exact H.M.row t a r k hr⟩
 obtain⟨_,o,c3,b2,z8,rfl,T3,-,hZ,X3⟩:=aqD v H.M.ok b (fX U c) (F U+1) (F U) T2 af kk.M.1 kk.M.2.1 af af af;rw[tl]at c3;obtain⟨kz,sz,rfl,hJ⟩:=hZ;have Fv:=apX (jJ (fX U c) (F U)).2;have kV:aj (Bk (F U) (jJ (fX U c) (F U))):=⟨kk.M.2.2.2.1⟩;have kRl:=aj.mk kk.M.2.2.1.len;have ke:=aj.mk kk.M.2.2.2.2;generalize iq:jJ (fX U c) (F U)=st at *
 obtain⟨p,d⟩:=st;dsimp only at *
 have kT3:=aj.mk T3;have ksz:=aj.mk hJ;have kX3:=aj.mk (H.M.ext.trans X3);clear T2 T3 hJ X3 kk H iq kcl tl;unfold im at c3;refine bD @vw ?_;refine bM.gen λi g s B D=>?_;have f0:i.get 0=.ac z0 z1 (Z.map λa=>[a]):=by rw[g];simp only[gW,reduceIte,aT,aN];exact g0
 have f8:i.get 8=.arr b2 0 (F c) (F c):=by rw[g];exact gS
 have f10:i.get 10=.ac kz sz (aF (dn d)):=by rw[g];exact gS
 have f11:i.get 11=(F d:Nat):=by rw[g];exact gS
 have w:i.defers=[]:=by rw[s];simp only[gW,reduceIte,aT,aN];exact hd
 clear g s B D c3 g0 g1 g8 g9 hd;refine cJ (λz2 e v=>∃f:Nat,f<=F c/\F d<=f/\z2=F c-f/\aj (∀t,F d<=t->t<f->∀a,p[t]?=J a->al a (F U)=0)/\e.get 0=.ac z0 z1 (Z.map λa=>[a])/\e.get 8=.arr b2 0 (F c) (F c)/\e.get 10=.ac kz sz (aF (dn d))/\e.get 11=(f:Nat)/\e.defers=[]/\v=o) ?_ (F c-F d) _ _ ?_;rotate_left 1
 .exact⟨F d,rp,bh _,O,⟨λt q1 q2=>absurd q2 af⟩,f0,f8,f10,f11,w,O⟩
 clear f0 f8 f10 f11 w;rintro z2 e o ⟨f,hj,Ot,rfl,K,g0,g8,g10,g11,hd,rfl⟩;by_cases u:f<F c
 .obtain⟨a,k⟩:∃a,p[f]?=J a:=⟨_,aY af⟩;have m:=kRl.M a (dy k);obtain⟨k1,s1,ld1,j⟩:=kT3.M.load k;have j:s1=1:=j (by intro q;rw[q]at m;simp at m);subst j;have WA:F (aF a)=F U+1:=by rw[db];exact m
  have l1:=eI (H:=o) (l:=a) (i:=U.length) (s:=1) af;have ix:=CG (b:=b2) (len:=c.length) (ba:=c.length) (k:=.i64) u;have Fj:(f:Int)<(F c:Int):=by omega
  have z':(F U:Int)<((F U+1:Nat):Int):=by omega
  by_cases hz:al a (F U)=0
  .have kz2:aj (∀t,F d<=t->t<f+1->∀a,p[t]?=J a->al a (F U)=0):=⟨λt hi wj a' z=>by
    rcases eg t f with q|q
    .exact K.M t hi q a' z
    .rw[(af:t=f),k]at z;injection z with z;rw[<-z];exact hz⟩
   have iN:decide (al a (F U)=0)=aa:=(by simp[hz]);generalize al a (F U)=z7 at *
   clear k m hz K;refine bF @vw @bj ?_;exact⟨F c-(f+1),by omega,f+1,by omega,by omega,O,kz2,by simp⟩
  .have e2:oE U c=aq:=(by rw[ke.M,aV];intro q;rw[ff]at q;have:=q a (dy (i:=f-F d) (by rw[rD,(af:F d+(f-F d)=f)];exact k));exact hz (of_decide_eq_true this));have ke2:=aj.mk e2;have iN:decide (al a (F U)=0)=au:=(by simp[hz]);generalize al a (F U)=z7 at *
   clear k m hz K e2;refine bF @vw @bj ?_;exact⟨_,_,O,kX3.M,.inl ⟨ke2.M,O⟩⟩
 have A:f=F c:=by omega
 subst A;have e2:oE U c=J (oi (p,d) (F U)):=by rw[ke.M,aH];rw[ff];intro a k;obtain⟨t,hi⟩:=sS k;rw[rD]at hi;have e_:=(bk.1 hi).1;exact cD (K.M (F d+t) af af a hi)
 rw[<-aab]at e2;have ke2:=aj.mk e2;have mk:=wF o (F U) af .i64 .i64;have tK:bR (F U) (im 0)=(jW p d (F U) 0).map im:=by unfold jW;rw[dG,DX,yO]
 rw[tK]at mk;clear e2 tK K ke;unfold im at mk;refine bD @vw ?_;refine bM.gen λi g s B D=>?_;have f0:i.get 0=.ac z0 z1 (Z.map λa=>[a]):=by rw[g];simp only[gW,reduceIte,aT,aN];exact g0
 have f8:i.get 8=.arr b2 0 (F c) (F c):=by rw[g];simp only[gW,reduceIte,aT,aN];exact g8
 have f10:i.get 10=.ac kz sz (aF (dn d)):=by rw[g];simp only[gW,reduceIte,aT,aN];exact g10
 have f12:i.get 12=.arr (F o.I) 0 (F U) (F U):=by rw[g];exact gS
 have f13:i.get 13=(0:Nat):=by rw[g];exact gR
 have w:i.defers=[]:=by rw[s];simp only[gW,reduceIte,aT,aN];exact hd
 clear g s B D g0 g8 g10 g11 hd mk;refine cJ (λz2 e v=>∃f:Nat,f<=F d/\z2=F d-f/\e.get 0=.ac z0 z1 (Z.map λa=>[a])/\e.get 8=.arr b2 0 (F c) (F c)/\e.get 10=.ac kz sz (aF (dn d))/\e.get 12=.arr (F o.I) 0 (F U) (F U)/\e.get 13=(f:Nat)/\e.defers=[]/\v=o.push ((jW p d (F U) f).map im)) ?_ (F d) _ _ ?_;rotate_left 1
 .exact⟨0,cC _,O,f0,f8,f10,f12,f13,w,O⟩
 clear f0 f8 f10 f12 f13 w;rintro z2 e v ⟨f,hj,rfl,g0,g8,g10,g12,g13,hd,rfl⟩;by_cases dD:f<F d
 .obtain⟨z5,I7⟩:∃z5,d[f]?=J z5:=⟨_,aY dD⟩;have x9:=kV.M.lt f z5 I7;have j:sz=1:=ksz.M (by intro q;unfold dn at q;rw[Be]at q;rw[q]at dD;exact Nat.not_lt_zero _ dD);subst j;obtain⟨a,k⟩:∃a,p[f]?=J a:=⟨_,aY af⟩;have m:=kRl.M a (dy k);obtain⟨k1,s1,ld1,j⟩:=(kT3.M.mono (H':=o.push ((jW p d (F U) f).map im)) λ_ q=>aX q).load k;have j:s1=1:=j (by intro q;rw[q]at m;simp at m);subst j;have WA:F (aF a)=F U+1:=by rw[db];exact m
  have l0:=eI (H:=o.push ((jW p d (F U) f).map im)) (l:=dn d) (i:=f) (s:=1) (by unfold dn;rw[bJ];exact dD);rw[Z3 I7]at l0;have l1:=eI (H:=o.push ((jW p d (F U) f).map im)) (l:=a) (i:=U.length) (s:=1) af;have ix1:=CG (b:=b2) (len:=c.length) (ba:=c.length) (k:=.i64) (af:f<F c);have ix3:=oO (b:=o.I.length) (len:=U.length) (ba:=U.length) (k:=.i64) x9;have sk:=vB (H:=o.push ((jW p d (F U) f).map im)) (b:=o.I.length) (r:=jW p d (F U) f) (k:=z5) (x:=al a (F U)) (aU _ _) (by rw[J2];exact x9);have gD:p.getD f []=a:=by rw[fg,k];rfl
  rw[ml,<-gD,aac I7,gD]at sk;have gG:(f:Int)<(F d:Int):=by omega
  have z':(F U:Int)<((F U+1:Nat):Int):=by omega
  unfold im at *
  clear k m gD I7 x9 ke2;refine bF @vw @bj ?_
  repeat' (first|simp(maxSteps:=9999999) (disch:=first|exact dZ|fail) only[gW,reduceIte,aT,aN,vw,bj, *]|(refine dX ?_ ?_<;>(intro _;try omega))|refine dW k_ bX ?_)
  exact⟨F d-(f+1),by omega,f+1,by omega,O,by simp⟩
 .have A:f=F d:=by omega
  subst A;refine bD @vw ?_;exact⟨_,_,O,kX3.M.trans (.push _ _),.inr ⟨_,_,ke2.M,J2 _ _ _ _,O,aU _ _⟩⟩
def Kc:Tryz.f102.results.toList=[.tmp 4]:=by kernel_rfl
def uj:Tryz.f44.results.toList=[.tmp 4,.tmp 5,.tmp 6]:=by kernel_rfl
def IL.same{x}{l}(h:IL x l):dh x x=aa:=by obtain⟨c,d,rfl,-⟩:=h;exact wS c d l
def aaC:∀xs:List V,(∀a∈xs,dh a a=aa)->nf (xs.map λa=>[a]) (xs.map λa=>[a])=aa
 | [],_=>rfl
 |x::xs,h=>by rw[dR,nf,aaC xs λa c=>h a (gr _ c),gI,h x gt];rfl
def RL.same{x}{U}(h:RL x U):dh x x=aa:=by
 obtain⟨g,o,i,rfl,-,k,f⟩:=h;have e:sF g g=aa:=by cases g<;>simp[sF]
 rw[dh,e,aaC i λa d=>?_]
 .simp
 .obtain⟨m,c⟩:=sS d;have j:=(bk.1 c).1;exact(f m a _ c (aY af)).same
def aou(h:ah)(fR:du h=aa)(x y z:V)(U:List (List Int))(ae am:List Int)(hx:RL x U)(E:IL y ae)(hz:IL z am)(ho:F U=F ae)(p:F U<=1000)(ye:F am<=1099511627776):
 ∃r h',W5.call 102 [.agg [x,y],z] h=J (r,h')/\∃X,r=.ret X/\RL X ((eE ae am).map λi=>U.getD i [])/\Ext h h'/\du h'=aa:=by
 have bx:=ua hx E;have hs:=λn=>V6 z am n hz ye;obtain⟨A,H,c,rfl,Xs,fF,jS⟩:=hx;obtain⟨D,K,rfl,j9⟩:=E;have kx:=aj.mk (ar Xs (ar jS j9));have t:=aj.mk ho;clear Xs jS j9 hz ho;have u23:=dp;have u22:=gZ;have z23:=iA;have z3:=fa;have Jg:F (c.map λa=>[a])=F U:=by rw[bJ];exact fF
 have e_:=db ae;have kX0:=aj.mk (ar (Ext.push h [.ac A H (c.map λa=>[a]),.ac D K (aF ae)]) (aU h [.ac A H (c.map λa=>[a]),.ac D K (aF ae)]));have B:aj (du (h.push [.ac A H (c.map λa=>[a]),.ac D K (aF ae)])=aa):=⟨fR⟩;refine cA O Tryz.func102 O ?_;refine bF @Kc @bC ?_;refine bM.gen λv j ja fM eS=>?_;have f1:v.get 1=z:=by rw[j];exact gS
 have f2:v.get 2=.ptr (.box (F h.I)) 0:=by rw[j];exact gS
 have f5:v.get 5=.ac .nil 0 ((hW c ae am 0).map λa=>[a]):=by rw[j];exact gR
 have f6:v.get 6=(0:Nat):=by rw[j];exact gR
 have fd:v.defers=[]:=by rw[ja];exact gS
 clear j ja fM eS bx;refine cJ (λz4 e g=>∃(i:Nat) (d:Tok) (S:Nat),i<=F U/\z4=F U-i/\aj (S=1∨((hW c ae am i)=[]/\d=.nil))/\aj (Ext h g/\g.I[F h.I]?=J [.ac A H (c.map λa=>[a]),.ac D K (aF ae)])/\aj (du g=aa)/\aj (dm h.tn g d)/\e.get 1=z/\e.get 2=.ptr (.box (F h.I)) 0/\e.get 5=.ac d S ((hW c ae am i).map λa=>[a])/\e.get 6=(i:Nat)/\e.defers=[]) ?_ (F U) _ _ ?_;rotate_left 1
 .exact⟨0,.nil,0,cC _,O,⟨.inr ⟨O,O⟩⟩,kX0,B,⟨.inl O⟩,f1,f2,f5,f6,fd⟩
 clear f1 f2 f5 f6 fd kX0 B;rintro z4 e g ⟨i,d,S,hi,rfl,m,q,u,f,g1,g2,g5,g6,hd⟩;have l0:=oP q.M.2;have l1:=yk q.M.2;by_cases w:i<F U;rotate_left 1
 .have gq:i=F U:=by omega
  subst gq;refine dA @Kc @dN @fE ?_;have hN:fc ae am (F U)=eE ae am:=by unfold fc eE;rw[t.M]
  refine⟨_,_,O,_,O,⟨_,_,_,O,λgb=>?_,?_,λi a r o p=>?_⟩,q.M.1,u.M⟩
  .rcases m.M with z0|⟨z0,-⟩
   .exact z0
   .exfalso;apply gb;rw[<-hN];unfold hW at z0;unfold fc;rw[Be]at z0;rw[z0];rfl
  .rw[bJ,<-hN];unfold hW fc;rw[bJ]
  .obtain⟨z2,j1,j2,rfl⟩:=P0 o;rw[hN]at j1;rw[eF,j1]at p;injection p with p;subst p;refine kx.M.2.1 z2 _ _ ?_ ?_
   .rw[fg,aY af];rfl
   .show U[z2]?=J (U.getD z2 []);rw[fg,aY j2];rfl
 have Ct:H=1:=kx.M.1 (by intro z0;rw[z0]at w;simp at w);subst Ct;have eM:K=1:=kx.M.2.2 (by intro z0;have ho:=t.M;rw[z0,gi]at ho;omega);subst eM;obtain⟨a,o⟩:∃a,c[i]?=J a:=⟨_,aY af⟩;have ld:=jc (H:=g) (s:=1) o;have lo:=eI (H:=g) (l:=ae) (i:=i) (s:=1) (by have:=t.M;omega);have IM:(i:Int)<(F U:Int):=by omega
 have akj:(i:Int)<(F ae:Int):=by have:=t.M;omega
 have z1:=hs (al ae i);cases hc:am.contains (al ae i) with
 |true=>
  rw[hc]at z1;have pl:=ZA (xs:=c) (ae:=ae) (am:=am) (k:=i);have ap:=Tg (H:=g) (x:=a) (es:=hW c ae am i) af m.M f.M;rw[<-ZC hc o]at ap;obtain⟨N,s',Z,rfl⟩:∃N s' Z,a=.ac N s' Z:=by obtain⟨r,p⟩:∃r,U[i]?=J r:=⟨_,aY w⟩;obtain⟨N,s',rfl,-⟩:=kx.M.2.1 i a r o p;exact⟨_,_,_,O⟩
  have bl:=HI (.ac N s' Z) O;have hG:=Grown.one f.M u.M q.M.1.tn;have kX2:aj (Ext h (g.app d)/\(g.app d).I[F h.I]?=J [.ac A 1 (c.map λa=>[a]),.ac D 1 (aF ae)]):=⟨hG.ext q.M.1 (bh _),by rw[ey];exact q.M.2⟩;have kok2:aj (du (g.app d)=aa):=⟨Bs u.M f.M⟩;have kcan2:aj (dm h.tn (g.app d) (.free g.tn)):=⟨hG.can⟩;have ksz2:aj (1=1∨((hW c ae am (i+1))=[]/\Tok.free g.tn=.nil)):=⟨.inl O⟩;clear hG o hc m q u f hs;unfold im at z1;refine cg @Kc @dN @fE @bj ?_;exact⟨F U-(i+1),by omega,i+1,_,1,by omega,O,(by first|assumption|trivial),(by first|assumption|trivial),(by first|assumption|trivial),(by first|assumption|trivial),by simp⟩
 |false=>rw[hc]at z1;have eN:=ZB (xs:=c) hc;have ksz2:aj (S=1∨((hW c ae am (i+1))=[]/\d=.nil)):=⟨by rw[eN];exact m.M⟩;rw[<-eN]at g5;clear o hc m hs eN;unfold im at z1;refine cg @Kc @dN @fE @bj ?_;exact⟨F U-(i+1),by omega,i+1,d,S,by omega,O,(by first|assumption|trivial),(by first|assumption|trivial),(by first|assumption|trivial),(by first|assumption|trivial),by simp⟩
def Q8{ae am}{i}(hi:i<F ae)(hc:am.contains (al ae i)=aa):(eE ae am)[F (fc ae am i)]?=J i:=by
 have e:eE ae am=fc ae am i++((bT (F ae-i)).map (i+·)).filter λc=>am.contains (al ae c):=by unfold eE fc;rw[<-A_,<-List.range_add];congr 2;omega
 rw[e,xm (bh _),sW,(af:F ae-i=(F ae-i-1)+1),List.range_succ_eq_map,dR,Nat.add_zero,List.filter_cons,aH hc];rfl
def adK(h:ah)(fR:du h=aa)(x y z:V)(U:List (List Int))(ae am:List Int)(hx:RL x U)(E:IL y ae)(H:IL z am)(mX:F U<=1000000)(ye:F am<=1099511627776):
 ∃r h',W5.call 44 [.agg [x,y],z] h=J (r,h')/\((∃e,fm U ae am=([],au,e)/\r=.ret (.tuple [.ac .nil 0 [],(au:V),((e:Int):V)]))∨∃l b,fm U ae am=(l,aa,0)/\F l=F U/\r=.ret (.tuple [.arr b 0 (F U) (F U),(aa:V),.v (.int .i64 0)])/\h'.I[b]?=J (l.map im)):=by
 have bx:=ua hx E;have D:(h.push [x,y]).I[F h.I]?=J [x,y]:=aU _ _;have p:=λN (X:Ext (h.push [x,y]) N)=>tN (X.box _ _ D);have o:=λN (X:Ext (h.push [x,y]) N)=>oP (X.box _ _ D);have B:=λN (X:Ext (h.push [x,y]) N)=>yk (X.box _ _ D);have l0:=p _ (.refl _);have cc:=aaa x y U ae hx E mX;have cp:=Zy z am H af;have f:fm U ae am=if cI U ae≠0 then ([],au,cI U ae) else if !dL (-1) am then ([],au,1) else match oE ((eE ae am).map λc=>U.getD c []) (fW (cr U)) with|none=>([],au,0)|some l=>(pV (F U) (eE ae am) l,aa,0):=rfl
 have svs:dh (.agg [x,y]) (.agg [x,y])=aa:=by rw[dh,gI,gI,gI,hx.same,E.same];rfl
 refine cA O Tryz.func44 O ?_;by_cases i:cI U ae≠0
 .rw[aH i]at f;generalize cI U ae=pe at *
  have Ws:decide (pe=0)=au:=by simp[i]
  have A:=aj.mk f;clear f i p o B hx E H cp D;unfold im at cc;refine bF @uj @bC ?_;exact⟨_,_,O,.inl ⟨pe,A.M,O⟩⟩
 rw[aV i]at f;have i:cI U ae=0:=Lp.1 i;rw[i]at cc;cases q2:dL (-1) am with
 |false=>rw[q2]at cp;rw[aH (by rw[q2];rfl)]at f;have A:=aj.mk f;clear f i q2 p o B hx E H D;unfold im at cc;refine bF @uj @bC ?_;exact⟨_,_,O,.inl ⟨1,A.M,O⟩⟩
 |true=>
 rw[q2]at cp;rw[aV (by rw[q2];simp)]at f;obtain⟨K,o2,o3,-⟩:=pD i;obtain⟨n1,n2⟩:=pm i;have ya:F (fW (cr U))=cr U:=Rm n1;have u:∀c∈eE ae am,c<F U:=λc hi=>by unfold eE at hi;rw[K];exact List.mem_range.1 (rE.1 hi).1
 have qu:F (eE ae am)<=64:=by unfold eE;exact Nat.le_trans (Bc _ _) (by rw[List.length_range];omega)
 have w:∀r∈(eE ae am).map λc=>U.getD c [],r∈U:=λr hr=>by obtain⟨c,hi,rfl⟩:=iX.1 hr;have:=u c hi;rw[fg,aY this];exact jf _
 have c136:=ag6 x y U ae hx E;have Z:=avS (cr U) n1 af;obtain⟨_,H2,c134,X,rfl,hX,S,Ck⟩:=aou (h.push [x,y]) fR x y z U ae am hx E H K af ye;have lH2:=p H2 S;obtain⟨_,d,q,P3⟩:=aha H2 Ck X (.ac .held 1 (aF (fW (cr U)))) _ (fW (cr U)) hX ⟨_,_,O,λ_=>rfl⟩ (by rw[bJ];exact qu) (λr hr=>by rw[ya];exact(o3 r (w r hr)).1) (by rw[ya];exact n2) af (λr hr=>(o3 r (w r hr)).2.2.2) (λx hx=>by
  unfold fW at hx;rcases hh.1 hx with rfl|hx
  .exact⟨bm,by decide⟩
  .rw[List.eq_of_mem_replicate hx];exact⟨bm,by decide⟩)
 obtain⟨X3,P3⟩:=P3;have j:=aj.mk λN (X:Ext d N)=>o N (S.trans (X3.trans X));have m:=aj.mk λN (X:Ext d N)=>B N (S.trans (X3.trans X));have hs:=λn=>V6 z am n H ye;have ll0:=o d (S.trans X3);rw[bJ]at P3;obtain⟨k0,s0,xs,rfl,-,fF,-⟩:=hx;obtain⟨ky,sy,rfl,j9⟩:=E;have ksy:=aj.mk j9;have u23:=dp;have u22:=gZ;have z3:=fa;have Jg:F (xs.map λa=>[a])=F U:=by rw[bJ];exact fF
 have e_:=db ae;have ko:=aj.mk (ar u K);clear w u o3 hX S X3 Ck H p o B D i fF j9 K;unfold im at cc c136 Z;rcases P3 with⟨e1,rfl⟩|⟨l,b,e1,e2,rfl,hb⟩
 .rw[e1]at f;have A:=aj.mk f;clear f e1 j m hs;unfold im at q;refine bF @uj @bC ?_;refine jY [(2,3)] k_ bX (λz4 hp=>?_) ?_
  .simp only[iL]at hp;subst hp;refine nO (x:=.ptr (.box (F h.I)) 0) (v:=.agg [.ac k0 s0 (xs.map λa=>[a]),.ac ky sy (aF ae)]) bX O O O bX (svs) ?_ ?_<;>(simp only[dY,dG];exact f_ @uj @and_self)
  refine bD @uj ?_;exact⟨_,_,O,.inl ⟨0,A.M,O⟩⟩
 rw[e1]at f;have A:=aj.mk f;have kb:=aj.mk (ar hb e2);have mk:=wF d (F U) af .i64 .i64;have tK:bR (F U) (im 0)=(lJ (F U) (eE ae am) l (F (fc ae am 0))).map im:=by unfold lJ;rw[show(F (fc ae am 0))=0 from O,dG,DX,yO]
 rw[tK]at mk;clear f e1 tK hb;unfold im at q mk;refine bF @uj @bC ?_;refine jY [(2,3)] k_ bX (λz4 hp=>?_) ?_
 .simp only[iL]at hp;subst hp;refine nO (x:=.ptr (.box (F h.I)) 0) (v:=.agg [.ac k0 s0 (xs.map λa=>[a]),.ac ky sy (aF ae)]) bX O O O bX (svs) ?_ ?_<;>(simp only[dY,dG];exact f_ @uj @and_self)
 refine dA @uj @dN @fE ?_;refine bM.gen λt g ja fM eS=>?_;have f1:t.get 1=z:=by rw[g];exact gS
 have f2:t.get 2=.ptr (.box (F h.I)) 0:=by rw[g];exact gS
 have f8:t.get 8=.arr b 0 (F (eE ae am)) (F (eE ae am)):=by rw[g];exact gS
 have f11:t.get 11=.arr (F d.I) 0 (F U) (F U):=by rw[g];exact gS
 have f12:t.get 12=(F (fc ae am 0):Nat):=by rw[g];exact gR
 have f13:t.get 13=(0:Nat):=by rw[g];exact gR
 have fd:t.defers=[]:=by rw[ja];exact gS
 clear g ja fM eS mk cc cp c136 Z c134 q l0 lH2 ll0 bx svs;refine cJ (λz2 e z0=>∃c:Nat,c<=F U/\z2=F U-c/\e.get 1=z/\e.get 2=.ptr (.box (F h.I)) 0/\e.get 8=.arr b 0 (F (eE ae am)) (F (eE ae am))/\e.get 11=.arr (F d.I) 0 (F U) (F U)/\e.get 12=(F (fc ae am c):Nat)/\e.get 13=(c:Nat)/\e.defers=[]/\z0=d.push ((lJ (F U) (eE ae am) l (F (fc ae am c))).map im)) ?_ (F U) _ _ ?_;rotate_left 1
 .exact⟨0,cC _,O,f1,f2,f8,f11,f12,f13,fd,O⟩
 clear f1 f2 f8 f11 f12 f13 fd;rintro z2 e z0 ⟨c,hi,rfl,g1,g2,g8,g11,g12,g13,hd,rfl⟩;have l0:=j.M (d.push ((lJ (F U) (eE ae am) l (F (fc ae am c))).map im)) (.push _ _);have l1:=m.M (d.push ((lJ (F U) (eE ae am) l (F (fc ae am c))).map im)) (.push _ _);by_cases mg:c<F U;rotate_left 1
 .have gq:c=F U:=by omega
  subst gq;have hN:fc ae am (F U)=eE ae am:=by unfold fc eE;rw[ko.M.2]
  have kN:=aj.mk hN;clear hN;refine dA @uj @dN @fE ?_;refine⟨_,_,O,.inr ⟨_,_,A.M,?_,O,?_⟩⟩
  .rw[<-Ky];exact Kz
  .rw[aU,kN.M,Ky]
 have eM:sy=1:=ksy.M (by intro z5;have K:=ko.M.2;rw[z5,gi]at K;omega);subst eM;have lo:=eI (H:=d.push ((lJ (F U) (eE ae am) l (F (fc ae am c))).map im)) (l:=ae) (i:=c) (s:=1) (by have:=ko.M.2;omega);have IM:(c:Int)<(F U:Int):=by omega
 have akj:(c:Int)<(F ae:Int):=by have:=ko.M.2;omega
 have z1:=hs (al ae c);cases hc:am.contains (al ae c) with
 |true=>
  rw[hc]at z1;have tF:=Q8 (show c<F ae by have:=ko.M.2;omega) hc;have dD:=(bk.1 tF).1;have VP:=ZF hc;have Ny:F (fc ae am (c+1))=F (fc ae am c)+1:=by rw[VP,de];rfl
  have ix1:=oO (b:=b) (len:=(eE ae am).length) (ba:=(eE ae am).length) (k:=.i64) dD;have ix3:=oO (b:=d.I.length) (len:=U.length) (ba:=U.length) (k:=.i64) mg;have lv:=wz (H:=d.push ((lJ (F U) (eE ae am) l (F (fc ae am c))).map im)) (aX kb.M.1) (vn (k:=(fc ae am c).length) (by rw[kb.M.2];exact dD));have sk:=vB (H:=d.push ((lJ (F U) (eE ae am) l (F (fc ae am c))).map im)) (b:=d.I.length) (r:=lJ (F U) (eE ae am) l (F (fc ae am c))) (k:=c) (x:=al l (F (fc ae am c))) (aU _ _) (by rw[Kz];exact mg);rw[ml,aa0 tF,<-Ny]at sk;have kNl:=aj.mk Ny;clear tF VP Ny hs j m;unfold im at z1 lv sk l0 l1 lo ⊢;refine cg @uj @dN @fE @bj ?_;exact⟨F U-(c+1),by omega,c+1,by omega,O,by trivial,by trivial,by trivial,by trivial,(by rw[kNl.M];first|rfl|simp),by simp,by trivial,by trivial⟩
 |false=>rw[hc]at z1;have VO:=ZE hc;have kNn:=aj.mk VO;clear VO hs j m;unfold im at z1;refine cg @uj @dN @fE @bj ?_;exact⟨F U-(c+1),by omega,c+1,by omega,O,by trivial,by trivial,by trivial,by trivial,by rw[kNn.M],by simp,by trivial,by rw[kNn.M]⟩
def L6:List a_:=L5++[37,30,127,26,71,79,44,101,102]
noncomputable def Qb:a_->Option (List V->ah->Option (V × ah)):=my W5 L6
noncomputable abbrev W6:=whole ag Gt Qb
def afZ:mN Qb L6:=tg
section
variable (a b n x:Int)
def adP:∀h,W6.call 80 [im a,im b] h=J (.ret (im (cX a b)),h):=b8 (L:=L6) O O O (Hw a b _) O rfl
def awC:∀h,W6.call 66 [im x] h=J (.ret (.v (.bool (cq x))),h):=b8 (L:=L6) O O O (GQ x _) O rfl
def aju:∀h,W6.call 75 [im a,im n] h=J (.ret (.tuple [im (eR a n),im (lm a)]),h):=b8 (L:=L6) O O O (Iq a n _) O rfl
def aqq:∀h,W6.call 130 [im a,im b] h=J (.ret (im (cX a b)),h):=b8 (L:=L6) O O O (aqp a b _) O rfl
def arT:∀h,W6.call 202 [im a,im b] h=J (.ret (im (cV a b)),h):=b8 (L:=L6) O O O (arS a b _) O rfl
def atB:∀h,W6.call 111 [im x] h=J (.ret (.v (.bool (cq x))),h):=b8 (L:=L6) O O O (atA x _) O rfl
def aqW:∀h,W6.call 203 [im a,im n] h=J (.ret (.tuple [im (eR a n),im (lm a)]),h):=b8 (L:=L6) O O O (aqV a n _) O rfl
def aal:∀h,W6.call 97 [im n] h=J (.ret (.agg (aG 1 n [] .nil 0 [])),h):=b8 (L:=L6) O O O (aq6 n _) O rfl
def anZ:∀h,W6.call 133 [im n] h=J (.ret (.v (.bool (cG n))),h):=b8 (L:=L6) O O O (anY n _) O rfl
end
def WW:∀l:List Pr,ef (cL l)=cL l
 | []=>rfl
 |p::l=>by show ef (bB p::cL l)=_;rw[ef,WW l];rfl
def M':∀l:List Pr,fZ 0 0 0 (cL l)=aa
 | []=>rfl
 |p::l=>by show fZ 0 0 0 (bB p::cL l)=_;rw[fZ,M' l];rfl
def WY:∀l:List (Int × Int),ef (bY l)=bY l
 | []=>rfl
 |p::l=>by show ef (bI p::bY l)=_;rw[ef,WY l];rfl
def EM:∀l:List (Int × Int),fZ 0 0 0 (bY l)=aa
 | []=>rfl
 |p::l=>by show fZ 0 0 0 (bI p::bY l)=_;rw[fZ,EM l];rfl
def W9:∀l:List Int,ef (l.map KK)=l.map KK
 | []=>rfl
 |p::l=>by rw[dR,ef,W9 l];rfl
def Va:∀l:List Int,fZ 0 0 0 (l.map KK)=aa
 | []=>rfl
 |p::l=>by rw[dR,fZ,Va l];rfl
def PL.hold{x}{l}(h:PL x l):PL (aA x) l/\aK 0 0 0 (aA x)=aa:=by obtain⟨d,f,rfl,c⟩:=h;rw[aA,WW];exact⟨⟨cK d,f,O,c⟩,by rw[aK,fy,M'];rfl⟩
def SL.hold{x}{l}(h:SL x l):SL (aA x) l/\aK 0 0 0 (aA x)=aa:=by obtain⟨d,f,rfl,c⟩:=h;rw[aA,WY];exact⟨⟨cK d,f,O,c⟩,by rw[aK,fy,EM];rfl⟩
def UL.hold{x}{l}(h:UL x l):UL (aA x) l/\aK 0 0 0 (aA x)=aa:=by obtain⟨⟨f,g,rfl,d⟩,c⟩:=h;rw[aA,W9];exact⟨⟨⟨cK f,g,O,d⟩,c⟩,by rw[aK,fy,Va];rfl⟩
def BL.hold{x}{b}(h:BL x b):BL (aA x) b/\aK 0 0 0 (aA x)=aa:=by obtain⟨d,f,rfl,c⟩:=h;rw[aA,rh];exact⟨⟨cK d,f,O,c⟩,by rw[aK,fy,mA];rfl⟩
def O7{X Y C}{U}{ae av}(ep)(hx:RL X U)(E:IL Y ae)(hc:IL C av):
 ∃d f c,aA (.agg (aJ ep X Y C))=.agg (aJ ep d f c)/\RL d U/\IL f ae/\IL c av/\aK 0 0 0 (.agg (aJ ep d f c))=aa:=by
 obtain⟨g,i⟩:=hx.ip;obtain⟨j,k⟩:=E.hold;obtain⟨m,o⟩:=hc.hold;exact⟨_,_,_,O,g,j,m,by simp[aJ,aK,aM,i,k,o]⟩
section
variable (ep:Int) (X Y C T L:V) (U:List (List Int)) (ae av:List Int) (aC:List UInt8) (l:List Pr)
 (hx:RL X U) (E:IL Y ae) (hc:IL C av) (ht:BL T aC) (hp:PL L l) (fw:av.length<=1000000) (gU:l.length<=1000000)
include hx E hc ht hp fw gU
def TC:(eK U ae ep av aC l≠0/\∀h,W6.call 37 [.agg (aJ ep X Y C),T,L] h=J (.ret (.tuple [.ac .nil 0 [],im 0,im 0,im (eK U ae ep av aC l)]),h))∨
 (eK U ae ep av aC l=0/\∃Z,IL Z (uH (al av 0) aC l)/\∀h,W6.call 37 [.agg (aJ ep X Y C),T,L] h=J (.ret (.tuple [Z,im ((jt (al av 0) aC l:Nat):Int),im ((ft (al av 0) aC l:Nat):Int),im 0]),h)):=by
 obtain⟨d,f,c,j,k,m,o,p⟩:=O7 ep hx E hc;obtain⟨q,r⟩:=ht.hold;obtain⟨s,t⟩:=hp.hold;have g:bE [.agg (aJ ep X Y C),T,L]=[.agg (aJ ep d f c),aA T,aA L]:=by rw[bE,bE,bE,bE,j]
 have i:aM 0 0 0 [.agg (aJ ep d f c),aA T,aA L]=aa:=by rw[aM,aM,aM,aM,p,r,t];rfl
 obtain⟨D,z,y,⟨w,rfl⟩|⟨w,Z,rfl,u⟩⟩:=afk ⟨[],[],0,[]⟩ wG ep d f c (aA T) (aA L) U ae av aC l k m o q s fw gU
 .exact .inl ⟨w,b8 (L:=L6) O g i y O O⟩
 .obtain⟨A,B,rfl,v⟩:=u;refine .inr ⟨w,.ac (cK A) B (aF _),⟨_,_,O,v⟩,b8 (L:=L6) O g i y ?_ ?_⟩
  .rfl
  .rw[aK,aM,aK,fy,jG];rfl
def ang(k:V)(s:List (Int × Int))(c d f:Int)(B:SL k s)(i:F s<=1000000):
 ∀h,W6.call 30 [.agg (aJ ep X Y C),T,L,im c,k,im d,im f] h=J (.ret (.tuple [im (na U ae ep av aC l c s d f).1,im (na U ae ep av aC l c s d f).2]),h):=by
 obtain⟨m,o,j,p,q,r,t,u⟩:=O7 ep hx E hc;obtain⟨v,w⟩:=ht.hold;obtain⟨y,z⟩:=hp.hold;obtain⟨A,g⟩:=B.hold;obtain⟨K,H,D,rfl⟩:=anf ⟨[],[],0,[]⟩ wG ep m o j (aA T) (aA L) (aA k) U ae av aC l s c d f q r t v y A fw gU i;exact b8 (L:=L6) O (by simp only[bE];rw[p];rfl) (by simp only[aM];rw[u,w,z,g];rfl) D O rfl
end
def abK(c e s)(T)(aC)(ht:BL T aC)(g:F aC<=1000000):
 ∀h,W6.call 26 [im c,T,.agg [im e,im s]] h=J (.ret (.v (.bool (ol c aC e s))),h):=by
 obtain⟨⟨m,o,d,i⟩,f⟩:=ht.hold;obtain⟨p,k,j,rfl,-⟩:=awD ⟨[],[],0,[]⟩ c e s m o aC i g;exact b8 (L:=L6) O (by simp only[bE];rw[d];rfl) (by rw[<-d];simp only[aM];rw[f];rfl) j O rfl
def ahG(x y z)(U)(ae c)(A)(hx:RL x U)(E:IL y ae)(s:IL z c)(r:F c<=1000)(f:F U<=1000000):
 (jD U ae A c≠0/\∀h,W6.call 71 [.agg [x,y],im A,z] h=J (.ret (.tuple [.ac .nil 0 [],.ac .nil 0 [],im (jD U ae A c)]),h))∨
 (jD U ae A c=0/\∃D H,SL D (fA U (A::c))/\IL H (bU (A::c))/\∀h,W6.call 71 [.agg [x,y],im A,z] h=J (.ret (.tuple [D,H,im 0]),h)):=by
 obtain⟨j,k,m,o⟩:=nM hx E;obtain⟨p,q⟩:=s.hold;have d:aM 0 0 0 [.agg [aA x,aA y],im A,aA z]=aa:=by simp[aM,aK,m,o,q,im]
 obtain⟨S,N,K,⟨t,rfl⟩|⟨t,t1,v,t2,w,rfl,g,i⟩⟩:=ahF ⟨[],[],0,[]⟩ wG (aA x) (aA y) (aA z) U ae c A j k p r f
 .exact .inl ⟨t,b8 (L:=L6) (u:=[.agg [aA x,aA y],im A,aA z]) O O d K O O⟩
 .refine .inr ⟨t,.ac (cK t1) v (bY _),.ac (cK t2) w (aF _),⟨_,_,O,g⟩,⟨_,_,O,λ_=>i⟩,b8 (L:=L6) (u:=[.agg [aA x,aA y],im A,aA z]) O O d K ?_ ?_⟩
  .rfl
  .rw[aK,aM,aK,fy,EM,aM,aK,fy,jG];rfl
def agC(x y)(U)(ae)(hx:RL x U)(E:IL y ae):∀h,W6.call 35 [.agg [x,y]] h=J (.ret (im (cI U ae)),h):=by obtain⟨c,d,f,g⟩:=nM hx E;exact b8 (L:=L6) (u:=[.agg [aA x,aA y]]) O O (by simp[aM,aK,f,g]) (MM (aA x) (aA y) U ae c d _) O rfl
def UC(x y)(U)(ae)(hx:RL x U)(E:IL y ae):∀h,W6.call 134 [.agg [x,y]] h=J (.ret (im (cr U:Nat)),h):=by obtain⟨c,d,f,g⟩:=nM hx E;exact b8 (L:=L6) (u:=[.agg [aA x,aA y]]) O O (by simp[aM,aK,f,g]) (ag7 (aA x) (aA y) U ae c d _) O rfl
def an4(x)(l)(hx:IL x l)(f:F l<=9223372036854775807):∀h,W6.call 135 [x] h=J (.ret (.v (.bool (l.all cG))),h):=by obtain⟨c,d⟩:=hx.hold;exact b8 (L:=L6) (u:=[aA x]) O O (by simp[aM,d]) (an3 (aA x) l c f _) O rfl
def ao1(x)(l)(hx:IL x l)(f:F l<=9223372036854775807):∀h,W6.call 43 [x] h=J (.ret (.v (.bool (dL (-1) l))),h):=by obtain⟨c,d⟩:=hx.hold;exact b8 (L:=L6) (u:=[aA x]) O O (by simp[aM,d]) (Zy (aA x) l c f _) O rfl
def adJ(x y z)(U)(ae am)(hx:RL x U)(E:IL y ae)(q:IL z am)(i:F am<=1099511627776):
 (∃e,fm U ae am=([],au,e)/\∀h,W6.call 39 [.agg [x,y],z] h=J (.ret (.tuple [.ac .nil 0 [],(au:V),im e]),h))∨
 ∃l,fm U ae am=(l,aa,0)/\F l=F U/\∃Z,IL Z l/\∀h,W6.call 39 [.agg [x,y],z] h=J (.ret (.tuple [Z,(aa:V),im 0]),h):=by
 obtain⟨d,j,k,m⟩:=nM hx E;obtain⟨o,p⟩:=q.hold;have g:aM 0 0 0 [.agg [aA x,aA y],aA z]=aa:=by simp[aM,aK,k,m,p]
 obtain⟨v,w,t,c,-⟩:=d.form;rw[c]at d;rcases S4 v w t (aA y) (aA z) U ae am d j o i with⟨e,r,f⟩|⟨l,r,s,f⟩
 .rw[<-c]at f;exact .inl ⟨e,r,b8 (L:=L6) (u:=[.agg [aA x,aA y],aA z]) O O g (f _) O O⟩
 .rw[<-c]at f;refine .inr ⟨l,r,s,.ac .held 1 (aF l),⟨_,_,O,λ_=>rfl⟩,b8 (L:=L6) (u:=[.agg [aA x,aA y],aA z]) O O g (f _) ?_ ?_⟩
  .rfl
  .rw[aK,aM,aK,jG];rfl
def ip(k):cK (cK k)=cK k:=by cases k<;>rfl
def azi{l}{U}(f:gB l U)(d:ef U=U)(k)(i:F U<=1000000):∀h,W2.call 96 [.ac k 4 U] h=J (.ret (.agg (aG 3 0 [] (cK k) 4 U)),h):=by
 have j:cW (.ac l) (aG 3 0 [] k 4 U):=.ac l k 4 U f.1 (λ_=>rfl) i f.2;obtain⟨g,c⟩:=cW.hold _ _ j;have e:bE (aG 3 0 [] k 4 U)=aG 3 0 [] (cK k) 4 (ef U):=rfl;rw[e,d]at g c;refine b8 (L:=L2) (u:=[.ac (cK k) 4 U]) O ?_ ?_ (arO _ _ _ _) ?_ ?_
 .simp only[bE,aA,d]
 .unfold aG at c;simp only[aM,bQ]at c ⊢;exact⟨c.2.2.2.1,br⟩
 .show V.agg [im 3,im 0,sv [],.ac (cK (cK k)) 4 U]=_;rw[ip];rfl
 .rw[aK];exact c
def as5(s):∀h,W3.call 99 [sv s] h=J (.ret (.agg (aG 2 0 s .nil 0 [])),h):=b8 (L:=L3) O O O (as4 s _) O rfl
section
open Go.Proofs.YtcbhpkjbiehcpaaGreatDoor renaming aze->Q57,L3->Q59
open Go.AE renaming b8->Q58
def azf{v}{r}(g:cW v r)(e:gf v<=16)(f:F (cH v)<=1099511600000):∃t,∀h,W3.call 100 [.agg r] h=J (.ret (.tuple [.ac t 1 (bW (cH v)),.v (.int .i64 0)]),h):=ZS11
end
def ZS14{p:Prop}(h:p:=by
 have j:cW (.ac l) (aG 3 0 [] k 4 U):=.ac l k 4 U f.1 (λ_=>rfl) g f.2;obtain⟨i,c⟩:=cW.hold _ _ j;have e:bE (aG 3 0 [] k 4 U)=aG 3 0 [] (cK k) 4 (ef U):=rfl;rw[e,d]at i c;refine Q69 (L:=Q70) (u:=[.ac (cK k) 4 U]) O ?_ ?_ (Q71 f d (cK k) g _) ?_ ?_
 .simp only[bE,aA,d]
 .unfold aG at c;simp only[aM,bQ]at c ⊢;exact⟨c.2.2.2.1,br⟩
 .show V.agg [im 3,im 0,sv [],.ac (cK (cK (cK k))) 4 U]=_;rw[ip,ip];rfl
 .rw[aK];exact c):p:=h
section
open Go.AE renaming b8->Q69
open Go.Proofs.YtcbhpkjbiehcpaaGreatDoor renaming L3->Q70,azi->Q71
def azj{l}{U}(f:gB l U)(d:ef U=U)(k)(g:F U<=1000000):∀h,W3.call 96 [.ac k 4 U] h=J (.ret (.agg (aG 3 0 [] (cK k) 4 U)),h):=ZS14
end
def as6(s):∀h,W4.call 99 [sv s] h=J (.ret (.agg (aG 2 0 s .nil 0 [])),h):=b8 (L:=L4) O O O (as5 s _) O rfl
section
open Go.Proofs.YtcbhpkjbiehcpaaGreatDoor renaming azf->Q57,L4->Q59
open Go.AE renaming b8->Q58
def azg{v}{r}(g:cW v r)(e:gf v<=16)(f:F (cH v)<=1099511600000):∃t,∀h,W4.call 100 [.agg r] h=J (.ret (.tuple [.ac t 1 (bW (cH v)),.v (.int .i64 0)]),h):=ZS11
end
section
open Go.AE renaming b8->Q69
open Go.Proofs.YtcbhpkjbiehcpaaGreatDoor renaming L4->Q70,azj->Q71
def azk{l}{U}(f:gB l U)(d:ef U=U)(k)(g:F U<=1000000):∀h,W4.call 96 [.ac k 4 U] h=J (.ret (.agg (aG 3 0 [] (cK k) 4 U)),h):=ZS14
end
def as7(s):∀h,W5.call 99 [sv s] h=J (.ret (.agg (aG 2 0 s .nil 0 [])),h):=gV (L:=L5) O O O (as6 s _) O rfl
section
open Go.Proofs.YtcbhpkjbiehcpaaGreatDoor renaming azg->Q57,L5->Q59
open Go.AE renaming gV->Q58
def azh{v}{r}(g:cW v r)(e:gf v<=16)(f:F (cH v)<=1099511600000):∃t,∀h,W5.call 100 [.agg r] h=J (.ret (.tuple [.ac t 1 (bW (cH v)),.v (.int .i64 0)]),h):=ZS11
end
section
open Go.AE renaming gV->Q69
open Go.Proofs.YtcbhpkjbiehcpaaGreatDoor renaming L5->Q70,azk->Q71
def azl{l}{U}(f:gB l U)(d:ef U=U)(k)(g:F U<=1000000):∀h,W5.call 96 [.ac k 4 U] h=J (.ret (.agg (aG 3 0 [] (cK k) 4 U)),h):=ZS14
end
def as8(s):∀h,W6.call 99 [sv s] h=J (.ret (.agg (aG 2 0 s .nil 0 [])),h):=b8 (L:=L6) O O O (as7 s _) O rfl
section
open Go.Proofs.YtcbhpkjbiehcpaaGreatDoor renaming azh->Q57,L6->Q59
open Go.AE renaming b8->Q58
def aqE{v}{r}(g:cW v r)(e:gf v<=16)(f:F (cH v)<=1099511600000):∃t,∀h,W6.call 100 [.agg r] h=J (.ret (.tuple [.ac t 1 (bW (cH v)),.v (.int .i64 0)]),h):=ZS11
end
section
open Go.AE renaming b8->Q69
open Go.Proofs.YtcbhpkjbiehcpaaGreatDoor renaming L6->Q70,azl->Q71
def arN{l}{U}(f:gB l U)(d:ef U=U)(k)(g:F U<=1000000):∀h,W6.call 96 [.ac k 4 U] h=J (.ret (.agg (aG 3 0 [] (cK k) 4 U)),h):=ZS14
end
def asJ:Tryz.f137.results.toList=[.tmp 4]:=by kernel_rfl
def Ke:Tryz.f94.results.toList=[.tmp 4]:=by kernel_rfl
def apA(x n)(h):W6.call 137 [im x,im n] h=J (.ret (im (eR x n)),h):=by
 have c:=λh=>aqW x n h;unfold im at *
 refine da O Tryz.func137 O ?_;exact iU @asJ
def ahh(h:ah)(x y z:V)(U:List (List Int))(ae av:List Int)(hx:RL x U)(E:IL y ae)(hz:IL z av)(hl:F av<=1000000):
 ∃r h',W6.call 94 [.agg [x,y],z] h=J (r,h')/\h'=h.push [x,y]/\r=.ret (.v (.bool (av.all cq&&decide (F av=cr U)))):=by
 have bx:=ua hx E;have c1:=UC x y U ae hx E;have l0:=tN (aU h [x,y]);have o:=λn=>atB n;obtain⟨z0,Z,rfl,A⟩:=hz;have ks:=aj.mk A;clear A hx E;have u23:=dp;have z3:=fa;have e_:=db av;obtain⟨q,s⟩:∃q,h.push [x,y]=q:=⟨_,O⟩;rw[s]at l0;rw[s];unfold im at c1 o;refine cA O Tryz.func94 O ?_;refine dA @Ke @bC @s ?_;refine bM.gen λm f p v w=>?_;have f1:m.get 1=.ac z0 Z (aF av):=by rw[f];exact gS
 have f2:m.get 2=.ptr (.box (F h.I)) 0:=by rw[f];exact gS
 have f5:m.get 5=(0:Nat):=by rw[f];exact gR
 have u:m.defers=[]:=by rw[p];exact gS
 clear f p v w bx;refine cJ (λz1 e S=>∃d:Nat,d<=F av/\z1=F av-d/\aj ((av.take d).all cq=aa)/\e.get 1=.ac z0 Z (aF av)/\e.get 2=.ptr (.box (F h.I)) 0/\e.get 5=(d:Nat)/\e.defers=[]/\S=q) ?_ (F av) _ _ ?_;rotate_left 1
 .exact⟨0,cC _,O,⟨cE⟩,f1,f2,f5,u,O⟩
 clear f1 f2 f5 u;rintro z1 e S ⟨d,hi,rfl,D,g1,g2,g5,hd,rfl⟩;by_cases c:d<F av
 .have B:Z=1:=ks.M (by intro z2;rw[z2]at c;simp at c);subst B;have ld:=eI (H:=S) (s:=1) c;have k:av[d]?=J (al av d):=by rw[aY c,fL c]
  have gG:(d:Int)<(F av:Int):=by omega
  have t:=o (al av d);have g:(av.take (d+1)).all cq=cq (al av d):=by rw[ga k,qP,D.M];simp
  have K:=aj.mk (ar g (dy k));clear g k o;generalize al av d=n at *
  cases i:cq n with
  |false=>rw[i]at t;have kf:aj (av.all cq=au):=⟨by rw[List.all_eq_false];exact⟨n,K.M.2,by rw[i];simp⟩⟩;clear i;refine bF @Ke @bj ?_;exact⟨_,_,O,O,by rw[kf.M];rfl⟩
  |true=>rw[i]at t;have N:aj ((av.take (d+1)).all cq=aa):=⟨K.M.1.trans i⟩;clear i;refine bF @Ke @bj ?_;exact⟨F av-(d+1),by omega,d+1,by omega,O,N,by simp⟩
 .have:d=F av:=by omega
  subst this;have:=D.M;rw[gy]at this;have H:=aj.mk this;have j:decide ((F av:Int)=(cr U:Int))=decide (F av=cr U):=by rw[decide_eq_decide];omega
  have kd:=aj.mk j;clear this o j;generalize decide (F av=cr U)=dd at *
  refine bD @Ke ?_;exact⟨_,_,O,O,by rw[H.M,kd.M];rfl⟩
def aoG(p:Pr):Bool:=decide (0<=p.bN)&&decide (p.bN<64)&&decide (0<=p.no)&&decide (p.no<4096)&&cq p.d&&cq p.e
def Dm:Tryz.f98.results.toList=[.cell 2 118]:=by kernel_rfl
def aeU:iP ag 118 [(0,.v (.int .i64 3))]=J (.agg (aG 3 0 [] .nil 0 [])):=by kernel_rfl
def dx(n:Int):List V:=aG 1 n [] .nil 0 []
def Q'{H:ah}{r}(d:(V.agg r).bP=J r)(c:F r=4):b9 ag (H.push (aG 0 0 [] .nil 0 [])) 118 (.ptr (.box (F H.I)) 0) (.agg r)=J (H.push r):=j3 d nP c rfl
def Yi{H:ah}{b}{r}(d:F r=4)(c:b<F H.I):aL ag Gt (H.put b r) 118 (.ptr (.box b) 0)=J (.agg r):=nF d (dM c)
def aa2{H}{b}{z r}(f:H.I[b]?=J z)(g:F z=4)(d:(V.agg r).bP=J r)(c:F r=4):b9 ag H 118 (.ptr (.box b) 0) (.agg r)=J (H.put b r):=by rw[fI d nP f c af,vA af]
def alG(h:ah)(fR:du h=aa)(k:Tok)(l:List Int)(hl:F l<=1000)(t:l≠[])(hb:∀n∈l,0<=n/\n<=4611686018427387903):
 ∃r h',W6.call 98 [.ac k 1 (aF l)] h=J (r,h')/\∃n,r=.ret (.agg (aG 3 0 [] (.free n) 4 (l.map dx))):=by
 have z4:=uo;have bd:=aeU;have u23:=dp;have u94:=mw;have z3:=fa;have e_:=db l;have D:=Q' (H:=h.push (aG 0 0 [] .nil 0 [])) (r:=aG 3 0 [] .nil 0 []) O O;have q:F (h.push (aG 0 0 [] .nil 0 [])).I=F h.I+1:=bV _ _;have N:pI h ((h.push (aG 0 0 [] .nil 0 [])).push (aG 3 0 [] .nil 0 [])) (F h.I+1) ((l.map Vl.int).take 0) .nil 0 []:=⟨by rw[<-q];exact aU _ _,.inl O,fR,(Ext.push _ _).trans (.push _ _),Nat.le_succ _,⟨O,λc z5 r z0=>by simp at z0⟩,λz0=>absurd O z0,λ_=>.inr O,O⟩;have K:((h.push (aG 0 0 [] .nil 0 [])).push (aG 3 0 [] .nil 0 [])).I[F h.I]?=J (aG 0 0 [] .nil 0 []):=aX (aU _ _);have m:=aj.mk (ar N K);rw[q]at D;clear N K;have kb:=aj.mk (ar hb t);clear hb t;obtain⟨S,hH⟩:∃S,(h.push (aG 0 0 [] .nil 0 [])).push (aG 3 0 [] .nil 0 [])=S:=⟨_,O⟩;rw[hH]at D m;refine cA O Tryz.func98 O ?_;refine dA @Dm @bC @jl ?_;refine bM.gen λi g p fM eS=>?_;have f0:i.get 0=.ac k 1 (aF l):=by rw[g];exact gS
 have f2:i.get 2=.ptr (.box (F h.I)) 0:=by rw[g];exact gS
 have f3:i.get 3=.ptr (.box (F h.I+1)) 0:=by rw[g];simp only[gW,reduceIte,aT,aN,bV]
 have f4:i.get 4=(0:Nat):=by rw[g];exact gR
 have fd:i.defers=[]:=by rw[p];exact gS
 clear g p fM eS D hH z4 bd;refine cJ (λz1 e f=>∃(c:Nat) (H:Tok) (E:Nat),c<=F l/\z1=F l-c/\aj (pI h f (F h.I+1) ((l.map Vl.int).take c) H E ((l.take c).map dx)/\f.I[F h.I]?=J (aG 0 0 [] .nil 0 []))/\aj (0<c->(∃n,H=.free n)/\E=4)/\e.get 0=.ac k 1 (aF l)/\e.get 2=.ptr (.box (F h.I)) 0/\e.get 3=.ptr (.box (F h.I+1)) 0/\e.get 4=(c:Nat)/\e.defers=[]) ?_ (F l) _ _ ?_;rotate_left 1
 .exact⟨0,.nil,0,cC _,O,m,⟨λz0=>absurd z0 (Nat.lt_irrefl _)⟩,f0,f2,f3,f4,fd⟩
 clear f0 f2 f3 f4 fd m;rintro z1 e f ⟨c,H,E,hi,rfl,d,B,g0,g2,g3,g4,hd⟩;by_cases j:c<F l
 .have o:l[c]?=J (al l c):=by rw[aY j,fL j]
  have v:cW (.int (al l c)) (dx (al l c)):=.int _ (kb.M.1 _ (dy o));have ld:=eI (H:=f) (s:=1) j;have z2:=λf=>aal (al l c) f;have u:F ((l.take c).map dx)<1000000:=by rw[bJ,dJ];omega
  have l3:=j_ d.M.1.box;have ap:=yY (r:=dx (al l c)) u d.M.1.four d.M.1.nil d.M.1.can;have bl:=zl (r:=dx (al l c)) O O;have st:=yB (H:=f.app H) (t2:=.free f.tn) (sz2:=4) (rows2:=(l.take c).map dx++[dx (al l c)]) (by rw[ey];exact d.M.1.box);have y:=d.M.1.put v O;have z:(l.take c).map dx++[dx (al l c)]=(l.take (c+1)).map dx:=by rw[ga o,jN];rfl
  have Z:(l.map Vl.int).take c++[Vl.int (al l c)]=(l.map Vl.int).take (c+1):=by rw[ga (x:=Vl.int (al l c)) (by rw[eF,o];rfl)]
  rw[z,Z]at y;rw[z]at ap st;have kG2:aj (pI h ((f.app H).put (F h.I+1) (aG 3 0 [] (.free f.tn) 4 ((l.take (c+1)).map dx))) (F h.I+1) ((l.map Vl.int).take (c+1)) (.free f.tn) 4 ((l.take (c+1)).map dx)/\((f.app H).put (F h.I+1) (aG 3 0 [] (.free f.tn) 4 ((l.take (c+1)).map dx))).I[F h.I]?=J (aG 0 0 [] .nil 0 [])):=⟨y,by rw[cS af,ey];exact d.M.2⟩;have kN2:aj (0<c+1->(∃n,Tok.free f.tn=.free n)/\4=4):=⟨λ_=>⟨⟨_,O⟩,O⟩⟩;have gG:(c:Int)<(F l:Int):=by omega
  have w:aG 1 (al l c) [] .nil 0 []=dx (al l c):=rfl;rw[w]at z2;clear y z Z o v u d B w;generalize dx (al l c)=r at *
  generalize al l c=n at *
  unfold im at *
  refine dA @Dm @eQ @bj ?_
  repeat' (first|simp(maxSteps:=9999999) (disch:=first|exact dZ|fail) only[gW,reduceIte,aT,aN,Dm,eQ,bj, *]|(refine dX ?_ ?_<;>(intro _;try omega))|refine dW afZ bX ?_)
  exact⟨F l-(c+1),by omega,c+1,.free f.tn,4,by omega,O,(by first|exact kG2|trivial),(by first|exact kN2|trivial),by simp⟩
 .have gq:c=F l:=by omega
  subst gq;obtain⟨⟨n,rfl⟩,rfl⟩:=B.M (Bd.2 kb.M.2);have A:=d.M.1;rw[gy]at A;have ld:=nF (r:=aG 3 0 [] (.free n) 4 (l.map dx)) O A.box;have st:=aa2 (r:=aG 3 0 [] (.free n) 4 (l.map dx)) d.M.2 O O O;have ll:=Yi (H:=f) (r:=aG 3 0 [] (.free n) 4 (l.map dx)) O (bk.1 d.M.2).1;clear A d B;refine bD @Dm ?_;exact⟨_,_,O,n,O⟩
def L7:List a_:=L6++[131,84,94,253,197,199,198,137,196,200,98,194]
noncomputable def JQ:a_->Option (List V->ah->Option (V × ah)):=my W6 L7
noncomputable abbrev W7:=whole ag Gt JQ
def TZ:mN JQ L7:=tg
end Go.Proofs.YtcbhpkjbiehcpaaGreatDoor
end
