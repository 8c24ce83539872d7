/-
  The engine, part 52: a user's rule for a region whose last store may change places with another one.
-/
import Derived.Test.YtcbhpkjbiehcpaaGreatDoorQD
import Derived.Test.YtcbhpkjbiehcpaaGreatDoorQC
import Derived.Test.YtcbhpkjbiehcpaaGreatDoorQB
open True renaming intro->aX
open Go.Proofs.Tryz renaming prog->aa,underlying23->cU,underlying22->gy,underlying72->Rk,underlying32->lP,underlying116->lO,func156->abB
open Option renaming some->J,map_some->fF,none->ag
open Bool renaming false->ah,true->V,and_eq_true->bm,not_eq_true->aan,not_eq_false'->aam,true_and->mL
open List renaming length->F,length_cons->ef,length_append->ck,length_nil->f_,map_cons->eI,map_nil->uT,range->bZ,range_succ->ku,foldl_append->oD,all_eq_true->eJ,getElem_mem->i_,getElem?_eq_getElem->aP,getD_eq_getElem?_getD->eK,length_map->br,getElem?_eq_some_iff->aT,getElem?_map->ec,getElem?_range->QH,mem_of_getElem?->cT,length_take->cR,take_of_length_le->ga,map_eq_nil_iff->Ac,find?_append->aaP,cons_append->ey,take_length->fK,mem_cons_of_mem->gx,mem_cons_self->gH,mem_cons->gU,not_mem_nil->qJ,take_succ_cons->dw,take_zero->cX,getElem?_of_mem->qI,getElem?_append_left->qH,getElem?_concat_length->Ab,length_pos_iff->Kb,drop_of_length_le->nq,append_nil->gj,mem_filter->uU,drop_eq_getElem_cons->s_,map_append->jQ,filter_append->Aa,append_assoc->iO,getElem?_append_right->wB,mem_singleton->ig,all_append->sZ,pairwise_cons->CI,length_set->nr,getElem?_set->lM,ext_getElem?->oh,mem_map->jg,getElem?_drop->o0,replicate->bB,foldl_nil->CE,map_replicate->xR
open Int renaming toNat_natCast->fD
open And renaming intro->aj
open Nat renaming zero_le->bY,le_refl->aV,mul_le_mul->jt,beq->hy,le_of_ble_eq_true->jR,reduceEqDiff->aH,lt_or_ge->dp,beq_refl->abe,sub_self->qL,zero_add->oj
open Go renaming FuncId->aR,Operand->bR
open Decidable renaming not_not->JX
open Array renaming getElem?_eq_none->Cq
open Prod renaming fst->dM
set_option maxHeartbeats 64000000
set_option maxRecDepth 100000
set_option linter.unusedSimpArgs false
set_option linter.unusedVariables false
set_option linter.constructorNameAsVariable false
set_option linter.defProp false
section
namespace Go.Proofs.YtcbhpkjbiehcpaaGreatDoor
open Go.AE Go.NT
def B9:Tryz.f26.results.toList=[.tmp 6]:=am
def AP{b}:dU aa 52 (.ptr (.box b) 0) 0=J (.ptr (.box b) 0):=am
def AQ{b}:dU aa 52 (.ptr (.box b) 0) 1=J (.ptr (.box b) 1):=am
def En:isIface aa 3=J ah:=am
def Nz:isIface aa 60=J ah:=am
def ajh:isIface aa 118=J ah:=am
def R9(t u v)(x y z):fy aa 177 3 [(0,.iface t x),(1,.iface u y),(2,.iface v z)]=J (.list .tight 1 [[.iface t x],[.iface u y],[.iface v z]]):=am
def Zd(a b)(t):F (cB (.list [.int a,.int b,.text t]))<=60+F t:=by
 have c:=ia 9 (0+1+1+1);have d:=ia 9 (hW a);have f:=ia 9 (hW b);have g:=ia 9 (F t);simp only[cB,gd,ef,ck,f_]at *
 omega
def wR:bX 4=V:=by decide+kernel
def w8{a}(h:bX a=V)(n):fj a n=((ek a.toNat n:Nat):Int):=by unfold fj;rw[av h]
def wS{a}(h:elem a=V):bX ((a:Nat):Int)=V:=by unfold bX;rw[fD,h,Bool.and_true];have:=(elem_iff.1 h).1;exact bQ M
def AL{a}(h:bX a=V):elem a.toNat=V:=by unfold bX at h;rw[bm]at h;exact h.2
def AM{a}(h:bX a=V):1<=a/\a<=2147483578:=by obtain⟨n,rfl,c,d,f⟩:=Gm h;have:P=2147483579:=rfl;omega
def af7{a}(h:bX a=V)(n):bX ((ek a.toNat n:Nat):Int)=V:=wS (It (AL h) n)
def yp{a}(h:bX a=V)(n):bX (fj a n)=V:=by rw[w8 h];exact af7 h n
def Dn{a b}(h:bX a=V)(k:bX b=V):nV a b=((a.toNat*b.toNat%P:Nat):Int):=by unfold nV;rw[av ⟨h,k⟩]
def af6{a b}(h:bX a=V)(k:bX b=V):bX (nV a b)=V:=by rw[Dn h k];exact wS (Df (AL h) (AL k))
def aul(h:Heap)(c e s:Int)(k:Tok)(st:Nat)(text:List UInt8)(B:text≠[]->st=1)(hl:F text<=1000000):
 ∃r h',W5.call 26 [I c,.list k st (bJ text),.agg [I e,I s]] h=J (r,h')/\r=.ret (.v (.bool (rC c text e s)))/\Ext h h':=by
 have m:=Fv c;have N:(U.agg [I e,I s]).bF=J [I e,I s]:=rfl;have l0:=NO (aK h [I e,I s]);have l1:=NP (aK h [I e,I s]);have g:ae (rC c text e s=(bX c&&cN e&&cN s&&decide (e=((Ci ((ek Gn s*ek c.toNat (0-e)%P:Nat):Int) c text:Nat):Int)))):=⟨by rw[Int.zero_sub];rfl⟩;generalize rC c text e s=res at *
 refine bL O Tryz.func26 O ?_;unfold I at *
 by_cases hA:e<0∨s<0
 .have d1:decide ((if s<e then s else e)<0)=V:=bQ (by split<;>omega);have f:ae (res=ah):=⟨by
   rw[g.out];unfold cN;rcases hA with q|q
   .rw[b7 (M:¬0<=e)];simp
   .rw[b7 (M:¬0<=s)];simp⟩
  clear hA;refine bA @B9 @AP @AQ (aj @bg (aj @Ez @zH)) ?_;exact⟨_,_,O,by rw[f.out],.push _ _⟩
 have d1:decide ((if s<e then s else e)<0)=ah:=b7 (by split<;>omega);by_cases i:1073741789<=e∨1073741789<=s
 .have d2:decide (1073741789<=(if e<s then s else e))=V:=bQ (by split<;>omega);have f:ae (res=ah):=⟨by
   rw[g.out];unfold cN Qi;rcases i with q|q
   .rw[b7 (M:¬e<1073741789)];simp
   .rw[b7 (M:¬s<1073741789)];simp⟩
  clear hA i;refine bA @B9 @AP @AQ (aj @bg (aj @Ez @zH)) ?_;exact⟨_,_,O,by rw[f.out],.push _ _⟩
 have d2:decide (1073741789<=(if e<s then s else e))=ah:=b7 (by split<;>omega);have t:0<=e:=by omega
 have u:e<1073741789:=by omega
 have z:0<=s:=by omega
 have A:s<1073741789:=by omega
 clear hA i;cases d:bX c with
 |false=>rw[d]at m;have f:ae (res=ah):=⟨by rw[g.out,d];rfl⟩;clear d;refine bA @B9 @AP @AQ (aj @bg (aj @Ez @zH)) ?_;exact⟨_,_,O,by rw[f.out],.push _ _⟩
 |true=>
  rw[d]at m;have S:=XV 4 s;have Z:=XV c (0-e);have c4:=GO (fj 4 s) (fj c (0-e));have w:=af6 (yp wR s) (yp d (0-e));have p:nV (fj 4 s) (fj c (0-e))=((ek Gn s*ek c.toNat (0-e)%P:Nat):Int):=by rw[Dn (yp wR s) (yp d (0-e)),w8 wR,w8 d,fD,fD];rfl
  have f:ae (res=decide (e=((Ci (nV (fj 4 s) (fj c (0-e))) c text:Nat):Int))):=⟨by rw[g.out,d,p,HO.2 (show okF e from⟨t,u⟩),HO.2 (show okF s from⟨z,A⟩)];rfl⟩;have H:=AM d;have y:=AM w;clear d p w;generalize nV (fj 4 s) (fj c (0-e))=R at *
  have j:=Zd R c text;obtain⟨K,E⟩:=ak0 .tight 1 [.iface 3 (.v (.int .i64 R)),.iface 3 (.v (.int .i64 c)),.iface 60 (.list k st (bJ text))] [.int R,.int c,.text text]
   (.cons (.int R ⟨M,by omega⟩) (.cons (.int c ⟨M,by omega⟩) (.cons (.text k st text B M) .nil))) (λ_=>rfl) b8 (by simp[fA,fY]) M
  have o:=aht zP (cB (.list [.int R,.int c,.text text])) K M aY;have v:pF (kn zP (cB (.list [.int R,.int c,.text text])))=Ci R c text:=rfl;rw[v]at o;simp only[eI,uT]at E;generalize Ci R c text=n at *
  rw[show zP=[115,105,103,110] from O]at o;have wn:IntKind.i64.wrap (0-e)=0-e:=jm M M;unfold I at *
  clear j v H y;refine bA @B9 @AP @AQ (aj @bg (aj @Ez @zH)) ?_;refine du jV am ?_;refine cK @B9 @AP @AQ ?_;refine du jV am ?_;refine bA @B9 @AP @AQ (aj @En (aj @Nz @R9)) ?_;exact⟨_,_,O,by rw[f.out],.push _ _⟩
def Ca:Tryz.f160.results.toList=[.tmp 6,.tmp 7]:=am
def Pi:Tryz.f79.results.toList=[.tmp 6,.tmp 7]:=am
def ux(ai row:List Int)(k:Nat):Nat:=(bZ k).foldl (λx c=>x*ek (af ai c).toNat (af row c)%P) 1
def X8(ai row)(k):ux ai row (k+1)=ux ai row k*ek (af ai k).toNat (af row k)%P:=by unfold ux;rw[ku,oD];rfl
def X7{ai row}(h:ai.all bX=V):∀k,k<=F ai->elem (ux ai row k)=V
 |0,_=>Gq
 |k+1,c=>by rw[X8];refine Df (X7 h k M) (It (AL ?_) _);rw[eJ]at h;exact h _ (by rw[gb M];exact i_ _)
def sn(rows:List (List Int))(ac ai:List Int)(row:Int):Int × Int:=
 if iJ rows ac ai≠0 then (0,iJ rows ac ai) else if decide (row<0)||decide ((F rows:Int)<=row) then (0,1) else (((si ai (rows.getD row.toNat []):Nat):Int),0)
def aeX{rows}{ac ai}(h:iJ rows ac ai=0):cH rows ac=0/\F ai=cg rows/\ai.all bX=V:=by
 unfold iJ at h;split at h
 .rename_i d;exact absurd h d
 .rename_i d;split at h
  .rename_i c;rw[bm,decide_eq_true_eq]at c;exact⟨by simpa using d,c.1,c.2⟩
  .cases h
def anw(h:Heap)(x y z:U)(rows:List (List Int))(ac ai:List Int)(hx:RL x rows)(E:IL y ac)(hz:IL z ai)(hl:F ai<=1000000)(row:Int):
 ∃r h',W5.call 160 [.agg [x,y],z,I row] h=J (r,h')/\r=.ret (.tuple [I (sn rows ac ai row).1,I (sn rows ac ai row).2])/\Ext h h':=by
 have bx:=uu hx E;have c1:=Ta x y z rows ac ai hx E hz hl;have b0:=aK h [x,y];have l0:=uo b0;have l1:=ox b0;have ln:=hx.dB;have kx:=ae.mk (aj hx hz);clear hx E b0;have H:ae (iJ rows ac ai≠0->sn rows ac ai row=(0,iJ rows ac ai)):=⟨λo=>by unfold sn;rw[av o]⟩;have A:ae (iJ rows ac ai=0->row<0∨(F rows:Int)<=row->sn rows ac ai row=(0,1)):=⟨λo p=>by
  unfold sn;rw[aL (by simp[o]),av];rcases p with p|p
  .rw[bQ p];rfl
  .rw[bQ p];simp⟩
 have K:ae (iJ rows ac ai=0->¬row<0->¬(F rows:Int)<=row->sn rows ac ai row=(((si ai (rows.getD row.toNat []):Nat):Int),0)):=⟨λo p1 p2=>by unfold sn;rw[aL (by simp[o]),aL (by rw[b7 p1,b7 p2];simp)]⟩;have D:=λo=>@aeX rows ac ai o;have kck:=ae.mk D;clear D;generalize sn rows ac ai row=res at *
 unfold I at *
 refine bL O Tryz.func160 O ?_;by_cases f:iJ rows ac ai=0;rotate_left 1
 .have j:=ae.mk (H.out f);generalize iJ rows ac ai=o at *
  refine bG @Ca @bg ?_;exact⟨_,_,O,by rw[j.out],.push _ _⟩
 rw[f]at c1;by_cases g:row<0
 .have d1:decide (row<0)=V:=bQ g;have j:=ae.mk (A.out f (.inl g));clear g f;refine cK @Ca @bg @de ?_;exact⟨_,_,O,by rw[j.out],.push _ _⟩
 have d1:decide (row<0)=ah:=b7 g;by_cases q:(F rows:Int)<=row
 .have d2:decide ((F rows:Int)<=row)=V:=bQ q;have j:=ae.mk (A.out f (.inr q));clear g f q;refine cK @Ca @bg @de ?_;exact⟨_,_,O,by rw[j.out],.push _ _⟩
 have d2:decide ((F rows:Int)<=row)=ah:=b7 q;have j:=ae.mk (K.out f g q);obtain⟨q1,q2,q3⟩:=kck.out f;obtain⟨w1,w2,w3,w4⟩:=uw q1;have d:row.toNat<F rows:=by omega
 have m:=w3 _ (i_ d);rw[<-m_ (t:=rows) d]at m;generalize hR:rows.getD row.toNat []=R at *
 have u:F R=F ai:=by rw[m.1,q2]
 have eM:F ai<=64:=by rw[<-u];exact m.2.2.1
 obtain⟨z1,z2,s,rfl,hs,fh,Z⟩:=kx.out.1;obtain⟨kz,sz,rfl,S⟩:=kx.out.2;have ev:z2=1:=hs (by intro o;rw[o]at d;simp at d);subst ev;obtain⟨a,v⟩:∃a,s[row.toNat]?=J a:=⟨_,aP M⟩;have hv:rows[row.toNat]?=J R:=by rw[<-hR,eK,aP d];rfl
 obtain⟨ka,sa,rfl,N⟩:=Z _ a R v hv;have ld:=iX (H:=h.push [.list z1 1 (s.map λa=>[a]),y]) (s:=1) v;have B:=ae.mk (aj S (aj N q3));have AU:0<=row:=by omega
 have tU:row<(F rows:Int):=by omega
 have eH:F (s.map λa=>[a])=F rows:=by rw[br];exact fh
 have vo:=cG R;have UZ:=cG ai;have u23:=cU;have u22:=gy;have z23:=hw;have z3:=eX;clear hs Z S N v hv hR m w1 w2 w3 w4 q1 q2 q3 H A K f kx kck hz g q;refine cK @Ca @bg @de ?_;refine b_ (λz4 e z0=>∃c:Nat,c<=F ai/\z4=F ai-c/\e.get 2=.v (.int .i64 row)/\e.get 3=.ptr (.box (F h.boxes)) 0/\e.get 6=.v (.int .i64 (ux ai R c:Nat))/\e.get 28=.list kz sz (ints ai)/\e.get 29=.v (.int .i64 (F ai:Nat))/\e.get 30=.v (.int .i64 (c:Nat))/\e.defers=[]/\z0=h.push [.list z1 1 (s.map λa=>[a]),y]) ?_ (F ai) _ _ ?_;rotate_left 1
 .refine⟨0,bY _,O,?_,?_,?_,?_,?_,?_,?_,O⟩<;>exact gR
 rintro z4 e z0 ⟨c,hj,rfl,g2,g3,g6,g28,g29,g30,hd,rfl⟩;by_cases k:c<F ai
 .have Em:sz=1:=B.out.1 (by intro o;rw[o]at k;simp at k);subst Em;have GZ:sa=1:=B.out.2.1 (by intro o;rw[o]at u;simp at u;omega);subst GZ;have fO:(c:Int)<(F ai:Int):=by omega
  have avu:(c:Int)<(F R:Int):=by omega
  have lc:=eS (H:=h.push [.list z1 1 (s.map λa=>[a]),y]) (l:=ai) (i:=c) (s:=1) k;have lr:=eS (H:=h.push [.list z1 1 (s.map λa=>[a]),y]) (l:=R) (i:=c) (s:=1) M;have w:bX (af ai c)=V:=by have:=B.out.2.2;rw[eJ]at this;exact this _ (by rw[gb k];exact i_ _)
  have c2:=GP (af ai c) (af R c);have c3:=GO ((ux ai R c:Nat):Int) (fj (af ai c) (af R c));have hK:=wS (X7 (row:=R) B.out.2.2 c hj);have e3:nV ((ux ai R c:Nat):Int) (fj (af ai c) (af R c))=((ux ai R (c+1):Nat):Int):=by rw[Dn hK (yp w _),w8 w,X8,fD,fD]
  have e4:oK (af ai c)=0:=by unfold oK;rw[av w]
  have e5:rM ((ux ai R c:Nat):Int) (fj (af ai c) (af R c))=0:=by unfold rM;rw[av ⟨hK,yp w _⟩]
  rw[e4]at c2;rw[e3,e5]at c3;clear w hK e3 e4 e5;generalize fj (af ai c) (af R c)=pw at *
  generalize af ai c=cj at *
  generalize af R c=rj at *
  unfold I at *
  refine cK @Ca @de @aU ?_;exact⟨F ai-(c+1),by omega,c+1,by omega,O,by simp⟩
 .have:c=F ai:=by omega
  subst this;have e:ux ai R (F ai)=si ai R:=rfl;refine bh @Ca ?_;exact⟨_,_,O,by rw[j.out,<-e],.push _ _⟩
def qb(rows:List (List Int))(ac ai:List Int)(p:Int × Int):Bool × Int:=
 if iJ rows ac ai≠0 then (ah,iJ rows ac ai) else if sH rows p=ah then (ah,340) else (decide (ek Gn p.2=si ai (rows.getD p.1.toNat [])),0)
def agO(h:Heap)(x y z:U)(rows:List (List Int))(ac ai:List Int)(hx:RL x rows)(E:IL y ac)(s:IL z ai)(H:F ai<=1000000)(a v:Int):
 ∃r h',W5.call 79 [.agg [x,y],z,.agg [I a,I v]] h=J (r,h')/\r=.ret (.tuple [.v (.bool (qb rows ac ai (a,v)).1),I (qb rows ac ai (a,v)).2])/\Ext h h':=by
 have bx:=uu hx E;have b2:(U.agg [I a,I v]).bF=J [I a,I v]:=rfl;have Z:=Ta x y z rows ac ai hx E s H;have p:=aoI x y rows ac hx E a v;obtain⟨_,S,q,rfl,x3⟩:=anw ((h.push [x,y]).push [I a,I v]) x y z rows ac ai hx E s H a;have w:=GP 4 v;have A:oK 4=0:=by unfold oK;rw[av wR]
 rw[A,w8 wR]at w;have N:((h.push [x,y]).push [I a,I v]).boxes[h.boxes.length]?=J [x,y]:=aN (aK h [x,y]);have g:=aK (h.push [x,y]) [I a,I v];have l0:=uo N;have l1:aD aa Gt ((h.push [x,y]).push [I a,I v]) 110 (.ptr (.box (F (h.push [x,y]).boxes)) 0)=J (.agg [I a,I v]):=by rw[fR am (by kernel_rfl:cC aa 110=J 2) g (aV 2)];rfl
 have l2:=NO g;have K:aD aa Gt S 3 (.ptr (.box (F (h.push [x,y]).boxes)) 1)=J (I v):=NP (x3.box _ _ g);have kX:=ae.mk (((Ext.push h [x,y]).trans (.push _ [I a,I v])).trans x3);have u:=ae.mk ((Ext.push h [x,y]).trans (.push _ [I a,I v]));have i:ae (iJ rows ac ai≠0->qb rows ac ai (a,v)=(ah,iJ rows ac ai)):=⟨λo=>by unfold qb;rw[av o]⟩;have j:ae (iJ rows ac ai=0->sH rows (a,v)=ah->qb rows ac ai (a,v)=(ah,340)):=⟨λo t=>by unfold qb;rw[aL (by simp[o]),av t]⟩;have k:ae (iJ rows ac ai=0->sH rows (a,v)=V->qb rows ac ai (a,v)=(decide (ek Gn v=si ai (rows.getD a.toNat [])),0)):=⟨λo t=>by unfold qb;rw[aL (by simp[o]),aL (by simp[t])]⟩;have m:ae (iJ rows ac ai=0->sH rows (a,v)=V->sn rows ac ai a=(((si ai (rows.getD a.toNat []):Nat):Int),0)):=⟨λo t=>by unfold sH at t;simp only[bm,decide_eq_true_eq]at t;unfold sn;rw[aL (by simp[o]),aL];rw[b7 (M:¬a<0),b7 (M:¬(F rows:Int)<=a)];simp⟩;clear hx E s N g x3 A;generalize qb rows ac ai (a,v)=res at *
 refine bL O Tryz.func79 O ?_;by_cases c:iJ rows ac ai=0;rotate_left 1
 .have f:=ae.mk (i.out c);clear q p K;generalize iJ rows ac ai=o at *
  unfold I at *
  refine bG @Pi @bg ?_;exact⟨_,_,O,by rw[f.out],u.out⟩
 rw[c]at Z;cases d:sH rows (a,v) with
 |false=>
  have f:=ae.mk (j.out c d);rw[d]at p;clear q d c K;unfold I at *
  refine bG @Pi @bg ?_;exact⟨_,_,O,by rw[f.out],u.out⟩
 |true=>
  have f:=ae.mk (k.out c d);rw[m.out c d]at q;rw[d]at p;clear d c;have B:(4:Int).toNat=Gn:=rfl;rw[B]at w;have D:decide (ek Gn v=si ai (rows.getD a.toNat []))=decide (((ek Gn v:Nat):Int)=((si ai (rows.getD a.toNat []):Nat):Int)):=by rw[decide_eq_decide];omega
  rw[D]at f;generalize ((ek Gn v:Nat):Int)=p1 at *
  generalize ((si ai (rows.getD a.toNat []):Nat):Int)=p2 at *
  clear i j k m D B;unfold I at *
  refine bA @Pi @bg @Gv @Gw ?_;exact⟨_,_,O,by rw[f.out],kX.out⟩
def v8:Tryz.f71.results.toList=[.tmp 6,.tmp 7,.tmp 8]:=am
def apT{T f}{n}(d:aa.underlying T=J (.slice f))(hi:∃i,aa.info? f=J i/\i.size=n/\i.bytes<=64/\(i.zero.map λz=>z.cells.size)=J n)(t:0<n){H}{k}{n0 sz}{es}{r}
 (s:F es<1000000) (o:sz=n∨(es=[]/\k=.nil)) (m:db n0 H k):gm aa H #[T,T] (.list k sz es) (.list .tight n [r])=J (.list (.free H.tn) n (es++[r]),H.app k):=by
 obtain⟨i,g,c,p,j⟩:=hi;have q:=jt (M:F es+1<=1000000) p;have:=Ar (P:=aa) (h:=H) (n0:=n0) (k:=k) (sz:=sz) (es:=es) (new:=[r]) (x:=.list .tight n [r]) (t1:=T) d (.inl ⟨f,d⟩) g M (by rw[c];exact j) (by rw[c];unfold jL rowsOf;simp) b8 (by simp;omega) (by simp;omega) (by rw[c];exact o) m
 rwa [c]at this
def ajl:∃i,aa.info? 110=J i/\i.size=2/\i.bytes<=64/\(i.zero.map λz=>z.cells.size)=J 2:=by
 have h:(match aa.info? 110 with|some i=>hy i.size 2&&Nat.ble i.bytes 64&&decide ((i.zero.map λz=>z.cells.size)=J 2)|none=>ah)=V:=am;cases c:aa.info? 110 with
 |none=>rw[c]at h;cases h
 |some i=>rw[c]at h;simp only[bm,decide_eq_true_eq]at h;exact⟨i,O,Nat.eq_of_beq_eq_true h.1.1,jR h.1.2,h.2⟩
def aZ(p:Int × Int):List U:=[.v (.int .i64 p.1),.v (.int .i64 p.2)]
def bO(l:List (Int × Int)):List (List U):=l.map aZ
def SL(x:U)(l:List (Int × Int)):Prop:=∃d c,x=.list d c (bO l)/\(l≠[]->c=2)
def oJ(rows:List (List Int))(s:List Int):List (Int × Int):=(bZ (F rows)).map λc=>(((c:Nat):Int),wQ (rows.getD c []) s)
def afS(rows)(s):F (oJ rows s)=F rows:=by unfold oJ;simp
def afR{rows}{s r}{i}(h:rows[i]?=J r):(oJ rows s)[i]?=J (((i:Nat):Int),wQ r s):=by unfold oJ;have c:=(aT.1 h).1;rw[ec,QH c,fF,eK,h];rfl
def p_(rows:List (List Int))(ac:List Int)(d:Int)(c:List Int):Int:=
 if cH rows ac≠0 then cH rows ac else if cN d&&c.all cN&&decide ((F c:Int)=(cg rows:Nat)-1) then 0 else 1
def Gr(h H:Heap)(t:Tok):Prop:=Ext h H/\c_ H=V/\db h.tn H t
def Gr.app{h H}{t}(g:Gr h H t):Gr h (H.app t) (.free H.tn):=by have c:=Grown.one g.2.2 g.2.1 g.1.tn;exact⟨c.ext g.1 (aV _),c.ok,c.can⟩
def Gr.push{h H}{t}(g:Gr h H t)(cs):Gr h (H.push cs) t:=⟨g.1.trans (.push _ _),g.2.1,by rw[yh];exact g.2.2⟩
def Gr.nil{h H}(x:Ext h H)(o:c_ H=V):Gr h H .nil:=⟨x,o,.inl O⟩
def adI(x y)(hx:x.cW=V)(E:y.cW=V):fy aa 22 2 [(0,x),(1,y)]=J (.list .tight 1 [[x],[y]]):=by cases x<;>first|(cases hx;done)|(cases y<;>first|(cases E;done)|kernel_rfl)
def IL.cW{x}{l}(h:IL x l):x.cW=V:=by obtain⟨c,d,rfl,-⟩:=h;rfl
def adS(a b):fy aa 72 1 [(0,.agg [.v (.int .i64 a),.v (.int .i64 b)])]=J (.list .tight 2 [[.v (.int .i64 a),.v (.int .i64 b)]]):=am
def adi(a b):iI aa 110 [(0,.v (.int .i64 a)),(1,.v (.int .i64 b))]=J (.agg [.v (.int .i64 a),.v (.int .i64 b)]):=am
def afP(h:Heap)(fQ:c_ h=V)(x y z:U)(rows:List (List Int))(ac d:List Int)(c:Int)(hx:RL x rows)(E:IL y ac)(hz:IL z d)(hl:F d<=1000)(rW:F rows<=1000000):
 ∃r h',W5.call 71 [.agg [x,y],I c,z] h=J (r,h')/\
  ((p_ rows ac c d≠0/\r=.ret (.tuple [.list .nil 0 [],.list .nil 0 [],I (p_ rows ac c d)]))∨
  (p_ rows ac c d=0/\∃t1 s1 t2 s2,r=.ret (.tuple [.list t1 s1 (bO (oJ rows (c::d))),.list t2 s2 (ints (p8 (c::d))),I 0])/\(oJ rows (c::d)≠[]->s1=2)/\s2=1)):=by
 have bx:=uu hx E;have c1:=Lk x y rows ac hx E;have t:=Xm (.list .tight 1 [[.v (.int .i64 c)]]) [c] (NA c) b8;rw[(b8:[c].all cN=cN c)]at t;have Z:=Xm z d hz M;have c4:=afi x y rows ac hx E;obtain⟨z2,oN,c5⟩:=afx (.list .tight 1 [[.v (.int .i64 c)]]) z [c] d (NA c) hz (by simp;omega);have b0:=aK h [x,y];have l0:=uo b0;have l1:=ox b0;have lz:=hz.dB;have bl:=qO c;have blt:=adI (.list .tight 1 [[.v (.int .i64 c)]]) z O hz.cW;have lx:=hx.dB;have Hs:ae (cH rows ac≠0->p_ rows ac c d=cH rows ac):=⟨λo=>by unfold p_;rw[av o]⟩;have rU:ae (cH rows ac=0->p_ rows ac c d=if cN c&&d.all cN&&decide ((F d:Int)=(cg rows:Nat)-1) then 0 else 1):=⟨λo=>by unfold p_;rw[aL (by simp[o])]⟩;have kok:=ae.mk (λo=>@uw rows ac o);have kcp:=ae.mk (λo=>@vd rows ac o);have kx:=ae.mk (aj hx oN);have DG:(cg rows:Int)<=1000000∨cH rows ac≠0:=by
  by_cases o:cH rows ac=0
  .have:=(vd o).2;exact .inl M
  .exact .inr o
 clear hx E hz b0 oN;generalize p_ rows ac c d=res at *
 unfold I at *
 refine bL O Tryz.func71 O ?_;by_cases m:cH rows ac=0;rotate_left 1
 .have e1:=Hs.out m;have j:=ae.mk (aj m e1);clear e1 DG t Z c4 c5;generalize cH rows ac=o at *
  refine bG @v8 @bg ?_;exact⟨_,_,O,.inl ⟨by rw[j.out.2];exact j.out.1,by rw[j.out.2]⟩⟩
 rw[m]at c1;have H:=rU.out m;have hcp:=kcp.out m;have A:IntKind.i64.wrap ((cg rows:Nat)-1:Int)=(cg rows:Nat)-1:=jm M M;clear Hs rU kcp DG;have bad:∀(o:(cN c&&d.all cN&&decide ((F d:Int)=(cg rows:Nat)-1))=ah),res=1:=λo=>by rw[H,aL (by simp[o])]
 have good:∀(o:(cN c&&d.all cN&&decide ((F d:Int)=(cg rows:Nat)-1))=V),res=0:=λo=>by rw[H,av o]
 have kb:=ae.mk bad;have kg:=ae.mk good;clear bad good H;cases k:cN c with
 |false=>rw[k]at t;have j:ae (res=1):=⟨kb.out (by rw[k];rfl)⟩;clear k m Z c4 c5;refine bG @v8 @bg ?_;exact⟨_,_,O,.inl ⟨by rw[j.out];decide,by rw[j.out]⟩⟩
 |true=>
 rw[k]at t;cases q:d.all cN with
 |false=>rw[q]at Z;have j:ae (res=1):=⟨kb.out (by rw[k,q];rfl)⟩;clear k q m c4 c5;refine bG @v8 @bg ?_;exact⟨_,_,O,.inl ⟨by rw[j.out];decide,by rw[j.out]⟩⟩
 |true=>
 rw[q]at Z;by_cases h3:(F d:Int)=(cg rows:Nat)-1;rotate_left 1
 .have d3:decide ((F d:Int)=((cg rows:Nat):Int)-1)=ah:=b7 h3;have j:ae (res=1):=⟨kb.out (by rw[k,q,d3];rfl)⟩;clear k q h3 m c5;refine bG @v8 @bg ?_;exact⟨_,_,O,.inl ⟨by rw[j.out];decide,by rw[j.out]⟩⟩
 have d3:decide ((F d:Int)=((cg rows:Nat):Int)-1)=V:=bQ h3;have j:ae (res=0):=⟨kg.out (by rw[k,q,d3];rfl)⟩;have qX:F (c::d)=cg rows:=by simp;omega
 obtain⟨w1,w2,w3,w4⟩:=kok.out m;have kw:=ae.mk w3;have ks:=ae.mk qX;rw[List.singleton_append]at kx;obtain⟨z6,z5,xs,rfl,hs,fh,ng⟩:=kx.out.1;obtain⟨kz,S,rfl,gK⟩:=kx.out.2;have kk:=ae.mk (aj hs (aj ng gK));have ai5:S=1:=gK b8;subst ai5;have u23:=cU;have u22:=gy;have u36:=Rk;have z23:=hw;have z3:=eX;have eH:F (xs.map λa=>[a])=F rows:=by rw[br];exact fh
 have vo:=cG (c::d);clear hs ng gK w1 w3 w4 k q h3 m qX kok kb kg;generalize hS:c::d=g at *
 refine cK @v8 @bg @de ?_;refine bC.gen λi f w eu dn=>?_;have f6:i.get 6=.list .nil 0 []:=by rw[f];exact gS
 have f7:i.get 7=.list .nil 0 []:=by rw[f];exact gS
 have f10:i.get 10=.list kz 1 (ints g):=by rw[f];exact gS
 have f45:i.get 45=.list z6 z5 (xs.map λa=>[a]):=by rw[f];exact gS
 have f46:i.get 46=.v (.int .i64 (F rows:Nat)):=by rw[f];exact gS
 have f47:i.get 47=.v (.int .i64 (0:Nat)):=by rw[f];exact gR
 have fd:i.defers=[]:=by rw[w];exact gS
 clear f w eu dn c1 t Z c4 c5 l0 l1 bl blt A d3 lz;refine b_ (λz4 e z1=>∃(s:Nat) (z0:Tok) (S:Nat),s<=F rows/\z4=F rows-s/\ae (Gr h z1 z0)/\ae (S=2∨(bO ((oJ rows g).take s)=[]/\z0=.nil))/\e.get 6=.list z0 S (bO ((oJ rows g).take s))/\e.get 7=.list .nil 0 []/\e.get 10=.list kz 1 (ints g)/\e.get 45=.list z6 z5 (xs.map λa=>[a])/\e.get 46=.v (.int .i64 (F rows:Nat))/\e.get 47=.v (.int .i64 (s:Nat))/\e.defers=[]) ?_ (F rows) _ _ ?_;rotate_left 1
 .exact⟨0,.nil,0,bY _,O,⟨Gr.nil (.push _ _) fQ⟩,⟨.inr ⟨O,O⟩⟩,f6,f7,f10,f45,f46,f47,fd⟩
 clear f6 f7 f10 f45 f46 f47 fd;rintro z4 e z1 ⟨s,z0,S,hi,rfl,B,ksz,g6,g7,g10,g45,g46,g47,hd⟩;by_cases di:s<F rows
 .have ev:z5=1:=kk.out.1 (by intro o;rw[o]at di;simp at di);subst ev;obtain⟨a,yH⟩:∃a,xs[s]?=J a:=⟨_,aP M⟩;obtain⟨r,K⟩:∃r,rows[s]?=J r:=⟨_,aP di⟩;have ld:=iX (H:=z1) (s:=1) yH;have Vt:=kk.out.2.1 s a r yH K;have hrw:=kw.out r (cT K);have c6:=atL a (.list kz 1 (ints g)) r g Vt ⟨_,_,O,λ_=>rfl⟩ M (by have:=ks.out;omega);have fO:(s:Int)<(F rows:Int):=by omega
  have ap:=apT (T:=72) (r:=aZ (((s:Nat):Int),wQ r g)) u36 ajl aY (by unfold bO;rw[br,cR];omega) ksz.out B.out.2.2;have kG2:=ae.mk B.out.app;have e9:bO ((oJ rows g).take s)++[aZ (((s:Nat):Int),wQ r g)]=bO ((oJ rows g).take (s+1)):=by rw[gg (afR K)];unfold bO;simp
  rw[e9]at ap;clear yH K Vt hrw e9;generalize wQ r g=dv at *
  unfold I aZ at *
  refine bA @v8 @aU @adi @adS ?_;exact⟨F rows-(s+1),by omega,s+1,_,2,by omega,O,kG2,⟨.inl O⟩,by simp⟩
 have gr:s=F rows:=by omega
 subst gr;rw[ga (by rw[afS];exact aV _)]at g6 ksz;have kX:=ae.mk B.out.1;have ko:=ae.mk B.out.2.1;clear B;refine bh @v8 ?_;refine bC.gen λi f w eu dn=>?_;have f6:i.get 6=.list z0 S (bO (oJ rows g)):=by rw[f];simp only[gW,reduceIte,aH,aC];exact g6
 have f7:i.get 7=.list .nil 0 []:=by rw[f];simp only[gW,reduceIte,aH,aC];exact g7
 have f61:i.get 61=.list kz 1 (ints g):=by rw[f];exact gS
 have f62:i.get 62=.v (.int .i64 (F g:Nat)):=by rw[f];exact gS
 have f63:i.get 63=.v (.int .i64 (0:Nat)):=by rw[f];exact gR
 have fd:i.defers=[]:=by rw[w];simp only[gW,reduceIte,aH,aC];exact hd
 clear f w eu dn g6 g7 g10 g45 g46 g47 hd;have hSl:F g<=1001:=by rw[<-hS];simp;omega
 have e4:oK 4=0:=by unfold oK;rw[av wR]
 clear hS;have eM:F (p8 g)=F g:=by unfold p8;simp
 refine b_ (λz4 e H2=>∃(p:Nat) (t2:Tok) (sz2:Nat),p<=F g/\z4=F g-p/\ae (Gr h H2 t2)/\ae (sz2=1∨((p8 g).take p=[]/\t2=.nil))/\e.get 6=.list z0 S (bO (oJ rows g))/\e.get 7=.list t2 sz2 (ints ((p8 g).take p))/\e.get 61=.list kz 1 (ints g)/\e.get 62=.v (.int .i64 (F g:Nat))/\e.get 63=.v (.int .i64 (p:Nat))/\e.defers=[]) ?_ (F g) _ _ ?_;rotate_left 1
 .exact⟨0,.nil,0,bY _,O,⟨Gr.nil kX.out ko.out⟩,⟨.inr ⟨O,O⟩⟩,f6,f7,f61,f62,f63,fd⟩
 clear f6 f7 f61 f62 f63 fd;rintro z4 e H2 ⟨p,t2,sz2,hj,rfl,B,N,g6,g7,g61,g62,g63,hd⟩;by_cases D:p<F g
 .have ld:=eS (H:=H2) (l:=g) (i:=p) (s:=1) D;have t:=GP 4 (af g p);rw[e4,w8 wR]at t;have hG:(4:Int).toNat=Gn:=rfl;rw[hG]at t;have fO:(p:Int)<(F g:Int):=by omega
  have K:(p8 g)[p]?=J ((ek Gn (af g p):Nat):Int):=by unfold p8;rw[ec,aP D,gb D];rfl
  have ap:=wI (x:=((ek Gn (af g p):Nat):Int)) (es:=(p8 g).take p) (by rw[cR];omega) N.out B.out.2.2;have kG2:=ae.mk B.out.app;rw[<-gg K]at ap;have bl:=qO ((ek Gn (af g p):Nat):Int);clear K hG;generalize ((ek Gn (af g p):Nat):Int)=pv at *
  generalize af g p=sj at *
  unfold I at *
  refine bG @v8 @aU ?_;exact⟨F g-(p+1),by omega,p+1,_,1,by omega,O,kG2,⟨.inl O⟩,by simp⟩
 .have ql:p=F g:=by omega
  subst ql;rw[ga M]at g7 N;refine bh @v8 ?_;refine⟨_,_,O,.inr ⟨j.out,_,_,_,_,O,λo=>?_,?_⟩⟩
  .rcases ksz.out with z|⟨z,-⟩
   .exact z
   .exact absurd (Ac.1 z) o
  .rcases N.out with z|⟨z,-⟩
   .exact z
   .exfalso;have k:=ks.out;have q:F (p8 g)=0:=(by rw[z];rfl);omega
def aB(p:Pr):List U:=[.v (.int .i64 p.aO),.v (.int .i64 p.no),.v (.int .i64 p.d),.v (.int .i64 p.e)]
def zV:(fW aa 46).bind U.bF=J (aB ⟨0,0,0,0⟩):=am
def qA:cC aa 46=J 4:=am
def Rw:fH aa 46=J V:=am
def zQ{H:Heap}(p):bV aa (H.push (aB ⟨0,0,0,0⟩)) 46 (.ptr (.box (F H.boxes)) 0) (.agg (aB p))=J (H.push (aB p)):=lJ O qA O rfl
def jZ{H}{b}{p}(c:H.boxes[b]?=J (aB p)):aD aa Gt H 46 (.ptr (.box b) 0)=J (.agg (aB p)):=by rw[fR Rw qA c (aV 4)];rfl
def Jy(n:Int):List U:=[.v (.int .u32 n)]
def UL(x:U)(l:List Int):Prop:=(∃d c,x=.list d c (l.map Jy)/\(l≠[]->c=1))/\∀n∈l,0<=n/\n<4294967296
def akz{H}{l}{i s}{p}(h:l[i]?=J p):aD aa Gt H 3 (.elem s (bO l) i 0)=J (.v (.int .i64 p.1)):=by rw[oO dY (row:=aZ p) (by unfold bO;rw[ec,h];rfl)];rfl
def akA{H}{l}{i s}{p}(h:l[i]?=J p):aD aa Gt H 3 (.elem s (bO l) i 1)=J (.v (.int .i64 p.2)):=by rw[oO dY (row:=aZ p) (by unfold bO;rw[ec,h];rfl)];rfl
def acu:fH aa 110=J V:=am
def ZS:cC aa 110=J 2:=am
def aky{H}{l}{i s}{p}(h:l[i]?=J p):aD aa Gt H 110 (.elem s (bO l) i 0)=J (.agg [.v (.int .i64 p.1),.v (.int .i64 p.2)]):=by rw[Ev acu ZS (row:=aZ p) (by unfold bO;rw[ec,h];rfl) (aV 2)];rfl
def wZ{sz i}{es}:dU aa 110 (.elem sz es i 0) 0=J (.elem sz es i 0):=am
def Tt{sz i}{es}:dU aa 110 (.elem sz es i 0) 1=J (.elem sz es i 1):=am
def uH(l):F (bO l)=F l:=br _
def IW:Tryz.f154.results.toList=[.tmp 4]:=am
def O2:Tryz.f151.results.toList=[.tmp 4]:=am
def bH(l:List Pr):List (List U):=l.map aB
def Iq(l):F (bH l)=F l:=br _
def PL(x:U)(l:List Pr):Prop:=∃d c,x=.list d c (bH l)/\(l≠[]->c=4)
def qt{H}{l}{i s}{p}(h:l[i]?=J p):aD aa Gt H 46 (.elem s (bH l) i 0)=J (.agg (aB p)):=by rw[Ev Rw qA (row:=aB p) (by unfold bH;rw[ec,h];rfl) (aV 4)];rfl
def PL.dB{x}{l}(h:PL x l):dB aa 32 x=J (.v (.int .i64 (F l:Nat))):=by obtain⟨d,f,rfl,-⟩:=h;have c:=lP;unfold Go.AE.dB;rw[c];simp only[Iq]
def ajm(g:aR)(aS:List U)(p:Pr->Bool)(h:Heap)(x:U)(l:List Pr)(hx:PL x l)(hl:F l<=1000000)
 (hp:∀q∈l,∀H,Ext h H->∃H',W5.call g (.agg (aB q)::aS) H=J (.ret (.v (.bool (p q))),H')/\Ext H H'):
 ∃r h',W5.call 154 [x,.func (.func g) [] aS] h=J (r,h')/\Ext h h'/\((l.find? p=ag/\r=.ret (I (-1)))∨∃(i:Nat) (q:Pr),r=.ret (I (i:Nat))/\l[i]?=J q/\l.find? p=J q):=by
 obtain⟨z0,E,rfl,t⟩:=hx;have w:=ae.mk (aj hp t);clear hp t;have S:=lP;have Z:=qA;have K:=Iq l;unfold I;refine bL O Tryz.func154 O ?_;refine bh @IW ?_;refine b_ (λN e H=>∃i:Nat,i<=F l/\N=F l-i/\ae ((l.take i).find? p=ag)/\ae (Ext h H)/\e.get 0=.list z0 E (bH l)/\e.get 1=.func (.func g) [] aS/\e.get 7=.v (.int .i64 (F l:Nat))/\e.get 8=.v (.int .i64 (i:Nat))/\e.defers=[]) ?_ (F l) _ _ ?_;rotate_left 1
 .refine⟨0,bY _,O,⟨O⟩,⟨.refl _⟩,?_,?_,?_,?_,?_⟩<;>exact gR
 rintro N e H ⟨i,hi,rfl,o,m,g0,g1,g7,g8,hd⟩;by_cases d:i<F l
 .have u:E=4:=w.out.2 (by intro q;rw[q]at d;simp at d);subst u;obtain⟨q,f⟩:∃q,l[i]?=J q:=⟨_,aP d⟩;have ld:=qt (H:=H) (s:=4) f;obtain⟨H',hc,s⟩:=w.out.1 q (cT f) H m.out;have k:=ae.mk (m.out.trans s);have A:(i:Int)<(F l:Int):=by omega
  have y:=ae.mk f;have D:=ae.mk (gg f);clear s f;cases c:p q with
  |true=>rw[c]at hc;have j:l.find? p=J q:=(by have e:l=l.take i++q::l.drop (i+1):=(by rw[<-List.getElem_of_getElem? y.out|>.2];simp);rw[e,aaP,o.out,List.find?_cons_of_pos c];rfl);have B:=ae.mk j;clear j c;refine cK @IW @aU @ey.{0} ?_;exact⟨_,_,O,k.out,.inr ⟨i,q,O,y.out,B.out⟩⟩
  |false=>rw[c]at hc;have z:ae ((l.take (i+1)).find? p=ag):=⟨by rw[D.out,aaP,o.out];simp[c]⟩;clear c;refine cK @IW @aU @ey.{0} ?_;exact⟨F l-(i+1),by omega,i+1,by omega,O,z,by first|exact k|trivial,by simp⟩
 .have:i=F l:=by omega
  subst this;have:=o.out;rw[fK]at this;have v:=ae.mk this;clear this;refine bh @IW ?_;exact⟨_,_,O,m.out,.inl ⟨v.out,O⟩⟩
def ahd{a b}(c:elem a=V)(d:elem b=V):nV ((a:Nat):Int) ((b:Nat):Int)=((a*b%P:Nat):Int):=by rw[Dn (wS c) (wS d),fD,fD]
def OK{α:Type}{f:α->Nat}:∀{l:List α} (_:∀p∈l,elem (f p)=V) {k:Nat} (_:elem k=V),elem (l.foldl (λx p=>x*f p%P) k)=V
 | [],_,_,c=>c
 |a::l,h,k,c=>OK (l:=l) (λp hp=>h p (gx _ hp)) (Df c (h a gH))
def anu(g:aR)(first aS:List U)(f:Pr->Nat)(h:Heap)(x:U)(l:List Pr)(hx:PL x l)(hl:F l<=1000000)(v:∀q∈l,elem (f q)=V)
 (hp:∀q∈l,∀H,Ext h H->∃H',W5.call g (first++[.agg (aB q)]++aS) H=J (.ret (I (f q:Nat)),H')/\Ext H H'):
 ∃r h',W5.call 151 [x,.func (.func g) first aS] h=J (r,h')/\Ext h h'/\r=.ret (I ((l.foldl (λx q=>x*f q%P) 1:Nat):Int)):=by
 obtain⟨z1,K,rfl,w⟩:=hx;have j:=ae.mk (aj hp (aj w v));clear hp w v;have u29:=lP;have z85:=qA;have zc:=zV;have Z:=Iq l;unfold I;refine bL O Tryz.func151 O ?_;refine bh @O2 ?_;refine b_ (λz0 e H=>∃c:Nat,c<=F l/\z0=F l-c/\ae (Ext h H)/\e.get 1=.func (.func g) first aS/\e.get 5=.v (.int .i64 (((l.take c).foldl (λx q=>x*f q%P) 1:Nat):Int))/\e.get 8=.list z1 K (bH l)/\e.get 9=.v (.int .i64 (F l:Nat))/\e.get 10=.v (.int .i64 (c:Nat))/\e.defers=[]) ?_ (F l) _ _ ?_;rotate_left 1
 .refine⟨0,bY _,O,⟨.refl _⟩,?_,?_,?_,?_,?_,?_⟩<;>exact gR
 rintro z0 e H ⟨c,hi,rfl,p,g1,B,g8,g9,S,hd⟩;by_cases i:c<F l
 .have y:K=4:=j.out.2.1 (by intro q;rw[q]at i;simp at i);subst y;obtain⟨q,m⟩:∃q,l[c]?=J q:=⟨_,aP i⟩;have k:=cT m;have ld:=qt (H:=H) (s:=4) m;have st:=zQ (H:=H) q;have l2:=jZ (aK H (aB q));obtain⟨H',hc,u⟩:=j.out.1 q k (H.push (aB q)) (p.out.trans (.push _ _));have z:=ae.mk ((p.out.trans (.push H (aB q))).trans u);have D:(c:Int)<(F l:Int):=by omega
  have d:elem ((l.take c).foldl (λx q=>x*f q%P) 1)=V:=OK (λz2 hp=>j.out.2.2 z2 (List.mem_of_mem_take hp)) Gq;have A:=GO (((l.take c).foldl (λx q=>x*f q%P) 1:Nat):Int) ((f q:Nat):Int);have s:rM (((l.take c).foldl (λx q=>x*f q%P) 1:Nat):Int) ((f q:Nat):Int)=0:=by unfold rM;rw[av ⟨wS d,wS (j.out.2.2 q k)⟩]
  have t:(l.take c).foldl (λx q=>x*f q%P) 1*f q%P=(l.take (c+1)).foldl (λx q=>x*f q%P) 1:=by rw[gg m,oD];rfl
  rw[ahd d (j.out.2.2 q k),s,t]at A;clear u m s t d k;generalize (l.take c).foldl (λx q=>x*f q%P) 1=N at *
  generalize o:(l.take (c+1)).foldl (λx q=>x*f q%P) 1=ab2 at *
  have E:=ae.mk o;clear o;generalize f q=fq at *
  unfold I at *
  refine cK @O2 @aU @ey.{0} ?_;exact⟨F l-(c+1),by omega,c+1,by omega,O,by first|exact z|trivial,by simp[E.out]⟩
 .have:c=F l:=by omega
  subst this;rw[fK]at B;refine bh @O2 ?_;exact⟨_,_,O,p.out,O⟩
def xB:Tryz.f149.results.toList=[.tmp 2]:=am
def aqq:Tryz.f217.results.toList=[.tmp 2]:=am
def YT:Tryz.f83.results.toList=[.tmp 4]:=am
def I9:Tryz.f152.results.toList=[.tmp 4]:=am
def qR{b}:dU aa 27 (.ptr (.box b) 0) 0=J (.ptr (.box b) 0):=am
def gX{b}:dU aa 27 (.ptr (.box b) 0) 1=J (.ptr (.box b) 1):=am
def iU{b}:dU aa 27 (.ptr (.box b) 0) 2=J (.ptr (.box b) 3):=am
def wW{b}:dU aa 25 (.ptr (.box b) 1) 0=J (.ptr (.box b) 1):=am
def agz{b}:dU aa 25 (.ptr (.box b) 1) 1=J (.ptr (.box b) 2):=am
def pz:(∀b,dU aa 132 (.ptr (.box b) 0) 0=J (.ptr (.box b) 0))/\(∀b,dU aa 132 (.ptr (.box b) 0) 1=J (.ptr (.box b) 4))/\(∀b,dU aa 132 (.ptr (.box b) 0) 2=J (.ptr (.box b) 5))/\(∀b,dU aa 132 (.ptr (.box b) 0) 3=J (.ptr (.box b) 6))/\
 (∀b,dU aa 132 (.ptr (.box b) 0) 4=J (.ptr (.box b) 7))/\(∀b,dU aa 132 (.ptr (.box b) 0) 5=J (.ptr (.box b) 11))/\∀b,dU aa 132 (.ptr (.box b) 0) 6=J (.ptr (.box b) 12):=
 ⟨λ_=>am,λ_=>am,λ_=>am,λ_=>am,λ_=>am,λ_=>am,λ_=>am⟩
def Ts{b}:dU aa 118 (.ptr (.box b) 7) 3=J (.ptr (.box b) 10):=am
def jb:(∀b,dU aa 46 (.ptr (.box b) 0) 0=J (.ptr (.box b) 0))/\(∀b,dU aa 46 (.ptr (.box b) 0) 1=J (.ptr (.box b) 1))/\(∀b,dU aa 46 (.ptr (.box b) 0) 2=J (.ptr (.box b) 2))/\∀b,dU aa 46 (.ptr (.box b) 0) 3=J (.ptr (.box b) 3):=
 ⟨λ_=>am,λ_=>am,λ_=>am,λ_=>am⟩
def dF{H}{t}{b j}{cs}{x}(c:fH aa t=J ah)(d:H.boxes[b]?=J cs)(f:cs[j]?=J x):aD aa Gt H t (.ptr (.box b) j)=J x:=by rw[fm c d,List.head?_drop,f]
def acr:fH aa 60=J ah:=am
def Ru:fH aa 32=J ah:=am
def Ap:fH aa 121=J ah:=am
def aM(ep:Int)(X Y C:U):List U:=[.v (.int .i64 ep),X,Y,C]
def gi(ep:Int)(X Y C T L d c:U)(g f:Int):List U:=[.v (.int .i64 ep),X,Y,C,T,L,d,.v (.int .i64 3),.v (.int .i64 0),sv [],c,.v (.int .i64 g),.v (.int .i64 f)]
def iW(rows:List (List Int))(ep:Int)(ai:List Int):Bool:=decide (0<=ep)&&decide (ep<=64)&&decide (F ai=cg rows)&&ai.all bX
def aug(n)(h):W5.call 217 [I n] h=J (.ret (.v (.bool (!bX n))),h):=by
 have c:=Fv n;unfold I at *
 refine cr O Tryz.func217 O ?_;exact iL @aqq
def nC{ep}{X Y C}{rows}{ac ai}(hx:RL X rows)(E:IL Y ac)(hc:IL C ai):(U.agg (aM ep X Y C)).bF=J (aM ep X Y C):=by obtain⟨j,k,i,rfl,-⟩:=hx.form;obtain⟨d,g,rfl,-⟩:=E;obtain⟨c,f,rfl,-⟩:=hc;rfl
def aoG(h:Heap)(ep:Int)(X Y C:U)(rows:List (List Int))(ac ai:List Int)(hx:RL X rows)(E:IL Y ac)(hc:IL C ai)(hl:F ai<=1000000):
 ∃r h',W5.call 149 [.agg (aM ep X Y C)] h=J (r,h')/\h'=h.push (aM ep X Y C)/\r=.ret (.v (.bool (iW rows ep ai))):=by
 have bx:=nC (ep:=ep) hx E hc;have u:=aK h (aM ep X Y C);have l0:aD aa Gt (h.push (aM ep X Y C)) 3 (.ptr (.box (F h.boxes)) 0)=J (.v (.int .i64 ep)):=dF dY u O;have l1:aD aa Gt (h.push (aM ep X Y C)) 22 (.ptr (.box (F h.boxes)) 1)=J X:=dF KI u O;have l3:aD aa Gt (h.push (aM ep X Y C)) 23 (.ptr (.box (F h.boxes)) 3)=J C:=dF mW u O;have ln:=hx.dB;have lc:=hc.dB;have p:=Gk (pr:=BQ) O O 217 [] (λn=> !bX n) (h.push (aM ep X Y C)) C ai hc hl (λn _=>aug n _);rw[RC]at p;have A:ae (iW rows ep ai=(decide (0<=ep)&&decide (ep<=64)&&decide (F ai=cg rows)&&ai.all bX)):=⟨O⟩;generalize iW rows ep ai=res at *
 obtain⟨z3,z2,B,rfl,K,S,w⟩:=hx;have Z:=ae.mk (aj K w);have u23:=cU;have u22:=gy;have z23:=hw;have eH:F (B.map λa=>[a])=F rows:=by rw[br];exact S
 clear K w hc E u;have j:ae (F rows=0->cg rows=1):=⟨λy=>by unfold cg;rw[av y]⟩;have g:ae (∀o,rows[0]?=J o->cg rows=F o):=⟨λo y=>by unfold cg;rw[aL (by have:=(aT.1 y).1;omega),eK,y];rfl⟩;refine bL O Tryz.func149 O ?_;have v:∀n:Nat,cg rows=n->ae (res=(decide (0<=ep)&&decide (ep<=64)&&decide (F ai=n)&&ai.all bX)):=λn y=>⟨by rw[A.out,y]⟩;have m:=ae.mk v;clear v;rcases Nat.eq_zero_or_pos (F rows) with s|s
 .have hq:¬((0:Int)<(F rows:Int)):=by omega
  have k:=m.out _ (j.out s);clear s;clear j g m A;by_cases d:0<=ep;rotate_left 1
  .have d1:decide (0<=ep)=ah:=b7 d;have c:ae (res=ah):=⟨by rw[k.out,d1];rfl⟩;clear d p;refine bA @xB @bg @qR (aj @gX (aj @iU (aj @wW @aU))) ?_;exact⟨_,_,O,O,by rw[c.out]⟩
  have d1:decide (0<=ep)=V:=bQ d;by_cases f:ep<=64;rotate_left 1
  .have d2:decide (ep<=64)=ah:=b7 f;have c:ae (res=ah):=⟨by rw[k.out,d2];simp⟩;clear d f p;refine bA @xB @bg @qR (aj @gX (aj @iU (aj @wW @aU))) ?_;exact⟨_,_,O,O,by rw[c.out]⟩
  have d2:decide (ep<=64)=V:=bQ f;by_cases i:F ai=1;rotate_left 1
  .have d3:decide ((F ai:Int)=1)=ah:=b7 M;have c:ae (res=ah):=⟨by rw[k.out,b7 i];simp⟩;clear d f i p;refine bA @xB @bg @qR (aj @gX (aj @iU (aj @wW @aU))) ?_;exact⟨_,_,O,O,by rw[c.out]⟩
  have d3:decide ((F ai:Int)=1)=V:=bQ M;have c:ae (res=ai.all bX):=⟨by rw[k.out,d1,d2,bQ i];rfl⟩;have D:(!!ai.all bX)=ai.all bX:=by simp
  clear d f i;refine bA @xB @bg @qR (aj @gX (aj @iU (aj @wW @aU))) ?_;exact⟨_,_,O,O,by rw[c.out]⟩
 .have hq:((0:Int)<(F rows:Int)):=by omega
  have N:z2=1:=Z.out.1 (by intro y;rw[y]at s;simp at s);subst N;obtain⟨a0,q⟩:∃a,B[0]?=J a:=⟨_,aP M⟩;obtain⟨o,t⟩:∃r,rows[0]?=J r:=⟨_,aP M⟩;have ld0:=iX (H:=h.push (aM ep (.list z3 1 (B.map λa=>[a])) Y C)) (s:=1) q;obtain⟨ka0,sa0,rfl,z⟩:=Z.out.2 0 a0 o q t;have k:=m.out _ (g.out o t);have l_:=cG o;have z0:(0:Int).toNat=0:=rfl;generalize F o=z1 at *
  clear q t z s;clear j g m A;by_cases d:0<=ep;rotate_left 1
  .have d1:decide (0<=ep)=ah:=b7 d;have c:ae (res=ah):=⟨by rw[k.out,d1];rfl⟩;clear d p;refine bA @xB @bg @qR (aj @gX (aj @iU (aj @wW @aU))) ?_;exact⟨_,_,O,O,by rw[c.out]⟩
  have d1:decide (0<=ep)=V:=bQ d;by_cases f:ep<=64;rotate_left 1
  .have d2:decide (ep<=64)=ah:=b7 f;have c:ae (res=ah):=⟨by rw[k.out,d2];simp⟩;clear d f p;refine bA @xB @bg @qR (aj @gX (aj @iU (aj @wW @aU))) ?_;exact⟨_,_,O,O,by rw[c.out]⟩
  have d2:decide (ep<=64)=V:=bQ f;by_cases i:F ai=z1;rotate_left 1
  .have d3:decide ((F ai:Int)=(z1:Int))=ah:=b7 M;have c:ae (res=ah):=⟨by rw[k.out,b7 i];simp⟩;clear d f i p;refine bA @xB @bg @qR (aj @gX (aj @iU (aj @wW @aU))) ?_;exact⟨_,_,O,O,by rw[c.out]⟩
  have d3:decide ((F ai:Int)=(z1:Int))=V:=bQ M;have c:ae (res=ai.all bX):=⟨by rw[k.out,d1,d2,bQ i];rfl⟩;have D:(!!ai.all bX)=ai.all bX:=by simp
  clear d f i;refine bA @xB @bg @qR (aj @gX (aj @iU (aj @wW @aU))) ?_;exact⟨_,_,O,O,by rw[c.out]⟩
structure tw(H:Heap)(c:Nat)(ep:Int)(X Y C T L Wt:U)(pt ch:Int)(ai:List Int)(text:List UInt8)(l:List Pr):Prop where
 qB:∃(b:Nat) (rows:List (List U)),H.boxes[c]?=J (gi ep X Y C T L Wt (.arr b 0 rows.length rows.length) pt ch)/\H.boxes[b]?=J rows.flatten/\fX (l.map Pr.val) rows
 Lq:IL C ai
 pos:0<ai.length
 c0:0<=af ai 0/\af ai 0<=4611686018427387903
 zU:∃kt st,T=.list kt st (bJ text)/\(text≠[]->st=1)
 tl:text.length<=65536
 ll:l.length<=64
def tw.mono{H H'}{c}{ep}{X Y C T L d}{g f}{ai}{text}{l}(w:tw H c ep X Y C T L d g f ai text l)(x:Ext H H'):tw H' c ep X Y C T L d g f ai text l:=by obtain⟨b,rows,i,j,k⟩:=w.qB;exact⟨⟨b,rows,x.box _ _ i,x.box _ _ j,k⟩,w.Lq,w.pos,w.c0,w.zU,w.tl,w.ll⟩
def aud(l:List Pr):fY (l.map Pr.val)<=1:=by
 induction l with
 |nil=>simp[fY]|cons d l c=>
  rw[eI,fY];have:fA d.val=1:=by simp[Pr.val,fA,fY]
  omega
def aue(p:Pr):F (cB p.val)<=100:=by
 have c:=ia 9 (0+1+1+1+1);have d:=ia 9 (hW p.aO);have f:=ia 9 (hW p.no);have g:=ia 9 (hW p.d);have i:=ia 9 (hW p.e);simp only[Pr.val,cB,gd,ef,ck,f_]at *
 omega
def Z7:∀l:List Pr,F (gd (l.map Pr.val))<=F l*100
 | []=>by simp[gd]
 |p::l=>by have c:=aue p;have d:=Z7 l;rw[eI,gd,ck,ef,Nat.add_mul];omega
def adE(c0)(text)(l)(k):F (cB (.list [.int c0,.text text,BN l,.int k]))<=100+F text+F l*100:=by
 have c:=ia 9 (0+1+1+1+1);have d:=ia 9 (hW c0);have f:=ia 9 (F text);have g:=ia 9 (hW k);have i:=ia 9 (F (l.map Pr.val));have j:=Z7 l;simp only[BN,cB,gd,ef,ck,f_]at *
 omega
def K8(t u v w)(x y z q):fy aa 177 4 [(0,.iface t x),(1,.iface u y),(2,.iface v z),(3,.iface w q)]=J (.list .tight 1 [[.iface t x],[.iface u y],[.iface v z],[.iface w q]]):=am
def K5(H:Heap)(c:Nat)(ep:Int)(X Y C T L A:U)(Z E:Int)(ai:List Int)(text:List UInt8)(l:List Pr)(w:tw H c ep X Y C T L A Z E ai text l)(q:Pr)(N:0<=q.aO/\q.aO<=4611686018427387903):
 ∃r H',W5.call 83 [.ptr (.box c) 0,.agg (aB q)] H=J (r,H')/\H'=H.push (aB q)/\r=.ret (I ((i' (af ai 0) text l q.aO:Nat):Int)):=by
 have y:=w.mono (.push H (aB q));obtain⟨b,rows,f,v,m⟩:=y.qB;obtain⟨S,sc,rfl,j⟩:=w.Lq;obtain⟨t,st,rfl,k⟩:=w.zU;have d:=w.pos;have p:sc=1:=j (by intro e;rw[e]at d;simp at d);subst p;have gJ:F rows<=64:=by have:=m.1;rw[br]at this;have:=w.ll;omega
 have B:=adE (af ai 0) text l q.aO;have K:=aud l;have o:=UB (H.push (aB q)) Je .tight 1 [.iface 3 (.v (.int .i64 (af ai 0))),.iface 60 (.list t st (bJ text)),.iface 118 (.agg (I 3::I 0::sv []::[.arr b 0 (F rows) (F rows)])),.iface 3 (.v (.int .i64 q.aO))] [.int (af ai 0),.text text,BN l,.int q.aO]
  (.cons (.int _ w.c0) (.cons (.text t st text k (by have:=w.tl;omega)) (.cons (.list v m M) (.cons (.int _ N) .nil)))) (λ_=>rfl) b8 aY (by simp[BN,fA,fY];omega) (by have:=w.tl;have:=w.ll;omega)
 have g:qh Je (.list [.int (af ai 0),.text text,BN l,.int q.aO])=i' (af ai 0) text l q.aO:=rfl;rw[g]at o;rw[show Je=[98,105,110,100] from O]at o;generalize i' (af ai 0) text l q.aO=bn at *
 have u:=aK H (aB q);have l0:aD aa Gt (H.push (aB q)) 3 (.ptr (.box (F H.boxes)) 0)=J (.v (.int .i64 q.aO)):=dF dY u O;have l1:aD aa Gt (H.push (aB q)) 23 (.ptr (.box c) 3)=J (.list S 1 (ints ai)):=dF mW f O;have l2:aD aa Gt (H.push (aB q)) 60 (.ptr (.box c) 4)=J (.list t st (bJ text)):=dF acr f O;have l3:aD aa Gt (H.push (aB q)) 118 (.ptr (.box c) 7)=J (.agg [I 3,I 0,sv [],.arr b 0 (F rows) (F rows)]):=by rw[fR KL nm f (jR O)];rfl
 have l4:=eS (H:=H.push (aB q)) (l:=ai) (i:=0) (s:=1) d;have bc:(U.agg (aB q)).bF=J (aB q):=rfl;have eH:=cG ai;have u23:=cU;have z3:=eX;have z:(0:Int)<(F ai:Int):=by omega
 have z0:(0:Int).toNat=0:=rfl;simp only[eI,uT]at o;clear w y f v m j k g B K u d;generalize af ai 0=c0 at *
 unfold I at *
 refine bL O Tryz.func83 O ?_;refine bG @YT @bg ?_;refine du jV am ?_;refine bA @YT @pz @iU (aj @jb (aj @aU (aj @En (aj @Nz (aj @ajh @K8))))) ?_;exact⟨_,_,O,O,O⟩
def adF(c0)(text)(l)(k):okF ((i' c0 text l k:Nat):Int):=UC _ _
def alT(H:Heap)(c:Nat)(ep:Int)(X Y C T L g:U)(m i:Int)(ai:List Int)(text:List UInt8)(l:List Pr)(w:tw H c ep X Y C T L g m i ai text l)(q:Pr)(u:0<=q.aO/\q.aO<=4611686018427387903)(t:bX q.d=V)(k:bX q.e=V):
 ∃r H',W5.call 152 [.ptr (.box c) 0,.agg (aB q)] H=J (r,H')/\Ext H H'/\r=.ret (I ((vL (af ai 0) text l q:Nat):Int)):=by
 obtain⟨_,A,D,rfl,rfl⟩:=K5 (H.push (aB q)) c ep X Y C T L g m i ai text l (w.mono (.push _ _)) q u;have s:=adF (af ai 0) text l q.aO;have E:=OA q.e ((i' (af ai 0) text l q.aO:Nat):Int);have p:=GO q.d (fj q.e ((i' (af ai 0) text l q.aO:Nat):Int));have j:nV q.d (fj q.e ((i' (af ai 0) text l q.aO:Nat):Int))=((vL (af ai 0) text l q:Nat):Int):=by rw[Dn t (yp k _),w8 k];unfold vL;rw[fD];unfold i';rw[XU]
 rw[j]at p;generalize vL (af ai 0) text l q=Z at *
 generalize ((i' (af ai 0) text l q.aO:Nat):Int)=o at *
 generalize fj q.e o=pw at *
 have d:=aK H (aB q);have f:((H.push (aB q)).push (aB q)).boxes[H.boxes.length]?=J (aB q):=aN d;have K:aD aa Gt (H.push (aB q)) 3 (.ptr (.box (F H.boxes)) 2)=J (.v (.int .i64 q.d)):=dF dY d O;have N:aD aa Gt (H.push (aB q)) 3 (.ptr (.box (F H.boxes)) 3)=J (.v (.int .i64 q.e)):=dF dY d O;have S:=jZ d;have y:aD aa Gt ((H.push (aB q)).push (aB q)) 3 (.ptr (.box (F H.boxes)) 2)=J (.v (.int .i64 q.d)):=dF dY f O;have z:aD aa Gt ((H.push (aB q)).push (aB q)) 3 (.ptr (.box (F H.boxes)) 3)=J (.v (.int .i64 q.e)):=dF dY f O;have B:(U.agg (aB q)).bF=J (aB q):=rfl;clear w s j d f;unfold I at *
 refine bL O Tryz.func152 O ?_;refine bG @I9 @bg ?_;refine iG [(1,6),(3,6)] jV am (λz0 hp=>?_) ?_
 .simp only[gU,qJ,or_false]at hp;rcases hp with rfl|rfl
  .refine jN (x:=.ptr (.box (F H.boxes)) 2) (v:=.v (.int .i64 q.d)) am O O O am (by simp[cE,gF]) ?_ ?_<;>(simp only[dw,cX];exact pC @I9 @jb @and_self)
  .refine jN (x:=.ptr (.box (F H.boxes)) 3) (v:=.v (.int .i64 q.e)) am O O O am (by simp[cE,gF]) ?_ ?_<;>(simp only[dw,cX];exact pC @I9 @jb @and_self)
 refine bG @I9 @jb ?_;exact⟨_,_,O,(Ext.push _ _).trans (Ext.push _ _),O⟩
end Go.Proofs.YtcbhpkjbiehcpaaGreatDoor
end
section
set_option linter.constructorNameAsVariable false
namespace Go.Proofs.YtcbhpkjbiehcpaaGreatDoor
open Go.AE Go.NT
def mH:Tryz.f76.results.toList=[.tmp 6,.tmp 7]:=am
def wy(H:Heap)(c f:Nat)(d:U)(vs:List Vl):Prop:=(vs=[]/\d=.list .nil 0 [])∨(vs≠[]/\∃(b:Nat) (rows:List (List U)),d=.arr b 0 (F rows) (F rows)/\H.boxes[b]?=J rows.flatten/\fX vs rows/\b≠c/\f<=b)
def wy.dB{H}{c f}{d}{vs}(q:wy H c f d vs):dB aa 116 d=J (.v (.int .i64 (F vs:Nat))):=by
 have g:=lO;unfold Go.AE.dB;rw[g];rcases q with⟨rfl,rfl⟩|⟨-,b,rows,rfl,-,i,-⟩
 .rfl
 .simp only[i.1]
def wy.cW{H}{c f}{d}{vs}(q:wy H c f d vs):d.cW=V:=by rcases q with⟨rfl,rfl⟩|⟨-,b,rows,rfl,-⟩<;>rfl
def pU:List U:=ar 0 0 [] .nil 0 []
def fX.four{vs}{rows}(h:fX vs rows):∀r∈rows,F r=4:=λr f=>by obtain⟨g,c⟩:=qI f;have d:=(aT.1 c).1;exact(h.2 g _ r (aP (by rw[<-h.1];exact d)) c).len
def fX.snoc{vs}{rows}(h:fX vs rows){v}{r}(g:b9 v r):fX (vs++[v]) (rows++[r]):=by
 refine⟨by simp[h.1],λi k x c hx=>?_⟩;rcases dp i (F rows) with d|j
 .rw[qH d]at hx;rw[qH (by rw[<-h.1];exact d)]at c;exact h.2 i k x c hx
 .have:=(aT.1 hx).1;rw[ck]at this;have f:i=F rows:=by simp at this;omega
  subst f;rw[Ab]at hx;rw[h.1,Ab]at c;injection hx with hx;injection c with c;subst hx;subst c;exact g
def wy.more{u H}{c d}{p}{vs}(q:wy H c d p vs)(hx:Ext u H)(AY:F u.boxes<=d)(hc:c<F H.boxes)(s:d<=F H.boxes)(hl:F vs<1000000){v}{r}(j:b9 v r):
 ∃g,ml aa H #[116,116] p (.list .tight 4 [pU])=J (.arr (F H.boxes) 0 (F vs+1) (F vs+1),g)/\F g.boxes=F H.boxes+1/\g.tn=H.tn/\g.dead=H.dead/\Ext u g/\
  dK aa 116 (.arr (F H.boxes) 0 (F vs+1) (F vs+1)) (.v (.int .i64 (F vs:Nat)))=J (.ptr (.box (F H.boxes)) (F vs*4))/\
  (∀(a:Nat) (cs:List U),H.boxes[a]?=J cs->(a<d∨a=c)->g.boxes[a]?=J cs)/\
  ∃cs,bV aa g 118 (.ptr (.box (F H.boxes)) (F vs*4)) (.agg r)=J (g.put (F H.boxes) cs)/\
  ∀o,o.boxes[H.boxes.length]?=J cs->wy o c d (.arr (F H.boxes) 0 (F vs+1) (F vs+1)) (vs++[v]):=by
 obtain⟨z0,q1,m,q3,q4⟩:=NB;have N:=jt (M:F vs+1<=1000000) q3;have u94:=lO;have i:=j.len;have t:dK aa 116 (.arr (F H.boxes) 0 (F vs+1) (F vs+1)) (.v (.int .i64 (F vs:Nat)))=J (.ptr (.box (F H.boxes)) (F vs*4)):=by unfold dK;simp only[u94,nm];rw[av ⟨M,by omega⟩];simp
 rcases q with⟨rfl,rfl⟩|⟨S,b,rows,rfl,K,w,y,h4⟩
 .have:=zS (h:=H) (k:=.nil) (sz:=0) (es:=[]) (new:=[pU]) (x:=.list .tight 4 [pU]) lO lO q1 M (by rw[m];exact q4) b8 (by simp;omega) b8 (.inr O) (.inl O) (by rw[m];rfl);refine⟨_,this,bE _ _,O,O,hx.trans (.push _ _),t,λa cs A _=>aN A,r,?_,λo y=>.inr ⟨b8,H.boxes.length,[r],O,by rw[y];simp,fX.snoc (vs:=[]) (rows:=[]) ⟨O,λz0 v r q=>by simp at q⟩ j,by omega,s⟩⟩;have D:(H.push ([]++[pU]).flatten).boxes[H.boxes.length]?=J pU:=aK _ _;exact(fC (off:=0) (cs:=pU) (xs:=r) j.cells nm D i (aV 4)).trans (by rw[xD (by rw[i];rfl)])
 .have B:=lX w.four;have f:=w.1;have E:0<F rows:=by rw[f];exact Kb.2 S
  rw[<-f]at N;have:=Jx (h:=H) (b:=b) (len:=rows.length) (cs:=rows.flatten) (new:=[pU]) (x:=.list .tight 4 [pU]) lO lO q1 M (by rw[m];exact q4) b8 (by simp;omega) (by simp;omega) K E (by rw[m,B]) (by rw[m];rfl);have di:=(aT.1 K).1;rw[show F rows+F [pU]=F vs+1 by simp[f]]at this;refine⟨_,this,by rw[bE,je],O,O,(hx.fI M _).trans (.push _ _),t,λa cs A Z=>aN ((cd ?_).trans A),(rows++[r]).flatten,?_,λo h5=>.inr ⟨b8,H.boxes.length,rows++[r],by simp[f],h5,w.snoc j,by omega,s⟩⟩
  .rcases Z with z|z
   .omega
   .rintro rfl;exact y z
  .have D:((H.put b []).push (rows.flatten++[pU].flatten)).boxes[H.boxes.length]?=J (rows.flatten++[pU].flatten):=na (by rw[je]);refine(fC (off:=F vs*4) (xs:=r) j.cells nm D i ?_).trans ?_
   .rw[ck,B,f];exact aV _
   .have vx:dC (rows.flatten++[pU].flatten) (F vs*4) r=(rows++[r]).flatten:=(by unfold dC;rw[i,<-f,<-B,List.take_left' O,nq (by rw[ck];exact aV _),gj];simp);rw[vx]
def alh:∃h',W4.call 150 [.list .nil 0 []] ⟨[],[],0,[]⟩=J (.ret (.agg (ar 3 0 [] .nil 0 [])),h'):=by obtain⟨j,h',f,-,k,i,rows,rfl,-,-,d⟩:=N0 ⟨[],[],0,[]⟩ vM .nil 0 [] [] .nil (λg=>absurd O g) b8 (λa c=>by cases c);obtain⟨rfl,rfl,rfl⟩:=d O;rw[uT]at f;exact⟨h',f⟩
def akV:∀h,W5.call 150 [.list .nil 0 []] h=J (.ret (.agg (ar 3 0 [] .nil 0 [])),h):=by obtain⟨d,c⟩:=alh;exact gE (L:=L5) (B:=[.list .nil 0 []]) aY (by rw[a_,a_,al,bU,dm];intro n f;cases f) aY c (by rfl) aY
end Go.Proofs.YtcbhpkjbiehcpaaGreatDoor
end
section
namespace Go.AE
section
variable {P:Program} {G:Nat->Option (List U)} {aJ:aR->Option (List U->Heap->Option (U × Heap))} {Q:Xt->Env->Heap->Prop} {e:Env} {h:Heap} {L:List aR} {R:Rec}
def amv{ops:Array Oper}{i n bi bn x1 x2:Nat}{r s:Oper}{t1 t2:TypeId}{k m B D:bR}(y:ops.size-1=n)(c:ops[i]?=J r)(g:r.op=.store t1 k B)(p:ops[n]?=J s)(j:s.op=.store t2 m D)
 (u:cq P G R ops (ops.toList.take i) e h (λq d _=>q=.normal/\d.eval k=.ptr (.box bi) x1))
 (v:cq P G R ops (ops.toList.take n) e h (λq f _=>q=.normal/\f.eval m=.ptr (.box bn) x2)) (K:bi≠bn):pP P G R ops e h i=V:=by
 subst y;have w:i<ops.size:=(Array.getElem?_eq_some_iff.1 c).1;obtain⟨S,d,E,o,rfl,t⟩:=u;obtain⟨Z,f,H,f1,rfl,f2⟩:=v;rw[<-oa (Nat.le_of_lt w)]at o;rw[<-oa M]at f1;unfold pP;have z:oR ops i d=J bi:=by unfold oR;rw[c];simp only[g,t]
 have A:oR ops (ops.size-1) f=J bn:=by unfold oR;rw[p];simp only[j,f2]
 simp only[o,f1,z,A];cases N:hy bi bn with|false=>rfl|true=>simp_all
def aq2{id:Nat}{ops:Array Oper}(i:Nat)(p:mo aJ L)(hi:Nat.blt i ops.size=V)(f:BM ops i=V)(q:AI (fN ops i (ops.size-1)) (Lf P (fN ops i (ops.size-1)) L) []=V)
 (d:pP P G (whole P G aJ) ops e h i=V) (g:cq P G (whole P G aJ) ops ops.toList e h (tH Q)):bC (whole P G aJ) (.region id ops V) e h Q:=by
 have hi:i<ops.size:=by simpa [Nat.blt_eq] using hi
 have j:=g;obtain⟨t,k,s,m,o⟩:=j;cases t with
 |normal=>
  have c:bW P G (whole P G aJ) (fN ops i (ops.size-1)) (bZ (fN ops i (ops.size-1)).size) e h=J (.normal,k,s):=by rw[px,zI,oa (aV _),<-Array.length_toList,fK];exact m
  exact run_draw_stores (stores_of hi f d (LI q (λu r=>Sq p c (uU.1 r).2) (λv hp=>nomatch hp))) g
 |_=>exact o.elim
def apX{Post:Bool->Heap->Prop}{H:Heap}{l:Nat}{rec:gV}{args:List U}(i:H.loops[l]?=J rec)(m:rec.params.size=F args)(d:rec.state=.ready)(hp:rec.pending=ag)
 (s:bC (whole P G aJ) rec.assign (nG l rec args) H (λo f g=>o=.normal/\g=H/\bC (whole P G aJ) rec.body f (H.busy l rec) (λo _ c=>c.loops[l]?=J {rec with state:=.busy}/\
  ((o=.normal/\Post V (c.fb l rec))∨(o=.ret/\Post ah (c.fb l {rec with state:=.done,pending:=J .ret})))))):
 ∃b H',(whole P G aJ).round l args H=J (.ret (.v (.bool b)),H')/\Post b H':=by
 obtain⟨o,f,g,p,rfl,rfl,u,k,c,q,r,j⟩:=s;have t:{rec with state:=LoopState.ready,pending:=ag}=rec:=by cases rec;cases d;cases hp;rfl
 rcases j with⟨rfl,j⟩|⟨rfl,j⟩
 .refine⟨V,_,IT i m ⟨_,f,g,p,O,rec,i,d,.normal,k,c,q,{rec with state:=.busy},r,O,O⟩,?_⟩;show Post V (c.fb l {rec with state:=LoopState.ready,pending:=ag});simp_all
 .exact⟨ah,_,IT i m ⟨_,f,g,p,O,rec,i,d,.ret,k,c,q,{rec with state:=.busy},r,O,O⟩,j⟩
end
end Go.AE
end
section
namespace Go.Proofs.YtcbhpkjbiehcpaaGreatDoor
open Go.AE Go.NT
def adk(ep)(i j k m o)(p q r s t)(c e2 d f g):
 iI aa 132 [(0,.agg (aM ep (.list i p c) (.list j q e2) (.list k r d))),(1,.list m s f),(2,.list o t g),(4,.agg (ar 3 0 [] .nil 0 []))]=J (.agg (gi ep (.list i p c) (.list j q e2) (.list k r d) (.list m s f) (.list o t g) (.list .nil 0 []) (.list .nil 0 []) 0 0)):=am
def BL(x:U)(b:List UInt8):Prop:=∃d c,x=.list d c (bJ b)/\(b≠[]->c=1)
def atZ(b):F (bJ b)=F b:=br _
def BL.dB{x}{b}(h:BL x b):dB aa 60 x=J (.v (.int .i64 (F b:Nat))):=by obtain⟨d,f,rfl,-⟩:=h;have c:=Tryz.underlying60;unfold Go.AE.dB;rw[c];simp only[atZ]
def PL.ix{x}{l}(h:PL x l){i}(hi:i<F l):dK aa 32 x (.v (.int .i64 (i:Nat)))=J (.elem 4 (bH l) i 0):=by obtain⟨f,j,rfl,d⟩:=h;have c:j=4:=d (by intro g;rw[g]at hi;simp at hi);subst c;have:=aU (k:=f) (kk:=.i64) (es:=bH l) (a:=((i:Nat):Int)) lP qA M (by rw[Iq];omega);rw[this,fD]
def IL.ix{x}{l}(h:IL x l){i}(hi:i<F l):dK aa 23 x (.v (.int .i64 (i:Nat)))=J (.elem 1 (ints l) i 0):=by obtain⟨f,j,rfl,d⟩:=h;have c:j=1:=d (by intro g;rw[g]at hi;simp at hi);subst c;have:=aU (k:=f) (kk:=.i64) (es:=ints l) (a:=((i:Nat):Int)) cU eX M (by rw[cG];omega);rw[this,fD]
structure BI(h H:Heap)(ep:Int)(X Y C T L:U)(kb c:Nat)(cur:U)(vs:List Vl)(t:Tok):Prop where
 ext:Ext h H
 ok:c_ H=V
 can:db h.tn H t
 key:H.boxes[kb]?=J (aM ep X Y C)
 work:H.boxes[c]?=J (gi ep X Y C T L (.list .nil 0 []) cur 0 0)
 la:wy H c (c+1) cur vs
 lo:h.boxes.length<=kb
 lt:kb<c
def BI.push{h H}{ep}{X Y C T L}{f c}{d}{vs}{t}(b:BI h H ep X Y C T L f c d vs t)(cs):BI h (H.push cs) ep X Y C T L f c d vs t:=by
 refine⟨b.ext.trans (.push _ _),b.ok,by rw[yh];exact b.can,aN b.key,aN b.work,?_,b.lo,b.lt⟩;rcases b.la with g|⟨g,x,rows,i,j,k⟩
 .exact .inl g
 .exact .inr ⟨g,x,rows,i,aN j,k⟩
def BI.app{h H}{ep}{X Y C T L}{g c}{d}{vs}{t}(b:BI h H ep X Y C T L g c d vs t):BI h (H.app t) ep X Y C T L g c d vs (.free H.tn):=by
 have f:=Grown.one b.can b.ok b.ext.tn;refine⟨f.ext b.ext (aV _),f.ok,f.can,by rw[dS];exact b.key,by rw[dS];exact b.work,?_,b.lo,b.lt⟩;rcases b.la with i|⟨i,x,rows,j,k,m⟩
 .exact .inl i
 .exact .inr ⟨i,x,rows,j,by rw[dS];exact k,m⟩
def BI.Ll{h H}{ep}{X Y C T L}{f c}{d}{vs}{t}(b:BI h H ep X Y C T L f c d vs t):c<F H.boxes:=(aT.1 b.work).1
def as7{H}{c}{ep}{X Y C T L f d x}{i g}(j:H.boxes[c]?=J (gi ep X Y C T L f d i g))(hx:x.bF=J [x]):bV aa H 116 (.ptr (.box c) 10) x=J (H.put c (gi ep X Y C T L f x i g)):=
 fC (off:=10) (cs:=gi ep X Y C T L f d i g) (xs:=[x]) hx am j O (jR O)
def as6{H}{c}{ep}{X Y C T L i d x}{g f}(j:H.boxes[c]?=J (gi ep X Y C T L i d g f))(hx:x.bF=J [x]):bV aa H 23 (.ptr (.box c) 6) x=J (H.put c (gi ep X Y C T L x d g f)):=
 fC (off:=6) (cs:=gi ep X Y C T L i d g f) (xs:=[x]) hx hw j O (jR O)
def as9{H}{c}{ep}{X Y C T L f d}{i g n}(j:H.boxes[c]?=J (gi ep X Y C T L f d i g)):bV aa H 3 (.ptr (.box c) 11) (.v (.int .i64 n))=J (H.put c (gi ep X Y C T L f d n g)):=
 fC (off:=11) (cs:=gi ep X Y C T L f d i g) (xs:=[.v (.int .i64 n)]) O eX j O (jR O)
def as8{H}{c}{ep}{X Y C T L f d}{g i n}(j:H.boxes[c]?=J (gi ep X Y C T L f d g i)):bV aa H 3 (.ptr (.box c) 12) (.v (.int .i64 n))=J (H.put c (gi ep X Y C T L f d g n)):=
 fC (off:=12) (cs:=gi ep X Y C T L f d g i) (xs:=[.v (.int .i64 n)]) O eX j O (jR O)
def RZ:fy aa 116 1 [(0,.agg [r8 (Value.int .i64 0),r8 (Value.int .i64 0),r8 (Value.string (bs [])),r8 (Value.slice ag 0 0)])]=J (.list .tight 4 [pU]):=am
def BI.next{h H}{ep}{X Y C T L}{g c}{f}{vs}{t}(b:BI h H ep X Y C T L g c f vs t)(q:F vs<1000000){v}{r}(s:b9 v r):
 ∃d cs,ml aa H #[116,116] f (.list .tight 4 [pU])=J (.arr (F H.boxes) 0 (F vs+1) (F vs+1),d)/\
  dK aa 116 (.arr (F H.boxes) 0 (F vs+1) (F vs+1)) (.v (.int .i64 (F vs:Nat)))=J (.ptr (.box (F H.boxes)) (F vs*4))/\
  bV aa d 118 (.ptr (.box (F H.boxes)) (F vs*4)) (.agg r)=J (d.put (F H.boxes) cs)/\
  bV aa (d.put (F H.boxes) cs) 116 (.ptr (.box c) 10) (.arr (F H.boxes) 0 (F vs+1) (F vs+1))=J ((d.put (F H.boxes) cs).put c (gi ep X Y C T L (.list .nil 0 []) (.arr (F H.boxes) 0 (F vs+1) (F vs+1)) 0 0))/\
  BI h ((d.put (F H.boxes) cs).put c (gi ep X Y C T L (.list .nil 0 []) (.arr (F H.boxes) 0 (F vs+1) (F vs+1)) 0 0)) ep X Y C T L g c (.arr (F H.boxes) 0 (F vs+1) (F vs+1)) (vs++[v]) t:=by
 have hc:=b.Ll;have i:=b.lo;have j:=b.lt;obtain⟨d,w,y,k,m,B,D,o,cs,E,K⟩:=b.la.more b.ext M hc M q s;have u:(d.put (F H.boxes) cs).boxes[c]?=J (gi ep X Y C T L (.list .nil 0 []) f 0 0):=by rw[cd M];exact o c _ b.work (.inr O)
 have p:((d.put (F H.boxes) cs).put c (gi ep X Y C T L (.list .nil 0 []) (.arr (F H.boxes) 0 (F vs+1) (F vs+1)) 0 0)).boxes[g]?=J (aM ep X Y C):=by rw[cd M,cd M];exact o g _ b.key (.inl M)
 refine⟨d,cs,w,D,E,as7 u O,(B.fI (by have:=b.ext.len;omega) _).fI M _,?_,?_,p,dh (by rw[je];omega),?_,i,j⟩
 .have:=b.ok;unfold c_ at *
  show d.dead.all (λn=>decide (n<d.tn))=V;rw[k,m];exact this
 .have:=b.can;rw[Ay,Ay];rcases this with z|z|⟨Z,z,N,S⟩
  .exact .inl z
  .exact .inr (.inl z)
  .refine .inr (.inr ⟨Z,z,N,?_⟩);unfold alive at *
   rw[k,m];exact S
 .refine K _ ?_;rw[cd M];exact dh (by rw[y];omega)
def amG(p:Pr)(h:∀x∈[p.aO,p.no,p.d,p.e],0<=x/\x<=4611686018427387903):∃r,b9 p.val r/\∀H,W5.call 150 [.list .tight 1 [[.iface 3 (.v (.int .i64 p.aO))],[.iface 3 (.v (.int .i64 p.no))],[.iface 3 (.v (.int .i64 p.d))],[.iface 3 (.v (.int .i64 p.e))]]] H=J (.ret (.agg r),H):=by
 have:=akU .tight 1 [.iface 3 (.v (.int .i64 p.aO)),.iface 3 (.v (.int .i64 p.no)),.iface 3 (.v (.int .i64 p.d)),.iface 3 (.v (.int .i64 p.e))] [.int p.aO,.int p.no,.int p.d,.int p.e]
  (.cons (.int _ (h _ b8)) (.cons (.int _ (h _ b8)) (.cons (.int _ (h _ b8)) (.cons (.int _ (h _ b8)) .nil)))) (λ_=>rfl) b8
 simp only[eI,uT]at this;exact this
def jI(l:List Pr):List Int:=l.map Pr.aO
def Qg(rows:List (List Int))(ac:List Int)(ep:Int)(X Y C T L:U)(ai:List Int)(text:List UInt8)(l:List Pr)(h:Heap)(r:dR)(h':Heap):Prop:=
 Ext h h'/\((eg rows ac ep ai text l≠0/\r=.ret (.tuple [.v (.pointer ag),.v (.int .i64 (eg rows ac ep ai text l))]))∨
  (eg rows ac ep ai text l=0/\∃d c,r=.ret (.tuple [.ptr (.box d) 0,.v (.int .i64 0)])/\IL c (gT rows ac l)/\tw h' d ep X Y C T L c ((jM (af ai 0) text l:Nat):Int) ((gp (af ai 0) text l:Nat):Int) ai text l))
def zJ{l}:∀{c:Int},mF c l=V->∀p∈l,c<p.aO/\p.aO<64/\0<=p.no/\p.no<4096/\bX p.d=V/\bX p.e=V:=by
 induction l with
 |nil=>intro _ _ p hp;simp at hp|cons w l o=>
  intro c h p hp;rw[NT.mF]at h;simp only[bm,decide_eq_true_eq]at h;obtain⟨⟨⟨⟨⟨⟨d,f⟩,g⟩,i⟩,j⟩,k⟩,m⟩:=h;rcases gU.1 hp with rfl|hp
  .exact⟨d,f,g,i,j,k⟩
  .obtain⟨v,q,r,s,t,u⟩:=o m p hp;exact⟨M,q,r,s,t,u⟩
def Xg{c0}{text}{l}{p}(c:bX p.d=V)(d:bX p.e=V):elem (vL c0 text l p)=V:=by unfold vL i';rw[XU];exact Df (AL c) (It (AL d) _)
def am3{c0}{text}{l}{c:Int}(h:mF c l=V):elem (jM c0 text l)=V:=
 OK (λd hp=>Xg (zJ h d hp).2.2.2.2.1 (zJ h d hp).2.2.2.2.2) Gq
def RP(h:Heap)(fQ:c_ h=V)(ep:Int)(X Y C T L:U)(rows:List (List Int))(ac ai:List Int)(text:List UInt8)(l:List Pr)
 (hx:RL X rows) (E:IL Y ac) (hc:IL C ai) (ht:BL T text) (hp:PL L l) (eM:F ai<=1000000) (gJ:F l<=1000000):
 ∃r h',W5.call 76 [.agg (aM ep X Y C),T,L] h=J (r,h')/\Qg rows ac ep X Y C T L ai text l h r h':=by
 have bx:=nC (ep:=ep) hx E hc;obtain⟨_,h2,c2,rfl,rfl⟩:=aoG (h.push (aM ep X Y C)) ep X Y C rows ac ai hx E hc eM;have c1:=Lk X Y rows ac hx E;have H:=aK h (aM ep X Y C);have l1:aD aa Gt (h.push (aM ep X Y C)) 25 (.ptr (.box (F h.boxes)) 1)=J (.agg [X,Y]):=by rw[fR Ao (by kernel_rfl:cC aa 25=J 2) H (jR O)];rfl
 have l2:aD aa Gt (h.push (aM ep X Y C)) 27 (.ptr (.box (F h.boxes)) 0)=J (.agg (aM ep X Y C)):=by rw[fR am (by kernel_rfl:cC aa 27=J 4) H (jR O)];rfl
 have l3:aD aa Gt ((h.push (aM ep X Y C)).push (aM ep X Y C)) 27 (.ptr (.box (F h.boxes)) 0)=J (.agg (aM ep X Y C)):=by rw[fR am (by kernel_rfl:cC aa 27=J 4) (aN H) (jR O)];rfl
 have ln1:=ht.dB;have ln2:=hp.dB;have lst:=akV;have bw:iI aa 132 [(0,.agg (aM ep X Y C)),(1,T),(2,L),(4,.agg (ar 3 0 [] .nil 0 []))]=J (.agg (gi ep X Y C T L (.list .nil 0 []) (.list .nil 0 []) 0 0))/\(U.agg (gi ep X Y C T L (.list .nil 0 []) (.list .nil 0 []) 0 0)).bF=J (gi ep X Y C T L (.list .nil 0 []) (.list .nil 0 []) 0 0):=by obtain⟨kx,sx,xs,rfl,-⟩:=hx.form;obtain⟨ky,sy,rfl,-⟩:=E;obtain⟨kc,sc,rfl,-⟩:=hc;obtain⟨kt,st,rfl,-⟩:=ht;obtain⟨kp,sp,rfl,-⟩:=hp;exact⟨adk ep kx ky kc kt kp sx sy sc st sp _ _ _ _ _,O⟩
 obtain⟨bw1,bw2⟩:=bw;have z:=ae.mk (aj hx (aj E (aj hc (aj ht hp))));have B0:BI h (((h.push (aM ep X Y C)).push (aM ep X Y C)).push (gi ep X Y C T L (.list .nil 0 []) (.list .nil 0 []) 0 0)) ep X Y C T L (F h.boxes) (F ((h.push (aM ep X Y C)).push (aM ep X Y C)).boxes) (.list .nil 0 []) [] .nil:=
  ⟨((Ext.push _ _).trans (.push _ _)).trans (.push _ _),fQ,.inl O,aN (aN H),aK _ _,.inl ⟨O,O⟩,aV _,by rw[bE,bE];omega⟩
 have X1:=ae.mk (Ext.push h (aM ep X Y C));have X2:=ae.mk ((Ext.push h (aM ep X Y C)).trans (Ext.push _ (aM ep X Y C)));have kE1:ae (cH rows ac≠0->eg rows ac ep ai text l=cH rows ac):=⟨λi=>by unfold eg;rw[av i]⟩;have kE2:ae (cH rows ac=0->iW rows ep ai=ah->eg rows ac ep ai text l=380):=⟨λZ p=>by unfold eg;rw[aL (by simp[Z]),av];unfold iW at p;rw[p];rfl⟩;have kE3:ae (cH rows ac=0->iW rows ep ai=V->65536<F text->eg rows ac ep ai text l=2):=⟨λZ p q3=>by unfold eg;unfold iW at p;rw[aL (by simp[Z]),aL (by rw[p];decide),av q3]⟩;have kE4:ae (cH rows ac=0->iW rows ep ai=V->¬65536<F text->64<F l->eg rows ac ep ai text l=420):=⟨λZ p q3 q4=>by unfold eg;unfold iW at p;rw[aL (by simp[Z]),aL (by rw[p];decide),aL q3,av q4]⟩;have kE5:ae (cH rows ac=0->iW rows ep ai=V->¬65536<F text->¬64<F l->mF (-1) l=ah->eg rows ac ep ai text l=420):=⟨λZ p q3 q4 q5=>by unfold eg;unfold iW at p;rw[aL (by simp[Z]),aL (by rw[p];decide),aL q3,aL q4,av (by rw[q5];rfl)]⟩;have kE6:ae (cH rows ac=0->iW rows ep ai=V->¬65536<F text->¬64<F l->mF (-1) l=V->∀K z2 e,fG rows ac (jI l)=(K,z2,e)->eg rows ac ep ai text l=if e≠0∨z2=ah∨F l=0 then 420 else 0):=⟨λZ p q3 q4 q5 K z2 e q6=>by unfold eg;unfold iW at p;rw[aL (by simp[Z]),aL (by rw[p];decide),aL q3,aL q4,aL (by rw[q5];decide)];unfold jI at q6;rw[q6]⟩;have kW:ae (∀K z2 e,fG rows ac (jI l)=(K,z2,e)->gT rows ac l=K):=⟨λK z2 e i=>by unfold gT;unfold jI at i;rw[i]⟩;have kR:ae (iW rows ep ai=V->F ai=cg rows/\ai.all bX=V):=⟨λi=>by unfold iW at i;simp only[bm,decide_eq_true_eq]at i;exact⟨i.1.2,i.2⟩⟩;unfold Qg;generalize eg rows ac ep ai text l=res at *
 clear hx E hc ht hp H;refine bL O Tryz.func76 O ?_;by_cases v:cH rows ac=0;rotate_left 1
 .have c:=ae.mk (aj v (kE1.out v));clear kE1 kE2 kE3 kE4 kE5 kE6 c2 bw1 bw2 B0 lst l3;generalize cH rows ac=i at *
  unfold I at *
  refine cK @mH @bg @gX ?_;exact⟨_,_,O,X1.out,.inl ⟨by rw[c.out.2];exact c.out.1,by rw[c.out.2]⟩⟩
 rw[v]at c1;cases w:iW rows ep ai with
 |false=>
  have c:=ae.mk (kE2.out v w);rw[w]at c2;clear kE1 kE2 kE3 kE4 kE5 kE6 bw1 bw2 B0 lst l3 v w;unfold I at *
  refine cK @mH @bg @gX ?_;exact⟨_,_,O,X2.out,.inl ⟨by rw[c.out];decide,by rw[c.out]⟩⟩
 |true=>
 rw[w]at c2;by_cases h3:65536<F text
 .have c:=ae.mk (kE3.out v w h3);have hI:(65536:Int)<(F text:Int):=by omega
  clear kE1 kE2 kE3 kE4 kE5 kE6 bw1 bw2 B0 lst l3 v w h3;unfold I at *
  refine cK @mH @bg @gX ?_;exact⟨_,_,O,X2.out,.inl ⟨by rw[c.out];decide,by rw[c.out]⟩⟩
 have hI:¬(65536:Int)<(F text:Int):=by omega
 by_cases h4:64<F l
 .have c:=ae.mk (kE4.out v w h3 h4);have Uh:(64:Int)<(F l:Int):=by omega
  clear kE1 kE2 kE3 kE4 kE5 kE6 bw1 bw2 B0 lst l3 v w h3 h4;unfold I at *
  refine cK @mH @bg @gX ?_;exact⟨_,_,O,X2.out,.inl ⟨by rw[c.out];decide,by rw[c.out]⟩⟩
 have Uh:¬(64:Int)<(F l:Int):=by omega
 have kbad:=ae.mk (λi=>kE5.out v w h3 h4 i);have kgood:=ae.mk (λi=>kE6.out v w h3 h4 i);have kcom:=ae.mk (kR.out w);have kprog:=ae.mk v;have ktl:ae (F text<=65536):=⟨M⟩;have Hi:F l<=64:=by omega
 clear kE1 kE2 kE3 kE4 kE5 kE6 kR v w h3 h4 X1 X2;have kB0:=ae.mk B0;clear B0;obtain⟨HW,Uf⟩:∃HW,((h.push (aM ep X Y C)).push (aM ep X Y C)).push (gi ep X Y C T L (.list .nil 0 []) (.list .nil 0 []) 0 0)=HW:=⟨_,O⟩;unfold I at *
 refine cK @mH @bg @gX ?_;refine du jV am ?_;refine cK @mH @bg @gX ?_;rw[Uf]at kB0;refine bC.gen λu k hY eu dn=>?_;have f1:u.get 1=T:=by rw[k];exact gS
 have f2:u.get 2=L:=by rw[k];exact gS
 have f3:u.get 3=.ptr (.box (F h.boxes)) 0:=by rw[k];exact gS
 have f6:u.get 6=.ptr (.box (F ((h.push (aM ep X Y C)).push (aM ep X Y C)).boxes)) 0:=by rw[k];exact gS
 have f9:u.get 9=.list .nil 0 []:=by rw[k];exact gS
 have f10:u.get 10=.v (.int .i64 (-1)):=by rw[k];exact gS
 have f39:u.get 39=L:=by rw[k];exact gS
 have f40:u.get 40=.v (.int .i64 (F l:Nat)):=by rw[k];exact gS
 have f41:u.get 41=.v (.int .i64 (0:Nat)):=by rw[k];exact gR
 have fd:u.defers=[]:=by rw[hY];exact gS
 clear k hY eu dn c1 c2 l1 l2 l3 bw1 bw2 lst Uf hI Uh ln1;generalize F ((h.push (aM ep X Y C)).push (aM ep X Y C)).boxes=N at *
 generalize F h.boxes=kb at *
 refine b_ (λz4 e j=>∃(q:Nat) (f:Int) (z0:Tok) (sz:Nat) (cur:U),q<=F l/\z4=F l-q/\ae (mF f (l.drop q)=mF (-1) l)/\(-1<=f)/\ae (BI h j ep X Y C T L kb N cur ((l.take q).map Pr.val) z0)/\ae (sz=1∨(jI (l.take q)=[]/\z0=.nil))/\
  e.get 1=T/\e.get 2=L/\e.get 3=.ptr (.box kb) 0/\e.get 6=.ptr (.box N) 0/\e.get 9=.list z0 sz (ints (jI (l.take q)))/\e.get 10=.v (.int .i64 f)/\e.get 39=L/\e.get 40=.v (.int .i64 (F l:Nat))/\e.get 41=.v (.int .i64 (q:Nat))/\e.defers=[]) ?_ (F l) _ _ ?_
 rotate_left 1
 .exact⟨0,-1,.nil,0,.list .nil 0 [],bY _,O,⟨O⟩,Int.le_refl _,kB0,⟨.inr ⟨O,O⟩⟩,f1,f2,f3,f6,f9,f10,f39,f40,f41,fd⟩
 clear f1 f2 f3 f6 f9 f10 f39 f40 f41 fd kB0 HW;rintro z4 e j ⟨q,f,z0,sz,cur,hi,rfl,kP,DT,y,ksz,g1,g2,g3,g6,g9,g10,g39,g40,g41,hd⟩;by_cases di:q<F l
 .obtain⟨d,Ht⟩:∃d,l[q]?=J d:=⟨_,aP di⟩;have DK:l.drop q=d::l.drop (q+1):=by rw[s_ di,(aT.1 Ht).2]
  have yZ:=kP.out;rw[DK,NT.mF]at yZ;have kpf:=ae.mk yZ;have ix:=z.out.2.2.2.2.ix di;have ld:=qt (H:=j) (s:=4) Ht;have st:=zQ (H:=j) d;have zc:=zV;have H:=aK j (aB d);have q0:aD aa Gt (j.push (aB d)) 3 (.ptr (.box (F j.boxes)) 0)=J (.v (.int .i64 d.aO)):=dF dY H O;have Z:aD aa Gt (j.push (aB d)) 3 (.ptr (.box (F j.boxes)) 1)=J (.v (.int .i64 d.no)):=dF dY H O;have p:aD aa Gt (j.push (aB d)) 3 (.ptr (.box (F j.boxes)) 2)=J (.v (.int .i64 d.d)):=dF dY H O;have q3:aD aa Gt (j.push (aB d)) 3 (.ptr (.box (F j.boxes)) 3)=J (.v (.int .i64 d.e)):=dF dY H O;have v1:=Fv d.d;have v2:=Fv d.e;have fO:(q:Int)<(F l:Int):=by omega
  have t:=ae.mk (y.out.push (aB d));have ktake:=ae.mk (gg Ht);clear yZ DK Ht H;have g:ae ((decide (f<d.aO)&&decide (d.aO<64)&&decide (0<=d.no)&&decide (d.no<4096)&&bX d.d&&bX d.e)=ah->res=420):=⟨λi=>by refine kbad.out ?_;rw[<-kpf.out,i];rfl⟩;unfold I at *
  by_cases e1:d.aO<=f
  .have d1:decide (d.aO<=f)=V:=bQ e1;have c:=ae.mk (g.out (by rw[b7 (M:¬f<d.aO)];rfl));clear e1;refine bG @mH @jb ?_;exact⟨_,_,O,t.out.ext,.inl ⟨by rw[c.out];decide,by rw[c.out]⟩⟩
  have d1:decide (d.aO<=f)=ah:=b7 e1;by_cases e2:64<=d.aO
  .have d2:decide (64<=d.aO)=V:=bQ e2;have c:=ae.mk (g.out (by rw[b7 (M:¬d.aO<64)];simp));clear e1 e2;refine bG @mH @jb ?_;exact⟨_,_,O,t.out.ext,.inl ⟨by rw[c.out];decide,by rw[c.out]⟩⟩
  have d2:decide (64<=d.aO)=ah:=b7 e2;by_cases e3:d.no<0
  .have d3:decide (d.no<0)=V:=bQ e3;have c:=ae.mk (g.out (by rw[b7 (M:¬0<=d.no)];simp));clear e1 e2 e3;refine bG @mH @jb ?_;exact⟨_,_,O,t.out.ext,.inl ⟨by rw[c.out];decide,by rw[c.out]⟩⟩
  have d3:decide (d.no<0)=ah:=b7 e3;by_cases e4:4096<=d.no
  .have d4:decide (4096<=d.no)=V:=bQ e4;have c:=ae.mk (g.out (by rw[b7 (M:¬d.no<4096)];simp));clear e1 e2 e3 e4;refine bG @mH @jb ?_;exact⟨_,_,O,t.out.ext,.inl ⟨by rw[c.out];decide,by rw[c.out]⟩⟩
  have d4:decide (4096<=d.no)=ah:=b7 e4;cases e5:bX d.d with
  |false=>have c:=ae.mk (g.out (by rw[e5];simp));rw[e5]at v1;clear e1 e2 e3 e4 e5;refine bG @mH @jb ?_;exact⟨_,_,O,t.out.ext,.inl ⟨by rw[c.out];decide,by rw[c.out]⟩⟩
  |true=>
  rw[e5]at v1;cases e6:bX d.e with
  |false=>have c:=ae.mk (g.out (by rw[e6];simp));rw[e6]at v2;clear e1 e2 e3 e4 e5 e6;refine bG @mH @jb ?_;exact⟨_,_,O,t.out.ext,.inl ⟨by rw[c.out];decide,by rw[c.out]⟩⟩
  |true=>
  rw[e6]at v2;have D':=AM e5;have hr6:=AM e6;have kP2:ae (mF d.aO (l.drop (q+1))=mF (-1) l):=⟨by rw[<-kpf.out,bQ (M:f<d.aO),bQ (M:d.aO<64),bQ (M:0<=d.no),bQ (M:d.no<4096),e5,e6];rfl⟩;obtain⟨r,xo,lr⟩:=amG d (by intro x hx;simp only[gU,qJ,or_false]at hx;rcases hx with rfl|rfl|rfl|rfl<;>omega);have hkl:F (jI (l.take q))=q:=by unfold jI;rw[br,cR];omega
  have ap:=wI (x:=d.aO) (es:=jI (l.take q)) M ksz.out t.out.can;have bl:=qO d.aO;have U6:jI (l.take q)++[d.aO]=jI (l.take (q+1)):=by unfold jI;rw[ktake.out,jQ];rfl
  rw[U6]at ap;have kBa:=ae.mk t.out.app;have pI:F ((l.take q).map Pr.val)=q:=by rw[br,cR];omega
  obtain⟨H2,cs,t1,t2,t3,t4,t5⟩:=kBa.out.next M xo;have len94:=kBa.out.la.dB;have lw:aD aa Gt ((j.push (aB d)).app z0) 116 (.ptr (.box N) 10)=J cur:=dF Rx kBa.out.work O;have bxx:((j.push (aB d)).app z0).boxes[j.boxes.length]?=J (aB d):=by rw[dS];exact aK _ _
  have q0':aD aa Gt ((j.push (aB d)).app z0) 3 (.ptr (.box (F j.boxes)) 0)=J (.v (.int .i64 d.aO)):=dF dY bxx O;have q1':aD aa Gt ((j.push (aB d)).app z0) 3 (.ptr (.box (F j.boxes)) 1)=J (.v (.int .i64 d.no)):=dF dY bxx O;have q2':aD aa Gt ((j.push (aB d)).app z0) 3 (.ptr (.box (F j.boxes)) 2)=J (.v (.int .i64 d.d)):=dF dY bxx O;have q3':aD aa Gt ((j.push (aB d)).app z0) 3 (.ptr (.box (F j.boxes)) 3)=J (.v (.int .i64 d.e)):=dF dY bxx O;have VL:(l.take q).map Pr.val++[d.val]=(l.take (q+1)).map Pr.val:=by rw[ktake.out,jQ];rfl
  rw[VL]at t5;have kB2:=ae.mk t5;have fP:F ((j.push (aB d)).app z0).boxes≠N:=by have:=kBa.out.Ll;omega
  rw[pI]at t1 t2 t3 t4 kB2 len94;have knext: -1<=d.aO:=by omega
  clear e1 e2 e3 e4 e5 e6 D' hr6 t5 VL bxx U6 xo hkl pI t kBa g kpf kP DT;refine bG @mH @jb ?_;refine aq2 23 jV am am am ?_ ?_
  .refine amv (n:=27) (bi:=((j.push (aB d)).app z0).boxes.length) (bn:=N) (x1:=q*4) (x2:=10) am O O O O ?_ ?_ fP<;>(simp only[dw,cX];exact jn @mH @pz @jb (aj @Ts (aj @En (aj @K8 (aj @RZ @and_self)))))
  refine bA @mH @pz @jb (aj @Ts (aj @En (aj @K8 @RZ))) ?_;exact⟨F l-(q+1),by omega,q+1,d.aO,_,1,_,by omega,O,kP2,knext,kB2,⟨.inl O⟩,by simp⟩
 have gr:q=F l:=by omega
 subst gr;rw[fK]at g9 ksz y;have Uo:mF (-1) l=V:=by rw[<-kP.out,nq (aV _)];rfl
 have o:=ae.mk Uo;have lk:aD aa Gt j 25 (.ptr (.box kb) 1)=J (.agg [X,Y]):=by rw[fR Ao (by kernel_rfl:cC aa 25=J 2) y.out.key (jR O)];rfl
 have VM:IL (.list z0 sz (ints (jI l))) (jI l):=⟨z0,sz,O,λi=>by
  rcases ksz.out with z3|⟨z3,-⟩
  .exact z3
  .exact absurd z3 i⟩
 have aiC:F (jI l)<=64:=by unfold jI;rw[br];exact Hi
 have ah1:(∃e,fG rows ac (jI l)=([],ah,e)/\∀h,W5.call 39 [.agg [X,Y],.list z0 sz (ints (jI l))] h=J (.ret (.tuple [.list .nil 0 [],.v (.bool ah),.v (.int .i64 e)]),h))∨∃K,fG rows ac (jI l)=(K,V,0)/\F K=F rows/\∀h,W5.call 39 [.agg [X,Y],.list z0 sz (ints (jI l))] h=J (.ret (.tuple [.list .held 1 (ints K),.v (.bool V),.v (.int .i64 0)]),h):=by obtain⟨k0,s0,xs,Uv,-⟩:=z.out.1.form;have:=Ro k0 s0 xs Y (.list z0 sz (ints (jI l))) rows ac (jI l) (by rw[<-Uv];exact z.out.1) z.out.2.1 VM M;rw[<-Uv]at this;exact this
 clear Uo VM aiC di kP DT hi;rcases ah1 with⟨u,a1,ca⟩|⟨K,a1,a2,ca⟩
 .have c:ae (res=420):=⟨by rw[kgood.out o.out _ _ _ a1,av (.inr (.inl O))]⟩;clear a1;by_cases S:u=0
  .subst S;refine bG @mH @gX ?_;exact⟨_,_,O,y.out.ext,.inl ⟨by rw[c.out];decide,by rw[c.out]⟩⟩
  .have d9:decide (u=0)=ah:=b7 S;refine bG @mH @gX ?_;exact⟨_,_,O,y.out.ext,.inl ⟨by rw[c.out];decide,by rw[c.out]⟩⟩
 by_cases S:F l=0
 .have c:ae (res=420):=⟨by rw[kgood.out o.out _ _ _ a1,av (.inr (.inr S))]⟩;have d9:decide ((F l:Int)=0)=V:=bQ M;clear a1 S;refine bG @mH @gX ?_;exact⟨_,_,O,y.out.ext,.inl ⟨by rw[c.out];decide,by rw[c.out]⟩⟩
 have d9:decide ((F l:Int)=0)=ah:=b7 M;have c:ae (res=0):=⟨by rw[kgood.out o.out _ _ _ a1,aL (by simp;intro i;rw[i]at S;exact S O)]⟩;have kWt:=ae.mk (kW.out _ _ _ a1);obtain⟨m1,m2⟩:=kcom.out;have mpos:=(vd kprog.out).1;have DG:bX (af ai 0)=V:=by rw[eJ]at m2;exact m2 _ (by rw[gb M];exact i_ _)
 have aij:=AM DG;have hlo:=y.out.lo;have aiE:=y.out.lt;have s1:=as6 (x:=.list .held 1 (ints K)) y.out.work O;obtain⟨b,A,aip,ou,k',tY,vm⟩:∃(b:Nat) (A:List (List U)),cur=.arr b 0 (F A) (F A)/\j.boxes[b]?=J A.flatten/\fX (l.map Pr.val) A/\b≠N/\N+1<=b:=by
  rcases y.out.la with⟨i,-⟩|⟨-,i⟩
  .exfalso;rw[Ac]at i;rw[i]at S;exact S O
  .exact i
 subst aip;have Mo:=y.out.Ll;have W1:tw (j.put N (gi ep X Y C T L (.list .held 1 (ints K)) (.arr b 0 (F A) (F A)) 0 0)) N ep X Y C T L (.list .held 1 (ints K)) 0 0 ai text l:=
  ⟨⟨b,A,dh Mo,by rw[cd tY];exact ou,k'⟩,z.out.2.2.1,by omega,⟨M,by omega⟩,z.out.2.2.2.1,ktl.out,Hi⟩
 have E1:Ext h (j.put N (gi ep X Y C T L (.list .held 1 (ints K)) (.arr b 0 (F A) (F A)) 0 0)):=y.out.ext.fI M _;obtain⟨_,Hp,cp,xp,rfl⟩:=anu 152 [.ptr (.box N) 0] [] (vL (af ai 0) text l) _ L l z.out.2.2.2.2 M (λi hq=>Xg (zJ o.out i hq).2.2.2.2.1 (zJ o.out i hq).2.2.2.2.2) (λi hq H' hX=>by have hm:=zJ o.out i hq;obtain⟨_,H2,n1,n2,rfl⟩:=alT H' N ep X Y C T L (.list .held 1 (ints K)) 0 0 ai text l (W1.mono hX) i ⟨M,by omega⟩ hm.2.2.2.2.1 hm.2.2.2.2.2;exact⟨H2,n1,n2⟩);have D_:l.foldl (λx i=>x*vL (af ai 0) text l i%P) 1=jM (af ai 0) text l:=rfl;rw[D_]at cp;have M_:=AM (wS (am3 (c0:=af ai 0) (text:=text) o.out));have E2:=E1.trans xp;have W2:=W1.mono xp;obtain⟨b',m,w1,w2,w3⟩:=W2.qB;have Mj:b'≠N:=by intro i;have z1:Hp.boxes[N]?=J (gi ep X Y C T L (.list .held 1 (ints K)) (.arr b 0 (F A) (F A)) 0 0):=xp.box _ _ (dh Mo);rw[z1]at w1;unfold gi at w1;injection w1 with w1;simp only[List.cons.injEq,U.arr.injEq,true_and,and_true]at w1;omega
 have s2:=as9 (n:=((jM (af ai 0) text l:Nat):Int)) w1;have UM:=(aT.1 w1).1;obtain⟨kt,st,Uu,gZ⟩:=z.out.2.2.2.1;obtain⟨B,qg⟩:∃B,Hp.put N (gi ep X Y C T L (.list .held 1 (ints K)) (.arr b' 0 (F m) (F m)) ((jM (af ai 0) text l:Nat):Int) 0)=B:=⟨_,O⟩;have w5:B.boxes[N]?=J (gi ep X Y C T L (.list .held 1 (ints K)) (.arr b' 0 (F m) (F m)) ((jM (af ai 0) text l:Nat):Int) 0):=by rw[<-qg];exact dh UM
 have E5:Ext h B:=by rw[<-qg];exact E2.fI M _
 have v5:B.boxes[b']?=J m.flatten:=by rw[<-qg,cd Mj];exact w2
 have sl:=Zd ((jM (af ai 0) text l:Nat):Int) (af ai 0) text;have D:=UB B zP .tight 1 [.iface 3 (.v (.int .i64 ((jM (af ai 0) text l:Nat):Int))),.iface 3 (.v (.int .i64 (af ai 0))),.iface 60 (.list kt st (bJ text))] [.int ((jM (af ai 0) text l:Nat):Int),.int (af ai 0),.text text]
  (.cons (.int _ ⟨M,by omega⟩) (.cons (.int _ ⟨M,by omega⟩) (.cons (.text kt st text gZ (by have:=ktl.out;omega)) .nil))) (λ_=>rfl) b8 aY (by simp[fA,fY]) (by have:=ktl.out;omega)
 have UK:qh zP (.list [.int ((jM (af ai 0) text l:Nat):Int),.int (af ai 0),.text text])=gp (af ai 0) text l:=rfl;rw[UK,<-Uu,show zP=[115,105,103,110] from O]at D;simp only[eI,uT]at D;have lp:aD aa Gt B 3 (.ptr (.box N) 11)=J (.v (.int .i64 ((jM (af ai 0) text l:Nat):Int))):=dF dY w5 O;have lC:aD aa Gt B 23 (.ptr (.box N) 3)=J C:=dF mW w5 O;obtain⟨kc,sc,hCe,hsc⟩:=z.out.2.2.1;have ixC:=z.out.2.2.1.ix (i:=0) M;have lC0:=eS (H:=B) (l:=ai) (i:=0) (s:=1) M;have s3:=as8 (n:=((gp (af ai 0) text l:Nat):Int)) w5;have pK:ae (Ext h (B.put N (gi ep X Y C T L (.list .held 1 (ints K)) (.arr b' 0 (F m) (F m)) ((jM (af ai 0) text l:Nat):Int) ((gp (af ai 0) text l:Nat):Int)))/\tw (B.put N (gi ep X Y C T L (.list .held 1 (ints K)) (.arr b' 0 (F m) (F m)) ((jM (af ai 0) text l:Nat):Int) ((gp (af ai 0) text l:Nat):Int))) N ep X Y C T L (.list .held 1 (ints K)) ((jM (af ai 0) text l:Nat):Int) ((gp (af ai 0) text l:Nat):Int) ai text l):=
  ⟨E5.fI M _,⟨⟨b',m,dh (aT.1 w5).1,by rw[cd Mj];exact v5,w3⟩,z.out.2.2.1,by omega,⟨M,by omega⟩,z.out.2.2.2.1,ktl.out,Hi⟩⟩
 have kyw:ae (IL (.list .held 1 (ints K)) (gT rows ac l)):=⟨by rw[kWt.out];exact⟨_,_,O,λ_=>rfl⟩⟩;have ix0:dK aa 23 C (.v (.int .i64 0))=J (.elem 1 (ints ai) 0 0):=ixC;clear W1 W2 E1 E2 E5 w1 w2 w3 v5 sl UK D_ xp ou k' tY vm Mo UM Mj DG aij M_ mpos m1 m2 hlo aiE Uu gZ hCe hsc S a1 a2 ixC w5;generalize ((jM (af ai 0) text l:Nat):Int)=ptv at *
 generalize ((gp (af ai 0) text l:Nat):Int)=chv at *
 generalize af ai 0=c0 at *
 unfold I at *
 refine bA @mH @gX @pz @ey.{0} ?_;refine du jV am ?_;refine bA @mH @iU @pz (aj @En (aj @Nz @R9)) ?_;exact⟨_,_,O,pK.out.1,.inr ⟨c.out,_,_,O,kyw.out,pK.out.2⟩⟩
def EZ:Tryz.f37.results.toList=[.tmp 6,.tmp 7,.tmp 8,.tmp 9]:=am
def Ph:Tryz.f77.results.toList=[.cell 6 46,.tmp 7]:=am
def aqi:Tryz.f155.results.toList=[.tmp 3]:=am
def YD:Tryz.f156.results.toList=[.tmp 2]:=am
def tF(c0:Int)(text:List UInt8)(l:List Pr):List Int:=l.map λc=>((i' c0 text l c.aO:Nat):Int)
def F'{rows}{ac ai}{ep}{text}{l}(h:eg rows ac ep ai text l=0):
 cH rows ac=0/\F ai=cg rows/\ai.all bX=V/\F l<=64/\F text<=65536/\mF (-1) l=V:=by
 unfold eg at h;split at h
 .rename_i j;exact absurd h j
 .rename_i f;split at h
  .simp at h
  .rename_i g;split at h
   .simp at h
   .rename_i k;split at h
    .simp at h
    .rename_i m;split at h
     .simp at h
     .rename_i i;have c:=(aan _).mp g;rw[aam]at c;simp only[bm,decide_eq_true_eq]at c;have d:=(aan _).mp i;rw[aam]at d;exact⟨JX.1 f,c.1.2,c.2,by omega,by omega,d⟩
def adC(h:Heap)(u:c_ h=V)(ep:Int)(X Y C T L:U)(rows:List (List Int))(ac ai:List Int)(text:List UInt8)(l:List Pr)
 (hx:RL X rows) (E:IL Y ac) (hc:IL C ai) (ht:BL T text) (hp:PL L l) (eM:F ai<=1000000) (gJ:F l<=1000000):
 ∃r h',W5.call 37 [.agg (aM ep X Y C),T,L] h=J (r,h')/\
  ((eg rows ac ep ai text l≠0/\r=.ret (.tuple [.list .nil 0 [],.v (.int .i64 0),.v (.int .i64 0),.v (.int .i64 (eg rows ac ep ai text l))]))∨
  (eg rows ac ep ai text l=0/\∃Z,r=.ret (.tuple [Z,.v (.int .i64 ((jM (af ai 0) text l:Nat):Int)),.v (.int .i64 ((gp (af ai 0) text l:Nat):Int)),.v (.int .i64 0)])/\IL Z (tF (af ai 0) text l))):=by
 have bx:=nC (ep:=ep) hx E hc;obtain⟨r1,h1,c1,x1,w⟩:=RP (h.push (aM ep X Y C)) u ep X Y C T L rows ac ai text l hx E hc ht hp eM gJ;have z:=aK h (aM ep X Y C);have l0:aD aa Gt (h.push (aM ep X Y C)) 27 (.ptr (.box (F h.boxes)) 0)=J (.agg (aM ep X Y C)):=by rw[fR am (by kernel_rfl:cC aa 27=J 4) z (jR O)];rfl
 have kp:=ae.mk hp;have ko:=ae.mk (x1.ok u);have kbo:=ae.mk (λo=>@F' rows ac ai ep text l o);have ln2:=hp.dB;clear hx E hc ht hp z x1;generalize eg rows ac ep ai text l=res at *
 refine bL O Tryz.func37 O ?_;rcases w with⟨o,rfl⟩|⟨o,A,Wt,rfl,-,z1⟩
 .have kr:=ae.mk o;refine bG @EZ @bg ?_;exact⟨_,_,O,.inl ⟨kr.out,O⟩⟩
 obtain⟨-,-,-,-,-,p6⟩:=kbo.out o;have kP:=ae.mk p6;have kW:=ae.mk z1;have kr:=ae.mk o;have Hi:=z1.ll;obtain⟨b,vr,w1,-⟩:=z1.qB;clear p6 z1;subst o;refine bG @EZ @bg ?_;refine bC.gen λg c q H K=>?_;have f6:g.get 6=.list .nil 0 []:=by rw[c];exact gS
 have f10:g.get 10=.ptr (.box A) 0:=by rw[c];exact gS
 have f23:g.get 23=L:=by rw[c];exact gS
 have f24:g.get 24=.v (.int .i64 (F l:Nat)):=by rw[c];exact gS
 have f25:g.get 25=.v (.int .i64 (0:Nat)):=by rw[c];exact gR
 have B:g.defers=[]:=by rw[q];exact gS
 clear c q H K c1 l0 w1;have kbl:ae (F (tF (af ai 0) text l)=F l):=⟨by unfold tF;simp⟩;refine b_ (λz3 e m=>∃(f:Nat) (z0:Tok) (p:Nat),f<=F l/\z3=F l-f/\ae (Gr h1 m z0)/\ae (p=1∨((tF (af ai 0) text l).take f=[]/\z0=.nil))/\e.get 6=.list z0 p (ints ((tF (af ai 0) text l).take f))/\e.get 10=.ptr (.box A) 0/\e.get 23=L/\e.get 24=.v (.int .i64 (F l:Nat))/\e.get 25=.v (.int .i64 (f:Nat))/\e.defers=[]) ?_ (F l) _ _ ?_;rotate_left 1
 .exact⟨0,.nil,0,bY _,O,⟨Gr.nil (.refl _) ko.out⟩,⟨.inr ⟨O,O⟩⟩,f6,f10,f23,f24,f25,B⟩
 clear f6 f10 f23 f24 f25 B;rintro z3 e m ⟨f,z0,p,hi,rfl,v,k,g6,g10,g23,g24,g25,hd⟩;by_cases t:f<F l
 .obtain⟨i,d⟩:∃i,l[f]?=J i:=⟨_,aP t⟩;have hm:=zJ kP.out i (cT d);have ix:=kp.out.ix t;have ld:=qt (H:=m) (s:=4) d;have st:=zQ (H:=m) i;have zc:=zV;have l2:=jZ (aK m (aB i));obtain⟨_,H2,cb,rfl,rfl⟩:=K5 (m.push (aB i)) A ep X Y C T L Wt _ _ ai text l ((kW.out.mono v.out.1).mono (.push _ _)) i ⟨M,by omega⟩;have N:(tF (af ai 0) text l)[f]?=J ((i' (af ai 0) text l i.aO:Nat):Int):=by unfold tF;rw[ec,d];rfl
  have j:=(v.out.push (aB i)).push (aB i);have ap:=wI (x:=((i' (af ai 0) text l i.aO:Nat):Int)) (es:=(tF (af ai 0) text l).take f) (by rw[cR];omega) k.out j.2.2;rw[<-gg N]at ap;have S:=ae.mk j.app;have bl:=qO ((i' (af ai 0) text l i.aO:Nat):Int);have fO:(f:Int)<(F l:Int):=by omega
  clear N hm d j;generalize ((i' (af ai 0) text l i.aO:Nat):Int)=bn at *
  unfold I at *
  refine bh @EZ ?_;exact⟨F l-(f+1),by omega,f+1,_,1,by omega,O,S,⟨.inl O⟩,by simp⟩
 .have D:f=F l:=by omega
  subst D;rw[ga (by rw[kbl.out];exact aV _)]at g6 k;obtain⟨b2,vr2,y,-⟩:=(kW.out.mono v.out.1).qB;have lp:aD aa Gt m 3 (.ptr (.box A) 11)=J (.v (.int .i64 ((jM (af ai 0) text l:Nat):Int))):=dF dY y O;have lc:aD aa Gt m 3 (.ptr (.box A) 12)=J (.v (.int .i64 ((gp (af ai 0) text l:Nat):Int))):=dF dY y O;clear y;generalize ((jM (af ai 0) text l:Nat):Int)=ptv at *
  generalize ((gp (af ai 0) text l:Nat):Int)=chv at *
  refine bh @EZ ?_;refine du jV am ?_;refine bG @EZ @pz ?_;refine⟨_,_,O,.inr ⟨aX,_,O,z0,p,O,λo=>?_⟩⟩;rcases k.out with z2|⟨z2,-⟩
  .exact z2
  .exact absurd z2 o
def If(n):(U.v (.int .i64 n)).bF=J [.v (.int .i64 n)]:=rfl
def anv(r)(o):(U.ptr r o).bF=J [.ptr r o]:=rfl
def alV(n)(h):W5.call 156 [I n] h=J (.ret (.v (.bool (lu n))),h):=by
 unfold I lu;by_cases c:n<0
 .refine cr O abB O ?_;have:decide (n<0)=V:=by simp[c]
  exact dV @YD @Bool.true_or
 .refine cr O abB O ?_;have:decide (n<0)=ah:=by simp[c]
  exact dV @YD @Bool.false_or
def ajQ(H)(b)(k)(c:H.boxes[b]?=J [.v (.int .i64 k)])(q):∃H',W5.call 155 [.agg (aB q),.ptr (.box b) 0] H=J (.ret (.v (.bool (decide (q.aO=k)))),H')/\Ext H H':=by have d:(U.agg (aB q)).bF=J (aB q):=rfl;have f:aD aa Gt (H.push (aB q)) 3 (.ptr (.box (F H.boxes)) 0)=J (.v (.int .i64 q.aO)):=dF dY (aK _ _) O;have g:aD aa Gt (H.push (aB q)) 3 (.ptr (.box b) 0)=J (.v (.int .i64 k)):=dF dY (aN c) O;refine gI O Tryz.func155 O ?_;clear c;refine cK @aqi @bg @jb ?_;exact⟨_,O,.push _ _⟩
def agK(h:Heap)(c:Nat)(cs:List U)(L:U)(l:List Pr)(d:Int)(j:List Int)(z0:U)(S:h.boxes[c]?=J cs)(o:cs[5]?=J L)(hp:PL L l)(hl:F l<=1000000)(N:IL z0 j)(Hm:F j<=1000):
 ∃r h',W5.call 77 [.ptr (.box c) 0,.v (.int .i64 d),z0] h=J (r,h')/\Ext h h'/\
  (((vR l d=ag∨j.all cN=ah)/\r=.ret (.tuple [.agg (aB ⟨0,0,0,0⟩),.v (.int .i64 1)]))∨∃q,vR l d=J q/\j.all cN=V/\r=.ret (.tuple [.agg (aB q),.v (.int .i64 0)])):=by
 have zc:=zV;have E:((h.push [.v (.int .i64 d)]).push (aB ⟨0,0,0,0⟩)).boxes[h.boxes.length]?=J [.v (.int .i64 d)]:=aN (aK _ _);have y:((h.push [.v (.int .i64 d)]).push (aB ⟨0,0,0,0⟩)).boxes[c]?=J cs:=aN (aN S);have H:=aK (h.push [.v (.int .i64 d)]) (aB ⟨0,0,0,0⟩);obtain⟨_,i,c1,u,D⟩:=ajm 155 [.ptr (.box (F h.boxes)) 0] (λz3=>decide (z3.aO=d)) ((h.push [.v (.int .i64 d)]).push (aB ⟨0,0,0,0⟩)) L l hp hl (λq _ z1 hX=>ajQ z1 (F h.boxes) d (hX.box _ _ E) q);have l0:aD aa Gt ((h.push [.v (.int .i64 d)]).push (aB ⟨0,0,0,0⟩)) 32 (.ptr (.box c) 5)=J L:=dF Ru y o;have l1:aD aa Gt i 32 (.ptr (.box c) 5)=J L:=dF Ru (u.box _ _ y) o;have k:=u.box _ _ H;have l2:=jZ k;have st0:bV aa i 46 (.ptr (.box (F (h.push [.v (.int .i64 d)]).boxes)) 0) (.agg (aB ⟨0,0,0,0⟩))=J i:=by rw[fC (off:=0) (xs:=aB ⟨0,0,0,0⟩) O qA k O (aV 4),xD O,lH k]
 have z:=Gk (pr:=BQ) O O 156 [] lu i z0 j N M (λn _=>alV n _);have g:=KM j;have X3:=ae.mk (((Ext.push h [.v (.int .i64 d)]).trans (Ext.push _ (aB ⟨0,0,0,0⟩))).trans u);have v:=(aT.1 k).1;have w:∀q:Pr,bV aa i 46 (.ptr (.box (F (h.push [.v (.int .i64 d)]).boxes)) 0) (.agg (aB q))=J (i.put (F (h.push [.v (.int .i64 d)]).boxes) (aB q))/\aD aa Gt (i.put (F (h.push [.v (.int .i64 d)]).boxes) (aB q)) 46 (.ptr (.box (F (h.push [.v (.int .i64 d)]).boxes)) 0)=J (.agg (aB q)):=λq=>by refine⟨?_,jZ (dh v)⟩;rw[fC (off:=0) (xs:=aB q) O qA k O (aV 4)];rfl
 have K:∀q:Pr,Ext h (i.put (F (h.push [.v (.int .i64 d)]).boxes) (aB q)):=λq=>X3.out.fI (by rw[bE];omega) _;have kq:=ae.mk (aj w K);rw[bE]at l2 st0;have kp:=ae.mk hp;unfold vR;clear E y H S o k u N w K hp v;refine bL O Tryz.func77 O ?_;unfold I at *
 rcases D with⟨p1,rfl⟩|⟨z2,q,rfl,t,p3⟩
 .have B:=ae.mk p1;clear p1 z;refine bA @Ph @bg @bE (aj @pz @If) ?_;exact⟨_,_,O,X3.out,.inl ⟨.inl B.out,O⟩⟩
 .have B:=ae.mk (aj t p3);have Z:=(aT.1 t).1;have ix:=kp.out.ix Z;have ld:=qt (H:=i) (s:=4) t;have avx:decide (((z2:Nat):Int)<0)=ah:=b7 M;obtain⟨s1,s2⟩:=kq.out.1 q;rw[bE]at s1 s2;have m:=kq.out.2 q;rw[bE]at m;have kXQ:=ae.mk m;clear m;clear t p3;cases p:j.any lu with|true=>rw[p]at z g;have A:=ae.mk g;clear p g;refine bA @Ph @bg @bE (aj @pz @If) ?_;exact⟨_,_,O,X3.out,.inl ⟨.inr A.out.symm,O⟩⟩|false=>rw[p]at z g;have A:=ae.mk g;clear p g;refine bA @Ph @bg @bE (aj @pz @If) ?_;exact⟨_,_,O,kXQ.out,.inr ⟨q,B.out.2,A.out.symm,O⟩⟩
def aqH:Tryz.f78.results.toList=[.tmp 4]:=am
def EY:Tryz.f157.results.toList=[]:=am
def fa(ac:List Int)(c:Int)(k:Nat):List Nat:=(bZ k).filter λd=>decide (af ac d=c)
def IV{ac}{c}{k}(h:af ac k=c):fa ac c (k+1)=fa ac c k++[k]:=by unfold fa;rw[ku,Aa,List.filter_cons_of_pos (by simp[h])];rfl
def BW{ac}{c}{k}(h:af ac k≠c):fa ac c (k+1)=fa ac c k:=by unfold fa;rw[ku,Aa,List.filter_cons_of_neg (by simp[h])];simp
def YB(ac)(c):fa ac c (F ac)=zN ac c:=rfl
def ap0(h:Heap)(c:Nat)(d:Int):W5.call 78 [.ptr (.box c) 0,.v (.int .i64 d)] h=J (.ret (.func (.func 157) [] [.ptr (.box (F h.boxes)) 0,.ptr (.box (F h.boxes+1)) 0]),(h.push [.ptr (.box c) 0]).push [.v (.int .i64 d)]):=by refine cr O Tryz.func78 O ?_;exact jn @aqH @bg @bE (aj @If @anv)
def ap6(l u q c:Nat)(Y:U)(ac:List Int)(d:Int)(Inv:Nat->Heap->Prop)(Stop:Heap->Prop)(E:IL Y ac)(MT:F ac<=1000000)
 (t:∀k H,Inv k H->H.boxes[u]?=J [.ptr (.box c) 0]/\H.boxes[q]?=J [.v (.int .i64 d)]/\∃cs,H.boxes[c]?=J cs/\cs[2]?=J Y)
 (y:∀k H,k<F ac->af ac k=d->Inv k H->(∃H',W5.round l [.v (.int .i64 (k:Nat))] H=J (.ret (.v (.bool V)),H')/\Inv (k+1) H')∨∃H',W5.round l [.v (.int .i64 (k:Nat))] H=J (.ret (.v (.bool ah)),H')/\Stop H')
 (z:∀k H,k<F ac->af ac k≠d->Inv k H->Inv (k+1) H)
 (m:Heap) (r:Inv 0 m):∃H',W5.call 157 [.yield l,.ptr (.box u) 0,.ptr (.box q) 0] m=J (.ret (.tuple []),H')/\(Inv (F ac) H'∨Stop H'):=by
 have o:=ae.mk (aj t (aj y (aj z (aj r E))));obtain⟨v,-,cs,b3,b4⟩:=t 0 m r;have K:aD aa Gt m 121 (.ptr (.box u) 0)=J (.ptr (.box c) 0):=dF Ap v O;have N:aD aa Gt m 23 (.ptr (.box c) 2)=J Y:=dF mW b3 b4;have ln:=E.dB;clear t y z r E v b3 b4;refine gI O Tryz.func157 O ?_;refine bA @EY @pz @gX @agz ?_;refine b_ (λz0 e H=>∃k:Nat,k<=F ac/\z0=F ac-k/\ae (Inv k H)/\e.get 0=.yield l/\e.get 2=.ptr (.box q) 0/\e.get 11=Y/\e.get 12=.v (.int .i64 (F ac:Nat))/\e.get 13=.v (.int .i64 (k:Nat))/\e.defers=[]) ?_ (F ac) _ _ ?_;rotate_left 1
 .refine⟨0,bY _,O,⟨o.out.2.2.2.1⟩,?_,?_,?_,?_,?_,?_⟩<;>exact gR
 clear K N;rintro z0 e H ⟨k,hk,rfl,g,g0,g2,Z,g12,g13,hd⟩;by_cases j:k<F ac;rotate_left 1
 .have:k=F ac:=by omega
  subst this;refine bh @EY ?_;exact⟨_,O,.inl g.out⟩
 obtain⟨-,w,-⟩:=o.out.1 k H g.out;have ix:=o.out.2.2.2.2.ix j;have ld:=eS (H:=H) (l:=ac) (i:=k) (s:=1) j;have lk:aD aa Gt H 3 (.ptr (.box q) 0)=J (.v (.int .i64 d)):=dF dY w O;have D:(k:Int)<(F ac:Int):=by omega
 clear w;by_cases hc:af ac k=d
 .have B:decide (af ac k=d)=V:=bQ hc;rcases o.out.2.1 k H j hc g.out with⟨H',S,p⟩|⟨H',S,p⟩
  .have f:=ae.mk p;clear p hc g;generalize af ac k=A at *
   refine bG @EY @yf ?_;exact⟨F ac-(k+1),by omega,k+1,by omega,O,f,by simp⟩
  .have f:=ae.mk p;clear p hc g;generalize af ac k=A at *
   refine bG @EY @yf ?_;exact⟨_,O,.inr f.out⟩
 .have B:decide (af ac k=d)=ah:=b7 hc;have f:=ae.mk (o.out.2.2.1 k H j hc g.out);clear hc g;generalize af ac k=A at *
  refine bG @EY @yf ?_;exact⟨F ac-(k+1),by omega,k+1,by omega,O,f,by simp⟩
def auR:(fW aa 121).bind U.bF=J [.v (.pointer ag)]:=am
def as1{H:Heap}(c):bV aa (H.push [.v (.pointer ag)]) 121 (.ptr (.box (F H.boxes)) 0) (.ptr (.box c) 0)=J (H.push [.ptr (.box c) 0]):=lJ O am O rfl
def aup{rows}{ac ai}{ep}{text}{l}(h:eg rows ac ep ai text l=0):
 ∃y,fG rows ac (l.map Pr.aO)=(y,V,0)/\gT rows ac l=y/\F y=F rows:=by
 have d:=h;unfold eg at h;rw[aL (by simp[(F' d).1])]at h;split at h
 .simp at h
 .split at h
  .simp at h
  .split at h
   .simp at h
   .split at h
    .simp at h
    .cases c:fG rows ac (l.map Pr.aO) with
     |mk y f=>
      obtain⟨k,e⟩:=f;rw[c]at h;simp only at h;split at h
      .simp at h
      .rename_i j;simp only[not_or,JX,Bool.not_eq_false]at j;obtain⟨g,i,-⟩:=j;subst g;subst i;exact⟨y,O,by unfold gT;rw[c],(aca c).2.2.1⟩
def ary(c o):cE (.ptr (.box c) o) (.ptr (.box c) o)=V:=by rw[cE,Jh,abe,abe];rfl
def amA{l}{c}{q}(h:vR l c=J q):q∈l/\q.aO=c:=by unfold vR at h;refine⟨List.mem_of_find?_eq_some h,?_⟩;have:=List.find?_some h;simpa using this
end Go.Proofs.YtcbhpkjbiehcpaaGreatDoor
end
section
namespace Go.AE
section
variable {P:Program} {G:Nat->Option (List U)} {R:Rec}
def Zp{ops:Array Oper}{e:Env}{h:Heap}{i j:Nat}{o:Oper}{t:TypeId}{a:bR}(m:nP ops i j=V)(d:ops[j]?=J o)(f:o.op=.load t a)
 (k:(ops[i]?).map (λo=>iz o.op)=J .iq) {x v:U} (B:cE v v=V)
 (z:cq P G R ops (ops.toList.take j) e h (λq g r=>q=.normal/\eE ops g o=J V/\g.eval a=x/\aD P G r t x=J v))
 (A:cq P G R ops (ops.toList.take i) e h (λq _ p=>q=.normal/\aD P G p t x=J v)):jA P G R ops e h i j=V:=by
 have K:i<ops.size:=by
  rcases dp i ops.size with c|c
  .exact c
  .rw[Cq c]at k;cases k
 have E:j<ops.size:=by
  rcases dp j ops.size with c|c
  .exact c
  .rw[Cq c]at d;cases d
 have hc:(ops[j]?).map (λo=>iz o.op)=J .reads:=by rw[d];simp only[fF,f];rfl
 unfold jA;rw[m,hc,k];simp only[mL];unfold od;rw[d,oa M,oa M];obtain⟨N,g,r,u,rfl,s,w,y⟩:=z;obtain⟨S,H,p,f1,rfl,f2⟩:=A;rw[u,f1];simp only[s,f,w,y,f2,B]
def asC{ops:Array Oper}{e:Env}{h:Heap}{i j:Nat}{o:Oper}{t:TypeId}{a:bR}(k:nP ops i j=V)(d:ops[j]?=J o)(m:o.op=.load t a)
 (f:(ops[i]?).map (λo=>iz o.op)=J .iq)
 (s:cq P G R ops (ops.toList.take j) e h (λq g w=>q=.normal/\eE ops g o=J ah))
 (u:cq P G R ops (ops.toList.take i) e h (λq _ v=>q=.normal)):jA P G R ops e h i j=V:=by
 have A:i<ops.size:=by
  rcases dp i ops.size with c|c
  .exact c
  .rw[Cq c]at f;cases f
 have y:j<ops.size:=by
  rcases dp j ops.size with c|c
  .exact c
  .rw[Cq c]at d;cases d
 have hc:(ops[j]?).map (λo=>iz o.op)=J .reads:=by rw[d];simp only[fF,m];rfl
 unfold jA;rw[k,hc,f];simp only[mL];unfold od;rw[d,oa M,oa M];obtain⟨B,g,w,r,rfl,p⟩:=s;obtain⟨E,z,v,f1,rfl⟩:=u;rw[r,f1];simp only[p]
end
end Go.AE
end
section
namespace Go.Proofs.YtcbhpkjbiehcpaaGreatDoor
open Go.AE Go.NT
def jz:Tryz.f30.results.toList=[.cell 14 3,.cell 15 39]:=am
def ap5(ac)(c){k}:∀{n:Nat},k<=n->∃t,fa ac c n=fa ac c k++t:=by
 intro n
 induction n with
 |zero=>intro h;exact⟨[],by rw[(M:k=0)];simp⟩
 |succ n g=>
  intro h;rcases dp n k with i|d
  .exact⟨[],by rw[(M:k=n+1)];simp⟩
  .obtain⟨t,ht⟩:=g d;by_cases f:af ac n=c
   .exact⟨t++[n],by rw[IV f,ht,iO]⟩
   .exact⟨t,by rw[BW f,ht]⟩
def amp{rows}{ac ai}{c}{s}(h:mc rows ac ai c s=V){k}(i:k<F ac)(g:af ac k=c):
 ∃p,s[(fa ac c k).length]?=J p/\p.1=((k:Nat):Int)/\Ch rows ai p=V:=by
 unfold mc at h;rw[bm,decide_eq_true_eq]at h;obtain⟨f,d⟩:=h;obtain⟨j,ht⟩:=ap5 ac c (M:k+1<=F ac);rw[YB,IV g]at ht;have e:(s.map dM)[(fa ac c k).length]?=J ((k:Nat):Int):=by rw[f,ht,ec,iO,wB (aV _),qL];rfl
 rw[ec]at e;cases hp:s[(fa ac c k).length]? with
 |none=>rw[hp]at e;cases e
 |some p=>rw[hp]at e;injection e with e;rw[eJ]at d;exact⟨p,O,e,d p (cT hp)⟩
def Fi{H}{b}{x}{n}(c:H.boxes[b]?=J [x]):bV aa H 3 (.ptr (.box b) 0) (.v (.int .i64 n))=J (H.put b [.v (.int .i64 n)]):=fC (off:=0) (cs:=[x]) (xs:=[.v (.int .i64 n)]) O eX c O (aV 1)
def KJ:fH aa 72=J ah:=am
def Fh{H}{b}{x}{n}(c:H.boxes[b]?=J [x]):bV aa H 39 (.ptr (.box b) 0) (.v (.int .i64 n))=J (H.put b [.v (.int .i64 n)]):=fC (off:=0) (cs:=[x]) (xs:=[.v (.int .i64 n)]) O ZQ c O (aV 1)
def auQ:(fW aa 3).bind U.bF=J [.v (.int .i64 0)]:=am
def auO:(fW aa 39).bind U.bF=J [.v (.int .i64 0)]:=am
def auD{y}{s:List (Int × Int)}{i}{p}(h:s[i]?=J p):lK y (s.take (i+1))=dx (lK y (s.take i)) (cS (af y p.1.toNat) p.2):=by unfold lK;rw[gg h,oD];rfl
def SL.ix{x}{l}(h:SL x l){i}(hi:i<F l):dK aa 72 x (.v (.int .i64 (i:Nat)))=J (.elem 2 (bO l) i 0):=by obtain⟨f,j,rfl,d⟩:=h;have c:j=2:=d (by intro g;rw[g]at hi;simp at hi);subst c;have:=aU (k:=f) (kk:=.i64) (es:=bO l) (a:=((i:Nat):Int)) Rk ZS M (by rw[uH];omega);rw[this,fD]
def SL.dB{x}{l}(h:SL x l):dB aa 72 x=J (.v (.int .i64 (F l:Nat))):=by obtain⟨d,f,rfl,-⟩:=h;have c:=Rk;unfold Go.AE.dB;rw[c];simp only[uH]
def SL.bF{x}{l}(h:SL x l):x.bF=J [x]:=by obtain⟨c,d,rfl,-⟩:=h;rfl
structure CL(Hb:Heap)(li:Nat)(rec:gV)(ZO ib zb eb:Nat)(rows:List (List Int))(ac ai W:List Int)(aO:Int)(s:List (Int × Int))(k:Nat)(H:Heap):Prop where
 lp:H.loops[li]?=J rec
 fL:∀(a:Nat) (cs:List U),Hb.boxes[a]?=J cs->a≠ZO->a≠ib->H.boxes[a]?=J cs
 sum:H.boxes[ZO]?=J [.v (.int .i64 (lK W (s.take (fa ac aO k).length)))]
 ix:H.boxes[ib]?=J [.v (.int .i64 ((fa ac aO k).length:Nat))]
 le:(fa ac aO k).length<=s.length
 same:(s.take (fa ac aO k).length).map dM=(fa ac aO k).map λ(i:Nat)=>(i:Int)
 ok:(s.take (fa ac aO k).length).all (Ch rows ai)=V
structure CM(li:Nat)(rec:gV)(zb eb:Nat)(H:Heap):Prop where
 lp:H.loops[li]?=J {rec with state:=.done,pending:=J .ret}
 z:H.boxes[zb]?=J [.v (.int .i64 0)]
 e:H.boxes[eb]?=J [.v (.int .i64 340)]
def aeY{rows}{ac ai}(c:cH rows ac=0)(d:F ai=cg rows)(f:ai.all bX=V):iJ rows ac ai=0:=by unfold iJ;rw[aL (by simp[c]),av (by rw[bQ d,f];rfl)]
def agP{rows}{ac ai}(hc:iJ rows ac ai=0){k}{v}(f:k<F rows):
 (Ch rows ai (((k:Nat):Int),v)=V/\qb rows ac ai (((k:Nat):Int),v)=(V,0))∨(Ch rows ai (((k:Nat):Int),v)=ah/\(qb rows ac ai (((k:Nat):Int),v)=(ah,340)∨qb rows ac ai (((k:Nat):Int),v)=(ah,0))):=by
 have d:sH rows (((k:Nat):Int),v)=cN v:=by unfold sH;rw[bQ (show(0:Int)<=((k:Nat):Int) by omega),bQ (show((k:Nat):Int)<(F rows:Int) by omega)];rfl
 unfold Ch qb;rw[aL (by simp[hc]),d];simp only[fD];cases g:cN v with
 |false=>exact .inr ⟨O,.inl O⟩|true=>
  by_cases c:ek Gn v=si ai (rows.getD k [])
  .left;rw[bQ c];exact⟨O,O⟩
  .right;rw[b7 c];exact⟨O,.inr O⟩
def yu{Hx}{zb eb}{x y}(g:Hx.boxes[zb]?=J [x])(d:Hx.boxes[eb]?=J [y])(c:zb≠eb)(n m):
 bV aa Hx 3 (.ptr (.box zb) 0) (.v (.int .i64 n))=J (Hx.put zb [.v (.int .i64 n)])/\aD aa Gt Hx 39 (.ptr (.box eb) 0)=J y/\aD aa Gt (Hx.put zb [.v (.int .i64 n)]) 39 (.ptr (.box eb) 0)=J y/\
  bV aa (Hx.put zb [.v (.int .i64 n)]) 39 (.ptr (.box eb) 0) (.v (.int .i64 m))=J ((Hx.put zb [.v (.int .i64 n)]).put eb [.v (.int .i64 m)])/\
  aD aa Gt ((Hx.put zb [.v (.int .i64 n)]).put eb [.v (.int .i64 m)]) 3 (.ptr (.box zb) 0)=J (.v (.int .i64 n))/\aD aa Gt ((Hx.put zb [.v (.int .i64 n)]).put eb [.v (.int .i64 m)]) 39 (.ptr (.box eb) 0)=J (.v (.int .i64 m)):=by
 have i:=(aT.1 g).1;have f:=(aT.1 d).1;have o:(Hx.put zb [U.v (.int .i64 n)]).boxes[eb]?=J [y]:=by rw[cd (Ne.symm c)];exact d
 have j:((Hx.put zb [U.v (.int .i64 n)]).put eb [U.v (.int .i64 m)]).boxes[zb]?=J [.v (.int .i64 n)]:=by rw[cd c];exact dh i
 have k:((Hx.put zb [U.v (.int .i64 n)]).put eb [U.v (.int .i64 m)]).boxes[eb]?=J [.v (.int .i64 m)]:=dh (by rw[je];exact f);exact⟨Fi g,dF xY d O,dF xY o O,Fh o,dF dY j O,dF xY k O⟩
def oQ(rows:List (List Int))(ac:List Int)(ep:Int)(ai:List Int)(text:List UInt8)(l:List Pr)(c:Int)(s:List (Int × Int))(d f:Int):Int × Int:=
 if eg rows ac ep ai text l≠0 then (0,eg rows ac ep ai text l) else By rows ac ai text l c s d f
def alo{rows}{ac ai}{text}{l}{c}{s}{d f}(h:vR l c=ag∨[d,f].all cN=ah):By rows ac ai text l c s d f=(0,1):=by
 unfold By;cases hp:vR l c with
 |none=>rfl|some x=>
  rcases h with q|q
  .rw[hp]at q;cases q
  .have:(cN d&&cN f)=ah:=(by simpa using q);simp only[this];rfl
def alp{rows}{ac ai}{text}{l}{c}{s}{d f}{x}(h:vR l c=J x)(g:[d,f].all cN=V):By rows ac ai text l c s d f=
 if mc rows ac ai c s=ah then (0,340) else if ¬((ek Gn d:Nat):Int)=x.d∨¬((ek Gn f:Nat):Int)=x.e then (0,420)
 else (dx (dx d (cS f (i' (af ai 0) text l c))) (cS (gp (af ai 0) text l) (lK (gT rows ac l) s)),0):=by
 unfold By;have:(cN d&&cN f)=V:=by simpa using g
 rw[h];simp only[this];cases mc rows ac ai c s<;>rfl
def adM(a b):fy aa 23 2 [(0,.v (.int .i64 a)),(1,.v (.int .i64 b))]=J (.list .tight 1 (ints [a,b])):=am
def alk(h:Heap)(fQ:c_ h=V)(ep:Int)(X Y C T L zd:U)(rows:List (List Int))(ac ai:List Int)(text:List UInt8)(l:List Pr)(s:List (Int × Int))(c d f:Int)
 (hx:RL X rows) (E:IL Y ac) (hc:IL C ai) (ht:BL T text) (hp:PL L l) (hs:SL zd s) (eM:F ai<=1000000) (gJ:F l<=1000000) (qX:F s<=1000000):
 ∃r h',W5.call 30 [.agg (aM ep X Y C),T,L,.v (.int .i64 c),zd,.v (.int .i64 d),.v (.int .i64 f)] h=J (r,h')/\r=.ret (.tuple [.v (.int .i64 (oQ rows ac ep ai text l c s d f).1),.v (.int .i64 (oQ rows ac ep ai text l c s d f).2)]):=by
 have bx:=nC (ep:=ep) hx E hc;have bS:=hs.bF;have zc:=auR;have zp:=zV;have z3:=auQ;have z32:=auO;obtain⟨h0,A3⟩:∃h0,(((h.push (aM ep X Y C)).push [zd]).push [.v (.int .i64 0)]).push [.v (.int .i64 0)]=h0:=⟨_,O⟩;obtain⟨sb,Ee⟩:∃n,F (h.push (aM ep X Y C)).boxes=n:=⟨_,O⟩;obtain⟨t,Nw⟩:∃n,F ((h.push (aM ep X Y C)).push [zd]).boxes=n:=⟨_,O⟩;obtain⟨k,Mw⟩:∃n,F (((h.push (aM ep X Y C)).push [zd]).push [.v (.int .i64 0)]).boxes=n:=⟨_,O⟩;obtain⟨kb,MH⟩:∃n,F h.boxes=n:=⟨_,O⟩;have o1:kb<sb/\sb<t/\t<k:=by rw[<-MH,<-Ee,<-Nw,<-Mw];simp only[bE];omega
 have gk:h0.boxes[kb]?=J (aM ep X Y C):=by rw[<-A3,<-MH];exact aN (aN (aN (aK _ _)))
 have gs:h0.boxes[sb]?=J [zd]:=by rw[<-A3,<-Ee];exact aN (aN (aK _ _))
 have gz:h0.boxes[t]?=J [.v (.int .i64 0)]:=by rw[<-A3,<-Nw];exact aN (aK _ _)
 have ge:h0.boxes[k]?=J [.v (.int .i64 0)]:=by rw[<-A3,<-Mw];exact aK _ _
 have MS:c_ h0=V:=by rw[<-A3];exact fQ
 obtain⟨r1,h1,c1,x1,post⟩:=RP h0 MS ep X Y C T L rows ac ai text l hx E hc ht hp eM gJ;have l0:aD aa Gt h0 27 (.ptr (.box kb) 0)=J (.agg (aM ep X Y C)):=by rw[fR am (by kernel_rfl:cC aa 27=J 4) gk (jR O)];rfl
 have kE1:ae (eg rows ac ep ai text l≠0->oQ rows ac ep ai text l c s d f=(0,eg rows ac ep ai text l)):=⟨λp=>by unfold oQ;rw[av p]⟩;have kE2:ae (eg rows ac ep ai text l=0->oQ rows ac ep ai text l c s d f=By rows ac ai text l c s d f):=⟨λp=>by unfold oQ;rw[aL (by simp[p])]⟩;have kbo:=ae.mk (λp=>@F' rows ac ai ep text l p);have kwt:=ae.mk (λp=>@aup rows ac ai ep text l p);have kf:=ae.mk (aj hx (aj E (aj hc (aj hp hs))));have gk1:=x1.box _ _ gk;have gs1:=x1.box _ _ gs;have iL:=x1.box _ _ gz;have ge1:=x1.box _ _ ge;have DY:=x1.ok MS;have lS:=hs.dB;generalize oQ rows ac ep ai text l c s d f=res at *
 generalize eg rows ac ep ai text l=be at *
 have U7:=(aT.1 ge1).1;clear hx E hc ht hp hs x1 gk gs gz ge MS fQ;refine bL O Tryz.func30 O ?_;rcases post with⟨p,rfl⟩|⟨p,z0,Wt,rfl,tW,zi⟩
 .have kr:=ae.mk (kE1.out p);have stn:bV aa (h1.push [.v (.pointer ag)]) 121 (.ptr (.box (F h1.boxes)) 0) (.v (.pointer ag))=J (h1.push [.v (.pointer ag)]):=lJ O am O O;have ste:bV aa (h1.push [.v (.pointer ag)]) 39 (.ptr (.box k) 0) (.v (.int .i64 be))=J ((h1.push [.v (.pointer ag)]).put k [.v (.int .i64 be)]):=Fh (aN ge1);obtain⟨a1,a2,a3,a4,a5,a6⟩:=yu (Hx:=(h1.push [.v (.pointer ag)]).put k [.v (.int .i64 be)]) (zb:=t) (eb:=k) (x:=.v (.int .i64 0)) (y:=.v (.int .i64 be)) (by rw[cd M];exact aN iL) (dh (by rw[bE];omega)) M 0 be;clear kE1 kE2 kbo kwt gk1 gs1 iL ge1 DY;refine bG @jz @bg ?_;refine iG [(0,1)] jV am (λz9 hp=>?_) ?_
  .simp only[ig]at hp;subst hp;refine jN (x:=.ptr (.box k) 0) (v:=.v (.int .i64 be)) am O O O am (by simp[cE,gF]) ?_ ?_<;>(simp only[dw,cX];exact dV @jz @and_self)
  refine bh @jz ?_;exact⟨_,_,O,by rw[kr.out]⟩
 obtain⟨p1,p2,p3,p4,p5,p6⟩:=kbo.out p;obtain⟨zh,w1,w2,w3⟩:=kwt.out p;have m:=kE2.out p;have N:=aeY p1 p2 p3;subst p;clear kE1 kE2 kbo kwt;obtain⟨z,ue⟩:∃z,h1.push [.ptr (.box z0) 0]=z:=⟨_,O⟩;obtain⟨wb,HG⟩:∃n,F h1.boxes=n:=⟨_,O⟩;have stn:bV aa (h1.push [.v (.pointer ag)]) 121 (.ptr (.box wb) 0) (.ptr (.box z0) 0)=J z:=by rw[<-ue,<-HG];exact as1 z0
 have gk2:z.boxes[kb]?=J (aM ep X Y C):=by rw[<-ue];exact aN gk1
 have gs2:z.boxes[sb]?=J [zd]:=by rw[<-ue];exact aN gs1
 have dV:z.boxes[t]?=J [.v (.int .i64 0)]:=by rw[<-ue];exact aN iL
 have ge2:z.boxes[k]?=J [.v (.int .i64 0)]:=by rw[<-ue];exact aN ge1
 have gw2:z.boxes[wb]?=J [.ptr (.box z0) 0]:=by rw[<-ue,<-HG];exact aK _ _
 have ste:bV aa z 39 (.ptr (.box k) 0) (.v (.int .i64 0))=J z:=by rw[Fh ge2,lH ge2]
 have le2:aD aa Gt z 39 (.ptr (.box k) 0)=J (.v (.int .i64 0)):=dF xY ge2 O;have lw2:aD aa Gt z 121 (.ptr (.box wb) 0)=J (.ptr (.box z0) 0):=dF Ap gw2 O;have W2:tw z z0 ep X Y C T L Wt ((jM (af ai 0) text l:Nat):Int) ((gp (af ai 0) text l:Nat):Int) ai text l:=by rw[<-ue];exact zi.mono (.push _ _)
 have A8:c_ z=V:=by rw[<-ue];exact DY
 obtain⟨b,vr,w4,-⟩:=W2.qB;obtain⟨_,h3,c2,x3,post⟩:=agK z z0 _ L l c [d,f] (.list .tight 1 (ints [d,f])) w4 O kf.out.2.2.2.1 gJ ⟨_,_,O,λ_=>rfl⟩ b8;have bl:=adM d f;have avR:k<wb:=by rw[<-HG];exact U7
 clear w4 zi gk1 gs1 iL ge1 DY U7;have pC:=x3.box _ _ dV;have ge3:=x3.box _ _ ge2;rcases post with⟨p,rfl⟩|⟨x,q1,q2,rfl⟩
 .have kr:=ae.mk (m.trans (alo p));have sq:=zQ (H:=h3) ⟨0,0,0,0⟩;have se:bV aa (h3.push (aB ⟨0,0,0,0⟩)) 39 (.ptr (.box k) 0) (.v (.int .i64 1))=J ((h3.push (aB ⟨0,0,0,0⟩)).put k [.v (.int .i64 1)]):=Fh (aN ge3);obtain⟨a1,a2,a3,a4,a5,a6⟩:=yu (Hx:=(h3.push (aB ⟨0,0,0,0⟩)).put k [.v (.int .i64 1)]) (zb:=t) (eb:=k) (x:=.v (.int .i64 0)) (y:=.v (.int .i64 1)) (by rw[cd M];exact aN pC) (dh (by rw[bE];have:=(aT.1 ge3).1;omega)) M 0 1;clear m p W2 x3 gk2 gs2 dV ge2 gw2 A8 pC ge3 p1 p2 p3 p6 w1 w2 w3 N tW;refine bG @jz @bg ?_;refine iG [(0,1)] jV am (λz9 hp=>?_) ?_
  .simp only[ig]at hp;subst hp;refine jN (x:=.ptr (.box k) 0) (v:=.v (.int .i64 1)) am O O O am (by simp[cE,gF]) ?_ ?_<;>(simp only[dw,cX];exact dV @jz @and_self)
  refine bh @jz ?_;exact⟨_,_,O,by rw[kr.out]⟩
 rw[alp q1 q2]at m;obtain⟨fh,vy⟩:=amA q1;have hm:=zJ p6 x fh;have sq:=zQ (H:=h3) x;obtain⟨h4,Hc⟩:∃h4,h3.push (aB x)=h4:=⟨_,O⟩;obtain⟨pb,M8⟩:∃n,F h3.boxes=n:=⟨_,O⟩;rw[Hc,M8]at sq;have o3:wb<pb:=by have i:=(aT.1 gw2).1;have A:=x3.len;omega
 have X4:Ext z h4:=by rw[<-Hc];exact x3.trans (.push _ _)
 have gk4:=X4.box _ _ gk2;have gs4:=X4.box _ _ gs2;have jn:=X4.box _ _ dV;have ge4:=X4.box _ _ ge2;have gw4:=X4.box _ _ gw2;have gp4:h4.boxes[pb]?=J (aB x):=by rw[<-Hc,<-M8];exact aK _ _
 have W4':=W2.mono X4;have ste4:bV aa h4 39 (.ptr (.box k) 0) (.v (.int .i64 0))=J h4:=by rw[Fh ge4,lH ge4]
 have le4:aD aa Gt h4 39 (.ptr (.box k) 0)=J (.v (.int .i64 0)):=dF xY ge4 O;obtain⟨S,Hd⟩:∃S,(h4.push [.v (.int .i64 0)]).push [.v (.int .i64 0)]=S:=⟨_,O⟩;obtain⟨g,HD⟩:∃n,F h4.boxes=n:=⟨_,O⟩;obtain⟨q,rR⟩:∃n,F (h4.push [.v (.int .i64 0)]).boxes=n:=⟨_,O⟩;have o2:pb<g/\g<q:=by refine⟨?_,by rw[<-HD,<-rR,bE];omega⟩;rw[<-HD];exact(aT.1 gp4).1
 have gsum5:S.boxes[g]?=J [.v (.int .i64 0)]:=by rw[<-Hd,<-HD];exact aN (aK _ _)
 have gib5:S.boxes[q]?=J [.v (.int .i64 0)]:=by rw[<-Hd,<-rR];exact aK _ _
 have X5:Ext h4 S:=by rw[<-Hd];exact(Ext.push _ _).trans (.push _ _)
 have st5a:bV aa S 3 (.ptr (.box g) 0) (.v (.int .i64 0))=J S:=by rw[Fi gsum5,lH gsum5]
 have st5b:bV aa S 3 (.ptr (.box q) 0) (.v (.int .i64 0))=J S:=by rw[Fi gib5,lH gib5]
 have gw5:=X5.box _ _ gw4;have lw5:aD aa Gt S 121 (.ptr (.box wb) 0)=J (.ptr (.box z0) 0):=dF Ap gw5 O;have c3:=ap0 S z0 c;obtain⟨j,yQ⟩:∃j,(S.push [.ptr (.box z0) 0]).push [.v (.int .i64 c)]=j:=⟨_,O⟩;rw[yQ]at c3;have X6:Ext h4 j:=by rw[<-yQ];exact X5.trans ((Ext.push _ _).trans (.push _ _))
 have u:j.boxes[g]?=J [.v (.int .i64 0)]:=by rw[<-yQ];exact aN (aN gsum5)
 have K:j.boxes[q]?=J [.v (.int .i64 0)]:=by rw[<-yQ];exact aN (aN gib5)
 have ga6:j.boxes[S.boxes.length]?=J [.ptr (.box z0) 0]:=by rw[<-yQ];exact aN (aK _ _)
 have gb6:j.boxes[F S.boxes+1]?=J [.v (.int .i64 c)]:=by rw[<-yQ];exact na (by rw[bE])
 have l5:g<F S.boxes/\q<F S.boxes:=⟨(aT.1 gsum5).1,(aT.1 gib5).1⟩;have kall:=ae.mk (aj m (aj vy (aj hm (aj w2 (aj w3 tW)))));have kprog:=ae.mk (aj p1 (aj p3 N));have gk6:=X6.box _ _ gk4;have gs6:=X6.box _ _ gs4;have tS:=X6.box _ _ jn;have ge6:=X6.box _ _ ge4;have gw6:=X6.box _ _ gw4;have gp6:=X6.box _ _ gp4;have W6':=W4'.mono X6;have kst:=ae.mk (aj gk6 (aj gs6 (aj tS (aj ge6 (aj gw6 (aj gp6 W6'))))));have sumv:g<F h4.boxes+1:=by omega
 have kxl:=fh;clear m vy hm w1 w2 w3 tW p1 p3 N gk6 gs6 tS ge6 gw6 gp6 W6' W4' W2 gk4 gs4 jn ge4 gw4 gp4 gk2 gs2 dV ge2 gw2 pC ge3 q1 q2 fh x3 X4 X5 gw5 gsum5 gib5 A8 p2 p6 sumv;refine bG @jz @bg ?_;refine bC.gen λe4 nu rP yX y_=>?_;have f5:e4.get 5=.v (.int .i64 d):=by rw[nu];exact gS
 have f6:e4.get 6=.v (.int .i64 f):=by rw[nu];exact gS
 have f7:e4.get 7=.ptr (.box kb) 0:=by rw[nu];exact gS
 have f11:e4.get 11=.ptr (.box sb) 0:=by rw[nu];exact gS
 have f14:e4.get 14=.ptr (.box t) 0:=by rw[nu];exact gS
 have f15:e4.get 15=.ptr (.box k) 0:=by rw[nu];exact gS
 have f16:e4.get 16=.ptr (.box wb) 0:=by rw[nu];exact gS
 have f17:e4.get 17=.ptr (.box pb) 0:=by rw[nu];exact gS
 have f18:e4.get 18=.ptr (.box g) 0:=by rw[nu];exact gS
 have f19:e4.get 19=.ptr (.box q) 0:=by rw[nu];exact gS
 have f47:e4.get 47=.func (.func 157) [] [.ptr (.box (F S.boxes)) 0,.ptr (.box (F S.boxes+1)) 0]:=by rw[nu];exact gS
 have fd:e4.defers=[]:=by rw[rP];exact gS
 clear nu rP yX y_ c1 c2 c3 l0 lS bl stn ste le2 lw2 sq ste4 le4 st5a st5b lw5 zc zp z3 z32 bx bS A3 Ee Nw Mw MH ue HG Hc M8 Hd HD rR yQ;obtain⟨gk6,gs6,tS,ge6,gw6,gp6,W6⟩:=kst.out;obtain⟨p1,p3,N⟩:=kprog.out;obtain⟨m,vy,hm,w2,w3,tW⟩:=kall.out;have kW:=ae.mk W6;clear kst kprog kall W6;obtain⟨og1,og2,og3,og4⟩:=uw p1;have ng:c_ j=c_ j:=rfl;refine Fa (by rw[AN];exact f47) λrec v1 v2 v3 v4 v5 v6=>?_;have nw:(j.loop rec).loops[j.loops.length]?=J rec:=@Ew j rec;have feed:=ap6 (F j.loops) (F S.boxes) (F S.boxes+1) z0 Y ac c (CL (j.loop rec) (F j.loops) rec g q t k rows ac ai (gT rows ac l) c s)
  (λz7=>CM (F j.loops) rec t k z7/\mc rows ac ai c s=ah) kf.out.2.1 M
  (λw z7 p=>by
   obtain⟨b6,vr6,i,-⟩:=kW.out.qB;refine⟨p.fL _ _ ga6 M M,p.fL _ _ gb6 M M,_,p.fL _ _ i (λe=>?_) (λe=>?_),O⟩
   .rw[e]at i;rw[u]at i;unfold gi at i;simp at i
   .rw[e]at i;rw[K]at i;unfold gi at i;simp at i)
  ?_
  (λw z7 hk hc p=>⟨p.lp,p.fL,by rw[BW hc];exact p.sum,by rw[BW hc];exact p.ix,by rw[BW hc];exact p.le,by rw[BW hc];exact p.same,by rw[BW hc];exact p.ok⟩)
  (j.loop rec) ⟨nw,λa cs ha _ _=>ha,u,K,bY _,by simp[fa],by simp[fa]⟩
 rotate_left 1
 .intro w z7 hk hc p;have xi:=p.lp
  suffices hs:∃b H',W5.round (F j.loops) [.v (.int .i64 (w:Nat))] z7=J (.ret (.v (.bool b)),H')/\if b=V then CL (j.loop rec) (F j.loops) rec g q t k rows ac ai (gT rows ac l) c s (w+1) H' else (CM (F j.loops) rec t k H'/\mc rows ac ai c s=ah) by
   obtain⟨b,H',q1,q2⟩:=hs;cases b with|true=>exact .inl ⟨H',q1,q2⟩|false=>exact .inr ⟨H',q1,q2⟩
  refine apX (Post:=λb H'=>if b=V then CL (j.loop rec) (F j.loops) rec g q t k rows ac ai (gT rows ac l) c s (w+1) H' else (CM (F j.loops) rec t k H'/\mc rows ac ai c s=ah)) xi (by rw[v2];rfl) v5 v6 ?_;have r1:∀zg,(nG (F j.loops) rec [.v (.int .i64 (w:Nat))]).get zg=if 48=zg then .v (.int .i64 (w:Nat)) else e4.get zg:=λzg=>apR v2 v1
  have d1:(nG (F j.loops) rec [.v (.int .i64 (w:Nat))]).defers=[]:=rfl;obtain⟨z8,hK⟩:∃z8,z7.busy (F j.loops) rec=z8:=⟨_,O⟩;have xb:∀a:Nat,z8.boxes[a]?=z7.boxes[a]?:=λa=>by rw[<-hK];rfl
  have yC:z8.loops[j.loops.length]?=J {rec with state:=.busy}:=by rw[<-hK];have:=(aT.1 xi).1;show(z7.loops.set _ _)[_]?=_;simp[this]
  have y:∀(a:Nat) (cs:List U),j.boxes[a]?=J cs->a≠g->a≠q->z8.boxes[a]?=J cs:=λa cs ha n1 n2=>by rw[xb];exact p.fL a cs ha n1 n2
  have A6:=y _ _ gk6 M M;have Be:=y _ _ gs6 M M;have zo:=y _ _ tS M M;have yM:=y _ _ ge6 M M;have Ek:=y _ _ gw6 M M;have Ef:=(xb g).trans p.sum;have A5:=(xb q).trans p.ix;have iE:=p.le;have lib:aD aa Gt z8 3 (.ptr (.box q) 0)=J (.v (.int .i64 (F (fa ac c w):Nat))):=dF dY A5 O;have lsb:aD aa Gt z8 72 (.ptr (.box sb) 0)=J zd:=dF KJ Be O;have lSn:=kf.out.2.2.2.2.dB;obtain⟨a1,a2,a3,a4,a5,a6⟩:=yu zo yM M 0 340;have zr:=(aT.1 zo).1;have G_:=(aT.1 yM).1;have kstop:ae (∀(o:Heap),o.loops[j.loops.length]?=J {rec with state:=.busy}->t<F o.boxes->k<F o.boxes->CM (F j.loops) rec t k (((o.put t [.v (.int .i64 0)]).put k [.v (.int .i64 340)]).fb (F j.loops) {rec with state:=.done,pending:=J .ret})):=⟨λo q1 q2 q3=>by
   have gJ:=(aT.1 q1).1;refine⟨Y_ gJ,?_,?_⟩
   .show((o.put t [.v (.int .i64 0)]).put k [.v (.int .i64 340)]).boxes[t]?=_;rw[cd M];exact dh q2
   .show((o.put t [.v (.int .i64 0)]).put k [.v (.int .i64 340)]).boxes[k]?=_;exact dh (by rw[je];exact q3)⟩
  have kown:=ae.mk (λp=>@amp rows ac ai c s p w hk hc);have kq:=ae.mk p;have kog:=ae.mk y;obtain⟨Q,hQ⟩:∃Q:Xt->Heap->Prop,Q=λzf z=>z.loops[j.loops.length]?=J {rec with state:=.busy}/\
   ((zf=.normal/\CL (j.loop rec) (F j.loops) rec g q t k rows ac ai (gT rows ac l) c s (w+1) (z.fb (F j.loops) rec))∨(zf=.ret/\CM (F j.loops) rec t k (z.fb (F j.loops) {rec with state:=.done,pending:=J .ret})/\mc rows ac ai c s=ah)):=⟨_,O⟩
  have kQs:ae (∀(o:Heap),o.loops[j.loops.length]?=J {rec with state:=.busy}->t<F o.boxes->k<F o.boxes->mc rows ac ai c s=ah->Q .ret ((o.put t [.v (.int .i64 0)]).put k [.v (.int .i64 340)])):=⟨λo i A z3 z4=>by rw[hQ];exact⟨i,.inr ⟨O,kstop.out o i A z3,z4⟩⟩⟩;have kQn:ae (∀(o:Heap),o.loops[j.loops.length]?=J {rec with state:=.busy}->CL (j.loop rec) (F j.loops) rec g q t k rows ac ai (gT rows ac l) c s (w+1) (o.fb (F j.loops) rec)->Q .normal o):=⟨λo i A=>by rw[hQ];exact⟨i,.inl ⟨O,A⟩⟩⟩;rw[hK]
  suffices xk:bC W5 rec.assign (nG (F j.loops) rec [.v (.int .i64 (w:Nat))]) z7 (λzf e1 h1=>zf=.normal/\h1=z7/\bC W5 rec.body e1 z8 (λzf _ z=>Q zf z)) by
   obtain⟨zf,e1,D,i,A,z3,o',e2,tU,z4,z5⟩:=xk;refine⟨zf,e1,D,i,A,z3,o',e2,tU,z4,?_⟩;rw[hQ]at z5;obtain⟨z5,z6⟩:=z5;refine⟨z5,?_⟩;rcases z6 with⟨y1,y2⟩|⟨y1,y2⟩
   .exact .inl ⟨y1,y2⟩
   .exact .inr ⟨y1,y2⟩
  clear hQ kstop;rw[v3,v4];rcases dp (F (fa ac c w)) (F s) with di|oL;rotate_left 1
  .have gr:F (fa ac c w)=F s:=(by omega);have B:mc rows ac ai c s=ah:=by
    cases ho:mc rows ac ai c s with|false=>rfl|true=>obtain⟨z9,i,-⟩:=kown.out ho;rw[List.getElem?_eq_none M]at i;cases i
   have dd:decide (((F (fa ac c w):Nat):Int)=(F s:Int))=V:=bQ M;have pK:=ae.mk (kQs.out z8 yC zr G_ B);clear gr B oL iE p y xi hK xb yC A6 Be zo yM Ek Ef A5 v1 v2 v3 v4 v5 v6 kQs kQn;generalize F (fa ac c w)=ze at *
   refine w9 ?_;exact⟨aX,aX,pK.out⟩
  obtain⟨z9,hp⟩:∃z9,s[(fa ac c w).length]?=J z9:=⟨_,aP di⟩;have dd:decide (((F (fa ac c w):Nat):Int)=(F s:Int))=ah:=b7 M;have ixS:=kf.out.2.2.2.2.ix di;have ls0:=akz (H:=z8) (s:=2) hp;by_cases uj:z9.1=((w:Nat):Int);rotate_left 1
  .have B:mc rows ac ai c s=ah:=by
    cases ho:mc rows ac ai c s with|false=>rfl|true=>obtain⟨p',i,A,-⟩:=kown.out ho;rw[hp]at i;injection i with i;subst i;exact absurd A uj
   have dr:decide (z9.1=((w:Nat):Int))=ah:=b7 uj;have pK:=ae.mk (kQs.out z8 yC zr G_ B);clear B di iE p y xi hK xb yC A6 Be zo yM Ek Ef A5 v1 v2 v3 v4 v5 v6 kQs kQn hp uj;generalize F (fa ac c w)=ze at *
   refine bh @wZ ?_;exact⟨aX,aX,pK.out⟩
  have MI:w<F rows:=by omega
  have dr:decide (((w:Nat):Int)=((w:Nat):Int))=V:=bQ O;obtain⟨pr,pv⟩:=z9;simp only at uj;subst uj;obtain⟨_,o,cf,rfl,xf⟩:=agO z8 X Y C rows ac ai kf.out.1 kf.out.2.1 kf.out.2.2.1 eM ((w:Nat):Int) pv;have lk1:aD aa Gt z8 25 (.ptr (.box kb) 1)=J (.agg [X,Y]):=by rw[fR Ao (by kernel_rfl:cC aa 25=J 2) A6 (jR O)];rfl
  have lk3:aD aa Gt z8 23 (.ptr (.box kb) 3)=J C:=dF mW A6 O;have ls81:=aky (H:=z8) (s:=2) hp;have Dw:=xf.loop _ _ yC;have oN:=xf.box _ _ zo;have qk:=xf.box _ _ yM;rcases agP (v:=pv) N MI with⟨so,fo⟩|⟨so,fo⟩;rotate_left 1
  .have B:mc rows ac ai c s=ah:=by
    cases ho:mc rows ac ai c s with|false=>rfl|true=>obtain⟨p',i,A,z3⟩:=kown.out ho;rw[hp]at i;injection i with i;subst i;rw[so]at z3;cases z3
   have pK:=ae.mk (kQs.out o Dw (aT.1 oN).1 (aT.1 qk).1 B);obtain⟨t1,t2,t3,t4,t5,t6⟩:=yu oN qk M 0 340;clear B di iE p y xi hK xb yC A6 Be zo yM Ek Ef A5 v1 v2 v3 v4 v5 v6 kQs kQn hp a1 a2 a3 a4 a5 a6 xf oN qk Dw so;unfold I at cf;rcases fo with fo|fo
   .rw[fo]at cf;clear fo;generalize F (fa ac c w)=ze at *
    refine cK @wZ @gX @iU ?_;refine⟨aX,aX,?_⟩;refine du jV am ?_;refine cK @wZ @gX @iU ?_;exact pK.out
   .rw[fo]at cf;clear fo;generalize F (fa ac c w)=ze at *
    refine cK @wZ @gX @iU ?_;refine⟨aX,aX,?_⟩;refine du jV am ?_;refine cK @wZ @gX @iU ?_;exact pK.out
  rw[fo]at cf;have oM:=xf.box _ _ Ek;have vw:=xf.box _ _ Be;have HC:=xf.box _ _ Ef;have He:=xf.box _ _ A5;obtain⟨b6,vr6,i,-⟩:=kW.out.qB;have jc:z0≠g:=λe=>by rw[e]at i;rw[u]at i;unfold gi at i;simp at i
  have yI:z0≠q:=λe=>by rw[e]at i;rw[K]at i;unfold gi at i;simp at i
  have UI:=xf.box _ _ (y _ _ i jc yI);have lwb:aD aa Gt o 121 (.ptr (.box wb) 0)=J (.ptr (.box z0) 0):=dF Ap oM O;have lWt:aD aa Gt o 23 (.ptr (.box z0) 6)=J Wt:=dF mW UI O;have ixW:=tW.ix (i:=w) (by rw[w2,w3];exact MI);have lWk:=eS (H:=o) (l:=gT rows ac l) (i:=w) (s:=1) (by rw[w2,w3];exact MI);have lsb2:aD aa Gt o 72 (.ptr (.box sb) 0)=J zd:=dF KJ vw O;have lib2:aD aa Gt o 3 (.ptr (.box q) 0)=J (.v (.int .i64 (F (fa ac c w):Nat))):=dF dY He O;have lsum2:aD aa Gt o 3 (.ptr (.box g) 0)=J (.v (.int .i64 (lK (gT rows ac l) (s.take (F (fa ac c w)))))):=dF dY HC O;have ls1:=akA (H:=o) (s:=2) hp;have cm:=N_ (af (gT rows ac l) w) pv;have ca:=F4 (lK (gT rows ac l) (s.take (F (fa ac c w)))) (cS (af (gT rows ac l) w) pv);have gZ:=auD (y:=gT rows ac l) hp;simp only[fD]at gZ;rw[<-gZ]at ca;have stS:=Fi (n:=lK (gT rows ac l) (s.take (F (fa ac c w)+1))) HC;have MD:(o.put g [.v (.int .i64 (lK (gT rows ac l) (s.take (F (fa ac c w)+1))))]).boxes[q]?=J [.v (.int .i64 (F (fa ac c w):Nat))]:=by rw[cd M];exact He
  have lib3:aD aa Gt (o.put g [.v (.int .i64 (lK (gT rows ac l) (s.take (F (fa ac c w)+1))))]) 3 (.ptr (.box q) 0)=J (.v (.int .i64 (F (fa ac c w):Nat))):=dF dY MD O;have stI:=Fi (n:=((F (fa ac c w)+1:Nat):Int)) MD;have ail:((F (fa ac c w)+1:Nat):Int)=(F (fa ac c w):Int)+1:=by omega
  have pK:=ae.mk (kQn.out ((o.put g [.v (.int .i64 (lK (gT rows ac l) (s.take (F (fa ac c w)+1))))]).put q [.v (.int .i64 ((F (fa ac c w)+1:Nat):Int))]) Dw (by
   have gJ:=(aT.1 Dw).1;have ai3:=(aT.1 HC).1;have vo:=(aT.1 He).1;have qm:F (fa ac c (w+1))=F (fa ac c w)+1:=(by rw[IV hc];simp);refine⟨Y_ gJ,λa cs ha n1 n2=>?_,?_,?_,by omega,?_,?_⟩
   .show((o.put g _).put q _).boxes[a]?=_;rw[cd n2,cd n1];exact xf.box _ _ (by rw[xb];exact p.fL a cs ha n1 n2)
   .show((o.put g _).put q _).boxes[g]?=_;rw[cd M,qm];exact dh ai3
   .show((o.put g _).put q _).boxes[q]?=_;rw[qm];exact dh (by rw[je];exact vo)
   .rw[qm,gg hp,jQ,p.same,IV hc,jQ];rfl
   .rw[qm,gg hp,sZ,p.ok,mL];simp[so]))
  clear iE p y xi hK xb yC A6 Be zo yM Ek Ef A5 v1 v2 v3 v4 v5 v6 kQs kQn hp a1 a2 a3 a4 a5 a6 xf oN qk Dw so fo oM vw HC He MD UI i gZ w2 w3;unfold I at *
  generalize F (fa ac c w)=ze at *
  generalize lK (gT rows ac l) (s.take ze)=sv at *
  generalize lK (gT rows ac l) (s.take (ze+1))=sv2 at *
  generalize cS (af (gT rows ac l) w) pv=mv at *
  generalize af (gT rows ac l) w=wv at *
  rw[ail]at stI pK;refine cK @wZ @gX @iU ?_;refine⟨aX,aX,?_⟩;refine du jV am ?_;refine bA @wZ @Tt @gX @iU ?_;refine du jV am ?_;refine cK @wZ @Tt @pz ?_;exact pK.out
 .obtain⟨Hf,cF,hF⟩:=feed;rcases hF with p|⟨p,B⟩;rotate_left 1
  .have Ea:res=(0,340):=(by rw[m,av B]);have kr:=ae.mk Ea;refine⟨_,_,cF,_,p.lp,(aY:LoopState.done≠ .busy),.inr ⟨O,?_⟩⟩;have qz:(Hf.fb (F j.loops) {rec with state:=.exhausted,pending:=J .ret}).boxes[t]?=J [.v (.int .i64 0)]:=p.z;have qe:(Hf.fb (F j.loops) {rec with state:=.exhausted,pending:=J .ret}).boxes[k]?=J [.v (.int .i64 340)]:=p.e;have lz:aD aa Gt (Hf.fb (F j.loops) {rec with state:=.exhausted,pending:=J .ret}) 3 (.ptr (.box t) 0)=J (.v (.int .i64 0)):=dF dY qz O;have le:aD aa Gt (Hf.fb (F j.loops) {rec with state:=.exhausted,pending:=J .ret}) 39 (.ptr (.box k) 0)=J (.v (.int .i64 340)):=dF xY qe O;clear cF p B m Ea kf kW gk6 gs6 tS ge6 gw6 gp6 ga6 gb6 u K hm w2 w3 tW p1 p3 N og1 og2 og3 og4 nw v1 v2 v3 v4 v5 v6 qz qe vy;refine bh @jz ?_;exact⟨_,_,O,by rw[kr.out]⟩
  refine⟨_,_,cF,_,p.lp,by rw[v5];decide,.inl ⟨v6,?_⟩⟩;obtain⟨HF,AW⟩:∃HF,Hf.fb (F j.loops) {rec with state:=.exhausted}=HF:=⟨_,O⟩;have qi:∀a:Nat,HF.boxes[a]?=Hf.boxes[a]?:=λa=>by rw[<-AW];rfl
  have y:∀(a:Nat) (cs:List U),j.boxes[a]?=J cs->a≠g->a≠q->HF.boxes[a]?=J cs:=λa cs ha n1 n2=>by rw[qi];exact p.fL a cs ha n1 n2
  have Ec:=y _ _ gs6 M M;have zn:=y _ _ tS M M;have yL:=y _ _ ge6 M M;have Bi:=y _ _ gw6 M M;have yY:=y _ _ gp6 M M;have H:=(qi g).trans p.sum;have A4:=(qi q).trans p.ix;have iE:=p.le;have Z:=p.same;have yU:=p.ok;rw[YB]at H A4 iE Z yU;rw[AW];have lib:aD aa Gt HF 3 (.ptr (.box q) 0)=J (.v (.int .i64 (F (zN ac c):Nat))):=dF dY A4 O;have lsb:aD aa Gt HF 72 (.ptr (.box sb) 0)=J zd:=dF KJ Ec O;have lSn:=kf.out.2.2.2.2.dB;rcases dp (F (zN ac c)) (F s) with di|oL
  .have B:mc rows ac ai c s=ah:=by
    cases ho:mc rows ac ai c s with|false=>rfl|true=>unfold mc at ho;rw[bm,decide_eq_true_eq]at ho;have:=congrArg F ho.1;rw[br,br]at this;omega
   have Ea:res=(0,340):=(by rw[m,av B]);have kr:=ae.mk Ea;obtain⟨a1,a2,a3,a4,a5,a6⟩:=yu zn yL M 0 340;have dd:decide (((F (zN ac c):Nat):Int)<(F s:Int))=V:=bQ M;clear cF p B m Ea kf kW gk6 gs6 tS ge6 gw6 gp6 ga6 gb6 u K hm w2 w3 tW p1 p3 N og1 og2 og3 og4 nw v1 v2 v3 v4 v5 v6 vy AW qi y Ec zn yL Bi yY H A4 iE Z yU di;refine bh @jz ?_;exact⟨_,_,O,by rw[kr.out]⟩
  have fP:F (zN ac c)=F s:=by omega
  have HJ:mc rows ac ai c s=V:=by unfold mc;rw[fP,fK]at Z yU;rw[Z,yU];simp
  have dd:decide (((F (zN ac c):Nat):Int)<(F s:Int))=ah:=b7 M;rw[fP,fK]at H;rw[aL (by rw[HJ];simp)]at m;have c8:=OA 4 d;have c9:=OA 4 f;have hG:(4:Int).toNat=Gn:=rfl;rw[w8 wR,hG]at c8 c9;have lpD:aD aa Gt HF 3 (.ptr (.box pb) 2)=J (.v (.int .i64 x.d)):=dF dY yY O;have lpE:aD aa Gt HF 3 (.ptr (.box pb) 3)=J (.v (.int .i64 x.e)):=dF dY yY O;obtain⟨a1,a2,a3,a4,a5,a6⟩:=yu zn yL M 0 420;by_cases ii:((ek Gn d:Nat):Int)=x.d;rotate_left 1
  .have kr:=ae.mk (m.trans (av (.inl ii)));have dq:decide (((ek Gn d:Nat):Int)=x.d)=ah:=b7 ii;clear cF p HJ m kf kW gk6 gs6 tS ge6 gw6 gp6 ga6 gb6 u K hm w2 w3 tW p1 p3 N og1 og2 og3 og4 nw v1 v2 v3 v4 v5 v6 vy AW qi y Ec zn yL Bi yY H A4 iE Z yU oL fP hG ii;generalize ((ek Gn d:Nat):Int)=pd at *
   unfold I at *
   refine bh @jz ?_;refine iG [(7,9)] jV am (λz9 hp=>?_) ?_
   .simp only[ig]at hp;subst hp;refine asC am O O am ?_ ?_
    .simp only[dw,cX];refine bG @jz @jb ?_;refine⟨by trivial,?_⟩;simp[eE,Jo]
    .simp only[dw,cX];exact dV @jz @jb
   refine bG @jz @jb ?_;exact⟨_,_,O,by rw[kr.out]⟩
  have dq:decide (((ek Gn d:Nat):Int)=x.d)=V:=bQ ii;by_cases jw:((ek Gn f:Nat):Int)=x.e;rotate_left 1
  .have kr:=ae.mk (m.trans (av (.inr jw)));have dq2:decide (((ek Gn f:Nat):Int)=x.e)=ah:=b7 jw;clear cF p HJ m kf kW gk6 gs6 tS ge6 gw6 gp6 ga6 gb6 u K hm w2 w3 tW p1 p3 N og1 og2 og3 og4 nw v1 v2 v3 v4 v5 v6 vy AW qi y Ec zn yL Bi yY H A4 iE Z yU oL fP hG ii jw;generalize ((ek Gn d:Nat):Int)=pd at *
   generalize ((ek Gn f:Nat):Int)=pf at *
   unfold I at *
   refine bh @jz ?_;refine iG [(7,9)] jV am (λz9 hp=>?_) ?_
   .simp only[ig]at hp;subst hp;refine Zp (x:=.ptr (.box pb) 3) (v:=.v (.int .i64 x.e)) am O O am (by simp[cE,gF]) ?_ ?_
    .simp only[dw,cX];refine bG @jz @jb ?_;refine⟨by trivial,?_,by trivial,by trivial⟩;simp[eE,Jo]
    .simp only[dw,cX];exact pC @jz @jb @and_self
   refine bG @jz @jb ?_;exact⟨_,_,O,by rw[kr.out]⟩
  have dq2:decide (((ek Gn f:Nat):Int)=x.e)=V:=bQ jw;rw[aL (by simp[ii,jw])]at m;have kr:=ae.mk m;obtain⟨b6,vr6,i,A,z3⟩:=kW.out.qB;have jc:z0≠g:=λe=>by rw[e]at i;rw[u]at i;unfold gi at i;simp at i
  have yI:z0≠q:=λe=>by rw[e]at i;rw[K]at i;unfold gi at i;simp at i
  have pI:=z3.1;have mD:=lX z3.four;rw[br]at pI;have aiD:0<F l:=Kb.2 (λe=>by rw[e]at kxl;simp at kxl);have Ml:b6≠g:=λe=>by rw[e]at A;rw[u]at A;injection A with A;rw[<-A]at mD;simp at mD;omega
  have UE:b6≠q:=λe=>by rw[e]at A;rw[K]at A;injection A with A;rw[<-A]at mD;simp at mD;omega
  have WF:tw HF z0 ep X Y C T L Wt ((jM (af ai 0) text l:Nat):Int) ((gp (af ai 0) text l:Nat):Int) ai text l:=
   ⟨⟨b6,vr6,y _ _ i jc yI,y _ _ A Ml UE,z3⟩,kW.out.Lq,kW.out.pos,kW.out.c0,kW.out.zU,kW.out.tl,kW.out.ll⟩
  obtain⟨_,_,cb,rfl,rfl⟩:=K5 HF z0 ep X Y C T L Wt _ _ ai text l WF x ⟨M,by omega⟩;rw[vy]at cb;have Mm:=y _ _ i jc yI;have lwb:aD aa Gt HF 121 (.ptr (.box wb) 0)=J (.ptr (.box z0) 0):=dF Ap Bi O;have lwb2:aD aa Gt (HF.push (aB x)) 121 (.ptr (.box wb) 0)=J (.ptr (.box z0) 0):=dF Ap (aN Bi) O;have lch:aD aa Gt HF 3 (.ptr (.box z0) 12)=J (.v (.int .i64 ((gp (af ai 0) text l:Nat):Int))):=dF dY Mm O;have lch2:aD aa Gt (HF.push (aB x)) 3 (.ptr (.box z0) 12)=J (.v (.int .i64 ((gp (af ai 0) text l:Nat):Int))):=dF dY (aN Mm) O;have lsu:aD aa Gt HF 3 (.ptr (.box g) 0)=J (.v (.int .i64 (lK (gT rows ac l) s))):=dF dY H O;have lsu2:aD aa Gt (HF.push (aB x)) 3 (.ptr (.box g) 0)=J (.v (.int .i64 (lK (gT rows ac l) s))):=dF dY (aN H) O;have lpp:=jZ yY;have m1:=N_ f ((i' (af ai 0) text l c:Nat):Int);have m2:=F4 d (cS f ((i' (af ai 0) text l c:Nat):Int));have m3:=N_ ((gp (af ai 0) text l:Nat):Int) (lK (gT rows ac l) s);have m4:=F4 (dx d (cS f ((i' (af ai 0) text l c:Nat):Int))) (cS ((gp (af ai 0) text l:Nat):Int) (lK (gT rows ac l) s));obtain⟨t1,t2,t3,t4,t5,t6⟩:=yu (Hx:=HF.push (aB x)) (aN zn) (aN yL) M (dx (dx d (cS f ((i' (af ai 0) text l c:Nat):Int))) (cS ((gp (af ai 0) text l:Nat):Int) (lK (gT rows ac l) s))) 0;clear cF p HJ m kf kW gk6 gs6 tS ge6 gw6 gp6 ga6 gb6 u K hm w2 w3 tW p1 p3 N og1 og2 og3 og4 nw v1 v2 v3 v4 v5 v6 vy AW qi y Ec zn yL Bi yY H A4 iE Z yU oL fP hG ii jw a1 a2 a3 a4 a5 a6 WF Mm i A z3 jc yI Ml UE pI mD aiD kxl;generalize dx (dx d (cS f ((i' (af ai 0) text l c:Nat):Int))) (cS ((gp (af ai 0) text l:Nat):Int) (lK (gT rows ac l) s))=zz at *
  generalize dx d (cS f ((i' (af ai 0) text l c:Nat):Int))=za at *
  generalize cS f ((i' (af ai 0) text l c:Nat):Int)=zm at *
  generalize cS ((gp (af ai 0) text l:Nat):Int) (lK (gT rows ac l) s)=zs at *
  generalize ((i' (af ai 0) text l c:Nat):Int)=bv at *
  generalize ((gp (af ai 0) text l:Nat):Int)=chv at *
  generalize lK (gT rows ac l) s=wv at *
  generalize ((ek Gn d:Nat):Int)=pd at *
  generalize ((ek Gn f:Nat):Int)=pf at *
  unfold I at *
  refine bh @jz ?_;refine iG [(7,9)] jV am (λz9 hp=>?_) ?_
  .simp only[ig]at hp;subst hp;refine Zp (x:=.ptr (.box pb) 3) (v:=.v (.int .i64 x.e)) am O O am (by simp[cE,gF]) ?_ ?_
   .simp only[dw,cX];refine bG @jz @jb ?_;refine⟨by trivial,?_,by trivial,by trivial⟩;simp[eE,Jo]
   .simp only[dw,cX];exact pC @jz @jb @and_self
  refine bG @jz @jb ?_;refine iG [(4,7),(4,10),(4,11)] jV am (λz9 hp=>?_) ?_
  .simp only[gU,qJ,or_false]at hp;rcases hp with rfl|rfl|rfl
   .refine kj (x:=.ptr (.box wb) 0) (v:=.ptr (.box z0) 0) am O O O am (ary z0 0) ?_ ?_<;>(simp only[dw,cX];exact pC @jz @jb @and_self)
   .refine kj (x:=.ptr (.box z0) 12) (v:=.v (.int .i64 chv)) am O O O am (by simp[cE,gF]) ?_ ?_<;>(simp only[dw,cX];exact jn @jz @jb @pz @and_self)
   .refine kj (x:=.ptr (.box g) 0) (v:=.v (.int .i64 wv)) am O O O am (by simp[cE,gF]) ?_ ?_<;>(simp only[dw,cX];exact jn @jz @jb @pz @and_self)
  refine cK @jz @jb @pz ?_;exact⟨_,_,O,by rw[kr.out]⟩
def E0:Tryz.f175.results.toList=[.tmp 4]:=by kernel_rfl
def xK(a b:Tok):Prop:=∀c,a=.free c->b≠ .free c
def xK.symm{a b}(h:xK a b):xK b a:=λf d c=>h f c d
def nQ(ts:List Tok)(rows:List (List Int)):List U:=List.zipWith (λd c=>U.list d 1 (ints c)) ts rows
def oI(rows:List (List Int))(n:Nat):List (List Int):=(bZ n).map λc=>rows.map λd=>af d c
def afh(rows)(k):oI rows (k+1)=oI rows k++[rows.map λr=>af r k]:=by unfold oI;rw[ku,jQ];rfl
def S4(rows)(k):F (oI rows k)=k:=by unfold oI;simp
structure tv(h H:Heap)(x:U)(ts:List Tok)(rows:List (List Int))(t:Tok):Prop where
 can:∀u∈t::ts,db h.tn H u
 Dd:(t::ts).Pairwise xK
 len:ts.length=rows.length
 ok:c_ H=V
 ext:Ext h H
 tab:(rows=[]/\x=.list .tight 1 [])∨(rows≠[]/\∃b,x=.arr b 0 rows.length rows.length/\H.boxes[b]?=J (nQ ts rows)/\h.boxes.length<=b)
def aeK{ts}{rows}(h:F ts=F rows):F (nQ ts rows)=F rows:=by unfold nQ;rw[List.length_zipWith,h,Nat.min_self]
def aeL{ts}{rows}(h:F ts=F rows)(t)(r):nQ (ts++[t]) (rows++[r])=nQ ts rows++[.list t 1 (ints r)]:=by unfold nQ;rw[List.zipWith_append h];rfl
def Sr{n0}{h}{k}(c:db n0 h k)(f:c_ h=V)(d:n0<=h.tn):db n0 (h.app k) (.free h.tn):=(Grown.one c f d).can
def acE{n0}{h}{k}(d:db n0 h k):xK (.free h.tn) k:=by
 rintro i g rfl;injection g with g;rcases d with c|c|⟨n,c,-,f⟩
 .cases c
 .cases c
 .injection c with c;have:=qN f;omega
def tv.app{h H}{x}{ts}{rows}{t}(w:tv h H x ts rows t):tv h (H.app t) x ts rows (.free H.tn):=by
 have hc:=w.can t gH;have d:=CI.1 w.Dd;refine⟨λf c=>?_,CI.2 ⟨λf c=>acE (w.can f (gx _ c)),d.2⟩,w.len,C0 w.ok hc,(Grown.one hc w.ok w.ext.tn).ext w.ext (aV _),?_⟩
 .rcases gU.1 c with rfl|c
  .exact Sr hc w.ok w.ext.tn
  .exact C8 (w.can f (gx _ c)) (d.1 f c)
 .rw[dS];exact w.tab
def tv.close{h H}{x}{ts}{rows}{t}(w:tv h H x ts rows t)(r)(K:F rows<1000000):
 ∃x2 d,ml aa H #[22,22] x (.list .tight 1 [[.list t 1 (ints r)]])=J (x2,d)/\tv h d x2 (ts++[t]) (rows++[r]) .tight:=by
 obtain⟨N,z,f,D,A⟩:=HN;have E:=jt (M:F rows+1<=1000000) D;have s:=CI.1 w.Dd;have j:(Tok.tight::(ts++[t])).Pairwise xK:=by refine CI.2 ⟨λg _ S p=>(by cases p),List.pairwise_append.2 ⟨s.2,by simp,λa B b o=>?_⟩⟩;rw[ig]at o;subst o;exact(s.1 a B).symm
 have i:∀d:Heap,(∀g,db h.tn H g->db h.tn d g)->∀g∈Tok.tight::(ts++[t]),db h.tn d g:=by
  intro d p g c;rcases gU.1 c with rfl|c
  .exact .inr (.inl O)
  .rcases List.mem_append.1 c with c|c
   .exact p g (w.can g (gx _ c))
   .rw[ig]at c;exact p g (w.can g (by rw[c];exact gH))
 have m:F (ts++[t])=F (rows++[r]):=by simp[w.len]
 rcases w.tab with⟨rfl,rfl⟩|⟨v,b,rfl,o,u⟩
 .have y:ts=[]:=List.eq_nil_of_length_eq_zero w.len;subst y;have:=zS (h:=H) (k:=.tight) (sz:=1) (es:=[]) (new:=[[.list t 1 (ints r)]]) (x:=.list .tight 1 [[.list t 1 (ints r)]]) gy gy z M (by rw[f];exact A) b8 (by simp;omega) b8 (.inl f.symm) (.inr O) (by rw[f];rfl);exact⟨_,_,this,i _ λg c=>c,j,m,w.ok,w.ext.trans (.push _ _),.inr ⟨b8,H.boxes.length,O,aK _ _,w.ext.len⟩⟩
 .have q:0<F rows:=Kb.2 v;have eM:=aeK w.len;have:=Jx (h:=H) (b:=b) (len:=rows.length) (cs:=nQ ts rows) (new:=[[.list t 1 (ints r)]]) (x:=.list .tight 1 [[.list t 1 (ints r)]]) gy gy z M (by rw[f];exact A) b8 (by simp;omega) (by simp;omega) o q (by rw[f,eM];omega) (by rw[f];rfl);refine⟨_,_,this,i _ λg c=>c,j,m,?_,(w.ext.fI u _).trans (.push _ _),.inr ⟨b8,H.boxes.length,by simp,?_,w.ext.len⟩⟩
  .exact w.ok
  .rw[aeL w.len];exact na (by rw[je])
def atT(h:Heap)(fQ:c_ h=V)(x:U)(rows:List (List Int))(n:Nat)(hx:RL x rows)(A:∀r∈rows,F r=n)(p:F rows<=1000)(hn:n<=1000):
 ∃r h',W5.call 175 [x,I (n:Nat)] h=J (r,h')/\∃X ts,r=.ret X/\tv h h' X ts (oI rows n) .tight:=by
 obtain⟨t,v,u,rfl,m,fh,z⟩:=hx;have kx:=ae.mk (aj m (aj z A));clear m z A;have u23:=cU;have u22:=gy;have z23:=hw;have z3:=eX;have HI:F (u.map λa=>[a])=F rows:=by rw[br];exact fh
 have B:fy aa 22 0 []=J (.list .tight 1 []):=by kernel_rfl
 have b1:fy aa 23 0 []=J (.list .tight 1 []):=by kernel_rfl
 have T0:tv h h (.list .tight 1 []) [] (oI rows 0) .tight:=⟨λz5 hu=>.inr (.inl (by simpa using hu)),by simp,O,fQ,.refl _,.inl ⟨O,O⟩⟩;unfold I;refine bL O Tryz.func175 O ?_;refine bh @E0 ?_;refine b_ (λz1 e z0=>∃(c:Nat) (X:U) (ts:List Tok),c<=n/\z1=n-c/\ae (tv h z0 X ts (oI rows c) .tight)/\e.get 0=.list t v (u.map λa=>[a])/\e.get 1=.v (.int .i64 (n:Nat))/\e.get 5=X/\e.get 6=.v (.int .i64 (c:Nat))/\e.defers=[]) ?_ n _ _ ?_;rotate_left 1
 .refine⟨0,_,[],bY _,O,⟨T0⟩,?_,?_,?_,?_,?_⟩<;>first|(simp only[gW,reduceIte,aH,aC,B];done)|(simp only[gW,reduceIte,aH,aC,B]<;>rfl)
 clear T0;rintro z1 e z0 ⟨c,X,ts,hk,rfl,f,E,H,K,N,Z⟩;by_cases hkn:c<n;rotate_left 1
 .have:c=n:=by omega
  subst this;refine bh @E0 ?_;exact⟨_,_,O,X,ts,O,f.out⟩
 have hkI:(c:Int)<(n:Int):=by omega
 refine bh @E0 ?_;refine bC.gen λi d w eu dn=>?_;have f0:i.get 0=.list t v (u.map λa=>[a]):=by rw[d];simp only[gW,reduceIte,aH,aC];exact E
 have f1:i.get 1=.v (.int .i64 (n:Nat)):=by rw[d];simp only[gW,reduceIte,aH,aC];exact H
 have f5:i.get 5=X:=by rw[d];simp only[gW,reduceIte,aH,aC];exact K
 have f6:i.get 6=.v (.int .i64 (c:Nat)):=by rw[d];simp only[gW,reduceIte,aH,aC];exact N
 have f7:i.get 7=.list .tight 1 (ints []):=by rw[d];exact gR
 have f8:i.get 8=.v (.int .i64 (0:Nat)):=by rw[d];exact gR
 have fd:i.defers=[]:=by rw[w];simp only[gW,reduceIte,aH,aC];exact Z
 clear d w eu dn E H K N Z B b1;refine b_ (λz1 e z0=>∃(g:Nat) (z2:Tok),g<=F rows/\z1=F rows-g/\ae (tv h z0 X ts (oI rows c) z2)/\e.get 0=.list t v (u.map λa=>[a])/\e.get 1=.v (.int .i64 (n:Nat))/\e.get 5=X/\e.get 6=.v (.int .i64 (c:Nat))/\e.get 7=.list z2 1 (ints ((rows.take g).map λr=>af r c))/\e.get 8=.v (.int .i64 (g:Nat))/\e.defers=[]) ?_ (F rows) _ _ ?_;rotate_left 1
 .exact⟨0,.tight,bY _,O,f,f0,f1,f5,f6,f7,f8,fd⟩
 clear f0 f1 f5 f6 f7 f8 fd f;rintro z1 e2 H2 ⟨g,z2,hi,rfl,f,E,H,K,N,g7,g8,Z⟩;by_cases o:g<F rows
 .obtain⟨a,S⟩:∃a,u[g]?=J a:=⟨_,aP M⟩;obtain⟨r,p⟩:∃r,rows[g]?=J r:=⟨_,aP o⟩;have m:v=1:=kx.out.1 (by intro z4;rw[z4]at o;simp at o);subst m;obtain⟨ka,sa,rfl,y⟩:=kx.out.2.1 g a r S p;have j:=kx.out.2.2 r (cT p);have Nh:sa=1:=y (by intro z4;rw[z4]at j;simp at j;omega);subst Nh;have l1:=iX (H:=H2) (s:=1) S;have l2:=eS (H:=H2) (l:=r) (i:=c) (s:=1) M;have Bb:F (ints r)=n:=by rw[cG];exact j
  have bl:=qO (af r c);have ap:=wI (x:=af r c) (es:=(rows.take g).map λr=>af r c) (sz:=1) (show(F ((rows.take g).map λr=>af r c))<1099511627776 by rw[br,cR];omega) (.inl O) (f.out.can z2 gH);have k:((rows.take g).map λr=>af r c)++[af r c]=(rows.take (g+1)).map λr=>af r c:=by rw[gg p,jQ];rfl
  rw[k]at ap;have q:=ae.mk f.out.app;have Hg:(g:Int)<(F rows:Int):=by omega
  clear S p y j k f;refine bG @E0 @aU ?_;exact⟨F rows-(g+1),by omega,g+1,_,by omega,O,q,by simp⟩
 .have gr:g=F rows:=by omega
  subst gr;rw[fK]at g7;obtain⟨X2,H3,c1,D⟩:=f.out.close (rows.map λr=>af r c) (by rw[S4];omega);rw[<-afh]at D;have q:=ae.mk D;have bl:=Ga (.list z2 1 (ints (rows.map λr=>af r c))) O;clear D f;refine bh @E0 ?_;exact⟨n-(c+1),by omega,c+1,X2,_,by omega,O,q,by simp⟩
def vZ:Tryz.f176.results.toList=[.tmp 4,.tmp 5]:=by kernel_rfl
def pY(H:Heap)(b:Nat)(t:List (List Int)):Prop:=∃c:List U,H.boxes[b]?=J c/\F c=F t/\∀(d:Nat) a r,c[d]?=J a->t[d]?=J r->IL a r
def pY.mono{H H'}{b}{t}(T:pY H b t)(m:∀cs,H.boxes[b]?=J cs->H'.boxes[b]?=J cs):pY H' b t:=by obtain⟨cs,c,d⟩:=T;exact⟨cs,m cs c,d⟩
def Bq{b len aS n}{k}(c:n<len):dK aa 22 (.arr b 0 len aS) (.v (.int k (n:Nat)))=J (.ptr (.box b) n):=by rw[Bm gy hw M M,fD,Nat.mul_one,oj]
def ZA{H}{b k s n:Nat}{t}{cs}{es}(d:H.boxes[b]?=J cs)(c:k<F cs):bV aa H 23 (.ptr (.box b) k) (.list t s es)=J (H.put b (cs.set k (.list t s es))):=by rw[fC (xs:=[U.list t s es]) O hw d O c];congr 2;unfold dC;rw[List.set_eq_take_append_cons_drop,av c];simp
def pY.load{H}{b i}{t}{r}(T:pY H b t)(d:t[i]?=J r):∃k s,aD aa Gt H 23 (.ptr (.box b) i)=J (.list k s (ints r))/\(r≠[]->s=1):=by obtain⟨f,g,j,m⟩:=T;obtain⟨a,c⟩:∃a,f[i]?=J a:=⟨_,aP (by rw[j];exact(aT.1 d).1)⟩;obtain⟨k,s,rfl,o⟩:=m i a r c d;exact⟨k,s,qs g c,o⟩
def pY.store{H}{b i}{t}{r}{k}{s}(T:pY H b t)(hi:i<F t)(m:r≠[]->s=1):∃H',bV aa H 23 (.ptr (.box b) i) (.list k s (ints r))=J H'/\pY H' b (t.set i r)/\∃cs,H'=H.put b cs:=by
 obtain⟨cs,f,g,j⟩:=T;refine⟨_,ZA (n:=0) f M,⟨_,dh (aT.1 f).1,by rw[nr,nr,g],λo a p c d=>?_⟩,_,O⟩;rw[lM]at c d;by_cases e:i=o
 .subst e;rw[av O,av M]at c;rw[av O,av hi]at d;injection c with c;injection d with d;subst c;subst d;exact⟨k,s,O,m⟩
 .rw[aL e]at c d;exact j o a p c d
def rf(c:Nat)(own:List Int)(j:Nat)(t:List (List Int)):List (List Int):=t.mapIdx λd a=>if d<j then g_ (af a c) a own else a
def NY(c)(own)(j)(t):F (rf c own j t)=F t:=by unfold rf;simp
def Bu(c)(own)(j)(t)(i):(rf c own j t)[i]?=t[i]?.map λa=>if i<j then g_ (af a c) a own else a:=by unfold rf;rw[List.getElem?_mapIdx]
def akO(c)(own)(t):rf c own 0 t=t:=by apply oh;intro d;rw[Bu];cases t[d]?<;>simp
def akL(c)(own)(t):rf c own (F t) t=t.map λa=>g_ (af a c) a own:=by
 apply oh;intro d;rw[Bu,ec];cases h:t[d]? with|none=>rfl|some a=>rw[fF,fF,av (aT.1 h).1]
def akM{c}{own}{j}{t}:(rf c own j t)[j]?=t[j]?:=by rw[Bu];cases t[j]?<;>simp
def akN{c}{own a}{j}{t}(d:t[j]?=J a):(rf c own j t).set j (g_ (af a c) a own)=rf c own (j+1) t:=by
 apply oh;intro g;have f:=(aT.1 d).1;rw[lM,NY];by_cases e:j=g
 .subst e;rw[av O,av f,Bu,d,fF,av (Nat.lt_succ_self _)]
 .rw[aL e,Bu,Bu];congr 1;funext a;by_cases h:g<j
  .rw[av h,av M]
  .rw[aL h,aL M]
def jq(t:List (List Int))(c:Nat):List (List Int) × List Nat:=(bZ c).foldl mj (t,[])
def Yp(t)(c):jq t (c+1)=mj (jq t c) c:=by unfold jq;rw[ku,oD];rfl
def OS{t}{w}(j:∀a∈t,F a=w)(k:∀a∈t,∀x∈a,okF x):∀c,c<=w->tq w c (jq t c)/\F (jq t c).1=F t/\F (jq t c).2<=F t:=by
 intro c
 induction c with
 |zero=>intro _;exact⟨⟨j,k,λ_ _ _ _ r o=>by omega⟩,O,bY _⟩|succ c m=>
  intro hc;obtain⟨f,d,g⟩:=m M;rw[Yp];refine⟨Jq f M,?_,?_⟩
  .unfold mj;split
   .exact d
   .simp[d]
  .unfold mj;split
   .exact g
   .rename_i s i;obtain⟨p,q,-⟩:=yv i;simp;omega
def asJ{t}{pv}{c k}{b o}(i:mZ t (F pv) c=J k)(g:t[k]?=J b)(j:t[pv.length]?=J o):
 mj (t,pv) c=((rf c (scaleB b (ej (af b c))) (F t) (t.set k o)).set (F pv) (scaleB b (ej (af b c))),pv++[c]):=by
 have d:t.getD k []=b:=by rw[eK,g];rfl
 have f:t.getD (F pv) []=o:=by rw[eK,j];rfl
 unfold mj;simp only[i,d,f];rw[show F t=F (t.set k o) by rw[nr],akL]
def Zs{t}{pv}{c}(d:mZ t (F pv) c=ag):mj (t,pv) c=(t,pv):=by unfold mj;simp only[d]
structure qM(h H:Heap)(b:Nat)(t:List (List Int))(k:Tok):Prop where
 tb:pY H b t
 can:db h.tn H k
 ok:c_ H=V
 ext:Ext h H
 low:h.boxes.length<=b
def qM.put{h H}{b}{t c}{k}(R:qM h H b t k)(cs)(T:pY (H.put b cs) b c):qM h (H.put b cs) b c k:=
 ⟨T,R.can,R.ok,R.ext.fI R.low cs,R.low⟩
def qM.app{h H}{b}{t}{k}(R:qM h H b t k):qM h (H.app k) b t (.free H.tn):=
 ⟨R.tb.mono λc d=>by rw[dS];exact d,Sr R.can R.ok R.ext.tn,C0 R.ok R.can,(Grown.one R.can R.ok R.ext.tn).ext R.ext (aV _),R.low⟩
def agL(x):0<=ej x/\ej x<=9223372036854775807:=vO (Ly _)
def akR(x y)(a own)(n)(hx:IL x a)(E:IL y own)(i:F own=F a)(j:F a<=1000000):∀h,W5.call 233 [x,y,I n] h=J (.ret (.list .held 1 (ints (g_ n a own))),h):=by obtain⟨c,d⟩:=hx.hold;obtain⟨f,g⟩:=E.hold;exact gE (L:=L5) (B:=[al x,al y,I n]) O O (by simp[aA,d,g,au,I]) (akQ (al x) (al y) a own n c f i j _) O (by simp[au,ju,oY])
def atP(x)(a)(n)(hx:IL x a)(g:F a<=1000000)(f:0<=n/\n<=9223372036854775807):∀h,W5.call 232 [x,I n] h=J (.ret (.list .held 1 (ints (scaleB a n))),h):=by obtain⟨c,d⟩:=hx.hold;exact gE (L:=L5) (B:=[al x,I n]) O O (by simp[aA,d,au,I]) (atO (al x) a n c g f _) O (by simp[au,ju,oY])
def aoz(x y)(rows)(c)(hx:RL x rows)(E:IL y c)(o:F rows<=64)(p:∀r∈rows,F r=F c)(g:F c<=64)(d:∀r∈rows,∀x∈r,okF x)(f:∀x∈c,okF x):
 ∀h,W5.call 174 [x,y] h=J (.ret (.v (.int .i64 0)),h):=by
 obtain⟨i,j⟩:=hx.fk;obtain⟨k,m⟩:=E.hold;exact gE (L:=L5) (B:=[al x,al y]) O O (by simp[aA,j,m]) (aoy (al x) (al y) rows c i k o p g d f _) O rfl
def aon(h:Heap)(fQ:c_ h=V)(b:Nat)(rows:List (List Int))(w many:Nat)(hT:pY h b rows)(h0:0<F rows)(hl:∀a∈rows,F a=w)(ho:∀a∈rows,∀x∈a,okF x)(hm:many<=w)(hr:F rows<=1000)(A:w<=1000):
 ∃r h',W5.call 176 [.arr b 0 (F rows) (F rows),I (many:Nat)] h=J (r,h')/\∃b2 Z,r=.ret (.tuple [.arr b2 0 (F rows) (F rows),Z])/\pY h' b2 (jq rows many).1/\F (jq rows many).1=F rows/\IL Z (cJ (jq rows many).2)/\Ext h h':=by
 have u23:=cU;have u22:=gy;have z23:=hw;have z3:=eX;have bn2:fy aa 22 0 []=J (.list .tight 1 []):=by kernel_rfl
 have bn3:fy aa 23 0 []=J (.list .tight 1 []):=by kernel_rfl
 obtain⟨H1,ap,R0⟩:∃H1,ml aa h #[22,22] (.list .tight 1 []) (.arr b 0 (F rows) (F rows))=J (.arr (F h.boxes) 0 (F rows) (F rows),H1)/\qM h H1 (F h.boxes) rows .tight:=by
  obtain⟨cs,t1,t2,t3⟩:=hT;obtain⟨B,q1,q2,q3,q4⟩:=HN;have tZ:=jt (M:F rows<=1000000) q3;have hn:=(dz.box (sz:=1) (h:=h) (b:=b) (n:=rows.length) (rows:=cs.map λc=>[c]) (λr hr=>by obtain⟨c,-,rfl⟩:=jg.1 hr;rfl) (by rw[br,t2]) (by rw[Ff];exact t1)).news;have N:F (cs.map λc=>[c])=F rows:=by rw[br,t2]
  have fP:(cs.map λc=>[c])≠[]:=by intro q;rw[q]at N;simp at N;omega
  have:=zS (h:=h) (k:=.tight) (sz:=1) (es:=[]) (new:=cs.map λc=>[c]) (x:=.arr b 0 (F rows) (F rows)) gy gy q1 M (by rw[q2];exact q4) fP (by rw[N];simp;omega) (by rw[N];simp;omega) (.inl q2.symm) (.inr O) (by rw[q2];exact hn);rw[N,f_,oj,List.nil_append,Ff]at this;exact⟨_,this,⟨⟨cs,aK _ _,t2,t3⟩,.inr (.inl O),fQ,.push _ _,aV _⟩⟩
 have kR0:=ae.mk R0;have kl:=ae.mk (aj hl ho);clear hT R0 hl ho;unfold I;refine bL O Tryz.func176 O ?_;refine bh @vZ ?_;refine bC.gen λg d o S dn=>?_;have f1:g.get 1=.v (.int .i64 (many:Nat)):=by rw[d];exact gS
 have f6:g.get 6=.arr (F h.boxes) 0 (F rows) (F rows):=by rw[d];exact gS
 have f7:g.get 7=.list .tight 1 (ints (cJ [])):=by rw[d];exact gR
 have f8:g.get 8=.v (.int .i64 (0:Nat)):=by rw[d];exact gR
 have K:g.defers=[]:=by rw[o];exact gS
 clear d o S dn ap bn2 bn3;refine b_ (λz4 e z2=>∃(c:Nat) (p:Tok),c<=many/\z4=many-c/\ae (qM h z2 (F h.boxes) (jq rows c).1 p)/\e.get 1=.v (.int .i64 (many:Nat))/\e.get 6=.arr (F h.boxes) 0 (F rows) (F rows)/\e.get 7=.list p 1 (ints (cJ (jq rows c).2))/\e.get 8=.v (.int .i64 (c:Nat))/\e.defers=[]) ?_ many _ _ ?_;rotate_left 1
 .exact⟨0,.tight,bY _,O,kR0,f1,f6,f7,f8,K⟩
 clear kR0 f1 f6 f7 f8 K;rintro z4 e z2 ⟨c,p,hc,rfl,j,g1,g6,g7,g8,hd⟩;by_cases Mp:c<many;rotate_left 1
 .have:c=many:=by omega
  subst this;refine bh @vZ ?_;exact⟨_,_,O,_,_,O,j.out.tb,(OS kl.out.1 kl.out.2 c hm).2.1,⟨_,_,O,λ_=>rfl⟩,j.out.ext⟩
 obtain⟨RO,tl,pl⟩:=OS kl.out.1 kl.out.2 c M;have H:ae (jq rows (c+1)=mj ((jq rows c).1,(jq rows c).2) c):=⟨Yp rows c⟩;have kRO:=ae.mk RO;clear RO;generalize jq rows c=st at *
 obtain⟨z0,f⟩:=st;dsimp only at *
 have Hu:F (ints (cJ f))=F f:=by rw[cG];unfold cJ;rw[br]
 have hcI:(c:Int)<(many:Int):=by omega
 refine bh @vZ ?_;refine bC.gen λg d o S dn=>?_;have f1:g.get 1=.v (.int .i64 (many:Nat)):=by rw[d];simp only[gW,reduceIte,aH,aC];exact g1
 have f6:g.get 6=.arr (F h.boxes) 0 (F rows) (F rows):=by rw[d];simp only[gW,reduceIte,aH,aC];exact g6
 have f7:g.get 7=.list p 1 (ints (cJ f)):=by rw[d];simp only[gW,reduceIte,aH,aC];exact g7
 have f8:g.get 8=.v (.int .i64 (c:Nat)):=by rw[d];simp only[gW,reduceIte,aH,aC];exact g8
 have f9:g.get 9=.v (.int .i64 (F f:Nat)):=by rw[d];exact gS
 have f10:g.get 10=.v (.int .i64 (F f:Nat)):=by rw[d];exact gS
 have K:g.defers=[]:=by rw[o];simp only[gW,reduceIte,aH,aC];exact hd
 clear d o S dn g1 g6 g7 g8 hd;refine b_ (λz4 e H2=>∃t:Nat,t<=F rows/\F f<=t/\z4=F rows-t/\ae (∀D,F f<=D->D<t->af (z0.getD D []) c=0)/\e.get 1=.v (.int .i64 (many:Nat))/\e.get 6=.arr (F h.boxes) 0 (F rows) (F rows)/\e.get 7=.list p 1 (ints (cJ f))/\e.get 8=.v (.int .i64 (c:Nat))/\e.get 9=.v (.int .i64 (F f:Nat))/\e.get 10=.v (.int .i64 (t:Nat))/\e.defers=[]/\H2=z2) ?_ (F rows-F f) _ _ ?_;rotate_left 1
 .exact⟨F f,pl,aV _,O,⟨λD q1 q2=>absurd q2 M⟩,f1,f6,f7,f8,f9,f10,K,O⟩
 clear f1 f6 f7 f8 f9 f10 K;rintro z4 e2 H2 ⟨t,hj,M9,rfl,kz,g1,g6,g7,g8,g9,g10,hd,rfl⟩;by_cases hjn:t<F rows;rotate_left 1
 .have ql:t=F rows:=by omega
  subst ql;have z:mZ z0 (F f) c=ag:=by rw[Gz (j:=rows.length) M9 M kz.out (λq=>absurd q M),av tl.symm]
  have kR2:ae (qM h H2 (F h.boxes) (jq rows (c+1)).1 p):=⟨by rw[H.out,Zs z];exact j.out⟩;have k7:(jq rows (c+1)).2=f:=by rw[H.out,Zs z]
  have k7:=ae.mk k7;clear z;refine bh @vZ ?_;exact⟨many-(c+1),by omega,c+1,p,by omega,O,kR2,by first|trivial|assumption,by first|trivial|assumption,by rw[k7.out],by simp⟩
 obtain⟨i,y⟩:∃r,z0[t]?=J r:=⟨_,aP M⟩;have UX:z0.getD t []=i:=by rw[eK,y];rfl
 have u:=kRO.out.len i (cT y);have Vu:=kRO.out.ok i (cT y);obtain⟨k1,s1,ld1,v⟩:=j.out.tb.load y;have v:s1=1:=v (by intro q;rw[q]at u;simp at u;omega);subst v;have ix1:=Bq (b:=h.boxes.length) (len:=rows.length) (aS:=rows.length) (k:=.i64) hjn;have UY:F (ints i)=w:=by rw[cG];exact u
 have l1:=eS (H:=H2) (l:=i) (i:=c) (s:=1) M;have U5:(t:Int)<(F rows:Int):=by omega
 have hcw:(c:Int)<(w:Int):=by omega
 have kb:=ae.mk (aj y (aj UX (aj u Vu)));clear y UX u Vu;by_cases hz:af i c=0
 .have ii:decide (af i c=0)=V:=by simp[hz]
  have kz2:ae (∀D,F f<=D->D<t+1->af (z0.getD D []) c=0):=⟨λD q1 q2=>by
   rcases dp D t with q|q
   .exact kz.out D q1 q
   .have:D=t:=(by omega);subst this;rw[kb.out.2.1];exact hz⟩
  generalize af i c=z5 at *
  clear hz;refine bG @vZ @aU ?_;exact⟨F rows-(t+1),by omega,t+1,by omega,by omega,O,kz2,by simp⟩
 have ii:decide (af i c=0)=ah:=by simp[hz]
 have VB:mZ z0 (F f) c=J t:=by rw[Gz (j:=t) M9 M kz.out (λ_=>by rw[kb.out.2.1];exact hz),aL M]
 obtain⟨ro,nx⟩:∃r,z0[f.length]?=J r:=⟨_,aP M⟩;have Vy:=kRO.out.len ro (cT nx);obtain⟨k2,s2,ld2,vw⟩:=j.out.tb.load nx;have ix2:=Bq (b:=h.boxes.length) (len:=rows.length) (aS:=rows.length) (k:=.i64) (M:F f<F rows);obtain⟨H3,st1,T3,cs3,rfl⟩:=j.out.tb.store (i:=t) (k:=k2) M vw;have E:=ae.mk (asJ VB kb.out.1 nx);have R3:=j.out.put cs3 T3;have okz:=oo kb.out.2.2.2 c;have xe:fmod (af i c)=af i c:=AS okz;have inv:=λh=>aoU (af i c) h;rw[xe,aL hz,aL hz]at inv;have tms:=atP (.list k1 1 (ints i)) i (ej (af i c)) ⟨_,_,O,λ_=>rfl⟩ (by rw[kb.out.2.2.1];omega) (agL _);have MT:F (scaleB i (ej (af i c)))=w:=by rw[Y6];exact kb.out.2.2.1
 have l3:=eS (H:=H2.put (F h.boxes) cs3) (l:=i) (i:=c) (s:=1) (by rw[kb.out.2.2.1];omega);have DE:∀a∈z0.set t ro,F a=w:=by
  intro a ha;rcases List.mem_or_eq_of_mem_set ha with q|q
  .exact kRO.out.len a q
  .rw[q];exact Vy
 have kall:=ae.mk DE;have avO:F (z0.set t ro)=F rows:=by rw[nr];exact tl
 have M7:(F f:Int)<(F rows:Int):=by omega
 rw[tl]at E;generalize ej (af i c)=fz at *
 generalize scaleB i fz=m at *
 generalize z0.set t ro=t1 at *
 clear Vy nx vw VB okz xe DE kz T3 kRO j;have kR3:=ae.mk R3;clear R3;generalize af i c=z5 at *
 generalize H2.put (F h.boxes) cs3=H3 at *
 clear hz;unfold I at inv tms;refine bG @vZ @aU ?_;refine bC.gen λg d o S dn=>?_;have f1:g.get 1=.v (.int .i64 (many:Nat)):=by rw[d];simp only[gW,reduceIte,aH,aC];exact g1
 have f6:g.get 6=.arr (F h.boxes) 0 (F rows) (F rows):=by rw[d];simp only[gW,reduceIte,aH,aC];exact g6
 have f7:g.get 7=.list p 1 (ints (cJ f)):=by rw[d];simp only[gW,reduceIte,aH,aC];exact g7
 have f8:g.get 8=.v (.int .i64 (c:Nat)):=by rw[d];simp only[gW,reduceIte,aH,aC];exact g8
 have f9:g.get 9=.v (.int .i64 (F f:Nat)):=by rw[d];simp only[gW,reduceIte,aH,aC];exact g9
 have f11:g.get 11=.list .held 1 (ints m):=by rw[d];exact gS
 have f14:g.get 14=.v (.int .i64 (0:Nat)):=by rw[d];exact gR
 have K:g.defers=[]:=by rw[o];simp only[gW,reduceIte,aH,aC];exact hd
 clear d o S dn g1 g6 g7 g8 g9 g10 hd ld1 ld2 st1 inv tms l1 l3 ii ix1 UY;have kR4:ae (qM h H3 (F h.boxes) (rf c m 0 t1) p):=⟨by rw[akO];exact kR3.out⟩;refine b_ (λz4 e z2=>∃B:Nat,B<=F rows/\z4=F rows-B/\ae (qM h z2 (F h.boxes) (rf c m B t1) p)/\e.get 1=.v (.int .i64 (many:Nat))/\e.get 6=.arr (F h.boxes) 0 (F rows) (F rows)/\e.get 7=.list p 1 (ints (cJ f))/\e.get 8=.v (.int .i64 (c:Nat))/\e.get 9=.v (.int .i64 (F f:Nat))/\e.get 11=.list .held 1 (ints m)/\e.get 14=.v (.int .i64 (B:Nat))/\e.defers=[]) ?_ (F rows) _ _ ?_;rotate_left 1
 .exact⟨0,bY _,O,kR4,f1,f6,f7,f8,f9,f11,f14,K⟩
 clear f1 f6 f7 f8 f9 f11 f14 K kR4 kR3;rintro z4 e3 H4 ⟨B,hi,rfl,j,g1,g6,g7,g8,g9,g11,g14,hd⟩;by_cases jH:B<F rows
 .obtain⟨a,ha⟩:∃r,t1[B]?=J r:=⟨_,aP M⟩;have tX:=kall.out a (cT ha);obtain⟨k1,s1,ld1,v⟩:=j.out.tb.load (akM.trans ha);have v:s1=1:=v (by intro q;rw[q]at tX;simp at tX;omega);subst v;have ix1:=Bq (b:=h.boxes.length) (len:=rows.length) (aS:=rows.length) (k:=.i64) jH;have UY:F (ints a)=w:=by rw[cG];exact tX
  have l1:=eS (H:=H4) (l:=a) (i:=c) (s:=1) M;have ls:=akR (.list k1 1 (ints a)) (.list .held 1 (ints m)) a m (af a c) ⟨_,_,O,λ_=>rfl⟩ ⟨_,_,O,λ_=>rfl⟩ M M;obtain⟨H5,st1,T5,k,rfl⟩:=j.out.tb.store (i:=B) (r:=g_ (af a c) a m) (k:=.held) (s:=1) (by rw[NY];omega) (λ_=>rfl);rw[akN ha]at T5;have kR5:=ae.mk (j.out.put k T5);have Hg:(B:Int)<(F rows:Int):=by omega
  clear T5 ha tX j;generalize g_ (af a c) a m=la at *
  generalize af a c=z1 at *
  generalize H4.put (F h.boxes) k=H5 at *
  unfold I at ls;refine bG @vZ @aU ?_
  repeat' (first|simp(maxSteps:=9999999) (disch:=first|exact dZ|fail) only[gW,reduceIte,aH,aC,vZ,aU, *]|(refine dX ?_ ?_<;>(intro _;try omega))|refine du jV bD ?_)
  exact⟨F rows-(B+1),by omega,B+1,by omega,O,kR5,by simp⟩
 .have gr:B=F rows:=by omega
  subst gr;obtain⟨H5,st1,T5,k,rfl⟩:=j.out.tb.store (i:=f.length) (r:=m) (k:=.held) (s:=1) (by rw[NY];omega) (λ_=>rfl);have R6:=(j.out.put k T5).app;have bl:=qO (c:Int);have ap:=wI (H:=H4.put (F h.boxes) k) (x:=(c:Int)) (es:=cJ f) (sz:=1) (show(F (cJ f))<1099511627776 by unfold cJ;rw[br];omega) (.inl O) ((j.out.put k T5).can);have ee:cJ f++[(c:Int)]=cJ (f++[c]):=by unfold cJ;simp
  rw[ee]at ap;have kst:=ae.mk (H.out.trans E.out);have kR6:ae (qM h ((H4.put (F h.boxes) k).app p) (F h.boxes) (jq rows (c+1)).1 (.free (H4.put (F h.boxes) k).tn)):=⟨by rw[kst.out];exact R6⟩;have k7:ae ((jq rows (c+1)).2=f++[c]):=⟨by rw[kst.out]⟩;clear T5 R6 ee E j;generalize H4.put (F h.boxes) k=H5 at *
  refine bh @vZ ?_;exact⟨many-(c+1),by omega,c+1,_,by omega,O,kR6,by first|trivial|assumption,by first|trivial|assumption,by rw[k7.out],by simp⟩
def uD:Tryz.f101.results.toList=[.tmp 4,.tmp 5,.tmp 6]:=by kernel_rfl
structure CT(h H:Heap)(b k:Nat)(t1 t2:List (List Int))(dc:List U)(ts:List Tok):Prop where
 hJ:H.boxes[b]?=J (dc++nQ ts (t2.drop k))
 dl:dc.length=k
 row:∀(i:Nat) a r,dc[i]?=J a->t1[i]?=J r->IL a r
 tl:ts.length=t2.length - k
 can:∀u∈ts,db h.tn H u
 Dd:ts.Pairwise xK
 ok:c_ H=V
 ext:Ext h H
 low:h.boxes.length<=b
def CT.step{h H}{b k}{t1 t2}{f}{ts}(d:CT h H b k t1 t2 f ts){r}{x}(y:t2[k]?=J r)(A:t1[k]?=J (r++[x])):
 ∃t c,ts=t::c/\aD aa Gt H 23 (.ptr (.box b) k)=J (.list t 1 (ints r))/\db h.tn H t/\∃p,bV aa (H.app t) 23 (.ptr (.box b) k) (.list (.free H.tn) 1 (ints (r++[x])))=J p/\CT h p b (k+1) t1 t2 (f++[.list (.free H.tn) 1 (ints (r++[x]))]) c:=by
 have D:=(aT.1 y).1;have m:t2.drop k=r::t2.drop (k+1):=by rw[s_ D,(aT.1 y).2]
 obtain⟨t,c,rfl⟩:∃t c,ts=t::c:=by
  cases ts with|nil=>have:=d.tl;simp at this;omega|cons t c=>exact⟨t,c,O⟩
 have v:=CI.1 d.Dd;have hc:=d.can t gH;have j:=d.hJ;have q:nQ (t::c) (t2.drop k)=.list t 1 (ints r)::nQ c (t2.drop (k+1)):=by rw[m];rfl
 rw[q]at j;have u:=(aT.1 j).1;have s:(H.app t).boxes[b]?=J (f++ .list t 1 (ints r)::nQ c (t2.drop (k+1))):=by rw[dS];exact j
 refine⟨t,c,O,qs j (by rw[wB (by rw[d.dl];exact aV _),d.dl,qL];rfl),hc,_,ZA (n:=0) s (by rw[ck,ef,d.dl];omega),?_⟩;have o:(f++U.list t 1 (ints r)::nQ c (t2.drop (k+1))).set k (.list (.free H.tn) 1 (ints (r++[x])))=(f++[.list (.free H.tn) 1 (ints (r++[x]))])++nQ c (t2.drop (k+1)):=by rw[List.set_append_right _ _ (by rw[d.dl];exact aV _),d.dl,qL,List.set_cons_zero,iO];rfl
 rw[o];refine⟨dh (by rw[dS];exact u),by rw[ck,d.dl];rfl,λE a S g i=>?_,?_,λN z=>?_,v.2,?_,?_,d.low⟩
 .rcases dp E (F f) with w|K
  .rw[qH w]at g;exact d.row E a S g i
  .have:=(aT.1 g).1;rw[ck]at this;have B:E=F f:=(by simp at this;omega);subst B;rw[Ab]at g;rw[d.dl,A]at i;injection g with g;injection i with i;subst g;subst i;exact⟨_,_,O,λ_=>rfl⟩
 .have:=d.tl;rw[ef]at this;omega
 .exact C8 (d.can N (gx _ z)) (v.1 N z)
 .exact C0 d.ok hc
 .exact((Grown.one hc d.ok d.ext.tn).ext d.ext (aV _)).fI d.low _
def anI(pv):F (ints (cJ pv))=F pv:=by rw[cG];unfold cJ;rw[br]
def aar(rows:List (List Int))(c:List Int)(h:Heap)(r:dR)(h':Heap):Prop:=
 Ext h h'/\((nT rows c=ag/\r=.ret (.tuple [.list .nil 0 [],.v (.bool ah),I 0]))∨∃l b,nT rows c=J l/\F l=F rows/\r=.ret (.tuple [.arr b 0 (F rows) (F rows),.v (.bool V),I 0])/\h'.boxes[b]?=J (l.map I))
def afo(h:Heap)(fQ:c_ h=V)(x y:U)(rows:List (List Int))(c:List Int)(hx:RL x rows)(E:IL y c)(hr:F rows<=64)(A:∀r∈rows,F r=F c)(oM:F c<=64)(h0:0<F c)(MX:∀r∈rows,∀x∈r,okF x)(yW:∀x∈c,okF x):
 ∃r h',W5.call 101 [x,y] h=J (r,h')/\aar rows c h r h':=by
 have c1:=aoz x y rows c hx E hr A oM MX yW;obtain⟨_,H1,c2,X,S,rfl,Z⟩:=atT h fQ x rows (F c) hx A M M;obtain⟨t1,t2⟩:=P2 MX yW;have tl:=P1 rows c;have cl:=S4 rows (F c);have e1:nT rows c=if ((jq (fe rows c) (F rows)).1.drop (F (jq (fe rows c) rows.length).2)).all (λa=>decide (af a (F rows)=0)) then J (nK (jq (fe rows c) (F rows)) (F rows)) else ag:=rfl
 obtain⟨RO,rl,rp⟩:=OS t1 t2 (F rows) M;obtain⟨-,z4⟩:=ES t1 t2 (M:F rows<=F rows+1);have z4:Aj (F rows) (jq (fe rows c) (F rows)):=z4;rw[tl]at rl rp;obtain⟨b,hX,J0⟩:∃b,X=.arr b 0 (F c) (F c)/\CT h H1 b 0 (fe rows c) (oI rows (F c)) [] S:=by
  rcases Z.tab with⟨q,-⟩|⟨-,b,q1,q2,q3⟩
  .rw[q]at cl;simp at cl;omega
  .rw[cl]at q1;exact⟨b,q1,⟨q2,O,λt a r q=>by simp at q,by rw[Z.len];rfl,λz6 hu=>Z.can z6 (gx _ hu),(CI.1 Z.Dd).2,Z.ok,Z.ext,q3⟩⟩
 subst hX;obtain⟨z0,z1,xs,rfl,hs,fh,ng⟩:=hx;obtain⟨ky,sy,rfl,jY⟩:=E;have j:sy=1:=jY (by intro q;rw[q]at h0;simp at h0);subst j;have eH:F (xs.map λa=>[a])=F rows:=by rw[br];exact fh
 have vo:=cG c;have u23:=cU;have u22:=gy;have z23:=hw;have z3:=eX;have kJ0:=ae.mk J0;have kk:=ae.mk (aj t1 (aj t2 (aj RO (aj z4 e1))));have kcl:=ae.mk cl;clear Z J0 hs fh ng jY A MX yW t1 t2 RO z4 e1 cl;unfold I at c2;refine bL O Tryz.func101 O ?_;refine bh @uD ?_;refine bC.gen λi g s D H=>?_;have f0:i.get 0=.list z0 z1 (xs.map λa=>[a]):=by rw[g];exact gS
 have f1:i.get 1=.list ky 1 (ints c):=by rw[g];exact gS
 have f8:i.get 8=.arr b 0 (F c) (F c):=by rw[g];exact gS
 have f9:i.get 9=.v (.int .i64 (0:Nat)):=by rw[g];exact gR
 have w:i.defers=[]:=by rw[s];exact gS
 clear g s D H c1 c2;refine b_ (λz2 e v=>∃(f:Nat) (dc:List U) (S:List Tok),f<=F c/\z2=F c-f/\ae (CT h v b f (fe rows c) (oI rows (F c)) dc S)/\e.get 0=.list z0 z1 (xs.map λa=>[a])/\e.get 1=.list ky 1 (ints c)/\e.get 8=.arr b 0 (F c) (F c)/\e.get 9=.v (.int .i64 (f:Nat))/\e.defers=[]) ?_ (F c) _ _ ?_;rotate_left 1
 .exact⟨0,[],S,bY _,O,kJ0,f0,f1,f8,f9,w⟩
 clear f0 f1 f8 f9 w kJ0 S;rintro z2 e v ⟨f,dc,S,hj,rfl,K,g0,g1,g8,g9,hd⟩;by_cases u:f<F c
 .have UN:(oI rows (F c))[f]?=J (rows.map λr=>af r f):=by unfold oI;rw[ec,QH u];rfl
  have VH:(fe rows c)[f]?=J ((rows.map λr=>af r f)++[af c f]):=by unfold fe;rw[ec,QH u];rfl
  obtain⟨z9,ts2,rfl,ld,hc,o,st,J3⟩:=K.out.step UN VH;have ap:=wI (H:=v) (x:=af c f) (es:=rows.map λr=>af r f) (sz:=1) (by rw[br];omega) (.inl O) hc;have bl:=qO (af c f);have l1:=eS (H:=v) (l:=c) (i:=f) (s:=1) u;have ix:=Bq (b:=b) (len:=c.length) (aS:=c.length) (k:=.i64) u;have kJ3:=ae.mk J3;have U5:(f:Int)<(F c:Int):=by omega
  clear J3 UN VH hc K;refine bG @uD @aU ?_
  repeat' (first|simp(maxSteps:=9999999) (disch:=first|exact dZ|fail) only[gW,reduceIte,aH,aC,uD,aU, *]|(refine dX ?_ ?_<;>(intro _;try omega))|refine du jV bD ?_)
  exact⟨F c-(f+1),by omega,f+1,_,ts2,by omega,O,kJ3,by simp⟩
 have B:f=F c:=by omega
 subst B;have T2:pY v b (fe rows c):=⟨_,K.out.hJ,by
  have h1:nQ S ((oI rows (F c)).drop (F c))=[]:=by rw[nq (by rw[kcl.out];exact aV _)];unfold nQ;simp
  rw[h1,gj,K.out.dl,tl],λt a r k hr=>by
  have h1:nQ S ((oI rows (F c)).drop (F c))=[]:=by rw[nq (by rw[kcl.out];exact aV _)];unfold nQ;simp
  rw[h1,gj]at k;exact K.out.row t a r k hr⟩
 obtain⟨_,o,c3,b2,z8,rfl,T3,-,hZ,X3⟩:=aon v K.out.ok b (fe rows c) (F rows+1) (F rows) T2 M kk.out.1 kk.out.2.1 M M M;rw[tl]at c3;obtain⟨kz,sz,rfl,gK⟩:=hZ;have Hu:=anI (jq (fe rows c) (F rows)).2;have kV:ae (Aj (F rows) (jq (fe rows c) (F rows))):=⟨kk.out.2.2.2.1⟩;have kRl:=ae.mk kk.out.2.2.1.len;have ke:=ae.mk kk.out.2.2.2.2;generalize gZ:jq (fe rows c) (F rows)=st at *
 obtain⟨p,d⟩:=st;dsimp only at *
 have kT3:=ae.mk T3;have ksz:=ae.mk gK;have kX3:=ae.mk (K.out.ext.trans X3);clear T2 T3 gK X3 kk K gZ kcl tl;unfold I at c3;refine bh @uD ?_;refine bC.gen λi g s D H=>?_;have f0:i.get 0=.list z0 z1 (xs.map λa=>[a]):=by rw[g];simp only[gW,reduceIte,aH,aC];exact g0
 have f8:i.get 8=.arr b2 0 (F c) (F c):=by rw[g];exact gS
 have f10:i.get 10=.list kz sz (ints (cJ d)):=by rw[g];exact gS
 have f11:i.get 11=.v (.int .i64 (F d:Nat)):=by rw[g];exact gS
 have w:i.defers=[]:=by rw[s];simp only[gW,reduceIte,aH,aC];exact hd
 clear g s D H c3 g0 g1 g8 g9 hd;refine b_ (λz2 e v=>∃f:Nat,f<=F c/\F d<=f/\z2=F c-f/\ae (∀t,F d<=t->t<f->∀a,p[t]?=J a->af a (F rows)=0)/\e.get 0=.list z0 z1 (xs.map λa=>[a])/\e.get 8=.arr b2 0 (F c) (F c)/\e.get 10=.list kz sz (ints (cJ d))/\e.get 11=.v (.int .i64 (f:Nat))/\e.defers=[]/\v=o) ?_ (F c-F d) _ _ ?_;rotate_left 1
 .exact⟨F d,rp,aV _,O,⟨λt q1 q2=>absurd q2 M⟩,f0,f8,f10,f11,w,O⟩
 clear f0 f8 f10 f11 w;rintro z2 e o ⟨f,hj,M9,rfl,N,g0,g8,g10,g11,hd,rfl⟩;by_cases u:f<F c
 .obtain⟨a,k⟩:∃a,p[f]?=J a:=⟨_,aP M⟩;have m:=kRl.out a (cT k);obtain⟨k1,s1,ld1,j⟩:=kT3.out.load k;have j:s1=1:=j (by intro q;rw[q]at m;simp at m);subst j;have UZ:F (ints a)=F rows+1:=by rw[cG];exact m
  have l1:=eS (H:=o) (l:=a) (i:=rows.length) (s:=1) M;have ix:=Bq (b:=b2) (len:=c.length) (aS:=c.length) (k:=.i64) u;have U5:(f:Int)<(F c:Int):=by omega
  have hnI:(F rows:Int)<((F rows+1:Nat):Int):=by omega
  by_cases hz:af a (F rows)=0
  .have kz2:ae (∀t,F d<=t->t<f+1->∀a,p[t]?=J a->af a (F rows)=0):=⟨λt hi vn a' z=>by
    rcases dp t f with q|q
    .exact N.out t hi q a' z
    .rw[(M:t=f),k]at z;injection z with z;rw[<-z];exact hz⟩
   have ii:decide (af a (F rows)=0)=V:=(by simp[hz]);generalize af a (F rows)=z7 at *
   clear k m hz N;refine bG @uD @aU ?_;exact⟨F c-(f+1),by omega,f+1,by omega,by omega,O,kz2,by simp⟩
  .have e2:nT rows c=ag:=(by rw[ke.out,aL];intro q;rw[eJ]at q;have:=q a (cT (i:=f-F d) (by rw[o0,(M:F d+(f-F d)=f)];exact k));exact hz (of_decide_eq_true this));have ke2:=ae.mk e2;have ii:decide (af a (F rows)=0)=ah:=(by simp[hz]);generalize af a (F rows)=z7 at *
   clear k m hz N e2;refine bG @uD @aU ?_;exact⟨_,_,O,kX3.out,.inl ⟨ke2.out,O⟩⟩
 have B:f=F c:=by omega
 subst B;have e2:nT rows c=J (nK (p,d) (F rows)):=by rw[ke.out,av];rw[eJ];intro a k;obtain⟨t,hi⟩:=qI k;rw[o0]at hi;have eH:=(aT.1 hi).1;exact bQ (N.out (F d+t) M M a hi)
 rw[<-Ym]at e2;have ke2:=ae.mk e2;have mk:=vK o (F rows) M .i64 .i64;have rV:bB (F rows) (I 0)=(jy p d (F rows) 0).map I:=by unfold jy;rw[cX,CE,xR]
 rw[rV]at mk;clear e2 rV N ke;unfold I at mk;refine bh @uD ?_;refine bC.gen λi g s D H=>?_;have f0:i.get 0=.list z0 z1 (xs.map λa=>[a]):=by rw[g];simp only[gW,reduceIte,aH,aC];exact g0
 have f8:i.get 8=.arr b2 0 (F c) (F c):=by rw[g];simp only[gW,reduceIte,aH,aC];exact g8
 have f10:i.get 10=.list kz sz (ints (cJ d)):=by rw[g];simp only[gW,reduceIte,aH,aC];exact g10
 have f12:i.get 12=.arr (F o.boxes) 0 (F rows) (F rows):=by rw[g];exact gS
 have f13:i.get 13=.v (.int .i64 (0:Nat)):=by rw[g];exact gR
 have w:i.defers=[]:=by rw[s];simp only[gW,reduceIte,aH,aC];exact hd
 clear g s D H g0 g8 g10 g11 hd mk;refine b_ (λz2 e v=>∃f:Nat,f<=F d/\z2=F d-f/\e.get 0=.list z0 z1 (xs.map λa=>[a])/\e.get 8=.arr b2 0 (F c) (F c)/\e.get 10=.list kz sz (ints (cJ d))/\e.get 12=.arr (F o.boxes) 0 (F rows) (F rows)/\e.get 13=.v (.int .i64 (f:Nat))/\e.defers=[]/\v=o.push ((jy p d (F rows) f).map I)) ?_ (F d) _ _ ?_;rotate_left 1
 .exact⟨0,bY _,O,f0,f8,f10,f12,f13,w,O⟩
 clear f0 f8 f10 f12 f13 w;rintro z2 e v ⟨f,hj,rfl,g0,g8,g10,g12,g13,hd,rfl⟩;by_cases di:f<F d
 .obtain⟨z5,Hw⟩:∃z5,d[f]?=J z5:=⟨_,aP di⟩;have xj:=kV.out.lt f z5 Hw;have j:sz=1:=ksz.out (by intro q;unfold cJ at q;rw[Ac]at q;rw[q]at di;exact Nat.not_lt_zero _ di);subst j;obtain⟨a,k⟩:∃a,p[f]?=J a:=⟨_,aP M⟩;have m:=kRl.out a (cT k);obtain⟨k1,s1,ld1,j⟩:=(kT3.out.mono (H':=o.push ((jy p d (F rows) f).map I)) λ_ q=>aN q).load k;have j:s1=1:=j (by intro q;rw[q]at m;simp at m);subst j;have UZ:F (ints a)=F rows+1:=by rw[cG];exact m
  have l0:=eS (H:=o.push ((jy p d (F rows) f).map I)) (l:=cJ d) (i:=f) (s:=1) (by unfold cJ;rw[br];exact di);rw[Yc Hw]at l0;have l1:=eS (H:=o.push ((jy p d (F rows) f).map I)) (l:=a) (i:=rows.length) (s:=1) M;have ix1:=Bq (b:=b2) (len:=c.length) (aS:=c.length) (k:=.i64) (M:f<F c);have ix3:=nZ (b:=o.boxes.length) (len:=rows.length) (aS:=rows.length) (k:=.i64) xj;have sk:=uJ (H:=o.push ((jy p d (F rows) f).map I)) (b:=o.boxes.length) (r:=jy p d (F rows) f) (k:=z5) (x:=af a (F rows)) (aK _ _) (by rw[IJ];exact xj);have gD:p.getD f []=a:=by rw[eK,k];rfl
  rw[mg,<-gD,Yn Hw,gD]at sk;have fO:(f:Int)<(F d:Int):=by omega
  have hnI:(F rows:Int)<((F rows+1:Nat):Int):=by omega
  unfold I at *
  clear k m gD Hw xj ke2;refine bG @uD @aU ?_
  repeat' (first|simp(maxSteps:=9999999) (disch:=first|exact dZ|fail) only[gW,reduceIte,aH,aC,uD,aU, *]|(refine dX ?_ ?_<;>(intro _;try omega))|refine du jV bD ?_)
  exact⟨F d-(f+1),by omega,f+1,by omega,O,by simp⟩
 .have B:f=F d:=by omega
  subst B;refine bh @uD ?_;exact⟨_,_,O,kX3.out.trans (.push _ _),.inr ⟨_,_,ke2.out,IJ _ _ _ _,O,aK _ _⟩⟩
def IY:Tryz.f102.results.toList=[.tmp 4]:=by kernel_rfl
def sL:Tryz.f44.results.toList=[.tmp 4,.tmp 5,.tmp 6]:=by kernel_rfl
def IL.same{x}{l}(h:IL x l):cE x x=V:=by obtain⟨c,d,rfl,-⟩:=h;exact v9 c d l
def YZ:∀xs:List U,(∀a∈xs,cE a a=V)->mI (xs.map λa=>[a]) (xs.map λa=>[a])=V
 | [],_=>rfl
 |x::xs,h=>by rw[eI,mI,YZ xs λa c=>h a (gx _ c),fV,h x gH];rfl
def RL.same{x}{rows}(h:RL x rows):cE x x=V:=by
 obtain⟨g,o,i,rfl,-,k,f⟩:=h;have e:ry g g=V:=by cases g<;>simp[ry]
 rw[cE,e,YZ i λa d=>?_]
 .simp
 .obtain⟨m,c⟩:=qI d;have j:=(aT.1 c).1;exact(f m a _ c (aP M)).same
def aml(h:Heap)(fQ:c_ h=V)(x y z:U)(rows:List (List Int))(ac who:List Int)(hx:RL x rows)(E:IL y ac)(hz:IL z who)(ho:F rows=F ac)(p:F rows<=1000)(qp:F who<=1099511627776):
 ∃r h',W5.call 102 [.agg [x,y],z] h=J (r,h')/\∃X,r=.ret X/\RL X ((dJ ac who).map λi=>rows.getD i [])/\Ext h h'/\c_ h'=V:=by
 have bx:=uu hx E;have hs:=λn=>Mh z who n hz qp;obtain⟨A,H,c,rfl,VD,fh,ng⟩:=hx;obtain⟨D,K,rfl,jY⟩:=E;have kx:=ae.mk (aj VD (aj ng jY));have t:=ae.mk ho;clear VD ng jY hz ho;have u23:=cU;have u22:=gy;have z23:=hw;have z3:=eX;have HI:F (c.map λa=>[a])=F rows:=by rw[br];exact fh
 have eH:=cG ac;have kX0:=ae.mk (aj (Ext.push h [.list A H (c.map λa=>[a]),.list D K (ints ac)]) (aK h [.list A H (c.map λa=>[a]),.list D K (ints ac)]));have B:ae (c_ (h.push [.list A H (c.map λa=>[a]),.list D K (ints ac)])=V):=⟨fQ⟩;refine bL O Tryz.func102 O ?_;refine bG @IY @bg ?_;refine bC.gen λv j hY eu dn=>?_;have f1:v.get 1=z:=by rw[j];exact gS
 have f2:v.get 2=.ptr (.box (F h.boxes)) 0:=by rw[j];exact gS
 have f5:v.get 5=.list .nil 0 ((gM c ac who 0).map λa=>[a]):=by rw[j];exact gR
 have f6:v.get 6=.v (.int .i64 (0:Nat)):=by rw[j];exact gR
 have fd:v.defers=[]:=by rw[hY];exact gS
 clear j hY eu dn bx;refine b_ (λz4 e g=>∃(i:Nat) (d:Tok) (S:Nat),i<=F rows/\z4=F rows-i/\ae (S=1∨((gM c ac who i)=[]/\d=.nil))/\ae (Ext h g/\g.boxes[h.boxes.length]?=J [.list A H (c.map λa=>[a]),.list D K (ints ac)])/\ae (c_ g=V)/\ae (db h.tn g d)/\e.get 1=z/\e.get 2=.ptr (.box (F h.boxes)) 0/\e.get 5=.list d S ((gM c ac who i).map λa=>[a])/\e.get 6=.v (.int .i64 (i:Nat))/\e.defers=[]) ?_ (F rows) _ _ ?_;rotate_left 1
 .exact⟨0,.nil,0,bY _,O,⟨.inr ⟨O,O⟩⟩,kX0,B,⟨.inl O⟩,f1,f2,f5,f6,fd⟩
 clear f1 f2 f5 f6 fd kX0 B;rintro z4 e g ⟨i,d,S,hi,rfl,m,q,u,f,g1,g2,g5,g6,hd⟩;have l0:=ox q.out.2;have l1:=xv q.out.2;by_cases w:i<F rows;rotate_left 1
 .have gr:i=F rows:=by omega
  subst gr;refine cK @IY @de @dW ?_;have hN:ex ac who (F rows)=dJ ac who:=by unfold ex dJ;rw[t.out]
  refine⟨_,_,O,_,O,⟨_,_,_,O,λfP=>?_,?_,λi a r o p=>?_⟩,q.out.1,u.out⟩
  .rcases m.out with z0|⟨z0,-⟩
   .exact z0
   .exfalso;apply fP;rw[<-hN];unfold gM at z0;unfold ex;rw[Ac]at z0;rw[z0];rfl
  .rw[br,<-hN];unfold gM ex;rw[br]
  .obtain⟨z2,j1,j2,rfl⟩:=Ox o;rw[hN]at j1;rw[ec,j1]at p;injection p with p;subst p;refine kx.out.2.1 z2 _ _ ?_ ?_
   .rw[eK,aP M];rfl
   .show rows[z2]?=J (rows.getD z2 []);rw[eK,aP j2];rfl
 have Bd:H=1:=kx.out.1 (by intro z0;rw[z0]at w;simp at w);subst Bd;have ev:K=1:=kx.out.2.2 (by intro z0;have ho:=t.out;rw[z0,f_]at ho;omega);subst ev;obtain⟨a,o⟩:∃a,c[i]?=J a:=⟨_,aP M⟩;have ld:=iX (H:=g) (s:=1) o;have lo:=eS (H:=g) (l:=ac) (i:=i) (s:=1) (by have:=t.out;omega);have Hg:(i:Int)<(F rows:Int):=by omega
 have aiA:(i:Int)<(F ac:Int):=by have:=t.out;omega
 have z1:=hs (af ac i);cases hc:who.contains (af ac i) with
 |true=>
  rw[hc]at z1;have pl:=XL (xs:=c) (ac:=ac) (who:=who) (k:=i);have ap:=RD (H:=g) (x:=a) (es:=gM c ac who i) M m.out f.out;rw[<-XN hc o]at ap;obtain⟨N,s',Z,rfl⟩:∃N s' Z,a=.list N s' Z:=by obtain⟨r,p⟩:∃r,rows[i]?=J r:=⟨_,aP w⟩;obtain⟨N,s',rfl,-⟩:=kx.out.2.1 i a r o p;exact⟨_,_,_,O⟩
  have bl:=Ga (.list N s' Z) O;have hG:=Grown.one f.out u.out q.out.1.tn;have kX2:ae (Ext h (g.app d)/\(g.app d).boxes[h.boxes.length]?=J [.list A 1 (c.map λa=>[a]),.list D 1 (ints ac)]):=⟨hG.ext q.out.1 (aV _),by rw[dS];exact q.out.2⟩;have kok2:ae (c_ (g.app d)=V):=⟨C0 u.out f.out⟩;have kcan2:ae (db h.tn (g.app d) (.free g.tn)):=⟨hG.can⟩;have ksz2:ae (1=1∨((gM c ac who (i+1))=[]/\Tok.free g.tn=.nil)):=⟨.inl O⟩;clear hG o hc m q u f hs;unfold I at z1;refine bA @IY @de @dW @aU ?_;exact⟨F rows-(i+1),by omega,i+1,_,1,by omega,O,(by first|assumption|trivial),(by first|assumption|trivial),(by first|assumption|trivial),(by first|assumption|trivial),by simp⟩
 |false=>rw[hc]at z1;have eN:=XM (xs:=c) hc;have ksz2:ae (S=1∨((gM c ac who (i+1))=[]/\d=.nil)):=⟨by rw[eN];exact m.out⟩;rw[<-eN]at g5;clear o hc m hs eN;unfold I at z1;refine bA @IY @de @dW @aU ?_;exact⟨F rows-(i+1),by omega,i+1,d,S,by omega,O,(by first|assumption|trivial),(by first|assumption|trivial),(by first|assumption|trivial),(by first|assumption|trivial),by simp⟩
def PD{ac who}{i}(hi:i<F ac)(hc:who.contains (af ac i)=V):(dJ ac who)[(ex ac who i).length]?=J i:=by
 have e:dJ ac who=ex ac who i++((bZ (F ac-i)).map (i+·)).filter λc=>who.contains (af ac c):=by unfold dJ ex;rw[<-Aa,<-List.range_add];congr 2;omega
 rw[e,wB (aV _),qL,(M:F ac-i=(F ac-i-1)+1),List.range_succ_eq_map,eI,Nat.add_zero,List.filter_cons,av hc];rfl
def ab8(h:Heap)(fQ:c_ h=V)(x y z:U)(rows:List (List Int))(ac who:List Int)(hx:RL x rows)(E:IL y ac)(H:IL z who)(l_:F rows<=1000000)(qp:F who<=1099511627776):
 ∃r h',W5.call 44 [.agg [x,y],z] h=J (r,h')/\((∃e,fG rows ac who=([],ah,e)/\r=.ret (.tuple [.list .nil 0 [],.v (.bool ah),.v (.int .i64 e)]))∨∃l b,fG rows ac who=(l,V,0)/\F l=F rows/\r=.ret (.tuple [.arr b 0 (F rows) (F rows),.v (.bool V),.v (.int .i64 0)])/\h'.boxes[b]?=J (l.map I)):=by
 have bx:=uu hx E;have D:(h.push [x,y]).boxes[h.boxes.length]?=J [x,y]:=aK _ _;have p:=λN (X:Ext (h.push [x,y]) N)=>uo (X.box _ _ D);have o:=λN (X:Ext (h.push [x,y]) N)=>ox (X.box _ _ D);have B:=λN (X:Ext (h.push [x,y]) N)=>xv (X.box _ _ D);have l0:=p _ (.refl _);have cc:=Yl x y rows ac hx E l_;have cp:=XJ z who H M;have f:fG rows ac who=if cH rows ac≠0 then ([],ah,cH rows ac) else if !dy (-1) who then ([],ah,1) else match nT ((dJ ac who).map λc=>rows.getD c []) (fc (cg rows)) with|none=>([],ah,0)|some l=>(oW (F rows) (dJ ac who) l,V,0):=rfl
 have svs:cE (.agg [x,y]) (.agg [x,y])=V:=by rw[cE,fV,fV,fV,hx.same,E.same];rfl
 refine bL O Tryz.func44 O ?_;by_cases i:cH rows ac≠0
 .rw[av i]at f;generalize cH rows ac=pe at *
  have US:decide (pe=0)=ah:=by simp[i]
  have A:=ae.mk f;clear f i p o B hx E H cp D;unfold I at cc;refine bG @sL @bg ?_;exact⟨_,_,O,.inl ⟨pe,A.out,O⟩⟩
 rw[aL i]at f;have i:cH rows ac=0:=JX.1 i;rw[i]at cc;cases q2:dy (-1) who with
 |false=>rw[q2]at cp;rw[av (by rw[q2];rfl)]at f;have A:=ae.mk f;clear f i q2 p o B hx E H D;unfold I at cc;refine bG @sL @bg ?_;exact⟨_,_,O,.inl ⟨1,A.out,O⟩⟩
 |true=>
 rw[q2]at cp;rw[aL (by rw[q2];simp)]at f;obtain⟨K,o2,o3,-⟩:=uw i;obtain⟨n1,n2⟩:=vd i;have xl:F (fc (cg rows))=cg rows:=PW n1;have u:∀c∈dJ ac who,c<F rows:=λc hi=>by unfold dJ at hi;rw[K];exact List.mem_range.1 (uU.1 hi).1
 have qm:F (dJ ac who)<=64:=by unfold dJ;exact Nat.le_trans (List.length_filter_le _ _) (by rw[List.length_range];omega)
 have w:∀r∈(dJ ac who).map λc=>rows.getD c [],r∈rows:=λr hr=>by obtain⟨c,hi,rfl⟩:=jg.1 hr;have:=u c hi;rw[eK,aP this];exact i_ _
 have c136:=afk x y rows ac hx E;have Z:=atv (cg rows) n1 M;obtain⟨_,H2,c134,X,rfl,hX,S,A8⟩:=aml (h.push [x,y]) fQ x y z rows ac who hx E H K M qp;have lH2:=p H2 S;obtain⟨_,d,q,P3⟩:=afo H2 A8 X (.list .held 1 (ints (fc (cg rows)))) _ (fc (cg rows)) hX ⟨_,_,O,λ_=>rfl⟩ (by rw[br];exact qm) (λr hr=>by rw[xl];exact(o3 r (w r hr)).1) (by rw[xl];exact n2) M (λr hr=>(o3 r (w r hr)).2.2.2) (λx hx=>by
  unfold fc at hx;rcases gU.1 hx with rfl|hx
  .exact⟨aY,by decide⟩
  .rw[List.eq_of_mem_replicate hx];exact⟨aY,by decide⟩)
 obtain⟨X3,P3⟩:=P3;have j:=ae.mk λN (X:Ext d N)=>o N (S.trans (X3.trans X));have m:=ae.mk λN (X:Ext d N)=>B N (S.trans (X3.trans X));have hs:=λn=>Mh z who n H qp;have ll0:=o d (S.trans X3);rw[br]at P3;obtain⟨k0,s0,xs,rfl,-,fh,-⟩:=hx;obtain⟨ky,sy,rfl,jY⟩:=E;have ksy:=ae.mk jY;have u23:=cU;have u22:=gy;have z3:=eX;have HI:F (xs.map λa=>[a])=F rows:=by rw[br];exact fh
 have eH:=cG ac;have ko:=ae.mk (aj u K);clear w u o3 hX S X3 A8 H p o B D i fh jY K;unfold I at cc c136 Z;rcases P3 with⟨e1,rfl⟩|⟨l,b,e1,e2,rfl,hb⟩
 .rw[e1]at f;have A:=ae.mk f;clear f e1 j m hs;unfold I at q;refine bG @sL @bg ?_;refine iG [(2,3)] jV bD (λz4 hp=>?_) ?_
  .simp only[ig]at hp;subst hp;refine kj (x:=.ptr (.box (F h.boxes)) 0) (v:=.agg [.list k0 s0 (xs.map λa=>[a]),.list ky sy (ints ac)]) bD O O O bD (svs) ?_ ?_<;>(simp only[dw,cX];exact dV @sL @and_self)
  refine bh @sL ?_;exact⟨_,_,O,.inl ⟨0,A.out,O⟩⟩
 rw[e1]at f;have A:=ae.mk f;have kb:=ae.mk (aj hb e2);have mk:=vK d (F rows) M .i64 .i64;have rV:bB (F rows) (I 0)=(ki (F rows) (dJ ac who) l (F (ex ac who 0))).map I:=by unfold ki;rw[show(F (ex ac who 0))=0 from O,cX,CE,xR]
 rw[rV]at mk;clear f e1 rV hb;unfold I at q mk;refine bG @sL @bg ?_;refine iG [(2,3)] jV bD (λz4 hp=>?_) ?_
 .simp only[ig]at hp;subst hp;refine kj (x:=.ptr (.box (F h.boxes)) 0) (v:=.agg [.list k0 s0 (xs.map λa=>[a]),.list ky sy (ints ac)]) bD O O O bD (svs) ?_ ?_<;>(simp only[dw,cX];exact dV @sL @and_self)
 refine cK @sL @de @dW ?_;refine bC.gen λt g hY eu dn=>?_;have f1:t.get 1=z:=by rw[g];exact gS
 have f2:t.get 2=.ptr (.box (F h.boxes)) 0:=by rw[g];exact gS
 have f8:t.get 8=.arr b 0 (F (dJ ac who)) (F (dJ ac who)):=by rw[g];exact gS
 have f11:t.get 11=.arr (F d.boxes) 0 (F rows) (F rows):=by rw[g];exact gS
 have f12:t.get 12=.v (.int .i64 (F (ex ac who 0):Nat)):=by rw[g];exact gR
 have f13:t.get 13=.v (.int .i64 (0:Nat)):=by rw[g];exact gR
 have fd:t.defers=[]:=by rw[hY];exact gS
 clear g hY eu dn mk cc cp c136 Z c134 q l0 lH2 ll0 bx svs;refine b_ (λz2 e z0=>∃c:Nat,c<=F rows/\z2=F rows-c/\e.get 1=z/\e.get 2=.ptr (.box (F h.boxes)) 0/\e.get 8=.arr b 0 (F (dJ ac who)) (F (dJ ac who))/\e.get 11=.arr (F d.boxes) 0 (F rows) (F rows)/\e.get 12=.v (.int .i64 (F (ex ac who c):Nat))/\e.get 13=.v (.int .i64 (c:Nat))/\e.defers=[]/\z0=d.push ((ki (F rows) (dJ ac who) l (F (ex ac who c))).map I)) ?_ (F rows) _ _ ?_;rotate_left 1
 .exact⟨0,bY _,O,f1,f2,f8,f11,f12,f13,fd,O⟩
 clear f1 f2 f8 f11 f12 f13 fd;rintro z2 e z0 ⟨c,hi,rfl,g1,g2,g8,g11,g12,g13,hd,rfl⟩;have l0:=j.out (d.push ((ki (F rows) (dJ ac who) l (F (ex ac who c))).map I)) (.push _ _);have l1:=m.out (d.push ((ki (F rows) (dJ ac who) l (F (ex ac who c))).map I)) (.push _ _);by_cases jH:c<F rows;rotate_left 1
 .have gr:c=F rows:=by omega
  subst gr;have hN:ex ac who (F rows)=dJ ac who:=by unfold ex dJ;rw[ko.out.2]
  have kN:=ae.mk hN;clear hN;refine cK @sL @de @dW ?_;refine⟨_,_,O,.inr ⟨_,_,A.out,?_,O,?_⟩⟩
  .rw[<-Jm];exact Jn
  .rw[aK,kN.out,Jm]
 have ev:sy=1:=ksy.out (by intro z5;have K:=ko.out.2;rw[z5,f_]at K;omega);subst ev;have lo:=eS (H:=d.push ((ki (F rows) (dJ ac who) l (F (ex ac who c))).map I)) (l:=ac) (i:=c) (s:=1) (by have:=ko.out.2;omega);have Hg:(c:Int)<(F rows:Int):=by omega
 have aiA:(c:Int)<(F ac:Int):=by have:=ko.out.2;omega
 have z1:=hs (af ac c);cases hc:who.contains (af ac c) with
 |true=>
  rw[hc]at z1;have rO:=PD (show c<F ac by have:=ko.out.2;omega) hc;have di:=(aT.1 rO).1;have Ul:=XP hc;have Md:F (ex ac who (c+1))=F (ex ac who c)+1:=by rw[Ul,ck];rfl
  have ix1:=nZ (b:=b) (len:=(dJ ac who).length) (aS:=(dJ ac who).length) (k:=.i64) di;have ix3:=nZ (b:=d.boxes.length) (len:=rows.length) (aS:=rows.length) (k:=.i64) jH;have lv:=vH (H:=d.push ((ki (F rows) (dJ ac who) l (F (ex ac who c))).map I)) (aN kb.out.1) (us (k:=(ex ac who c).length) (by rw[kb.out.2];exact di));have sk:=uJ (H:=d.push ((ki (F rows) (dJ ac who) l (F (ex ac who c))).map I)) (b:=d.boxes.length) (r:=ki (F rows) (dJ ac who) l (F (ex ac who c))) (k:=c) (x:=af l (F (ex ac who c))) (aK _ _) (by rw[Jn];exact jH);rw[mg,Zl rO,<-Md]at sk;have kNl:=ae.mk Md;clear rO Ul Md hs j m;unfold I at z1 lv sk l0 l1 lo ⊢;refine bA @sL @de @dW @aU ?_;exact⟨F rows-(c+1),by omega,c+1,by omega,O,by trivial,by trivial,by trivial,by trivial,(by rw[kNl.out];first|rfl|simp),by simp,by trivial,by trivial⟩
 |false=>rw[hc]at z1;have Uk:=XO hc;have kNn:=ae.mk Uk;clear Uk hs j m;unfold I at z1;refine bA @sL @de @dW @aU ?_;exact⟨F rows-(c+1),by omega,c+1,by omega,O,by trivial,by trivial,by trivial,by trivial,by rw[kNn.out],by simp,by trivial,by rw[kNn.out]⟩
def L6:List aR:=L5++[37,30,127,26,71,79,44,101,102]
noncomputable def OF:aR->Option (List U->Heap->Option (U × Heap)):=lU W5 L6
noncomputable abbrev W6:=whole aa Gt OF
def aei:mo OF L6:=rK
section
variable (a b n x:Int)
def ace:∀h,W6.call 80 [I a,I b] h=J (.ret (I (dx a b)),h):=bT (L:=L6) O O O (F4 a b _) O rfl
def auk:∀h,W6.call 66 [I x] h=J (.ret (.v (.bool (bX x))),h):=bT (L:=L6) O O O (Fv x _) O rfl
def ahE:∀h,W6.call 75 [I a,I n] h=J (.ret (.tuple [I (fj a n),I (oK a)]),h):=bT (L:=L6) O O O (GP a n _) O rfl
def YY:∀h,W6.call 111 [I x] h=J (.ret (.v (.bool (bX x))),h):=bT (L:=L6) O O O (ark x _) O rfl
def Yw:∀h,W6.call 97 [I n] h=J (.ret (.agg (ar 1 n [] .nil 0 [])),h):=bT (L:=L6) O O O (aoO n _) O rfl
end
def Vj:∀l:List Pr,dm (bH l)=bH l
 | []=>rfl
 |p::l=>by show dm (aB p::bH l)=_;rw[dm,Vj l];rfl
def Lz:∀l:List Pr,fg 0 0 0 (bH l)=V
 | []=>rfl
 |p::l=>by show fg 0 0 0 (aB p::bH l)=_;rw[fg,Lz l];rfl
def Vm:∀l:List (Int × Int),dm (bO l)=bO l
 | []=>rfl
 |p::l=>by show dm (aZ p::bO l)=_;rw[dm,Vm l];rfl
def GB:∀l:List (Int × Int),fg 0 0 0 (bO l)=V
 | []=>rfl
 |p::l=>by show fg 0 0 0 (aZ p::bO l)=_;rw[fg,GB l];rfl
def Vo:∀l:List Int,dm (l.map Jy)=l.map Jy
 | []=>rfl
 |p::l=>by rw[eI,dm,Vo l];rfl
def TC:∀l:List Int,fg 0 0 0 (l.map Jy)=V
 | []=>rfl
 |p::l=>by rw[eI,fg,TC l];rfl
def PL.hold{x}{l}(h:PL x l):PL (al x) l/\au 0 0 0 (al x)=V:=by obtain⟨d,f,rfl,c⟩:=h;rw[al,Vj];exact⟨⟨bU d,f,O,c⟩,by rw[au,eo,Lz];rfl⟩
def SL.hold{x}{l}(h:SL x l):SL (al x) l/\au 0 0 0 (al x)=V:=by obtain⟨d,f,rfl,c⟩:=h;rw[al,Vm];exact⟨⟨bU d,f,O,c⟩,by rw[au,eo,GB];rfl⟩
def UL.hold{x}{l}(h:UL x l):UL (al x) l/\au 0 0 0 (al x)=V:=by obtain⟨⟨f,g,rfl,d⟩,c⟩:=h;rw[al,Vo];exact⟨⟨⟨bU f,g,O,d⟩,c⟩,by rw[au,eo,TC];rfl⟩
def BL.hold{x}{b}(h:BL x b):BL (al x) b/\au 0 0 0 (al x)=V:=by obtain⟨d,f,rfl,c⟩:=h;rw[al,qn];exact⟨⟨bU d,f,O,c⟩,by rw[au,eo,jl];rfl⟩
def NK{X Y C}{rows}{ac ai}(ep)(hx:RL X rows)(E:IL Y ac)(hc:IL C ai):
 ∃d f c,al (.agg (aM ep X Y C))=.agg (aM ep d f c)/\RL d rows/\IL f ac/\IL c ai/\au 0 0 0 (.agg (aM ep d f c))=V:=by
 obtain⟨g,i⟩:=hx.fk;obtain⟨j,k⟩:=E.hold;obtain⟨m,o⟩:=hc.hold;exact⟨_,_,_,O,g,j,m,by simp[aM,au,aA,i,k,o]⟩
section
variable (ep:Int) (X Y C T L:U) (rows:List (List Int)) (ac ai:List Int) (text:List UInt8) (l:List Pr)
 (hx:RL X rows) (E:IL Y ac) (hc:IL C ai) (ht:BL T text) (hp:PL L l) (eM:ai.length<=1000000) (gJ:l.length<=1000000)
include hx E hc ht hp eM gJ
def RV:(eg rows ac ep ai text l≠0/\∀h,W6.call 37 [.agg (aM ep X Y C),T,L] h=J (.ret (.tuple [.list .nil 0 [],I 0,I 0,I (eg rows ac ep ai text l)]),h))∨
 (eg rows ac ep ai text l=0/\∃Z,IL Z (tF (af ai 0) text l)/\∀h,W6.call 37 [.agg (aM ep X Y C),T,L] h=J (.ret (.tuple [Z,I ((jM (af ai 0) text l:Nat):Int),I ((gp (af ai 0) text l:Nat):Int),I 0]),h)):=by
 obtain⟨d,f,c,j,k,m,o,p⟩:=NK ep hx E hc;obtain⟨q,r⟩:=ht.hold;obtain⟨s,t⟩:=hp.hold;have g:a_ [.agg (aM ep X Y C),T,L]=[.agg (aM ep d f c),al T,al L]:=by rw[a_,a_,a_,a_,j]
 have i:aA 0 0 0 [.agg (aM ep d f c),al T,al L]=V:=by rw[aA,aA,aA,aA,p,r,t];rfl
 obtain⟨D,z,y,⟨w,rfl⟩|⟨w,Z,rfl,u⟩⟩:=adC ⟨[],[],0,[]⟩ vM ep d f c (al T) (al L) rows ac ai text l k m o q s eM gJ
 .exact .inl ⟨w,bT (L:=L6) O g i y O O⟩
 .obtain⟨A,B,rfl,v⟩:=u;refine .inr ⟨w,.list (bU A) B (ints _),⟨_,_,O,v⟩,bT (L:=L6) O g i y ?_ ?_⟩
  .rfl
  .rw[au,aA,au,eo,ju];rfl
def alm(k:U)(s:List (Int × Int))(c d f:Int)(B:SL k s)(i:F s<=1000000):
 ∀h,W6.call 30 [.agg (aM ep X Y C),T,L,I c,k,I d,I f] h=J (.ret (.tuple [I (oQ rows ac ep ai text l c s d f).1,I (oQ rows ac ep ai text l c s d f).2]),h):=by
 obtain⟨m,o,j,p,q,r,t,u⟩:=NK ep hx E hc;obtain⟨v,w⟩:=ht.hold;obtain⟨y,z⟩:=hp.hold;obtain⟨A,g⟩:=B.hold;obtain⟨K,H,D,rfl⟩:=alk ⟨[],[],0,[]⟩ vM ep m o j (al T) (al L) (al k) rows ac ai text l s c d f q r t v y A eM gJ i;exact bT (L:=L6) O (by simp only[a_];rw[p];rfl) (by simp only[aA];rw[u,w,z,g];rfl) D O rfl
end
def Z8(c e s)(T)(text)(ht:BL T text)(g:F text<=1000000):
 ∀h,W6.call 26 [I c,T,.agg [I e,I s]] h=J (.ret (.v (.bool (rC c text e s))),h):=by
 obtain⟨⟨m,o,d,i⟩,f⟩:=ht.hold;obtain⟨p,k,j,rfl,-⟩:=aul ⟨[],[],0,[]⟩ c e s m o text i g;exact bT (L:=L6) O (by simp only[a_];rw[d];rfl) (by rw[<-d];simp only[aA];rw[f];rfl) j O rfl
def afQ(x y z)(rows)(ac d)(c)(hx:RL x rows)(E:IL y ac)(t:IL z d)(s:F d<=1000)(g:F rows<=1000000):
 (p_ rows ac c d≠0/\∀h,W6.call 71 [.agg [x,y],I c,z] h=J (.ret (.tuple [.list .nil 0 [],.list .nil 0 [],I (p_ rows ac c d)]),h))∨
 (p_ rows ac c d=0/\∃H K,SL H (oJ rows (c::d))/\IL K (p8 (c::d))/\∀h,W6.call 71 [.agg [x,y],I c,z] h=J (.ret (.tuple [H,K,I 0]),h)):=by
 obtain⟨k,m,o,p⟩:=ob hx E;obtain⟨q,r⟩:=t.hold;have f:aA 0 0 0 [.agg [al x,al y],I c,al z]=V:=by simp[aA,au,o,p,r,I]
 obtain⟨Z,S,N,⟨w,rfl⟩|⟨w,t1,A,t2,D,rfl,i,j⟩⟩:=afP ⟨[],[],0,[]⟩ vM (al x) (al y) (al z) rows ac d c k m q s g
 .exact .inl ⟨w,bT (L:=L6) (B:=[.agg [al x,al y],I c,al z]) O O f N O O⟩
 .refine .inr ⟨w,.list (bU t1) A (bO _),.list (bU t2) D (ints _),⟨_,_,O,i⟩,⟨_,_,O,λ_=>j⟩,bT (L:=L6) (B:=[.agg [al x,al y],I c,al z]) O O f N ?_ ?_⟩
  .rfl
  .rw[au,aA,au,eo,GB,aA,au,eo,ju];rfl
def aeT(x y)(rows)(ac)(hx:RL x rows)(E:IL y ac):∀h,W6.call 35 [.agg [x,y]] h=J (.ret (I (cH rows ac)),h):=by obtain⟨c,d,f,g⟩:=ob hx E;exact bT (L:=L6) (B:=[.agg [al x,al y]]) O O (by simp[aA,au,f,g]) (Lk (al x) (al y) rows ac c d _) O rfl
def afn(x y)(rows)(ac)(hx:RL x rows)(E:IL y ac):∀h,W6.call 134 [.agg [x,y]] h=J (.ret (I (cg rows:Nat)),h):=by obtain⟨c,d,f,g⟩:=ob hx E;exact bT (L:=L6) (B:=[.agg [al x,al y]]) O O (by simp[aA,au,f,g]) (afm (al x) (al y) rows ac c d _) O rfl
def amT(x)(l)(hx:IL x l)(f:F l<=9223372036854775807):∀h,W6.call 43 [x] h=J (.ret (.v (.bool (dy (-1) l))),h):=by obtain⟨c,d⟩:=hx.hold;exact bT (L:=L6) (B:=[al x]) O O (by simp[aA,d]) (XJ (al x) l c f _) O rfl
def ab7(x y z)(rows)(ac who)(hx:RL x rows)(E:IL y ac)(q:IL z who)(i:F who<=1099511627776):
 (∃e,fG rows ac who=([],ah,e)/\∀h,W6.call 39 [.agg [x,y],z] h=J (.ret (.tuple [.list .nil 0 [],.v (.bool ah),I e]),h))∨
 ∃l,fG rows ac who=(l,V,0)/\F l=F rows/\∃Z,IL Z l/\∀h,W6.call 39 [.agg [x,y],z] h=J (.ret (.tuple [Z,.v (.bool V),I 0]),h):=by
 obtain⟨d,j,k,m⟩:=ob hx E;obtain⟨o,p⟩:=q.hold;have g:aA 0 0 0 [.agg [al x,al y],al z]=V:=by simp[aA,au,k,m,p]
 obtain⟨u,v,t,c,-⟩:=d.form;rw[c]at d;rcases Ro u v t (al y) (al z) rows ac who d j o i with⟨e,r,f⟩|⟨l,r,s,f⟩
 .rw[<-c]at f;exact .inl ⟨e,r,bT (L:=L6) (B:=[.agg [al x,al y],al z]) O O g (f _) O O⟩
 .rw[<-c]at f;refine .inr ⟨l,r,s,.list .held 1 (ints l),⟨_,_,O,λ_=>rfl⟩,bT (L:=L6) (B:=[.agg [al x,al y],al z]) O O g (f _) ?_ ?_⟩
  .rfl
  .rw[au,aA,au,ju];rfl
def fk(k):bU (bU k)=bU k:=by cases k<;>rfl
def apt{l}{rows}(f:fX l rows)(d:dm rows=rows)(k)(i:F rows<=1000000):∀h,W2.call 96 [.list k 4 rows] h=J (.ret (.agg (ar 3 0 [] (bU k) 4 rows)),h):=by
 have j:b9 (.list l) (ar 3 0 [] k 4 rows):=.list l k 4 rows f.1 (λ_=>rfl) i f.2;obtain⟨g,c⟩:=b9.hold _ _ j;have e:a_ (ar 3 0 [] k 4 rows)=ar 3 0 [] (bU k) 4 (dm rows):=rfl;rw[e,d]at g c;refine bT (L:=L2) (B:=[.list (bU k) 4 rows]) O ?_ ?_ (apy _ _ _ _) ?_ ?_
 .simp only[a_,al,d]
 .unfold ar at c;simp only[aA,bm]at c ⊢;exact⟨c.2.2.2.1,aX⟩
 .show U.agg [I 3,I 0,sv [],.list (bU (bU k)) 4 rows]=_;rw[fk];rfl
 .rw[au];exact c
def aqP(s):∀h,W3.call 99 [sv s] h=J (.ret (.agg (ar 2 0 s .nil 0 [])),h):=bT (L:=L3) O O O (aqO s _) O rfl
def aoq{v}{r}(i:b9 v r)(f:fA v<=16)(g:F (cB v)<=1099511600000):∃t,∀h,W3.call 100 [.agg r] h=J (.ret (.tuple [.list t 1 (bJ (cB v)),.v (.int .i64 0)]),h):=by obtain⟨c,d⟩:=b9.hold v r i;obtain⟨t,j⟩:=aop c f g;exact⟨bU t,bT (L:=L3) (B:=[.agg (a_ r)]) O O (by simpa [aA,au] using d) (j _) O (by simp[au,aA,eo,jl])⟩
def apu{l}{rows}(f:fX l rows)(d:dm rows=rows)(k)(g:F rows<=1000000):∀h,W3.call 96 [.list k 4 rows] h=J (.ret (.agg (ar 3 0 [] (bU k) 4 rows)),h):=by
 have j:b9 (.list l) (ar 3 0 [] k 4 rows):=.list l k 4 rows f.1 (λ_=>rfl) g f.2;obtain⟨i,c⟩:=b9.hold _ _ j;have e:a_ (ar 3 0 [] k 4 rows)=ar 3 0 [] (bU k) 4 (dm rows):=rfl;rw[e,d]at i c;refine bT (L:=L3) (B:=[.list (bU k) 4 rows]) O ?_ ?_ (apt f d (bU k) g _) ?_ ?_
 .simp only[a_,al,d]
 .unfold ar at c;simp only[aA,bm]at c ⊢;exact⟨c.2.2.2.1,aX⟩
 .show U.agg [I 3,I 0,sv [],.list (bU (bU (bU k))) 4 rows]=_;rw[fk,fk];rfl
 .rw[au];exact c
def aqQ(s):∀h,W4.call 99 [sv s] h=J (.ret (.agg (ar 2 0 s .nil 0 [])),h):=bT (L:=L4) O O O (aqP s _) O rfl
def aor{v}{r}(i:b9 v r)(f:fA v<=16)(g:F (cB v)<=1099511600000):∃t,∀h,W4.call 100 [.agg r] h=J (.ret (.tuple [.list t 1 (bJ (cB v)),.v (.int .i64 0)]),h):=by obtain⟨c,d⟩:=b9.hold v r i;obtain⟨t,j⟩:=aoq c f g;exact⟨bU t,bT (L:=L4) (B:=[.agg (a_ r)]) O O (by simpa [aA,au] using d) (j _) O (by simp[au,aA,eo,jl])⟩
def apv{l}{rows}(f:fX l rows)(d:dm rows=rows)(k)(g:F rows<=1000000):∀h,W4.call 96 [.list k 4 rows] h=J (.ret (.agg (ar 3 0 [] (bU k) 4 rows)),h):=by
 have j:b9 (.list l) (ar 3 0 [] k 4 rows):=.list l k 4 rows f.1 (λ_=>rfl) g f.2;obtain⟨i,c⟩:=b9.hold _ _ j;have e:a_ (ar 3 0 [] k 4 rows)=ar 3 0 [] (bU k) 4 (dm rows):=rfl;rw[e,d]at i c;refine bT (L:=L4) (B:=[.list (bU k) 4 rows]) O ?_ ?_ (apu f d (bU k) g _) ?_ ?_
 .simp only[a_,al,d]
 .unfold ar at c;simp only[aA,bm]at c ⊢;exact⟨c.2.2.2.1,aX⟩
 .show U.agg [I 3,I 0,sv [],.list (bU (bU (bU k))) 4 rows]=_;rw[fk,fk];rfl
 .rw[au];exact c
def aqR(s):∀h,W5.call 99 [sv s] h=J (.ret (.agg (ar 2 0 s .nil 0 [])),h):=gE (L:=L5) O O O (aqQ s _) O rfl
def aos{v}{r}(i:b9 v r)(f:fA v<=16)(g:F (cB v)<=1099511600000):∃t,∀h,W5.call 100 [.agg r] h=J (.ret (.tuple [.list t 1 (bJ (cB v)),.v (.int .i64 0)]),h):=by obtain⟨c,d⟩:=b9.hold v r i;obtain⟨t,j⟩:=aor c f g;exact⟨bU t,gE (L:=L5) (B:=[.agg (a_ r)]) O O (by simpa [aA,au] using d) (j _) O (by simp[au,aA,eo,jl])⟩
def apw{l}{rows}(f:fX l rows)(d:dm rows=rows)(k)(g:F rows<=1000000):∀h,W5.call 96 [.list k 4 rows] h=J (.ret (.agg (ar 3 0 [] (bU k) 4 rows)),h):=by
 have j:b9 (.list l) (ar 3 0 [] k 4 rows):=.list l k 4 rows f.1 (λ_=>rfl) g f.2;obtain⟨i,c⟩:=b9.hold _ _ j;have e:a_ (ar 3 0 [] k 4 rows)=ar 3 0 [] (bU k) 4 (dm rows):=rfl;rw[e,d]at i c;refine gE (L:=L5) (B:=[.list (bU k) 4 rows]) O ?_ ?_ (apv f d (bU k) g _) ?_ ?_
 .simp only[a_,al,d]
 .unfold ar at c;simp only[aA,bm]at c ⊢;exact⟨c.2.2.2.1,aX⟩
 .show U.agg [I 3,I 0,sv [],.list (bU (bU (bU k))) 4 rows]=_;rw[fk,fk];rfl
 .rw[au];exact c
def aqS(s):∀h,W6.call 99 [sv s] h=J (.ret (.agg (ar 2 0 s .nil 0 [])),h):=bT (L:=L6) O O O (aqR s _) O rfl
def aot{v}{r}(i:b9 v r)(f:fA v<=16)(g:F (cB v)<=1099511600000):∃t,∀h,W6.call 100 [.agg r] h=J (.ret (.tuple [.list t 1 (bJ (cB v)),.v (.int .i64 0)]),h):=by obtain⟨c,d⟩:=b9.hold v r i;obtain⟨t,j⟩:=aos c f g;exact⟨bU t,bT (L:=L6) (B:=[.agg (a_ r)]) O O (by simpa [aA,au] using d) (j _) O (by simp[au,aA,eo,jl])⟩
def apx{l}{rows}(f:fX l rows)(d:dm rows=rows)(k)(g:F rows<=1000000):∀h,W6.call 96 [.list k 4 rows] h=J (.ret (.agg (ar 3 0 [] (bU k) 4 rows)),h):=by
 have j:b9 (.list l) (ar 3 0 [] k 4 rows):=.list l k 4 rows f.1 (λ_=>rfl) g f.2;obtain⟨i,c⟩:=b9.hold _ _ j;have e:a_ (ar 3 0 [] k 4 rows)=ar 3 0 [] (bU k) 4 (dm rows):=rfl;rw[e,d]at i c;refine bT (L:=L6) (B:=[.list (bU k) 4 rows]) O ?_ ?_ (apw f d (bU k) g _) ?_ ?_
 .simp only[a_,al,d]
 .unfold ar at c;simp only[aA,bm]at c ⊢;exact⟨c.2.2.2.1,aX⟩
 .show U.agg [I 3,I 0,sv [],.list (bU (bU (bU k))) 4 rows]=_;rw[fk,fk];rfl
 .rw[au];exact c
def I0:Tryz.f94.results.toList=[.tmp 4]:=by kernel_rfl
def sJ:Tryz.f84.results.toList=[.tmp 2]:=by kernel_rfl
def afu(h:Heap)(x y z:U)(rows:List (List Int))(ac ai:List Int)(hx:RL x rows)(E:IL y ac)(hz:IL z ai)(hl:F ai<=1000000):
 ∃r h',W6.call 94 [.agg [x,y],z] h=J (r,h')/\h'=h.push [x,y]/\r=.ret (.v (.bool (ai.all bX&&decide (F ai=cg rows)))):=by
 have bx:=uu hx E;have c1:=afn x y rows ac hx E;have l0:=uo (aK h [x,y]);have o:=λn=>YY n;obtain⟨z0,Z,rfl,A⟩:=hz;have ks:=ae.mk A;clear A hx E;have u23:=cU;have z3:=eX;have eH:=cG ai;obtain⟨q,s⟩:∃q,h.push [x,y]=q:=⟨_,O⟩;rw[s]at l0;rw[s];unfold I at c1 o;refine bL O Tryz.func94 O ?_;refine cK @I0 @bg @s ?_;refine bC.gen λm f p v w=>?_;have f1:m.get 1=.list z0 Z (ints ai):=by rw[f];exact gS
 have f2:m.get 2=.ptr (.box (F h.boxes)) 0:=by rw[f];exact gS
 have f5:m.get 5=.v (.int .i64 (0:Nat)):=by rw[f];exact gR
 have u:m.defers=[]:=by rw[p];exact gS
 clear f p v w bx;refine b_ (λz1 e S=>∃d:Nat,d<=F ai/\z1=F ai-d/\ae ((ai.take d).all bX=V)/\e.get 1=.list z0 Z (ints ai)/\e.get 2=.ptr (.box (F h.boxes)) 0/\e.get 5=.v (.int .i64 (d:Nat))/\e.defers=[]/\S=q) ?_ (F ai) _ _ ?_;rotate_left 1
 .exact⟨0,bY _,O,⟨b8⟩,f1,f2,f5,u,O⟩
 clear f1 f2 f5 u;rintro z1 e S ⟨d,hi,rfl,D,g1,g2,g5,hd,rfl⟩;by_cases c:d<F ai
 .have B:Z=1:=ks.out (by intro z2;rw[z2]at c;simp at c);subst B;have ld:=eS (H:=S) (s:=1) c;have k:ai[d]?=J (af ai d):=by rw[aP c,gb c]
  have fO:(d:Int)<(F ai:Int):=by omega
  have t:=o (af ai d);have g:(ai.take (d+1)).all bX=bX (af ai d):=by rw[gg k,sZ,D.out];simp
  have K:=ae.mk (aj g (cT k));clear g k o;generalize af ai d=n at *
  cases i:bX n with
  |false=>rw[i]at t;have kf:ae (ai.all bX=ah):=⟨by rw[List.all_eq_false];exact⟨n,K.out.2,by rw[i];simp⟩⟩;clear i;refine bG @I0 @aU ?_;exact⟨_,_,O,O,by rw[kf.out];rfl⟩
  |true=>rw[i]at t;have N:ae ((ai.take (d+1)).all bX=V):=⟨K.out.1.trans i⟩;clear i;refine bG @I0 @aU ?_;exact⟨F ai-(d+1),by omega,d+1,by omega,O,N,by simp⟩
 .have:d=F ai:=by omega
  subst this;have:=D.out;rw[fK]at this;have H:=ae.mk this;have j:decide ((F ai:Int)=(cg rows:Int))=decide (F ai=cg rows):=by rw[decide_eq_decide];omega
  have kd:=ae.mk j;clear this o j;generalize decide (F ai=cg rows)=dd at *
  refine bh @I0 ?_;exact⟨_,_,O,O,by rw[H.out,kd.out];rfl⟩
def amw(p:Pr):Bool:=decide (0<=p.aO)&&decide (p.aO<64)&&decide (0<=p.no)&&decide (p.no<4096)&&bX p.d&&bX p.e
def agD(h:Heap)(x y:U)(rows:List (List Int))(ac:List Int)(hx:RL x rows)(E:IL y ac):
 ∃r h',W6.call 84 [.agg [x,y]] h=J (r,h')/\h'=h.push [x,y]/\∃b,r=.ret (.v (.bool b))/\(b=V->F rows<=80/\F ac<=80):=by
 have bx:=uu hx E;have l0:=ox (aK h [x,y]);have l1:=xv (aK h [x,y]);obtain⟨z3,z1,B,rfl,N,fh,v⟩:=hx;obtain⟨ky,sy,rfl,jY⟩:=E;have kk:=ae.mk (aj N v);clear N v jY;have u23:=cU;have u22:=gy;have z23:=hw;have eH:F (B.map λa=>[a])=F rows:=by rw[br];exact fh
 have avz:=cG ac;obtain⟨z,d⟩:∃z,h.push [.list z3 z1 (B.map λa=>[a]),.list ky sy (ints ac)]=z:=⟨_,O⟩;rw[d]at l0 l1;rw[d];refine bL O Tryz.func84 O ?_;by_cases j:80<F rows
 .have q:(80:Int)<(F rows:Int):=by omega
  have c:(16:Int)<(F rows:Int):=by omega
  have f:¬(F rows:Int)<=64:=by omega
  clear j;refine bA @sJ @bg @d (aj @de @dW) ?_;exact⟨_,_,O,O,ah,O,λg=>by cases g⟩
 by_cases s:80<F ac
 .have w:(80:Int)<(F ac:Int):=by omega
  have q:¬(80:Int)<(F rows:Int):=by omega
  by_cases p:16<F rows
  .have c:(16:Int)<(F rows:Int):=(by omega);by_cases t:F rows<=64
   .have f:(F rows:Int)<=64:=(by omega);clear p t j s;refine bA @sJ @bg @d (aj @de @dW) ?_;exact⟨_,_,O,O,ah,O,λg=>by cases g⟩
   .have f:¬(F rows:Int)<=64:=(by omega);clear p t j s;refine bA @sJ @bg @d (aj @de @dW) ?_;exact⟨_,_,O,O,ah,O,λg=>by cases g⟩
  .have c:¬(16:Int)<(F rows:Int):=(by omega);clear p j s;refine bA @sJ @bg @d (aj @de @dW) ?_;exact⟨_,_,O,O,ah,O,λg=>by cases g⟩
 have kq:ae (F rows<=80/\F ac<=80):=⟨M,by omega⟩;have l_:F rows<=80:=by omega
 have q:¬(80:Int)<(F rows:Int):=by omega
 have w:¬(80:Int)<(F ac:Int):=by omega
 have key:(16<F rows/\F rows<=64)∨¬(16:Int)<(F rows:Int)∨((16:Int)<(F rows:Int)/\¬(F rows:Int)<=64):=by omega
 rcases key with⟨p,t⟩|key
 .have c:(16:Int)<(F rows:Int):=by omega
  have f:(F rows:Int)<=64:=by omega
  clear p t j s;refine bA @sJ @bg @d (aj @de @dW) ?_;exact⟨_,_,O,O,ah,O,λg=>by cases g⟩
 clear j s;rcases key with c|⟨c,f⟩
 all_goals
  refine bA @sJ @bg @d (aj @de @dW) ?_;refine bC.gen λA m u H K=>?_;have f1:A.get 1=.ptr (.box (F h.boxes)) 0:=by rw[m];exact gS
  have f3:A.get 3=.v (.int .i64 (0:Nat)):=by rw[m];exact gR
  have D:A.defers=[]:=by rw[u];exact gS
  clear m u H K bx l1 c q w d
  try clear f
  refine b_ (λz2 e z0=>∃i:Nat,i<=F rows/\z2=F rows-i/\e.get 1=.ptr (.box (F h.boxes)) 0/\e.get 3=.v (.int .i64 (i:Nat))/\e.defers=[]/\z0=z) ?_ (F rows) _ _ ?_;rotate_left 1
  .exact⟨0,bY _,O,f1,f3,D,O⟩
  clear f1 f3 D;rintro z2 e z0 ⟨i,hi,rfl,g1,g3,hd,rfl⟩;by_cases o:i<F rows
  .have S:z1=1:=kk.out.1 (by intro g;rw[g]at o;simp at o);subst S;obtain⟨a,k⟩:∃a,B[i]?=J a:=⟨_,aP M⟩;obtain⟨r,hv⟩:∃r,rows[i]?=J r:=⟨_,aP o⟩;have ld:=iX (H:=z0) (s:=1) k;obtain⟨ka,sa,rfl,Z⟩:=kk.out.2 i a r k hv;have Bb:=cG r;have fO:(i:Int)<(F rows:Int):=(by omega);clear k hv Z;by_cases p1:(16:Int)<(F r:Int)
   .by_cases p2:(F r:Int)<=64
    .refine bA @sJ @de @dW @aU ?_;exact⟨_,_,O,O,ah,O,λg=>by cases g⟩
    .by_cases p3:(80:Int)<(F r:Int)
     .refine bA @sJ @de @dW @aU ?_;exact⟨_,_,O,O,ah,O,λg=>by cases g⟩
     .refine bA @sJ @de @dW @aU ?_;exact⟨F rows-(i+1),by omega,i+1,by omega,O,by simp⟩
   .have p3:¬(80:Int)<(F r:Int):=(by omega);refine bA @sJ @de @dW @aU ?_;exact⟨F rows-(i+1),by omega,i+1,by omega,O,by simp⟩
  .have:i=F rows:=(by omega);subst this;refine cK @sJ @de @dW ?_;exact⟨_,_,O,O,V,O,λ_=>⟨by first|trivial|omega,kq.out.2⟩⟩
def BY:Tryz.f98.results.toList=[.cell 2 118]:=by kernel_rfl
def adj:iI aa 118 [(0,.v (.int .i64 3))]=J (.agg (ar 3 0 [] .nil 0 [])):=by kernel_rfl
def cO(n:Int):List U:=ar 1 n [] .nil 0 []
def PH{H:Heap}{r}(d:(U.agg r).bF=J r)(c:F r=4):bV aa (H.push (ar 0 0 [] .nil 0 [])) 118 (.ptr (.box (F H.boxes)) 0) (.agg r)=J (H.push r):=lJ d nm c rfl
def Wr{H:Heap}{b}{r}(d:F r=4)(c:b<F H.boxes):aD aa Gt (H.put b r) 118 (.ptr (.box b) 0)=J (.agg r):=ni d (dh c)
def Zn{H}{b}{z r}(f:H.boxes[b]?=J z)(g:F z=4)(d:(U.agg r).bF=J r)(c:F r=4):bV aa H 118 (.ptr (.box b) 0) (.agg r)=J (H.put b r):=by rw[fC d nm f c M,xD M]
def ajJ(h:Heap)(fQ:c_ h=V)(k:Tok)(l:List Int)(hl:F l<=1000)(t:l≠[])(hb:∀n∈l,0<=n/\n<=4611686018427387903):
 ∃r h',W6.call 98 [.list k 1 (ints l)] h=J (r,h')/\∃n,r=.ret (.agg (ar 3 0 [] (.free n) 4 (l.map cO))):=by
 have z4:=sQ;have bd:=adj;have u23:=cU;have u94:=lO;have z3:=eX;have eH:=cG l;have D:=PH (H:=h.push (ar 0 0 [] .nil 0 [])) (r:=ar 3 0 [] .nil 0 []) O O;have q:F (h.push (ar 0 0 [] .nil 0 [])).boxes=F h.boxes+1:=bE _ _;have N:oF h ((h.push (ar 0 0 [] .nil 0 [])).push (ar 3 0 [] .nil 0 [])) (F h.boxes+1) ((l.map Vl.int).take 0) .nil 0 []:=⟨by rw[<-q];exact aK _ _,.inl O,fQ,(Ext.push _ _).trans (.push _ _),Nat.le_succ _,⟨O,λc z5 r z0=>by simp at z0⟩,λz0=>absurd O z0,λ_=>.inr O,O⟩;have K:((h.push (ar 0 0 [] .nil 0 [])).push (ar 3 0 [] .nil 0 [])).boxes[h.boxes.length]?=J (ar 0 0 [] .nil 0 []):=aN (aK _ _);have m:=ae.mk (aj N K);rw[q]at D;clear N K;have kb:=ae.mk (aj hb t);clear hb t;obtain⟨S,hH⟩:∃S,(h.push (ar 0 0 [] .nil 0 [])).push (ar 3 0 [] .nil 0 [])=S:=⟨_,O⟩;rw[hH]at D m;refine bL O Tryz.func98 O ?_;refine cK @BY @bg @iZ ?_;refine bC.gen λi g p eu dn=>?_;have f0:i.get 0=.list k 1 (ints l):=by rw[g];exact gS
 have f2:i.get 2=.ptr (.box (F h.boxes)) 0:=by rw[g];exact gS
 have f3:i.get 3=.ptr (.box (F h.boxes+1)) 0:=by rw[g];simp only[gW,reduceIte,aH,aC,bE]
 have f4:i.get 4=.v (.int .i64 (0:Nat)):=by rw[g];exact gR
 have fd:i.defers=[]:=by rw[p];exact gS
 clear g p eu dn D hH z4 bd;refine b_ (λz1 e f=>∃(c:Nat) (H:Tok) (E:Nat),c<=F l/\z1=F l-c/\ae (oF h f (F h.boxes+1) ((l.map Vl.int).take c) H E ((l.take c).map cO)/\f.boxes[h.boxes.length]?=J (ar 0 0 [] .nil 0 []))/\ae (0<c->(∃n,H=.free n)/\E=4)/\e.get 0=.list k 1 (ints l)/\e.get 2=.ptr (.box (F h.boxes)) 0/\e.get 3=.ptr (.box (F h.boxes+1)) 0/\e.get 4=.v (.int .i64 (c:Nat))/\e.defers=[]) ?_ (F l) _ _ ?_;rotate_left 1
 .exact⟨0,.nil,0,bY _,O,m,⟨λz0=>absurd z0 (Nat.lt_irrefl _)⟩,f0,f2,f3,f4,fd⟩
 clear f0 f2 f3 f4 fd m;rintro z1 e f ⟨c,H,E,hi,rfl,d,B,g0,g2,g3,g4,hd⟩;by_cases j:c<F l
 .have o:l[c]?=J (af l c):=by rw[aP j,gb j]
  have v:b9 (.int (af l c)) (cO (af l c)):=.int _ (kb.out.1 _ (cT o));have ld:=eS (H:=f) (s:=1) j;have z2:=λf=>Yw (af l c) f;have u:F ((l.take c).map cO)<1000000:=by rw[br,cR];omega
  have l3:=jJ d.out.1.box;have ap:=x9 (r:=cO (af l c)) u d.out.1.four d.out.1.nil d.out.1.can;have bl:=yc (r:=cO (af l c)) O O;have st:=xE (H:=f.app H) (t2:=.free f.tn) (sz2:=4) (rows2:=(l.take c).map cO++[cO (af l c)]) (by rw[dS];exact d.out.1.box);have y:=d.out.1.put v O;have z:(l.take c).map cO++[cO (af l c)]=(l.take (c+1)).map cO:=by rw[gg o,jQ];rfl
  have Z:(l.map Vl.int).take c++[Vl.int (af l c)]=(l.map Vl.int).take (c+1):=by rw[gg (x:=Vl.int (af l c)) (by rw[ec,o];rfl)]
  rw[z,Z]at y;rw[z]at ap st;have kG2:ae (oF h ((f.app H).put (F h.boxes+1) (ar 3 0 [] (.free f.tn) 4 ((l.take (c+1)).map cO))) (F h.boxes+1) ((l.map Vl.int).take (c+1)) (.free f.tn) 4 ((l.take (c+1)).map cO)/\((f.app H).put (F h.boxes+1) (ar 3 0 [] (.free f.tn) 4 ((l.take (c+1)).map cO))).boxes[h.boxes.length]?=J (ar 0 0 [] .nil 0 [])):=⟨y,by rw[cd M,dS];exact d.out.2⟩;have kN2:ae (0<c+1->(∃n,Tok.free f.tn=.free n)/\4=4):=⟨λ_=>⟨⟨_,O⟩,O⟩⟩;have fO:(c:Int)<(F l:Int):=by omega
  have w:ar 1 (af l c) [] .nil 0 []=cO (af l c):=rfl;rw[w]at z2;clear y z Z o v u d B w;generalize cO (af l c)=r at *
  generalize af l c=n at *
  unfold I at *
  refine cK @BY @d_ @aU ?_
  repeat' (first|simp(maxSteps:=9999999) (disch:=first|exact dZ|fail) only[gW,reduceIte,aH,aC,BY,d_,aU, *]|(refine dX ?_ ?_<;>(intro _;try omega))|refine du aei bD ?_)
  exact⟨F l-(c+1),by omega,c+1,.free f.tn,4,by omega,O,(by first|exact kG2|trivial),(by first|exact kN2|trivial),by simp⟩
 .have gr:c=F l:=by omega
  subst gr;obtain⟨⟨n,rfl⟩,rfl⟩:=B.out (Kb.2 kb.out.2);have A:=d.out.1;rw[fK]at A;have ld:=ni (r:=ar 3 0 [] (.free n) 4 (l.map cO)) O A.box;have st:=Zn (r:=ar 3 0 [] (.free n) 4 (l.map cO)) d.out.2 O O O;have ll:=Wr (H:=f) (r:=ar 3 0 [] (.free n) 4 (l.map cO)) O (aT.1 d.out.2).1;clear A d B;refine bh @BY ?_;exact⟨_,_,O,n,O⟩
def L7:List aR:=L6++[131,84,94,253,197,199,198,137,196,200,98,194]
noncomputable def Iu:aR->Option (List U->Heap->Option (U × Heap)):=lU W6 L7
noncomputable abbrev W7:=whole aa Gt Iu
def Sk:mo Iu L7:=rK
end Go.Proofs.YtcbhpkjbiehcpaaGreatDoor
end
