/-
  The engine, part 53: a guarded load behind an operation that acts.
-/
import Derived.Test.YtnfciiiohoafaaaGreatDoorXF
import Derived.Test.YtnfciiiohoafaaaGreatDoorXB
open True renaming intro->aY
open Option renaming none->av,some->aa,map_some->ft
open Bool renaming true->ah,and_eq_true->bI,false->aB,not_eq_true->adt,not_eq_false'->ads,true_and->rT
open List renaming mem_cons->iU,getElem?_eq_getElem->aU,drop_eq_getElem_cons->y6,getElem?_eq_some_iff->aW,not_mem_nil->xC,length_map->bF,length_take->fm,map_append->mY,take_succ_cons->iV,take_zero->gF,take_length->fN,drop_of_length_le->rh,all_eq_true->eK,getElem_mem->iK,map_eq_nil_iff->GW,map_cons->eL,mem_of_getElem?->dy,getElem?_map->ey,range->bO,range_succ->nD,filter_append->y7,length_filter_le->GV,mem_map->kC,mem_range->gf,mem_filter->we,length_range->ad2,mem_singleton->nC,append_assoc->ua,getElem?_append_right->AL,foldl_append->oI,length_pos_iff->N2,mem_cons_self->gq,pairwise_cons->GY,mem_cons_of_mem->fM,length_set->mJ,getElem?_set->mW,ext_getElem?->rW,getD_eq_getElem?_getD->eE,length_nil->lP,length_append->dM,length_cons->jd,getElem?_range->y8,append_nil->jC,getElem?_drop->pX,getElem?_of_mem->vd,replicate->br,foldl_nil->GR,map_replicate->y9
open Go.Proofs.Tryz renaming prog->aq,func127->aeE,underlying36->aeV,underlying22->jf,underlying23->dY
open Nat renaming le_of_ble_eq_true->jS,le_refl->aL,zero_le->cD,le_trans->fG,beq_refl->ael,lt_or_ge->ez,sub_self->ve,mul_le_mul->ri,reduceEqDiff->aS,zero_add->qA
open And renaming intro->az
open Decidable renaming not_not->J6
open Int renaming toNat_natCast->dW
open Array renaming getElem?_eq_none->yR
open Prod renaming fst->Hk
set_option maxHeartbeats 64000000
set_option maxRecDepth 100000
set_option linter.unusedSimpArgs false
set_option linter.unusedVariables false
set_option linter.constructorNameAsVariable false
set_option linter.defProp false
section
namespace Go.Proofs.YtnfciiiohoafaaaGreatDoor
open Go.AE Go.NT
def lJ(l:List Pr):List Int:=l.map Pr.aA
def T9(ae:List (List Int))(ag:List Int)(ep:Int)(X Y C T L:AV)(aj:List Int)(text:List UInt8)(l:List Pr)(h:ar)(r:fg)(h':ar):Prop:=
 Ext h h'/\((cP ae ag ep aj text l≠0/\r=.ret (.tuple [.v (.pointer av),.v (.int .i64 (cP ae ag ep aj text l))]))∨
  (cP ae ag ep aj text l=0/\∃c Wt,r=.ret (.tuple [.ptr (.box c) 0,.v (.int .i64 0)])/\IL Wt (ff ae ag l)/\wh h' c ep X Y C T L Wt ((iQ (al aj 0) text l:Nat):Int) ((ek (al aj 0) text l:Nat):Int) aj text l))
def Ae{l}:∀{dk:Int},gE dk l=ah->∀p∈l,dk<p.aA/\p.aA<64/\0<=p.no/\p.no<4096/\bN p.d=ah/\bN p.e=ah:=by
 induction l with
 |nil=>intro _ _ p hp;simp at hp|cons q l ih=>
  intro dk h p hp;rw[NT.gE] at h;simp only[bI,decide_eq_true_eq] at h;obtain⟨⟨⟨⟨⟨⟨h1,h2⟩,h3⟩,h4⟩,h5⟩,h6⟩,h7⟩:=h;rcases iU.1 hp with rfl|hp
  ·exact⟨h1,h2,h3,h4,h5,h6⟩
  ·obtain⟨k1,k2,k3,k4,k5,k6⟩:=ih h7 p hp;exact⟨ai,k2,k3,k4,k5,k6⟩
def DI{c0}{text}{l}{p}(hd:bN p.d=ah)(he:bN p.e=ah):elem (iZ c0 text l p)=ah:=by unfold iZ fC;rw[I7];exact HE (Cz hd) (xd (Cz he) _)
def apd{c0}{text}{l}{dk:Int}(h:gE dk l=ah):elem (iQ c0 text l)=ah:=
 BN (λp hp=>DI (Ae h p hp).2.2.2.2.1 (Ae h p hp).2.2.2.2.2) A4
def ON(h:ar)(bB:cK h=ah)(ep:Int)(X Y C T L:AV)(ae:List (List Int))(ag aj:List Int)(text:List UInt8)(l:List Pr)
 (hx:RL X ae) (hy:IL Y ag) (hc:IL C aj) (ht:BL T text) (hp:PL L l) (db:aj.length<=1000000) (dG:l.length<=1000000):
 ∃r h',W5.call 48 [.agg (aN ep X Y C),T,L] h=aa (r,h')/\T9 ae ag ep X Y C T L aj text l h r h':=by
 have bx:=uL (ep:=ep) hx hy hc;obtain⟨_,h2,c2,rfl,rfl⟩:=aqY (h.push (aN ep X Y C)) ep X Y C ae ag aj hx hy hc db;have c1:=Wc X Y ae ag hx hy;have b0:=bg h (aN ep X Y C);have l1:aI aq Gt (h.push (aN ep X Y C)) 25 (.ptr (.box h.boxes.length) 1)=aa (.agg [X,Y]):=by rw[iP xL (by kernel_rfl:dJ aq 25=aa 2) b0 (jS rfl)];rfl
 have l2:aI aq Gt (h.push (aN ep X Y C)) 27 (.ptr (.box h.boxes.length) 0)=aa (.agg (aN ep X Y C)):=by rw[iP aw (by kernel_rfl:dJ aq 27=aa 4) b0 (jS rfl)];rfl
 have l3:aI aq Gt ((h.push (aN ep X Y C)).push (aN ep X Y C)) 27 (.ptr (.box h.boxes.length) 0)=aa (.agg (aN ep X Y C)):=by rw[iP aw (by kernel_rfl:dJ aq 27=aa 4) (bh b0) (jS rfl)];rfl
 have ln1:=ht.dQ;have ln2:=hp.dQ;have lst:=ani;have bw:nH aq 98 [(0,.agg (aN ep X Y C)),(1,T),(2,L),(4,.agg (aM 3 0 [] .nil 0 []))]=aa (.agg (iJ ep X Y C T L (.list .nil 0 []) (.list .nil 0 []) 0 0))/\(AV.agg (iJ ep X Y C T L (.list .nil 0 []) (.list .nil 0 []) 0 0)).cd=aa (iJ ep X Y C T L (.list .nil 0 []) (.list .nil 0 []) 0 0):=by obtain⟨kx,sx,xs,rfl,-⟩:=hx.form;obtain⟨ky,sy,rfl,-⟩:=hy;obtain⟨kc,sc,rfl,-⟩:=hc;obtain⟨kt,st,rfl,-⟩:=ht;obtain⟨kp,sp,rfl,-⟩:=hp;exact⟨af4 ep kx ky kc kt kp sx sy sc st sp _ _ _ _ _,rfl⟩
 obtain⟨bw1,bw2⟩:=bw;have kf:=ao.mk (az hx (az hy (az hc (az ht hp))));have B0:BI h (((h.push (aN ep X Y C)).push (aN ep X Y C)).push (iJ ep X Y C T L (.list .nil 0 []) (.list .nil 0 []) 0 0)) ep X Y C T L h.boxes.length ((h.push (aN ep X Y C)).push (aN ep X Y C)).boxes.length (.list .nil 0 []) [] .nil:=
  ⟨((Ext.push _ _).trans (.push _ _)).trans (.push _ _),bB,.inl rfl,bh (bh b0),bg _ _,.inl ⟨rfl,rfl⟩,aL _,by rw[cR,cR];omega⟩
 have X1:=ao.mk (Ext.push h (aN ep X Y C));have X2:=ao.mk ((Ext.push h (aN ep X Y C)).trans (Ext.push _ (aN ep X Y C)));have kE1:ao (de ae ag≠0->cP ae ag ep aj text l=de ae ag):=⟨λq=>by unfold cP;rw[aH q]⟩;have kE2:ao (de ae ag=0->mc ae ep aj=aB->cP ae ag ep aj text l=380):=⟨λq1 q2=>by unfold cP;rw[aJ (by simp[q1]),aH];unfold mc at q2;rw[q2];rfl⟩;have kE3:ao (de ae ag=0->mc ae ep aj=ah->65536<text.length->cP ae ag ep aj text l=2):=⟨λq1 q2 q3=>by unfold cP;unfold mc at q2;rw[aJ (by simp[q1]),aJ (by rw[q2];decide),aH q3]⟩;have kE4:ao (de ae ag=0->mc ae ep aj=ah->¬65536<text.length->64<l.length->cP ae ag ep aj text l=420):=⟨λq1 q2 q3 q4=>by unfold cP;unfold mc at q2;rw[aJ (by simp[q1]),aJ (by rw[q2];decide),aJ q3,aH q4]⟩;have kE5:ao (de ae ag=0->mc ae ep aj=ah->¬65536<text.length->¬64<l.length->gE (-1) l=aB->cP ae ag ep aj text l=420):=⟨λq1 q2 q3 q4 q5=>by unfold cP;unfold mc at q2;rw[aJ (by simp[q1]),aJ (by rw[q2];decide),aJ q3,aJ q4,aH (by rw[q5];rfl)]⟩;have kE6:ao (de ae ag=0->mc ae ep aj=ah->¬65536<text.length->¬64<l.length->gE (-1) l=ah->∀y o e,fV ae ag (lJ l)=(y,o,e)->cP ae ag ep aj text l=if e≠0∨o=aB∨l.length=0 then 420 else 0):=⟨λq1 q2 q3 q4 q5 y o e q6=>by unfold cP;unfold mc at q2;rw[aJ (by simp[q1]),aJ (by rw[q2];decide),aJ q3,aJ q4,aJ (by rw[q5];decide)];unfold lJ at q6;rw[q6]⟩;have kW:ao (∀y o e,fV ae ag (lJ l)=(y,o,e)->ff ae ag l=y):=⟨λy o e q=>by unfold ff;unfold lJ at q;rw[q]⟩;have kR:ao (mc ae ep aj=ah->aj.length=bP ae/\aj.all bN=ah):=⟨λq=>by unfold mc at q;simp only[bI,decide_eq_true_eq] at q;exact⟨q.1.2,q.2⟩⟩;unfold T9;generalize cP ae ag ep aj text l=res at *
 clear hx hy hc ht hp b0;refine di rfl Tryz.func48 rfl ?_;by_cases h0:de ae ag=0;rotate_left 1
 ·have kr:=ao.mk (az h0 (kE1.out h0));clear kE1 kE2 kE3 kE4 kE5 kE6 c2 bw1 bw2 B0 lst l3;generalize de ae ag=q at *
  unfold im at *
  refine cX @oZ @bu @gv ?_;exact⟨_,_,rfl,X1.out,.inl ⟨by rw[kr.out.2];exact kr.out.1,by rw[kr.out.2]⟩⟩
 rw[h0] at c1;cases h1:mc ae ep aj with
 |false=>
  have kr:=ao.mk (kE2.out h0 h1);rw[h1] at c2;clear kE1 kE2 kE3 kE4 kE5 kE6 bw1 bw2 B0 lst l3 h0 h1;unfold im at *
  refine cX @oZ @bu @gv ?_;exact⟨_,_,rfl,X2.out,.inl ⟨by rw[kr.out];decide,by rw[kr.out]⟩⟩
 |true=>
 rw[h1] at c2;by_cases h3:65536<text.length
 ·have kr:=ao.mk (kE3.out h0 h1 h3);have hI:(65536:Int)<(text.length:Int):=by omega
  clear kE1 kE2 kE3 kE4 kE5 kE6 bw1 bw2 B0 lst l3 h0 h1 h3;unfold im at *
  refine cX @oZ @bu @gv ?_;exact⟨_,_,rfl,X2.out,.inl ⟨by rw[kr.out];decide,by rw[kr.out]⟩⟩
 have hI:¬(65536:Int)<(text.length:Int):=by omega
 by_cases h4:64<l.length
 ·have kr:=ao.mk (kE4.out h0 h1 h3 h4);have HP:(64:Int)<(l.length:Int):=by omega
  clear kE1 kE2 kE3 kE4 kE5 kE6 bw1 bw2 B0 lst l3 h0 h1 h3 h4;unfold im at *
  refine cX @oZ @bu @gv ?_;exact⟨_,_,rfl,X2.out,.inl ⟨by rw[kr.out];decide,by rw[kr.out]⟩⟩
 have HP:¬(64:Int)<(l.length:Int):=by omega
 have kbad:=ao.mk (λq=>kE5.out h0 h1 h3 h4 q);have kgood:=ao.mk (λq=>kE6.out h0 h1 h3 h4 q);have kcom:=ao.mk (kR.out h1);have kprog:=ao.mk h0;have ktl:ao (text.length<=65536):=⟨ai⟩;have Lj:l.length<=64:=by omega
 clear kE1 kE2 kE3 kE4 kE5 kE6 kR h0 h1 h3 h4 X1 X2;have kB0:=ao.mk B0;clear B0;obtain⟨HW,XO⟩:∃HW,((h.push (aN ep X Y C)).push (aN ep X Y C)).push (iJ ep X Y C T L (.list .nil 0 []) (.list .nil 0 []) 0 0)=HW:=⟨_,rfl⟩;unfold im at *
 refine cX @oZ @bu @gv ?_;refine eJ mA aw ?_;refine cX @oZ @bu @gv ?_;rw[XO] at kB0;refine bM.gen λe0 aG bE cZ cV=>?_;have f1:e0.get 1=T:=by rw[aG];exact gS
 have f2:e0.get 2=L:=by rw[aG];exact gS
 have f3:e0.get 3=.ptr (.box h.boxes.length) 0:=by rw[aG];exact gS
 have f6:e0.get 6=.ptr (.box ((h.push (aN ep X Y C)).push (aN ep X Y C)).boxes.length) 0:=by rw[aG];exact gS
 have f9:e0.get 9=.list .nil 0 []:=by rw[aG];exact gS
 have f10:e0.get 10=.v (.int .i64 (-1)):=by rw[aG];exact gS
 have f39:e0.get 39=L:=by rw[aG];exact gS
 have f40:e0.get 40=.v (.int .i64 (l.length:Nat)):=by rw[aG];exact gS
 have f41:e0.get 41=.v (.int .i64 (0:Nat)):=by rw[aG];exact gR
 have fd:e0.defers=[]:=by rw[bE];exact gS
 clear aG bE cZ cV c1 c2 l1 l2 l3 bw1 bw2 lst XO hI HP ln1;generalize ((h.push (aN ep X Y C)).push (aN ep X Y C)).boxes.length=c at *
 generalize h.boxes.length=kb at *
 refine cH (λm e H=>∃(i:Nat) (dk:Int) (t:Tok) (sz:Nat) (cur:AV),i<=l.length/\m=l.length - i/\ao (gE dk (l.drop i)=gE (-1) l)/\(-1<=dk)/\ao (BI h H ep X Y C T L kb c cur ((l.take i).map Pr.val) t)/\ao (sz=1∨(lJ (l.take i)=[]/\t=.nil))/\
  e.get 1=T/\e.get 2=L/\e.get 3=.ptr (.box kb) 0/\e.get 6=.ptr (.box c) 0/\e.get 9=.list t sz (ints (lJ (l.take i)))/\e.get 10=.v (.int .i64 dk)/\e.get 39=L/\e.get 40=.v (.int .i64 (l.length:Nat))/\e.get 41=.v (.int .i64 (i:Nat))/\e.defers=[]) ?_ l.length _ _ ?_
 rotate_left 1
 ·exact⟨0,-1,.nil,0,.list .nil 0 [],cD _,rfl,⟨rfl⟩,Int.le_refl _,kB0,⟨.inr ⟨rfl,rfl⟩⟩,f1,f2,f3,f6,f9,f10,f39,f40,f41,fd⟩
 clear f1 f2 f3 f6 f9 f10 f39 f40 f41 fd kB0 HW;rintro m e H ⟨i,dk,t,sz,cur,hi,rfl,kP,mC,kB,ksz,g1,g2,g3,g6,g9,g10,g39,g40,g41,hd⟩;by_cases aC:i<l.length
 ·obtain⟨p,sD⟩:∃p,l[i]?=aa p:=⟨_,aU aC⟩;have qg:l.drop i=p::l.drop (i+1):=by rw[y6 aC,(aW.1 sD).2]
  have sC:=kP.out;rw[qg,NT.gE] at sC;have kpf:=ao.mk sC;have ix:=kf.out.2.2.2.2.ix aC;have ld:=DE (H:=H) (s:=4) sD;have st:=BU (H:=H) p;have zc:=D5;have b0:=bg H (cq p);have q0:aI aq Gt (H.push (cq p)) 3 (.ptr (.box H.boxes.length) 0)=aa (.v (.int .i64 p.aA)):=cQ fh b0 rfl;have q1:aI aq Gt (H.push (cq p)) 3 (.ptr (.box H.boxes.length) 1)=aa (.v (.int .i64 p.no)):=cQ fh b0 rfl;have q2:aI aq Gt (H.push (cq p)) 3 (.ptr (.box H.boxes.length) 2)=aa (.v (.int .i64 p.d)):=cQ fh b0 rfl;have q3:aI aq Gt (H.push (cq p)) 3 (.ptr (.box H.boxes.length) 3)=aa (.v (.int .i64 p.e)):=cQ fh b0 rfl;have v1:=Np p.d;have v2:=Np p.e;have fw:(i:Int)<(l.length:Int):=by omega
  have kBp:=ao.mk (kB.out.push (cq p));have ktake:=ao.mk (fE sD);clear sC qg sD b0;have kbad2:ao ((decide (dk<p.aA)&&decide (p.aA<64)&&decide (0<=p.no)&&decide (p.no<4096)&&bN p.d&&bN p.e)=aB->res=420):=⟨λq=>by refine kbad.out ?_;rw[<-kpf.out,q];rfl⟩;unfold im at *
  by_cases e1:p.aA<=dk
  ·have d1:decide (p.aA<=dk)=ah:=b8 e1;have kr:=ao.mk (kbad2.out (by rw[cS (ai:¬dk<p.aA)];rfl));clear e1;refine bQ @oZ @jg ?_;exact⟨_,_,rfl,kBp.out.ext,.inl ⟨by rw[kr.out];decide,by rw[kr.out]⟩⟩
  have d1:decide (p.aA<=dk)=aB:=cS e1;by_cases e2:64<=p.aA
  ·have d2:decide (64<=p.aA)=ah:=b8 e2;have kr:=ao.mk (kbad2.out (by rw[cS (ai:¬p.aA<64)];simp));clear e1 e2;refine bQ @oZ @jg ?_;exact⟨_,_,rfl,kBp.out.ext,.inl ⟨by rw[kr.out];decide,by rw[kr.out]⟩⟩
  have d2:decide (64<=p.aA)=aB:=cS e2;by_cases e3:p.no<0
  ·have d3:decide (p.no<0)=ah:=b8 e3;have kr:=ao.mk (kbad2.out (by rw[cS (ai:¬0<=p.no)];simp));clear e1 e2 e3;refine bQ @oZ @jg ?_;exact⟨_,_,rfl,kBp.out.ext,.inl ⟨by rw[kr.out];decide,by rw[kr.out]⟩⟩
  have d3:decide (p.no<0)=aB:=cS e3;by_cases e4:4096<=p.no
  ·have d4:decide (4096<=p.no)=ah:=b8 e4;have kr:=ao.mk (kbad2.out (by rw[cS (ai:¬p.no<4096)];simp));clear e1 e2 e3 e4;refine bQ @oZ @jg ?_;exact⟨_,_,rfl,kBp.out.ext,.inl ⟨by rw[kr.out];decide,by rw[kr.out]⟩⟩
  have d4:decide (4096<=p.no)=aB:=cS e4;cases e5:bN p.d with
  |false=>have kr:=ao.mk (kbad2.out (by rw[e5];simp));rw[e5] at v1;clear e1 e2 e3 e4 e5;refine bQ @oZ @jg ?_;exact⟨_,_,rfl,kBp.out.ext,.inl ⟨by rw[kr.out];decide,by rw[kr.out]⟩⟩
  |true=>
  rw[e5] at v1;cases e6:bN p.e with
  |false=>have kr:=ao.mk (kbad2.out (by rw[e6];simp));rw[e6] at v2;clear e1 e2 e3 e4 e5 e6;refine bQ @oZ @jg ?_;exact⟨_,_,rfl,kBp.out.ext,.inl ⟨by rw[kr.out];decide,by rw[kr.out]⟩⟩
  |true=>
  rw[e6] at v2;have QX:=EV e5;have hr6:=EV e6;have kP2:ao (gE p.aA (l.drop (i+1))=gE (-1) l):=⟨by rw[<-kpf.out,b8 (ai:dk<p.aA),b8 (ai:p.aA<64),b8 (ai:0<=p.no),b8 (ai:p.no<4096),e5,e6];rfl⟩;obtain⟨r,iY,lr⟩:=aoQ p (by intro x hx;simp only[iU,xC,or_false] at hx;rcases hx with rfl|rfl|rfl|rfl<;>omega);have Ii:(lJ (l.take i)).length=i:=by unfold lJ;rw[bF,fm];omega
  have ap:=tf (x:=p.aA) (es:=lJ (l.take i)) ai ksz.out kBp.out.can;have bl:=pq p.aA;have YJ:lJ (l.take i)++[p.aA]=lJ (l.take (i+1)):=by unfold lJ;rw[ktake.out,mY];rfl
  rw[YJ] at ap;have kBa:=ao.mk kBp.out.app;have qR:((l.take i).map Pr.val).length=i:=by rw[bF,fm];omega
  obtain⟨H2,cs,t1,t2,t3,t4,t5⟩:=kBa.out.next ai iY;have len94:=kBa.out.la.dQ;have lw:aI aq Gt ((H.push (cq p)).app t) 94 (.ptr (.box c) 10)=aa cur:=cQ Vi kBa.out.work rfl;have bxx:((H.push (cq p)).app t).boxes[H.boxes.length]?=aa (cq p):=by rw[eC];exact bg _ _
  have q0':aI aq Gt ((H.push (cq p)).app t) 3 (.ptr (.box H.boxes.length) 0)=aa (.v (.int .i64 p.aA)):=cQ fh bxx rfl;have q1':aI aq Gt ((H.push (cq p)).app t) 3 (.ptr (.box H.boxes.length) 1)=aa (.v (.int .i64 p.no)):=cQ fh bxx rfl;have q2':aI aq Gt ((H.push (cq p)).app t) 3 (.ptr (.box H.boxes.length) 2)=aa (.v (.int .i64 p.d)):=cQ fh bxx rfl;have q3':aI aq Gt ((H.push (cq p)).app t) 3 (.ptr (.box H.boxes.length) 3)=aa (.v (.int .i64 p.e)):=cQ fh bxx rfl;have Zu:(l.take i).map Pr.val++[p.val]=(l.take (i+1)).map Pr.val:=by rw[ktake.out,mY];rfl
  rw[Zu] at t5;have kB2:=ao.mk t5;have bG:((H.push (cq p)).app t).boxes.length≠c:=by have:=kBa.out.O5;omega
  rw[qR] at t1 t2 t3 t4 kB2 len94;have knext: -1<=p.aA:=by omega
  clear e1 e2 e3 e4 e5 e6 QX hr6 t5 Zu bxx YJ iY Ii qR kBp kBa kbad2 kpf kP mC;refine bQ @oZ @jg ?_;refine atu 23 mA aw aw aw ?_ ?_
  ·refine aoL (n:=27) (bi:=((H.push (cq p)).app t).boxes.length) (bn:=c) (x1:=i * 4) (x2:=10) aw rfl rfl rfl rfl ?_ ?_ bG<;>(simp only[iV,gF];exact oj @oZ @r9 @jg (az @WM (az @IM (az @OU (az @VG @and_self)))))
  refine bK @oZ @r9 @jg (az @WM (az @IM (az @OU @VG))) ?_;exact⟨l.length - (i+1),by omega,i+1,p.aA,_,1,_,by omega,rfl,kP2,knext,kB2,⟨.inl rfl⟩,by simp⟩
 have gx:i=l.length:=by omega
 subst gx;rw[fN] at g9 ksz kB;have XY:gE (-1) l=ah:=by rw[<-kP.out,rh (aL _)];rfl
 have kPok:=ao.mk XY;have lk:aI aq Gt H 25 (.ptr (.box kb) 1)=aa (.agg [X,Y]):=by rw[iP xL (by kernel_rfl:dJ aq 25=aa 2) kB.out.key (jS rfl)];rfl
 have ZA:IL (.list t sz (ints (lJ l))) (lJ l):=⟨t,sz,rfl,λq=>by
  rcases ksz.out with z|⟨z,-⟩
  ·exact z
  ·exact absurd z q⟩
 have alB:(lJ l).length<=64:=by unfold lJ;rw[bF];exact Lj
 have PO:(∃e,fV ae ag (lJ l)=([],aB,e)/\∀h,W5.call 76 [.agg [X,Y],.list t sz (ints (lJ l))] h=aa (.ret (.tuple [.list .nil 0 [],.v (.bool aB),.v (.int .i64 e)]),h))∨∃y,fV ae ag (lJ l)=(y,ah,0)/\y.length=ae.length/\∀h,W5.call 76 [.agg [X,Y],.list t sz (ints (lJ l))] h=aa (.ret (.tuple [.list .held 1 (ints y),.v (.bool ah),.v (.int .i64 0)]),h):=by obtain⟨k0,s0,xs,Yb,-⟩:=kf.out.1.form;have:=U9 k0 s0 xs Y (.list t sz (ints (lJ l))) ae ag (lJ l) (by rw[<-Yb];exact kf.out.1) kf.out.2.1 ZA ai;rw[<-Yb] at this;exact this
 clear XY ZA alB aC kP mC hi;rcases PO with⟨e0,a1,ca⟩|⟨y,a1,a2,ca⟩
 ·have kr:ao (res=420):=⟨by rw[kgood.out kPok.out _ _ _ a1,aH (.inr (.inl rfl))]⟩;clear a1;by_cases h9:e0=0
  ·subst h9;refine bQ @oZ @gv ?_;exact⟨_,_,rfl,kB.out.ext,.inl ⟨by rw[kr.out];decide,by rw[kr.out]⟩⟩
  ·have d9:decide (e0=0)=aB:=cS h9;refine bQ @oZ @gv ?_;exact⟨_,_,rfl,kB.out.ext,.inl ⟨by rw[kr.out];decide,by rw[kr.out]⟩⟩
 by_cases h9:l.length=0
 ·have kr:ao (res=420):=⟨by rw[kgood.out kPok.out _ _ _ a1,aH (.inr (.inr h9))]⟩;have d9:decide ((l.length:Int)=0)=ah:=b8 ai;clear a1 h9;refine bQ @oZ @gv ?_;exact⟨_,_,rfl,kB.out.ext,.inl ⟨by rw[kr.out];decide,by rw[kr.out]⟩⟩
 have d9:decide ((l.length:Int)=0)=aB:=cS ai;have kr:ao (res=0):=⟨by rw[kgood.out kPok.out _ _ _ a1,aJ (by simp;intro q;rw[q] at h9;exact h9 rfl)]⟩;have kWt:=ao.mk (kW.out _ _ _ a1);obtain⟨m1,m2⟩:=kcom.out;have mpos:=(tx kprog.out).1;have CT:bN (al aj 0)=ah:=by rw[eK] at m2;exact m2 _ (by rw[fB ai];exact iK _)
 have ala:=EV CT;have rB:=kB.out.lo;have alO:=kB.out.lt;have s1:=avq (x:=.list .held 1 (ints y)) kB.out.work rfl;obtain⟨b,vr,ali,lY,gi,zF,hb4⟩:∃(b:Nat) (vr:List (List AV)),cur=.arr b 0 vr.length vr.length/\H.boxes[b]?=aa vr.flatten/\oL (l.map Pr.val) vr/\b≠c/\c+1<=b:=by
  rcases kB.out.la with⟨q,-⟩|⟨-,q⟩
  ·exfalso;rw[GW] at q;rw[q] at h9;exact h9 rfl
  ·exact q
 subst ali;have PX:=kB.out.O5;have W1:wh (H.put c (iJ ep X Y C T L (.list .held 1 (ints y)) (.arr b 0 vr.length vr.length) 0 0)) c ep X Y C T L (.list .held 1 (ints y)) 0 0 aj text l:=
  ⟨⟨b,vr,eO PX,by rw[dh zF];exact lY,gi⟩,kf.out.2.2.1,by omega,⟨ai,by omega⟩,kf.out.2.2.2.1,ktl.out,Lj⟩
 have E1:Ext h (H.put c (iJ ep X Y C T L (.list .held 1 (ints y)) (.arr b 0 vr.length vr.length) 0 0)):=kB.out.ext.fZ ai _;obtain⟨_,Hp,cp,xp,rfl⟩:=apL 70 [.ptr (.box c) 0] [] (iZ (al aj 0) text l) _ L l kf.out.2.2.2.2 ai (λq hq=>DI (Ae kPok.out q hq).2.2.2.2.1 (Ae kPok.out q hq).2.2.2.2.2) (λq hq H' hX=>by have hm:=Ae kPok.out q hq;obtain⟨_,H2,n1,n2,rfl⟩:=aaw H' c ep X Y C T L (.list .held 1 (ints y)) 0 0 aj text l (W1.mono hX) q ⟨ai,by omega⟩ hm.2.2.2.2.1 hm.2.2.2.2.2;exact⟨H2,n1,n2⟩);have uF:l.foldl (λx q=>x * iZ (al aj 0) text l q%P) 1=iQ (al aj 0) text l:=rfl;rw[uF] at cp;have tJ:=EV (rq (apd (c0:=al aj 0) (text:=text) kPok.out));have E2:=E1.trans xp;have W2:=W1.mono xp;obtain⟨b',vr',w1,w2,w3⟩:=W2.eT;have PS:b'≠c:=by intro q;have z1:Hp.boxes[c]?=aa (iJ ep X Y C T L (.list .held 1 (ints y)) (.arr b 0 vr.length vr.length) 0 0):=xp.box _ _ (eO PX);rw[z1] at w1;unfold iJ at w1;injection w1 with w1;simp only[List.cons.injEq,AV.arr.injEq,true_and,and_true] at w1;omega
 have s2:=avt (n:=((iQ (al aj 0) text l:Nat):Int)) w1;have Yn:=(aW.1 w1).1;obtain⟨kt,st,X9,bT⟩:=kf.out.2.2.2.1;obtain⟨H5,PK⟩:∃H5,Hp.put c (iJ ep X Y C T L (.list .held 1 (ints y)) (.arr b' 0 vr'.length vr'.length) ((iQ (al aj 0) text l:Nat):Int) 0)=H5:=⟨_,rfl⟩;have w5:H5.boxes[c]?=aa (iJ ep X Y C T L (.list .held 1 (ints y)) (.arr b' 0 vr'.length vr'.length) ((iQ (al aj 0) text l:Nat):Int) 0):=by rw[<-PK];exact eO Yn
 have E5:Ext h H5:=by rw[<-PK];exact E2.fZ ai _
 have v5:H5.boxes[b']?=aa vr'.flatten:=by rw[<-PK,dh PS];exact w2
 have sl:=Tn ((iQ (al aj 0) text l:Nat):Int) (al aj 0) text;have hh:=Ye H5 yJ .tight 1 [.iface 3 (.v (.int .i64 ((iQ (al aj 0) text l:Nat):Int))),.iface 3 (.v (.int .i64 (al aj 0))),.iface 28 (.list kt st (bf text))] [.int ((iQ (al aj 0) text l:Nat):Int),.int (al aj 0),.text text]
  (.cons (.int _ ⟨ai,by omega⟩) (.cons (.int _ ⟨ai,by omega⟩) (.cons (.text kt st text bT (by have:=ktl.out;omega)) .nil))) (λ_=>rfl) bJ aZ (by simp[gQ,iE]) (by have:=ktl.out;omega)
 have uy:uw yJ (.list [.int ((iQ (al aj 0) text l:Nat):Int),.int (al aj 0),.text text])=ek (al aj 0) text l:=rfl;rw[uy,<-X9,show yJ=[115,105,103,110] from rfl] at hh;simp only[eL,List.map_nil] at hh;have lp:aI aq Gt H5 3 (.ptr (.box c) 11)=aa (.v (.int .i64 ((iQ (al aj 0) text l:Nat):Int))):=cQ fh w5 rfl;have lC:aI aq Gt H5 23 (.ptr (.box c) 3)=aa C:=cQ mj w5 rfl;obtain⟨kc,sc,hCe,vC⟩:=kf.out.2.2.1;have ixC:=kf.out.2.2.1.ix (i:=0) ai;have lC0:=ev (H:=H5) (l:=aj) (i:=0) (s:=1) ai;have s3:=avs (n:=((ek (al aj 0) text l:Nat):Int)) w5;have fI:ao (Ext h (H5.put c (iJ ep X Y C T L (.list .held 1 (ints y)) (.arr b' 0 vr'.length vr'.length) ((iQ (al aj 0) text l:Nat):Int) ((ek (al aj 0) text l:Nat):Int)))/\wh (H5.put c (iJ ep X Y C T L (.list .held 1 (ints y)) (.arr b' 0 vr'.length vr'.length) ((iQ (al aj 0) text l:Nat):Int) ((ek (al aj 0) text l:Nat):Int))) c ep X Y C T L (.list .held 1 (ints y)) ((iQ (al aj 0) text l:Nat):Int) ((ek (al aj 0) text l:Nat):Int) aj text l):=
  ⟨E5.fZ ai _,⟨⟨b',vr',eO (aW.1 w5).1,by rw[dh PS];exact v5,w3⟩,kf.out.2.2.1,by omega,⟨ai,by omega⟩,kf.out.2.2.2.1,ktl.out,Lj⟩⟩
 have kyw:ao (IL (.list .held 1 (ints y)) (ff ae ag l)):=⟨by rw[kWt.out];exact⟨_,_,rfl,λ_=>rfl⟩⟩;have ix0:dS aq 23 C (.v (.int .i64 0))=aa (.elem 1 (ints aj) 0 0):=ixC;clear W1 W2 E1 E2 E5 w1 w2 w3 v5 sl uy uF xp lY gi zF hb4 PX Yn PS CT ala tJ mpos m1 m2 rB alO X9 bT hCe vC h9 a1 a2 ixC w5;generalize ((iQ (al aj 0) text l:Nat):Int)=ptv at *
 generalize ((ek (al aj 0) text l:Nat):Int)=chv at *
 generalize al aj 0=c0 at *
 unfold im at *
 refine bK @oZ @gv @r9 @List.cons_append.{0} ?_;refine eJ mA aw ?_;refine bK @oZ @il @r9 (az @IM (az @Rl @VJ)) ?_;exact⟨_,_,rfl,fI.out.1,.inr ⟨kr.out,_,_,rfl,kyw.out,fI.out.2⟩⟩
def Jn:Tryz.f17.results.toList=[.tmp 6,.tmp 7,.tmp 8,.tmp 9]:=aw
def S3:Tryz.f54.results.toList=[.cell 6 85,.tmp 7]:=aw
def asz:Tryz.f125.results.toList=[.tmp 3]:=aw
def abB:Tryz.f127.results.toList=[.tmp 2]:=aw
def wm(c0:Int)(text:List UInt8)(l:List Pr):List Int:=l.map λp=>((fC c0 text l p.aA:Nat):Int)
def Cq{ae}{ag aj}{ep}{text}{l}(h:cP ae ag ep aj text l=0):
 de ae ag=0/\aj.length=bP ae/\aj.all bN=ah/\l.length<=64/\text.length<=65536/\gE (-1) l=ah:=by
 unfold cP at h;split at h
 ·rename_i q;exact absurd h q
 ·rename_i q1;split at h
  ·simp at h
  ·rename_i q2;split at h
   ·simp at h
   ·rename_i q3;split at h
    ·simp at h
    ·rename_i q4;split at h
     ·simp at h
     ·rename_i q5;have q2':=(adt _).mp q2;rw[ads] at q2';simp only[bI,decide_eq_true_eq] at q2';have q5':=(adt _).mp q5;rw[ads] at q5';exact⟨J6.1 q1,q2'.1.2,q2'.2,by omega,by omega,q5'⟩
def agr(h:ar)(bB:cK h=ah)(ep:Int)(X Y C T L:AV)(ae:List (List Int))(ag aj:List Int)(text:List UInt8)(l:List Pr)
 (hx:RL X ae) (hy:IL Y ag) (hc:IL C aj) (ht:BL T text) (hp:PL L l) (db:aj.length<=1000000) (dG:l.length<=1000000):
 ∃r h',W5.call 17 [.agg (aN ep X Y C),T,L] h=aa (r,h')/\
  ((cP ae ag ep aj text l≠0/\r=.ret (.tuple [.list .nil 0 [],.v (.int .i64 0),.v (.int .i64 0),.v (.int .i64 (cP ae ag ep aj text l))]))∨
  (cP ae ag ep aj text l=0/\∃Z,r=.ret (.tuple [Z,.v (.int .i64 ((iQ (al aj 0) text l:Nat):Int)),.v (.int .i64 ((ek (al aj 0) text l:Nat):Int)),.v (.int .i64 0)])/\IL Z (wm (al aj 0) text l))):=by
 have bx:=uL (ep:=ep) hx hy hc;obtain⟨r1,h1,c1,x1,post⟩:=ON (h.push (aN ep X Y C)) bB ep X Y C T L ae ag aj text l hx hy hc ht hp db dG;have b0:=bg h (aN ep X Y C);have l0:aI aq Gt (h.push (aN ep X Y C)) 27 (.ptr (.box h.boxes.length) 0)=aa (.agg (aN ep X Y C)):=by rw[iP aw (by kernel_rfl:dJ aq 27=aa 4) b0 (jS rfl)];rfl
 have kp:=ao.mk hp;have ko:=ao.mk (x1.ok bB);have kbo:=ao.mk (λq=>@Cq ae ag aj ep text l q);have ln2:=hp.dQ;clear hx hy hc ht hp b0 x1;generalize cP ae ag ep aj text l=res at *
 refine di rfl Tryz.func17 rfl ?_;rcases post with⟨q,rfl⟩|⟨q,c,Wt,rfl,-,w⟩
 ·have kr:=ao.mk q;refine bQ @Jn @bu ?_;exact⟨_,_,rfl,.inl ⟨kr.out,rfl⟩⟩
 obtain⟨-,-,-,-,-,p6⟩:=kbo.out q;have kP:=ao.mk p6;have kW:=ao.mk w;have kr:=ao.mk q;have Lj:=w.ll;obtain⟨b,vr,w1,-⟩:=w.eT;clear p6 w;subst q;refine bQ @Jn @bu ?_;refine bM.gen λe0 aG bE cZ cV=>?_;have f6:e0.get 6=.list .nil 0 []:=by rw[aG];exact gS
 have f10:e0.get 10=.ptr (.box c) 0:=by rw[aG];exact gS
 have f23:e0.get 23=L:=by rw[aG];exact gS
 have f24:e0.get 24=.v (.int .i64 (l.length:Nat)):=by rw[aG];exact gS
 have f25:e0.get 25=.v (.int .i64 (0:Nat)):=by rw[aG];exact gR
 have fd:e0.defers=[]:=by rw[bE];exact gS
 clear aG bE cZ cV c1 l0 w1;have kbl:ao ((wm (al aj 0) text l).length=l.length):=⟨by unfold wm;simp⟩;refine cH (λm e H=>∃(i:Nat) (t:Tok) (sz:Nat),i<=l.length/\m=l.length - i/\ao (Gr h1 H t)/\ao (sz=1∨((wm (al aj 0) text l).take i=[]/\t=.nil))/\e.get 6=.list t sz (ints ((wm (al aj 0) text l).take i))/\e.get 10=.ptr (.box c) 0/\e.get 23=L/\e.get 24=.v (.int .i64 (l.length:Nat))/\e.get 25=.v (.int .i64 (i:Nat))/\e.defers=[]) ?_ l.length _ _ ?_;rotate_left 1
 ·exact⟨0,.nil,0,cD _,rfl,⟨Gr.nil (.refl _) ko.out⟩,⟨.inr ⟨rfl,rfl⟩⟩,f6,f10,f23,f24,f25,fd⟩
 clear f6 f10 f23 f24 f25 fd;rintro m e H ⟨i,t,sz,hi,rfl,kG,ksz,g6,g10,g23,g24,g25,hd⟩;by_cases aC:i<l.length
 ·obtain⟨p,sD⟩:∃p,l[i]?=aa p:=⟨_,aU aC⟩;have hm:=Ae kP.out p (dy sD);have ix:=kp.out.ix aC;have ld:=DE (H:=H) (s:=4) sD;have st:=BU (H:=H) p;have zc:=D5;have l2:=DD (bg H (cq p));obtain⟨_,H2,cb,rfl,rfl⟩:=OQ (H.push (cq p)) c ep X Y C T L Wt _ _ aj text l ((kW.out.mono kG.out.1).mono (.push _ _)) p ⟨ai,by omega⟩;have hv:(wm (al aj 0) text l)[i]?=aa ((fC (al aj 0) text l p.aA:Nat):Int):=by unfold wm;rw[ey,sD];rfl
  have kG2:=(kG.out.push (cq p)).push (cq p);have ap:=tf (x:=((fC (al aj 0) text l p.aA:Nat):Int)) (es:=(wm (al aj 0) text l).take i) (by rw[fm];omega) ksz.out kG2.2.2;rw[<-fE hv] at ap;have kG3:=ao.mk kG2.app;have bl:=pq ((fC (al aj 0) text l p.aA:Nat):Int);have fw:(i:Int)<(l.length:Int):=by omega
  clear hv hm sD kG2;generalize ((fC (al aj 0) text l p.aA:Nat):Int)=bn at *
  unfold im at *
  refine bC @Jn ?_;exact⟨l.length - (i+1),by omega,i+1,_,1,by omega,rfl,kG3,⟨.inl rfl⟩,by simp⟩
 ·have gx:i=l.length:=by omega
  subst gx;rw[List.take_of_length_le (by rw[kbl.out];exact aL _)] at g6 ksz;obtain⟨b2,vr2,w2,-⟩:=(kW.out.mono kG.out.1).eT;have lp:aI aq Gt H 3 (.ptr (.box c) 11)=aa (.v (.int .i64 ((iQ (al aj 0) text l:Nat):Int))):=cQ fh w2 rfl;have lc:aI aq Gt H 3 (.ptr (.box c) 12)=aa (.v (.int .i64 ((ek (al aj 0) text l:Nat):Int))):=cQ fh w2 rfl;clear w2;generalize ((iQ (al aj 0) text l:Nat):Int)=ptv at *
  generalize ((ek (al aj 0) text l:Nat):Int)=chv at *
  refine bC @Jn ?_;refine eJ mA aw ?_;refine bQ @Jn @r9 ?_;refine⟨_,_,rfl,.inr ⟨aY,_,rfl,t,sz,rfl,λq=>?_⟩⟩;rcases ksz.out with z|⟨z,-⟩
  ·exact z
  ·exact absurd z q
def LZ(n):(AV.v (.int .i64 n)).cd=aa [.v (.int .i64 n)]:=rfl
def apN(r)(o):(AV.ptr r o).cd=aa [.ptr r o]:=rfl
def aoc(n)(h):W5.call 127 [im n] h=aa (.ret (.v (.bool (nS n))),h):=by
 unfold im nS;by_cases h0:n<0
 ·refine cN rfl aeE rfl ?_;have:decide (n<0)=ah:=by simp[h0]
  exact jw @abB @Bool.true_or
 ·refine cN rfl aeE rfl ?_;have:decide (n<0)=aB:=by simp[h0]
  exact jw @abB @Bool.false_or
def amB(H)(b)(k)(hb:H.boxes[b]?=aa [.v (.int .i64 k)])(q):∃H',W5.call 125 [.agg (cq q),.ptr (.box b) 0] H=aa (.ret (.v (.bool (decide (q.aA=k)))),H')/\Ext H H':=by have bc:(AV.agg (cq q)).cd=aa (cq q):=rfl;have l0:aI aq Gt (H.push (cq q)) 3 (.ptr (.box H.boxes.length) 0)=aa (.v (.int .i64 q.aA)):=cQ fh (bg _ _) rfl;have l1:aI aq Gt (H.push (cq q)) 3 (.ptr (.box b) 0)=aa (.v (.int .i64 k)):=cQ fh (bh hb) rfl;refine iD rfl Tryz.func125 rfl ?_;clear hb;refine cX @asz @bu @jg ?_;exact⟨_,rfl,.push _ _⟩
def WT(h:ar)(c:Nat)(cs:List AV)(L:AV)(l:List Pr)(aA:Int)(ns:List Int)(N:AV)(hb:h.boxes[c]?=aa cs)(cI:cs[5]?=aa L)(hp:PL L l)(hl:l.length<=1000000)(hN:IL N ns)(pH:ns.length<=1000):
 ∃r h',W5.call 54 [.ptr (.box c) 0,.v (.int .i64 aA),N] h=aa (r,h')/\Ext h h'/\
  (((nu l aA=av∨ns.all cA=aB)/\r=.ret (.tuple [.agg (cq ⟨0,0,0,0⟩),.v (.int .i64 1)]))∨∃q,nu l aA=aa q/\ns.all cA=ah/\r=.ret (.tuple [.agg (cq q),.v (.int .i64 0)])):=by
 have zc:=D5;have H0:((h.push [.v (.int .i64 aA)]).push (cq ⟨0,0,0,0⟩)).boxes[h.boxes.length]?=aa [.v (.int .i64 aA)]:=bh (bg _ _);have H1:((h.push [.v (.int .i64 aA)]).push (cq ⟨0,0,0,0⟩)).boxes[c]?=aa cs:=bh (bh hb);have H2:=bg (h.push [.v (.int .i64 aA)]) (cq ⟨0,0,0,0⟩);obtain⟨_,h3,c1,x1,post⟩:=amk 125 [.ptr (.box h.boxes.length) 0] (λp=>decide (p.aA=aA)) ((h.push [.v (.int .i64 aA)]).push (cq ⟨0,0,0,0⟩)) L l hp hl (λq _ H hX=>amB H h.boxes.length aA (hX.box _ _ H0) q);have l0:aI aq Gt ((h.push [.v (.int .i64 aA)]).push (cq ⟨0,0,0,0⟩)) 29 (.ptr (.box c) 5)=aa L:=cQ zn H1 cI;have l1:aI aq Gt h3 29 (.ptr (.box c) 5)=aa L:=cQ zn (x1.box _ _ H1) cI;have g2:=x1.box _ _ H2;have l2:=DD g2;have st0:cE aq h3 85 (.ptr (.box (h.push [.v (.int .i64 aA)]).boxes.length) 0) (.agg (cq ⟨0,0,0,0⟩))=aa h3:=by rw[fK (off:=0) (xs:=cq ⟨0,0,0,0⟩) rfl sT g2 rfl (aL 4),xo rfl,oB g2]
 have cc:=KF (pr:=F8) rfl rfl 127 [] nS h3 N ns hN ai (λn _=>aoc n _);have lX:=OD ns;have X3:=ao.mk (((Ext.push h [.v (.int .i64 aA)]).trans (Ext.push _ (cq ⟨0,0,0,0⟩))).trans x1);have Fh:=(aW.1 g2).1;have stq:∀q:Pr,cE aq h3 85 (.ptr (.box (h.push [.v (.int .i64 aA)]).boxes.length) 0) (.agg (cq q))=aa (h3.put (h.push [.v (.int .i64 aA)]).boxes.length (cq q))/\aI aq Gt (h3.put (h.push [.v (.int .i64 aA)]).boxes.length (cq q)) 85 (.ptr (.box (h.push [.v (.int .i64 aA)]).boxes.length) 0)=aa (.agg (cq q)):=λq=>by refine⟨?_,DD (eO Fh)⟩;rw[fK (off:=0) (xs:=cq q) rfl sT g2 rfl (aL 4)];rfl
 have XQ:∀q:Pr,Ext h (h3.put (h.push [.v (.int .i64 aA)]).boxes.length (cq q)):=λq=>X3.out.fZ (by rw[cR];omega) _;have kq:=ao.mk (az stq XQ);rw[cR] at l2 st0;have kp:=ao.mk hp;unfold nu;clear H0 H1 H2 hb cI g2 x1 hN stq XQ hp Fh;refine di rfl Tryz.func54 rfl ?_;unfold im at *
 rcases post with⟨p1,rfl⟩|⟨i,q,rfl,p2,p3⟩
 ·have kn:=ao.mk p1;clear p1 cc;refine bK @S3 @bu @cR (az @r9 @LZ) ?_;exact⟨_,_,rfl,X3.out,.inl ⟨.inl kn.out,rfl⟩⟩
 ·have kn:=ao.mk (az p2 p3);have cY:=(aW.1 p2).1;have ix:=kp.out.ix cY;have ld:=DE (H:=h3) (s:=4) p2;have axA:decide (((i:Nat):Int)<0)=aB:=cS ai;obtain⟨s1,s2⟩:=kq.out.1 q;rw[cR] at s1 s2;have XQq:=kq.out.2 q;rw[cR] at XQq;have kXQ:=ao.mk XQq;clear XQq;clear p2 p3;cases ho:ns.any nS with|true=>rw[ho] at cc lX;have kh:=ao.mk lX;clear ho lX;refine bK @S3 @bu @cR (az @r9 @LZ) ?_;exact⟨_,_,rfl,X3.out,.inl ⟨.inr kh.out.symm,rfl⟩⟩|false=>rw[ho] at cc lX;have kh:=ao.mk lX;clear ho lX;refine bK @S3 @bu @cR (az @r9 @LZ) ?_;exact⟨_,_,rfl,kXQ.out,.inr ⟨q,kn.out.2,kh.out.symm,rfl⟩⟩
def anz(k)(s)(es):(AV.list k s es).cd=aa [.list k s es]:=rfl
def as2:Tryz.f55.results.toList=[.tmp 4]:=aw
def Jm:Tryz.f128.results.toList=[]:=aw
def as7:Tryz.f72.results.toList=[.tmp 2]:=aw
def abF:Tryz.f139.results.toList=[.tmp 4]:=aw
def eP(ag:List Int)(aA:Int)(k:Nat):List Nat:=(bO k).filter λi=>decide (al ag i=aA)
def Jj{ag}{aA}{k}(h:al ag k=aA):eP ag aA (k+1)=eP ag aA k++[k]:=by unfold eP;rw[nD,y7,List.filter_cons_of_pos (by simp[h])];rfl
def DP{ag}{aA}{k}(h:al ag k≠aA):eP ag aA (k+1)=eP ag aA k:=by unfold eP;rw[nD,y7,List.filter_cons_of_neg (by simp[h])];simp
def Mt(ag)(aA):eP ag aA ag.length=ga ag aA:=rfl
def asm(ag)(aA)(k):(eP ag aA k).length<=k:=by unfold eP;exact fG (GV _ _) bJ
def abx(h:ar)(c:Nat)(aA:Int):W5.call 55 [.ptr (.box c) 0,.v (.int .i64 aA)] h=aa (.ret (.func (.func 128) [] [.ptr (.box h.boxes.length) 0,.ptr (.box (h.boxes.length+1)) 0]),(h.push [.ptr (.box c) 0]).push [.v (.int .i64 aA)]):=by refine cN rfl Tryz.func55 rfl ?_;exact oj @as2 @bu @cR (az @LZ @apN)
def aby(l wb kb c:Nat)(Y:AV)(ag:List Int)(aA:Int)(Inv:Nat->ar->Prop)(Stop:ar->Prop)(hy:IL Y ag)(oP:ag.length<=1000000)
 (h1:∀k H,Inv k H->H.boxes[wb]?=aa [.ptr (.box c) 0]/\H.boxes[kb]?=aa [.v (.int .i64 aA)]/\∃cs,H.boxes[c]?=aa cs/\cs[2]?=aa Y)
 (hR:∀k H,k<ag.length->al ag k=aA->Inv k H->(∃H',W5.round l [.v (.int .i64 (k:Nat))] H=aa (.ret (.v (.bool ah)),H')/\Inv (k+1) H')∨∃H',W5.round l [.v (.int .i64 (k:Nat))] H=aa (.ret (.v (.bool aB)),H')/\Stop H')
 (hS:∀k H,k<ag.length->al ag k≠aA->Inv k H->Inv (k+1) H)
 (H0:ar) (h0:Inv 0 H0):∃H',W5.call 128 [.yield l,.ptr (.box wb) 0,.ptr (.box kb) 0] H0=aa (.ret (.tuple []),H')/\(Inv ag.length H'∨Stop H'):=by
 have kk:=ao.mk (az h1 (az hR (az hS (az h0 hy))));obtain⟨b1,-,cs,b3,b4⟩:=h1 0 H0 h0;have l1:aI aq Gt H0 90 (.ptr (.box wb) 0)=aa (.ptr (.box c) 0):=cQ xM b1 rfl;have l2:aI aq Gt H0 23 (.ptr (.box c) 2)=aa Y:=cQ mj b3 b4;have ln:=hy.dQ;clear h1 hR hS h0 hy b1 b3 b4;refine iD rfl Tryz.func128 rfl ?_;refine bK @Jm @r9 @gv @ajD ?_;refine cH (λm e H=>∃k:Nat,k<=ag.length/\m=ag.length - k/\ao (Inv k H)/\e.get 0=.yield l/\e.get 2=.ptr (.box kb) 0/\e.get 11=Y/\e.get 12=.v (.int .i64 (ag.length:Nat))/\e.get 13=.v (.int .i64 (k:Nat))/\e.defers=[]) ?_ ag.length _ _ ?_;rotate_left 1
 ·refine⟨0,cD _,rfl,⟨kk.out.2.2.2.1⟩,?_,?_,?_,?_,?_,?_⟩<;>exact gR
 clear l1 l2;rintro m e H ⟨k,hk,rfl,kI,g0,g2,g11,g12,g13,hd⟩;by_cases aC:k<ag.length;rotate_left 1
 ·have:k=ag.length:=by omega
  subst this;refine bC @Jm ?_;exact⟨_,rfl,.inl kI.out⟩
 obtain⟨-,b2,-⟩:=kk.out.1 k H kI.out;have ix:=kk.out.2.2.2.2.ix aC;have ld:=ev (H:=H) (l:=ag) (i:=k) (s:=1) aC;have lk:aI aq Gt H 3 (.ptr (.box kb) 0)=aa (.v (.int .i64 aA)):=cQ fh b2 rfl;have fw:(k:Int)<(ag.length:Int):=by omega
 clear b2;by_cases hc:al ag k=aA
 ·have dq:decide (al ag k=aA)=ah:=b8 hc;rcases kk.out.2.1 k H aC hc kI.out with⟨H',r1,r2⟩|⟨H',r1,r2⟩
  ·have kI2:=ao.mk r2;clear r2 hc kI;generalize al ag k=ow at *
   refine bQ @Jm @AT ?_;exact⟨ag.length - (k+1),by omega,k+1,by omega,rfl,kI2,by simp⟩
  ·have kI2:=ao.mk r2;clear r2 hc kI;generalize al ag k=ow at *
   refine bQ @Jm @AT ?_;exact⟨_,rfl,.inr kI2.out⟩
 ·have dq:decide (al ag k=aA)=aB:=cS hc;have kI2:=ao.mk (kk.out.2.2.1 k H aC hc kI.out);clear hc kI;generalize al ag k=ow at *
  refine bQ @Jm @AT ?_;exact⟨ag.length - (k+1),by omega,k+1,by omega,rfl,kI2,by simp⟩
def GF(h h1:ar)(b2:Nat)(LP:List iW)(ag:List Int)(aA:Int)(k:Nat)(H:ar):Prop:=
 ∃t s,H.loops=LP/\H.boxes[b2]?=aa [.list t s (ints (bW (eP ag aA k)))]/\(s=1∨(eP ag aA k=[]/\t=.nil))/\du h.tn H t/\cK H=ah/\Ext h H/\∀(a:Nat) (cs:List AV),h1.boxes[a]?=aa cs->a≠b2->H.boxes[a]?=aa cs
def afC(h:ar)(bB:cK h=ah)(c wb kb:Nat)(Y:AV)(ag:List Int)(aA:Int)(cs:List AV)(hy:IL Y ag)(oP:ag.length<=1000000)(b1:h.boxes[wb]?=aa [.ptr (.box c) 0])(b2:h.boxes[kb]?=aa [.v (.int .i64 aA)])(b3:h.boxes[c]?=aa cs)(b4:cs[2]?=aa Y):
 ∃r h',W5.call 139 [.list .nil 0 [],.func (.func 128) [] [.ptr (.box wb) 0,.ptr (.box kb) 0]] h=aa (r,h')/\Ext h h'/\∃Z,r=.ret Z/\IL Z (bW (ga ag aA)):=by
 refine di rfl Tryz.func139 rfl ?_;refine cX @abF @bu @anz ?_;refine bM.gen λe4 gU qM vB tL=>?_;have f2:e4.get 2=.ptr (.box h.boxes.length) 0:=by rw[gU];exact gS
 have f6:e4.get 6=.func (.func 128) [] [.ptr (.box wb) 0,.ptr (.box kb) 0]:=by rw[gU];exact gS
 have fd:e4.defers=[]:=by rw[qM];exact gS
 clear gU qM vB tL;refine DU (by rw[A7];exact f6) λrec w1 w2 w3 w4 w5 w6=>?_;have Ds:=(aW.1 b1).1;have vy:=(aW.1 b2).1;have HY:=(aW.1 b3).1;obtain⟨h1,pF⟩:∃h1,h.push [.list .nil 0 []]=h1:=⟨_,rfl⟩;have g0:h1.boxes[h.boxes.length]?=aa [.list .nil 0 []]:=by rw[<-pF];exact bg _ _
 have g1:h1.boxes[wb]?=aa [.ptr (.box c) 0]:=by rw[<-pF];exact bh b1
 have g2:h1.boxes[kb]?=aa [.v (.int .i64 aA)]:=by rw[<-pF];exact bh b2
 have g3:h1.boxes[c]?=aa cs:=by rw[<-pF];exact bh b3
 have dG:h1.loops.length=h.loops.length:=by rw[<-pF];rfl
 have tI:cK h1=ah:=by rw[<-pF];exact bB
 have X1:Ext h h1:=by rw[<-pF];exact .push _ _
 have iu:(h1.loop rec).loops[h1.loops.length]?=aa rec:=@DG h1 rec;have XL:Ext h (h1.loop rec):=X1.trans ((Fr.BC (bn:=h1.boxes.length) (l0:=h1.loops.length) (n0:=h1.tn) h1 rec).ext (aL _) (aL _) (aL _));rw[pF];have feed:=aby h1.loops.length wb kb c Y ag aA (GF h h1 h.boxes.length (h1.loop rec).loops ag aA) (λ_=>False) hy oP
  (λk H q=>by obtain⟨_,_,-,-,-,-,-,-,q7⟩:=q;exact⟨q7 _ _ g1 ai,q7 _ _ g2 ai,cs,q7 _ _ g3 ai,b4⟩)
  ?_
  (λk H _ hc q=>by
   unfold GF at *
   rw[DP hc];exact q)
  (h1.loop rec) ⟨.nil,0,rfl,g0,.inr ⟨rfl,rfl⟩,.inl rfl,tI,XL,λa cs ha _=>ha⟩
 rotate_left 1
 ·rintro k H hk hc ⟨t,s,i1,i2,i3,i4,i5,i6,i7⟩;left;have vz:H.loops[h1.loops.length]?=aa rec:=by rw[i1];exact iu
  refine Ji (Post:=GF h h1 h.boxes.length (h1.loop rec).loops ag aA (k+1)) vz (by rw[w2];rfl) w5 w6 ?_;have r1:∀t,(nV h1.loops.length rec [.v (.int .i64 (k:Nat))]).get t=if 7=t then .v (.int .i64 (k:Nat)) else e4.get t:=λt=>abv w2 w1
  have d1:(nV h1.loops.length rec [.v (.int .i64 (k:Nat))]).defers=[]:=rfl;obtain⟨K,hK⟩:∃K,H.busy h1.loops.length rec=K:=⟨_,rfl⟩;have kb1:K.boxes[h.boxes.length]?=aa [.list t s (ints (bW (eP ag aA k)))]:=by rw[<-hK];exact i2
  have kc1:du h.tn K t:=by rw[<-hK];exact i4
  have bR:(bW (eP ag aA k)).length<=k:=by unfold bW;rw[bF];exact asm _ _ _
  have ap:=tf (x:=(k:Int)) (es:=bW (eP ag aA k)) ai (i3.imp_right λq=>⟨by rw[q.1];rfl,q.2⟩) kc1;have bT:bW (eP ag aA k)++[(k:Int)]=bW (eP ag aA (k+1)):=by rw[Jj hc];unfold bW;simp
  rw[bT] at ap;have lA:=vG kb1;have sA:cE aq (K.app t) 23 (.ptr (.box h.boxes.length) 0) (.list (.free K.tn) 1 (ints (bW (eP ag aA (k+1)))))=aa ((K.app t).put h.boxes.length [.list (.free K.tn) 1 (ints (bW (eP ag aA (k+1))))]):=
   fK (off:=0) (cs:=[.list t s (ints (bW (eP ag aA k)))]) (xs:=[.list (.free K.tn) 1 (ints (bW (eP ag aA (k+1))))]) rfl iA (by rw[eC];exact kb1) rfl (aL 1)
  have bl:=pq (k:Int);have gr:=Grown.one i4 i5 i6.tn;have fI:ao (GF h h1 h.boxes.length (h1.loop rec).loops ag aA (k+1) ((H.app t).put h.boxes.length [.list (.free H.tn) 1 (ints (bW (eP ag aA (k+1))))])):=by
   have pG:=(aW.1 i2).1;refine⟨_,1,?_,?_,.inl rfl,by rw[Cv];exact gr.can,gr.ok,(gr.ext i6 (aL _)).fZ (aL _) _,λa cs ha bG=>?_⟩
   ·show(H.app t).loops=_;rw[xN];exact i1
   ·exact eO (by rw[eC];exact pG)
   ·rw[dh bG,eC];exact i7 a cs ha bG
  clear i1 i2 i3 i4 i5 i6 i7 gr bT bR hc kb1 kc1 g0 g1 g2 g3 X1 XL tI dG Ds vy HY b1 b2 b3 pF;rw[hK];rw[w3,w4];refine zy ?_;refine⟨aY,aY,aY,?_,?_⟩
  ·show(K.app t).loops=_;rw[xN]
  ·rw[<-hK];refine(congrArg (GF h h1 h.boxes.length (h1.loop rec).loops ag aA (k+1)) ?_).mpr fI.out;cases t<;>rfl
 ·obtain⟨Hf,c1,⟨t,s,i1,i2,i3,i4,i5,i6,i7⟩|z⟩:=feed;rotate_left 1
  ·exact z.elim
  refine⟨_,_,c1,rec,by rw[i1];exact iu,by rw[w5];decide,.inl ⟨w6,?_⟩⟩;have q1:(Hf.fc h1.loops.length {rec with state:=.exhausted}).boxes[h.boxes.length]?=aa [.list t s (ints (bW (eP ag aA ag.length)))]:=i2;have XF:Ext h (Hf.fc h1.loops.length {rec with state:=.exhausted}):=((Fr.DK (bn:=h.boxes.length) (l0:=h.loops.length) (n0:=h.tn) i6 (aL _)).trans (.fc ai _)).ext (aL _) (aL _) (aL _);generalize Hf.fc h1.loops.length {rec with state:=.exhausted}=HF at *
  have lA:=vG q1;have fI:=ao.mk (az XF i3);clear q1 XF i1 i2 i3 i4 i5 i6 i7 c1 g0 g1 g2 g3 X1 XL tI dG Ds vy HY b1 b2 b3 iu w1 w2 w3 w4 w5 w6 pF;refine bC @abF ?_;refine⟨_,_,rfl,fI.out.1,_,rfl,t,s,by rw[Mt],λq=>?_⟩;rcases fI.out.2 with z|⟨z,-⟩
  ·exact z
  ·exfalso;rw[Mt] at z;rw[z] at q;exact q rfl
def aib(h)(bB:cK h=ah)(c wb kb)(Y)(ag)(aA)(cs)(hy:IL Y ag)(oP:ag.length<=1000000)(b1:h.boxes[wb]?=aa [.ptr (.box c) 0])(b2:h.boxes[kb]?=aa [.v (.int .i64 aA)])(b3:h.boxes[c]?=aa cs)(b4:cs[2]?=aa Y):
 ∃r h',W5.call 72 [.func (.func 128) [] [.ptr (.box wb) 0,.ptr (.box kb) 0]] h=aa (r,h')/\Ext h h'/\∃Z,r=.ret Z/\IL Z (bW (ga ag aA)):=by
 obtain⟨_,h',c1,X,Z,rfl,hZ⟩:=afC h bB c wb kb Y ag aA cs hy oP b1 b2 b3 b4;have kZ:=ao.mk (az X hZ);clear X hZ b1 b2 b3 b4 hy;refine di rfl Tryz.func72 rfl ?_;refine bC @as7 ?_;exact⟨_,_,rfl,kZ.out.1,_,rfl,kZ.out.2⟩
def abX:Tryz.f67.results.toList=[.tmp 4]:=aw
def Jx:Tryz.f22.results.toList=[.tmp 10,.tmp 11]:=aw
def ade:(iB aq 90).bind AV.cd=aa [.v (.pointer av)]:=aw
def TC{H:ar}(c):cE aq (H.push [.v (.pointer av)]) 90 (.ptr (.box H.boxes.length) 0) (.ptr (.box c) 0)=aa (H.push [.ptr (.box c) 0]):=lq rfl aw rfl rfl
def xe(ae:List (List Int))(aj W:List Int)(ch:Int)(row:Int):Nat:=bH (ja aj (ae.getD row.toNat [])) (al W row.toNat * ch)
def I9{aj row}(h:aj.all bN=ah):elem (ja aj row)=ah:=Mj h _ (aL _)
def apw(x)(a b):bH x (df a b)=bH x (a * b):=I6 (by rw[ur,Int.emod_emod_of_dvd _ (Int.dvd_refl _)])
def apO(H:ar)(kb wb c:Nat)(ep:Int)(X Y C T L Wt:AV)(pt ch:Int)(ae:List (List Int))(ag aj W:List Int)(text:List UInt8)(l:List Pr)
 (hx:RL X ae) (hy:IL Y ag) (hc:IL C aj) (hW:IL Wt W) (db:aj.length<=1000000) (Ff:jD ae ag aj=0) (jG:W.length=ae.length)
 (k1:H.boxes[kb]?=aa (aN ep X Y C)) (k2:H.boxes[wb]?=aa [.ptr (.box c) 0]) (w:wh H c ep X Y C T L Wt pt ch aj text l) (row:Nat) (dV:row<ae.length):
 ∃H',W5.call 67 [im (row:Nat),.ptr (.box kb) 0,.ptr (.box wb) 0] H=aa (.ret (im (xe ae aj W ch (row:Nat):Nat)),H')/\Ext H H':=by
 obtain⟨_,H2,c1,rfl,x1⟩:=aa9 H X Y C ae ag aj hx hy hc db (row:Nat);obtain⟨p1,p2,p3⟩:=Wg Ff;have Zc:uQ ae ag aj (row:Nat)=(((ja aj (ae.getD row []):Nat):Int),0):=by unfold uQ;rw[aJ (by simp[Ff]),aJ (by rw[cS (show ¬((row:Nat):Int)<0 by omega),cS (show ¬(ae.length:Int)<=((row:Nat):Int) by omega)];simp),dW]
 rw[Zc] at c1;have l1:aI aq Gt H 25 (.ptr (.box kb) 1)=aa (.agg [X,Y]):=by rw[iP xL (by kernel_rfl:dJ aq 25=aa 2) k1 (jS rfl)];rfl
 have l2:aI aq Gt H 23 (.ptr (.box kb) 3)=aa C:=cQ mj k1 rfl;have l3:aI aq Gt H2 90 (.ptr (.box wb) 0)=aa (.ptr (.box c) 0):=cQ xM (x1.box _ _ k2) rfl;obtain⟨b,vr,w1,-⟩:=(w.mono x1).eT;have l4:aI aq Gt H2 23 (.ptr (.box c) 6)=aa Wt:=cQ mj w1 rfl;have l5:aI aq Gt H2 3 (.ptr (.box c) 12)=aa (.v (.int .i64 ch)):=cQ fh w1 rfl;have ix:=hW.ix (i:=row) ai;have l6:=ev (H:=H2) (l:=W) (i:=row) (s:=1) ai;have c2:=LW (al W row) ch;have he:=rq (I9 (row:=ae.getD row []) p3);have c3:=I8 ((ja aj (ae.getD row []):Nat):Int) (df (al W row) ch);rw[qK he,dW,apw] at c3;have uG:xe ae aj W ch (row:Nat)=bH (ja aj (ae.getD row [])) (al W row * ch):=by unfold xe;rw[dW]
 rw[uG];have kX:=ao.mk x1;clear Zc uG he x1 w w1 k1 k2 hx hy hc hW Ff p1 p2 p3;generalize ((bH (ja aj (ae.getD row [])) (al W row * ch):Nat):Int)=res at *
 generalize df (al W row) ch=m at *
 generalize ((ja aj (ae.getD row []):Nat):Int)=pv at *
 generalize al W row=wr at *
 unfold im at *
 refine iD rfl Tryz.func67 rfl ?_;refine cX @abX @gv @il ?_;refine eJ mA aw ?_;refine bQ @abX @r9 ?_;exact⟨_,rfl,kX.out⟩
def TV{ae}{ag aj}{ep}{text}{l}(h:cP ae ag ep aj text l=0):
 ∃y,fV ae ag (l.map Pr.aA)=(y,ah,0)/\ff ae ag l=y/\y.length=ae.length:=by
 have h0:=h;unfold cP at h;rw[aJ (by simp[(Cq h0).1])] at h;split at h
 ·simp at h
 ·split at h
  ·simp at h
  ·split at h
   ·simp at h
   ·split at h
    ·simp at h
    ·cases hq:fV ae ag (l.map Pr.aA) with
     |mk y oe=>
      obtain⟨o,e⟩:=oe;rw[hq] at h;simp only at h;split at h
      ·simp at h
      ·rename_i q;simp only[not_or,J6,Bool.not_eq_false] at q;obtain⟨q1,q2,-⟩:=q;subst q1;subst q2;exact⟨y,rfl,by unfold ff;rw[hq],(zj hq).2.2.1⟩
def ki(ae:List (List Int))(ag:List Int)(ep:Int)(aj:List Int)(text:List UInt8)(l:List Pr)(aA z:Int):Bool × Int:=
 if cP ae ag ep aj text l≠0 then (aB,cP ae ag ep aj text l) else uq ae ag aj text l aA z
def ab4(c o):fA (.ptr (.box c) o) (.ptr (.box c) o)=ah:=by rw[fA,MW,ael,ael];rfl
def Sb{l}{aA}{q}(h:nu l aA=aa q):q∈l/\q.aA=aA:=by unfold nu at h;refine⟨List.mem_of_find?_eq_some h,?_⟩;have:=List.find?_some h;simpa using this
def Xj(f:Int->Nat):∀(l:List Nat) (k:Nat),(bW l).foldl (λx q=>x * f q%P) k=l.foldl (λx i=>x * f ((i:Nat):Int)%P) k
 | [],_=>rfl
 |a::l,k=>Xj f l _
def ajO(h:ar)(bB:cK h=ah)(ep:Int)(X Y C T L:AV)(ae:List (List Int))(ag aj:List Int)(text:List UInt8)(l:List Pr)(aA z:Int)
 (hx:RL X ae) (hy:IL Y ag) (hc:IL C aj) (ht:BL T text) (hp:PL L l) (db:aj.length<=1000000) (dG:l.length<=1000000):
 ∃r h',W5.call 22 [.agg (aN ep X Y C),T,L,im aA,im z] h=aa (r,h')/\r=.ret (.tuple [.v (.bool (ki ae ag ep aj text l aA z).1),im (ki ae ag ep aj text l aA z).2]):=by
 have bx:=uL (ep:=ep) hx hy hc;obtain⟨r1,h1,c1,x1,post⟩:=ON (h.push (aN ep X Y C)) bB ep X Y C T L ae ag aj text l hx hy hc ht hp db dG;have b0:=bg h (aN ep X Y C);have l0:aI aq Gt (h.push (aN ep X Y C)) 27 (.ptr (.box h.boxes.length) 0)=aa (.agg (aN ep X Y C)):=by rw[iP aw (by kernel_rfl:dJ aq 27=aa 4) b0 (jS rfl)];rfl
 have kE1:ao (cP ae ag ep aj text l≠0->ki ae ag ep aj text l aA z=(aB,cP ae ag ep aj text l)):=⟨λq=>by unfold ki;rw[aH q]⟩;have kE2:ao (cP ae ag ep aj text l=0->ki ae ag ep aj text l aA z=uq ae ag aj text l aA z):=⟨λq=>by unfold ki;rw[aJ (by simp[q])]⟩;have kbo:=ao.mk (λq=>@Cq ae ag aj ep text l q);have kwt:=ao.mk (λq=>@TV ae ag aj ep text l q);have zc:=ade;have zp:=D5;have kf:=ao.mk (az hx (az hy (az hc hp)));have g1:=x1.box _ _ b0;have tI:=x1.ok bB;generalize ki ae ag ep aj text l aA z=res at *
 generalize cP ae ag ep aj text l=be at *
 clear hx hy hc ht hp b0 x1;refine di rfl Tryz.func22 rfl ?_;rcases post with⟨q,rfl⟩|⟨q,c,Wt,rfl,uu,w⟩
 ·have kr:=ao.mk (kE1.out q);have st:=TC (H:=h1);have stn:cE aq (h1.push [.v (.pointer av)]) 90 (.ptr (.box h1.boxes.length) 0) (.v (.pointer av))=aa (h1.push [.v (.pointer av)]):=lq rfl aw rfl rfl;clear kE1 kE2 kbo kwt g1 tI;unfold im at *
  refine bQ @Jx @bu ?_;exact⟨_,_,rfl,by rw[kr.out]⟩
 obtain⟨p1,p2,p3,p4,p5,p6⟩:=kbo.out q;obtain⟨y,a1,a2,a3⟩:=kwt.out q;have iH:=kE2.out q;subst q;have st:=TC (H:=h1) c;have g2:(h1.push [.ptr (.box c) 0]).boxes[h.boxes.length]?=aa (aN ep X Y C):=bh g1;have g3:=bg h1 [AV.ptr (.box c) 0];have w2:=w.mono (.push h1 [.ptr (.box c) 0]);obtain⟨b,vr,w3,-⟩:=w2.eT;obtain⟨_,h4,c2,x4,post⟩:=WT (h1.push [.ptr (.box c) 0]) c _ L l aA [z] (.list .tight 1 [[.v (.int .i64 z)]]) w3 rfl kf.out.2.2.2 dG (LF z) bJ;rw[(bJ:[z].all cA=cA z)] at post;have l1:aI aq Gt (h1.push [.ptr (.box c) 0]) 90 (.ptr (.box h1.boxes.length) 0)=aa (.ptr (.box c) 0):=cQ xM g3 rfl;have bl:=pq z;have fE1:ao (nu l aA=av∨cA z=aB->uq ae ag aj text l aA z=(aB,1)):=⟨λq=>by
  unfold uq;cases qP:nu l aA with
  |none=>rfl|some x=>
   rcases q with q|q
   ·rw[qP] at q;cases q
   ·simp only[q];rfl⟩
 have fE2:ao (∀x,nu l aA=aa x->cA z=ah->uq ae ag aj text l aA z=(decide (bH Gn z=vW ae ag aj text l x),0)):=⟨λx q1 q2=>by unfold uq;rw[q1];simp only[q2];rfl⟩;clear w3;rcases post with⟨q,rfl⟩|⟨x,q1,q2,rfl⟩
 ·have kr:=ao.mk (iH.trans (fE1.out q));have sq:=BU (H:=h4) ⟨0,0,0,0⟩;clear kE1 kE2 kbo kwt g1 g2 g3 w w2 tI fE1 fE2 iH a1 a2 a3 q p1 p2 p3 p6 x4;unfold im at *
  refine bQ @Jx @bu ?_;exact⟨_,_,rfl,by rw[kr.out]⟩
 have kr:=ao.mk (iH.trans (fE2.out x q1 q2));obtain⟨dR,vE⟩:=Sb q1;have hm:=Ae p6 x dR;have YV:=x4.ok (show cK (h1.push [.ptr (.box c) 0])=ah from tI);have sq:=BU (H:=h4) x;obtain⟨h5,Bm⟩:∃h5,h4.push (cq x)=h5:=⟨_,rfl⟩;have X5:Ext (h1.push [.ptr (.box c) 0]) h5:=by rw[<-Bm];exact x4.trans (.push _ _)
 have YW:cK h5=ah:=by rw[<-Bm];exact YV
 have k5:h5.boxes[h.boxes.length]?=aa (aN ep X Y C):=X5.box _ _ g2;have m5:h5.boxes[h1.boxes.length]?=aa [.ptr (.box c) 0]:=X5.box _ _ g3;have W5':=w2.mono X5;have q5:h5.boxes[h4.boxes.length]?=aa (cq x):=by rw[<-Bm];exact bg _ _
 have lp5:=DD q5;have lw5:aI aq Gt h5 90 (.ptr (.box h1.boxes.length) 0)=aa (.ptr (.box c) 0):=cQ xM m5 rfl;obtain⟨_,h6,c3,x6,rfl⟩:=aaw h5 c ep X Y C T L Wt _ _ aj text l W5' x ⟨ai,by omega⟩ hm.2.2.2.2.1 hm.2.2.2.2.2;have Di:=x6.ok YW;have m6:=x6.box _ _ m5;have lw6:aI aq Gt h6 90 (.ptr (.box h1.boxes.length) 0)=aa (.ptr (.box c) 0):=cQ xM m6 rfl;have c4:=abx h6 c aA;have W6':=W5'.mono x6;obtain⟨b6,vr6,w6,-⟩:=W6'.eT;have YX:cK ((h6.push [.ptr (.box c) 0]).push [.v (.int .i64 aA)])=ah:=Di;obtain⟨_,h8,c5,x8,Z,rfl,hZ⟩:=aib ((h6.push [.ptr (.box c) 0]).push [.v (.int .i64 aA)]) YX c h6.boxes.length (h6.boxes.length+1) Y ag aA _ kf.out.2.1 (by obtain⟨o1,o2,-⟩:=qp p1;omega)
  (bh (bg _ _)) (nM (by rw[cR])) (bh (bh w6)) rfl
 have X8:Ext h5 h8:=x6.trans (((Ext.push _ _).trans (.push _ _)).trans x8);have uz:jD ae ag aj=0:=by unfold jD;rw[aJ (by simp[p1]),aH (by rw[b8 p2,p3];rfl)]
 obtain⟨o1,o2,o3,o4⟩:=qp p1;have cU:∀q∈bW (ga ag aA),∃i:Nat,q=(i:Int)/\i<ae.length:=λq hq=>by unfold bW at hq;obtain⟨i,hi,rfl⟩:=kC.1 hq;unfold ga at hi;exact⟨i,rfl,by rw[o1];exact gf.1 (we.1 hi).1⟩
 have mo:(bW (ga ag aA)).length<=1000000:=by unfold bW ga;rw[bF];exact fG (GV _ _) (by rw[ad2];omega)
 obtain⟨_,h9,c6,x9,rfl⟩:=apM 67 [] [.ptr (.box h.boxes.length) 0,.ptr (.box h1.boxes.length) 0] (xe ae aj (ff ae ag l) ((ek (al aj 0) text l:Nat):Int)) h8 Z (bW (ga ag aA)) hZ mo
  (λq hq=>by unfold xe;exact xd (I9 p3) _)
  (λq hq H hH=>by obtain⟨i,rfl,hi⟩:=cU q hq;exact apO H h.boxes.length h1.boxes.length c ep X Y C T L Wt _ _ ae ag aj (ff ae ag l) text l kf.out.1 kf.out.2.1 kf.out.2.2.1 uu db uz (by rw[a2];exact a3) ((X8.trans hH).box _ _ k5) ((X8.trans hH).box _ _ m5) (W5'.mono (X8.trans hH)) i hi)
 rw[Xj] at c6;have hN:=DI (c0:=al aj 0) (text:=text) (l:=l) hm.2.2.2.2.1 hm.2.2.2.2.2;have hF:elem ((ga ag aA).foldl (λx i=>x * xe ae aj (ff ae ag l) ((ek (al aj 0) text l:Nat):Int) ((i:Nat):Int)%P) 1)=ah:=BN (λi _=>by unfold xe;exact xd (I9 p3) _) A4;have c7:=E7 ((iZ (al aj 0) text l x:Nat):Int) (((ga ag aA).foldl (λx i=>x * xe ae aj (ff ae ag l) ((ek (al aj 0) text l:Nat):Int) ((i:Nat):Int)%P) 1:Nat):Int);have Zw:iZ (al aj 0) text l x * ((ga ag aA).foldl (λx i=>x * xe ae aj (ff ae ag l) ((ek (al aj 0) text l:Nat):Int) ((i:Nat):Int)%P) 1)%P=vW ae ag aj text l x:=by unfold vW xe;rw[vE];simp only[dW]
 rw[K3 hN hF,Zw] at c7;have c8:=I8 4 z;have hG:(4:Int).toNat=Gn:=rfl;rw[qK vm,hG] at c8;have hd:decide (bH Gn z=vW ae ag aj text l x)=decide (((bH Gn z:Nat):Int)=((vW ae ag aj text l x:Nat):Int)):=by rw[decide_eq_decide];omega
 rw[hd] at kr;clear kE1 kE2 kbo kwt fE1 fE2 iH a1 a2 a3 p1 p2 p3 p6 x4 X5 tI YV YW Di YX g1 g2 g3 w w2 W5' W6' w6 k5 m5 q5 m6 x6 x8 X8 x9 hZ uz o1 o2 o3 o4 cU mo hN hF Zw hG hd hm dR vE q1 q2 uu;generalize ((vW ae ag aj text l x:Nat):Int)=wv at *
 generalize ((bH Gn z:Nat):Int)=pz at *
 generalize ((iZ (al aj 0) text l x:Nat):Int)=nv at *
 generalize (((ga ag aA).foldl (λx i=>x * xe ae aj (ff ae ag l) ((ek (al aj 0) text l:Nat):Int) ((i:Nat):Int)%P) 1:Nat):Int)=fv at *
 unfold im at *
 refine bQ @Jx @bu ?_;refine nW [(2,3)] mA aw (λp hp=>?_) ?_
 ·simp only[nC] at hp;subst hp;refine sS (x:=.ptr (.box h1.boxes.length) 0) (v:=.ptr (.box c) 0) aw rfl rfl rfl aw (ab4 c 0) ?_ ?_<;>(simp only[iV,gF];exact jw @Jx @and_self)
 refine bC @Jx ?_;exact⟨_,_,rfl,by rw[kr.out]⟩
end Go.Proofs.YtnfciiiohoafaaaGreatDoor
end
section
namespace Go.AE
section
variable {P:Program} {G:Nat->Option (List AV)} {R:Rec}
def acw{ops:Array Oper}{e:Env}{h:ar}{i j:Nat}{o:Oper}{t:TypeId}{a:Operand}(vq:qF ops i j=ah)(ho:ops[j]?=aa o)(bV:o.op=.load t a)
 (hj:(ops[i]?).map (λo=>jU o.op)=aa .acts) {x v:AV} (hv:fA v v=ah)
 (h1:da P G R ops (ops.toList.take j) e h (λq er hr=>q=.normal/\fL ops er o=aa ah/\er.eval a=x/\aI P G hr t x=aa v))
 (h2:da P G R ops (ops.toList.take i) e h (λq _ hm=>q=.normal/\aI P G hm t x=aa v)):mH P G R ops e h i j=ah:=by
 have hi:i<ops.size:=by
  rcases ez i ops.size with hh|hh
  ·exact hh
  ·rw[yR hh] at hj;cases hj
 have Qq:j<ops.size:=by
  rcases ez j ops.size with hh|hh
  ·exact hh
  ·rw[yR hh] at ho;cases ho
 have hc:(ops[j]?).map (λo=>jU o.op)=aa .reads:=by rw[ho];simp only[ft,bV];rfl
 unfold mH;rw[vq,hc,hj];simp only[rT];unfold qV;rw[ho,tQ ai,tQ ai];obtain⟨q1,er,hr,e1,rfl,e0,e2,e3⟩:=h1;obtain⟨q2,em,hm,f1,rfl,f2⟩:=h2;rw[e1,f1];simp only[e0,bV,e2,e3,f2,hv]
def auY{ops:Array Oper}{e:Env}{h:ar}{i j:Nat}{o:Oper}{t:TypeId}{a:Operand}(vq:qF ops i j=ah)(ho:ops[j]?=aa o)(bV:o.op=.load t a)
 (hj:(ops[i]?).map (λo=>jU o.op)=aa .acts)
 (h1:da P G R ops (ops.toList.take j) e h (λq er hr=>q=.normal/\fL ops er o=aa aB))
 (h2:da P G R ops (ops.toList.take i) e h (λq _ hm=>q=.normal)):mH P G R ops e h i j=ah:=by
 have hi:i<ops.size:=by
  rcases ez i ops.size with hh|hh
  ·exact hh
  ·rw[yR hh] at hj;cases hj
 have Qq:j<ops.size:=by
  rcases ez j ops.size with hh|hh
  ·exact hh
  ·rw[yR hh] at ho;cases ho
 have hc:(ops[j]?).map (λo=>jU o.op)=aa .reads:=by rw[ho];simp only[ft,bV];rfl
 unfold mH;rw[vq,hc,hj];simp only[rT];unfold qV;rw[ho,tQ ai,tQ ai];obtain⟨q1,er,hr,e1,rfl,e0⟩:=h1;obtain⟨q2,em,hm,f1,rfl⟩:=h2;rw[e1,f1];simp only[e0]
end
end Go.AE
end
section
namespace Go.Proofs.YtnfciiiohoafaaaGreatDoor
open Go.AE Go.NT
def mG:Tryz.f20.results.toList=[.cell 14 3,.cell 15 32]:=aw
def asn(ag)(aA){k}:∀{n:Nat},k<=n->∃t,eP ag aA n=eP ag aA k++t:=by
 intro n
 induction n with
 |zero=>intro h;exact⟨[],by rw[(ai:k=0)];simp⟩
 |succ n ih=>
  intro h;rcases ez n k with aC|eF
  ·exact⟨[],by rw[(ai:k=n+1)];simp⟩
  ·obtain⟨t,ht⟩:=ih eF;by_cases hq:al ag n=aA
   ·exact⟨t++[n],by rw[Jj hq,ht,ua]⟩
   ·exact⟨t,by rw[DP hq,ht]⟩
def aoE{ae}{ag aj}{aA}{s}(h:nt ae ag aj aA s=ah){k}(hk:k<ag.length)(hq:al ag k=aA):
 ∃p,s[(eP ag aA k).length]?=aa p/\p.1=((k:Nat):Int)/\DW ae aj p=ah:=by
 unfold nt at h;rw[bI,decide_eq_true_eq] at h;obtain⟨h1,h2⟩:=h;obtain⟨t,ht⟩:=asn ag aA (ai:k+1<=ag.length);rw[Mt,Jj hq] at ht;have e:(s.map Hk)[(eP ag aA k).length]?=aa ((k:Nat):Int):=by rw[h1,ht,ey,ua,AL (aL _),ve];rfl
 rw[ey] at e;cases hp:s[(eP ag aA k).length]? with
 |none=>rw[hp] at e;cases e
 |some p=>rw[hp] at e;injection e with e;rw[eK] at h2;exact⟨p,rfl,e,h2 p (dy hp)⟩
def JH{H}{b}{x}{n}(hb:H.boxes[b]?=aa [x]):cE aq H 3 (.ptr (.box b) 0) (.v (.int .i64 n))=aa (H.put b [.v (.int .i64 n)]):=fK (off:=0) (cs:=[x]) (xs:=[.v (.int .i64 n)]) rfl fR hb rfl (aL 1)
def OA:gY aq 36=aa aB:=aw
def JG{H}{b}{x}{n}(hb:H.boxes[b]?=aa [x]):cE aq H 32 (.ptr (.box b) 0) (.v (.int .i64 n))=aa (H.put b [.v (.int .i64 n)]):=fK (off:=0) (cs:=[x]) (xs:=[.v (.int .i64 n)]) rfl JM hb rfl (aL 1)
def aw1:(iB aq 3).bind AV.cd=aa [.v (.int .i64 0)]:=aw
def aw0:(iB aq 32).bind AV.cd=aa [.v (.int .i64 0)]:=aw
def awQ{y}{s:List (Int × Int)}{i}{p}(h:s[i]?=aa p):mw y (s.take (i+1))=dj (mw y (s.take i)) (df (al y p.1.toNat) p.2):=by unfold mw;rw[fE h,oI];rfl
def SL.ix{x}{l}(h:SL x l){i}(hi:i<l.length):dS aq 36 x (.v (.int .i64 (i:Nat)))=aa (.elem 2 (jB l) i 0):=by obtain⟨k,s,rfl,hs⟩:=h;have bD:s=2:=hs (by intro q;rw[q] at hi;simp at hi);subst bD;have:=bp (k:=k) (kk:=.i64) (es:=jB l) (a:=((i:Nat):Int)) aeV Nj ai (by rw[Tl];omega);rw[this,dW]
def SL.dQ{x}{l}(h:SL x l):dQ aq 36 x=aa (.v (.int .i64 (l.length:Nat))):=by obtain⟨k,s,rfl,-⟩:=h;have u36:=aeV;unfold Go.AE.dQ;rw[u36];simp only[Tl]
def SL.cd{x}{l}(h:SL x l):x.cd=aa [x]:=by obtain⟨k,s,rfl,-⟩:=h;rfl
structure G7(Hb:ar)(li:Nat)(rec:iW)(jv ib zb eb:Nat)(ae:List (List Int))(ag aj W:List Int)(aA:Int)(s:List (Int × Int))(k:Nat)(H:ar):Prop where
 lp:H.loops[li]?=aa rec
 dw:∀(a:Nat) (cs:List AV),Hb.boxes[a]?=aa cs->a≠jv->a≠ib->H.boxes[a]?=aa cs
 sum:H.boxes[jv]?=aa [.v (.int .i64 (mw W (s.take (eP ag aA k).length)))]
 ix:H.boxes[ib]?=aa [.v (.int .i64 ((eP ag aA k).length:Nat))]
 le:(eP ag aA k).length<=s.length
 same:(s.take (eP ag aA k).length).map Hk=(eP ag aA k).map λ(i:Nat)=>(i:Int)
 ok:(s.take (eP ag aA k).length).all (DW ae aj)=ah
structure G8(li:Nat)(rec:iW)(zb eb:Nat)(H:ar):Prop where
 lp:H.loops[li]?=aa {rec with state:=.done,pending:=aa .ret}
 z:H.boxes[zb]?=aa [.v (.int .i64 0)]
 e:H.boxes[eb]?=aa [.v (.int .i64 340)]
def ahU{ae}{ag aj}(p1:de ae ag=0)(p2:aj.length=bP ae)(p3:aj.all bN=ah):jD ae ag aj=0:=by unfold jD;rw[aJ (by simp[p1]),aH (by rw[b8 p2,p3];rfl)]
def ajV{ae}{ag aj}(hc:jD ae ag aj=0){k}{v}(hk:k<ae.length):
 (DW ae aj (((k:Nat):Int),v)=ah/\uo ae ag aj (((k:Nat):Int),v)=(ah,0))∨(DW ae aj (((k:Nat):Int),v)=aB/\(uo ae ag aj (((k:Nat):Int),v)=(aB,340)∨uo ae ag aj (((k:Nat):Int),v)=(aB,0))):=by
 have hr:uR ae (((k:Nat):Int),v)=cA v:=by unfold uR;rw[b8 (show(0:Int)<=((k:Nat):Int) by omega),b8 (show((k:Nat):Int)<(ae.length:Int) by omega)];rfl
 unfold DW uo;rw[aJ (by simp[hc]),hr];simp only[dW];cases hv:cA v with
 |false=>exact .inr ⟨rfl,.inl rfl⟩|true=>
  by_cases hq:bH Gn v=ja aj (ae.getD k [])
  ·left;rw[b8 hq];exact⟨rfl,rfl⟩
  ·right;rw[cS hq];exact⟨rfl,.inr rfl⟩
def CF{Hx}{zb eb}{x y}(hz:Hx.boxes[zb]?=aa [x])(he:Hx.boxes[eb]?=aa [y])(bG:zb≠eb)(n m):
 cE aq Hx 3 (.ptr (.box zb) 0) (.v (.int .i64 n))=aa (Hx.put zb [.v (.int .i64 n)])/\aI aq Gt Hx 32 (.ptr (.box eb) 0)=aa y/\aI aq Gt (Hx.put zb [.v (.int .i64 n)]) 32 (.ptr (.box eb) 0)=aa y/\
  cE aq (Hx.put zb [.v (.int .i64 n)]) 32 (.ptr (.box eb) 0) (.v (.int .i64 m))=aa ((Hx.put zb [.v (.int .i64 n)]).put eb [.v (.int .i64 m)])/\
  aI aq Gt ((Hx.put zb [.v (.int .i64 n)]).put eb [.v (.int .i64 m)]) 3 (.ptr (.box zb) 0)=aa (.v (.int .i64 n))/\aI aq Gt ((Hx.put zb [.v (.int .i64 n)]).put eb [.v (.int .i64 m)]) 32 (.ptr (.box eb) 0)=aa (.v (.int .i64 m)):=by
 have jz:=(aW.1 hz).1;have pE:=(aW.1 he).1;have q:(Hx.put zb [AV.v (.int .i64 n)]).boxes[eb]?=aa [y]:=by rw[dh (Ne.symm bG)];exact he
 have q2:((Hx.put zb [AV.v (.int .i64 n)]).put eb [AV.v (.int .i64 m)]).boxes[zb]?=aa [.v (.int .i64 n)]:=by rw[dh bG];exact eO jz
 have q3:((Hx.put zb [AV.v (.int .i64 n)]).put eb [AV.v (.int .i64 m)]).boxes[eb]?=aa [.v (.int .i64 m)]:=eO (by rw[mE];exact pE);exact⟨JH hz,cQ zo he rfl,cQ zo q rfl,JG q,cQ fh q2 rfl,cQ zo q3 rfl⟩
def vL(ae:List (List Int))(ag:List Int)(ep:Int)(aj:List Int)(text:List UInt8)(l:List Pr)(aA:Int)(s:List (Int × Int))(d f:Int):Int × Int:=
 if cP ae ag ep aj text l≠0 then (0,cP ae ag ep aj text l) else BE ae ag aj text l aA s d f
def anG{ae}{ag aj}{text}{l}{aA}{s}{d f}(h:nu l aA=av∨[d,f].all cA=aB):BE ae ag aj text l aA s d f=(0,1):=by
 unfold BE;cases hp:nu l aA with
 |none=>rfl|some x=>
  rcases h with q|q
  ·rw[hp] at q;cases q
  ·have:(cA d&&cA f)=aB:=(by simpa using q);simp only[this];rfl
def anH{ae}{ag aj}{text}{l}{aA}{s}{d f}{x}(h:nu l aA=aa x)(hq:[d,f].all cA=ah):BE ae ag aj text l aA s d f=
 if nt ae ag aj aA s=aB then (0,340) else if ¬((bH Gn d:Nat):Int)=x.d∨¬((bH Gn f:Nat):Int)=x.e then (0,420)
 else (dj (dj d (df f (fC (al aj 0) text l aA))) (df (ek (al aj 0) text l) (mw (ff ae ag l) s)),0):=by
 unfold BE;have:(cA d&&cA f)=ah:=by simpa using hq
 rw[h];simp only[this];cases nt ae ag aj aA s<;>rfl
def agC(a b):gG aq 23 2 [(0,.v (.int .i64 a)),(1,.v (.int .i64 b))]=aa (.list .tight 1 (ints [a,b])):=aw
def anC(h:ar)(bB:cK h=ah)(ep:Int)(X Y C T L S:AV)(ae:List (List Int))(ag aj:List Int)(text:List UInt8)(l:List Pr)(s:List (Int × Int))(aA d f:Int)
 (hx:RL X ae) (hy:IL Y ag) (hc:IL C aj) (ht:BL T text) (hp:PL L l) (hs:SL S s) (db:aj.length<=1000000) (dG:l.length<=1000000) (nR:s.length<=1000000):
 ∃r h',W5.call 20 [.agg (aN ep X Y C),T,L,.v (.int .i64 aA),S,.v (.int .i64 d),.v (.int .i64 f)] h=aa (r,h')/\r=.ret (.tuple [.v (.int .i64 (vL ae ag ep aj text l aA s d f).1),.v (.int .i64 (vL ae ag ep aj text l aA s d f).2)]):=by
 have bx:=uL (ep:=ep) hx hy hc;have bS:=hs.cd;have zc:=ade;have zp:=D5;have z3:=aw1;have z32:=aw0;obtain⟨h0,Fi⟩:∃h0,(((h.push (aN ep X Y C)).push [S]).push [.v (.int .i64 0)]).push [.v (.int .i64 0)]=h0:=⟨_,rfl⟩;obtain⟨sb,ma⟩:∃n,(h.push (aN ep X Y C)).boxes.length=n:=⟨_,rfl⟩;obtain⟨zb,Rk⟩:∃n,((h.push (aN ep X Y C)).push [S]).boxes.length=n:=⟨_,rfl⟩;obtain⟨eb,P7⟩:∃n,(((h.push (aN ep X Y C)).push [S]).push [.v (.int .i64 0)]).boxes.length=n:=⟨_,rfl⟩;obtain⟨kb,vy⟩:∃n,h.boxes.length=n:=⟨_,rfl⟩;have o1:kb<sb/\sb<zb/\zb<eb:=by rw[<-vy,<-ma,<-Rk,<-P7];simp only[cR];omega
 have gk:h0.boxes[kb]?=aa (aN ep X Y C):=by rw[<-Fi,<-vy];exact bh (bh (bh (bg _ _)))
 have gs:h0.boxes[sb]?=aa [S]:=by rw[<-Fi,<-ma];exact bh (bh (bg _ _))
 have gz:h0.boxes[zb]?=aa [.v (.int .i64 0)]:=by rw[<-Fi,<-Rk];exact bh (bg _ _)
 have ge:h0.boxes[eb]?=aa [.v (.int .i64 0)]:=by rw[<-Fi,<-P7];exact bg _ _
 have wO:cK h0=ah:=by rw[<-Fi];exact bB
 obtain⟨r1,h1,c1,x1,post⟩:=ON h0 wO ep X Y C T L ae ag aj text l hx hy hc ht hp db dG;have l0:aI aq Gt h0 27 (.ptr (.box kb) 0)=aa (.agg (aN ep X Y C)):=by rw[iP aw (by kernel_rfl:dJ aq 27=aa 4) gk (jS rfl)];rfl
 have kE1:ao (cP ae ag ep aj text l≠0->vL ae ag ep aj text l aA s d f=(0,cP ae ag ep aj text l)):=⟨λq=>by unfold vL;rw[aH q]⟩;have kE2:ao (cP ae ag ep aj text l=0->vL ae ag ep aj text l aA s d f=BE ae ag aj text l aA s d f):=⟨λq=>by unfold vL;rw[aJ (by simp[q])]⟩;have kbo:=ao.mk (λq=>@Cq ae ag aj ep text l q);have kwt:=ao.mk (λq=>@TV ae ag aj ep text l q);have kf:=ao.mk (az hx (az hy (az hc (az hp hs))));have gk1:=x1.box _ _ gk;have gs1:=x1.box _ _ gs;have lV:=x1.box _ _ gz;have ge1:=x1.box _ _ ge;have tI:=x1.ok wO;have lS:=hs.dQ;generalize vL ae ag ep aj text l aA s d f=res at *
 generalize cP ae ag ep aj text l=be at *
 have YM:=(aW.1 ge1).1;clear hx hy hc ht hp hs x1 gk gs gz ge wO bB;refine di rfl Tryz.func20 rfl ?_;rcases post with⟨q,rfl⟩|⟨q,c,Wt,rfl,uu,w⟩
 ·have kr:=ao.mk (kE1.out q);have stn:cE aq (h1.push [.v (.pointer av)]) 90 (.ptr (.box h1.boxes.length) 0) (.v (.pointer av))=aa (h1.push [.v (.pointer av)]):=lq rfl aw rfl rfl;have ste:cE aq (h1.push [.v (.pointer av)]) 32 (.ptr (.box eb) 0) (.v (.int .i64 be))=aa ((h1.push [.v (.pointer av)]).put eb [.v (.int .i64 be)]):=JG (bh ge1);obtain⟨a1,a2,a3,a4,a5,a6⟩:=CF (Hx:=(h1.push [.v (.pointer av)]).put eb [.v (.int .i64 be)]) (zb:=zb) (eb:=eb) (x:=.v (.int .i64 0)) (y:=.v (.int .i64 be)) (by rw[dh ai];exact bh lV) (eO (by rw[cR];omega)) ai 0 be;clear kE1 kE2 kbo kwt gk1 gs1 lV ge1 tI;refine bQ @mG @bu ?_;refine nW [(0,1)] mA aw (λp hp=>?_) ?_
  ·simp only[nC] at hp;subst hp;refine Al (x:=.ptr (.box eb) 0) (v:=.v (.int .i64 be)) aw rfl rfl rfl aw (by simp[fA,mU]) ?_ ?_<;>(simp only[iV,gF];exact jw @mG @and_self)
  refine bC @mG ?_;exact⟨_,_,rfl,by rw[kr.out]⟩
 obtain⟨p1,p2,p3,p4,p5,p6⟩:=kbo.out q;obtain⟨y,w1,w2,w3⟩:=kwt.out q;have iH:=kE2.out q;have uz:=ahU p1 p2 p3;subst q;clear kE1 kE2 kbo kwt;obtain⟨h2,tE⟩:∃h2,h1.push [.ptr (.box c) 0]=h2:=⟨_,rfl⟩;obtain⟨wb,Ds⟩:∃n,h1.boxes.length=n:=⟨_,rfl⟩;have stn:cE aq (h1.push [.v (.pointer av)]) 90 (.ptr (.box wb) 0) (.ptr (.box c) 0)=aa h2:=by rw[<-tE,<-Ds];exact TC c
 have gk2:h2.boxes[kb]?=aa (aN ep X Y C):=by rw[<-tE];exact bh gk1
 have gs2:h2.boxes[sb]?=aa [S]:=by rw[<-tE];exact bh gs1
 have jw:h2.boxes[zb]?=aa [.v (.int .i64 0)]:=by rw[<-tE];exact bh lV
 have ge2:h2.boxes[eb]?=aa [.v (.int .i64 0)]:=by rw[<-tE];exact bh ge1
 have gw2:h2.boxes[wb]?=aa [.ptr (.box c) 0]:=by rw[<-tE,<-Ds];exact bg _ _
 have ste:cE aq h2 32 (.ptr (.box eb) 0) (.v (.int .i64 0))=aa h2:=by rw[JG ge2,oB ge2]
 have le2:aI aq Gt h2 32 (.ptr (.box eb) 0)=aa (.v (.int .i64 0)):=cQ zo ge2 rfl;have lw2:aI aq Gt h2 90 (.ptr (.box wb) 0)=aa (.ptr (.box c) 0):=cQ xM gw2 rfl;have W2:wh h2 c ep X Y C T L Wt ((iQ (al aj 0) text l:Nat):Int) ((ek (al aj 0) text l:Nat):Int) aj text l:=by rw[<-tE];exact w.mono (.push _ _)
 have Dh:cK h2=ah:=by rw[<-tE];exact tI
 obtain⟨b,vr,w4,-⟩:=W2.eT;obtain⟨_,h3,c2,x3,post⟩:=WT h2 c _ L l aA [d,f] (.list .tight 1 (ints [d,f])) w4 rfl kf.out.2.2.2.1 dG ⟨_,_,rfl,λ_=>rfl⟩ bJ;have bl:=agC d f;have axN:eb<wb:=by rw[<-Ds];exact YM
 clear w4 w gk1 gs1 lV ge1 tI YM;have si:=x3.box _ _ jw;have ge3:=x3.box _ _ ge2;rcases post with⟨q,rfl⟩|⟨x,q1,q2,rfl⟩
 ·have kr:=ao.mk (iH.trans (anG q));have sq:=BU (H:=h3) ⟨0,0,0,0⟩;have se:cE aq (h3.push (cq ⟨0,0,0,0⟩)) 32 (.ptr (.box eb) 0) (.v (.int .i64 1))=aa ((h3.push (cq ⟨0,0,0,0⟩)).put eb [.v (.int .i64 1)]):=JG (bh ge3);obtain⟨a1,a2,a3,a4,a5,a6⟩:=CF (Hx:=(h3.push (cq ⟨0,0,0,0⟩)).put eb [.v (.int .i64 1)]) (zb:=zb) (eb:=eb) (x:=.v (.int .i64 0)) (y:=.v (.int .i64 1)) (by rw[dh ai];exact bh si) (eO (by rw[cR];have:=(aW.1 ge3).1;omega)) ai 0 1;clear iH q W2 x3 gk2 gs2 jw ge2 gw2 Dh si ge3 p1 p2 p3 p6 w1 w2 w3 uz uu;refine bQ @mG @bu ?_;refine nW [(0,1)] mA aw (λp hp=>?_) ?_
  ·simp only[nC] at hp;subst hp;refine Al (x:=.ptr (.box eb) 0) (v:=.v (.int .i64 1)) aw rfl rfl rfl aw (by simp[fA,mU]) ?_ ?_<;>(simp only[iV,gF];exact jw @mG @and_self)
  refine bC @mG ?_;exact⟨_,_,rfl,by rw[kr.out]⟩
 rw[anH q1 q2] at iH;obtain⟨dR,vE⟩:=Sb q1;have hm:=Ae p6 x dR;have sq:=BU (H:=h3) x;obtain⟨h4,Lf⟩:∃h4,h3.push (cq x)=h4:=⟨_,rfl⟩;obtain⟨pb,QO⟩:∃n,h3.boxes.length=n:=⟨_,rfl⟩;rw[Lf,QO] at sq;have o3:wb<pb:=by have z1:=(aW.1 gw2).1;have z2:=x3.len;omega
 have X4:Ext h2 h4:=by rw[<-Lf];exact x3.trans (.push _ _)
 have gk4:=X4.box _ _ gk2;have gs4:=X4.box _ _ gs2;have oj:=X4.box _ _ jw;have ge4:=X4.box _ _ ge2;have gw4:=X4.box _ _ gw2;have gp4:h4.boxes[pb]?=aa (cq x):=by rw[<-Lf,<-QO];exact bg _ _
 have W4':=W2.mono X4;have ste4:cE aq h4 32 (.ptr (.box eb) 0) (.v (.int .i64 0))=aa h4:=by rw[JG ge4,oB ge4]
 have le4:aI aq Gt h4 32 (.ptr (.box eb) 0)=aa (.v (.int .i64 0)):=cQ zo ge4 rfl;obtain⟨h5,Bm⟩:∃h5,(h4.push [.v (.int .i64 0)]).push [.v (.int .i64 0)]=h5:=⟨_,rfl⟩;obtain⟨jv,LA⟩:∃n,h4.boxes.length=n:=⟨_,rfl⟩;obtain⟨ib,Qk⟩:∃n,(h4.push [.v (.int .i64 0)]).boxes.length=n:=⟨_,rfl⟩;have o2:pb<jv/\jv<ib:=by refine⟨?_,by rw[<-LA,<-Qk,cR];omega⟩;rw[<-LA];exact(aW.1 gp4).1
 have gsum5:h5.boxes[jv]?=aa [.v (.int .i64 0)]:=by rw[<-Bm,<-LA];exact bh (bg _ _)
 have gib5:h5.boxes[ib]?=aa [.v (.int .i64 0)]:=by rw[<-Bm,<-Qk];exact bg _ _
 have X5:Ext h4 h5:=by rw[<-Bm];exact(Ext.push _ _).trans (.push _ _)
 have st5a:cE aq h5 3 (.ptr (.box jv) 0) (.v (.int .i64 0))=aa h5:=by rw[JH gsum5,oB gsum5]
 have st5b:cE aq h5 3 (.ptr (.box ib) 0) (.v (.int .i64 0))=aa h5:=by rw[JH gib5,oB gib5]
 have gw5:=X5.box _ _ gw4;have lw5:aI aq Gt h5 90 (.ptr (.box wb) 0)=aa (.ptr (.box c) 0):=cQ xM gw5 rfl;have c3:=abx h5 c aA;obtain⟨h6,C6⟩:∃h6,(h5.push [.ptr (.box c) 0]).push [.v (.int .i64 aA)]=h6:=⟨_,rfl⟩;rw[C6] at c3;have X6:Ext h4 h6:=by rw[<-C6];exact X5.trans ((Ext.push _ _).trans (.push _ _))
 have gsum6:h6.boxes[jv]?=aa [.v (.int .i64 0)]:=by rw[<-C6];exact bh (bh gsum5)
 have gib6:h6.boxes[ib]?=aa [.v (.int .i64 0)]:=by rw[<-C6];exact bh (bh gib5)
 have ga6:h6.boxes[h5.boxes.length]?=aa [.ptr (.box c) 0]:=by rw[<-C6];exact bh (bg _ _)
 have gb6:h6.boxes[h5.boxes.length+1]?=aa [.v (.int .i64 aA)]:=by rw[<-C6];exact nM (by rw[cR])
 have l5:jv<h5.boxes.length/\ib<h5.boxes.length:=⟨(aW.1 gsum5).1,(aW.1 gib5).1⟩;have kall:=ao.mk (az iH (az vE (az hm (az w2 (az w3 uu)))));have kprog:=ao.mk (az p1 (az p3 uz));have gk6:=X6.box _ _ gk4;have gs6:=X6.box _ _ gs4;have x7:=X6.box _ _ oj;have ge6:=X6.box _ _ ge4;have gw6:=X6.box _ _ gw4;have gp6:=X6.box _ _ gp4;have W6':=W4'.mono X6;have kst:=ao.mk (az gk6 (az gs6 (az x7 (az ge6 (az gw6 (az gp6 W6'))))));have sumv:jv<h4.boxes.length+1:=by omega
 have kxl:=dR;clear iH vE hm w1 w2 w3 uu p1 p3 uz gk6 gs6 x7 ge6 gw6 gp6 W6' W4' W2 gk4 gs4 oj ge4 gw4 gp4 gk2 gs2 jw ge2 gw2 si ge3 q1 q2 dR x3 X4 X5 gw5 gsum5 gib5 Dh p2 p6 sumv;refine bQ @mG @bu ?_;refine bM.gen λe4 gU qM vB tL=>?_;have f5:e4.get 5=.v (.int .i64 d):=by rw[gU];exact gS
 have f6:e4.get 6=.v (.int .i64 f):=by rw[gU];exact gS
 have f7:e4.get 7=.ptr (.box kb) 0:=by rw[gU];exact gS
 have f11:e4.get 11=.ptr (.box sb) 0:=by rw[gU];exact gS
 have f14:e4.get 14=.ptr (.box zb) 0:=by rw[gU];exact gS
 have f15:e4.get 15=.ptr (.box eb) 0:=by rw[gU];exact gS
 have f16:e4.get 16=.ptr (.box wb) 0:=by rw[gU];exact gS
 have f17:e4.get 17=.ptr (.box pb) 0:=by rw[gU];exact gS
 have f18:e4.get 18=.ptr (.box jv) 0:=by rw[gU];exact gS
 have f19:e4.get 19=.ptr (.box ib) 0:=by rw[gU];exact gS
 have f47:e4.get 47=.func (.func 128) [] [.ptr (.box h5.boxes.length) 0,.ptr (.box (h5.boxes.length+1)) 0]:=by rw[gU];exact gS
 have fd:e4.defers=[]:=by rw[qM];exact gS
 clear gU qM vB tL c1 c2 c3 l0 lS bl stn ste le2 lw2 sq ste4 le4 st5a st5b lw5 zc zp z3 z32 bx bS Fi ma Rk P7 vy tE Ds Lf QO Bm LA Qk C6;obtain⟨gk6,gs6,x7,ge6,gw6,gp6,W6⟩:=kst.out;obtain⟨p1,p3,uz⟩:=kprog.out;obtain⟨iH,vE,hm,w2,w3,uu⟩:=kall.out;have kW:=ao.mk W6;clear kst kprog kall W6;obtain⟨og1,og2,og3,og4⟩:=qp p1;have eG:cK h6=cK h6:=rfl;refine DU (by rw[A7];exact f47) λrec v1 v2 v3 v4 v5 v6=>?_;have iu:(h6.loop rec).loops[h6.loops.length]?=aa rec:=@DG h6 rec;have feed:=aby h6.loops.length h5.boxes.length (h5.boxes.length+1) c Y ag aA (G7 (h6.loop rec) h6.loops.length rec jv ib zb eb ae ag aj (ff ae ag l) aA s)
  (λH=>G8 h6.loops.length rec zb eb H/\nt ae ag aj aA s=aB) kf.out.2.1 ai
  (λk H q=>by
   obtain⟨b6,vr6,z1,-⟩:=kW.out.eT;refine⟨q.dw _ _ ga6 ai ai,q.dw _ _ gb6 ai ai,_,q.dw _ _ z1 (λe=>?_) (λe=>?_),rfl⟩
   ·rw[e] at z1;rw[gsum6] at z1;unfold iJ at z1;simp at z1
   ·rw[e] at z1;rw[gib6] at z1;unfold iJ at z1;simp at z1)
  ?_
  (λk H hk hc q=>⟨q.lp,q.dw,by rw[DP hc];exact q.sum,by rw[DP hc];exact q.ix,by rw[DP hc];exact q.le,by rw[DP hc];exact q.same,by rw[DP hc];exact q.ok⟩)
  (h6.loop rec) ⟨iu,λa cs ha _ _=>ha,gsum6,gib6,cD _,by simp[eP],by simp[eP]⟩
 rotate_left 1
 ·intro k H hk hc q;have vz:=q.lp
  suffices hs:∃b H',W5.round h6.loops.length [.v (.int .i64 (k:Nat))] H=aa (.ret (.v (.bool b)),H')/\if b=ah then G7 (h6.loop rec) h6.loops.length rec jv ib zb eb ae ag aj (ff ae ag l) aA s (k+1) H' else (G8 h6.loops.length rec zb eb H'/\nt ae ag aj aA s=aB) by
   obtain⟨b,H',q1,q2⟩:=hs;cases b with|true=>exact .inl ⟨H',q1,q2⟩|false=>exact .inr ⟨H',q1,q2⟩
  refine ase (Post:=λb H'=>if b=ah then G7 (h6.loop rec) h6.loops.length rec jv ib zb eb ae ag aj (ff ae ag l) aA s (k+1) H' else (G8 h6.loops.length rec zb eb H'/\nt ae ag aj aA s=aB)) vz (by rw[v2];rfl) v5 v6 ?_;have r1:∀t,(nV h6.loops.length rec [.v (.int .i64 (k:Nat))]).get t=if 48=t then .v (.int .i64 (k:Nat)) else e4.get t:=λt=>abv v2 v1
  have d1:(nV h6.loops.length rec [.v (.int .i64 (k:Nat))]).defers=[]:=rfl;obtain⟨K,hK⟩:∃K,H.busy h6.loops.length rec=K:=⟨_,rfl⟩;have rv:∀a:Nat,K.boxes[a]?=H.boxes[a]?:=λa=>by rw[<-hK];rfl
  have CN:K.loops[h6.loops.length]?=aa {rec with state:=.busy}:=by rw[<-hK];have:=(aW.1 vz).1;show(H.loops.set _ _)[_]?=_;simp[this]
  have og:∀(a:Nat) (cs:List AV),h6.boxes[a]?=aa cs->a≠jv->a≠ib->K.boxes[a]?=aa cs:=λa cs ha n1 n2=>by rw[rv];exact q.dw a cs ha n1 n2
  have Fm:=og _ _ gk6 ai ai;have FC:=og _ _ gs6 ai ai;have Dv:=og _ _ x7 ai ai;have CZ:=og _ _ ge6 ai ai;have IJ:=og _ _ gw6 ai ai;have IF:=(rv jv).trans q.sum;have Fk:=(rv ib).trans q.ix;have eX:=q.le;have lib:aI aq Gt K 3 (.ptr (.box ib) 0)=aa (.v (.int .i64 ((eP ag aA k).length:Nat))):=cQ fh Fk rfl;have lsb:aI aq Gt K 36 (.ptr (.box sb) 0)=aa S:=cQ OA FC rfl;have lSn:=kf.out.2.2.2.2.dQ;obtain⟨a1,a2,a3,a4,a5,a6⟩:=CF Dv CZ ai 0 340;have mo:=(aW.1 Dv).1;have Bi:=(aW.1 CZ).1;have kstop:ao (∀(K2:ar),K2.loops[h6.loops.length]?=aa {rec with state:=.busy}->zb<K2.boxes.length->eb<K2.boxes.length->G8 h6.loops.length rec zb eb (((K2.put zb [.v (.int .i64 0)]).put eb [.v (.int .i64 340)]).fc h6.loops.length {rec with state:=.done,pending:=aa .ret})):=⟨λK2 q1 q2 q3=>by
   have dG:=(aW.1 q1).1;refine⟨ab9 dG,?_,?_⟩
   ·show((K2.put zb [.v (.int .i64 0)]).put eb [.v (.int .i64 340)]).boxes[zb]?=_;rw[dh ai];exact eO q2
   ·show((K2.put zb [.v (.int .i64 0)]).put eb [.v (.int .i64 340)]).boxes[eb]?=_;exact eO (by rw[mE];exact q3)⟩
  have kown:=ao.mk (λq=>@aoE ae ag aj aA s q k hk hc);have kq:=ao.mk q;have kog:=ao.mk og;obtain⟨Q,hQ⟩:∃Q:Xt->ar->Prop,Q=λo h2=>h2.loops[h6.loops.length]?=aa {rec with state:=.busy}/\
   ((o=.normal/\G7 (h6.loop rec) h6.loops.length rec jv ib zb eb ae ag aj (ff ae ag l) aA s (k+1) (h2.fc h6.loops.length rec))∨(o=.ret/\G8 h6.loops.length rec zb eb (h2.fc h6.loops.length {rec with state:=.done,pending:=aa .ret})/\nt ae ag aj aA s=aB)):=⟨_,rfl⟩
  have kQs:ao (∀(K2:ar),K2.loops[h6.loops.length]?=aa {rec with state:=.busy}->zb<K2.boxes.length->eb<K2.boxes.length->nt ae ag aj aA s=aB->Q .ret ((K2.put zb [.v (.int .i64 0)]).put eb [.v (.int .i64 340)])):=⟨λK2 z1 z2 z3 z4=>by rw[hQ];exact⟨z1,.inr ⟨rfl,kstop.out K2 z1 z2 z3,z4⟩⟩⟩;have kQn:ao (∀(K2:ar),K2.loops[h6.loops.length]?=aa {rec with state:=.busy}->G7 (h6.loop rec) h6.loops.length rec jv ib zb eb ae ag aj (ff ae ag l) aA s (k+1) (K2.fc h6.loops.length rec)->Q .normal K2):=⟨λK2 z1 z2=>by rw[hQ];exact⟨z1,.inl ⟨rfl,z2⟩⟩⟩;rw[hK]
  suffices mQ:bM W5 rec.assign (nV h6.loops.length rec [.v (.int .i64 (k:Nat))]) H (λo e1 h1=>o=.normal/\h1=H/\bM W5 rec.body e1 K (λo _ h2=>Q o h2)) by
   obtain⟨o,e1,hh,z1,z2,z3,o',e2,yb,z4,z5⟩:=mQ;refine⟨o,e1,hh,z1,z2,z3,o',e2,yb,z4,?_⟩;rw[hQ] at z5;obtain⟨z5,z6⟩:=z5;refine⟨z5,?_⟩;rcases z6 with⟨y1,y2⟩|⟨y1,y2⟩
   ·exact .inl ⟨y1,y2⟩
   ·exact .inr ⟨y1,y2⟩
  clear hQ kstop;rw[v3,v4];rcases ez (eP ag aA k).length s.length with aC|eF;rotate_left 1
  ·have gx:(eP ag aA k).length=s.length:=(by omega);have jq:nt ae ag aj aA s=aB:=by
    cases ho:nt ae ag aj aA s with|false=>rfl|true=>obtain⟨p,z1,-⟩:=kown.out ho;rw[List.getElem?_eq_none ai] at z1;cases z1
   have dd:decide ((((eP ag aA k).length:Nat):Int)=(s.length:Int))=ah:=b8 ai;have fI:=ao.mk (kQs.out K CN mo Bi jq);clear gx jq eF eX q og vz hK rv CN Fm FC Dv CZ IJ IF Fk v1 v2 v3 v4 v5 v6 kQs kQn;generalize (eP ag aA k).length=i at *
   refine zy ?_;exact⟨aY,aY,fI.out⟩
  obtain⟨p,hp⟩:∃p,s[(eP ag aA k).length]?=aa p:=⟨_,aU aC⟩;have dd:decide ((((eP ag aA k).length:Nat):Int)=(s.length:Int))=aB:=cS ai;have ixS:=kf.out.2.2.2.2.ix aC;have ls0:=amU (H:=K) (s:=2) hp;by_cases dV:p.1=((k:Nat):Int);rotate_left 1
  ·have jq:nt ae ag aj aA s=aB:=by
    cases ho:nt ae ag aj aA s with|false=>rfl|true=>obtain⟨p',z1,z2,-⟩:=kown.out ho;rw[hp] at z1;injection z1 with z1;subst z1;exact absurd z2 dV
   have dr:decide (p.1=((k:Nat):Int))=aB:=cS dV;have fI:=ao.mk (kQs.out K CN mo Bi jq);clear jq aC eX q og vz hK rv CN Fm FC Dv CZ IJ IF Fk v1 v2 v3 v4 v5 v6 kQs kQn hp dV;generalize (eP ag aA k).length=i at *
   refine bC @A9 ?_;exact⟨aY,aY,fI.out⟩
  have Qr:k<ae.length:=by omega
  have dr:decide (((k:Nat):Int)=((k:Nat):Int))=ah:=b8 rfl;obtain⟨pr,pv⟩:=p;simp only at dV;subst dV;obtain⟨_,K2,cf,rfl,xf⟩:=ajQ K X Y C ae ag aj kf.out.1 kf.out.2.1 kf.out.2.2.1 db ((k:Nat):Int) pv;have lk1:aI aq Gt K 25 (.ptr (.box kb) 1)=aa (.agg [X,Y]):=by rw[iP xL (by kernel_rfl:dJ aq 25=aa 2) Fm (jS rfl)];rfl
  have lk3:aI aq Gt K 23 (.ptr (.box kb) 3)=aa C:=cQ mj Fm rfl;have ls81:=Z6 (H:=K) (s:=2) hp;have HQ:=xf.loop _ _ CN;have gV:=xf.box _ _ Dv;have jN:=xf.box _ _ CZ;rcases ajV (v:=pv) uz Qr with⟨so,fo⟩|⟨so,fo⟩;rotate_left 1
  ·have jq:nt ae ag aj aA s=aB:=by
    cases ho:nt ae ag aj aA s with|false=>rfl|true=>obtain⟨p',z1,z2,z3⟩:=kown.out ho;rw[hp] at z1;injection z1 with z1;subst z1;rw[so] at z3;cases z3
   have fI:=ao.mk (kQs.out K2 HQ (aW.1 gV).1 (aW.1 jN).1 jq);obtain⟨t1,t2,t3,t4,t5,t6⟩:=CF gV jN ai 0 340;clear jq aC eX q og vz hK rv CN Fm FC Dv CZ IJ IF Fk v1 v2 v3 v4 v5 v6 kQs kQn hp a1 a2 a3 a4 a5 a6 xf gV jN HQ so;unfold im at cf;rcases fo with fo|fo
   ·rw[fo] at cf;clear fo;generalize (eP ag aA k).length=i at *
    refine cX @A9 @gv @il ?_;refine⟨aY,aY,?_⟩;refine eJ mA aw ?_;refine cX @A9 @gv @il ?_;exact fI.out
   ·rw[fo] at cf;clear fo;generalize (eP ag aA k).length=i at *
    refine cX @A9 @gv @il ?_;refine⟨aY,aY,?_⟩;refine eJ mA aw ?_;refine cX @A9 @gv @il ?_;exact fI.out
  rw[fo] at cf;have oV:=xf.box _ _ IJ;have nQ:=xf.box _ _ FC;have Lz:=xf.box _ _ IF;have Lg:=xf.box _ _ Fk;obtain⟨b6,vr6,z1,-⟩:=kW.out.eT;have cI:c≠jv:=λe=>by rw[e] at z1;rw[gsum6] at z1;unfold iJ at z1;simp at z1
  have HZ:c≠ib:=λe=>by rw[e] at z1;rw[gib6] at z1;unfold iJ at z1;simp at z1
  have Yk:=xf.box _ _ (og _ _ z1 cI HZ);have lwb:aI aq Gt K2 90 (.ptr (.box wb) 0)=aa (.ptr (.box c) 0):=cQ xM oV rfl;have lWt:aI aq Gt K2 23 (.ptr (.box c) 6)=aa Wt:=cQ mj Yk rfl;have yu:=uu.ix (i:=k) (by rw[w2,w3];exact Qr);have lWk:=ev (H:=K2) (l:=ff ae ag l) (i:=k) (s:=1) (by rw[w2,w3];exact Qr);have lsb2:aI aq Gt K2 36 (.ptr (.box sb) 0)=aa S:=cQ OA nQ rfl;have lib2:aI aq Gt K2 3 (.ptr (.box ib) 0)=aa (.v (.int .i64 ((eP ag aA k).length:Nat))):=cQ fh Lg rfl;have lsum2:aI aq Gt K2 3 (.ptr (.box jv) 0)=aa (.v (.int .i64 (mw (ff ae ag l) (s.take (eP ag aA k).length)))):=cQ fh Lz rfl;have ls1:=amV (H:=K2) (s:=2) hp;have cm:=LW (al (ff ae ag l) k) pv;have ca:=Kn (mw (ff ae ag l) (s.take (eP ag aA k).length)) (df (al (ff ae ag l) k) pv);have bT:=awQ (y:=ff ae ag l) hp;simp only[dW] at bT;rw[<-bT] at ca;have stS:=JH (n:=mw (ff ae ag l) (s.take ((eP ag aA k).length+1))) Lz;have Ql:(K2.put jv [.v (.int .i64 (mw (ff ae ag l) (s.take ((eP ag aA k).length+1))))]).boxes[ib]?=aa [.v (.int .i64 ((eP ag aA k).length:Nat))]:=by rw[dh ai];exact Lg
  have lib3:aI aq Gt (K2.put jv [.v (.int .i64 (mw (ff ae ag l) (s.take ((eP ag aA k).length+1))))]) 3 (.ptr (.box ib) 0)=aa (.v (.int .i64 ((eP ag aA k).length:Nat))):=cQ fh Ql rfl;have stI:=JH (n:=(((eP ag aA k).length+1:Nat):Int)) Ql;have ald:(((eP ag aA k).length+1:Nat):Int)=((eP ag aA k).length:Int)+1:=by omega
  have fI:=ao.mk (kQn.out ((K2.put jv [.v (.int .i64 (mw (ff ae ag l) (s.take ((eP ag aA k).length+1))))]).put ib [.v (.int .i64 (((eP ag aA k).length+1:Nat):Int))]) HQ (by
   have dG:=(aW.1 HQ).1;have al5:=(aW.1 Lz).1;have vw:=(aW.1 Lg).1;have bR:(eP ag aA (k+1)).length=(eP ag aA k).length+1:=(by rw[Jj hc];simp);refine⟨ab9 dG,λa cs ha n1 n2=>?_,?_,?_,by omega,?_,?_⟩
   ·show((K2.put jv _).put ib _).boxes[a]?=_;rw[dh n2,dh n1];exact xf.box _ _ (by rw[rv];exact q.dw a cs ha n1 n2)
   ·show((K2.put jv _).put ib _).boxes[jv]?=_;rw[dh ai,bR];exact eO al5
   ·show((K2.put jv _).put ib _).boxes[ib]?=_;rw[bR];exact eO (by rw[mE];exact vw)
   ·rw[bR,fE hp,mY,q.same,Jj hc,mY];rfl
   ·rw[bR,fE hp,List.all_append,q.ok,rT];simp[so]))
  clear eX q og vz hK rv CN Fm FC Dv CZ IJ IF Fk v1 v2 v3 v4 v5 v6 kQs kQn hp a1 a2 a3 a4 a5 a6 xf gV jN HQ so fo oV nQ Lz Lg Ql Yk z1 bT w2 w3;unfold im at *
  generalize (eP ag aA k).length=i at *
  generalize mw (ff ae ag l) (s.take i)=sv at *
  generalize mw (ff ae ag l) (s.take (i+1))=sv2 at *
  generalize df (al (ff ae ag l) k) pv=mv at *
  generalize al (ff ae ag l) k=wv at *
  rw[ald] at stI fI;refine cX @A9 @gv @il ?_;refine⟨aY,aY,?_⟩;refine eJ mA aw ?_;refine bK @A9 @WN @gv @il ?_;refine eJ mA aw ?_;refine cX @A9 @WN @r9 ?_;exact fI.out
 ·obtain⟨Hf,cF,hF⟩:=feed;rcases hF with q|⟨q,jq⟩;rotate_left 1
  ·have IB:res=(0,340):=(by rw[iH,aH jq]);have kr:=ao.mk IB;refine⟨_,_,cF,_,q.lp,(aZ:LoopState.done≠ .busy),.inr ⟨rfl,?_⟩⟩;have qz:(Hf.fc h6.loops.length {rec with state:=.exhausted,pending:=aa .ret}).boxes[zb]?=aa [.v (.int .i64 0)]:=q.z;have qe:(Hf.fc h6.loops.length {rec with state:=.exhausted,pending:=aa .ret}).boxes[eb]?=aa [.v (.int .i64 340)]:=q.e;have lz:aI aq Gt (Hf.fc h6.loops.length {rec with state:=.exhausted,pending:=aa .ret}) 3 (.ptr (.box zb) 0)=aa (.v (.int .i64 0)):=cQ fh qz rfl;have le:aI aq Gt (Hf.fc h6.loops.length {rec with state:=.exhausted,pending:=aa .ret}) 32 (.ptr (.box eb) 0)=aa (.v (.int .i64 340)):=cQ zo qe rfl;clear cF q jq iH IB kf kW gk6 gs6 x7 ge6 gw6 gp6 ga6 gb6 gsum6 gib6 hm w2 w3 uu p1 p3 uz og1 og2 og3 og4 iu v1 v2 v3 v4 v5 v6 qz qe vE;refine bC @mG ?_;exact⟨_,_,rfl,by rw[kr.out]⟩
  refine⟨_,_,cF,_,q.lp,by rw[v5];decide,.inl ⟨v6,?_⟩⟩;obtain⟨HF,Fa⟩:∃HF,Hf.fc h6.loops.length {rec with state:=.exhausted}=HF:=⟨_,rfl⟩;have CR:∀a:Nat,HF.boxes[a]?=Hf.boxes[a]?:=λa=>by rw[<-Fa];rfl
  have og:∀(a:Nat) (cs:List AV),h6.boxes[a]?=aa cs->a≠jv->a≠ib->HF.boxes[a]?=aa cs:=λa cs ha n1 n2=>by rw[CR];exact q.dw a cs ha n1 n2
  have ID:=og _ _ gs6 ai ai;have Du:=og _ _ x7 ai ai;have CY:=og _ _ ge6 ai ai;have FI:=og _ _ gw6 ai ai;have Dm:=og _ _ gp6 ai ai;have By:=(CR jv).trans q.sum;have Fj:=(CR ib).trans q.ix;have eX:=q.le;have jy:=q.same;have Dj:=q.ok;rw[Mt] at By Fj eX jy Dj;rw[Fa];have lib:aI aq Gt HF 3 (.ptr (.box ib) 0)=aa (.v (.int .i64 ((ga ag aA).length:Nat))):=cQ fh Fj rfl;have lsb:aI aq Gt HF 36 (.ptr (.box sb) 0)=aa S:=cQ OA ID rfl;have lSn:=kf.out.2.2.2.2.dQ;rcases ez (ga ag aA).length s.length with aC|eF
  ·have jq:nt ae ag aj aA s=aB:=by
    cases ho:nt ae ag aj aA s with|false=>rfl|true=>unfold nt at ho;rw[bI,decide_eq_true_eq] at ho;have:=congrArg List.length ho.1;rw[bF,bF] at this;omega
   have IB:res=(0,340):=(by rw[iH,aH jq]);have kr:=ao.mk IB;obtain⟨a1,a2,a3,a4,a5,a6⟩:=CF Du CY ai 0 340;have dd:decide ((((ga ag aA).length:Nat):Int)<(s.length:Int))=ah:=b8 ai;clear cF q jq iH IB kf kW gk6 gs6 x7 ge6 gw6 gp6 ga6 gb6 gsum6 gib6 hm w2 w3 uu p1 p3 uz og1 og2 og3 og4 iu v1 v2 v3 v4 v5 v6 vE Fa CR og ID Du CY FI Dm By Fj eX jy Dj aC;refine bC @mG ?_;exact⟨_,_,rfl,by rw[kr.out]⟩
  have bG:(ga ag aA).length=s.length:=by omega
  have LD:nt ae ag aj aA s=ah:=by unfold nt;rw[bG,fN] at jy Dj;rw[jy,Dj];simp
  have dd:decide ((((ga ag aA).length:Nat):Int)<(s.length:Int))=aB:=cS ai;rw[bG,fN] at By;rw[aJ (by rw[LD];simp)] at iH;have c8:=I8 4 d;have c9:=I8 4 f;have hG:(4:Int).toNat=Gn:=rfl;rw[qK vm,hG] at c8 c9;have lpD:aI aq Gt HF 3 (.ptr (.box pb) 2)=aa (.v (.int .i64 x.d)):=cQ fh Dm rfl;have lpE:aI aq Gt HF 3 (.ptr (.box pb) 3)=aa (.v (.int .i64 x.e)):=cQ fh Dm rfl;obtain⟨a1,a2,a3,a4,a5,a6⟩:=CF Du CY ai 0 420;by_cases eM:((bH Gn d:Nat):Int)=x.d;rotate_left 1
  ·have kr:=ao.mk (iH.trans (aH (.inl eM)));have dq:decide (((bH Gn d:Nat):Int)=x.d)=aB:=cS eM;clear cF q LD iH kf kW gk6 gs6 x7 ge6 gw6 gp6 ga6 gb6 gsum6 gib6 hm w2 w3 uu p1 p3 uz og1 og2 og3 og4 iu v1 v2 v3 v4 v5 v6 vE Fa CR og ID Du CY FI Dm By Fj eX jy Dj eF bG hG eM;generalize ((bH Gn d:Nat):Int)=pd at *
   unfold im at *
   refine bC @mG ?_;refine nW [(7,9)] mA aw (λp hp=>?_) ?_
   ·simp only[nC] at hp;subst hp;refine auY aw rfl rfl aw ?_ ?_
    ·simp only[iV,gF];refine bQ @mG @jg ?_;refine⟨by trivial,?_⟩;simp[fL,M6]
    ·simp only[iV,gF];exact jw @mG @jg
   refine bQ @mG @jg ?_;exact⟨_,_,rfl,by rw[kr.out]⟩
  have dq:decide (((bH Gn d:Nat):Int)=x.d)=ah:=b8 eM;by_cases iF:((bH Gn f:Nat):Int)=x.e;rotate_left 1
  ·have kr:=ao.mk (iH.trans (aH (.inr iF)));have dq2:decide (((bH Gn f:Nat):Int)=x.e)=aB:=cS iF;clear cF q LD iH kf kW gk6 gs6 x7 ge6 gw6 gp6 ga6 gb6 gsum6 gib6 hm w2 w3 uu p1 p3 uz og1 og2 og3 og4 iu v1 v2 v3 v4 v5 v6 vE Fa CR og ID Du CY FI Dm By Fj eX jy Dj eF bG hG eM iF;generalize ((bH Gn d:Nat):Int)=pd at *
   generalize ((bH Gn f:Nat):Int)=pf at *
   unfold im at *
   refine bC @mG ?_;refine nW [(7,9)] mA aw (λp hp=>?_) ?_
   ·simp only[nC] at hp;subst hp;refine acw (x:=.ptr (.box pb) 3) (v:=.v (.int .i64 x.e)) aw rfl rfl aw (by simp[fA,mU]) ?_ ?_
    ·simp only[iV,gF];refine bQ @mG @jg ?_;refine⟨by trivial,?_,by trivial,by trivial⟩;simp[fL,M6]
    ·simp only[iV,gF];exact si @mG @jg @and_self
   refine bQ @mG @jg ?_;exact⟨_,_,rfl,by rw[kr.out]⟩
  have dq2:decide (((bH Gn f:Nat):Int)=x.e)=ah:=b8 iF;rw[aJ (by simp[eM,iF])] at iH;have kr:=ao.mk iH;obtain⟨b6,vr6,z1,z2,z3⟩:=kW.out.eT;have cI:c≠jv:=λe=>by rw[e] at z1;rw[gsum6] at z1;unfold iJ at z1;simp at z1
  have HZ:c≠ib:=λe=>by rw[e] at z1;rw[gib6] at z1;unfold iJ at z1;simp at z1
  have qR:=z3.1;have ot:=oh z3.four;rw[bF] at qR;have alJ:0<l.length:=N2.2 (λe=>by rw[e] at kxl;simp at kxl);have oo:b6≠jv:=λe=>by rw[e] at z2;rw[gsum6] at z2;injection z2 with z2;rw[<-z2] at ot;simp at ot;omega
  have vu:b6≠ib:=λe=>by rw[e] at z2;rw[gib6] at z2;injection z2 with z2;rw[<-z2] at ot;simp at ot;omega
  have WF:wh HF c ep X Y C T L Wt ((iQ (al aj 0) text l:Nat):Int) ((ek (al aj 0) text l:Nat):Int) aj text l:=
   ⟨⟨b6,vr6,og _ _ z1 cI HZ,og _ _ z2 oo vu,z3⟩,kW.out.O6,kW.out.pos,kW.out.c0,kW.out.D2,kW.out.tl,kW.out.ll⟩
  obtain⟨_,_,cb,rfl,rfl⟩:=OQ HF c ep X Y C T L Wt _ _ aj text l WF x ⟨ai,by omega⟩;rw[vE] at cb;have PW:=og _ _ z1 cI HZ;have lwb:aI aq Gt HF 90 (.ptr (.box wb) 0)=aa (.ptr (.box c) 0):=cQ xM FI rfl;have lwb2:aI aq Gt (HF.push (cq x)) 90 (.ptr (.box wb) 0)=aa (.ptr (.box c) 0):=cQ xM (bh FI) rfl;have lch:aI aq Gt HF 3 (.ptr (.box c) 12)=aa (.v (.int .i64 ((ek (al aj 0) text l:Nat):Int))):=cQ fh PW rfl;have lch2:aI aq Gt (HF.push (cq x)) 3 (.ptr (.box c) 12)=aa (.v (.int .i64 ((ek (al aj 0) text l:Nat):Int))):=cQ fh (bh PW) rfl;have lsu:aI aq Gt HF 3 (.ptr (.box jv) 0)=aa (.v (.int .i64 (mw (ff ae ag l) s))):=cQ fh By rfl;have lsu2:aI aq Gt (HF.push (cq x)) 3 (.ptr (.box jv) 0)=aa (.v (.int .i64 (mw (ff ae ag l) s))):=cQ fh (bh By) rfl;have lpp:=DD Dm;have m1:=LW f ((fC (al aj 0) text l aA:Nat):Int);have m2:=Kn d (df f ((fC (al aj 0) text l aA:Nat):Int));have m3:=LW ((ek (al aj 0) text l:Nat):Int) (mw (ff ae ag l) s);have m4:=Kn (dj d (df f ((fC (al aj 0) text l aA:Nat):Int))) (df ((ek (al aj 0) text l:Nat):Int) (mw (ff ae ag l) s));obtain⟨t1,t2,t3,t4,t5,t6⟩:=CF (Hx:=HF.push (cq x)) (bh Du) (bh CY) ai (dj (dj d (df f ((fC (al aj 0) text l aA:Nat):Int))) (df ((ek (al aj 0) text l:Nat):Int) (mw (ff ae ag l) s))) 0;clear cF q LD iH kf kW gk6 gs6 x7 ge6 gw6 gp6 ga6 gb6 gsum6 gib6 hm w2 w3 uu p1 p3 uz og1 og2 og3 og4 iu v1 v2 v3 v4 v5 v6 vE Fa CR og ID Du CY FI Dm By Fj eX jy Dj eF bG hG eM iF a1 a2 a3 a4 a5 a6 WF PW z1 z2 z3 cI HZ oo vu qR ot alJ kxl;generalize dj (dj d (df f ((fC (al aj 0) text l aA:Nat):Int))) (df ((ek (al aj 0) text l:Nat):Int) (mw (ff ae ag l) s))=zz at *
  generalize dj d (df f ((fC (al aj 0) text l aA:Nat):Int))=za at *
  generalize df f ((fC (al aj 0) text l aA:Nat):Int)=zm at *
  generalize df ((ek (al aj 0) text l:Nat):Int) (mw (ff ae ag l) s)=zs at *
  generalize ((fC (al aj 0) text l aA:Nat):Int)=bv at *
  generalize ((ek (al aj 0) text l:Nat):Int)=chv at *
  generalize mw (ff ae ag l) s=wv at *
  generalize ((bH Gn d:Nat):Int)=pd at *
  generalize ((bH Gn f:Nat):Int)=pf at *
  unfold im at *
  refine bC @mG ?_;refine nW [(7,9)] mA aw (λp hp=>?_) ?_
  ·simp only[nC] at hp;subst hp;refine acw (x:=.ptr (.box pb) 3) (v:=.v (.int .i64 x.e)) aw rfl rfl aw (by simp[fA,mU]) ?_ ?_
   ·simp only[iV,gF];refine bQ @mG @jg ?_;refine⟨by trivial,?_,by trivial,by trivial⟩;simp[fL,M6]
   ·simp only[iV,gF];exact si @mG @jg @and_self
  refine bQ @mG @jg ?_;refine nW [(4,7),(4,10),(4,11)] mA aw (λp hp=>?_) ?_
  ·simp only[iU,xC,or_false] at hp;rcases hp with rfl|rfl|rfl
   ·refine sS (x:=.ptr (.box wb) 0) (v:=.ptr (.box c) 0) aw rfl rfl rfl aw (ab4 c 0) ?_ ?_<;>(simp only[iV,gF];exact si @mG @jg @and_self)
   ·refine sS (x:=.ptr (.box c) 12) (v:=.v (.int .i64 chv)) aw rfl rfl rfl aw (by simp[fA,mU]) ?_ ?_<;>(simp only[iV,gF];exact oj @mG @jg @r9 @and_self)
   ·refine sS (x:=.ptr (.box jv) 0) (v:=.v (.int .i64 wv)) aw rfl rfl rfl aw (by simp[fA,mU]) ?_ ?_<;>(simp only[iV,gF];exact oj @mG @jg @r9 @and_self)
  refine cX @mG @jg @r9 ?_;exact⟨_,_,rfl,by rw[kr.out]⟩
def Jo:Tryz.f173.results.toList=[.tmp 4]:=by kernel_rfl
def BW(a b:Tok):Prop:=∀m,a=.free m->b≠ .free m
def BW.symm{a b}(h:BW a b):BW b a:=λm hb ha=>h m ha hb
def qH(ts:List Tok)(ae:List (List Int)):List AV:=List.zipWith (λt r=>AV.list t 1 (ints r)) ts ae
def rZ(ae:List (List Int))(n:Nat):List (List Int):=(bO n).map λk=>ae.map λr=>al r k
def aic(ae)(k):rZ ae (k+1)=rZ ae k++[ae.map λr=>al r k]:=by unfold rZ;rw[nD,mY];rfl
def Wk(ae)(k):(rZ ae k).length=k:=by unfold rZ;simp
structure xK(h H:ar)(x:AV)(ts:List Tok)(ae:List (List Int))(t:Tok):Prop where
 can:∀u∈t::ts,du h.tn H u
 HD:(t::ts).Pairwise BW
 len:ts.length=ae.length
 ok:cK H=ah
 ext:Ext h H
 JN:(ae=[]/\x=.list .tight 1 [])∨(ae≠[]/\∃b,x=.arr b 0 ae.length ae.length/\H.boxes[b]?=aa (qH ts ae)/\h.boxes.length<=b)
def ahH{ts}{ae}(h:ts.length=ae.length):(qH ts ae).length=ae.length:=by unfold qH;rw[List.length_zipWith,h,Nat.min_self]
def ahI{ts}{ae}(h:ts.length=ae.length)(t)(r):qH (ts++[t]) (ae++[r])=qH ts ae++[.list t 1 (ints r)]:=by unfold qH;rw[List.zipWith_append h];rfl
def O0{n0}{h}{k}(hk:du n0 h k)(ho:cK h=ah)(hn:n0<=h.tn):du n0 (h.app k) (.free h.tn):=(Grown.one hk ho hn).can
def afA{n0}{h}{k}(hk:du n0 h k):BW (.free h.tn) k:=by
 rintro m q rfl;injection q with q;rcases hk with q2|q2|⟨n,q2,-,q3⟩
 ·cases q2
 ·cases q2
 ·injection q2 with q2;have:=vi q3;omega
def xK.app{h H}{x}{ts}{ae}{t}(w:xK h H x ts ae t):xK h (H.app t) x ts ae (.free H.tn):=by
 have hc:=w.can t gq;have hd:=GY.1 w.HD;refine⟨λu hu=>?_,GY.2 ⟨λu hu=>afA (w.can u (fM _ hu)),hd.2⟩,w.len,EH w.ok hc,(Grown.one hc w.ok w.ext.tn).ext w.ext (aL _),?_⟩
 ·rcases iU.1 hu with rfl|hu
  ·exact O0 hc w.ok w.ext.tn
  ·exact HA (w.can u (fM _ hu)) (hd.1 u hu)
 ·rw[eC];exact w.JN
def xK.close{h H}{x}{ts}{ae}{t}(w:xK h H x ts ae t)(r)(hl:ae.length<1000000):
 ∃x2 H2,sU aq H #[22,22] x (.list .tight 1 [[.list t 1 (ints r)]])=aa (x2,H2)/\xK h H2 x2 (ts++[t]) (ae++[r]) .tight:=by
 obtain⟨i,q1,q2,q3,q4⟩:=LG;have vt:=ri (ai:ae.length+1<=1000000) q3;have hd:=GY.1 w.HD;have Yu:(Tok.tight::(ts++[t])).Pairwise BW:=by refine GY.2 ⟨λu _ m hm=>(by cases hm),List.pairwise_append.2 ⟨hd.2,by simp,λa ha b hb=>?_⟩⟩;rw[nC] at hb;subst hb;exact(hd.1 a ha).symm
 have Yl:∀H2:ar,(∀u,du h.tn H u->du h.tn H2 u)->∀u∈Tok.tight::(ts++[t]),du h.tn H2 u:=by
  intro H2 hm u hu;rcases iU.1 hu with rfl|hu
  ·exact .inr (.inl rfl)
  ·rcases List.mem_append.1 hu with hu|hu
   ·exact hm u (w.can u (fM _ hu))
   ·rw[nC] at hu;exact hm u (w.can u (by rw[hu];exact gq))
 have bR:(ts++[t]).length=(ae++[r]).length:=by simp[w.len]
 rcases w.JN with⟨rfl,rfl⟩|⟨bG,b,rfl,hb,eF⟩
 ·have hts:ts=[]:=List.eq_nil_of_length_eq_zero w.len;subst hts;have:=Nk (h:=H) (k:=.tight) (sz:=1) (es:=[]) (new:=[[.list t 1 (ints r)]]) (x:=.list .tight 1 [[.list t 1 (ints r)]]) jf jf q1 ai (by rw[q2];exact q4) bJ (by simp;omega) bJ (.inl q2.symm) (.inr rfl) (by rw[q2];rfl);exact⟨_,_,this,Yl _ λu hu=>hu,Yu,bR,w.ok,w.ext.trans (.push _ _),.inr ⟨bJ,H.boxes.length,rfl,bg _ _,w.ext.len⟩⟩
 ·have jV:0<ae.length:=N2.2 bG;have db:=ahH w.len;have:=TL (h:=H) (b:=b) (len:=ae.length) (cs:=qH ts ae) (new:=[[.list t 1 (ints r)]]) (x:=.list .tight 1 [[.list t 1 (ints r)]]) jf jf q1 ai (by rw[q2];exact q4) bJ (by simp;omega) (by simp;omega) hb jV (by rw[q2,db];omega) (by rw[q2];rfl);refine⟨_,_,this,Yl _ λu hu=>hu,Yu,bR,?_,(w.ext.fZ eF _).trans (.push _ _),.inr ⟨bJ,H.boxes.length,by simp,?_,w.ext.len⟩⟩
  ·exact w.ok
  ·rw[ahI w.len];exact nM (by rw[mE])
def av5(h:ar)(bB:cK h=ah)(x:AV)(ae:List (List Int))(n:Nat)(hx:RL x ae)(hw:∀r∈ae,r.length=n)(hr:ae.length<=1000)(hn:n<=1000):
 ∃r h',W5.call 173 [x,im (n:Nat)] h=aa (r,h')/\∃X ts,r=.ret X/\xK h h' X ts (rZ ae n) .tight:=by
 obtain⟨kx0,sx,xs,rfl,vD,dR,eG⟩:=hx;have kx:=ao.mk (az vD (az eG hw));clear vD eG hw;have u23:=dY;have u22:=jf;have z23:=iA;have z3:=fR;have LC:(xs.map λa=>[a]).length=ae.length:=by rw[bF];exact dR
 have b0:gG aq 22 0 []=aa (.list .tight 1 []):=by kernel_rfl
 have b1:gG aq 23 0 []=aa (.list .tight 1 []):=by kernel_rfl
 have T0:xK h h (.list .tight 1 []) [] (rZ ae 0) .tight:=⟨λu hu=>.inr (.inl (by simpa using hu)),by simp,rfl,bB,.refl _,.inl ⟨rfl,rfl⟩⟩;unfold im;refine di rfl Tryz.func173 rfl ?_;refine bC @Jo ?_;refine cH (λm e H=>∃(k:Nat) (X:AV) (ts:List Tok),k<=n/\m=n - k/\ao (xK h H X ts (rZ ae k) .tight)/\e.get 0=.list kx0 sx (xs.map λa=>[a])/\e.get 1=.v (.int .i64 (n:Nat))/\e.get 5=X/\e.get 6=.v (.int .i64 (k:Nat))/\e.defers=[]) ?_ n _ _ ?_;rotate_left 1
 ·refine⟨0,_,[],cD _,rfl,⟨T0⟩,?_,?_,?_,?_,?_⟩<;>first|(simp only[gW,reduceIte,aS,aO,b0];done)|(simp only[gW,reduceIte,aS,aO,b0]<;>rfl)
 clear T0;rintro m e H ⟨k,X,ts,hk,rfl,kT,g0,g1,g5,g6,hd⟩;by_cases tF:k<n;rotate_left 1
 ·have:k=n:=by omega
  subst this;refine bC @Jo ?_;exact⟨_,_,rfl,X,ts,rfl,kT.out⟩
 have hkI:(k:Int)<(n:Int):=by omega
 refine bC @Jo ?_;refine bM.gen λe0 aG bE cZ cV=>?_;have f0:e0.get 0=.list kx0 sx (xs.map λa=>[a]):=by rw[aG];simp only[gW,reduceIte,aS,aO];exact g0
 have f1:e0.get 1=.v (.int .i64 (n:Nat)):=by rw[aG];simp only[gW,reduceIte,aS,aO];exact g1
 have f5:e0.get 5=X:=by rw[aG];simp only[gW,reduceIte,aS,aO];exact g5
 have f6:e0.get 6=.v (.int .i64 (k:Nat)):=by rw[aG];simp only[gW,reduceIte,aS,aO];exact g6
 have f7:e0.get 7=.list .tight 1 (ints []):=by rw[aG];exact gR
 have f8:e0.get 8=.v (.int .i64 (0:Nat)):=by rw[aG];exact gR
 have fd:e0.defers=[]:=by rw[bE];simp only[gW,reduceIte,aS,aO];exact hd
 clear aG bE cZ cV g0 g1 g5 g6 hd b0 b1;refine cH (λm e H=>∃(i:Nat) (t:Tok),i<=ae.length/\m=ae.length - i/\ao (xK h H X ts (rZ ae k) t)/\e.get 0=.list kx0 sx (xs.map λa=>[a])/\e.get 1=.v (.int .i64 (n:Nat))/\e.get 5=X/\e.get 6=.v (.int .i64 (k:Nat))/\e.get 7=.list t 1 (ints ((ae.take i).map λr=>al r k))/\e.get 8=.v (.int .i64 (i:Nat))/\e.defers=[]) ?_ ae.length _ _ ?_;rotate_left 1
 ·exact⟨0,.tight,cD _,rfl,kT,f0,f1,f5,f6,f7,f8,fd⟩
 clear f0 f1 f5 f6 f7 f8 fd kT;rintro m e2 H2 ⟨i,t,hi,rfl,kT,g0,g1,g5,g6,g7,g8,hd⟩;by_cases iO:i<ae.length
 ·obtain⟨a,ha⟩:∃a,xs[i]?=aa a:=⟨_,aU ai⟩;obtain⟨r,hr⟩:∃r,ae[i]?=aa r:=⟨_,aU iO⟩;have vD:sx=1:=kx.out.1 (by intro q;rw[q] at iO;simp at iO);subst vD;obtain⟨ka,sa,rfl,jj⟩:=kx.out.2.1 i a r ha hr;have cU:=kx.out.2.2 r (dy hr);have Q6:sa=1:=jj (by intro q;rw[q] at cU;simp at cU;omega);subst Q6;have l1:=mf (H:=H2) (s:=1) ha;have l2:=ev (H:=H2) (l:=r) (i:=k) (s:=1) ai;have wP:(ints r).length=n:=by rw[dE];exact cU
  have bl:=pq (al r k);have ap:=tf (x:=al r k) (es:=(ae.take i).map λr=>al r k) (sz:=1) (show((ae.take i).map λr=>al r k).length<1099511627776 by rw[bF,fm];omega) (.inl rfl) (kT.out.can t gq);have jQ:((ae.take i).map λr=>al r k)++[al r k]=(ae.take (i+1)).map λr=>al r k:=by rw[fE hr,mY];rfl
  rw[jQ] at ap;have kT2:=ao.mk kT.out.app;have Lh:(i:Int)<(ae.length:Int):=by omega
  clear ha hr jj cU jQ kT;refine bQ @Jo @bp ?_;exact⟨ae.length - (i+1),by omega,i+1,_,by omega,rfl,kT2,by simp⟩
 ·have gx:i=ae.length:=by omega
  subst gx;rw[fN] at g7;obtain⟨X2,H3,c1,c2⟩:=kT.out.close (ae.map λr=>al r k) (by rw[Wk];omega);rw[<-aic] at c2;have kT2:=ao.mk c2;have bl:=Kx (.list t 1 (ints (ae.map λr=>al r k))) rfl;clear c2 kT;refine bC @Jo ?_;exact⟨n - (k+1),by omega,k+1,X2,_,by omega,rfl,kT2,by simp⟩
def Ai:Tryz.f174.results.toList=[.tmp 4,.tmp 5]:=by kernel_rfl
def uf(H:ar)(b:Nat)(t:List (List Int)):Prop:=∃cs:List AV,H.boxes[b]?=aa cs/\cs.length=t.length/\∀(i:Nat) a r,cs[i]?=aa a->t[i]?=aa r->IL a r
def uf.mono{H H'}{b}{t}(T:uf H b t)(m:∀cs,H.boxes[b]?=aa cs->H'.boxes[b]?=aa cs):uf H' b t:=by obtain⟨cs,h1,h2⟩:=T;exact⟨cs,m cs h1,h2⟩
def FN{b len aF n}{k}(hn:n<len):dS aq 22 (.arr b 0 len aF) (.v (.int k (n:Nat)))=aa (.ptr (.box b) n):=by rw[FK jf iA ai ai,dW,Nat.mul_one,qA]
def acH{H}{b k s n:Nat}{t}{cs}{es}(hb:H.boxes[b]?=aa cs)(hk:k<cs.length):cE aq H 23 (.ptr (.box b) k) (.list t s es)=aa (H.put b (cs.set k (.list t s es))):=by rw[fK (xs:=[AV.list t s es]) rfl iA hb rfl hk];congr 2;unfold fe;rw[List.set_eq_take_append_cons_drop,aH hk];simp
def uf.load{H}{b i}{t}{r}(T:uf H b t)(hr:t[i]?=aa r):∃k s,aI aq Gt H 23 (.ptr (.box b) i)=aa (.list k s (ints r))/\(r≠[]->s=1):=by obtain⟨cs,h1,h2,h3⟩:=T;obtain⟨a,ha⟩:∃a,cs[i]?=aa a:=⟨_,aU (by rw[h2];exact(aW.1 hr).1)⟩;obtain⟨k,s,rfl,hs⟩:=h3 i a r ha hr;exact⟨k,s,tN h1 ha,hs⟩
def uf.store{H}{b i}{t}{r}{k}{s}(T:uf H b t)(hi:i<t.length)(hs:r≠[]->s=1):∃H',cE aq H 23 (.ptr (.box b) i) (.list k s (ints r))=aa H'/\uf H' b (t.set i r)/\∃cs,H'=H.put b cs:=by
 obtain⟨cs,h1,h2,h3⟩:=T;refine⟨_,acH (n:=0) h1 ai,⟨_,eO (aW.1 h1).1,by rw[mJ,mJ,h2],λj a q ha hq=>?_⟩,_,rfl⟩;rw[mW] at ha hq;by_cases e:i=j
 ·subst e;rw[aH rfl,aH ai] at ha;rw[aH rfl,aH hi] at hq;injection ha with ha;injection hq with hq;subst ha;subst hq;exact⟨k,s,rfl,hs⟩
 ·rw[aJ e] at ha hq;exact h3 j a q ha hq
def vI(c:Nat)(own:List Int)(j:Nat)(t:List (List Int)):List (List Int):=t.mapIdx λi a=>if i<j then js (al a c) a own else a
def RG(c)(own)(j)(t):(vI c own j t).length=t.length:=by unfold vI;simp
def FR(c)(own)(j)(t)(i):(vI c own j t)[i]?=t[i]?.map λa=>if i<j then js (al a c) a own else a:=by unfold vI;rw[List.getElem?_mapIdx]
def ana(c)(own)(t):vI c own 0 t=t:=by apply rW;intro i;rw[FR];cases t[i]?<;>simp
def am7(c)(own)(t):vI c own t.length t=t.map λa=>js (al a c) a own:=by
 apply rW;intro i;rw[FR,ey];cases h:t[i]? with|none=>rfl|some a=>rw[ft,ft,aH (aW.1 h).1]
def am8{c}{own}{j}{t}:(vI c own j t)[j]?=t[j]?:=by rw[FR];cases t[j]?<;>simp
def am9{c}{own a}{j}{t}(hj:t[j]?=aa a):(vI c own j t).set j (js (al a c) a own)=vI c own (j+1) t:=by
 apply rW;intro i;have hl:=(aW.1 hj).1;rw[mW,RG];by_cases e:j=i
 ·subst e;rw[aH rfl,aH hl,FR,hj,ft,aH (Nat.lt_succ_self _)]
 ·rw[aJ e,FR,FR];congr 1;funext a;by_cases h:i<j
  ·rw[aH h,aH ai]
  ·rw[aJ h,aJ ai]
def mq(t:List (List Int))(c:Nat):List (List Int) × List Nat:=(bO c).foldl oF (t,[])
def abi(t)(c):mq t (c+1)=oF (mq t c) c:=by unfold mq;rw[nD,oI];rfl
def SC{t}{w}(hl:∀a∈t,a.length=w)(ho:∀a∈t,∀x∈a,okF x):∀c,c<=w->xF w c (mq t c)/\(mq t c).1.length=t.length/\(mq t c).2.length<=t.length:=by
 intro c
 induction c with
 |zero=>intro _;exact⟨⟨hl,ho,λ_ _ _ _ j hj=>by omega⟩,rfl,cD _⟩|succ c ih=>
  intro hc;obtain⟨h1,h2,h3⟩:=ih ai;rw[abi];refine⟨M8 h1 ai,?_,?_⟩
  ·unfold oF;split
   ·exact h2
   ·simp[h2]
  ·unfold oF;split
   ·exact h3
   ·rename_i k hk;obtain⟨k1,k2,-⟩:=CG hk;simp;omega
def au5{t}{pv}{c k}{b o}(hf:pC t pv.length c=aa k)(hb:t[k]?=aa b)(ho:t[pv.length]?=aa o):
 oF (t,pv) c=((vI c (scaleB b (eU (al b c))) t.length (t.set k o)).set pv.length (scaleB b (eU (al b c))),pv++[c]):=by
 have gb:t.getD k []=b:=by rw[eE,hb];rfl
 have go:t.getD pv.length []=o:=by rw[eE,ho];rfl
 unfold oF;simp only[hf,gb,go];rw[show t.length=(t.set k o).length by rw[mJ],am7]
def acz{t}{pv}{c}(hf:pC t pv.length c=av):oF (t,pv) c=(t,pv):=by unfold oF;simp only[hf]
structure vh(h H:ar)(b:Nat)(t:List (List Int))(k:Tok):Prop where
 tb:uf H b t
 can:du h.tn H k
 ok:cK H=ah
 ext:Ext h H
 low:h.boxes.length<=b
def vh.put{h H}{b}{t t'}{k}(R:vh h H b t k)(cs)(T:uf (H.put b cs) b t'):vh h (H.put b cs) b t' k:=
 ⟨T,R.can,R.ok,R.ext.fZ R.low cs,R.low⟩
def vh.app{h H}{b}{t}{k}(R:vh h H b t k):vh h (H.app k) b t (.free H.tn):=
 ⟨R.tb.mono λcs q=>by rw[eC];exact q,O0 R.can R.ok R.ext.tn,EH R.ok R.can,(Grown.one R.can R.ok R.ext.tn).ext R.ext (aL _),R.low⟩
def ajN(x):0<=eU x/\eU x<=9223372036854775807:=Ac (Ph _)
def ane(x y)(a own)(n)(hx:IL x a)(hy:IL y own)(hl:own.length=a.length)(hw:a.length<=1000000):∀h,W5.call 196 [x,y,im n] h=aa (.ret (.list .held 1 (ints (js n a own))),h):=by obtain⟨h1,h2⟩:=hx.hold;obtain⟨h3,h4⟩:=hy.hold;exact ig (L:=L5) (b7:=[aD x,aD y,im n]) rfl rfl (by simp[aR,h2,h4,aK,im]) (anc (aD x) (aD y) a own n h1 h3 hl hw _) rfl (by simp[aK,nL,sV])
def av1(x)(a)(n)(hx:IL x a)(hw:a.length<=1000000)(hn:0<=n/\n<=9223372036854775807):∀h,W5.call 195 [x,im n] h=aa (.ret (.list .held 1 (ints (scaleB a n))),h):=by obtain⟨h1,h2⟩:=hx.hold;exact ig (L:=L5) (b7:=[aD x,im n]) rfl rfl (by simp[aR,h2,aK,im]) (av0 (aD x) a n h1 hw hn _) rfl (by simp[aK,nL,sV])
def aqz(x y)(ae)(target)(hx:RL x ae)(hy:IL y target)(hr:ae.length<=64)(hw:∀r∈ae,r.length=target.length)(oV:target.length<=64)(bB:∀r∈ae,∀x∈r,okF x)(pI:∀x∈target,okF x):
 ∀h,W5.call 172 [x,y] h=aa (.ret (.v (.int .i64 0)),h):=by
 obtain⟨h1,h2⟩:=hx.fD;obtain⟨h3,h4⟩:=hy.hold;exact ig (L:=L5) (b7:=[aD x,aD y]) rfl rfl (by simp[aR,h2,h4]) (aqy (aD x) (aD y) ae target h1 h3 hr hw oV bB pI _) rfl rfl
def aqp(h:ar)(bB:cK h=ah)(b:Nat)(ae:List (List Int))(w many:Nat)(hT:uf h b ae)(h0:0<ae.length)(hl:∀a∈ae,a.length=w)(ho:∀a∈ae,∀x∈a,okF x)(hm:many<=w)(hr:ae.length<=1000)(hw:w<=1000):
 ∃r h',W5.call 174 [.arr b 0 ae.length ae.length,im (many:Nat)] h=aa (r,h')/\∃b2 Z,r=.ret (.tuple [.arr b2 0 ae.length ae.length,Z])/\uf h' b2 (mq ae many).1/\(mq ae many).1.length=ae.length/\IL Z (bW (mq ae many).2)/\Ext h h':=by
 have u23:=dY;have u22:=jf;have z23:=iA;have z3:=fR;have bn2:gG aq 22 0 []=aa (.list .tight 1 []):=by kernel_rfl
 have bn3:gG aq 23 0 []=aa (.list .tight 1 []):=by kernel_rfl
 obtain⟨H1,ap,R0⟩:∃H1,sU aq h #[22,22] (.list .tight 1 []) (.arr b 0 ae.length ae.length)=aa (.arr h.boxes.length 0 ae.length ae.length,H1)/\vh h H1 h.boxes.length ae .tight:=by
  obtain⟨cs,t1,t2,t3⟩:=hT;obtain⟨i,q1,q2,q3,q4⟩:=LG;have vt:=ri (ai:ae.length<=1000000) q3;have hn:=(eu.box (sz:=1) (h:=h) (b:=b) (n:=ae.length) (ae:=cs.map λc=>[c]) (λr hr=>by obtain⟨c,-,rfl⟩:=kC.1 hr;rfl) (by rw[bF,t2]) (by rw[Gq];exact t1)).news;have pH:(cs.map λc=>[c]).length=ae.length:=by rw[bF,t2]
  have bG:(cs.map λc=>[c])≠[]:=by intro q;rw[q] at pH;simp at pH;omega
  have:=Nk (h:=h) (k:=.tight) (sz:=1) (es:=[]) (new:=cs.map λc=>[c]) (x:=.arr b 0 ae.length ae.length) jf jf q1 ai (by rw[q2];exact q4) bG (by rw[pH];simp;omega) (by rw[pH];simp;omega) (.inl q2.symm) (.inr rfl) (by rw[q2];exact hn);rw[pH,lP,qA,List.nil_append,Gq] at this;exact⟨_,this,⟨⟨cs,bg _ _,t2,t3⟩,.inr (.inl rfl),bB,.push _ _,aL _⟩⟩
 have kR0:=ao.mk R0;have kl:=ao.mk (az hl ho);clear hT R0 hl ho;unfold im;refine di rfl Tryz.func174 rfl ?_;refine bC @Ai ?_;refine bM.gen λe0 aG bE cZ cV=>?_;have f1:e0.get 1=.v (.int .i64 (many:Nat)):=by rw[aG];exact gS
 have f6:e0.get 6=.arr h.boxes.length 0 ae.length ae.length:=by rw[aG];exact gS
 have f7:e0.get 7=.list .tight 1 (ints (bW [])):=by rw[aG];exact gR
 have f8:e0.get 8=.v (.int .i64 (0:Nat)):=by rw[aG];exact gR
 have fd:e0.defers=[]:=by rw[bE];exact gS
 clear aG bE cZ cV ap bn2 bn3;refine cH (λm e H=>∃(c:Nat) (tk:Tok),c<=many/\m=many - c/\ao (vh h H h.boxes.length (mq ae c).1 tk)/\e.get 1=.v (.int .i64 (many:Nat))/\e.get 6=.arr h.boxes.length 0 ae.length ae.length/\e.get 7=.list tk 1 (ints (bW (mq ae c).2))/\e.get 8=.v (.int .i64 (c:Nat))/\e.defers=[]) ?_ many _ _ ?_;rotate_left 1
 ·exact⟨0,.tight,cD _,rfl,kR0,f1,f6,f7,f8,fd⟩
 clear kR0 f1 f6 f7 f8 fd;rintro m e H ⟨c,tk,hc,rfl,kR,g1,g6,g7,g8,hd⟩;by_cases wL:c<many;rotate_left 1
 ·have:c=many:=by omega
  subst this;refine bC @Ai ?_;exact⟨_,_,rfl,_,_,rfl,kR.out.tb,(SC kl.out.1 kl.out.2 c hm).2.1,⟨_,_,rfl,λ_=>rfl⟩,kR.out.ext⟩
 obtain⟨RO,tl,pl⟩:=SC kl.out.1 kl.out.2 c ai;have ksucc:ao (mq ae (c+1)=oF ((mq ae c).1,(mq ae c).2) c):=⟨abi ae c⟩;have kRO:=ao.mk RO;clear RO;generalize mq ae c=st at *
 obtain⟨t,pv⟩:=st;dsimp only at *
 have yn:(ints (bW pv)).length=pv.length:=by rw[dE];unfold bW;rw[bF]
 have hcI:(c:Int)<(many:Int):=by omega
 refine bC @Ai ?_;refine bM.gen λe0 aG bE cZ cV=>?_;have f1:e0.get 1=.v (.int .i64 (many:Nat)):=by rw[aG];simp only[gW,reduceIte,aS,aO];exact g1
 have f6:e0.get 6=.arr h.boxes.length 0 ae.length ae.length:=by rw[aG];simp only[gW,reduceIte,aS,aO];exact g6
 have f7:e0.get 7=.list tk 1 (ints (bW pv)):=by rw[aG];simp only[gW,reduceIte,aS,aO];exact g7
 have f8:e0.get 8=.v (.int .i64 (c:Nat)):=by rw[aG];simp only[gW,reduceIte,aS,aO];exact g8
 have f9:e0.get 9=.v (.int .i64 (pv.length:Nat)):=by rw[aG];exact gS
 have f10:e0.get 10=.v (.int .i64 (pv.length:Nat)):=by rw[aG];exact gS
 have fd:e0.defers=[]:=by rw[bE];simp only[gW,reduceIte,aS,aO];exact hd
 clear aG bE cZ cV g1 g6 g7 g8 hd;refine cH (λm e H2=>∃j:Nat,j<=ae.length/\pv.length<=j/\m=ae.length - j/\ao (∀k,pv.length<=k->k<j->al (t.getD k []) c=0)/\e.get 1=.v (.int .i64 (many:Nat))/\e.get 6=.arr h.boxes.length 0 ae.length ae.length/\e.get 7=.list tk 1 (ints (bW pv))/\e.get 8=.v (.int .i64 (c:Nat))/\e.get 9=.v (.int .i64 (pv.length:Nat))/\e.get 10=.v (.int .i64 (j:Nat))/\e.defers=[]/\H2=H) ?_ (ae.length - pv.length) _ _ ?_;rotate_left 1
 ·exact⟨pv.length,pl,aL _,rfl,⟨λk q1 q2=>absurd q2 ai⟩,f1,f6,f7,f8,f9,f10,fd,rfl⟩
 clear f1 f6 f7 f8 f9 f10 fd;rintro m e2 H2 ⟨j,hj,QQ,rfl,kz,g1,g6,g7,g8,g9,g10,hd,rfl⟩;by_cases hjn:j<ae.length;rotate_left 1
 ·have ou:j=ae.length:=by omega
  subst ou;have QE:pC t pv.length c=av:=by rw[KS (j:=ae.length) QQ ai kz.out (λq=>absurd q ai),aH tl.symm]
  have kR2:ao (vh h H2 h.boxes.length (mq ae (c+1)).1 tk):=⟨by rw[ksucc.out,acz QE];exact kR.out⟩;have k7:(mq ae (c+1)).2=pv:=by rw[ksucc.out,acz QE]
  have k7:=ao.mk k7;clear QE;refine bC @Ai ?_;exact⟨many - (c+1),by omega,c+1,tk,by omega,rfl,kR2,by first|trivial|assumption,by first|trivial|assumption,by rw[k7.out],by simp⟩
 obtain⟨rb,Fy⟩:∃r,t[j]?=aa r:=⟨_,aU ai⟩;have YC:t.getD j []=rb:=by rw[eE,Fy];rfl
 have IA:=kRO.out.len rb (dy Fy);have Zi:=kRO.out.ok rb (dy Fy);obtain⟨k1,s1,ld1,bD⟩:=kR.out.tb.load Fy;have bD:s1=1:=bD (by intro q;rw[q] at IA;simp at IA;omega);subst bD;have ix1:=FN (b:=h.boxes.length) (len:=ae.length) (aF:=ae.length) (k:=.i64) hjn;have Fl:(ints rb).length=w:=by rw[dE];exact IA
 have l1:=ev (H:=H2) (l:=rb) (i:=c) (s:=1) ai;have Ih:(j:Int)<(ae.length:Int):=by omega
 have hcw:(c:Int)<(w:Int):=by omega
 have kb:=ao.mk (az Fy (az YC (az IA Zi)));clear Fy YC IA Zi;by_cases hz:al rb c=0
 ·have eM:decide (al rb c=0)=ah:=by simp[hz]
  have kz2:ao (∀k,pv.length<=k->k<j+1->al (t.getD k []) c=0):=⟨λk q1 q2=>by
   rcases ez k j with q|q
   ·exact kz.out k q1 q
   ·have:k=j:=(by omega);subst this;rw[kb.out.2.1];exact hz⟩
  generalize al rb c=z at *
  clear hz;refine bQ @Ai @bp ?_;exact⟨ae.length - (j+1),by omega,j+1,by omega,by omega,rfl,kz2,by simp⟩
 have eM:decide (al rb c=0)=aB:=by simp[hz]
 have Zk:pC t pv.length c=aa j:=by rw[KS (j:=j) QQ ai kz.out (λ_=>by rw[kb.out.2.1];exact hz),aJ ai]
 obtain⟨ro,l9⟩:∃r,t[pv.length]?=aa r:=⟨_,aU ai⟩;have Zj:=kRO.out.len ro (dy l9);obtain⟨k2,s2,ld2,nQ⟩:=kR.out.tb.load l9;have ix2:=FN (b:=h.boxes.length) (len:=ae.length) (aF:=ae.length) (k:=.i64) (ai:pv.length<ae.length);obtain⟨H3,st1,T3,cs3,rfl⟩:=kR.out.tb.store (i:=j) (k:=k2) ai nQ;have kstep:=ao.mk (au5 Zk kb.out.1 l9);have R3:=kR.out.put cs3 T3;have okz:=rm kb.out.2.2.2 c;have yl:fmod (al rb c)=al rb c:=CK okz;have inv:=λh=>ara (al rb c) h;rw[yl,aJ hz,aJ hz] at inv;have tms:=av1 (.list k1 1 (ints rb)) rb (eU (al rb c)) ⟨_,_,rfl,λ_=>rfl⟩ (by rw[kb.out.2.2.1];omega) (ajN _);have oP:(scaleB rb (eU (al rb c))).length=w:=by rw[ab7];exact kb.out.2.2.1
 have l3:=ev (H:=H2.put h.boxes.length cs3) (l:=rb) (i:=c) (s:=1) (by rw[kb.out.2.2.1];omega);have eW:∀a∈t.set j ro,a.length=w:=by
  intro a ha;rcases List.mem_or_eq_of_mem_set ha with q|q
  ·exact kRO.out.len a q
  ·rw[q];exact Zj
 have kall:=ao.mk eW;have axM:(t.set j ro).length=ae.length:=by rw[mJ];exact tl
 have QN:(pv.length:Int)<(ae.length:Int):=by omega
 rw[tl] at kstep;generalize eU (al rb c)=fz at *
 generalize scaleB rb fz=own at *
 generalize t.set j ro=t1 at *
 clear Zj l9 nQ Zk okz yl eW kz T3 kRO kR;have kR3:=ao.mk R3;clear R3;generalize al rb c=z at *
 generalize H2.put h.boxes.length cs3=H3 at *
 clear hz;unfold im at inv tms;refine bQ @Ai @bp ?_;refine bM.gen λe0 aG bE cZ cV=>?_;have f1:e0.get 1=.v (.int .i64 (many:Nat)):=by rw[aG];simp only[gW,reduceIte,aS,aO];exact g1
 have f6:e0.get 6=.arr h.boxes.length 0 ae.length ae.length:=by rw[aG];simp only[gW,reduceIte,aS,aO];exact g6
 have f7:e0.get 7=.list tk 1 (ints (bW pv)):=by rw[aG];simp only[gW,reduceIte,aS,aO];exact g7
 have f8:e0.get 8=.v (.int .i64 (c:Nat)):=by rw[aG];simp only[gW,reduceIte,aS,aO];exact g8
 have f9:e0.get 9=.v (.int .i64 (pv.length:Nat)):=by rw[aG];simp only[gW,reduceIte,aS,aO];exact g9
 have f11:e0.get 11=.list .held 1 (ints own):=by rw[aG];exact gS
 have f14:e0.get 14=.v (.int .i64 (0:Nat)):=by rw[aG];exact gR
 have fd:e0.defers=[]:=by rw[bE];simp only[gW,reduceIte,aS,aO];exact hd
 clear aG bE cZ cV g1 g6 g7 g8 g9 g10 hd ld1 ld2 st1 inv tms l1 l3 eM ix1 Fl;have kR4:ao (vh h H3 h.boxes.length (vI c own 0 t1) tk):=⟨by rw[ana];exact kR3.out⟩;refine cH (λm e H=>∃i:Nat,i<=ae.length/\m=ae.length - i/\ao (vh h H h.boxes.length (vI c own i t1) tk)/\e.get 1=.v (.int .i64 (many:Nat))/\e.get 6=.arr h.boxes.length 0 ae.length ae.length/\e.get 7=.list tk 1 (ints (bW pv))/\e.get 8=.v (.int .i64 (c:Nat))/\e.get 9=.v (.int .i64 (pv.length:Nat))/\e.get 11=.list .held 1 (ints own)/\e.get 14=.v (.int .i64 (i:Nat))/\e.defers=[]) ?_ ae.length _ _ ?_;rotate_left 1
 ·exact⟨0,cD _,rfl,kR4,f1,f6,f7,f8,f9,f11,f14,fd⟩
 clear f1 f6 f7 f8 f9 f11 f14 fd kR4 kR3;rintro m e3 H4 ⟨i,hi,rfl,kR,g1,g6,g7,g8,g9,g11,g14,hd⟩;by_cases iO:i<ae.length
 ·obtain⟨a,ha⟩:∃r,t1[i]?=aa r:=⟨_,aU ai⟩;have eR:=kall.out a (dy ha);obtain⟨k1,s1,ld1,bD⟩:=kR.out.tb.load (am8.trans ha);have bD:s1=1:=bD (by intro q;rw[q] at eR;simp at eR;omega);subst bD;have ix1:=FN (b:=h.boxes.length) (len:=ae.length) (aF:=ae.length) (k:=.i64) iO;have Fl:(ints a).length=w:=by rw[dE];exact eR
  have l1:=ev (H:=H4) (l:=a) (i:=c) (s:=1) ai;have ls:=ane (.list k1 1 (ints a)) (.list .held 1 (ints own)) a own (al a c) ⟨_,_,rfl,λ_=>rfl⟩ ⟨_,_,rfl,λ_=>rfl⟩ ai ai;obtain⟨H5,st1,T5,cs5,rfl⟩:=kR.out.tb.store (i:=i) (r:=js (al a c) a own) (k:=.held) (s:=1) (by rw[RG];omega) (λ_=>rfl);rw[am9 ha] at T5;have kR5:=ao.mk (kR.out.put cs5 T5);have Lh:(i:Int)<(ae.length:Int):=by omega
  clear T5 ha eR kR;generalize js (al a c) a own=la at *
  generalize al a c=z1 at *
  generalize H4.put h.boxes.length cs5=H5 at *
  unfold im at ls;refine bQ @Ai @bp ?_
  repeat' (first|simp(maxSteps:=999999)(disch:=first|exact dZ|fail)only[gW,reduceIte,aS,aO,Ai,bp, *]|(refine dX ?_ ?_<;>(intro _;try omega))|refine eJ mA jr ?_)
  exact⟨ae.length - (i+1),by omega,i+1,by omega,rfl,kR5,by simp⟩
 ·have gx:i=ae.length:=by omega
  subst gx;obtain⟨H5,st1,T5,cs5,rfl⟩:=kR.out.tb.store (i:=pv.length) (r:=own) (k:=.held) (s:=1) (by rw[RG];omega) (λ_=>rfl);have R6:=(kR.out.put cs5 T5).app;have bl:=pq (c:Int);have ap:=tf (H:=H4.put h.boxes.length cs5) (x:=(c:Int)) (es:=bW pv) (sz:=1) (show(bW pv).length<1099511627776 by unfold bW;rw[bF];omega) (.inl rfl) ((kR.out.put cs5 T5).can);have ee:bW pv++[(c:Int)]=bW (pv++[c]):=by unfold bW;simp
  rw[ee] at ap;have kst:=ao.mk (ksucc.out.trans kstep.out);have kR6:ao (vh h ((H4.put h.boxes.length cs5).app tk) h.boxes.length (mq ae (c+1)).1 (.free (H4.put h.boxes.length cs5).tn)):=⟨by rw[kst.out];exact R6⟩;have k7:ao ((mq ae (c+1)).2=pv++[c]):=⟨by rw[kst.out]⟩;clear T5 R6 ee kstep kR;generalize H4.put h.boxes.length cs5=H5 at *
  refine bC @Ai ?_;exact⟨many - (c+1),by omega,c+1,_,by omega,rfl,kR6,by first|trivial|assumption,by first|trivial|assumption,by rw[k7.out],by simp⟩
def yF:Tryz.f133.results.toList=[.tmp 4,.tmp 5,.tmp 6]:=by kernel_rfl
structure Hm(h H:ar)(b k:Nat)(t1 t2:List (List Int))(dc:List AV)(ts:List Tok):Prop where
 ir:H.boxes[b]?=aa (dc++qH ts (t2.drop k))
 dl:dc.length=k
 row:∀(i:Nat) a r,dc[i]?=aa a->t1[i]?=aa r->IL a r
 tl:ts.length=t2.length - k
 can:∀u∈ts,du h.tn H u
 HD:ts.Pairwise BW
 ok:cK H=ah
 ext:Ext h H
 low:h.boxes.length<=b
def Hm.step{h H}{b k}{t1 t2}{dc}{ts}(J:Hm h H b k t1 t2 dc ts){r}{x}(hr:t2[k]?=aa r)(h1:t1[k]?=aa (r++[x])):
 ∃t ts2,ts=t::ts2/\aI aq Gt H 23 (.ptr (.box b) k)=aa (.list t 1 (ints r))/\du h.tn H t/\∃H3,cE aq (H.app t) 23 (.ptr (.box b) k) (.list (.free H.tn) 1 (ints (r++[x])))=aa H3/\Hm h H3 b (k+1) t1 t2 (dc++[.list (.free H.tn) 1 (ints (r++[x]))]) ts2:=by
 have hk:=(aW.1 hr).1;have qg:t2.drop k=r::t2.drop (k+1):=by rw[y6 hk,(aW.1 hr).2]
 obtain⟨t,ts2,rfl⟩:∃t ts2,ts=t::ts2:=by
  cases ts with|nil=>have:=J.tl;simp at this;omega|cons t ts2=>exact⟨t,ts2,rfl⟩
 have hd:=GY.1 J.HD;have hc:=J.can t gq;have hb:=J.ir;have ecs:qH (t::ts2) (t2.drop k)=.list t 1 (ints r)::qH ts2 (t2.drop (k+1)):=by rw[qg];rfl
 rw[ecs] at hb;have jE:=(aW.1 hb).1;have gi:(H.app t).boxes[b]?=aa (dc++ .list t 1 (ints r)::qH ts2 (t2.drop (k+1))):=by rw[eC];exact hb
 refine⟨t,ts2,rfl,tN hb (by rw[AL (by rw[J.dl];exact aL _),J.dl,ve];rfl),hc,_,acH (n:=0) gi (by rw[dM,jd,J.dl];omega),?_⟩;have zO:(dc++AV.list t 1 (ints r)::qH ts2 (t2.drop (k+1))).set k (.list (.free H.tn) 1 (ints (r++[x])))=(dc++[.list (.free H.tn) 1 (ints (r++[x]))])++qH ts2 (t2.drop (k+1)):=by rw[List.set_append_right _ _ (by rw[J.dl];exact aL _),J.dl,ve,List.set_cons_zero,ua];rfl
 rw[zO];refine⟨eO (by rw[eC];exact jE),by rw[dM,J.dl];rfl,λi a q ha hq=>?_,?_,λu hu=>?_,hd.2,?_,?_,J.low⟩
 ·rcases ez i dc.length with aC|eF
  ·rw[List.getElem?_append_left aC] at ha;exact J.row i a q ha hq
  ·have:=(aW.1 ha).1;rw[dM] at this;have hi:i=dc.length:=(by simp at this;omega);subst hi;rw[List.getElem?_concat_length] at ha;rw[J.dl,h1] at hq;injection ha with ha;injection hq with hq;subst ha;subst hq;exact⟨_,_,rfl,λ_=>rfl⟩
 ·have:=J.tl;rw[jd] at this;omega
 ·exact HA (J.can u (fM _ hu)) (hd.1 u hu)
 ·exact EH J.ok hc
 ·exact((Grown.one hc J.ok J.ext.tn).ext J.ext (aL _)).fZ J.low _
def ap3(pv):(ints (bW pv)).length=pv.length:=by rw[dE];unfold bW;rw[bF]
def adx(ae:List (List Int))(target:List Int)(h:ar)(r:fg)(h':ar):Prop:=
 Ext h h'/\((qJ ae target=av/\r=.ret (.tuple [.list .nil 0 [],.v (.bool aB),im 0]))∨∃l b,qJ ae target=aa l/\l.length=ae.length/\r=.ret (.tuple [.arr b 0 ae.length ae.length,.v (.bool ah),im 0])/\h'.boxes[b]?=aa (l.map im))
def aii(h:ar)(bB:cK h=ah)(x y:AV)(ae:List (List Int))(target:List Int)(hx:RL x ae)(hy:IL y target)(hr:ae.length<=64)(hw:∀r∈ae,r.length=target.length)(oV:target.length<=64)(h0:0<target.length)(Iy:∀r∈ae,∀x∈r,okF x)(pI:∀x∈target,okF x):
 ∃r h',W5.call 133 [x,y] h=aa (r,h')/\adx ae target h r h':=by
 have c1:=aqz x y ae target hx hy hr hw oV Iy pI;obtain⟨_,H1,c2,X,ts,rfl,T1⟩:=av5 h bB x ae target.length hx hw ai ai;obtain⟨t1,t2⟩:=TN Iy pI;have tl:=TM ae target;have cl:=Wk ae target.length;have e1:qJ ae target=if ((mq (gm ae target) ae.length).1.drop (mq (gm ae target) ae.length).2.length).all (λa=>decide (al a ae.length=0)) then aa (qt (mq (gm ae target) ae.length) ae.length) else av:=rfl
 obtain⟨RO,rl,rp⟩:=SC t1 t2 ae.length ai;obtain⟨-,V⟩:=Jc t1 t2 (ai:ae.length<=ae.length+1);have V:EB ae.length (mq (gm ae target) ae.length):=V;rw[tl] at rl rp;obtain⟨b,hX,J0⟩:∃b,X=.arr b 0 target.length target.length/\Hm h H1 b 0 (gm ae target) (rZ ae target.length) [] ts:=by
  rcases T1.JN with⟨q,-⟩|⟨-,b,q1,q2,q3⟩
  ·rw[q] at cl;simp at cl;omega
  ·rw[cl] at q1;exact⟨b,q1,⟨q2,rfl,λi a r q=>by simp at q,by rw[T1.len];rfl,λu hu=>T1.can u (fM _ hu),(GY.1 T1.HD).2,T1.ok,T1.ext,q3⟩⟩
 subst hX;obtain⟨k,s,xs,rfl,hs,dR,eG⟩:=hx;obtain⟨ky,sy,rfl,lj⟩:=hy;have bD:sy=1:=lj (by intro q;rw[q] at h0;simp at h0);subst bD;have cY:(xs.map λa=>[a]).length=ae.length:=by rw[bF];exact dR
 have vw:=dE target;have u23:=dY;have u22:=jf;have z23:=iA;have z3:=fR;have kJ0:=ao.mk J0;have kk:=ao.mk (az t1 (az t2 (az RO (az V e1))));have kcl:=ao.mk cl;clear T1 J0 hs dR eG lj hw Iy pI t1 t2 RO V e1 cl;unfold im at c2;refine di rfl Tryz.func133 rfl ?_;refine bC @yF ?_;refine bM.gen λe0 aG bE cZ cV=>?_;have f0:e0.get 0=.list k s (xs.map λa=>[a]):=by rw[aG];exact gS
 have f1:e0.get 1=.list ky 1 (ints target):=by rw[aG];exact gS
 have f8:e0.get 8=.arr b 0 target.length target.length:=by rw[aG];exact gS
 have f9:e0.get 9=.v (.int .i64 (0:Nat)):=by rw[aG];exact gR
 have fd:e0.defers=[]:=by rw[bE];exact gS
 clear aG bE cZ cV c1 c2;refine cH (λm e H=>∃(j:Nat) (dc:List AV) (ts:List Tok),j<=target.length/\m=target.length - j/\ao (Hm h H b j (gm ae target) (rZ ae target.length) dc ts)/\e.get 0=.list k s (xs.map λa=>[a])/\e.get 1=.list ky 1 (ints target)/\e.get 8=.arr b 0 target.length target.length/\e.get 9=.v (.int .i64 (j:Nat))/\e.defers=[]) ?_ target.length _ _ ?_;rotate_left 1
 ·exact⟨0,[],ts,cD _,rfl,kJ0,f0,f1,f8,f9,fd⟩
 clear f0 f1 f8 f9 fd kJ0 ts;rintro m e H ⟨j,dc,ts,hj,rfl,kJ,g0,g1,g8,g9,hd⟩;by_cases vx:j<target.length
 ·have Yp:(rZ ae target.length)[j]?=aa (ae.map λr=>al r j):=by unfold rZ;rw[ey,y8 vx];rfl
  have Zr:(gm ae target)[j]?=aa ((ae.map λr=>al r j)++[al target j]):=by unfold gm;rw[ey,y8 vx];rfl
  obtain⟨t,ts2,rfl,ld,hc,H3,st,J3⟩:=kJ.out.step Yp Zr;have ap:=tf (H:=H) (x:=al target j) (es:=ae.map λr=>al r j) (sz:=1) (by rw[bF];omega) (.inl rfl) hc;have bl:=pq (al target j);have l1:=ev (H:=H) (l:=target) (i:=j) (s:=1) vx;have ix:=FN (b:=b) (len:=target.length) (aF:=target.length) (k:=.i64) vx;have kJ3:=ao.mk J3;have Ih:(j:Int)<(target.length:Int):=by omega
  clear J3 Yp Zr hc kJ;refine bQ @yF @bp ?_
  repeat' (first|simp(maxSteps:=999999)(disch:=first|exact dZ|fail)only[gW,reduceIte,aS,aO,yF,bp, *]|(refine dX ?_ ?_<;>(intro _;try omega))|refine eJ mA jr ?_)
  exact⟨target.length - (j+1),by omega,j+1,_,ts2,by omega,rfl,kJ3,by simp⟩
 have ou:j=target.length:=by omega
 subst ou;have T2:uf H b (gm ae target):=⟨_,kJ.out.ir,by
  have h1:qH ts ((rZ ae target.length).drop target.length)=[]:=by rw[rh (by rw[kcl.out];exact aL _)];unfold qH;simp
  rw[h1,jC,kJ.out.dl,tl],λi a r ha hr=>by
  have h1:qH ts ((rZ ae target.length).drop target.length)=[]:=by rw[rh (by rw[kcl.out];exact aL _)];unfold qH;simp
  rw[h1,jC] at ha;exact kJ.out.row i a r ha hr⟩
 obtain⟨_,H3,c3,b2,Z,rfl,T3,-,hZ,X3⟩:=aqp H kJ.out.ok b (gm ae target) (ae.length+1) ae.length T2 ai kk.out.1 kk.out.2.1 ai ai ai;rw[tl] at c3;obtain⟨kz,sz,rfl,dP⟩:=hZ;have yn:=ap3 (mq (gm ae target) ae.length).2;have kV:ao (EB ae.length (mq (gm ae target) ae.length)):=⟨kk.out.2.2.2.1⟩;have kRl:=ao.mk kk.out.2.2.1.len;have ke:=ao.mk kk.out.2.2.2.2;generalize bT:mq (gm ae target) ae.length=st at *
 obtain⟨t',pv⟩:=st;dsimp only at *
 have kT3:=ao.mk T3;have ksz:=ao.mk dP;have kX3:=ao.mk (kJ.out.ext.trans X3);clear T2 T3 dP X3 kk kJ bT kcl tl;unfold im at c3;refine bC @yF ?_;refine bM.gen λe0 aG bE cZ cV=>?_;have f0:e0.get 0=.list k s (xs.map λa=>[a]):=by rw[aG];simp only[gW,reduceIte,aS,aO];exact g0
 have f8:e0.get 8=.arr b2 0 target.length target.length:=by rw[aG];exact gS
 have f10:e0.get 10=.list kz sz (ints (bW pv)):=by rw[aG];exact gS
 have f11:e0.get 11=.v (.int .i64 (pv.length:Nat)):=by rw[aG];exact gS
 have fd:e0.defers=[]:=by rw[bE];simp only[gW,reduceIte,aS,aO];exact hd
 clear aG bE cZ cV c3 g0 g1 g8 g9 hd;refine cH (λm e H=>∃j:Nat,j<=target.length/\pv.length<=j/\m=target.length - j/\ao (∀i,pv.length<=i->i<j->∀a,t'[i]?=aa a->al a ae.length=0)/\e.get 0=.list k s (xs.map λa=>[a])/\e.get 8=.arr b2 0 target.length target.length/\e.get 10=.list kz sz (ints (bW pv))/\e.get 11=.v (.int .i64 (j:Nat))/\e.defers=[]/\H=H3) ?_ (target.length - pv.length) _ _ ?_;rotate_left 1
 ·exact⟨pv.length,rp,aL _,rfl,⟨λi q1 q2=>absurd q2 ai⟩,f0,f8,f10,f11,fd,rfl⟩
 clear f0 f8 f10 f11 fd;rintro m e H3 ⟨j,hj,QQ,rfl,kz0,g0,g8,g10,g11,hd,rfl⟩;by_cases vx:j<target.length
 ·obtain⟨a,ha⟩:∃a,t'[j]?=aa a:=⟨_,aU ai⟩;have eR:=kRl.out a (dy ha);obtain⟨k1,s1,ld1,bD⟩:=kT3.out.load ha;have bD:s1=1:=bD (by intro q;rw[q] at eR;simp at eR);subst bD;have Qn:(ints a).length=ae.length+1:=by rw[dE];exact eR
  have l1:=ev (H:=H3) (l:=a) (i:=ae.length) (s:=1) ai;have ix:=FN (b:=b2) (len:=target.length) (aF:=target.length) (k:=.i64) vx;have Ih:(j:Int)<(target.length:Int):=by omega
  have hnI:(ae.length:Int)<((ae.length+1:Nat):Int):=by omega
  by_cases hz:al a ae.length=0
  ·have kz2:ao (∀i,pv.length<=i->i<j+1->∀a,t'[i]?=aa a->al a ae.length=0):=⟨λi hi qh a' nN=>by
    rcases ez i j with q|q
    ·exact kz0.out i hi q a' nN
    ·rw[(ai:i=j),ha] at nN;injection nN with nN;rw[<-nN];exact hz⟩
   have eM:decide (al a ae.length=0)=ah:=(by simp[hz]);generalize al a ae.length=z at *
   clear ha eR hz kz0;refine bQ @yF @bp ?_;exact⟨target.length - (j+1),by omega,j+1,by omega,by omega,rfl,kz2,by simp⟩
  ·have e2:qJ ae target=av:=(by rw[ke.out,aJ];intro q;rw[eK] at q;have:=q a (dy (i:=j - pv.length) (by rw[pX,(ai:pv.length+(j - pv.length)=j)];exact ha));exact hz (of_decide_eq_true this));have ke2:=ao.mk e2;have eM:decide (al a ae.length=0)=aB:=(by simp[hz]);generalize al a ae.length=z at *
   clear ha eR hz kz0 e2;refine bQ @yF @bp ?_;exact⟨_,_,rfl,kX3.out,.inl ⟨ke2.out,rfl⟩⟩
 have ou:j=target.length:=by omega
 subst ou;have e2:qJ ae target=aa (qt (t',pv) ae.length):=by rw[ke.out,aH];rw[eK];intro a ha;obtain⟨i,hi⟩:=vd ha;rw[pX] at hi;have cY:=(aW.1 hi).1;exact b8 (kz0.out (pv.length+i) ai ai a hi)
 rw[<-abf] at e2;have ke2:=ao.mk e2;have mk:=BH H3 ae.length ai .i64 .i64;have oS:br ae.length (im 0)=(mF t' pv ae.length 0).map im:=by unfold mF;rw[gF,GR,y9]
 rw[oS] at mk;clear e2 oS kz0 ke;unfold im at mk;refine bC @yF ?_;refine bM.gen λe0 aG bE cZ cV=>?_;have f0:e0.get 0=.list k s (xs.map λa=>[a]):=by rw[aG];simp only[gW,reduceIte,aS,aO];exact g0
 have f8:e0.get 8=.arr b2 0 target.length target.length:=by rw[aG];simp only[gW,reduceIte,aS,aO];exact g8
 have f10:e0.get 10=.list kz sz (ints (bW pv)):=by rw[aG];simp only[gW,reduceIte,aS,aO];exact g10
 have f12:e0.get 12=.arr H3.boxes.length 0 ae.length ae.length:=by rw[aG];exact gS
 have f13:e0.get 13=.v (.int .i64 (0:Nat)):=by rw[aG];exact gR
 have fd:e0.defers=[]:=by rw[bE];simp only[gW,reduceIte,aS,aO];exact hd
 clear aG bE cZ cV g0 g8 g10 g11 hd mk;refine cH (λm e H=>∃j:Nat,j<=pv.length/\m=pv.length - j/\e.get 0=.list k s (xs.map λa=>[a])/\e.get 8=.arr b2 0 target.length target.length/\e.get 10=.list kz sz (ints (bW pv))/\e.get 12=.arr H3.boxes.length 0 ae.length ae.length/\e.get 13=.v (.int .i64 (j:Nat))/\e.defers=[]/\H=H3.push ((mF t' pv ae.length j).map im)) ?_ pv.length _ _ ?_;rotate_left 1
 ·exact⟨0,cD _,rfl,f0,f8,f10,f12,f13,fd,rfl⟩
 clear f0 f8 f10 f12 f13 fd;rintro m e H ⟨j,hj,rfl,g0,g8,g10,g12,g13,hd,rfl⟩;by_cases aC:j<pv.length
 ·obtain⟨p,eV⟩:∃p,pv[j]?=aa p:=⟨_,aU aC⟩;have zL:=kV.out.lt j p eV;have bD:sz=1:=ksz.out (by intro q;unfold bW at q;rw[GW] at q;rw[q] at aC;exact Nat.not_lt_zero _ aC);subst bD;obtain⟨a,ha⟩:∃a,t'[j]?=aa a:=⟨_,aU ai⟩;have eR:=kRl.out a (dy ha);obtain⟨k1,s1,ld1,bD⟩:=(kT3.out.mono (H':=H3.push ((mF t' pv ae.length j).map im)) λ_ q=>bh q).load ha;have bD:s1=1:=bD (by intro q;rw[q] at eR;simp at eR);subst bD;have Qn:(ints a).length=ae.length+1:=by rw[dE];exact eR
  have l0:=ev (H:=H3.push ((mF t' pv ae.length j).map im)) (l:=bW pv) (i:=j) (s:=1) (by unfold bW;rw[bF];exact aC);rw[abe eV] at l0;have l1:=ev (H:=H3.push ((mF t' pv ae.length j).map im)) (l:=a) (i:=ae.length) (s:=1) ai;have ix1:=FN (b:=b2) (len:=target.length) (aF:=target.length) (k:=.i64) (ai:j<target.length);have ix3:=rH (b:=H3.boxes.length) (len:=ae.length) (aF:=ae.length) (k:=.i64) zL;have sk:=Ak (H:=H3.push ((mF t' pv ae.length j).map im)) (b:=H3.boxes.length) (r:=mF t' pv ae.length j) (k:=p) (x:=al a ae.length) (bg _ _) (by rw[Mm];exact zL);have gD:t'.getD j []=a:=by rw[eE,ha];rfl
  rw[qs,<-gD,abg eV,gD] at sk;have fw:(j:Int)<(pv.length:Int):=by omega
  have hnI:(ae.length:Int)<((ae.length+1:Nat):Int):=by omega
  unfold im at *
  clear ha eR gD eV zL ke2;refine bQ @yF @bp ?_
  repeat' (first|simp(maxSteps:=999999)(disch:=first|exact dZ|fail)only[gW,reduceIte,aS,aO,yF,bp, *]|(refine dX ?_ ?_<;>(intro _;try omega))|refine eJ mA jr ?_)
  exact⟨pv.length - (j+1),by omega,j+1,by omega,rfl,by simp⟩
 ·have ou:j=pv.length:=by omega
  subst ou;refine bC @yF ?_;exact⟨_,_,rfl,kX3.out.trans (.push _ _),.inr ⟨_,_,ke2.out,Mm _ _ _ _,rfl,bg _ _⟩⟩
def My:Tryz.f134.results.toList=[.tmp 4]:=by kernel_rfl
def xn:Tryz.f63.results.toList=[.tmp 4,.tmp 5,.tmp 6]:=by kernel_rfl
def IL.same{x}{l}(h:IL x l):fA x x=ah:=by obtain⟨k,s,rfl,-⟩:=h;exact JC k s l
def ab3:∀xs:List AV,(∀a∈xs,fA a a=ah)->rO (xs.map λa=>[a]) (xs.map λa=>[a])=ah
 | [],_=>rfl
 |x::xs,h=>by rw[eL,rO,ab3 xs λa ha=>h a (fM _ ha),pP,h x gq];rfl
def RL.same{x}{ae}(h:RL x ae):fA x x=ah:=by
 obtain⟨k,s,xs,rfl,-,hl,hr⟩:=h;have e:yK k k=ah:=by cases k<;>simp[yK]
 rw[fA,e,ab3 xs λa ha=>?_]
 ·simp
 ·obtain⟨i,hi⟩:=vd ha;have cY:=(aW.1 hi).1;exact(hr i a _ hi (aU ai)).same
def aoz(h:ar)(bB:cK h=ah)(x y z:AV)(ae:List (List Int))(ag au:List Int)(hx:RL x ae)(hy:IL y ag)(hz:IL z au)(ho:ae.length=ag.length)(hr:ae.length<=1000)(jG:au.length<=1099511627776):
 ∃r h',W5.call 134 [.agg [x,y],z] h=aa (r,h')/\∃X,r=.ret X/\RL X ((eS ag au).map λi=>ae.getD i [])/\Ext h h'/\cK h'=ah:=by
 have bx:=tU hx hy;have hs:=λn=>Yd z au n hz jG;obtain⟨k0,s0,xs,rfl,vD,dR,eG⟩:=hx;obtain⟨ky,sy,rfl,lj⟩:=hy;have kx:=ao.mk (az vD (az eG lj));have kho:=ao.mk ho;clear vD eG lj hz ho;have u23:=dY;have u22:=jf;have z23:=iA;have z3:=fR;have LC:(xs.map λa=>[a]).length=ae.length:=by rw[bF];exact dR
 have cY:=dE ag;have kX0:=ao.mk (az (Ext.push h [.list k0 s0 (xs.map λa=>[a]),.list ky sy (ints ag)]) (bg h [.list k0 s0 (xs.map λa=>[a]),.list ky sy (ints ag)]));have kok0:ao (cK (h.push [.list k0 s0 (xs.map λa=>[a]),.list ky sy (ints ag)])=ah):=⟨bB⟩;refine di rfl Tryz.func134 rfl ?_;refine bQ @My @bu ?_;refine bM.gen λe0 aG bE cZ cV=>?_;have f1:e0.get 1=z:=by rw[aG];exact gS
 have f2:e0.get 2=.ptr (.box h.boxes.length) 0:=by rw[aG];exact gS
 have f5:e0.get 5=.list .nil 0 ((jk xs ag au 0).map λa=>[a]):=by rw[aG];exact gR
 have f6:e0.get 6=.v (.int .i64 (0:Nat)):=by rw[aG];exact gR
 have fd:e0.defers=[]:=by rw[bE];exact gS
 clear aG bE cZ cV bx;refine cH (λm e H=>∃(i:Nat) (tk:Tok) (sz:Nat),i<=ae.length/\m=ae.length - i/\ao (sz=1∨((jk xs ag au i)=[]/\tk=.nil))/\ao (Ext h H/\H.boxes[h.boxes.length]?=aa [.list k0 s0 (xs.map λa=>[a]),.list ky sy (ints ag)])/\ao (cK H=ah)/\ao (du h.tn H tk)/\e.get 1=z/\e.get 2=.ptr (.box h.boxes.length) 0/\e.get 5=.list tk sz ((jk xs ag au i).map λa=>[a])/\e.get 6=.v (.int .i64 (i:Nat))/\e.defers=[]) ?_ ae.length _ _ ?_;rotate_left 1
 ·exact⟨0,.nil,0,cD _,rfl,⟨.inr ⟨rfl,rfl⟩⟩,kX0,kok0,⟨.inl rfl⟩,f1,f2,f5,f6,fd⟩
 clear f1 f2 f5 f6 fd kX0 kok0;rintro m e H ⟨i,tk,sz,hi,rfl,ksz,kX,kok,kcan,g1,g2,g5,g6,hd⟩;have l0:=qS kX.out.2;have l1:=DC kX.out.2;by_cases iO:i<ae.length;rotate_left 1
 ·have gx:i=ae.length:=by omega
  subst gx;refine cX @My @dK @eQ ?_;have hN:fy ag au ae.length=eS ag au:=by unfold fy eS;rw[kho.out]
  refine⟨_,_,rfl,_,rfl,⟨_,_,_,rfl,λbG=>?_,?_,λi a r ha hr=>?_⟩,kX.out.1,kok.out⟩
  ·rcases ksz.out with q|⟨q,-⟩
   ·exact q
   ·exfalso;apply bG;rw[<-hN];unfold jk at q;unfold fy;rw[GW] at q;rw[q];rfl
  ·rw[bF,<-hN];unfold jk fy;rw[bF]
  ·obtain⟨j,j1,j2,rfl⟩:=Sj ha;rw[hN] at j1;rw[ey,j1] at hr;injection hr with hr;subst hr;refine kx.out.2.1 j _ _ ?_ ?_
   ·rw[eE,aU ai];rfl
   ·show ae[j]?=aa (ae.getD j []);rw[eE,aU j2];rfl
 have wQ:s0=1:=kx.out.1 (by intro q;rw[q] at iO;simp at iO);subst wQ;have bD:sy=1:=kx.out.2.2 (by intro q;have ho:=kho.out;rw[q,lP] at ho;omega);subst bD;obtain⟨a,ha⟩:∃a,xs[i]?=aa a:=⟨_,aU ai⟩;have ld:=mf (H:=H) (s:=1) ha;have lo:=ev (H:=H) (l:=ag) (i:=i) (s:=1) (by have:=kho.out;omega);have Lh:(i:Int)<(ae.length:Int):=by omega
 have aly:(i:Int)<(ag.length:Int):=by have:=kho.out;omega
 have c:=hs (al ag i);cases hc:au.contains (al ag i) with
 |true=>
  rw[hc] at c;have pl:=aaV (xs:=xs) (ag:=ag) (au:=au) (k:=i);have ap:=Vm (H:=H) (x:=a) (es:=jk xs ag au i) ai ksz.out kcan.out;rw[<-aaX hc ha] at ap;obtain⟨k',s',xs',rfl⟩:∃k' s' xs',a=.list k' s' xs':=by obtain⟨r,hr⟩:∃r,ae[i]?=aa r:=⟨_,aU iO⟩;obtain⟨k',s',rfl,-⟩:=kx.out.2.1 i a r ha hr;exact⟨_,_,_,rfl⟩
  have bl:=Kx (.list k' s' xs') rfl;have hG:=Grown.one kcan.out kok.out kX.out.1.tn;have kX2:ao (Ext h (H.app tk)/\(H.app tk).boxes[h.boxes.length]?=aa [.list k0 1 (xs.map λa=>[a]),.list ky 1 (ints ag)]):=⟨hG.ext kX.out.1 (aL _),by rw[eC];exact kX.out.2⟩;have kok2:ao (cK (H.app tk)=ah):=⟨EH kok.out kcan.out⟩;have kcan2:ao (du h.tn (H.app tk) (.free H.tn)):=⟨hG.can⟩;have ksz2:ao (1=1∨((jk xs ag au (i+1))=[]/\Tok.free H.tn=.nil)):=⟨.inl rfl⟩;clear hG ha hc ksz kX kok kcan hs;unfold im at c;refine bK @My @dK @eQ @bp ?_;exact⟨ae.length - (i+1),by omega,i+1,_,1,by omega,rfl,(by first|assumption|trivial),(by first|assumption|trivial),(by first|assumption|trivial),(by first|assumption|trivial),by simp⟩
 |false=>rw[hc] at c;have eN:=aaW (xs:=xs) hc;have ksz2:ao (sz=1∨((jk xs ag au (i+1))=[]/\tk=.nil)):=⟨by rw[eN];exact ksz.out⟩;rw[<-eN] at g5;clear ha hc ksz hs eN;unfold im at c;refine bK @My @dK @eQ @bp ?_;exact⟨ae.length - (i+1),by omega,i+1,tk,sz,by omega,rfl,(by first|assumption|trivial),(by first|assumption|trivial),(by first|assumption|trivial),(by first|assumption|trivial),by simp⟩
def Tq{ag au}{i}(hi:i<ag.length)(hc:au.contains (al ag i)=ah):(eS ag au)[(fy ag au i).length]?=aa i:=by
 have e:eS ag au=fy ag au i++((bO (ag.length - i)).map (i+·)).filter λj=>au.contains (al ag j):=by unfold eS fy;rw[<-y7,<-List.range_add];congr 2;omega
 rw[e,AL (aL _),ve,(ai:ag.length - i=(ag.length - i - 1)+1),List.range_succ_eq_map,eL,Nat.add_zero,List.filter_cons,aH hc];rfl
def ae5(h:ar)(bB:cK h=ah)(x y z:AV)(ae:List (List Int))(ag au:List Int)(hx:RL x ae)(hy:IL y ag)(hz:IL z au)(cU:ae.length<=1000000)(jG:au.length<=1099511627776):
 ∃r h',W5.call 63 [.agg [x,y],z] h=aa (r,h')/\((∃e,fV ae ag au=([],aB,e)/\r=.ret (.tuple [.list .nil 0 [],.v (.bool aB),.v (.int .i64 e)]))∨∃l b,fV ae ag au=(l,ah,0)/\l.length=ae.length/\r=.ret (.tuple [.arr b 0 ae.length ae.length,.v (.bool ah),.v (.int .i64 0)])/\h'.boxes[b]?=aa (l.map im)):=by
 have bx:=tU hx hy;have b0:(h.push [x,y]).boxes[h.boxes.length]?=aa [x,y]:=bg _ _;have l25:=λK (X:Ext (h.push [x,y]) K)=>uM (X.box _ _ b0);have l22:=λK (X:Ext (h.push [x,y]) K)=>qS (X.box _ _ b0);have l23:=λK (X:Ext (h.push [x,y]) K)=>DC (X.box _ _ b0);have l0:=l25 _ (.refl _);have cc:=SB x y ae ag hx hy cU;have cp:=aaS z au hz ai;have eA:fV ae ag au=if de ae ag≠0 then ([],aB,de ae ag) else if !fU (-1) au then ([],aB,1) else match qJ ((eS ag au).map λi=>ae.getD i []) (gj (bP ae)) with|none=>([],aB,0)|some l=>(sQ ae.length (eS ag au) l,ah,0):=rfl
 have svs:fA (.agg [x,y]) (.agg [x,y])=ah:=by rw[fA,pP,pP,pP,hx.same,hy.same];rfl
 refine di rfl Tryz.func63 rfl ?_;by_cases q1:de ae ag≠0
 ·rw[aH q1] at eA;generalize de ae ag=pe at *
  have Yx:decide (pe=0)=aB:=by simp[q1]
  have ke:=ao.mk eA;clear eA q1 l25 l22 l23 hx hy hz cp b0;unfold im at cc;refine bQ @xn @bu ?_;exact⟨_,_,rfl,.inl ⟨pe,ke.out,rfl⟩⟩
 rw[aJ q1] at eA;have q1:de ae ag=0:=J6.1 q1;rw[q1] at cc;cases q2:fU (-1) au with
 |false=>rw[q2] at cp;rw[aH (by rw[q2];rfl)] at eA;have ke:=ao.mk eA;clear eA q1 q2 l25 l22 l23 hx hy hz b0;unfold im at cc;refine bQ @xn @bu ?_;exact⟨_,_,rfl,.inl ⟨1,ke.out,rfl⟩⟩
 |true=>
 rw[q2] at cp;rw[aJ (by rw[q2];simp)] at eA;obtain⟨o1,o2,o3,-⟩:=qp q1;obtain⟨n1,n2⟩:=tx q1;have wT:(gj (bP ae)).length=bP ae:=TJ n1;have Bv:∀i∈eS ag au,i<ae.length:=λi hi=>by unfold eS at hi;rw[o1];exact gf.1 (we.1 hi).1
 have bR:(eS ag au).length<=64:=by unfold eS;exact fG (GV _ _) (by rw[ad2];omega)
 have dV:∀r∈(eS ag au).map λi=>ae.getD i [],r∈ae:=λr hr=>by obtain⟨i,hi,rfl⟩:=kC.1 hr;have:=Bv i hi;rw[eE,aU this];exact iK _
 have c136:=aif x y ae ag hx hy;have c135:=avP (bP ae) n1 ai;obtain⟨_,H2,c134,X,rfl,hX,X2,Dh⟩:=aoz (h.push [x,y]) bB x y z ae ag au hx hy hz o1 ai jG;have lH2:=l25 H2 X2;obtain⟨_,H3,c133,P3⟩:=aii H2 Dh X (.list .held 1 (ints (gj (bP ae)))) _ (gj (bP ae)) hX ⟨_,_,rfl,λ_=>rfl⟩ (by rw[bF];exact bR) (λr hr=>by rw[wT];exact(o3 r (dV r hr)).1) (by rw[wT];exact n2) ai (λr hr=>(o3 r (dV r hr)).2.2.2) (λx hx=>by
  unfold gj at hx;rcases iU.1 hx with rfl|hx
  ·exact⟨aZ,by decide⟩
  ·rw[List.eq_of_mem_replicate hx];exact⟨aZ,by decide⟩)
 obtain⟨X3,P3⟩:=P3;have kl22:=ao.mk λK (X:Ext H3 K)=>l22 K (X2.trans (X3.trans X));have kl23:=ao.mk λK (X:Ext H3 K)=>l23 K (X2.trans (X3.trans X));have hs:=λn=>Yd z au n hz jG;have ll0:=l22 H3 (X2.trans X3);rw[bF] at P3;obtain⟨k0,s0,xs,rfl,-,dR,-⟩:=hx;obtain⟨ky,sy,rfl,lj⟩:=hy;have ksy:=ao.mk lj;have u23:=dY;have u22:=jf;have z3:=fR;have LC:(xs.map λa=>[a]).length=ae.length:=by rw[bF];exact dR
 have cY:=dE ag;have ko:=ao.mk (az Bv o1);clear dV Bv o3 hX X2 X3 Dh hz l25 l22 l23 b0 q1 dR lj o1;unfold im at cc c136 c135;rcases P3 with⟨e1,rfl⟩|⟨l,b,e1,e2,rfl,hb⟩
 ·rw[e1] at eA;have ke:=ao.mk eA;clear eA e1 kl22 kl23 hs;unfold im at c133;refine bQ @xn @bu ?_;refine nW [(2,3)] mA jr (λp hp=>?_) ?_
  ·simp only[nC] at hp;subst hp;refine sS (x:=.ptr (.box h.boxes.length) 0) (v:=.agg [.list k0 s0 (xs.map λa=>[a]),.list ky sy (ints ag)]) jr rfl rfl rfl jr (svs) ?_ ?_<;>(simp only[iV,gF];exact jw @xn @and_self)
  refine bC @xn ?_;exact⟨_,_,rfl,.inl ⟨0,ke.out,rfl⟩⟩
 rw[e1] at eA;have ke:=ao.mk eA;have kb:=ao.mk (az hb e2);have mk:=BH H3 ae.length ai .i64 .i64;have oS:br ae.length (im 0)=(ny ae.length (eS ag au) l (fy ag au 0).length).map im:=by unfold ny;rw[show(fy ag au 0).length=0 from rfl,gF,GR,y9]
 rw[oS] at mk;clear eA e1 oS hb;unfold im at c133 mk;refine bQ @xn @bu ?_;refine nW [(2,3)] mA jr (λp hp=>?_) ?_
 ·simp only[nC] at hp;subst hp;refine sS (x:=.ptr (.box h.boxes.length) 0) (v:=.agg [.list k0 s0 (xs.map λa=>[a]),.list ky sy (ints ag)]) jr rfl rfl rfl jr (svs) ?_ ?_<;>(simp only[iV,gF];exact jw @xn @and_self)
 refine cX @xn @dK @eQ ?_;refine bM.gen λe0 aG bE cZ cV=>?_;have f1:e0.get 1=z:=by rw[aG];exact gS
 have f2:e0.get 2=.ptr (.box h.boxes.length) 0:=by rw[aG];exact gS
 have f8:e0.get 8=.arr b 0 (eS ag au).length (eS ag au).length:=by rw[aG];exact gS
 have f11:e0.get 11=.arr H3.boxes.length 0 ae.length ae.length:=by rw[aG];exact gS
 have f12:e0.get 12=.v (.int .i64 ((fy ag au 0).length:Nat)):=by rw[aG];exact gR
 have f13:e0.get 13=.v (.int .i64 (0:Nat)):=by rw[aG];exact gR
 have fd:e0.defers=[]:=by rw[bE];exact gS
 clear aG bE cZ cV mk cc cp c136 c135 c134 c133 l0 lH2 ll0 bx svs;refine cH (λm e H=>∃i:Nat,i<=ae.length/\m=ae.length - i/\e.get 1=z/\e.get 2=.ptr (.box h.boxes.length) 0/\e.get 8=.arr b 0 (eS ag au).length (eS ag au).length/\e.get 11=.arr H3.boxes.length 0 ae.length ae.length/\e.get 12=.v (.int .i64 ((fy ag au i).length:Nat))/\e.get 13=.v (.int .i64 (i:Nat))/\e.defers=[]/\H=H3.push ((ny ae.length (eS ag au) l (fy ag au i).length).map im)) ?_ ae.length _ _ ?_;rotate_left 1
 ·exact⟨0,cD _,rfl,f1,f2,f8,f11,f12,f13,fd,rfl⟩
 clear f1 f2 f8 f11 f12 f13 fd;rintro m e H ⟨i,hi,rfl,g1,g2,g8,g11,g12,g13,hd,rfl⟩;have l0:=kl22.out (H3.push ((ny ae.length (eS ag au) l (fy ag au i).length).map im)) (.push _ _);have l1:=kl23.out (H3.push ((ny ae.length (eS ag au) l (fy ag au i).length).map im)) (.push _ _);by_cases iO:i<ae.length;rotate_left 1
 ·have gx:i=ae.length:=by omega
  subst gx;have hN:fy ag au ae.length=eS ag au:=by unfold fy eS;rw[ko.out.2]
  have kN:=ao.mk hN;clear hN;refine cX @xn @dK @eQ ?_;refine⟨_,_,rfl,.inr ⟨_,_,ke.out,?_,rfl,?_⟩⟩
  ·rw[<-M4];exact M5
  ·rw[bg,kN.out,M4]
 have bD:sy=1:=ksy.out (by intro q;have o1:=ko.out.2;rw[q,lP] at o1;omega);subst bD;have lo:=ev (H:=H3.push ((ny ae.length (eS ag au) l (fy ag au i).length).map im)) (l:=ag) (i:=i) (s:=1) (by have:=ko.out.2;omega);have Lh:(i:Int)<(ae.length:Int):=by omega
 have aly:(i:Int)<(ag.length:Int):=by have:=ko.out.2;omega
 have c:=hs (al ag i);cases hc:au.contains (al ag i) with
 |true=>
  rw[hc] at c;have nk:=Tq (show i<ag.length by have:=ko.out.2;omega) hc;have aC:=(aW.1 nk).1;have XX:=aaZ hc;have PM:(fy ag au (i+1)).length=(fy ag au i).length+1:=by rw[XX,dM];rfl
  have ix1:=rH (b:=b) (len:=(eS ag au).length) (aF:=(eS ag au).length) (k:=.i64) aC;have ix3:=rH (b:=H3.boxes.length) (len:=ae.length) (aF:=ae.length) (k:=.i64) iO;have lv:=Aa (H:=H3.push ((ny ae.length (eS ag au) l (fy ag au i).length).map im)) (bh kb.out.1) (yz (k:=(fy ag au i).length) (by rw[kb.out.2];exact aC));have sk:=Ak (H:=H3.push ((ny ae.length (eS ag au) l (fy ag au i).length).map im)) (b:=H3.boxes.length) (r:=ny ae.length (eS ag au) l (fy ag au i).length) (k:=i) (x:=al l (fy ag au i).length) (bg _ _) (by rw[M5];exact iO);rw[qs,acp nk,<-PM] at sk;have kNl:=ao.mk PM;clear nk XX PM hs kl22 kl23;unfold im at c lv sk l0 l1 lo ⊢;refine bK @xn @dK @eQ @bp ?_;exact⟨ae.length - (i+1),by omega,i+1,by omega,rfl,by trivial,by trivial,by trivial,by trivial,(by rw[kNl.out];first|rfl|simp),by simp,by trivial,by trivial⟩
 |false=>rw[hc] at c;have XW:=aaY hc;have kNn:=ao.mk XW;clear XW hs kl22 kl23;unfold im at c;refine bK @xn @dK @eQ @bp ?_;exact⟨ae.length - (i+1),by omega,i+1,by omega,rfl,by trivial,by trivial,by trivial,by trivial,by rw[kNn.out],by simp,by trivial,by rw[kNn.out]⟩
def L6:List FuncId:=L5++[17,20,22,26,41,44,45,56,63,75,80,133,134]
noncomputable def Su:FuncId->Option (List AV->ar->Option (AV × ar)):=qG W5 L6
noncomputable abbrev W6:=whole aq Gt Su
def Hy:qu Su L6:=xU
section
variable (a b n x:Int)
def ae9:∀h,W6.call 28 [im a,im b] h=aa (.ret (im (dj a b)),h):=bm (L:=L6) rfl rfl rfl (Kn a b _) rfl rfl
def Xv:∀h,W6.call 30 [im a,im n] h=aa (.ret (.tuple [im (fH a n),im (ni a)]),h):=bm (L:=L6) rfl rfl rfl (K5 a n _) rfl rfl
def Th:∀h,W6.call 94 [im x] h=aa (.ret (.v (.bool (bN x))),h):=bm (L:=L6) rfl rfl rfl (atK x _) rfl rfl
def abp:∀h,W6.call 140 [im a,im b] h=aa (.ret (.tuple [im (jL a b),im (mM a b)]),h):=bm (L:=L6) rfl rfl rfl (aqK a b _) rfl rfl
def abq:∀h,W6.call 132 [im a,im n] h=aa (.ret (.tuple [im (fH a n),im (ni a)]),h):=bm (L:=L6) rfl rfl rfl (aqR a n _) rfl rfl
def Mq:∀h,W6.call 120 [im n] h=aa (.ret (.agg (aM 1 n [] .nil 0 [])),h):=bm (L:=L6) rfl rfl rfl (aq4 n _) rfl rfl
def an8:∀h,W6.call 59 [im n] h=aa (.ret (.v (.bool (cA n))),h):=bm (L:=L6) rfl rfl rfl (an7 n _) rfl rfl
end
def Y6:∀l:List Pr,fj (eY l)=eY l
 | []=>rfl
 |p::l=>by show fj (cq p::eY l)=_;rw[fj,Y6 l];rfl
def Pj:∀l:List Pr,ie 0 0 0 (eY l)=ah
 | []=>rfl
 |p::l=>by show ie 0 0 0 (cq p::eY l)=_;rw[ie,Pj l];rfl
def Y7:∀l:List (Int × Int),fj (jB l)=jB l
 | []=>rfl
 |p::l=>by show fj (mg p::jB l)=_;rw[fj,Y7 l];rfl
def Pk:∀l:List (Int × Int),ie 0 0 0 (jB l)=ah
 | []=>rfl
 |p::l=>by show ie 0 0 0 (mg p::jB l)=_;rw[ie,Pk l];rfl
def Y8:∀l:List Int,fj (l.map Nl)=l.map Nl
 | []=>rfl
 |p::l=>by rw[eL,fj,Y8 l];rfl
def WX:∀l:List Int,ie 0 0 0 (l.map Nl)=ah
 | []=>rfl
 |p::l=>by rw[eL,ie,WX l];rfl
def PL.hold{x}{l}(h:PL x l):PL (aD x) l/\aK 0 0 0 (aD x)=ah:=by obtain⟨k,s,rfl,hs⟩:=h;rw[aD,Y6];exact⟨⟨bX k,s,rfl,hs⟩,by rw[aK,fx,Pj];rfl⟩
def SL.hold{x}{l}(h:SL x l):SL (aD x) l/\aK 0 0 0 (aD x)=ah:=by obtain⟨k,s,rfl,hs⟩:=h;rw[aD,Y7];exact⟨⟨bX k,s,rfl,hs⟩,by rw[aK,fx,Pk];rfl⟩
def UL.hold{x}{l}(h:UL x l):UL (aD x) l/\aK 0 0 0 (aD x)=ah:=by obtain⟨⟨k,s,rfl,hs⟩,hr⟩:=h;rw[aD,Y8];exact⟨⟨⟨bX k,s,rfl,hs⟩,hr⟩,by rw[aK,fx,WX];rfl⟩
def BL.hold{x}{b}(h:BL x b):BL (aD x) b/\aK 0 0 0 (aD x)=ah:=by obtain⟨k,s,rfl,hs⟩:=h;rw[aD,qO];exact⟨⟨bX k,s,rfl,hs⟩,by rw[aK,fx,kL];rfl⟩
def IP{X Y C}{ae}{ag aj}(ep)(hx:RL X ae)(hy:IL Y ag)(hc:IL C aj):
 ∃X' Y' C',aD (.agg (aN ep X Y C))=.agg (aN ep X' Y' C')/\RL X' ae/\IL Y' ag/\IL C' aj/\aK 0 0 0 (.agg (aN ep X' Y' C'))=ah:=by
 obtain⟨h1,h2⟩:=hx.fD;obtain⟨h3,h4⟩:=hy.hold;obtain⟨h5,h6⟩:=hc.hold;exact⟨_,_,_,rfl,h1,h3,h5,by simp[aN,aK,aR,h2,h4,h6]⟩
section
variable (ep:Int) (X Y C T L:AV) (ae:List (List Int)) (ag aj:List Int) (text:List UInt8) (l:List Pr)
 (hx:RL X ae) (hy:IL Y ag) (hc:IL C aj) (ht:BL T text) (hp:PL L l) (db:aj.length<=1000000) (dG:l.length<=1000000)
include hx hy hc ht hp db dG
def agt:(cP ae ag ep aj text l≠0/\∀h,W6.call 17 [.agg (aN ep X Y C),T,L] h=aa (.ret (.tuple [.list .nil 0 [],im 0,im 0,im (cP ae ag ep aj text l)]),h))∨
 (cP ae ag ep aj text l=0/\∃Z,IL Z (wm (al aj 0) text l)/\∀h,W6.call 17 [.agg (aN ep X Y C),T,L] h=aa (.ret (.tuple [Z,im ((iQ (al aj 0) text l:Nat):Int),im ((ek (al aj 0) text l:Nat):Int),im 0]),h)):=by
 obtain⟨X',Y',C',e1,h1,h2,h3,h4⟩:=IP ep hx hy hc;obtain⟨h5,h6⟩:=ht.hold;obtain⟨h7,h8⟩:=hp.hold;have ea:bZ [.agg (aN ep X Y C),T,L]=[.agg (aN ep X' Y' C'),aD T,aD L]:=by rw[bZ,bZ,bZ,bZ,e1]
 have ef:aR 0 0 0 [.agg (aN ep X' Y' C'),aD T,aD L]=ah:=by rw[aR,aR,aR,aR,h4,h6,h8];rfl
 obtain⟨r,h',c,⟨q,rfl⟩|⟨q,Z,rfl,hZ⟩⟩:=agr ⟨[],[],0,[]⟩ vJ ep X' Y' C' (aD T) (aD L) ae ag aj text l h1 h2 h3 h5 h7 db dG
 ·exact .inl ⟨q,bm (L:=L6) rfl ea ef c rfl rfl⟩
 ·obtain⟨k,s,rfl,hs⟩:=hZ;refine .inr ⟨q,.list (bX k) s (ints _),⟨_,_,rfl,hs⟩,bm (L:=L6) rfl ea ef c ?_ ?_⟩
  ·rfl
  ·rw[aK,aR,aK,fx,nL];rfl
def anD(S:AV)(s:List (Int × Int))(aA d f:Int)(hs:SL S s)(nR:s.length<=1000000):
 ∀h,W6.call 20 [.agg (aN ep X Y C),T,L,im aA,S,im d,im f] h=aa (.ret (.tuple [im (vL ae ag ep aj text l aA s d f).1,im (vL ae ag ep aj text l aA s d f).2]),h):=by
 obtain⟨X',Y',C',e1,h1,h2,h3,h4⟩:=IP ep hx hy hc;obtain⟨h5,h6⟩:=ht.hold;obtain⟨h7,h8⟩:=hp.hold;obtain⟨h9,ru⟩:=hs.hold;obtain⟨r,h',c,rfl⟩:=anC ⟨[],[],0,[]⟩ vJ ep X' Y' C' (aD T) (aD L) (aD S) ae ag aj text l s aA d f h1 h2 h3 h5 h7 h9 db dG nR;exact bm (L:=L6) rfl (by simp only[bZ];rw[e1];rfl) (by simp only[aR];rw[h4,h6,h8,ru];rfl) c rfl rfl
def ajR(aA z:Int):
 ∀h,W6.call 22 [.agg (aN ep X Y C),T,L,im aA,im z] h=aa (.ret (.tuple [.v (.bool (ki ae ag ep aj text l aA z).1),im (ki ae ag ep aj text l aA z).2]),h):=by
 obtain⟨X',Y',C',e1,h1,h2,h3,h4⟩:=IP ep hx hy hc;obtain⟨h5,h6⟩:=ht.hold;obtain⟨h7,h8⟩:=hp.hold;obtain⟨r,h',c,rfl⟩:=ajO ⟨[],[],0,[]⟩ vJ ep X' Y' C' (aD T) (aD L) ae ag aj text l aA z h1 h2 h3 h5 h7 db dG;exact bm (L:=L6) rfl (by simp only[bZ];rw[e1];rfl) (by simp only[aR];rw[h4,h6,h8];rfl) c rfl rfl
end
def awt(key e s)(T)(text)(ht:BL T text)(hl:text.length<=1000000):
 ∀h,W6.call 26 [im key,T,.agg [im e,im s]] h=aa (.ret (.v (.bool (sW key text e s))),h):=by
 obtain⟨⟨k,z,e1,hs⟩,h2⟩:=ht.hold;obtain⟨r,h',c,rfl,-⟩:=aws ⟨[],[],0,[]⟩ key e s k z text hs hl;exact bm (L:=L6) rfl (by simp only[bZ];rw[e1];rfl) (by rw[<-e1];simp only[aR];rw[h2];rfl) c rfl rfl
def auz(x y)(ae)(ag)(hx:RL x ae)(hy:IL y ag):∀h,W6.call 75 [.agg [x,y]] h=aa (.ret (.v (.bool (yN ae ag))),h):=by obtain⟨h1,h2,h3,h4⟩:=vM hx hy;obtain⟨r,h',c,rfl⟩:=auA ⟨[],[],0,[]⟩ (aD x) (aD y) ae ag h1 h2;exact bm (L:=L6) (b7:=[.agg [aD x,aD y]]) rfl rfl (by simp[aR,aK,h3,h4]) c rfl rfl
def ai0(x y z)(ae)(ag cJ)(cC)(hx:RL x ae)(hy:IL y ag)(hz:IL z cJ)(hl:cJ.length<=1000)(mP:ae.length<=1000000):
 (uj ae ag cC cJ≠0/\∀h,W6.call 44 [.agg [x,y],im cC,z] h=aa (.ret (.tuple [.list .nil 0 [],.list .nil 0 [],im (uj ae ag cC cJ)]),h))∨
 (uj ae ag cC cJ=0/\∃U V,SL U (qa ae (cC::cJ))/\IL V (cO (cC::cJ))/\∀h,W6.call 44 [.agg [x,y],im cC,z] h=aa (.ret (.tuple [U,V,im 0]),h)):=by
 obtain⟨h1,h2,h3,h4⟩:=vM hx hy;obtain⟨h5,h6⟩:=hz.hold;have ef:aR 0 0 0 [.agg [aD x,aD y],im cC,aD z]=ah:=by simp[aR,aK,h3,h4,h6,im]
 obtain⟨r,h',c,⟨q,rfl⟩|⟨q,t1,s1,t2,s2,rfl,g1,g2⟩⟩:=aiZ ⟨[],[],0,[]⟩ vJ (aD x) (aD y) (aD z) ae ag cJ cC h1 h2 h5 hl mP
 ·exact .inl ⟨q,bm (L:=L6) (b7:=[.agg [aD x,aD y],im cC,aD z]) rfl rfl ef c rfl rfl⟩
 ·refine .inr ⟨q,.list (bX t1) s1 (jB _),.list (bX t2) s2 (ints _),⟨_,_,rfl,g1⟩,⟨_,_,rfl,λ_=>g2⟩,bm (L:=L6) (b7:=[.agg [aD x,aD y],im cC,aD z]) rfl rfl ef c ?_ ?_⟩
  ·rfl
  ·rw[aK,aR,aK,fx,Pk,aR,aK,fx,nL];rfl
def Wn(x y)(ae)(ag)(hx:RL x ae)(hy:IL y ag):∀h,W6.call 42 [.agg [x,y]] h=aa (.ret (im (bP ae:Nat)),h):=by obtain⟨h1,h2,h3,h4⟩:=vM hx hy;exact bm (L:=L6) (b7:=[.agg [aD x,aD y]]) rfl rfl (by simp[aR,aK,h3,h4]) (Wm (aD x) (aD y) ae ag h1 h2 _) rfl rfl
def aaF(x)(l)(hx:IL x l)(hl:l.length<=9223372036854775807):∀h,W6.call 92 [x] h=aa (.ret (.v (.bool (l.all cA))),h):=by obtain⟨h1,h2⟩:=hx.hold;exact bm (L:=L6) (b7:=[aD x]) rfl rfl (by simp[aR,h2]) (aoa (aD x) l h1 hl _) rfl rfl
def ao0(x)(l)(hx:IL x l)(hl:l.length<=9223372036854775807):∀h,W6.call 93 [x] h=aa (.ret (.v (.bool (fU (-1) l))),h):=by obtain⟨h1,h2⟩:=hx.hold;exact bm (L:=L6) (b7:=[aD x]) rfl rfl (by simp[aR,h2]) (aaS (aD x) l h1 hl _) rfl rfl
def ae4(x y z)(ae)(ag au)(hx:RL x ae)(hy:IL y ag)(hz:IL z au)(jG:au.length<=1099511627776):
 (∃e,fV ae ag au=([],aB,e)/\∀h,W6.call 76 [.agg [x,y],z] h=aa (.ret (.tuple [.list .nil 0 [],.v (.bool aB),im e]),h))∨
 ∃l,fV ae ag au=(l,ah,0)/\l.length=ae.length/\∃Z,IL Z l/\∀h,W6.call 76 [.agg [x,y],z] h=aa (.ret (.tuple [Z,.v (.bool ah),im 0]),h):=by
 obtain⟨h1,h2,h3,h4⟩:=vM hx hy;obtain⟨h5,h6⟩:=hz.hold;have ef:aR 0 0 0 [.agg [aD x,aD y],aD z]=ah:=by simp[aR,aK,h3,h4,h6]
 obtain⟨k,s,xs,e1,-⟩:=h1.form;rw[e1] at h1;rcases U9 k s xs (aD y) (aD z) ae ag au h1 h2 h5 jG with⟨e,q,c⟩|⟨l,q,ql,c⟩
 ·rw[<-e1] at c;exact .inl ⟨e,q,bm (L:=L6) (b7:=[.agg [aD x,aD y],aD z]) rfl rfl ef (c _) rfl rfl⟩
 ·rw[<-e1] at c;refine .inr ⟨l,q,ql,.list .held 1 (ints l),⟨_,_,rfl,λ_=>rfl⟩,bm (L:=L6) (b7:=[.agg [aD x,aD y],aD z]) rfl rfl ef (c _) ?_ ?_⟩
  ·rfl
  ·rw[aK,aR,aK,nL];rfl
def fD(k):bX (bX k)=bX k:=by cases k<;>rfl
def arM{l}{ae}(hr:oL l ae)(hh:fj ae=ae)(k)(hm:ae.length<=1000000):∀h,W2.call 119 [.list k 4 ae] h=aa (.ret (.agg (aM 3 0 [] (bX k) 4 ae)),h):=by
 have hv:dm (.list l) (aM 3 0 [] k 4 ae):=.list l k 4 ae hr.1 (λ_=>rfl) hm hr.2;obtain⟨h1,h2⟩:=dm.hold _ _ hv;have e:bZ (aM 3 0 [] k 4 ae)=aM 3 0 [] (bX k) 4 (fj ae):=rfl;rw[e,hh] at h1 h2;refine bm (L:=L2) (b7:=[.list (bX k) 4 ae]) rfl ?_ ?_ (arQ _ _ _ _) ?_ ?_
 ·simp only[bZ,aD,hh]
 ·unfold aM at h2;simp only[aR,bI] at h2 ⊢;exact⟨h2.2.2.2.1,aY⟩
 ·show AV.agg [im 3,im 0,sv [],.list (bX (bX k)) 4 ae]=_;rw[fD];rfl
 ·rw[aK];exact h2
def ati(s):∀h,W3.call 121 [sv s] h=aa (.ret (.agg (aM 2 0 s .nil 0 [])),h):=bm (L:=L3) rfl rfl rfl (ath s _) rfl rfl
def aqU(bA b)(k)(hb:b.length<=1099511610000)(ht:bA.length<=1099511610000):∀h,W3.call 123 [.v (.string (bs bA)),.list k 1 (bf b)] h=aa (.ret (im (nj (gO bA b):Nat)),h):=
 bm (L:=L3) (b7:=[.v (.string (bs bA)),.list (bX k) 1 (bf b)]) rfl (by rw[bZ,bZ,aD.eq_1,qO];rfl) (by simp[aR,aK,fx,kL]) (aqT bA b _ hb ht _) rfl rfl
def aqr{v}{r}(hv:dm v r)(hd:gQ v<=16)(hl:(dU v).length<=1099511600000):∃t,∀h,W3.call 118 [.agg r] h=aa (.ret (.tuple [.list t 1 (bf (dU v)),.v (.int .i64 0)]),h):=by obtain⟨h1,h2⟩:=dm.hold v r hv;obtain⟨t,c⟩:=aqq h1 hd hl;exact⟨bX t,bm (L:=L3) (b7:=[.agg (bZ r)]) rfl rfl (by simpa [aR,aK] using h2) (c _) rfl (by simp[aK,aR,fx,kL])⟩
def arN{l}{ae}(hr:oL l ae)(hh:fj ae=ae)(k)(hm:ae.length<=1000000):∀h,W3.call 119 [.list k 4 ae] h=aa (.ret (.agg (aM 3 0 [] (bX k) 4 ae)),h):=by
 have hv:dm (.list l) (aM 3 0 [] k 4 ae):=.list l k 4 ae hr.1 (λ_=>rfl) hm hr.2;obtain⟨h1,h2⟩:=dm.hold _ _ hv;have e:bZ (aM 3 0 [] k 4 ae)=aM 3 0 [] (bX k) 4 (fj ae):=rfl;rw[e,hh] at h1 h2;refine bm (L:=L3) (b7:=[.list (bX k) 4 ae]) rfl ?_ ?_ (arM hr hh (bX k) hm _) ?_ ?_
 ·simp only[bZ,aD,hh]
 ·unfold aM at h2;simp only[aR,bI] at h2 ⊢;exact⟨h2.2.2.2.1,aY⟩
 ·show AV.agg [im 3,im 0,sv [],.list (bX (bX (bX k))) 4 ae]=_;rw[fD,fD];rfl
 ·rw[aK];exact h2
def atj(s):∀h,W4.call 121 [sv s] h=aa (.ret (.agg (aM 2 0 s .nil 0 [])),h):=bm (L:=L4) rfl rfl rfl (ati s _) rfl rfl
def aqV(bA b)(k)(hb:b.length<=1099511610000)(ht:bA.length<=1099511610000):∀h,W4.call 123 [.v (.string (bs bA)),.list k 1 (bf b)] h=aa (.ret (im (nj (gO bA b):Nat)),h):=
 bm (L:=L4) (b7:=[.v (.string (bs bA)),.list (bX k) 1 (bf b)]) rfl (by rw[bZ,bZ,aD.eq_1,qO];rfl) (by simp[aR,aK,fx,kL]) (aqU bA b _ hb ht _) rfl rfl
def aqs{v}{r}(hv:dm v r)(hd:gQ v<=16)(hl:(dU v).length<=1099511600000):∃t,∀h,W4.call 118 [.agg r] h=aa (.ret (.tuple [.list t 1 (bf (dU v)),.v (.int .i64 0)]),h):=by obtain⟨h1,h2⟩:=dm.hold v r hv;obtain⟨t,c⟩:=aqr h1 hd hl;exact⟨bX t,bm (L:=L4) (b7:=[.agg (bZ r)]) rfl rfl (by simpa [aR,aK] using h2) (c _) rfl (by simp[aK,aR,fx,kL])⟩
def arO{l}{ae}(hr:oL l ae)(hh:fj ae=ae)(k)(hm:ae.length<=1000000):∀h,W4.call 119 [.list k 4 ae] h=aa (.ret (.agg (aM 3 0 [] (bX k) 4 ae)),h):=by
 have hv:dm (.list l) (aM 3 0 [] k 4 ae):=.list l k 4 ae hr.1 (λ_=>rfl) hm hr.2;obtain⟨h1,h2⟩:=dm.hold _ _ hv;have e:bZ (aM 3 0 [] k 4 ae)=aM 3 0 [] (bX k) 4 (fj ae):=rfl;rw[e,hh] at h1 h2;refine bm (L:=L4) (b7:=[.list (bX k) 4 ae]) rfl ?_ ?_ (arN hr hh (bX k) hm _) ?_ ?_
 ·simp only[bZ,aD,hh]
 ·unfold aM at h2;simp only[aR,bI] at h2 ⊢;exact⟨h2.2.2.2.1,aY⟩
 ·show AV.agg [im 3,im 0,sv [],.list (bX (bX (bX k))) 4 ae]=_;rw[fD,fD];rfl
 ·rw[aK];exact h2
def atk(s):∀h,W5.call 121 [sv s] h=aa (.ret (.agg (aM 2 0 s .nil 0 [])),h):=ig (L:=L5) rfl rfl rfl (atj s _) rfl rfl
def aqW(bA b)(k)(hb:b.length<=1099511610000)(ht:bA.length<=1099511610000):∀h,W5.call 123 [.v (.string (bs bA)),.list k 1 (bf b)] h=aa (.ret (im (nj (gO bA b):Nat)),h):=
 ig (L:=L5) (b7:=[.v (.string (bs bA)),.list (bX k) 1 (bf b)]) rfl (by rw[bZ,bZ,aD.eq_1,qO];rfl) (by simp[aR,aK,fx,kL]) (aqV bA b _ hb ht _) rfl rfl
def aqt{v}{r}(hv:dm v r)(hd:gQ v<=16)(hl:(dU v).length<=1099511600000):∃t,∀h,W5.call 118 [.agg r] h=aa (.ret (.tuple [.list t 1 (bf (dU v)),.v (.int .i64 0)]),h):=by obtain⟨h1,h2⟩:=dm.hold v r hv;obtain⟨t,c⟩:=aqs h1 hd hl;exact⟨bX t,ig (L:=L5) (b7:=[.agg (bZ r)]) rfl rfl (by simpa [aR,aK] using h2) (c _) rfl (by simp[aK,aR,fx,kL])⟩
def arP{l}{ae}(hr:oL l ae)(hh:fj ae=ae)(k)(hm:ae.length<=1000000):∀h,W5.call 119 [.list k 4 ae] h=aa (.ret (.agg (aM 3 0 [] (bX k) 4 ae)),h):=by
 have hv:dm (.list l) (aM 3 0 [] k 4 ae):=.list l k 4 ae hr.1 (λ_=>rfl) hm hr.2;obtain⟨h1,h2⟩:=dm.hold _ _ hv;have e:bZ (aM 3 0 [] k 4 ae)=aM 3 0 [] (bX k) 4 (fj ae):=rfl;rw[e,hh] at h1 h2;refine ig (L:=L5) (b7:=[.list (bX k) 4 ae]) rfl ?_ ?_ (arO hr hh (bX k) hm _) ?_ ?_
 ·simp only[bZ,aD,hh]
 ·unfold aM at h2;simp only[aR,bI] at h2 ⊢;exact⟨h2.2.2.2.1,aY⟩
 ·show AV.agg [im 3,im 0,sv [],.list (bX (bX (bX k))) 4 ae]=_;rw[fD,fD];rfl
 ·rw[aK];exact h2
def ab1(s):∀h,W6.call 121 [sv s] h=aa (.ret (.agg (aM 2 0 s .nil 0 [])),h):=bm (L:=L6) rfl rfl rfl (atk s _) rfl rfl
def abr(bA b)(k)(hb:b.length<=1099511610000)(ht:bA.length<=1099511610000):∀h,W6.call 123 [.v (.string (bs bA)),.list k 1 (bf b)] h=aa (.ret (im (nj (gO bA b):Nat)),h):=
 bm (L:=L6) (b7:=[.v (.string (bs bA)),.list (bX k) 1 (bf b)]) rfl (by rw[bZ,bZ,aD.eq_1,qO];rfl) (by simp[aR,aK,fx,kL]) (aqW bA b _ hb ht _) rfl rfl
def abn{v}{r}(hv:dm v r)(hd:gQ v<=16)(hl:(dU v).length<=1099511600000):∃t,∀h,W6.call 118 [.agg r] h=aa (.ret (.tuple [.list t 1 (bf (dU v)),.v (.int .i64 0)]),h):=by obtain⟨h1,h2⟩:=dm.hold v r hv;obtain⟨t,c⟩:=aqt h1 hd hl;exact⟨bX t,bm (L:=L6) (b7:=[.agg (bZ r)]) rfl rfl (by simpa [aR,aK] using h2) (c _) rfl (by simp[aK,aR,fx,kL])⟩
def abt{l}{ae}(hr:oL l ae)(hh:fj ae=ae)(k)(hm:ae.length<=1000000):∀h,W6.call 119 [.list k 4 ae] h=aa (.ret (.agg (aM 3 0 [] (bX k) 4 ae)),h):=by
 have hv:dm (.list l) (aM 3 0 [] k 4 ae):=.list l k 4 ae hr.1 (λ_=>rfl) hm hr.2;obtain⟨h1,h2⟩:=dm.hold _ _ hv;have e:bZ (aM 3 0 [] k 4 ae)=aM 3 0 [] (bX k) 4 (fj ae):=rfl;rw[e,hh] at h1 h2;refine bm (L:=L6) (b7:=[.list (bX k) 4 ae]) rfl ?_ ?_ (arP hr hh (bX k) hm _) ?_ ?_
 ·simp only[bZ,aD,hh]
 ·unfold aM at h2;simp only[aR,bI] at h2 ⊢;exact⟨h2.2.2.2.1,aY⟩
 ·show AV.agg [im 3,im 0,sv [],.list (bX (bX (bX k))) 4 ae]=_;rw[fD,fD];rfl
 ·rw[aK];exact h2
end Go.Proofs.YtnfciiiohoafaaaGreatDoor
end
