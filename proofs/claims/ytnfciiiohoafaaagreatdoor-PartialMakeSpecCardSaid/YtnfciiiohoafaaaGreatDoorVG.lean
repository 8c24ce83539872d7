/-
  The engine, part 53: a guarded load behind an operation that acts.
-/
import Derived.Test.YtnfciiiohoafaaaGreatDoorVF
import Derived.Test.YtnfciiiohoafaaaGreatDoorVB
open True renaming intro->aX
open Option renaming none->ar,some->aa,map_some->eW
open Bool renaming true->ai,and_eq_true->bL,false->az,not_eq_true->abw,not_eq_false'->abv,true_and->oc
open List renaming mem_cons->iq,getElem?_eq_getElem->aT,drop_eq_getElem_cons->xP,getElem?_eq_some_iff->aV,not_mem_nil->uM,length_map->bE,length_take->fj,map_append->mT,take_succ_cons->gl,take_zero->fm,take_length->fI,drop_of_length_le->pZ,all_eq_true->ej,getElem_mem->iG,map_eq_nil_iff->FL,map_cons->eK,mem_of_getElem?->dn,getElem?_map->ev,range->bR,range_succ->nH,filter_append->zB,length_filter_le->FK,mem_map->ju,mem_range->gB,mem_filter->uL,length_range->ab6,mem_singleton->lu,append_assoc->sR,getElem?_append_right->zC,foldl_append->oM,length_pos_iff->Ms,mem_cons_self->gj,pairwise_cons->FN,mem_cons_of_mem->fN,length_set->mS,getElem?_set->mA,ext_getElem?->qL,getD_eq_getElem?_getD->dS,length_nil->jY,length_append->dE,length_cons->jn,getElem?_range->FI,append_nil->jX,getElem?_drop->oN,getElem?_of_mem->tT,replicate->bg,foldl_nil->FG,map_replicate->xQ
open Go.Proofs.Tryz renaming prog->aq,func127->acM,underlying36->Dl,underlying22->ir,underlying23->dN
open Nat renaming le_of_ble_eq_true->jZ,le_refl->aM,zero_le->cG,le_trans->fJ,beq_refl->acs,lt_or_ge->dV,sub_self->tU,mul_le_mul->p7,reduceEqDiff->aZ,zero_add->po
open And renaming intro->av
open Decidable renaming not_not->IM
open Int renaming toNat_natCast->dK
open Array renaming getElem?_eq_none->xE
open Prod renaming fst->rM
set_option maxHeartbeats 64000000
set_option maxRecDepth 100000
set_option linter.unusedSimpArgs false
set_option linter.unusedVariables false
set_option linter.constructorNameAsVariable false
set_option linter.defProp false
section
namespace Go.Proofs.YtnfciiiohoafaaaGreatDoor
open Go.AE Go.NT
def kQ(l:List Pr):List Int:=l.map Pr.au
def R2(ae:List (List Int))(ag:List Int)(ep:Int)(X Y C T L:AV)(aj:List Int)(text:List UInt8)(l:List Pr)(h:ao)(r:eX)(h':ao):Prop:=
 Ext h h'/\((dA ae ag ep aj text l≠0/\r=.ret (.tuple [.v (.pointer ar),.v (.int .i64 (dA ae ag ep aj text l))]))∨
  (dA ae ag ep aj text l=0/\∃c Wt,r=.ret (.tuple [.ptr (.box c) 0,.v (.int .i64 0)])/\IL Wt (eF ae ag l)/\uP h' c ep X Y C T L Wt ((gV (ak aj 0) text l:Nat):Int) ((eZ (ak aj 0) text l:Nat):Int) aj text l))
def yV{l}:∀{cW:Int},fQ cW l=ai->∀p∈l,cW<p.au/\p.au<64/\0<=p.no/\p.no<4096/\bN p.d=ai/\bN p.e=ai:=by
 induction l with
 |nil=>intro _ _ p hp;simp at hp|cons q l ih=>
  intro cW h p hp;rw[NT.fQ] at h;simp only[bL,decide_eq_true_eq] at h;obtain⟨⟨⟨⟨⟨⟨h1,h2⟩,h3⟩,h4⟩,h5⟩,h6⟩,h7⟩:=h;rcases iq.1 hp with rfl|hp
  ·exact⟨h1,h2,h3,h4,h5,h6⟩
  ·obtain⟨k1,k2,k3,k4,k5,k6⟩:=ih h7 p hp;exact⟨ah,k2,k3,k4,k5,k6⟩
def Cr{c0}{text}{l}{p}(hd:bN p.d=ai)(he:bN p.e=ai):elem (iL c0 text l p)=ai:=by unfold iL eY;rw[HJ];exact Gg (Bo hd) (vI (Bo he) _)
def YY{c0}{text}{l}{cW:Int}(h:fQ cW l=ai):elem (gV c0 text l)=ai:=
 AG (λp hp=>Cr (yV h p hp).2.2.2.2.1 (yV h p hp).2.2.2.2.2) zR
def Nb(h:ao)(bJ:cO h=ai)(ep:Int)(X Y C T L:AV)(ae:List (List Int))(ag aj:List Int)(text:List UInt8)(l:List Pr)
 (hx:RL X ae) (hy:IL Y ag) (hc:IL C aj) (ht:BL T text) (hp:PL L l) (dF:aj.length<=1000000) (eO:l.length<=1000000):
 ∃r h',W5.call 48 [.agg (aP ep X Y C),T,L] h=aa (r,h')/\R2 ae ag ep X Y C T L aj text l h r h':=by
 have bx:=vv (ep:=ep) hx hy hc;obtain⟨_,h2,c2,rfl,rfl⟩:=aoD (h.push (aP ep X Y C)) ep X Y C ae ag aj hx hy hc dF;have c1:=Uj X Y ae ag hx hy;have b0:=bh h (aP ep X Y C);have l1:aI aq Gt (h.push (aP ep X Y C)) 25 (.ptr (.box h.boxes.length) 1)=aa (.agg [X,Y]):=by rw[iC sW (by kernel_rfl:dC aq 25=aa 2) b0 (jZ rfl)];rfl
 have l2:aI aq Gt (h.push (aP ep X Y C)) 27 (.ptr (.box h.boxes.length) 0)=aa (.agg (aP ep X Y C)):=by rw[iC aw (by kernel_rfl:dC aq 27=aa 4) b0 (jZ rfl)];rfl
 have l3:aI aq Gt ((h.push (aP ep X Y C)).push (aP ep X Y C)) 27 (.ptr (.box h.boxes.length) 0)=aa (.agg (aP ep X Y C)):=by rw[iC aw (by kernel_rfl:dC aq 27=aa 4) (bA b0) (jZ rfl)];rfl
 have ln1:=ht.dW;have ln2:=hp.dW;have lst:=akY;have bw:mW aq 98 [(0,.agg (aP ep X Y C)),(1,T),(2,L),(4,.agg (aJ 3 0 [] .nil 0 []))]=aa (.agg (il ep X Y C T L (.list .nil 0 []) (.list .nil 0 []) 0 0))/\(AV.agg (il ep X Y C T L (.list .nil 0 []) (.list .nil 0 []) 0 0)).cD=aa (il ep X Y C T L (.list .nil 0 []) (.list .nil 0 []) 0 0):=by obtain⟨kx,sx,xs,rfl,-⟩:=hx.form;obtain⟨ky,sy,rfl,-⟩:=hy;obtain⟨kc,sc,rfl,-⟩:=hc;obtain⟨kt,st,rfl,-⟩:=ht;obtain⟨kp,sp,rfl,-⟩:=hp;exact⟨aeb ep kx ky kc kt kp sx sy sc st sp _ _ _ _ _,rfl⟩
 obtain⟨bw1,bw2⟩:=bw;have kf:=al.mk (av hx (av hy (av hc (av ht hp))));have B0:BI h (((h.push (aP ep X Y C)).push (aP ep X Y C)).push (il ep X Y C T L (.list .nil 0 []) (.list .nil 0 []) 0 0)) ep X Y C T L h.boxes.length ((h.push (aP ep X Y C)).push (aP ep X Y C)).boxes.length (.list .nil 0 []) [] .nil:=
  ⟨((Ext.push _ _).trans (.push _ _)).trans (.push _ _),bJ,.inl rfl,bA (bA b0),bh _ _,.inl ⟨rfl,rfl⟩,aM _,by rw[cX,cX];omega⟩
 have X1:=al.mk (Ext.push h (aP ep X Y C));have X2:=al.mk ((Ext.push h (aP ep X Y C)).trans (Ext.push _ (aP ep X Y C)));have kE1:al (de ae ag≠0->dA ae ag ep aj text l=de ae ag):=⟨λq=>by unfold dA;rw[aG q]⟩;have kE2:al (de ae ag=0->kU ae ep aj=az->dA ae ag ep aj text l=380):=⟨λq1 q2=>by unfold dA;rw[aH (by simp[q1]),aG];unfold kU at q2;rw[q2];rfl⟩;have kE3:al (de ae ag=0->kU ae ep aj=ai->65536<text.length->dA ae ag ep aj text l=2):=⟨λq1 q2 q3=>by unfold dA;unfold kU at q2;rw[aH (by simp[q1]),aH (by rw[q2];decide),aG q3]⟩;have kE4:al (de ae ag=0->kU ae ep aj=ai->¬65536<text.length->64<l.length->dA ae ag ep aj text l=420):=⟨λq1 q2 q3 q4=>by unfold dA;unfold kU at q2;rw[aH (by simp[q1]),aH (by rw[q2];decide),aH q3,aG q4]⟩;have kE5:al (de ae ag=0->kU ae ep aj=ai->¬65536<text.length->¬64<l.length->fQ (-1) l=az->dA ae ag ep aj text l=420):=⟨λq1 q2 q3 q4 q5=>by unfold dA;unfold kU at q2;rw[aH (by simp[q1]),aH (by rw[q2];decide),aH q3,aH q4,aG (by rw[q5];rfl)]⟩;have kE6:al (de ae ag=0->kU ae ep aj=ai->¬65536<text.length->¬64<l.length->fQ (-1) l=ai->∀y o e,gC ae ag (kQ l)=(y,o,e)->dA ae ag ep aj text l=if e≠0∨o=az∨l.length=0 then 420 else 0):=⟨λq1 q2 q3 q4 q5 y o e q6=>by unfold dA;unfold kU at q2;rw[aH (by simp[q1]),aH (by rw[q2];decide),aH q3,aH q4,aH (by rw[q5];decide)];unfold kQ at q6;rw[q6]⟩;have kW:al (∀y o e,gC ae ag (kQ l)=(y,o,e)->eF ae ag l=y):=⟨λy o e q=>by unfold eF;unfold kQ at q;rw[q]⟩;have kR:al (kU ae ep aj=ai->aj.length=b9 ae/\aj.all bN=ai):=⟨λq=>by unfold kU at q;simp only[bL,decide_eq_true_eq] at q;exact⟨q.1.2,q.2⟩⟩;unfold R2;generalize dA ae ag ep aj text l=res at *
 clear hx hy hc ht hp b0;refine da rfl Tryz.func48 rfl ?_;by_cases h0:de ae ag=0;rotate_left 1
 ·have kr:=al.mk (av h0 (kE1.out h0));clear kE1 kE2 kE3 kE4 kE5 kE6 c2 bw1 bw2 B0 lst l3;generalize de ae ag=q at *
  unfold im at *
  refine cR @nZ @bB @eD ?_;exact⟨_,_,rfl,X1.out,.inl ⟨by rw[kr.out.2];exact kr.out.1,by rw[kr.out.2]⟩⟩
 rw[h0] at c1;cases h1:kU ae ep aj with
 |false=>
  have kr:=al.mk (kE2.out h0 h1);rw[h1] at c2;clear kE1 kE2 kE3 kE4 kE5 kE6 bw1 bw2 B0 lst l3 h0 h1;unfold im at *
  refine cR @nZ @bB @eD ?_;exact⟨_,_,rfl,X2.out,.inl ⟨by rw[kr.out];decide,by rw[kr.out]⟩⟩
 |true=>
 rw[h1] at c2;by_cases h3:65536<text.length
 ·have kr:=al.mk (kE3.out h0 h1 h3);have hI:(65536:Int)<(text.length:Int):=by omega
  clear kE1 kE2 kE3 kE4 kE5 kE6 bw1 bw2 B0 lst l3 h0 h1 h3;unfold im at *
  refine cR @nZ @bB @eD ?_;exact⟨_,_,rfl,X2.out,.inl ⟨by rw[kr.out];decide,by rw[kr.out]⟩⟩
 have hI:¬(65536:Int)<(text.length:Int):=by omega
 by_cases h4:64<l.length
 ·have kr:=al.mk (kE4.out h0 h1 h3 h4);have Gs:(64:Int)<(l.length:Int):=by omega
  clear kE1 kE2 kE3 kE4 kE5 kE6 bw1 bw2 B0 lst l3 h0 h1 h3 h4;unfold im at *
  refine cR @nZ @bB @eD ?_;exact⟨_,_,rfl,X2.out,.inl ⟨by rw[kr.out];decide,by rw[kr.out]⟩⟩
 have Gs:¬(64:Int)<(l.length:Int):=by omega
 have kbad:=al.mk (λq=>kE5.out h0 h1 h3 h4 q);have kgood:=al.mk (λq=>kE6.out h0 h1 h3 h4 q);have kcom:=al.mk (kR.out h1);have kprog:=al.mk h0;have ktl:al (text.length<=65536):=⟨ah⟩;have JZ:l.length<=64:=by omega
 clear kE1 kE2 kE3 kE4 kE5 kE6 kR h0 h1 h3 h4 X1 X2;have kB0:=al.mk B0;clear B0;obtain⟨HW,Vx⟩:∃HW,((h.push (aP ep X Y C)).push (aP ep X Y C)).push (il ep X Y C T L (.list .nil 0 []) (.list .nil 0 []) 0 0)=HW:=⟨_,rfl⟩;unfold im at *
 refine cR @nZ @bB @eD ?_;refine dR lO aw ?_;refine cR @nZ @bB @eD ?_;rw[Vx] at kB0;refine bM.gen λe0 aF bD cN cH=>?_;have f1:e0.get 1=T:=by rw[aF];exact gS
 have f2:e0.get 2=L:=by rw[aF];exact gS
 have f3:e0.get 3=.ptr (.box h.boxes.length) 0:=by rw[aF];exact gS
 have f6:e0.get 6=.ptr (.box ((h.push (aP ep X Y C)).push (aP ep X Y C)).boxes.length) 0:=by rw[aF];exact gS
 have f9:e0.get 9=.list .nil 0 []:=by rw[aF];exact gS
 have f10:e0.get 10=.v (.int .i64 (-1)):=by rw[aF];exact gS
 have f39:e0.get 39=L:=by rw[aF];exact gS
 have f40:e0.get 40=.v (.int .i64 (l.length:Nat)):=by rw[aF];exact gS
 have f41:e0.get 41=.v (.int .i64 (0:Nat)):=by rw[aF];exact gR
 have fd:e0.defers=[]:=by rw[bD];exact gS
 clear aF bD cN cH c1 c2 l1 l2 l3 bw1 bw2 lst Vx hI Gs ln1;generalize ((h.push (aP ep X Y C)).push (aP ep X Y C)).boxes.length=c at *
 generalize h.boxes.length=kb at *
 refine cE (λm e H=>∃(i:Nat) (cW:Int) (t:Tok) (sz:Nat) (cur:AV),i<=l.length/\m=l.length - i/\al (fQ cW (l.drop i)=fQ (-1) l)/\(-1<=cW)/\al (BI h H ep X Y C T L kb c cur ((l.take i).map Pr.val) t)/\al (sz=1∨(kQ (l.take i)=[]/\t=.nil))/\
  e.get 1=T/\e.get 2=L/\e.get 3=.ptr (.box kb) 0/\e.get 6=.ptr (.box c) 0/\e.get 9=.list t sz (ints (kQ (l.take i)))/\e.get 10=.v (.int .i64 cW)/\e.get 39=L/\e.get 40=.v (.int .i64 (l.length:Nat))/\e.get 41=.v (.int .i64 (i:Nat))/\e.defers=[]) ?_ l.length _ _ ?_
 rotate_left 1
 ·exact⟨0,-1,.nil,0,.list .nil 0 [],cG _,rfl,⟨rfl⟩,Int.le_refl _,kB0,⟨.inr ⟨rfl,rfl⟩⟩,f1,f2,f3,f6,f9,f10,f39,f40,f41,fd⟩
 clear f1 f2 f3 f6 f9 f10 f39 f40 f41 fd kB0 HW;rintro m e H ⟨i,cW,t,sz,cur,hi,rfl,kP,lR,kB,ksz,g1,g2,g3,g6,g9,g10,g39,g40,g41,hd⟩;by_cases aB:i<l.length
 ·obtain⟨p,yz⟩:∃p,l[i]?=aa p:=⟨_,aT aB⟩;have oV:l.drop i=p::l.drop (i+1):=by rw[xP aB,(aV.1 yz).2]
  have qZ:=kP.out;rw[oV,NT.fQ] at qZ;have kpf:=al.mk qZ;have ix:=kf.out.2.2.2.2.ix aB;have ld:=Ew (H:=H) (s:=4) yz;have st:=xB (H:=H) p;have zc:=AS;have b0:=bh H (bQ p);have q0:aI aq Gt (H.push (bQ p)) 3 (.ptr (.box H.boxes.length) 0)=aa (.v (.int .i64 p.au)):=dx fa b0 rfl;have q1:aI aq Gt (H.push (bQ p)) 3 (.ptr (.box H.boxes.length) 1)=aa (.v (.int .i64 p.no)):=dx fa b0 rfl;have q2:aI aq Gt (H.push (bQ p)) 3 (.ptr (.box H.boxes.length) 2)=aa (.v (.int .i64 p.d)):=dx fa b0 rfl;have q3:aI aq Gt (H.push (bQ p)) 3 (.ptr (.box H.boxes.length) 3)=aa (.v (.int .i64 p.e)):=dx fa b0 rfl;have v1:=IB p.d;have v2:=IB p.e;have fA:(i:Int)<(l.length:Int):=by omega
  have kBp:=al.mk (kB.out.push (bQ p));have ktake:=al.mk (fW yz);clear qZ oV yz b0;have kbad2:al ((decide (cW<p.au)&&decide (p.au<64)&&decide (0<=p.no)&&decide (p.no<4096)&&bN p.d&&bN p.e)=az->res=420):=⟨λq=>by refine kbad.out ?_;rw[<-kpf.out,q];rfl⟩;unfold im at *
  by_cases e1:p.au<=cW
  ·have d1:decide (p.au<=cW)=ai:=cz e1;have kr:=al.mk (kbad2.out (by rw[cT (ah:¬cW<p.au)];rfl));clear e1;refine bV @nZ @jg ?_;exact⟨_,_,rfl,kBp.out.ext,.inl ⟨by rw[kr.out];decide,by rw[kr.out]⟩⟩
  have d1:decide (p.au<=cW)=az:=cT e1;by_cases e2:64<=p.au
  ·have d2:decide (64<=p.au)=ai:=cz e2;have kr:=al.mk (kbad2.out (by rw[cT (ah:¬p.au<64)];simp));clear e1 e2;refine bV @nZ @jg ?_;exact⟨_,_,rfl,kBp.out.ext,.inl ⟨by rw[kr.out];decide,by rw[kr.out]⟩⟩
  have d2:decide (64<=p.au)=az:=cT e2;by_cases e3:p.no<0
  ·have d3:decide (p.no<0)=ai:=cz e3;have kr:=al.mk (kbad2.out (by rw[cT (ah:¬0<=p.no)];simp));clear e1 e2 e3;refine bV @nZ @jg ?_;exact⟨_,_,rfl,kBp.out.ext,.inl ⟨by rw[kr.out];decide,by rw[kr.out]⟩⟩
  have d3:decide (p.no<0)=az:=cT e3;by_cases e4:4096<=p.no
  ·have d4:decide (4096<=p.no)=ai:=cz e4;have kr:=al.mk (kbad2.out (by rw[cT (ah:¬p.no<4096)];simp));clear e1 e2 e3 e4;refine bV @nZ @jg ?_;exact⟨_,_,rfl,kBp.out.ext,.inl ⟨by rw[kr.out];decide,by rw[kr.out]⟩⟩
  have d4:decide (4096<=p.no)=az:=cT e4;cases e5:bN p.d with
  |false=>have kr:=al.mk (kbad2.out (by rw[e5];simp));rw[e5] at v1;clear e1 e2 e3 e4 e5;refine bV @nZ @jg ?_;exact⟨_,_,rfl,kBp.out.ext,.inl ⟨by rw[kr.out];decide,by rw[kr.out]⟩⟩
  |true=>
  rw[e5] at v1;cases e6:bN p.e with
  |false=>have kr:=al.mk (kbad2.out (by rw[e6];simp));rw[e6] at v2;clear e1 e2 e3 e4 e5 e6;refine bV @nZ @jg ?_;exact⟨_,_,rfl,kBp.out.ext,.inl ⟨by rw[kr.out];decide,by rw[kr.out]⟩⟩
  |true=>
  rw[e6] at v2;have Pd:=DI e5;have hr6:=DI e6;have kP2:al (fQ p.au (l.drop (i+1))=fQ (-1) l):=⟨by rw[<-kpf.out,cz (ah:cW<p.au),cz (ah:p.au<64),cz (ah:0<=p.no),cz (ah:p.no<4096),e5,e6];rfl⟩;obtain⟨r,iK,lr⟩:=amy p (by intro x hx;simp only[iq,uM,or_false] at hx;rcases hx with rfl|rfl|rfl|rfl<;>omega);have GJ:(kQ (l.take i)).length=i:=by unfold kQ;rw[bE,fj];omega
  have ap:=uR (x:=p.au) (es:=kQ (l.take i)) ah ksz.out kBp.out.can;have bl:=qa p.au;have Wj:kQ (l.take i)++[p.au]=kQ (l.take (i+1)):=by unfold kQ;rw[ktake.out,mT];rfl
  rw[Wj] at ap;have kBa:=al.mk kBp.out.app;have pN:((l.take i).map Pr.val).length=i:=by rw[bE,fj];omega
  obtain⟨H2,cs,t1,t2,t3,t4,t5⟩:=kBa.out.next ah iK;have len94:=kBa.out.la.dW;have lw:aI aq Gt ((H.push (bQ p)).app t) 94 (.ptr (.box c) 10)=aa cur:=dx Th kBa.out.work rfl;have bxx:((H.push (bQ p)).app t).boxes[H.boxes.length]?=aa (bQ p):=by rw[eL];exact bh _ _
  have q0':aI aq Gt ((H.push (bQ p)).app t) 3 (.ptr (.box H.boxes.length) 0)=aa (.v (.int .i64 p.au)):=dx fa bxx rfl;have q1':aI aq Gt ((H.push (bQ p)).app t) 3 (.ptr (.box H.boxes.length) 1)=aa (.v (.int .i64 p.no)):=dx fa bxx rfl;have q2':aI aq Gt ((H.push (bQ p)).app t) 3 (.ptr (.box H.boxes.length) 2)=aa (.v (.int .i64 p.d)):=dx fa bxx rfl;have q3':aI aq Gt ((H.push (bQ p)).app t) 3 (.ptr (.box H.boxes.length) 3)=aa (.v (.int .i64 p.e)):=dx fa bxx rfl;have Xg:(l.take i).map Pr.val++[p.val]=(l.take (i+1)).map Pr.val:=by rw[ktake.out,mT];rfl
  rw[Xg] at t5;have kB2:=al.mk t5;have bO:((H.push (bQ p)).app t).boxes.length≠c:=by have:=kBa.out.Nv;omega
  rw[pN] at t1 t2 t3 t4 kB2 len94;have knext: -1<=p.au:=by omega
  clear e1 e2 e3 e4 e5 e6 Pd hr6 t5 Xg bxx Wj iK GJ pN kBp kBa kbad2 kpf kP lR;refine bV @nZ @jg ?_;refine aq8 23 lO aw aw aw ?_ ?_
  ·refine amu (n:=27) (bi:=((H.push (bQ p)).app t).boxes.length) (bn:=c) (x1:=i * 4) (x2:=10) aw rfl rfl rfl rfl ?_ ?_ bO<;>(simp only[gl,fm];exact mf @nZ @qS @jg (av @UR (av @Ho (av @Nj (av @TF @and_self)))))
  refine bG @nZ @qS @jg (av @UR (av @Ho (av @Nj @TF))) ?_;exact⟨l.length - (i+1),by omega,i+1,p.au,_,1,_,by omega,rfl,kP2,knext,kB2,⟨.inl rfl⟩,by simp⟩
 have gT:i=l.length:=by omega
 subst gT;rw[fI] at g9 ksz kB;have VI:fQ (-1) l=ai:=by rw[<-kP.out,pZ (aM _)];rfl
 have kPok:=al.mk VI;have lk:aI aq Gt H 25 (.ptr (.box kb) 1)=aa (.agg [X,Y]):=by rw[iC sW (by kernel_rfl:dC aq 25=aa 2) kB.out.key (jZ rfl)];rfl
 have Xn:IL (.list t sz (ints (kQ l))) (kQ l):=⟨t,sz,rfl,λq=>by
  rcases ksz.out with z|⟨z,-⟩
  ·exact z
  ·exact absurd z q⟩
 have ajp:(kQ l).length<=64:=by unfold kQ;rw[bE];exact JZ
 have aiI:(∃e,gC ae ag (kQ l)=([],az,e)/\∀h,W5.call 76 [.agg [X,Y],.list t sz (ints (kQ l))] h=aa (.ret (.tuple [.list .nil 0 [],.v (.bool az),.v (.int .i64 e)]),h))∨∃y,gC ae ag (kQ l)=(y,ai,0)/\y.length=ae.length/\∀h,W5.call 76 [.agg [X,Y],.list t sz (ints (kQ l))] h=aa (.ret (.tuple [.list .held 1 (ints y),.v (.bool ai),.v (.int .i64 0)]),h):=by obtain⟨k0,s0,xs,VM,-⟩:=kf.out.1.form;have:=ade k0 s0 xs Y (.list t sz (ints (kQ l))) ae ag (kQ l) (by rw[<-VM];exact kf.out.1) kf.out.2.1 Xn ah;rw[<-VM] at this;exact this
 clear VI Xn ajp aB kP lR hi;rcases aiI with⟨e0,a1,ca⟩|⟨y,a1,a2,ca⟩
 ·have kr:al (res=420):=⟨by rw[kgood.out kPok.out _ _ _ a1,aG (.inr (.inl rfl))]⟩;clear a1;by_cases h9:e0=0
  ·subst h9;refine bV @nZ @eD ?_;exact⟨_,_,rfl,kB.out.ext,.inl ⟨by rw[kr.out];decide,by rw[kr.out]⟩⟩
  ·have d9:decide (e0=0)=az:=cT h9;refine bV @nZ @eD ?_;exact⟨_,_,rfl,kB.out.ext,.inl ⟨by rw[kr.out];decide,by rw[kr.out]⟩⟩
 by_cases h9:l.length=0
 ·have kr:al (res=420):=⟨by rw[kgood.out kPok.out _ _ _ a1,aG (.inr (.inr h9))]⟩;have d9:decide ((l.length:Int)=0)=ai:=cz ah;clear a1 h9;refine bV @nZ @eD ?_;exact⟨_,_,rfl,kB.out.ext,.inl ⟨by rw[kr.out];decide,by rw[kr.out]⟩⟩
 have d9:decide ((l.length:Int)=0)=az:=cT ah;have kr:al (res=0):=⟨by rw[kgood.out kPok.out _ _ _ a1,aH (by simp;intro q;rw[q] at h9;exact h9 rfl)]⟩;have kWt:=al.mk (kW.out _ _ _ a1);obtain⟨m1,m2⟩:=kcom.out;have mpos:=(uW kprog.out).1;have BH:bN (ak aj 0)=ai:=by rw[ej] at m2;exact m2 _ (by rw[ga ah];exact iG _)
 have ai0:=DI BH;have qo:=kB.out.lo;have ajB:=kB.out.lt;have s1:=as4 (x:=.list .held 1 (ints y)) kB.out.work rfl;obtain⟨b,vr,ai8,kj,fP,yn,hb4⟩:∃(b:Nat) (vr:List (List AV)),cur=.arr b 0 vr.length vr.length/\H.boxes[b]?=aa vr.flatten/\nK (l.map Pr.val) vr/\b≠c/\c+1<=b:=by
  rcases kB.out.la with⟨q,-⟩|⟨-,q⟩
  ·exfalso;rw[FL] at q;rw[q] at h9;exact h9 rfl
  ·exact q
 subst ai8;have Of:=kB.out.Nv;have W1:uP (H.put c (il ep X Y C T L (.list .held 1 (ints y)) (.arr b 0 vr.length vr.length) 0 0)) c ep X Y C T L (.list .held 1 (ints y)) 0 0 aj text l:=
  ⟨⟨b,vr,eP Of,by rw[dg yn];exact kj,fP⟩,kf.out.2.2.1,by omega,⟨ah,by omega⟩,kf.out.2.2.2.1,ktl.out,JZ⟩
 have E1:Ext h (H.put c (il ep X Y C T L (.list .held 1 (ints y)) (.arr b 0 vr.length vr.length) 0 0)):=kB.out.ext.gh ah _;obtain⟨_,Hp,cp,xp,rfl⟩:=ans 70 [.ptr (.box c) 0] [] (iL (ak aj 0) text l) _ L l kf.out.2.2.2.2 ah (λq hq=>Cr (yV kPok.out q hq).2.2.2.2.1 (yV kPok.out q hq).2.2.2.2.2) (λq hq H' hX=>by have hm:=yV kPok.out q hq;obtain⟨_,H2,n1,n2,rfl⟩:=Yq H' c ep X Y C T L (.list .held 1 (ints y)) 0 0 aj text l (W1.mono hX) q ⟨ah,by omega⟩ hm.2.2.2.2.1 hm.2.2.2.2.2;exact⟨H2,n1,n2⟩);have tz:l.foldl (λx q=>x * iL (ak aj 0) text l q%P) 1=gV (ak aj 0) text l:=rfl;rw[tz] at cp;have G9:=DI (qi (YY (c0:=ak aj 0) (text:=text) kPok.out));have E2:=E1.trans xp;have W2:=W1.mono xp;obtain⟨b',vr',w1,w2,w3⟩:=W2.eC;have Ob:b'≠c:=by intro q;have z1:Hp.boxes[c]?=aa (il ep X Y C T L (.list .held 1 (ints y)) (.arr b 0 vr.length vr.length) 0 0):=xp.box _ _ (eP Of);rw[z1] at w1;unfold il at w1;injection w1 with w1;simp only[List.cons.injEq,AV.arr.injEq,true_and,and_true] at w1;omega
 have s2:=as7 (n:=((gV (ak aj 0) text l:Nat):Int)) w1;have VY:=(aV.1 w1).1;obtain⟨kt,st,VK,ct⟩:=kf.out.2.2.2.1;obtain⟨H5,N6⟩:∃H5,Hp.put c (il ep X Y C T L (.list .held 1 (ints y)) (.arr b' 0 vr'.length vr'.length) ((gV (ak aj 0) text l:Nat):Int) 0)=H5:=⟨_,rfl⟩;have w5:H5.boxes[c]?=aa (il ep X Y C T L (.list .held 1 (ints y)) (.arr b' 0 vr'.length vr'.length) ((gV (ak aj 0) text l:Nat):Int) 0):=by rw[<-N6];exact eP VY
 have E5:Ext h H5:=by rw[<-N6];exact E2.gh ah _
 have v5:H5.boxes[b']?=aa vr'.flatten:=by rw[<-N6,dg Ob];exact w2
 have sl:=Rr ((gV (ak aj 0) text l:Nat):Int) (ak aj 0) text;have hh:=VP H5 xu .tight 1 [.iface 3 (.v (.int .i64 ((gV (ak aj 0) text l:Nat):Int))),.iface 3 (.v (.int .i64 (ak aj 0))),.iface 28 (.list kt st (bf text))] [.int ((gV (ak aj 0) text l:Nat):Int),.int (ak aj 0),.text text]
  (.cons (.int _ ⟨ah,by omega⟩) (.cons (.int _ ⟨ah,by omega⟩) (.cons (.text kt st text ct (by have:=ktl.out;omega)) .nil))) (λ_=>rfl) bH aO (by simp[gq,hJ]) (by have:=ktl.out;omega)
 have vh:tg xu (.list [.int ((gV (ak aj 0) text l:Nat):Int),.int (ak aj 0),.text text])=eZ (ak aj 0) text l:=rfl;rw[vh,<-VK,show xu=[115,105,103,110] from rfl] at hh;simp only[eK,List.map_nil] at hh;have lp:aI aq Gt H5 3 (.ptr (.box c) 11)=aa (.v (.int .i64 ((gV (ak aj 0) text l:Nat):Int))):=dx fa w5 rfl;have lC:aI aq Gt H5 23 (.ptr (.box c) 3)=aa C:=dx pC w5 rfl;obtain⟨kc,sc,hCe,um⟩:=kf.out.2.2.1;have ixC:=kf.out.2.2.1.ix (i:=0) ah;have lC0:=e7 (H:=H5) (l:=aj) (i:=0) (s:=1) ah;have s3:=as6 (n:=((eZ (ak aj 0) text l:Nat):Int)) w5;have gv:al (Ext h (H5.put c (il ep X Y C T L (.list .held 1 (ints y)) (.arr b' 0 vr'.length vr'.length) ((gV (ak aj 0) text l:Nat):Int) ((eZ (ak aj 0) text l:Nat):Int)))/\uP (H5.put c (il ep X Y C T L (.list .held 1 (ints y)) (.arr b' 0 vr'.length vr'.length) ((gV (ak aj 0) text l:Nat):Int) ((eZ (ak aj 0) text l:Nat):Int))) c ep X Y C T L (.list .held 1 (ints y)) ((gV (ak aj 0) text l:Nat):Int) ((eZ (ak aj 0) text l:Nat):Int) aj text l):=
  ⟨E5.gh ah _,⟨⟨b',vr',eP (aV.1 w5).1,by rw[dg Ob];exact v5,w3⟩,kf.out.2.2.1,by omega,⟨ah,by omega⟩,kf.out.2.2.2.1,ktl.out,JZ⟩⟩
 have kyw:al (IL (.list .held 1 (ints y)) (eF ae ag l)):=⟨by rw[kWt.out];exact⟨_,_,rfl,λ_=>rfl⟩⟩;have ix0:dG aq 23 C (.v (.int .i64 0))=aa (.elem 1 (ints aj) 0 0):=ixC;clear W1 W2 E1 E2 E5 w1 w2 w3 v5 sl vh tz xp kj fP yn hb4 Of VY Ob BH ai0 G9 mpos m1 m2 qo ajB VK ct hCe um h9 a1 a2 ixC w5;generalize ((gV (ak aj 0) text l:Nat):Int)=ptv at *
 generalize ((eZ (ak aj 0) text l:Nat):Int)=chv at *
 generalize ak aj 0=c0 at *
 unfold im at *
 refine bG @nZ @eD @qS @List.cons_append.{0} ?_;refine dR lO aw ?_;refine bG @nZ @iP @qS (av @Ho (av @PB @TJ)) ?_;exact⟨_,_,rfl,gv.out.1,.inr ⟨kr.out,_,_,rfl,kyw.out,gv.out.2⟩⟩
def HZ:Tryz.f17.results.toList=[.tmp 6,.tmp 7,.tmp 8,.tmp 9]:=aw
def Ra:Tryz.f54.results.toList=[.cell 6 85,.tmp 7]:=aw
def aqg:Tryz.f125.results.toList=[.tmp 3]:=aw
def ZI:Tryz.f127.results.toList=[.tmp 2]:=aw
def wk(c0:Int)(text:List UInt8)(l:List Pr):List Int:=l.map λp=>((eY c0 text l p.au:Nat):Int)
def Dt{ae}{ag aj}{ep}{text}{l}(h:dA ae ag ep aj text l=0):
 de ae ag=0/\aj.length=b9 ae/\aj.all bN=ai/\l.length<=64/\text.length<=65536/\fQ (-1) l=ai:=by
 unfold dA at h;split at h
 ·rename_i q;exact absurd h q
 ·rename_i q1;split at h
  ·simp at h
  ·rename_i q2;split at h
   ·simp at h
   ·rename_i q3;split at h
    ·simp at h
    ·rename_i q4;split at h
     ·simp at h
     ·rename_i q5;have q2':=(abw _).mp q2;rw[abv] at q2';simp only[bL,decide_eq_true_eq] at q2';have q5':=(abw _).mp q5;rw[abv] at q5';exact⟨IM.1 q1,q2'.1.2,q2'.2,by omega,by omega,q5'⟩
def aew(h:ao)(bJ:cO h=ai)(ep:Int)(X Y C T L:AV)(ae:List (List Int))(ag aj:List Int)(text:List UInt8)(l:List Pr)
 (hx:RL X ae) (hy:IL Y ag) (hc:IL C aj) (ht:BL T text) (hp:PL L l) (dF:aj.length<=1000000) (eO:l.length<=1000000):
 ∃r h',W5.call 17 [.agg (aP ep X Y C),T,L] h=aa (r,h')/\
  ((dA ae ag ep aj text l≠0/\r=.ret (.tuple [.list .nil 0 [],.v (.int .i64 0),.v (.int .i64 0),.v (.int .i64 (dA ae ag ep aj text l))]))∨
  (dA ae ag ep aj text l=0/\∃Z,r=.ret (.tuple [Z,.v (.int .i64 ((gV (ak aj 0) text l:Nat):Int)),.v (.int .i64 ((eZ (ak aj 0) text l:Nat):Int)),.v (.int .i64 0)])/\IL Z (wk (ak aj 0) text l))):=by
 have bx:=vv (ep:=ep) hx hy hc;obtain⟨r1,h1,c1,x1,post⟩:=Nb (h.push (aP ep X Y C)) bJ ep X Y C T L ae ag aj text l hx hy hc ht hp dF eO;have b0:=bh h (aP ep X Y C);have l0:aI aq Gt (h.push (aP ep X Y C)) 27 (.ptr (.box h.boxes.length) 0)=aa (.agg (aP ep X Y C)):=by rw[iC aw (by kernel_rfl:dC aq 27=aa 4) b0 (jZ rfl)];rfl
 have kp:=al.mk hp;have ko:=al.mk (x1.ok bJ);have kbo:=al.mk (λq=>@Dt ae ag aj ep text l q);have ln2:=hp.dW;clear hx hy hc ht hp b0 x1;generalize dA ae ag ep aj text l=res at *
 refine da rfl Tryz.func17 rfl ?_;rcases post with⟨q,rfl⟩|⟨q,c,Wt,rfl,-,w⟩
 ·have kr:=al.mk q;refine bV @HZ @bB ?_;exact⟨_,_,rfl,.inl ⟨kr.out,rfl⟩⟩
 obtain⟨-,-,-,-,-,p6⟩:=kbo.out q;have kP:=al.mk p6;have kW:=al.mk w;have kr:=al.mk q;have JZ:=w.ll;obtain⟨b,vr,w1,-⟩:=w.eC;clear p6 w;subst q;refine bV @HZ @bB ?_;refine bM.gen λe0 aF bD cN cH=>?_;have f6:e0.get 6=.list .nil 0 []:=by rw[aF];exact gS
 have f10:e0.get 10=.ptr (.box c) 0:=by rw[aF];exact gS
 have f23:e0.get 23=L:=by rw[aF];exact gS
 have f24:e0.get 24=.v (.int .i64 (l.length:Nat)):=by rw[aF];exact gS
 have f25:e0.get 25=.v (.int .i64 (0:Nat)):=by rw[aF];exact gR
 have fd:e0.defers=[]:=by rw[bD];exact gS
 clear aF bD cN cH c1 l0 w1;have kbl:al ((wk (ak aj 0) text l).length=l.length):=⟨by unfold wk;simp⟩;refine cE (λm e H=>∃(i:Nat) (t:Tok) (sz:Nat),i<=l.length/\m=l.length - i/\al (Gr h1 H t)/\al (sz=1∨((wk (ak aj 0) text l).take i=[]/\t=.nil))/\e.get 6=.list t sz (ints ((wk (ak aj 0) text l).take i))/\e.get 10=.ptr (.box c) 0/\e.get 23=L/\e.get 24=.v (.int .i64 (l.length:Nat))/\e.get 25=.v (.int .i64 (i:Nat))/\e.defers=[]) ?_ l.length _ _ ?_;rotate_left 1
 ·exact⟨0,.nil,0,cG _,rfl,⟨Gr.nil (.refl _) ko.out⟩,⟨.inr ⟨rfl,rfl⟩⟩,f6,f10,f23,f24,f25,fd⟩
 clear f6 f10 f23 f24 f25 fd;rintro m e H ⟨i,t,sz,hi,rfl,kG,ksz,g6,g10,g23,g24,g25,hd⟩;by_cases aB:i<l.length
 ·obtain⟨p,yz⟩:∃p,l[i]?=aa p:=⟨_,aT aB⟩;have hm:=yV kP.out p (dn yz);have ix:=kp.out.ix aB;have ld:=Ew (H:=H) (s:=4) yz;have st:=xB (H:=H) p;have zc:=AS;have l2:=w8 (bh H (bQ p));obtain⟨_,H2,cb,rfl,rfl⟩:=Nf (H.push (bQ p)) c ep X Y C T L Wt _ _ aj text l ((kW.out.mono kG.out.1).mono (.push _ _)) p ⟨ah,by omega⟩;have hv:(wk (ak aj 0) text l)[i]?=aa ((eY (ak aj 0) text l p.au:Nat):Int):=by unfold wk;rw[ev,yz];rfl
  have kG2:=(kG.out.push (bQ p)).push (bQ p);have ap:=uR (x:=((eY (ak aj 0) text l p.au:Nat):Int)) (es:=(wk (ak aj 0) text l).take i) (by rw[fj];omega) ksz.out kG2.2.2;rw[<-fW hv] at ap;have kG3:=al.mk kG2.app;have bl:=qa ((eY (ak aj 0) text l p.au:Nat):Int);have fA:(i:Int)<(l.length:Int):=by omega
  clear hv hm yz kG2;generalize ((eY (ak aj 0) text l p.au:Nat):Int)=bn at *
  unfold im at *
  refine bI @HZ ?_;exact⟨l.length - (i+1),by omega,i+1,_,1,by omega,rfl,kG3,⟨.inl rfl⟩,by simp⟩
 ·have gT:i=l.length:=by omega
  subst gT;rw[List.take_of_length_le (by rw[kbl.out];exact aM _)] at g6 ksz;obtain⟨b2,vr2,w2,-⟩:=(kW.out.mono kG.out.1).eC;have lp:aI aq Gt H 3 (.ptr (.box c) 11)=aa (.v (.int .i64 ((gV (ak aj 0) text l:Nat):Int))):=dx fa w2 rfl;have lc:aI aq Gt H 3 (.ptr (.box c) 12)=aa (.v (.int .i64 ((eZ (ak aj 0) text l:Nat):Int))):=dx fa w2 rfl;clear w2;generalize ((gV (ak aj 0) text l:Nat):Int)=ptv at *
  generalize ((eZ (ak aj 0) text l:Nat):Int)=chv at *
  refine bI @HZ ?_;refine dR lO aw ?_;refine bV @HZ @qS ?_;refine⟨_,_,rfl,.inr ⟨aX,_,rfl,t,sz,rfl,λq=>?_⟩⟩;rcases ksz.out with z|⟨z,-⟩
  ·exact z
  ·exact absurd z q
def KF(n):(AV.v (.int .i64 n)).cD=aa [.v (.int .i64 n)]:=rfl
def anu(r)(o):(AV.ptr r o).cD=aa [.ptr r o]:=rfl
def alT(n)(h):W5.call 127 [im n] h=aa (.ret (.v (.bool (qA n))),h):=by
 unfold im qA;by_cases h0:n<0
 ·refine cL rfl acM rfl ?_;have:decide (n<0)=ai:=by simp[h0]
  exact jI @ZI @Bool.true_or
 ·refine cL rfl acM rfl ?_;have:decide (n<0)=az:=by simp[h0]
  exact jI @ZI @Bool.false_or
def akm(H)(b)(k)(hb:H.boxes[b]?=aa [.v (.int .i64 k)])(q):∃H',W5.call 125 [.agg (bQ q),.ptr (.box b) 0] H=aa (.ret (.v (.bool (decide (q.au=k)))),H')/\Ext H H':=by have bc:(AV.agg (bQ q)).cD=aa (bQ q):=rfl;have l0:aI aq Gt (H.push (bQ q)) 3 (.ptr (.box H.boxes.length) 0)=aa (.v (.int .i64 q.au)):=dx fa (bh _ _) rfl;have l1:aI aq Gt (H.push (bQ q)) 3 (.ptr (.box b) 0)=aa (.v (.int .i64 k)):=dx fa (bA hb) rfl;refine iu rfl Tryz.func125 rfl ?_;clear hb;refine cR @aqg @bB @jg ?_;exact⟨_,rfl,.push _ _⟩
def UX(h:ao)(c:Nat)(cs:List AV)(L:AV)(l:List Pr)(au:Int)(ns:List Int)(N:AV)(hb:h.boxes[c]?=aa cs)(cC:cs[5]?=aa L)(hp:PL L l)(hl:l.length<=1000000)(hN:IL N ns)(qt:ns.length<=1000):
 ∃r h',W5.call 54 [.ptr (.box c) 0,.v (.int .i64 au),N] h=aa (r,h')/\Ext h h'/\
  (((mN l au=ar∨ns.all cU=az)/\r=.ret (.tuple [.agg (bQ ⟨0,0,0,0⟩),.v (.int .i64 1)]))∨∃q,mN l au=aa q/\ns.all cU=ai/\r=.ret (.tuple [.agg (bQ q),.v (.int .i64 0)])):=by
 have zc:=AS;have H0:((h.push [.v (.int .i64 au)]).push (bQ ⟨0,0,0,0⟩)).boxes[h.boxes.length]?=aa [.v (.int .i64 au)]:=bA (bh _ _);have H1:((h.push [.v (.int .i64 au)]).push (bQ ⟨0,0,0,0⟩)).boxes[c]?=aa cs:=bA (bA hb);have H2:=bh (h.push [.v (.int .i64 au)]) (bQ ⟨0,0,0,0⟩);obtain⟨_,h3,c1,x1,post⟩:=aj6 125 [.ptr (.box h.boxes.length) 0] (λp=>decide (p.au=au)) ((h.push [.v (.int .i64 au)]).push (bQ ⟨0,0,0,0⟩)) L l hp hl (λq _ H hX=>akm H h.boxes.length au (hX.box _ _ H0) q);have l0:aI aq Gt ((h.push [.v (.int .i64 au)]).push (bQ ⟨0,0,0,0⟩)) 29 (.ptr (.box c) 5)=aa L:=dx Tf H1 cC;have l1:aI aq Gt h3 29 (.ptr (.box c) 5)=aa L:=dx Tf (x1.box _ _ H1) cC;have g2:=x1.box _ _ H2;have l2:=w8 g2;have st0:cI aq h3 85 (.ptr (.box (h.push [.v (.int .i64 au)]).boxes.length) 0) (.agg (bQ ⟨0,0,0,0⟩))=aa h3:=by rw[ig (off:=0) (xs:=bQ ⟨0,0,0,0⟩) rfl rE g2 rfl (aM 4),xz rfl,sM g2]
 have cc:=Jr (pr:=EO) rfl rfl 127 [] qA h3 N ns hN ah (λn _=>alT n _);have mg:=Tk ns;have X3:=al.mk (((Ext.push h [.v (.int .i64 au)]).trans (Ext.push _ (bQ ⟨0,0,0,0⟩))).trans x1);have DX:=(aV.1 g2).1;have stq:∀q:Pr,cI aq h3 85 (.ptr (.box (h.push [.v (.int .i64 au)]).boxes.length) 0) (.agg (bQ q))=aa (h3.put (h.push [.v (.int .i64 au)]).boxes.length (bQ q))/\aI aq Gt (h3.put (h.push [.v (.int .i64 au)]).boxes.length (bQ q)) 85 (.ptr (.box (h.push [.v (.int .i64 au)]).boxes.length) 0)=aa (.agg (bQ q)):=λq=>by refine⟨?_,w8 (eP DX)⟩;rw[ig (off:=0) (xs:=bQ q) rfl rE g2 rfl (aM 4)];rfl
 have XQ:∀q:Pr,Ext h (h3.put (h.push [.v (.int .i64 au)]).boxes.length (bQ q)):=λq=>X3.out.gh (by rw[cX];omega) _;have kq:=al.mk (av stq XQ);rw[cX] at l2 st0;have kp:=al.mk hp;unfold mN;clear H0 H1 H2 hb cC g2 x1 hN stq XQ hp DX;refine da rfl Tryz.func54 rfl ?_;unfold im at *
 rcases post with⟨p1,rfl⟩|⟨i,q,rfl,p2,p3⟩
 ·have kn:=al.mk p1;clear p1 cc;refine bG @Ra @bB @cX (av @qS @KF) ?_;exact⟨_,_,rfl,X3.out,.inl ⟨.inl kn.out,rfl⟩⟩
 ·have kn:=al.mk (av p2 p3);have cK:=(aV.1 p2).1;have ix:=kp.out.ix cK;have ld:=Ew (H:=h3) (s:=4) p2;have avg:decide (((i:Nat):Int)<0)=az:=cT ah;obtain⟨s1,s2⟩:=kq.out.1 q;rw[cX] at s1 s2;have XQq:=kq.out.2 q;rw[cX] at XQq;have kXQ:=al.mk XQq;clear XQq;clear p2 p3;cases ho:ns.any qA with|true=>rw[ho] at cc mg;have kh:=al.mk mg;clear ho mg;refine bG @Ra @bB @cX (av @qS @KF) ?_;exact⟨_,_,rfl,X3.out,.inl ⟨.inr kh.out.symm,rfl⟩⟩|false=>rw[ho] at cc mg;have kh:=al.mk mg;clear ho mg;refine bG @Ra @bB @cX (av @qS @KF) ?_;exact⟨_,_,rfl,kXQ.out,.inr ⟨q,kn.out.2,kh.out.symm,rfl⟩⟩
def ale(k)(s)(es):(AV.list k s es).cD=aa [.list k s es]:=rfl
def aqK:Tryz.f55.results.toList=[.tmp 4]:=aw
def HX:Tryz.f128.results.toList=[]:=aw
def aqP:Tryz.f72.results.toList=[.tmp 2]:=aw
def ZM:Tryz.f139.results.toList=[.tmp 4]:=aw
def ey(ag:List Int)(au:Int)(k:Nat):List Nat:=(bR k).filter λi=>decide (ak ag i=au)
def HT{ag}{au}{k}(h:ak ag k=au):ey ag au (k+1)=ey ag au k++[k]:=by unfold ey;rw[nH,zB,List.filter_cons_of_pos (by simp[h])];rfl
def Cw{ag}{au}{k}(h:ak ag k≠au):ey ag au (k+1)=ey ag au k:=by unfold ey;rw[nH,zB,List.filter_cons_of_neg (by simp[h])];simp
def K4(ag)(au):ey ag au ag.length=eu ag au:=rfl
def ap0(ag)(au)(k):(ey ag au k).length<=k:=by unfold ey;exact fJ (FK _ _) bH
def ZC(h:ao)(c:Nat)(au:Int):W5.call 55 [.ptr (.box c) 0,.v (.int .i64 au)] h=aa (.ret (.func (.func 128) [] [.ptr (.box h.boxes.length) 0,.ptr (.box (h.boxes.length+1)) 0]),(h.push [.ptr (.box c) 0]).push [.v (.int .i64 au)]):=by refine cL rfl Tryz.func55 rfl ?_;exact mf @aqK @bB @cX (av @KF @anu)
def ZE(l wb kb c:Nat)(Y:AV)(ag:List Int)(au:Int)(Inv:Nat->ao->Prop)(Stop:ao->Prop)(hy:IL Y ag)(oY:ag.length<=1000000)
 (h1:∀k H,Inv k H->H.boxes[wb]?=aa [.ptr (.box c) 0]/\H.boxes[kb]?=aa [.v (.int .i64 au)]/\∃cs,H.boxes[c]?=aa cs/\cs[2]?=aa Y)
 (hR:∀k H,k<ag.length->ak ag k=au->Inv k H->(∃H',W5.round l [.v (.int .i64 (k:Nat))] H=aa (.ret (.v (.bool ai)),H')/\Inv (k+1) H')∨∃H',W5.round l [.v (.int .i64 (k:Nat))] H=aa (.ret (.v (.bool az)),H')/\Stop H')
 (hS:∀k H,k<ag.length->ak ag k≠au->Inv k H->Inv (k+1) H)
 (H0:ao) (h0:Inv 0 H0):∃H',W5.call 128 [.yield l,.ptr (.box wb) 0,.ptr (.box kb) 0] H0=aa (.ret (.tuple []),H')/\(Inv ag.length H'∨Stop H'):=by
 have kk:=al.mk (av h1 (av hR (av hS (av h0 hy))));obtain⟨b1,-,cs,b3,b4⟩:=h1 0 H0 h0;have l1:aI aq Gt H0 90 (.ptr (.box wb) 0)=aa (.ptr (.box c) 0):=dx wh b1 rfl;have l2:aI aq Gt H0 23 (.ptr (.box c) 2)=aa Y:=dx pC b3 b4;have ln:=hy.dW;clear h1 hR hS h0 hy b1 b3 b4;refine iu rfl Tryz.func128 rfl ?_;refine bG @HX @qS @eD @aht ?_;refine cE (λm e H=>∃k:Nat,k<=ag.length/\m=ag.length - k/\al (Inv k H)/\e.get 0=.yield l/\e.get 2=.ptr (.box kb) 0/\e.get 11=Y/\e.get 12=.v (.int .i64 (ag.length:Nat))/\e.get 13=.v (.int .i64 (k:Nat))/\e.defers=[]) ?_ ag.length _ _ ?_;rotate_left 1
 ·refine⟨0,cG _,rfl,⟨kk.out.2.2.2.1⟩,?_,?_,?_,?_,?_,?_⟩<;>exact gR
 clear l1 l2;rintro m e H ⟨k,hk,rfl,kI,g0,g2,g11,g12,g13,hd⟩;by_cases aB:k<ag.length;rotate_left 1
 ·have:k=ag.length:=by omega
  subst this;refine bI @HX ?_;exact⟨_,rfl,.inl kI.out⟩
 obtain⟨-,b2,-⟩:=kk.out.1 k H kI.out;have ix:=kk.out.2.2.2.2.ix aB;have ld:=e7 (H:=H) (l:=ag) (i:=k) (s:=1) aB;have lk:aI aq Gt H 3 (.ptr (.box kb) 0)=aa (.v (.int .i64 au)):=dx fa b2 rfl;have fA:(k:Int)<(ag.length:Int):=by omega
 clear b2;by_cases hc:ak ag k=au
 ·have dq:decide (ak ag k=au)=ai:=cz hc;rcases kk.out.2.1 k H aB hc kI.out with⟨H',r1,r2⟩|⟨H',r1,r2⟩
  ·have kI2:=al.mk r2;clear r2 hc kI;generalize ak ag k=ow at *
   refine bV @HX @Bk ?_;exact⟨ag.length - (k+1),by omega,k+1,by omega,rfl,kI2,by simp⟩
  ·have kI2:=al.mk r2;clear r2 hc kI;generalize ak ag k=ow at *
   refine bV @HX @Bk ?_;exact⟨_,rfl,.inr kI2.out⟩
 ·have dq:decide (ak ag k=au)=az:=cT hc;have kI2:=al.mk (kk.out.2.2.1 k H aB hc kI.out);clear hc kI;generalize ak ag k=ow at *
  refine bV @HX @Bk ?_;exact⟨ag.length - (k+1),by omega,k+1,by omega,rfl,kI2,by simp⟩
def Fq(h h1:ao)(b2:Nat)(LP:List iN)(ag:List Int)(au:Int)(k:Nat)(H:ao):Prop:=
 ∃t s,H.loops=LP/\H.boxes[b2]?=aa [.list t s (ints (bP (ey ag au k)))]/\(s=1∨(ey ag au k=[]/\t=.nil))/\dD h.tn H t/\cO H=ai/\Ext h H/\∀(a:Nat) (cs:List AV),h1.boxes[a]?=aa cs->a≠b2->H.boxes[a]?=aa cs
def adI(h:ao)(bJ:cO h=ai)(c wb kb:Nat)(Y:AV)(ag:List Int)(au:Int)(cs:List AV)(hy:IL Y ag)(oY:ag.length<=1000000)(b1:h.boxes[wb]?=aa [.ptr (.box c) 0])(b2:h.boxes[kb]?=aa [.v (.int .i64 au)])(b3:h.boxes[c]?=aa cs)(b4:cs[2]?=aa Y):
 ∃r h',W5.call 139 [.list .nil 0 [],.func (.func 128) [] [.ptr (.box wb) 0,.ptr (.box kb) 0]] h=aa (r,h')/\Ext h h'/\∃Z,r=.ret Z/\IL Z (bP (eu ag au)):=by
 refine da rfl Tryz.func139 rfl ?_;refine cR @ZM @bB @ale ?_;refine bM.gen λe4 jq sg wT uk=>?_;have f2:e4.get 2=.ptr (.box h.boxes.length) 0:=by rw[jq];exact gS
 have f6:e4.get 6=.func (.func 128) [] [.ptr (.box wb) 0,.ptr (.box kb) 0]:=by rw[jq];exact gS
 have fd:e4.defers=[]:=by rw[sg];exact gS
 clear jq sg wT uk;refine E4 (by rw[Bq];exact f6) λrec w1 w2 w3 w4 w5 w6=>?_;have Cf:=(aV.1 b1).1;have ug:=(aV.1 b2).1;have Gz:=(aV.1 b3).1;obtain⟨h1,oz⟩:∃h1,h.push [.list .nil 0 []]=h1:=⟨_,rfl⟩;have g0:h1.boxes[h.boxes.length]?=aa [.list .nil 0 []]:=by rw[<-oz];exact bh _ _
 have g1:h1.boxes[wb]?=aa [.ptr (.box c) 0]:=by rw[<-oz];exact bA b1
 have g2:h1.boxes[kb]?=aa [.v (.int .i64 au)]:=by rw[<-oz];exact bA b2
 have g3:h1.boxes[c]?=aa cs:=by rw[<-oz];exact bA b3
 have eO:h1.loops.length=h.loops.length:=by rw[<-oz];rfl
 have sC:cO h1=ai:=by rw[<-oz];exact bJ
 have X1:Ext h h1:=by rw[<-oz];exact .push _ _
 have ji:(h1.loop rec).loops[h1.loops.length]?=aa rec:=@EB h1 rec;have XL:Ext h (h1.loop rec):=X1.trans ((Fr.Cp (bn:=h1.boxes.length) (l0:=h1.loops.length) (n0:=h1.tn) h1 rec).ext (aM _) (aM _) (aM _));rw[oz];have feed:=ZE h1.loops.length wb kb c Y ag au (Fq h h1 h.boxes.length (h1.loop rec).loops ag au) (λ_=>False) hy oY
  (λk H q=>by obtain⟨_,_,-,-,-,-,-,-,q7⟩:=q;exact⟨q7 _ _ g1 ah,q7 _ _ g2 ah,cs,q7 _ _ g3 ah,b4⟩)
  ?_
  (λk H _ hc q=>by
   unfold Fq at *
   rw[Cw hc];exact q)
  (h1.loop rec) ⟨.nil,0,rfl,g0,.inr ⟨rfl,rfl⟩,.inl rfl,sC,XL,λa cs ha _=>ha⟩
 rotate_left 1
 ·rintro k H hk hc ⟨t,s,i1,i2,i3,i4,i5,i6,i7⟩;left;have wR:H.loops[h1.loops.length]?=aa rec:=by rw[i1];exact ji
  refine KY (Post:=Fq h h1 h.boxes.length (h1.loop rec).loops ag au (k+1)) wR (by rw[w2];rfl) w5 w6 ?_;have r1:∀t,(nX h1.loops.length rec [.v (.int .i64 (k:Nat))]).get t=if 7=t then .v (.int .i64 (k:Nat)) else e4.get t:=λt=>ZA w2 w1
  have d1:(nX h1.loops.length rec [.v (.int .i64 (k:Nat))]).defers=[]:=rfl;obtain⟨K,hK⟩:∃K,H.busy h1.loops.length rec=K:=⟨_,rfl⟩;have kb1:K.boxes[h.boxes.length]?=aa [.list t s (ints (bP (ey ag au k)))]:=by rw[<-hK];exact i2
  have kc1:dD h.tn K t:=by rw[<-hK];exact i4
  have bZ:(bP (ey ag au k)).length<=k:=by unfold bP;rw[bE];exact ap0 _ _ _
  have ap:=uR (x:=(k:Int)) (es:=bP (ey ag au k)) ah (i3.imp_right λq=>⟨by rw[q.1];rfl,q.2⟩) kc1;have ct:bP (ey ag au k)++[(k:Int)]=bP (ey ag au (k+1)):=by rw[HT hc];unfold bP;simp
  rw[ct] at ap;have lA:=vw kb1;have sA:cI aq (K.app t) 23 (.ptr (.box h.boxes.length) 0) (.list (.free K.tn) 1 (ints (bP (ey ag au (k+1)))))=aa ((K.app t).put h.boxes.length [.list (.free K.tn) 1 (ints (bP (ey ag au (k+1))))]):=
   ig (off:=0) (cs:=[.list t s (ints (bP (ey ag au k)))]) (xs:=[.list (.free K.tn) 1 (ints (bP (ey ag au (k+1))))]) rfl iW (by rw[eL];exact kb1) rfl (aM 1)
  have bl:=qa (k:Int);have gr:=Grown.one i4 i5 i6.tn;have gv:al (Fq h h1 h.boxes.length (h1.loop rec).loops ag au (k+1) ((H.app t).put h.boxes.length [.list (.free H.tn) 1 (ints (bP (ey ag au (k+1))))])):=by
   have pH:=(aV.1 i2).1;refine⟨_,1,?_,?_,.inl rfl,by rw[Dz];exact gr.can,gr.ok,(gr.ext i6 (aM _)).gh (aM _) _,λa cs ha bO=>?_⟩
   ·show(H.app t).loops=_;rw[zJ];exact i1
   ·exact eP (by rw[eL];exact pH)
   ·rw[dg bO,eL];exact i7 a cs ha bO
  clear i1 i2 i3 i4 i5 i6 i7 gr ct bZ hc kb1 kc1 g0 g1 g2 g3 X1 XL sC eO Cf ug Gz b1 b2 b3 oz;rw[hK];rw[w3,w4];refine yh ?_;refine⟨aX,aX,aX,?_,?_⟩
  ·show(K.app t).loops=_;rw[zJ]
  ·rw[<-hK];refine(congrArg (Fq h h1 h.boxes.length (h1.loop rec).loops ag au (k+1)) ?_).mpr gv.out;cases t<;>rfl
 ·obtain⟨Hf,c1,⟨t,s,i1,i2,i3,i4,i5,i6,i7⟩|z⟩:=feed;rotate_left 1
  ·exact z.elim
  refine⟨_,_,c1,rec,by rw[i1];exact ji,by rw[w5];decide,.inl ⟨w6,?_⟩⟩;have q1:(Hf.fx h1.loops.length {rec with state:=.exhausted}).boxes[h.boxes.length]?=aa [.list t s (ints (bP (ey ag au ag.length)))]:=i2;have XF:Ext h (Hf.fx h1.loops.length {rec with state:=.exhausted}):=((Fr.EE (bn:=h.boxes.length) (l0:=h.loops.length) (n0:=h.tn) i6 (aM _)).trans (.fx ah _)).ext (aM _) (aM _) (aM _);generalize Hf.fx h1.loops.length {rec with state:=.exhausted}=HF at *
  have lA:=vw q1;have gv:=al.mk (av XF i3);clear q1 XF i1 i2 i3 i4 i5 i6 i7 c1 g0 g1 g2 g3 X1 XL sC eO Cf ug Gz b1 b2 b3 ji w1 w2 w3 w4 w5 w6 oz;refine bI @ZM ?_;refine⟨_,_,rfl,gv.out.1,_,rfl,t,s,by rw[K4],λq=>?_⟩;rcases gv.out.2 with z|⟨z,-⟩
  ·exact z
  ·exfalso;rw[K4] at z;rw[z] at q;exact q rfl
def af1(h)(bJ:cO h=ai)(c wb kb)(Y)(ag)(au)(cs)(hy:IL Y ag)(oY:ag.length<=1000000)(b1:h.boxes[wb]?=aa [.ptr (.box c) 0])(b2:h.boxes[kb]?=aa [.v (.int .i64 au)])(b3:h.boxes[c]?=aa cs)(b4:cs[2]?=aa Y):
 ∃r h',W5.call 72 [.func (.func 128) [] [.ptr (.box wb) 0,.ptr (.box kb) 0]] h=aa (r,h')/\Ext h h'/\∃Z,r=.ret Z/\IL Z (bP (eu ag au)):=by
 obtain⟨_,h',c1,X,Z,rfl,hZ⟩:=adI h bJ c wb kb Y ag au cs hy oY b1 b2 b3 b4;have kZ:=al.mk (av X hZ);clear X hZ b1 b2 b3 b4 hy;refine da rfl Tryz.func72 rfl ?_;refine bI @aqP ?_;exact⟨_,_,rfl,kZ.out.1,_,rfl,kZ.out.2⟩
def Z4:Tryz.f67.results.toList=[.tmp 4]:=aw
def Ii:Tryz.f22.results.toList=[.tmp 10,.tmp 11]:=aw
def abf:(jf aq 90).bind AV.cD=aa [.v (.pointer ar)]:=aw
def RE{H:ao}(c):cI aq (H.push [.v (.pointer ar)]) 90 (.ptr (.box H.boxes.length) 0) (.ptr (.box c) 0)=aa (H.push [.ptr (.box c) 0]):=l9 rfl aw rfl rfl
def vJ(ae:List (List Int))(aj W:List Int)(ch:Int)(row:Int):Nat:=bC (gN aj (ae.getD row.toNat [])) (ak W row.toNat * ch)
def HL{aj row}(h:aj.all bN=ai):elem (gN aj row)=ai:=KP h _ (aM _)
def anc(x)(a b):bC x (bX a b)=bC x (a * b):=HI (by rw[sd,Int.emod_emod_of_dvd _ (Int.dvd_refl _)])
def anv(H:ao)(kb wb c:Nat)(ep:Int)(X Y C T L Wt:AV)(pt ch:Int)(ae:List (List Int))(ag aj W:List Int)(text:List UInt8)(l:List Pr)
 (hx:RL X ae) (hy:IL Y ag) (hc:IL C aj) (hW:IL Wt W) (dF:aj.length<=1000000) (DU:jo ae ag aj=0) (kL:W.length=ae.length)
 (k1:H.boxes[kb]?=aa (aP ep X Y C)) (k2:H.boxes[wb]?=aa [.ptr (.box c) 0]) (w:uP H c ep X Y C T L Wt pt ch aj text l) (row:Nat) (dJ:row<ae.length):
 ∃H',W5.call 67 [im (row:Nat),.ptr (.box kb) 0,.ptr (.box wb) 0] H=aa (.ret (im (vJ ae aj W ch (row:Nat):Nat)),H')/\Ext H H':=by
 obtain⟨_,H2,c1,rfl,x1⟩:=Za H X Y C ae ag aj hx hy hc dF (row:Nat);obtain⟨p1,p2,p3⟩:=Ul DU;have WN:tI ae ag aj (row:Nat)=(((gN aj (ae.getD row []):Nat):Int),0):=by unfold tI;rw[aH (by simp[DU]),aH (by rw[cT (show ¬((row:Nat):Int)<0 by omega),cT (show ¬(ae.length:Int)<=((row:Nat):Int) by omega)];simp),dK]
 rw[WN] at c1;have l1:aI aq Gt H 25 (.ptr (.box kb) 1)=aa (.agg [X,Y]):=by rw[iC sW (by kernel_rfl:dC aq 25=aa 2) k1 (jZ rfl)];rfl
 have l2:aI aq Gt H 23 (.ptr (.box kb) 3)=aa C:=dx pC k1 rfl;have l3:aI aq Gt H2 90 (.ptr (.box wb) 0)=aa (.ptr (.box c) 0):=dx wh (x1.box _ _ k2) rfl;obtain⟨b,vr,w1,-⟩:=(w.mono x1).eC;have l4:aI aq Gt H2 23 (.ptr (.box c) 6)=aa Wt:=dx pC w1 rfl;have l5:aI aq Gt H2 3 (.ptr (.box c) 12)=aa (.v (.int .i64 ch)):=dx fa w1 rfl;have ix:=hW.ix (i:=row) ah;have l6:=e7 (H:=H2) (l:=W) (i:=row) (s:=1) ah;have c2:=HA (ak W row) ch;have he:=qi (HL (row:=ae.getD row []) p3);have c3:=HK ((gN aj (ae.getD row []):Nat):Int) (bX (ak W row) ch);rw[ox he,dK,anc] at c3;have tA:vJ ae aj W ch (row:Nat)=bC (gN aj (ae.getD row [])) (ak W row * ch):=by unfold vJ;rw[dK]
 rw[tA];have kX:=al.mk x1;clear WN tA he x1 w w1 k1 k2 hx hy hc hW DU p1 p2 p3;generalize ((bC (gN aj (ae.getD row [])) (ak W row * ch):Nat):Int)=res at *
 generalize bX (ak W row) ch=m at *
 generalize ((gN aj (ae.getD row []):Nat):Int)=pv at *
 generalize ak W row=wr at *
 unfold im at *
 refine iu rfl Tryz.func67 rfl ?_;refine cR @Z4 @eD @iP ?_;refine dR lO aw ?_;refine bV @Z4 @qS ?_;exact⟨_,rfl,kX.out⟩
def LR{ae}{ag aj}{ep}{text}{l}(h:dA ae ag ep aj text l=0):
 ∃y,gC ae ag (l.map Pr.au)=(y,ai,0)/\eF ae ag l=y/\y.length=ae.length:=by
 have h0:=h;unfold dA at h;rw[aH (by simp[(Dt h0).1])] at h;split at h
 ·simp at h
 ·split at h
  ·simp at h
  ·split at h
   ·simp at h
   ·split at h
    ·simp at h
    ·cases hq:gC ae ag (l.map Pr.au) with
     |mk y oe=>
      obtain⟨o,e⟩:=oe;rw[hq] at h;simp only at h;split at h
      ·simp at h
      ·rename_i q;simp only[not_or,IM,Bool.not_eq_false] at q;obtain⟨q1,q2,-⟩:=q;subst q1;subst q2;exact⟨y,rfl,by unfold eF;rw[hq],(zG hq).2.2.1⟩
def lU(ae:List (List Int))(ag:List Int)(ep:Int)(aj:List Int)(text:List UInt8)(l:List Pr)(au z:Int):Bool × Int:=
 if dA ae ag ep aj text l≠0 then (az,dA ae ag ep aj text l) else tc ae ag aj text l au z
def aaa(c o):fe (.ptr (.box c) o) (.ptr (.box c) o)=ai:=by rw[fe,Lu,acs,acs];rfl
def KM{l}{au}{q}(h:mN l au=aa q):q∈l/\q.au=au:=by unfold mN at h;refine⟨List.mem_of_find?_eq_some h,?_⟩;have:=List.find?_some h;simpa using this
def Vf(f:Int->Nat):∀(l:List Nat) (k:Nat),(bP l).foldl (λx q=>x * f q%P) k=l.foldl (λx i=>x * f ((i:Nat):Int)%P) k
 | [],_=>rfl
 |a::l,k=>Vf f l _
def ahE(h:ao)(bJ:cO h=ai)(ep:Int)(X Y C T L:AV)(ae:List (List Int))(ag aj:List Int)(text:List UInt8)(l:List Pr)(au z:Int)
 (hx:RL X ae) (hy:IL Y ag) (hc:IL C aj) (ht:BL T text) (hp:PL L l) (dF:aj.length<=1000000) (eO:l.length<=1000000):
 ∃r h',W5.call 22 [.agg (aP ep X Y C),T,L,im au,im z] h=aa (r,h')/\r=.ret (.tuple [.v (.bool (lU ae ag ep aj text l au z).1),im (lU ae ag ep aj text l au z).2]):=by
 have bx:=vv (ep:=ep) hx hy hc;obtain⟨r1,h1,c1,x1,post⟩:=Nb (h.push (aP ep X Y C)) bJ ep X Y C T L ae ag aj text l hx hy hc ht hp dF eO;have b0:=bh h (aP ep X Y C);have l0:aI aq Gt (h.push (aP ep X Y C)) 27 (.ptr (.box h.boxes.length) 0)=aa (.agg (aP ep X Y C)):=by rw[iC aw (by kernel_rfl:dC aq 27=aa 4) b0 (jZ rfl)];rfl
 have kE1:al (dA ae ag ep aj text l≠0->lU ae ag ep aj text l au z=(az,dA ae ag ep aj text l)):=⟨λq=>by unfold lU;rw[aG q]⟩;have kE2:al (dA ae ag ep aj text l=0->lU ae ag ep aj text l au z=tc ae ag aj text l au z):=⟨λq=>by unfold lU;rw[aH (by simp[q])]⟩;have kbo:=al.mk (λq=>@Dt ae ag aj ep text l q);have kwt:=al.mk (λq=>@LR ae ag aj ep text l q);have zc:=abf;have zp:=AS;have kf:=al.mk (av hx (av hy (av hc hp)));have g1:=x1.box _ _ b0;have sC:=x1.ok bJ;generalize lU ae ag ep aj text l au z=res at *
 generalize dA ae ag ep aj text l=be at *
 clear hx hy hc ht hp b0 x1;refine da rfl Tryz.func22 rfl ?_;rcases post with⟨q,rfl⟩|⟨q,c,Wt,rfl,tf,w⟩
 ·have kr:=al.mk (kE1.out q);have st:=RE (H:=h1);have stn:cI aq (h1.push [.v (.pointer ar)]) 90 (.ptr (.box h1.boxes.length) 0) (.v (.pointer ar))=aa (h1.push [.v (.pointer ar)]):=l9 rfl aw rfl rfl;clear kE1 kE2 kbo kwt g1 sC;unfold im at *
  refine bV @Ii @bB ?_;exact⟨_,_,rfl,by rw[kr.out]⟩
 obtain⟨p1,p2,p3,p4,p5,p6⟩:=kbo.out q;obtain⟨y,a1,a2,a3⟩:=kwt.out q;have gG:=kE2.out q;subst q;have st:=RE (H:=h1) c;have g2:(h1.push [.ptr (.box c) 0]).boxes[h.boxes.length]?=aa (aP ep X Y C):=bA g1;have g3:=bh h1 [AV.ptr (.box c) 0];have w2:=w.mono (.push h1 [.ptr (.box c) 0]);obtain⟨b,vr,w3,-⟩:=w2.eC;obtain⟨_,h4,c2,x4,post⟩:=UX (h1.push [.ptr (.box c) 0]) c _ L l au [z] (.list .tight 1 [[.v (.int .i64 z)]]) w3 rfl kf.out.2.2.2 eO (Ko z) bH;rw[(bH:[z].all cU=cU z)] at post;have l1:aI aq Gt (h1.push [.ptr (.box c) 0]) 90 (.ptr (.box h1.boxes.length) 0)=aa (.ptr (.box c) 0):=dx wh g3 rfl;have bl:=qa z;have fE1:al (mN l au=ar∨cU z=az->tc ae ag aj text l au z=(az,1)):=⟨λq=>by
  unfold tc;cases uj:mN l au with
  |none=>rfl|some x=>
   rcases q with q|q
   ·rw[uj] at q;cases q
   ·simp only[q];rfl⟩
 have fE2:al (∀x,mN l au=aa x->cU z=ai->tc ae ag aj text l au z=(decide (bC Gn z=uD ae ag aj text l x),0)):=⟨λx q1 q2=>by unfold tc;rw[q1];simp only[q2];rfl⟩;clear w3;rcases post with⟨q,rfl⟩|⟨x,q1,q2,rfl⟩
 ·have kr:=al.mk (gG.trans (fE1.out q));have sq:=xB (H:=h4) ⟨0,0,0,0⟩;clear kE1 kE2 kbo kwt g1 g2 g3 w w2 sC fE1 fE2 gG a1 a2 a3 q p1 p2 p3 p6 x4;unfold im at *
  refine bV @Ii @bB ?_;exact⟨_,_,rfl,by rw[kr.out]⟩
 have kr:=al.mk (gG.trans (fE2.out x q1 q2));obtain⟨dB,uq⟩:=KM q1;have hm:=yV p6 x dB;have Wy:=x4.ok (show cO (h1.push [.ptr (.box c) 0])=ai from sC);have sq:=xB (H:=h4) x;obtain⟨h5,Ai⟩:∃h5,h4.push (bQ x)=h5:=⟨_,rfl⟩;have X5:Ext (h1.push [.ptr (.box c) 0]) h5:=by rw[<-Ai];exact x4.trans (.push _ _)
 have Wz:cO h5=ai:=by rw[<-Ai];exact Wy
 have k5:h5.boxes[h.boxes.length]?=aa (aP ep X Y C):=X5.box _ _ g2;have m5:h5.boxes[h1.boxes.length]?=aa [.ptr (.box c) 0]:=X5.box _ _ g3;have W5':=w2.mono X5;have q5:h5.boxes[h4.boxes.length]?=aa (bQ x):=by rw[<-Ai];exact bh _ _
 have lp5:=w8 q5;have lw5:aI aq Gt h5 90 (.ptr (.box h1.boxes.length) 0)=aa (.ptr (.box c) 0):=dx wh m5 rfl;obtain⟨_,h6,c3,x6,rfl⟩:=Yq h5 c ep X Y C T L Wt _ _ aj text l W5' x ⟨ah,by omega⟩ hm.2.2.2.2.1 hm.2.2.2.2.2;have WA:=x6.ok Wz;have m6:=x6.box _ _ m5;have lw6:aI aq Gt h6 90 (.ptr (.box h1.boxes.length) 0)=aa (.ptr (.box c) 0):=dx wh m6 rfl;have c4:=ZC h6 c au;have W6':=W5'.mono x6;obtain⟨b6,vr6,w6,-⟩:=W6'.eC;have WB:cO ((h6.push [.ptr (.box c) 0]).push [.v (.int .i64 au)])=ai:=WA;obtain⟨_,h8,c5,x8,Z,rfl,hZ⟩:=af1 ((h6.push [.ptr (.box c) 0]).push [.v (.int .i64 au)]) WB c h6.boxes.length (h6.boxes.length+1) Y ag au _ kf.out.2.1 (by obtain⟨o1,o2,-⟩:=o9 p1;omega)
  (bA (bh _ _)) (nb (by rw[cX])) (bA (bA w6)) rfl
 have X8:Ext h5 h8:=x6.trans (((Ext.push _ _).trans (.push _ _)).trans x8);have tj:jo ae ag aj=0:=by unfold jo;rw[aH (by simp[p1]),aG (by rw[cz p2,p3];rfl)]
 obtain⟨o1,o2,o3,o4⟩:=o9 p1;have cS:∀q∈bP (eu ag au),∃i:Nat,q=(i:Int)/\i<ae.length:=λq hq=>by unfold bP at hq;obtain⟨i,hi,rfl⟩:=ju.1 hq;unfold eu at hi;exact⟨i,rfl,by rw[o1];exact gB.1 (uL.1 hi).1⟩
 have tD:(bP (eu ag au)).length<=1000000:=by unfold bP eu;rw[bE];exact fJ (FK _ _) (by rw[ab6];omega)
 obtain⟨_,h9,c6,x9,rfl⟩:=ant 67 [] [.ptr (.box h.boxes.length) 0,.ptr (.box h1.boxes.length) 0] (vJ ae aj (eF ae ag l) ((eZ (ak aj 0) text l:Nat):Int)) h8 Z (bP (eu ag au)) hZ tD
  (λq hq=>by unfold vJ;exact vI (HL p3) _)
  (λq hq H hH=>by obtain⟨i,rfl,hi⟩:=cS q hq;exact anv H h.boxes.length h1.boxes.length c ep X Y C T L Wt _ _ ae ag aj (eF ae ag l) text l kf.out.1 kf.out.2.1 kf.out.2.2.1 tf dF tj (by rw[a2];exact a3) ((X8.trans hH).box _ _ k5) ((X8.trans hH).box _ _ m5) (W5'.mono (X8.trans hH)) i hi)
 rw[Vf] at c6;have hN:=Cr (c0:=ak aj 0) (text:=text) (l:=l) hm.2.2.2.2.1 hm.2.2.2.2.2;have hF:elem ((eu ag au).foldl (λx i=>x * vJ ae aj (eF ae ag l) ((eZ (ak aj 0) text l:Nat):Int) ((i:Nat):Int)%P) 1)=ai:=AG (λi _=>by unfold vJ;exact vI (HL p3) _) zR;have c7:=DO ((iL (ak aj 0) text l x:Nat):Int) (((eu ag au).foldl (λx i=>x * vJ ae aj (eF ae ag l) ((eZ (ak aj 0) text l:Nat):Int) ((i:Nat):Int)%P) 1:Nat):Int);have Xk:iL (ak aj 0) text l x * ((eu ag au).foldl (λx i=>x * vJ ae aj (eF ae ag l) ((eZ (ak aj 0) text l:Nat):Int) ((i:Nat):Int)%P) 1)%P=uD ae ag aj text l x:=by unfold uD vJ;rw[uq];simp only[dK]
 rw[JK hN hF,Xk] at c7;have c8:=HK 4 z;have hG:(4:Int).toNat=Gn:=rfl;rw[ox r9,hG] at c8;have hd:decide (bC Gn z=uD ae ag aj text l x)=decide (((bC Gn z:Nat):Int)=((uD ae ag aj text l x:Nat):Int)):=by rw[decide_eq_decide];omega
 rw[hd] at kr;clear kE1 kE2 kbo kwt fE1 fE2 gG a1 a2 a3 p1 p2 p3 p6 x4 X5 sC Wy Wz WA WB g1 g2 g3 w w2 W5' W6' w6 k5 m5 q5 m6 x6 x8 X8 x9 hZ tj o1 o2 o3 o4 cS tD hN hF Xk hG hd hm dB uq q1 q2 tf;generalize ((uD ae ag aj text l x:Nat):Int)=wv at *
 generalize ((bC Gn z:Nat):Int)=pz at *
 generalize ((iL (ak aj 0) text l x:Nat):Int)=nv at *
 generalize (((eu ag au).foldl (λx i=>x * vJ ae aj (eF ae ag l) ((eZ (ak aj 0) text l:Nat):Int) ((i:Nat):Int)%P) 1:Nat):Int)=fv at *
 unfold im at *
 refine bV @Ii @bB ?_;refine my [(2,3)] lO aw (λp hp=>?_) ?_
 ·simp only[lu] at hp;subst hp;refine rD (x:=.ptr (.box h1.boxes.length) 0) (v:=.ptr (.box c) 0) aw rfl rfl rfl aw (aaa c 0) ?_ ?_<;>(simp only[gl,fm];exact jI @Ii @and_self)
 refine bI @Ii ?_;exact⟨_,_,rfl,by rw[kr.out]⟩
end Go.Proofs.YtnfciiiohoafaaaGreatDoor
end
section
namespace Go.AE
section
variable {P:Program} {G:Nat->Option (List AV)} {R:Rec}
def LA{ops:Array Oper}{e:Env}{h:ao}{i j:Nat}{o:Oper}{t:TypeId}{a:Operand}(ud:pD ops i j=ai)(ho:ops[j]?=aa o)(bU:o.op=.load t a)
 (hj:(ops[i]?).map (λo=>jD o.op)=aa .acts) {x v:AV} (hv:fe v v=ai)
 (h1:cP P G R ops (ops.toList.take j) e h (λq er hr=>q=.normal/\ff ops er o=aa ai/\er.eval a=x/\aI P G hr t x=aa v))
 (h2:cP P G R ops (ops.toList.take i) e h (λq _ hm=>q=.normal/\aI P G hm t x=aa v)):l8 P G R ops e h i j=ai:=by
 have hi:i<ops.size:=by
  rcases dV i ops.size with hh|hh
  ·exact hh
  ·rw[xE hh] at hj;cases hj
 have OF:j<ops.size:=by
  rcases dV j ops.size with hh|hh
  ·exact hh
  ·rw[xE hh] at ho;cases ho
 have hc:(ops[j]?).map (λo=>jD o.op)=aa .reads:=by rw[ho];simp only[eW,bU];rfl
 unfold l8;rw[ud,hc,hj];simp only[oc];unfold pR;rw[ho,sI ah,sI ah];obtain⟨q1,er,hr,e1,rfl,e0,e2,e3⟩:=h1;obtain⟨q2,em,hm,f1,rfl,f2⟩:=h2;rw[e1,f1];simp only[e0,bU,e2,e3,f2,hv]
def aaC{ops:Array Oper}{e:Env}{h:ao}{i j:Nat}{o:Oper}{t:TypeId}{a:Operand}(ud:pD ops i j=ai)(ho:ops[j]?=aa o)(bU:o.op=.load t a)
 (hj:(ops[i]?).map (λo=>jD o.op)=aa .acts)
 (h1:cP P G R ops (ops.toList.take j) e h (λq er hr=>q=.normal/\ff ops er o=aa az))
 (h2:cP P G R ops (ops.toList.take i) e h (λq _ hm=>q=.normal)):l8 P G R ops e h i j=ai:=by
 have hi:i<ops.size:=by
  rcases dV i ops.size with hh|hh
  ·exact hh
  ·rw[xE hh] at hj;cases hj
 have OF:j<ops.size:=by
  rcases dV j ops.size with hh|hh
  ·exact hh
  ·rw[xE hh] at ho;cases ho
 have hc:(ops[j]?).map (λo=>jD o.op)=aa .reads:=by rw[ho];simp only[eW,bU];rfl
 unfold l8;rw[ud,hc,hj];simp only[oc];unfold pR;rw[ho,sI ah,sI ah];obtain⟨q1,er,hr,e1,rfl,e0⟩:=h1;obtain⟨q2,em,hm,f1,rfl⟩:=h2;rw[e1,f1];simp only[e0]
end
end Go.AE
end
section
namespace Go.Proofs.YtnfciiiohoafaaaGreatDoor
open Go.AE Go.NT
def lX:Tryz.f20.results.toList=[.cell 14 3,.cell 15 32]:=aw
def ap3(ag)(au){k}:∀{n:Nat},k<=n->∃t,ey ag au n=ey ag au k++t:=by
 intro n
 induction n with
 |zero=>intro h;exact⟨[],by rw[(ah:k=0)];simp⟩
 |succ n ih=>
  intro h;rcases dV n k with aB|ec
  ·exact⟨[],by rw[(ah:k=n+1)];simp⟩
  ·obtain⟨t,ht⟩:=ih ec;by_cases hq:ak ag n=au
   ·exact⟨t++[n],by rw[HT hq,ht,sR]⟩
   ·exact⟨t,by rw[Cw hq,ht]⟩
def aml{ae}{ag aj}{au}{s}(h:lj ae ag aj au s=ai){k}(hk:k<ag.length)(hq:ak ag k=au):
 ∃p,s[(ey ag au k).length]?=aa p/\p.1=((k:Nat):Int)/\y6 ae aj p=ai:=by
 unfold lj at h;rw[bL,decide_eq_true_eq] at h;obtain⟨h1,h2⟩:=h;obtain⟨t,ht⟩:=ap3 ag au (ah:k+1<=ag.length);rw[K4,HT hq] at ht;have e:(s.map rM)[(ey ag au k).length]?=aa ((k:Nat):Int):=by rw[h1,ht,ev,sR,zC (aM _),tU];rfl
 rw[ev] at e;cases hp:s[(ey ag au k).length]? with
 |none=>rw[hp] at e;cases e
 |some p=>rw[hp] at e;injection e with e;rw[ej] at h2;exact⟨p,rfl,e,h2 p (dn hp)⟩
def Is{H}{b}{x}{n}(hb:H.boxes[b]?=aa [x]):cI aq H 3 (.ptr (.box b) 0) (.v (.int .i64 n))=aa (H.put b [.v (.int .i64 n)]):=ig (off:=0) (cs:=[x]) (xs:=[.v (.int .i64 n)]) rfl fH hb rfl (aM 1)
def MV:gU aq 36=aa az:=aw
def Ir{H}{b}{x}{n}(hb:H.boxes[b]?=aa [x]):cI aq H 32 (.ptr (.box b) 0) (.v (.int .i64 n))=aa (H.put b [.v (.int .i64 n)]):=ig (off:=0) (cs:=[x]) (xs:=[.v (.int .i64 n)]) rfl aa1 hb rfl (aM 1)
def auJ:(jf aq 3).bind AV.cD=aa [.v (.int .i64 0)]:=aw
def auI:(jf aq 32).bind AV.cD=aa [.v (.int .i64 0)]:=aw
def abc{y}{s:List (Int × Int)}{i}{p}(h:s[i]?=aa p):gZ y (s.take (i+1))=cQ (gZ y (s.take i)) (bX (ak y p.1.toNat) p.2):=by unfold gZ;rw[fW h,oM];rfl
def SL.ix{x}{l}(h:SL x l){i}(hi:i<l.length):dG aq 36 x (.v (.int .i64 (i:Nat)))=aa (.elem 2 (fV l) i 0):=by obtain⟨k,s,rfl,hs⟩:=h;have bF:s=2:=hs (by intro q;rw[q] at hi;simp at hi);subst bF;have:=a9 (k:=k) (kk:=.i64) (es:=fV l) (a:=((i:Nat):Int)) Dl Ff ah (by rw[Fa];omega);rw[this,dK]
def SL.dW{x}{l}(h:SL x l):dW aq 36 x=aa (.v (.int .i64 (l.length:Nat))):=by obtain⟨k,s,rfl,-⟩:=h;have u36:=Dl;unfold Go.AE.dW;rw[u36];simp only[Fa]
def SL.cD{x}{l}(h:SL x l):x.cD=aa [x]:=by obtain⟨k,s,rfl,-⟩:=h;rfl
structure FP(Hb:ao)(li:Nat)(rec:iN)(je ib zb eb:Nat)(ae:List (List Int))(ag aj W:List Int)(au:Int)(s:List (Int × Int))(k:Nat)(H:ao):Prop where
 lp:H.loops[li]?=aa rec
 dh:∀(a:Nat) (cs:List AV),Hb.boxes[a]?=aa cs->a≠je->a≠ib->H.boxes[a]?=aa cs
 sum:H.boxes[je]?=aa [.v (.int .i64 (gZ W (s.take (ey ag au k).length)))]
 ix:H.boxes[ib]?=aa [.v (.int .i64 ((ey ag au k).length:Nat))]
 le:(ey ag au k).length<=s.length
 same:(s.take (ey ag au k).length).map rM=(ey ag au k).map λ(i:Nat)=>(i:Int)
 ok:(s.take (ey ag au k).length).all (y6 ae aj)=ai
structure FQ(li:Nat)(rec:iN)(zb eb:Nat)(H:ao):Prop where
 lp:H.loops[li]?=aa {rec with state:=.done,pending:=aa .ret}
 z:H.boxes[zb]?=aa [.v (.int .i64 0)]
 e:H.boxes[eb]?=aa [.v (.int .i64 340)]
def afL{ae}{ag aj}(p1:de ae ag=0)(p2:aj.length=b9 ae)(p3:aj.all bN=ai):jo ae ag aj=0:=by unfold jo;rw[aH (by simp[p1]),aG (by rw[cz p2,p3];rfl)]
def ahL{ae}{ag aj}(hc:jo ae ag aj=0){k}{v}(hk:k<ae.length):
 (y6 ae aj (((k:Nat):Int),v)=ai/\s9 ae ag aj (((k:Nat):Int),v)=(ai,0))∨(y6 ae aj (((k:Nat):Int),v)=az/\(s9 ae ag aj (((k:Nat):Int),v)=(az,340)∨s9 ae ag aj (((k:Nat):Int),v)=(az,0))):=by
 have hr:jm ae (((k:Nat):Int),v)=cU v:=by unfold jm;rw[cz (show(0:Int)<=((k:Nat):Int) by omega),cz (show((k:Nat):Int)<(ae.length:Int) by omega)];rfl
 unfold y6 s9;rw[aH (by simp[hc]),hr];simp only[dK];cases hv:cU v with
 |false=>exact .inr ⟨rfl,.inl rfl⟩|true=>
  by_cases hq:bC Gn v=gN aj (ae.getD k [])
  ·left;rw[cz hq];exact⟨rfl,rfl⟩
  ·right;rw[cT hq];exact⟨rfl,.inr rfl⟩
def Bt{Hx}{zb eb}{x y}(hz:Hx.boxes[zb]?=aa [x])(he:Hx.boxes[eb]?=aa [y])(bO:zb≠eb)(n m):
 cI aq Hx 3 (.ptr (.box zb) 0) (.v (.int .i64 n))=aa (Hx.put zb [.v (.int .i64 n)])/\aI aq Gt Hx 32 (.ptr (.box eb) 0)=aa y/\aI aq Gt (Hx.put zb [.v (.int .i64 n)]) 32 (.ptr (.box eb) 0)=aa y/\
  cI aq (Hx.put zb [.v (.int .i64 n)]) 32 (.ptr (.box eb) 0) (.v (.int .i64 m))=aa ((Hx.put zb [.v (.int .i64 n)]).put eb [.v (.int .i64 m)])/\
  aI aq Gt ((Hx.put zb [.v (.int .i64 n)]).put eb [.v (.int .i64 m)]) 3 (.ptr (.box zb) 0)=aa (.v (.int .i64 n))/\aI aq Gt ((Hx.put zb [.v (.int .i64 n)]).put eb [.v (.int .i64 m)]) 32 (.ptr (.box eb) 0)=aa (.v (.int .i64 m)):=by
 have jk:=(aV.1 hz).1;have iI:=(aV.1 he).1;have q:(Hx.put zb [AV.v (.int .i64 n)]).boxes[eb]?=aa [y]:=by rw[dg (Ne.symm bO)];exact he
 have q2:((Hx.put zb [AV.v (.int .i64 n)]).put eb [AV.v (.int .i64 m)]).boxes[zb]?=aa [.v (.int .i64 n)]:=by rw[dg bO];exact eP jk
 have q3:((Hx.put zb [AV.v (.int .i64 n)]).put eb [AV.v (.int .i64 m)]).boxes[eb]?=aa [.v (.int .i64 m)]:=eP (by rw[mP];exact iI);exact⟨Is hz,dx Bd he rfl,dx Bd q rfl,Ir q,dx fa q2 rfl,dx Bd q3 rfl⟩
def lq(ae:List (List Int))(ag:List Int)(ep:Int)(aj:List Int)(text:List UInt8)(l:List Pr)(au:Int)(s:List (Int × Int))(d f:Int):Int × Int:=
 if dA ae ag ep aj text l≠0 then (0,dA ae ag ep aj text l) else xc ae ag aj text l au s d f
def Kz{ae}{ag aj}{text}{l}{au}{s}{d f}(h:mN l au=ar∨[d,f].all cU=az):xc ae ag aj text l au s d f=(0,1):=by
 unfold xc;cases hp:mN l au with
 |none=>rfl|some x=>
  rcases h with q|q
  ·rw[hp] at q;cases q
  ·have:(cU d&&cU f)=az:=(by simpa using q);simp only[this];rfl
def Ye{ae}{ag aj}{text}{l}{au}{s}{d f}{x}(h:mN l au=aa x)(hq:[d,f].all cU=ai):xc ae ag aj text l au s d f=
 if lj ae ag aj au s=az then (0,340) else if ¬((bC Gn d:Nat):Int)=x.d∨¬((bC Gn f:Nat):Int)=x.e then (0,420)
 else (cQ (cQ d (bX f (eY (ak aj 0) text l au))) (bX (eZ (ak aj 0) text l) (gZ (eF ae ag l) s)),0):=by
 unfold xc;have:(cU d&&cU f)=ai:=by simpa using hq
 rw[h];simp only[this];cases lj ae ag aj au s<;>rfl
def aeG(a b):fX aq 23 2 [(0,.v (.int .i64 a)),(1,.v (.int .i64 b))]=aa (.list .tight 1 (ints [a,b])):=aw
def alh(h:ao)(bJ:cO h=ai)(ep:Int)(X Y C T L S:AV)(ae:List (List Int))(ag aj:List Int)(text:List UInt8)(l:List Pr)(s:List (Int × Int))(au d f:Int)
 (hx:RL X ae) (hy:IL Y ag) (hc:IL C aj) (ht:BL T text) (hp:PL L l) (hs:SL S s) (dF:aj.length<=1000000) (eO:l.length<=1000000) (kK:s.length<=1000000):
 ∃r h',W5.call 20 [.agg (aP ep X Y C),T,L,.v (.int .i64 au),S,.v (.int .i64 d),.v (.int .i64 f)] h=aa (r,h')/\r=.ret (.tuple [.v (.int .i64 (lq ae ag ep aj text l au s d f).1),.v (.int .i64 (lq ae ag ep aj text l au s d f).2)]):=by
 have bx:=vv (ep:=ep) hx hy hc;have bS:=hs.cD;have zc:=abf;have zp:=AS;have z3:=auJ;have z32:=auI;obtain⟨h0,DY⟩:∃h0,(((h.push (aP ep X Y C)).push [S]).push [.v (.int .i64 0)]).push [.v (.int .i64 0)]=h0:=⟨_,rfl⟩;obtain⟨sb,kD⟩:∃n,(h.push (aP ep X Y C)).boxes.length=n:=⟨_,rfl⟩;obtain⟨zb,PA⟩:∃n,((h.push (aP ep X Y C)).push [S]).boxes.length=n:=⟨_,rfl⟩;obtain⟨eb,Om⟩:∃n,(((h.push (aP ep X Y C)).push [S]).push [.v (.int .i64 0)]).boxes.length=n:=⟨_,rfl⟩;obtain⟨kb,ug⟩:∃n,h.boxes.length=n:=⟨_,rfl⟩;have o1:kb<sb/\sb<zb/\zb<eb:=by rw[<-ug,<-kD,<-PA,<-Om];simp only[cX];omega
 have gk:h0.boxes[kb]?=aa (aP ep X Y C):=by rw[<-DY,<-ug];exact bA (bA (bA (bh _ _)))
 have gs:h0.boxes[sb]?=aa [S]:=by rw[<-DY,<-kD];exact bA (bA (bh _ _))
 have gz:h0.boxes[zb]?=aa [.v (.int .i64 0)]:=by rw[<-DY,<-PA];exact bA (bh _ _)
 have ge:h0.boxes[eb]?=aa [.v (.int .i64 0)]:=by rw[<-DY,<-Om];exact bh _ _
 have OV:cO h0=ai:=by rw[<-DY];exact bJ
 obtain⟨r1,h1,c1,x1,post⟩:=Nb h0 OV ep X Y C T L ae ag aj text l hx hy hc ht hp dF eO;have l0:aI aq Gt h0 27 (.ptr (.box kb) 0)=aa (.agg (aP ep X Y C)):=by rw[iC aw (by kernel_rfl:dC aq 27=aa 4) gk (jZ rfl)];rfl
 have kE1:al (dA ae ag ep aj text l≠0->lq ae ag ep aj text l au s d f=(0,dA ae ag ep aj text l)):=⟨λq=>by unfold lq;rw[aG q]⟩;have kE2:al (dA ae ag ep aj text l=0->lq ae ag ep aj text l au s d f=xc ae ag aj text l au s d f):=⟨λq=>by unfold lq;rw[aH (by simp[q])]⟩;have kbo:=al.mk (λq=>@Dt ae ag aj ep text l q);have kwt:=al.mk (λq=>@LR ae ag aj ep text l q);have kf:=al.mk (av hx (av hy (av hc (av hp hs))));have gk1:=x1.box _ _ gk;have gs1:=x1.box _ _ gs;have lP:=x1.box _ _ gz;have ge1:=x1.box _ _ ge;have sC:=x1.ok OV;have lS:=hs.dW;generalize lq ae ag ep aj text l au s d f=res at *
 generalize dA ae ag ep aj text l=be at *
 have Wm:=(aV.1 ge1).1;clear hx hy hc ht hp hs x1 gk gs gz ge OV bJ;refine da rfl Tryz.func20 rfl ?_;rcases post with⟨q,rfl⟩|⟨q,c,Wt,rfl,tf,w⟩
 ·have kr:=al.mk (kE1.out q);have stn:cI aq (h1.push [.v (.pointer ar)]) 90 (.ptr (.box h1.boxes.length) 0) (.v (.pointer ar))=aa (h1.push [.v (.pointer ar)]):=l9 rfl aw rfl rfl;have ste:cI aq (h1.push [.v (.pointer ar)]) 32 (.ptr (.box eb) 0) (.v (.int .i64 be))=aa ((h1.push [.v (.pointer ar)]).put eb [.v (.int .i64 be)]):=Ir (bA ge1);obtain⟨a1,a2,a3,a4,a5,a6⟩:=Bt (Hx:=(h1.push [.v (.pointer ar)]).put eb [.v (.int .i64 be)]) (zb:=zb) (eb:=eb) (x:=.v (.int .i64 0)) (y:=.v (.int .i64 be)) (by rw[dg ah];exact bA lP) (eP (by rw[cX];omega)) ah 0 be;clear kE1 kE2 kbo kwt gk1 gs1 lP ge1 sC;refine bV @lX @bB ?_;refine my [(0,1)] lO aw (λp hp=>?_) ?_
  ·simp only[lu] at hp;subst hp;refine AP (x:=.ptr (.box eb) 0) (v:=.v (.int .i64 be)) aw rfl rfl rfl aw (by simp[fe,lY]) ?_ ?_<;>(simp only[gl,fm];exact jI @lX @and_self)
  refine bI @lX ?_;exact⟨_,_,rfl,by rw[kr.out]⟩
 obtain⟨p1,p2,p3,p4,p5,p6⟩:=kbo.out q;obtain⟨y,w1,w2,w3⟩:=kwt.out q;have gG:=kE2.out q;have tj:=afL p1 p2 p3;subst q;clear kE1 kE2 kbo kwt;obtain⟨h2,si⟩:∃h2,h1.push [.ptr (.box c) 0]=h2:=⟨_,rfl⟩;obtain⟨wb,Cf⟩:∃n,h1.boxes.length=n:=⟨_,rfl⟩;have stn:cI aq (h1.push [.v (.pointer ar)]) 90 (.ptr (.box wb) 0) (.ptr (.box c) 0)=aa h2:=by rw[<-si,<-Cf];exact RE c
 have gk2:h2.boxes[kb]?=aa (aP ep X Y C):=by rw[<-si];exact bA gk1
 have gs2:h2.boxes[sb]?=aa [S]:=by rw[<-si];exact bA gs1
 have jI:h2.boxes[zb]?=aa [.v (.int .i64 0)]:=by rw[<-si];exact bA lP
 have ge2:h2.boxes[eb]?=aa [.v (.int .i64 0)]:=by rw[<-si];exact bA ge1
 have gw2:h2.boxes[wb]?=aa [.ptr (.box c) 0]:=by rw[<-si,<-Cf];exact bh _ _
 have ste:cI aq h2 32 (.ptr (.box eb) 0) (.v (.int .i64 0))=aa h2:=by rw[Ir ge2,sM ge2]
 have le2:aI aq Gt h2 32 (.ptr (.box eb) 0)=aa (.v (.int .i64 0)):=dx Bd ge2 rfl;have lw2:aI aq Gt h2 90 (.ptr (.box wb) 0)=aa (.ptr (.box c) 0):=dx wh gw2 rfl;have W2:uP h2 c ep X Y C T L Wt ((gV (ak aj 0) text l:Nat):Int) ((eZ (ak aj 0) text l:Nat):Int) aj text l:=by rw[<-si];exact w.mono (.push _ _)
 have B4:cO h2=ai:=by rw[<-si];exact sC
 obtain⟨b,vr,w4,-⟩:=W2.eC;obtain⟨_,h3,c2,x3,post⟩:=UX h2 c _ L l au [d,f] (.list .tight 1 (ints [d,f])) w4 rfl kf.out.2.2.2.1 eO ⟨_,_,rfl,λ_=>rfl⟩ bH;have bl:=aeG d f;have avt:eb<wb:=by rw[<-Cf];exact Wm
 clear w4 w gk1 gs1 lP ge1 sC Wm;have td:=x3.box _ _ jI;have ge3:=x3.box _ _ ge2;rcases post with⟨q,rfl⟩|⟨x,q1,q2,rfl⟩
 ·have kr:=al.mk (gG.trans (Kz q));have sq:=xB (H:=h3) ⟨0,0,0,0⟩;have se:cI aq (h3.push (bQ ⟨0,0,0,0⟩)) 32 (.ptr (.box eb) 0) (.v (.int .i64 1))=aa ((h3.push (bQ ⟨0,0,0,0⟩)).put eb [.v (.int .i64 1)]):=Ir (bA ge3);obtain⟨a1,a2,a3,a4,a5,a6⟩:=Bt (Hx:=(h3.push (bQ ⟨0,0,0,0⟩)).put eb [.v (.int .i64 1)]) (zb:=zb) (eb:=eb) (x:=.v (.int .i64 0)) (y:=.v (.int .i64 1)) (by rw[dg ah];exact bA td) (eP (by rw[cX];have:=(aV.1 ge3).1;omega)) ah 0 1;clear gG q W2 x3 gk2 gs2 jI ge2 gw2 B4 td ge3 p1 p2 p3 p6 w1 w2 w3 tj tf;refine bV @lX @bB ?_;refine my [(0,1)] lO aw (λp hp=>?_) ?_
  ·simp only[lu] at hp;subst hp;refine AP (x:=.ptr (.box eb) 0) (v:=.v (.int .i64 1)) aw rfl rfl rfl aw (by simp[fe,lY]) ?_ ?_<;>(simp only[gl,fm];exact jI @lX @and_self)
  refine bI @lX ?_;exact⟨_,_,rfl,by rw[kr.out]⟩
 rw[Ye q1 q2] at gG;obtain⟨dB,uq⟩:=KM q1;have hm:=yV p6 x dB;have sq:=xB (H:=h3) x;obtain⟨h4,JV⟩:∃h4,h3.push (bQ x)=h4:=⟨_,rfl⟩;obtain⟨pb,O5⟩:∃n,h3.boxes.length=n:=⟨_,rfl⟩;rw[JV,O5] at sq;have o3:wb<pb:=by have z1:=(aV.1 gw2).1;have z2:=x3.len;omega
 have X4:Ext h2 h4:=by rw[<-JV];exact x3.trans (.push _ _)
 have gk4:=X4.box _ _ gk2;have gs4:=X4.box _ _ gs2;have mf:=X4.box _ _ jI;have ge4:=X4.box _ _ ge2;have gw4:=X4.box _ _ gw2;have gp4:h4.boxes[pb]?=aa (bQ x):=by rw[<-JV,<-O5];exact bh _ _
 have W4':=W2.mono X4;have ste4:cI aq h4 32 (.ptr (.box eb) 0) (.v (.int .i64 0))=aa h4:=by rw[Ir ge4,sM ge4]
 have le4:aI aq Gt h4 32 (.ptr (.box eb) 0)=aa (.v (.int .i64 0)):=dx Bd ge4 rfl;obtain⟨h5,Ai⟩:∃h5,(h4.push [.v (.int .i64 0)]).push [.v (.int .i64 0)]=h5:=⟨_,rfl⟩;obtain⟨je,Kj⟩:∃n,h4.boxes.length=n:=⟨_,rfl⟩;obtain⟨ib,OA⟩:∃n,(h4.push [.v (.int .i64 0)]).boxes.length=n:=⟨_,rfl⟩;have o2:pb<je/\je<ib:=by refine⟨?_,by rw[<-Kj,<-OA,cX];omega⟩;rw[<-Kj];exact(aV.1 gp4).1
 have gsum5:h5.boxes[je]?=aa [.v (.int .i64 0)]:=by rw[<-Ai,<-Kj];exact bA (bh _ _)
 have gib5:h5.boxes[ib]?=aa [.v (.int .i64 0)]:=by rw[<-Ai,<-OA];exact bh _ _
 have X5:Ext h4 h5:=by rw[<-Ai];exact(Ext.push _ _).trans (.push _ _)
 have st5a:cI aq h5 3 (.ptr (.box je) 0) (.v (.int .i64 0))=aa h5:=by rw[Is gsum5,sM gsum5]
 have st5b:cI aq h5 3 (.ptr (.box ib) 0) (.v (.int .i64 0))=aa h5:=by rw[Is gib5,sM gib5]
 have gw5:=X5.box _ _ gw4;have lw5:aI aq Gt h5 90 (.ptr (.box wb) 0)=aa (.ptr (.box c) 0):=dx wh gw5 rfl;have c3:=ZC h5 c au;obtain⟨h6,BR⟩:∃h6,(h5.push [.ptr (.box c) 0]).push [.v (.int .i64 au)]=h6:=⟨_,rfl⟩;rw[BR] at c3;have X6:Ext h4 h6:=by rw[<-BR];exact X5.trans ((Ext.push _ _).trans (.push _ _))
 have gsum6:h6.boxes[je]?=aa [.v (.int .i64 0)]:=by rw[<-BR];exact bA (bA gsum5)
 have gib6:h6.boxes[ib]?=aa [.v (.int .i64 0)]:=by rw[<-BR];exact bA (bA gib5)
 have ga6:h6.boxes[h5.boxes.length]?=aa [.ptr (.box c) 0]:=by rw[<-BR];exact bA (bh _ _)
 have gb6:h6.boxes[h5.boxes.length+1]?=aa [.v (.int .i64 au)]:=by rw[<-BR];exact nb (by rw[cX])
 have l5:je<h5.boxes.length/\ib<h5.boxes.length:=⟨(aV.1 gsum5).1,(aV.1 gib5).1⟩;have kall:=al.mk (av gG (av uq (av hm (av w2 (av w3 tf)))));have kprog:=al.mk (av p1 (av p3 tj));have gk6:=X6.box _ _ gk4;have gs6:=X6.box _ _ gs4;have wD:=X6.box _ _ mf;have ge6:=X6.box _ _ ge4;have gw6:=X6.box _ _ gw4;have gp6:=X6.box _ _ gp4;have W6':=W4'.mono X6;have kst:=al.mk (av gk6 (av gs6 (av wD (av ge6 (av gw6 (av gp6 W6'))))));have sumv:je<h4.boxes.length+1:=by omega
 have kxl:=dB;clear gG uq hm w1 w2 w3 tf p1 p3 tj gk6 gs6 wD ge6 gw6 gp6 W6' W4' W2 gk4 gs4 mf ge4 gw4 gp4 gk2 gs2 jI ge2 gw2 td ge3 q1 q2 dB x3 X4 X5 gw5 gsum5 gib5 B4 p2 p6 sumv;refine bV @lX @bB ?_;refine bM.gen λe4 jq sg wT uk=>?_;have f5:e4.get 5=.v (.int .i64 d):=by rw[jq];exact gS
 have f6:e4.get 6=.v (.int .i64 f):=by rw[jq];exact gS
 have f7:e4.get 7=.ptr (.box kb) 0:=by rw[jq];exact gS
 have f11:e4.get 11=.ptr (.box sb) 0:=by rw[jq];exact gS
 have f14:e4.get 14=.ptr (.box zb) 0:=by rw[jq];exact gS
 have f15:e4.get 15=.ptr (.box eb) 0:=by rw[jq];exact gS
 have f16:e4.get 16=.ptr (.box wb) 0:=by rw[jq];exact gS
 have f17:e4.get 17=.ptr (.box pb) 0:=by rw[jq];exact gS
 have f18:e4.get 18=.ptr (.box je) 0:=by rw[jq];exact gS
 have f19:e4.get 19=.ptr (.box ib) 0:=by rw[jq];exact gS
 have f47:e4.get 47=.func (.func 128) [] [.ptr (.box h5.boxes.length) 0,.ptr (.box (h5.boxes.length+1)) 0]:=by rw[jq];exact gS
 have fd:e4.defers=[]:=by rw[sg];exact gS
 clear jq sg wT uk c1 c2 c3 l0 lS bl stn ste le2 lw2 sq ste4 le4 st5a st5b lw5 zc zp z3 z32 bx bS DY kD PA Om ug si Cf JV O5 Ai Kj OA BR;obtain⟨gk6,gs6,wD,ge6,gw6,gp6,W6⟩:=kst.out;obtain⟨p1,p3,tj⟩:=kprog.out;obtain⟨gG,uq,hm,w2,w3,tf⟩:=kall.out;have kW:=al.mk W6;clear kst kprog kall W6;obtain⟨og1,og2,og3,og4⟩:=o9 p1;have eg:cO h6=cO h6:=rfl;refine E4 (by rw[Bq];exact f47) λrec v1 v2 v3 v4 v5 v6=>?_;have ji:(h6.loop rec).loops[h6.loops.length]?=aa rec:=@EB h6 rec;have feed:=ZE h6.loops.length h5.boxes.length (h5.boxes.length+1) c Y ag au (FP (h6.loop rec) h6.loops.length rec je ib zb eb ae ag aj (eF ae ag l) au s)
  (λH=>FQ h6.loops.length rec zb eb H/\lj ae ag aj au s=az) kf.out.2.1 ah
  (λk H q=>by
   obtain⟨b6,vr6,z1,-⟩:=kW.out.eC;refine⟨q.dh _ _ ga6 ah ah,q.dh _ _ gb6 ah ah,_,q.dh _ _ z1 (λe=>?_) (λe=>?_),rfl⟩
   ·rw[e] at z1;rw[gsum6] at z1;unfold il at z1;simp at z1
   ·rw[e] at z1;rw[gib6] at z1;unfold il at z1;simp at z1)
  ?_
  (λk H hk hc q=>⟨q.lp,q.dh,by rw[Cw hc];exact q.sum,by rw[Cw hc];exact q.ix,by rw[Cw hc];exact q.le,by rw[Cw hc];exact q.same,by rw[Cw hc];exact q.ok⟩)
  (h6.loop rec) ⟨ji,λa cs ha _ _=>ha,gsum6,gib6,cG _,by simp[ey],by simp[ey]⟩
 rotate_left 1
 ·intro k H hk hc q;have wR:=q.lp
  suffices hs:∃b H',W5.round h6.loops.length [.v (.int .i64 (k:Nat))] H=aa (.ret (.v (.bool b)),H')/\if b=ai then FP (h6.loop rec) h6.loops.length rec je ib zb eb ae ag aj (eF ae ag l) au s (k+1) H' else (FQ h6.loops.length rec zb eb H'/\lj ae ag aj au s=az) by
   obtain⟨b,H',q1,q2⟩:=hs;cases b with|true=>exact .inl ⟨H',q1,q2⟩|false=>exact .inr ⟨H',q1,q2⟩
  refine apS (Post:=λb H'=>if b=ai then FP (h6.loop rec) h6.loops.length rec je ib zb eb ae ag aj (eF ae ag l) au s (k+1) H' else (FQ h6.loops.length rec zb eb H'/\lj ae ag aj au s=az)) wR (by rw[v2];rfl) v5 v6 ?_;have r1:∀t,(nX h6.loops.length rec [.v (.int .i64 (k:Nat))]).get t=if 48=t then .v (.int .i64 (k:Nat)) else e4.get t:=λt=>ZA v2 v1
  have d1:(nX h6.loops.length rec [.v (.int .i64 (k:Nat))]).defers=[]:=rfl;obtain⟨K,hK⟩:∃K,H.busy h6.loops.length rec=K:=⟨_,rfl⟩;have zX:∀a:Nat,K.boxes[a]?=H.boxes[a]?:=λa=>by rw[<-hK];rfl
  have BC:K.loops[h6.loops.length]?=aa {rec with state:=.busy}:=by rw[<-hK];have:=(aV.1 wR).1;show(H.loops.set _ _)[_]?=_;simp[this]
  have og:∀(a:Nat) (cs:List AV),h6.boxes[a]?=aa cs->a≠je->a≠ib->K.boxes[a]?=aa cs:=λa cs ha n1 n2=>by rw[zX];exact q.dh a cs ha n1 n2
  have D4:=og _ _ gk6 ah ah;have Eg:=og _ _ gs6 ah ah;have Ch:=og _ _ wD ah ah;have BO:=og _ _ ge6 ah ah;have Hl:=og _ _ gw6 ah ah;have Hh:=(zX je).trans q.sum;have D0:=(zX ib).trans q.ix;have eI:=q.le;have lib:aI aq Gt K 3 (.ptr (.box ib) 0)=aa (.v (.int .i64 ((ey ag au k).length:Nat))):=dx fa D0 rfl;have lsb:aI aq Gt K 36 (.ptr (.box sb) 0)=aa S:=dx MV Eg rfl;have lSn:=kf.out.2.2.2.2.dW;obtain⟨a1,a2,a3,a4,a5,a6⟩:=Bt Ch BO ah 0 340;have tD:=(aV.1 Ch).1;have Ad:=(aV.1 BO).1;have kstop:al (∀(K2:ao),K2.loops[h6.loops.length]?=aa {rec with state:=.busy}->zb<K2.boxes.length->eb<K2.boxes.length->FQ h6.loops.length rec zb eb (((K2.put zb [.v (.int .i64 0)]).put eb [.v (.int .i64 340)]).fx h6.loops.length {rec with state:=.done,pending:=aa .ret})):=⟨λK2 q1 q2 q3=>by
   have eO:=(aV.1 q1).1;refine⟨aaf eO,?_,?_⟩
   ·show((K2.put zb [.v (.int .i64 0)]).put eb [.v (.int .i64 340)]).boxes[zb]?=_;rw[dg ah];exact eP q2
   ·show((K2.put zb [.v (.int .i64 0)]).put eb [.v (.int .i64 340)]).boxes[eb]?=_;exact eP (by rw[mP];exact q3)⟩
  have kown:=al.mk (λq=>@aml ae ag aj au s q k hk hc);have kq:=al.mk q;have kog:=al.mk og;obtain⟨Q,hQ⟩:∃Q:Xt->ao->Prop,Q=λo h2=>h2.loops[h6.loops.length]?=aa {rec with state:=.busy}/\
   ((o=.normal/\FP (h6.loop rec) h6.loops.length rec je ib zb eb ae ag aj (eF ae ag l) au s (k+1) (h2.fx h6.loops.length rec))∨(o=.ret/\FQ h6.loops.length rec zb eb (h2.fx h6.loops.length {rec with state:=.done,pending:=aa .ret})/\lj ae ag aj au s=az)):=⟨_,rfl⟩
  have kQs:al (∀(K2:ao),K2.loops[h6.loops.length]?=aa {rec with state:=.busy}->zb<K2.boxes.length->eb<K2.boxes.length->lj ae ag aj au s=az->Q .ret ((K2.put zb [.v (.int .i64 0)]).put eb [.v (.int .i64 340)])):=⟨λK2 z1 z2 z3 z4=>by rw[hQ];exact⟨z1,.inr ⟨rfl,kstop.out K2 z1 z2 z3,z4⟩⟩⟩;have kQn:al (∀(K2:ao),K2.loops[h6.loops.length]?=aa {rec with state:=.busy}->FP (h6.loop rec) h6.loops.length rec je ib zb eb ae ag aj (eF ae ag l) au s (k+1) (K2.fx h6.loops.length rec)->Q .normal K2):=⟨λK2 z1 z2=>by rw[hQ];exact⟨z1,.inl ⟨rfl,z2⟩⟩⟩;rw[hK]
  suffices mo:bM W5 rec.assign (nX h6.loops.length rec [.v (.int .i64 (k:Nat))]) H (λo e1 h1=>o=.normal/\h1=H/\bM W5 rec.body e1 K (λo _ h2=>Q o h2)) by
   obtain⟨o,e1,hh,z1,z2,z3,o',e2,wF,z4,z5⟩:=mo;refine⟨o,e1,hh,z1,z2,z3,o',e2,wF,z4,?_⟩;rw[hQ] at z5;obtain⟨z5,z6⟩:=z5;refine⟨z5,?_⟩;rcases z6 with⟨y1,y2⟩|⟨y1,y2⟩
   ·exact .inl ⟨y1,y2⟩
   ·exact .inr ⟨y1,y2⟩
  clear hQ kstop;rw[v3,v4];rcases dV (ey ag au k).length s.length with aB|ec;rotate_left 1
  ·have gT:(ey ag au k).length=s.length:=(by omega);have ja:lj ae ag aj au s=az:=by
    cases ho:lj ae ag aj au s with|false=>rfl|true=>obtain⟨p,z1,-⟩:=kown.out ho;rw[List.getElem?_eq_none ah] at z1;cases z1
   have dd:decide ((((ey ag au k).length:Nat):Int)=(s.length:Int))=ai:=cz ah;have gv:=al.mk (kQs.out K BC tD Ad ja);clear gT ja ec eI q og wR hK zX BC D4 Eg Ch BO Hl Hh D0 v1 v2 v3 v4 v5 v6 kQs kQn;generalize (ey ag au k).length=i at *
   refine yh ?_;exact⟨aX,aX,gv.out⟩
  obtain⟨p,hp⟩:∃p,s[(ey ag au k).length]?=aa p:=⟨_,aT aB⟩;have dd:decide ((((ey ag au k).length:Nat):Int)=(s.length:Int))=az:=cT ah;have ixS:=kf.out.2.2.2.2.ix aB;have ls0:=Hu (H:=K) (s:=2) hp;by_cases dJ:p.1=((k:Nat):Int);rotate_left 1
  ·have ja:lj ae ag aj au s=az:=by
    cases ho:lj ae ag aj au s with|false=>rfl|true=>obtain⟨p',z1,z2,-⟩:=kown.out ho;rw[hp] at z1;injection z1 with z1;subst z1;exact absurd z2 dJ
   have dr:decide (p.1=((k:Nat):Int))=az:=cT dJ;have gv:=al.mk (kQs.out K BC tD Ad ja);clear ja aB eI q og wR hK zX BC D4 Eg Ch BO Hl Hh D0 v1 v2 v3 v4 v5 v6 kQs kQn hp dJ;generalize (ey ag au k).length=i at *
   refine bI @na ?_;exact⟨aX,aX,gv.out⟩
  have OG:k<ae.length:=by omega
  have dr:decide (((k:Nat):Int)=((k:Nat):Int))=ai:=cz rfl;obtain⟨pr,pv⟩:=p;simp only at dJ;subst dJ;obtain⟨_,K2,cf,rfl,xf⟩:=ahI K X Y C ae ag aj kf.out.1 kf.out.2.1 kf.out.2.2.1 dF ((k:Nat):Int) pv;have lk1:aI aq Gt K 25 (.ptr (.box kb) 1)=aa (.agg [X,Y]):=by rw[iC sW (by kernel_rfl:dC aq 25=aa 2) D4 (jZ rfl)];rfl
  have lk3:aI aq Gt K 23 (.ptr (.box kb) 3)=aa C:=dx pC D4 rfl;have ls81:=PK (H:=K) (s:=2) hp;have Gu:=xf.loop _ _ BC;have ia:=xf.box _ _ Ch;have fw:=xf.box _ _ BO;rcases ahL (v:=pv) tj OG with⟨so,fo⟩|⟨so,fo⟩;rotate_left 1
  ·have ja:lj ae ag aj au s=az:=by
    cases ho:lj ae ag aj au s with|false=>rfl|true=>obtain⟨p',z1,z2,z3⟩:=kown.out ho;rw[hp] at z1;injection z1 with z1;subst z1;rw[so] at z3;cases z3
   have gv:=al.mk (kQs.out K2 Gu (aV.1 ia).1 (aV.1 fw).1 ja);obtain⟨t1,t2,t3,t4,t5,t6⟩:=Bt ia fw ah 0 340;clear ja aB eI q og wR hK zX BC D4 Eg Ch BO Hl Hh D0 v1 v2 v3 v4 v5 v6 kQs kQn hp a1 a2 a3 a4 a5 a6 xf ia fw Gu so;unfold im at cf;rcases fo with fo|fo
   ·rw[fo] at cf;clear fo;generalize (ey ag au k).length=i at *
    refine cR @na @eD @iP ?_;refine⟨aX,aX,?_⟩;refine dR lO aw ?_;refine cR @na @eD @iP ?_;exact gv.out
   ·rw[fo] at cf;clear fo;generalize (ey ag au k).length=i at *
    refine cR @na @eD @iP ?_;refine⟨aX,aX,?_⟩;refine dR lO aw ?_;refine cR @na @eD @iP ?_;exact gv.out
  rw[fo] at cf;have nU:=xf.box _ _ Hl;have jr:=xf.box _ _ Eg;have Ki:=xf.box _ _ Hh;have JW:=xf.box _ _ D0;obtain⟨b6,vr6,z1,-⟩:=kW.out.eC;have cC:c≠je:=λe=>by rw[e] at z1;rw[gsum6] at z1;unfold il at z1;simp at z1
  have GA:c≠ib:=λe=>by rw[e] at z1;rw[gib6] at z1;unfold il at z1;simp at z1
  have VV:=xf.box _ _ (og _ _ z1 cC GA);have lwb:aI aq Gt K2 90 (.ptr (.box wb) 0)=aa (.ptr (.box c) 0):=dx wh nU rfl;have lWt:aI aq Gt K2 23 (.ptr (.box c) 6)=aa Wt:=dx pC VV rfl;have Cl:=tf.ix (i:=k) (by rw[w2,w3];exact OG);have lWk:=e7 (H:=K2) (l:=eF ae ag l) (i:=k) (s:=1) (by rw[w2,w3];exact OG);have lsb2:aI aq Gt K2 36 (.ptr (.box sb) 0)=aa S:=dx MV jr rfl;have lib2:aI aq Gt K2 3 (.ptr (.box ib) 0)=aa (.v (.int .i64 ((ey ag au k).length:Nat))):=dx fa JW rfl;have lsum2:aI aq Gt K2 3 (.ptr (.box je) 0)=aa (.v (.int .i64 (gZ (eF ae ag l) (s.take (ey ag au k).length)))):=dx fa Ki rfl;have ls1:=XR (H:=K2) (s:=2) hp;have cm:=HA (ak (eF ae ag l) k) pv;have ca:=I9 (gZ (eF ae ag l) (s.take (ey ag au k).length)) (bX (ak (eF ae ag l) k) pv);have ct:=abc (y:=eF ae ag l) hp;simp only[dK] at ct;rw[<-ct] at ca;have stS:=Is (n:=gZ (eF ae ag l) (s.take ((ey ag au k).length+1))) Ki;have OB:(K2.put je [.v (.int .i64 (gZ (eF ae ag l) (s.take ((ey ag au k).length+1))))]).boxes[ib]?=aa [.v (.int .i64 ((ey ag au k).length:Nat))]:=by rw[dg ah];exact JW
  have lib3:aI aq Gt (K2.put je [.v (.int .i64 (gZ (eF ae ag l) (s.take ((ey ag au k).length+1))))]) 3 (.ptr (.box ib) 0)=aa (.v (.int .i64 ((ey ag au k).length:Nat))):=dx fa OB rfl;have stI:=Is (n:=(((ey ag au k).length+1:Nat):Int)) OB;have ai3:(((ey ag au k).length+1:Nat):Int)=((ey ag au k).length:Int)+1:=by omega
  have gv:=al.mk (kQn.out ((K2.put je [.v (.int .i64 (gZ (eF ae ag l) (s.take ((ey ag au k).length+1))))]).put ib [.v (.int .i64 (((ey ag au k).length+1:Nat):Int))]) Gu (by
   have eO:=(aV.1 Gu).1;have ajR:=(aV.1 Ki).1;have tw:=(aV.1 JW).1;have bZ:(ey ag au (k+1)).length=(ey ag au k).length+1:=(by rw[HT hc];simp);refine⟨aaf eO,λa cs ha n1 n2=>?_,?_,?_,by omega,?_,?_⟩
   ·show((K2.put je _).put ib _).boxes[a]?=_;rw[dg n2,dg n1];exact xf.box _ _ (by rw[zX];exact q.dh a cs ha n1 n2)
   ·show((K2.put je _).put ib _).boxes[je]?=_;rw[dg ah,bZ];exact eP ajR
   ·show((K2.put je _).put ib _).boxes[ib]?=_;rw[bZ];exact eP (by rw[mP];exact tw)
   ·rw[bZ,fW hp,mT,q.same,HT hc,mT];rfl
   ·rw[bZ,fW hp,List.all_append,q.ok,oc];simp[so]))
  clear eI q og wR hK zX BC D4 Eg Ch BO Hl Hh D0 v1 v2 v3 v4 v5 v6 kQs kQn hp a1 a2 a3 a4 a5 a6 xf ia fw Gu so fo nU jr Ki JW OB VV z1 ct w2 w3;unfold im at *
  generalize (ey ag au k).length=i at *
  generalize gZ (eF ae ag l) (s.take i)=sv at *
  generalize gZ (eF ae ag l) (s.take (i+1))=sv2 at *
  generalize bX (ak (eF ae ag l) k) pv=mv at *
  generalize ak (eF ae ag l) k=wv at *
  rw[ai3] at stI gv;refine cR @na @eD @iP ?_;refine⟨aX,aX,?_⟩;refine dR lO aw ?_;refine bG @na @Jz @eD @iP ?_;refine dR lO aw ?_;refine cR @na @Jz @qS ?_;exact gv.out
 ·obtain⟨Hf,cF,hF⟩:=feed;rcases hF with q|⟨q,ja⟩;rotate_left 1
  ·have Hc:res=(0,340):=(by rw[gG,aG ja]);have kr:=al.mk Hc;refine⟨_,_,cF,_,q.lp,(aO:LoopState.done≠ .busy),.inr ⟨rfl,?_⟩⟩;have qz:(Hf.fx h6.loops.length {rec with state:=.exhausted,pending:=aa .ret}).boxes[zb]?=aa [.v (.int .i64 0)]:=q.z;have qe:(Hf.fx h6.loops.length {rec with state:=.exhausted,pending:=aa .ret}).boxes[eb]?=aa [.v (.int .i64 340)]:=q.e;have lz:aI aq Gt (Hf.fx h6.loops.length {rec with state:=.exhausted,pending:=aa .ret}) 3 (.ptr (.box zb) 0)=aa (.v (.int .i64 0)):=dx fa qz rfl;have le:aI aq Gt (Hf.fx h6.loops.length {rec with state:=.exhausted,pending:=aa .ret}) 32 (.ptr (.box eb) 0)=aa (.v (.int .i64 340)):=dx Bd qe rfl;clear cF q ja gG Hc kf kW gk6 gs6 wD ge6 gw6 gp6 ga6 gb6 gsum6 gib6 hm w2 w3 tf p1 p3 tj og1 og2 og3 og4 ji v1 v2 v3 v4 v5 v6 qz qe uq;refine bI @lX ?_;exact⟨_,_,rfl,by rw[kr.out]⟩
  refine⟨_,_,cF,_,q.lp,by rw[v5];decide,.inl ⟨v6,?_⟩⟩;obtain⟨HF,DQ⟩:∃HF,Hf.fx h6.loops.length {rec with state:=.exhausted}=HF:=⟨_,rfl⟩;have BG:∀a:Nat,HF.boxes[a]?=Hf.boxes[a]?:=λa=>by rw[<-DQ];rfl
  have og:∀(a:Nat) (cs:List AV),h6.boxes[a]?=aa cs->a≠je->a≠ib->HF.boxes[a]?=aa cs:=λa cs ha n1 n2=>by rw[BG];exact q.dh a cs ha n1 n2
  have He:=og _ _ gs6 ah ah;have Cg:=og _ _ wD ah ah;have BN:=og _ _ ge6 ah ah;have Em:=og _ _ gw6 ah ah;have Cc:=og _ _ gp6 ah ah;have At:=(BG je).trans q.sum;have DZ:=(BG ib).trans q.ix;have eI:=q.le;have iJ:=q.same;have B8:=q.ok;rw[K4] at At DZ eI iJ B8;rw[DQ];have lib:aI aq Gt HF 3 (.ptr (.box ib) 0)=aa (.v (.int .i64 ((eu ag au).length:Nat))):=dx fa DZ rfl;have lsb:aI aq Gt HF 36 (.ptr (.box sb) 0)=aa S:=dx MV He rfl;have lSn:=kf.out.2.2.2.2.dW;rcases dV (eu ag au).length s.length with aB|ec
  ·have ja:lj ae ag aj au s=az:=by
    cases ho:lj ae ag aj au s with|false=>rfl|true=>unfold lj at ho;rw[bL,decide_eq_true_eq] at ho;have:=congrArg List.length ho.1;rw[bE,bE] at this;omega
   have Hc:res=(0,340):=(by rw[gG,aG ja]);have kr:=al.mk Hc;obtain⟨a1,a2,a3,a4,a5,a6⟩:=Bt Cg BN ah 0 340;have dd:decide ((((eu ag au).length:Nat):Int)<(s.length:Int))=ai:=cz ah;clear cF q ja gG Hc kf kW gk6 gs6 wD ge6 gw6 gp6 ga6 gb6 gsum6 gib6 hm w2 w3 tf p1 p3 tj og1 og2 og3 og4 ji v1 v2 v3 v4 v5 v6 uq DQ BG og He Cg BN Em Cc At DZ eI iJ B8 aB;refine bI @lX ?_;exact⟨_,_,rfl,by rw[kr.out]⟩
  have bO:(eu ag au).length=s.length:=by omega
  have Km:lj ae ag aj au s=ai:=by unfold lj;rw[bO,fI] at iJ B8;rw[iJ,B8];simp
  have dd:decide ((((eu ag au).length:Nat):Int)<(s.length:Int))=az:=cT ah;rw[bO,fI] at At;rw[aH (by rw[Km];simp)] at gG;have c8:=HK 4 d;have c9:=HK 4 f;have hG:(4:Int).toNat=Gn:=rfl;rw[ox r9,hG] at c8 c9;have lpD:aI aq Gt HF 3 (.ptr (.box pb) 2)=aa (.v (.int .i64 x.d)):=dx fa Cc rfl;have lpE:aI aq Gt HF 3 (.ptr (.box pb) 3)=aa (.v (.int .i64 x.e)):=dx fa Cc rfl;obtain⟨a1,a2,a3,a4,a5,a6⟩:=Bt Cg BN ah 0 420;by_cases dU:((bC Gn d:Nat):Int)=x.d;rotate_left 1
  ·have kr:=al.mk (gG.trans (aG (.inl dU)));have dq:decide (((bC Gn d:Nat):Int)=x.d)=az:=cT dU;clear cF q Km gG kf kW gk6 gs6 wD ge6 gw6 gp6 ga6 gb6 gsum6 gib6 hm w2 w3 tf p1 p3 tj og1 og2 og3 og4 ji v1 v2 v3 v4 v5 v6 uq DQ BG og He Cg BN Em Cc At DZ eI iJ B8 ec bO hG dU;generalize ((bC Gn d:Nat):Int)=pd at *
   unfold im at *
   refine bI @lX ?_;refine my [(7,9)] lO aw (λp hp=>?_) ?_
   ·simp only[lu] at hp;subst hp;refine aaC aw rfl rfl aw ?_ ?_
    ·simp only[gl,fm];refine bV @lX @jg ?_;refine⟨by trivial,?_⟩;simp[ff,CC]
    ·simp only[gl,fm];exact jI @lX @jg
   refine bV @lX @jg ?_;exact⟨_,_,rfl,by rw[kr.out]⟩
  have dq:decide (((bC Gn d:Nat):Int)=x.d)=ai:=cz dU;by_cases gu:((bC Gn f:Nat):Int)=x.e;rotate_left 1
  ·have kr:=al.mk (gG.trans (aG (.inr gu)));have dq2:decide (((bC Gn f:Nat):Int)=x.e)=az:=cT gu;clear cF q Km gG kf kW gk6 gs6 wD ge6 gw6 gp6 ga6 gb6 gsum6 gib6 hm w2 w3 tf p1 p3 tj og1 og2 og3 og4 ji v1 v2 v3 v4 v5 v6 uq DQ BG og He Cg BN Em Cc At DZ eI iJ B8 ec bO hG dU gu;generalize ((bC Gn d:Nat):Int)=pd at *
   generalize ((bC Gn f:Nat):Int)=pf at *
   unfold im at *
   refine bI @lX ?_;refine my [(7,9)] lO aw (λp hp=>?_) ?_
   ·simp only[lu] at hp;subst hp;refine LA (x:=.ptr (.box pb) 3) (v:=.v (.int .i64 x.e)) aw rfl rfl aw (by simp[fe,lY]) ?_ ?_
    ·simp only[gl,fm];refine bV @lX @jg ?_;refine⟨by trivial,?_,by trivial,by trivial⟩;simp[ff,CC]
    ·simp only[gl,fm];exact td @lX @jg @and_self
   refine bV @lX @jg ?_;exact⟨_,_,rfl,by rw[kr.out]⟩
  have dq2:decide (((bC Gn f:Nat):Int)=x.e)=ai:=cz gu;rw[aH (by simp[dU,gu])] at gG;have kr:=al.mk gG;obtain⟨b6,vr6,z1,z2,z3⟩:=kW.out.eC;have cC:c≠je:=λe=>by rw[e] at z1;rw[gsum6] at z1;unfold il at z1;simp at z1
  have GA:c≠ib:=λe=>by rw[e] at z1;rw[gib6] at z1;unfold il at z1;simp at z1
  have pN:=z3.1;have nw:=nq z3.four;rw[bE] at pN;have ajx:0<l.length:=Ms.2 (λe=>by rw[e] at kxl;simp at kxl);have wL:b6≠je:=λe=>by rw[e] at z2;rw[gsum6] at z2;injection z2 with z2;rw[<-z2] at nw;simp at nw;omega
  have uf:b6≠ib:=λe=>by rw[e] at z2;rw[gib6] at z2;injection z2 with z2;rw[<-z2] at nw;simp at nw;omega
  have WF:uP HF c ep X Y C T L Wt ((gV (ak aj 0) text l:Nat):Int) ((eZ (ak aj 0) text l:Nat):Int) aj text l:=
   ⟨⟨b6,vr6,og _ _ z1 cC GA,og _ _ z2 wL uf,z3⟩,kW.out.Nw,kW.out.pos,kW.out.c0,kW.out.fM,kW.out.tl,kW.out.ll⟩
  obtain⟨_,_,cb,rfl,rfl⟩:=Nf HF c ep X Y C T L Wt _ _ aj text l WF x ⟨ah,by omega⟩;rw[uq] at cb;have Oe:=og _ _ z1 cC GA;have lwb:aI aq Gt HF 90 (.ptr (.box wb) 0)=aa (.ptr (.box c) 0):=dx wh Em rfl;have lwb2:aI aq Gt (HF.push (bQ x)) 90 (.ptr (.box wb) 0)=aa (.ptr (.box c) 0):=dx wh (bA Em) rfl;have lch:aI aq Gt HF 3 (.ptr (.box c) 12)=aa (.v (.int .i64 ((eZ (ak aj 0) text l:Nat):Int))):=dx fa Oe rfl;have lch2:aI aq Gt (HF.push (bQ x)) 3 (.ptr (.box c) 12)=aa (.v (.int .i64 ((eZ (ak aj 0) text l:Nat):Int))):=dx fa (bA Oe) rfl;have lsu:aI aq Gt HF 3 (.ptr (.box je) 0)=aa (.v (.int .i64 (gZ (eF ae ag l) s))):=dx fa At rfl;have lsu2:aI aq Gt (HF.push (bQ x)) 3 (.ptr (.box je) 0)=aa (.v (.int .i64 (gZ (eF ae ag l) s))):=dx fa (bA At) rfl;have lpp:=w8 Cc;have m1:=HA f ((eY (ak aj 0) text l au:Nat):Int);have m2:=I9 d (bX f ((eY (ak aj 0) text l au:Nat):Int));have m3:=HA ((eZ (ak aj 0) text l:Nat):Int) (gZ (eF ae ag l) s);have m4:=I9 (cQ d (bX f ((eY (ak aj 0) text l au:Nat):Int))) (bX ((eZ (ak aj 0) text l:Nat):Int) (gZ (eF ae ag l) s));obtain⟨t1,t2,t3,t4,t5,t6⟩:=Bt (Hx:=HF.push (bQ x)) (bA Cg) (bA BN) ah (cQ (cQ d (bX f ((eY (ak aj 0) text l au:Nat):Int))) (bX ((eZ (ak aj 0) text l:Nat):Int) (gZ (eF ae ag l) s))) 0;clear cF q Km gG kf kW gk6 gs6 wD ge6 gw6 gp6 ga6 gb6 gsum6 gib6 hm w2 w3 tf p1 p3 tj og1 og2 og3 og4 ji v1 v2 v3 v4 v5 v6 uq DQ BG og He Cg BN Em Cc At DZ eI iJ B8 ec bO hG dU gu a1 a2 a3 a4 a5 a6 WF Oe z1 z2 z3 cC GA wL uf pN nw ajx kxl;generalize cQ (cQ d (bX f ((eY (ak aj 0) text l au:Nat):Int))) (bX ((eZ (ak aj 0) text l:Nat):Int) (gZ (eF ae ag l) s))=zz at *
  generalize cQ d (bX f ((eY (ak aj 0) text l au:Nat):Int))=za at *
  generalize bX f ((eY (ak aj 0) text l au:Nat):Int)=zm at *
  generalize bX ((eZ (ak aj 0) text l:Nat):Int) (gZ (eF ae ag l) s)=zs at *
  generalize ((eY (ak aj 0) text l au:Nat):Int)=bv at *
  generalize ((eZ (ak aj 0) text l:Nat):Int)=chv at *
  generalize gZ (eF ae ag l) s=wv at *
  generalize ((bC Gn d:Nat):Int)=pd at *
  generalize ((bC Gn f:Nat):Int)=pf at *
  unfold im at *
  refine bI @lX ?_;refine my [(7,9)] lO aw (λp hp=>?_) ?_
  ·simp only[lu] at hp;subst hp;refine LA (x:=.ptr (.box pb) 3) (v:=.v (.int .i64 x.e)) aw rfl rfl aw (by simp[fe,lY]) ?_ ?_
   ·simp only[gl,fm];refine bV @lX @jg ?_;refine⟨by trivial,?_,by trivial,by trivial⟩;simp[ff,CC]
   ·simp only[gl,fm];exact td @lX @jg @and_self
  refine bV @lX @jg ?_;refine my [(4,7),(4,10),(4,11)] lO aw (λp hp=>?_) ?_
  ·simp only[iq,uM,or_false] at hp;rcases hp with rfl|rfl|rfl
   ·refine rD (x:=.ptr (.box wb) 0) (v:=.ptr (.box c) 0) aw rfl rfl rfl aw (aaa c 0) ?_ ?_<;>(simp only[gl,fm];exact td @lX @jg @and_self)
   ·refine rD (x:=.ptr (.box c) 12) (v:=.v (.int .i64 chv)) aw rfl rfl rfl aw (by simp[fe,lY]) ?_ ?_<;>(simp only[gl,fm];exact mf @lX @jg @qS @and_self)
   ·refine rD (x:=.ptr (.box je) 0) (v:=.v (.int .i64 wv)) aw rfl rfl rfl aw (by simp[fe,lY]) ?_ ?_<;>(simp only[gl,fm];exact mf @lX @jg @qS @and_self)
  refine cR @lX @jg @qS ?_;exact⟨_,_,rfl,by rw[kr.out]⟩
def H7:Tryz.f173.results.toList=[.tmp 4]:=by kernel_rfl
def AT(a b:Tok):Prop:=∀m,a=.free m->b≠ .free m
def AT.symm{a b}(h:AT a b):AT b a:=λm hb ha=>h m ha hb
def pE(ts:List Tok)(ae:List (List Int)):List AV:=List.zipWith (λt r=>AV.list t 1 (ints r)) ts ae
def qQ(ae:List (List Int))(n:Nat):List (List Int):=(bR n).map λk=>ae.map λr=>ak r k
def af2(ae)(k):qQ ae (k+1)=qQ ae k++[ae.map λr=>ak r k]:=by unfold qQ;rw[nH,mT];rfl
def Uq(ae)(k):(qQ ae k).length=k:=by unfold qQ;simp
structure wg(h H:ao)(x:AV)(ts:List Tok)(ae:List (List Int))(t:Tok):Prop where
 can:∀u∈t::ts,dD h.tn H u
 Gf:(t::ts).Pairwise AT
 len:ts.length=ae.length
 ok:cO H=ai
 ext:Ext h H
 Ix:(ae=[]/\x=.list .tight 1 [])∨(ae≠[]/\∃b,x=.arr b 0 ae.length ae.length/\H.boxes[b]?=aa (pE ts ae)/\h.boxes.length<=b)
def afy{ts}{ae}(h:ts.length=ae.length):(pE ts ae).length=ae.length:=by unfold pE;rw[List.length_zipWith,h,Nat.min_self]
def afz{ts}{ae}(h:ts.length=ae.length)(t)(r):pE (ts++[t]) (ae++[r])=pE ts ae++[.list t 1 (ints r)]:=by unfold pE;rw[List.zipWith_append h];rfl
def Nr{n0}{h}{k}(hk:dD n0 h k)(ho:cO h=ai)(hn:n0<=h.tn):dD n0 (h.app k) (.free h.tn):=(Grown.one hk ho hn).can
def adG{n0}{h}{k}(hk:dD n0 h k):AT (.free h.tn) k:=by
 rintro m q rfl;injection q with q;rcases hk with q2|q2|⟨n,q2,-,q3⟩
 ·cases q2
 ·cases q2
 ·injection q2 with q2;have:=uQ q3;omega
def wg.app{h H}{x}{ts}{ae}{t}(w:wg h H x ts ae t):wg h (H.app t) x ts ae (.free H.tn):=by
 have hc:=w.can t gj;have hd:=FN.1 w.Gf;refine⟨λu hu=>?_,FN.2 ⟨λu hu=>adG (w.can u (fN _ hu)),hd.2⟩,w.len,Dq w.ok hc,(Grown.one hc w.ok w.ext.tn).ext w.ext (aM _),?_⟩
 ·rcases iq.1 hu with rfl|hu
  ·exact Nr hc w.ok w.ext.tn
  ·exact Jm (w.can u (fN _ hu)) (hd.1 u hu)
 ·rw[eL];exact w.Ix
def wg.close{h H}{x}{ts}{ae}{t}(w:wg h H x ts ae t)(r)(hl:ae.length<1000000):
 ∃x2 H2,rF aq H #[22,22] x (.list .tight 1 [[.list t 1 (ints r)]])=aa (x2,H2)/\wg h H2 x2 (ts++[t]) (ae++[r]) .tight:=by
 obtain⟨i,q1,q2,q3,q4⟩:=Kp;have ue:=p7 (ah:ae.length+1<=1000000) q3;have hd:=FN.1 w.Gf;have V4:(Tok.tight::(ts++[t])).Pairwise AT:=by refine FN.2 ⟨λu _ m hm=>(by cases hm),List.pairwise_append.2 ⟨hd.2,by simp,λa ha b hb=>?_⟩⟩;rw[lu] at hb;subst hb;exact(hd.1 a ha).symm
 have VW:∀H2:ao,(∀u,dD h.tn H u->dD h.tn H2 u)->∀u∈Tok.tight::(ts++[t]),dD h.tn H2 u:=by
  intro H2 hm u hu;rcases iq.1 hu with rfl|hu
  ·exact .inr (.inl rfl)
  ·rcases List.mem_append.1 hu with hu|hu
   ·exact hm u (w.can u (fN _ hu))
   ·rw[lu] at hu;exact hm u (w.can u (by rw[hu];exact gj))
 have bZ:(ts++[t]).length=(ae++[r]).length:=by simp[w.len]
 rcases w.Ix with⟨rfl,rfl⟩|⟨bO,b,rfl,hb,ec⟩
 ·have hts:ts=[]:=List.eq_nil_of_length_eq_zero w.len;subst hts;have:=LL (h:=H) (k:=.tight) (sz:=1) (es:=[]) (new:=[[.list t 1 (ints r)]]) (x:=.list .tight 1 [[.list t 1 (ints r)]]) ir ir q1 ah (by rw[q2];exact q4) bH (by simp;omega) bH (.inl q2.symm) (.inr rfl) (by rw[q2];rfl);exact⟨_,_,this,VW _ λu hu=>hu,V4,bZ,w.ok,w.ext.trans (.push _ _),.inr ⟨bH,H.boxes.length,rfl,bh _ _,w.ext.len⟩⟩
 ·have lG:0<ae.length:=Ms.2 bO;have dF:=afy w.len;have:=RK (h:=H) (b:=b) (len:=ae.length) (cs:=pE ts ae) (new:=[[.list t 1 (ints r)]]) (x:=.list .tight 1 [[.list t 1 (ints r)]]) ir ir q1 ah (by rw[q2];exact q4) bH (by simp;omega) (by simp;omega) hb lG (by rw[q2,dF];omega) (by rw[q2];rfl);refine⟨_,_,this,VW _ λu hu=>hu,V4,bZ,?_,(w.ext.gh ec _).trans (.push _ _),.inr ⟨bH,H.boxes.length,by simp,?_,w.ext.len⟩⟩
  ·exact w.ok
  ·rw[afz w.len];exact nb (by rw[mP])
def atI(h:ao)(bJ:cO h=ai)(x:AV)(ae:List (List Int))(n:Nat)(hx:RL x ae)(hw:∀r∈ae,r.length=n)(hr:ae.length<=1000)(hn:n<=1000):
 ∃r h',W5.call 173 [x,im (n:Nat)] h=aa (r,h')/\∃X ts,r=.ret X/\wg h h' X ts (qQ ae n) .tight:=by
 obtain⟨kx0,sx,xs,rfl,uo,dB,eg⟩:=hx;have kx:=al.mk (av uo (av eg hw));clear uo eg hw;have u23:=dN;have u22:=ir;have z23:=iW;have z3:=fH;have Kl:(xs.map λa=>[a]).length=ae.length:=by rw[bE];exact dB
 have b0:fX aq 22 0 []=aa (.list .tight 1 []):=by kernel_rfl
 have b1:fX aq 23 0 []=aa (.list .tight 1 []):=by kernel_rfl
 have T0:wg h h (.list .tight 1 []) [] (qQ ae 0) .tight:=⟨λu hu=>.inr (.inl (by simpa using hu)),by simp,rfl,bJ,.refl _,.inl ⟨rfl,rfl⟩⟩;unfold im;refine da rfl Tryz.func173 rfl ?_;refine bI @H7 ?_;refine cE (λm e H=>∃(k:Nat) (X:AV) (ts:List Tok),k<=n/\m=n - k/\al (wg h H X ts (qQ ae k) .tight)/\e.get 0=.list kx0 sx (xs.map λa=>[a])/\e.get 1=.v (.int .i64 (n:Nat))/\e.get 5=X/\e.get 6=.v (.int .i64 (k:Nat))/\e.defers=[]) ?_ n _ _ ?_;rotate_left 1
 ·refine⟨0,_,[],cG _,rfl,⟨T0⟩,?_,?_,?_,?_,?_⟩<;>first|(simp only[gW,reduceIte,aZ,aQ,b0];done)|(simp only[gW,reduceIte,aZ,aQ,b0]<;>rfl)
 clear T0;rintro m e H ⟨k,X,ts,hk,rfl,kT,g0,g1,g5,g6,hd⟩;by_cases sn:k<n;rotate_left 1
 ·have:k=n:=by omega
  subst this;refine bI @H7 ?_;exact⟨_,_,rfl,X,ts,rfl,kT.out⟩
 have hkI:(k:Int)<(n:Int):=by omega
 refine bI @H7 ?_;refine bM.gen λe0 aF bD cN cH=>?_;have f0:e0.get 0=.list kx0 sx (xs.map λa=>[a]):=by rw[aF];simp only[gW,reduceIte,aZ,aQ];exact g0
 have f1:e0.get 1=.v (.int .i64 (n:Nat)):=by rw[aF];simp only[gW,reduceIte,aZ,aQ];exact g1
 have f5:e0.get 5=X:=by rw[aF];simp only[gW,reduceIte,aZ,aQ];exact g5
 have f6:e0.get 6=.v (.int .i64 (k:Nat)):=by rw[aF];simp only[gW,reduceIte,aZ,aQ];exact g6
 have f7:e0.get 7=.list .tight 1 (ints []):=by rw[aF];exact gR
 have f8:e0.get 8=.v (.int .i64 (0:Nat)):=by rw[aF];exact gR
 have fd:e0.defers=[]:=by rw[bD];simp only[gW,reduceIte,aZ,aQ];exact hd
 clear aF bD cN cH g0 g1 g5 g6 hd b0 b1;refine cE (λm e H=>∃(i:Nat) (t:Tok),i<=ae.length/\m=ae.length - i/\al (wg h H X ts (qQ ae k) t)/\e.get 0=.list kx0 sx (xs.map λa=>[a])/\e.get 1=.v (.int .i64 (n:Nat))/\e.get 5=X/\e.get 6=.v (.int .i64 (k:Nat))/\e.get 7=.list t 1 (ints ((ae.take i).map λr=>ak r k))/\e.get 8=.v (.int .i64 (i:Nat))/\e.defers=[]) ?_ ae.length _ _ ?_;rotate_left 1
 ·exact⟨0,.tight,cG _,rfl,kT,f0,f1,f5,f6,f7,f8,fd⟩
 clear f0 f1 f5 f6 f7 f8 fd kT;rintro m e2 H2 ⟨i,t,hi,rfl,kT,g0,g1,g5,g6,g7,g8,hd⟩;by_cases iR:i<ae.length
 ·obtain⟨a,ha⟩:∃a,xs[i]?=aa a:=⟨_,aT ah⟩;obtain⟨r,hr⟩:∃r,ae[i]?=aa r:=⟨_,aT iR⟩;have uo:sx=1:=kx.out.1 (by intro q;rw[q] at iR;simp at iR);subst uo;obtain⟨ka,sa,rfl,iT⟩:=kx.out.2.1 i a r ha hr;have cS:=kx.out.2.2 r (dn hr);have Pl:sa=1:=iT (by intro q;rw[q] at cS;simp at cS;omega);subst Pl;have l1:=lh (H:=H2) (s:=1) ha;have l2:=e7 (H:=H2) (l:=r) (i:=k) (s:=1) ah;have vn:(ints r).length=n:=by rw[dp];exact cS
  have bl:=qa (ak r k);have ap:=uR (x:=ak r k) (es:=(ae.take i).map λr=>ak r k) (sz:=1) (show((ae.take i).map λr=>ak r k).length<1099511627776 by rw[bE,fj];omega) (.inl rfl) (kT.out.can t gj);have jA:((ae.take i).map λr=>ak r k)++[ak r k]=(ae.take (i+1)).map λr=>ak r k:=by rw[fW hr,mT];rfl
  rw[jA] at ap;have kT2:=al.mk kT.out.app;have JX:(i:Int)<(ae.length:Int):=by omega
  clear ha hr iT cS jA kT;refine bV @H7 @a9 ?_;exact⟨ae.length - (i+1),by omega,i+1,_,by omega,rfl,kT2,by simp⟩
 ·have gT:i=ae.length:=by omega
  subst gT;rw[fI] at g7;obtain⟨X2,H3,c1,c2⟩:=kT.out.close (ae.map λr=>ak r k) (by rw[Uq];omega);rw[<-af2] at c2;have kT2:=al.mk c2;have bl:=Ji (.list t 1 (ints (ae.map λr=>ak r k))) rfl;clear c2 kT;refine bI @H7 ?_;exact⟨n - (k+1),by omega,k+1,X2,_,by omega,rfl,kT2,by simp⟩
def y4:Tryz.f174.results.toList=[.tmp 4,.tmp 5]:=by kernel_rfl
def sU(H:ao)(b:Nat)(t:List (List Int)):Prop:=∃cs:List AV,H.boxes[b]?=aa cs/\cs.length=t.length/\∀(i:Nat) a r,cs[i]?=aa a->t[i]?=aa r->IL a r
def sU.mono{H H'}{b}{t}(T:sU H b t)(m:∀cs,H.boxes[b]?=aa cs->H'.boxes[b]?=aa cs):sU H' b t:=by obtain⟨cs,h1,h2⟩:=T;exact⟨cs,m cs h1,h2⟩
def Et{b len aC n}{k}(hn:n<len):dG aq 22 (.arr b 0 len aC) (.v (.int k (n:Nat)))=aa (.ptr (.box b) n):=by rw[Ep ir iW ah ah,dK,Nat.mul_one,po]
def aaM{H}{b k s n:Nat}{t}{cs}{es}(hb:H.boxes[b]?=aa cs)(hk:k<cs.length):cI aq H 23 (.ptr (.box b) k) (.list t s es)=aa (H.put b (cs.set k (.list t s es))):=by rw[ig (xs:=[AV.list t s es]) rfl iW hb rfl hk];congr 2;unfold eT;rw[List.set_eq_take_append_cons_drop,aG hk];simp
def sU.load{H}{b i}{t}{r}(T:sU H b t)(hr:t[i]?=aa r):∃k s,aI aq Gt H 23 (.ptr (.box b) i)=aa (.list k s (ints r))/\(r≠[]->s=1):=by obtain⟨cs,h1,h2,h3⟩:=T;obtain⟨a,ha⟩:∃a,cs[i]?=aa a:=⟨_,aT (by rw[h2];exact(aV.1 hr).1)⟩;obtain⟨k,s,rfl,hs⟩:=h3 i a r ha hr;exact⟨k,s,ri h1 ha,hs⟩
def sU.store{H}{b i}{t}{r}{k}{s}(T:sU H b t)(hi:i<t.length)(hs:r≠[]->s=1):∃H',cI aq H 23 (.ptr (.box b) i) (.list k s (ints r))=aa H'/\sU H' b (t.set i r)/\∃cs,H'=H.put b cs:=by
 obtain⟨cs,h1,h2,h3⟩:=T;refine⟨_,aaM (n:=0) h1 ah,⟨_,eP (aV.1 h1).1,by rw[mS,mS,h2],λj a q ha hq=>?_⟩,_,rfl⟩;rw[mA] at ha hq;by_cases e:i=j
 ·subst e;rw[aG rfl,aG ah] at ha;rw[aG rfl,aG hi] at hq;injection ha with ha;injection hq with hq;subst ha;subst hq;exact⟨k,s,rfl,hs⟩
 ·rw[aH e] at ha hq;exact h3 j a q ha hq
def uu(c:Nat)(own:List Int)(j:Nat)(t:List (List Int)):List (List Int):=t.mapIdx λi a=>if i<j then jb (ak a c) a own else a
def PX(c)(own)(j)(t):(uu c own j t).length=t.length:=by unfold uu;simp
def Ey(c)(own)(j)(t)(i):(uu c own j t)[i]?=t[i]?.map λa=>if i<j then jb (ak a c) a own else a:=by unfold uu;rw[List.getElem?_mapIdx]
def akR(c)(own)(t):uu c own 0 t=t:=by apply qL;intro i;rw[Ey];cases t[i]?<;>simp
def akO(c)(own)(t):uu c own t.length t=t.map λa=>jb (ak a c) a own:=by
 apply qL;intro i;rw[Ey,ev];cases h:t[i]? with|none=>rfl|some a=>rw[eW,eW,aG (aV.1 h).1]
def akP{c}{own}{j}{t}:(uu c own j t)[j]?=t[j]?:=by rw[Ey];cases t[j]?<;>simp
def akQ{c}{own a}{j}{t}(hj:t[j]?=aa a):(uu c own j t).set j (jb (ak a c) a own)=uu c own (j+1) t:=by
 apply qL;intro i;have hl:=(aV.1 hj).1;rw[mA,PX];by_cases e:j=i
 ·subst e;rw[aG rfl,aG hl,Ey,hj,eW,aG (Nat.lt_succ_self _)]
 ·rw[aH e,Ey,Ey];congr 1;funext a;by_cases h:i<j
  ·rw[aG h,aG ah]
  ·rw[aH h,aH ah]
def lJ(t:List (List Int))(c:Nat):List (List Int) × List Nat:=(bR c).foldl nE (t,[])
def Zn(t)(c):lJ t (c+1)=nE (lJ t c) c:=by unfold lJ;rw[nH,oM];rfl
def QK{t}{w}(hl:∀a∈t,a.length=w)(ho:∀a∈t,∀x∈a,okF x):∀c,c<=w->v9 w c (lJ t c)/\(lJ t c).1.length=t.length/\(lJ t c).2.length<=t.length:=by
 intro c
 induction c with
 |zero=>intro _;exact⟨⟨hl,ho,λ_ _ _ _ j hj=>by omega⟩,rfl,cG _⟩|succ c ih=>
  intro hc;obtain⟨h1,h2,h3⟩:=ih ah;rw[Zn];refine⟨LC h1 ah,?_,?_⟩
  ·unfold nE;split
   ·exact h2
   ·simp[h2]
  ·unfold nE;split
   ·exact h3
   ·rename_i k hk;obtain⟨k1,k2,-⟩:=Bu hk;simp;omega
def asJ{t}{pv}{c k}{b o}(hf:ov t pv.length c=aa k)(hb:t[k]?=aa b)(ho:t[pv.length]?=aa o):
 nE (t,pv) c=((uu c (scaleB b (eE (ak b c))) t.length (t.set k o)).set pv.length (scaleB b (eE (ak b c))),pv++[c]):=by
 have gb:t.getD k []=b:=by rw[dS,hb];rfl
 have go:t.getD pv.length []=o:=by rw[dS,ho];rfl
 unfold nE;simp only[hf,gb,go];rw[show t.length=(t.set k o).length by rw[mS],akO]
def aaE{t}{pv}{c}(hf:ov t pv.length c=ar):nE (t,pv) c=(t,pv):=by unfold nE;simp only[hf]
structure tV(h H:ao)(b:Nat)(t:List (List Int))(k:Tok):Prop where
 tb:sU H b t
 can:dD h.tn H k
 ok:cO H=ai
 ext:Ext h H
 low:h.boxes.length<=b
def tV.put{h H}{b}{t t'}{k}(R:tV h H b t k)(cs)(T:sU (H.put b cs) b t'):tV h (H.put b cs) b t' k:=
 ⟨T,R.can,R.ok,R.ext.gh R.low cs,R.low⟩
def tV.app{h H}{b}{t}{k}(R:tV h H b t k):tV h (H.app k) b t (.free H.tn):=
 ⟨R.tb.mono λcs q=>by rw[eL];exact q,Nr R.can R.ok R.ext.tn,Dq R.ok R.can,(Grown.one R.can R.ok R.ext.tn).ext R.ext (aM _),R.low⟩
def ahB(x):0<=eE x/\eE x<=9223372036854775807:=yT (NH _)
def akU(x y)(a own)(n)(hx:IL x a)(hy:IL y own)(hl:own.length=a.length)(hw:a.length<=1000000):∀h,W5.call 196 [x,y,im n] h=aa (.ret (.list .held 1 (ints (jb n a own))),h):=by obtain⟨h1,h2⟩:=hx.hold;obtain⟨h3,h4⟩:=hy.hold;exact gH (L:=L5) (cA:=[aD x,aD y,im n]) rfl rfl (by simp[aW,h2,h4,aL,im]) (akT (aD x) (aD y) a own n h1 h3 hl hw _) rfl (by simp[aL,nL,rG])
def atE(x)(a)(n)(hx:IL x a)(hw:a.length<=1000000)(hn:0<=n/\n<=9223372036854775807):∀h,W5.call 195 [x,im n] h=aa (.ret (.list .held 1 (ints (scaleB a n))),h):=by obtain⟨h1,h2⟩:=hx.hold;exact gH (L:=L5) (cA:=[aD x,im n]) rfl rfl (by simp[aW,h2,aL,im]) (atD (aD x) a n h1 hw hn _) rfl (by simp[aL,nL,rG])
def aoe(x y)(ae)(target)(hx:RL x ae)(hy:IL y target)(hr:ae.length<=64)(hw:∀r∈ae,r.length=target.length)(nU:target.length<=64)(bJ:∀r∈ae,∀x∈r,okF x)(oB:∀x∈target,okF x):
 ∀h,W5.call 172 [x,y] h=aa (.ret (.v (.int .i64 0)),h):=by
 obtain⟨h1,h2⟩:=hx.fb;obtain⟨h3,h4⟩:=hy.hold;exact gH (L:=L5) (cA:=[aD x,aD y]) rfl rfl (by simp[aW,h2,h4]) (aod (aD x) (aD y) ae target h1 h3 hr hw nU bJ oB _) rfl rfl
def an4(h:ao)(bJ:cO h=ai)(b:Nat)(ae:List (List Int))(w many:Nat)(hT:sU h b ae)(h0:0<ae.length)(hl:∀a∈ae,a.length=w)(ho:∀a∈ae,∀x∈a,okF x)(hm:many<=w)(hr:ae.length<=1000)(hw:w<=1000):
 ∃r h',W5.call 174 [.arr b 0 ae.length ae.length,im (many:Nat)] h=aa (r,h')/\∃b2 Z,r=.ret (.tuple [.arr b2 0 ae.length ae.length,Z])/\sU h' b2 (lJ ae many).1/\(lJ ae many).1.length=ae.length/\IL Z (bP (lJ ae many).2)/\Ext h h':=by
 have u23:=dN;have u22:=ir;have z23:=iW;have z3:=fH;have bn2:fX aq 22 0 []=aa (.list .tight 1 []):=by kernel_rfl
 have bn3:fX aq 23 0 []=aa (.list .tight 1 []):=by kernel_rfl
 obtain⟨H1,ap,R0⟩:∃H1,rF aq h #[22,22] (.list .tight 1 []) (.arr b 0 ae.length ae.length)=aa (.arr h.boxes.length 0 ae.length ae.length,H1)/\tV h H1 h.boxes.length ae .tight:=by
  obtain⟨cs,t1,t2,t3⟩:=hT;obtain⟨i,q1,q2,q3,q4⟩:=Kp;have ue:=p7 (ah:ae.length<=1000000) q3;have hn:=(dQ.box (sz:=1) (h:=h) (b:=b) (n:=ae.length) (ae:=cs.map λc=>[c]) (λr hr=>by obtain⟨c,-,rfl⟩:=ju.1 hr;rfl) (by rw[bE,t2]) (by rw[Fb];exact t1)).news;have qt:(cs.map λc=>[c]).length=ae.length:=by rw[bE,t2]
  have bO:(cs.map λc=>[c])≠[]:=by intro q;rw[q] at qt;simp at qt;omega
  have:=LL (h:=h) (k:=.tight) (sz:=1) (es:=[]) (new:=cs.map λc=>[c]) (x:=.arr b 0 ae.length ae.length) ir ir q1 ah (by rw[q2];exact q4) bO (by rw[qt];simp;omega) (by rw[qt];simp;omega) (.inl q2.symm) (.inr rfl) (by rw[q2];exact hn);rw[qt,jY,po,List.nil_append,Fb] at this;exact⟨_,this,⟨⟨cs,bh _ _,t2,t3⟩,.inr (.inl rfl),bJ,.push _ _,aM _⟩⟩
 have kR0:=al.mk R0;have kl:=al.mk (av hl ho);clear hT R0 hl ho;unfold im;refine da rfl Tryz.func174 rfl ?_;refine bI @y4 ?_;refine bM.gen λe0 aF bD cN cH=>?_;have f1:e0.get 1=.v (.int .i64 (many:Nat)):=by rw[aF];exact gS
 have f6:e0.get 6=.arr h.boxes.length 0 ae.length ae.length:=by rw[aF];exact gS
 have f7:e0.get 7=.list .tight 1 (ints (bP [])):=by rw[aF];exact gR
 have f8:e0.get 8=.v (.int .i64 (0:Nat)):=by rw[aF];exact gR
 have fd:e0.defers=[]:=by rw[bD];exact gS
 clear aF bD cN cH ap bn2 bn3;refine cE (λm e H=>∃(c:Nat) (tk:Tok),c<=many/\m=many - c/\al (tV h H h.boxes.length (lJ ae c).1 tk)/\e.get 1=.v (.int .i64 (many:Nat))/\e.get 6=.arr h.boxes.length 0 ae.length ae.length/\e.get 7=.list tk 1 (ints (bP (lJ ae c).2))/\e.get 8=.v (.int .i64 (c:Nat))/\e.defers=[]) ?_ many _ _ ?_;rotate_left 1
 ·exact⟨0,.tight,cG _,rfl,kR0,f1,f6,f7,f8,fd⟩
 clear kR0 f1 f6 f7 f8 fd;rintro m e H ⟨c,tk,hc,rfl,kR,g1,g6,g7,g8,hd⟩;by_cases vi:c<many;rotate_left 1
 ·have:c=many:=by omega
  subst this;refine bI @y4 ?_;exact⟨_,_,rfl,_,_,rfl,kR.out.tb,(QK kl.out.1 kl.out.2 c hm).2.1,⟨_,_,rfl,λ_=>rfl⟩,kR.out.ext⟩
 obtain⟨RO,tl,pl⟩:=QK kl.out.1 kl.out.2 c ah;have ksucc:al (lJ ae (c+1)=nE ((lJ ae c).1,(lJ ae c).2) c):=⟨Zn ae c⟩;have kRO:=al.mk RO;clear RO;generalize lJ ae c=st at *
 obtain⟨t,pv⟩:=st;dsimp only at *
 have wU:(ints (bP pv)).length=pv.length:=by rw[dp];unfold bP;rw[bE]
 have hcI:(c:Int)<(many:Int):=by omega
 refine bI @y4 ?_;refine bM.gen λe0 aF bD cN cH=>?_;have f1:e0.get 1=.v (.int .i64 (many:Nat)):=by rw[aF];simp only[gW,reduceIte,aZ,aQ];exact g1
 have f6:e0.get 6=.arr h.boxes.length 0 ae.length ae.length:=by rw[aF];simp only[gW,reduceIte,aZ,aQ];exact g6
 have f7:e0.get 7=.list tk 1 (ints (bP pv)):=by rw[aF];simp only[gW,reduceIte,aZ,aQ];exact g7
 have f8:e0.get 8=.v (.int .i64 (c:Nat)):=by rw[aF];simp only[gW,reduceIte,aZ,aQ];exact g8
 have f9:e0.get 9=.v (.int .i64 (pv.length:Nat)):=by rw[aF];exact gS
 have f10:e0.get 10=.v (.int .i64 (pv.length:Nat)):=by rw[aF];exact gS
 have fd:e0.defers=[]:=by rw[bD];simp only[gW,reduceIte,aZ,aQ];exact hd
 clear aF bD cN cH g1 g6 g7 g8 hd;refine cE (λm e H2=>∃j:Nat,j<=ae.length/\pv.length<=j/\m=ae.length - j/\al (∀k,pv.length<=k->k<j->ak (t.getD k []) c=0)/\e.get 1=.v (.int .i64 (many:Nat))/\e.get 6=.arr h.boxes.length 0 ae.length ae.length/\e.get 7=.list tk 1 (ints (bP pv))/\e.get 8=.v (.int .i64 (c:Nat))/\e.get 9=.v (.int .i64 (pv.length:Nat))/\e.get 10=.v (.int .i64 (j:Nat))/\e.defers=[]/\H2=H) ?_ (ae.length - pv.length) _ _ ?_;rotate_left 1
 ·exact⟨pv.length,pl,aM _,rfl,⟨λk q1 q2=>absurd q2 ah⟩,f1,f6,f7,f8,f9,f10,fd,rfl⟩
 clear f1 f6 f7 f8 f9 f10 fd;rintro m e2 H2 ⟨j,hj,O6,rfl,kz,g1,g6,g7,g8,g9,g10,hd,rfl⟩;by_cases hjn:j<ae.length;rotate_left 1
 ·have oA:j=ae.length:=by omega
  subst oA;have OS:ov t pv.length c=ar:=by rw[JC (j:=ae.length) O6 ah kz.out (λq=>absurd q ah),aG tl.symm]
  have kR2:al (tV h H2 h.boxes.length (lJ ae (c+1)).1 tk):=⟨by rw[ksucc.out,aaE OS];exact kR.out⟩;have k7:(lJ ae (c+1)).2=pv:=by rw[ksucc.out,aaE OS]
  have k7:=al.mk k7;clear OS;refine bI @y4 ?_;exact⟨many - (c+1),by omega,c+1,tk,by omega,rfl,kR2,by first|trivial|assumption,by first|trivial|assumption,by rw[k7.out],by simp⟩
 obtain⟨rb,Ec⟩:∃r,t[j]?=aa r:=⟨_,aT ah⟩;have Wc:t.getD j []=rb:=by rw[dS,Ec];rfl
 have Ha:=kRO.out.len rb (dn Ec);have WU:=kRO.out.ok rb (dn Ec);obtain⟨k1,s1,ld1,bF⟩:=kR.out.tb.load Ec;have bF:s1=1:=bF (by intro q;rw[q] at Ha;simp at Ha;omega);subst bF;have ix1:=Et (b:=h.boxes.length) (len:=ae.length) (aC:=ae.length) (k:=.i64) hjn;have D1:(ints rb).length=w:=by rw[dp];exact Ha
 have l1:=e7 (H:=H2) (l:=rb) (i:=c) (s:=1) ah;have D2:(j:Int)<(ae.length:Int):=by omega
 have hcw:(c:Int)<(w:Int):=by omega
 have kb:=al.mk (av Ec (av Wc (av Ha WU)));clear Ec Wc Ha WU;by_cases hz:ak rb c=0
 ·have dU:decide (ak rb c=0)=ai:=by simp[hz]
  have kz2:al (∀k,pv.length<=k->k<j+1->ak (t.getD k []) c=0):=⟨λk q1 q2=>by
   rcases dV k j with q|q
   ·exact kz.out k q1 q
   ·have:k=j:=(by omega);subst this;rw[kb.out.2.1];exact hz⟩
  generalize ak rb c=z at *
  clear hz;refine bV @y4 @a9 ?_;exact⟨ae.length - (j+1),by omega,j+1,by omega,by omega,rfl,kz2,by simp⟩
 have dU:decide (ak rb c=0)=az:=by simp[hz]
 have WX:ov t pv.length c=aa j:=by rw[JC (j:=j) O6 ah kz.out (λ_=>by rw[kb.out.2.1];exact hz),aH ah]
 obtain⟨ro,kC⟩:∃r,t[pv.length]?=aa r:=⟨_,aT ah⟩;have WV:=kRO.out.len ro (dn kC);obtain⟨k2,s2,ld2,jr⟩:=kR.out.tb.load kC;have ix2:=Et (b:=h.boxes.length) (len:=ae.length) (aC:=ae.length) (k:=.i64) (ah:pv.length<ae.length);obtain⟨H3,st1,T3,cs3,rfl⟩:=kR.out.tb.store (i:=j) (k:=k2) ah jr;have kstep:=al.mk (asJ WX kb.out.1 kC);have R3:=kR.out.put cs3 T3;have okz:=p9 kb.out.2.2.2 c;have wQ:fmod (ak rb c)=ak rb c:=By okz;have inv:=λh=>aoP (ak rb c) h;rw[wQ,aH hz,aH hz] at inv;have tms:=atE (.list k1 1 (ints rb)) rb (eE (ak rb c)) ⟨_,_,rfl,λ_=>rfl⟩ (by rw[kb.out.2.2.1];omega) (ahB _);have oY:(scaleB rb (eE (ak rb c))).length=w:=by rw[aad];exact kb.out.2.2.1
 have l3:=e7 (H:=H2.put h.boxes.length cs3) (l:=rb) (i:=c) (s:=1) (by rw[kb.out.2.2.1];omega);have eH:∀a∈t.set j ro,a.length=w:=by
  intro a ha;rcases List.mem_or_eq_of_mem_set ha with q|q
  ·exact kRO.out.len a q
  ·rw[q];exact WV
 have kall:=al.mk eH;have avs:(t.set j ro).length=ae.length:=by rw[mS];exact tl
 have O1:(pv.length:Int)<(ae.length:Int):=by omega
 rw[tl] at kstep;generalize eE (ak rb c)=fz at *
 generalize scaleB rb fz=own at *
 generalize t.set j ro=t1 at *
 clear WV kC jr WX okz wQ eH kz T3 kRO kR;have kR3:=al.mk R3;clear R3;generalize ak rb c=z at *
 generalize H2.put h.boxes.length cs3=H3 at *
 clear hz;unfold im at inv tms;refine bV @y4 @a9 ?_;refine bM.gen λe0 aF bD cN cH=>?_;have f1:e0.get 1=.v (.int .i64 (many:Nat)):=by rw[aF];simp only[gW,reduceIte,aZ,aQ];exact g1
 have f6:e0.get 6=.arr h.boxes.length 0 ae.length ae.length:=by rw[aF];simp only[gW,reduceIte,aZ,aQ];exact g6
 have f7:e0.get 7=.list tk 1 (ints (bP pv)):=by rw[aF];simp only[gW,reduceIte,aZ,aQ];exact g7
 have f8:e0.get 8=.v (.int .i64 (c:Nat)):=by rw[aF];simp only[gW,reduceIte,aZ,aQ];exact g8
 have f9:e0.get 9=.v (.int .i64 (pv.length:Nat)):=by rw[aF];simp only[gW,reduceIte,aZ,aQ];exact g9
 have f11:e0.get 11=.list .held 1 (ints own):=by rw[aF];exact gS
 have f14:e0.get 14=.v (.int .i64 (0:Nat)):=by rw[aF];exact gR
 have fd:e0.defers=[]:=by rw[bD];simp only[gW,reduceIte,aZ,aQ];exact hd
 clear aF bD cN cH g1 g6 g7 g8 g9 g10 hd ld1 ld2 st1 inv tms l1 l3 dU ix1 D1;have kR4:al (tV h H3 h.boxes.length (uu c own 0 t1) tk):=⟨by rw[akR];exact kR3.out⟩;refine cE (λm e H=>∃i:Nat,i<=ae.length/\m=ae.length - i/\al (tV h H h.boxes.length (uu c own i t1) tk)/\e.get 1=.v (.int .i64 (many:Nat))/\e.get 6=.arr h.boxes.length 0 ae.length ae.length/\e.get 7=.list tk 1 (ints (bP pv))/\e.get 8=.v (.int .i64 (c:Nat))/\e.get 9=.v (.int .i64 (pv.length:Nat))/\e.get 11=.list .held 1 (ints own)/\e.get 14=.v (.int .i64 (i:Nat))/\e.defers=[]) ?_ ae.length _ _ ?_;rotate_left 1
 ·exact⟨0,cG _,rfl,kR4,f1,f6,f7,f8,f9,f11,f14,fd⟩
 clear f1 f6 f7 f8 f9 f11 f14 fd kR4 kR3;rintro m e3 H4 ⟨i,hi,rfl,kR,g1,g6,g7,g8,g9,g11,g14,hd⟩;by_cases iR:i<ae.length
 ·obtain⟨a,ha⟩:∃r,t1[i]?=aa r:=⟨_,aT ah⟩;have eM:=kall.out a (dn ha);obtain⟨k1,s1,ld1,bF⟩:=kR.out.tb.load (akP.trans ha);have bF:s1=1:=bF (by intro q;rw[q] at eM;simp at eM;omega);subst bF;have ix1:=Et (b:=h.boxes.length) (len:=ae.length) (aC:=ae.length) (k:=.i64) iR;have D1:(ints a).length=w:=by rw[dp];exact eM
  have l1:=e7 (H:=H4) (l:=a) (i:=c) (s:=1) ah;have ls:=akU (.list k1 1 (ints a)) (.list .held 1 (ints own)) a own (ak a c) ⟨_,_,rfl,λ_=>rfl⟩ ⟨_,_,rfl,λ_=>rfl⟩ ah ah;obtain⟨H5,st1,T5,cs5,rfl⟩:=kR.out.tb.store (i:=i) (r:=jb (ak a c) a own) (k:=.held) (s:=1) (by rw[PX];omega) (λ_=>rfl);rw[akQ ha] at T5;have kR5:=al.mk (kR.out.put cs5 T5);have JX:(i:Int)<(ae.length:Int):=by omega
  clear T5 ha eM kR;generalize jb (ak a c) a own=la at *
  generalize ak a c=z1 at *
  generalize H4.put h.boxes.length cs5=H5 at *
  unfold im at ls;refine bV @y4 @a9 ?_
  repeat' (first|simp(maxSteps:=999999)(disch:=first|exact dZ|fail)only[gW,reduceIte,aZ,aQ,y4,a9, *]|(refine dX ?_ ?_<;>(intro _;try omega))|refine dR lO fg ?_)
  exact⟨ae.length - (i+1),by omega,i+1,by omega,rfl,kR5,by simp⟩
 ·have gT:i=ae.length:=by omega
  subst gT;obtain⟨H5,st1,T5,cs5,rfl⟩:=kR.out.tb.store (i:=pv.length) (r:=own) (k:=.held) (s:=1) (by rw[PX];omega) (λ_=>rfl);have R6:=(kR.out.put cs5 T5).app;have bl:=qa (c:Int);have ap:=uR (H:=H4.put h.boxes.length cs5) (x:=(c:Int)) (es:=bP pv) (sz:=1) (show(bP pv).length<1099511627776 by unfold bP;rw[bE];omega) (.inl rfl) ((kR.out.put cs5 T5).can);have ee:bP pv++[(c:Int)]=bP (pv++[c]):=by unfold bP;simp
  rw[ee] at ap;have kst:=al.mk (ksucc.out.trans kstep.out);have kR6:al (tV h ((H4.put h.boxes.length cs5).app tk) h.boxes.length (lJ ae (c+1)).1 (.free (H4.put h.boxes.length cs5).tn)):=⟨by rw[kst.out];exact R6⟩;have k7:al ((lJ ae (c+1)).2=pv++[c]):=⟨by rw[kst.out]⟩;clear T5 R6 ee kstep kR;generalize H4.put h.boxes.length cs5=H5 at *
  refine bI @y4 ?_;exact⟨many - (c+1),by omega,c+1,_,by omega,rfl,kR6,by first|trivial|assumption,by first|trivial|assumption,by rw[k7.out],by simp⟩
def xn:Tryz.f133.results.toList=[.tmp 4,.tmp 5,.tmp 6]:=by kernel_rfl
structure F2(h H:ao)(b k:Nat)(t1 t2:List (List Int))(dc:List AV)(ts:List Tok):Prop where
 gQ:H.boxes[b]?=aa (dc++pE ts (t2.drop k))
 dl:dc.length=k
 row:∀(i:Nat) a r,dc[i]?=aa a->t1[i]?=aa r->IL a r
 tl:ts.length=t2.length - k
 can:∀u∈ts,dD h.tn H u
 Gf:ts.Pairwise AT
 ok:cO H=ai
 ext:Ext h H
 low:h.boxes.length<=b
def F2.step{h H}{b k}{t1 t2}{dc}{ts}(J:F2 h H b k t1 t2 dc ts){r}{x}(hr:t2[k]?=aa r)(h1:t1[k]?=aa (r++[x])):
 ∃t ts2,ts=t::ts2/\aI aq Gt H 23 (.ptr (.box b) k)=aa (.list t 1 (ints r))/\dD h.tn H t/\∃H3,cI aq (H.app t) 23 (.ptr (.box b) k) (.list (.free H.tn) 1 (ints (r++[x])))=aa H3/\F2 h H3 b (k+1) t1 t2 (dc++[.list (.free H.tn) 1 (ints (r++[x]))]) ts2:=by
 have hk:=(aV.1 hr).1;have oV:t2.drop k=r::t2.drop (k+1):=by rw[xP hk,(aV.1 hr).2]
 obtain⟨t,ts2,rfl⟩:∃t ts2,ts=t::ts2:=by
  cases ts with|nil=>have:=J.tl;simp at this;omega|cons t ts2=>exact⟨t,ts2,rfl⟩
 have hd:=FN.1 J.Gf;have hc:=J.can t gj;have hb:=J.gQ;have ecs:pE (t::ts2) (t2.drop k)=.list t 1 (ints r)::pE ts2 (t2.drop (k+1)):=by rw[oV];rfl
 rw[ecs] at hb;have mh:=(aV.1 hb).1;have fP:(H.app t).boxes[b]?=aa (dc++ .list t 1 (ints r)::pE ts2 (t2.drop (k+1))):=by rw[eL];exact hb
 refine⟨t,ts2,rfl,ri hb (by rw[zC (by rw[J.dl];exact aM _),J.dl,tU];rfl),hc,_,aaM (n:=0) fP (by rw[dE,jn,J.dl];omega),?_⟩;have yE:(dc++AV.list t 1 (ints r)::pE ts2 (t2.drop (k+1))).set k (.list (.free H.tn) 1 (ints (r++[x])))=(dc++[.list (.free H.tn) 1 (ints (r++[x]))])++pE ts2 (t2.drop (k+1)):=by rw[List.set_append_right _ _ (by rw[J.dl];exact aM _),J.dl,tU,List.set_cons_zero,sR];rfl
 rw[yE];refine⟨eP (by rw[eL];exact mh),by rw[dE,J.dl];rfl,λi a q ha hq=>?_,?_,λu hu=>?_,hd.2,?_,?_,J.low⟩
 ·rcases dV i dc.length with aB|ec
  ·rw[List.getElem?_append_left aB] at ha;exact J.row i a q ha hq
  ·have:=(aV.1 ha).1;rw[dE] at this;have hi:i=dc.length:=(by simp at this;omega);subst hi;rw[List.getElem?_concat_length] at ha;rw[J.dl,h1] at hq;injection ha with ha;injection hq with hq;subst ha;subst hq;exact⟨_,_,rfl,λ_=>rfl⟩
 ·have:=J.tl;rw[jn] at this;omega
 ·exact Jm (J.can u (fN _ hu)) (hd.1 u hu)
 ·exact Dq J.ok hc
 ·exact((Grown.one hc J.ok J.ext.tn).ext J.ext (aM _)).gh J.low _
def anH(pv):(ints (bP pv)).length=pv.length:=by rw[dp];unfold bP;rw[bE]
def abC(ae:List (List Int))(target:List Int)(h:ao)(r:eX)(h':ao):Prop:=
 Ext h h'/\((pG ae target=ar/\r=.ret (.tuple [.list .nil 0 [],.v (.bool az),im 0]))∨∃l b,pG ae target=aa l/\l.length=ae.length/\r=.ret (.tuple [.arr b 0 ae.length ae.length,.v (.bool ai),im 0])/\h'.boxes[b]?=aa (l.map im))
def af9(h:ao)(bJ:cO h=ai)(x y:AV)(ae:List (List Int))(target:List Int)(hx:RL x ae)(hy:IL y target)(hr:ae.length<=64)(hw:∀r∈ae,r.length=target.length)(nU:target.length<=64)(h0:0<target.length)(GZ:∀r∈ae,∀x∈r,okF x)(oB:∀x∈target,okF x):
 ∃r h',W5.call 133 [x,y] h=aa (r,h')/\abC ae target h r h':=by
 have c1:=aoe x y ae target hx hy hr hw nU GZ oB;obtain⟨_,H1,c2,X,ts,rfl,T1⟩:=atI h bJ x ae target.length hx hw ah ah;obtain⟨t1,t2⟩:=RN GZ oB;have tl:=RM ae target;have cl:=Uq ae target.length;have e1:pG ae target=if ((lJ (fS ae target) ae.length).1.drop (lJ (fS ae target) ae.length).2.length).all (λa=>decide (ak a ae.length=0)) then aa (ph (lJ (fS ae target) ae.length) ae.length) else ar:=rfl
 obtain⟨RO,rl,rp⟩:=QK t1 t2 ae.length ah;obtain⟨-,V⟩:=HO t1 t2 (ah:ae.length<=ae.length+1);have V:Dh ae.length (lJ (fS ae target) ae.length):=V;rw[tl] at rl rp;obtain⟨b,hX,J0⟩:∃b,X=.arr b 0 target.length target.length/\F2 h H1 b 0 (fS ae target) (qQ ae target.length) [] ts:=by
  rcases T1.Ix with⟨q,-⟩|⟨-,b,q1,q2,q3⟩
  ·rw[q] at cl;simp at cl;omega
  ·rw[cl] at q1;exact⟨b,q1,⟨q2,rfl,λi a r q=>by simp at q,by rw[T1.len];rfl,λu hu=>T1.can u (fN _ hu),(FN.1 T1.Gf).2,T1.ok,T1.ext,q3⟩⟩
 subst hX;obtain⟨k,s,xs,rfl,hs,dB,eg⟩:=hx;obtain⟨ky,sy,rfl,jL⟩:=hy;have bF:sy=1:=jL (by intro q;rw[q] at h0;simp at h0);subst bF;have cK:(xs.map λa=>[a]).length=ae.length:=by rw[bE];exact dB
 have tw:=dp target;have u23:=dN;have u22:=ir;have z23:=iW;have z3:=fH;have kJ0:=al.mk J0;have kk:=al.mk (av t1 (av t2 (av RO (av V e1))));have kcl:=al.mk cl;clear T1 J0 hs dB eg jL hw GZ oB t1 t2 RO V e1 cl;unfold im at c2;refine da rfl Tryz.func133 rfl ?_;refine bI @xn ?_;refine bM.gen λe0 aF bD cN cH=>?_;have f0:e0.get 0=.list k s (xs.map λa=>[a]):=by rw[aF];exact gS
 have f1:e0.get 1=.list ky 1 (ints target):=by rw[aF];exact gS
 have f8:e0.get 8=.arr b 0 target.length target.length:=by rw[aF];exact gS
 have f9:e0.get 9=.v (.int .i64 (0:Nat)):=by rw[aF];exact gR
 have fd:e0.defers=[]:=by rw[bD];exact gS
 clear aF bD cN cH c1 c2;refine cE (λm e H=>∃(j:Nat) (dc:List AV) (ts:List Tok),j<=target.length/\m=target.length - j/\al (F2 h H b j (fS ae target) (qQ ae target.length) dc ts)/\e.get 0=.list k s (xs.map λa=>[a])/\e.get 1=.list ky 1 (ints target)/\e.get 8=.arr b 0 target.length target.length/\e.get 9=.v (.int .i64 (j:Nat))/\e.defers=[]) ?_ target.length _ _ ?_;rotate_left 1
 ·exact⟨0,[],ts,cG _,rfl,kJ0,f0,f1,f8,f9,fd⟩
 clear f0 f1 f8 f9 fd kJ0 ts;rintro m e H ⟨j,dc,ts,hj,rfl,kJ,g0,g1,g8,g9,hd⟩;by_cases yy:j<target.length
 ·have V0:(qQ ae target.length)[j]?=aa (ae.map λr=>ak r j):=by unfold qQ;rw[ev,FI yy];rfl
  have Xd:(fS ae target)[j]?=aa ((ae.map λr=>ak r j)++[ak target j]):=by unfold fS;rw[ev,FI yy];rfl
  obtain⟨t,ts2,rfl,ld,hc,H3,st,J3⟩:=kJ.out.step V0 Xd;have ap:=uR (H:=H) (x:=ak target j) (es:=ae.map λr=>ak r j) (sz:=1) (by rw[bE];omega) (.inl rfl) hc;have bl:=qa (ak target j);have l1:=e7 (H:=H) (l:=target) (i:=j) (s:=1) yy;have ix:=Et (b:=b) (len:=target.length) (aC:=target.length) (k:=.i64) yy;have kJ3:=al.mk J3;have D2:(j:Int)<(target.length:Int):=by omega
  clear J3 V0 Xd hc kJ;refine bV @xn @a9 ?_
  repeat' (first|simp(maxSteps:=999999)(disch:=first|exact dZ|fail)only[gW,reduceIte,aZ,aQ,xn,a9, *]|(refine dX ?_ ?_<;>(intro _;try omega))|refine dR lO fg ?_)
  exact⟨target.length - (j+1),by omega,j+1,_,ts2,by omega,rfl,kJ3,by simp⟩
 have oA:j=target.length:=by omega
 subst oA;have T2:sU H b (fS ae target):=⟨_,kJ.out.gQ,by
  have h1:pE ts ((qQ ae target.length).drop target.length)=[]:=by rw[pZ (by rw[kcl.out];exact aM _)];unfold pE;simp
  rw[h1,jX,kJ.out.dl,tl],λi a r ha hr=>by
  have h1:pE ts ((qQ ae target.length).drop target.length)=[]:=by rw[pZ (by rw[kcl.out];exact aM _)];unfold pE;simp
  rw[h1,jX] at ha;exact kJ.out.row i a r ha hr⟩
 obtain⟨_,H3,c3,b2,Z,rfl,T3,-,hZ,X3⟩:=an4 H kJ.out.ok b (fS ae target) (ae.length+1) ae.length T2 ah kk.out.1 kk.out.2.1 ah ah ah;rw[tl] at c3;obtain⟨kz,sz,rfl,dm⟩:=hZ;have wU:=anH (lJ (fS ae target) ae.length).2;have kV:al (Dh ae.length (lJ (fS ae target) ae.length)):=⟨kk.out.2.2.2.1⟩;have kRl:=al.mk kk.out.2.2.1.len;have ke:=al.mk kk.out.2.2.2.2;generalize ct:lJ (fS ae target) ae.length=st at *
 obtain⟨t',pv⟩:=st;dsimp only at *
 have kT3:=al.mk T3;have ksz:=al.mk dm;have kX3:=al.mk (kJ.out.ext.trans X3);clear T2 T3 dm X3 kk kJ ct kcl tl;unfold im at c3;refine bI @xn ?_;refine bM.gen λe0 aF bD cN cH=>?_;have f0:e0.get 0=.list k s (xs.map λa=>[a]):=by rw[aF];simp only[gW,reduceIte,aZ,aQ];exact g0
 have f8:e0.get 8=.arr b2 0 target.length target.length:=by rw[aF];exact gS
 have f10:e0.get 10=.list kz sz (ints (bP pv)):=by rw[aF];exact gS
 have f11:e0.get 11=.v (.int .i64 (pv.length:Nat)):=by rw[aF];exact gS
 have fd:e0.defers=[]:=by rw[bD];simp only[gW,reduceIte,aZ,aQ];exact hd
 clear aF bD cN cH c3 g0 g1 g8 g9 hd;refine cE (λm e H=>∃j:Nat,j<=target.length/\pv.length<=j/\m=target.length - j/\al (∀i,pv.length<=i->i<j->∀a,t'[i]?=aa a->ak a ae.length=0)/\e.get 0=.list k s (xs.map λa=>[a])/\e.get 8=.arr b2 0 target.length target.length/\e.get 10=.list kz sz (ints (bP pv))/\e.get 11=.v (.int .i64 (j:Nat))/\e.defers=[]/\H=H3) ?_ (target.length - pv.length) _ _ ?_;rotate_left 1
 ·exact⟨pv.length,rp,aM _,rfl,⟨λi q1 q2=>absurd q2 ah⟩,f0,f8,f10,f11,fd,rfl⟩
 clear f0 f8 f10 f11 fd;rintro m e H3 ⟨j,hj,O6,rfl,kz0,g0,g8,g10,g11,hd,rfl⟩;by_cases yy:j<target.length
 ·obtain⟨a,ha⟩:∃a,t'[j]?=aa a:=⟨_,aT ah⟩;have eM:=kRl.out a (dn ha);obtain⟨k1,s1,ld1,bF⟩:=kT3.out.load ha;have bF:s1=1:=bF (by intro q;rw[q] at eM;simp at eM);subst bF;have OD:(ints a).length=ae.length+1:=by rw[dp];exact eM
  have l1:=e7 (H:=H3) (l:=a) (i:=ae.length) (s:=1) ah;have ix:=Et (b:=b2) (len:=target.length) (aC:=target.length) (k:=.i64) yy;have D2:(j:Int)<(target.length:Int):=by omega
  have Ka:(ae.length:Int)<((ae.length+1:Nat):Int):=by omega
  by_cases hz:ak a ae.length=0
  ·have kz2:al (∀i,pv.length<=i->i<j+1->∀a,t'[i]?=aa a->ak a ae.length=0):=⟨λi hi oW a' nf=>by
    rcases dV i j with q|q
    ·exact kz0.out i hi q a' nf
    ·rw[(ah:i=j),ha] at nf;injection nf with nf;rw[<-nf];exact hz⟩
   have dU:decide (ak a ae.length=0)=ai:=(by simp[hz]);generalize ak a ae.length=z at *
   clear ha eM hz kz0;refine bV @xn @a9 ?_;exact⟨target.length - (j+1),by omega,j+1,by omega,by omega,rfl,kz2,by simp⟩
  ·have e2:pG ae target=ar:=(by rw[ke.out,aH];intro q;rw[ej] at q;have:=q a (dn (i:=j - pv.length) (by rw[oN,(ah:pv.length+(j - pv.length)=j)];exact ha));exact hz (of_decide_eq_true this));have ke2:=al.mk e2;have dU:decide (ak a ae.length=0)=az:=(by simp[hz]);generalize ak a ae.length=z at *
   clear ha eM hz kz0 e2;refine bV @xn @a9 ?_;exact⟨_,_,rfl,kX3.out,.inl ⟨ke2.out,rfl⟩⟩
 have oA:j=target.length:=by omega
 subst oA;have e2:pG ae target=aa (ph (t',pv) ae.length):=by rw[ke.out,aG];rw[ej];intro a ha;obtain⟨i,hi⟩:=tT ha;rw[oN] at hi;have cK:=(aV.1 hi).1;exact cz (kz0.out (pv.length+i) ah ah a hi)
 rw[<-Zk] at e2;have ke2:=al.mk e2;have mk:=AB H3 ae.length ah .i64 .i64;have nR:bg ae.length (im 0)=(lV t' pv ae.length 0).map im:=by unfold lV;rw[fm,FG,xQ]
 rw[nR] at mk;clear e2 nR kz0 ke;unfold im at mk;refine bI @xn ?_;refine bM.gen λe0 aF bD cN cH=>?_;have f0:e0.get 0=.list k s (xs.map λa=>[a]):=by rw[aF];simp only[gW,reduceIte,aZ,aQ];exact g0
 have f8:e0.get 8=.arr b2 0 target.length target.length:=by rw[aF];simp only[gW,reduceIte,aZ,aQ];exact g8
 have f10:e0.get 10=.list kz sz (ints (bP pv)):=by rw[aF];simp only[gW,reduceIte,aZ,aQ];exact g10
 have f12:e0.get 12=.arr H3.boxes.length 0 ae.length ae.length:=by rw[aF];exact gS
 have f13:e0.get 13=.v (.int .i64 (0:Nat)):=by rw[aF];exact gR
 have fd:e0.defers=[]:=by rw[bD];simp only[gW,reduceIte,aZ,aQ];exact hd
 clear aF bD cN cH g0 g8 g10 g11 hd mk;refine cE (λm e H=>∃j:Nat,j<=pv.length/\m=pv.length - j/\e.get 0=.list k s (xs.map λa=>[a])/\e.get 8=.arr b2 0 target.length target.length/\e.get 10=.list kz sz (ints (bP pv))/\e.get 12=.arr H3.boxes.length 0 ae.length ae.length/\e.get 13=.v (.int .i64 (j:Nat))/\e.defers=[]/\H=H3.push ((lV t' pv ae.length j).map im)) ?_ pv.length _ _ ?_;rotate_left 1
 ·exact⟨0,cG _,rfl,f0,f8,f10,f12,f13,fd,rfl⟩
 clear f0 f8 f10 f12 f13 fd;rintro m e H ⟨j,hj,rfl,g0,g8,g10,g12,g13,hd,rfl⟩;by_cases aB:j<pv.length
 ·obtain⟨p,fG⟩:∃p,pv[j]?=aa p:=⟨_,aT aB⟩;have yA:=kV.out.lt j p fG;have bF:sz=1:=ksz.out (by intro q;unfold bP at q;rw[FL] at q;rw[q] at aB;exact Nat.not_lt_zero _ aB);subst bF;obtain⟨a,ha⟩:∃a,t'[j]?=aa a:=⟨_,aT ah⟩;have eM:=kRl.out a (dn ha);obtain⟨k1,s1,ld1,bF⟩:=(kT3.out.mono (H':=H3.push ((lV t' pv ae.length j).map im)) λ_ q=>bA q).load ha;have bF:s1=1:=bF (by intro q;rw[q] at eM;simp at eM);subst bF;have OD:(ints a).length=ae.length+1:=by rw[dp];exact eM
  have l0:=e7 (H:=H3.push ((lV t' pv ae.length j).map im)) (l:=bP pv) (i:=j) (s:=1) (by unfold bP;rw[bE];exact aB);rw[Zh fG] at l0;have l1:=e7 (H:=H3.push ((lV t' pv ae.length j).map im)) (l:=a) (i:=ae.length) (s:=1) ah;have ix1:=Et (b:=b2) (len:=target.length) (aC:=target.length) (k:=.i64) (ah:j<target.length);have ix3:=qy (b:=H3.boxes.length) (len:=ae.length) (aC:=ae.length) (k:=.i64) yA;have sk:=y8 (H:=H3.push ((lV t' pv ae.length j).map im)) (b:=H3.boxes.length) (r:=lV t' pv ae.length j) (k:=p) (x:=ak a ae.length) (bh _ _) (by rw[KS];exact yA);have gD:t'.getD j []=a:=by rw[dS,ha];rfl
  rw[pg,<-gD,Zl fG,gD] at sk;have fA:(j:Int)<(pv.length:Int):=by omega
  have Ka:(ae.length:Int)<((ae.length+1:Nat):Int):=by omega
  unfold im at *
  clear ha eM gD fG yA ke2;refine bV @xn @a9 ?_
  repeat' (first|simp(maxSteps:=999999)(disch:=first|exact dZ|fail)only[gW,reduceIte,aZ,aQ,xn,a9, *]|(refine dX ?_ ?_<;>(intro _;try omega))|refine dR lO fg ?_)
  exact⟨pv.length - (j+1),by omega,j+1,by omega,rfl,by simp⟩
 ·have oA:j=pv.length:=by omega
  subst oA;refine bI @xn ?_;exact⟨_,_,rfl,kX3.out.trans (.push _ _),.inr ⟨_,_,ke2.out,KS _ _ _ _,rfl,bh _ _⟩⟩
def K9:Tryz.f134.results.toList=[.tmp 4]:=by kernel_rfl
def vP:Tryz.f63.results.toList=[.tmp 4,.tmp 5,.tmp 6]:=by kernel_rfl
def IL.same{x}{l}(h:IL x l):fe x x=ai:=by obtain⟨k,s,rfl,-⟩:=h;exact Im k s l
def Z9:∀xs:List AV,(∀a∈xs,fe a a=ai)->qF (xs.map λa=>[a]) (xs.map λa=>[a])=ai
 | [],_=>rfl
 |x::xs,h=>by rw[eK,qF,Z9 xs λa ha=>h a (fN _ ha),oF,h x gj];rfl
def RL.same{x}{ae}(h:RL x ae):fe x x=ai:=by
 obtain⟨k,s,xs,rfl,-,hl,hr⟩:=h;have e:xv k k=ai:=by cases k<;>simp[xv]
 rw[fe,e,Z9 xs λa ha=>?_]
 ·simp
 ·obtain⟨i,hi⟩:=tT ha;have cK:=(aV.1 hi).1;exact(hr i a _ hi (aT ah)).same
def amg(h:ao)(bJ:cO h=ai)(x y z:AV)(ae:List (List Int))(ag aA:List Int)(hx:RL x ae)(hy:IL y ag)(hz:IL z aA)(ho:ae.length=ag.length)(hr:ae.length<=1000)(kL:aA.length<=1099511627776):
 ∃r h',W5.call 134 [.agg [x,y],z] h=aa (r,h')/\∃X,r=.ret X/\RL X ((ez ag aA).map λi=>ae.getD i [])/\Ext h h'/\cO h'=ai:=by
 have bx:=pQ hx hy;have hs:=λn=>VO z aA n hz kL;obtain⟨k0,s0,xs,rfl,uo,dB,eg⟩:=hx;obtain⟨ky,sy,rfl,jL⟩:=hy;have kx:=al.mk (av uo (av eg jL));have kho:=al.mk ho;clear uo eg jL hz ho;have u23:=dN;have u22:=ir;have z23:=iW;have z3:=fH;have Kl:(xs.map λa=>[a]).length=ae.length:=by rw[bE];exact dB
 have cK:=dp ag;have kX0:=al.mk (av (Ext.push h [.list k0 s0 (xs.map λa=>[a]),.list ky sy (ints ag)]) (bh h [.list k0 s0 (xs.map λa=>[a]),.list ky sy (ints ag)]));have kok0:al (cO (h.push [.list k0 s0 (xs.map λa=>[a]),.list ky sy (ints ag)])=ai):=⟨bJ⟩;refine da rfl Tryz.func134 rfl ?_;refine bV @K9 @bB ?_;refine bM.gen λe0 aF bD cN cH=>?_;have f1:e0.get 1=z:=by rw[aF];exact gS
 have f2:e0.get 2=.ptr (.box h.boxes.length) 0:=by rw[aF];exact gS
 have f5:e0.get 5=.list .nil 0 ((iU xs ag aA 0).map λa=>[a]):=by rw[aF];exact gR
 have f6:e0.get 6=.v (.int .i64 (0:Nat)):=by rw[aF];exact gR
 have fd:e0.defers=[]:=by rw[bD];exact gS
 clear aF bD cN cH bx;refine cE (λm e H=>∃(i:Nat) (tk:Tok) (sz:Nat),i<=ae.length/\m=ae.length - i/\al (sz=1∨((iU xs ag aA i)=[]/\tk=.nil))/\al (Ext h H/\H.boxes[h.boxes.length]?=aa [.list k0 s0 (xs.map λa=>[a]),.list ky sy (ints ag)])/\al (cO H=ai)/\al (dD h.tn H tk)/\e.get 1=z/\e.get 2=.ptr (.box h.boxes.length) 0/\e.get 5=.list tk sz ((iU xs ag aA i).map λa=>[a])/\e.get 6=.v (.int .i64 (i:Nat))/\e.defers=[]) ?_ ae.length _ _ ?_;rotate_left 1
 ·exact⟨0,.nil,0,cG _,rfl,⟨.inr ⟨rfl,rfl⟩⟩,kX0,kok0,⟨.inl rfl⟩,f1,f2,f5,f6,fd⟩
 clear f1 f2 f5 f6 fd kX0 kok0;rintro m e H ⟨i,tk,sz,hi,rfl,ksz,kX,kok,kcan,g1,g2,g5,g6,hd⟩;have l0:=pO kX.out.2;have l1:=Cn kX.out.2;by_cases iR:i<ae.length;rotate_left 1
 ·have gT:i=ae.length:=by omega
  subst gT;refine cR @K9 @dw @eG ?_;have hN:fc ag aA ae.length=ez ag aA:=by unfold fc ez;rw[kho.out]
  refine⟨_,_,rfl,_,rfl,⟨_,_,_,rfl,λbO=>?_,?_,λi a r ha hr=>?_⟩,kX.out.1,kok.out⟩
  ·rcases ksz.out with q|⟨q,-⟩
   ·exact q
   ·exfalso;apply bO;rw[<-hN];unfold iU at q;unfold fc;rw[FL] at q;rw[q];rfl
  ·rw[bE,<-hN];unfold iU fc;rw[bE]
  ·obtain⟨j,j1,j2,rfl⟩:=Qu ha;rw[hN] at j1;rw[ev,j1] at hr;injection hr with hr;subst hr;refine kx.out.2.1 j _ _ ?_ ?_
   ·rw[dS,aT ah];rfl
   ·show ae[j]?=aa (ae.getD j []);rw[dS,aT j2];rfl
 have vp:s0=1:=kx.out.1 (by intro q;rw[q] at iR;simp at iR);subst vp;have bF:sy=1:=kx.out.2.2 (by intro q;have ho:=kho.out;rw[q,jY] at ho;omega);subst bF;obtain⟨a,ha⟩:∃a,xs[i]?=aa a:=⟨_,aT ah⟩;have ld:=lh (H:=H) (s:=1) ha;have lo:=e7 (H:=H) (l:=ag) (i:=i) (s:=1) (by have:=kho.out;omega);have JX:(i:Int)<(ae.length:Int):=by omega
 have ajm:(i:Int)<(ag.length:Int):=by have:=kho.out;omega
 have c:=hs (ak ag i);cases hc:aA.contains (ak ag i) with
 |true=>
  rw[hc] at c;have pl:=YQ (xs:=xs) (ag:=ag) (aA:=aA) (k:=i);have ap:=Tl (H:=H) (x:=a) (es:=iU xs ag aA i) ah ksz.out kcan.out;rw[<-YS hc ha] at ap;obtain⟨k',s',xs',rfl⟩:∃k' s' xs',a=.list k' s' xs':=by obtain⟨r,hr⟩:∃r,ae[i]?=aa r:=⟨_,aT iR⟩;obtain⟨k',s',rfl,-⟩:=kx.out.2.1 i a r ha hr;exact⟨_,_,_,rfl⟩
  have bl:=Ji (.list k' s' xs') rfl;have hG:=Grown.one kcan.out kok.out kX.out.1.tn;have kX2:al (Ext h (H.app tk)/\(H.app tk).boxes[h.boxes.length]?=aa [.list k0 1 (xs.map λa=>[a]),.list ky 1 (ints ag)]):=⟨hG.ext kX.out.1 (aM _),by rw[eL];exact kX.out.2⟩;have kok2:al (cO (H.app tk)=ai):=⟨Dq kok.out kcan.out⟩;have kcan2:al (dD h.tn (H.app tk) (.free H.tn)):=⟨hG.can⟩;have ksz2:al (1=1∨((iU xs ag aA (i+1))=[]/\Tok.free H.tn=.nil)):=⟨.inl rfl⟩;clear hG ha hc ksz kX kok kcan hs;unfold im at c;refine bG @K9 @dw @eG @a9 ?_;exact⟨ae.length - (i+1),by omega,i+1,_,1,by omega,rfl,(by first|assumption|trivial),(by first|assumption|trivial),(by first|assumption|trivial),(by first|assumption|trivial),by simp⟩
 |false=>rw[hc] at c;have eN:=YR (xs:=xs) hc;have ksz2:al (sz=1∨((iU xs ag aA (i+1))=[]/\tk=.nil)):=⟨by rw[eN];exact ksz.out⟩;rw[<-eN] at g5;clear ha hc ksz hs eN;unfold im at c;refine bG @K9 @dw @eG @a9 ?_;exact⟨ae.length - (i+1),by omega,i+1,tk,sz,by omega,rfl,(by first|assumption|trivial),(by first|assumption|trivial),(by first|assumption|trivial),(by first|assumption|trivial),by simp⟩
def Ru{ag aA}{i}(hi:i<ag.length)(hc:aA.contains (ak ag i)=ai):(ez ag aA)[(fc ag aA i).length]?=aa i:=by
 have e:ez ag aA=fc ag aA i++((bR (ag.length - i)).map (i+·)).filter λj=>aA.contains (ak ag j):=by unfold ez fc;rw[<-zB,<-List.range_add];congr 2;omega
 rw[e,zC (aM _),tU,(ah:ag.length - i=(ag.length - i - 1)+1),List.range_succ_eq_map,eK,Nat.add_zero,List.filter_cons,aG hc];rfl
def adf(h:ao)(bJ:cO h=ai)(x y z:AV)(ae:List (List Int))(ag aA:List Int)(hx:RL x ae)(hy:IL y ag)(hz:IL z aA)(cS:ae.length<=1000000)(kL:aA.length<=1099511627776):
 ∃r h',W5.call 63 [.agg [x,y],z] h=aa (r,h')/\((∃e,gC ae ag aA=([],az,e)/\r=.ret (.tuple [.list .nil 0 [],.v (.bool az),.v (.int .i64 e)]))∨∃l b,gC ae ag aA=(l,ai,0)/\l.length=ae.length/\r=.ret (.tuple [.arr b 0 ae.length ae.length,.v (.bool ai),.v (.int .i64 0)])/\h'.boxes[b]?=aa (l.map im)):=by
 have bx:=pQ hx hy;have b0:(h.push [x,y]).boxes[h.boxes.length]?=aa [x,y]:=bh _ _;have l25:=λK (X:Ext (h.push [x,y]) K)=>rk (X.box _ _ b0);have l22:=λK (X:Ext (h.push [x,y]) K)=>pO (X.box _ _ b0);have l23:=λK (X:Ext (h.push [x,y]) K)=>Cn (X.box _ _ b0);have l0:=l25 _ (.refl _);have cc:=Zj x y ae ag hx hy cS;have cp:=amI z aA hz ah;have eA:gC ae ag aA=if de ae ag≠0 then ([],az,de ae ag) else if !gx (-1) aA then ([],az,1) else match pG ((ez ag aA).map λi=>ae.getD i []) (fR (b9 ae)) with|none=>([],az,0)|some l=>(rC ae.length (ez ag aA) l,ai,0):=rfl
 have svs:fe (.agg [x,y]) (.agg [x,y])=ai:=by rw[fe,oF,oF,oF,hx.same,hy.same];rfl
 refine da rfl Tryz.func63 rfl ?_;by_cases q1:de ae ag≠0
 ·rw[aG q1] at eA;generalize de ae ag=pe at *
  have V7:decide (pe=0)=az:=by simp[q1]
  have ke:=al.mk eA;clear eA q1 l25 l22 l23 hx hy hz cp b0;unfold im at cc;refine bV @vP @bB ?_;exact⟨_,_,rfl,.inl ⟨pe,ke.out,rfl⟩⟩
 rw[aH q1] at eA;have q1:de ae ag=0:=IM.1 q1;rw[q1] at cc;cases q2:gx (-1) aA with
 |false=>rw[q2] at cp;rw[aG (by rw[q2];rfl)] at eA;have ke:=al.mk eA;clear eA q1 q2 l25 l22 l23 hx hy hz b0;unfold im at cc;refine bV @vP @bB ?_;exact⟨_,_,rfl,.inl ⟨1,ke.out,rfl⟩⟩
 |true=>
 rw[q2] at cp;rw[aH (by rw[q2];simp)] at eA;obtain⟨o1,o2,o3,-⟩:=o9 q1;obtain⟨n1,n2⟩:=uW q1;have yH:(fR (b9 ae)).length=b9 ae:=RI n1;have Aq:∀i∈ez ag aA,i<ae.length:=λi hi=>by unfold ez at hi;rw[o1];exact gB.1 (uL.1 hi).1
 have bZ:(ez ag aA).length<=64:=by unfold ez;exact fJ (FK _ _) (by rw[ab6];omega)
 have dJ:∀r∈(ez ag aA).map λi=>ae.getD i [],r∈ae:=λr hr=>by obtain⟨i,hi,rfl⟩:=ju.1 hr;have:=Aq i hi;rw[dS,aT this];exact iG _
 have c136:=af5 x y ae ag hx hy;have c135:=ats (b9 ae) n1 ah;obtain⟨_,H2,c134,X,rfl,hX,X2,B4⟩:=amg (h.push [x,y]) bJ x y z ae ag aA hx hy hz o1 ah kL;have lH2:=l25 H2 X2;obtain⟨_,H3,c133,P3⟩:=af9 H2 B4 X (.list .held 1 (ints (fR (b9 ae)))) _ (fR (b9 ae)) hX ⟨_,_,rfl,λ_=>rfl⟩ (by rw[bE];exact bZ) (λr hr=>by rw[yH];exact(o3 r (dJ r hr)).1) (by rw[yH];exact n2) ah (λr hr=>(o3 r (dJ r hr)).2.2.2) (λx hx=>by
  unfold fR at hx;rcases iq.1 hx with rfl|hx
  ·exact⟨aO,by decide⟩
  ·rw[List.eq_of_mem_replicate hx];exact⟨aO,by decide⟩)
 obtain⟨X3,P3⟩:=P3;have kl22:=al.mk λK (X:Ext H3 K)=>l22 K (X2.trans (X3.trans X));have kl23:=al.mk λK (X:Ext H3 K)=>l23 K (X2.trans (X3.trans X));have hs:=λn=>VO z aA n hz kL;have ll0:=l22 H3 (X2.trans X3);rw[bE] at P3;obtain⟨k0,s0,xs,rfl,-,dB,-⟩:=hx;obtain⟨ky,sy,rfl,jL⟩:=hy;have ksy:=al.mk jL;have u23:=dN;have u22:=ir;have z3:=fH;have Kl:(xs.map λa=>[a]).length=ae.length:=by rw[bE];exact dB
 have cK:=dp ag;have ko:=al.mk (av Aq o1);clear dJ Aq o3 hX X2 X3 B4 hz l25 l22 l23 b0 q1 dB jL o1;unfold im at cc c136 c135;rcases P3 with⟨e1,rfl⟩|⟨l,b,e1,e2,rfl,hb⟩
 ·rw[e1] at eA;have ke:=al.mk eA;clear eA e1 kl22 kl23 hs;unfold im at c133;refine bV @vP @bB ?_;refine my [(2,3)] lO fg (λp hp=>?_) ?_
  ·simp only[lu] at hp;subst hp;refine rD (x:=.ptr (.box h.boxes.length) 0) (v:=.agg [.list k0 s0 (xs.map λa=>[a]),.list ky sy (ints ag)]) fg rfl rfl rfl fg (svs) ?_ ?_<;>(simp only[gl,fm];exact jI @vP @and_self)
  refine bI @vP ?_;exact⟨_,_,rfl,.inl ⟨0,ke.out,rfl⟩⟩
 rw[e1] at eA;have ke:=al.mk eA;have kb:=al.mk (av hb e2);have mk:=AB H3 ae.length ah .i64 .i64;have nR:bg ae.length (im 0)=(mR ae.length (ez ag aA) l (fc ag aA 0).length).map im:=by unfold mR;rw[show(fc ag aA 0).length=0 from rfl,fm,FG,xQ]
 rw[nR] at mk;clear eA e1 nR hb;unfold im at c133 mk;refine bV @vP @bB ?_;refine my [(2,3)] lO fg (λp hp=>?_) ?_
 ·simp only[lu] at hp;subst hp;refine rD (x:=.ptr (.box h.boxes.length) 0) (v:=.agg [.list k0 s0 (xs.map λa=>[a]),.list ky sy (ints ag)]) fg rfl rfl rfl fg (svs) ?_ ?_<;>(simp only[gl,fm];exact jI @vP @and_self)
 refine cR @vP @dw @eG ?_;refine bM.gen λe0 aF bD cN cH=>?_;have f1:e0.get 1=z:=by rw[aF];exact gS
 have f2:e0.get 2=.ptr (.box h.boxes.length) 0:=by rw[aF];exact gS
 have f8:e0.get 8=.arr b 0 (ez ag aA).length (ez ag aA).length:=by rw[aF];exact gS
 have f11:e0.get 11=.arr H3.boxes.length 0 ae.length ae.length:=by rw[aF];exact gS
 have f12:e0.get 12=.v (.int .i64 ((fc ag aA 0).length:Nat)):=by rw[aF];exact gR
 have f13:e0.get 13=.v (.int .i64 (0:Nat)):=by rw[aF];exact gR
 have fd:e0.defers=[]:=by rw[bD];exact gS
 clear aF bD cN cH mk cc cp c136 c135 c134 c133 l0 lH2 ll0 bx svs;refine cE (λm e H=>∃i:Nat,i<=ae.length/\m=ae.length - i/\e.get 1=z/\e.get 2=.ptr (.box h.boxes.length) 0/\e.get 8=.arr b 0 (ez ag aA).length (ez ag aA).length/\e.get 11=.arr H3.boxes.length 0 ae.length ae.length/\e.get 12=.v (.int .i64 ((fc ag aA i).length:Nat))/\e.get 13=.v (.int .i64 (i:Nat))/\e.defers=[]/\H=H3.push ((mR ae.length (ez ag aA) l (fc ag aA i).length).map im)) ?_ ae.length _ _ ?_;rotate_left 1
 ·exact⟨0,cG _,rfl,f1,f2,f8,f11,f12,f13,fd,rfl⟩
 clear f1 f2 f8 f11 f12 f13 fd;rintro m e H ⟨i,hi,rfl,g1,g2,g8,g11,g12,g13,hd,rfl⟩;have l0:=kl22.out (H3.push ((mR ae.length (ez ag aA) l (fc ag aA i).length).map im)) (.push _ _);have l1:=kl23.out (H3.push ((mR ae.length (ez ag aA) l (fc ag aA i).length).map im)) (.push _ _);by_cases iR:i<ae.length;rotate_left 1
 ·have gT:i=ae.length:=by omega
  subst gT;have hN:fc ag aA ae.length=ez ag aA:=by unfold fc ez;rw[ko.out.2]
  have kN:=al.mk hN;clear hN;refine cR @vP @dw @eG ?_;refine⟨_,_,rfl,.inr ⟨_,_,ke.out,?_,rfl,?_⟩⟩
  ·rw[<-Ly];exact Lz
  ·rw[bh,kN.out,Ly]
 have bF:sy=1:=ksy.out (by intro q;have o1:=ko.out.2;rw[q,jY] at o1;omega);subst bF;have lo:=e7 (H:=H3.push ((mR ae.length (ez ag aA) l (fc ag aA i).length).map im)) (l:=ag) (i:=i) (s:=1) (by have:=ko.out.2;omega);have JX:(i:Int)<(ae.length:Int):=by omega
 have ajm:(i:Int)<(ag.length:Int):=by have:=ko.out.2;omega
 have c:=hs (ak ag i);cases hc:aA.contains (ak ag i) with
 |true=>
  rw[hc] at c;have oT:=Ru (show i<ag.length by have:=ko.out.2;omega) hc;have aB:=(aV.1 oT).1;have VG:=YU hc;have N8:(fc ag aA (i+1)).length=(fc ag aA i).length+1:=by rw[VG,dE];rfl
  have ix1:=qy (b:=b) (len:=(ez ag aA).length) (aC:=(ez ag aA).length) (k:=.i64) aB;have ix3:=qy (b:=H3.boxes.length) (len:=ae.length) (aC:=ae.length) (k:=.i64) iR;have lv:=yR (H:=H3.push ((mR ae.length (ez ag aA) l (fc ag aA i).length).map im)) (bA kb.out.1) (xd (k:=(fc ag aA i).length) (by rw[kb.out.2];exact aB));have sk:=y8 (H:=H3.push ((mR ae.length (ez ag aA) l (fc ag aA i).length).map im)) (b:=H3.boxes.length) (r:=mR ae.length (ez ag aA) l (fc ag aA i).length) (k:=i) (x:=ak l (fc ag aA i).length) (bh _ _) (by rw[Lz];exact iR);rw[pg,aaw oT,<-N8] at sk;have kNl:=al.mk N8;clear oT VG N8 hs kl22 kl23;unfold im at c lv sk l0 l1 lo ⊢;refine bG @vP @dw @eG @a9 ?_;exact⟨ae.length - (i+1),by omega,i+1,by omega,rfl,by trivial,by trivial,by trivial,by trivial,(by rw[kNl.out];first|rfl|simp),by simp,by trivial,by trivial⟩
 |false=>rw[hc] at c;have VF:=YT hc;have kNn:=al.mk VF;clear VF hs kl22 kl23;unfold im at c;refine bG @vP @dw @eG @a9 ?_;exact⟨ae.length - (i+1),by omega,i+1,by omega,rfl,by trivial,by trivial,by trivial,by trivial,by rw[kNn.out],by simp,by trivial,by rw[kNn.out]⟩
def L6:List FuncId:=L5++[17,20,22,26,41,44,45,56,63,75,80,133,134]
noncomputable def QC:FuncId->Option (List AV->ao->Option (AV × ao)):=qb W5 L6
noncomputable abbrev W6:=whole aq Gt QC
def Dv:pX QC L6:=xY
section
variable (a b n x:Int)
def Ja:∀h,W6.call 28 [im a,im b] h=aa (.ret (im (cQ a b)),h):=br (L:=L6) rfl rfl rfl (I9 a b _) rfl rfl
def P6:∀h,W6.call 29 [im a,im b] h=aa (.ret (im (bX a b)),h):=br (L:=L6) rfl rfl rfl (HA a b _) rfl rfl
def at4:∀h,W6.call 46 [im x] h=aa (.ret (.v (.bool (bN x))),h):=br (L:=L6) rfl rfl rfl (IB x _) rfl rfl
def anR:∀h,W6.call 65 [im a,im b] h=aa (.ret (im (cQ a b)),h):=br (L:=L6) rfl rfl rfl (anQ a b _) rfl rfl
def apx:∀h,W6.call 66 [im a,im b] h=aa (.ret (im (bX a b)),h):=br (L:=L6) rfl rfl rfl (apw a b _) rfl rfl
def Rn:∀h,W6.call 94 [im x] h=aa (.ret (.v (.bool (bN x))),h):=br (L:=L6) rfl rfl rfl (ars x _) rfl rfl
def Zu:∀h,W6.call 140 [im a,im b] h=aa (.ret (.tuple [im (jx a b),im (me a b)]),h):=br (L:=L6) rfl rfl rfl (aop a b _) rfl rfl
def Zv:∀h,W6.call 132 [im a,im n] h=aa (.ret (.tuple [im (ft a n),im (mJ a)]),h):=br (L:=L6) rfl rfl rfl (aow a n _) rfl rfl
def KW:∀h,W6.call 120 [im n] h=aa (.ret (.agg (aJ 1 n [] .nil 0 [])),h):=br (L:=L6) rfl rfl rfl (aoJ n _) rfl rfl
def Yv:∀h,W6.call 59 [im n] h=aa (.ret (.v (.bool (cU n))),h):=br (L:=L6) rfl rfl rfl (alQ n _) rfl rfl
end
def WH:∀l:List Pr,eU (eS l)=eS l
 | []=>rfl
 |p::l=>by show eU (bQ p::eS l)=_;rw[eU,WH l];rfl
def U2:∀l:List Pr,gL 0 0 0 (eS l)=ai
 | []=>rfl
 |p::l=>by show gL 0 0 0 (bQ p::eS l)=_;rw[gL,U2 l];rfl
def WI:∀l:List (Int × Int),eU (fV l)=fV l
 | []=>rfl
 |p::l=>by show eU (y7 p::fV l)=_;rw[eU,WI l];rfl
def NI:∀l:List (Int × Int),gL 0 0 0 (fV l)=ai
 | []=>rfl
 |p::l=>by show gL 0 0 0 (y7 p::fV l)=_;rw[gL,NI l];rfl
def WJ:∀l:List Int,eU (l.map LM)=l.map LM
 | []=>rfl
 |p::l=>by rw[eK,eU,WJ l];rfl
def U3:∀l:List Int,gL 0 0 0 (l.map LM)=ai
 | []=>rfl
 |p::l=>by rw[eK,gL,U3 l];rfl
def PL.hold{x}{l}(h:PL x l):PL (aD x) l/\aL 0 0 0 (aD x)=ai:=by obtain⟨k,s,rfl,hs⟩:=h;rw[aD,WH];exact⟨⟨cd k,s,rfl,hs⟩,by rw[aL,fy,U2];rfl⟩
def SL.hold{x}{l}(h:SL x l):SL (aD x) l/\aL 0 0 0 (aD x)=ai:=by obtain⟨k,s,rfl,hs⟩:=h;rw[aD,WI];exact⟨⟨cd k,s,rfl,hs⟩,by rw[aL,fy,NI];rfl⟩
def UL.hold{x}{l}(h:UL x l):UL (aD x) l/\aL 0 0 0 (aD x)=ai:=by obtain⟨⟨k,s,rfl,hs⟩,hr⟩:=h;rw[aD,WJ];exact⟨⟨⟨cd k,s,rfl,hs⟩,hr⟩,by rw[aL,fy,U3];rfl⟩
def BL.hold{x}{b}(h:BL x b):BL (aD x) b/\aL 0 0 0 (aD x)=ai:=by obtain⟨k,s,rfl,hs⟩:=h;rw[aD,pJ];exact⟨⟨cd k,s,rfl,hs⟩,by rw[aL,fy,jS];rfl⟩
def PH{X Y C}{ae}{ag aj}(ep)(hx:RL X ae)(hy:IL Y ag)(hc:IL C aj):
 ∃X' Y' C',aD (.agg (aP ep X Y C))=.agg (aP ep X' Y' C')/\RL X' ae/\IL Y' ag/\IL C' aj/\aL 0 0 0 (.agg (aP ep X' Y' C'))=ai:=by
 obtain⟨h1,h2⟩:=hx.fb;obtain⟨h3,h4⟩:=hy.hold;obtain⟨h5,h6⟩:=hc.hold;exact⟨_,_,_,rfl,h1,h3,h5,by simp[aP,aL,aW,h2,h4,h6]⟩
section
variable (ep:Int) (X Y C T L:AV) (ae:List (List Int)) (ag aj:List Int) (text:List UInt8) (l:List Pr)
 (hx:RL X ae) (hy:IL Y ag) (hc:IL C aj) (ht:BL T text) (hp:PL L l) (dF:aj.length<=1000000) (eO:l.length<=1000000)
include hx hy hc ht hp dF eO
def Ng:(dA ae ag ep aj text l≠0/\∀h,W6.call 17 [.agg (aP ep X Y C),T,L] h=aa (.ret (.tuple [.list .nil 0 [],im 0,im 0,im (dA ae ag ep aj text l)]),h))∨
 (dA ae ag ep aj text l=0/\∃Z,IL Z (wk (ak aj 0) text l)/\∀h,W6.call 17 [.agg (aP ep X Y C),T,L] h=aa (.ret (.tuple [Z,im ((gV (ak aj 0) text l:Nat):Int),im ((eZ (ak aj 0) text l:Nat):Int),im 0]),h)):=by
 obtain⟨X',Y',C',e1,h1,h2,h3,h4⟩:=PH ep hx hy hc;obtain⟨h5,h6⟩:=ht.hold;obtain⟨h7,h8⟩:=hp.hold;have ea:cr [.agg (aP ep X Y C),T,L]=[.agg (aP ep X' Y' C'),aD T,aD L]:=by rw[cr,cr,cr,cr,e1]
 have ef:aW 0 0 0 [.agg (aP ep X' Y' C'),aD T,aD L]=ai:=by rw[aW,aW,aW,aW,h4,h6,h8];rfl
 obtain⟨r,h',c,⟨q,rfl⟩|⟨q,Z,rfl,hZ⟩⟩:=aew ⟨[],[],0,[]⟩ vB ep X' Y' C' (aD T) (aD L) ae ag aj text l h1 h2 h3 h5 h7 dF eO
 ·exact .inl ⟨q,br (L:=L6) rfl ea ef c rfl rfl⟩
 ·obtain⟨k,s,rfl,hs⟩:=hZ;refine .inr ⟨q,.list (cd k) s (ints _),⟨_,_,rfl,hs⟩,br (L:=L6) rfl ea ef c ?_ ?_⟩
  ·rfl
  ·rw[aL,aW,aL,fy,nL];rfl
def Yc(S:AV)(s:List (Int × Int))(au d f:Int)(hs:SL S s)(kK:s.length<=1000000):
 ∀h,W6.call 20 [.agg (aP ep X Y C),T,L,im au,S,im d,im f] h=aa (.ret (.tuple [im (lq ae ag ep aj text l au s d f).1,im (lq ae ag ep aj text l au s d f).2]),h):=by
 obtain⟨X',Y',C',e1,h1,h2,h3,h4⟩:=PH ep hx hy hc;obtain⟨h5,h6⟩:=ht.hold;obtain⟨h7,h8⟩:=hp.hold;obtain⟨h9,BB⟩:=hs.hold;obtain⟨r,h',c,rfl⟩:=alh ⟨[],[],0,[]⟩ vB ep X' Y' C' (aD T) (aD L) (aD S) ae ag aj text l s au d f h1 h2 h3 h5 h7 h9 dF eO kK;exact br (L:=L6) rfl (by simp only[cr];rw[e1];rfl) (by simp only[aW];rw[h4,h6,h8,BB];rfl) c rfl rfl
def NJ(au z:Int):
 ∀h,W6.call 22 [.agg (aP ep X Y C),T,L,im au,im z] h=aa (.ret (.tuple [.v (.bool (lU ae ag ep aj text l au z).1),im (lU ae ag ep aj text l au z).2]),h):=by
 obtain⟨X',Y',C',e1,h1,h2,h3,h4⟩:=PH ep hx hy hc;obtain⟨h5,h6⟩:=ht.hold;obtain⟨h7,h8⟩:=hp.hold;obtain⟨r,h',c,rfl⟩:=ahE ⟨[],[],0,[]⟩ vB ep X' Y' C' (aD T) (aD L) ae ag aj text l au z h1 h2 h3 h5 h7 dF eO;exact br (L:=L6) rfl (by simp only[cr];rw[e1];rfl) (by simp only[aW];rw[h4,h6,h8];rfl) c rfl rfl
end
def auc(key e s)(T)(text)(ht:BL T text)(hl:text.length<=1000000):
 ∀h,W6.call 26 [im key,T,.agg [im e,im s]] h=aa (.ret (.v (.bool (vR key text e s))),h):=by
 obtain⟨⟨k,z,e1,hs⟩,h2⟩:=ht.hold;obtain⟨r,h',c,rfl,-⟩:=aua ⟨[],[],0,[]⟩ key e s k z text hs hl;exact br (L:=L6) rfl (by simp only[cr];rw[e1];rfl) (by rw[<-e1];simp only[aW];rw[h2];rfl) c rfl rfl
def YF(n d f)(hn:0<=n/\n<=1000000):∀h,W6.call 45 [im n,im d,im f] h=aa (.ret (.tuple [.agg (bQ ⟨n,n%7,(bC Gn d:Nat),(bC Gn f:Nat)⟩),.v (.bool ai)]),h):=by obtain⟨r,h',c,rfl⟩:=ams ⟨[],[],0,[]⟩ n d f hn;exact br (L:=L6) rfl rfl rfl c rfl rfl
def agM(x y z)(ae)(ag gX)(gy)(hx:RL x ae)(hy:IL y ag)(hz:IL z gX)(hl:gX.length<=1000)(mn:ae.length<=1000000):
 (tZ ae ag gy gX≠0/\∀h,W6.call 44 [.agg [x,y],im gy,z] h=aa (.ret (.tuple [.list .nil 0 [],.list .nil 0 [],im (tZ ae ag gy gX)]),h))∨
 (tZ ae ag gy gX=0/\∃U V,SL U (rZ ae (gy::gX))/\IL V (dT (gy::gX))/\∀h,W6.call 44 [.agg [x,y],im gy,z] h=aa (.ret (.tuple [U,V,im 0]),h)):=by
 obtain⟨h1,h2,h3,h4⟩:=yY hx hy;obtain⟨h5,h6⟩:=hz.hold;have ef:aW 0 0 0 [.agg [aD x,aD y],im gy,aD z]=ai:=by simp[aW,aL,h3,h4,h6,im]
 obtain⟨r,h',c,⟨q,rfl⟩|⟨q,t1,s1,t2,s2,rfl,g1,g2⟩⟩:=agL ⟨[],[],0,[]⟩ vB (aD x) (aD y) (aD z) ae ag gX gy h1 h2 h5 hl mn
 ·exact .inl ⟨q,br (L:=L6) (cA:=[.agg [aD x,aD y],im gy,aD z]) rfl rfl ef c rfl rfl⟩
 ·refine .inr ⟨q,.list (cd t1) s1 (fV _),.list (cd t2) s2 (ints _),⟨_,_,rfl,g1⟩,⟨_,_,rfl,λ_=>g2⟩,br (L:=L6) (cA:=[.agg [aD x,aD y],im gy,aD z]) rfl rfl ef c ?_ ?_⟩
  ·rfl
  ·rw[aL,aW,aL,fy,NI,aW,aL,fy,nL];rfl
def af8(x y)(ae)(ag)(hx:RL x ae)(hy:IL y ag):∀h,W6.call 42 [.agg [x,y]] h=aa (.ret (im (b9 ae:Nat)),h):=by obtain⟨h1,h2,h3,h4⟩:=yY hx hy;exact br (L:=L6) (cA:=[.agg [aD x,aD y]]) rfl rfl (by simp[aW,aL,h3,h4]) (af7 (aD x) (aD y) ae ag h1 h2 _) rfl rfl
def fb(k):cd (cd k)=cd k:=by cases k<;>rfl
def apn{l}{ae}(hr:nK l ae)(hh:eU ae=ae)(k)(hm:ae.length<=1000000):∀h,W2.call 119 [.list k 4 ae] h=aa (.ret (.agg (aJ 3 0 [] (cd k) 4 ae)),h):=by
 have hv:cY (.list l) (aJ 3 0 [] k 4 ae):=.list l k 4 ae hr.1 (λ_=>rfl) hm hr.2;obtain⟨h1,h2⟩:=cY.hold _ _ hv;have e:cr (aJ 3 0 [] k 4 ae)=aJ 3 0 [] (cd k) 4 (eU ae):=rfl;rw[e,hh] at h1 h2;refine br (L:=L2) (cA:=[.list (cd k) 4 ae]) rfl ?_ ?_ (aps _ _ _ _) ?_ ?_
 ·simp only[cr,aD,hh]
 ·unfold aJ at h2;simp only[aW,bL] at h2 ⊢;exact⟨h2.2.2.2.1,aX⟩
 ·show AV.agg [im 3,im 0,sv [],.list (cd (cd k)) 4 ae]=_;rw[fb];rfl
 ·rw[aL];exact h2
def aqW(s):∀h,W3.call 121 [sv s] h=aa (.ret (.agg (aJ 2 0 s .nil 0 [])),h):=br (L:=L3) rfl rfl rfl (aqV s _) rfl rfl
def aoz(bu b)(k)(hb:b.length<=1099511610000)(ht:bu.length<=1099511610000):∀h,W3.call 123 [.v (.string (bs bu)),.list k 1 (bf b)] h=aa (.ret (im (mK (gi bu b):Nat)),h):=
 br (L:=L3) (cA:=[.v (.string (bs bu)),.list (cd k) 1 (bf b)]) rfl (by rw[cr,cr,aD.eq_1,pJ];rfl) (by simp[aW,aL,fy,jS]) (aoy bu b _ hb ht _) rfl rfl
def an6{v}{r}(hv:cY v r)(hd:gq v<=16)(hl:(dI v).length<=1099511600000):∃t,∀h,W3.call 118 [.agg r] h=aa (.ret (.tuple [.list t 1 (bf (dI v)),.v (.int .i64 0)]),h):=by obtain⟨h1,h2⟩:=cY.hold v r hv;obtain⟨t,c⟩:=an5 h1 hd hl;exact⟨cd t,br (L:=L3) (cA:=[.agg (cr r)]) rfl rfl (by simpa [aW,aL] using h2) (c _) rfl (by simp[aL,aW,fy,jS])⟩
def apo{l}{ae}(hr:nK l ae)(hh:eU ae=ae)(k)(hm:ae.length<=1000000):∀h,W3.call 119 [.list k 4 ae] h=aa (.ret (.agg (aJ 3 0 [] (cd k) 4 ae)),h):=by
 have hv:cY (.list l) (aJ 3 0 [] k 4 ae):=.list l k 4 ae hr.1 (λ_=>rfl) hm hr.2;obtain⟨h1,h2⟩:=cY.hold _ _ hv;have e:cr (aJ 3 0 [] k 4 ae)=aJ 3 0 [] (cd k) 4 (eU ae):=rfl;rw[e,hh] at h1 h2;refine br (L:=L3) (cA:=[.list (cd k) 4 ae]) rfl ?_ ?_ (apn hr hh (cd k) hm _) ?_ ?_
 ·simp only[cr,aD,hh]
 ·unfold aJ at h2;simp only[aW,bL] at h2 ⊢;exact⟨h2.2.2.2.1,aX⟩
 ·show AV.agg [im 3,im 0,sv [],.list (cd (cd (cd k))) 4 ae]=_;rw[fb,fb];rfl
 ·rw[aL];exact h2
def aqX(s):∀h,W4.call 121 [sv s] h=aa (.ret (.agg (aJ 2 0 s .nil 0 [])),h):=br (L:=L4) rfl rfl rfl (aqW s _) rfl rfl
def aoA(bu b)(k)(hb:b.length<=1099511610000)(ht:bu.length<=1099511610000):∀h,W4.call 123 [.v (.string (bs bu)),.list k 1 (bf b)] h=aa (.ret (im (mK (gi bu b):Nat)),h):=
 br (L:=L4) (cA:=[.v (.string (bs bu)),.list (cd k) 1 (bf b)]) rfl (by rw[cr,cr,aD.eq_1,pJ];rfl) (by simp[aW,aL,fy,jS]) (aoz bu b _ hb ht _) rfl rfl
def an7{v}{r}(hv:cY v r)(hd:gq v<=16)(hl:(dI v).length<=1099511600000):∃t,∀h,W4.call 118 [.agg r] h=aa (.ret (.tuple [.list t 1 (bf (dI v)),.v (.int .i64 0)]),h):=by obtain⟨h1,h2⟩:=cY.hold v r hv;obtain⟨t,c⟩:=an6 h1 hd hl;exact⟨cd t,br (L:=L4) (cA:=[.agg (cr r)]) rfl rfl (by simpa [aW,aL] using h2) (c _) rfl (by simp[aL,aW,fy,jS])⟩
def apq{l}{ae}(hr:nK l ae)(hh:eU ae=ae)(k)(hm:ae.length<=1000000):∀h,W4.call 119 [.list k 4 ae] h=aa (.ret (.agg (aJ 3 0 [] (cd k) 4 ae)),h):=by
 have hv:cY (.list l) (aJ 3 0 [] k 4 ae):=.list l k 4 ae hr.1 (λ_=>rfl) hm hr.2;obtain⟨h1,h2⟩:=cY.hold _ _ hv;have e:cr (aJ 3 0 [] k 4 ae)=aJ 3 0 [] (cd k) 4 (eU ae):=rfl;rw[e,hh] at h1 h2;refine br (L:=L4) (cA:=[.list (cd k) 4 ae]) rfl ?_ ?_ (apo hr hh (cd k) hm _) ?_ ?_
 ·simp only[cr,aD,hh]
 ·unfold aJ at h2;simp only[aW,bL] at h2 ⊢;exact⟨h2.2.2.2.1,aX⟩
 ·show AV.agg [im 3,im 0,sv [],.list (cd (cd (cd k))) 4 ae]=_;rw[fb,fb];rfl
 ·rw[aL];exact h2
def aqY(s):∀h,W5.call 121 [sv s] h=aa (.ret (.agg (aJ 2 0 s .nil 0 [])),h):=gH (L:=L5) rfl rfl rfl (aqX s _) rfl rfl
def aoB(bu b)(k)(hb:b.length<=1099511610000)(ht:bu.length<=1099511610000):∀h,W5.call 123 [.v (.string (bs bu)),.list k 1 (bf b)] h=aa (.ret (im (mK (gi bu b):Nat)),h):=
 gH (L:=L5) (cA:=[.v (.string (bs bu)),.list (cd k) 1 (bf b)]) rfl (by rw[cr,cr,aD.eq_1,pJ];rfl) (by simp[aW,aL,fy,jS]) (aoA bu b _ hb ht _) rfl rfl
def an8{v}{r}(hv:cY v r)(hd:gq v<=16)(hl:(dI v).length<=1099511600000):∃t,∀h,W5.call 118 [.agg r] h=aa (.ret (.tuple [.list t 1 (bf (dI v)),.v (.int .i64 0)]),h):=by obtain⟨h1,h2⟩:=cY.hold v r hv;obtain⟨t,c⟩:=an7 h1 hd hl;exact⟨cd t,gH (L:=L5) (cA:=[.agg (cr r)]) rfl rfl (by simpa [aW,aL] using h2) (c _) rfl (by simp[aL,aW,fy,jS])⟩
def apr{l}{ae}(hr:nK l ae)(hh:eU ae=ae)(k)(hm:ae.length<=1000000):∀h,W5.call 119 [.list k 4 ae] h=aa (.ret (.agg (aJ 3 0 [] (cd k) 4 ae)),h):=by
 have hv:cY (.list l) (aJ 3 0 [] k 4 ae):=.list l k 4 ae hr.1 (λ_=>rfl) hm hr.2;obtain⟨h1,h2⟩:=cY.hold _ _ hv;have e:cr (aJ 3 0 [] k 4 ae)=aJ 3 0 [] (cd k) 4 (eU ae):=rfl;rw[e,hh] at h1 h2;refine gH (L:=L5) (cA:=[.list (cd k) 4 ae]) rfl ?_ ?_ (apq hr hh (cd k) hm _) ?_ ?_
 ·simp only[cr,aD,hh]
 ·unfold aJ at h2;simp only[aW,bL] at h2 ⊢;exact⟨h2.2.2.2.1,aX⟩
 ·show AV.agg [im 3,im 0,sv [],.list (cd (cd (cd k))) 4 ae]=_;rw[fb,fb];rfl
 ·rw[aL];exact h2
def Z8(s):∀h,W6.call 121 [sv s] h=aa (.ret (.agg (aJ 2 0 s .nil 0 [])),h):=br (L:=L6) rfl rfl rfl (aqY s _) rfl rfl
def Zw(bu b)(k)(hb:b.length<=1099511610000)(ht:bu.length<=1099511610000):∀h,W6.call 123 [.v (.string (bs bu)),.list k 1 (bf b)] h=aa (.ret (im (mK (gi bu b):Nat)),h):=
 br (L:=L6) (cA:=[.v (.string (bs bu)),.list (cd k) 1 (bf b)]) rfl (by rw[cr,cr,aD.eq_1,pJ];rfl) (by simp[aW,aL,fy,jS]) (aoB bu b _ hb ht _) rfl rfl
def Zs{v}{r}(hv:cY v r)(hd:gq v<=16)(hl:(dI v).length<=1099511600000):∃t,∀h,W6.call 118 [.agg r] h=aa (.ret (.tuple [.list t 1 (bf (dI v)),.v (.int .i64 0)]),h):=by obtain⟨h1,h2⟩:=cY.hold v r hv;obtain⟨t,c⟩:=an8 h1 hd hl;exact⟨cd t,br (L:=L6) (cA:=[.agg (cr r)]) rfl rfl (by simpa [aW,aL] using h2) (c _) rfl (by simp[aL,aW,fy,jS])⟩
def Zx{l}{ae}(hr:nK l ae)(hh:eU ae=ae)(k)(hm:ae.length<=1000000):∀h,W6.call 119 [.list k 4 ae] h=aa (.ret (.agg (aJ 3 0 [] (cd k) 4 ae)),h):=by
 have hv:cY (.list l) (aJ 3 0 [] k 4 ae):=.list l k 4 ae hr.1 (λ_=>rfl) hm hr.2;obtain⟨h1,h2⟩:=cY.hold _ _ hv;have e:cr (aJ 3 0 [] k 4 ae)=aJ 3 0 [] (cd k) 4 (eU ae):=rfl;rw[e,hh] at h1 h2;refine br (L:=L6) (cA:=[.list (cd k) 4 ae]) rfl ?_ ?_ (apr hr hh (cd k) hm _) ?_ ?_
 ·simp only[cr,aD,hh]
 ·unfold aJ at h2;simp only[aW,bL] at h2 ⊢;exact⟨h2.2.2.2.1,aX⟩
 ·show AV.agg [im 3,im 0,sv [],.list (cd (cd (cd k))) 4 ae]=_;rw[fb,fb];rfl
 ·rw[aL];exact h2
end Go.Proofs.YtnfciiiohoafaaaGreatDoor
end
