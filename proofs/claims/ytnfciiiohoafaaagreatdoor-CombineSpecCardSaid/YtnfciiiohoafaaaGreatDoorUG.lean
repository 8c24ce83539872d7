/-
  The engine, part 53: a guarded load behind an operation that acts.
-/
import Derived.Test.YtnfciiiohoafaaaGreatDoorUF
import Derived.Test.YtnfciiiohoafaaaGreatDoorUB
open True renaming intro->aU
open Option renaming none->au,some->aa,map_some->ff
open Bool renaming true->ah,and_eq_true->bC,false->az,not_eq_true->acz,not_eq_false'->acy,true_and->ry
open List renaming mem_cons->iu,getElem?_eq_getElem->aR,drop_eq_getElem_cons->Bu,getElem?_eq_some_iff->aS,not_mem_nil->vH,length_map->bu,length_take->eS,map_append->mw,take_succ_cons->hU,take_zero->fR,take_length->fC,drop_of_length_le->qF,all_eq_true->ey,getElem_mem->iW,map_eq_nil_iff->Gp,map_cons->eC,mem_of_getElem?->dj,getElem?_map->ej,range->bM,range_succ->om,filter_append->DV,length_filter_le->Gm,mem_map->jP,mem_range->fQ,mem_filter->vG,length_range->ac9,mem_singleton->my,append_assoc->tL,getElem?_append_right->Ab,foldl_append->oj,length_pos_iff->Nm,mem_cons_self->fW,pairwise_cons->Gs,mem_cons_of_mem->fE,length_set->mr,getElem?_set->mL,ext_getElem?->rB,getD_eq_getElem?_getD->ez,length_nil->kQ,length_append->dw,length_cons->iP,getElem?_range->yx,append_nil->jr,getElem?_drop->pD,getElem?_of_mem->uJ,replicate->a9,foldl_nil->Gj,map_replicate->yy
open Go.Proofs.Tryz renaming prog->ao,func127->adM,underlying36->ad3,underlying22->ji,underlying23->dQ
open Nat renaming le_of_ble_eq_true->jR,le_refl->aJ,zero_le->cA,le_trans->fw,beq_refl->adu,lt_or_ge->dW,sub_self->uK,mul_le_mul->qG,reduceEqDiff->aO,zero_add->qb
open And renaming intro->aw
open Decidable renaming not_not->Jz
open Int renaming toNat_natCast->dV
open Array renaming getElem?_eq_none->yl
open Prod renaming fst->GG
set_option maxHeartbeats 64000000
set_option maxRecDepth 100000
set_option linter.unusedSimpArgs false
set_option linter.unusedVariables false
set_option linter.constructorNameAsVariable false
set_option linter.defProp false
section
namespace Go.Proofs.YtnfciiiohoafaaaGreatDoor
open Go.AE Go.NT
def ki(l:List Pr):List Int:=l.map Pr.aB
def Te(ae:List (List Int))(owners:List Int)(ep:Int)(X Y C T L:AV)(aj:List Int)(text:List UInt8)(l:List Pr)(h:aq)(r:eY)(h':aq):Prop:=
 Ext h h'/\((cC ae owners ep aj text l≠0/\r=.ret (.tuple [.v (.pointer au),.v (.int .i64 (cC ae owners ep aj text l))]))∨
  (cC ae owners ep aj text l=0/\∃c Wt,r=.ret (.tuple [.ptr (.box c) 0,.v (.int .i64 0)])/\IL Wt (fi ae owners l)/\vJ h' c ep X Y C T L Wt ((gM (ai aj 0) text l:Nat):Int) ((dF (ai aj 0) text l:Nat):Int) aj text l))
def zB{l}:∀{cZ:Int},gd cZ l=ah->∀p∈l,cZ<p.aB/\p.aB<64/\0<=p.no/\p.no<4096/\bI p.d=ah/\bI p.e=ah:=by
 induction l with
 |nil=>intro _ _ p hp;simp at hp|cons q l ih=>
  intro cZ h p hp;rw[NT.gd] at h;simp only[bC,decide_eq_true_eq] at h;obtain⟨⟨⟨⟨⟨⟨h1,h2⟩,h3⟩,h4⟩,h5⟩,h6⟩,h7⟩:=h;rcases iu.1 hp with rfl|hp
  ·exact⟨h1,h2,h3,h4,h5,h6⟩
  ·obtain⟨k1,k2,k3,k4,k5,k6⟩:=ih h7 p hp;exact⟨ag,k2,k3,k4,k5,k6⟩
def Fo{c0}{text}{l}{p}(hd:bI p.d=ah)(he:bI p.e=ah):elem (kj c0 text l p)=ah:=by unfold kj eU;rw[LB];exact G7 (BY hd) (Bg (BY he) _)
def aoa{c0}{text}{l}{cZ:Int}(h:gd cZ l=ah):elem (gM c0 text l)=ah:=
 De (λp hp=>Fo (zB h p hp).2.2.2.2.1 (zB h p hp).2.2.2.2.2) At
def N7(h:aq)(bq:cG h=ah)(ep:Int)(X Y C T L:AV)(ae:List (List Int))(owners aj:List Int)(text:List UInt8)(l:List Pr)
 (hx:RL X ae) (hy:IL Y owners) (hc:IL C aj) (ht:BL T text) (hp:PL L l) (de:aj.length<=1000000) (dG:l.length<=1000000):
 ∃r h',W5.call 48 [.agg (aN ep X Y C),T,L] h=aa (r,h')/\Te ae owners ep X Y C T L aj text l h r h':=by
 have bx:=uu (ep:=ep) hx hy hc;obtain⟨_,h2,c2,rfl,rfl⟩:=apR (h.push (aN ep X Y C)) ep X Y C ae owners aj hx hy hc de;have c1:=Vr X Y ae owners hx hy;have b0:=aZ h (aN ep X Y C);have l1:aH ao Gt (h.push (aN ep X Y C)) 25 (.ptr (.box h.boxes.length) 1)=aa (.agg [X,Y]):=by rw[iL yG (by kernel_rfl:dt ao 25=aa 2) b0 (jR rfl)];rfl
 have l2:aH ao Gt (h.push (aN ep X Y C)) 27 (.ptr (.box h.boxes.length) 0)=aa (.agg (aN ep X Y C)):=by rw[iL av (by kernel_rfl:dt ao 27=aa 4) b0 (jR rfl)];rfl
 have l3:aH ao Gt ((h.push (aN ep X Y C)).push (aN ep X Y C)) 27 (.ptr (.box h.boxes.length) 0)=aa (.agg (aN ep X Y C)):=by rw[iL av (by kernel_rfl:dt ao 27=aa 4) (aY b0) (jR rfl)];rfl
 have ln1:=ht.dM;have ln2:=hp.dM;have lst:=amg;have bw:mz ao 98 [(0,.agg (aN ep X Y C)),(1,T),(2,L),(4,.agg (aL 3 0 [] .nil 0 []))]=aa (.agg (ir ep X Y C T L (.list .nil 0 []) (.list .nil 0 []) 0 0))/\(AV.agg (ir ep X Y C T L (.list .nil 0 []) (.list .nil 0 []) 0 0)).bP=aa (ir ep X Y C T L (.list .nil 0 []) (.list .nil 0 []) 0 0):=by obtain⟨kx,sx,xs,rfl,-⟩:=hx.form;obtain⟨ky,sy,rfl,-⟩:=hy;obtain⟨kc,sc,rfl,-⟩:=hc;obtain⟨kt,st,rfl,-⟩:=ht;obtain⟨kp,sp,rfl,-⟩:=hp;exact⟨aff ep kx ky kc kt kp sx sy sc st sp _ _ _ _ _,rfl⟩
 obtain⟨bw1,bw2⟩:=bw;have kf:=al.mk (aw hx (aw hy (aw hc (aw ht hp))));have B0:BI h (((h.push (aN ep X Y C)).push (aN ep X Y C)).push (ir ep X Y C T L (.list .nil 0 []) (.list .nil 0 []) 0 0)) ep X Y C T L h.boxes.length ((h.push (aN ep X Y C)).push (aN ep X Y C)).boxes.length (.list .nil 0 []) [] .nil:=
  ⟨((Ext.push _ _).trans (.push _ _)).trans (.push _ _),bq,.inl rfl,aY (aY b0),aZ _ _,.inl ⟨rfl,rfl⟩,aJ _,by rw[cH,cH];omega⟩
 have X1:=al.mk (Ext.push h (aN ep X Y C));have X2:=al.mk ((Ext.push h (aN ep X Y C)).trans (Ext.push _ (aN ep X Y C)));have kE1:al (cW ae owners≠0->cC ae owners ep aj text l=cW ae owners):=⟨λq=>by unfold cC;rw[aG q]⟩;have kE2:al (cW ae owners=0->lH ae ep aj=az->cC ae owners ep aj text l=380):=⟨λq1 q2=>by unfold cC;rw[aI (by simp[q1]),aG];unfold lH at q2;rw[q2];rfl⟩;have kE3:al (cW ae owners=0->lH ae ep aj=ah->65536<text.length->cC ae owners ep aj text l=2):=⟨λq1 q2 q3=>by unfold cC;unfold lH at q2;rw[aI (by simp[q1]),aI (by rw[q2];decide),aG q3]⟩;have kE4:al (cW ae owners=0->lH ae ep aj=ah->¬65536<text.length->64<l.length->cC ae owners ep aj text l=420):=⟨λq1 q2 q3 q4=>by unfold cC;unfold lH at q2;rw[aI (by simp[q1]),aI (by rw[q2];decide),aI q3,aG q4]⟩;have kE5:al (cW ae owners=0->lH ae ep aj=ah->¬65536<text.length->¬64<l.length->gd (-1) l=az->cC ae owners ep aj text l=420):=⟨λq1 q2 q3 q4 q5=>by unfold cC;unfold lH at q2;rw[aI (by simp[q1]),aI (by rw[q2];decide),aI q3,aI q4,aG (by rw[q5];rfl)]⟩;have kE6:al (cW ae owners=0->lH ae ep aj=ah->¬65536<text.length->¬64<l.length->gd (-1) l=ah->∀y o e,fL ae owners (ki l)=(y,o,e)->cC ae owners ep aj text l=if e≠0∨o=az∨l.length=0 then 420 else 0):=⟨λq1 q2 q3 q4 q5 y o e q6=>by unfold cC;unfold lH at q2;rw[aI (by simp[q1]),aI (by rw[q2];decide),aI q3,aI q4,aI (by rw[q5];decide)];unfold ki at q6;rw[q6]⟩;have kW:al (∀y o e,fL ae owners (ki l)=(y,o,e)->fi ae owners l=y):=⟨λy o e q=>by unfold fi;unfold ki at q;rw[q]⟩;have kR:al (lH ae ep aj=ah->aj.length=bJ ae/\aj.all bI=ah):=⟨λq=>by unfold lH at q;simp only[bC,decide_eq_true_eq] at q;exact⟨q.1.2,q.2⟩⟩;unfold Te;generalize cC ae owners ep aj text l=res at *
 clear hx hy hc ht hp b0;refine db rfl Tryz.func48 rfl ?_;by_cases h0:cW ae owners=0;rotate_left 1
 ·have kr:=al.mk (aw h0 (kE1.out h0));clear kE1 kE2 kE3 kE4 kE5 kE6 c2 bw1 bw2 B0 lst l3;generalize cW ae owners=q at *
  unfold im at *
  refine cQ @oG @bg @gL ?_;exact⟨_,_,rfl,X1.out,.inl ⟨by rw[kr.out.2];exact kr.out.1,by rw[kr.out.2]⟩⟩
 rw[h0] at c1;cases h1:lH ae ep aj with
 |false=>
  have kr:=al.mk (kE2.out h0 h1);rw[h1] at c2;clear kE1 kE2 kE3 kE4 kE5 kE6 bw1 bw2 B0 lst l3 h0 h1;unfold im at *
  refine cQ @oG @bg @gL ?_;exact⟨_,_,rfl,X2.out,.inl ⟨by rw[kr.out];decide,by rw[kr.out]⟩⟩
 |true=>
 rw[h1] at c2;by_cases h3:65536<text.length
 ·have kr:=al.mk (kE3.out h0 h1 h3);have hI:(65536:Int)<(text.length:Int):=by omega
  clear kE1 kE2 kE3 kE4 kE5 kE6 bw1 bw2 B0 lst l3 h0 h1 h3;unfold im at *
  refine cQ @oG @bg @gL ?_;exact⟨_,_,rfl,X2.out,.inl ⟨by rw[kr.out];decide,by rw[kr.out]⟩⟩
 have hI:¬(65536:Int)<(text.length:Int):=by omega
 by_cases h4:64<l.length
 ·have kr:=al.mk (kE4.out h0 h1 h3 h4);have Hj:(64:Int)<(l.length:Int):=by omega
  clear kE1 kE2 kE3 kE4 kE5 kE6 bw1 bw2 B0 lst l3 h0 h1 h3 h4;unfold im at *
  refine cQ @oG @bg @gL ?_;exact⟨_,_,rfl,X2.out,.inl ⟨by rw[kr.out];decide,by rw[kr.out]⟩⟩
 have Hj:¬(64:Int)<(l.length:Int):=by omega
 have kbad:=al.mk (λq=>kE5.out h0 h1 h3 h4 q);have kgood:=al.mk (λq=>kE6.out h0 h1 h3 h4 q);have kcom:=al.mk (kR.out h1);have kprog:=al.mk h0;have ktl:al (text.length<=65536):=⟨ag⟩;have KM:l.length<=64:=by omega
 clear kE1 kE2 kE3 kE4 kE5 kE6 kR h0 h1 h3 h4 X1 X2;have kB0:=al.mk B0;clear B0;obtain⟨HW,WH⟩:∃HW,((h.push (aN ep X Y C)).push (aN ep X Y C)).push (ir ep X Y C T L (.list .nil 0 []) (.list .nil 0 []) 0 0)=HW:=⟨_,rfl⟩;unfold im at *
 refine cQ @oG @bg @gL ?_;refine ev mc av ?_;refine cQ @oG @bg @gL ?_;rw[WH] at kB0;refine bH.gen λe0 aF bB cU cN=>?_;have f1:e0.get 1=T:=by rw[aF];exact gS
 have f2:e0.get 2=L:=by rw[aF];exact gS
 have f3:e0.get 3=.ptr (.box h.boxes.length) 0:=by rw[aF];exact gS
 have f6:e0.get 6=.ptr (.box ((h.push (aN ep X Y C)).push (aN ep X Y C)).boxes.length) 0:=by rw[aF];exact gS
 have f9:e0.get 9=.list .nil 0 []:=by rw[aF];exact gS
 have f10:e0.get 10=.v (.int .i64 (-1)):=by rw[aF];exact gS
 have f39:e0.get 39=L:=by rw[aF];exact gS
 have f40:e0.get 40=.v (.int .i64 (l.length:Nat)):=by rw[aF];exact gS
 have f41:e0.get 41=.v (.int .i64 (0:Nat)):=by rw[aF];exact gR
 have fd:e0.defers=[]:=by rw[bB];exact gS
 clear aF bB cU cN c1 c2 l1 l2 l3 bw1 bw2 lst WH hI Hj ln1;generalize ((h.push (aN ep X Y C)).push (aN ep X Y C)).boxes.length=c at *
 generalize h.boxes.length=kb at *
 refine cz (λm e H=>∃(i:Nat) (cZ:Int) (t:Tok) (sz:Nat) (cur:AV),i<=l.length/\m=l.length - i/\al (gd cZ (l.drop i)=gd (-1) l)/\(-1<=cZ)/\al (BI h H ep X Y C T L kb c cur ((l.take i).map Pr.val) t)/\al (sz=1∨(ki (l.take i)=[]/\t=.nil))/\
  e.get 1=T/\e.get 2=L/\e.get 3=.ptr (.box kb) 0/\e.get 6=.ptr (.box c) 0/\e.get 9=.list t sz (ints (ki (l.take i)))/\e.get 10=.v (.int .i64 cZ)/\e.get 39=L/\e.get 40=.v (.int .i64 (l.length:Nat))/\e.get 41=.v (.int .i64 (i:Nat))/\e.defers=[]) ?_ l.length _ _ ?_
 rotate_left 1
 ·exact⟨0,-1,.nil,0,.list .nil 0 [],cA _,rfl,⟨rfl⟩,Int.le_refl _,kB0,⟨.inr ⟨rfl,rfl⟩⟩,f1,f2,f3,f6,f9,f10,f39,f40,f41,fd⟩
 clear f1 f2 f3 f6 f9 f10 f39 f40 f41 fd kB0 HW;rintro m e H ⟨i,cZ,t,sz,cur,hi,rfl,kP,mf,kB,ksz,g1,g2,g3,g6,g9,g10,g39,g40,g41,hd⟩;by_cases aA:i<l.length
 ·obtain⟨p,rU⟩:∃p,l[i]?=aa p:=⟨_,aR aA⟩;have pQ:l.drop i=p::l.drop (i+1):=by rw[Bu aA,(aS.1 rU).2]
  have rT:=kP.out;rw[pQ,NT.gd] at rT;have kpf:=al.mk rT;have ix:=kf.out.2.2.2.2.ix aA;have ld:=C6 (H:=H) (s:=4) rU;have st:=Bm (H:=H) p;have zc:=Dw;have b0:=aZ H (bU p);have q0:aH ao Gt (H.push (bU p)) 3 (.ptr (.box H.boxes.length) 0)=aa (.v (.int .i64 p.aB)):=ct eD b0 rfl;have q1:aH ao Gt (H.push (bU p)) 3 (.ptr (.box H.boxes.length) 1)=aa (.v (.int .i64 p.no)):=ct eD b0 rfl;have q2:aH ao Gt (H.push (bU p)) 3 (.ptr (.box H.boxes.length) 2)=aa (.v (.int .i64 p.d)):=ct eD b0 rfl;have q3:aH ao Gt (H.push (bU p)) 3 (.ptr (.box H.boxes.length) 3)=aa (.v (.int .i64 p.e)):=ct eD b0 rfl;have v1:=MM p.d;have v2:=MM p.e;have fx:(i:Int)<(l.length:Int):=by omega
  have kBp:=al.mk (kB.out.push (bU p));have ktake:=al.mk (ft rU);clear rT pQ rU b0;have kbad2:al ((decide (cZ<p.aB)&&decide (p.aB<64)&&decide (0<=p.no)&&decide (p.no<4096)&&bI p.d&&bI p.e)=az->res=420):=⟨λq=>by refine kbad.out ?_;rw[<-kpf.out,q];rfl⟩;unfold im at *
  by_cases e1:p.aB<=cZ
  ·have d1:decide (p.aB<=cZ)=ah:=bQ e1;have kr:=al.mk (kbad2.out (by rw[cE (ag:¬cZ<p.aB)];rfl));clear e1;refine bK @oG @iR ?_;exact⟨_,_,rfl,kBp.out.ext,.inl ⟨by rw[kr.out];decide,by rw[kr.out]⟩⟩
  have d1:decide (p.aB<=cZ)=az:=cE e1;by_cases e2:64<=p.aB
  ·have d2:decide (64<=p.aB)=ah:=bQ e2;have kr:=al.mk (kbad2.out (by rw[cE (ag:¬p.aB<64)];simp));clear e1 e2;refine bK @oG @iR ?_;exact⟨_,_,rfl,kBp.out.ext,.inl ⟨by rw[kr.out];decide,by rw[kr.out]⟩⟩
  have d2:decide (64<=p.aB)=az:=cE e2;by_cases e3:p.no<0
  ·have d3:decide (p.no<0)=ah:=bQ e3;have kr:=al.mk (kbad2.out (by rw[cE (ag:¬0<=p.no)];simp));clear e1 e2 e3;refine bK @oG @iR ?_;exact⟨_,_,rfl,kBp.out.ext,.inl ⟨by rw[kr.out];decide,by rw[kr.out]⟩⟩
  have d3:decide (p.no<0)=az:=cE e3;by_cases e4:4096<=p.no
  ·have d4:decide (4096<=p.no)=ah:=bQ e4;have kr:=al.mk (kbad2.out (by rw[cE (ag:¬p.no<4096)];simp));clear e1 e2 e3 e4;refine bK @oG @iR ?_;exact⟨_,_,rfl,kBp.out.ext,.inl ⟨by rw[kr.out];decide,by rw[kr.out]⟩⟩
  have d4:decide (4096<=p.no)=az:=cE e4;cases e5:bI p.d with
  |false=>have kr:=al.mk (kbad2.out (by rw[e5];simp));rw[e5] at v1;clear e1 e2 e3 e4 e5;refine bK @oG @iR ?_;exact⟨_,_,rfl,kBp.out.ext,.inl ⟨by rw[kr.out];decide,by rw[kr.out]⟩⟩
  |true=>
  rw[e5] at v1;cases e6:bI p.e with
  |false=>have kr:=al.mk (kbad2.out (by rw[e6];simp));rw[e6] at v2;clear e1 e2 e3 e4 e5 e6;refine bK @oG @iR ?_;exact⟨_,_,rfl,kBp.out.ext,.inl ⟨by rw[kr.out];decide,by rw[kr.out]⟩⟩
  |true=>
  rw[e6] at v2;have Qj:=As e5;have hr6:=As e6;have kP2:al (gd p.aB (l.drop (i+1))=gd (-1) l):=⟨by rw[<-kpf.out,bQ (ag:cZ<p.aB),bQ (ag:p.aB<64),bQ (ag:0<=p.no),bQ (ag:p.no<4096),e5,e6];rfl⟩;obtain⟨r,iK,lr⟩:=anN p (by intro x hx;simp only[iu,vH,or_false] at hx;rcases hx with rfl|rfl|rfl|rfl<;>omega);have HB:(ki (l.take i)).length=i:=by unfold ki;rw[bu,eS];omega
  have ap:=tQ (x:=p.aB) (es:=ki (l.take i)) ag ksz.out kBp.out.can;have bl:=pI p.aB;have XJ:ki (l.take i)++[p.aB]=ki (l.take (i+1)):=by unfold ki;rw[ktake.out,mw];rfl
  rw[XJ] at ap;have kBa:=al.mk kBp.out.app;have qs:((l.take i).map Pr.val).length=i:=by rw[bu,eS];omega
  obtain⟨H2,cs,t1,t2,t3,t4,t5⟩:=kBa.out.next ag iK;have len94:=kBa.out.la.dM;have lw:aH ao Gt ((H.push (bU p)).app t) 94 (.ptr (.box c) 10)=aa cur:=ct Uv kBa.out.work rfl;have bxx:((H.push (bU p)).app t).boxes[H.boxes.length]?=aa (bU p):=by rw[ec];exact aZ _ _
  have q0':aH ao Gt ((H.push (bU p)).app t) 3 (.ptr (.box H.boxes.length) 0)=aa (.v (.int .i64 p.aB)):=ct eD bxx rfl;have q1':aH ao Gt ((H.push (bU p)).app t) 3 (.ptr (.box H.boxes.length) 1)=aa (.v (.int .i64 p.no)):=ct eD bxx rfl;have q2':aH ao Gt ((H.push (bU p)).app t) 3 (.ptr (.box H.boxes.length) 2)=aa (.v (.int .i64 p.d)):=ct eD bxx rfl;have q3':aH ao Gt ((H.push (bU p)).app t) 3 (.ptr (.box H.boxes.length) 3)=aa (.v (.int .i64 p.e)):=ct eD bxx rfl;have Yz:(l.take i).map Pr.val++[p.val]=(l.take (i+1)).map Pr.val:=by rw[ktake.out,mw];rfl
  rw[Yz] at t5;have kB2:=al.mk t5;have bG:((H.push (bU p)).app t).boxes.length≠c:=by have:=kBa.out.Om;omega
  rw[qs] at t1 t2 t3 t4 kB2 len94;have knext: -1<=p.aB:=by omega
  clear e1 e2 e3 e4 e5 e6 Qj hr6 t5 Yz bxx XJ iK HB qs kBp kBa kbad2 kpf kP mf;refine bK @oG @iR ?_;refine aso 23 mc av av av ?_ ?_
  ·refine anI (n:=27) (bi:=((H.push (bU p)).app t).boxes.length) (bn:=c) (x1:=i * 4) (x2:=10) av rfl rfl rfl rfl ?_ ?_ bG<;>(simp only[hU,fR];exact mT @oG @rI @iR (aw @VX (aw @Ij (aw @Oe (aw @UW @and_self)))))
  refine bA @oG @rI @iR (aw @VX (aw @Ij (aw @Oe @UW))) ?_;exact⟨l.length - (i+1),by omega,i+1,p.aB,_,1,_,by omega,rfl,kP2,knext,kB2,⟨.inl rfl⟩,by simp⟩
 have fF:i=l.length:=by omega
 subst fF;rw[fC] at g9 ksz kB;have WR:gd (-1) l=ah:=by rw[<-kP.out,qF (aJ _)];rfl
 have kPok:=al.mk WR;have lk:aH ao Gt H 25 (.ptr (.box kb) 1)=aa (.agg [X,Y]):=by rw[iL yG (by kernel_rfl:dt ao 25=aa 2) kB.out.key (jR rfl)];rfl
 have YE:IL (.list t sz (ints (ki l))) (ki l):=⟨t,sz,rfl,λq=>by
  rcases ksz.out with z|⟨z,-⟩
  ·exact z
  ·exact absurd z q⟩
 have akz:(ki l).length<=64:=by unfold ki;rw[bu];exact KM
 have O8:(∃e,fL ae owners (ki l)=([],az,e)/\∀h,W5.call 76 [.agg [X,Y],.list t sz (ints (ki l))] h=aa (.ret (.tuple [.list .nil 0 [],.v (.bool az),.v (.int .i64 e)]),h))∨∃y,fL ae owners (ki l)=(y,ah,0)/\y.length=ae.length/\∀h,W5.call 76 [.agg [X,Y],.list t sz (ints (ki l))] h=aa (.ret (.tuple [.list .held 1 (ints y),.v (.bool ah),.v (.int .i64 0)]),h):=by obtain⟨k0,s0,xs,WW,-⟩:=kf.out.1.form;have:=Um k0 s0 xs Y (.list t sz (ints (ki l))) ae owners (ki l) (by rw[<-WW];exact kf.out.1) kf.out.2.1 YE ag;rw[<-WW] at this;exact this
 clear WR YE akz aA kP mf hi;rcases O8 with⟨e0,a1,ca⟩|⟨y,a1,a2,ca⟩
 ·have kr:al (res=420):=⟨by rw[kgood.out kPok.out _ _ _ a1,aG (.inr (.inl rfl))]⟩;clear a1;by_cases h9:e0=0
  ·subst h9;refine bK @oG @gL ?_;exact⟨_,_,rfl,kB.out.ext,.inl ⟨by rw[kr.out];decide,by rw[kr.out]⟩⟩
  ·have d9:decide (e0=0)=az:=cE h9;refine bK @oG @gL ?_;exact⟨_,_,rfl,kB.out.ext,.inl ⟨by rw[kr.out];decide,by rw[kr.out]⟩⟩
 by_cases h9:l.length=0
 ·have kr:al (res=420):=⟨by rw[kgood.out kPok.out _ _ _ a1,aG (.inr (.inr h9))]⟩;have d9:decide ((l.length:Int)=0)=ah:=bQ ag;clear a1 h9;refine bK @oG @gL ?_;exact⟨_,_,rfl,kB.out.ext,.inl ⟨by rw[kr.out];decide,by rw[kr.out]⟩⟩
 have d9:decide ((l.length:Int)=0)=az:=cE ag;have kr:al (res=0):=⟨by rw[kgood.out kPok.out _ _ _ a1,aI (by simp;intro q;rw[q] at h9;exact h9 rfl)]⟩;have kWt:=al.mk (kW.out _ _ _ a1);obtain⟨m1,m2⟩:=kcom.out;have mpos:=(sU kprog.out).1;have Cn:bI (ai aj 0)=ah:=by rw[ey] at m2;exact m2 _ (by rw[fm ag];exact iW _)
 have aka:=As Cn;have qR:=kB.out.lo;have akL:=kB.out.lt;have s1:=aun (x:=.list .held 1 (ints y)) kB.out.work rfl;obtain⟨b,vr,aki,lu,fT,yY,hb4⟩:∃(b:Nat) (vr:List (List AV)),cur=.arr b 0 vr.length vr.length/\H.boxes[b]?=aa vr.flatten/\ou (l.map Pr.val) vr/\b≠c/\c+1<=b:=by
  rcases kB.out.la with⟨q,-⟩|⟨-,q⟩
  ·exfalso;rw[Gp] at q;rw[q] at h9;exact h9 rfl
  ·exact q
 subst aki;have Pe:=kB.out.Om;have W1:vJ (H.put c (ir ep X Y C T L (.list .held 1 (ints y)) (.arr b 0 vr.length vr.length) 0 0)) c ep X Y C T L (.list .held 1 (ints y)) 0 0 aj text l:=
  ⟨⟨b,vr,eu Pe,by rw[cX yY];exact lu,fT⟩,kf.out.2.2.1,by omega,⟨ag,by omega⟩,kf.out.2.2.2.1,ktl.out,KM⟩
 have E1:Ext h (H.put c (ir ep X Y C T L (.list .held 1 (ints y)) (.arr b 0 vr.length vr.length) 0 0)):=kB.out.ext.fK ag _;obtain⟨_,Hp,cp,xp,rfl⟩:=aoG 70 [.ptr (.box c) 0] [] (kj (ai aj 0) text l) _ L l kf.out.2.2.2.2 ag (λq hq=>Fo (zB kPok.out q hq).2.2.2.2.1 (zB kPok.out q hq).2.2.2.2.2) (λq hq H' hX=>by have hm:=zB kPok.out q hq;obtain⟨_,H2,n1,n2,rfl⟩:=ZD H' c ep X Y C T L (.list .held 1 (ints y)) 0 0 aj text l (W1.mono hX) q ⟨ag,by omega⟩ hm.2.2.2.2.1 hm.2.2.2.2.2;exact⟨H2,n1,n2⟩);have CM:l.foldl (λx q=>x * kj (ai aj 0) text l q%P) 1=gM (ai aj 0) text l:=rfl;rw[CM] at cp;have tu:=As (tU (aoa (c0:=ai aj 0) (text:=text) kPok.out));have E2:=E1.trans xp;have W2:=W1.mono xp;obtain⟨b',vr',w1,w2,w3⟩:=W2.eJ;have Pa:b'≠c:=by intro q;have z1:Hp.boxes[c]?=aa (ir ep X Y C T L (.list .held 1 (ints y)) (.arr b 0 vr.length vr.length) 0 0):=xp.box _ _ (eu Pe);rw[z1] at w1;unfold ir at w1;injection w1 with w1;simp only[List.cons.injEq,AV.arr.injEq,true_and,and_true] at w1;omega
 have s2:=auq (n:=((gM (ai aj 0) text l:Nat):Int)) w1;have Xj:=(aS.1 w1).1;obtain⟨kt,st,WU,bT⟩:=kf.out.2.2.2.1;obtain⟨H5,O5⟩:∃H5,Hp.put c (ir ep X Y C T L (.list .held 1 (ints y)) (.arr b' 0 vr'.length vr'.length) ((gM (ai aj 0) text l:Nat):Int) 0)=H5:=⟨_,rfl⟩;have w5:H5.boxes[c]?=aa (ir ep X Y C T L (.list .held 1 (ints y)) (.arr b' 0 vr'.length vr'.length) ((gM (ai aj 0) text l:Nat):Int) 0):=by rw[<-O5];exact eu Xj
 have E5:Ext h H5:=by rw[<-O5];exact E2.fK ag _
 have v5:H5.boxes[b']?=aa vr'.flatten:=by rw[<-O5,cX Pa];exact w2
 have sl:=SC ((gM (ai aj 0) text l:Nat):Int) (ai aj 0) text;have hh:=WZ H5 yc .tight 1 [.iface 3 (.v (.int .i64 ((gM (ai aj 0) text l:Nat):Int))),.iface 3 (.v (.int .i64 (ai aj 0))),.iface 28 (.list kt st (a8 text))] [.int ((gM (ai aj 0) text l:Nat):Int),.int (ai aj 0),.text text]
  (.cons (.int _ ⟨ag,by omega⟩) (.cons (.int _ ⟨ag,by omega⟩) (.cons (.text kt st text bT (by have:=ktl.out;omega)) .nil))) (λ_=>rfl) bE aV (by simp[gE,ia]) (by have:=ktl.out;omega)
 have ud:ua yc (.list [.int ((gM (ai aj 0) text l:Nat):Int),.int (ai aj 0),.text text])=dF (ai aj 0) text l:=rfl;rw[ud,<-WU,show yc=[115,105,103,110] from rfl] at hh;simp only[eC,List.map_nil] at hh;have lp:aH ao Gt H5 3 (.ptr (.box c) 11)=aa (.v (.int .i64 ((gM (ai aj 0) text l:Nat):Int))):=ct eD w5 rfl;have lC:aH ao Gt H5 23 (.ptr (.box c) 3)=aa C:=ct kU w5 rfl;obtain⟨kc,sc,hCe,uZ⟩:=kf.out.2.2.1;have ixC:=kf.out.2.2.1.ix (i:=0) ag;have lC0:=eE (H:=H5) (l:=aj) (i:=0) (s:=1) ag;have s3:=aup (n:=((dF (ai aj 0) text l:Nat):Int)) w5;have fy:al (Ext h (H5.put c (ir ep X Y C T L (.list .held 1 (ints y)) (.arr b' 0 vr'.length vr'.length) ((gM (ai aj 0) text l:Nat):Int) ((dF (ai aj 0) text l:Nat):Int)))/\vJ (H5.put c (ir ep X Y C T L (.list .held 1 (ints y)) (.arr b' 0 vr'.length vr'.length) ((gM (ai aj 0) text l:Nat):Int) ((dF (ai aj 0) text l:Nat):Int))) c ep X Y C T L (.list .held 1 (ints y)) ((gM (ai aj 0) text l:Nat):Int) ((dF (ai aj 0) text l:Nat):Int) aj text l):=
  ⟨E5.fK ag _,⟨⟨b',vr',eu (aS.1 w5).1,by rw[cX Pa];exact v5,w3⟩,kf.out.2.2.1,by omega,⟨ag,by omega⟩,kf.out.2.2.2.1,ktl.out,KM⟩⟩
 have kyw:al (IL (.list .held 1 (ints y)) (fi ae owners l)):=⟨by rw[kWt.out];exact⟨_,_,rfl,λ_=>rfl⟩⟩;have ix0:dH ao 23 C (.v (.int .i64 0))=aa (.elem 1 (ints aj) 0 0):=ixC;clear W1 W2 E1 E2 E5 w1 w2 w3 v5 sl ud CM xp lu fT yY hb4 Pe Xj Pa Cn aka tu mpos m1 m2 qR akL WU bT hCe uZ h9 a1 a2 ixC w5;generalize ((gM (ai aj 0) text l:Nat):Int)=ptv at *
 generalize ((dF (ai aj 0) text l:Nat):Int)=chv at *
 generalize ai aj 0=c0 at *
 unfold im at *
 refine bA @oG @gL @rI @List.cons_append.{0} ?_;refine ev mc av ?_;refine bA @oG @gV @rI (aw @Ij (aw @QE @UZ)) ?_;exact⟨_,_,rfl,fy.out.1,.inr ⟨kr.out,_,_,rfl,kyw.out,fy.out.2⟩⟩
def IP:Tryz.f17.results.toList=[.tmp 6,.tmp 7,.tmp 8,.tmp 9]:=av
def Sh:Tryz.f54.results.toList=[.cell 6 85,.tmp 7]:=av
def art:Tryz.f125.results.toList=[.tmp 3]:=av
def aaJ:Tryz.f127.results.toList=[.tmp 2]:=av
def rF(c0:Int)(text:List UInt8)(l:List Pr):List Int:=l.map λp=>((eU c0 text l p.aB:Nat):Int)
def Ec{ae}{owners aj}{ep}{text}{l}(h:cC ae owners ep aj text l=0):
 cW ae owners=0/\aj.length=bJ ae/\aj.all bI=ah/\l.length<=64/\text.length<=65536/\gd (-1) l=ah:=by
 unfold cC at h;split at h
 ·rename_i q;exact absurd h q
 ·rename_i q1;split at h
  ·simp at h
  ·rename_i q2;split at h
   ·simp at h
   ·rename_i q3;split at h
    ·simp at h
    ·rename_i q4;split at h
     ·simp at h
     ·rename_i q5;have q2':=(acz _).mp q2;rw[acy] at q2';simp only[bC,decide_eq_true_eq] at q2';have q5':=(acz _).mp q5;rw[acy] at q5';exact⟨Jz.1 q1,q2'.1.2,q2'.2,by omega,by omega,q5'⟩
def afB(h:aq)(bq:cG h=ah)(ep:Int)(X Y C T L:AV)(ae:List (List Int))(owners aj:List Int)(text:List UInt8)(l:List Pr)
 (hx:RL X ae) (hy:IL Y owners) (hc:IL C aj) (ht:BL T text) (hp:PL L l) (de:aj.length<=1000000) (dG:l.length<=1000000):
 ∃r h',W5.call 17 [.agg (aN ep X Y C),T,L] h=aa (r,h')/\
  ((cC ae owners ep aj text l≠0/\r=.ret (.tuple [.list .nil 0 [],.v (.int .i64 0),.v (.int .i64 0),.v (.int .i64 (cC ae owners ep aj text l))]))∨
  (cC ae owners ep aj text l=0/\∃Z,r=.ret (.tuple [Z,.v (.int .i64 ((gM (ai aj 0) text l:Nat):Int)),.v (.int .i64 ((dF (ai aj 0) text l:Nat):Int)),.v (.int .i64 0)])/\IL Z (rF (ai aj 0) text l))):=by
 have bx:=uu (ep:=ep) hx hy hc;obtain⟨r1,h1,c1,x1,post⟩:=N7 (h.push (aN ep X Y C)) bq ep X Y C T L ae owners aj text l hx hy hc ht hp de dG;have b0:=aZ h (aN ep X Y C);have l0:aH ao Gt (h.push (aN ep X Y C)) 27 (.ptr (.box h.boxes.length) 0)=aa (.agg (aN ep X Y C)):=by rw[iL av (by kernel_rfl:dt ao 27=aa 4) b0 (jR rfl)];rfl
 have kp:=al.mk hp;have ko:=al.mk (x1.ok bq);have kbo:=al.mk (λq=>@Ec ae owners aj ep text l q);have ln2:=hp.dM;clear hx hy hc ht hp b0 x1;generalize cC ae owners ep aj text l=res at *
 refine db rfl Tryz.func17 rfl ?_;rcases post with⟨q,rfl⟩|⟨q,c,Wt,rfl,-,w⟩
 ·have kr:=al.mk q;refine bK @IP @bg ?_;exact⟨_,_,rfl,.inl ⟨kr.out,rfl⟩⟩
 obtain⟨-,-,-,-,-,p6⟩:=kbo.out q;have kP:=al.mk p6;have kW:=al.mk w;have kr:=al.mk q;have KM:=w.ll;obtain⟨b,vr,w1,-⟩:=w.eJ;clear p6 w;subst q;refine bK @IP @bg ?_;refine bH.gen λe0 aF bB cU cN=>?_;have f6:e0.get 6=.list .nil 0 []:=by rw[aF];exact gS
 have f10:e0.get 10=.ptr (.box c) 0:=by rw[aF];exact gS
 have f23:e0.get 23=L:=by rw[aF];exact gS
 have f24:e0.get 24=.v (.int .i64 (l.length:Nat)):=by rw[aF];exact gS
 have f25:e0.get 25=.v (.int .i64 (0:Nat)):=by rw[aF];exact gR
 have fd:e0.defers=[]:=by rw[bB];exact gS
 clear aF bB cU cN c1 l0 w1;have kbl:al ((rF (ai aj 0) text l).length=l.length):=⟨by unfold rF;simp⟩;refine cz (λm e H=>∃(i:Nat) (t:Tok) (sz:Nat),i<=l.length/\m=l.length - i/\al (Gr h1 H t)/\al (sz=1∨((rF (ai aj 0) text l).take i=[]/\t=.nil))/\e.get 6=.list t sz (ints ((rF (ai aj 0) text l).take i))/\e.get 10=.ptr (.box c) 0/\e.get 23=L/\e.get 24=.v (.int .i64 (l.length:Nat))/\e.get 25=.v (.int .i64 (i:Nat))/\e.defers=[]) ?_ l.length _ _ ?_;rotate_left 1
 ·exact⟨0,.nil,0,cA _,rfl,⟨Gr.nil (.refl _) ko.out⟩,⟨.inr ⟨rfl,rfl⟩⟩,f6,f10,f23,f24,f25,fd⟩
 clear f6 f10 f23 f24 f25 fd;rintro m e H ⟨i,t,sz,hi,rfl,kG,ksz,g6,g10,g23,g24,g25,hd⟩;by_cases aA:i<l.length
 ·obtain⟨p,rU⟩:∃p,l[i]?=aa p:=⟨_,aR aA⟩;have hm:=zB kP.out p (dj rU);have ix:=kp.out.ix aA;have ld:=C6 (H:=H) (s:=4) rU;have st:=Bm (H:=H) p;have zc:=Dw;have l2:=C5 (aZ H (bU p));obtain⟨_,H2,cb,rfl,rfl⟩:=Oa (H.push (bU p)) c ep X Y C T L Wt _ _ aj text l ((kW.out.mono kG.out.1).mono (.push _ _)) p ⟨ag,by omega⟩;have hv:(rF (ai aj 0) text l)[i]?=aa ((eU (ai aj 0) text l p.aB:Nat):Int):=by unfold rF;rw[ej,rU];rfl
  have kG2:=(kG.out.push (bU p)).push (bU p);have ap:=tQ (x:=((eU (ai aj 0) text l p.aB:Nat):Int)) (es:=(rF (ai aj 0) text l).take i) (by rw[eS];omega) ksz.out kG2.2.2;rw[<-ft hv] at ap;have kG3:=al.mk kG2.app;have bl:=pI ((eU (ai aj 0) text l p.aB:Nat):Int);have fx:(i:Int)<(l.length:Int):=by omega
  clear hv hm rU kG2;generalize ((eU (ai aj 0) text l p.aB:Nat):Int)=bn at *
  unfold im at *
  refine br @IP ?_;exact⟨l.length - (i+1),by omega,i+1,_,1,by omega,rfl,kG3,⟨.inl rfl⟩,by simp⟩
 ·have fF:i=l.length:=by omega
  subst fF;rw[List.take_of_length_le (by rw[kbl.out];exact aJ _)] at g6 ksz;obtain⟨b2,vr2,w2,-⟩:=(kW.out.mono kG.out.1).eJ;have lp:aH ao Gt H 3 (.ptr (.box c) 11)=aa (.v (.int .i64 ((gM (ai aj 0) text l:Nat):Int))):=ct eD w2 rfl;have lc:aH ao Gt H 3 (.ptr (.box c) 12)=aa (.v (.int .i64 ((dF (ai aj 0) text l:Nat):Int))):=ct eD w2 rfl;clear w2;generalize ((gM (ai aj 0) text l:Nat):Int)=ptv at *
  generalize ((dF (ai aj 0) text l:Nat):Int)=chv at *
  refine br @IP ?_;refine ev mc av ?_;refine bK @IP @rI ?_;refine⟨_,_,rfl,.inr ⟨aU,_,rfl,t,sz,rfl,λq=>?_⟩⟩;rcases ksz.out with z|⟨z,-⟩
  ·exact z
  ·exact absurd z q
def Ls(n):(AV.v (.int .i64 n)).bP=aa [.v (.int .i64 n)]:=rfl
def aoI(r)(o):(AV.ptr r o).bP=aa [.ptr r o]:=rfl
def am7(n)(h):W5.call 127 [im n] h=aa (.ret (.v (.bool (nD n))),h):=by
 unfold im nD;by_cases h0:n<0
 ·refine cJ rfl adM rfl ?_;have:decide (n<0)=ah:=by simp[h0]
  exact jl @aaJ @Bool.true_or
 ·refine cJ rfl adM rfl ?_;have:decide (n<0)=az:=by simp[h0]
  exact jl @aaJ @Bool.false_or
def aly(H)(b)(k)(hb:H.boxes[b]?=aa [.v (.int .i64 k)])(q):∃H',W5.call 125 [.agg (bU q),.ptr (.box b) 0] H=aa (.ret (.v (.bool (decide (q.aB=k)))),H')/\Ext H H':=by have bc:(AV.agg (bU q)).bP=aa (bU q):=rfl;have l0:aH ao Gt (H.push (bU q)) 3 (.ptr (.box H.boxes.length) 0)=aa (.v (.int .i64 q.aB)):=ct eD (aZ _ _) rfl;have l1:aH ao Gt (H.push (bU q)) 3 (.ptr (.box b) 0)=aa (.v (.int .i64 k)):=ct eD (aY hb) rfl;refine hY rfl Tryz.func125 rfl ?_;clear hb;refine cQ @art @bg @iR ?_;exact⟨_,rfl,.push _ _⟩
def V3(h:aq)(c:Nat)(cs:List AV)(L:AV)(l:List Pr)(aB:Int)(ns:List Int)(N:AV)(hb:h.boxes[c]?=aa cs)(cq:cs[5]?=aa L)(hp:PL L l)(hl:l.length<=1000000)(hN:IL N ns)(oY:ns.length<=1000):
 ∃r h',W5.call 54 [.ptr (.box c) 0,.v (.int .i64 aB),N] h=aa (r,h')/\Ext h h'/\
  (((qu l aB=au∨ns.all bX=az)/\r=.ret (.tuple [.agg (bU ⟨0,0,0,0⟩),.v (.int .i64 1)]))∨∃q,qu l aB=aa q/\ns.all bX=ah/\r=.ret (.tuple [.agg (bU q),.v (.int .i64 0)])):=by
 have zc:=Dw;have H0:((h.push [.v (.int .i64 aB)]).push (bU ⟨0,0,0,0⟩)).boxes[h.boxes.length]?=aa [.v (.int .i64 aB)]:=aY (aZ _ _);have H1:((h.push [.v (.int .i64 aB)]).push (bU ⟨0,0,0,0⟩)).boxes[c]?=aa cs:=aY (aY hb);have H2:=aZ (h.push [.v (.int .i64 aB)]) (bU ⟨0,0,0,0⟩);obtain⟨_,h3,c1,x1,post⟩:=alg 125 [.ptr (.box h.boxes.length) 0] (λp=>decide (p.aB=aB)) ((h.push [.v (.int .i64 aB)]).push (bU ⟨0,0,0,0⟩)) L l hp hl (λq _ H hX=>aly H h.boxes.length aB (hX.box _ _ H0) q);have l0:aH ao Gt ((h.push [.v (.int .i64 aB)]).push (bU ⟨0,0,0,0⟩)) 29 (.ptr (.box c) 5)=aa L:=ct yH H1 cq;have l1:aH ao Gt h3 29 (.ptr (.box c) 5)=aa L:=ct yH (x1.box _ _ H1) cq;have g2:=x1.box _ _ H2;have l2:=C5 g2;have st0:b7 ao h3 85 (.ptr (.box (h.push [.v (.int .i64 aB)]).boxes.length) 0) (.agg (bU ⟨0,0,0,0⟩))=aa h3:=by rw[fA (off:=0) (xs:=bU ⟨0,0,0,0⟩) rfl uD g2 rfl (aJ 4),wK rfl,nb g2]
 have cc:=Kc (pr:=Fy) rfl rfl 127 [] nD h3 N ns hN ag (λn _=>am7 n _);have lq:=NZ ns;have X3:=al.mk (((Ext.push h [.v (.int .i64 aB)]).trans (Ext.push _ (bU ⟨0,0,0,0⟩))).trans x1);have EA:=(aS.1 g2).1;have stq:∀q:Pr,b7 ao h3 85 (.ptr (.box (h.push [.v (.int .i64 aB)]).boxes.length) 0) (.agg (bU q))=aa (h3.put (h.push [.v (.int .i64 aB)]).boxes.length (bU q))/\aH ao Gt (h3.put (h.push [.v (.int .i64 aB)]).boxes.length (bU q)) 85 (.ptr (.box (h.push [.v (.int .i64 aB)]).boxes.length) 0)=aa (.agg (bU q)):=λq=>by refine⟨?_,C5 (eu EA)⟩;rw[fA (off:=0) (xs:=bU q) rfl uD g2 rfl (aJ 4)];rfl
 have XQ:∀q:Pr,Ext h (h3.put (h.push [.v (.int .i64 aB)]).boxes.length (bU q)):=λq=>X3.out.fK (by rw[cH];omega) _;have kq:=al.mk (aw stq XQ);rw[cH] at l2 st0;have kp:=al.mk hp;unfold qu;clear H0 H1 H2 hb cq g2 x1 hN stq XQ hp EA;refine db rfl Tryz.func54 rfl ?_;unfold im at *
 rcases post with⟨p1,rfl⟩|⟨i,q,rfl,p2,p3⟩
 ·have kn:=al.mk p1;clear p1 cc;refine bA @Sh @bg @cH (aw @rI @Ls) ?_;exact⟨_,_,rfl,X3.out,.inl ⟨.inl kn.out,rfl⟩⟩
 ·have kn:=al.mk (aw p2 p3);have cS:=(aS.1 p2).1;have ix:=kp.out.ix cS;have ld:=C6 (H:=h3) (s:=4) p2;have aww:decide (((i:Nat):Int)<0)=az:=cE ag;obtain⟨s1,s2⟩:=kq.out.1 q;rw[cH] at s1 s2;have XQq:=kq.out.2 q;rw[cH] at XQq;have kXQ:=al.mk XQq;clear XQq;clear p2 p3;cases ho:ns.any nD with|true=>rw[ho] at cc lq;have kh:=al.mk lq;clear ho lq;refine bA @Sh @bg @cH (aw @rI @Ls) ?_;exact⟨_,_,rfl,X3.out,.inl ⟨.inr kh.out.symm,rfl⟩⟩|false=>rw[ho] at cc lq;have kh:=al.mk lq;clear ho lq;refine bA @Sh @bg @cH (aw @rI @Ls) ?_;exact⟨_,_,rfl,kXQ.out,.inr ⟨q,kn.out.2,kh.out.symm,rfl⟩⟩
def amw(k)(s)(es):(AV.list k s es).bP=aa [.list k s es]:=rfl
def arV:Tryz.f55.results.toList=[.tmp 4]:=av
def IN:Tryz.f128.results.toList=[]:=av
def ar0:Tryz.f72.results.toList=[.tmp 2]:=av
def aaN:Tryz.f139.results.toList=[.tmp 4]:=av
def eF(owners:List Int)(aB:Int)(k:Nat):List Nat:=(bM k).filter λi=>decide (ai owners i=aB)
def IJ{owners}{aB}{k}(h:ai owners k=aB):eF owners aB (k+1)=eF owners aB k++[k]:=by unfold eF;rw[om,DV,List.filter_cons_of_pos (by simp[h])];rfl
def Dg{owners}{aB}{k}(h:ai owners k≠aB):eF owners aB (k+1)=eF owners aB k:=by unfold eF;rw[om,DV,List.filter_cons_of_neg (by simp[h])];simp
def LO(owners)(aB):eF owners aB owners.length=jw owners aB:=rfl
def ard(owners)(aB)(k):(eF owners aB k).length<=k:=by unfold eF;exact fw (Gm _ _) bE
def aaF(h:aq)(c:Nat)(aB:Int):W5.call 55 [.ptr (.box c) 0,.v (.int .i64 aB)] h=aa (.ret (.func (.func 128) [] [.ptr (.box h.boxes.length) 0,.ptr (.box (h.boxes.length+1)) 0]),(h.push [.ptr (.box c) 0]).push [.v (.int .i64 aB)]):=by refine cJ rfl Tryz.func55 rfl ?_;exact mT @arV @bg @cH (aw @Ls @aoI)
def aaG(l wb kb c:Nat)(Y:AV)(owners:List Int)(aB:Int)(Inv:Nat->aq->Prop)(Stop:aq->Prop)(hy:IL Y owners)(tq:owners.length<=1000000)
 (h1:∀k H,Inv k H->H.boxes[wb]?=aa [.ptr (.box c) 0]/\H.boxes[kb]?=aa [.v (.int .i64 aB)]/\∃cs,H.boxes[c]?=aa cs/\cs[2]?=aa Y)
 (hR:∀k H,k<owners.length->ai owners k=aB->Inv k H->(∃H',W5.round l [.v (.int .i64 (k:Nat))] H=aa (.ret (.v (.bool ah)),H')/\Inv (k+1) H')∨∃H',W5.round l [.v (.int .i64 (k:Nat))] H=aa (.ret (.v (.bool az)),H')/\Stop H')
 (hS:∀k H,k<owners.length->ai owners k≠aB->Inv k H->Inv (k+1) H)
 (H0:aq) (h0:Inv 0 H0):∃H',W5.call 128 [.yield l,.ptr (.box wb) 0,.ptr (.box kb) 0] H0=aa (.ret (.tuple []),H')/\(Inv owners.length H'∨Stop H'):=by
 have kk:=al.mk (aw h1 (aw hR (aw hS (aw h0 hy))));obtain⟨b1,-,cs,b3,b4⟩:=h1 0 H0 h0;have l1:aH ao Gt H0 90 (.ptr (.box wb) 0)=aa (.ptr (.box c) 0):=ct w8 b1 rfl;have l2:aH ao Gt H0 23 (.ptr (.box c) 2)=aa Y:=ct kU b3 b4;have ln:=hy.dM;clear h1 hR hS h0 hy b1 b3 b4;refine hY rfl Tryz.func128 rfl ?_;refine bA @IN @rI @gL @aiJ ?_;refine cz (λm e H=>∃k:Nat,k<=owners.length/\m=owners.length - k/\al (Inv k H)/\e.get 0=.yield l/\e.get 2=.ptr (.box kb) 0/\e.get 11=Y/\e.get 12=.v (.int .i64 (owners.length:Nat))/\e.get 13=.v (.int .i64 (k:Nat))/\e.defers=[]) ?_ owners.length _ _ ?_;rotate_left 1
 ·refine⟨0,cA _,rfl,⟨kk.out.2.2.2.1⟩,?_,?_,?_,?_,?_,?_⟩<;>exact gR
 clear l1 l2;rintro m e H ⟨k,hk,rfl,kI,g0,g2,g11,g12,g13,hd⟩;by_cases aA:k<owners.length;rotate_left 1
 ·have:k=owners.length:=by omega
  subst this;refine br @IN ?_;exact⟨_,rfl,.inl kI.out⟩
 obtain⟨-,b2,-⟩:=kk.out.1 k H kI.out;have ix:=kk.out.2.2.2.2.ix aA;have ld:=eE (H:=H) (l:=owners) (i:=k) (s:=1) aA;have lk:aH ao Gt H 3 (.ptr (.box kb) 0)=aa (.v (.int .i64 aB)):=ct eD b2 rfl;have fx:(k:Int)<(owners.length:Int):=by omega
 clear b2;by_cases hc:ai owners k=aB
 ·have dq:decide (ai owners k=aB)=ah:=bQ hc;rcases kk.out.2.1 k H aA hc kI.out with⟨H',r1,r2⟩|⟨H',r1,r2⟩
  ·have kI2:=al.mk r2;clear r2 hc kI;generalize ai owners k=ow at *
   refine bK @IN @Aj ?_;exact⟨owners.length - (k+1),by omega,k+1,by omega,rfl,kI2,by simp⟩
  ·have kI2:=al.mk r2;clear r2 hc kI;generalize ai owners k=ow at *
   refine bK @IN @Aj ?_;exact⟨_,rfl,.inr kI2.out⟩
 ·have dq:decide (ai owners k=aB)=az:=cE hc;have kI2:=al.mk (kk.out.2.2.1 k H aA hc kI.out);clear hc kI;generalize ai owners k=ow at *
  refine bK @IN @Aj ?_;exact⟨owners.length - (k+1),by omega,k+1,by omega,rfl,kI2,by simp⟩
def F5(h h1:aq)(b2:Nat)(LP:List iI)(owners:List Int)(aB:Int)(k:Nat)(H:aq):Prop:=
 ∃t s,H.loops=LP/\H.boxes[b2]?=aa [.list t s (ints (cD (eF owners aB k)))]/\(s=1∨(eF owners aB k=[]/\t=.nil))/\dm h.tn H t/\cG H=ah/\Ext h H/\∀(a:Nat) (cs:List AV),h1.boxes[a]?=aa cs->a≠b2->H.boxes[a]?=aa cs
def aeL(h:aq)(bq:cG h=ah)(c wb kb:Nat)(Y:AV)(owners:List Int)(aB:Int)(cs:List AV)(hy:IL Y owners)(tq:owners.length<=1000000)(b1:h.boxes[wb]?=aa [.ptr (.box c) 0])(b2:h.boxes[kb]?=aa [.v (.int .i64 aB)])(b3:h.boxes[c]?=aa cs)(b4:cs[2]?=aa Y):
 ∃r h',W5.call 139 [.list .nil 0 [],.func (.func 128) [] [.ptr (.box wb) 0,.ptr (.box kb) 0]] h=aa (r,h')/\Ext h h'/\∃Z,r=.ret Z/\IL Z (cD (jw owners aB)):=by
 refine db rfl Tryz.func139 rfl ?_;refine cQ @aaN @bg @amw ?_;refine bH.gen λe4 gF qm uY tx=>?_;have f2:e4.get 2=.ptr (.box h.boxes.length) 0:=by rw[gF];exact gS
 have f6:e4.get 6=.func (.func 128) [] [.ptr (.box wb) 0,.ptr (.box kb) 0]:=by rw[gF];exact gS
 have fd:e4.defers=[]:=by rw[qm];exact gS
 clear gF qm uY tx;refine Dk (by rw[Aw];exact f6) λrec w1 w2 w3 w4 w5 w6=>?_;have CR:=(aS.1 b1).1;have AS:=(aS.1 b2).1;have Hs:=(aS.1 b3).1;obtain⟨h1,oW⟩:∃h1,h.push [.list .nil 0 []]=h1:=⟨_,rfl⟩;have g0:h1.boxes[h.boxes.length]?=aa [.list .nil 0 []]:=by rw[<-oW];exact aZ _ _
 have g1:h1.boxes[wb]?=aa [.ptr (.box c) 0]:=by rw[<-oW];exact aY b1
 have g2:h1.boxes[kb]?=aa [.v (.int .i64 aB)]:=by rw[<-oW];exact aY b2
 have g3:h1.boxes[c]?=aa cs:=by rw[<-oW];exact aY b3
 have dG:h1.loops.length=h.loops.length:=by rw[<-oW];rfl
 have nU:cG h1=ah:=by rw[<-oW];exact bq
 have X1:Ext h h1:=by rw[<-oW];exact .push _ _
 have gY:(h1.loop rec).loops[h1.loops.length]?=aa rec:=@C8 h1 rec;have XL:Ext h (h1.loop rec):=X1.trans ((Fr.A6 (bn:=h1.boxes.length) (l0:=h1.loops.length) (n0:=h1.tn) h1 rec).ext (aJ _) (aJ _) (aJ _));rw[oW];have feed:=aaG h1.loops.length wb kb c Y owners aB (F5 h h1 h.boxes.length (h1.loop rec).loops owners aB) (λ_=>False) hy tq
  (λk H q=>by obtain⟨_,_,-,-,-,-,-,-,q7⟩:=q;exact⟨q7 _ _ g1 ag,q7 _ _ g2 ag,cs,q7 _ _ g3 ag,b4⟩)
  ?_
  (λk H _ hc q=>by
   unfold F5 at *
   rw[Dg hc];exact q)
  (h1.loop rec) ⟨.nil,0,rfl,g0,.inr ⟨rfl,rfl⟩,.inl rfl,nU,XL,λa cs ha _=>ha⟩
 rotate_left 1
 ·rintro k H hk hc ⟨t,s,i1,i2,i3,i4,i5,i6,i7⟩;left;have uW:H.loops[h1.loops.length]?=aa rec:=by rw[i1];exact gY
  refine II (Post:=F5 h h1 h.boxes.length (h1.loop rec).loops owners aB (k+1)) uW (by rw[w2];rfl) w5 w6 ?_;have r1:∀t,(nH h1.loops.length rec [.v (.int .i64 (k:Nat))]).get t=if 7=t then .v (.int .i64 (k:Nat)) else e4.get t:=λt=>aaD w2 w1
  have d1:(nH h1.loops.length rec [.v (.int .i64 (k:Nat))]).defers=[]:=rfl;obtain⟨K,hK⟩:∃K,H.busy h1.loops.length rec=K:=⟨_,rfl⟩;have kb1:K.boxes[h.boxes.length]?=aa [.list t s (ints (cD (eF owners aB k)))]:=by rw[<-hK];exact i2
  have kc1:dm h.tn K t:=by rw[<-hK];exact i4
  have hlen:(cD (eF owners aB k)).length<=k:=by unfold cD;rw[bu];exact ard _ _ _
  have ap:=tQ (x:=(k:Int)) (es:=cD (eF owners aB k)) ag (i3.imp_right λq=>⟨by rw[q.1];rfl,q.2⟩) kc1;have bT:cD (eF owners aB k)++[(k:Int)]=cD (eF owners aB (k+1)):=by rw[IJ hc];unfold cD;simp
  rw[bT] at ap;have lA:=vd kb1;have sA:b7 ao (K.app t) 23 (.ptr (.box h.boxes.length) 0) (.list (.free K.tn) 1 (ints (cD (eF owners aB (k+1)))))=aa ((K.app t).put h.boxes.length [.list (.free K.tn) 1 (ints (cD (eF owners aB (k+1))))]):=
   fA (off:=0) (cs:=[.list t s (ints (cD (eF owners aB k)))]) (xs:=[.list (.free K.tn) 1 (ints (cD (eF owners aB (k+1))))]) rfl il (by rw[ec];exact kb1) rfl (aJ 1)
  have bl:=pI (k:Int);have gr:=Grown.one i4 i5 i6.tn;have fy:al (F5 h h1 h.boxes.length (h1.loop rec).loops owners aB (k+1) ((H.app t).put h.boxes.length [.list (.free H.tn) 1 (ints (cD (eF owners aB (k+1))))])):=by
   have oX:=(aS.1 i2).1;refine⟨_,1,?_,?_,.inl rfl,by rw[BU];exact gr.can,gr.ok,(gr.ext i6 (aJ _)).fK (aJ _) _,λa cs ha bG=>?_⟩
   ·show(H.app t).loops=_;rw[w9];exact i1
   ·exact eu (by rw[ec];exact oX)
   ·rw[cX bG,ec];exact i7 a cs ha bG
  clear i1 i2 i3 i4 i5 i6 i7 gr bT hlen hc kb1 kc1 g0 g1 g2 g3 X1 XL nU dG CR AS Hs b1 b2 b3 oW;rw[hK];rw[w3,w4];refine yS ?_;refine⟨aU,aU,aU,?_,?_⟩
  ·show(K.app t).loops=_;rw[w9]
  ·rw[<-hK];refine(congrArg (F5 h h1 h.boxes.length (h1.loop rec).loops owners aB (k+1)) ?_).mpr fy.out;cases t<;>rfl
 ·obtain⟨Hf,c1,⟨t,s,i1,i2,i3,i4,i5,i6,i7⟩|z⟩:=feed;rotate_left 1
  ·exact z.elim
  refine⟨_,_,c1,rec,by rw[i1];exact gY,by rw[w5];decide,.inl ⟨w6,?_⟩⟩;have q1:(Hf.eW h1.loops.length {rec with state:=.exhausted}).boxes[h.boxes.length]?=aa [.list t s (ints (cD (eF owners aB owners.length)))]:=i2;have XF:Ext h (Hf.eW h1.loops.length {rec with state:=.exhausted}):=((Fr.Db (bn:=h.boxes.length) (l0:=h.loops.length) (n0:=h.tn) i6 (aJ _)).trans (.eW ag _)).ext (aJ _) (aJ _) (aJ _);generalize Hf.eW h1.loops.length {rec with state:=.exhausted}=HF at *
  have lA:=vd q1;have fy:=al.mk (aw XF i3);clear q1 XF i1 i2 i3 i4 i5 i6 i7 c1 g0 g1 g2 g3 X1 XL nU dG CR AS Hs b1 b2 b3 gY w1 w2 w3 w4 w5 w6 oW;refine br @aaN ?_;refine⟨_,_,rfl,fy.out.1,_,rfl,t,s,by rw[LO],λq=>?_⟩;rcases fy.out.2 with z|⟨z,-⟩
  ·exact z
  ·exfalso;rw[LO] at z;rw[z] at q;exact q rfl
def ahj(h)(bq:cG h=ah)(c wb kb)(Y)(owners)(aB)(cs)(hy:IL Y owners)(tq:owners.length<=1000000)(b1:h.boxes[wb]?=aa [.ptr (.box c) 0])(b2:h.boxes[kb]?=aa [.v (.int .i64 aB)])(b3:h.boxes[c]?=aa cs)(b4:cs[2]?=aa Y):
 ∃r h',W5.call 72 [.func (.func 128) [] [.ptr (.box wb) 0,.ptr (.box kb) 0]] h=aa (r,h')/\Ext h h'/\∃Z,r=.ret Z/\IL Z (cD (jw owners aB)):=by
 obtain⟨_,h',c1,X,Z,rfl,hZ⟩:=aeL h bq c wb kb Y owners aB cs hy tq b1 b2 b3 b4;have kZ:=al.mk (aw X hZ);clear X hZ b1 b2 b3 b4 hy;refine db rfl Tryz.func72 rfl ?_;refine br @ar0 ?_;exact⟨_,_,rfl,kZ.out.1,_,rfl,kZ.out.2⟩
def aa5:Tryz.f67.results.toList=[.tmp 4]:=av
def I4:Tryz.f22.results.toList=[.tmp 10,.tmp 11]:=av
def aci:(gZ ao 90).bind AV.bP=aa [.v (.pointer au)]:=av
def SQ{H:aq}(c):b7 ao (H.push [.v (.pointer au)]) 90 (.ptr (.box H.boxes.length) 0) (.ptr (.box c) 0)=aa (H.push [.ptr (.box c) 0]):=jx rfl av rfl rfl
def wB(ae:List (List Int))(aj W:List Int)(ch:Int)(row:Int):Nat:=bF (nG aj (ae.getD row.toNat [])) (ai W row.toNat * ch)
def RI{aj row}(h:aj.all bI=ah):elem (nG aj row)=ah:=RH h _ (aJ _)
def aos(x)(a b):bF x (cR a b)=bF x (a * b):=Ix (by rw[tY,Int.emod_emod_of_dvd _ (Int.dvd_refl _)])
def aoJ(H:aq)(kb wb c:Nat)(ep:Int)(X Y C T L Wt:AV)(pt ch:Int)(ae:List (List Int))(owners aj W:List Int)(text:List UInt8)(l:List Pr)
 (hx:RL X ae) (hy:IL Y owners) (hc:IL C aj) (hW:IL Wt W) (de:aj.length<=1000000) (Ey:js ae owners aj=0) (ju:W.length=ae.length)
 (k1:H.boxes[kb]?=aa (aN ep X Y C)) (k2:H.boxes[wb]?=aa [.ptr (.box c) 0]) (w:vJ H c ep X Y C T L Wt pt ch aj text l) (row:Nat) (dU:row<ae.length):
 ∃H',W5.call 67 [im (row:Nat),.ptr (.box kb) 0,.ptr (.box wb) 0] H=aa (.ret (im (wB ae aj W ch (row:Nat):Nat)),H')/\Ext H H':=by
 obtain⟨_,H2,c1,rfl,x1⟩:=aaj H X Y C ae owners aj hx hy hc de (row:Nat);obtain⟨p1,p2,p3⟩:=Vu Ey;have Yh:uA ae owners aj (row:Nat)=(((nG aj (ae.getD row []):Nat):Int),0):=by unfold uA;rw[aI (by simp[Ey]),aI (by rw[cE (show ¬((row:Nat):Int)<0 by omega),cE (show ¬(ae.length:Int)<=((row:Nat):Int) by omega)];simp),dV]
 rw[Yh] at c1;have l1:aH ao Gt H 25 (.ptr (.box kb) 1)=aa (.agg [X,Y]):=by rw[iL yG (by kernel_rfl:dt ao 25=aa 2) k1 (jR rfl)];rfl
 have l2:aH ao Gt H 23 (.ptr (.box kb) 3)=aa C:=ct kU k1 rfl;have l3:aH ao Gt H2 90 (.ptr (.box wb) 0)=aa (.ptr (.box c) 0):=ct w8 (x1.box _ _ k2) rfl;obtain⟨b,vr,w1,-⟩:=(w.mono x1).eJ;have l4:aH ao Gt H2 23 (.ptr (.box c) 6)=aa Wt:=ct kU w1 rfl;have l5:aH ao Gt H2 3 (.ptr (.box c) 12)=aa (.v (.int .i64 ch)):=ct eD w1 rfl;have ix:=hW.ix (i:=row) ag;have l6:=eE (H:=H2) (l:=W) (i:=row) (s:=1) ag;have c2:=Lp (ai W row) ch;have he:=tU (RI (row:=ae.getD row []) p3);have c3:=Iz ((nG aj (ae.getD row []):Nat):Int) (cR (ai W row) ch);rw[sY he,dV,aos] at c3;have uk:wB ae aj W ch (row:Nat)=bF (nG aj (ae.getD row [])) (ai W row * ch):=by unfold wB;rw[dV]
 rw[uk];have kX:=al.mk x1;clear Yh uk he x1 w w1 k1 k2 hx hy hc hW Ey p1 p2 p3;generalize ((bF (nG aj (ae.getD row [])) (ai W row * ch):Nat):Int)=res at *
 generalize cR (ai W row) ch=m at *
 generalize ((nG aj (ae.getD row []):Nat):Int)=pv at *
 generalize ai W row=wr at *
 unfold im at *
 refine hY rfl Tryz.func67 rfl ?_;refine cQ @aa5 @gL @gV ?_;refine ev mc av ?_;refine bK @aa5 @rI ?_;exact⟨_,rfl,kX.out⟩
def ab9{ae}{owners aj}{ep}{text}{l}(h:cC ae owners ep aj text l=0):
 ∃y,fL ae owners (l.map Pr.aB)=(y,ah,0)/\fi ae owners l=y/\y.length=ae.length:=by
 have h0:=h;unfold cC at h;rw[aI (by simp[(Ec h0).1])] at h;split at h
 ·simp at h
 ·split at h
  ·simp at h
  ·split at h
   ·simp at h
   ·split at h
    ·simp at h
    ·cases hq:fL ae owners (l.map Pr.aB) with
     |mk y oe=>
      obtain⟨o,e⟩:=oe;rw[hq] at h;simp only at h;split at h
      ·simp at h
      ·rename_i q;simp only[not_or,Jz,Bool.not_eq_false] at q;obtain⟨q1,q2,-⟩:=q;subst q1;subst q2;exact⟨y,rfl,by unfold fi;rw[hq],(yE hq).2.2.1⟩
def pZ(ae:List (List Int))(owners:List Int)(ep:Int)(aj:List Int)(text:List UInt8)(l:List Pr)(aB z:Int):Bool × Int:=
 if cC ae owners ep aj text l≠0 then (az,cC ae owners ep aj text l) else Az ae owners aj text l aB z
def abb(c o):fc (.ptr (.box c) o) (.ptr (.box c) o)=ah:=by rw[fc,Mq,adu,adu];rfl
def ZR{l}{aB}{q}(h:qu l aB=aa q):q∈l/\q.aB=aB:=by unfold qu at h;refine⟨List.mem_of_find?_eq_some h,?_⟩;have:=List.find?_some h;simpa using this
def Wi(f:Int->Nat):∀(l:List Nat) (k:Nat),(cD l).foldl (λx q=>x * f q%P) k=l.foldl (λx i=>x * f ((i:Nat):Int)%P) k
 | [],_=>rfl
 |a::l,k=>Wi f l _
def aiT(h:aq)(bq:cG h=ah)(ep:Int)(X Y C T L:AV)(ae:List (List Int))(owners aj:List Int)(text:List UInt8)(l:List Pr)(aB z:Int)
 (hx:RL X ae) (hy:IL Y owners) (hc:IL C aj) (ht:BL T text) (hp:PL L l) (de:aj.length<=1000000) (dG:l.length<=1000000):
 ∃r h',W5.call 22 [.agg (aN ep X Y C),T,L,im aB,im z] h=aa (r,h')/\r=.ret (.tuple [.v (.bool (pZ ae owners ep aj text l aB z).1),im (pZ ae owners ep aj text l aB z).2]):=by
 have bx:=uu (ep:=ep) hx hy hc;obtain⟨r1,h1,c1,x1,post⟩:=N7 (h.push (aN ep X Y C)) bq ep X Y C T L ae owners aj text l hx hy hc ht hp de dG;have b0:=aZ h (aN ep X Y C);have l0:aH ao Gt (h.push (aN ep X Y C)) 27 (.ptr (.box h.boxes.length) 0)=aa (.agg (aN ep X Y C)):=by rw[iL av (by kernel_rfl:dt ao 27=aa 4) b0 (jR rfl)];rfl
 have kE1:al (cC ae owners ep aj text l≠0->pZ ae owners ep aj text l aB z=(az,cC ae owners ep aj text l)):=⟨λq=>by unfold pZ;rw[aG q]⟩;have kE2:al (cC ae owners ep aj text l=0->pZ ae owners ep aj text l aB z=Az ae owners aj text l aB z):=⟨λq=>by unfold pZ;rw[aI (by simp[q])]⟩;have kbo:=al.mk (λq=>@Ec ae owners aj ep text l q);have kwt:=al.mk (λq=>@ab9 ae owners aj ep text l q);have zc:=aci;have zp:=Dw;have kf:=al.mk (aw hx (aw hy (aw hc hp)));have g1:=x1.box _ _ b0;have nU:=x1.ok bq;generalize pZ ae owners ep aj text l aB z=res at *
 generalize cC ae owners ep aj text l=be at *
 clear hx hy hc ht hp b0 x1;refine db rfl Tryz.func22 rfl ?_;rcases post with⟨q,rfl⟩|⟨q,c,Wt,rfl,tZ,w⟩
 ·have kr:=al.mk (kE1.out q);have st:=SQ (H:=h1);have stn:b7 ao (h1.push [.v (.pointer au)]) 90 (.ptr (.box h1.boxes.length) 0) (.v (.pointer au))=aa (h1.push [.v (.pointer au)]):=jx rfl av rfl rfl;clear kE1 kE2 kbo kwt g1 nU;unfold im at *
  refine bK @I4 @bg ?_;exact⟨_,_,rfl,by rw[kr.out]⟩
 obtain⟨p1,p2,p3,p4,p5,p6⟩:=kbo.out q;obtain⟨y,a1,a2,a3⟩:=kwt.out q;have ij:=kE2.out q;subst q;have st:=SQ (H:=h1) c;have g2:(h1.push [.ptr (.box c) 0]).boxes[h.boxes.length]?=aa (aN ep X Y C):=aY g1;have g3:=aZ h1 [AV.ptr (.box c) 0];have w2:=w.mono (.push h1 [.ptr (.box c) 0]);obtain⟨b,vr,w3,-⟩:=w2.eJ;obtain⟨_,h4,c2,x4,post⟩:=V3 (h1.push [.ptr (.box c) 0]) c _ L l aB [z] (.list .tight 1 [[.v (.int .i64 z)]]) w3 rfl kf.out.2.2.2 dG (K9 z) bE;rw[(bE:[z].all bX=bX z)] at post;have l1:aH ao Gt (h1.push [.ptr (.box c) 0]) 90 (.ptr (.box h1.boxes.length) 0)=aa (.ptr (.box c) 0):=ct w8 g3 rfl;have bl:=pI z;have fE1:al (qu l aB=au∨bX z=az->Az ae owners aj text l aB z=(az,1)):=⟨λq=>by
  unfold Az;cases pU:qu l aB with
  |none=>rfl|some x=>
   rcases q with q|q
   ·rw[pU] at q;cases q
   ·simp only[q];rfl⟩
 have fE2:al (∀x,qu l aB=aa x->bX z=ah->Az ae owners aj text l aB z=(decide (bF Gn z=yj ae owners aj text l x),0)):=⟨λx q1 q2=>by unfold Az;rw[q1];simp only[q2];rfl⟩;clear w3;rcases post with⟨q,rfl⟩|⟨x,q1,q2,rfl⟩
 ·have kr:=al.mk (ij.trans (fE1.out q));have sq:=Bm (H:=h4) ⟨0,0,0,0⟩;clear kE1 kE2 kbo kwt g1 g2 g3 w w2 nU fE1 fE2 ij a1 a2 a3 q p1 p2 p3 p6 x4;unfold im at *
  refine bK @I4 @bg ?_;exact⟨_,_,rfl,by rw[kr.out]⟩
 have kr:=al.mk (ij.trans (fE2.out x q1 q2));obtain⟨dN,u7⟩:=ZR q1;have hm:=zB p6 x dN;have XW:=x4.ok (show cG (h1.push [.ptr (.box c) 0])=ah from nU);have sq:=Bm (H:=h4) x;obtain⟨h5,AO⟩:∃h5,h4.push (bU x)=h5:=⟨_,rfl⟩;have X5:Ext (h1.push [.ptr (.box c) 0]) h5:=by rw[<-AO];exact x4.trans (.push _ _)
 have XX:cG h5=ah:=by rw[<-AO];exact XW
 have k5:h5.boxes[h.boxes.length]?=aa (aN ep X Y C):=X5.box _ _ g2;have m5:h5.boxes[h1.boxes.length]?=aa [.ptr (.box c) 0]:=X5.box _ _ g3;have W5':=w2.mono X5;have q5:h5.boxes[h4.boxes.length]?=aa (bU x):=by rw[<-AO];exact aZ _ _
 have lp5:=C5 q5;have lw5:aH ao Gt h5 90 (.ptr (.box h1.boxes.length) 0)=aa (.ptr (.box c) 0):=ct w8 m5 rfl;obtain⟨_,h6,c3,x6,rfl⟩:=ZD h5 c ep X Y C T L Wt _ _ aj text l W5' x ⟨ag,by omega⟩ hm.2.2.2.2.1 hm.2.2.2.2.2;have CH:=x6.ok XX;have m6:=x6.box _ _ m5;have lw6:aH ao Gt h6 90 (.ptr (.box h1.boxes.length) 0)=aa (.ptr (.box c) 0):=ct w8 m6 rfl;have c4:=aaF h6 c aB;have W6':=W5'.mono x6;obtain⟨b6,vr6,w6,-⟩:=W6'.eJ;have XY:cG ((h6.push [.ptr (.box c) 0]).push [.v (.int .i64 aB)])=ah:=CH;obtain⟨_,h8,c5,x8,Z,rfl,hZ⟩:=ahj ((h6.push [.ptr (.box c) 0]).push [.v (.int .i64 aB)]) XY c h6.boxes.length (h6.boxes.length+1) Y owners aB _ kf.out.2.1 (by obtain⟨o1,o2,-⟩:=rk p1;omega)
  (aY (aZ _ _)) (nt (by rw[cH])) (aY (aY w6)) rfl
 have X8:Ext h5 h8:=x6.trans (((Ext.push _ _).trans (.push _ _)).trans x8);have ue:js ae owners aj=0:=by unfold js;rw[aI (by simp[p1]),aG (by rw[bQ p2,p3];rfl)]
 obtain⟨o1,o2,o3,o4⟩:=rk p1;have cP:∀q∈cD (jw owners aB),∃i:Nat,q=(i:Int)/\i<ae.length:=λq hq=>by unfold cD at hq;obtain⟨i,hi,rfl⟩:=jP.1 hq;unfold jw at hi;exact⟨i,rfl,by rw[o1];exact fQ.1 (vG.1 hi).1⟩
 have mH:(cD (jw owners aB)).length<=1000000:=by unfold cD jw;rw[bu];exact fw (Gm _ _) (by rw[ac9];omega)
 obtain⟨_,h9,c6,x9,rfl⟩:=aoH 67 [] [.ptr (.box h.boxes.length) 0,.ptr (.box h1.boxes.length) 0] (wB ae aj (fi ae owners l) ((dF (ai aj 0) text l:Nat):Int)) h8 Z (cD (jw owners aB)) hZ mH
  (λq hq=>by unfold wB;exact Bg (RI p3) _)
  (λq hq H hH=>by obtain⟨i,rfl,hi⟩:=cP q hq;exact aoJ H h.boxes.length h1.boxes.length c ep X Y C T L Wt _ _ ae owners aj (fi ae owners l) text l kf.out.1 kf.out.2.1 kf.out.2.2.1 tZ de ue (by rw[a2];exact a3) ((X8.trans hH).box _ _ k5) ((X8.trans hH).box _ _ m5) (W5'.mono (X8.trans hH)) i hi)
 rw[Wi] at c6;have hN:=Fo (c0:=ai aj 0) (text:=text) (l:=l) hm.2.2.2.2.1 hm.2.2.2.2.2;have hF:elem ((jw owners aB).foldl (λx i=>x * wB ae aj (fi ae owners l) ((dF (ai aj 0) text l:Nat):Int) ((i:Nat):Int)%P) 1)=ah:=De (λi _=>by unfold wB;exact Bg (RI p3) _) At;have c7:=Es ((kj (ai aj 0) text l x:Nat):Int) (((jw owners aB).foldl (λx i=>x * wB ae aj (fi ae owners l) ((dF (ai aj 0) text l:Nat):Int) ((i:Nat):Int)%P) 1:Nat):Int);have YB:kj (ai aj 0) text l x * ((jw owners aB).foldl (λx i=>x * wB ae aj (fi ae owners l) ((dF (ai aj 0) text l:Nat):Int) ((i:Nat):Int)%P) 1)%P=yj ae owners aj text l x:=by unfold yj wB;rw[u7];simp only[dV]
 rw[OP hN hF,YB] at c7;have c8:=Iz 4 z;have hG:(4:Int).toNat=Gn:=rfl;rw[sY sX,hG] at c8;have hd:decide (bF Gn z=yj ae owners aj text l x)=decide (((bF Gn z:Nat):Int)=((yj ae owners aj text l x:Nat):Int)):=by rw[decide_eq_decide];omega
 rw[hd] at kr;clear kE1 kE2 kbo kwt fE1 fE2 ij a1 a2 a3 p1 p2 p3 p6 x4 X5 nU XW XX CH XY g1 g2 g3 w w2 W5' W6' w6 k5 m5 q5 m6 x6 x8 X8 x9 hZ ue o1 o2 o3 o4 cP mH hN hF YB hG hd hm dN u7 q1 q2 tZ;generalize ((yj ae owners aj text l x:Nat):Int)=wv at *
 generalize ((bF Gn z:Nat):Int)=pz at *
 generalize ((kj (ai aj 0) text l x:Nat):Int)=nv at *
 generalize (((jw owners aB).foldl (λx i=>x * wB ae aj (fi ae owners l) ((dF (ai aj 0) text l:Nat):Int) ((i:Nat):Int)%P) 1:Nat):Int)=fv at *
 unfold im at *
 refine bK @I4 @bg ?_;refine ng [(2,3)] mc av (λp hp=>?_) ?_
 ·simp only[my] at hp;subst hp;refine sw (x:=.ptr (.box h1.boxes.length) 0) (v:=.ptr (.box c) 0) av rfl rfl rfl av (abb c 0) ?_ ?_<;>(simp only[hU,fR];exact jl @I4 @and_self)
 refine br @I4 ?_;exact⟨_,_,rfl,by rw[kr.out]⟩
end Go.Proofs.YtnfciiiohoafaaaGreatDoor
end
section
namespace Go.AE
section
variable {P:Program} {G:Nat->Option (List AV)} {R:Rec}
def abB{ops:Array Oper}{e:Env}{h:aq}{i j:Nat}{o:Oper}{t:TypeId}{a:Operand}(uS:qh ops i j=ah)(ho:ops[j]?=aa o)(bL:o.op=.load t a)
 (hj:(ops[i]?).map (λo=>jI o.op)=aa .acts) {x v:AV} (hv:fc v v=ah)
 (h1:cO P G R ops (ops.toList.take j) e h (λq er hr=>q=.normal/\fD ops er o=aa ah/\er.eval a=x/\aH P G hr t x=aa v))
 (h2:cO P G R ops (ops.toList.take i) e h (λq _ hm=>q=.normal/\aH P G hm t x=aa v)):mo P G R ops e h i j=ah:=by
 have hi:i<ops.size:=by
  rcases dW i ops.size with hh|hh
  ·exact hh
  ·rw[yl hh] at hj;cases hj
 have PG:j<ops.size:=by
  rcases dW j ops.size with hh|hh
  ·exact hh
  ·rw[yl hh] at ho;cases ho
 have hc:(ops[j]?).map (λo=>jI o.op)=aa .reads:=by rw[ho];simp only[ff,bL];rfl
 unfold mo;rw[uS,hc,hj];simp only[ry];unfold qx;rw[ho,tD ag,tD ag];obtain⟨q1,er,hr,e1,rfl,e0,e2,e3⟩:=h1;obtain⟨q2,em,hm,f1,rfl,f2⟩:=h2;rw[e1,f1];simp only[e0,bL,e2,e3,f2,hv]
def atS{ops:Array Oper}{e:Env}{h:aq}{i j:Nat}{o:Oper}{t:TypeId}{a:Operand}(uS:qh ops i j=ah)(ho:ops[j]?=aa o)(bL:o.op=.load t a)
 (hj:(ops[i]?).map (λo=>jI o.op)=aa .acts)
 (h1:cO P G R ops (ops.toList.take j) e h (λq er hr=>q=.normal/\fD ops er o=aa az))
 (h2:cO P G R ops (ops.toList.take i) e h (λq _ hm=>q=.normal)):mo P G R ops e h i j=ah:=by
 have hi:i<ops.size:=by
  rcases dW i ops.size with hh|hh
  ·exact hh
  ·rw[yl hh] at hj;cases hj
 have PG:j<ops.size:=by
  rcases dW j ops.size with hh|hh
  ·exact hh
  ·rw[yl hh] at ho;cases ho
 have hc:(ops[j]?).map (λo=>jI o.op)=aa .reads:=by rw[ho];simp only[ff,bL];rfl
 unfold mo;rw[uS,hc,hj];simp only[ry];unfold qx;rw[ho,tD ag,tD ag];obtain⟨q1,er,hr,e1,rfl,e0⟩:=h1;obtain⟨q2,em,hm,f1,rfl⟩:=h2;rw[e1,f1];simp only[e0]
end
end Go.AE
end
section
namespace Go.Proofs.YtnfciiiohoafaaaGreatDoor
open Go.AE Go.NT
def mn:Tryz.f20.results.toList=[.cell 14 3,.cell 15 32]:=av
def arf(owners)(aB){k}:∀{n:Nat},k<=n->∃t,eF owners aB n=eF owners aB k++t:=by
 intro n
 induction n with
 |zero=>intro h;exact⟨[],by rw[(ag:k=0)];simp⟩
 |succ n ih=>
  intro h;rcases dW n k with aA|eg
  ·exact⟨[],by rw[(ag:k=n+1)];simp⟩
  ·obtain⟨t,ht⟩:=ih eg;by_cases hq:ai owners n=aB
   ·exact⟨t++[n],by rw[IJ hq,ht,tL]⟩
   ·exact⟨t,by rw[Dg hq,ht]⟩
def anB{ae}{owners aj}{aB}{s}(h:mZ ae owners aj aB s=ah){k}(hk:k<owners.length)(hq:ai owners k=aB):
 ∃p,s[(eF owners aB k).length]?=aa p/\p.1=((k:Nat):Int)/\Dm ae aj p=ah:=by
 unfold mZ at h;rw[bC,decide_eq_true_eq] at h;obtain⟨h1,h2⟩:=h;obtain⟨t,ht⟩:=arf owners aB (ag:k+1<=owners.length);rw[LO,IJ hq] at ht;have e:(s.map GG)[(eF owners aB k).length]?=aa ((k:Nat):Int):=by rw[h1,ht,ej,tL,Ab (aJ _),uK];rfl
 rw[ej] at e;cases hp:s[(eF owners aB k).length]? with
 |none=>rw[hp] at e;cases e
 |some p=>rw[hp] at e;injection e with e;rw[ey] at h2;exact⟨p,rfl,e,h2 p (dj hp)⟩
def Je{H}{b}{x}{n}(hb:H.boxes[b]?=aa [x]):b7 ao H 3 (.ptr (.box b) 0) (.v (.int .i64 n))=aa (H.put b [.v (.int .i64 n)]):=fA (off:=0) (cs:=[x]) (xs:=[.v (.int .i64 n)]) rfl fP hb rfl (aJ 1)
def NW:gI ao 36=aa az:=av
def Jd{H}{b}{x}{n}(hb:H.boxes[b]?=aa [x]):b7 ao H 32 (.ptr (.box b) 0) (.v (.int .i64 n))=aa (H.put b [.v (.int .i64 n)]):=fA (off:=0) (cs:=[x]) (xs:=[.v (.int .i64 n)]) rfl Jj hb rfl (aJ 1)
def avX:(gZ ao 3).bind AV.bP=aa [.v (.int .i64 0)]:=av
def avW:(gZ ao 32).bind AV.bP=aa [.v (.int .i64 0)]:=av
def avM{y}{s:List (Int × Int)}{i}{p}(h:s[i]?=aa p):l9 y (s.take (i+1))=cd (l9 y (s.take i)) (cR (ai y p.1.toNat) p.2):=by unfold l9;rw[ft h,oj];rfl
def SL.ix{x}{l}(h:SL x l){i}(hi:i<l.length):dH ao 36 x (.v (.int .i64 (i:Nat)))=aa (.elem 2 (jq l) i 0):=by obtain⟨k,s,rfl,hs⟩:=h;have bD:s=2:=hs (by intro q;rw[q] at hi;simp at hi);subst bD;have:=bh (k:=k) (kk:=.i64) (es:=jq l) (a:=((i:Nat):Int)) ad3 MH ag (by rw[SA];omega);rw[this,dV]
def SL.dM{x}{l}(h:SL x l):dM ao 36 x=aa (.v (.int .i64 (l.length:Nat))):=by obtain⟨k,s,rfl,-⟩:=h;have u36:=ad3;unfold Go.AE.dM;rw[u36];simp only[SA]
def SL.bP{x}{l}(h:SL x l):x.bP=aa [x]:=by obtain⟨k,s,rfl,-⟩:=h;rfl
structure Gv(Hb:aq)(li:Nat)(rec:iI)(jh ib zb eb:Nat)(ae:List (List Int))(owners aj W:List Int)(aB:Int)(s:List (Int × Int))(k:Nat)(H:aq):Prop where
 lp:H.loops[li]?=aa rec
 dh:∀(a:Nat) (cs:List AV),Hb.boxes[a]?=aa cs->a≠jh->a≠ib->H.boxes[a]?=aa cs
 sum:H.boxes[jh]?=aa [.v (.int .i64 (l9 W (s.take (eF owners aB k).length)))]
 ix:H.boxes[ib]?=aa [.v (.int .i64 ((eF owners aB k).length:Nat))]
 le:(eF owners aB k).length<=s.length
 same:(s.take (eF owners aB k).length).map GG=(eF owners aB k).map λ(i:Nat)=>(i:Int)
 ok:(s.take (eF owners aB k).length).all (Dm ae aj)=ah
structure Gw(li:Nat)(rec:iI)(zb eb:Nat)(H:aq):Prop where
 lp:H.loops[li]?=aa {rec with state:=.done,pending:=aa .ret}
 z:H.boxes[zb]?=aa [.v (.int .i64 0)]
 e:H.boxes[eb]?=aa [.v (.int .i64 340)]
def ag1{ae}{owners aj}(p1:cW ae owners=0)(p2:aj.length=bJ ae)(p3:aj.all bI=ah):js ae owners aj=0:=by unfold js;rw[aI (by simp[p1]),aG (by rw[bQ p2,p3];rfl)]
def aiZ{ae}{owners aj}(hc:js ae owners aj=0){k}{v}(hk:k<ae.length):
 (Dm ae aj (((k:Nat):Int),v)=ah/\tX ae owners aj (((k:Nat):Int),v)=(ah,0))∨(Dm ae aj (((k:Nat):Int),v)=az/\(tX ae owners aj (((k:Nat):Int),v)=(az,340)∨tX ae owners aj (((k:Nat):Int),v)=(az,0))):=by
 have hr:wF ae (((k:Nat):Int),v)=bX v:=by unfold wF;rw[bQ (show(0:Int)<=((k:Nat):Int) by omega),bQ (show((k:Nat):Int)<(ae.length:Int) by omega)];rfl
 unfold Dm tX;rw[aI (by simp[hc]),hr];simp only[dV];cases hv:bX v with
 |false=>exact .inr ⟨rfl,.inl rfl⟩|true=>
  by_cases hq:bF Gn v=nG aj (ae.getD k [])
  ·left;rw[bQ hq];exact⟨rfl,rfl⟩
  ·right;rw[cE hq];exact⟨rfl,.inr rfl⟩
def Ca{Hx}{zb eb}{x y}(hz:Hx.boxes[zb]?=aa [x])(he:Hx.boxes[eb]?=aa [y])(bG:zb≠eb)(n m):
 b7 ao Hx 3 (.ptr (.box zb) 0) (.v (.int .i64 n))=aa (Hx.put zb [.v (.int .i64 n)])/\aH ao Gt Hx 32 (.ptr (.box eb) 0)=aa y/\aH ao Gt (Hx.put zb [.v (.int .i64 n)]) 32 (.ptr (.box eb) 0)=aa y/\
  b7 ao (Hx.put zb [.v (.int .i64 n)]) 32 (.ptr (.box eb) 0) (.v (.int .i64 m))=aa ((Hx.put zb [.v (.int .i64 n)]).put eb [.v (.int .i64 m)])/\
  aH ao Gt ((Hx.put zb [.v (.int .i64 n)]).put eb [.v (.int .i64 m)]) 3 (.ptr (.box zb) 0)=aa (.v (.int .i64 n))/\aH ao Gt ((Hx.put zb [.v (.int .i64 n)]).put eb [.v (.int .i64 m)]) 32 (.ptr (.box eb) 0)=aa (.v (.int .i64 m)):=by
 have jF:=(aS.1 hz).1;have oU:=(aS.1 he).1;have q:(Hx.put zb [AV.v (.int .i64 n)]).boxes[eb]?=aa [y]:=by rw[cX (Ne.symm bG)];exact he
 have q2:((Hx.put zb [AV.v (.int .i64 n)]).put eb [AV.v (.int .i64 m)]).boxes[zb]?=aa [.v (.int .i64 n)]:=by rw[cX bG];exact eu jF
 have q3:((Hx.put zb [AV.v (.int .i64 n)]).put eb [AV.v (.int .i64 m)]).boxes[eb]?=aa [.v (.int .i64 m)]:=eu (by rw[mj];exact oU);exact⟨Je hz,ct yI he rfl,ct yI q rfl,Jd q,ct eD q2 rfl,ct yI q3 rfl⟩
def vm(ae:List (List Int))(owners:List Int)(ep:Int)(aj:List Int)(text:List UInt8)(l:List Pr)(aB:Int)(s:List (Int × Int))(d f:Int):Int × Int:=
 if cC ae owners ep aj text l≠0 then (0,cC ae owners ep aj text l) else A8 ae owners aj text l aB s d f
def amD{ae}{owners aj}{text}{l}{aB}{s}{d f}(h:qu l aB=au∨[d,f].all bX=az):A8 ae owners aj text l aB s d f=(0,1):=by
 unfold A8;cases hp:qu l aB with
 |none=>rfl|some x=>
  rcases h with q|q
  ·rw[hp] at q;cases q
  ·have:(bX d&&bX f)=az:=(by simpa using q);simp only[this];rfl
def amE{ae}{owners aj}{text}{l}{aB}{s}{d f}{x}(h:qu l aB=aa x)(hq:[d,f].all bX=ah):A8 ae owners aj text l aB s d f=
 if mZ ae owners aj aB s=az then (0,340) else if ¬((bF Gn d:Nat):Int)=x.d∨¬((bF Gn f:Nat):Int)=x.e then (0,420)
 else (cd (cd d (cR f (eU (ai aj 0) text l aB))) (cR (dF (ai aj 0) text l) (l9 (fi ae owners l) s)),0):=by
 unfold A8;have:(bX d&&bX f)=ah:=by simpa using hq
 rw[h];simp only[this];cases mZ ae owners aj aB s<;>rfl
def afM(a b):gf ao 23 2 [(0,.v (.int .i64 a)),(1,.v (.int .i64 b))]=aa (.list .tight 1 (ints [a,b])):=av
def amz(h:aq)(bq:cG h=ah)(ep:Int)(X Y C T L S:AV)(ae:List (List Int))(owners aj:List Int)(text:List UInt8)(l:List Pr)(s:List (Int × Int))(aB d f:Int)
 (hx:RL X ae) (hy:IL Y owners) (hc:IL C aj) (ht:BL T text) (hp:PL L l) (hs:SL S s) (de:aj.length<=1000000) (dG:l.length<=1000000) (nC:s.length<=1000000):
 ∃r h',W5.call 20 [.agg (aN ep X Y C),T,L,.v (.int .i64 aB),S,.v (.int .i64 d),.v (.int .i64 f)] h=aa (r,h')/\r=.ret (.tuple [.v (.int .i64 (vm ae owners ep aj text l aB s d f).1),.v (.int .i64 (vm ae owners ep aj text l aB s d f).2)]):=by
 have bx:=uu (ep:=ep) hx hy hc;have bS:=hs.bP;have zc:=aci;have zp:=Dw;have z3:=avX;have z32:=avW;obtain⟨h0,EB⟩:∃h0,(((h.push (aN ep X Y C)).push [S]).push [.v (.int .i64 0)]).push [.v (.int .i64 0)]=h0:=⟨_,rfl⟩;obtain⟨sb,lF⟩:∃n,(h.push (aN ep X Y C)).boxes.length=n:=⟨_,rfl⟩;obtain⟨zb,QC⟩:∃n,((h.push (aN ep X Y C)).push [S]).boxes.length=n:=⟨_,rfl⟩;obtain⟨eb,Pn⟩:∃n,(((h.push (aN ep X Y C)).push [S]).push [.v (.int .i64 0)]).boxes.length=n:=⟨_,rfl⟩;obtain⟨kb,AS⟩:∃n,h.boxes.length=n:=⟨_,rfl⟩;have o1:kb<sb/\sb<zb/\zb<eb:=by rw[<-AS,<-lF,<-QC,<-Pn];simp only[cH];omega
 have gk:h0.boxes[kb]?=aa (aN ep X Y C):=by rw[<-EB,<-AS];exact aY (aY (aY (aZ _ _)))
 have gs:h0.boxes[sb]?=aa [S]:=by rw[<-EB,<-lF];exact aY (aY (aZ _ _))
 have gz:h0.boxes[zb]?=aa [.v (.int .i64 0)]:=by rw[<-EB,<-QC];exact aY (aZ _ _)
 have ge:h0.boxes[eb]?=aa [.v (.int .i64 0)]:=by rw[<-EB,<-Pn];exact aZ _ _
 have tj:cG h0=ah:=by rw[<-EB];exact bq
 obtain⟨r1,h1,c1,x1,post⟩:=N7 h0 tj ep X Y C T L ae owners aj text l hx hy hc ht hp de dG;have l0:aH ao Gt h0 27 (.ptr (.box kb) 0)=aa (.agg (aN ep X Y C)):=by rw[iL av (by kernel_rfl:dt ao 27=aa 4) gk (jR rfl)];rfl
 have kE1:al (cC ae owners ep aj text l≠0->vm ae owners ep aj text l aB s d f=(0,cC ae owners ep aj text l)):=⟨λq=>by unfold vm;rw[aG q]⟩;have kE2:al (cC ae owners ep aj text l=0->vm ae owners ep aj text l aB s d f=A8 ae owners aj text l aB s d f):=⟨λq=>by unfold vm;rw[aI (by simp[q])]⟩;have kbo:=al.mk (λq=>@Ec ae owners aj ep text l q);have kwt:=al.mk (λq=>@ab9 ae owners aj ep text l q);have kf:=al.mk (aw hx (aw hy (aw hc (aw hp hs))));have gk1:=x1.box _ _ gk;have gs1:=x1.box _ _ gs;have lP:=x1.box _ _ gz;have ge1:=x1.box _ _ ge;have nU:=x1.ok tj;have lS:=hs.dM;generalize vm ae owners ep aj text l aB s d f=res at *
 generalize cC ae owners ep aj text l=be at *
 have XN:=(aS.1 ge1).1;clear hx hy hc ht hp hs x1 gk gs gz ge tj bq;refine db rfl Tryz.func20 rfl ?_;rcases post with⟨q,rfl⟩|⟨q,c,Wt,rfl,tZ,w⟩
 ·have kr:=al.mk (kE1.out q);have stn:b7 ao (h1.push [.v (.pointer au)]) 90 (.ptr (.box h1.boxes.length) 0) (.v (.pointer au))=aa (h1.push [.v (.pointer au)]):=jx rfl av rfl rfl;have ste:b7 ao (h1.push [.v (.pointer au)]) 32 (.ptr (.box eb) 0) (.v (.int .i64 be))=aa ((h1.push [.v (.pointer au)]).put eb [.v (.int .i64 be)]):=Jd (aY ge1);obtain⟨a1,a2,a3,a4,a5,a6⟩:=Ca (Hx:=(h1.push [.v (.pointer au)]).put eb [.v (.int .i64 be)]) (zb:=zb) (eb:=eb) (x:=.v (.int .i64 0)) (y:=.v (.int .i64 be)) (by rw[cX ag];exact aY lP) (eu (by rw[cH];omega)) ag 0 be;clear kE1 kE2 kbo kwt gk1 gs1 lP ge1 nU;refine bK @mn @bg ?_;refine ng [(0,1)] mc av (λp hp=>?_) ?_
  ·simp only[my] at hp;subst hp;refine wL (x:=.ptr (.box eb) 0) (v:=.v (.int .i64 be)) av rfl rfl rfl av (by simp[fc,lX]) ?_ ?_<;>(simp only[hU,fR];exact jl @mn @and_self)
  refine br @mn ?_;exact⟨_,_,rfl,by rw[kr.out]⟩
 obtain⟨p1,p2,p3,p4,p5,p6⟩:=kbo.out q;obtain⟨y,w1,w2,w3⟩:=kwt.out q;have ij:=kE2.out q;have ue:=ag1 p1 p2 p3;subst q;clear kE1 kE2 kbo kwt;obtain⟨h2,td⟩:∃h2,h1.push [.ptr (.box c) 0]=h2:=⟨_,rfl⟩;obtain⟨wb,CR⟩:∃n,h1.boxes.length=n:=⟨_,rfl⟩;have stn:b7 ao (h1.push [.v (.pointer au)]) 90 (.ptr (.box wb) 0) (.ptr (.box c) 0)=aa h2:=by rw[<-td,<-CR];exact SQ c
 have gk2:h2.boxes[kb]?=aa (aN ep X Y C):=by rw[<-td];exact aY gk1
 have gs2:h2.boxes[sb]?=aa [S]:=by rw[<-td];exact aY gs1
 have jl:h2.boxes[zb]?=aa [.v (.int .i64 0)]:=by rw[<-td];exact aY lP
 have ge2:h2.boxes[eb]?=aa [.v (.int .i64 0)]:=by rw[<-td];exact aY ge1
 have gw2:h2.boxes[wb]?=aa [.ptr (.box c) 0]:=by rw[<-td,<-CR];exact aZ _ _
 have ste:b7 ao h2 32 (.ptr (.box eb) 0) (.v (.int .i64 0))=aa h2:=by rw[Jd ge2,nb ge2]
 have le2:aH ao Gt h2 32 (.ptr (.box eb) 0)=aa (.v (.int .i64 0)):=ct yI ge2 rfl;have lw2:aH ao Gt h2 90 (.ptr (.box wb) 0)=aa (.ptr (.box c) 0):=ct w8 gw2 rfl;have W2:vJ h2 c ep X Y C T L Wt ((gM (ai aj 0) text l:Nat):Int) ((dF (ai aj 0) text l:Nat):Int) aj text l:=by rw[<-td];exact w.mono (.push _ _)
 have xJ:cG h2=ah:=by rw[<-td];exact nU
 obtain⟨b,vr,w4,-⟩:=W2.eJ;obtain⟨_,h3,c2,x3,post⟩:=V3 h2 c _ L l aB [d,f] (.list .tight 1 (ints [d,f])) w4 rfl kf.out.2.2.2.1 dG ⟨_,_,rfl,λ_=>rfl⟩ bE;have bl:=afM d f;have awK:eb<wb:=by rw[<-CR];exact XN
 clear w4 w gk1 gs1 lP ge1 nU XN;have rN:=x3.box _ _ jl;have ge3:=x3.box _ _ ge2;rcases post with⟨q,rfl⟩|⟨x,q1,q2,rfl⟩
 ·have kr:=al.mk (ij.trans (amD q));have sq:=Bm (H:=h3) ⟨0,0,0,0⟩;have se:b7 ao (h3.push (bU ⟨0,0,0,0⟩)) 32 (.ptr (.box eb) 0) (.v (.int .i64 1))=aa ((h3.push (bU ⟨0,0,0,0⟩)).put eb [.v (.int .i64 1)]):=Jd (aY ge3);obtain⟨a1,a2,a3,a4,a5,a6⟩:=Ca (Hx:=(h3.push (bU ⟨0,0,0,0⟩)).put eb [.v (.int .i64 1)]) (zb:=zb) (eb:=eb) (x:=.v (.int .i64 0)) (y:=.v (.int .i64 1)) (by rw[cX ag];exact aY rN) (eu (by rw[cH];have:=(aS.1 ge3).1;omega)) ag 0 1;clear ij q W2 x3 gk2 gs2 jl ge2 gw2 xJ rN ge3 p1 p2 p3 p6 w1 w2 w3 ue tZ;refine bK @mn @bg ?_;refine ng [(0,1)] mc av (λp hp=>?_) ?_
  ·simp only[my] at hp;subst hp;refine wL (x:=.ptr (.box eb) 0) (v:=.v (.int .i64 1)) av rfl rfl rfl av (by simp[fc,lX]) ?_ ?_<;>(simp only[hU,fR];exact jl @mn @and_self)
  refine br @mn ?_;exact⟨_,_,rfl,by rw[kr.out]⟩
 rw[amE q1 q2] at ij;obtain⟨dN,u7⟩:=ZR q1;have hm:=zB p6 x dN;have sq:=Bm (H:=h3) x;obtain⟨h4,KI⟩:∃h4,h3.push (bU x)=h4:=⟨_,rfl⟩;obtain⟨pb,Qa⟩:∃n,h3.boxes.length=n:=⟨_,rfl⟩;rw[KI,Qa] at sq;have o3:wb<pb:=by have z1:=(aS.1 gw2).1;have z2:=x3.len;omega
 have X4:Ext h2 h4:=by rw[<-KI];exact x3.trans (.push _ _)
 have gk4:=X4.box _ _ gk2;have gs4:=X4.box _ _ gs2;have mT:=X4.box _ _ jl;have ge4:=X4.box _ _ ge2;have gw4:=X4.box _ _ gw2;have gp4:h4.boxes[pb]?=aa (bU x):=by rw[<-KI,<-Qa];exact aZ _ _
 have W4':=W2.mono X4;have ste4:b7 ao h4 32 (.ptr (.box eb) 0) (.v (.int .i64 0))=aa h4:=by rw[Jd ge4,nb ge4]
 have le4:aH ao Gt h4 32 (.ptr (.box eb) 0)=aa (.v (.int .i64 0)):=ct yI ge4 rfl;obtain⟨h5,AO⟩:∃h5,(h4.push [.v (.int .i64 0)]).push [.v (.int .i64 0)]=h5:=⟨_,rfl⟩;obtain⟨jh,K5⟩:∃n,h4.boxes.length=n:=⟨_,rfl⟩;obtain⟨ib,PA⟩:∃n,(h4.push [.v (.int .i64 0)]).boxes.length=n:=⟨_,rfl⟩;have o2:pb<jh/\jh<ib:=by refine⟨?_,by rw[<-K5,<-PA,cH];omega⟩;rw[<-K5];exact(aS.1 gp4).1
 have gsum5:h5.boxes[jh]?=aa [.v (.int .i64 0)]:=by rw[<-AO,<-K5];exact aY (aZ _ _)
 have gib5:h5.boxes[ib]?=aa [.v (.int .i64 0)]:=by rw[<-AO,<-PA];exact aZ _ _
 have X5:Ext h4 h5:=by rw[<-AO];exact(Ext.push _ _).trans (.push _ _)
 have st5a:b7 ao h5 3 (.ptr (.box jh) 0) (.v (.int .i64 0))=aa h5:=by rw[Je gsum5,nb gsum5]
 have st5b:b7 ao h5 3 (.ptr (.box ib) 0) (.v (.int .i64 0))=aa h5:=by rw[Je gib5,nb gib5]
 have gw5:=X5.box _ _ gw4;have lw5:aH ao Gt h5 90 (.ptr (.box wb) 0)=aa (.ptr (.box c) 0):=ct w8 gw5 rfl;have c3:=aaF h5 c aB;obtain⟨h6,Cw⟩:∃h6,(h5.push [.ptr (.box c) 0]).push [.v (.int .i64 aB)]=h6:=⟨_,rfl⟩;rw[Cw] at c3;have X6:Ext h4 h6:=by rw[<-Cw];exact X5.trans ((Ext.push _ _).trans (.push _ _))
 have gsum6:h6.boxes[jh]?=aa [.v (.int .i64 0)]:=by rw[<-Cw];exact aY (aY gsum5)
 have gib6:h6.boxes[ib]?=aa [.v (.int .i64 0)]:=by rw[<-Cw];exact aY (aY gib5)
 have ga6:h6.boxes[h5.boxes.length]?=aa [.ptr (.box c) 0]:=by rw[<-Cw];exact aY (aZ _ _)
 have gb6:h6.boxes[h5.boxes.length+1]?=aa [.v (.int .i64 aB)]:=by rw[<-Cw];exact nt (by rw[cH])
 have l5:jh<h5.boxes.length/\ib<h5.boxes.length:=⟨(aS.1 gsum5).1,(aS.1 gib5).1⟩;have kall:=al.mk (aw ij (aw u7 (aw hm (aw w2 (aw w3 tZ)))));have kprog:=al.mk (aw p1 (aw p3 ue));have gk6:=X6.box _ _ gk4;have gs6:=X6.box _ _ gs4;have xq:=X6.box _ _ mT;have ge6:=X6.box _ _ ge4;have gw6:=X6.box _ _ gw4;have gp6:=X6.box _ _ gp4;have W6':=W4'.mono X6;have kst:=al.mk (aw gk6 (aw gs6 (aw xq (aw ge6 (aw gw6 (aw gp6 W6'))))));have sumv:jh<h4.boxes.length+1:=by omega
 have kxl:=dN;clear ij u7 hm w1 w2 w3 tZ p1 p3 ue gk6 gs6 xq ge6 gw6 gp6 W6' W4' W2 gk4 gs4 mT ge4 gw4 gp4 gk2 gs2 jl ge2 gw2 rN ge3 q1 q2 dN x3 X4 X5 gw5 gsum5 gib5 xJ p2 p6 sumv;refine bK @mn @bg ?_;refine bH.gen λe4 gF qm uY tx=>?_;have f5:e4.get 5=.v (.int .i64 d):=by rw[gF];exact gS
 have f6:e4.get 6=.v (.int .i64 f):=by rw[gF];exact gS
 have f7:e4.get 7=.ptr (.box kb) 0:=by rw[gF];exact gS
 have f11:e4.get 11=.ptr (.box sb) 0:=by rw[gF];exact gS
 have f14:e4.get 14=.ptr (.box zb) 0:=by rw[gF];exact gS
 have f15:e4.get 15=.ptr (.box eb) 0:=by rw[gF];exact gS
 have f16:e4.get 16=.ptr (.box wb) 0:=by rw[gF];exact gS
 have f17:e4.get 17=.ptr (.box pb) 0:=by rw[gF];exact gS
 have f18:e4.get 18=.ptr (.box jh) 0:=by rw[gF];exact gS
 have f19:e4.get 19=.ptr (.box ib) 0:=by rw[gF];exact gS
 have f47:e4.get 47=.func (.func 128) [] [.ptr (.box h5.boxes.length) 0,.ptr (.box (h5.boxes.length+1)) 0]:=by rw[gF];exact gS
 have fd:e4.defers=[]:=by rw[qm];exact gS
 clear gF qm uY tx c1 c2 c3 l0 lS bl stn ste le2 lw2 sq ste4 le4 st5a st5b lw5 zc zp z3 z32 bx bS EB lF QC Pn AS td CR KI Qa AO K5 PA Cw;obtain⟨gk6,gs6,xq,ge6,gw6,gp6,W6⟩:=kst.out;obtain⟨p1,p3,ue⟩:=kprog.out;obtain⟨ij,u7,hm,w2,w3,tZ⟩:=kall.out;have kW:=al.mk W6;clear kst kprog kall W6;obtain⟨og1,og2,og3,og4⟩:=rk p1;have eH:cG h6=cG h6:=rfl;refine Dk (by rw[Aw];exact f47) λrec v1 v2 v3 v4 v5 v6=>?_;have gY:(h6.loop rec).loops[h6.loops.length]?=aa rec:=@C8 h6 rec;have feed:=aaG h6.loops.length h5.boxes.length (h5.boxes.length+1) c Y owners aB (Gv (h6.loop rec) h6.loops.length rec jh ib zb eb ae owners aj (fi ae owners l) aB s)
  (λH=>Gw h6.loops.length rec zb eb H/\mZ ae owners aj aB s=az) kf.out.2.1 ag
  (λk H q=>by
   obtain⟨b6,vr6,z1,-⟩:=kW.out.eJ;refine⟨q.dh _ _ ga6 ag ag,q.dh _ _ gb6 ag ag,_,q.dh _ _ z1 (λe=>?_) (λe=>?_),rfl⟩
   ·rw[e] at z1;rw[gsum6] at z1;unfold ir at z1;simp at z1
   ·rw[e] at z1;rw[gib6] at z1;unfold ir at z1;simp at z1)
  ?_
  (λk H hk hc q=>⟨q.lp,q.dh,by rw[Dg hc];exact q.sum,by rw[Dg hc];exact q.ix,by rw[Dg hc];exact q.le,by rw[Dg hc];exact q.same,by rw[Dg hc];exact q.ok⟩)
  (h6.loop rec) ⟨gY,λa cs ha _ _=>ha,gsum6,gib6,cA _,by simp[eF],by simp[eF]⟩
 rotate_left 1
 ·intro k H hk hc q;have uW:=q.lp
  suffices hs:∃b H',W5.round h6.loops.length [.v (.int .i64 (k:Nat))] H=aa (.ret (.v (.bool b)),H')/\if b=ah then Gv (h6.loop rec) h6.loops.length rec jh ib zb eb ae owners aj (fi ae owners l) aB s (k+1) H' else (Gw h6.loops.length rec zb eb H'/\mZ ae owners aj aB s=az) by
   obtain⟨b,H',q1,q2⟩:=hs;cases b with|true=>exact .inl ⟨H',q1,q2⟩|false=>exact .inr ⟨H',q1,q2⟩
  refine aq7 (Post:=λb H'=>if b=ah then Gv (h6.loop rec) h6.loops.length rec jh ib zb eb ae owners aj (fi ae owners l) aB s (k+1) H' else (Gw h6.loops.length rec zb eb H'/\mZ ae owners aj aB s=az)) uW (by rw[v2];rfl) v5 v6 ?_;have r1:∀t,(nH h6.loops.length rec [.v (.int .i64 (k:Nat))]).get t=if 48=t then .v (.int .i64 (k:Nat)) else e4.get t:=λt=>aaD v2 v1
  have d1:(nH h6.loops.length rec [.v (.int .i64 (k:Nat))]).defers=[]:=rfl;obtain⟨K,hK⟩:∃K,H.busy h6.loops.length rec=K:=⟨_,rfl⟩;have qN:∀a:Nat,K.boxes[a]?=H.boxes[a]?:=λa=>by rw[<-hK];rfl
  have Ci:K.loops[h6.loops.length]?=aa {rec with state:=.busy}:=by rw[<-hK];have:=(aS.1 uW).1;show(H.loops.set _ _)[_]?=_;simp[this]
  have og:∀(a:Nat) (cs:List AV),h6.boxes[a]?=aa cs->a≠jh->a≠ib->K.boxes[a]?=aa cs:=λa cs ha n1 n2=>by rw[qN];exact q.dh a cs ha n1 n2
  have EF:=og _ _ gk6 ag ag;have ET:=og _ _ gs6 ag ag;have CV:=og _ _ xq ag ag;have Ct:=og _ _ ge6 ag ag;have Ih:=og _ _ gw6 ag ag;have Ib:=(qN jh).trans q.sum;have ED:=(qN ib).trans q.ix;have eO:=q.le;have lib:aH ao Gt K 3 (.ptr (.box ib) 0)=aa (.v (.int .i64 ((eF owners aB k).length:Nat))):=ct eD ED rfl;have lsb:aH ao Gt K 36 (.ptr (.box sb) 0)=aa S:=ct NW ET rfl;have lSn:=kf.out.2.2.2.2.dM;obtain⟨a1,a2,a3,a4,a5,a6⟩:=Ca CV Ct ag 0 340;have mH:=(aS.1 CV).1;have Hz:=(aS.1 Ct).1;have kstop:al (∀(K2:aq),K2.loops[h6.loops.length]?=aa {rec with state:=.busy}->zb<K2.boxes.length->eb<K2.boxes.length->Gw h6.loops.length rec zb eb (((K2.put zb [.v (.int .i64 0)]).put eb [.v (.int .i64 340)]).eW h6.loops.length {rec with state:=.done,pending:=aa .ret})):=⟨λK2 q1 q2 q3=>by
   have dG:=(aS.1 q1).1;refine⟨abg dG,?_,?_⟩
   ·show((K2.put zb [.v (.int .i64 0)]).put eb [.v (.int .i64 340)]).boxes[zb]?=_;rw[cX ag];exact eu q2
   ·show((K2.put zb [.v (.int .i64 0)]).put eb [.v (.int .i64 340)]).boxes[eb]?=_;exact eu (by rw[mj];exact q3)⟩
  have kown:=al.mk (λq=>@anB ae owners aj aB s q k hk hc);have kq:=al.mk q;have kog:=al.mk og;obtain⟨Q,hQ⟩:∃Q:Xt->aq->Prop,Q=λo h2=>h2.loops[h6.loops.length]?=aa {rec with state:=.busy}/\
   ((o=.normal/\Gv (h6.loop rec) h6.loops.length rec jh ib zb eb ae owners aj (fi ae owners l) aB s (k+1) (h2.eW h6.loops.length rec))∨(o=.ret/\Gw h6.loops.length rec zb eb (h2.eW h6.loops.length {rec with state:=.done,pending:=aa .ret})/\mZ ae owners aj aB s=az)):=⟨_,rfl⟩
  have kQs:al (∀(K2:aq),K2.loops[h6.loops.length]?=aa {rec with state:=.busy}->zb<K2.boxes.length->eb<K2.boxes.length->mZ ae owners aj aB s=az->Q .ret ((K2.put zb [.v (.int .i64 0)]).put eb [.v (.int .i64 340)])):=⟨λK2 z1 z2 z3 z4=>by rw[hQ];exact⟨z1,.inr ⟨rfl,kstop.out K2 z1 z2 z3,z4⟩⟩⟩;have kQn:al (∀(K2:aq),K2.loops[h6.loops.length]?=aa {rec with state:=.busy}->Gv (h6.loop rec) h6.loops.length rec jh ib zb eb ae owners aj (fi ae owners l) aB s (k+1) (K2.eW h6.loops.length rec)->Q .normal K2):=⟨λK2 z1 z2=>by rw[hQ];exact⟨z1,.inl ⟨rfl,z2⟩⟩⟩;rw[hK]
  suffices mF:bH W5 rec.assign (nH h6.loops.length rec [.v (.int .i64 (k:Nat))]) H (λo e1 h1=>o=.normal/\h1=H/\bH W5 rec.body e1 K (λo _ h2=>Q o h2)) by
   obtain⟨o,e1,hh,z1,z2,z3,o',e2,xu,z4,z5⟩:=mF;refine⟨o,e1,hh,z1,z2,z3,o',e2,xu,z4,?_⟩;rw[hQ] at z5;obtain⟨z5,z6⟩:=z5;refine⟨z5,?_⟩;rcases z6 with⟨y1,y2⟩|⟨y1,y2⟩
   ·exact .inl ⟨y1,y2⟩
   ·exact .inr ⟨y1,y2⟩
  clear hQ kstop;rw[v3,v4];rcases dW (eF owners aB k).length s.length with aA|eg;rotate_left 1
  ·have fF:(eF owners aB k).length=s.length:=(by omega);have ja:mZ ae owners aj aB s=az:=by
    cases ho:mZ ae owners aj aB s with|false=>rfl|true=>obtain⟨p,z1,-⟩:=kown.out ho;rw[List.getElem?_eq_none ag] at z1;cases z1
   have dd:decide ((((eF owners aB k).length:Nat):Int)=(s.length:Int))=ah:=bQ ag;have fy:=al.mk (kQs.out K Ci mH Hz ja);clear fF ja eg eO q og uW hK qN Ci EF ET CV Ct Ih Ib ED v1 v2 v3 v4 v5 v6 kQs kQn;generalize (eF owners aB k).length=i at *
   refine yS ?_;exact⟨aU,aU,fy.out⟩
  obtain⟨p,hp⟩:∃p,s[(eF owners aB k).length]?=aa p:=⟨_,aR aA⟩;have dd:decide ((((eF owners aB k).length:Nat):Int)=(s.length:Int))=az:=cE ag;have ixS:=kf.out.2.2.2.2.ix aA;have ls0:=alR (H:=K) (s:=2) hp;by_cases dU:p.1=((k:Nat):Int);rotate_left 1
  ·have ja:mZ ae owners aj aB s=az:=by
    cases ho:mZ ae owners aj aB s with|false=>rfl|true=>obtain⟨p',z1,z2,-⟩:=kown.out ho;rw[hp] at z1;injection z1 with z1;subst z1;exact absurd z2 dU
   have dr:decide (p.1=((k:Nat):Int))=az:=cE dU;have fy:=al.mk (kQs.out K Ci mH Hz ja);clear ja aA eO q og uW hK qN Ci EF ET CV Ct Ih Ib ED v1 v2 v3 v4 v5 v6 kQs kQn hp dU;generalize (eF owners aB k).length=i at *
   refine br @Ay ?_;exact⟨aU,aU,fy.out⟩
  have PH:k<ae.length:=by omega
  have dr:decide (((k:Nat):Int)=((k:Nat):Int))=ah:=bQ rfl;obtain⟨pr,pv⟩:=p;simp only at dU;subst dU;obtain⟨_,K2,cf,rfl,xf⟩:=aiU K X Y C ae owners aj kf.out.1 kf.out.2.1 kf.out.2.2.1 de ((k:Nat):Int) pv;have lk1:aH ao Gt K 25 (.ptr (.box kb) 1)=aa (.agg [X,Y]):=by rw[iL yG (by kernel_rfl:dt ao 25=aa 2) EF (jR rfl)];rfl
  have lk3:aH ao Gt K 23 (.ptr (.box kb) 3)=aa C:=ct kU EF rfl;have ls81:=Zc (H:=K) (s:=2) hp;have Hk:=xf.loop _ _ Ci;have gG:=xf.box _ _ CV;have jC:=xf.box _ _ Ct;rcases aiZ (v:=pv) ue PH with⟨so,fo⟩|⟨so,fo⟩;rotate_left 1
  ·have ja:mZ ae owners aj aB s=az:=by
    cases ho:mZ ae owners aj aB s with|false=>rfl|true=>obtain⟨p',z1,z2,z3⟩:=kown.out ho;rw[hp] at z1;injection z1 with z1;subst z1;rw[so] at z3;cases z3
   have fy:=al.mk (kQs.out K2 Hk (aS.1 gG).1 (aS.1 jC).1 ja);obtain⟨t1,t2,t3,t4,t5,t6⟩:=Ca gG jC ag 0 340;clear ja aA eO q og uW hK qN Ci EF ET CV Ct Ih Ib ED v1 v2 v3 v4 v5 v6 kQs kQn hp a1 a2 a3 a4 a5 a6 xf gG jC Hk so;unfold im at cf;rcases fo with fo|fo
   ·rw[fo] at cf;clear fo;generalize (eF owners aB k).length=i at *
    refine cQ @Ay @gL @gV ?_;refine⟨aU,aU,?_⟩;refine ev mc av ?_;refine cQ @Ay @gL @gV ?_;exact fy.out
   ·rw[fo] at cf;clear fo;generalize (eF owners aB k).length=i at *
    refine cQ @Ay @gL @gV ?_;refine⟨aU,aU,?_⟩;refine ev mc av ?_;refine cQ @Ay @gL @gV ?_;exact fy.out
  rw[fo] at cf;have oC:=xf.box _ _ Ih;have ny:=xf.box _ _ ET;have K4:=xf.box _ _ Ib;have KJ:=xf.box _ _ ED;obtain⟨b6,vr6,z1,-⟩:=kW.out.eJ;have cq:c≠jh:=λe=>by rw[e] at z1;rw[gsum6] at z1;unfold ir at z1;simp at z1
  have Ht:c≠ib:=λe=>by rw[e] at z1;rw[gib6] at z1;unfold ir at z1;simp at z1
  have Xg:=xf.box _ _ (og _ _ z1 cq Ht);have lwb:aH ao Gt K2 90 (.ptr (.box wb) 0)=aa (.ptr (.box c) 0):=ct w8 oC rfl;have lWt:aH ao Gt K2 23 (.ptr (.box c) 6)=aa Wt:=ct kU Xg rfl;have xO:=tZ.ix (i:=k) (by rw[w2,w3];exact PH);have lWk:=eE (H:=K2) (l:=fi ae owners l) (i:=k) (s:=1) (by rw[w2,w3];exact PH);have lsb2:aH ao Gt K2 36 (.ptr (.box sb) 0)=aa S:=ct NW ny rfl;have lib2:aH ao Gt K2 3 (.ptr (.box ib) 0)=aa (.v (.int .i64 ((eF owners aB k).length:Nat))):=ct eD KJ rfl;have lsum2:aH ao Gt K2 3 (.ptr (.box jh) 0)=aa (.v (.int .i64 (l9 (fi ae owners l) (s.take (eF owners aB k).length)))):=ct eD K4 rfl;have ls1:=alS (H:=K2) (s:=2) hp;have cm:=Lp (ai (fi ae owners l) k) pv;have ca:=JP (l9 (fi ae owners l) (s.take (eF owners aB k).length)) (cR (ai (fi ae owners l) k) pv);have bT:=avM (y:=fi ae owners l) hp;simp only[dV] at bT;rw[<-bT] at ca;have stS:=Je (n:=l9 (fi ae owners l) (s.take ((eF owners aB k).length+1))) K4;have PB:(K2.put jh [.v (.int .i64 (l9 (fi ae owners l) (s.take ((eF owners aB k).length+1))))]).boxes[ib]?=aa [.v (.int .i64 ((eF owners aB k).length:Nat))]:=by rw[cX ag];exact KJ
  have lib3:aH ao Gt (K2.put jh [.v (.int .i64 (l9 (fi ae owners l) (s.take ((eF owners aB k).length+1))))]) 3 (.ptr (.box ib) 0)=aa (.v (.int .i64 ((eF owners aB k).length:Nat))):=ct eD PB rfl;have stI:=Je (n:=(((eF owners aB k).length+1:Nat):Int)) PB;have akd:(((eF owners aB k).length+1:Nat):Int)=((eF owners aB k).length:Int)+1:=by omega
  have fy:=al.mk (kQn.out ((K2.put jh [.v (.int .i64 (l9 (fi ae owners l) (s.take ((eF owners aB k).length+1))))]).put ib [.v (.int .i64 (((eF owners aB k).length+1:Nat):Int))]) Hk (by
   have dG:=(aS.1 Hk).1;have ak0:=(aS.1 K4).1;have y8:=(aS.1 KJ).1;have hlen:(eF owners aB (k+1)).length=(eF owners aB k).length+1:=(by rw[IJ hc];simp);refine⟨abg dG,λa cs ha n1 n2=>?_,?_,?_,by omega,?_,?_⟩
   ·show((K2.put jh _).put ib _).boxes[a]?=_;rw[cX n2,cX n1];exact xf.box _ _ (by rw[qN];exact q.dh a cs ha n1 n2)
   ·show((K2.put jh _).put ib _).boxes[jh]?=_;rw[cX ag,hlen];exact eu ak0
   ·show((K2.put jh _).put ib _).boxes[ib]?=_;rw[hlen];exact eu (by rw[mj];exact y8)
   ·rw[hlen,ft hp,mw,q.same,IJ hc,mw];rfl
   ·rw[hlen,ft hp,List.all_append,q.ok,ry];simp[so]))
  clear eO q og uW hK qN Ci EF ET CV Ct Ih Ib ED v1 v2 v3 v4 v5 v6 kQs kQn hp a1 a2 a3 a4 a5 a6 xf gG jC Hk so fo oC ny K4 KJ PB Xg z1 bT w2 w3;unfold im at *
  generalize (eF owners aB k).length=i at *
  generalize l9 (fi ae owners l) (s.take i)=sv at *
  generalize l9 (fi ae owners l) (s.take (i+1))=sv2 at *
  generalize cR (ai (fi ae owners l) k) pv=mv at *
  generalize ai (fi ae owners l) k=wv at *
  rw[akd] at stI fy;refine cQ @Ay @gL @gV ?_;refine⟨aU,aU,?_⟩;refine ev mc av ?_;refine bA @Ay @VY @gL @gV ?_;refine ev mc av ?_;refine cQ @Ay @VY @rI ?_;exact fy.out
 ·obtain⟨Hf,cF,hF⟩:=feed;rcases hF with q|⟨q,ja⟩;rotate_left 1
  ·have HX:res=(0,340):=(by rw[ij,aG ja]);have kr:=al.mk HX;refine⟨_,_,cF,_,q.lp,(aV:LoopState.done≠ .busy),.inr ⟨rfl,?_⟩⟩;have qz:(Hf.eW h6.loops.length {rec with state:=.exhausted,pending:=aa .ret}).boxes[zb]?=aa [.v (.int .i64 0)]:=q.z;have qe:(Hf.eW h6.loops.length {rec with state:=.exhausted,pending:=aa .ret}).boxes[eb]?=aa [.v (.int .i64 340)]:=q.e;have lz:aH ao Gt (Hf.eW h6.loops.length {rec with state:=.exhausted,pending:=aa .ret}) 3 (.ptr (.box zb) 0)=aa (.v (.int .i64 0)):=ct eD qz rfl;have le:aH ao Gt (Hf.eW h6.loops.length {rec with state:=.exhausted,pending:=aa .ret}) 32 (.ptr (.box eb) 0)=aa (.v (.int .i64 340)):=ct yI qe rfl;clear cF q ja ij HX kf kW gk6 gs6 xq ge6 gw6 gp6 ga6 gb6 gsum6 gib6 hm w2 w3 tZ p1 p3 ue og1 og2 og3 og4 gY v1 v2 v3 v4 v5 v6 qz qe u7;refine br @mn ?_;exact⟨_,_,rfl,by rw[kr.out]⟩
  refine⟨_,_,cF,_,q.lp,by rw[v5];decide,.inl ⟨v6,?_⟩⟩;obtain⟨HF,Eu⟩:∃HF,Hf.eW h6.loops.length {rec with state:=.exhausted}=HF:=⟨_,rfl⟩;have Cm:∀a:Nat,HF.boxes[a]?=Hf.boxes[a]?:=λa=>by rw[<-Eu];rfl
  have og:∀(a:Nat) (cs:List AV),h6.boxes[a]?=aa cs->a≠jh->a≠ib->HF.boxes[a]?=aa cs:=λa cs ha n1 n2=>by rw[Cm];exact q.dh a cs ha n1 n2
  have HZ:=og _ _ gs6 ag ag;have CU:=og _ _ xq ag ag;have Cs:=og _ _ ge6 ag ag;have EY:=og _ _ gw6 ag ag;have CL:=og _ _ gp6 ag ag;have A2:=(Cm jh).trans q.sum;have EC:=(Cm ib).trans q.ix;have eO:=q.le;have jn:=q.same;have CI:=q.ok;rw[LO] at A2 EC eO jn CI;rw[Eu];have lib:aH ao Gt HF 3 (.ptr (.box ib) 0)=aa (.v (.int .i64 ((jw owners aB).length:Nat))):=ct eD EC rfl;have lsb:aH ao Gt HF 36 (.ptr (.box sb) 0)=aa S:=ct NW HZ rfl;have lSn:=kf.out.2.2.2.2.dM;rcases dW (jw owners aB).length s.length with aA|eg
  ·have ja:mZ ae owners aj aB s=az:=by
    cases ho:mZ ae owners aj aB s with|false=>rfl|true=>unfold mZ at ho;rw[bC,decide_eq_true_eq] at ho;have:=congrArg List.length ho.1;rw[bu,bu] at this;omega
   have HX:res=(0,340):=(by rw[ij,aG ja]);have kr:=al.mk HX;obtain⟨a1,a2,a3,a4,a5,a6⟩:=Ca CU Cs ag 0 340;have dd:decide ((((jw owners aB).length:Nat):Int)<(s.length:Int))=ah:=bQ ag;clear cF q ja ij HX kf kW gk6 gs6 xq ge6 gw6 gp6 ga6 gb6 gsum6 gib6 hm w2 w3 tZ p1 p3 ue og1 og2 og3 og4 gY v1 v2 v3 v4 v5 v6 u7 Eu Cm og HZ CU Cs EY CL A2 EC eO jn CI aA;refine br @mn ?_;exact⟨_,_,rfl,by rw[kr.out]⟩
  have bG:(jw owners aB).length=s.length:=by omega
  have K8:mZ ae owners aj aB s=ah:=by unfold mZ;rw[bG,fC] at jn CI;rw[jn,CI];simp
  have dd:decide ((((jw owners aB).length:Nat):Int)<(s.length:Int))=az:=cE ag;rw[bG,fC] at A2;rw[aI (by rw[K8];simp)] at ij;have c8:=Iz 4 d;have c9:=Iz 4 f;have hG:(4:Int).toNat=Gn:=rfl;rw[sY sX,hG] at c8 c9;have lpD:aH ao Gt HF 3 (.ptr (.box pb) 2)=aa (.v (.int .i64 x.d)):=ct eD CL rfl;have lpE:aH ao Gt HF 3 (.ptr (.box pb) 3)=aa (.v (.int .i64 x.e)):=ct eD CL rfl;obtain⟨a1,a2,a3,a4,a5,a6⟩:=Ca CU Cs ag 0 420;by_cases fj:((bF Gn d:Nat):Int)=x.d;rotate_left 1
  ·have kr:=al.mk (ij.trans (aG (.inl fj)));have dq:decide (((bF Gn d:Nat):Int)=x.d)=az:=cE fj;clear cF q K8 ij kf kW gk6 gs6 xq ge6 gw6 gp6 ga6 gb6 gsum6 gib6 hm w2 w3 tZ p1 p3 ue og1 og2 og3 og4 gY v1 v2 v3 v4 v5 v6 u7 Eu Cm og HZ CU Cs EY CL A2 EC eO jn CI eg bG hG fj;generalize ((bF Gn d:Nat):Int)=pd at *
   unfold im at *
   refine br @mn ?_;refine ng [(7,9)] mc av (λp hp=>?_) ?_
   ·simp only[my] at hp;subst hp;refine atS av rfl rfl av ?_ ?_
    ·simp only[hU,fR];refine bK @mn @iR ?_;refine⟨by trivial,?_⟩;simp[fD,Mx]
    ·simp only[hU,fR];exact jl @mn @iR
   refine bK @mn @iR ?_;exact⟨_,_,rfl,by rw[kr.out]⟩
  have dq:decide (((bF Gn d:Nat):Int)=x.d)=ah:=bQ fj;by_cases ie:((bF Gn f:Nat):Int)=x.e;rotate_left 1
  ·have kr:=al.mk (ij.trans (aG (.inr ie)));have dq2:decide (((bF Gn f:Nat):Int)=x.e)=az:=cE ie;clear cF q K8 ij kf kW gk6 gs6 xq ge6 gw6 gp6 ga6 gb6 gsum6 gib6 hm w2 w3 tZ p1 p3 ue og1 og2 og3 og4 gY v1 v2 v3 v4 v5 v6 u7 Eu Cm og HZ CU Cs EY CL A2 EC eO jn CI eg bG hG fj ie;generalize ((bF Gn d:Nat):Int)=pd at *
   generalize ((bF Gn f:Nat):Int)=pf at *
   unfold im at *
   refine br @mn ?_;refine ng [(7,9)] mc av (λp hp=>?_) ?_
   ·simp only[my] at hp;subst hp;refine abB (x:=.ptr (.box pb) 3) (v:=.v (.int .i64 x.e)) av rfl rfl av (by simp[fc,lX]) ?_ ?_
    ·simp only[hU,fR];refine bK @mn @iR ?_;refine⟨by trivial,?_,by trivial,by trivial⟩;simp[fD,Mx]
    ·simp only[hU,fR];exact rN @mn @iR @and_self
   refine bK @mn @iR ?_;exact⟨_,_,rfl,by rw[kr.out]⟩
  have dq2:decide (((bF Gn f:Nat):Int)=x.e)=ah:=bQ ie;rw[aI (by simp[fj,ie])] at ij;have kr:=al.mk ij;obtain⟨b6,vr6,z1,z2,z3⟩:=kW.out.eJ;have cq:c≠jh:=λe=>by rw[e] at z1;rw[gsum6] at z1;unfold ir at z1;simp at z1
  have Ht:c≠ib:=λe=>by rw[e] at z1;rw[gib6] at z1;unfold ir at z1;simp at z1
  have qs:=z3.1;have oV:=nN z3.four;rw[bu] at qs;have akH:0<l.length:=Nm.2 (λe=>by rw[e] at kxl;simp at kxl);have mV:b6≠jh:=λe=>by rw[e] at z2;rw[gsum6] at z2;injection z2 with z2;rw[<-z2] at oV;simp at oV;omega
  have uU:b6≠ib:=λe=>by rw[e] at z2;rw[gib6] at z2;injection z2 with z2;rw[<-z2] at oV;simp at oV;omega
  have WF:vJ HF c ep X Y C T L Wt ((gM (ai aj 0) text l:Nat):Int) ((dF (ai aj 0) text l:Nat):Int) aj text l:=
   ⟨⟨b6,vr6,og _ _ z1 cq Ht,og _ _ z2 mV uU,z3⟩,kW.out.On,kW.out.pos,kW.out.c0,kW.out.Dt,kW.out.tl,kW.out.ll⟩
  obtain⟨_,_,cb,rfl,rfl⟩:=Oa HF c ep X Y C T L Wt _ _ aj text l WF x ⟨ag,by omega⟩;rw[u7] at cb;have Pd:=og _ _ z1 cq Ht;have lwb:aH ao Gt HF 90 (.ptr (.box wb) 0)=aa (.ptr (.box c) 0):=ct w8 EY rfl;have lwb2:aH ao Gt (HF.push (bU x)) 90 (.ptr (.box wb) 0)=aa (.ptr (.box c) 0):=ct w8 (aY EY) rfl;have lch:aH ao Gt HF 3 (.ptr (.box c) 12)=aa (.v (.int .i64 ((dF (ai aj 0) text l:Nat):Int))):=ct eD Pd rfl;have lch2:aH ao Gt (HF.push (bU x)) 3 (.ptr (.box c) 12)=aa (.v (.int .i64 ((dF (ai aj 0) text l:Nat):Int))):=ct eD (aY Pd) rfl;have lsu:aH ao Gt HF 3 (.ptr (.box jh) 0)=aa (.v (.int .i64 (l9 (fi ae owners l) s))):=ct eD A2 rfl;have lsu2:aH ao Gt (HF.push (bU x)) 3 (.ptr (.box jh) 0)=aa (.v (.int .i64 (l9 (fi ae owners l) s))):=ct eD (aY A2) rfl;have lpp:=C5 CL;have m1:=Lp f ((eU (ai aj 0) text l aB:Nat):Int);have m2:=JP d (cR f ((eU (ai aj 0) text l aB:Nat):Int));have m3:=Lp ((dF (ai aj 0) text l:Nat):Int) (l9 (fi ae owners l) s);have m4:=JP (cd d (cR f ((eU (ai aj 0) text l aB:Nat):Int))) (cR ((dF (ai aj 0) text l:Nat):Int) (l9 (fi ae owners l) s));obtain⟨t1,t2,t3,t4,t5,t6⟩:=Ca (Hx:=HF.push (bU x)) (aY CU) (aY Cs) ag (cd (cd d (cR f ((eU (ai aj 0) text l aB:Nat):Int))) (cR ((dF (ai aj 0) text l:Nat):Int) (l9 (fi ae owners l) s))) 0;clear cF q K8 ij kf kW gk6 gs6 xq ge6 gw6 gp6 ga6 gb6 gsum6 gib6 hm w2 w3 tZ p1 p3 ue og1 og2 og3 og4 gY v1 v2 v3 v4 v5 v6 u7 Eu Cm og HZ CU Cs EY CL A2 EC eO jn CI eg bG hG fj ie a1 a2 a3 a4 a5 a6 WF Pd z1 z2 z3 cq Ht mV uU qs oV akH kxl;generalize cd (cd d (cR f ((eU (ai aj 0) text l aB:Nat):Int))) (cR ((dF (ai aj 0) text l:Nat):Int) (l9 (fi ae owners l) s))=zz at *
  generalize cd d (cR f ((eU (ai aj 0) text l aB:Nat):Int))=za at *
  generalize cR f ((eU (ai aj 0) text l aB:Nat):Int)=zm at *
  generalize cR ((dF (ai aj 0) text l:Nat):Int) (l9 (fi ae owners l) s)=zs at *
  generalize ((eU (ai aj 0) text l aB:Nat):Int)=bv at *
  generalize ((dF (ai aj 0) text l:Nat):Int)=chv at *
  generalize l9 (fi ae owners l) s=wv at *
  generalize ((bF Gn d:Nat):Int)=pd at *
  generalize ((bF Gn f:Nat):Int)=pf at *
  unfold im at *
  refine br @mn ?_;refine ng [(7,9)] mc av (λp hp=>?_) ?_
  ·simp only[my] at hp;subst hp;refine abB (x:=.ptr (.box pb) 3) (v:=.v (.int .i64 x.e)) av rfl rfl av (by simp[fc,lX]) ?_ ?_
   ·simp only[hU,fR];refine bK @mn @iR ?_;refine⟨by trivial,?_,by trivial,by trivial⟩;simp[fD,Mx]
   ·simp only[hU,fR];exact rN @mn @iR @and_self
  refine bK @mn @iR ?_;refine ng [(4,7),(4,10),(4,11)] mc av (λp hp=>?_) ?_
  ·simp only[iu,vH,or_false] at hp;rcases hp with rfl|rfl|rfl
   ·refine sw (x:=.ptr (.box wb) 0) (v:=.ptr (.box c) 0) av rfl rfl rfl av (abb c 0) ?_ ?_<;>(simp only[hU,fR];exact rN @mn @iR @and_self)
   ·refine sw (x:=.ptr (.box c) 12) (v:=.v (.int .i64 chv)) av rfl rfl rfl av (by simp[fc,lX]) ?_ ?_<;>(simp only[hU,fR];exact mT @mn @iR @rI @and_self)
   ·refine sw (x:=.ptr (.box jh) 0) (v:=.v (.int .i64 wv)) av rfl rfl rfl av (by simp[fc,lX]) ?_ ?_<;>(simp only[hU,fR];exact mT @mn @iR @rI @and_self)
  refine cQ @mn @iR @rI ?_;exact⟨_,_,rfl,by rw[kr.out]⟩
def IQ:Tryz.f173.results.toList=[.tmp 4]:=by kernel_rfl
def Bo(a b:Tok):Prop:=∀m,a=.free m->b≠ .free m
def Bo.symm{a b}(h:Bo a b):Bo b a:=λm hb ha=>h m ha hb
def qi(ts:List Tok)(ae:List (List Int)):List AV:=List.zipWith (λt r=>AV.list t 1 (ints r)) ts ae
def rG(ae:List (List Int))(n:Nat):List (List Int):=(bM n).map λk=>ae.map λr=>ai r k
def ahk(ae)(k):rG ae (k+1)=rG ae k++[ae.map λr=>ai r k]:=by unfold rG;rw[om,mw];rfl
def Vy(ae)(k):(rG ae k).length=k:=by unfold rG;simp
structure wZ(h H:aq)(x:AV)(ts:List Tok)(ae:List (List Int))(t:Tok):Prop where
 can:∀u∈t::ts,dm h.tn H u
 GZ:(t::ts).Pairwise Bo
 len:ts.length=ae.length
 ok:cG H=ah
 ext:Ext h H
 Jk:(ae=[]/\x=.list .tight 1 [])∨(ae≠[]/\∃b,x=.arr b 0 ae.length ae.length/\H.boxes[b]?=aa (qi ts ae)/\h.boxes.length<=b)
def agQ{ts}{ae}(h:ts.length=ae.length):(qi ts ae).length=ae.length:=by unfold qi;rw[List.length_zipWith,h,Nat.min_self]
def agR{ts}{ae}(h:ts.length=ae.length)(t)(r):qi (ts++[t]) (ae++[r])=qi ts ae++[.list t 1 (ints r)]:=by unfold qi;rw[List.zipWith_append h];rfl
def Ok{n0}{h}{k}(hk:dm n0 h k)(ho:cG h=ah)(hn:n0<=h.tn):dm n0 (h.app k) (.free h.tn):=(Grown.one hk ho hn).can
def aeJ{n0}{h}{k}(hk:dm n0 h k):Bo (.free h.tn) k:=by
 rintro m q rfl;injection q with q;rcases hk with q2|q2|⟨n,q2,-,q3⟩
 ·cases q2
 ·cases q2
 ·injection q2 with q2;have:=uM q3;omega
def wZ.app{h H}{x}{ts}{ae}{t}(w:wZ h H x ts ae t):wZ h (H.app t) x ts ae (.free H.tn):=by
 have hc:=w.can t fW;have hd:=Gs.1 w.GZ;refine⟨λu hu=>?_,Gs.2 ⟨λu hu=>aeJ (w.can u (fE _ hu)),hd.2⟩,w.len,D8 w.ok hc,(Grown.one hc w.ok w.ext.tn).ext w.ext (aJ _),?_⟩
 ·rcases iu.1 hu with rfl|hu
  ·exact Ok hc w.ok w.ext.tn
  ·exact GW (w.can u (fE _ hu)) (hd.1 u hu)
 ·rw[ec];exact w.Jk
def wZ.close{h H}{x}{ts}{ae}{t}(w:wZ h H x ts ae t)(r)(hl:ae.length<1000000):
 ∃x2 H2,sC ao H #[22,22] x (.list .tight 1 [[.list t 1 (ints r)]])=aa (x2,H2)/\wZ h H2 x2 (ts++[t]) (ae++[r]) .tight:=by
 obtain⟨i,q1,q2,q3,q4⟩:=La;have uT:=qG (ag:ae.length+1<=1000000) q3;have hd:=Gs.1 w.GZ;have Xq:(Tok.tight::(ts++[t])).Pairwise Bo:=by refine Gs.2 ⟨λu _ m hm=>(by cases hm),List.pairwise_append.2 ⟨hd.2,by simp,λa ha b hb=>?_⟩⟩;rw[my] at hb;subst hb;exact(hd.1 a ha).symm
 have Xh:∀H2:aq,(∀u,dm h.tn H u->dm h.tn H2 u)->∀u∈Tok.tight::(ts++[t]),dm h.tn H2 u:=by
  intro H2 hm u hu;rcases iu.1 hu with rfl|hu
  ·exact .inr (.inl rfl)
  ·rcases List.mem_append.1 hu with hu|hu
   ·exact hm u (w.can u (fE _ hu))
   ·rw[my] at hu;exact hm u (w.can u (by rw[hu];exact fW))
 have hlen:(ts++[t]).length=(ae++[r]).length:=by simp[w.len]
 rcases w.Jk with⟨rfl,rfl⟩|⟨bG,b,rfl,hb,eg⟩
 ·have hts:ts=[]:=List.eq_nil_of_length_eq_zero w.len;subst hts;have:=MI (h:=H) (k:=.tight) (sz:=1) (es:=[]) (new:=[[.list t 1 (ints r)]]) (x:=.list .tight 1 [[.list t 1 (ints r)]]) ji ji q1 ag (by rw[q2];exact q4) bE (by simp;omega) bE (.inl q2.symm) (.inr rfl) (by rw[q2];rfl);exact⟨_,_,this,Xh _ λu hu=>hu,Xq,hlen,w.ok,w.ext.trans (.push _ _),.inr ⟨bE,H.boxes.length,rfl,aZ _ _,w.ext.len⟩⟩
 ·have jb:0<ae.length:=Nm.2 bG;have de:=agQ w.len;have:=SZ (h:=H) (b:=b) (len:=ae.length) (cs:=qi ts ae) (new:=[[.list t 1 (ints r)]]) (x:=.list .tight 1 [[.list t 1 (ints r)]]) ji ji q1 ag (by rw[q2];exact q4) bE (by simp;omega) (by simp;omega) hb jb (by rw[q2,de];omega) (by rw[q2];rfl);refine⟨_,_,this,Xh _ λu hu=>hu,Xq,hlen,?_,(w.ext.fK eg _).trans (.push _ _),.inr ⟨bE,H.boxes.length,by simp,?_,w.ext.len⟩⟩
  ·exact w.ok
  ·rw[agR w.len];exact nt (by rw[mj])
def au3(h:aq)(bq:cG h=ah)(x:AV)(ae:List (List Int))(n:Nat)(hx:RL x ae)(hw:∀r∈ae,r.length=n)(hr:ae.length<=1000)(hn:n<=1000):
 ∃r h',W5.call 173 [x,im (n:Nat)] h=aa (r,h')/\∃X ts,r=.ret X/\wZ h h' X ts (rG ae n) .tight:=by
 obtain⟨kx0,sx,xs,rfl,u6,dN,eH⟩:=hx;have kx:=al.mk (aw u6 (aw eH hw));clear u6 eH hw;have u23:=dQ;have u22:=ji;have z23:=il;have z3:=fP;have K7:(xs.map λa=>[a]).length=ae.length:=by rw[bu];exact dN
 have b0:gf ao 22 0 []=aa (.list .tight 1 []):=by kernel_rfl
 have b1:gf ao 23 0 []=aa (.list .tight 1 []):=by kernel_rfl
 have T0:wZ h h (.list .tight 1 []) [] (rG ae 0) .tight:=⟨λu hu=>.inr (.inl (by simpa using hu)),by simp,rfl,bq,.refl _,.inl ⟨rfl,rfl⟩⟩;unfold im;refine db rfl Tryz.func173 rfl ?_;refine br @IQ ?_;refine cz (λm e H=>∃(k:Nat) (X:AV) (ts:List Tok),k<=n/\m=n - k/\al (wZ h H X ts (rG ae k) .tight)/\e.get 0=.list kx0 sx (xs.map λa=>[a])/\e.get 1=.v (.int .i64 (n:Nat))/\e.get 5=X/\e.get 6=.v (.int .i64 (k:Nat))/\e.defers=[]) ?_ n _ _ ?_;rotate_left 1
 ·refine⟨0,_,[],cA _,rfl,⟨T0⟩,?_,?_,?_,?_,?_⟩<;>first|(simp only[gW,reduceIte,aO,aM,b0];done)|(simp only[gW,reduceIte,aO,aM,b0]<;>rfl)
 clear T0;rintro m e H ⟨k,X,ts,hk,rfl,kT,g0,g1,g5,g6,hd⟩;by_cases tf:k<n;rotate_left 1
 ·have:k=n:=by omega
  subst this;refine br @IQ ?_;exact⟨_,_,rfl,X,ts,rfl,kT.out⟩
 have hkI:(k:Int)<(n:Int):=by omega
 refine br @IQ ?_;refine bH.gen λe0 aF bB cU cN=>?_;have f0:e0.get 0=.list kx0 sx (xs.map λa=>[a]):=by rw[aF];simp only[gW,reduceIte,aO,aM];exact g0
 have f1:e0.get 1=.v (.int .i64 (n:Nat)):=by rw[aF];simp only[gW,reduceIte,aO,aM];exact g1
 have f5:e0.get 5=X:=by rw[aF];simp only[gW,reduceIte,aO,aM];exact g5
 have f6:e0.get 6=.v (.int .i64 (k:Nat)):=by rw[aF];simp only[gW,reduceIte,aO,aM];exact g6
 have f7:e0.get 7=.list .tight 1 (ints []):=by rw[aF];exact gR
 have f8:e0.get 8=.v (.int .i64 (0:Nat)):=by rw[aF];exact gR
 have fd:e0.defers=[]:=by rw[bB];simp only[gW,reduceIte,aO,aM];exact hd
 clear aF bB cU cN g0 g1 g5 g6 hd b0 b1;refine cz (λm e H=>∃(i:Nat) (t:Tok),i<=ae.length/\m=ae.length - i/\al (wZ h H X ts (rG ae k) t)/\e.get 0=.list kx0 sx (xs.map λa=>[a])/\e.get 1=.v (.int .i64 (n:Nat))/\e.get 5=X/\e.get 6=.v (.int .i64 (k:Nat))/\e.get 7=.list t 1 (ints ((ae.take i).map λr=>ai r k))/\e.get 8=.v (.int .i64 (i:Nat))/\e.defers=[]) ?_ ae.length _ _ ?_;rotate_left 1
 ·exact⟨0,.tight,cA _,rfl,kT,f0,f1,f5,f6,f7,f8,fd⟩
 clear f0 f1 f5 f6 f7 f8 fd kT;rintro m e2 H2 ⟨i,t,hi,rfl,kT,g0,g1,g5,g6,g7,g8,hd⟩;by_cases iD:i<ae.length
 ·obtain⟨a,ha⟩:∃a,xs[i]?=aa a:=⟨_,aR ag⟩;obtain⟨r,hr⟩:∃r,ae[i]?=aa r:=⟨_,aR iD⟩;have u6:sx=1:=kx.out.1 (by intro q;rw[q] at iD;simp at iD);subst u6;obtain⟨ka,sa,rfl,jt⟩:=kx.out.2.1 i a r ha hr;have cP:=kx.out.2.2 r (dj hr);have Qq:sa=1:=jt (by intro q;rw[q] at cP;simp at cP;omega);subst Qq;have l1:=lV (H:=H2) (s:=1) ha;have l2:=eE (H:=H2) (l:=r) (i:=k) (s:=1) ag;have xK:(ints r).length=n:=by rw[dD];exact cP
  have bl:=pI (ai r k);have ap:=tQ (x:=ai r k) (es:=(ae.take i).map λr=>ai r k) (sz:=1) (show((ae.take i).map λr=>ai r k).length<1099511627776 by rw[bu,eS];omega) (.inl rfl) (kT.out.can t fW);have jc:((ae.take i).map λr=>ai r k)++[ai r k]=(ae.take (i+1)).map λr=>ai r k:=by rw[ft hr,mw];rfl
  rw[jc] at ap;have kT2:=al.mk kT.out.app;have KK:(i:Int)<(ae.length:Int):=by omega
  clear ha hr jt cP jc kT;refine bK @IQ @bh ?_;exact⟨ae.length - (i+1),by omega,i+1,_,by omega,rfl,kT2,by simp⟩
 ·have fF:i=ae.length:=by omega
  subst fF;rw[fC] at g7;obtain⟨X2,H3,c1,c2⟩:=kT.out.close (ae.map λr=>ai r k) (by rw[Vy];omega);rw[<-ahk] at c2;have kT2:=al.mk c2;have bl:=J2 (.list t 1 (ints (ae.map λr=>ai r k))) rfl;clear c2 kT;refine br @IQ ?_;exact⟨n - (k+1),by omega,k+1,X2,_,by omega,rfl,kT2,by simp⟩
def zF:Tryz.f174.results.toList=[.tmp 4,.tmp 5]:=by kernel_rfl
def tP(H:aq)(b:Nat)(t:List (List Int)):Prop:=∃cs:List AV,H.boxes[b]?=aa cs/\cs.length=t.length/\∀(i:Nat) a r,cs[i]?=aa a->t[i]?=aa r->IL a r
def tP.mono{H H'}{b}{t}(T:tP H b t)(m:∀cs,H.boxes[b]?=aa cs->H'.boxes[b]?=aa cs):tP H' b t:=by obtain⟨cs,h1,h2⟩:=T;exact⟨cs,m cs h1,h2⟩
def Fa{b len aD n}{k}(hn:n<len):dH ao 22 (.arr b 0 len aD) (.v (.int k (n:Nat)))=aa (.ptr (.box b) n):=by rw[E6 ji il ag ag,dV,Nat.mul_one,qb]
def abM{H}{b k s n:Nat}{t}{cs}{es}(hb:H.boxes[b]?=aa cs)(hk:k<cs.length):b7 ao H 23 (.ptr (.box b) k) (.list t s es)=aa (H.put b (cs.set k (.list t s es))):=by rw[fA (xs:=[AV.list t s es]) rfl il hb rfl hk];congr 2;unfold eX;rw[List.set_eq_take_append_cons_drop,aG hk];simp
def tP.load{H}{b i}{t}{r}(T:tP H b t)(hr:t[i]?=aa r):∃k s,aH ao Gt H 23 (.ptr (.box b) i)=aa (.list k s (ints r))/\(r≠[]->s=1):=by obtain⟨cs,h1,h2,h3⟩:=T;obtain⟨a,ha⟩:∃a,cs[i]?=aa a:=⟨_,aR (by rw[h2];exact(aS.1 hr).1)⟩;obtain⟨k,s,rfl,hs⟩:=h3 i a r ha hr;exact⟨k,s,uw h1 ha,hs⟩
def tP.store{H}{b i}{t}{r}{k}{s}(T:tP H b t)(hi:i<t.length)(hs:r≠[]->s=1):∃H',b7 ao H 23 (.ptr (.box b) i) (.list k s (ints r))=aa H'/\tP H' b (t.set i r)/\∃cs,H'=H.put b cs:=by
 obtain⟨cs,h1,h2,h3⟩:=T;refine⟨_,abM (n:=0) h1 ag,⟨_,eu (aS.1 h1).1,by rw[mr,mr,h2],λj a q ha hq=>?_⟩,_,rfl⟩;rw[mL] at ha hq;by_cases e:i=j
 ·subst e;rw[aG rfl,aG ag] at ha;rw[aG rfl,aG hi] at hq;injection ha with ha;injection hq with hq;subst ha;subst hq;exact⟨k,s,rfl,hs⟩
 ·rw[aI e] at ha hq;exact h3 j a q ha hq
def vj(c:Nat)(own:List Int)(j:Nat)(t:List (List Int)):List (List Int):=t.mapIdx λi a=>if i<j then je (ai a c) a own else a
def QX(c)(own)(j)(t):(vj c own j t).length=t.length:=by unfold vj;simp
def Fh(c)(own)(j)(t)(i):(vj c own j t)[i]?=t[i]?.map λa=>if i<j then je (ai a c) a own else a:=by unfold vj;rw[List.getElem?_mapIdx]
def al9(c)(own)(t):vj c own 0 t=t:=by apply rB;intro i;rw[Fh];cases t[i]?<;>simp
def al6(c)(own)(t):vj c own t.length t=t.map λa=>je (ai a c) a own:=by
 apply rB;intro i;rw[Fh,ej];cases h:t[i]? with|none=>rfl|some a=>rw[ff,ff,aG (aS.1 h).1]
def al7{c}{own}{j}{t}:(vj c own j t)[j]?=t[j]?:=by rw[Fh];cases t[j]?<;>simp
def al8{c}{own a}{j}{t}(hj:t[j]?=aa a):(vj c own j t).set j (je (ai a c) a own)=vj c own (j+1) t:=by
 apply rB;intro i;have hl:=(aS.1 hj).1;rw[mL,QX];by_cases e:j=i
 ·subst e;rw[aG rfl,aG hl,Fh,hj,ff,aG (Nat.lt_succ_self _)]
 ·rw[aI e,Fh,Fh];congr 1;funext a;by_cases h:i<j
  ·rw[aG h,aG ag]
  ·rw[aI h,aI ag]
def lW(t:List (List Int))(c:Nat):List (List Int) × List Nat:=(bM c).foldl oc (t,[])
def aas(t)(c):lW t (c+1)=oc (lW t c) c:=by unfold lW;rw[om,oj];rfl
def RN{t}{w}(hl:∀a∈t,a.length=w)(ho:∀a∈t,∀x∈a,okF x):∀c,c<=w->wV w c (lW t c)/\(lW t c).1.length=t.length/\(lW t c).2.length<=t.length:=by
 intro c
 induction c with
 |zero=>intro _;exact⟨⟨hl,ho,λ_ _ _ _ j hj=>by omega⟩,rfl,cA _⟩|succ c ih=>
  intro hc;obtain⟨h1,h2,h3⟩:=ih ag;rw[aas];refine⟨Mz h1 ag,?_,?_⟩
  ·unfold oc;split
   ·exact h2
   ·simp[h2]
  ·unfold oc;split
   ·exact h3
   ·rename_i k hk;obtain⟨k1,k2,-⟩:=Cb hk;simp;omega
def atZ{t}{pv}{c k}{b o}(hf:oS t pv.length c=aa k)(hb:t[k]?=aa b)(ho:t[pv.length]?=aa o):
 oc (t,pv) c=((vj c (scaleB b (eK (ai b c))) t.length (t.set k o)).set pv.length (scaleB b (eK (ai b c))),pv++[c]):=by
 have gb:t.getD k []=b:=by rw[ez,hb];rfl
 have go:t.getD pv.length []=o:=by rw[ez,ho];rfl
 unfold oc;simp only[hf,gb,go];rw[show t.length=(t.set k o).length by rw[mr],al6]
def abE{t}{pv}{c}(hf:oS t pv.length c=au):oc (t,pv) c=(t,pv):=by unfold oc;simp only[hf]
structure uL(h H:aq)(b:Nat)(t:List (List Int))(k:Tok):Prop where
 tb:tP H b t
 can:dm h.tn H k
 ok:cG H=ah
 ext:Ext h H
 low:h.boxes.length<=b
def uL.put{h H}{b}{t t'}{k}(R:uL h H b t k)(cs)(T:tP (H.put b cs) b t'):uL h (H.put b cs) b t' k:=
 ⟨T,R.can,R.ok,R.ext.fK R.low cs,R.low⟩
def uL.app{h H}{b}{t}{k}(R:uL h H b t k):uL h (H.app k) b t (.free H.tn):=
 ⟨R.tb.mono λcs q=>by rw[ec];exact q,Ok R.can R.ok R.ext.tn,D8 R.ok R.can,(Grown.one R.can R.ok R.ext.tn).ext R.ext (aJ _),R.low⟩
def aiS(x):0<=eK x/\eK x<=9223372036854775807:=zy (OA _)
def amc(x y)(a own)(n)(hx:IL x a)(hy:IL y own)(hl:own.length=a.length)(hw:a.length<=1000000):∀h,W5.call 196 [x,y,im n] h=aa (.ret (.list .held 1 (ints (je n a own))),h):=by obtain⟨h1,h2⟩:=hx.hold;obtain⟨h3,h4⟩:=hy.hold;exact gT (L:=L5) (b9:=[aC x,aC y,im n]) rfl rfl (by simp[aP,h2,h4,aK,im]) (amb (aC x) (aC y) a own n h1 h3 hl hw _) rfl (by simp[aK,nq,sD])
def auZ(x)(a)(n)(hx:IL x a)(hw:a.length<=1000000)(hn:0<=n/\n<=9223372036854775807):∀h,W5.call 195 [x,im n] h=aa (.ret (.list .held 1 (ints (scaleB a n))),h):=by obtain⟨h1,h2⟩:=hx.hold;exact gT (L:=L5) (b9:=[aC x,im n]) rfl rfl (by simp[aP,h2,aK,im]) (auY (aC x) a n h1 hw hn _) rfl (by simp[aK,nq,sD])
def apt(x y)(ae)(target)(hx:RL x ae)(hy:IL y target)(hr:ae.length<=64)(hw:∀r∈ae,r.length=target.length)(oC:target.length<=64)(bq:∀r∈ae,∀x∈r,okF x)(oZ:∀x∈target,okF x):
 ∀h,W5.call 172 [x,y] h=aa (.ret (.v (.int .i64 0)),h):=by
 obtain⟨h1,h2⟩:=hx.fZ;obtain⟨h3,h4⟩:=hy.hold;exact gT (L:=L5) (b9:=[aC x,aC y]) rfl rfl (by simp[aP,h2,h4]) (aps (aC x) (aC y) ae target h1 h3 hr hw oC bq oZ _) rfl rfl
def api(h:aq)(bq:cG h=ah)(b:Nat)(ae:List (List Int))(w many:Nat)(hT:tP h b ae)(h0:0<ae.length)(hl:∀a∈ae,a.length=w)(ho:∀a∈ae,∀x∈a,okF x)(hm:many<=w)(hr:ae.length<=1000)(hw:w<=1000):
 ∃r h',W5.call 174 [.arr b 0 ae.length ae.length,im (many:Nat)] h=aa (r,h')/\∃b2 Z,r=.ret (.tuple [.arr b2 0 ae.length ae.length,Z])/\tP h' b2 (lW ae many).1/\(lW ae many).1.length=ae.length/\IL Z (cD (lW ae many).2)/\Ext h h':=by
 have u23:=dQ;have u22:=ji;have z23:=il;have z3:=fP;have bn2:gf ao 22 0 []=aa (.list .tight 1 []):=by kernel_rfl
 have bn3:gf ao 23 0 []=aa (.list .tight 1 []):=by kernel_rfl
 obtain⟨H1,ap,R0⟩:∃H1,sC ao h #[22,22] (.list .tight 1 []) (.arr b 0 ae.length ae.length)=aa (.arr h.boxes.length 0 ae.length ae.length,H1)/\uL h H1 h.boxes.length ae .tight:=by
  obtain⟨cs,t1,t2,t3⟩:=hT;obtain⟨i,q1,q2,q3,q4⟩:=La;have uT:=qG (ag:ae.length<=1000000) q3;have hn:=(dT.box (sz:=1) (h:=h) (b:=b) (n:=ae.length) (ae:=cs.map λc=>[c]) (λr hr=>by obtain⟨c,-,rfl⟩:=jP.1 hr;rfl) (by rw[bu,t2]) (by rw[FP];exact t1)).news;have oY:(cs.map λc=>[c]).length=ae.length:=by rw[bu,t2]
  have bG:(cs.map λc=>[c])≠[]:=by intro q;rw[q] at oY;simp at oY;omega
  have:=MI (h:=h) (k:=.tight) (sz:=1) (es:=[]) (new:=cs.map λc=>[c]) (x:=.arr b 0 ae.length ae.length) ji ji q1 ag (by rw[q2];exact q4) bG (by rw[oY];simp;omega) (by rw[oY];simp;omega) (.inl q2.symm) (.inr rfl) (by rw[q2];exact hn);rw[oY,kQ,qb,List.nil_append,FP] at this;exact⟨_,this,⟨⟨cs,aZ _ _,t2,t3⟩,.inr (.inl rfl),bq,.push _ _,aJ _⟩⟩
 have kR0:=al.mk R0;have kl:=al.mk (aw hl ho);clear hT R0 hl ho;unfold im;refine db rfl Tryz.func174 rfl ?_;refine br @zF ?_;refine bH.gen λe0 aF bB cU cN=>?_;have f1:e0.get 1=.v (.int .i64 (many:Nat)):=by rw[aF];exact gS
 have f6:e0.get 6=.arr h.boxes.length 0 ae.length ae.length:=by rw[aF];exact gS
 have f7:e0.get 7=.list .tight 1 (ints (cD [])):=by rw[aF];exact gR
 have f8:e0.get 8=.v (.int .i64 (0:Nat)):=by rw[aF];exact gR
 have fd:e0.defers=[]:=by rw[bB];exact gS
 clear aF bB cU cN ap bn2 bn3;refine cz (λm e H=>∃(c:Nat) (tk:Tok),c<=many/\m=many - c/\al (uL h H h.boxes.length (lW ae c).1 tk)/\e.get 1=.v (.int .i64 (many:Nat))/\e.get 6=.arr h.boxes.length 0 ae.length ae.length/\e.get 7=.list tk 1 (ints (cD (lW ae c).2))/\e.get 8=.v (.int .i64 (c:Nat))/\e.defers=[]) ?_ many _ _ ?_;rotate_left 1
 ·exact⟨0,.tight,cA _,rfl,kR0,f1,f6,f7,f8,fd⟩
 clear kR0 f1 f6 f7 f8 fd;rintro m e H ⟨c,tk,hc,rfl,kR,g1,g6,g7,g8,hd⟩;by_cases vW:c<many;rotate_left 1
 ·have:c=many:=by omega
  subst this;refine br @zF ?_;exact⟨_,_,rfl,_,_,rfl,kR.out.tb,(RN kl.out.1 kl.out.2 c hm).2.1,⟨_,_,rfl,λ_=>rfl⟩,kR.out.ext⟩
 obtain⟨RO,tl,pl⟩:=RN kl.out.1 kl.out.2 c ag;have ksucc:al (lW ae (c+1)=oc ((lW ae c).1,(lW ae c).2) c):=⟨aas ae c⟩;have kRO:=al.mk RO;clear RO;generalize lW ae c=st at *
 obtain⟨t,pv⟩:=st;dsimp only at *
 have HU:(ints (cD pv)).length=pv.length:=by rw[dD];unfold cD;rw[bu]
 have hcI:(c:Int)<(many:Int):=by omega
 refine br @zF ?_;refine bH.gen λe0 aF bB cU cN=>?_;have f1:e0.get 1=.v (.int .i64 (many:Nat)):=by rw[aF];simp only[gW,reduceIte,aO,aM];exact g1
 have f6:e0.get 6=.arr h.boxes.length 0 ae.length ae.length:=by rw[aF];simp only[gW,reduceIte,aO,aM];exact g6
 have f7:e0.get 7=.list tk 1 (ints (cD pv)):=by rw[aF];simp only[gW,reduceIte,aO,aM];exact g7
 have f8:e0.get 8=.v (.int .i64 (c:Nat)):=by rw[aF];simp only[gW,reduceIte,aO,aM];exact g8
 have f9:e0.get 9=.v (.int .i64 (pv.length:Nat)):=by rw[aF];exact gS
 have f10:e0.get 10=.v (.int .i64 (pv.length:Nat)):=by rw[aF];exact gS
 have fd:e0.defers=[]:=by rw[bB];simp only[gW,reduceIte,aO,aM];exact hd
 clear aF bB cU cN g1 g6 g7 g8 hd;refine cz (λm e H2=>∃j:Nat,j<=ae.length/\pv.length<=j/\m=ae.length - j/\al (∀k,pv.length<=k->k<j->ai (t.getD k []) c=0)/\e.get 1=.v (.int .i64 (many:Nat))/\e.get 6=.arr h.boxes.length 0 ae.length ae.length/\e.get 7=.list tk 1 (ints (cD pv))/\e.get 8=.v (.int .i64 (c:Nat))/\e.get 9=.v (.int .i64 (pv.length:Nat))/\e.get 10=.v (.int .i64 (j:Nat))/\e.defers=[]/\H2=H) ?_ (ae.length - pv.length) _ _ ?_;rotate_left 1
 ·exact⟨pv.length,pl,aJ _,rfl,⟨λk q1 q2=>absurd q2 ag⟩,f1,f6,f7,f8,f9,f10,fd,rfl⟩
 clear f1 f6 f7 f8 f9 f10 fd;rintro m e2 H2 ⟨j,hj,Qc,rfl,kz,g1,g6,g7,g8,g9,g10,hd,rfl⟩;by_cases hjn:j<ae.length;rotate_left 1
 ·have nS:j=ae.length:=by omega
  subst nS;have PY:oS t pv.length c=au:=by rw[Kp (j:=ae.length) Qc ag kz.out (λq=>absurd q ag),aG tl.symm]
  have kR2:al (uL h H2 h.boxes.length (lW ae (c+1)).1 tk):=⟨by rw[ksucc.out,abE PY];exact kR.out⟩;have k7:(lW ae (c+1)).2=pv:=by rw[ksucc.out,abE PY]
  have k7:=al.mk k7;clear PY;refine br @zF ?_;exact⟨many - (c+1),by omega,c+1,tk,by omega,rfl,kR2,by first|trivial|assumption,by first|trivial|assumption,by rw[k7.out],by simp⟩
 obtain⟨rb,EP⟩:∃r,t[j]?=aa r:=⟨_,aR ag⟩;have Xz:t.getD j []=rb:=by rw[ez,EP];rfl
 have HV:=kRO.out.len rb (dj EP);have Yn:=kRO.out.ok rb (dj EP);obtain⟨k1,s1,ld1,bD⟩:=kR.out.tb.load EP;have bD:s1=1:=bD (by intro q;rw[q] at HV;simp at HV;omega);subst bD;have ix1:=Fa (b:=h.boxes.length) (len:=ae.length) (aD:=ae.length) (k:=.i64) hjn;have EE:(ints rb).length=w:=by rw[dD];exact HV
 have l1:=eE (H:=H2) (l:=rb) (i:=c) (s:=1) ag;have PE:(j:Int)<(ae.length:Int):=by omega
 have hcw:(c:Int)<(w:Int):=by omega
 have kb:=al.mk (aw EP (aw Xz (aw HV Yn)));clear EP Xz HV Yn;by_cases hz:ai rb c=0
 ·have fj:decide (ai rb c=0)=ah:=by simp[hz]
  have kz2:al (∀k,pv.length<=k->k<j+1->ai (t.getD k []) c=0):=⟨λk q1 q2=>by
   rcases dW k j with q|q
   ·exact kz.out k q1 q
   ·have:k=j:=(by omega);subst this;rw[kb.out.2.1];exact hz⟩
  generalize ai rb c=z at *
  clear hz;refine bK @zF @bh ?_;exact⟨ae.length - (j+1),by omega,j+1,by omega,by omega,rfl,kz2,by simp⟩
 have fj:decide (ai rb c=0)=az:=by simp[hz]
 have Yp:oS t pv.length c=aa j:=by rw[Kp (j:=j) Qc ag kz.out (λ_=>by rw[kb.out.2.1];exact hz),aI ag]
 obtain⟨ro,lD⟩:∃r,t[pv.length]?=aa r:=⟨_,aR ag⟩;have Yo:=kRO.out.len ro (dj lD);obtain⟨k2,s2,ld2,ny⟩:=kR.out.tb.load lD;have ix2:=Fa (b:=h.boxes.length) (len:=ae.length) (aD:=ae.length) (k:=.i64) (ag:pv.length<ae.length);obtain⟨H3,st1,T3,cs3,rfl⟩:=kR.out.tb.store (i:=j) (k:=k2) ag ny;have kstep:=al.mk (atZ Yp kb.out.1 lD);have R3:=kR.out.put cs3 T3;have okz:=qI kb.out.2.2.2 c;have xG:fmod (ai rb c)=ai rb c:=Cf okz;have inv:=λh=>ap7 (ai rb c) h;rw[xG,aI hz,aI hz] at inv;have tms:=auZ (.list k1 1 (ints rb)) rb (eK (ai rb c)) ⟨_,_,rfl,λ_=>rfl⟩ (by rw[kb.out.2.2.1];omega) (aiS _);have tq:(scaleB rb (eK (ai rb c))).length=w:=by rw[abe];exact kb.out.2.2.1
 have l3:=eE (H:=H2.put h.boxes.length cs3) (l:=rb) (i:=c) (s:=1) (by rw[kb.out.2.2.1];omega);have eM:∀a∈t.set j ro,a.length=w:=by
  intro a ha;rcases List.mem_or_eq_of_mem_set ha with q|q
  ·exact kRO.out.len a q
  ·rw[q];exact Yo
 have kall:=al.mk eM;have awJ:(t.set j ro).length=ae.length:=by rw[mr];exact tl
 have P9:(pv.length:Int)<(ae.length:Int):=by omega
 rw[tl] at kstep;generalize eK (ai rb c)=fz at *
 generalize scaleB rb fz=own at *
 generalize t.set j ro=t1 at *
 clear Yo lD ny Yp okz xG eM kz T3 kRO kR;have kR3:=al.mk R3;clear R3;generalize ai rb c=z at *
 generalize H2.put h.boxes.length cs3=H3 at *
 clear hz;unfold im at inv tms;refine bK @zF @bh ?_;refine bH.gen λe0 aF bB cU cN=>?_;have f1:e0.get 1=.v (.int .i64 (many:Nat)):=by rw[aF];simp only[gW,reduceIte,aO,aM];exact g1
 have f6:e0.get 6=.arr h.boxes.length 0 ae.length ae.length:=by rw[aF];simp only[gW,reduceIte,aO,aM];exact g6
 have f7:e0.get 7=.list tk 1 (ints (cD pv)):=by rw[aF];simp only[gW,reduceIte,aO,aM];exact g7
 have f8:e0.get 8=.v (.int .i64 (c:Nat)):=by rw[aF];simp only[gW,reduceIte,aO,aM];exact g8
 have f9:e0.get 9=.v (.int .i64 (pv.length:Nat)):=by rw[aF];simp only[gW,reduceIte,aO,aM];exact g9
 have f11:e0.get 11=.list .held 1 (ints own):=by rw[aF];exact gS
 have f14:e0.get 14=.v (.int .i64 (0:Nat)):=by rw[aF];exact gR
 have fd:e0.defers=[]:=by rw[bB];simp only[gW,reduceIte,aO,aM];exact hd
 clear aF bB cU cN g1 g6 g7 g8 g9 g10 hd ld1 ld2 st1 inv tms l1 l3 fj ix1 EE;have kR4:al (uL h H3 h.boxes.length (vj c own 0 t1) tk):=⟨by rw[al9];exact kR3.out⟩;refine cz (λm e H=>∃i:Nat,i<=ae.length/\m=ae.length - i/\al (uL h H h.boxes.length (vj c own i t1) tk)/\e.get 1=.v (.int .i64 (many:Nat))/\e.get 6=.arr h.boxes.length 0 ae.length ae.length/\e.get 7=.list tk 1 (ints (cD pv))/\e.get 8=.v (.int .i64 (c:Nat))/\e.get 9=.v (.int .i64 (pv.length:Nat))/\e.get 11=.list .held 1 (ints own)/\e.get 14=.v (.int .i64 (i:Nat))/\e.defers=[]) ?_ ae.length _ _ ?_;rotate_left 1
 ·exact⟨0,cA _,rfl,kR4,f1,f6,f7,f8,f9,f11,f14,fd⟩
 clear f1 f6 f7 f8 f9 f11 f14 fd kR4 kR3;rintro m e3 H4 ⟨i,hi,rfl,kR,g1,g6,g7,g8,g9,g11,g14,hd⟩;by_cases iD:i<ae.length
 ·obtain⟨a,ha⟩:∃r,t1[i]?=aa r:=⟨_,aR ag⟩;have eG:=kall.out a (dj ha);obtain⟨k1,s1,ld1,bD⟩:=kR.out.tb.load (al7.trans ha);have bD:s1=1:=bD (by intro q;rw[q] at eG;simp at eG;omega);subst bD;have ix1:=Fa (b:=h.boxes.length) (len:=ae.length) (aD:=ae.length) (k:=.i64) iD;have EE:(ints a).length=w:=by rw[dD];exact eG
  have l1:=eE (H:=H4) (l:=a) (i:=c) (s:=1) ag;have ls:=amc (.list k1 1 (ints a)) (.list .held 1 (ints own)) a own (ai a c) ⟨_,_,rfl,λ_=>rfl⟩ ⟨_,_,rfl,λ_=>rfl⟩ ag ag;obtain⟨H5,st1,T5,cs5,rfl⟩:=kR.out.tb.store (i:=i) (r:=je (ai a c) a own) (k:=.held) (s:=1) (by rw[QX];omega) (λ_=>rfl);rw[al8 ha] at T5;have kR5:=al.mk (kR.out.put cs5 T5);have KK:(i:Int)<(ae.length:Int):=by omega
  clear T5 ha eG kR;generalize je (ai a c) a own=la at *
  generalize ai a c=z1 at *
  generalize H4.put h.boxes.length cs5=H5 at *
  unfold im at ls;refine bK @zF @bh ?_
  repeat' (first|simp(maxSteps:=999999)(disch:=first|exact dZ|fail)only[gW,reduceIte,aO,aM,zF,bh, *]|(refine dX ?_ ?_<;>(intro _;try omega))|refine ev mc jd ?_)
  exact⟨ae.length - (i+1),by omega,i+1,by omega,rfl,kR5,by simp⟩
 ·have fF:i=ae.length:=by omega
  subst fF;obtain⟨H5,st1,T5,cs5,rfl⟩:=kR.out.tb.store (i:=pv.length) (r:=own) (k:=.held) (s:=1) (by rw[QX];omega) (λ_=>rfl);have R6:=(kR.out.put cs5 T5).app;have bl:=pI (c:Int);have ap:=tQ (H:=H4.put h.boxes.length cs5) (x:=(c:Int)) (es:=cD pv) (sz:=1) (show(cD pv).length<1099511627776 by unfold cD;rw[bu];omega) (.inl rfl) ((kR.out.put cs5 T5).can);have ee:cD pv++[(c:Int)]=cD (pv++[c]):=by unfold cD;simp
  rw[ee] at ap;have kst:=al.mk (ksucc.out.trans kstep.out);have kR6:al (uL h ((H4.put h.boxes.length cs5).app tk) h.boxes.length (lW ae (c+1)).1 (.free (H4.put h.boxes.length cs5).tn)):=⟨by rw[kst.out];exact R6⟩;have k7:al ((lW ae (c+1)).2=pv++[c]):=⟨by rw[kst.out]⟩;clear T5 R6 ee kstep kR;generalize H4.put h.boxes.length cs5=H5 at *
  refine br @zF ?_;exact⟨many - (c+1),by omega,c+1,_,by omega,rfl,kR6,by first|trivial|assumption,by first|trivial|assumption,by rw[k7.out],by simp⟩
def xZ:Tryz.f133.results.toList=[.tmp 4,.tmp 5,.tmp 6]:=by kernel_rfl
structure GI(h H:aq)(b k:Nat)(t1 t2:List (List Int))(dc:List AV)(ts:List Tok):Prop where
 gX:H.boxes[b]?=aa (dc++qi ts (t2.drop k))
 dl:dc.length=k
 row:∀(i:Nat) a r,dc[i]?=aa a->t1[i]?=aa r->IL a r
 tl:ts.length=t2.length - k
 can:∀u∈ts,dm h.tn H u
 GZ:ts.Pairwise Bo
 ok:cG H=ah
 ext:Ext h H
 low:h.boxes.length<=b
def GI.step{h H}{b k}{t1 t2}{dc}{ts}(J:GI h H b k t1 t2 dc ts){r}{x}(hr:t2[k]?=aa r)(h1:t1[k]?=aa (r++[x])):
 ∃t ts2,ts=t::ts2/\aH ao Gt H 23 (.ptr (.box b) k)=aa (.list t 1 (ints r))/\dm h.tn H t/\∃H3,b7 ao (H.app t) 23 (.ptr (.box b) k) (.list (.free H.tn) 1 (ints (r++[x])))=aa H3/\GI h H3 b (k+1) t1 t2 (dc++[.list (.free H.tn) 1 (ints (r++[x]))]) ts2:=by
 have hk:=(aS.1 hr).1;have pQ:t2.drop k=r::t2.drop (k+1):=by rw[Bu hk,(aS.1 hr).2]
 obtain⟨t,ts2,rfl⟩:∃t ts2,ts=t::ts2:=by
  cases ts with|nil=>have:=J.tl;simp at this;omega|cons t ts2=>exact⟨t,ts2,rfl⟩
 have hd:=Gs.1 J.GZ;have hc:=J.can t fW;have hb:=J.gX;have ecs:qi (t::ts2) (t2.drop k)=.list t 1 (ints r)::qi ts2 (t2.drop (k+1)):=by rw[pQ];rfl
 rw[ecs] at hb;have jJ:=(aS.1 hb).1;have fT:(H.app t).boxes[b]?=aa (dc++ .list t 1 (ints r)::qi ts2 (t2.drop (k+1))):=by rw[ec];exact hb
 refine⟨t,ts2,rfl,uw hb (by rw[Ab (by rw[J.dl];exact aJ _),J.dl,uK];rfl),hc,_,abM (n:=0) fT (by rw[dw,iP,J.dl];omega),?_⟩;have zf:(dc++AV.list t 1 (ints r)::qi ts2 (t2.drop (k+1))).set k (.list (.free H.tn) 1 (ints (r++[x])))=(dc++[.list (.free H.tn) 1 (ints (r++[x]))])++qi ts2 (t2.drop (k+1)):=by rw[List.set_append_right _ _ (by rw[J.dl];exact aJ _),J.dl,uK,List.set_cons_zero,tL];rfl
 rw[zf];refine⟨eu (by rw[ec];exact jJ),by rw[dw,J.dl];rfl,λi a q ha hq=>?_,?_,λu hu=>?_,hd.2,?_,?_,J.low⟩
 ·rcases dW i dc.length with aA|eg
  ·rw[List.getElem?_append_left aA] at ha;exact J.row i a q ha hq
  ·have:=(aS.1 ha).1;rw[dw] at this;have hi:i=dc.length:=(by simp at this;omega);subst hi;rw[List.getElem?_concat_length] at ha;rw[J.dl,h1] at hq;injection ha with ha;injection hq with hq;subst ha;subst hq;exact⟨_,_,rfl,λ_=>rfl⟩
 ·have:=J.tl;rw[iP] at this;omega
 ·exact GW (J.can u (fE _ hu)) (hd.1 u hu)
 ·exact D8 J.ok hc
 ·exact((Grown.one hc J.ok J.ext.tn).ext J.ext (aJ _)).fK J.low _
def aoT(pv):(ints (cD pv)).length=pv.length:=by rw[dD];unfold cD;rw[bu]
def acE(ae:List (List Int))(target:List Int)(h:aq)(r:eY)(h':aq):Prop:=
 Ext h h'/\((qk ae target=au/\r=.ret (.tuple [.list .nil 0 [],.v (.bool az),im 0]))∨∃l b,qk ae target=aa l/\l.length=ae.length/\r=.ret (.tuple [.arr b 0 ae.length ae.length,.v (.bool ah),im 0])/\h'.boxes[b]?=aa (l.map im))
def ahp(h:aq)(bq:cG h=ah)(x y:AV)(ae:List (List Int))(target:List Int)(hx:RL x ae)(hy:IL y target)(hr:ae.length<=64)(hw:∀r∈ae,r.length=target.length)(oC:target.length<=64)(h0:0<target.length)(HS:∀r∈ae,∀x∈r,okF x)(oZ:∀x∈target,okF x):
 ∃r h',W5.call 133 [x,y] h=aa (r,h')/\acE ae target h r h':=by
 have c1:=apt x y ae target hx hy hr hw oC HS oZ;obtain⟨_,H1,c2,X,ts,rfl,T1⟩:=au3 h bq x ae target.length hx hw ag ag;obtain⟨t1,t2⟩:=S1 HS oZ;have tl:=S0 ae target;have cl:=Vy ae target.length;have e1:qk ae target=if ((lW (fV ae target) ae.length).1.drop (lW (fV ae target) ae.length).2.length).all (λa=>decide (ai a ae.length=0)) then aa (p7 (lW (fV ae target) ae.length) ae.length) else au:=rfl
 obtain⟨RO,rl,rp⟩:=RN t1 t2 ae.length ag;obtain⟨-,V⟩:=IC t1 t2 (ag:ae.length<=ae.length+1);have V:D2 ae.length (lW (fV ae target) ae.length):=V;rw[tl] at rl rp;obtain⟨b,hX,J0⟩:∃b,X=.arr b 0 target.length target.length/\GI h H1 b 0 (fV ae target) (rG ae target.length) [] ts:=by
  rcases T1.Jk with⟨q,-⟩|⟨-,b,q1,q2,q3⟩
  ·rw[q] at cl;simp at cl;omega
  ·rw[cl] at q1;exact⟨b,q1,⟨q2,rfl,λi a r q=>by simp at q,by rw[T1.len];rfl,λu hu=>T1.can u (fE _ hu),(Gs.1 T1.GZ).2,T1.ok,T1.ext,q3⟩⟩
 subst hX;obtain⟨k,s,xs,rfl,hs,dN,eH⟩:=hx;obtain⟨ky,sy,rfl,lT⟩:=hy;have bD:sy=1:=lT (by intro q;rw[q] at h0;simp at h0);subst bD;have cS:(xs.map λa=>[a]).length=ae.length:=by rw[bu];exact dN
 have y8:=dD target;have u23:=dQ;have u22:=ji;have z23:=il;have z3:=fP;have kJ0:=al.mk J0;have kk:=al.mk (aw t1 (aw t2 (aw RO (aw V e1))));have kcl:=al.mk cl;clear T1 J0 hs dN eH lT hw HS oZ t1 t2 RO V e1 cl;unfold im at c2;refine db rfl Tryz.func133 rfl ?_;refine br @xZ ?_;refine bH.gen λe0 aF bB cU cN=>?_;have f0:e0.get 0=.list k s (xs.map λa=>[a]):=by rw[aF];exact gS
 have f1:e0.get 1=.list ky 1 (ints target):=by rw[aF];exact gS
 have f8:e0.get 8=.arr b 0 target.length target.length:=by rw[aF];exact gS
 have f9:e0.get 9=.v (.int .i64 (0:Nat)):=by rw[aF];exact gR
 have fd:e0.defers=[]:=by rw[bB];exact gS
 clear aF bB cU cN c1 c2;refine cz (λm e H=>∃(j:Nat) (dc:List AV) (ts:List Tok),j<=target.length/\m=target.length - j/\al (GI h H b j (fV ae target) (rG ae target.length) dc ts)/\e.get 0=.list k s (xs.map λa=>[a])/\e.get 1=.list ky 1 (ints target)/\e.get 8=.arr b 0 target.length target.length/\e.get 9=.v (.int .i64 (j:Nat))/\e.defers=[]) ?_ target.length _ _ ?_;rotate_left 1
 ·exact⟨0,[],ts,cA _,rfl,kJ0,f0,f1,f8,f9,fd⟩
 clear f0 f1 f8 f9 fd kJ0 ts;rintro m e H ⟨j,dc,ts,hj,rfl,kJ,g0,g1,g8,g9,hd⟩;by_cases uV:j<target.length
 ·have Xl:(rG ae target.length)[j]?=aa (ae.map λr=>ai r j):=by unfold rG;rw[ej,yx uV];rfl
  have Yw:(fV ae target)[j]?=aa ((ae.map λr=>ai r j)++[ai target j]):=by unfold fV;rw[ej,yx uV];rfl
  obtain⟨t,ts2,rfl,ld,hc,H3,st,J3⟩:=kJ.out.step Xl Yw;have ap:=tQ (H:=H) (x:=ai target j) (es:=ae.map λr=>ai r j) (sz:=1) (by rw[bu];omega) (.inl rfl) hc;have bl:=pI (ai target j);have l1:=eE (H:=H) (l:=target) (i:=j) (s:=1) uV;have ix:=Fa (b:=b) (len:=target.length) (aD:=target.length) (k:=.i64) uV;have kJ3:=al.mk J3;have PE:(j:Int)<(target.length:Int):=by omega
  clear J3 Xl Yw hc kJ;refine bK @xZ @bh ?_
  repeat' (first|simp(maxSteps:=999999)(disch:=first|exact dZ|fail)only[gW,reduceIte,aO,aM,xZ,bh, *]|(refine dX ?_ ?_<;>(intro _;try omega))|refine ev mc jd ?_)
  exact⟨target.length - (j+1),by omega,j+1,_,ts2,by omega,rfl,kJ3,by simp⟩
 have nS:j=target.length:=by omega
 subst nS;have T2:tP H b (fV ae target):=⟨_,kJ.out.gX,by
  have h1:qi ts ((rG ae target.length).drop target.length)=[]:=by rw[qF (by rw[kcl.out];exact aJ _)];unfold qi;simp
  rw[h1,jr,kJ.out.dl,tl],λi a r ha hr=>by
  have h1:qi ts ((rG ae target.length).drop target.length)=[]:=by rw[qF (by rw[kcl.out];exact aJ _)];unfold qi;simp
  rw[h1,jr] at ha;exact kJ.out.row i a r ha hr⟩
 obtain⟨_,H3,c3,b2,Z,rfl,T3,-,hZ,X3⟩:=api H kJ.out.ok b (fV ae target) (ae.length+1) ae.length T2 ag kk.out.1 kk.out.2.1 ag ag ag;rw[tl] at c3;obtain⟨kz,sz,rfl,dL⟩:=hZ;have HU:=aoT (lW (fV ae target) ae.length).2;have kV:al (D2 ae.length (lW (fV ae target) ae.length)):=⟨kk.out.2.2.2.1⟩;have kRl:=al.mk kk.out.2.2.1.len;have ke:=al.mk kk.out.2.2.2.2;generalize bT:lW (fV ae target) ae.length=st at *
 obtain⟨t',pv⟩:=st;dsimp only at *
 have kT3:=al.mk T3;have ksz:=al.mk dL;have kX3:=al.mk (kJ.out.ext.trans X3);clear T2 T3 dL X3 kk kJ bT kcl tl;unfold im at c3;refine br @xZ ?_;refine bH.gen λe0 aF bB cU cN=>?_;have f0:e0.get 0=.list k s (xs.map λa=>[a]):=by rw[aF];simp only[gW,reduceIte,aO,aM];exact g0
 have f8:e0.get 8=.arr b2 0 target.length target.length:=by rw[aF];exact gS
 have f10:e0.get 10=.list kz sz (ints (cD pv)):=by rw[aF];exact gS
 have f11:e0.get 11=.v (.int .i64 (pv.length:Nat)):=by rw[aF];exact gS
 have fd:e0.defers=[]:=by rw[bB];simp only[gW,reduceIte,aO,aM];exact hd
 clear aF bB cU cN c3 g0 g1 g8 g9 hd;refine cz (λm e H=>∃j:Nat,j<=target.length/\pv.length<=j/\m=target.length - j/\al (∀i,pv.length<=i->i<j->∀a,t'[i]?=aa a->ai a ae.length=0)/\e.get 0=.list k s (xs.map λa=>[a])/\e.get 8=.arr b2 0 target.length target.length/\e.get 10=.list kz sz (ints (cD pv))/\e.get 11=.v (.int .i64 (j:Nat))/\e.defers=[]/\H=H3) ?_ (target.length - pv.length) _ _ ?_;rotate_left 1
 ·exact⟨pv.length,rp,aJ _,rfl,⟨λi q1 q2=>absurd q2 ag⟩,f0,f8,f10,f11,fd,rfl⟩
 clear f0 f8 f10 f11 fd;rintro m e H3 ⟨j,hj,Qc,rfl,kz0,g0,g8,g10,g11,hd,rfl⟩;by_cases uV:j<target.length
 ·obtain⟨a,ha⟩:∃a,t'[j]?=aa a:=⟨_,aR ag⟩;have eG:=kRl.out a (dj ha);obtain⟨k1,s1,ld1,bD⟩:=kT3.out.load ha;have bD:s1=1:=bD (by intro q;rw[q] at eG;simp at eG);subst bD;have XD:(ints a).length=ae.length+1:=by rw[dD];exact eG
  have l1:=eE (H:=H3) (l:=a) (i:=ae.length) (s:=1) ag;have ix:=Fa (b:=b2) (len:=target.length) (aD:=target.length) (k:=.i64) uV;have PE:(j:Int)<(target.length:Int):=by omega
  have hnI:(ae.length:Int)<((ae.length+1:Nat):Int):=by omega
  by_cases hz:ai a ae.length=0
  ·have kz2:al (∀i,pv.length<=i->i<j+1->∀a,t'[i]?=aa a->ai a ae.length=0):=⟨λi hi pR a' nu=>by
    rcases dW i j with q|q
    ·exact kz0.out i hi q a' nu
    ·rw[(ag:i=j),ha] at nu;injection nu with nu;rw[<-nu];exact hz⟩
   have fj:decide (ai a ae.length=0)=ah:=(by simp[hz]);generalize ai a ae.length=z at *
   clear ha eG hz kz0;refine bK @xZ @bh ?_;exact⟨target.length - (j+1),by omega,j+1,by omega,by omega,rfl,kz2,by simp⟩
  ·have e2:qk ae target=au:=(by rw[ke.out,aI];intro q;rw[ey] at q;have:=q a (dj (i:=j - pv.length) (by rw[pD,(ag:pv.length+(j - pv.length)=j)];exact ha));exact hz (of_decide_eq_true this));have ke2:=al.mk e2;have fj:decide (ai a ae.length=0)=az:=(by simp[hz]);generalize ai a ae.length=z at *
   clear ha eG hz kz0 e2;refine bK @xZ @bh ?_;exact⟨_,_,rfl,kX3.out,.inl ⟨ke2.out,rfl⟩⟩
 have nS:j=target.length:=by omega
 subst nS;have e2:qk ae target=aa (p7 (t',pv) ae.length):=by rw[ke.out,aG];rw[ey];intro a ha;obtain⟨i,hi⟩:=uJ ha;rw[pD] at hi;have cS:=(aS.1 hi).1;exact bQ (kz0.out (pv.length+i) ag ag a hi)
 rw[<-aap] at e2;have ke2:=al.mk e2;have mk:=Bc H3 ae.length ag .i64 .i64;have oz:a9 ae.length (im 0)=(ml t' pv ae.length 0).map im:=by unfold ml;rw[fR,Gj,yy]
 rw[oz] at mk;clear e2 oz kz0 ke;unfold im at mk;refine br @xZ ?_;refine bH.gen λe0 aF bB cU cN=>?_;have f0:e0.get 0=.list k s (xs.map λa=>[a]):=by rw[aF];simp only[gW,reduceIte,aO,aM];exact g0
 have f8:e0.get 8=.arr b2 0 target.length target.length:=by rw[aF];simp only[gW,reduceIte,aO,aM];exact g8
 have f10:e0.get 10=.list kz sz (ints (cD pv)):=by rw[aF];simp only[gW,reduceIte,aO,aM];exact g10
 have f12:e0.get 12=.arr H3.boxes.length 0 ae.length ae.length:=by rw[aF];exact gS
 have f13:e0.get 13=.v (.int .i64 (0:Nat)):=by rw[aF];exact gR
 have fd:e0.defers=[]:=by rw[bB];simp only[gW,reduceIte,aO,aM];exact hd
 clear aF bB cU cN g0 g8 g10 g11 hd mk;refine cz (λm e H=>∃j:Nat,j<=pv.length/\m=pv.length - j/\e.get 0=.list k s (xs.map λa=>[a])/\e.get 8=.arr b2 0 target.length target.length/\e.get 10=.list kz sz (ints (cD pv))/\e.get 12=.arr H3.boxes.length 0 ae.length ae.length/\e.get 13=.v (.int .i64 (j:Nat))/\e.defers=[]/\H=H3.push ((ml t' pv ae.length j).map im)) ?_ pv.length _ _ ?_;rotate_left 1
 ·exact⟨0,cA _,rfl,f0,f8,f10,f12,f13,fd,rfl⟩
 clear f0 f8 f10 f12 f13 fd;rintro m e H ⟨j,hj,rfl,g0,g8,g10,g12,g13,hd,rfl⟩;by_cases aA:j<pv.length
 ·obtain⟨p,eL⟩:∃p,pv[j]?=aa p:=⟨_,aR aA⟩;have y9:=kV.out.lt j p eL;have bD:sz=1:=ksz.out (by intro q;unfold cD at q;rw[Gp] at q;rw[q] at aA;exact Nat.not_lt_zero _ aA);subst bD;obtain⟨a,ha⟩:∃a,t'[j]?=aa a:=⟨_,aR ag⟩;have eG:=kRl.out a (dj ha);obtain⟨k1,s1,ld1,bD⟩:=(kT3.out.mono (H':=H3.push ((ml t' pv ae.length j).map im)) λ_ q=>aY q).load ha;have bD:s1=1:=bD (by intro q;rw[q] at eG;simp at eG);subst bD;have XD:(ints a).length=ae.length+1:=by rw[dD];exact eG
  have l0:=eE (H:=H3.push ((ml t' pv ae.length j).map im)) (l:=cD pv) (i:=j) (s:=1) (by unfold cD;rw[bu];exact aA);rw[aan eL] at l0;have l1:=eE (H:=H3.push ((ml t' pv ae.length j).map im)) (l:=a) (i:=ae.length) (s:=1) ag;have ix1:=Fa (b:=b2) (len:=target.length) (aD:=target.length) (k:=.i64) (ag:j<target.length);have ix3:=qX (b:=H3.boxes.length) (len:=ae.length) (aD:=ae.length) (k:=.i64) y9;have sk:=zJ (H:=H3.push ((ml t' pv ae.length j).map im)) (b:=H3.boxes.length) (r:=ml t' pv ae.length j) (k:=p) (x:=ai a ae.length) (aZ _ _) (by rw[LH];exact y9);have gD:t'.getD j []=a:=by rw[ez,ha];rfl
  rw[pc,<-gD,aaq eL,gD] at sk;have fx:(j:Int)<(pv.length:Int):=by omega
  have hnI:(ae.length:Int)<((ae.length+1:Nat):Int):=by omega
  unfold im at *
  clear ha eG gD eL y9 ke2;refine bK @xZ @bh ?_
  repeat' (first|simp(maxSteps:=999999)(disch:=first|exact dZ|fail)only[gW,reduceIte,aO,aM,xZ,bh, *]|(refine dX ?_ ?_<;>(intro _;try omega))|refine ev mc jd ?_)
  exact⟨pv.length - (j+1),by omega,j+1,by omega,rfl,by simp⟩
 ·have nS:j=pv.length:=by omega
  subst nS;refine br @xZ ?_;exact⟨_,_,rfl,kX3.out.trans (.push _ _),.inr ⟨_,_,ke2.out,LH _ _ _ _,rfl,aZ _ _⟩⟩
def LV:Tryz.f134.results.toList=[.tmp 4]:=by kernel_rfl
def wI:Tryz.f63.results.toList=[.tmp 4,.tmp 5,.tmp 6]:=by kernel_rfl
def IL.same{x}{l}(h:IL x l):fc x x=ah:=by obtain⟨k,s,rfl,-⟩:=h;exact I9 k s l
def aba:∀xs:List AV,(∀a∈xs,fc a a=ah)->rm (xs.map λa=>[a]) (xs.map λa=>[a])=ah
 | [],_=>rfl
 |x::xs,h=>by rw[eC,rm,aba xs λa ha=>h a (fE _ ha),pg,h x fW];rfl
def RL.same{x}{ae}(h:RL x ae):fc x x=ah:=by
 obtain⟨k,s,xs,rfl,-,hl,hr⟩:=h;have e:yd k k=ah:=by cases k<;>simp[yd]
 rw[fc,e,aba xs λa ha=>?_]
 ·simp
 ·obtain⟨i,hi⟩:=uJ ha;have cS:=(aS.1 hi).1;exact(hr i a _ hi (aR ag)).same
def anv(h:aq)(bq:cG h=ah)(x y z:AV)(ae:List (List Int))(owners ar:List Int)(hx:RL x ae)(hy:IL y owners)(hz:IL z ar)(ho:ae.length=owners.length)(hr:ae.length<=1000)(ju:ar.length<=1099511627776):
 ∃r h',W5.call 134 [.agg [x,y],z] h=aa (r,h')/\∃X,r=.ret X/\RL X ((eI owners ar).map λi=>ae.getD i [])/\Ext h h'/\cG h'=ah:=by
 have bx:=wy hx hy;have hs:=λn=>WY z ar n hz ju;obtain⟨k0,s0,xs,rfl,u6,dN,eH⟩:=hx;obtain⟨ky,sy,rfl,lT⟩:=hy;have kx:=al.mk (aw u6 (aw eH lT));have kho:=al.mk ho;clear u6 eH lT hz ho;have u23:=dQ;have u22:=ji;have z23:=il;have z3:=fP;have K7:(xs.map λa=>[a]).length=ae.length:=by rw[bu];exact dN
 have cS:=dD owners;have kX0:=al.mk (aw (Ext.push h [.list k0 s0 (xs.map λa=>[a]),.list ky sy (ints owners)]) (aZ h [.list k0 s0 (xs.map λa=>[a]),.list ky sy (ints owners)]));have kok0:al (cG (h.push [.list k0 s0 (xs.map λa=>[a]),.list ky sy (ints owners)])=ah):=⟨bq⟩;refine db rfl Tryz.func134 rfl ?_;refine bK @LV @bg ?_;refine bH.gen λe0 aF bB cU cN=>?_;have f1:e0.get 1=z:=by rw[aF];exact gS
 have f2:e0.get 2=.ptr (.box h.boxes.length) 0:=by rw[aF];exact gS
 have f5:e0.get 5=.list .nil 0 ((iU xs owners ar 0).map λa=>[a]):=by rw[aF];exact gR
 have f6:e0.get 6=.v (.int .i64 (0:Nat)):=by rw[aF];exact gR
 have fd:e0.defers=[]:=by rw[bB];exact gS
 clear aF bB cU cN bx;refine cz (λm e H=>∃(i:Nat) (tk:Tok) (sz:Nat),i<=ae.length/\m=ae.length - i/\al (sz=1∨((iU xs owners ar i)=[]/\tk=.nil))/\al (Ext h H/\H.boxes[h.boxes.length]?=aa [.list k0 s0 (xs.map λa=>[a]),.list ky sy (ints owners)])/\al (cG H=ah)/\al (dm h.tn H tk)/\e.get 1=z/\e.get 2=.ptr (.box h.boxes.length) 0/\e.get 5=.list tk sz ((iU xs owners ar i).map λa=>[a])/\e.get 6=.v (.int .i64 (i:Nat))/\e.defers=[]) ?_ ae.length _ _ ?_;rotate_left 1
 ·exact⟨0,.nil,0,cA _,rfl,⟨.inr ⟨rfl,rfl⟩⟩,kX0,kok0,⟨.inl rfl⟩,f1,f2,f5,f6,fd⟩
 clear f1 f2 f5 f6 fd kX0 kok0;rintro m e H ⟨i,tk,sz,hi,rfl,ksz,kX,kok,kcan,g1,g2,g5,g6,hd⟩;have l0:=rZ kX.out.2;have l1:=Ff kX.out.2;by_cases iD:i<ae.length;rotate_left 1
 ·have fF:i=ae.length:=by omega
  subst fF;refine cQ @LV @dE @eQ ?_;have hN:fk owners ar ae.length=eI owners ar:=by unfold fk eI;rw[kho.out]
  refine⟨_,_,rfl,_,rfl,⟨_,_,_,rfl,λbG=>?_,?_,λi a r ha hr=>?_⟩,kX.out.1,kok.out⟩
  ·rcases ksz.out with q|⟨q,-⟩
   ·exact q
   ·exfalso;apply bG;rw[<-hN];unfold iU at q;unfold fk;rw[Gp] at q;rw[q];rfl
  ·rw[bu,<-hN];unfold iU fk;rw[bu]
  ·obtain⟨j,j1,j2,rfl⟩:=Ru ha;rw[hN] at j1;rw[ej,j1] at hr;injection hr with hr;subst hr;refine kx.out.2.1 j _ _ ?_ ?_
   ·rw[ez,aR ag];rfl
   ·show ae[j]?=aa (ae.getD j []);rw[ez,aR j2];rfl
 have vZ:s0=1:=kx.out.1 (by intro q;rw[q] at iD;simp at iD);subst vZ;have bD:sy=1:=kx.out.2.2 (by intro q;have ho:=kho.out;rw[q,kQ] at ho;omega);subst bD;obtain⟨a,ha⟩:∃a,xs[i]?=aa a:=⟨_,aR ag⟩;have ld:=lV (H:=H) (s:=1) ha;have lo:=eE (H:=H) (l:=owners) (i:=i) (s:=1) (by have:=kho.out;omega);have KK:(i:Int)<(ae.length:Int):=by omega
 have akw:(i:Int)<(owners.length:Int):=by have:=kho.out;omega
 have c:=hs (ai owners i);cases hc:ar.contains (ai owners i) with
 |true=>
  rw[hc] at c;have pl:=Z4 (xs:=xs) (owners:=owners) (ar:=ar) (k:=i);have ap:=Uy (H:=H) (x:=a) (es:=iU xs owners ar i) ag ksz.out kcan.out;rw[<-Z6 hc ha] at ap;obtain⟨k',s',xs',rfl⟩:∃k' s' xs',a=.list k' s' xs':=by obtain⟨r,hr⟩:∃r,ae[i]?=aa r:=⟨_,aR iD⟩;obtain⟨k',s',rfl,-⟩:=kx.out.2.1 i a r ha hr;exact⟨_,_,_,rfl⟩
  have bl:=J2 (.list k' s' xs') rfl;have hG:=Grown.one kcan.out kok.out kX.out.1.tn;have kX2:al (Ext h (H.app tk)/\(H.app tk).boxes[h.boxes.length]?=aa [.list k0 1 (xs.map λa=>[a]),.list ky 1 (ints owners)]):=⟨hG.ext kX.out.1 (aJ _),by rw[ec];exact kX.out.2⟩;have kok2:al (cG (H.app tk)=ah):=⟨D8 kok.out kcan.out⟩;have kcan2:al (dm h.tn (H.app tk) (.free H.tn)):=⟨hG.can⟩;have ksz2:al (1=1∨((iU xs owners ar (i+1))=[]/\Tok.free H.tn=.nil)):=⟨.inl rfl⟩;clear hG ha hc ksz kX kok kcan hs;unfold im at c;refine bA @LV @dE @eQ @bh ?_;exact⟨ae.length - (i+1),by omega,i+1,_,1,by omega,rfl,(by first|assumption|trivial),(by first|assumption|trivial),(by first|assumption|trivial),(by first|assumption|trivial),by simp⟩
 |false=>rw[hc] at c;have eN:=Z5 (xs:=xs) hc;have ksz2:al (sz=1∨((iU xs owners ar (i+1))=[]/\tk=.nil)):=⟨by rw[eN];exact ksz.out⟩;rw[<-eN] at g5;clear ha hc ksz hs eN;unfold im at c;refine bA @LV @dE @eQ @bh ?_;exact⟨ae.length - (i+1),by omega,i+1,tk,sz,by omega,rfl,(by first|assumption|trivial),(by first|assumption|trivial),(by first|assumption|trivial),(by first|assumption|trivial),by simp⟩
def SF{owners ar}{i}(hi:i<owners.length)(hc:ar.contains (ai owners i)=ah):(eI owners ar)[(fk owners ar i).length]?=aa i:=by
 have e:eI owners ar=fk owners ar i++((bM (owners.length - i)).map (i+·)).filter λj=>ar.contains (ai owners j):=by unfold eI fk;rw[<-DV,<-List.range_add];congr 2;omega
 rw[e,Ab (aJ _),uK,(ag:owners.length - i=(owners.length - i - 1)+1),List.range_succ_eq_map,eC,Nat.add_zero,List.filter_cons,aG hc];rfl
def aed(h:aq)(bq:cG h=ah)(x y z:AV)(ae:List (List Int))(owners ar:List Int)(hx:RL x ae)(hy:IL y owners)(hz:IL z ar)(cP:ae.length<=1000000)(ju:ar.length<=1099511627776):
 ∃r h',W5.call 63 [.agg [x,y],z] h=aa (r,h')/\((∃e,fL ae owners ar=([],az,e)/\r=.ret (.tuple [.list .nil 0 [],.v (.bool az),.v (.int .i64 e)]))∨∃l b,fL ae owners ar=(l,ah,0)/\l.length=ae.length/\r=.ret (.tuple [.arr b 0 ae.length ae.length,.v (.bool ah),.v (.int .i64 0)])/\h'.boxes[b]?=aa (l.map im)):=by
 have bx:=wy hx hy;have b0:(h.push [x,y]).boxes[h.boxes.length]?=aa [x,y]:=aZ _ _;have l25:=λK (X:Ext (h.push [x,y]) K)=>vh (X.box _ _ b0);have l22:=λK (X:Ext (h.push [x,y]) K)=>rZ (X.box _ _ b0);have l23:=λK (X:Ext (h.push [x,y]) K)=>Ff (X.box _ _ b0);have l0:=l25 _ (.refl _);have cc:=RM x y ae owners hx hy cP;have cp:=ZZ z ar hz ag;have eA:fL ae owners ar=if cW ae owners≠0 then ([],az,cW ae owners) else if !fJ (-1) ar then ([],az,1) else match qk ((eI owners ar).map λi=>ae.getD i []) (fU (bJ ae)) with|none=>([],az,0)|some l=>(su ae.length (eI owners ar) l,ah,0):=rfl
 have svs:fc (.agg [x,y]) (.agg [x,y])=ah:=by rw[fc,pg,pg,pg,hx.same,hy.same];rfl
 refine db rfl Tryz.func63 rfl ?_;by_cases q1:cW ae owners≠0
 ·rw[aG q1] at eA;generalize cW ae owners=pe at *
  have Xu:decide (pe=0)=az:=by simp[q1]
  have ke:=al.mk eA;clear eA q1 l25 l22 l23 hx hy hz cp b0;unfold im at cc;refine bK @wI @bg ?_;exact⟨_,_,rfl,.inl ⟨pe,ke.out,rfl⟩⟩
 rw[aI q1] at eA;have q1:cW ae owners=0:=Jz.1 q1;rw[q1] at cc;cases q2:fJ (-1) ar with
 |false=>rw[q2] at cp;rw[aG (by rw[q2];rfl)] at eA;have ke:=al.mk eA;clear eA q1 q2 l25 l22 l23 hx hy hz b0;unfold im at cc;refine bK @wI @bg ?_;exact⟨_,_,rfl,.inl ⟨1,ke.out,rfl⟩⟩
 |true=>
 rw[q2] at cp;rw[aI (by rw[q2];simp)] at eA;obtain⟨o1,o2,o3,-⟩:=rk q1;obtain⟨n1,n2⟩:=sU q1;have uo:(fU (bJ ae)).length=bJ ae:=SX n1;have AZ:∀i∈eI owners ar,i<ae.length:=λi hi=>by unfold eI at hi;rw[o1];exact fQ.1 (vG.1 hi).1
 have hlen:(eI owners ar).length<=64:=by unfold eI;exact fw (Gm _ _) (by rw[ac9];omega)
 have dU:∀r∈(eI owners ar).map λi=>ae.getD i [],r∈ae:=λr hr=>by obtain⟨i,hi,rfl⟩:=jP.1 hr;have:=AZ i hi;rw[ez,aR this];exact iW _
 have c136:=ahn x y ae owners hx hy;have c135:=auN (bJ ae) n1 ag;obtain⟨_,H2,c134,X,rfl,hX,X2,xJ⟩:=anv (h.push [x,y]) bq x y z ae owners ar hx hy hz o1 ag ju;have lH2:=l25 H2 X2;obtain⟨_,H3,c133,P3⟩:=ahp H2 xJ X (.list .held 1 (ints (fU (bJ ae)))) _ (fU (bJ ae)) hX ⟨_,_,rfl,λ_=>rfl⟩ (by rw[bu];exact hlen) (λr hr=>by rw[uo];exact(o3 r (dU r hr)).1) (by rw[uo];exact n2) ag (λr hr=>(o3 r (dU r hr)).2.2.2) (λx hx=>by
  unfold fU at hx;rcases iu.1 hx with rfl|hx
  ·exact⟨aV,by decide⟩
  ·rw[List.eq_of_mem_replicate hx];exact⟨aV,by decide⟩)
 obtain⟨X3,P3⟩:=P3;have kl22:=al.mk λK (X:Ext H3 K)=>l22 K (X2.trans (X3.trans X));have kl23:=al.mk λK (X:Ext H3 K)=>l23 K (X2.trans (X3.trans X));have hs:=λn=>WY z ar n hz ju;have ll0:=l22 H3 (X2.trans X3);rw[bu] at P3;obtain⟨k0,s0,xs,rfl,-,dN,-⟩:=hx;obtain⟨ky,sy,rfl,lT⟩:=hy;have ksy:=al.mk lT;have u23:=dQ;have u22:=ji;have z3:=fP;have K7:(xs.map λa=>[a]).length=ae.length:=by rw[bu];exact dN
 have cS:=dD owners;have ko:=al.mk (aw AZ o1);clear dU AZ o3 hX X2 X3 xJ hz l25 l22 l23 b0 q1 dN lT o1;unfold im at cc c136 c135;rcases P3 with⟨e1,rfl⟩|⟨l,b,e1,e2,rfl,hb⟩
 ·rw[e1] at eA;have ke:=al.mk eA;clear eA e1 kl22 kl23 hs;unfold im at c133;refine bK @wI @bg ?_;refine ng [(2,3)] mc jd (λp hp=>?_) ?_
  ·simp only[my] at hp;subst hp;refine sw (x:=.ptr (.box h.boxes.length) 0) (v:=.agg [.list k0 s0 (xs.map λa=>[a]),.list ky sy (ints owners)]) jd rfl rfl rfl jd (svs) ?_ ?_<;>(simp only[hU,fR];exact jl @wI @and_self)
  refine br @wI ?_;exact⟨_,_,rfl,.inl ⟨0,ke.out,rfl⟩⟩
 rw[e1] at eA;have ke:=al.mk eA;have kb:=al.mk (aw hb e2);have mk:=Bc H3 ae.length ag .i64 .i64;have oz:a9 ae.length (im 0)=(nh ae.length (eI owners ar) l (fk owners ar 0).length).map im:=by unfold nh;rw[show(fk owners ar 0).length=0 from rfl,fR,Gj,yy]
 rw[oz] at mk;clear eA e1 oz hb;unfold im at c133 mk;refine bK @wI @bg ?_;refine ng [(2,3)] mc jd (λp hp=>?_) ?_
 ·simp only[my] at hp;subst hp;refine sw (x:=.ptr (.box h.boxes.length) 0) (v:=.agg [.list k0 s0 (xs.map λa=>[a]),.list ky sy (ints owners)]) jd rfl rfl rfl jd (svs) ?_ ?_<;>(simp only[hU,fR];exact jl @wI @and_self)
 refine cQ @wI @dE @eQ ?_;refine bH.gen λe0 aF bB cU cN=>?_;have f1:e0.get 1=z:=by rw[aF];exact gS
 have f2:e0.get 2=.ptr (.box h.boxes.length) 0:=by rw[aF];exact gS
 have f8:e0.get 8=.arr b 0 (eI owners ar).length (eI owners ar).length:=by rw[aF];exact gS
 have f11:e0.get 11=.arr H3.boxes.length 0 ae.length ae.length:=by rw[aF];exact gS
 have f12:e0.get 12=.v (.int .i64 ((fk owners ar 0).length:Nat)):=by rw[aF];exact gR
 have f13:e0.get 13=.v (.int .i64 (0:Nat)):=by rw[aF];exact gR
 have fd:e0.defers=[]:=by rw[bB];exact gS
 clear aF bB cU cN mk cc cp c136 c135 c134 c133 l0 lH2 ll0 bx svs;refine cz (λm e H=>∃i:Nat,i<=ae.length/\m=ae.length - i/\e.get 1=z/\e.get 2=.ptr (.box h.boxes.length) 0/\e.get 8=.arr b 0 (eI owners ar).length (eI owners ar).length/\e.get 11=.arr H3.boxes.length 0 ae.length ae.length/\e.get 12=.v (.int .i64 ((fk owners ar i).length:Nat))/\e.get 13=.v (.int .i64 (i:Nat))/\e.defers=[]/\H=H3.push ((nh ae.length (eI owners ar) l (fk owners ar i).length).map im)) ?_ ae.length _ _ ?_;rotate_left 1
 ·exact⟨0,cA _,rfl,f1,f2,f8,f11,f12,f13,fd,rfl⟩
 clear f1 f2 f8 f11 f12 f13 fd;rintro m e H ⟨i,hi,rfl,g1,g2,g8,g11,g12,g13,hd,rfl⟩;have l0:=kl22.out (H3.push ((nh ae.length (eI owners ar) l (fk owners ar i).length).map im)) (.push _ _);have l1:=kl23.out (H3.push ((nh ae.length (eI owners ar) l (fk owners ar i).length).map im)) (.push _ _);by_cases iD:i<ae.length;rotate_left 1
 ·have fF:i=ae.length:=by omega
  subst fF;have hN:fk owners ar ae.length=eI owners ar:=by unfold fk eI;rw[ko.out.2]
  have kN:=al.mk hN;clear hN;refine cQ @wI @dE @eQ ?_;refine⟨_,_,rfl,.inr ⟨_,_,ke.out,?_,rfl,?_⟩⟩
  ·rw[<-Mv];exact Mw
  ·rw[aZ,kN.out,Mv]
 have bD:sy=1:=ksy.out (by intro q;have o1:=ko.out.2;rw[q,kQ] at o1;omega);subst bD;have lo:=eE (H:=H3.push ((nh ae.length (eI owners ar) l (fk owners ar i).length).map im)) (l:=owners) (i:=i) (s:=1) (by have:=ko.out.2;omega);have KK:(i:Int)<(ae.length:Int):=by omega
 have akw:(i:Int)<(owners.length:Int):=by have:=ko.out.2;omega
 have c:=hs (ai owners i);cases hc:ar.contains (ai owners i) with
 |true=>
  rw[hc] at c;have pO:=SF (show i<owners.length by have:=ko.out.2;omega) hc;have aA:=(aS.1 pO).1;have WQ:=Z8 hc;have O6:(fk owners ar (i+1)).length=(fk owners ar i).length+1:=by rw[WQ,dw];rfl
  have ix1:=qX (b:=b) (len:=(eI owners ar).length) (aD:=(eI owners ar).length) (k:=.i64) aA;have ix3:=qX (b:=H3.boxes.length) (len:=ae.length) (aD:=ae.length) (k:=.i64) iD;have lv:=zw (H:=H3.push ((nh ae.length (eI owners ar) l (fk owners ar i).length).map im)) (aY kb.out.1) (xS (k:=(fk owners ar i).length) (by rw[kb.out.2];exact aA));have sk:=zJ (H:=H3.push ((nh ae.length (eI owners ar) l (fk owners ar i).length).map im)) (b:=H3.boxes.length) (r:=nh ae.length (eI owners ar) l (fk owners ar i).length) (k:=i) (x:=ai l (fk owners ar i).length) (aZ _ _) (by rw[Mw];exact iD);rw[pc,abv pO,<-O6] at sk;have kNl:=al.mk O6;clear pO WQ O6 hs kl22 kl23;unfold im at c lv sk l0 l1 lo ⊢;refine bA @wI @dE @eQ @bh ?_;exact⟨ae.length - (i+1),by omega,i+1,by omega,rfl,by trivial,by trivial,by trivial,by trivial,(by rw[kNl.out];first|rfl|simp),by simp,by trivial,by trivial⟩
 |false=>rw[hc] at c;have WO:=Z7 hc;have kNn:=al.mk WO;clear WO hs kl22 kl23;unfold im at c;refine bA @wI @dE @eQ @bh ?_;exact⟨ae.length - (i+1),by omega,i+1,by omega,rfl,by trivial,by trivial,by trivial,by trivial,by rw[kNn.out],by simp,by trivial,by rw[kNn.out]⟩
def L6:List FuncId:=L5++[17,20,22,26,41,44,45,56,63,75,80,133,134]
noncomputable def RD:FuncId->Option (List AV->aq->Option (AV × aq)):=qJ W5 L6
noncomputable abbrev W6:=whole ao Gt RD
def Ee:qE RD L6:=yM
section
variable (a b n x:Int)
def aeh:∀h,W6.call 28 [im a,im b] h=aa (.ret (im (cd a b)),h):=bm (L:=L6) rfl rfl rfl (JP a b _) rfl rfl
def Wu:∀h,W6.call 30 [im a,im n] h=aa (.ret (.tuple [im (eR a n),im (mS a)]),h):=bm (L:=L6) rfl rfl rfl (Ky a n _) rfl rfl
def ao3:∀h,W6.call 65 [im a,im b] h=aa (.ret (im (cd a b)),h):=bm (L:=L6) rfl rfl rfl (ao2 a b _) rfl rfl
def Mo:∀h,W6.call 94 [im x] h=aa (.ret (.v (.bool (bI x))),h):=bm (L:=L6) rfl rfl rfl (asE x _) rfl rfl
def aaz:∀h,W6.call 140 [im a,im b] h=aa (.ret (.tuple [im (jk a b),im (nP a b)]),h):=bm (L:=L6) rfl rfl rfl (apE a b _) rfl rfl
def RR:∀h,W6.call 132 [im a,im n] h=aa (.ret (.tuple [im (eR a n),im (mS a)]),h):=bm (L:=L6) rfl rfl rfl (apK a n _) rfl rfl
def LL:∀h,W6.call 120 [im n] h=aa (.ret (.agg (aL 1 n [] .nil 0 [])),h):=bm (L:=L6) rfl rfl rfl (apY n _) rfl rfl
end
def Yb:∀l:List Pr,fa (fb l)=fb l
 | []=>rfl
 |p::l=>by show fa (bU p::fb l)=_;rw[fa,Yb l];rfl
def OB:∀l:List Pr,gQ 0 0 0 (fb l)=ah
 | []=>rfl
 |p::l=>by show gQ 0 0 0 (bU p::fb l)=_;rw[gQ,OB l];rfl
def Yc:∀l:List (Int × Int),fa (jq l)=jq l
 | []=>rfl
 |p::l=>by show fa (lI p::jq l)=_;rw[fa,Yc l];rfl
def OC:∀l:List (Int × Int),gQ 0 0 0 (jq l)=ah
 | []=>rfl
 |p::l=>by show gQ 0 0 0 (lI p::jq l)=_;rw[gQ,OC l];rfl
def Yd:∀l:List Int,fa (l.map MJ)=l.map MJ
 | []=>rfl
 |p::l=>by rw[eC,fa,Yd l];rfl
def V8:∀l:List Int,gQ 0 0 0 (l.map MJ)=ah
 | []=>rfl
 |p::l=>by rw[eC,gQ,V8 l];rfl
def PL.hold{x}{l}(h:PL x l):PL (aC x) l/\aK 0 0 0 (aC x)=ah:=by obtain⟨k,s,rfl,hs⟩:=h;rw[aC,Yb];exact⟨⟨bO k,s,rfl,hs⟩,by rw[aK,fh,OB];rfl⟩
def SL.hold{x}{l}(h:SL x l):SL (aC x) l/\aK 0 0 0 (aC x)=ah:=by obtain⟨k,s,rfl,hs⟩:=h;rw[aC,Yc];exact⟨⟨bO k,s,rfl,hs⟩,by rw[aK,fh,OC];rfl⟩
def UL.hold{x}{l}(h:UL x l):UL (aC x) l/\aK 0 0 0 (aC x)=ah:=by obtain⟨⟨k,s,rfl,hs⟩,hr⟩:=h;rw[aC,Yd];exact⟨⟨⟨bO k,s,rfl,hs⟩,hr⟩,by rw[aK,fh,V8];rfl⟩
def BL.hold{x}{b}(h:BL x b):BL (aC x) b/\aK 0 0 0 (aC x)=ah:=by obtain⟨k,s,rfl,hs⟩:=h;rw[aC,qo];exact⟨⟨bO k,s,rfl,hs⟩,by rw[aK,fh,jS];rfl⟩
def Il{X Y C}{ae}{owners aj}(ep)(hx:RL X ae)(hy:IL Y owners)(hc:IL C aj):
 ∃X' Y' C',aC (.agg (aN ep X Y C))=.agg (aN ep X' Y' C')/\RL X' ae/\IL Y' owners/\IL C' aj/\aK 0 0 0 (.agg (aN ep X' Y' C'))=ah:=by
 obtain⟨h1,h2⟩:=hx.fZ;obtain⟨h3,h4⟩:=hy.hold;obtain⟨h5,h6⟩:=hc.hold;exact⟨_,_,_,rfl,h1,h3,h5,by simp[aN,aK,aP,h2,h4,h6]⟩
section
variable (ep:Int) (X Y C T L:AV) (ae:List (List Int)) (owners aj:List Int) (text:List UInt8) (l:List Pr)
 (hx:RL X ae) (hy:IL Y owners) (hc:IL C aj) (ht:BL T text) (hp:PL L l) (de:aj.length<=1000000) (dG:l.length<=1000000)
include hx hy hc ht hp de dG
def afD:(cC ae owners ep aj text l≠0/\∀h,W6.call 17 [.agg (aN ep X Y C),T,L] h=aa (.ret (.tuple [.list .nil 0 [],im 0,im 0,im (cC ae owners ep aj text l)]),h))∨
 (cC ae owners ep aj text l=0/\∃Z,IL Z (rF (ai aj 0) text l)/\∀h,W6.call 17 [.agg (aN ep X Y C),T,L] h=aa (.ret (.tuple [Z,im ((gM (ai aj 0) text l:Nat):Int),im ((dF (ai aj 0) text l:Nat):Int),im 0]),h)):=by
 obtain⟨X',Y',C',e1,h1,h2,h3,h4⟩:=Il ep hx hy hc;obtain⟨h5,h6⟩:=ht.hold;obtain⟨h7,h8⟩:=hp.hold;have ea:bN [.agg (aN ep X Y C),T,L]=[.agg (aN ep X' Y' C'),aC T,aC L]:=by rw[bN,bN,bN,bN,e1]
 have ef:aP 0 0 0 [.agg (aN ep X' Y' C'),aC T,aC L]=ah:=by rw[aP,aP,aP,aP,h4,h6,h8];rfl
 obtain⟨r,h',c,⟨q,rfl⟩|⟨q,Z,rfl,hZ⟩⟩:=afB ⟨[],[],0,[]⟩ vk ep X' Y' C' (aC T) (aC L) ae owners aj text l h1 h2 h3 h5 h7 de dG
 ·exact .inl ⟨q,bm (L:=L6) rfl ea ef c rfl rfl⟩
 ·obtain⟨k,s,rfl,hs⟩:=hZ;refine .inr ⟨q,.list (bO k) s (ints _),⟨_,_,rfl,hs⟩,bm (L:=L6) rfl ea ef c ?_ ?_⟩
  ·rfl
  ·rw[aK,aP,aK,fh,nq];rfl
def amA(S:AV)(s:List (Int × Int))(aB d f:Int)(hs:SL S s)(nC:s.length<=1000000):
 ∀h,W6.call 20 [.agg (aN ep X Y C),T,L,im aB,S,im d,im f] h=aa (.ret (.tuple [im (vm ae owners ep aj text l aB s d f).1,im (vm ae owners ep aj text l aB s d f).2]),h):=by
 obtain⟨X',Y',C',e1,h1,h2,h3,h4⟩:=Il ep hx hy hc;obtain⟨h5,h6⟩:=ht.hold;obtain⟨h7,h8⟩:=hp.hold;obtain⟨h9,qM⟩:=hs.hold;obtain⟨r,h',c,rfl⟩:=amz ⟨[],[],0,[]⟩ vk ep X' Y' C' (aC T) (aC L) (aC S) ae owners aj text l s aB d f h1 h2 h3 h5 h7 h9 de dG nC;exact bm (L:=L6) rfl (by simp only[bN];rw[e1];rfl) (by simp only[aP];rw[h4,h6,h8,qM];rfl) c rfl rfl
def aiV(aB z:Int):
 ∀h,W6.call 22 [.agg (aN ep X Y C),T,L,im aB,im z] h=aa (.ret (.tuple [.v (.bool (pZ ae owners ep aj text l aB z).1),im (pZ ae owners ep aj text l aB z).2]),h):=by
 obtain⟨X',Y',C',e1,h1,h2,h3,h4⟩:=Il ep hx hy hc;obtain⟨h5,h6⟩:=ht.hold;obtain⟨h7,h8⟩:=hp.hold;obtain⟨r,h',c,rfl⟩:=aiT ⟨[],[],0,[]⟩ vk ep X' Y' C' (aC T) (aC L) ae owners aj text l aB z h1 h2 h3 h5 h7 de dG;exact bm (L:=L6) rfl (by simp only[bN];rw[e1];rfl) (by simp only[aP];rw[h4,h6,h8];rfl) c rfl rfl
end
def avr(key e s)(T)(text)(ht:BL T text)(hl:text.length<=1000000):
 ∀h,W6.call 26 [im key,T,.agg [im e,im s]] h=aa (.ret (.v (.bool (nI key text e s))),h):=by
 obtain⟨⟨k,z,e1,hs⟩,h2⟩:=ht.hold;obtain⟨r,h',c,rfl,-⟩:=avq ⟨[],[],0,[]⟩ key e s k z text hs hl;exact bm (L:=L6) rfl (by simp only[bN];rw[e1];rfl) (by rw[<-e1];simp only[aP];rw[h2];rfl) c rfl rfl
def atr(x y)(ae)(owners)(hx:RL x ae)(hy:IL y owners):∀h,W6.call 75 [.agg [x,y]] h=aa (.ret (.v (.bool (yg ae owners))),h):=by obtain⟨h1,h2,h3,h4⟩:=vn hx hy;obtain⟨r,h',c,rfl⟩:=ats ⟨[],[],0,[]⟩ (aC x) (aC y) ae owners h1 h2;exact bm (L:=L6) (b9:=[.agg [aC x,aC y]]) rfl rfl (by simp[aP,aK,h3,h4]) c rfl rfl
def ah4(x y z)(ae)(owners cB)(b8)(hx:RL x ae)(hy:IL y owners)(hz:IL z cB)(hl:cB.length<=1000)(lQ:ae.length<=1000000):
 (tT ae owners b8 cB≠0/\∀h,W6.call 44 [.agg [x,y],im b8,z] h=aa (.ret (.tuple [.list .nil 0 [],.list .nil 0 [],im (tT ae owners b8 cB)]),h))∨
 (tT ae owners b8 cB=0/\∃U V,SL U (pK ae (b8::cB))/\IL V (cI (b8::cB))/\∀h,W6.call 44 [.agg [x,y],im b8,z] h=aa (.ret (.tuple [U,V,im 0]),h)):=by
 obtain⟨h1,h2,h3,h4⟩:=vn hx hy;obtain⟨h5,h6⟩:=hz.hold;have ef:aP 0 0 0 [.agg [aC x,aC y],im b8,aC z]=ah:=by simp[aP,aK,h3,h4,h6,im]
 obtain⟨r,h',c,⟨q,rfl⟩|⟨q,t1,s1,t2,s2,rfl,g1,g2⟩⟩:=ah3 ⟨[],[],0,[]⟩ vk (aC x) (aC y) (aC z) ae owners cB b8 h1 h2 h5 hl lQ
 ·exact .inl ⟨q,bm (L:=L6) (b9:=[.agg [aC x,aC y],im b8,aC z]) rfl rfl ef c rfl rfl⟩
 ·refine .inr ⟨q,.list (bO t1) s1 (jq _),.list (bO t2) s2 (ints _),⟨_,_,rfl,g1⟩,⟨_,_,rfl,λ_=>g2⟩,bm (L:=L6) (b9:=[.agg [aC x,aC y],im b8,aC z]) rfl rfl ef c ?_ ?_⟩
  ·rfl
  ·rw[aK,aP,aK,fh,OC,aP,aK,fh,nq];rfl
def VB(x y)(ae)(owners)(hx:RL x ae)(hy:IL y owners):∀h,W6.call 42 [.agg [x,y]] h=aa (.ret (im (bJ ae:Nat)),h):=by obtain⟨h1,h2,h3,h4⟩:=vn hx hy;exact bm (L:=L6) (b9:=[.agg [aC x,aC y]]) rfl rfl (by simp[aP,aK,h3,h4]) (VA (aC x) (aC y) ae owners h1 h2 _) rfl rfl
def ZL(x)(l)(hx:IL x l)(hl:l.length<=9223372036854775807):∀h,W6.call 92 [x] h=aa (.ret (.v (.bool (l.all bX))),h):=by obtain⟨h1,h2⟩:=hx.hold;exact bm (L:=L6) (b9:=[aC x]) rfl rfl (by simp[aP,h2]) (am5 (aC x) l h1 hl _) rfl rfl
def anX(x)(l)(hx:IL x l)(hl:l.length<=9223372036854775807):∀h,W6.call 93 [x] h=aa (.ret (.v (.bool (fJ (-1) l))),h):=by obtain⟨h1,h2⟩:=hx.hold;exact bm (L:=L6) (b9:=[aC x]) rfl rfl (by simp[aP,h2]) (ZZ (aC x) l h1 hl _) rfl rfl
def aec(x y z)(ae)(owners ar)(hx:RL x ae)(hy:IL y owners)(hz:IL z ar)(ju:ar.length<=1099511627776):
 (∃e,fL ae owners ar=([],az,e)/\∀h,W6.call 76 [.agg [x,y],z] h=aa (.ret (.tuple [.list .nil 0 [],.v (.bool az),im e]),h))∨
 ∃l,fL ae owners ar=(l,ah,0)/\l.length=ae.length/\∃Z,IL Z l/\∀h,W6.call 76 [.agg [x,y],z] h=aa (.ret (.tuple [Z,.v (.bool ah),im 0]),h):=by
 obtain⟨h1,h2,h3,h4⟩:=vn hx hy;obtain⟨h5,h6⟩:=hz.hold;have ef:aP 0 0 0 [.agg [aC x,aC y],aC z]=ah:=by simp[aP,aK,h3,h4,h6]
 obtain⟨k,s,xs,e1,-⟩:=h1.form;rw[e1] at h1;rcases Um k s xs (aC y) (aC z) ae owners ar h1 h2 h5 ju with⟨e,q,c⟩|⟨l,q,ql,c⟩
 ·rw[<-e1] at c;exact .inl ⟨e,q,bm (L:=L6) (b9:=[.agg [aC x,aC y],aC z]) rfl rfl ef (c _) rfl rfl⟩
 ·rw[<-e1] at c;refine .inr ⟨l,q,ql,.list .held 1 (ints l),⟨_,_,rfl,λ_=>rfl⟩,bm (L:=L6) (b9:=[.agg [aC x,aC y],aC z]) rfl rfl ef (c _) ?_ ?_⟩
  ·rfl
  ·rw[aK,aP,aK,nq];rfl
def fZ(k):bO (bO k)=bO k:=by cases k<;>rfl
def aqF{l}{ae}(hr:ou l ae)(hh:fa ae=ae)(k)(hm:ae.length<=1000000):∀h,W2.call 119 [.list k 4 ae] h=aa (.ret (.agg (aL 3 0 [] (bO k) 4 ae)),h):=by
 have hv:da (.list l) (aL 3 0 [] k 4 ae):=.list l k 4 ae hr.1 (λ_=>rfl) hm hr.2;obtain⟨h1,h2⟩:=da.hold _ _ hv;have e:bN (aL 3 0 [] k 4 ae)=aL 3 0 [] (bO k) 4 (fa ae):=rfl;rw[e,hh] at h1 h2;refine bm (L:=L2) (b9:=[.list (bO k) 4 ae]) rfl ?_ ?_ (aqJ _ _ _ _) ?_ ?_
 ·simp only[bN,aC,hh]
 ·unfold aL at h2;simp only[aP,bC] at h2 ⊢;exact⟨h2.2.2.2.1,aU⟩
 ·show AV.agg [im 3,im 0,sv [],.list (bO (bO k)) 4 ae]=_;rw[fZ];rfl
 ·rw[aK];exact h2
def asb(s):∀h,W3.call 121 [sv s] h=aa (.ret (.agg (aL 2 0 s .nil 0 [])),h):=bm (L:=L3) rfl rfl rfl (asa s _) rfl rfl
def apN(bp b)(k)(hb:b.length<=1099511610000)(ht:bp.length<=1099511610000):∀h,W3.call 123 [.v (.string (bs bp)),.list k 1 (a8 b)] h=aa (.ret (im (mU (gx bp b):Nat)),h):=
 bm (L:=L3) (b9:=[.v (.string (bs bp)),.list (bO k) 1 (a8 b)]) rfl (by rw[bN,bN,aC.eq_1,qo];rfl) (by simp[aP,aK,fh,jS]) (apM bp b _ hb ht _) rfl rfl
def apk{v}{r}(hv:da v r)(hd:gE v<=16)(hl:(dK v).length<=1099511600000):∃t,∀h,W3.call 118 [.agg r] h=aa (.ret (.tuple [.list t 1 (a8 (dK v)),.v (.int .i64 0)]),h):=by obtain⟨h1,h2⟩:=da.hold v r hv;obtain⟨t,c⟩:=apj h1 hd hl;exact⟨bO t,bm (L:=L3) (b9:=[.agg (bN r)]) rfl rfl (by simpa [aP,aK] using h2) (c _) rfl (by simp[aK,aP,fh,jS])⟩
def aqG{l}{ae}(hr:ou l ae)(hh:fa ae=ae)(k)(hm:ae.length<=1000000):∀h,W3.call 119 [.list k 4 ae] h=aa (.ret (.agg (aL 3 0 [] (bO k) 4 ae)),h):=by
 have hv:da (.list l) (aL 3 0 [] k 4 ae):=.list l k 4 ae hr.1 (λ_=>rfl) hm hr.2;obtain⟨h1,h2⟩:=da.hold _ _ hv;have e:bN (aL 3 0 [] k 4 ae)=aL 3 0 [] (bO k) 4 (fa ae):=rfl;rw[e,hh] at h1 h2;refine bm (L:=L3) (b9:=[.list (bO k) 4 ae]) rfl ?_ ?_ (aqF hr hh (bO k) hm _) ?_ ?_
 ·simp only[bN,aC,hh]
 ·unfold aL at h2;simp only[aP,bC] at h2 ⊢;exact⟨h2.2.2.2.1,aU⟩
 ·show AV.agg [im 3,im 0,sv [],.list (bO (bO (bO k))) 4 ae]=_;rw[fZ,fZ];rfl
 ·rw[aK];exact h2
def asc(s):∀h,W4.call 121 [sv s] h=aa (.ret (.agg (aL 2 0 s .nil 0 [])),h):=bm (L:=L4) rfl rfl rfl (asb s _) rfl rfl
def apO(bp b)(k)(hb:b.length<=1099511610000)(ht:bp.length<=1099511610000):∀h,W4.call 123 [.v (.string (bs bp)),.list k 1 (a8 b)] h=aa (.ret (im (mU (gx bp b):Nat)),h):=
 bm (L:=L4) (b9:=[.v (.string (bs bp)),.list (bO k) 1 (a8 b)]) rfl (by rw[bN,bN,aC.eq_1,qo];rfl) (by simp[aP,aK,fh,jS]) (apN bp b _ hb ht _) rfl rfl
def apl{v}{r}(hv:da v r)(hd:gE v<=16)(hl:(dK v).length<=1099511600000):∃t,∀h,W4.call 118 [.agg r] h=aa (.ret (.tuple [.list t 1 (a8 (dK v)),.v (.int .i64 0)]),h):=by obtain⟨h1,h2⟩:=da.hold v r hv;obtain⟨t,c⟩:=apk h1 hd hl;exact⟨bO t,bm (L:=L4) (b9:=[.agg (bN r)]) rfl rfl (by simpa [aP,aK] using h2) (c _) rfl (by simp[aK,aP,fh,jS])⟩
def aqH{l}{ae}(hr:ou l ae)(hh:fa ae=ae)(k)(hm:ae.length<=1000000):∀h,W4.call 119 [.list k 4 ae] h=aa (.ret (.agg (aL 3 0 [] (bO k) 4 ae)),h):=by
 have hv:da (.list l) (aL 3 0 [] k 4 ae):=.list l k 4 ae hr.1 (λ_=>rfl) hm hr.2;obtain⟨h1,h2⟩:=da.hold _ _ hv;have e:bN (aL 3 0 [] k 4 ae)=aL 3 0 [] (bO k) 4 (fa ae):=rfl;rw[e,hh] at h1 h2;refine bm (L:=L4) (b9:=[.list (bO k) 4 ae]) rfl ?_ ?_ (aqG hr hh (bO k) hm _) ?_ ?_
 ·simp only[bN,aC,hh]
 ·unfold aL at h2;simp only[aP,bC] at h2 ⊢;exact⟨h2.2.2.2.1,aU⟩
 ·show AV.agg [im 3,im 0,sv [],.list (bO (bO (bO k))) 4 ae]=_;rw[fZ,fZ];rfl
 ·rw[aK];exact h2
def asd(s):∀h,W5.call 121 [sv s] h=aa (.ret (.agg (aL 2 0 s .nil 0 [])),h):=gT (L:=L5) rfl rfl rfl (asc s _) rfl rfl
def apP(bp b)(k)(hb:b.length<=1099511610000)(ht:bp.length<=1099511610000):∀h,W5.call 123 [.v (.string (bs bp)),.list k 1 (a8 b)] h=aa (.ret (im (mU (gx bp b):Nat)),h):=
 gT (L:=L5) (b9:=[.v (.string (bs bp)),.list (bO k) 1 (a8 b)]) rfl (by rw[bN,bN,aC.eq_1,qo];rfl) (by simp[aP,aK,fh,jS]) (apO bp b _ hb ht _) rfl rfl
def apm{v}{r}(hv:da v r)(hd:gE v<=16)(hl:(dK v).length<=1099511600000):∃t,∀h,W5.call 118 [.agg r] h=aa (.ret (.tuple [.list t 1 (a8 (dK v)),.v (.int .i64 0)]),h):=by obtain⟨h1,h2⟩:=da.hold v r hv;obtain⟨t,c⟩:=apl h1 hd hl;exact⟨bO t,gT (L:=L5) (b9:=[.agg (bN r)]) rfl rfl (by simpa [aP,aK] using h2) (c _) rfl (by simp[aK,aP,fh,jS])⟩
def aqI{l}{ae}(hr:ou l ae)(hh:fa ae=ae)(k)(hm:ae.length<=1000000):∀h,W5.call 119 [.list k 4 ae] h=aa (.ret (.agg (aL 3 0 [] (bO k) 4 ae)),h):=by
 have hv:da (.list l) (aL 3 0 [] k 4 ae):=.list l k 4 ae hr.1 (λ_=>rfl) hm hr.2;obtain⟨h1,h2⟩:=da.hold _ _ hv;have e:bN (aL 3 0 [] k 4 ae)=aL 3 0 [] (bO k) 4 (fa ae):=rfl;rw[e,hh] at h1 h2;refine gT (L:=L5) (b9:=[.list (bO k) 4 ae]) rfl ?_ ?_ (aqH hr hh (bO k) hm _) ?_ ?_
 ·simp only[bN,aC,hh]
 ·unfold aL at h2;simp only[aP,bC] at h2 ⊢;exact⟨h2.2.2.2.1,aU⟩
 ·show AV.agg [im 3,im 0,sv [],.list (bO (bO (bO k))) 4 ae]=_;rw[fZ,fZ];rfl
 ·rw[aK];exact h2
def aa9(s):∀h,W6.call 121 [sv s] h=aa (.ret (.agg (aL 2 0 s .nil 0 [])),h):=bm (L:=L6) rfl rfl rfl (asd s _) rfl rfl
def aaA(bp b)(k)(hb:b.length<=1099511610000)(ht:bp.length<=1099511610000):∀h,W6.call 123 [.v (.string (bs bp)),.list k 1 (a8 b)] h=aa (.ret (im (mU (gx bp b):Nat)),h):=
 bm (L:=L6) (b9:=[.v (.string (bs bp)),.list (bO k) 1 (a8 b)]) rfl (by rw[bN,bN,aC.eq_1,qo];rfl) (by simp[aP,aK,fh,jS]) (apP bp b _ hb ht _) rfl rfl
def aax{v}{r}(hv:da v r)(hd:gE v<=16)(hl:(dK v).length<=1099511600000):∃t,∀h,W6.call 118 [.agg r] h=aa (.ret (.tuple [.list t 1 (a8 (dK v)),.v (.int .i64 0)]),h):=by obtain⟨h1,h2⟩:=da.hold v r hv;obtain⟨t,c⟩:=apm h1 hd hl;exact⟨bO t,bm (L:=L6) (b9:=[.agg (bN r)]) rfl rfl (by simpa [aP,aK] using h2) (c _) rfl (by simp[aK,aP,fh,jS])⟩
def aaB{l}{ae}(hr:ou l ae)(hh:fa ae=ae)(k)(hm:ae.length<=1000000):∀h,W6.call 119 [.list k 4 ae] h=aa (.ret (.agg (aL 3 0 [] (bO k) 4 ae)),h):=by
 have hv:da (.list l) (aL 3 0 [] k 4 ae):=.list l k 4 ae hr.1 (λ_=>rfl) hm hr.2;obtain⟨h1,h2⟩:=da.hold _ _ hv;have e:bN (aL 3 0 [] k 4 ae)=aL 3 0 [] (bO k) 4 (fa ae):=rfl;rw[e,hh] at h1 h2;refine bm (L:=L6) (b9:=[.list (bO k) 4 ae]) rfl ?_ ?_ (aqI hr hh (bO k) hm _) ?_ ?_
 ·simp only[bN,aC,hh]
 ·unfold aL at h2;simp only[aP,bC] at h2 ⊢;exact⟨h2.2.2.2.1,aU⟩
 ·show AV.agg [im 3,im 0,sv [],.list (bO (bO (bO k))) 4 ae]=_;rw[fZ,fZ];rfl
 ·rw[aK];exact h2
end Go.Proofs.YtnfciiiohoafaaaGreatDoor
end
