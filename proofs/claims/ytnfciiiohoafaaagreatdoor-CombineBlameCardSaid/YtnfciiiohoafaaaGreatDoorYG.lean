/-
  The engine, part 53: a guarded load behind an operation that acts.
-/
import Derived.Test.YtnfciiiohoafaaaGreatDoorYF
import Derived.Test.YtnfciiiohoafaaaGreatDoorYB
import Derived.Test.YtnfciiiohoafaaaGreatDoorYE
open True renaming intro->aT
open Option renaming none->au,some->aa,map_some->eX
open Bool renaming true->ai,and_eq_true->bA,false->ay,not_eq_true->ZQ,not_eq_false'->ZP,true_and->vR,not_true->HX,false_eq_true->ju,and_true->EF
open List renaming mem_cons->jm,getElem?_eq_getElem->a9,getElem?_eq_some_iff->aQ,not_mem_nil->AN,length_map->bJ,length_take->fb,map_append->oM,take_succ_cons->iK,take_zero->gm,take_length->gM,all_eq_true->eE,map_eq_nil_iff->EW,map_cons->ev,mem_of_getElem?->ez,getElem?_map->eR,take_of_length_le->fK,range->bL,range_succ->oN,filter_append->CO,filter_cons_of_pos->Ij,filter_cons_of_neg->Ii,length_filter_le->Im,mem_map->jE,mem_range->fD,mem_singleton->ph,append_assoc->tV,foldl_append->oL,getElem?_eq_none->qB,ext_getElem?->sM,mem_cons_self->ga,mem_cons_of_mem->fR,flatMap_cons->Lk,filter_cons->ES,getElem?_range->yW,getElem_map->pg,filter_eq_nil_iff->Rj,length_set->nE,length_cons->iJ,length_singleton->Lq
open Go.Proofs.Tryz renaming prog->aj,func127->aa4,underlying36->RW
open Nat renaming le_of_ble_eq_true->lN,le_refl->aJ,zero_le->df,le_trans->fc,beq_refl->aaM,lt_or_ge->dT,reduceEqDiff->aY
open And renaming intro->ax
open Decidable renaming not_not->Lb
open Int renaming toNat_natCast->dS
open Array renaming getElem?_eq_none->xu
open Prod renaming fst->Fg
set_option maxHeartbeats 64000000
set_option maxRecDepth 100000
set_option linter.unusedSimpArgs false
set_option linter.unusedVariables false
set_option linter.constructorNameAsVariable false
set_option linter.defProp false
section
namespace Go.Proofs.YtnfciiiohoafaaaGreatDoor
open Go.AE Go.NT
def jL(l:List Pr):List Int:=l.map Pr.aC
def Q3(ae:List (List Int))(ag:List Int)(ep:Int)(X Y C T L:AV)(av:List Int)(text:List UInt8)(l:List Pr)(h:ao)(r:eL)(h':ao):Prop:=
 Ext h h'/\((dJ ae ag ep av text l≠0/\r=.ret (.tuple [.v (.pointer au),.v (.int .i64 (dJ ae ag ep av text l))]))∨
  (dJ ae ag ep av text l=0/\∃c Wt,r=.ret (.tuple [.ptr (.box c) 0,.v (.int .i64 0)])/\IL Wt (eP ae ag l)/\uO h' c ep X Y C T L Wt ((jX (al av 0) text l:Nat):Int) ((dR (al av 0) text l:Nat):Int) av text l))
def Ap{l}:∀{dH:Int},mb dH l=ai->∀p∈l,dH<p.aC/\p.aC<64/\0<=p.no/\p.no<4096/\b9 p.d=ai/\b9 p.e=ai:=by
 induction l with
 |nil=>intro _ _ p hp;simp at hp|cons q l ih=>
  intro dH h p hp;rw[NT.mb] at h;simp only[bA,decide_eq_true_eq] at h;obtain⟨⟨⟨⟨⟨⟨h1,h2⟩,h3⟩,h4⟩,h5⟩,h6⟩,h7⟩:=h;rcases jm.1 hp with rfl|hp
  ·exact⟨h1,h2,h3,h4,h5,h6⟩
  ·obtain⟨k1,k2,k3,k4,k5,k6⟩:=ih h7 p hp;exact⟨ah,k2,k3,k4,k5,k6⟩
def Pe{c0}{text}{l}{p}(hd:b9 p.d=ai)(he:b9 p.e=ai):elem (qX c0 text l p)=ai:=by unfold qX gF;rw[Pz];exact FI (Dh hd) (Ar (Dh he) _)
def akf{c0}{text}{l}{dH:Int}(h:mb dH l=ai):elem (jX c0 text l)=ai:=
 GZ (λp hp=>Pe (Ap h p hp).2.2.2.2.1 (Ap h p hp).2.2.2.2.2) Di
def Mi(h:ao)(bD:dj h=ai)(ep:Int)(X Y C T L:AV)(ae:List (List Int))(ag av:List Int)(text:List UInt8)(l:List Pr)
 (hx:RL X ae) (hy:IL Y ag) (hc:IL C av) (ht:BL T text) (hp:PL L l) (cV:av.length<=1000000) (dy:l.length<=1000000):
 ∃r h',W5.call 48 [.agg (cB ep X Y C),T,L] h=aa (r,h')/\Q3 ae ag ep X Y C T L av text l h r h':=by
 have bx:=yx (ep:=ep) hx hy hc;obtain⟨_,h2,c2,rfl,rfl⟩:=alK (h.push (cB ep X Y C)) ep X Y C ae ag av hx hy hc cV;have c1:=S4 X Y ae ag hx hy;have b0:=bp h (cB ep X Y C);have l1:aF aj Gt (h.push (cB ep X Y C)) 25 (.ptr (.box h.boxes.length) 1)=aa (.agg [X,Y]):=by rw[jj Fi (by kernel_rfl:dm aj 25=aa 2) b0 (lN rfl)];rfl
 have l2:aF aj Gt (h.push (cB ep X Y C)) 27 (.ptr (.box h.boxes.length) 0)=aa (.agg (cB ep X Y C)):=by rw[jj aw (by kernel_rfl:dm aj 27=aa 4) b0 (lN rfl)];rfl
 have l3:aF aj Gt ((h.push (cB ep X Y C)).push (cB ep X Y C)) 27 (.ptr (.box h.boxes.length) 0)=aa (.agg (cB ep X Y C)):=by rw[jj aw (by kernel_rfl:dm aj 27=aa 4) (aZ b0) (lN rfl)];rfl
 have ln1:=ht.dN;have ln2:=hp.dN;have lst:=air;have bw:mF aj 98 [(0,.agg (cB ep X Y C)),(1,T),(2,L),(4,.agg (bf 3 0 [] .nil 0 []))]=aa (.agg (gL ep X Y C T L (.list .nil 0 []) (.list .nil 0 []) 0 0))/\(AV.agg (gL ep X Y C T L (.list .nil 0 []) (.list .nil 0 []) 0 0)).bU=aa (gL ep X Y C T L (.list .nil 0 []) (.list .nil 0 []) 0 0):=by obtain⟨kx,sx,xs,rfl,-⟩:=hx.form;obtain⟨ky,sy,rfl,-⟩:=hy;obtain⟨kc,sc,rfl,-⟩:=hc;obtain⟨kt,st,rfl,-⟩:=ht;obtain⟨kp,sp,rfl,-⟩:=hp;exact⟨acs ep kx ky kc kt kp sx sy sc st sp _ _ _ _ _,rfl⟩
 obtain⟨bw1,bw2⟩:=bw;have kf:=aq.mk (ax hx (ax hy (ax hc (ax ht hp))));have B0:BI h (((h.push (cB ep X Y C)).push (cB ep X Y C)).push (gL ep X Y C T L (.list .nil 0 []) (.list .nil 0 []) 0 0)) ep X Y C T L h.boxes.length ((h.push (cB ep X Y C)).push (cB ep X Y C)).boxes.length (.list .nil 0 []) [] .nil:=
  ⟨((Ext.push _ _).trans (.push _ _)).trans (.push _ _),bD,.inl rfl,aZ (aZ b0),bp _ _,.inl ⟨rfl,rfl⟩,aJ _,by rw[cH,cH];omega⟩
 have X1:=aq.mk (Ext.push h (cB ep X Y C));have X2:=aq.mk ((Ext.push h (cB ep X Y C)).trans (Ext.push _ (cB ep X Y C)));have kE1:aq (dn ae ag≠0->dJ ae ag ep av text l=dn ae ag):=⟨λq=>by unfold dJ;rw[aD q]⟩;have kE2:aq (dn ae ag=0->qj ae ep av=ay->dJ ae ag ep av text l=380):=⟨λq1 q2=>by unfold dJ;rw[aG (by simp[q1]),aD];unfold qj at q2;rw[q2];rfl⟩;have kE3:aq (dn ae ag=0->qj ae ep av=ai->65536<text.length->dJ ae ag ep av text l=2):=⟨λq1 q2 q3=>by unfold dJ;unfold qj at q2;rw[aG (by simp[q1]),aG (by rw[q2];decide),aD q3]⟩;have kE4:aq (dn ae ag=0->qj ae ep av=ai->¬65536<text.length->64<l.length->dJ ae ag ep av text l=420):=⟨λq1 q2 q3 q4=>by unfold dJ;unfold qj at q2;rw[aG (by simp[q1]),aG (by rw[q2];decide),aG q3,aD q4]⟩;have kE5:aq (dn ae ag=0->qj ae ep av=ai->¬65536<text.length->¬64<l.length->mb (-1) l=ay->dJ ae ag ep av text l=420):=⟨λq1 q2 q3 q4 q5=>by unfold dJ;unfold qj at q2;rw[aG (by simp[q1]),aG (by rw[q2];decide),aG q3,aG q4,aD (by rw[q5];rfl)]⟩;have kE6:aq (dn ae ag=0->qj ae ep av=ai->¬65536<text.length->¬64<l.length->mb (-1) l=ai->∀y o e,iL ae ag (jL l)=(y,o,e)->dJ ae ag ep av text l=if e≠0∨o=ay∨l.length=0 then 420 else 0):=⟨λq1 q2 q3 q4 q5 y o e q6=>by unfold dJ;unfold qj at q2;rw[aG (by simp[q1]),aG (by rw[q2];decide),aG q3,aG q4,aG (by rw[q5];decide)];unfold jL at q6;rw[q6]⟩;have kW:aq (∀y o e,iL ae ag (jL l)=(y,o,e)->eP ae ag l=y):=⟨λy o e q=>by unfold eP;unfold jL at q;rw[q]⟩;have kR:aq (qj ae ep av=ai->av.length=bV ae/\av.all b9=ai):=⟨λq=>by unfold qj at q;simp only[bA,decide_eq_true_eq] at q;exact⟨q.1.2,q.2⟩⟩;unfold Q3;generalize dJ ae ag ep av text l=res at *
 clear hx hy hc ht hp b0;refine ec rfl Tryz.func48 rfl ?_;by_cases h0:dn ae ag=0;rotate_left 1
 ·have kr:=aq.mk (ax h0 (kE1.out h0));clear kE1 kE2 kE3 kE4 kE5 kE6 c2 bw1 bw2 B0 lst l3;generalize dn ae ag=q at *
  unfold im at *
  refine eg @nQ @bK @kj ?_;exact⟨_,_,rfl,X1.out,.inl ⟨by rw[kr.out.2];exact kr.out.1,by rw[kr.out.2]⟩⟩
 rw[h0] at c1;cases h1:qj ae ep av with
 |false=>
  have kr:=aq.mk (kE2.out h0 h1);rw[h1] at c2;clear kE1 kE2 kE3 kE4 kE5 kE6 bw1 bw2 B0 lst l3 h0 h1;unfold im at *
  refine eg @nQ @bK @kj ?_;exact⟨_,_,rfl,X2.out,.inl ⟨by rw[kr.out];decide,by rw[kr.out]⟩⟩
 |true=>
 rw[h1] at c2;by_cases h3:65536<text.length
 ·have kr:=aq.mk (kE3.out h0 h1 h3);have hI:(65536:Int)<(text.length:Int):=by omega
  clear kE1 kE2 kE3 kE4 kE5 kE6 bw1 bw2 B0 lst l3 h0 h1 h3;unfold im at *
  refine eg @nQ @bK @kj ?_;exact⟨_,_,rfl,X2.out,.inl ⟨by rw[kr.out];decide,by rw[kr.out]⟩⟩
 have hI:¬(65536:Int)<(text.length:Int):=by omega
 by_cases h4:64<l.length
 ·have kr:=aq.mk (kE4.out h0 h1 h3 h4);have FR:(64:Int)<(l.length:Int):=by omega
  clear kE1 kE2 kE3 kE4 kE5 kE6 bw1 bw2 B0 lst l3 h0 h1 h3 h4;unfold im at *
  refine eg @nQ @bK @kj ?_;exact⟨_,_,rfl,X2.out,.inl ⟨by rw[kr.out];decide,by rw[kr.out]⟩⟩
 have FR:¬(64:Int)<(l.length:Int):=by omega
 have kbad:=aq.mk (λq=>kE5.out h0 h1 h3 h4 q);have kgood:=aq.mk (λq=>kE6.out h0 h1 h3 h4 q);have kcom:=aq.mk (kR.out h1);have kprog:=aq.mk h0;have ktl:aq (text.length<=65536):=⟨ah⟩;have Jr:l.length<=64:=by omega
 clear kE1 kE2 kE3 kE4 kE5 kE6 kR h0 h1 h3 h4 X1 X2;have kB0:=aq.mk B0;clear B0;obtain⟨HW,Ur⟩:∃HW,((h.push (cB ep X Y C)).push (cB ep X Y C)).push (gL ep X Y C T L (.list .nil 0 []) (.list .nil 0 []) 0 0)=HW:=⟨_,rfl⟩;unfold im at *
 refine eg @nQ @bK @kj ?_;refine fQ nH aw ?_;refine eg @nQ @bK @kj ?_;rw[Ur] at kB0;refine bM.gen λe0 aV cY eV eO=>?_;have f1:e0.get 1=T:=by rw[aV];exact gS
 have f2:e0.get 2=L:=by rw[aV];exact gS
 have f3:e0.get 3=.ptr (.box h.boxes.length) 0:=by rw[aV];exact gS
 have f6:e0.get 6=.ptr (.box ((h.push (cB ep X Y C)).push (cB ep X Y C)).boxes.length) 0:=by rw[aV];exact gS
 have f9:e0.get 9=.list .nil 0 []:=by rw[aV];exact gS
 have f10:e0.get 10=.v (.int .i64 (-1)):=by rw[aV];exact gS
 have f39:e0.get 39=L:=by rw[aV];exact gS
 have f40:e0.get 40=.v (.int .i64 (l.length:Nat)):=by rw[aV];exact gS
 have f41:e0.get 41=.v (.int .i64 (0:Nat)):=by rw[aV];exact gR
 have fd:e0.defers=[]:=by rw[cY];exact gS
 clear aV cY eV eO c1 c2 l1 l2 l3 bw1 bw2 lst Ur hI FR ln1;generalize ((h.push (cB ep X Y C)).push (cB ep X Y C)).boxes.length=c at *
 generalize h.boxes.length=kb at *
 refine de (λm e H=>∃(i:Nat) (dH:Int) (t:Tok) (sz:Nat) (cur:AV),i<=l.length/\m=l.length - i/\aq (mb dH (l.drop i)=mb (-1) l)/\(-1<=dH)/\aq (BI h H ep X Y C T L kb c cur ((l.take i).map Pr.val) t)/\aq (sz=1∨(jL (l.take i)=[]/\t=.nil))/\
  e.get 1=T/\e.get 2=L/\e.get 3=.ptr (.box kb) 0/\e.get 6=.ptr (.box c) 0/\e.get 9=.list t sz (ints (jL (l.take i)))/\e.get 10=.v (.int .i64 dH)/\e.get 39=L/\e.get 40=.v (.int .i64 (l.length:Nat))/\e.get 41=.v (.int .i64 (i:Nat))/\e.defers=[]) ?_ l.length _ _ ?_
 rotate_left 1
 ·exact⟨0,-1,.nil,0,.list .nil 0 [],df _,rfl,⟨rfl⟩,Int.le_refl _,kB0,⟨.inr ⟨rfl,rfl⟩⟩,f1,f2,f3,f6,f9,f10,f39,f40,f41,fd⟩
 clear f1 f2 f3 f6 f9 f10 f39 f40 f41 fd kB0 HW;rintro m e H ⟨i,dH,t,sz,cur,hi,rfl,kP,ox,kB,ksz,g1,g2,g3,g6,g9,g10,g39,g40,g41,hd⟩;by_cases az:i<l.length
 ·obtain⟨p,qS⟩:∃p,l[i]?=aa p:=⟨_,a9 az⟩;have tw:l.drop i=p::l.drop (i+1):=by rw[List.drop_eq_getElem_cons az,(aQ.1 qS).2]
  have qR:=kP.out;rw[tw,NT.mb] at qR;have kpf:=aq.mk qR;have ix:=kf.out.2.2.2.2.ix az;have ld:=D3 (H:=H) (s:=4) qS;have st:=AA (H:=H) p;have zc:=Cz;have b0:=bp H (cD p);have q0:aF aj Gt (H.push (cD p)) 3 (.ptr (.box H.boxes.length) 0)=aa (.v (.int .i64 p.aC)):=cI eM b0 rfl;have q1:aF aj Gt (H.push (cD p)) 3 (.ptr (.box H.boxes.length) 1)=aa (.v (.int .i64 p.no)):=cI eM b0 rfl;have q2:aF aj Gt (H.push (cD p)) 3 (.ptr (.box H.boxes.length) 2)=aa (.v (.int .i64 p.d)):=cI eM b0 rfl;have q3:aF aj Gt (H.push (cD p)) 3 (.ptr (.box H.boxes.length) 3)=aa (.v (.int .i64 p.e)):=cI eM b0 rfl;have v1:=KV p.d;have v2:=KV p.e;have ir:(i:Int)<(l.length:Int):=by omega
  have kBp:=aq.mk (kB.out.push (cD p));have ktake:=aq.mk (gx qS);clear qR tw qS b0;have kbad2:aq ((decide (dH<p.aC)&&decide (p.aC<64)&&decide (0<=p.no)&&decide (p.no<4096)&&b9 p.d&&b9 p.e)=ay->res=420):=⟨λq=>by refine kbad.out ?_;rw[<-kpf.out,q];rfl⟩;unfold im at *
  by_cases e1:p.aC<=dH
  ·have d1:decide (p.aC<=dH)=ai:=cz e1;have kr:=aq.mk (kbad2.out (by rw[cX (ah:¬dH<p.aC)];rfl));clear e1;refine cq @nQ @jx ?_;exact⟨_,_,rfl,kBp.out.ext,.inl ⟨by rw[kr.out];decide,by rw[kr.out]⟩⟩
  have d1:decide (p.aC<=dH)=ay:=cX e1;by_cases e2:64<=p.aC
  ·have d2:decide (64<=p.aC)=ai:=cz e2;have kr:=aq.mk (kbad2.out (by rw[cX (ah:¬p.aC<64)];simp));clear e1 e2;refine cq @nQ @jx ?_;exact⟨_,_,rfl,kBp.out.ext,.inl ⟨by rw[kr.out];decide,by rw[kr.out]⟩⟩
  have d2:decide (64<=p.aC)=ay:=cX e2;by_cases e3:p.no<0
  ·have d3:decide (p.no<0)=ai:=cz e3;have kr:=aq.mk (kbad2.out (by rw[cX (ah:¬0<=p.no)];simp));clear e1 e2 e3;refine cq @nQ @jx ?_;exact⟨_,_,rfl,kBp.out.ext,.inl ⟨by rw[kr.out];decide,by rw[kr.out]⟩⟩
  have d3:decide (p.no<0)=ay:=cX e3;by_cases e4:4096<=p.no
  ·have d4:decide (4096<=p.no)=ai:=cz e4;have kr:=aq.mk (kbad2.out (by rw[cX (ah:¬p.no<4096)];simp));clear e1 e2 e3 e4;refine cq @nQ @jx ?_;exact⟨_,_,rfl,kBp.out.ext,.inl ⟨by rw[kr.out];decide,by rw[kr.out]⟩⟩
  have d4:decide (4096<=p.no)=ay:=cX e4;cases e5:b9 p.d with
  |false=>have kr:=aq.mk (kbad2.out (by rw[e5];simp));rw[e5] at v1;clear e1 e2 e3 e4 e5;refine cq @nQ @jx ?_;exact⟨_,_,rfl,kBp.out.ext,.inl ⟨by rw[kr.out];decide,by rw[kr.out]⟩⟩
  |true=>
  rw[e5] at v1;cases e6:b9 p.e with
  |false=>have kr:=aq.mk (kbad2.out (by rw[e6];simp));rw[e6] at v2;clear e1 e2 e3 e4 e5 e6;refine cq @nQ @jx ?_;exact⟨_,_,rfl,kBp.out.ext,.inl ⟨by rw[kr.out];decide,by rw[kr.out]⟩⟩
  |true=>
  rw[e6] at v2;have Oi:=zt e5;have hr6:=zt e6;have kP2:aq (mb p.aC (l.drop (i+1))=mb (-1) l):=⟨by rw[<-kpf.out,cz (ah:dH<p.aC),cz (ah:p.aC<64),cz (ah:0<=p.no),cz (ah:p.no<4096),e5,e6];rfl⟩;obtain⟨r,jU,lr⟩:=ajQ p (by intro x hx;simp only[jm,AN,or_false] at hx;rcases hx with rfl|rfl|rfl|rfl<;>omega);have hkl:(jL (l.take i)).length=i:=by unfold jL;rw[bJ,fb];omega
  have ap:=y7 (x:=p.aC) (es:=jL (l.take i)) ah ksz.out kBp.out.can;have bl:=rC p.aC;have U9:jL (l.take i)++[p.aC]=jL (l.take (i+1)):=by unfold jL;rw[ktake.out,oM];rfl
  rw[U9] at ap;have kBa:=aq.mk kBp.out.app;have pH:((l.take i).map Pr.val).length=i:=by rw[bJ,fb];omega
  obtain⟨H2,cs,t1,t2,t3,t4,t5⟩:=kBa.out.next ah jU;have len94:=kBa.out.la.dN;have lw:aF aj Gt ((H.push (cD p)).app t) 94 (.ptr (.box c) 10)=aa cur:=cI Sc kBa.out.work rfl;have bxx:((H.push (cD p)).app t).boxes[H.boxes.length]?=aa (cD p):=by rw[eS];exact bp _ _
  have q0':aF aj Gt ((H.push (cD p)).app t) 3 (.ptr (.box H.boxes.length) 0)=aa (.v (.int .i64 p.aC)):=cI eM bxx rfl;have q1':aF aj Gt ((H.push (cD p)).app t) 3 (.ptr (.box H.boxes.length) 1)=aa (.v (.int .i64 p.no)):=cI eM bxx rfl;have q2':aF aj Gt ((H.push (cD p)).app t) 3 (.ptr (.box H.boxes.length) 2)=aa (.v (.int .i64 p.d)):=cI eM bxx rfl;have q3':aF aj Gt ((H.push (cD p)).app t) 3 (.ptr (.box H.boxes.length) 3)=aa (.v (.int .i64 p.e)):=cI eM bxx rfl;have VP:(l.take i).map Pr.val++[p.val]=(l.take (i+1)).map Pr.val:=by rw[ktake.out,oM];rfl
  rw[VP] at t5;have kB2:=aq.mk t5;have bE:((H.push (cD p)).app t).boxes.length≠c:=by have:=kBa.out.Mx;omega
  rw[pH] at t1 t2 t3 t4 kB2 len94;have knext: -1<=p.aC:=by omega
  clear e1 e2 e3 e4 e5 e6 Oi hr6 t5 VP bxx U9 jU hkl pH kBp kBa kbad2 kpf kP ox;refine cq @nQ @jx ?_;refine anY 23 nH aw aw aw ?_ ?_
  ·refine ajM (n:=27) (bi:=((H.push (cD p)).app t).boxes.length) (bn:=c) (x1:=i * 4) (x2:=10) aw rfl rfl rfl rfl ?_ ?_ bE<;>(simp only[iK,gm];exact oo @nQ @qH @jx (ax @Ty (ax @GD (ax @Mp (ax @SA @and_self)))))
  refine bW @nQ @qH @jx (ax @Ty (ax @GD (ax @Mp @SA))) ?_;exact⟨l.length - (i+1),by omega,i+1,p.aC,_,1,_,by omega,rfl,kP2,knext,kB2,⟨.inl rfl⟩,by simp⟩
 have jz:i=l.length:=by omega
 subst jz;rw[gM] at g9 ksz kB;have Uy:mb (-1) l=ai:=by rw[<-kP.out,List.drop_of_length_le (aJ _)];rfl
 have kPok:=aq.mk Uy;have lk:aF aj Gt H 25 (.ptr (.box kb) 1)=aa (.agg [X,Y]):=by rw[jj Fi (by kernel_rfl:dm aj 25=aa 2) kB.out.key (lN rfl)];rfl
 have VU:IL (.list t sz (ints (jL l))) (jL l):=⟨t,sz,rfl,λq=>by
  rcases ksz.out with z|⟨z,-⟩
  ·exact z
  ·exact absurd z q⟩
 have agW:(jL l).length<=64:=by unfold jL;rw[bJ];exact Jr
 have Nj:(∃e,iL ae ag (jL l)=([],ay,e)/\∀h,W5.call 76 [.agg [X,Y],.list t sz (ints (jL l))] h=aa (.ret (.tuple [.list .nil 0 [],.v (.bool ay),.v (.int .i64 e)]),h))∨∃y,iL ae ag (jL l)=(y,ai,0)/\y.length=ae.length/\∀h,W5.call 76 [.agg [X,Y],.list t sz (ints (jL l))] h=aa (.ret (.tuple [.list .held 1 (ints y),.v (.bool ai),.v (.int .i64 0)]),h):=by obtain⟨k0,s0,xs,UD,-⟩:=kf.out.1.form;have:=R1 k0 s0 xs Y (.list t sz (ints (jL l))) ae ag (jL l) (by rw[<-UD];exact kf.out.1) kf.out.2.1 VU ah;rw[<-UD] at this;exact this
 clear Uy VU agW az kP ox hi;rcases Nj with⟨e0,a1,ca⟩|⟨y,a1,a2,ca⟩
 ·have kr:aq (res=420):=⟨by rw[kgood.out kPok.out _ _ _ a1,aD (.inr (.inl rfl))]⟩;clear a1;by_cases h9:e0=0
  ·subst h9;refine cq @nQ @kj ?_;exact⟨_,_,rfl,kB.out.ext,.inl ⟨by rw[kr.out];decide,by rw[kr.out]⟩⟩
  ·have d9:decide (e0=0)=ay:=cX h9;refine cq @nQ @kj ?_;exact⟨_,_,rfl,kB.out.ext,.inl ⟨by rw[kr.out];decide,by rw[kr.out]⟩⟩
 by_cases h9:l.length=0
 ·have kr:aq (res=420):=⟨by rw[kgood.out kPok.out _ _ _ a1,aD (.inr (.inr h9))]⟩;have d9:decide ((l.length:Int)=0)=ai:=cz ah;clear a1 h9;refine cq @nQ @kj ?_;exact⟨_,_,rfl,kB.out.ext,.inl ⟨by rw[kr.out];decide,by rw[kr.out]⟩⟩
 have d9:decide ((l.length:Int)=0)=ay:=cX ah;have kr:aq (res=0):=⟨by rw[kgood.out kPok.out _ _ _ a1,aG (by simp;intro q;rw[q] at h9;exact h9 rfl)]⟩;have kWt:=aq.mk (kW.out _ _ _ a1);obtain⟨m1,m2⟩:=kcom.out;have mpos:=(tY kprog.out).1;have F1:b9 (al av 0)=ai:=by rw[eE] at m2;exact m2 _ (by rw[fx ah];exact List.getElem_mem _)
 have agy:=zt F1;have p9:=kB.out.lo;have ahb:=kB.out.lt;have s1:=apP (x:=.list .held 1 (ints y)) kB.out.work rfl;obtain⟨b,vr,agG,jI,fG,ye,hb4⟩:∃(b:Nat) (vr:List (List AV)),cur=.arr b 0 vr.length vr.length/\H.boxes[b]?=aa vr.flatten/\pq (l.map Pr.val) vr/\b≠c/\c+1<=b:=by
  rcases kB.out.la with⟨q,-⟩|⟨-,q⟩
  ·exfalso;rw[EW] at q;rw[q] at h9;exact h9 rfl
  ·exact q
 subst agG;have Np:=kB.out.Mx;have W1:uO (H.put c (gL ep X Y C T L (.list .held 1 (ints y)) (.arr b 0 vr.length vr.length) 0 0)) c ep X Y C T L (.list .held 1 (ints y)) 0 0 av text l:=
  ⟨⟨b,vr,ey Np,by rw[cP ye];exact jI,fG⟩,kf.out.2.2.1,by omega,⟨ah,by omega⟩,kf.out.2.2.2.1,ktl.out,Jr⟩
 have E1:Ext h (H.put c (gL ep X Y C T L (.list .held 1 (ints y)) (.arr b 0 vr.length vr.length) 0 0)):=kB.out.ext.fI ah _;obtain⟨_,Hp,cp,xp,rfl⟩:=akE 70 [.ptr (.box c) 0] [] (qX (al av 0) text l) _ L l kf.out.2.2.2.2 ah (λq hq=>Pe (Ap kPok.out q hq).2.2.2.2.1 (Ap kPok.out q hq).2.2.2.2.2) (λq hq H' hX=>by have hm:=Ap kPok.out q hq;obtain⟨_,H2,n1,n2,rfl⟩:=WL H' c ep X Y C T L (.list .held 1 (ints y)) 0 0 av text l (W1.mono hX) q ⟨ah,by omega⟩ hm.2.2.2.2.1 hm.2.2.2.2.2;exact⟨H2,n1,n2⟩);have BQ:l.foldl (λx q=>x * qX (al av 0) text l q%P) 1=jX (al av 0) text l:=rfl;rw[BQ] at cp;have rU:=zt (uX (akf (c0:=al av 0) (text:=text) kPok.out));have E2:=E1.trans xp;have W2:=W1.mono xp;obtain⟨b',vr',w1,w2,w3⟩:=W2.eu;have Nk:b'≠c:=by intro q;have z1:Hp.boxes[c]?=aa (gL ep X Y C T L (.list .held 1 (ints y)) (.arr b 0 vr.length vr.length) 0 0):=xp.box _ _ (ey Np);rw[z1] at w1;unfold gL at w1;injection w1 with w1;simp only[List.cons.injEq,AV.arr.injEq,true_and,and_true] at w1;omega
 have s2:=apS (n:=((jX (al av 0) text l:Nat):Int)) w1;have UQ:=(aQ.1 w1).1;obtain⟨kt,st,UB,cd⟩:=kf.out.2.2.2.1;obtain⟨H5,Nd⟩:∃H5,Hp.put c (gL ep X Y C T L (.list .held 1 (ints y)) (.arr b' 0 vr'.length vr'.length) ((jX (al av 0) text l:Nat):Int) 0)=H5:=⟨_,rfl⟩;have w5:H5.boxes[c]?=aa (gL ep X Y C T L (.list .held 1 (ints y)) (.arr b' 0 vr'.length vr'.length) ((jX (al av 0) text l:Nat):Int) 0):=by rw[<-Nd];exact ey UQ
 have E5:Ext h H5:=by rw[<-Nd];exact E2.fI ah _
 have v5:H5.boxes[b']?=aa vr'.flatten:=by rw[<-Nd,cP Nk];exact w2
 have sl:=Qt ((jX (al av 0) text l:Nat):Int) (al av 0) text;have hh:=UG H5 xj .tight 1 [.iface 3 (.v (.int .i64 ((jX (al av 0) text l:Nat):Int))),.iface 3 (.v (.int .i64 (al av 0))),.iface 28 (.list kt st (aX text))] [.int ((jX (al av 0) text l:Nat):Int),.int (al av 0),.text text]
  (.cons (.int _ ⟨ah,by omega⟩) (.cons (.int _ ⟨ah,by omega⟩) (.cons (.text kt st text cd (by have:=ktl.out;omega)) .nil))) (λ_=>rfl) bG aO (by simp[gg,gO]) (by have:=ktl.out;omega)
 have uh:tq xj (.list [.int ((jX (al av 0) text l:Nat):Int),.int (al av 0),.text text])=dR (al av 0) text l:=rfl;rw[uh,<-UB,show xj=[115,105,103,110] from rfl] at hh;simp only[ev,List.map_nil] at hh;have lp:aF aj Gt H5 3 (.ptr (.box c) 11)=aa (.v (.int .i64 ((jX (al av 0) text l:Nat):Int))):=cI eM w5 rfl;have lC:aF aj Gt H5 23 (.ptr (.box c) 3)=aa C:=cI mW w5 rfl;obtain⟨kc,sc,hCe,DR⟩:=kf.out.2.2.1;have ixC:=kf.out.2.2.1.ix (i:=0) ah;have lC0:=fP (H:=H5) (l:=av) (i:=0) (s:=1) ah;have s3:=apR (n:=((dR (al av 0) text l:Nat):Int)) w5;have eZ:aq (Ext h (H5.put c (gL ep X Y C T L (.list .held 1 (ints y)) (.arr b' 0 vr'.length vr'.length) ((jX (al av 0) text l:Nat):Int) ((dR (al av 0) text l:Nat):Int)))/\uO (H5.put c (gL ep X Y C T L (.list .held 1 (ints y)) (.arr b' 0 vr'.length vr'.length) ((jX (al av 0) text l:Nat):Int) ((dR (al av 0) text l:Nat):Int))) c ep X Y C T L (.list .held 1 (ints y)) ((jX (al av 0) text l:Nat):Int) ((dR (al av 0) text l:Nat):Int) av text l):=
  ⟨E5.fI ah _,⟨⟨b',vr',ey (aQ.1 w5).1,by rw[cP Nk];exact v5,w3⟩,kf.out.2.2.1,by omega,⟨ah,by omega⟩,kf.out.2.2.2.1,ktl.out,Jr⟩⟩
 have kyw:aq (IL (.list .held 1 (ints y)) (eP ae ag l)):=⟨by rw[kWt.out];exact⟨_,_,rfl,λ_=>rfl⟩⟩;have ix0:dx aj 23 C (.v (.int .i64 0))=aa (.elem 1 (ints av) 0 0):=ixC;clear W1 W2 E1 E2 E5 w1 w2 w3 v5 sl uh BQ xp jI fG ye hb4 Np UQ Nk F1 agy rU mpos m1 m2 p9 ahb UB cd hCe DR h9 a1 a2 ixC w5;generalize ((jX (al av 0) text l:Nat):Int)=ptv at *
 generalize ((dR (al av 0) text l:Nat):Int)=chv at *
 generalize al av 0=c0 at *
 unfold im at *
 refine bW @nQ @kj @qH @List.cons_append.{0} ?_;refine fQ nH aw ?_;refine bW @nQ @ml @qH (ax @GD (ax @OE @SD)) ?_;exact⟨_,_,rfl,eZ.out.1,.inr ⟨kr.out,_,_,rfl,kyw.out,eZ.out.2⟩⟩
def Hl:Tryz.f17.results.toList=[.tmp 6,.tmp 7,.tmp 8,.tmp 9]:=aw
def Qa:Tryz.f54.results.toList=[.cell 6 85,.tmp 7]:=aw
def am7:Tryz.f125.results.toList=[.tmp 3]:=aw
def XP:Tryz.f127.results.toList=[.tmp 2]:=aw
def wg(c0:Int)(text:List UInt8)(l:List Pr):List Int:=l.map λp=>((gF c0 text l p.aC:Nat):Int)
def Fu{ae}{ag av}{ep}{text}{l}(h:dJ ae ag ep av text l=0):
 dn ae ag=0/\av.length=bV ae/\av.all b9=ai/\l.length<=64/\text.length<=65536/\mb (-1) l=ai:=by
 unfold dJ at h;split at h
 ·rename_i q;exact absurd h q
 ·rename_i q1;split at h
  ·simp at h
  ·rename_i q2;split at h
   ·simp at h
   ·rename_i q3;split at h
    ·simp at h
    ·rename_i q4;split at h
     ·simp at h
     ·rename_i q5;have q2':=(ZQ _).mp q2;rw[ZP] at q2';simp only[bA,decide_eq_true_eq] at q2';have q5':=(ZQ _).mp q5;rw[ZP] at q5';exact⟨Lb.1 q1,q2'.1.2,q2'.2,by omega,by omega,q5'⟩
def acN(h:ao)(bD:dj h=ai)(ep:Int)(X Y C T L:AV)(ae:List (List Int))(ag av:List Int)(text:List UInt8)(l:List Pr)
 (hx:RL X ae) (hy:IL Y ag) (hc:IL C av) (ht:BL T text) (hp:PL L l) (cV:av.length<=1000000) (dy:l.length<=1000000):
 ∃r h',W5.call 17 [.agg (cB ep X Y C),T,L] h=aa (r,h')/\
  ((dJ ae ag ep av text l≠0/\r=.ret (.tuple [.list .nil 0 [],.v (.int .i64 0),.v (.int .i64 0),.v (.int .i64 (dJ ae ag ep av text l))]))∨
  (dJ ae ag ep av text l=0/\∃Z,r=.ret (.tuple [Z,.v (.int .i64 ((jX (al av 0) text l:Nat):Int)),.v (.int .i64 ((dR (al av 0) text l:Nat):Int)),.v (.int .i64 0)])/\IL Z (wg (al av 0) text l))):=by
 have bx:=yx (ep:=ep) hx hy hc;obtain⟨r1,h1,c1,x1,post⟩:=Mi (h.push (cB ep X Y C)) bD ep X Y C T L ae ag av text l hx hy hc ht hp cV dy;have b0:=bp h (cB ep X Y C);have l0:aF aj Gt (h.push (cB ep X Y C)) 27 (.ptr (.box h.boxes.length) 0)=aa (.agg (cB ep X Y C)):=by rw[jj aw (by kernel_rfl:dm aj 27=aa 4) b0 (lN rfl)];rfl
 have kp:=aq.mk hp;have ko:=aq.mk (x1.ok bD);have kbo:=aq.mk (λq=>@Fu ae ag av ep text l q);have ln2:=hp.dN;clear hx hy hc ht hp b0 x1;generalize dJ ae ag ep av text l=res at *
 refine ec rfl Tryz.func17 rfl ?_;rcases post with⟨q,rfl⟩|⟨q,c,Wt,rfl,-,w⟩
 ·have kr:=aq.mk q;refine cq @Hl @bK ?_;exact⟨_,_,rfl,.inl ⟨kr.out,rfl⟩⟩
 obtain⟨-,-,-,-,-,p6⟩:=kbo.out q;have kP:=aq.mk p6;have kW:=aq.mk w;have kr:=aq.mk q;have Jr:=w.ll;obtain⟨b,vr,w1,-⟩:=w.eu;clear p6 w;subst q;refine cq @Hl @bK ?_;refine bM.gen λe0 aV cY eV eO=>?_;have f6:e0.get 6=.list .nil 0 []:=by rw[aV];exact gS
 have f10:e0.get 10=.ptr (.box c) 0:=by rw[aV];exact gS
 have f23:e0.get 23=L:=by rw[aV];exact gS
 have f24:e0.get 24=.v (.int .i64 (l.length:Nat)):=by rw[aV];exact gS
 have f25:e0.get 25=.v (.int .i64 (0:Nat)):=by rw[aV];exact gR
 have fd:e0.defers=[]:=by rw[cY];exact gS
 clear aV cY eV eO c1 l0 w1;have kbl:aq ((wg (al av 0) text l).length=l.length):=⟨by unfold wg;simp⟩;refine de (λm e H=>∃(i:Nat) (t:Tok) (sz:Nat),i<=l.length/\m=l.length - i/\aq (Gr h1 H t)/\aq (sz=1∨((wg (al av 0) text l).take i=[]/\t=.nil))/\e.get 6=.list t sz (ints ((wg (al av 0) text l).take i))/\e.get 10=.ptr (.box c) 0/\e.get 23=L/\e.get 24=.v (.int .i64 (l.length:Nat))/\e.get 25=.v (.int .i64 (i:Nat))/\e.defers=[]) ?_ l.length _ _ ?_;rotate_left 1
 ·exact⟨0,.nil,0,df _,rfl,⟨Gr.nil (.refl _) ko.out⟩,⟨.inr ⟨rfl,rfl⟩⟩,f6,f10,f23,f24,f25,fd⟩
 clear f6 f10 f23 f24 f25 fd;rintro m e H ⟨i,t,sz,hi,rfl,kG,ksz,g6,g10,g23,g24,g25,hd⟩;by_cases az:i<l.length
 ·obtain⟨p,qS⟩:∃p,l[i]?=aa p:=⟨_,a9 az⟩;have hm:=Ap kP.out p (ez qS);have ix:=kp.out.ix az;have ld:=D3 (H:=H) (s:=4) qS;have st:=AA (H:=H) p;have zc:=Cz;have l2:=Cf (bp H (cD p));obtain⟨_,H2,cb,rfl,rfl⟩:=Ml (H.push (cD p)) c ep X Y C T L Wt _ _ av text l ((kW.out.mono kG.out.1).mono (.push _ _)) p ⟨ah,by omega⟩;have hv:(wg (al av 0) text l)[i]?=aa ((gF (al av 0) text l p.aC:Nat):Int):=by unfold wg;rw[eR,qS];rfl
  have kG2:=(kG.out.push (cD p)).push (cD p);have ap:=y7 (x:=((gF (al av 0) text l p.aC:Nat):Int)) (es:=(wg (al av 0) text l).take i) (by rw[fb];omega) ksz.out kG2.2.2;rw[<-gx hv] at ap;have kG3:=aq.mk kG2.app;have bl:=rC ((gF (al av 0) text l p.aC:Nat):Int);have ir:(i:Int)<(l.length:Int):=by omega
  clear hv hm qS kG2;generalize ((gF (al av 0) text l p.aC:Nat):Int)=bn at *
  unfold im at *
  refine bR @Hl ?_;exact⟨l.length - (i+1),by omega,i+1,_,1,by omega,rfl,kG3,⟨.inl rfl⟩,by simp⟩
 ·have jz:i=l.length:=by omega
  subst jz;rw[fK (by rw[kbl.out];exact aJ _)] at g6 ksz;obtain⟨b2,vr2,w2,-⟩:=(kW.out.mono kG.out.1).eu;have lp:aF aj Gt H 3 (.ptr (.box c) 11)=aa (.v (.int .i64 ((jX (al av 0) text l:Nat):Int))):=cI eM w2 rfl;have lc:aF aj Gt H 3 (.ptr (.box c) 12)=aa (.v (.int .i64 ((dR (al av 0) text l:Nat):Int))):=cI eM w2 rfl;clear w2;generalize ((jX (al av 0) text l:Nat):Int)=ptv at *
  generalize ((dR (al av 0) text l:Nat):Int)=chv at *
  refine bR @Hl ?_;refine fQ nH aw ?_;refine cq @Hl @qH ?_;refine⟨_,_,rfl,.inr ⟨aT,_,rfl,t,sz,rfl,λq=>?_⟩⟩;rcases ksz.out with z|⟨z,-⟩
  ·exact z
  ·exact absurd z q
def J2(n):(AV.v (.int .i64 n)).bU=aa [.v (.int .i64 n)]:=rfl
def akG(r)(o):(AV.ptr r o).bU=aa [.ptr r o]:=rfl
def aje(n)(h):W5.call 127 [im n] h=aa (.ret (.v (.bool (mP n))),h):=by
 unfold im mP;by_cases h0:n<0
 ·refine cN rfl aa4 rfl ?_;have:decide (n<0)=ai:=by simp[h0]
  exact jq @XP @Bool.true_or
 ·refine cN rfl aa4 rfl ?_;have:decide (n<0)=ay:=by simp[h0]
  exact jq @XP @Bool.false_or
def ahW(H)(b)(k)(hb:H.boxes[b]?=aa [.v (.int .i64 k)])(q):∃H',W5.call 125 [.agg (cD q),.ptr (.box b) 0] H=aa (.ret (.v (.bool (decide (q.aC=k)))),H')/\Ext H H':=by have bc:(AV.agg (cD q)).bU=aa (cD q):=rfl;have l0:aF aj Gt (H.push (cD q)) 3 (.ptr (.box H.boxes.length) 0)=aa (.v (.int .i64 q.aC)):=cI eM (bp _ _) rfl;have l1:aF aj Gt (H.push (cD q)) 3 (.ptr (.box b) 0)=aa (.v (.int .i64 k)):=cI eM (aZ hb) rfl;refine ij rfl Tryz.func125 rfl ?_;clear hb;refine eg @am7 @bK @jx ?_;exact⟨_,rfl,.push _ _⟩
def TF(h:ao)(c:Nat)(cs:List AV)(L:AV)(l:List Pr)(aC:Int)(ns:List Int)(N:AV)(hb:h.boxes[c]?=aa cs)(bZ:cs[5]?=aa L)(hp:PL L l)(hl:l.length<=1000000)(hN:IL N ns)(pE:ns.length<=1000):
 ∃r h',W5.call 54 [.ptr (.box c) 0,.v (.int .i64 aC),N] h=aa (r,h')/\Ext h h'/\
  (((pI l aC=au∨ns.all cE=ay)/\r=.ret (.tuple [.agg (cD ⟨0,0,0,0⟩),.v (.int .i64 1)]))∨∃q,pI l aC=aa q/\ns.all cE=ai/\r=.ret (.tuple [.agg (cD q),.v (.int .i64 0)])):=by
 have zc:=Cz;have H0:((h.push [.v (.int .i64 aC)]).push (cD ⟨0,0,0,0⟩)).boxes[h.boxes.length]?=aa [.v (.int .i64 aC)]:=aZ (bp _ _);have H1:((h.push [.v (.int .i64 aC)]).push (cD ⟨0,0,0,0⟩)).boxes[c]?=aa cs:=aZ (aZ hb);have H2:=bp (h.push [.v (.int .i64 aC)]) (cD ⟨0,0,0,0⟩);obtain⟨_,h3,c1,x1,post⟩:=ahK 125 [.ptr (.box h.boxes.length) 0] (λp=>decide (p.aC=aC)) ((h.push [.v (.int .i64 aC)]).push (cD ⟨0,0,0,0⟩)) L l hp hl (λq _ H hX=>ahW H h.boxes.length aC (hX.box _ _ H0) q);have l0:aF aj Gt ((h.push [.v (.int .i64 aC)]).push (cD ⟨0,0,0,0⟩)) 29 (.ptr (.box c) 5)=aa L:=cI xO H1 bZ;have l1:aF aj Gt h3 29 (.ptr (.box c) 5)=aa L:=cI xO (x1.box _ _ H1) bZ;have g2:=x1.box _ _ H2;have l2:=Cf g2;have st0:b8 aj h3 85 (.ptr (.box (h.push [.v (.int .i64 aC)]).boxes.length) 0) (.agg (cD ⟨0,0,0,0⟩))=aa h3:=by rw[fw (off:=0) (xs:=cD ⟨0,0,0,0⟩) rfl AB g2 rfl (aJ 4),xn rfl,nt g2]
 have cc:=IP (pr:=Ej) rfl rfl 127 [] mP h3 N ns hN ah (λn _=>aje n _);have jS:=Ma ns;have X3:=aq.mk (((Ext.push h [.v (.int .i64 aC)]).trans (Ext.push _ (cD ⟨0,0,0,0⟩))).trans x1);have NG:=(aQ.1 g2).1;have stq:∀q:Pr,b8 aj h3 85 (.ptr (.box (h.push [.v (.int .i64 aC)]).boxes.length) 0) (.agg (cD q))=aa (h3.put (h.push [.v (.int .i64 aC)]).boxes.length (cD q))/\aF aj Gt (h3.put (h.push [.v (.int .i64 aC)]).boxes.length (cD q)) 85 (.ptr (.box (h.push [.v (.int .i64 aC)]).boxes.length) 0)=aa (.agg (cD q)):=λq=>by refine⟨?_,Cf (ey NG)⟩;rw[fw (off:=0) (xs:=cD q) rfl AB g2 rfl (aJ 4)];rfl
 have XQ:∀q:Pr,Ext h (h3.put (h.push [.v (.int .i64 aC)]).boxes.length (cD q)):=λq=>X3.out.fI (by rw[cH];omega) _;have kq:=aq.mk (ax stq XQ);rw[cH] at l2 st0;have kp:=aq.mk hp;unfold pI;clear H0 H1 H2 hb bZ g2 x1 hN stq XQ hp NG;refine ec rfl Tryz.func54 rfl ?_;unfold im at *
 rcases post with⟨p1,rfl⟩|⟨i,q,rfl,p2,p3⟩
 ·have kn:=aq.mk p1;clear p1 cc;refine bW @Qa @bK @cH (ax @qH @J2) ?_;exact⟨_,_,rfl,X3.out,.inl ⟨.inl kn.out,rfl⟩⟩
 ·have kn:=aq.mk (ax p2 p3);have dG:=(aQ.1 p2).1;have ix:=kp.out.ix dG;have ld:=D3 (H:=h3) (s:=4) p2;have arX:decide (((i:Nat):Int)<0)=ay:=cX ah;obtain⟨s1,s2⟩:=kq.out.1 q;rw[cH] at s1 s2;have XQq:=kq.out.2 q;rw[cH] at XQq;have kXQ:=aq.mk XQq;clear XQq;clear p2 p3;cases ho:ns.any mP with|true=>rw[ho] at cc jS;have kh:=aq.mk jS;clear ho jS;refine bW @Qa @bK @cH (ax @qH @J2) ?_;exact⟨_,_,rfl,X3.out,.inl ⟨.inr kh.out.symm,rfl⟩⟩|false=>rw[ho] at cc jS;have kh:=aq.mk jS;clear ho jS;refine bW @Qa @bK @cH (ax @qH @J2) ?_;exact⟨_,_,rfl,kXQ.out,.inr ⟨q,kn.out.2,kh.out.symm,rfl⟩⟩
def aiF(k)(s)(es):(AV.list k s es).bU=aa [.list k s es]:=rfl
def anz:Tryz.f55.results.toList=[.tmp 4]:=aw
def Hk:Tryz.f128.results.toList=[]:=aw
def anB:Tryz.f72.results.toList=[.tmp 2]:=aw
def XS:Tryz.f139.results.toList=[.tmp 4]:=aw
def ek(ag:List Int)(aC:Int)(k:Nat):List Nat:=(bL k).filter λi=>decide (al ag i=aC)
def Hh{ag}{aC}{k}(h:al ag k=aC):ek ag aC (k+1)=ek ag aC k++[k]:=by unfold ek;rw[oN,CO,Ij (by simp[h])];rfl
def Cq{ag}{aC}{k}(h:al ag k≠aC):ek ag aC (k+1)=ek ag aC k:=by unfold ek;rw[oN,CO,Ii (by simp[h])];simp
def Kk(ag)(aC):ek ag aC ag.length=iZ ag aC:=rfl
def amW(ag)(aC)(k):(ek ag aC k).length<=k:=by unfold ek;exact fc (Im _ _) bG
def XK(h:ao)(c:Nat)(aC:Int):W5.call 55 [.ptr (.box c) 0,.v (.int .i64 aC)] h=aa (.ret (.func (.func 128) [] [.ptr (.box h.boxes.length) 0,.ptr (.box (h.boxes.length+1)) 0]),(h.push [.ptr (.box c) 0]).push [.v (.int .i64 aC)]):=by refine cN rfl Tryz.func55 rfl ?_;exact oo @anz @bK @cH (ax @J2 @akG)
def XM(l wb kb c:Nat)(Y:AV)(ag:List Int)(aC:Int)(Inv:Nat->ao->Prop)(Stop:ao->Prop)(hy:IL Y ag)(tG:ag.length<=1000000)
 (h1:∀k H,Inv k H->H.boxes[wb]?=aa [.ptr (.box c) 0]/\H.boxes[kb]?=aa [.v (.int .i64 aC)]/\∃cs,H.boxes[c]?=aa cs/\cs[2]?=aa Y)
 (hR:∀k H,k<ag.length->al ag k=aC->Inv k H->(∃H',W5.round l [.v (.int .i64 (k:Nat))] H=aa (.ret (.v (.bool ai)),H')/\Inv (k+1) H')∨∃H',W5.round l [.v (.int .i64 (k:Nat))] H=aa (.ret (.v (.bool ay)),H')/\Stop H')
 (hS:∀k H,k<ag.length->al ag k≠aC->Inv k H->Inv (k+1) H)
 (H0:ao) (h0:Inv 0 H0):∃H',W5.call 128 [.yield l,.ptr (.box wb) 0,.ptr (.box kb) 0] H0=aa (.ret (.tuple []),H')/\(Inv ag.length H'∨Stop H'):=by
 have kk:=aq.mk (ax h1 (ax hR (ax hS (ax h0 hy))));obtain⟨b1,-,cs,b3,b4⟩:=h1 0 H0 h0;have l1:aF aj Gt H0 90 (.ptr (.box wb) 0)=aa (.ptr (.box c) 0):=cI v9 b1 rfl;have l2:aF aj Gt H0 23 (.ptr (.box c) 2)=aa Y:=cI mW b3 b4;have ln:=hy.dN;clear h1 hR hS h0 hy b1 b3 b4;refine ij rfl Tryz.func128 rfl ?_;refine bW @Hk @qH @kj @aff ?_;refine de (λm e H=>∃k:Nat,k<=ag.length/\m=ag.length - k/\aq (Inv k H)/\e.get 0=.yield l/\e.get 2=.ptr (.box kb) 0/\e.get 11=Y/\e.get 12=.v (.int .i64 (ag.length:Nat))/\e.get 13=.v (.int .i64 (k:Nat))/\e.defers=[]) ?_ ag.length _ _ ?_;rotate_left 1
 ·refine⟨0,df _,rfl,⟨kk.out.2.2.2.1⟩,?_,?_,?_,?_,?_,?_⟩<;>exact gR
 clear l1 l2;rintro m e H ⟨k,hk,rfl,kI,g0,g2,g11,g12,g13,hd⟩;by_cases az:k<ag.length;rotate_left 1
 ·have:k=ag.length:=by omega
  subst this;refine bR @Hk ?_;exact⟨_,rfl,.inl kI.out⟩
 obtain⟨-,b2,-⟩:=kk.out.1 k H kI.out;have ix:=kk.out.2.2.2.2.ix az;have ld:=fP (H:=H) (l:=ag) (i:=k) (s:=1) az;have lk:aF aj Gt H 3 (.ptr (.box kb) 0)=aa (.v (.int .i64 aC)):=cI eM b2 rfl;have ir:(k:Int)<(ag.length:Int):=by omega
 clear b2;by_cases hc:al ag k=aC
 ·have dq:decide (al ag k=aC)=ai:=cz hc;rcases kk.out.2.1 k H az hc kI.out with⟨H',r1,r2⟩|⟨H',r1,r2⟩
  ·have kI2:=aq.mk r2;clear r2 hc kI;generalize al ag k=ow at *
   refine cq @Hk @zf ?_;exact⟨ag.length - (k+1),by omega,k+1,by omega,rfl,kI2,by simp⟩
  ·have kI2:=aq.mk r2;clear r2 hc kI;generalize al ag k=ow at *
   refine cq @Hk @zf ?_;exact⟨_,rfl,.inr kI2.out⟩
 ·have dq:decide (al ag k=aC)=ay:=cX hc;have kI2:=aq.mk (kk.out.2.2.1 k H az hc kI.out);clear hc kI;generalize al ag k=ow at *
  refine cq @Hk @zf ?_;exact⟨ag.length - (k+1),by omega,k+1,by omega,rfl,kI2,by simp⟩
def EH(h h1:ao)(b2:Nat)(LP:List gZ)(ag:List Int)(aC:Int)(k:Nat)(H:ao):Prop:=
 ∃t s,H.loops=LP/\H.boxes[b2]?=aa [.list t s (ints (dg (ek ag aC k)))]/\(s=1∨(ek ag aC k=[]/\t=.nil))/\dQ h.tn H t/\dj H=ai/\Ext h H/\∀(a:Nat) (cs:List AV),h1.boxes[a]?=aa cs->a≠b2->H.boxes[a]?=aa cs
def abX(h:ao)(bD:dj h=ai)(c wb kb:Nat)(Y:AV)(ag:List Int)(aC:Int)(cs:List AV)(hy:IL Y ag)(tG:ag.length<=1000000)(b1:h.boxes[wb]?=aa [.ptr (.box c) 0])(b2:h.boxes[kb]?=aa [.v (.int .i64 aC)])(b3:h.boxes[c]?=aa cs)(b4:cs[2]?=aa Y):
 ∃r h',W5.call 139 [.list .nil 0 [],.func (.func 128) [] [.ptr (.box wb) 0,.ptr (.box kb) 0]] h=aa (r,h')/\Ext h h'/\∃Z,r=.ret Z/\IL Z (dg (iZ ag aC)):=by
 refine ec rfl Tryz.func139 rfl ?_;refine eg @XS @bK @aiF ?_;refine bM.gen λe4 fV rP uk rW=>?_;have f2:e4.get 2=.ptr (.box h.boxes.length) 0:=by rw[fV];exact gS
 have f6:e4.get 6=.func (.func 128) [] [.ptr (.box wb) 0,.ptr (.box kb) 0]:=by rw[fV];exact gS
 have fd:e4.defers=[]:=by rw[rP];exact gS
 clear fV rP uk rW;refine Ct (by rw[zw];exact f6) λrec w1 w2 w3 w4 w5 w6=>?_;have BZ:=(aQ.1 b1).1;have zT:=(aQ.1 b2).1;have F2:=(aQ.1 b3).1;obtain⟨h1,ov⟩:∃h1,h.push [.list .nil 0 []]=h1:=⟨_,rfl⟩;have g0:h1.boxes[h.boxes.length]?=aa [.list .nil 0 []]:=by rw[<-ov];exact bp _ _
 have g1:h1.boxes[wb]?=aa [.ptr (.box c) 0]:=by rw[<-ov];exact aZ b1
 have g2:h1.boxes[kb]?=aa [.v (.int .i64 aC)]:=by rw[<-ov];exact aZ b2
 have g3:h1.boxes[c]?=aa cs:=by rw[<-ov];exact aZ b3
 have dy:h1.loops.length=h.loops.length:=by rw[<-ov];rfl
 have oy:dj h1=ai:=by rw[<-ov];exact bD
 have X1:Ext h h1:=by rw[<-ov];exact .push _ _
 have gv:(h1.loop rec).loops[h1.loops.length]?=aa rec:=@Ch h1 rec;have XL:Ext h (h1.loop rec):=X1.trans ((Fr.Ai (bn:=h1.boxes.length) (l0:=h1.loops.length) (n0:=h1.tn) h1 rec).ext (aJ _) (aJ _) (aJ _));rw[ov];have feed:=XM h1.loops.length wb kb c Y ag aC (EH h h1 h.boxes.length (h1.loop rec).loops ag aC) (λ_=>False) hy tG
  (λk H q=>by obtain⟨_,_,-,-,-,-,-,-,q7⟩:=q;exact⟨q7 _ _ g1 ah,q7 _ _ g2 ah,cs,q7 _ _ g3 ah,b4⟩)
  ?_
  (λk H _ hc q=>by
   unfold EH at *
   rw[Cq hc];exact q)
  (h1.loop rec) ⟨.nil,0,rfl,g0,.inr ⟨rfl,rfl⟩,.inl rfl,oy,XL,λa cs ha _=>ha⟩
 rotate_left 1
 ·rintro k H hk hc ⟨t,s,i1,i2,i3,i4,i5,i6,i7⟩;left;have ui:H.loops[h1.loops.length]?=aa rec:=by rw[i1];exact gv
  refine Hg (Post:=EH h h1 h.boxes.length (h1.loop rec).loops ag aC (k+1)) ui (by rw[w2];rfl) w5 w6 ?_;have r1:∀t,(mT h1.loops.length rec [.v (.int .i64 (k:Nat))]).get t=if 7=t then .v (.int .i64 (k:Nat)) else e4.get t:=λt=>XI w2 w1
  have d1:(mT h1.loops.length rec [.v (.int .i64 (k:Nat))]).defers=[]:=rfl;obtain⟨K,hK⟩:∃K,H.busy h1.loops.length rec=K:=⟨_,rfl⟩;have kb1:K.boxes[h.boxes.length]?=aa [.list t s (ints (dg (ek ag aC k)))]:=by rw[<-hK];exact i2
  have kc1:dQ h.tn K t:=by rw[<-hK];exact i4
  have bO:(dg (ek ag aC k)).length<=k:=by unfold dg;rw[bJ];exact amW _ _ _
  have ap:=y7 (x:=(k:Int)) (es:=dg (ek ag aC k)) ah (i3.imp_right λq=>⟨by rw[q.1];rfl,q.2⟩) kc1;have cd:dg (ek ag aC k)++[(k:Int)]=dg (ek ag aC (k+1)):=by rw[Hh hc];unfold dg;simp
  rw[cd] at ap;have lA:=uu kb1;have sA:b8 aj (K.app t) 23 (.ptr (.box h.boxes.length) 0) (.list (.free K.tn) 1 (ints (dg (ek ag aC (k+1)))))=aa ((K.app t).put h.boxes.length [.list (.free K.tn) 1 (ints (dg (ek ag aC (k+1))))]):=
   fw (off:=0) (cs:=[.list t s (ints (dg (ek ag aC k)))]) (xs:=[.list (.free K.tn) 1 (ints (dg (ek ag aC (k+1))))]) rfl jN (by rw[eS];exact kb1) rfl (aJ 1)
  have bl:=rC (k:Int);have gr:=Grown.one i4 i5 i6.tn;have eZ:aq (EH h h1 h.boxes.length (h1.loop rec).loops ag aC (k+1) ((H.app t).put h.boxes.length [.list (.free H.tn) 1 (ints (dg (ek ag aC (k+1))))])):=by
   have tE:=(aQ.1 i2).1;refine⟨_,1,?_,?_,.inl rfl,by rw[A3];exact gr.can,gr.ok,(gr.ext i6 (aJ _)).fI (aJ _) _,λa cs ha bE=>?_⟩
   ·show(H.app t).loops=_;rw[wc];exact i1
   ·exact ey (by rw[eS];exact tE)
   ·rw[cP bE,eS];exact i7 a cs ha bE
  clear i1 i2 i3 i4 i5 i6 i7 gr cd bO hc kb1 kc1 g0 g1 g2 g3 X1 XL oy dy BZ zT F2 b1 b2 b3 ov;rw[hK];rw[w3,w4];refine xY ?_;refine⟨aT,aT,aT,?_,?_⟩
  ·show(K.app t).loops=_;rw[wc]
  ·rw[<-hK];refine(congrArg (EH h h1 h.boxes.length (h1.loop rec).loops ag aC (k+1)) ?_).mpr eZ.out;cases t<;>rfl
 ·obtain⟨Hf,c1,⟨t,s,i1,i2,i3,i4,i5,i6,i7⟩|z⟩:=feed;rotate_left 1
  ·exact z.elim
  refine⟨_,_,c1,rec,by rw[i1];exact gv,by rw[w5];decide,.inl ⟨w6,?_⟩⟩;have q1:(Hf.eH h1.loops.length {rec with state:=.exhausted}).boxes[h.boxes.length]?=aa [.list t s (ints (dg (ek ag aC ag.length)))]:=i2;have XF:Ext h (Hf.eH h1.loops.length {rec with state:=.exhausted}):=((Fr.Cj (bn:=h.boxes.length) (l0:=h.loops.length) (n0:=h.tn) i6 (aJ _)).trans (.eH ah _)).ext (aJ _) (aJ _) (aJ _);generalize Hf.eH h1.loops.length {rec with state:=.exhausted}=HF at *
  have lA:=uu q1;have eZ:=aq.mk (ax XF i3);clear q1 XF i1 i2 i3 i4 i5 i6 i7 c1 g0 g1 g2 g3 X1 XL oy dy BZ zT F2 b1 b2 b3 gv w1 w2 w3 w4 w5 w6 ov;refine bR @XS ?_;refine⟨_,_,rfl,eZ.out.1,_,rfl,t,s,by rw[Kk],λq=>?_⟩;rcases eZ.out.2 with z|⟨z,-⟩
  ·exact z
  ·exfalso;rw[Kk] at z;rw[z] at q;exact q rfl
def ad5(h)(bD:dj h=ai)(c wb kb)(Y)(ag)(aC)(cs)(hy:IL Y ag)(tG:ag.length<=1000000)(b1:h.boxes[wb]?=aa [.ptr (.box c) 0])(b2:h.boxes[kb]?=aa [.v (.int .i64 aC)])(b3:h.boxes[c]?=aa cs)(b4:cs[2]?=aa Y):
 ∃r h',W5.call 72 [.func (.func 128) [] [.ptr (.box wb) 0,.ptr (.box kb) 0]] h=aa (r,h')/\Ext h h'/\∃Z,r=.ret Z/\IL Z (dg (iZ ag aC)):=by
 obtain⟨_,h',c1,X,Z,rfl,hZ⟩:=abX h bD c wb kb Y ag aC cs hy tG b1 b2 b3 b4;have kZ:=aq.mk (ax X hZ);clear X hZ b1 b2 b3 b4 hy;refine ec rfl Tryz.func72 rfl ?_;refine bR @anB ?_;exact⟨_,_,rfl,kZ.out.1,_,rfl,kZ.out.2⟩
def Yg:Tryz.f67.results.toList=[.tmp 4]:=aw
def Hu:Tryz.f22.results.toList=[.tmp 10,.tmp 11]:=aw
def Zw:(gy aj 90).bind AV.bU=aa [.v (.pointer au)]:=aw
def QG{H:ao}(c):b8 aj (H.push [.v (.pointer au)]) 90 (.ptr (.box H.boxes.length) 0) (.ptr (.box c) 0)=aa (H.push [.ptr (.box c) 0]):=jt rfl aw rfl rfl
def vG(ae:List (List Int))(av W:List Int)(ch:Int)(row:Int):Nat:=br (mS av (ae.getD row.toNat [])) (al W row.toNat * ch)
def PH{av row}(h:av.all b9=ai):elem (mS av row)=ai:=PG h _ (aJ _)
def akr(x)(a b):br x (db a b)=br x (a * b):=GW (by rw[tc,Int.emod_emod_of_dvd _ (Int.dvd_refl _)])
def akH(H:ao)(kb wb c:Nat)(ep:Int)(X Y C T L Wt:AV)(pt ch:Int)(ae:List (List Int))(ag av W:List Int)(text:List UInt8)(l:List Pr)
 (hx:RL X ae) (hy:IL Y ag) (hc:IL C av) (hW:IL Wt W) (cV:av.length<=1000000) (Dw:iT ae ag av=0) (ji:W.length=ae.length)
 (k1:H.boxes[kb]?=aa (cB ep X Y C)) (k2:H.boxes[wb]?=aa [.ptr (.box c) 0]) (w:uO H c ep X Y C T L Wt pt ch av text l) (row:Nat) (dU:row<ae.length):
 ∃H',W5.call 67 [im (row:Nat),.ptr (.box kb) 0,.ptr (.box wb) 0] H=aa (.ret (im (vG ae av W ch (row:Nat):Nat)),H')/\Ext H H':=by
 obtain⟨_,H2,c1,rfl,x1⟩:=Xr H X Y C ae ag av hx hy hc cV (row:Nat);obtain⟨p1,p2,p3⟩:=S7 Dw;have VB:tL ae ag av (row:Nat)=(((mS av (ae.getD row []):Nat):Int),0):=by unfold tL;rw[aG (by simp[Dw]),aG (by rw[cX (show ¬((row:Nat):Int)<0 by omega),cX (show ¬(ae.length:Int)<=((row:Nat):Int) by omega)];simp),dS]
 rw[VB] at c1;have l1:aF aj Gt H 25 (.ptr (.box kb) 1)=aa (.agg [X,Y]):=by rw[jj Fi (by kernel_rfl:dm aj 25=aa 2) k1 (lN rfl)];rfl
 have l2:aF aj Gt H 23 (.ptr (.box kb) 3)=aa C:=cI mW k1 rfl;have l3:aF aj Gt H2 90 (.ptr (.box wb) 0)=aa (.ptr (.box c) 0):=cI v9 (x1.box _ _ k2) rfl;obtain⟨b,vr,w1,-⟩:=(w.mono x1).eu;have l4:aF aj Gt H2 23 (.ptr (.box c) 6)=aa Wt:=cI mW w1 rfl;have l5:aF aj Gt H2 3 (.ptr (.box c) 12)=aa (.v (.int .i64 ch)):=cI eM w1 rfl;have ix:=hW.ix (i:=row) ah;have l6:=fP (H:=H2) (l:=W) (i:=row) (s:=1) ah;have c2:=JY (al W row) ch;have he:=uX (PH (row:=ae.getD row []) p3);have c3:=GY ((mS av (ae.getD row []):Nat):Int) (db (al W row) ch);rw[td he,dS,akr] at c3;have tH:vG ae av W ch (row:Nat)=br (mS av (ae.getD row [])) (al W row * ch):=by unfold vG;rw[dS]
 rw[tH];have kX:=aq.mk x1;clear VB tH he x1 w w1 k1 k2 hx hy hc hW Dw p1 p2 p3;generalize ((br (mS av (ae.getD row [])) (al W row * ch):Nat):Int)=res at *
 generalize db (al W row) ch=m at *
 generalize ((mS av (ae.getD row []):Nat):Int)=pv at *
 generalize al W row=wr at *
 unfold im at *
 refine ij rfl Tryz.func67 rfl ?_;refine eg @Yg @kj @ml ?_;refine fQ nH aw ?_;refine cq @Yg @qH ?_;exact⟨_,rfl,kX.out⟩
def Zp{ae}{ag av}{ep}{text}{l}(h:dJ ae ag ep av text l=0):
 ∃y,iL ae ag (l.map Pr.aC)=(y,ai,0)/\eP ae ag l=y/\y.length=ae.length:=by
 have h0:=h;unfold dJ at h;rw[aG (by simp[(Fu h0).1])] at h;split at h
 ·simp at h
 ·split at h
  ·simp at h
  ·split at h
   ·simp at h
   ·split at h
    ·simp at h
    ·cases hq:iL ae ag (l.map Pr.aC) with
     |mk y oe=>
      obtain⟨o,e⟩:=oe;rw[hq] at h;simp only at h;split at h
      ·simp at h
      ·rename_i q;simp only[not_or,Lb,Bool.not_eq_false] at q;obtain⟨q1,q2,-⟩:=q;subst q1;subst q2;exact⟨y,rfl,by unfold eP;rw[hq],(xM hq).2.2.1⟩
def o8(ae:List (List Int))(ag:List Int)(ep:Int)(av:List Int)(text:List UInt8)(l:List Pr)(aC z:Int):Bool × Int:=
 if dJ ae ag ep av text l≠0 then (ay,dJ ae ag ep av text l) else zB ae ag av text l aC z
def Ym(c o):fC (.ptr (.box c) o) (.ptr (.box c) o)=ai:=by rw[fC,KA,aaM,aaM];rfl
def WZ{l}{aC}{q}(h:pI l aC=aa q):q∈l/\q.aC=aC:=by unfold pI at h;refine⟨List.mem_of_find?_eq_some h,?_⟩;have:=List.find?_some h;simpa using this
def TV(f:Int->Nat):∀(l:List Nat) (k:Nat),(dg l).foldl (λx q=>x * f q%P) k=l.foldl (λx i=>x * f ((i:Nat):Int)%P) k
 | [],_=>rfl
 |a::l,k=>TV f l _
def afj(h:ao)(bD:dj h=ai)(ep:Int)(X Y C T L:AV)(ae:List (List Int))(ag av:List Int)(text:List UInt8)(l:List Pr)(aC z:Int)
 (hx:RL X ae) (hy:IL Y ag) (hc:IL C av) (ht:BL T text) (hp:PL L l) (cV:av.length<=1000000) (dy:l.length<=1000000):
 ∃r h',W5.call 22 [.agg (cB ep X Y C),T,L,im aC,im z] h=aa (r,h')/\r=.ret (.tuple [.v (.bool (o8 ae ag ep av text l aC z).1),im (o8 ae ag ep av text l aC z).2]):=by
 have bx:=yx (ep:=ep) hx hy hc;obtain⟨r1,h1,c1,x1,post⟩:=Mi (h.push (cB ep X Y C)) bD ep X Y C T L ae ag av text l hx hy hc ht hp cV dy;have b0:=bp h (cB ep X Y C);have l0:aF aj Gt (h.push (cB ep X Y C)) 27 (.ptr (.box h.boxes.length) 0)=aa (.agg (cB ep X Y C)):=by rw[jj aw (by kernel_rfl:dm aj 27=aa 4) b0 (lN rfl)];rfl
 have kE1:aq (dJ ae ag ep av text l≠0->o8 ae ag ep av text l aC z=(ay,dJ ae ag ep av text l)):=⟨λq=>by unfold o8;rw[aD q]⟩;have kE2:aq (dJ ae ag ep av text l=0->o8 ae ag ep av text l aC z=zB ae ag av text l aC z):=⟨λq=>by unfold o8;rw[aG (by simp[q])]⟩;have kbo:=aq.mk (λq=>@Fu ae ag av ep text l q);have kwt:=aq.mk (λq=>@Zp ae ag av ep text l q);have zc:=Zw;have zp:=Cz;have kf:=aq.mk (ax hx (ax hy (ax hc hp)));have g1:=x1.box _ _ b0;have oy:=x1.ok bD;generalize o8 ae ag ep av text l aC z=res at *
 generalize dJ ae ag ep av text l=be at *
 clear hx hy hc ht hp b0 x1;refine ec rfl Tryz.func22 rfl ?_;rcases post with⟨q,rfl⟩|⟨q,c,Wt,rfl,tj,w⟩
 ·have kr:=aq.mk (kE1.out q);have st:=QG (H:=h1);have stn:b8 aj (h1.push [.v (.pointer au)]) 90 (.ptr (.box h1.boxes.length) 0) (.v (.pointer au))=aa (h1.push [.v (.pointer au)]):=jt rfl aw rfl rfl;clear kE1 kE2 kbo kwt g1 oy;unfold im at *
  refine cq @Hu @bK ?_;exact⟨_,_,rfl,by rw[kr.out]⟩
 obtain⟨p1,p2,p3,p4,p5,p6⟩:=kbo.out q;obtain⟨y,a1,a2,a3⟩:=kwt.out q;have gH:=kE2.out q;subst q;have st:=QG (H:=h1) c;have g2:(h1.push [.ptr (.box c) 0]).boxes[h.boxes.length]?=aa (cB ep X Y C):=aZ g1;have g3:=bp h1 [AV.ptr (.box c) 0];have w2:=w.mono (.push h1 [.ptr (.box c) 0]);obtain⟨b,vr,w3,-⟩:=w2.eu;obtain⟨_,h4,c2,x4,post⟩:=TF (h1.push [.ptr (.box c) 0]) c _ L l aC [z] (.list .tight 1 [[.v (.int .i64 z)]]) w3 rfl kf.out.2.2.2 dy (JK z) bG;rw[(bG:[z].all cE=cE z)] at post;have l1:aF aj Gt (h1.push [.ptr (.box c) 0]) 90 (.ptr (.box h1.boxes.length) 0)=aa (.ptr (.box c) 0):=cI v9 g3 rfl;have bl:=rC z;have fE1:aq (pI l aC=au∨cE z=ay->zB ae ag av text l aC z=(ay,1)):=⟨λq=>by
  unfold zB;cases zY:pI l aC with
  |none=>rfl|some x=>
   rcases q with q|q
   ·rw[zY] at q;cases q
   ·simp only[q];rfl⟩
 have fE2:aq (∀x,pI l aC=aa x->cE z=ai->zB ae ag av text l aC z=(decide (br Gn z=xr ae ag av text l x),0)):=⟨λx q1 q2=>by unfold zB;rw[q1];simp only[q2];rfl⟩;clear w3;rcases post with⟨q,rfl⟩|⟨x,q1,q2,rfl⟩
 ·have kr:=aq.mk (gH.trans (fE1.out q));have sq:=AA (H:=h4) ⟨0,0,0,0⟩;clear kE1 kE2 kbo kwt g1 g2 g3 w w2 oy fE1 fE2 gH a1 a2 a3 q p1 p2 p3 p6 x4;unfold im at *
  refine cq @Hu @bK ?_;exact⟨_,_,rfl,by rw[kr.out]⟩
 have kr:=aq.mk (gH.trans (fE2.out x q1 q2));obtain⟨ff,uq⟩:=WZ q1;have hm:=Ap p6 x ff;have Vk:=x4.ok (show dj (h1.push [.ptr (.box c) 0])=ai from oy);have sq:=AA (H:=h4) x;obtain⟨h5,zP⟩:∃h5,h4.push (cD x)=h5:=⟨_,rfl⟩;have X5:Ext (h1.push [.ptr (.box c) 0]) h5:=by rw[<-zP];exact x4.trans (.push _ _)
 have Vm:dj h5=ai:=by rw[<-zP];exact Vk
 have k5:h5.boxes[h.boxes.length]?=aa (cB ep X Y C):=X5.box _ _ g2;have m5:h5.boxes[h1.boxes.length]?=aa [.ptr (.box c) 0]:=X5.box _ _ g3;have W5':=w2.mono X5;have q5:h5.boxes[h4.boxes.length]?=aa (cD x):=by rw[<-zP];exact bp _ _
 have lp5:=Cf q5;have lw5:aF aj Gt h5 90 (.ptr (.box h1.boxes.length) 0)=aa (.ptr (.box c) 0):=cI v9 m5 rfl;obtain⟨_,h6,c3,x6,rfl⟩:=WL h5 c ep X Y C T L Wt _ _ av text l W5' x ⟨ah,by omega⟩ hm.2.2.2.2.1 hm.2.2.2.2.2;have BK:=x6.ok Vm;have m6:=x6.box _ _ m5;have lw6:aF aj Gt h6 90 (.ptr (.box h1.boxes.length) 0)=aa (.ptr (.box c) 0):=cI v9 m6 rfl;have c4:=XK h6 c aC;have W6':=W5'.mono x6;obtain⟨b6,vr6,w6,-⟩:=W6'.eu;have Vn:dj ((h6.push [.ptr (.box c) 0]).push [.v (.int .i64 aC)])=ai:=BK;obtain⟨_,h8,c5,x8,Z,rfl,hZ⟩:=ad5 ((h6.push [.ptr (.box c) 0]).push [.v (.int .i64 aC)]) Vn c h6.boxes.length (h6.boxes.length+1) Y ag aC _ kf.out.2.1 (by obtain⟨o1,o2,-⟩:=qZ p1;omega)
  (aZ (bp _ _)) (ng (by rw[cH])) (aZ (aZ w6)) rfl
 have X8:Ext h5 h8:=x6.trans (((Ext.push _ _).trans (.push _ _)).trans x8);have tv:iT ae ag av=0:=by unfold iT;rw[aG (by simp[p1]),aD (by rw[cz p2,p3];rfl)]
 obtain⟨o1,o2,o3,o4⟩:=qZ p1;have ej:∀q∈dg (iZ ag aC),∃i:Nat,q=(i:Int)/\i<ae.length:=λq hq=>by unfold dg at hq;obtain⟨i,hi,rfl⟩:=jE.1 hq;unfold iZ at hi;exact⟨i,rfl,by rw[o1];exact fD.1 (List.mem_filter.1 hi).1⟩
 have oC:(dg (iZ ag aC)).length<=1000000:=by unfold dg iZ;rw[bJ];exact fc (Im _ _) (by rw[List.length_range];omega)
 obtain⟨_,h9,c6,x9,rfl⟩:=akF 67 [] [.ptr (.box h.boxes.length) 0,.ptr (.box h1.boxes.length) 0] (vG ae av (eP ae ag l) ((dR (al av 0) text l:Nat):Int)) h8 Z (dg (iZ ag aC)) hZ oC
  (λq hq=>by unfold vG;exact Ar (PH p3) _)
  (λq hq H hH=>by obtain⟨i,rfl,hi⟩:=ej q hq;exact akH H h.boxes.length h1.boxes.length c ep X Y C T L Wt _ _ ae ag av (eP ae ag l) text l kf.out.1 kf.out.2.1 kf.out.2.2.1 tj cV tv (by rw[a2];exact a3) ((X8.trans hH).box _ _ k5) ((X8.trans hH).box _ _ m5) (W5'.mono (X8.trans hH)) i hi)
 rw[TV] at c6;have hN:=Pe (c0:=al av 0) (text:=text) (l:=l) hm.2.2.2.2.1 hm.2.2.2.2.2;have hF:elem ((iZ ag aC).foldl (λx i=>x * vG ae av (eP ae ag l) ((dR (al av 0) text l:Nat):Int) ((i:Nat):Int)%P) 1)=ai:=GZ (λi _=>by unfold vG;exact Ar (PH p3) _) Di;have c7:=Dq ((qX (al av 0) text l x:Nat):Int) (((iZ ag aC).foldl (λx i=>x * vG ae av (eP ae ag l) ((dR (al av 0) text l:Nat):Int) ((i:Nat):Int)%P) 1:Nat):Int);have VR:qX (al av 0) text l x * ((iZ ag aC).foldl (λx i=>x * vG ae av (eP ae ag l) ((dR (al av 0) text l:Nat):Int) ((i:Nat):Int)%P) 1)%P=xr ae ag av text l x:=by unfold xr vG;rw[uq];simp only[dS]
 rw[MW hN hF,VR] at c7;have c8:=GY 4 z;have hG:(4:Int).toNat=Gn:=rfl;rw[td rL,hG] at c8;have hd:decide (br Gn z=xr ae ag av text l x)=decide (((br Gn z:Nat):Int)=((xr ae ag av text l x:Nat):Int)):=by rw[decide_eq_decide];omega
 rw[hd] at kr;clear kE1 kE2 kbo kwt fE1 fE2 gH a1 a2 a3 p1 p2 p3 p6 x4 X5 oy Vk Vm BK Vn g1 g2 g3 w w2 W5' W6' w6 k5 m5 q5 m6 x6 x8 X8 x9 hZ tv o1 o2 o3 o4 ej oC hN hF VR hG hd hm ff uq q1 q2 tj;generalize ((xr ae ag av text l x:Nat):Int)=wv at *
 generalize ((br Gn z:Nat):Int)=pz at *
 generalize ((qX (al av 0) text l x:Nat):Int)=nv at *
 generalize (((iZ ag aC).foldl (λx i=>x * vG ae av (eP ae ag l) ((dR (al av 0) text l:Nat):Int) ((i:Nat):Int)%P) 1:Nat):Int)=fv at *
 unfold im at *
 refine cq @Hu @bK ?_;refine oG [(2,3)] nH aw (λp hp=>?_) ?_
 ·simp only[ph] at hp;subst hp;refine vM (x:=.ptr (.box h1.boxes.length) 0) (v:=.ptr (.box c) 0) aw rfl rfl rfl aw (Ym c 0) ?_ ?_<;>(simp only[iK,gm];exact jq @Hu @and_self)
 refine bR @Hu ?_;exact⟨_,_,rfl,by rw[kr.out]⟩
end Go.Proofs.YtnfciiiohoafaaaGreatDoor
end
section
namespace Go.AE
section
variable {P:Program} {G:Nat->Option (List AV)} {R:Rec}
def YM{ops:Array Oper}{e:Env}{h:ao}{i j:Nat}{o:Oper}{t:TypeId}{a:Operand}(ue:px ops i j=ai)(ho:ops[j]?=aa o)(bI:o.op=.load t a)
 (hj:(ops[i]?).map (λo=>jo o.op)=aa .acts) {x v:AV} (hv:fC v v=ai)
 (h1:cJ P G R ops (ops.toList.take j) e h (λq er hr=>q=.normal/\fg ops er o=aa ai/\er.eval a=x/\aF P G hr t x=aa v))
 (h2:cJ P G R ops (ops.toList.take i) e h (λq _ hm=>q=.normal/\aF P G hm t x=aa v)):lJ P G R ops e h i j=ai:=by
 have hi:i<ops.size:=by
  rcases dT i ops.size with hh|hh
  ·exact hh
  ·rw[xu hh] at hj;cases hj
 have NS:j<ops.size:=by
  rcases dT j ops.size with hh|hh
  ·exact hh
  ·rw[xu hh] at ho;cases ho
 have hc:(ops[j]?).map (λo=>jo o.op)=aa .reads:=by rw[ho];simp only[eX,bI];rfl
 unfold lJ;rw[ue,hc,hj];simp only[vR];unfold pM;rw[ho,sf ah,sf ah];obtain⟨q1,er,hr,e1,rfl,e0,e2,e3⟩:=h1;obtain⟨q2,em,hm,f1,rfl,f2⟩:=h2;rw[e1,f1];simp only[e0,bI,e2,e3,f2,hv]
def apq{ops:Array Oper}{e:Env}{h:ao}{i j:Nat}{o:Oper}{t:TypeId}{a:Operand}(ue:px ops i j=ai)(ho:ops[j]?=aa o)(bI:o.op=.load t a)
 (hj:(ops[i]?).map (λo=>jo o.op)=aa .acts)
 (h1:cJ P G R ops (ops.toList.take j) e h (λq er hr=>q=.normal/\fg ops er o=aa ay))
 (h2:cJ P G R ops (ops.toList.take i) e h (λq _ hm=>q=.normal)):lJ P G R ops e h i j=ai:=by
 have hi:i<ops.size:=by
  rcases dT i ops.size with hh|hh
  ·exact hh
  ·rw[xu hh] at hj;cases hj
 have NS:j<ops.size:=by
  rcases dT j ops.size with hh|hh
  ·exact hh
  ·rw[xu hh] at ho;cases ho
 have hc:(ops[j]?).map (λo=>jo o.op)=aa .reads:=by rw[ho];simp only[eX,bI];rfl
 unfold lJ;rw[ue,hc,hj];simp only[vR];unfold pM;rw[ho,sf ah,sf ah];obtain⟨q1,er,hr,e1,rfl,e0⟩:=h1;obtain⟨q2,em,hm,f1,rfl⟩:=h2;rw[e1,f1];simp only[e0]
end
end Go.AE
end
section
namespace Go.Proofs.YtnfciiiohoafaaaGreatDoor
open Go.AE Go.NT
def lI:Tryz.f20.results.toList=[.cell 14 3,.cell 15 32]:=aw
def amX(ag)(aC){k}:∀{n:Nat},k<=n->∃t,ek ag aC n=ek ag aC k++t:=by
 intro n
 induction n with
 |zero=>intro h;exact⟨[],by rw[(ah:k=0)];simp⟩
 |succ n ih=>
  intro h;rcases dT n k with az|eo
  ·exact⟨[],by rw[(ah:k=n+1)];simp⟩
  ·obtain⟨t,ht⟩:=ih eo;by_cases hq:al ag n=aC
   ·exact⟨t++[n],by rw[Hh hq,ht,tV]⟩
   ·exact⟨t,by rw[Cq hq,ht]⟩
def ajG{ae}{ag av}{aC}{s}(h:mz ae ag av aC s=ai){k}(hk:k<ag.length)(hq:al ag k=aC):
 ∃p,s[(ek ag aC k).length]?=aa p/\p.1=((k:Nat):Int)/\Cu ae av p=ai:=by
 unfold mz at h;rw[bA,decide_eq_true_eq] at h;obtain⟨h1,h2⟩:=h;obtain⟨t,ht⟩:=amX ag aC (ah:k+1<=ag.length);rw[Kk,Hh hq] at ht;have e:(s.map Fg)[(ek ag aC k).length]?=aa ((k:Nat):Int):=by rw[h1,ht,eR,tV,List.getElem?_append_right (aJ _),Nat.sub_self];rfl
 rw[eR] at e;cases hp:s[(ek ag aC k).length]? with
 |none=>rw[hp] at e;cases e
 |some p=>rw[hp] at e;injection e with e;rw[eE] at h2;exact⟨p,rfl,e,h2 p (ez hp)⟩
def HE{H}{b}{x}{n}(hb:H.boxes[b]?=aa [x]):b8 aj H 3 (.ptr (.box b) 0) (.v (.int .i64 n))=aa (H.put b [.v (.int .i64 n)]):=fw (off:=0) (cs:=[x]) (xs:=[.v (.int .i64 n)]) rfl iQ hb rfl (aJ 1)
def LY:fY aj 36=aa ay:=aw
def HD{H}{b}{x}{n}(hb:H.boxes[b]?=aa [x]):b8 aj H 32 (.ptr (.box b) 0) (.v (.int .i64 n))=aa (H.put b [.v (.int .i64 n)]):=fw (off:=0) (cs:=[x]) (xs:=[.v (.int .i64 n)]) rfl HN hb rfl (aJ 1)
def arj:(gy aj 3).bind AV.bU=aa [.v (.int .i64 0)]:=aw
def ari:(gy aj 32).bind AV.bU=aa [.v (.int .i64 0)]:=aw
def aq6{y}{s:List (Int × Int)}{i}{p}(h:s[i]?=aa p):lh y (s.take (i+1))=cS (lh y (s.take i)) (db (al y p.1.toNat) p.2):=by unfold lh;rw[gx h,oL];rfl
def SL.ix{x}{l}(h:SL x l){i}(hi:i<l.length):dx aj 36 x (.v (.int .i64 (i:Nat)))=aa (.elem 2 (iP l) i 0):=by obtain⟨k,s,rfl,hs⟩:=h;have cK:s=2:=hs (by intro q;rw[q] at hi;simp at hi);subst cK;have:=ck (k:=k) (kk:=.i64) (es:=iP l) (a:=((i:Nat):Int)) RW KP ah (by rw[Qr];omega);rw[this,dS]
def SL.dN{x}{l}(h:SL x l):dN aj 36 x=aa (.v (.int .i64 (l.length:Nat))):=by obtain⟨k,s,rfl,-⟩:=h;have u36:=RW;unfold Go.AE.dN;rw[u36];simp only[Qr]
def SL.bU{x}{l}(h:SL x l):x.bU=aa [x]:=by obtain⟨k,s,rfl,-⟩:=h;rfl
structure EZ(Hb:ao)(li:Nat)(rec:gZ)(iI ib zb eb:Nat)(ae:List (List Int))(ag av W:List Int)(aC:Int)(s:List (Int × Int))(k:Nat)(H:ao):Prop where
 lp:H.loops[li]?=aa rec
 cZ:∀(a:Nat) (cs:List AV),Hb.boxes[a]?=aa cs->a≠iI->a≠ib->H.boxes[a]?=aa cs
 sum:H.boxes[iI]?=aa [.v (.int .i64 (lh W (s.take (ek ag aC k).length)))]
 ix:H.boxes[ib]?=aa [.v (.int .i64 ((ek ag aC k).length:Nat))]
 le:(ek ag aC k).length<=s.length
 same:(s.take (ek ag aC k).length).map Fg=(ek ag aC k).map λ(i:Nat)=>(i:Int)
 ok:(s.take (ek ag aC k).length).all (Cu ae av)=ai
structure E6(li:Nat)(rec:gZ)(zb eb:Nat)(H:ao):Prop where
 lp:H.loops[li]?=aa {rec with state:=.done,pending:=aa .ret}
 z:H.boxes[zb]?=aa [.v (.int .i64 0)]
 e:H.boxes[eb]?=aa [.v (.int .i64 340)]
def adR{ae}{ag av}(p1:dn ae ag=0)(p2:av.length=bV ae)(p3:av.all b9=ai):iT ae ag av=0:=by unfold iT;rw[aG (by simp[p1]),aD (by rw[cz p2,p3];rfl)]
def afp{ae}{ag av}(hc:iT ae ag av=0){k}{v}(hk:k<ae.length):
 (Cu ae av (((k:Nat):Int),v)=ai/\sY ae ag av (((k:Nat):Int),v)=(ai,0))∨(Cu ae av (((k:Nat):Int),v)=ay/\(sY ae ag av (((k:Nat):Int),v)=(ay,340)∨sY ae ag av (((k:Nat):Int),v)=(ay,0))):=by
 have hr:vK ae (((k:Nat):Int),v)=cE v:=by unfold vK;rw[cz (show(0:Int)<=((k:Nat):Int) by omega),cz (show((k:Nat):Int)<(ae.length:Int) by omega)];rfl
 unfold Cu sY;rw[aG (by simp[hc]),hr];simp only[dS];cases hv:cE v with
 |false=>exact .inr ⟨rfl,.inl rfl⟩|true=>
  by_cases hq:br Gn v=mS av (ae.getD k [])
  ·left;rw[cz hq];exact⟨rfl,rfl⟩
  ·right;rw[cX hq];exact⟨rfl,.inr rfl⟩
def Bd{Hx}{zb eb}{x y}(hz:Hx.boxes[zb]?=aa [x])(he:Hx.boxes[eb]?=aa [y])(bE:zb≠eb)(n m):
 b8 aj Hx 3 (.ptr (.box zb) 0) (.v (.int .i64 n))=aa (Hx.put zb [.v (.int .i64 n)])/\aF aj Gt Hx 32 (.ptr (.box eb) 0)=aa y/\aF aj Gt (Hx.put zb [.v (.int .i64 n)]) 32 (.ptr (.box eb) 0)=aa y/\
  b8 aj (Hx.put zb [.v (.int .i64 n)]) 32 (.ptr (.box eb) 0) (.v (.int .i64 m))=aa ((Hx.put zb [.v (.int .i64 n)]).put eb [.v (.int .i64 m)])/\
  aF aj Gt ((Hx.put zb [.v (.int .i64 n)]).put eb [.v (.int .i64 m)]) 3 (.ptr (.box zb) 0)=aa (.v (.int .i64 n))/\aF aj Gt ((Hx.put zb [.v (.int .i64 n)]).put eb [.v (.int .i64 m)]) 32 (.ptr (.box eb) 0)=aa (.v (.int .i64 m)):=by
 have iF:=(aQ.1 hz).1;have ot:=(aQ.1 he).1;have q:(Hx.put zb [AV.v (.int .i64 n)]).boxes[eb]?=aa [y]:=by rw[cP (Ne.symm bE)];exact he
 have q2:((Hx.put zb [AV.v (.int .i64 n)]).put eb [AV.v (.int .i64 m)]).boxes[zb]?=aa [.v (.int .i64 n)]:=by rw[cP bE];exact ey iF
 have q3:((Hx.put zb [AV.v (.int .i64 n)]).put eb [AV.v (.int .i64 m)]).boxes[eb]?=aa [.v (.int .i64 m)]:=ey (by rw[mc];exact ot);exact⟨HE hz,cI xP he rfl,cI xP q rfl,HD q,cI eM q2 rfl,cI xP q3 rfl⟩
def uy(ae:List (List Int))(ag:List Int)(ep:Int)(av:List Int)(text:List UInt8)(l:List Pr)(aC:Int)(s:List (Int × Int))(d f:Int):Int × Int:=
 if dJ ae ag ep av text l≠0 then (0,dJ ae ag ep av text l) else Ak ae ag av text l aC s d f
def aiM{ae}{ag av}{text}{l}{aC}{s}{d f}(h:pI l aC=au∨[d,f].all cE=ay):Ak ae ag av text l aC s d f=(0,1):=by
 unfold Ak;cases hp:pI l aC with
 |none=>rfl|some x=>
  rcases h with q|q
  ·rw[hp] at q;cases q
  ·have:(cE d&&cE f)=ay:=(by simpa using q);simp only[this];rfl
def aiN{ae}{ag av}{text}{l}{aC}{s}{d f}{x}(h:pI l aC=aa x)(hq:[d,f].all cE=ai):Ak ae ag av text l aC s d f=
 if mz ae ag av aC s=ay then (0,340) else if ¬((br Gn d:Nat):Int)=x.d∨¬((br Gn f:Nat):Int)=x.e then (0,420)
 else (cS (cS d (db f (gF (al av 0) text l aC))) (db (dR (al av 0) text l) (lh (eP ae ag l) s)),0):=by
 unfold Ak;have:(cE d&&cE f)=ai:=by simpa using hq
 rw[h];simp only[this];cases mz ae ag av aC s<;>rfl
def acY(a b):gN aj 23 2 [(0,.v (.int .i64 a)),(1,.v (.int .i64 b))]=aa (.list .tight 1 (ints [a,b])):=aw
def aiI(h:ao)(bD:dj h=ai)(ep:Int)(X Y C T L S:AV)(ae:List (List Int))(ag av:List Int)(text:List UInt8)(l:List Pr)(s:List (Int × Int))(aC d f:Int)
 (hx:RL X ae) (hy:IL Y ag) (hc:IL C av) (ht:BL T text) (hp:PL L l) (hs:SL S s) (cV:av.length<=1000000) (dy:l.length<=1000000) (mO:s.length<=1000000):
 ∃r h',W5.call 20 [.agg (cB ep X Y C),T,L,.v (.int .i64 aC),S,.v (.int .i64 d),.v (.int .i64 f)] h=aa (r,h')/\r=.ret (.tuple [.v (.int .i64 (uy ae ag ep av text l aC s d f).1),.v (.int .i64 (uy ae ag ep av text l aC s d f).2)]):=by
 have bx:=yx (ep:=ep) hx hy hc;have bS:=hs.bU;have zc:=Zw;have zp:=Cz;have z3:=arj;have z32:=ari;obtain⟨h0,Dy⟩:∃h0,(((h.push (cB ep X Y C)).push [S]).push [.v (.int .i64 0)]).push [.v (.int .i64 0)]=h0:=⟨_,rfl⟩;obtain⟨sb,jT⟩:∃n,(h.push (cB ep X Y C)).boxes.length=n:=⟨_,rfl⟩;obtain⟨zb,OC⟩:∃n,((h.push (cB ep X Y C)).push [S]).boxes.length=n:=⟨_,rfl⟩;obtain⟨eb,Nz⟩:∃n,(((h.push (cB ep X Y C)).push [S]).push [.v (.int .i64 0)]).boxes.length=n:=⟨_,rfl⟩;obtain⟨kb,zT⟩:∃n,h.boxes.length=n:=⟨_,rfl⟩;have o1:kb<sb/\sb<zb/\zb<eb:=by rw[<-zT,<-jT,<-OC,<-Nz];simp only[cH];omega
 have gk:h0.boxes[kb]?=aa (cB ep X Y C):=by rw[<-Dy,<-zT];exact aZ (aZ (aZ (bp _ _)))
 have gs:h0.boxes[sb]?=aa [S]:=by rw[<-Dy,<-jT];exact aZ (aZ (bp _ _))
 have gz:h0.boxes[zb]?=aa [.v (.int .i64 0)]:=by rw[<-Dy,<-OC];exact aZ (bp _ _)
 have ge:h0.boxes[eb]?=aa [.v (.int .i64 0)]:=by rw[<-Dy,<-Nz];exact bp _ _
 have vk:dj h0=ai:=by rw[<-Dy];exact bD
 obtain⟨r1,h1,c1,x1,post⟩:=Mi h0 vk ep X Y C T L ae ag av text l hx hy hc ht hp cV dy;have l0:aF aj Gt h0 27 (.ptr (.box kb) 0)=aa (.agg (cB ep X Y C)):=by rw[jj aw (by kernel_rfl:dm aj 27=aa 4) gk (lN rfl)];rfl
 have kE1:aq (dJ ae ag ep av text l≠0->uy ae ag ep av text l aC s d f=(0,dJ ae ag ep av text l)):=⟨λq=>by unfold uy;rw[aD q]⟩;have kE2:aq (dJ ae ag ep av text l=0->uy ae ag ep av text l aC s d f=Ak ae ag av text l aC s d f):=⟨λq=>by unfold uy;rw[aG (by simp[q])]⟩;have kbo:=aq.mk (λq=>@Fu ae ag av ep text l q);have kwt:=aq.mk (λq=>@Zp ae ag av ep text l q);have kf:=aq.mk (ax hx (ax hy (ax hc (ax hp hs))));have gk1:=x1.box _ _ gk;have gs1:=x1.box _ _ gs;have mJ:=x1.box _ _ gz;have ge1:=x1.box _ _ ge;have oy:=x1.ok vk;have lS:=hs.dN;generalize uy ae ag ep av text l aC s d f=res at *
 generalize dJ ae ag ep av text l=be at *
 have Vc:=(aQ.1 ge1).1;clear hx hy hc ht hp hs x1 gk gs gz ge vk bD;refine ec rfl Tryz.func20 rfl ?_;rcases post with⟨q,rfl⟩|⟨q,c,Wt,rfl,tj,w⟩
 ·have kr:=aq.mk (kE1.out q);have stn:b8 aj (h1.push [.v (.pointer au)]) 90 (.ptr (.box h1.boxes.length) 0) (.v (.pointer au))=aa (h1.push [.v (.pointer au)]):=jt rfl aw rfl rfl;have ste:b8 aj (h1.push [.v (.pointer au)]) 32 (.ptr (.box eb) 0) (.v (.int .i64 be))=aa ((h1.push [.v (.pointer au)]).put eb [.v (.int .i64 be)]):=HD (aZ ge1);obtain⟨a1,a2,a3,a4,a5,a6⟩:=Bd (Hx:=(h1.push [.v (.pointer au)]).put eb [.v (.int .i64 be)]) (zb:=zb) (eb:=eb) (x:=.v (.int .i64 0)) (y:=.v (.int .i64 be)) (by rw[cP ah];exact aZ mJ) (ey (by rw[cH];omega)) ah 0 be;clear kE1 kE2 kbo kwt gk1 gs1 mJ ge1 oy;refine cq @lI @bK ?_;refine oG [(0,1)] nH aw (λp hp=>?_) ?_
  ·simp only[ph] at hp;subst hp;refine yH (x:=.ptr (.box eb) 0) (v:=.v (.int .i64 be)) aw rfl rfl rfl aw (by simp[fC,me]) ?_ ?_<;>(simp only[iK,gm];exact jq @lI @and_self)
  refine bR @lI ?_;exact⟨_,_,rfl,by rw[kr.out]⟩
 obtain⟨p1,p2,p3,p4,p5,p6⟩:=kbo.out q;obtain⟨y,w1,w2,w3⟩:=kwt.out q;have gH:=kE2.out q;have tv:=adR p1 p2 p3;subst q;clear kE1 kE2 kbo kwt;obtain⟨h2,vi⟩:∃h2,h1.push [.ptr (.box c) 0]=h2:=⟨_,rfl⟩;obtain⟨wb,BZ⟩:∃n,h1.boxes.length=n:=⟨_,rfl⟩;have stn:b8 aj (h1.push [.v (.pointer au)]) 90 (.ptr (.box wb) 0) (.ptr (.box c) 0)=aa h2:=by rw[<-vi,<-BZ];exact QG c
 have gk2:h2.boxes[kb]?=aa (cB ep X Y C):=by rw[<-vi];exact aZ gk1
 have gs2:h2.boxes[sb]?=aa [S]:=by rw[<-vi];exact aZ gs1
 have jq:h2.boxes[zb]?=aa [.v (.int .i64 0)]:=by rw[<-vi];exact aZ mJ
 have ge2:h2.boxes[eb]?=aa [.v (.int .i64 0)]:=by rw[<-vi];exact aZ ge1
 have gw2:h2.boxes[wb]?=aa [.ptr (.box c) 0]:=by rw[<-vi,<-BZ];exact bp _ _
 have ste:b8 aj h2 32 (.ptr (.box eb) 0) (.v (.int .i64 0))=aa h2:=by rw[HD ge2,nt ge2]
 have le2:aF aj Gt h2 32 (.ptr (.box eb) 0)=aa (.v (.int .i64 0)):=cI xP ge2 rfl;have lw2:aF aj Gt h2 90 (.ptr (.box wb) 0)=aa (.ptr (.box c) 0):=cI v9 gw2 rfl;have W2:uO h2 c ep X Y C T L Wt ((jX (al av 0) text l:Nat):Int) ((dR (al av 0) text l:Nat):Int) av text l:=by rw[<-vi];exact w.mono (.push _ _)
 have Jz:dj h2=ai:=by rw[<-vi];exact oy
 obtain⟨b,vr,w4,-⟩:=W2.eu;obtain⟨_,h3,c2,x3,post⟩:=TF h2 c _ L l aC [d,f] (.list .tight 1 (ints [d,f])) w4 rfl kf.out.2.2.2.1 dy ⟨_,_,rfl,λ_=>rfl⟩ bG;have bl:=acY d f;have asa:eb<wb:=by rw[<-BZ];exact Vc
 clear w4 w gk1 gs1 mJ ge1 oy Vc;have qM:=x3.box _ _ jq;have ge3:=x3.box _ _ ge2;rcases post with⟨q,rfl⟩|⟨x,q1,q2,rfl⟩
 ·have kr:=aq.mk (gH.trans (aiM q));have sq:=AA (H:=h3) ⟨0,0,0,0⟩;have se:b8 aj (h3.push (cD ⟨0,0,0,0⟩)) 32 (.ptr (.box eb) 0) (.v (.int .i64 1))=aa ((h3.push (cD ⟨0,0,0,0⟩)).put eb [.v (.int .i64 1)]):=HD (aZ ge3);obtain⟨a1,a2,a3,a4,a5,a6⟩:=Bd (Hx:=(h3.push (cD ⟨0,0,0,0⟩)).put eb [.v (.int .i64 1)]) (zb:=zb) (eb:=eb) (x:=.v (.int .i64 0)) (y:=.v (.int .i64 1)) (by rw[cP ah];exact aZ qM) (ey (by rw[cH];have:=(aQ.1 ge3).1;omega)) ah 0 1;clear gH q W2 x3 gk2 gs2 jq ge2 gw2 Jz qM ge3 p1 p2 p3 p6 w1 w2 w3 tv tj;refine cq @lI @bK ?_;refine oG [(0,1)] nH aw (λp hp=>?_) ?_
  ·simp only[ph] at hp;subst hp;refine yH (x:=.ptr (.box eb) 0) (v:=.v (.int .i64 1)) aw rfl rfl rfl aw (by simp[fC,me]) ?_ ?_<;>(simp only[iK,gm];exact jq @lI @and_self)
  refine bR @lI ?_;exact⟨_,_,rfl,by rw[kr.out]⟩
 rw[aiN q1 q2] at gH;obtain⟨ff,uq⟩:=WZ q1;have hm:=Ap p6 x ff;have sq:=AA (H:=h3) x;obtain⟨h4,Jo⟩:∃h4,h3.push (cD x)=h4:=⟨_,rfl⟩;obtain⟨pb,Oc⟩:∃n,h3.boxes.length=n:=⟨_,rfl⟩;rw[Jo,Oc] at sq;have o3:wb<pb:=by have z1:=(aQ.1 gw2).1;have z2:=x3.len;omega
 have X4:Ext h2 h4:=by rw[<-Jo];exact x3.trans (.push _ _)
 have gk4:=X4.box _ _ gk2;have gs4:=X4.box _ _ gs2;have oo:=X4.box _ _ jq;have ge4:=X4.box _ _ ge2;have gw4:=X4.box _ _ gw2;have gp4:h4.boxes[pb]?=aa (cD x):=by rw[<-Jo,<-Oc];exact bp _ _
 have W4':=W2.mono X4;have ste4:b8 aj h4 32 (.ptr (.box eb) 0) (.v (.int .i64 0))=aa h4:=by rw[HD ge4,nt ge4]
 have le4:aF aj Gt h4 32 (.ptr (.box eb) 0)=aa (.v (.int .i64 0)):=cI xP ge4 rfl;obtain⟨h5,zP⟩:∃h5,(h4.push [.v (.int .i64 0)]).push [.v (.int .i64 0)]=h5:=⟨_,rfl⟩;obtain⟨iI,JG⟩:∃n,h4.boxes.length=n:=⟨_,rfl⟩;obtain⟨ib,NM⟩:∃n,(h4.push [.v (.int .i64 0)]).boxes.length=n:=⟨_,rfl⟩;have o2:pb<iI/\iI<ib:=by refine⟨?_,by rw[<-JG,<-NM,cH];omega⟩;rw[<-JG];exact(aQ.1 gp4).1
 have gsum5:h5.boxes[iI]?=aa [.v (.int .i64 0)]:=by rw[<-zP,<-JG];exact aZ (bp _ _)
 have gib5:h5.boxes[ib]?=aa [.v (.int .i64 0)]:=by rw[<-zP,<-NM];exact bp _ _
 have X5:Ext h4 h5:=by rw[<-zP];exact(Ext.push _ _).trans (.push _ _)
 have st5a:b8 aj h5 3 (.ptr (.box iI) 0) (.v (.int .i64 0))=aa h5:=by rw[HE gsum5,nt gsum5]
 have st5b:b8 aj h5 3 (.ptr (.box ib) 0) (.v (.int .i64 0))=aa h5:=by rw[HE gib5,nt gib5]
 have gw5:=X5.box _ _ gw4;have lw5:aF aj Gt h5 90 (.ptr (.box wb) 0)=aa (.ptr (.box c) 0):=cI v9 gw5 rfl;have c3:=XK h5 c aC;obtain⟨h6,Bw⟩:∃h6,(h5.push [.ptr (.box c) 0]).push [.v (.int .i64 aC)]=h6:=⟨_,rfl⟩;rw[Bw] at c3;have X6:Ext h4 h6:=by rw[<-Bw];exact X5.trans ((Ext.push _ _).trans (.push _ _))
 have gsum6:h6.boxes[iI]?=aa [.v (.int .i64 0)]:=by rw[<-Bw];exact aZ (aZ gsum5)
 have gib6:h6.boxes[ib]?=aa [.v (.int .i64 0)]:=by rw[<-Bw];exact aZ (aZ gib5)
 have ga6:h6.boxes[h5.boxes.length]?=aa [.ptr (.box c) 0]:=by rw[<-Bw];exact aZ (bp _ _)
 have gb6:h6.boxes[h5.boxes.length+1]?=aa [.v (.int .i64 aC)]:=by rw[<-Bw];exact ng (by rw[cH])
 have l5:iI<h5.boxes.length/\ib<h5.boxes.length:=⟨(aQ.1 gsum5).1,(aQ.1 gib5).1⟩;have kall:=aq.mk (ax gH (ax uq (ax hm (ax w2 (ax w3 tj)))));have kprog:=aq.mk (ax p1 (ax p3 tv));have gk6:=X6.box _ _ gk4;have gs6:=X6.box _ _ gs4;have wy:=X6.box _ _ oo;have ge6:=X6.box _ _ ge4;have gw6:=X6.box _ _ gw4;have gp6:=X6.box _ _ gp4;have W6':=W4'.mono X6;have kst:=aq.mk (ax gk6 (ax gs6 (ax wy (ax ge6 (ax gw6 (ax gp6 W6'))))));have sumv:iI<h4.boxes.length+1:=by omega
 have kxl:=ff;clear gH uq hm w1 w2 w3 tj p1 p3 tv gk6 gs6 wy ge6 gw6 gp6 W6' W4' W2 gk4 gs4 oo ge4 gw4 gp4 gk2 gs2 jq ge2 gw2 qM ge3 q1 q2 ff x3 X4 X5 gw5 gsum5 gib5 Jz p2 p6 sumv;refine cq @lI @bK ?_;refine bM.gen λe4 fV rP uk rW=>?_;have f5:e4.get 5=.v (.int .i64 d):=by rw[fV];exact gS
 have f6:e4.get 6=.v (.int .i64 f):=by rw[fV];exact gS
 have f7:e4.get 7=.ptr (.box kb) 0:=by rw[fV];exact gS
 have f11:e4.get 11=.ptr (.box sb) 0:=by rw[fV];exact gS
 have f14:e4.get 14=.ptr (.box zb) 0:=by rw[fV];exact gS
 have f15:e4.get 15=.ptr (.box eb) 0:=by rw[fV];exact gS
 have f16:e4.get 16=.ptr (.box wb) 0:=by rw[fV];exact gS
 have f17:e4.get 17=.ptr (.box pb) 0:=by rw[fV];exact gS
 have f18:e4.get 18=.ptr (.box iI) 0:=by rw[fV];exact gS
 have f19:e4.get 19=.ptr (.box ib) 0:=by rw[fV];exact gS
 have f47:e4.get 47=.func (.func 128) [] [.ptr (.box h5.boxes.length) 0,.ptr (.box (h5.boxes.length+1)) 0]:=by rw[fV];exact gS
 have fd:e4.defers=[]:=by rw[rP];exact gS
 clear fV rP uk rW c1 c2 c3 l0 lS bl stn ste le2 lw2 sq ste4 le4 st5a st5b lw5 zc zp z3 z32 bx bS Dy jT OC Nz zT vi BZ Jo Oc zP JG NM Bw;obtain⟨gk6,gs6,wy,ge6,gw6,gp6,W6⟩:=kst.out;obtain⟨p1,p3,tv⟩:=kprog.out;obtain⟨gH,uq,hm,w2,w3,tj⟩:=kall.out;have kW:=aq.mk W6;clear kst kprog kall W6;obtain⟨og1,og2,og3,og4⟩:=qZ p1;have gI:dj h6=dj h6:=rfl;refine Ct (by rw[zw];exact f47) λrec v1 v2 v3 v4 v5 v6=>?_;have gv:(h6.loop rec).loops[h6.loops.length]?=aa rec:=@Ch h6 rec;have feed:=XM h6.loops.length h5.boxes.length (h5.boxes.length+1) c Y ag aC (EZ (h6.loop rec) h6.loops.length rec iI ib zb eb ae ag av (eP ae ag l) aC s)
  (λH=>E6 h6.loops.length rec zb eb H/\mz ae ag av aC s=ay) kf.out.2.1 ah
  (λk H q=>by
   obtain⟨b6,vr6,z1,-⟩:=kW.out.eu;refine⟨q.cZ _ _ ga6 ah ah,q.cZ _ _ gb6 ah ah,_,q.cZ _ _ z1 (λe=>?_) (λe=>?_),rfl⟩
   ·rw[e] at z1;rw[gsum6] at z1;unfold gL at z1;simp at z1
   ·rw[e] at z1;rw[gib6] at z1;unfold gL at z1;simp at z1)
  ?_
  (λk H hk hc q=>⟨q.lp,q.cZ,by rw[Cq hc];exact q.sum,by rw[Cq hc];exact q.ix,by rw[Cq hc];exact q.le,by rw[Cq hc];exact q.same,by rw[Cq hc];exact q.ok⟩)
  (h6.loop rec) ⟨gv,λa cs ha _ _=>ha,gsum6,gib6,df _,by simp[ek],by simp[ek]⟩
 rotate_left 1
 ·intro k H hk hc q;have ui:=q.lp
  suffices hs:∃b H',W5.round h6.loops.length [.v (.int .i64 (k:Nat))] H=aa (.ret (.v (.bool b)),H')/\if b=ai then EZ (h6.loop rec) h6.loops.length rec iI ib zb eb ae ag av (eP ae ag l) aC s (k+1) H' else (E6 h6.loops.length rec zb eb H'/\mz ae ag av aC s=ay) by
   obtain⟨b,H',q1,q2⟩:=hs;cases b with|true=>exact .inl ⟨H',q1,q2⟩|false=>exact .inr ⟨H',q1,q2⟩
  refine amQ (Post:=λb H'=>if b=ai then EZ (h6.loop rec) h6.loops.length rec iI ib zb eb ae ag av (eP ae ag l) aC s (k+1) H' else (E6 h6.loops.length rec zb eb H'/\mz ae ag av aC s=ay)) ui (by rw[v2];rfl) v5 v6 ?_;have r1:∀t,(mT h6.loops.length rec [.v (.int .i64 (k:Nat))]).get t=if 48=t then .v (.int .i64 (k:Nat)) else e4.get t:=λt=>XI v2 v1
  have d1:(mT h6.loops.length rec [.v (.int .i64 (k:Nat))]).defers=[]:=rfl;obtain⟨K,hK⟩:∃K,H.busy h6.loops.length rec=K:=⟨_,rfl⟩;have pX:∀a:Nat,K.boxes[a]?=H.boxes[a]?:=λa=>by rw[<-hK];rfl
  have Bj:K.loops[h6.loops.length]?=aa {rec with state:=.busy}:=by rw[<-hK];have:=(aQ.1 ui).1;show(H.loops.set _ _)[_]?=_;simp[this]
  have og:∀(a:Nat) (cs:List AV),h6.boxes[a]?=aa cs->a≠iI->a≠ib->K.boxes[a]?=aa cs:=λa cs ha n1 n2=>by rw[pX];exact q.cZ a cs ha n1 n2
  have DB:=og _ _ gk6 ah ah;have DQ:=og _ _ gs6 ah ah;have B8:=og _ _ wy ah ah;have Bs:=og _ _ ge6 ah ah;have GB:=og _ _ gw6 ah ah;have Gx:=(pX iI).trans q.sum;have DA:=(pX ib).trans q.ix;have eC:=q.le;have lib:aF aj Gt K 3 (.ptr (.box ib) 0)=aa (.v (.int .i64 ((ek ag aC k).length:Nat))):=cI eM DA rfl;have lsb:aF aj Gt K 36 (.ptr (.box sb) 0)=aa S:=cI LY DQ rfl;have lSn:=kf.out.2.2.2.2.dN;obtain⟨a1,a2,a3,a4,a5,a6⟩:=Bd B8 Bs ah 0 340;have oC:=(aQ.1 B8).1;have F8:=(aQ.1 Bs).1;have kstop:aq (∀(K2:ao),K2.loops[h6.loops.length]?=aa {rec with state:=.busy}->zb<K2.boxes.length->eb<K2.boxes.length->E6 h6.loops.length rec zb eb (((K2.put zb [.v (.int .i64 0)]).put eb [.v (.int .i64 340)]).eH h6.loops.length {rec with state:=.done,pending:=aa .ret})):=⟨λK2 q1 q2 q3=>by
   have dy:=(aQ.1 q1).1;refine⟨Yq dy,?_,?_⟩
   ·show((K2.put zb [.v (.int .i64 0)]).put eb [.v (.int .i64 340)]).boxes[zb]?=_;rw[cP ah];exact ey q2
   ·show((K2.put zb [.v (.int .i64 0)]).put eb [.v (.int .i64 340)]).boxes[eb]?=_;exact ey (by rw[mc];exact q3)⟩
  have kown:=aq.mk (λq=>@ajG ae ag av aC s q k hk hc);have kq:=aq.mk q;have kog:=aq.mk og;obtain⟨Q,hQ⟩:∃Q:Xt->ao->Prop,Q=λo h2=>h2.loops[h6.loops.length]?=aa {rec with state:=.busy}/\
   ((o=.normal/\EZ (h6.loop rec) h6.loops.length rec iI ib zb eb ae ag av (eP ae ag l) aC s (k+1) (h2.eH h6.loops.length rec))∨(o=.ret/\E6 h6.loops.length rec zb eb (h2.eH h6.loops.length {rec with state:=.done,pending:=aa .ret})/\mz ae ag av aC s=ay)):=⟨_,rfl⟩
  have kQs:aq (∀(K2:ao),K2.loops[h6.loops.length]?=aa {rec with state:=.busy}->zb<K2.boxes.length->eb<K2.boxes.length->mz ae ag av aC s=ay->Q .ret ((K2.put zb [.v (.int .i64 0)]).put eb [.v (.int .i64 340)])):=⟨λK2 z1 z2 z3 z4=>by rw[hQ];exact⟨z1,.inr ⟨rfl,kstop.out K2 z1 z2 z3,z4⟩⟩⟩;have kQn:aq (∀(K2:ao),K2.loops[h6.loops.length]?=aa {rec with state:=.busy}->EZ (h6.loop rec) h6.loops.length rec iI ib zb eb ae ag av (eP ae ag l) aC s (k+1) (K2.eH h6.loops.length rec)->Q .normal K2):=⟨λK2 z1 z2=>by rw[hQ];exact⟨z1,.inl ⟨rfl,z2⟩⟩⟩;rw[hK]
  suffices lV:bM W5 rec.assign (mT h6.loops.length rec [.v (.int .i64 (k:Nat))]) H (λo e1 h1=>o=.normal/\h1=H/\bM W5 rec.body e1 K (λo _ h2=>Q o h2)) by
   obtain⟨o,e1,hh,z1,z2,z3,o',e2,wD,z4,z5⟩:=lV;refine⟨o,e1,hh,z1,z2,z3,o',e2,wD,z4,?_⟩;rw[hQ] at z5;obtain⟨z5,z6⟩:=z5;refine⟨z5,?_⟩;rcases z6 with⟨y1,y2⟩|⟨y1,y2⟩
   ·exact .inl ⟨y1,y2⟩
   ·exact .inr ⟨y1,y2⟩
  clear hQ kstop;rw[v3,v4];rcases dT (ek ag aC k).length s.length with az|eo;rotate_left 1
  ·have jz:(ek ag aC k).length=s.length:=(by omega);have iE:mz ae ag av aC s=ay:=by
    cases ho:mz ae ag av aC s with|false=>rfl|true=>obtain⟨p,z1,-⟩:=kown.out ho;rw[qB ah] at z1;cases z1
   have dd:decide ((((ek ag aC k).length:Nat):Int)=(s.length:Int))=ai:=cz ah;have eZ:=aq.mk (kQs.out K Bj oC F8 iE);clear jz iE eo eC q og ui hK pX Bj DB DQ B8 Bs GB Gx DA v1 v2 v3 v4 v5 v6 kQs kQn;generalize (ek ag aC k).length=i at *
   refine xY ?_;exact⟨aT,aT,eZ.out⟩
  obtain⟨p,hp⟩:∃p,s[(ek ag aC k).length]?=aa p:=⟨_,a9 az⟩;have dd:decide ((((ek ag aC k).length:Nat):Int)=(s.length:Int))=ay:=cX ah;have ixS:=kf.out.2.2.2.2.ix az;have ls0:=aia (H:=K) (s:=2) hp;by_cases dU:p.1=((k:Nat):Int);rotate_left 1
  ·have iE:mz ae ag av aC s=ay:=by
    cases ho:mz ae ag av aC s with|false=>rfl|true=>obtain⟨p',z1,z2,-⟩:=kown.out ho;rw[hp] at z1;injection z1 with z1;subst z1;exact absurd z2 dU
   have dr:decide (p.1=((k:Nat):Int))=ay:=cX dU;have eZ:=aq.mk (kQs.out K Bj oC F8 iE);clear iE az eC q og ui hK pX Bj DB DQ B8 Bs GB Gx DA v1 v2 v3 v4 v5 v6 kQs kQn hp dU;generalize (ek ag aC k).length=i at *
   refine bR @zA ?_;exact⟨aT,aT,eZ.out⟩
  have NU:k<ae.length:=by omega
  have dr:decide (((k:Nat):Int)=((k:Nat):Int))=ai:=cz rfl;obtain⟨pr,pv⟩:=p;simp only at dU;subst dU;obtain⟨_,K2,cf,rfl,xf⟩:=afk K X Y C ae ag av kf.out.1 kf.out.2.1 kf.out.2.2.1 cV ((k:Nat):Int) pv;have lk1:aF aj Gt K 25 (.ptr (.box kb) 1)=aa (.agg [X,Y]):=by rw[jj Fi (by kernel_rfl:dm aj 25=aa 2) DB (lN rfl)];rfl
  have lk3:aF aj Gt K 23 (.ptr (.box kb) 3)=aa C:=cI mW DB rfl;have ls81:=Wk (H:=K) (s:=2) hp;have FT:=xf.loop _ _ Bj;have fO:=xf.box _ _ B8;have jf:=xf.box _ _ Bs;rcases afp (v:=pv) tv NU with⟨so,fo⟩|⟨so,fo⟩;rotate_left 1
  ·have iE:mz ae ag av aC s=ay:=by
    cases ho:mz ae ag av aC s with|false=>rfl|true=>obtain⟨p',z1,z2,z3⟩:=kown.out ho;rw[hp] at z1;injection z1 with z1;subst z1;rw[so] at z3;cases z3
   have eZ:=aq.mk (kQs.out K2 FT (aQ.1 fO).1 (aQ.1 jf).1 iE);obtain⟨t1,t2,t3,t4,t5,t6⟩:=Bd fO jf ah 0 340;clear iE az eC q og ui hK pX Bj DB DQ B8 Bs GB Gx DA v1 v2 v3 v4 v5 v6 kQs kQn hp a1 a2 a3 a4 a5 a6 xf fO jf FT so;unfold im at cf;rcases fo with fo|fo
   ·rw[fo] at cf;clear fo;generalize (ek ag aC k).length=i at *
    refine eg @zA @kj @ml ?_;refine⟨aT,aT,?_⟩;refine fQ nH aw ?_;refine eg @zA @kj @ml ?_;exact eZ.out
   ·rw[fo] at cf;clear fo;generalize (ek ag aC k).length=i at *
    refine eg @zA @kj @ml ?_;refine⟨aT,aT,?_⟩;refine fQ nH aw ?_;refine eg @zA @kj @ml ?_;exact eZ.out
  rw[fo] at cf;have vn:=xf.box _ _ GB;have oB:=xf.box _ _ DQ;have JF:=xf.box _ _ Gx;have Jp:=xf.box _ _ DA;obtain⟨b6,vr6,z1,-⟩:=kW.out.eu;have bZ:c≠iI:=λe=>by rw[e] at z1;rw[gsum6] at z1;unfold gL at z1;simp at z1
  have F3:c≠ib:=λe=>by rw[e] at z1;rw[gib6] at z1;unfold gL at z1;simp at z1
  have UN:=xf.box _ _ (og _ _ z1 bZ F3);have lwb:aF aj Gt K2 90 (.ptr (.box wb) 0)=aa (.ptr (.box c) 0):=cI v9 vn rfl;have lWt:aF aj Gt K2 23 (.ptr (.box c) 6)=aa Wt:=cI mW UN rfl;have vt:=tj.ix (i:=k) (by rw[w2,w3];exact NU);have lWk:=fP (H:=K2) (l:=eP ae ag l) (i:=k) (s:=1) (by rw[w2,w3];exact NU);have lsb2:aF aj Gt K2 36 (.ptr (.box sb) 0)=aa S:=cI LY oB rfl;have lib2:aF aj Gt K2 3 (.ptr (.box ib) 0)=aa (.v (.int .i64 ((ek ag aC k).length:Nat))):=cI eM Jp rfl;have lsum2:aF aj Gt K2 3 (.ptr (.box iI) 0)=aa (.v (.int .i64 (lh (eP ae ag l) (s.take (ek ag aC k).length)))):=cI eM JF rfl;have ls1:=aib (H:=K2) (s:=2) hp;have cm:=JY (al (eP ae ag l) k) pv;have ca:=Iy (lh (eP ae ag l) (s.take (ek ag aC k).length)) (db (al (eP ae ag l) k) pv);have cd:=aq6 (y:=eP ae ag l) hp;simp only[dS] at cd;rw[<-cd] at ca;have stS:=HE (n:=lh (eP ae ag l) (s.take ((ek ag aC k).length+1))) JF;have NN:(K2.put iI [.v (.int .i64 (lh (eP ae ag l) (s.take ((ek ag aC k).length+1))))]).boxes[ib]?=aa [.v (.int .i64 ((ek ag aC k).length:Nat))]:=by rw[cP ah];exact Jp
  have lib3:aF aj Gt (K2.put iI [.v (.int .i64 (lh (eP ae ag l) (s.take ((ek ag aC k).length+1))))]) 3 (.ptr (.box ib) 0)=aa (.v (.int .i64 ((ek ag aC k).length:Nat))):=cI eM NN rfl;have stI:=HE (n:=(((ek ag aC k).length+1:Nat):Int)) NN;have agB:(((ek ag aC k).length+1:Nat):Int)=((ek ag aC k).length:Int)+1:=by omega
  have eZ:=aq.mk (kQn.out ((K2.put iI [.v (.int .i64 (lh (eP ae ag l) (s.take ((ek ag aC k).length+1))))]).put ib [.v (.int .i64 (((ek ag aC k).length+1:Nat):Int))]) FT (by
   have dy:=(aQ.1 FT).1;have ahv:=(aQ.1 JF).1;have Bz:=(aQ.1 Jp).1;have bO:(ek ag aC (k+1)).length=(ek ag aC k).length+1:=(by rw[Hh hc];simp);refine⟨Yq dy,λa cs ha n1 n2=>?_,?_,?_,by omega,?_,?_⟩
   ·show((K2.put iI _).put ib _).boxes[a]?=_;rw[cP n2,cP n1];exact xf.box _ _ (by rw[pX];exact q.cZ a cs ha n1 n2)
   ·show((K2.put iI _).put ib _).boxes[iI]?=_;rw[cP ah,bO];exact ey ahv
   ·show((K2.put iI _).put ib _).boxes[ib]?=_;rw[bO];exact ey (by rw[mc];exact Bz)
   ·rw[bO,gx hp,oM,q.same,Hh hc,oM];rfl
   ·rw[bO,gx hp,List.all_append,q.ok,vR];simp[so]))
  clear eC q og ui hK pX Bj DB DQ B8 Bs GB Gx DA v1 v2 v3 v4 v5 v6 kQs kQn hp a1 a2 a3 a4 a5 a6 xf fO jf FT so fo vn oB JF Jp NN UN z1 cd w2 w3;unfold im at *
  generalize (ek ag aC k).length=i at *
  generalize lh (eP ae ag l) (s.take i)=sv at *
  generalize lh (eP ae ag l) (s.take (i+1))=sv2 at *
  generalize db (al (eP ae ag l) k) pv=mv at *
  generalize al (eP ae ag l) k=wv at *
  rw[agB] at stI eZ;refine eg @zA @kj @ml ?_;refine⟨aT,aT,?_⟩;refine fQ nH aw ?_;refine bW @zA @Tz @kj @ml ?_;refine fQ nH aw ?_;refine eg @zA @Tz @qH ?_;exact eZ.out
 ·obtain⟨Hf,cF,hF⟩:=feed;rcases hF with q|⟨q,iE⟩;rotate_left 1
  ·have Gu:res=(0,340):=(by rw[gH,aD iE]);have kr:=aq.mk Gu;refine⟨_,_,cF,_,q.lp,(aO:LoopState.done≠ .busy),.inr ⟨rfl,?_⟩⟩;have qz:(Hf.eH h6.loops.length {rec with state:=.exhausted,pending:=aa .ret}).boxes[zb]?=aa [.v (.int .i64 0)]:=q.z;have qe:(Hf.eH h6.loops.length {rec with state:=.exhausted,pending:=aa .ret}).boxes[eb]?=aa [.v (.int .i64 340)]:=q.e;have lz:aF aj Gt (Hf.eH h6.loops.length {rec with state:=.exhausted,pending:=aa .ret}) 3 (.ptr (.box zb) 0)=aa (.v (.int .i64 0)):=cI eM qz rfl;have le:aF aj Gt (Hf.eH h6.loops.length {rec with state:=.exhausted,pending:=aa .ret}) 32 (.ptr (.box eb) 0)=aa (.v (.int .i64 340)):=cI xP qe rfl;clear cF q iE gH Gu kf kW gk6 gs6 wy ge6 gw6 gp6 ga6 gb6 gsum6 gib6 hm w2 w3 tj p1 p3 tv og1 og2 og3 og4 gv v1 v2 v3 v4 v5 v6 qz qe uq;refine bR @lI ?_;exact⟨_,_,rfl,by rw[kr.out]⟩
  refine⟨_,_,cF,_,q.lp,by rw[v5];decide,.inl ⟨v6,?_⟩⟩;obtain⟨HF,Ds⟩:∃HF,Hf.eH h6.loops.length {rec with state:=.exhausted}=HF:=⟨_,rfl⟩;have Bn:∀a:Nat,HF.boxes[a]?=Hf.boxes[a]?:=λa=>by rw[<-Ds];rfl
  have og:∀(a:Nat) (cs:List AV),h6.boxes[a]?=aa cs->a≠iI->a≠ib->HF.boxes[a]?=aa cs:=λa cs ha n1 n2=>by rw[Bn];exact q.cZ a cs ha n1 n2
  have Gv:=og _ _ gs6 ah ah;have B2:=og _ _ wy ah ah;have Br:=og _ _ ge6 ah ah;have DX:=og _ _ gw6 ah ah;have BP:=og _ _ gp6 ah ah;have Ac:=(Bn iI).trans q.sum;have Dz:=(Bn ib).trans q.ix;have eC:=q.le;have iM:=q.same;have BM:=q.ok;rw[Kk] at Ac Dz eC iM BM;rw[Ds];have lib:aF aj Gt HF 3 (.ptr (.box ib) 0)=aa (.v (.int .i64 ((iZ ag aC).length:Nat))):=cI eM Dz rfl;have lsb:aF aj Gt HF 36 (.ptr (.box sb) 0)=aa S:=cI LY Gv rfl;have lSn:=kf.out.2.2.2.2.dN;rcases dT (iZ ag aC).length s.length with az|eo
  ·have iE:mz ae ag av aC s=ay:=by
    cases ho:mz ae ag av aC s with|false=>rfl|true=>unfold mz at ho;rw[bA,decide_eq_true_eq] at ho;have:=congrArg List.length ho.1;rw[bJ,bJ] at this;omega
   have Gu:res=(0,340):=(by rw[gH,aD iE]);have kr:=aq.mk Gu;obtain⟨a1,a2,a3,a4,a5,a6⟩:=Bd B2 Br ah 0 340;have dd:decide ((((iZ ag aC).length:Nat):Int)<(s.length:Int))=ai:=cz ah;clear cF q iE gH Gu kf kW gk6 gs6 wy ge6 gw6 gp6 ga6 gb6 gsum6 gib6 hm w2 w3 tj p1 p3 tv og1 og2 og3 og4 gv v1 v2 v3 v4 v5 v6 uq Ds Bn og Gv B2 Br DX BP Ac Dz eC iM BM az;refine bR @lI ?_;exact⟨_,_,rfl,by rw[kr.out]⟩
  have bE:(iZ ag aC).length=s.length:=by omega
  have JJ:mz ae ag av aC s=ai:=by unfold mz;rw[bE,gM] at iM BM;rw[iM,BM];simp
  have dd:decide ((((iZ ag aC).length:Nat):Int)<(s.length:Int))=ay:=cX ah;rw[bE,gM] at Ac;rw[aG (by rw[JJ];simp)] at gH;have c8:=GY 4 d;have c9:=GY 4 f;have hG:(4:Int).toNat=Gn:=rfl;rw[td rL,hG] at c8 c9;have lpD:aF aj Gt HF 3 (.ptr (.box pb) 2)=aa (.v (.int .i64 x.d)):=cI eM BP rfl;have lpE:aF aj Gt HF 3 (.ptr (.box pb) 3)=aa (.v (.int .i64 x.e)):=cI eM BP rfl;obtain⟨a1,a2,a3,a4,a5,a6⟩:=Bd B2 Br ah 0 420;by_cases hU:((br Gn d:Nat):Int)=x.d;rotate_left 1
  ·have kr:=aq.mk (gH.trans (aD (.inl hU)));have dq:decide (((br Gn d:Nat):Int)=x.d)=ay:=cX hU;clear cF q JJ gH kf kW gk6 gs6 wy ge6 gw6 gp6 ga6 gb6 gsum6 gib6 hm w2 w3 tj p1 p3 tv og1 og2 og3 og4 gv v1 v2 v3 v4 v5 v6 uq Ds Bn og Gv B2 Br DX BP Ac Dz eC iM BM eo bE hG hU;generalize ((br Gn d:Nat):Int)=pd at *
   unfold im at *
   refine bR @lI ?_;refine oG [(7,9)] nH aw (λp hp=>?_) ?_
   ·simp only[ph] at hp;subst hp;refine apq aw rfl rfl aw ?_ ?_
    ·simp only[iK,gm];refine cq @lI @jx ?_;refine⟨by trivial,?_⟩;simp[fg,KF]
    ·simp only[iK,gm];exact jq @lI @jx
   refine cq @lI @jx ?_;exact⟨_,_,rfl,by rw[kr.out]⟩
  have dq:decide (((br Gn d:Nat):Int)=x.d)=ai:=cz hU;by_cases jJ:((br Gn f:Nat):Int)=x.e;rotate_left 1
  ·have kr:=aq.mk (gH.trans (aD (.inr jJ)));have dq2:decide (((br Gn f:Nat):Int)=x.e)=ay:=cX jJ;clear cF q JJ gH kf kW gk6 gs6 wy ge6 gw6 gp6 ga6 gb6 gsum6 gib6 hm w2 w3 tj p1 p3 tv og1 og2 og3 og4 gv v1 v2 v3 v4 v5 v6 uq Ds Bn og Gv B2 Br DX BP Ac Dz eC iM BM eo bE hG hU jJ;generalize ((br Gn d:Nat):Int)=pd at *
   generalize ((br Gn f:Nat):Int)=pf at *
   unfold im at *
   refine bR @lI ?_;refine oG [(7,9)] nH aw (λp hp=>?_) ?_
   ·simp only[ph] at hp;subst hp;refine YM (x:=.ptr (.box pb) 3) (v:=.v (.int .i64 x.e)) aw rfl rfl aw (by simp[fC,me]) ?_ ?_
    ·simp only[iK,gm];refine cq @lI @jx ?_;refine⟨by trivial,?_,by trivial,by trivial⟩;simp[fg,KF]
    ·simp only[iK,gm];exact qM @lI @jx @and_self
   refine cq @lI @jx ?_;exact⟨_,_,rfl,by rw[kr.out]⟩
  have dq2:decide (((br Gn f:Nat):Int)=x.e)=ai:=cz jJ;rw[aG (by simp[hU,jJ])] at gH;have kr:=aq.mk gH;obtain⟨b6,vr6,z1,z2,z3⟩:=kW.out.eu;have bZ:c≠iI:=λe=>by rw[e] at z1;rw[gsum6] at z1;unfold gL at z1;simp at z1
  have F3:c≠ib:=λe=>by rw[e] at z1;rw[gib6] at z1;unfold gL at z1;simp at z1
  have pH:=z3.1;have ou:=na z3.four;rw[bJ] at pH;have ag7:0<l.length:=List.length_pos_iff.2 (λe=>by rw[e] at kxl;simp at kxl);have nj:b6≠iI:=λe=>by rw[e] at z2;rw[gsum6] at z2;injection z2 with z2;rw[<-z2] at ou;simp at ou;omega
  have ug:b6≠ib:=λe=>by rw[e] at z2;rw[gib6] at z2;injection z2 with z2;rw[<-z2] at ou;simp at ou;omega
  have WF:uO HF c ep X Y C T L Wt ((jX (al av 0) text l:Nat):Int) ((dR (al av 0) text l:Nat):Int) av text l:=
   ⟨⟨b6,vr6,og _ _ z1 bZ F3,og _ _ z2 nj ug,z3⟩,kW.out.My,kW.out.pos,kW.out.c0,kW.out.Cw,kW.out.tl,kW.out.ll⟩
  obtain⟨_,_,cb,rfl,rfl⟩:=Ml HF c ep X Y C T L Wt _ _ av text l WF x ⟨ah,by omega⟩;rw[uq] at cb;have Nn:=og _ _ z1 bZ F3;have lwb:aF aj Gt HF 90 (.ptr (.box wb) 0)=aa (.ptr (.box c) 0):=cI v9 DX rfl;have lwb2:aF aj Gt (HF.push (cD x)) 90 (.ptr (.box wb) 0)=aa (.ptr (.box c) 0):=cI v9 (aZ DX) rfl;have lch:aF aj Gt HF 3 (.ptr (.box c) 12)=aa (.v (.int .i64 ((dR (al av 0) text l:Nat):Int))):=cI eM Nn rfl;have lch2:aF aj Gt (HF.push (cD x)) 3 (.ptr (.box c) 12)=aa (.v (.int .i64 ((dR (al av 0) text l:Nat):Int))):=cI eM (aZ Nn) rfl;have lsu:aF aj Gt HF 3 (.ptr (.box iI) 0)=aa (.v (.int .i64 (lh (eP ae ag l) s))):=cI eM Ac rfl;have lsu2:aF aj Gt (HF.push (cD x)) 3 (.ptr (.box iI) 0)=aa (.v (.int .i64 (lh (eP ae ag l) s))):=cI eM (aZ Ac) rfl;have lpp:=Cf BP;have m1:=JY f ((gF (al av 0) text l aC:Nat):Int);have m2:=Iy d (db f ((gF (al av 0) text l aC:Nat):Int));have m3:=JY ((dR (al av 0) text l:Nat):Int) (lh (eP ae ag l) s);have m4:=Iy (cS d (db f ((gF (al av 0) text l aC:Nat):Int))) (db ((dR (al av 0) text l:Nat):Int) (lh (eP ae ag l) s));obtain⟨t1,t2,t3,t4,t5,t6⟩:=Bd (Hx:=HF.push (cD x)) (aZ B2) (aZ Br) ah (cS (cS d (db f ((gF (al av 0) text l aC:Nat):Int))) (db ((dR (al av 0) text l:Nat):Int) (lh (eP ae ag l) s))) 0;clear cF q JJ gH kf kW gk6 gs6 wy ge6 gw6 gp6 ga6 gb6 gsum6 gib6 hm w2 w3 tj p1 p3 tv og1 og2 og3 og4 gv v1 v2 v3 v4 v5 v6 uq Ds Bn og Gv B2 Br DX BP Ac Dz eC iM BM eo bE hG hU jJ a1 a2 a3 a4 a5 a6 WF Nn z1 z2 z3 bZ F3 nj ug pH ou ag7 kxl;generalize cS (cS d (db f ((gF (al av 0) text l aC:Nat):Int))) (db ((dR (al av 0) text l:Nat):Int) (lh (eP ae ag l) s))=zz at *
  generalize cS d (db f ((gF (al av 0) text l aC:Nat):Int))=za at *
  generalize db f ((gF (al av 0) text l aC:Nat):Int)=zm at *
  generalize db ((dR (al av 0) text l:Nat):Int) (lh (eP ae ag l) s)=zs at *
  generalize ((gF (al av 0) text l aC:Nat):Int)=bv at *
  generalize ((dR (al av 0) text l:Nat):Int)=chv at *
  generalize lh (eP ae ag l) s=wv at *
  generalize ((br Gn d:Nat):Int)=pd at *
  generalize ((br Gn f:Nat):Int)=pf at *
  unfold im at *
  refine bR @lI ?_;refine oG [(7,9)] nH aw (λp hp=>?_) ?_
  ·simp only[ph] at hp;subst hp;refine YM (x:=.ptr (.box pb) 3) (v:=.v (.int .i64 x.e)) aw rfl rfl aw (by simp[fC,me]) ?_ ?_
   ·simp only[iK,gm];refine cq @lI @jx ?_;refine⟨by trivial,?_,by trivial,by trivial⟩;simp[fg,KF]
   ·simp only[iK,gm];exact qM @lI @jx @and_self
  refine cq @lI @jx ?_;refine oG [(4,7),(4,10),(4,11)] nH aw (λp hp=>?_) ?_
  ·simp only[jm,AN,or_false] at hp;rcases hp with rfl|rfl|rfl
   ·refine vM (x:=.ptr (.box wb) 0) (v:=.ptr (.box c) 0) aw rfl rfl rfl aw (Ym c 0) ?_ ?_<;>(simp only[iK,gm];exact qM @lI @jx @and_self)
   ·refine vM (x:=.ptr (.box c) 12) (v:=.v (.int .i64 chv)) aw rfl rfl rfl aw (by simp[fC,me]) ?_ ?_<;>(simp only[iK,gm];exact oo @lI @jx @qH @and_self)
   ·refine vM (x:=.ptr (.box iI) 0) (v:=.v (.int .i64 wv)) aw rfl rfl rfl aw (by simp[fC,me]) ?_ ?_<;>(simp only[iK,gm];exact oo @lI @jx @qH @and_self)
  refine eg @lI @jx @qH ?_;exact⟨_,_,rfl,by rw[kr.out]⟩
def L6:List FuncId:=L5++[17,20,22,26,41,44,45,56,63,75,80,133,134]
noncomputable def PE:FuncId->Option (List AV->ao->Option (AV × ao)):=tX W5 L6
noncomputable abbrev W6:=whole aj Gt PE
def FA:tQ PE L6:=FC
section
variable (a b n x:Int)
def abu:∀h,W6.call 28 [im a,im b] h=aa (.ret (im (cS a b)),h):=cC (L:=L6) rfl rfl rfl (Iy a b _) rfl rfl
def Ue:∀h,W6.call 30 [im a,im n] h=aa (.ret (.tuple [im (eU a n),im (mo a)]),h):=cC (L:=L6) rfl rfl rfl (Jf a n _) rfl rfl
def aof:∀h,W6.call 94 [im x] h=aa (.ret (.v (.bool (b9 x))),h):=cC (L:=L6) rfl rfl rfl (aoe x _) rfl rfl
def alw:∀h,W6.call 140 [im a,im b] h=aa (.ret (.tuple [im (jy a b),im (nf a b)]),h):=cC (L:=L6) rfl rfl rfl (alv a b _) rfl rfl
def XD:∀h,W6.call 132 [im a,im n] h=aa (.ret (.tuple [im (eU a n),im (mo a)]),h):=cC (L:=L6) rfl rfl rfl (alC a n _) rfl rfl
def XE:∀h,W6.call 120 [im n] h=aa (.ret (.agg (bf 1 n [] .nil 0 [])),h):=cC (L:=L6) rfl rfl rfl (alQ n _) rfl rfl
end
def Vu:∀l:List Pr,fS (lH l)=lH l
 | []=>rfl
 |p::l=>by show fS (cD p::lH l)=_;rw[fS,Vu l];rfl
def MH:∀l:List Pr,iU 0 0 0 (lH l)=ai
 | []=>rfl
 |p::l=>by show iU 0 0 0 (cD p::lH l)=_;rw[iU,MH l];rfl
def Vv:∀l:List (Int × Int),fS (iP l)=iP l
 | []=>rfl
 |p::l=>by show fS (jY p::iP l)=_;rw[fS,Vv l];rfl
def MI:∀l:List (Int × Int),iU 0 0 0 (iP l)=ai
 | []=>rfl
 |p::l=>by show iU 0 0 0 (jY p::iP l)=_;rw[iU,MI l];rfl
def Vw:∀l:List Int,fS (l.map KS)=l.map KS
 | []=>rfl
 |p::l=>by rw[ev,fS,Vw l];rfl
def TM:∀l:List Int,iU 0 0 0 (l.map KS)=ai
 | []=>rfl
 |p::l=>by rw[ev,iU,TM l];rfl
def PL.hold{x}{l}(h:PL x l):PL (aI x) l/\aW 0 0 0 (aI x)=ai:=by obtain⟨k,s,rfl,hs⟩:=h;rw[aI,Vu];exact⟨⟨ct k,s,rfl,hs⟩,by rw[aW,fJ,MH];rfl⟩
def SL.hold{x}{l}(h:SL x l):SL (aI x) l/\aW 0 0 0 (aI x)=ai:=by obtain⟨k,s,rfl,hs⟩:=h;rw[aI,Vv];exact⟨⟨ct k,s,rfl,hs⟩,by rw[aW,fJ,MI];rfl⟩
def UL.hold{x}{l}(h:UL x l):UL (aI x) l/\aW 0 0 0 (aI x)=ai:=by obtain⟨⟨k,s,rfl,hs⟩,hr⟩:=h;rw[aI,Vw];exact⟨⟨⟨ct k,s,rfl,hs⟩,hr⟩,by rw[aW,fJ,TM];rfl⟩
def BL.hold{x}{b}(h:BL x b):BL (aI x) b/\aW 0 0 0 (aI x)=ai:=by obtain⟨k,s,rfl,hs⟩:=h;rw[aI,qP];exact⟨⟨ct k,s,rfl,hs⟩,by rw[aW,fJ,kC];rfl⟩
def GH{X Y C}{ae}{ag av}(ep)(hx:RL X ae)(hy:IL Y ag)(hc:IL C av):
 ∃X' Y' C',aI (.agg (cB ep X Y C))=.agg (cB ep X' Y' C')/\RL X' ae/\IL Y' ag/\IL C' av/\aW 0 0 0 (.agg (cB ep X' Y' C'))=ai:=by
 obtain⟨h1,h2⟩:=hx.qc;obtain⟨h3,h4⟩:=hy.hold;obtain⟨h5,h6⟩:=hc.hold;exact⟨_,_,_,rfl,h1,h3,h5,by simp[cB,aW,bg,h2,h4,h6]⟩
section
variable (ep:Int) (X Y C T L:AV) (ae:List (List Int)) (ag av:List Int) (text:List UInt8) (l:List Pr)
 (hx:RL X ae) (hy:IL Y ag) (hc:IL C av) (ht:BL T text) (hp:PL L l) (cV:av.length<=1000000) (dy:l.length<=1000000)
include hx hy hc ht hp cV dy
def acO:(dJ ae ag ep av text l≠0/\∀h,W6.call 17 [.agg (cB ep X Y C),T,L] h=aa (.ret (.tuple [.list .nil 0 [],im 0,im 0,im (dJ ae ag ep av text l)]),h))∨
 (dJ ae ag ep av text l=0/\∃Z,IL Z (wg (al av 0) text l)/\∀h,W6.call 17 [.agg (cB ep X Y C),T,L] h=aa (.ret (.tuple [Z,im ((jX (al av 0) text l:Nat):Int),im ((dR (al av 0) text l:Nat):Int),im 0]),h)):=by
 obtain⟨X',Y',C',e1,h1,h2,h3,h4⟩:=GH ep hx hy hc;obtain⟨h5,h6⟩:=ht.hold;obtain⟨h7,h8⟩:=hp.hold;have ea:cA [.agg (cB ep X Y C),T,L]=[.agg (cB ep X' Y' C'),aI T,aI L]:=by rw[cA,cA,cA,cA,e1]
 have ef:bg 0 0 0 [.agg (cB ep X' Y' C'),aI T,aI L]=ai:=by rw[bg,bg,bg,bg,h4,h6,h8];rfl
 obtain⟨r,h',c,⟨q,rfl⟩|⟨q,Z,rfl,hZ⟩⟩:=acN ⟨[],[],0,[]⟩ ux ep X' Y' C' (aI T) (aI L) ae ag av text l h1 h2 h3 h5 h7 cV dy
 ·exact .inl ⟨q,cC (L:=L6) rfl ea ef c rfl rfl⟩
 ·obtain⟨k,s,rfl,hs⟩:=hZ;refine .inr ⟨q,.list (ct k) s (ints _),⟨_,_,rfl,hs⟩,cC (L:=L6) rfl ea ef c ?_ ?_⟩
  ·rfl
  ·rw[aW,bg,aW,fJ,ud];rfl
def aiJ(S:AV)(s:List (Int × Int))(aC d f:Int)(hs:SL S s)(mO:s.length<=1000000):
 ∀h,W6.call 20 [.agg (cB ep X Y C),T,L,im aC,S,im d,im f] h=aa (.ret (.tuple [im (uy ae ag ep av text l aC s d f).1,im (uy ae ag ep av text l aC s d f).2]),h):=by
 obtain⟨X',Y',C',e1,h1,h2,h3,h4⟩:=GH ep hx hy hc;obtain⟨h5,h6⟩:=ht.hold;obtain⟨h7,h8⟩:=hp.hold;obtain⟨h9,wC⟩:=hs.hold;obtain⟨r,h',c,rfl⟩:=aiI ⟨[],[],0,[]⟩ ux ep X' Y' C' (aI T) (aI L) (aI S) ae ag av text l s aC d f h1 h2 h3 h5 h7 h9 cV dy mO;exact cC (L:=L6) rfl (by simp only[cA];rw[e1];rfl) (by simp only[bg];rw[h4,h6,h8,wC];rfl) c rfl rfl
def afl(aC z:Int):
 ∀h,W6.call 22 [.agg (cB ep X Y C),T,L,im aC,im z] h=aa (.ret (.tuple [.v (.bool (o8 ae ag ep av text l aC z).1),im (o8 ae ag ep av text l aC z).2]),h):=by
 obtain⟨X',Y',C',e1,h1,h2,h3,h4⟩:=GH ep hx hy hc;obtain⟨h5,h6⟩:=ht.hold;obtain⟨h7,h8⟩:=hp.hold;obtain⟨r,h',c,rfl⟩:=afj ⟨[],[],0,[]⟩ ux ep X' Y' C' (aI T) (aI L) ae ag av text l aC z h1 h2 h3 h5 h7 cV dy;exact cC (L:=L6) rfl (by simp only[cA];rw[e1];rfl) (by simp only[bg];rw[h4,h6,h8];rfl) c rfl rfl
end
def aqL(key e s)(T)(text)(ht:BL T text)(hl:text.length<=1000000):
 ∀h,W6.call 26 [im key,T,.agg [im e,im s]] h=aa (.ret (.v (.bool (ny key text e s))),h):=by
 obtain⟨⟨k,z,e1,hs⟩,h2⟩:=ht.hold;obtain⟨r,h',c,rfl,-⟩:=aqK ⟨[],[],0,[]⟩ key e s k z text hs hl;exact cC (L:=L6) rfl (by simp only[cA];rw[e1];rfl) (by rw[<-e1];simp only[bg];rw[h2];rfl) c rfl rfl
def aoY(x y)(ae)(ag)(hx:RL x ae)(hy:IL y ag):∀h,W6.call 75 [.agg [x,y]] h=aa (.ret (.v (.bool (xm ae ag))),h):=by obtain⟨h1,h2,h3,h4⟩:=vE hx hy;obtain⟨r,h',c,rfl⟩:=aoZ ⟨[],[],0,[]⟩ (aI x) (aI y) ae ag h1 h2;exact cC (L:=L6) (dL:=[.agg [aI x,aI y]]) rfl rfl (by simp[bg,aW,h3,h4]) c rfl rfl
def aeF(x y z)(ae)(ag bC)(bu)(hx:RL x ae)(hy:IL y ag)(hz:IL z bC)(hl:bC.length<=1000)(kL:ae.length<=1000000):
 (sU ae ag bu bC≠0/\∀h,W6.call 44 [.agg [x,y],im bu,z] h=aa (.ret (.tuple [.list .nil 0 [],.list .nil 0 [],im (sU ae ag bu bC)]),h))∨
 (sU ae ag bu bC=0/\∃U V,SL U (oT ae (bu::bC))/\IL V (bF (bu::bC))/\∀h,W6.call 44 [.agg [x,y],im bu,z] h=aa (.ret (.tuple [U,V,im 0]),h)):=by
 obtain⟨h1,h2,h3,h4⟩:=vE hx hy;obtain⟨h5,h6⟩:=hz.hold;have ef:bg 0 0 0 [.agg [aI x,aI y],im bu,aI z]=ai:=by simp[bg,aW,h3,h4,h6,im]
 obtain⟨r,h',c,⟨q,rfl⟩|⟨q,t1,s1,t2,s2,rfl,g1,g2⟩⟩:=aeE ⟨[],[],0,[]⟩ ux (aI x) (aI y) (aI z) ae ag bC bu h1 h2 h5 hl kL
 ·exact .inl ⟨q,cC (L:=L6) (dL:=[.agg [aI x,aI y],im bu,aI z]) rfl rfl ef c rfl rfl⟩
 ·refine .inr ⟨q,.list (ct t1) s1 (iP _),.list (ct t2) s2 (ints _),⟨_,_,rfl,g1⟩,⟨_,_,rfl,λ_=>g2⟩,cC (L:=L6) (dL:=[.agg [aI x,aI y],im bu,aI z]) rfl rfl ef c ?_ ?_⟩
  ·rfl
  ·rw[aW,bg,aW,fJ,MI,bg,aW,fJ,ud];rfl
def ad8(x y)(ae)(ag)(hx:RL x ae)(hy:IL y ag):∀h,W6.call 42 [.agg [x,y]] h=aa (.ret (im (bV ae:Nat)),h):=by obtain⟨h1,h2,h3,h4⟩:=vE hx hy;exact cC (L:=L6) (dL:=[.agg [aI x,aI y]]) rfl rfl (by simp[bg,aW,h3,h4]) (Tc (aI x) (aI y) ae ag h1 h2 _) rfl rfl
def WT(x)(l)(hx:IL x l)(hl:l.length<=9223372036854775807):∀h,W6.call 92 [x] h=aa (.ret (.v (.bool (l.all cE))),h):=by obtain⟨h1,h2⟩:=hx.hold;exact cC (L:=L6) (dL:=[aI x]) rfl rfl (by simp[bg,h2]) (ajc (aI x) l h1 hl _) rfl rfl
def ajY(x)(l)(hx:IL x l)(hl:l.length<=9223372036854775807):∀h,W6.call 93 [x] h=aa (.ret (.v (.bool (fE (-1) l))),h):=by obtain⟨h1,h2⟩:=hx.hold;exact cC (L:=L6) (dL:=[aI x]) rfl rfl (by simp[bg,h2]) (ajX (aI x) l h1 hl _) rfl rfl
def abp(x y z)(ae)(ag ar)(hx:RL x ae)(hy:IL y ag)(hz:IL z ar)(ji:ar.length<=1099511627776):
 (∃e,iL ae ag ar=([],ay,e)/\∀h,W6.call 76 [.agg [x,y],z] h=aa (.ret (.tuple [.list .nil 0 [],.v (.bool ay),im e]),h))∨
 ∃l,iL ae ag ar=(l,ai,0)/\l.length=ae.length/\∃Z,IL Z l/\∀h,W6.call 76 [.agg [x,y],z] h=aa (.ret (.tuple [Z,.v (.bool ai),im 0]),h):=by
 obtain⟨h1,h2,h3,h4⟩:=vE hx hy;obtain⟨h5,h6⟩:=hz.hold;have ef:bg 0 0 0 [.agg [aI x,aI y],aI z]=ai:=by simp[bg,aW,h3,h4,h6]
 obtain⟨k,s,xs,e1,-⟩:=h1.form;rw[e1] at h1;rcases R1 k s xs (aI y) (aI z) ae ag ar h1 h2 h5 ji with⟨e,q,c⟩|⟨l,q,ql,c⟩
 ·rw[<-e1] at c;exact .inl ⟨e,q,cC (L:=L6) (dL:=[.agg [aI x,aI y],aI z]) rfl rfl ef (c _) rfl rfl⟩
 ·rw[<-e1] at c;refine .inr ⟨l,q,ql,.list .held 1 (ints l),⟨_,_,rfl,λ_=>rfl⟩,cC (L:=L6) (dL:=[.agg [aI x,aI y],aI z]) rfl rfl ef (c _) ?_ ?_⟩
  ·rfl
  ·rw[aW,bg,aW,ud];rfl
def R2{ae}{ag ar}(hp:dn ae ag=0)(hw:fE (-1) ar=ai):(iL ae ag ar).2.2=0:=by unfold iL;rw[aG (by rw[hp];simp),hw];simp only[HX,ju,if_false];split<;>rfl
def QK(ep:Int)(X Y C S W L N:AV):List AV:=[im ep,X,Y,C,S,W,L,N]
abbrev nl:AV:=.list .nil 0 []
def QJ:dm aj 27=aa 4:=aw
def aqc:dm aj 29=aa 1:=aw
def aqd:dm aj 36=aa 1:=aw
def ahJ:∃i,aj.info? 85=aa i/\i.size=4/\i.bytes<=64/\(i.zero.map λz=>z.cells.size)=aa 4:=by
 have h:(match aj.info? 85 with|some i=>Nat.beq i.size 4&&Nat.ble i.bytes 64&&decide ((i.zero.map λz=>z.cells.size)=aa 4)|none=>ay)=ai:=aw;cases hi:aj.info? 85 with
 |none=>rw[hi] at h;cases h
 |some i=>rw[hi] at h;simp only[bA,decide_eq_true_eq] at h;exact⟨i,rfl,Nat.eq_of_beq_eq_true h.1.1,lN h.1.2,h.2⟩
def acZ(p):gN aj 29 1 [(0,.agg (cD p))]=aa (.list .tight 4 [cD p]):=aw
def abU{H}{k}{n0 sz}{l}{p}(hl:l.length<1000000)(hs:sz=4∨(l=[]/\k=.nil))(hk:dQ n0 H k):
 gd aj H #[29,29] (.list k sz (lH l)) (.list .tight 4 [cD p])=aa (.list (.free H.tn) 4 (lH (l++[p])),H.app k):=by
 have:=Mc (T:=29) (E:=85) (n:=4) (H:=H) (k:=k) (n0:=n0) (sz:=sz) (es:=lH l) (r:=cD p) Tryz.underlying29 ahJ ah (by rw[GS];omega) (hs.imp_right λq=>⟨by rw[q.1];rfl,q.2⟩) hk;rw[this];unfold lH;rw[oM];rfl
structure TI(h H:ao)(X Y:AV)(T:List AV)(t:Tok):Prop where
 ext:Ext h H
 ok:dj H=ai
 can:dQ h.tn H t
 pb:H.boxes[h.boxes.length]?=aa [X,Y]
 tb:H.boxes[h.boxes.length+1]?=aa T
section
variable {h H:ao} {X Y:AV} {T:List AV} {t:Tok}
def TI.app(b:TI h H X Y T t):TI h (H.app t) X Y T (.free H.tn):=by have gr:=Grown.one b.can b.ok b.ext.tn;exact⟨gr.ext b.ext (aJ _),gr.ok,gr.can,by rw[eS];exact b.pb,by rw[eS];exact b.tb⟩
def TI.push(b:TI h H X Y T t)(cs:List AV):TI h (H.push cs) X Y T t:=⟨b.ext.trans (.push _ _),b.ok,by rw[zn];exact b.can,aZ b.pb,aZ b.tb⟩
def TI.put(b:TI h H X Y T t)(T2:List AV):TI h (H.put (h.boxes.length+1) T2) X Y T2 t:=by have hl:=(aQ.1 b.tb).1;exact⟨b.ext.fI ah _,b.ok,by rw[A3];exact b.can,by rw[cP ah];exact b.pb,ey hl⟩
def TI.nil(b:TI h H X Y T t):TI h H X Y T .nil:=⟨b.ext,b.ok,.inl rfl,b.pb,b.tb⟩
end
section
variable {H:ao} {b:Nat} {ep:Int} {X Y C S W L N x:AV}
def stS(hb:H.boxes[b]?=aa (QK ep X Y C S W L N))(hx:x.bU=aa [x]):b8 aj H 36 (.ptr (.box b) 4) x=aa (H.put b (QK ep X Y C x W L N)):=
 fw (off:=4) (cs:=QK ep X Y C S W L N) (xs:=[x]) hx aqd hb rfl (lN rfl)
def RL.zo{x}{l}(h:RL x l):x.bU=aa [x]:=by obtain⟨k,s,xs,rfl,-⟩:=h.form;rfl
def PL.zo{x}{l}(h:PL x l):x.bU=aa [x]:=by obtain⟨k,s,rfl,-⟩:=h;rfl
def IL.zo{x}{l}(h:IL x l):x.bU=aa [x]:=by obtain⟨k,s,rfl,-⟩:=h;rfl
end
structure arB(ae:List (List Int))(ag av:List Int)(sh:List (Int × Int))(ar:List Int)(l:List Pr)(nn:List Int)(X Y C S W L N:AV):Prop where
 x:RL X ae
 y:IL Y ag
 c:IL C av
 s:SL S sh
 w:IL W ar
 p:PL L l
 n:IL N nn
 wl:ar.length<=16
 nl:nn.length=2 * ar.length
 sl:sh.length<=1000
 inn:∀p∈sh,0<=p.1/\p.1<ag.length
 cl:av.length<=1000000
 ll:l.length<=1000000
structure TB(h H:ao)(T:List AV)(t:Tok):Prop where
 ext:Ext h H
 ok:dj H=ai
 can:dQ h.tn H t
 tb:H.boxes[h.boxes.length]?=aa T
section
variable {h H:ao} {T:List AV} {t:Tok}
def TB.app(b:TB h H T t):TB h (H.app t) T (.free H.tn):=by have gr:=Grown.one b.can b.ok b.ext.tn;exact⟨gr.ext b.ext (aJ _),gr.ok,gr.can,by rw[eS];exact b.tb⟩
def TB.push(b:TB h H T t)(cs:List AV):TB h (H.push cs) T t:=⟨b.ext.trans (.push _ _),b.ok,by rw[zn];exact b.can,aZ b.tb⟩
def TB.start(bD:dj h=ai)(T:List AV):TB h (h.push T) T .nil:=⟨.push _ _,bD,.inl rfl,bp _ _⟩
end
def QX:(gy aj 50).bind AV.bU=aa [im 0,im 0]:=aw
def KO:dm aj 50=aa 2:=aw
def abM:fY aj 50=aa ai:=aw
def Ce{H}{b}{x y}(hb:H.boxes[b]?=aa [im x,im y]):aF aj Gt H 50 (.ptr (.box b) 0)=aa (.agg [im x,im y]):=by rw[jj abM KO hb (aJ 2)];rfl
def Qx{H}{b}{x y u v}(hb:H.boxes[b]?=aa [im x,im y]):b8 aj H 50 (.ptr (.box b) 0) (.agg [im u,im v])=aa (H.put b [im u,im v]):=
 fw (off:=0) (cs:=[im x,im y]) (xs:=[im u,im v]) rfl KO hb rfl (aJ 2)
def xN(z:List Int)(k:Nat):Int:=(z.take k).foldl cS 0
def aby{z}{k}(h:k<z.length):xN z (k+1)=cS (xN z k) (al z k):=by unfold xN;rw[gx (a9 h),oL,fx h];rfl
structure oJ(ar N:List Int)(l:List Pr):Prop where
 len:l.length=ar.length
 nl:N.length=2 * ar.length
 ok:∀x∈N,okF x
 at_:∀i<ar.length,∃no:Int,0<=no/\no<4096/\l[i]?=aa ⟨al ar i,no,(br Gn (al N (2 * i)):Nat),(br Gn (al N (2 * i+1)):Nat)⟩
def oJ.vB{ar N}{l}(c:oJ ar N l){i}(h:i<ar.length):okF (al N (2 * i))/\okF (al N (2 * i+1)):=⟨c.ok _ (Fs (by rw[c.nl];omega)),c.ok _ (Fs (by rw[c.nl];omega))⟩
def oJ.jL{ar N}{l}(c:oJ ar N l):l.map Pr.aC=ar:=by
 refine sM λi=>?_;rcases dT i ar.length with h|h
 ·obtain⟨no,-,-,q⟩:=c.at_ i h;rw[eR,q,eX,fx h,a9 h]
 ·rw[qB (by rw[bJ,c.len];exact h),qB h]
def Tq(n):b9 ((br Gn n:Nat):Int)=ai:=by have h:=Ar qy n;unfold b9;rw[dS,h,EF,decide_eq_true_eq];have:=(elem_iff.1 h).1;omega
def ajR:∀{l:List Pr} {dH:Int},fE dH (l.map Pr.aC)=ai->(∀p∈l,0<=p.no/\p.no<4096/\b9 p.d=ai/\b9 p.e=ai)->mb dH l=ai:=by
 intro l
 induction l with
 |nil=>intro _ _ _;rfl|cons p l ih=>intro dH h1 h2;rw[ev,fE] at h1;simp only[bA,decide_eq_true_eq] at h1;obtain⟨q1,q2,q3,q4⟩:=h2 p ga;rw[NT.mb,ih h1.2 λq hq=>h2 q (fR _ hq),q3,q4];simp only[EF,bA,decide_eq_true_eq];omega
def oJ.mem{ar N}{l}(c:oJ ar N l){p}(hp:p∈l):∃i,∃(_:i<ar.length) (no:Int),0<=no/\no<4096/\l[i]?=aa p/\p=⟨al ar i,no,(br Gn (al N (2 * i)):Nat),(br Gn (al N (2 * i+1)):Nat)⟩:=by obtain⟨i,hi⟩:=List.getElem?_of_mem hp;have dG:=(aQ.1 hi).1;rw[c.len] at dG;obtain⟨no,n1,n2,q⟩:=c.at_ i dG;rw[hi] at q;injection q with q;exact⟨i,dG,no,n1,n2,hi,q⟩
def oJ.Ps{ar N}{l}(c:oJ ar N l)(hw:fE (-1) ar=ai):mb (-1) l=ai:=by refine ajR (by rw[c.jL];exact hw) λp hp=>?_;obtain⟨i,hi,no,n1,n2,-,rfl⟩:=c.mem hp;exact⟨n1,n2,Tq _,Tq _⟩
def vt(ar:List Int)(k:Int):Nat:=ar.idxOf k
def V8{ar}(hn:ar.Nodup){i}(h:i<ar.length):vt ar (al ar i)=i:=by unfold vt;rw[fx h];exact hn.idxOf_getElem i h
def oJ.aiy{ar N}{l}(c:oJ ar N l)(hw:fE (-1) ar=ai):Lz l (λk=>al N (2 * vt ar k)) (λk=>al N (2 * vt ar k+1)):=by intro p hp;obtain⟨i,hi,no,n1,n2,-,rfl⟩:=c.mem hp;simp only[V8 (Pw hw).2 hi];exact⟨aT,aT⟩
def ajF{ae}{ag s}(hl:ae.length=ag.length)(k):qk ag [k] (oT ae s)=my ag (jl ae s) k:=by
 unfold qk my iZ oT;rw[hl];have e:∀(L:List Nat),(∀i∈L,i<ae.length)->(L.map λi=>(((i:Nat):Int),oi (ae.getD i []) s)).flatMap (Aq ag [k])=(L.filter λi=>decide (al ag i=k)).map λi=>(((i:Nat):Int),al (jl ae s) i):=by
  intro L
  induction L with
  |nil=>intro _;rfl|cons i L ih=>
   intro hL;have hi:=hL i ga;rw[ev,Lk,ih λj hj=>hL j (fR _ hj),ES];unfold Aq;rw[dS];by_cases q:al ag i=k
   ·rw[aD (by simp[q]),Ij (by simp[q]),ev,ev,Qs hi];rfl
   ·rw[aG (by simp[q]),Ii (by simp[Ne.symm q])];rfl
 exact e _ λi hi=>by rw[hl];exact fD.1 hi
section
variable {ae:List (List Int)} {ag ar N s y:List Int} {l:List Pr} {text:List UInt8} {ep:Int}
def Mz{av:List Int}(c:oJ ar N l)(ha:iL ae ag ar=(y,ai,0))(bE:ar≠[])(ji:ar.length<=64)(ht:text.length<=65536)(he:0<=ep/\ep<=64)(hc:av.length=bV ae)(rO:av.all b9=ai):dJ ae ag ep av text l=0:=by obtain⟨hp,hw,-⟩:=xM ha;unfold dJ;rw[aG (by simp[hp]),aG (by simp[hc,rO,he.1,he.2]),aG ah,aG (by rw[c.len];omega),aG (by rw[c.Ps hw];simp),c.jL,ha];have:ar.length≠0:=λq=>bE (List.length_eq_zero_iff.1 q);simp[c.len,this]
def zq(hs:s.length=bV ae):(bF s).length=bV ae/\(bF s).all b9=ai:=⟨by unfold bF;rw[bJ,hs],aec⟩
def aeq(c:oJ ar N l)(ha:iL ae ag ar=(y,ai,0))(bE:ar≠[])(ji:ar.length<=64)(ht:text.length<=65536)(he:0<=ep/\ep<=64)(hs:s.length=bV ae){i:Nat}(hi:i<ar.length):
 uy ae ag ep (bF s) text l (al ar i) (my ag (jl ae s) (al ar i)) (al N (2 * i)) (al N (2 * i+1))=
  (pJ ae ag (bF s) text l (al ar i) (al N (2 * i)) (al N (2 * i+1)) (my ag (jl ae s) (al ar i)),0):=by
 obtain⟨hp,hw,-⟩:=xM ha;unfold uy;rw[aG (by rw[Mz c ha bE ji ht he (zq hs).1 (zq hs).2];simp)];obtain⟨no,-,-,q⟩:=c.at_ i hi;have hm:=ez q;exact aiL hp hs (c.Ps hw) hm rfl rfl (c.vB hi).1 (c.vB hi).2
def aeo(c:oJ ar N l)(ha:iL ae ag ar=(y,ai,0))(bE:ar≠[])(ji:ar.length<=64)(ht:text.length<=65536)(he:0<=ep/\ep<=64)(hs:s.length=bV ae){i:Nat}(hi:i<ar.length){z:Int}(hz:okF z):
 o8 ae ag ep (bF s) text l (al ar i) z=
  (decide (z=pJ ae ag (bF s) text l (al ar i) (al N (2 * i)) (al N (2 * i+1)) (my ag (jl ae s) (al ar i))),0):=by
 obtain⟨hp,hw,-⟩:=xM ha;unfold o8;rw[aG (by rw[Mz c ha bE ji ht he (zq hs).1 (zq hs).2];simp)];obtain⟨no,-,-,q⟩:=c.at_ i hi;have hm:=ez q;have zY:=Xb (c.Ps hw) hm;unfold zB;rw[zY];simp only[qU.2 hz,HX,ju,if_false];rw[afn hp hs rfl rfl hz]
def aes(c:oJ ar N l)(ha:iL ae ag ar=(y,ai,0))(hs:s.length=bV ae):
 ny (al (bF s) 0) text ((dR (al (bF s) 0) text l:Nat):Int) (((bL ar.length).map λi=>pJ ae ag (bF s) text l (al ar i) (al N (2 * i)) (al N (2 * i+1)) (my ag (jl ae s) (al ar i))).foldl cS 0)=ai:=by
 obtain⟨hp,hw,-⟩:=xM ha;have Oo:=HB (text:=text) (l:=l) (by rw[c.jL];exact ha) hs (c.aiy hw);rw[c.jL] at Oo;have e:(ar.map λk=>pJ ae ag (bF s) text l k (al N (2 * vt ar k)) (al N (2 * vt ar k+1)) (my ag (jl ae s) k))=(bL ar.length).map λi=>pJ ae ag (bF s) text l (al ar i) (al N (2 * i)) (al N (2 * i+1)) (my ag (jl ae s) (al ar i)):=by
  refine sM λi=>?_;rcases dT i ar.length with h|h
  ·have hx:=V8 (Pw hw).2 h;rw[eR,eR,yW h,a9 h,eX,eX];rw[fx h] at hx ⊢;rw[hx]
  ·rw[qB (by simpa using h),qB (by simpa using h)]
 rw[e] at Oo;exact Oo
end
def R3:List (List Int):=[[1,1],[1,2],[1,3]]
def O3:List Int:=[0,1,2]
def S2:List Int:=[10,4]
def Cw:List UInt8:=[116,101,120,116]
def pA:Pr:=⟨0,0,(br Gn 5:Nat),(br Gn 6:Nat)⟩
def pB:Pr:=⟨2,2,(br Gn 7:Nat),(br Gn 8:Nat)⟩
def RY:iL R3 O3 [0,2]=([536870896,0,536870894],ai,0):=by decide+kernel
abbrev C3:List Int:=bF S2
abbrev b3(k:Int):Int:=((gF (al C3 0) Cw [pA,pB] k:Nat):Int)
abbrev S0:Int:=((dR (al C3 0) Cw [pA,pB]:Nat):Int)
def x3:Int:=cS (cS 5 (db 6 (b3 0))) (db S0 21)
def y3:Int:=cS (cS 7 (db 8 (b3 2))) (db S0 1073741778)
def X3:AV:=.list .tight 1 [[.list .tight 1 (ints [1,1])],[.list .tight 1 (ints [1,2])],[.list .tight 1 (ints [1,3])]]
def T3:AV:=.list .held 1 (aX Cw)
def adr(h)(bD:dj h=ai)(es):∃H5 H6,h.fresh 1 es=(.list (.free h.tn) 1 es,H5)/\mY aj H5 28 28 (.list (.free h.tn) 1 es)=aa (.list .held 1 es,H6)/\Ext h H6/\H6.boxes=h.boxes:=by
 have fM:alive {h with tn:=h.tn+1} h.tn=ai:=by
  unfold dj at bD;unfold alive;simp only[bA,decide_eq_true_eq,Bool.not_eq_true'];refine⟨Nat.lt_succ_self _,?_⟩;cases hc:h.dead.contains h.tn with|false=>rfl|true=>have:=eE.1 bD h.tn (by simpa using hc);simp at this
 have u28:=Tryz.underlying28;have u5:aj.underlying 5=aa (.int .u8):=aw;refine⟨{h with tn:=h.tn+1},{h with tn:=h.tn+1,dead:=h.tn::h.dead},rfl,?_,?_,rfl⟩
 ·unfold mY;rw[u28];simp only[u5,fM,and_self,if_true]
 ·refine⟨λ_ _ q=>q,λ_ _ q=>q,Nat.le_succ _,λn hn q=>?_,λho=>?_⟩
  ·rcases jm.1 q with q|q
   ·omega
   ·exact q
  ·unfold dj at *
   rw[List.all_cons,bA];refine⟨bG,eE.2 λx hx=>?_⟩;have:=eE.1 ho x hx;simp at this ⊢;omega
def acp(a b):mF aj 50 [(0,im a),(1,im b)]=aa (.agg [im a,im b]):=aw
section
variable {ae:List (List Int)} {ag bC asd:List Int} {bu sm:Int} {text:List UInt8}
def qY(ae:List (List Int))(ag s ar N:List Int)(l:List Pr)(text:List UInt8)(i:Nat):Int:=
 pJ ae ag (bF s) text l (al ar i) (al N (2 * i)) (al N (2 * i+1)) (my ag (jl ae s) (al ar i))
end
def BL.zo{x}{b}(h:BL x b):x.bU=aa [x]:=by obtain⟨k,s,rfl,-⟩:=h;rfl
def jV(l:List Pr)(z:List Int):Bool:=decide (z.length=l.length)&&z.all cE
def oX(l:List Pr)(i:Nat):Int:=al (l.map Pr.aC) i
def oh(ae:List (List Int))(ag:List Int)(ep:Int)(av:List Int)(text:List UInt8)(l:List Pr)(z:List Int):(Int × Int) × Bool × Int:=
 if dJ ae ag ep av text l≠0 then ((0,0),ay,dJ ae ag ep av text l)
 else if jV l z=ay then ((0,0),ay,1)
 else if ny (al av 0) text ((dR (al av 0) text l:Nat):Int) (z.foldl cS 0) then ((((dR (al av 0) text l:Nat):Int),z.foldl cS 0),ai,0)
 else ((0,0),ay,0)
def y9(ae:List (List Int))(ag:List Int)(ep:Int)(av:List Int)(text:List UInt8)(l:List Pr)(z:List Int)(i:Nat):List Int:=
 if (o8 ae ag ep av text l (oX l i) (al z i)).1 then [] else [oX l i]
def we(ae:List (List Int))(ag:List Int)(ep:Int)(av:List Int)(text:List UInt8)(l:List Pr)(z:List Int)(k:Nat):List Int:=
 (bL k).flatMap (y9 ae ag ep av text l z)
def rD(ae:List (List Int))(ag:List Int)(ep:Int)(av:List Int)(text:List UInt8)(l:List Pr)(z:List Int):List Int × Int:=
 if dJ ae ag ep av text l≠0 then ([],dJ ae ag ep av text l)
 else if jV l z=ay then ([],1)
 else (we ae ag ep av text l z l.length,0)
def So(ae)(ag)(ep)(av)(text)(l)(z)(k):
 we ae ag ep av text l z (k+1)=we ae ag ep av text l z k++y9 ae ag ep av text l z k:=by
 unfold we;rw[oN,List.flatMap_append];simp
def Cl{l}{z}:jV l z=ai↔z.length=l.length/\∀x∈z,okF x:=by unfold jV;simp only[bA,decide_eq_true_eq,eE,qU]
def Wa{l}{i}{p}(h:l[i]?=aa p):oX l i=p.aC:=by have hl:=(aQ.1 h);obtain⟨hi,e⟩:=hl;unfold oX;rw[fx (by rw[bJ];exact hi),pg,e]
def ajN{l}{i:Nat}{p}(h:l[i]?=aa p):∃q,pI l p.aC=aa q:=by
 unfold pI;cases hq:l.find? λx=>decide (x.aC=p.aC) with|some q=>exact⟨q,rfl⟩|none=>have:=List.find?_eq_none.1 hq p (ez h);simp at this
def afq{ae}{ag av}{ep}{text}{l}{z}(hb:dJ ae ag ep av text l=0)(hz:jV l z=ai){i}(hi:i<l.length):
 (o8 ae ag ep av text l (oX l i) (al z i)).2=0:=by
 obtain⟨hl,ho⟩:=Cl.1 hz;have hp:l[i]?=aa l[i]:=a9 hi;rw[Wa hp];obtain⟨q,hq⟩:=ajN hp;have lU:cE (al z i)=ai:=qU.2 (ho _ (Fs ah));unfold o8 zB;rw[aG (by rw[hb];simp),hq];simp[lU]
def afs{α:Type}(f:Nat->α)(p:Nat->Bool):∀L:List Nat,L.flatMap (λi=>if p i then [] else [f i])=(L.filter λi=> !p i).map f:=by
 intro L
 induction L with
 |nil=>rfl|cons a L ih=>rw[Lk,ih,ES];cases p a<;>rfl
def filter_one{n i}(h:i<n):((bL n).filter λj=>decide (j=i))=[i]:=by
 induction n with
 |zero=>omega|succ n ih=>
  rw[oN,CO];by_cases e:i=n
  ·subst e;have:((bL i).filter λj=>decide (j=i))=[]:=Rj.2 λj hj=>(by have:=fD.1 hj;simp;omega);rw[this];simp
  ·rw[ih ah];have:decide (n=i)=ay:=cX ah;simp[this]
section
variable {ae:List (List Int)} {ag ar N s y z:List Int} {l:List Pr} {text:List UInt8} {ep:Int}
def kQ(ae:List (List Int))(ag s ar N:List Int)(l:List Pr)(text:List UInt8):List Int:=(bL ar.length).map (qY ae ag s ar N l text)
def Co:(kQ ae ag s ar N l text).length=ar.length:=by unfold kQ;simp
def GV{i:Nat}(h:i<ar.length):al (kQ ae ag s ar N l text) i=qY ae ag s ar N l text i:=by unfold kQ;rw[fx (by simpa using h),pg,List.getElem_range]
def Pt(i:Nat):okF (qY ae ag s ar N l text i):=Xd
def Pu(c:oJ ar N l):jV l (kQ ae ag s ar N l text)=ai:=by refine Cl.2 ⟨by rw[Co,c.len],λx hx=>?_⟩;unfold kQ at hx;obtain⟨i,-,rfl⟩:=jE.1 hx;exact Pt i
def aep(c:oJ ar N l)(i:Nat):oX l i=al ar i:=by unfold oX;rw[c.jL]
structure mC(ae:List (List Int))(ag ar N s y:List Int)(l:List Pr)(text:List UInt8)(ep:Int):Prop where
 tZ:oJ ar N l
 acc:iL ae ag ar=(y,ai,0)
 ne:ar≠[]
 wl:ar.length<=64
 tl:text.length<=65536
 ep:0<=ep/\ep<=64
 sl:s.length=bV ae
def mC.Ft(c:mC ae ag ar N s y l text ep):dJ ae ag ep (bF s) text l=0:=
 Mz c.tZ c.acc c.ne c.wl c.tl c.ep (zq c.sl).1 (zq c.sl).2
def mC.HB(c:mC ae ag ar N s y l text ep):ny (al (bF s) 0) text ((dR (al (bF s) 0) text l:Nat):Int) ((kQ ae ag s ar N l text).foldl cS 0)=ai:=
 aes c.tZ c.acc c.sl
def mC.comb(c:mC ae ag ar N s y l text ep):oh ae ag ep (bF s) text l (kQ ae ag s ar N l text)=
 ((((dR (al (bF s) 0) text l:Nat):Int),(kQ ae ag s ar N l text).foldl cS 0),ai,0):=by
 unfold oh;rw[aG (by rw[c.Ft];simp),aG (by rw[Pu c.tZ];simp),c.HB,aD rfl]
def mC.Te(c:mC ae ag ar N s y l text ep)(hz:jV l z=ai):oh ae ag ep (bF s) text l z=
 if ny (al (bF s) 0) text ((dR (al (bF s) 0) text l:Nat):Int) (z.foldl cS 0) then ((((dR (al (bF s) 0) text l:Nat):Int),z.foldl cS 0),ai,0) else ((0,0),ay,0):=by
 unfold oh;rw[aG (by rw[c.Ft];simp),aG (by rw[hz];simp)]
def mC.Td(c:mC ae ag ar N s y l text ep)(hz:jV l z=ay):oh ae ag ep (bF s) text l z=((0,0),ay,1):=by unfold oh;rw[aG (by rw[c.Ft];simp),aD hz]
def mC.Sw(c:mC ae ag ar N s y l text ep)(hz:jV l z=ay):rD ae ag ep (bF s) text l z=([],1):=by unfold rD;rw[aG (by rw[c.Ft];simp),aD hz]
def mC.IH(c:mC ae ag ar N s y l text ep)(hz:jV l z=ai):rD ae ag ep (bF s) text l z=
 (((bL ar.length).filter λi=> !decide (al z i=qY ae ag s ar N l text i)).map (al ar),0):=by
 unfold rD;rw[aG (by rw[c.Ft];simp),aG (by rw[hz];simp)];rw[<-afs];unfold we;rw[c.tZ.len];refine congrArg (λq=>(q,(0:Int))) ?_;obtain⟨hl,ho⟩:=Cl.1 hz;have key:∀L:List Nat,(∀i∈L,i<ar.length)->L.flatMap (y9 ae ag ep (bF s) text l z)=L.flatMap λi=>if decide (al z i=qY ae ag s ar N l text i) then [] else [al ar i]:=by
  intro L
  induction L with
  |nil=>intro _;rfl|cons i L ih=>intro hL;have hi:=hL i ga;rw[Lk,Lk,ih λj hj=>hL j (fR _ hj)];unfold y9;rw[aep c.tZ,aeo c.tZ c.acc c.ne c.wl c.tl c.ep c.sl hi (ho _ (Fs (by rw[hl,c.tZ.len];exact hi)))];rfl
 exact key _ λi hi=>fD.1 hi
def mC.ac2(c:mC ae ag ar N s y l text ep):rD ae ag ep (bF s) text l (kQ ae ag s ar N l text)=([],0):=by rw[c.IH (Pu c.tZ)];refine congrArg (λq=>(q,(0:Int))) ?_;rw[EW];refine Rj.2 λi hi=>?_;rw[GV (fD.1 hi)];simp
def mC.aju(c:mC ae ag ar N s y l text ep)(hz:jV l z=ai)(h:(rD ae ag ep (bF s) text l z).1=[]):z=kQ ae ag s ar N l text:=by
 rw[c.IH hz] at h;obtain⟨hl,-⟩:=Cl.1 hz;have h2:=Rj.1 (EW.1 h);refine sM λi=>?_;rcases dT i ar.length with q|q
 ·have h3:=h2 i (fD.2 q);simp at h3;have iF:i<z.length:=by rw[hl,c.tZ.len];exact q
  have fO:i<(kQ ae ag s ar N l text).length:=by rw[Co];exact q
  rw[<-GV q,fx iF,fx fO] at h3;rw[a9 iF,a9 fO,h3]
 ·rw[qB (by rw[hl,c.tZ.len];exact q),qB (by rw[Co];exact q)]
def mC.Sx(c:mC ae ag ar N s y l text ep){i:Nat}(hi:i<ar.length){v:Int}(hv:okF v)(bE:v≠qY ae ag s ar N l text i):
 rD ae ag ep (bF s) text l ((kQ ae ag s ar N l text).set i v)=([al ar i],0)/\jV l ((kQ ae ag s ar N l text).set i v)=ai:=by
 have ok:jV l ((kQ ae ag s ar N l text).set i v)=ai:=by
  obtain⟨h1,h2⟩:=Cl.1 (Pu (ae:=ae) (ag:=ag) (s:=s) (text:=text) c.tZ);refine Cl.2 ⟨by rw[nE];exact h1,λx hx=>?_⟩;rcases List.mem_or_eq_of_mem_set hx with q|rfl
  ·exact h2 x q
  ·exact hv
 refine⟨?_,ok⟩;rw[c.IH ok];refine congrArg (λq=>(q,(0:Int))) ?_;have e:((bL ar.length).filter λj=> !decide (al ((kQ ae ag s ar N l text).set i v) j=qY ae ag s ar N l text j))=((bL ar.length).filter λj=>decide (j=i)):=by
  refine List.filter_congr λj hj=>?_;have hj:=fD.1 hj;rw[fx (by rw[nE,Co];exact hj),List.getElem_set];by_cases q:i=j
  ·subst q;simp[bE]
  ·rw[aG q,<-fx (by rw[Co];exact hj),GV hj];have:¬j=i:=λz=>q z.symm;simp[this]
 rw[e,filter_one hi];rfl
end
def nw:Tryz.f38.results.toList=[.cell 12 66,.tmp 13,.tmp 14]:=aw
def fe(ep:Int)(X Y C T L Z:AV):List AV:=[im ep,X,Y,C,T,L,Z]
def QY:(gy aj 66).bind AV.bU=aa (fe 0 nl nl nl nl nl nl):=aw
def HO:dm aj 66=aa 7:=aw
def abN:fY aj 66=aa ai:=aw
def sV:(∀b,gi aj 66 (.ptr (.box b) 0) 0=aa (.ptr (.box b) 0))/\(∀b,gi aj 66 (.ptr (.box b) 0) 1=aa (.ptr (.box b) 4))/\(∀b,gi aj 66 (.ptr (.box b) 0) 2=aa (.ptr (.box b) 5))/\∀b,gi aj 66 (.ptr (.box b) 0) 3=aa (.ptr (.box b) 6):=
 ⟨λb=>aw,λb=>aw,λb=>aw,λb=>aw⟩
def Tx:(∀b,gi aj 81 (.ptr (.box b) 0) 0=aa (.ptr (.box b) 0))/\∀b,gi aj 81 (.ptr (.box b) 0) 1=aa (.ptr (.box b) 1):=⟨λb=>aw,λb=>aw⟩
def ark:(gy aj 81).bind AV.bU=aa (jY (0,0)):=aw
def apN{H:ao}(p):b8 aj (H.push (jY (0,0))) 81 (.ptr (.box H.boxes.length) 0) (.agg (jY p))=aa (H.push (jY p)):=jt rfl KP rfl rfl
def ah8{H}{b}{p}(hb:H.boxes[b]?=aa (jY p)):aF aj Gt H 81 (.ptr (.box b) 0)=aa (.agg (jY p)):=by rw[jj Sa KP hb (aJ 2)];rfl
section
variable {H:ao} {b:Nat} {ep:Int} {X Y C S L Z x:AV}
def We{T:List AV}(hb:H.boxes[b]?=aa T)(hl:T.length=7):aF aj Gt H 66 (.ptr (.box b) 0)=aa (.agg T):=by rw[jj abN HO hb ah];rw[List.drop_zero,fK ah]
def YK{T T2:List AV}(hb:H.boxes[b]?=aa T)(hl:T.length=7)(hx:(AV.agg T2).bU=aa T2)(jK:T2.length=7):b8 aj H 66 (.ptr (.box b) 0) (.agg T2)=aa (H.put b T2):=by rw[fw (off:=0) (cs:=T) (xs:=T2) hx HO hb jK ah,xn ah]
def apf{ep2:Int}{X2 Y2 C2:AV}(hb:H.boxes[b]?=aa (fe ep X Y C S L Z))(hx:(AV.agg (cB ep2 X2 Y2 C2)).bU=aa (cB ep2 X2 Y2 C2)):b8 aj H 27 (.ptr (.box b) 0) (.agg (cB ep2 X2 Y2 C2))=aa (H.put b (fe ep2 X2 Y2 C2 S L Z)):=
 fw (off:=0) (cs:=fe ep X Y C S L Z) (xs:=cB ep2 X2 Y2 C2) hx QJ hb rfl (lN rfl)
def aph(hb:H.boxes[b]?=aa (fe ep X Y C S L Z))(hx:x.bU=aa [x]):b8 aj H 28 (.ptr (.box b) 4) x=aa (H.put b (fe ep X Y C x L Z)):=
 fw (off:=4) (cs:=fe ep X Y C S L Z) (xs:=[x]) hx Ze hb rfl (lN rfl)
def apg(hb:H.boxes[b]?=aa (fe ep X Y C S L Z))(hx:x.bU=aa [x]):b8 aj H 29 (.ptr (.box b) 5) x=aa (H.put b (fe ep X Y C S x Z)):=
 fw (off:=5) (cs:=fe ep X Y C S L Z) (xs:=[x]) hx aqc hb rfl (lN rfl)
def api(hb:H.boxes[b]?=aa (fe ep X Y C S L Z))(hx:x.bU=aa [x]):b8 aj H 23 (.ptr (.box b) 6) x=aa (H.put b (fe ep X Y C S L x)):=
 fw (off:=6) (cs:=fe ep X Y C S L Z) (xs:=[x]) hx jN hb rfl (lN rfl)
def Wf(hb:H.boxes[b]?=aa (fe ep X Y C S L Z)):aF aj Gt H 27 (.ptr (.box b) 0)=aa (.agg (cB ep X Y C)):=by rw[jj aw QJ hb (lN rfl)];rfl
def Mw{ae:List (List Int)}{ag av z:List Int}{text:List UInt8}{l:List Pr}(hx:RL X ae)(hy:IL Y ag)(hc:IL C av)(hs:BL S text)(hl:PL L l)(hn:IL Z z):
 (AV.agg (fe ep X Y C S L Z)).bU=aa (fe ep X Y C S L Z):=by
 obtain⟨_,_,_,rfl,-⟩:=hx.form;obtain⟨_,_,rfl,-⟩:=hy;obtain⟨_,_,rfl,-⟩:=hc;obtain⟨_,_,rfl,-⟩:=hs;obtain⟨_,_,rfl,-⟩:=hl;obtain⟨_,_,rfl,-⟩:=hn;rfl
end
structure vY(h H:ao)(X Y:AV)(T:List AV)(tz to:Tok):Prop where
 ti:TI h H X Y T tz
 co:dQ h.tn H to
 ne:∀a,tz=.free a->to≠ .free a
def vY.start{h H}{X Y}{T}{tz}(b:TI h H X Y T tz):vY h H X Y T tz .nil:=⟨b,.inl rfl,λ_ _ q=>by cases q⟩
def vY.push{h H}{X Y}{T}{tz to}(b:vY h H X Y T tz to)(cs):vY h (H.push cs) X Y T tz to:=⟨b.ti.push cs,by rw[zn];exact b.co,b.ne⟩
def vY.app{h H}{X Y}{T}{tz to}(b:vY h H X Y T tz to):vY h (H.app to) X Y T tz (.free H.tn):=by
 have gr:=Grown.one b.co b.ti.ok b.ti.ext.tn;refine⟨⟨gr.ext b.ti.ext (aJ _),gr.ok,Mv b.ti.can λa ha he=>b.ne a he ha,by rw[eS];exact b.ti.pb,by rw[eS];exact b.ti.tb⟩,gr.can,λa ha he=>?_⟩;injection he with he;subst he;rcases b.ti.can with q|q|⟨m,q,-,q2⟩
 ·rw[q] at ha;cases ha
 ·rw[q] at ha;cases ha
 ·rw[q] at ha;injection ha with ha;have:=uP q2;omega
def ft(ar N:List Int):List Pr:=(bL ar.length).map λi=>⟨al ar i,(i:Int),(br Gn (al N (2 * i)):Nat),(br Gn (al N (2 * i+1)):Nat)⟩
def J9(ar N):(ft ar N).length=ar.length:=by unfold ft;simp
def aer(ar N)(h1:N.length=2 * ar.length)(h2:∀x∈N,okF x)(h3:ar.length<=4096):oJ ar N (ft ar N):=
 ⟨J9 _ _,h1,h2,λi hi=>⟨(i:Int),by omega,by omega,by unfold ft;rw[eR,yW hi];rfl⟩⟩
def qm(ae:List (List Int))(ag:List Int)(bu:Int)(bC ar N:List Int)(text:List UInt8):Bool:=
 xm ae ag&&(decide (1<=bu)&&(decide (bu<1073741789)&&(decide (bC.length=bV ae - 1)&&(bC.all cE&&(fE (-1) ar&&(decide (ar.length≠0)&&(decide (ar.length<=7)&&(decide (N.length=2 * ar.length)&&(N.all cE&&decide (text.length<=300))))))))))
def vN(ae:List (List Int))(ag:List Int)(bu:Int)(bC ar N:List Int)(text:List UInt8):Bool:=qm ae ag bu bC ar N text&&(iL ae ag ar).2.1
def QR{ae}{ag}{bu}{bC ar N}{text}(h:vN ae ag bu bC ar N text=ai):
 ∃y,mC ae ag ar N (bu::bC) y (ft ar N) text 0/\ae.length<=16/\bV ae<=16/\1<=bu/\bu<1073741789/\ar.length<=7/\text.length<=300/\dn ae ag=0:=by
 unfold vN qm at h;simp only[bA,decide_eq_true_eq] at h;obtain⟨⟨h1,h2,h3,h4,h5,h6,h7,h8,h9,wC,FL⟩,h12⟩:=h;unfold xm at h1;simp only[bA,decide_eq_true_eq] at h1;have h13:=R2 h1.1.2 h6;have UT:=(tY h1.1.2).1;refine⟨(iL ae ag ar).1,⟨aer ar N h9 (λx hx=>qU.1 (eE.1 wC x hx)) ah,?_,λq=>h7 (by rw[q];rfl),by omega,by omega,by decide,by rw[iJ];omega⟩,h1.1.1,h1.2,h2,h3,h8,FL,h1.1.2⟩;rw[<-h12,<-h13]
def HY(ae:List (List Int))(ag:List Int)(X Y T:AV)(bu:Int)(bC ar N:List Int)(text:List UInt8)(r:eL):Prop:=
 (vN ae ag bu bC ar N text=ay/\r=.ret (.tuple [.agg (fe 0 nl nl nl nl nl nl),.v (.bool ay),.v (.bool ai)]))∨
 (vN ae ag bu bC ar N text=ai/\∃C L Z,r=.ret (.tuple [.agg (fe 0 X Y C T L Z),.v (.bool ai),.v (.bool ai)])/\IL C (bF (bu::bC))/\PL L (ft ar N)/\IL Z (kQ ae ag (bu::bC) ar N (ft ar N) text))
def adE(h:ao)(bD:dj h=ai)(X Y R W NV T:AV)(ae:List (List Int))(ag:List Int)(bu:Int)(bC ar N:List Int)(text:List UInt8)
 (hx:RL X ae) (hy:IL Y ag) (hr:IL R bC) (hw:IL W ar) (hn:IL NV N) (ht:BL T text) (ej:bC.length<=9223372036854775807) (ji:ar.length<=9223372036854775807) (pE:N.length<=9223372036854775807):
 ∃r h',W6.call 38 [.agg [X,Y],im bu,R,W,NV,T] h=aa (r,h')/\Ext h h'/\HY ae ag X Y T bu bC ar N text r:=by
 have bx:=As hx hy;have zc:=QY;have c1:=aoY X Y ae ag hx hy;have c2:=ad8 X Y ae ag hx hy;have c3:=WT R bC hr ah;have c4:=ajY W ar hw ah;have c5:=WT NV N hn ah;have lnR:=hr.dN;have lnW:=hw.dN;have lnN:=hn.dN;have lnT:=ht.dN;have vk:TI h ((h.push [X,Y]).push (fe 0 nl nl nl nl nl nl)) X Y (fe 0 nl nl nl nl nl nl) .nil:=
  ⟨(Ext.push _ _).trans (.push _ _),bD,.inl rfl,aZ (bp _ _),by
    have:=bp (h.push [X,Y]) (fe 0 nl nl nl nl nl nl)
    rwa [cH] at this⟩
 have iW:(h.push [X,Y]).boxes.length=h.boxes.length+1:=cH _ _;obtain⟨H0,fA⟩:∃H0,(h.push [X,Y]).push (fe 0 nl nl nl nl nl nl)=H0:=⟨_,rfl⟩;rw[fA] at vk;have l1:aF aj Gt H0 25 (.ptr (.box h.boxes.length) 0)=aa (.agg [X,Y]):=vx vk.pb;have l2:=We vk.tb rfl;have s2:=YK vk.tb rfl (T2:=fe 0 nl nl nl nl nl nl) rfl rfl;rw[nt vk.tb] at s2;have kT:=aq.mk vk;have kf:=aq.mk (ax hx (ax hy (ax hr (ax hw (ax hn (ax ht bD))))));have kd:aq (qm ae ag bu bC ar N text=(xm ae ag&&(decide (1<=bu)&&(decide (bu<1073741789)&&(decide (bC.length=bV ae - 1)&&(bC.all cE&&(fE (-1) ar&&(decide (ar.length≠0)&&(decide (ar.length<=7)&&(decide (N.length=2 * ar.length)&&(N.all cE&&decide (text.length<=300)))))))))))):=⟨rfl⟩;have kno:aq (qm ae ag bu bC ar N text=ay->HY ae ag X Y T bu bC ar N text (.ret (.tuple [.agg (fe 0 nl nl nl nl nl nl),.v (.bool ay),.v (.bool ai)]))):=⟨λq=>.inl ⟨by unfold vN;rw[q];rfl,rfl⟩⟩;clear hx hy hr hw hn ht bD vk;refine ec rfl Tryz.func38 rfl ?_;by_cases hs:xm ae ag=ai;rotate_left 1
 ·have kz:aq (qm ae ag bu bC ar N text=ay):=⟨by rw[kd.out];simp[hs]⟩;have BU:xm ae ag=ay:=by simpa using hs
  rw[BU] at c1;clear hs BU;clear kd;unfold im at *
  repeat' (first|simp(maxSteps:=999999)(disch:=first|exact dZ|fail)only[gW,reduceIte,aY,aR,nw,bK,iW,fA, *]|refine dX ?_ ?_<;>(intro _;try omega))
  exact⟨_,_,rfl,kT.out.ext,kno.out kz.out⟩
 rw[hs] at c1;have rU:dn ae ag=0/\ae.length<=16/\bV ae<=16:=by have:=hs;unfold xm at this;simp only[bA,decide_eq_true_eq] at this;exact⟨this.1.2,this.1.1,this.2⟩
 have UT:0<bV ae:=(tY rU.1).1;have arJ:bV ae<=16:=rU.2.2;have kpr:=aq.mk rU;clear rU;by_cases h2:1<=bu;rotate_left 1
 ·have kz:aq (qm ae ag bu bC ar N text=ay):=⟨by rw[kd.out];simp[hs,h2]⟩;have g:bu<1:=by omega
  clear h2;clear kd;unfold im at *
  repeat' (first|simp(maxSteps:=999999)(disch:=first|exact dZ|fail)only[gW,reduceIte,aY,aR,nw,bK,iW,fA, *]|refine dX ?_ ?_<;>(intro _;try omega))
  exact⟨_,_,rfl,kT.out.ext,kno.out kz.out⟩
 by_cases h3:bu<1073741789;rotate_left 1
 ·have kz:aq (qm ae ag bu bC ar N text=ay):=⟨by rw[kd.out];simp[hs,h2,h3]⟩;have g:1073741789<=bu:=by omega
  clear h3;clear kd;unfold im at *
  repeat' (first|simp(maxSteps:=999999)(disch:=first|exact dZ|fail)only[gW,reduceIte,aY,aR,nw,bK,iW,fA, *]|refine dX ?_ ?_<;>(intro _;try omega))
  exact⟨_,_,rfl,kT.out.ext,kno.out kz.out⟩
 by_cases h4:bC.length=bV ae - 1;rotate_left 1
 ·have kz:aq (qm ae ag bu bC ar N text=ay):=⟨by rw[kd.out];simp[hs,h2,h3,h4]⟩;have g:¬((bC.length:Nat):Int)=((bV ae:Nat):Int) - 1:=by omega
  clear h4;clear kd;unfold im at *
  repeat' (first|simp(maxSteps:=999999)(disch:=first|exact dZ|fail)only[gW,reduceIte,aY,aR,nw,bK,iW,fA, *]|refine dX ?_ ?_<;>(intro _;try omega))
  exact⟨_,_,rfl,kT.out.ext,kno.out kz.out⟩
 by_cases h5:bC.all cE=ai;rotate_left 1
 ·have kz:aq (qm ae ag bu bC ar N text=ay):=⟨by rw[kd.out];simp[hs,h2,h3,h4,h5]⟩;have Uj:bC.all cE=ay:=by simpa using h5
  rw[Uj] at c3;clear h5 Uj;clear kd;unfold im at *
  repeat' (first|simp(maxSteps:=999999)(disch:=first|exact dZ|fail)only[gW,reduceIte,aY,aR,nw,bK,iW,fA, *]|refine dX ?_ ?_<;>(intro _;try omega))
  exact⟨_,_,rfl,kT.out.ext,kno.out kz.out⟩
 rw[h5] at c3;by_cases h6:fE (-1) ar=ai;rotate_left 1
 ·have kz:aq (qm ae ag bu bC ar N text=ay):=⟨by rw[kd.out];simp[hs,h2,h3,h4,h5,h6]⟩;have Uk:fE (-1) ar=ay:=by simpa using h6
  rw[Uk] at c4;clear h6 Uk;clear kd;unfold im at *
  repeat' (first|simp(maxSteps:=999999)(disch:=first|exact dZ|fail)only[gW,reduceIte,aY,aR,nw,bK,iW,fA, *]|refine dX ?_ ?_<;>(intro _;try omega))
  exact⟨_,_,rfl,kT.out.ext,kno.out kz.out⟩
 rw[h6] at c4;by_cases h7:ar.length≠0;rotate_left 1
 ·have kz:aq (qm ae ag bu bC ar N text=ay):=⟨by rw[kd.out];simp[hs,h2,h3,h4,h5,h6,h7]⟩;have g:((ar.length:Nat):Int)=0:=by omega
  clear h7;clear kd;unfold im at *
  repeat' (first|simp(maxSteps:=999999)(disch:=first|exact dZ|fail)only[gW,reduceIte,aY,aR,nw,bK,iW,fA, *]|refine dX ?_ ?_<;>(intro _;try omega))
  exact⟨_,_,rfl,kT.out.ext,kno.out kz.out⟩
 by_cases h8:ar.length<=7;rotate_left 1
 ·have kz:aq (qm ae ag bu bC ar N text=ay):=⟨by rw[kd.out];simp[hs,h2,h3,h4,h5,h6,h7,h8]⟩;have g:(7:Int)<((ar.length:Nat):Int):=by omega
  clear h8;clear kd;unfold im at *
  repeat' (first|simp(maxSteps:=999999)(disch:=first|exact dZ|fail)only[gW,reduceIte,aY,aR,nw,bK,iW,fA, *]|refine dX ?_ ?_<;>(intro _;try omega))
  exact⟨_,_,rfl,kT.out.ext,kno.out kz.out⟩
 by_cases h9:N.length=2 * ar.length;rotate_left 1
 ·have kz:aq (qm ae ag bu bC ar N text=ay):=⟨by rw[kd.out];simp[hs,h2,h3,h4,h5,h6,h7,h8,h9]⟩;have g:¬((N.length:Nat):Int)=2 * ((ar.length:Nat):Int):=by omega
  clear h9;clear kd;unfold im at *
  repeat' (first|simp(maxSteps:=999999)(disch:=first|exact dZ|fail)only[gW,reduceIte,aY,aR,nw,bK,iW,fA, *]|refine dX ?_ ?_<;>(intro _;try omega))
  exact⟨_,_,rfl,kT.out.ext,kno.out kz.out⟩
 by_cases wC:N.all cE=ai;rotate_left 1
 ·have kz:aq (qm ae ag bu bC ar N text=ay):=⟨by rw[kd.out];simp[hs,h2,h3,h4,h5,h6,h7,h8,h9,wC]⟩;have Ui:N.all cE=ay:=by simpa using wC
  rw[Ui] at c5;clear wC Ui;clear kd;unfold im at *
  repeat' (first|simp(maxSteps:=999999)(disch:=first|exact dZ|fail)only[gW,reduceIte,aY,aR,nw,bK,iW,fA, *]|refine dX ?_ ?_<;>(intro _;try omega))
  exact⟨_,_,rfl,kT.out.ext,kno.out kz.out⟩
 rw[wC] at c5;by_cases FL:text.length<=300;rotate_left 1
 ·have kz:aq (qm ae ag bu bC ar N text=ay):=⟨by rw[kd.out];simp[hs,h2,h3,h4,h5,h6,h7,h8,h9,wC,FL]⟩;have g:(300:Int)<((text.length:Nat):Int):=by omega
  clear FL;clear kd;unfold im at *
  repeat' (first|simp(maxSteps:=999999)(disch:=first|exact dZ|fail)only[gW,reduceIte,aY,aR,nw,bK,iW,fA, *]|refine dX ?_ ?_<;>(intro _;try omega))
  exact⟨_,_,rfl,kT.out.ext,kno.out kz.out⟩
 have kyes:aq (qm ae ag bu bC ar N text=ai):=⟨by rw[kd.out];simp[hs,h2,h3,h4,h5,h6,h7,h8,h9,wC,FL]⟩;clear kd kno;have gA:((bC.length:Nat):Int)=((bV ae:Nat):Int) - 1:=by omega
 have gB:¬((ar.length:Nat):Int)=0:=by omega
 have gC:((N.length:Nat):Int)=2 * ((ar.length:Nat):Int):=by omega
 have Nu:sU ae ag bu bC=0:=by unfold sU;rw[aG (by simp[kpr.out.1]),aD];rw[bA,bA];exact⟨⟨qU.2 ⟨ah,h3⟩,h5⟩,cz ah⟩
 obtain⟨S,C,hS,hC,c6⟩:∃S C,SL S (oT ae (bu::bC))/\IL C (bF (bu::bC))/\∀h,W6.call 44 [.agg [X,Y],im bu,R] h=aa (.ret (.tuple [S,C,im 0]),h):=by
  rcases aeF X Y R ae ag bC bu kf.out.1 kf.out.2.1 kf.out.2.2.1 ah (by have:=kpr.out.2.1;omega) with⟨z,-⟩|⟨-,z⟩
  ·exact absurd Nu z
  ·exact z
 have Uz:(bu::bC).length=bV ae:=by rw[iJ];omega
 have Nj:=abp X Y W ae ag ar kf.out.1 kf.out.2.1 kf.out.2.2.2.1 ah;have hz:(iL ae ag ar).2.2=0:=R2 kpr.out.1 h6;have lnS:=hS.dN;rw[MB] at lnS;have lnC:=hC.dN;rw[show(bF (bu::bC)).length=bV ae by unfold bF;rw[bJ,Uz]] at lnC;have kSC:=aq.mk (ax hS hC);rcases Nj with⟨er,q,c7⟩|⟨y,q,ql,Zy,-,c7⟩
 ·have her:er=0:=by rw[q] at hz;exact hz
  subst her;have ku:aq (HY ae ag X Y T bu bC ar N text (.ret (.tuple [.agg (fe 0 nl nl nl nl nl nl),.v (.bool ay),.v (.bool ai)]))):=⟨.inl ⟨by unfold vN;rw[q];simp,rfl⟩⟩;clear q hz Nu hS hC;unfold im at *
  repeat' (first|simp(maxSteps:=999999)(disch:=first|exact dZ|fail)only[gW,reduceIte,aY,aR,nw,bK,iW,fA, *]|refine dX ?_ ?_<;>(intro _;try omega))
  exact⟨_,_,rfl,kT.out.ext,ku.out⟩
 have ku:aq (vN ae ag bu bC ar N text=ai):=⟨by unfold vN;rw[kyes.out,q];rfl⟩;obtain⟨_,cr,-⟩:=QR ku.out;have kcr:=aq.mk cr;have bk:mF aj 27 [(1,.agg [X,Y]),(2,C)]=aa (.agg (cB 0 X Y C)):=by obtain⟨_,_,_,rfl,-⟩:=kf.out.1.form;obtain⟨_,_,rfl,-⟩:=kf.out.2.1;obtain⟨_,_,rfl,-⟩:=hC;kernel_rfl
 have s3:=apf kT.out.tb (yx (ep:=0) kf.out.1 kf.out.2.1 hC);have t1:=kT.out.put (fe 0 X Y C nl nl nl);have s4:=aph t1.tb kf.out.2.2.2.2.2.1.zo;have t2:=t1.put (fe 0 X Y C T nl nl);have kT3:=aq.mk t2;clear q hz Nu hS hC t1 t2 cr kT h4;unfold im at *
 repeat' (first|simp(maxSteps:=999999)(disch:=first|exact dZ|fail)only[gW,reduceIte,aY,aR,nw,bK,iW,fA,sV, *]|refine dX ?_ ?_<;>(intro _;try omega))
 refine bM.gen λe0 aV cY eV eO=>?_;have f4:e0.get 4=NV:=by rw[aV];exact gS
 have f5:e0.get 5=T:=by rw[aV];exact gS
 have f3:e0.get 3=W:=by rw[aV];exact gS
 have f6:e0.get 6=.ptr (.box h.boxes.length) 0:=by rw[aV];exact gS
 have f12:e0.get 12=.ptr (.box (h.boxes.length+1)) 0:=by rw[aV];simp only[gW,reduceIte,aY,aR,iW]
 have f15:e0.get 15=S:=by rw[aV];exact gS
 have f16:e0.get 16=C:=by rw[aV];exact gS
 have f123:e0.get 123=W:=by rw[aV];exact gS
 have f124:e0.get 124=.v (.int .i64 (ar.length:Nat)):=by rw[aV];exact gS
 have f125:e0.get 125=.v (.int .i64 (0:Nat)):=by rw[aV];exact gR
 have fd:e0.defers=[]:=by rw[cY];exact gS
 clear aV cY eV eO c1 c2 c4 c6 c7 l1 l2 s2 s3 s4 bk bx zc iW fA gA gB lnT;have h9:N.length=2 * ar.length:=by omega
 have DL:∀k<ar.length,(ft ar N)[k]?=aa ⟨al ar k,(k:Int),(br Gn (al N (2 * k)):Nat),(br Gn (al N (2 * k+1)):Nat)⟩:=λk hk=>by unfold ft;rw[eR,yW hk];rfl
 have kpk:=aq.mk DL;clear DL;refine de (λm e H=>∃(i:Nat) (t:Tok) (sz:Nat),i<=ar.length/\m=ar.length - i/\aq (TI h H X Y (fe 0 X Y C T (.list t sz (lH ((ft ar N).take i))) nl) t)/\aq (sz=4∨((ft ar N).take i=[]/\t=.nil))/\
  e.get 3=W/\e.get 4=NV/\e.get 5=T/\e.get 6=.ptr (.box h.boxes.length) 0/\e.get 12=.ptr (.box (h.boxes.length+1)) 0/\e.get 15=S/\e.get 16=C/\e.get 123=W/\e.get 124=.v (.int .i64 (ar.length:Nat))/\e.get 125=.v (.int .i64 (i:Nat))/\e.defers=[]) ?_ ar.length _ _ ?_
 rotate_left 1
 ·exact⟨0,.nil,0,df _,rfl,kT3,⟨.inr ⟨rfl,rfl⟩⟩,f3,f4,f5,f6,f12,f15,f16,f123,f124,f125,fd⟩
 clear f3 f4 f5 f6 f12 f15 f16 f123 f124 f125 fd kT3 H0;rintro m e H ⟨i,t,sz,hi,rfl,kT,ksz,g3,g4,g5,g6,g12,g15,g16,g123,g124,g125,hd⟩;by_cases az:i<ar.length
 ·have vt:=kf.out.2.2.2.1.ix az;have ldW:=fP (H:=H) (s:=1) az;have ixA:=kf.out.2.2.2.2.1.ix (i:=2 * i) ah;have ixB:=kf.out.2.2.2.2.1.ix (i:=2 * i+1) ah;have ldA:∀K:ao,aF aj Gt K 3 (.elem 1 (ints N) (2 * i) 0)=aa (.v (.int .i64 (al N (2 * i)))):=λK=>fP ah;have ldB:∀K:ao,aF aj Gt K 3 (.elem 1 (ints N) (2 * i+1) 0)=aa (.v (.int .i64 (al N (2 * i+1)))):=λK=>fP ah;rw[show((2 * i:Nat):Int)=2 * (i:Int) by omega] at ixA;rw[show((2 * i+1:Nat):Int)=2 * (i:Int)+1 by omega] at ixB;have hwA:IntKind.i64.wrap (2 * (i:Int))=2 * (i:Int):=fh ah ah;have hwB:IntKind.i64.wrap (2 * (i:Int)+1)=2 * (i:Int)+1:=fh ah ah;have qS:=kpk.out i az;have c8:=Ue 4 (al N (2 * i));have c9:=Ue 4 (al N (2 * i+1));rw[td rL,show mo 4=0 from aD rL] at c8 c9;have ktk:=aq.mk (gx qS);clear qS;have bdp:=acr (al ar i) (i:Int) ((br Gn (al N (2 * i)):Nat):Int) ((br Gn (al N (2 * i+1)):Nat):Int);change ∀h,W6.call 30 [im 4,im (al N (2 * i))] h=aa (.ret (.tuple [im ((br Gn (al N (2 * i)):Nat):Int),im 0]),h) at c8;change ∀h,W6.call 30 [im 4,im (al N (2 * i+1))] h=aa (.ret (.tuple [im ((br Gn (al N (2 * i+1)):Nat):Int),im 0]),h) at c9;generalize rU:(⟨al ar i,(i:Int),((br Gn (al N (2 * i)):Nat):Int),((br Gn (al N (2 * i+1)):Nat):Int)⟩:Pr)=pr at *
  have lL:aF aj Gt H 29 (.ptr (.box (h.boxes.length+1)) 5)=aa (.list t sz (lH ((ft ar N).take i))):=cI xO kT.out.tb rfl;have ap:=abU (p:=pr) (l:=(ft ar N).take i) (by rw[fb];omega) ksz.out kT.out.can;rw[<-ktk.out] at ap;have bl:=acZ pr;have t2:=kT.out.app;have sL:=apg t2.tb (x:=.list (.free H.tn) 4 (lH ((ft ar N).take (i+1)))) rfl;have kT2:=aq.mk (t2.put (fe 0 X Y C T (.list (.free H.tn) 4 (lH ((ft ar N).take (i+1)))) nl));have ir:(i:Int)<(ar.length:Int):=by omega
  clear t2 kT rU;unfold im at *
  generalize al ar i=wi at *
  generalize al N (2 * i)=nA at *
  generalize al N (2 * i+1)=nB at *
  generalize ((br Gn nA:Nat):Int)=dA at *
  generalize ((br Gn nB:Nat):Int)=dB at *
  repeat' (first|simp(maxSteps:=999999)(disch:=first|exact dZ|fail)only[gW,reduceIte,aY,aR,nw,sV, *]|refine dX ?_ ?_<;>(intro _;try omega))
  exact⟨ar.length - (i+1),by omega,i+1,_,4,by omega,rfl,(by first|exact kT2|trivial),⟨.inl rfl⟩,by simp⟩
 have jz:i=ar.length:=by omega
 subst jz;rw[fK (by rw[J9];exact aJ _)] at kT ksz;have hP:PL (.list t sz (lH (ft ar N))) (ft ar N):=⟨t,sz,rfl,λq=>ksz.out.resolve_right λz=>q z.1⟩;have kP:=aq.mk hP;have kT3:=aq.mk kT.out.nil;change aq (TI h H X Y (fe 0 X Y C T (.list t sz (lH (ft ar N))) nl) .nil) at kT3;clear hP ksz kT kpk hi az;generalize AV.list t sz (lH (ft ar N))=L at *
 repeat' (first|simp(maxSteps:=999999)(disch:=first|exact dZ|fail)only[gW,reduceIte,aY,aR,nw, *]|refine dX ?_ ?_<;>(intro _;try omega))
 refine bM.gen λe0 aV cY eV eO=>?_;have f4:e0.get 4=NV:=by rw[aV];exact gA
 have f5:e0.get 5=T:=by rw[aV];exact gA
 have f6:e0.get 6=.ptr (.box h.boxes.length) 0:=by rw[aV];exact gA
 have f12:e0.get 12=.ptr (.box (h.boxes.length+1)) 0:=by rw[aV];exact gA
 have f15:e0.get 15=S:=by rw[aV];exact gA
 have f16:e0.get 16=C:=by rw[aV];exact gA
 have f167:e0.get 167=W:=by rw[aV];exact gA
 have f168:e0.get 168=.v (.int .i64 (ar.length:Nat)):=by rw[aV];exact gA
 have f169:e0.get 169=.v (.int .i64 (0:Nat)):=by rw[aV];exact gR
 have fd:e0.defers=[]:=by rw[cY];exact gA
 clear aV cY eV eO g3 g4 g5 g6 g12 g15 g16 g123 g124 g125 hd lnW;obtain⟨PU,Du⟩:∃PU,kQ ae ag (bu::bC) ar N (ft ar N) text=PU:=⟨_,rfl⟩;have eZ:aq (∀Z,IL Z PU->HY ae ag X Y T bu bC ar N text (.ret (.tuple [.agg (fe 0 X Y C T L Z),.v (.bool ai),.v (.bool ai)]))):=⟨λZ hZ=>.inr ⟨ku.out,C,L,Z,rfl,kSC.out.2,kP.out,by rw[Du];exact hZ⟩⟩;have kpk:aq (∀k<ar.length,PU[k]?=aa (qY ae ag (bu::bC) ar N (ft ar N) text k)):=⟨λk hk=>by rw[<-Du];unfold kQ;rw[eR,yW hk];rfl⟩;have kpl:aq (PU.length=ar.length):=⟨by rw[<-Du];exact Co⟩;clear Du;have kol:=aq.mk (qZ kpr.out.1).1;have ar4:=kpr.out.2.1;refine de (λm e H=>∃(i:Nat) (t:Tok) (sz:Nat),i<=ar.length/\m=ar.length - i/\aq (TI h H X Y (fe 0 X Y C T L (.list t sz (ints (PU.take i)))) t)/\aq (sz=1∨(PU.take i=[]/\t=.nil))/\
  e.get 4=NV/\e.get 5=T/\e.get 6=.ptr (.box h.boxes.length) 0/\e.get 12=.ptr (.box (h.boxes.length+1)) 0/\e.get 15=S/\e.get 16=C/\e.get 167=W/\e.get 168=.v (.int .i64 (ar.length:Nat))/\e.get 169=.v (.int .i64 (i:Nat))/\e.defers=[]) ?_ ar.length _ _ ?_
 rotate_left 1
 ·exact⟨0,.nil,0,df _,rfl,kT3,⟨.inr ⟨rfl,rfl⟩⟩,f4,f5,f6,f12,f15,f16,f167,f168,f169,fd⟩
 clear f4 f5 f6 f12 f15 f16 f167 f168 f169 fd kT3;rintro m e H ⟨i,t,sz,hi,rfl,kT,ksz,g4,g5,g6,g12,g15,g16,g167,g168,g169,hd⟩;by_cases az:i<ar.length;rotate_left 1
 ·have jz:i=ar.length:=by omega
  subst jz;rw[fK (by rw[kpl.out];exact aJ _)] at kT ksz;have hZ:IL (.list t sz (ints PU)) PU:=⟨t,sz,rfl,λq=>ksz.out.resolve_right λz=>q z.1⟩;have kZ:=aq.mk (eZ.out _ hZ);have VK:=Mw (ep:=0) kf.out.1 kf.out.2.1 kSC.out.2 kf.out.2.2.2.2.2.1 kP.out hZ;clear hZ ksz;generalize AV.list t sz (ints PU)=Z at *
  have l2:=We kT.out.tb rfl;have s2:=YK kT.out.tb rfl VK rfl;rw[nt kT.out.tb] at s2;have dC:decide ((0:Int)<((bV ae:Nat):Int))=ai:=cz ah;clear VK hi az
  repeat' (first|simp(maxSteps:=999999)(disch:=first|exact dZ|fail)only[gW,reduceIte,aY,aR,nw, *]|refine dX ?_ ?_<;>(intro _;try omega))
  exact⟨_,_,rfl,kT.out.ext,kZ.out⟩
 have vt:=kf.out.2.2.2.1.ix az;have ldW:=fP (H:=H) (s:=1) az;have ir:(i:Int)<(ar.length:Int):=by omega
 have kT2:=aq.mk (vY.start kT.out);clear kT;generalize hwi:al ar i=wi at *
 repeat' (first|simp(maxSteps:=999999)(disch:=first|exact dZ|fail)only[gW,reduceIte,aY,aR,nw, *]|refine dX ?_ ?_<;>(intro _;try omega))
 refine bM.gen λe0 aV cY eV eO=>?_;have f4:e0.get 4=NV:=by rw[aV];exact gA
 have f5:e0.get 5=T:=by rw[aV];exact gA
 have f6:e0.get 6=.ptr (.box h.boxes.length) 0:=by rw[aV];exact gA
 have f12:e0.get 12=.ptr (.box (h.boxes.length+1)) 0:=by rw[aV];exact gA
 have f15:e0.get 15=S:=by rw[aV];exact gA
 have f16:e0.get 16=C:=by rw[aV];exact gA
 have f167:e0.get 167=W:=by rw[aV];exact gA
 have f168:e0.get 168=.v (.int .i64 (ar.length:Nat)):=by rw[aV];exact gA
 have f169:e0.get 169=.v (.int .i64 (i:Nat)):=by rw[aV];exact gA
 have f27:e0.get 27=.v (.int .i64 (i:Nat)):=by rw[aV];exact gA
 have f28:e0.get 28=.v (.int .i64 wi):=by rw[aV];exact gA
 have f29:e0.get 29=.list .nil 0 []:=by rw[aV];exact gR
 have f174:e0.get 174=S:=by rw[aV];exact gA
 have f175:e0.get 175=.v (.int .i64 (ae.length:Nat)):=by rw[aV];exact gA
 have f176:e0.get 176=.v (.int .i64 (0:Nat)):=by rw[aV];exact gR
 have fd:e0.defers=[]:=by rw[cY];exact gA
 clear aV cY eV eO g4 g5 g6 g12 g15 g16 g167 g168 g169 hd vt ldW;obtain⟨D,hD⟩:∃D,oT ae (bu::bC)=D:=⟨_,rfl⟩;have hDl:D.length=ae.length:=by rw[<-hD];exact MB _ _
 have kDk:aq (∀j<ae.length,D[j]?=aa ((j:Int),oi (ae.getD j []) (bu::bC))):=⟨λj hj=>by rw[<-hD];unfold oT;rw[eR,yW hj];rfl⟩;have kS:aq (SL S D):=⟨by rw[<-hD];exact kSC.out.1⟩;have kD:=aq.mk hD;clear hD;refine de (λm e H=>∃(j:Nat) (t2:Tok) (s2:Nat),j<=ae.length/\m=ae.length - j/\aq (vY h H X Y (fe 0 X Y C T L (.list t sz (ints (PU.take i)))) t t2)/\aq (s2=2∨(qk ag [wi] (D.take j)=[]/\t2=.nil))/\
  e.get 4=NV/\e.get 5=T/\e.get 6=.ptr (.box h.boxes.length) 0/\e.get 12=.ptr (.box (h.boxes.length+1)) 0/\e.get 15=S/\e.get 16=C/\e.get 167=W/\e.get 168=.v (.int .i64 (ar.length:Nat))/\e.get 169=.v (.int .i64 (i:Nat))/\
  e.get 27=.v (.int .i64 (i:Nat))/\e.get 28=.v (.int .i64 wi)/\e.get 29=.list t2 s2 (iP (qk ag [wi] (D.take j)))/\e.get 174=S/\e.get 175=.v (.int .i64 (ae.length:Nat))/\e.get 176=.v (.int .i64 (j:Nat))/\e.defers=[]) ?_ ae.length _ _ ?_
 rotate_left 1
 ·exact⟨0,.nil,0,df _,rfl,kT2,⟨.inr ⟨rfl,rfl⟩⟩,f4,f5,f6,f12,f15,f16,f167,f168,f169,f27,f28,f29,f174,f175,f176,fd⟩
 clear f4 f5 f6 f12 f15 f16 f167 f168 f169 f27 f28 f29 f174 f175 f176 fd kT2 H;rintro m e H ⟨j,t2,s2,hj,rfl,kT,ks2,g4,g5,g6,g12,g15,g16,g167,g168,g169,g27,g28,g29,g174,g175,g176,hd⟩;by_cases Ga:j<ae.length
 ·have hp:=kDk.out j Ga;have ixS:=kS.out.ix (i:=j) ah;have ldS:=Wk (H:=H) (s:=2) hp;have zc:=ark;generalize fm:(((j:Int),oi (ae.getD j []) (bu::bC)):Int × Int)=p at *
  have oz:p.1=(j:Int):=by rw[<-fm]
  have st:=apN (H:=H) p;have t1:=kT.out.push (jY p);have b1:=bp H (jY p);have q0:aF aj Gt (H.push (jY p)) 3 (.ptr (.box H.boxes.length) 0)=aa (.v (.int .i64 (j:Int))):=by rw[<-oz];exact cI eM b1 rfl
  have q1:aF aj Gt (H.push (jY p)) 23 (.ptr (.box h.boxes.length) 1)=aa Y:=cI mW t1.ti.pb rfl;have q2:=ah8 b1;have lnY:=kf.out.2.1.dN;have ixY:=kf.out.2.1.ix (i:=j) (by have:=kol.out;omega);have ldY:∀K:ao,aF aj Gt K 3 (.elem 1 (ints ag) j 0)=aa (.v (.int .i64 (al ag j))):=λK=>fP (by have:=kol.out;omega);have hjI:(j:Int)<(ae.length:Int):=by omega
  have hjO:(j:Int)<(ag.length:Int):=by have:=kol.out;omega
  have cd:=ajl (ag:=ag) (ar:=[wi]) hp;have Od:Aq ag [wi] p=if wi=al ag j then [p] else []:=by
   unfold Aq;rw[oz,dS];by_cases q:wi=al ag j
   ·rw[aD q,Ij (by simp[q])];rfl
   ·rw[aG q,Ii (by simp[q])];rfl
  rw[Od] at cd;have Vq:(qk ag [wi] (D.take j)).length<=16:=by refine fc (Pj ag [wi] _) ?_;rw[fb,Lq];omega
  have u36:=RW;by_cases hq:wi=al ag j
  ·rw[aD hq] at cd;have dq:decide (al ag j=wi)=ai:=cz hq.symm;have ap:=Mc (T:=36) (r:=jY p) (es:=iP (qk ag [wi] (D.take j))) (sz:=s2) u36 V0 aO (by rw[Qr];omega) (ks2.out.imp_right λq=>⟨by rw[q.1];rfl,q.2⟩) t1.co;rw[aoD,<-cd] at ap;have kT2:=aq.mk t1.app;have bl:gN aj 36 1 [(0,.agg (jY p))]=aa (.list .tight 2 [jY p]):=Sv p.1 p.2;clear hq cd Od oz fm hp t1 b1 kT;generalize al ag j=ow at *
   have ldS2:aF aj Gt H 81 (.elem 2 (iP D) j 0)=aa (.agg (jY p)):=ldS;clear ldS;generalize jY p=sr at *
   repeat' (first|simp(maxSteps:=999999)(disch:=first|exact dZ|fail)only[gW,reduceIte,aY,aR,nw,Tx,gq,bK, *]|refine dX ?_ ?_<;>(intro _;try omega))
   exact⟨ae.length - (j+1),by omega,j+1,_,2,by omega,rfl,(by first|exact kT2|trivial),⟨.inl rfl⟩,by simp⟩
  ·rw[aG hq,List.append_nil] at cd;have dq:decide (al ag j=wi)=ay:=cX λq=>hq q.symm;rw[<-cd] at g29 ks2;have kT2:=aq.mk t1;have ldS2:aF aj Gt H 81 (.elem 2 (iP D) j 0)=aa (.agg (jY p)):=ldS;clear hq cd Od oz fm hp t1 b1 kT ldS;generalize al ag j=ow at *
   generalize jY p=sr at *
   repeat' (first|simp(maxSteps:=999999)(disch:=first|exact dZ|fail)only[gW,reduceIte,aY,aR,nw,Tx,gq,bK, *]|refine dX ?_ ?_<;>(intro _;try omega))
   exact⟨ae.length - (j+1),by omega,j+1,t2,s2,by omega,rfl,(by first|exact kT2|trivial),(by first|exact ks2|trivial),by simp⟩
 have tC:j=ae.length:=by omega
 subst tC;rw[fK (by rw[hDl];exact aJ _)] at g29 ks2;have hO:SL (.list t2 s2 (iP (qk ag [wi] D))) (qk ag [wi] D):=⟨t2,s2,rfl,λq=>ks2.out.resolve_right λz=>q z.1⟩;have Vq:(qk ag [wi] D).length<=16:=by refine fc (Pj ag [wi] _) ?_;rw[Lq];omega
 have cV:(bF (bu::bC)).length<=1000000:=by unfold bF;rw[bJ,Uz];omega
 have mk:=aiJ 0 X Y C T L ae ag (bF (bu::bC)) text (ft ar N) kf.out.1 kf.out.2.1 kSC.out.2 kf.out.2.2.2.2.2.1 kP.out cV (by rw[J9];omega) _ _ wi (al N (2 * i)) (al N (2 * i+1)) hO ah;have Gh:uy ae ag 0 (bF (bu::bC)) text (ft ar N) wi (qk ag [wi] D) (al N (2 * i)) (al N (2 * i+1))=(qY ae ag (bu::bC) ar N (ft ar N) text i,0):=by rw[<-kD.out,ajF kol.out,<-hwi];exact aeq kcr.out.tZ kcr.out.acc kcr.out.ne kcr.out.wl kcr.out.tl aO kcr.out.sl az
 rw[Gh] at mk;have ixA:=kf.out.2.2.2.2.1.ix (i:=2 * i) ah;have ixB:=kf.out.2.2.2.2.1.ix (i:=2 * i+1) ah;have ldA:∀K:ao,aF aj Gt K 3 (.elem 1 (ints N) (2 * i) 0)=aa (.v (.int .i64 (al N (2 * i)))):=λK=>fP ah;have ldB:∀K:ao,aF aj Gt K 3 (.elem 1 (ints N) (2 * i+1) 0)=aa (.v (.int .i64 (al N (2 * i+1)))):=λK=>fP ah;rw[show((2 * i:Nat):Int)=2 * (i:Int) by omega] at ixA;rw[show((2 * i+1:Nat):Int)=2 * (i:Int)+1 by omega] at ixB;have hwA:IntKind.i64.wrap (2 * (i:Int))=2 * (i:Int):=fh ah ah;have hwB:IntKind.i64.wrap (2 * (i:Int)+1)=2 * (i:Int)+1:=fh ah ah;have qS:=kpk.out i az;have ktk:=aq.mk (gx qS);have zE:=kpl.out;clear qS Gh hO;generalize qY ae ag (bu::bC) ar N (ft ar N) text i=zi at *
 have lK:=Wf kT.out.ti.tb;have lL:aF aj Gt H 29 (.ptr (.box (h.boxes.length+1)) 5)=aa L:=cI xO kT.out.ti.tb rfl;have lZ:aF aj Gt H 23 (.ptr (.box (h.boxes.length+1)) 6)=aa (.list t sz (ints (PU.take i))):=cI mW kT.out.ti.tb rfl;have ap:=y7 (x:=zi) (es:=PU.take i) (by rw[fb];omega) ksz.out kT.out.ti.can;rw[<-ktk.out] at ap;have bl:=rC zi;have t3:=kT.out.ti.app;have sZ:=api t3.tb (x:=.list (.free H.tn) 1 (ints (PU.take (i+1)))) rfl;have kT2:=aq.mk (t3.put (fe 0 X Y C T L (.list (.free H.tn) 1 (ints (PU.take (i+1))))));clear t3 kT Vq cV hj Ga zE;unfold im at *
 generalize al N (2 * i)=nA at *
 generalize al N (2 * i+1)=nB at *
 repeat' (first|simp(maxSteps:=999999)(disch:=first|exact dZ|fail)only[gW,reduceIte,aY,aR,nw,sV, *]|refine dX ?_ ?_<;>(intro _;try omega))
 refine fQ FA aw ?_
 repeat' (first|simp(maxSteps:=999999)(disch:=first|exact dZ|fail)only[gW,reduceIte,aY,aR,nw,sV, *]|refine dX ?_ ?_<;>(intro _;try omega))
 exact⟨ar.length - (i+1),by omega,i+1,_,1,by omega,rfl,(by first|exact kT2|trivial),⟨.inl rfl⟩,by simp⟩
def qc(k):ct (ct k)=ct k:=by cases k<;>rfl
def amq{l}{ae}(hr:pq l ae)(hh:fS ae=ae)(k)(hm:ae.length<=1000000):∀h,W2.call 119 [.list k 4 ae] h=aa (.ret (.agg (bf 3 0 [] (ct k) 4 ae)),h):=by
 have hv:dh (.list l) (bf 3 0 [] k 4 ae):=.list l k 4 ae hr.1 (λ_=>rfl) hm hr.2;obtain⟨h1,h2⟩:=dh.hold _ _ hv;have e:cA (bf 3 0 [] k 4 ae)=bf 3 0 [] (ct k) 4 (fS ae):=rfl;rw[e,hh] at h1 h2;refine cC (L:=L2) (dL:=[.list (ct k) 4 ae]) rfl ?_ ?_ (amv _ _ _ _) ?_ ?_
 ·simp only[cA,aI,hh]
 ·unfold bf at h2;simp only[bg,bA] at h2 ⊢;exact⟨h2.2.2.2.1,aT⟩
 ·show AV.agg [im 3,im 0,sv [],.list (ct (ct k)) 4 ae]=_;rw[qc];rfl
 ·rw[aW];exact h2
def anL(s):∀h,W3.call 121 [sv s] h=aa (.ret (.agg (bf 2 0 s .nil 0 [])),h):=cC (L:=L3) rfl rfl rfl (anK s _) rfl rfl
def alF(bh b)(k)(hb:b.length<=1099511610000)(ht:bh.length<=1099511610000):∀h,W3.call 123 [.v (.string (bs bh)),.list k 1 (aX b)] h=aa (.ret (im (nh (fZ bh b):Nat)),h):=
 cC (L:=L3) (dL:=[.v (.string (bs bh)),.list (ct k) 1 (aX b)]) rfl (by rw[cA,cA,aI.eq_1,qP];rfl) (by simp[bg,aW,fJ,kC]) (alE bh b _ hb ht _) rfl rfl
def alc{v}{r}(hv:dh v r)(hd:gg v<=16)(hl:(dM v).length<=1099511600000):∃t,∀h,W3.call 118 [.agg r] h=aa (.ret (.tuple [.list t 1 (aX (dM v)),.v (.int .i64 0)]),h):=by obtain⟨h1,h2⟩:=dh.hold v r hv;obtain⟨t,c⟩:=alb h1 hd hl;exact⟨ct t,cC (L:=L3) (dL:=[.agg (cA r)]) rfl rfl (by simpa [bg,aW] using h2) (c _) rfl (by simp[aW,bg,fJ,kC])⟩
def amr{l}{ae}(hr:pq l ae)(hh:fS ae=ae)(k)(hm:ae.length<=1000000):∀h,W3.call 119 [.list k 4 ae] h=aa (.ret (.agg (bf 3 0 [] (ct k) 4 ae)),h):=by
 have hv:dh (.list l) (bf 3 0 [] k 4 ae):=.list l k 4 ae hr.1 (λ_=>rfl) hm hr.2;obtain⟨h1,h2⟩:=dh.hold _ _ hv;have e:cA (bf 3 0 [] k 4 ae)=bf 3 0 [] (ct k) 4 (fS ae):=rfl;rw[e,hh] at h1 h2;refine cC (L:=L3) (dL:=[.list (ct k) 4 ae]) rfl ?_ ?_ (amq hr hh (ct k) hm _) ?_ ?_
 ·simp only[cA,aI,hh]
 ·unfold bf at h2;simp only[bg,bA] at h2 ⊢;exact⟨h2.2.2.2.1,aT⟩
 ·show AV.agg [im 3,im 0,sv [],.list (ct (ct (ct k))) 4 ae]=_;rw[qc,qc];rfl
 ·rw[aW];exact h2
def anM(s):∀h,W4.call 121 [sv s] h=aa (.ret (.agg (bf 2 0 s .nil 0 [])),h):=cC (L:=L4) rfl rfl rfl (anL s _) rfl rfl
def alG(bh b)(k)(hb:b.length<=1099511610000)(ht:bh.length<=1099511610000):∀h,W4.call 123 [.v (.string (bs bh)),.list k 1 (aX b)] h=aa (.ret (im (nh (fZ bh b):Nat)),h):=
 cC (L:=L4) (dL:=[.v (.string (bs bh)),.list (ct k) 1 (aX b)]) rfl (by rw[cA,cA,aI.eq_1,qP];rfl) (by simp[bg,aW,fJ,kC]) (alF bh b _ hb ht _) rfl rfl
def ald{v}{r}(hv:dh v r)(hd:gg v<=16)(hl:(dM v).length<=1099511600000):∃t,∀h,W4.call 118 [.agg r] h=aa (.ret (.tuple [.list t 1 (aX (dM v)),.v (.int .i64 0)]),h):=by obtain⟨h1,h2⟩:=dh.hold v r hv;obtain⟨t,c⟩:=alc h1 hd hl;exact⟨ct t,cC (L:=L4) (dL:=[.agg (cA r)]) rfl rfl (by simpa [bg,aW] using h2) (c _) rfl (by simp[aW,bg,fJ,kC])⟩
def ams{l}{ae}(hr:pq l ae)(hh:fS ae=ae)(k)(hm:ae.length<=1000000):∀h,W4.call 119 [.list k 4 ae] h=aa (.ret (.agg (bf 3 0 [] (ct k) 4 ae)),h):=by
 have hv:dh (.list l) (bf 3 0 [] k 4 ae):=.list l k 4 ae hr.1 (λ_=>rfl) hm hr.2;obtain⟨h1,h2⟩:=dh.hold _ _ hv;have e:cA (bf 3 0 [] k 4 ae)=bf 3 0 [] (ct k) 4 (fS ae):=rfl;rw[e,hh] at h1 h2;refine cC (L:=L4) (dL:=[.list (ct k) 4 ae]) rfl ?_ ?_ (amr hr hh (ct k) hm _) ?_ ?_
 ·simp only[cA,aI,hh]
 ·unfold bf at h2;simp only[bg,bA] at h2 ⊢;exact⟨h2.2.2.2.1,aT⟩
 ·show AV.agg [im 3,im 0,sv [],.list (ct (ct (ct k))) 4 ae]=_;rw[qc,qc];rfl
 ·rw[aW];exact h2
def anN(s):∀h,W5.call 121 [sv s] h=aa (.ret (.agg (bf 2 0 s .nil 0 [])),h):=iX (L:=L5) rfl rfl rfl (anM s _) rfl rfl
def alH(bh b)(k)(hb:b.length<=1099511610000)(ht:bh.length<=1099511610000):∀h,W5.call 123 [.v (.string (bs bh)),.list k 1 (aX b)] h=aa (.ret (im (nh (fZ bh b):Nat)),h):=
 iX (L:=L5) (dL:=[.v (.string (bs bh)),.list (ct k) 1 (aX b)]) rfl (by rw[cA,cA,aI.eq_1,qP];rfl) (by simp[bg,aW,fJ,kC]) (alG bh b _ hb ht _) rfl rfl
def ale{v}{r}(hv:dh v r)(hd:gg v<=16)(hl:(dM v).length<=1099511600000):∃t,∀h,W5.call 118 [.agg r] h=aa (.ret (.tuple [.list t 1 (aX (dM v)),.v (.int .i64 0)]),h):=by obtain⟨h1,h2⟩:=dh.hold v r hv;obtain⟨t,c⟩:=ald h1 hd hl;exact⟨ct t,iX (L:=L5) (dL:=[.agg (cA r)]) rfl rfl (by simpa [bg,aW] using h2) (c _) rfl (by simp[aW,bg,fJ,kC])⟩
def amt{l}{ae}(hr:pq l ae)(hh:fS ae=ae)(k)(hm:ae.length<=1000000):∀h,W5.call 119 [.list k 4 ae] h=aa (.ret (.agg (bf 3 0 [] (ct k) 4 ae)),h):=by
 have hv:dh (.list l) (bf 3 0 [] k 4 ae):=.list l k 4 ae hr.1 (λ_=>rfl) hm hr.2;obtain⟨h1,h2⟩:=dh.hold _ _ hv;have e:cA (bf 3 0 [] k 4 ae)=bf 3 0 [] (ct k) 4 (fS ae):=rfl;rw[e,hh] at h1 h2;refine iX (L:=L5) (dL:=[.list (ct k) 4 ae]) rfl ?_ ?_ (ams hr hh (ct k) hm _) ?_ ?_
 ·simp only[cA,aI,hh]
 ·unfold bf at h2;simp only[bg,bA] at h2 ⊢;exact⟨h2.2.2.2.1,aT⟩
 ·show AV.agg [im 3,im 0,sv [],.list (ct (ct (ct k))) 4 ae]=_;rw[qc,qc];rfl
 ·rw[aW];exact h2
def anO(s):∀h,W6.call 121 [sv s] h=aa (.ret (.agg (bf 2 0 s .nil 0 [])),h):=cC (L:=L6) rfl rfl rfl (anN s _) rfl rfl
def alI(bh b)(k)(hb:b.length<=1099511610000)(ht:bh.length<=1099511610000):∀h,W6.call 123 [.v (.string (bs bh)),.list k 1 (aX b)] h=aa (.ret (im (nh (fZ bh b):Nat)),h):=
 cC (L:=L6) (dL:=[.v (.string (bs bh)),.list (ct k) 1 (aX b)]) rfl (by rw[cA,cA,aI.eq_1,qP];rfl) (by simp[bg,aW,fJ,kC]) (alH bh b _ hb ht _) rfl rfl
def alf{v}{r}(hv:dh v r)(hd:gg v<=16)(hl:(dM v).length<=1099511600000):∃t,∀h,W6.call 118 [.agg r] h=aa (.ret (.tuple [.list t 1 (aX (dM v)),.v (.int .i64 0)]),h):=by obtain⟨h1,h2⟩:=dh.hold v r hv;obtain⟨t,c⟩:=ale h1 hd hl;exact⟨ct t,cC (L:=L6) (dL:=[.agg (cA r)]) rfl rfl (by simpa [bg,aW] using h2) (c _) rfl (by simp[aW,bg,fJ,kC])⟩
def amu{l}{ae}(hr:pq l ae)(hh:fS ae=ae)(k)(hm:ae.length<=1000000):∀h,W6.call 119 [.list k 4 ae] h=aa (.ret (.agg (bf 3 0 [] (ct k) 4 ae)),h):=by
 have hv:dh (.list l) (bf 3 0 [] k 4 ae):=.list l k 4 ae hr.1 (λ_=>rfl) hm hr.2;obtain⟨h1,h2⟩:=dh.hold _ _ hv;have e:cA (bf 3 0 [] k 4 ae)=bf 3 0 [] (ct k) 4 (fS ae):=rfl;rw[e,hh] at h1 h2;refine cC (L:=L6) (dL:=[.list (ct k) 4 ae]) rfl ?_ ?_ (amt hr hh (ct k) hm _) ?_ ?_
 ·simp only[cA,aI,hh]
 ·unfold bf at h2;simp only[bg,bA] at h2 ⊢;exact⟨h2.2.2.2.1,aT⟩
 ·show AV.agg [im 3,im 0,sv [],.list (ct (ct (ct k))) 4 ae]=_;rw[qc,qc];rfl
 ·rw[aW];exact h2
end Go.Proofs.YtnfciiiohoafaaaGreatDoor
end
