/-
  The engine, part 53: a guarded load behind an operation that acts.
-/
import Derived.Test.YtnfciiiohoafaaaGreatDoorTF
import Derived.Test.YtnfciiiohoafaaaGreatDoorTB
open True renaming intro->aQ
open Option renaming none->aq,some->aa,map_some->eJ
open Bool renaming true->ah,and_eq_true->bC,false->av,not_eq_true->ZW,not_eq_false'->ZV,true_and->rP
open List renaming mem_cons->gO,getElem?_eq_getElem->aO,drop_eq_getElem_cons->zR,getElem?_eq_some_iff->aP,not_mem_nil->tT,length_map->bu,length_take->eP,map_append->lU,take_succ_cons->hJ,take_zero->fB,take_length->fA,drop_of_length_le->pc,all_eq_true->dU,getElem_mem->iD,map_eq_nil_iff->EG,map_cons->eo,mem_of_getElem?->de,getElem?_map->dW,range->bO,range_succ->ob,filter_append->Cg,length_filter_le->EF,mem_map->jo,mem_range->fY,mem_filter->tS,length_range->aaA,mem_singleton->mo,append_assoc->rR,getElem?_append_right->yu,foldl_append->nY,length_pos_iff->K8,mem_cons_self->fR,pairwise_cons->EI,mem_cons_of_mem->fi,length_set->mn,getElem?_set->lR,ext_getElem?->p8,getD_eq_getElem?_getD->dP,length_nil->jI,length_append->dk,length_cons->iW,getElem?_range->ED,append_nil->jH,getElem?_drop->nZ,getElem?_of_mem->s8,replicate->aY,foldl_nil->EB,map_replicate->wO
open Go.Proofs.Tryz renaming prog->al,func127->abc,underlying36->abr,underlying22->iq,underlying23->dJ
open Nat renaming le_of_ble_eq_true->lW,le_refl->aJ,zero_le->cr,le_trans->fe,beq_refl->aaU,lt_or_ge->dI,sub_self->s9,mul_le_mul->pg,reduceEqDiff->aX,zero_add->oF
open And renaming intro->ar
open Decidable renaming not_not->Hz
open Int renaming toNat_natCast->dL
open Array renaming getElem?_eq_none->wF
open Prod renaming fst->EV
set_option maxHeartbeats 64000000
set_option maxRecDepth 100000
set_option linter.unusedSimpArgs false
set_option linter.unusedVariables false
set_option linter.constructorNameAsVariable false
set_option linter.defProp false
section
namespace Go.Proofs.YtnfciiiohoafaaaGreatDoor
open Go.AE Go.NT
def jR(l:List Pr):List Int:=l.map Pr.az
def QJ(ae:List (List Int))(owners:List Int)(ep:Int)(X Y C T L:AV)(ao:List Int)(text:List UInt8)(l:List Pr)(h:ak)(r:eK)(h':ak):Prop:=
 Ext h h'/\((du ae owners ep ao text l≠0/\r=.ret (.tuple [.v (.pointer aq),.v (.int .i64 (du ae owners ep ao text l))]))∨
  (du ae owners ep ao text l=0/\∃c Wt,r=.ret (.tuple [.ptr (.box c) 0,.v (.int .i64 0)])/\IL Wt (eF ae owners l)/\tW h' c ep X Y C T L Wt ((fN (ai ao 0) text l:Nat):Int) ((eQ (ai ao 0) text l:Nat):Int) ao text l))
def xW{l}:∀{cE:Int},fm cE l=ah->∀p∈l,cE<p.az/\p.az<64/\0<=p.no/\p.no<4096/\bE p.d=ah/\bE p.e=ah:=by
 induction l with
 |nil=>intro _ _ p hp;simp at hp|cons q l ih=>
  intro cE h p hp;rw[NT.fm] at h;simp only[bC,decide_eq_true_eq] at h;obtain⟨⟨⟨⟨⟨⟨h1,h2⟩,h3⟩,h4⟩,h5⟩,h6⟩,h7⟩:=h;rcases gO.1 hp with rfl|hp
  ·exact⟨h1,h2,h3,h4,h5,h6⟩
  ·obtain⟨k1,k2,k3,k4,k5,k6⟩:=ih h7 p hp;exact⟨ag,k2,k3,k4,k5,k6⟩
def DL{c0}{text}{l}{p}(hd:bE p.d=ah)(he:bE p.e=ah):elem (jC c0 text l p)=ah:=by unfold jC eC;rw[JI];exact Ff (Av hd) (zA (Av he) _)
def Xi{c0}{text}{l}{cE:Int}(h:fm cE l=ah):elem (fN c0 text l)=ah:=
 Bx (λp hp=>DL (xW h p hp).2.2.2.2.1 (xW h p hp).2.2.2.2.2) yK
def LO(h:ak)(bA:cA h=ah)(ep:Int)(X Y C T L:AV)(ae:List (List Int))(owners ao:List Int)(text:List UInt8)(l:List Pr)
 (hx:RL X ae) (hy:IL Y owners) (hc:IL C ao) (ht:BL T text) (hp:PL L l) (dC:ao.length<=1000000) (eR:l.length<=1000000):
 ∃r h',W5.call 48 [.agg (aV ep X Y C),T,L] h=aa (r,h')/\QJ ae owners ep X Y C T L ao text l h r h':=by
 have bx:=vS (ep:=ep) hx hy hc;obtain⟨_,h2,c2,rfl,rfl⟩:=amR (h.push (aV ep X Y C)) ep X Y C ae owners ao hx hy hc dC;have c1:=SO X Y ae owners hx hy;have b0:=a9 h (aV ep X Y C);have l1:aI al Gt (h.push (aV ep X Y C)) 25 (.ptr (.box h.boxes.length) 1)=aa (.agg [X,Y]):=by rw[ja wT (by kernel_rfl:dm al 25=aa 2) b0 (lW rfl)];rfl
 have l2:aI al Gt (h.push (aV ep X Y C)) 27 (.ptr (.box h.boxes.length) 0)=aa (.agg (aV ep X Y C)):=by rw[ja au (by kernel_rfl:dm al 27=aa 4) b0 (lW rfl)];rfl
 have l3:aI al Gt ((h.push (aV ep X Y C)).push (aV ep X Y C)) 27 (.ptr (.box h.boxes.length) 0)=aa (.agg (aV ep X Y C)):=by rw[ja au (by kernel_rfl:dm al 27=aa 4) (bg b0) (lW rfl)];rfl
 have ln1:=ht.ej;have ln2:=hp.ej;have lst:=ajk;have bw:mw al 98 [(0,.agg (aV ep X Y C)),(1,T),(2,L),(4,.agg (aH 3 0 [] .nil 0 []))]=aa (.agg (gN ep X Y C T L (.list .nil 0 []) (.list .nil 0 []) 0 0))/\(AV.agg (gN ep X Y C T L (.list .nil 0 []) (.list .nil 0 []) 0 0)).b8=aa (gN ep X Y C T L (.list .nil 0 []) (.list .nil 0 []) 0 0):=by obtain⟨kx,sx,xs,rfl,-⟩:=hx.form;obtain⟨ky,sy,rfl,-⟩:=hy;obtain⟨kc,sc,rfl,-⟩:=hc;obtain⟨kt,st,rfl,-⟩:=ht;obtain⟨kp,sp,rfl,-⟩:=hp;exact⟨acz ep kx ky kc kt kp sx sy sc st sp _ _ _ _ _,rfl⟩
 obtain⟨bw1,bw2⟩:=bw;have kf:=aj.mk (ar hx (ar hy (ar hc (ar ht hp))));have B0:BI h (((h.push (aV ep X Y C)).push (aV ep X Y C)).push (gN ep X Y C T L (.list .nil 0 []) (.list .nil 0 []) 0 0)) ep X Y C T L h.boxes.length ((h.push (aV ep X Y C)).push (aV ep X Y C)).boxes.length (.list .nil 0 []) [] .nil:=
  ⟨((Ext.push _ _).trans (.push _ _)).trans (.push _ _),bA,.inl rfl,bg (bg b0),a9 _ _,.inl ⟨rfl,rfl⟩,aJ _,by rw[cK,cK];omega⟩
 have X1:=aj.mk (Ext.push h (aV ep X Y C));have X2:=aj.mk ((Ext.push h (aV ep X Y C)).trans (Ext.push _ (aV ep X Y C)));have kE1:aj (cR ae owners≠0->du ae owners ep ao text l=cR ae owners):=⟨λq=>by unfold du;rw[aF q]⟩;have kE2:aj (cR ae owners=0->jS ae ep ao=av->du ae owners ep ao text l=380):=⟨λq1 q2=>by unfold du;rw[aG (by simp[q1]),aF];unfold jS at q2;rw[q2];rfl⟩;have kE3:aj (cR ae owners=0->jS ae ep ao=ah->65536<text.length->du ae owners ep ao text l=2):=⟨λq1 q2 q3=>by unfold du;unfold jS at q2;rw[aG (by simp[q1]),aG (by rw[q2];decide),aF q3]⟩;have kE4:aj (cR ae owners=0->jS ae ep ao=ah->¬65536<text.length->64<l.length->du ae owners ep ao text l=420):=⟨λq1 q2 q3 q4=>by unfold du;unfold jS at q2;rw[aG (by simp[q1]),aG (by rw[q2];decide),aG q3,aF q4]⟩;have kE5:aj (cR ae owners=0->jS ae ep ao=ah->¬65536<text.length->¬64<l.length->fm (-1) l=av->du ae owners ep ao text l=420):=⟨λq1 q2 q3 q4 q5=>by unfold du;unfold jS at q2;rw[aG (by simp[q1]),aG (by rw[q2];decide),aG q3,aG q4,aF (by rw[q5];rfl)]⟩;have kE6:aj (cR ae owners=0->jS ae ep ao=ah->¬65536<text.length->¬64<l.length->fm (-1) l=ah->∀y o e,fZ ae owners (jR l)=(y,o,e)->du ae owners ep ao text l=if e≠0∨o=av∨l.length=0 then 420 else 0):=⟨λq1 q2 q3 q4 q5 y o e q6=>by unfold du;unfold jS at q2;rw[aG (by simp[q1]),aG (by rw[q2];decide),aG q3,aG q4,aG (by rw[q5];decide)];unfold jR at q6;rw[q6]⟩;have kW:aj (∀y o e,fZ ae owners (jR l)=(y,o,e)->eF ae owners l=y):=⟨λy o e q=>by unfold eF;unfold jR at q;rw[q]⟩;have kR:aj (jS ae ep ao=ah->ao.length=bU ae/\ao.all bE=ah):=⟨λq=>by unfold jS at q;simp only[bC,decide_eq_true_eq] at q;exact⟨q.1.2,q.2⟩⟩;unfold QJ;generalize du ae owners ep ao text l=res at *
 clear hx hy hc ht hp b0;refine df rfl Tryz.func48 rfl ?_;by_cases h0:cR ae owners=0;rotate_left 1
 ·have kr:=aj.mk (ar h0 (kE1.out h0));clear kE1 kE2 kE3 kE4 kE5 kE6 c2 bw1 bw2 B0 lst l3;generalize cR ae owners=q at *
  unfold im at *
  refine cY @ny @bL @gd ?_;exact⟨_,_,rfl,X1.out,.inl ⟨by rw[kr.out.2];exact kr.out.1,by rw[kr.out.2]⟩⟩
 rw[h0] at c1;cases h1:jS ae ep ao with
 |false=>
  have kr:=aj.mk (kE2.out h0 h1);rw[h1] at c2;clear kE1 kE2 kE3 kE4 kE5 kE6 bw1 bw2 B0 lst l3 h0 h1;unfold im at *
  refine cY @ny @bL @gd ?_;exact⟨_,_,rfl,X2.out,.inl ⟨by rw[kr.out];decide,by rw[kr.out]⟩⟩
 |true=>
 rw[h1] at c2;by_cases h3:65536<text.length
 ·have kr:=aj.mk (kE3.out h0 h1 h3);have hI:(65536:Int)<(text.length:Int):=by omega
  clear kE1 kE2 kE3 kE4 kE5 kE6 bw1 bw2 B0 lst l3 h0 h1 h3;unfold im at *
  refine cY @ny @bL @gd ?_;exact⟨_,_,rfl,X2.out,.inl ⟨by rw[kr.out];decide,by rw[kr.out]⟩⟩
 have hI:¬(65536:Int)<(text.length:Int):=by omega
 by_cases h4:64<l.length
 ·have kr:=aj.mk (kE4.out h0 h1 h3 h4);have Fp:(64:Int)<(l.length:Int):=by omega
  clear kE1 kE2 kE3 kE4 kE5 kE6 bw1 bw2 B0 lst l3 h0 h1 h3 h4;unfold im at *
  refine cY @ny @bL @gd ?_;exact⟨_,_,rfl,X2.out,.inl ⟨by rw[kr.out];decide,by rw[kr.out]⟩⟩
 have Fp:¬(64:Int)<(l.length:Int):=by omega
 have kbad:=aj.mk (λq=>kE5.out h0 h1 h3 h4 q);have kgood:=aj.mk (λq=>kE6.out h0 h1 h3 h4 q);have kcom:=aj.mk (kR.out h1);have kprog:=aj.mk h0;have ktl:aj (text.length<=65536):=⟨ag⟩;have IV:l.length<=64:=by omega
 clear kE1 kE2 kE3 kE4 kE5 kE6 kR h0 h1 h3 h4 X1 X2;have kB0:=aj.mk B0;clear B0;obtain⟨HW,T9⟩:∃HW,((h.push (aV ep X Y C)).push (aV ep X Y C)).push (gN ep X Y C T L (.list .nil 0 []) (.list .nil 0 []) 0 0)=HW:=⟨_,rfl⟩;unfold im at *
 refine cY @ny @bL @gd ?_;refine ey ku au ?_;refine cY @ny @bL @gd ?_;rw[T9] at kB0;refine bG.gen λe0 aD bI cT cJ=>?_;have f1:e0.get 1=T:=by rw[aD];exact gS
 have f2:e0.get 2=L:=by rw[aD];exact gS
 have f3:e0.get 3=.ptr (.box h.boxes.length) 0:=by rw[aD];exact gS
 have f6:e0.get 6=.ptr (.box ((h.push (aV ep X Y C)).push (aV ep X Y C)).boxes.length) 0:=by rw[aD];exact gS
 have f9:e0.get 9=.list .nil 0 []:=by rw[aD];exact gS
 have f10:e0.get 10=.v (.int .i64 (-1)):=by rw[aD];exact gS
 have f39:e0.get 39=L:=by rw[aD];exact gS
 have f40:e0.get 40=.v (.int .i64 (l.length:Nat)):=by rw[aD];exact gS
 have f41:e0.get 41=.v (.int .i64 (0:Nat)):=by rw[aD];exact gR
 have fd:e0.defers=[]:=by rw[bI];exact gS
 clear aD bI cT cJ c1 c2 l1 l2 l3 bw1 bw2 lst T9 hI Fp ln1;generalize ((h.push (aV ep X Y C)).push (aV ep X Y C)).boxes.length=c at *
 generalize h.boxes.length=kb at *
 refine cq (λm e H=>∃(i:Nat) (cE:Int) (t:Tok) (sz:Nat) (cur:AV),i<=l.length/\m=l.length - i/\aj (fm cE (l.drop i)=fm (-1) l)/\(-1<=cE)/\aj (BI h H ep X Y C T L kb c cur ((l.take i).map Pr.val) t)/\aj (sz=1∨(jR (l.take i)=[]/\t=.nil))/\
  e.get 1=T/\e.get 2=L/\e.get 3=.ptr (.box kb) 0/\e.get 6=.ptr (.box c) 0/\e.get 9=.list t sz (ints (jR (l.take i)))/\e.get 10=.v (.int .i64 cE)/\e.get 39=L/\e.get 40=.v (.int .i64 (l.length:Nat))/\e.get 41=.v (.int .i64 (i:Nat))/\e.defers=[]) ?_ l.length _ _ ?_
 rotate_left 1
 ·exact⟨0,-1,.nil,0,.list .nil 0 [],cr _,rfl,⟨rfl⟩,Int.le_refl _,kB0,⟨.inr ⟨rfl,rfl⟩⟩,f1,f2,f3,f6,f9,f10,f39,f40,f41,fd⟩
 clear f1 f2 f3 f6 f9 f10 f39 f40 f41 fd kB0 HW;rintro m e H ⟨i,cE,t,sz,cur,hi,rfl,kP,kD,kB,ksz,g1,g2,g3,g6,g9,g10,g39,g40,g41,hd⟩;by_cases aA:i<l.length
 ·obtain⟨p,xw⟩:∃p,l[i]?=aa p:=⟨_,aO aA⟩;have oq:l.drop i=p::l.drop (i+1):=by rw[zR aA,(aP.1 xw).2]
  have qp:=kP.out;rw[oq,NT.fm] at qp;have kpf:=aj.mk qp;have ix:=kf.out.2.2.2.2.ix aA;have ld:=DD (H:=H) (s:=4) xw;have st:=wB (H:=H) p;have zc:=zJ;have b0:=a9 H (bF p);have q0:aI al Gt (H.push (bF p)) 3 (.ptr (.box H.boxes.length) 0)=aa (.v (.int .i64 p.az)):=dg eM b0 rfl;have q1:aI al Gt (H.push (bF p)) 3 (.ptr (.box H.boxes.length) 1)=aa (.v (.int .i64 p.no)):=dg eM b0 rfl;have q2:aI al Gt (H.push (bF p)) 3 (.ptr (.box H.boxes.length) 2)=aa (.v (.int .i64 p.d)):=dg eM b0 rfl;have q3:aI al Gt (H.push (bF p)) 3 (.ptr (.box H.boxes.length) 3)=aa (.v (.int .i64 p.e)):=dg eM b0 rfl;have v1:=Hn p.d;have v2:=Hn p.e;have fL:(i:Int)<(l.length:Int):=by omega
  have kBp:=aj.mk (kB.out.push (bF p));have ktake:=aj.mk (fH xw);clear qp oq xw b0;have kbad2:aj ((decide (cE<p.az)&&decide (p.az<64)&&decide (0<=p.no)&&decide (p.no<4096)&&bE p.d&&bE p.e)=av->res=420):=⟨λq=>by refine kbad.out ?_;rw[<-kpf.out,q];rfl⟩;unfold im at *
  by_cases e1:p.az<=cE
  ·have d1:decide (p.az<=cE)=ah:=bX e1;have kr:=aj.mk (kbad2.out (by rw[cI (ag:¬cE<p.az)];rfl));clear e1;refine bM @ny @iP ?_;exact⟨_,_,rfl,kBp.out.ext,.inl ⟨by rw[kr.out];decide,by rw[kr.out]⟩⟩
  have d1:decide (p.az<=cE)=av:=cI e1;by_cases e2:64<=p.az
  ·have d2:decide (64<=p.az)=ah:=bX e2;have kr:=aj.mk (kbad2.out (by rw[cI (ag:¬p.az<64)];simp));clear e1 e2;refine bM @ny @iP ?_;exact⟨_,_,rfl,kBp.out.ext,.inl ⟨by rw[kr.out];decide,by rw[kr.out]⟩⟩
  have d2:decide (64<=p.az)=av:=cI e2;by_cases e3:p.no<0
  ·have d3:decide (p.no<0)=ah:=bX e3;have kr:=aj.mk (kbad2.out (by rw[cI (ag:¬0<=p.no)];simp));clear e1 e2 e3;refine bM @ny @iP ?_;exact⟨_,_,rfl,kBp.out.ext,.inl ⟨by rw[kr.out];decide,by rw[kr.out]⟩⟩
  have d3:decide (p.no<0)=av:=cI e3;by_cases e4:4096<=p.no
  ·have d4:decide (4096<=p.no)=ah:=bX e4;have kr:=aj.mk (kbad2.out (by rw[cI (ag:¬p.no<4096)];simp));clear e1 e2 e3 e4;refine bM @ny @iP ?_;exact⟨_,_,rfl,kBp.out.ext,.inl ⟨by rw[kr.out];decide,by rw[kr.out]⟩⟩
  have d4:decide (4096<=p.no)=av:=cI e4;cases e5:bE p.d with
  |false=>have kr:=aj.mk (kbad2.out (by rw[e5];simp));rw[e5] at v1;clear e1 e2 e3 e4 e5;refine bM @ny @iP ?_;exact⟨_,_,rfl,kBp.out.ext,.inl ⟨by rw[kr.out];decide,by rw[kr.out]⟩⟩
  |true=>
  rw[e5] at v1;cases e6:bE p.e with
  |false=>have kr:=aj.mk (kbad2.out (by rw[e6];simp));rw[e6] at v2;clear e1 e2 e3 e4 e5 e6;refine bM @ny @iP ?_;exact⟨_,_,rfl,kBp.out.ext,.inl ⟨by rw[kr.out];decide,by rw[kr.out]⟩⟩
  |true=>
  rw[e6] at v2;have NV:=CK e5;have hr6:=CK e6;have kP2:aj (fm p.az (l.drop (i+1))=fm (-1) l):=⟨by rw[<-kpf.out,bX (ag:cE<p.az),bX (ag:p.az<64),bX (ag:0<=p.no),bX (ag:p.no<4096),e5,e6];rfl⟩;obtain⟨r,ie,lr⟩:=akN p (by intro x hx;simp only[gO,tT,or_false] at hx;rcases hx with rfl|rfl|rfl|rfl<;>omega);have FF:(jR (l.take i)).length=i:=by unfold jR;rw[bu,eP];omega
  have ap:=tY (x:=p.az) (es:=jR (l.take i)) ag ksz.out kBp.out.can;have bl:=po p.az;have UX:jR (l.take i)++[p.az]=jR (l.take (i+1)):=by unfold jR;rw[ktake.out,lU];rfl
  rw[UX] at ap;have kBa:=aj.mk kBp.out.app;have oT:((l.take i).map Pr.val).length=i:=by rw[bu,eP];omega
  obtain⟨H2,cs,t1,t2,t3,t4,t5⟩:=kBa.out.next ag ie;have len94:=kBa.out.la.ej;have lw:aI al Gt ((H.push (bF p)).app t) 94 (.ptr (.box c) 10)=aa cur:=dg RT kBa.out.work rfl;have bxx:((H.push (bF p)).app t).boxes[H.boxes.length]?=aa (bF p):=by rw[eu];exact a9 _ _
  have q0':aI al Gt ((H.push (bF p)).app t) 3 (.ptr (.box H.boxes.length) 0)=aa (.v (.int .i64 p.az)):=dg eM bxx rfl;have q1':aI al Gt ((H.push (bF p)).app t) 3 (.ptr (.box H.boxes.length) 1)=aa (.v (.int .i64 p.no)):=dg eM bxx rfl;have q2':aI al Gt ((H.push (bF p)).app t) 3 (.ptr (.box H.boxes.length) 2)=aa (.v (.int .i64 p.d)):=dg eM bxx rfl;have q3':aI al Gt ((H.push (bF p)).app t) 3 (.ptr (.box H.boxes.length) 3)=aa (.v (.int .i64 p.e)):=dg eM bxx rfl;have VG:(l.take i).map Pr.val++[p.val]=(l.take (i+1)).map Pr.val:=by rw[ktake.out,lU];rfl
  rw[VG] at t5;have kB2:=aj.mk t5;have bH:((H.push (bF p)).app t).boxes.length≠c:=by have:=kBa.out.Mf;omega
  rw[oT] at t1 t2 t3 t4 kB2 len94;have knext: -1<=p.az:=by omega
  clear e1 e2 e3 e4 e5 e6 NV hr6 t5 VG bxx UX ie FF oT kBp kBa kbad2 kpf kP kD;refine bM @ny @iP ?_;refine apd 23 ku au au au ?_ ?_
  ·refine akJ (n:=27) (bi:=((H.push (bF p)).app t).boxes.length) (bn:=c) (x1:=i * 4) (x2:=10) au rfl rfl rfl rfl ?_ ?_ bH<;>(simp only[hJ,fB];exact mP @ny @qh @iP (ar @Tj (ar @Gb (ar @LX (ar @Sj @and_self)))))
  refine bJ @ny @qh @iP (ar @Tj (ar @Gb (ar @LX @Sj))) ?_;exact⟨l.length - (i+1),by omega,i+1,p.az,_,1,_,by omega,rfl,kP2,knext,kB2,⟨.inl rfl⟩,by simp⟩
 have fK:i=l.length:=by omega
 subst fK;rw[fA] at g9 ksz kB;have Ui:fm (-1) l=ah:=by rw[<-kP.out,pc (aJ _)];rfl
 have kPok:=aj.mk Ui;have lk:aI al Gt H 25 (.ptr (.box kb) 1)=aa (.agg [X,Y]):=by rw[ja wT (by kernel_rfl:dm al 25=aa 2) kB.out.key (lW rfl)];rfl
 have VL:IL (.list t sz (ints (jR l))) (jR l):=⟨t,sz,rfl,λq=>by
  rcases ksz.out with z|⟨z,-⟩
  ·exact z
  ·exact absurd z q⟩
 have ahH:(jR l).length<=64:=by unfold jR;rw[bu];exact IV
 have agX:(∃e,fZ ae owners (jR l)=([],av,e)/\∀h,W5.call 76 [.agg [X,Y],.list t sz (ints (jR l))] h=aa (.ret (.tuple [.list .nil 0 [],.v (.bool av),.v (.int .i64 e)]),h))∨∃y,fZ ae owners (jR l)=(y,ah,0)/\y.length=ae.length/\∀h,W5.call 76 [.agg [X,Y],.list t sz (ints (jR l))] h=aa (.ret (.tuple [.list .held 1 (ints y),.v (.bool ah),.v (.int .i64 0)]),h):=by obtain⟨k0,s0,xs,Um,-⟩:=kf.out.1.form;have:=abC k0 s0 xs Y (.list t sz (ints (jR l))) ae owners (jR l) (by rw[<-Um];exact kf.out.1) kf.out.2.1 VL ag;rw[<-Um] at this;exact this
 clear Ui VL ahH aA kP kD hi;rcases agX with⟨e0,a1,ca⟩|⟨y,a1,a2,ca⟩
 ·have kr:aj (res=420):=⟨by rw[kgood.out kPok.out _ _ _ a1,aF (.inr (.inl rfl))]⟩;clear a1;by_cases h9:e0=0
  ·subst h9;refine bM @ny @gd ?_;exact⟨_,_,rfl,kB.out.ext,.inl ⟨by rw[kr.out];decide,by rw[kr.out]⟩⟩
  ·have d9:decide (e0=0)=av:=cI h9;refine bM @ny @gd ?_;exact⟨_,_,rfl,kB.out.ext,.inl ⟨by rw[kr.out];decide,by rw[kr.out]⟩⟩
 by_cases h9:l.length=0
 ·have kr:aj (res=420):=⟨by rw[kgood.out kPok.out _ _ _ a1,aF (.inr (.inr h9))]⟩;have d9:decide ((l.length:Int)=0)=ah:=bX ag;clear a1 h9;refine bM @ny @gd ?_;exact⟨_,_,rfl,kB.out.ext,.inl ⟨by rw[kr.out];decide,by rw[kr.out]⟩⟩
 have d9:decide ((l.length:Int)=0)=av:=cI ag;have kr:aj (res=0):=⟨by rw[kgood.out kPok.out _ _ _ a1,aG (by simp;intro q;rw[q] at h9;exact h9 rfl)]⟩;have kWt:=aj.mk (kW.out _ _ _ a1);obtain⟨m1,m2⟩:=kcom.out;have mpos:=(ud kprog.out).1;have AR:bE (ai ao 0)=ah:=by rw[dU] at m2;exact m2 _ (by rw[fI ag];exact iD _)
 have ahi:=CK AR;have pI:=kB.out.lo;have ahT:=kB.out.lt;have s1:=aq4 (x:=.list .held 1 (ints y)) kB.out.work rfl;obtain⟨b,vr,ahq,jM,fk,xm,hb4⟩:∃(b:Nat) (vr:List (List AV)),cur=.arr b 0 vr.length vr.length/\H.boxes[b]?=aa vr.flatten/\ng (l.map Pr.val) vr/\b≠c/\c+1<=b:=by
  rcases kB.out.la with⟨q,-⟩|⟨-,q⟩
  ·exfalso;rw[EG] at q;rw[q] at h9;exact h9 rfl
  ·exact q
 subst ahq;have MU:=kB.out.Mf;have W1:tW (H.put c (gN ep X Y C T L (.list .held 1 (ints y)) (.arr b 0 vr.length vr.length) 0 0)) c ep X Y C T L (.list .held 1 (ints y)) 0 0 ao text l:=
  ⟨⟨b,vr,ev MU,by rw[cS xm];exact jM,fk⟩,kf.out.2.2.1,by omega,⟨ag,by omega⟩,kf.out.2.2.2.1,ktl.out,IV⟩
 have E1:Ext h (H.put c (gN ep X Y C T L (.list .held 1 (ints y)) (.arr b 0 vr.length vr.length) 0 0)):=kB.out.ext.fO ag _;obtain⟨_,Hp,cp,xp,rfl⟩:=alG 70 [.ptr (.box c) 0] [] (jC (ai ao 0) text l) _ L l kf.out.2.2.2.2 ag (λq hq=>DL (xW kPok.out q hq).2.2.2.2.1 (xW kPok.out q hq).2.2.2.2.2) (λq hq H' hX=>by have hm:=xW kPok.out q hq;obtain⟨_,H2,n1,n2,rfl⟩:=Wy H' c ep X Y C T L (.list .held 1 (ints y)) 0 0 ao text l (W1.mono hX) q ⟨ag,by omega⟩ hm.2.2.2.2.1 hm.2.2.2.2.2;exact⟨H2,n1,n2⟩);have Bg:l.foldl (λx q=>x * jC (ai ao 0) text l q%P) 1=fN (ai ao 0) text l:=rfl;rw[Bg] at cp;have FX:=CK (rZ (Xi (c0:=ai ao 0) (text:=text) kPok.out));have E2:=E1.trans xp;have W2:=W1.mono xp;obtain⟨b',vr',w1,w2,w3⟩:=W2.dT;have MQ:b'≠c:=by intro q;have z1:Hp.boxes[c]?=aa (gN ep X Y C T L (.list .held 1 (ints y)) (.arr b 0 vr.length vr.length) 0 0):=xp.box _ _ (ev MU);rw[z1] at w1;unfold gN at w1;injection w1 with w1;simp only[List.cons.injEq,AV.arr.injEq,true_and,and_true] at w1;omega
 have s2:=aq7 (n:=((fN (ai ao 0) text l:Nat):Int)) w1;have Uy:=(aP.1 w1).1;obtain⟨kt,st,Uk,bZ⟩:=kf.out.2.2.2.1;obtain⟨H5,MM⟩:∃H5,Hp.put c (gN ep X Y C T L (.list .held 1 (ints y)) (.arr b' 0 vr'.length vr'.length) ((fN (ai ao 0) text l:Nat):Int) 0)=H5:=⟨_,rfl⟩;have w5:H5.boxes[c]?=aa (gN ep X Y C T L (.list .held 1 (ints y)) (.arr b' 0 vr'.length vr'.length) ((fN (ai ao 0) text l:Nat):Int) 0):=by rw[<-MM];exact ev Uy
 have E5:Ext h H5:=by rw[<-MM];exact E2.fO ag _
 have v5:H5.boxes[b']?=aa vr'.flatten:=by rw[<-MM,cS MQ];exact w2
 have sl:=Qb ((fN (ai ao 0) text l:Nat):Int) (ai ao 0) text;have hh:=Up H5 wk .tight 1 [.iface 3 (.v (.int .i64 ((fN (ai ao 0) text l:Nat):Int))),.iface 3 (.v (.int .i64 (ai ao 0))),.iface 28 (.list kt st (aW text))] [.int ((fN (ai ao 0) text l:Nat):Int),.int (ai ao 0),.text text]
  (.cons (.int _ ⟨ag,by omega⟩) (.cons (.int _ ⟨ag,by omega⟩) (.cons (.text kt st text bZ (by have:=ktl.out;omega)) .nil))) (λ_=>rfl) bh aK (by simp[fT,gF]) (by have:=ktl.out;omega)
 have uq:si wk (.list [.int ((fN (ai ao 0) text l:Nat):Int),.int (ai ao 0),.text text])=eQ (ai ao 0) text l:=rfl;rw[uq,<-Uk,show wk=[115,105,103,110] from rfl] at hh;simp only[eo,List.map_nil] at hh;have lp:aI al Gt H5 3 (.ptr (.box c) 11)=aa (.v (.int .i64 ((fN (ai ao 0) text l:Nat):Int))):=dg eM w5 rfl;have lC:aI al Gt H5 23 (.ptr (.box c) 3)=aa C:=dg oI w5 rfl;obtain⟨kc,sc,hCe,tB⟩:=kf.out.2.2.1;have ixC:=kf.out.2.2.1.ix (i:=0) ag;have lC0:=e7 (H:=H5) (l:=ao) (i:=0) (s:=1) ag;have s3:=aq6 (n:=((eQ (ai ao 0) text l:Nat):Int)) w5;have fV:aj (Ext h (H5.put c (gN ep X Y C T L (.list .held 1 (ints y)) (.arr b' 0 vr'.length vr'.length) ((fN (ai ao 0) text l:Nat):Int) ((eQ (ai ao 0) text l:Nat):Int)))/\tW (H5.put c (gN ep X Y C T L (.list .held 1 (ints y)) (.arr b' 0 vr'.length vr'.length) ((fN (ai ao 0) text l:Nat):Int) ((eQ (ai ao 0) text l:Nat):Int))) c ep X Y C T L (.list .held 1 (ints y)) ((fN (ai ao 0) text l:Nat):Int) ((eQ (ai ao 0) text l:Nat):Int) ao text l):=
  ⟨E5.fO ag _,⟨⟨b',vr',ev (aP.1 w5).1,by rw[cS MQ];exact v5,w3⟩,kf.out.2.2.1,by omega,⟨ag,by omega⟩,kf.out.2.2.2.1,ktl.out,IV⟩⟩
 have kyw:aj (IL (.list .held 1 (ints y)) (eF ae owners l)):=⟨by rw[kWt.out];exact⟨_,_,rfl,λ_=>rfl⟩⟩;have ix0:dy al 23 C (.v (.int .i64 0))=aa (.elem 1 (ints ao) 0 0):=ixC;clear W1 W2 E1 E2 E5 w1 w2 w3 v5 sl uq Bg xp jM fk xm hb4 MU Uy MQ AR ahi FX mpos m1 m2 pI ahT Uk bZ hCe tB h9 a1 a2 ixC w5;generalize ((fN (ai ao 0) text l:Nat):Int)=ptv at *
 generalize ((eQ (ai ao 0) text l:Nat):Int)=chv at *
 generalize ai ao 0=c0 at *
 unfold im at *
 refine bJ @ny @gd @qh @List.cons_append.{0} ?_;refine ey ku au ?_;refine bJ @ny @jk @qh (ar @Gb (ar @Og @Sm)) ?_;exact⟨_,_,rfl,fV.out.1,.inr ⟨kr.out,_,_,rfl,kyw.out,fV.out.2⟩⟩
def GJ:Tryz.f17.results.toList=[.tmp 6,.tmp 7,.tmp 8,.tmp 9]:=au
def PS:Tryz.f54.results.toList=[.cell 6 85,.tmp 7]:=au
def aon:Tryz.f125.results.toList=[.tmp 3]:=au
def XU:Tryz.f127.results.toList=[.tmp 2]:=au
def oK(c0:Int)(text:List UInt8)(l:List Pr):List Int:=l.map λp=>((eC c0 text l p.az:Nat):Int)
def E7{ae}{owners ao}{ep}{text}{l}(h:du ae owners ep ao text l=0):
 cR ae owners=0/\ao.length=bU ae/\ao.all bE=ah/\l.length<=64/\text.length<=65536/\fm (-1) l=ah:=by
 unfold du at h;split at h
 ·rename_i q;exact absurd h q
 ·rename_i q1;split at h
  ·simp at h
  ·rename_i q2;split at h
   ·simp at h
   ·rename_i q3;split at h
    ·simp at h
    ·rename_i q4;split at h
     ·simp at h
     ·rename_i q5;have q2':=(ZW _).mp q2;rw[ZV] at q2';simp only[bC,decide_eq_true_eq] at q2';have q5':=(ZW _).mp q5;rw[ZV] at q5';exact⟨Hz.1 q1,q2'.1.2,q2'.2,by omega,by omega,q5'⟩
def acT(h:ak)(bA:cA h=ah)(ep:Int)(X Y C T L:AV)(ae:List (List Int))(owners ao:List Int)(text:List UInt8)(l:List Pr)
 (hx:RL X ae) (hy:IL Y owners) (hc:IL C ao) (ht:BL T text) (hp:PL L l) (dC:ao.length<=1000000) (eR:l.length<=1000000):
 ∃r h',W5.call 17 [.agg (aV ep X Y C),T,L] h=aa (r,h')/\
  ((du ae owners ep ao text l≠0/\r=.ret (.tuple [.list .nil 0 [],.v (.int .i64 0),.v (.int .i64 0),.v (.int .i64 (du ae owners ep ao text l))]))∨
  (du ae owners ep ao text l=0/\∃Z,r=.ret (.tuple [Z,.v (.int .i64 ((fN (ai ao 0) text l:Nat):Int)),.v (.int .i64 ((eQ (ai ao 0) text l:Nat):Int)),.v (.int .i64 0)])/\IL Z (oK (ai ao 0) text l))):=by
 have bx:=vS (ep:=ep) hx hy hc;obtain⟨r1,h1,c1,x1,post⟩:=LO (h.push (aV ep X Y C)) bA ep X Y C T L ae owners ao text l hx hy hc ht hp dC eR;have b0:=a9 h (aV ep X Y C);have l0:aI al Gt (h.push (aV ep X Y C)) 27 (.ptr (.box h.boxes.length) 0)=aa (.agg (aV ep X Y C)):=by rw[ja au (by kernel_rfl:dm al 27=aa 4) b0 (lW rfl)];rfl
 have kp:=aj.mk hp;have ko:=aj.mk (x1.ok bA);have kbo:=aj.mk (λq=>@E7 ae owners ao ep text l q);have ln2:=hp.ej;clear hx hy hc ht hp b0 x1;generalize du ae owners ep ao text l=res at *
 refine df rfl Tryz.func17 rfl ?_;rcases post with⟨q,rfl⟩|⟨q,c,Wt,rfl,-,w⟩
 ·have kr:=aj.mk q;refine bM @GJ @bL ?_;exact⟨_,_,rfl,.inl ⟨kr.out,rfl⟩⟩
 obtain⟨-,-,-,-,-,p6⟩:=kbo.out q;have kP:=aj.mk p6;have kW:=aj.mk w;have kr:=aj.mk q;have IV:=w.ll;obtain⟨b,vr,w1,-⟩:=w.dT;clear p6 w;subst q;refine bM @GJ @bL ?_;refine bG.gen λe0 aD bI cT cJ=>?_;have f6:e0.get 6=.list .nil 0 []:=by rw[aD];exact gS
 have f10:e0.get 10=.ptr (.box c) 0:=by rw[aD];exact gS
 have f23:e0.get 23=L:=by rw[aD];exact gS
 have f24:e0.get 24=.v (.int .i64 (l.length:Nat)):=by rw[aD];exact gS
 have f25:e0.get 25=.v (.int .i64 (0:Nat)):=by rw[aD];exact gR
 have fd:e0.defers=[]:=by rw[bI];exact gS
 clear aD bI cT cJ c1 l0 w1;have kbl:aj ((oK (ai ao 0) text l).length=l.length):=⟨by unfold oK;simp⟩;refine cq (λm e H=>∃(i:Nat) (t:Tok) (sz:Nat),i<=l.length/\m=l.length - i/\aj (Gr h1 H t)/\aj (sz=1∨((oK (ai ao 0) text l).take i=[]/\t=.nil))/\e.get 6=.list t sz (ints ((oK (ai ao 0) text l).take i))/\e.get 10=.ptr (.box c) 0/\e.get 23=L/\e.get 24=.v (.int .i64 (l.length:Nat))/\e.get 25=.v (.int .i64 (i:Nat))/\e.defers=[]) ?_ l.length _ _ ?_;rotate_left 1
 ·exact⟨0,.nil,0,cr _,rfl,⟨Gr.nil (.refl _) ko.out⟩,⟨.inr ⟨rfl,rfl⟩⟩,f6,f10,f23,f24,f25,fd⟩
 clear f6 f10 f23 f24 f25 fd;rintro m e H ⟨i,t,sz,hi,rfl,kG,ksz,g6,g10,g23,g24,g25,hd⟩;by_cases aA:i<l.length
 ·obtain⟨p,xw⟩:∃p,l[i]?=aa p:=⟨_,aO aA⟩;have hm:=xW kP.out p (de xw);have ix:=kp.out.ix aA;have ld:=DD (H:=H) (s:=4) xw;have st:=wB (H:=H) p;have zc:=zJ;have l2:=vU (a9 H (bF p));obtain⟨_,H2,cb,rfl,rfl⟩:=LS (H.push (bF p)) c ep X Y C T L Wt _ _ ao text l ((kW.out.mono kG.out.1).mono (.push _ _)) p ⟨ag,by omega⟩;have hv:(oK (ai ao 0) text l)[i]?=aa ((eC (ai ao 0) text l p.az:Nat):Int):=by unfold oK;rw[dW,xw];rfl
  have kG2:=(kG.out.push (bF p)).push (bF p);have ap:=tY (x:=((eC (ai ao 0) text l p.az:Nat):Int)) (es:=(oK (ai ao 0) text l).take i) (by rw[eP];omega) ksz.out kG2.2.2;rw[<-fH hv] at ap;have kG3:=aj.mk kG2.app;have bl:=po ((eC (ai ao 0) text l p.az:Nat):Int);have fL:(i:Int)<(l.length:Int):=by omega
  clear hv hm xw kG2;generalize ((eC (ai ao 0) text l p.az:Nat):Int)=bn at *
  unfold im at *
  refine br @GJ ?_;exact⟨l.length - (i+1),by omega,i+1,_,1,by omega,rfl,kG3,⟨.inl rfl⟩,by simp⟩
 ·have fK:i=l.length:=by omega
  subst fK;rw[List.take_of_length_le (by rw[kbl.out];exact aJ _)] at g6 ksz;obtain⟨b2,vr2,w2,-⟩:=(kW.out.mono kG.out.1).dT;have lp:aI al Gt H 3 (.ptr (.box c) 11)=aa (.v (.int .i64 ((fN (ai ao 0) text l:Nat):Int))):=dg eM w2 rfl;have lc:aI al Gt H 3 (.ptr (.box c) 12)=aa (.v (.int .i64 ((eQ (ai ao 0) text l:Nat):Int))):=dg eM w2 rfl;clear w2;generalize ((fN (ai ao 0) text l:Nat):Int)=ptv at *
  generalize ((eQ (ai ao 0) text l:Nat):Int)=chv at *
  refine br @GJ ?_;refine ey ku au ?_;refine bM @GJ @qh ?_;refine⟨_,_,rfl,.inr ⟨aQ,_,rfl,t,sz,rfl,λq=>?_⟩⟩;rcases ksz.out with z|⟨z,-⟩
  ·exact z
  ·exact absurd z q
def Jz(n):(AV.v (.int .i64 n)).b8=aa [.v (.int .i64 n)]:=rfl
def alI(r)(o):(AV.ptr r o).b8=aa [.ptr r o]:=rfl
def akc(n)(h):W5.call 127 [im n] h=aa (.ret (.v (.bool (pR n))),h):=by
 unfold im pR;by_cases h0:n<0
 ·refine cC rfl abc rfl ?_;have:decide (n<0)=ah:=by simp[h0]
  exact jL @XU @Bool.true_or
 ·refine cC rfl abc rfl ?_;have:decide (n<0)=av:=by simp[h0]
  exact jL @XU @Bool.false_or
def aiE(H)(b)(k)(hb:H.boxes[b]?=aa [.v (.int .i64 k)])(q):∃H',W5.call 125 [.agg (bF q),.ptr (.box b) 0] H=aa (.ret (.v (.bool (decide (q.az=k)))),H')/\Ext H H':=by have bc:(AV.agg (bF q)).b8=aa (bF q):=rfl;have l0:aI al Gt (H.push (bF q)) 3 (.ptr (.box H.boxes.length) 0)=aa (.v (.int .i64 q.az)):=dg eM (a9 _ _) rfl;have l1:aI al Gt (H.push (bF q)) 3 (.ptr (.box b) 0)=aa (.v (.int .i64 k)):=dg eM (bg hb) rfl;refine gP rfl Tryz.func125 rfl ?_;clear hb;refine cY @aon @bL @iP ?_;exact⟨_,rfl,.push _ _⟩
def Tp(h:ak)(c:Nat)(cs:List AV)(L:AV)(l:List Pr)(az:Int)(ns:List Int)(N:AV)(hb:h.boxes[c]?=aa cs)(bW:cs[5]?=aa L)(hp:PL L l)(hl:l.length<=1000000)(hN:IL N ns)(pM:ns.length<=1000):
 ∃r h',W5.call 54 [.ptr (.box c) 0,.v (.int .i64 az),N] h=aa (r,h')/\Ext h h'/\
  (((oV l az=aq∨ns.all da=av)/\r=.ret (.tuple [.agg (bF ⟨0,0,0,0⟩),.v (.int .i64 1)]))∨∃q,oV l az=aa q/\ns.all da=ah/\r=.ret (.tuple [.agg (bF q),.v (.int .i64 0)])):=by
 have zc:=zJ;have H0:((h.push [.v (.int .i64 az)]).push (bF ⟨0,0,0,0⟩)).boxes[h.boxes.length]?=aa [.v (.int .i64 az)]:=bg (a9 _ _);have H1:((h.push [.v (.int .i64 az)]).push (bF ⟨0,0,0,0⟩)).boxes[c]?=aa cs:=bg (bg hb);have H2:=a9 (h.push [.v (.int .i64 az)]) (bF ⟨0,0,0,0⟩);obtain⟨_,h3,c1,x1,post⟩:=aip 125 [.ptr (.box h.boxes.length) 0] (λp=>decide (p.az=az)) ((h.push [.v (.int .i64 az)]).push (bF ⟨0,0,0,0⟩)) L l hp hl (λq _ H hX=>aiE H h.boxes.length az (hX.box _ _ H0) q);have l0:aI al Gt ((h.push [.v (.int .i64 az)]).push (bF ⟨0,0,0,0⟩)) 29 (.ptr (.box c) 5)=aa L:=dg RR H1 bW;have l1:aI al Gt h3 29 (.ptr (.box c) 5)=aa L:=dg RR (x1.box _ _ H1) bW;have g2:=x1.box _ _ H2;have l2:=vU g2;have st0:ct al h3 85 (.ptr (.box (h.push [.v (.int .i64 az)]).boxes.length) 0) (.agg (bF ⟨0,0,0,0⟩))=aa h3:=by rw[gL (off:=0) (xs:=bF ⟨0,0,0,0⟩) rfl sU g2 rfl (aJ 4),wx rfl,rL g2]
 have cc:=Ih (pr:=DU) rfl rfl 127 [] pR h3 N ns hN ag (λn _=>akc n _);have lH:=RW ns;have X3:=aj.mk (((Ext.push h [.v (.int .i64 az)]).trans (Ext.push _ (bF ⟨0,0,0,0⟩))).trans x1);have C4:=(aP.1 g2).1;have stq:∀q:Pr,ct al h3 85 (.ptr (.box (h.push [.v (.int .i64 az)]).boxes.length) 0) (.agg (bF q))=aa (h3.put (h.push [.v (.int .i64 az)]).boxes.length (bF q))/\aI al Gt (h3.put (h.push [.v (.int .i64 az)]).boxes.length (bF q)) 85 (.ptr (.box (h.push [.v (.int .i64 az)]).boxes.length) 0)=aa (.agg (bF q)):=λq=>by refine⟨?_,vU (ev C4)⟩;rw[gL (off:=0) (xs:=bF q) rfl sU g2 rfl (aJ 4)];rfl
 have XQ:∀q:Pr,Ext h (h3.put (h.push [.v (.int .i64 az)]).boxes.length (bF q)):=λq=>X3.out.fO (by rw[cK];omega) _;have kq:=aj.mk (ar stq XQ);rw[cK] at l2 st0;have kp:=aj.mk hp;unfold oV;clear H0 H1 H2 hb bW g2 x1 hN stq XQ hp C4;refine df rfl Tryz.func54 rfl ?_;unfold im at *
 rcases post with⟨p1,rfl⟩|⟨i,q,rfl,p2,p3⟩
 ·have kn:=aj.mk p1;clear p1 cc;refine bJ @PS @bL @cK (ar @qh @Jz) ?_;exact⟨_,_,rfl,X3.out,.inl ⟨.inl kn.out,rfl⟩⟩
 ·have kn:=aj.mk (ar p2 p3);have cH:=(aP.1 p2).1;have ix:=kp.out.ix cH;have ld:=DD (H:=h3) (s:=4) p2;have atf:decide (((i:Nat):Int)<0)=av:=cI ag;obtain⟨s1,s2⟩:=kq.out.1 q;rw[cK] at s1 s2;have XQq:=kq.out.2 q;rw[cK] at XQq;have kXQ:=aj.mk XQq;clear XQq;clear p2 p3;cases ho:ns.any pR with|true=>rw[ho] at cc lH;have kh:=aj.mk lH;clear ho lH;refine bJ @PS @bL @cK (ar @qh @Jz) ?_;exact⟨_,_,rfl,X3.out,.inl ⟨.inr kh.out.symm,rfl⟩⟩|false=>rw[ho] at cc lH;have kh:=aj.mk lH;clear ho lH;refine bJ @PS @bL @cK (ar @qh @Jz) ?_;exact⟨_,_,rfl,kXQ.out,.inr ⟨q,kn.out.2,kh.out.symm,rfl⟩⟩
def ajA(k)(s)(es):(AV.list k s es).b8=aa [.list k s es]:=rfl
def aoQ:Tryz.f55.results.toList=[.tmp 4]:=au
def GH:Tryz.f128.results.toList=[]:=au
def aoV:Tryz.f72.results.toList=[.tmp 2]:=au
def XY:Tryz.f139.results.toList=[.tmp 4]:=au
def dQ(owners:List Int)(az:Int)(k:Nat):List Nat:=(bO k).filter λi=>decide (ai owners i=az)
def GD{owners}{az}{k}(h:ai owners k=az):dQ owners az (k+1)=dQ owners az k++[k]:=by unfold dQ;rw[ob,Cg,List.filter_cons_of_pos (by simp[h])];rfl
def BA{owners}{az}{k}(h:ai owners k≠az):dQ owners az (k+1)=dQ owners az k:=by unfold dQ;rw[ob,Cg,List.filter_cons_of_neg (by simp[h])];simp
def JU(owners)(az):dQ owners az owners.length=jh owners az:=rfl
def aob(owners)(az)(k):(dQ owners az k).length<=k:=by unfold dQ;exact fe (EF _ _) bh
def XO(h:ak)(c:Nat)(az:Int):W5.call 55 [.ptr (.box c) 0,.v (.int .i64 az)] h=aa (.ret (.func (.func 128) [] [.ptr (.box h.boxes.length) 0,.ptr (.box (h.boxes.length+1)) 0]),(h.push [.ptr (.box c) 0]).push [.v (.int .i64 az)]):=by refine cC rfl Tryz.func55 rfl ?_;exact mP @aoQ @bL @cK (ar @Jz @alI)
def XP(l wb kb c:Nat)(Y:AV)(owners:List Int)(az:Int)(Inv:Nat->ak->Prop)(Stop:ak->Prop)(hy:IL Y owners)(ry:owners.length<=1000000)
 (h1:∀k H,Inv k H->H.boxes[wb]?=aa [.ptr (.box c) 0]/\H.boxes[kb]?=aa [.v (.int .i64 az)]/\∃cs,H.boxes[c]?=aa cs/\cs[2]?=aa Y)
 (hR:∀k H,k<owners.length->ai owners k=az->Inv k H->(∃H',W5.round l [.v (.int .i64 (k:Nat))] H=aa (.ret (.v (.bool ah)),H')/\Inv (k+1) H')∨∃H',W5.round l [.v (.int .i64 (k:Nat))] H=aa (.ret (.v (.bool av)),H')/\Stop H')
 (hS:∀k H,k<owners.length->ai owners k≠az->Inv k H->Inv (k+1) H)
 (H0:ak) (h0:Inv 0 H0):∃H',W5.call 128 [.yield l,.ptr (.box wb) 0,.ptr (.box kb) 0] H0=aa (.ret (.tuple []),H')/\(Inv owners.length H'∨Stop H'):=by
 have kk:=aj.mk (ar h1 (ar hR (ar hS (ar h0 hy))));obtain⟨b1,-,cs,b3,b4⟩:=h1 0 H0 h0;have l1:aI al Gt H0 90 (.ptr (.box wb) 0)=aa (.ptr (.box c) 0):=dg vh b1 rfl;have l2:aI al Gt H0 23 (.ptr (.box c) 2)=aa Y:=dg oI b3 b4;have ln:=hy.ej;clear h1 hR hS h0 hy b1 b3 b4;refine gP rfl Tryz.func128 rfl ?_;refine bJ @GH @qh @gd @afM ?_;refine cq (λm e H=>∃k:Nat,k<=owners.length/\m=owners.length - k/\aj (Inv k H)/\e.get 0=.yield l/\e.get 2=.ptr (.box kb) 0/\e.get 11=Y/\e.get 12=.v (.int .i64 (owners.length:Nat))/\e.get 13=.v (.int .i64 (k:Nat))/\e.defers=[]) ?_ owners.length _ _ ?_;rotate_left 1
 ·refine⟨0,cr _,rfl,⟨kk.out.2.2.2.1⟩,?_,?_,?_,?_,?_,?_⟩<;>exact gR
 clear l1 l2;rintro m e H ⟨k,hk,rfl,kI,g0,g2,g11,g12,g13,hd⟩;by_cases aA:k<owners.length;rotate_left 1
 ·have:k=owners.length:=by omega
  subst this;refine br @GH ?_;exact⟨_,rfl,.inl kI.out⟩
 obtain⟨-,b2,-⟩:=kk.out.1 k H kI.out;have ix:=kk.out.2.2.2.2.ix aA;have ld:=e7 (H:=H) (l:=owners) (i:=k) (s:=1) aA;have lk:aI al Gt H 3 (.ptr (.box kb) 0)=aa (.v (.int .i64 az)):=dg eM b2 rfl;have fL:(k:Int)<(owners.length:Int):=by omega
 clear b2;by_cases hc:ai owners k=az
 ·have dq:decide (ai owners k=az)=ah:=bX hc;rcases kk.out.2.1 k H aA hc kI.out with⟨H',r1,r2⟩|⟨H',r1,r2⟩
  ·have kI2:=aj.mk r2;clear r2 hc kI;generalize ai owners k=ow at *
   refine bM @GH @Aq ?_;exact⟨owners.length - (k+1),by omega,k+1,by omega,rfl,kI2,by simp⟩
  ·have kI2:=aj.mk r2;clear r2 hc kI;generalize ai owners k=ow at *
   refine bM @GH @Aq ?_;exact⟨_,rfl,.inr kI2.out⟩
 ·have dq:decide (ai owners k=az)=av:=cI hc;have kI2:=aj.mk (kk.out.2.2.1 k H aA hc kI.out);clear hc kI;generalize ai owners k=ow at *
  refine bM @GH @Aq ?_;exact⟨owners.length - (k+1),by omega,k+1,by omega,rfl,kI2,by simp⟩
def Eo(h h1:ak)(b2:Nat)(LP:List ij)(owners:List Int)(az:Int)(k:Nat)(H:ak):Prop:=
 ∃t s,H.loops=LP/\H.boxes[b2]?=aa [.list t s (ints (b7 (dQ owners az k)))]/\(s=1∨(dQ owners az k=[]/\t=.nil))/\dj h.tn H t/\cA H=ah/\Ext h H/\∀(a:Nat) (cs:List AV),h1.boxes[a]?=aa cs->a≠b2->H.boxes[a]?=aa cs
def ab3(h:ak)(bA:cA h=ah)(c wb kb:Nat)(Y:AV)(owners:List Int)(az:Int)(cs:List AV)(hy:IL Y owners)(ry:owners.length<=1000000)(b1:h.boxes[wb]?=aa [.ptr (.box c) 0])(b2:h.boxes[kb]?=aa [.v (.int .i64 az)])(b3:h.boxes[c]?=aa cs)(b4:cs[2]?=aa Y):
 ∃r h',W5.call 139 [.list .nil 0 [],.func (.func 128) [] [.ptr (.box wb) 0,.ptr (.box kb) 0]] h=aa (r,h')/\Ext h h'/\∃Z,r=.ret Z/\IL Z (b7 (jh owners az)):=by
 refine df rfl Tryz.func139 rfl ?_;refine cY @XY @bL @ajA ?_;refine bG.gen λe4 iY rk vM tA=>?_;have f2:e4.get 2=.ptr (.box h.boxes.length) 0:=by rw[iY];exact gS
 have f6:e4.get 6=.func (.func 128) [] [.ptr (.box wb) 0,.ptr (.box kb) 0]:=by rw[iY];exact gS
 have fd:e4.defers=[]:=by rw[rk];exact gS
 clear iY rk vM tA;refine D7 (by rw[Ax];exact f6) λrec w1 w2 w3 w4 w5 w6=>?_;have Bj:=(aP.1 b1).1;have zd:=(aP.1 b2).1;have Fx:=(aP.1 b3).1;obtain⟨h1,nN⟩:∃h1,h.push [.list .nil 0 []]=h1:=⟨_,rfl⟩;have g0:h1.boxes[h.boxes.length]?=aa [.list .nil 0 []]:=by rw[<-nN];exact a9 _ _
 have g1:h1.boxes[wb]?=aa [.ptr (.box c) 0]:=by rw[<-nN];exact bg b1
 have g2:h1.boxes[kb]?=aa [.v (.int .i64 az)]:=by rw[<-nN];exact bg b2
 have g3:h1.boxes[c]?=aa cs:=by rw[<-nN];exact bg b3
 have eR:h1.loops.length=h.loops.length:=by rw[<-nN];rfl
 have rv:cA h1=ah:=by rw[<-nN];exact bA
 have X1:Ext h h1:=by rw[<-nN];exact .push _ _
 have iR:(h1.loop rec).loops[h1.loops.length]?=aa rec:=@DI h1 rec;have XL:Ext h (h1.loop rec):=X1.trans ((Fr.Bs (bn:=h1.boxes.length) (l0:=h1.loops.length) (n0:=h1.tn) h1 rec).ext (aJ _) (aJ _) (aJ _));rw[nN];have feed:=XP h1.loops.length wb kb c Y owners az (Eo h h1 h.boxes.length (h1.loop rec).loops owners az) (λ_=>False) hy ry
  (λk H q=>by obtain⟨_,_,-,-,-,-,-,-,q7⟩:=q;exact⟨q7 _ _ g1 ag,q7 _ _ g2 ag,cs,q7 _ _ g3 ag,b4⟩)
  ?_
  (λk H _ hc q=>by
   unfold Eo at *
   rw[BA hc];exact q)
  (h1.loop rec) ⟨.nil,0,rfl,g0,.inr ⟨rfl,rfl⟩,.inl rfl,rv,XL,λa cs ha _=>ha⟩
 rotate_left 1
 ·rintro k H hk hc ⟨t,s,i1,i2,i3,i4,i5,i6,i7⟩;left;have vJ:H.loops[h1.loops.length]?=aa rec:=by rw[i1];exact iR
  refine JR (Post:=Eo h h1 h.boxes.length (h1.loop rec).loops owners az (k+1)) vJ (by rw[w2];rfl) w5 w6 ?_;have r1:∀t,(nx h1.loops.length rec [.v (.int .i64 (k:Nat))]).get t=if 7=t then .v (.int .i64 (k:Nat)) else e4.get t:=λt=>XM w2 w1
  have d1:(nx h1.loops.length rec [.v (.int .i64 (k:Nat))]).defers=[]:=rfl;obtain⟨K,hK⟩:∃K,H.busy h1.loops.length rec=K:=⟨_,rfl⟩;have kb1:K.boxes[h.boxes.length]?=aa [.list t s (ints (b7 (dQ owners az k)))]:=by rw[<-hK];exact i2
  have kc1:dj h.tn K t:=by rw[<-hK];exact i4
  have hlen:(b7 (dQ owners az k)).length<=k:=by unfold b7;rw[bu];exact aob _ _ _
  have ap:=tY (x:=(k:Int)) (es:=b7 (dQ owners az k)) ag (i3.imp_right λq=>⟨by rw[q.1];rfl,q.2⟩) kc1;have bZ:b7 (dQ owners az k)++[(k:Int)]=b7 (dQ owners az (k+1)):=by rw[GD hc];unfold b7;simp
  rw[bZ] at ap;have lA:=uA kb1;have sA:ct al (K.app t) 23 (.ptr (.box h.boxes.length) 0) (.list (.free K.tn) 1 (ints (b7 (dQ owners az (k+1)))))=aa ((K.app t).put h.boxes.length [.list (.free K.tn) 1 (ints (b7 (dQ owners az (k+1))))]):=
   gL (off:=0) (cs:=[.list t s (ints (b7 (dQ owners az k)))]) (xs:=[.list (.free K.tn) 1 (ints (b7 (dQ owners az (k+1))))]) rfl iM (by rw[eu];exact kb1) rfl (aJ 1)
  have bl:=po (k:Int);have gr:=Grown.one i4 i5 i6.tn;have fV:aj (Eo h h1 h.boxes.length (h1.loop rec).loops owners az (k+1) ((H.app t).put h.boxes.length [.list (.free H.tn) 1 (ints (b7 (dQ owners az (k+1))))])):=by
   have oO:=(aP.1 i2).1;refine⟨_,1,?_,?_,.inl rfl,by rw[CB];exact gr.can,gr.ok,(gr.ext i6 (aJ _)).fO (aJ _) _,λa cs ha bH=>?_⟩
   ·show(H.app t).loops=_;rw[yB];exact i1
   ·exact ev (by rw[eu];exact oO)
   ·rw[cS bH,eu];exact i7 a cs ha bH
  clear i1 i2 i3 i4 i5 i6 i7 gr bZ hlen hc kb1 kc1 g0 g1 g2 g3 X1 XL rv eR Bj zd Fx b1 b2 b3 nN;rw[hK];rw[w3,w4];refine xd ?_;refine⟨aQ,aQ,aQ,?_,?_⟩
  ·show(K.app t).loops=_;rw[yB]
  ·rw[<-hK];refine(congrArg (Eo h h1 h.boxes.length (h1.loop rec).loops owners az (k+1)) ?_).mpr fV.out;cases t<;>rfl
 ·obtain⟨Hf,c1,⟨t,s,i1,i2,i3,i4,i5,i6,i7⟩|z⟩:=feed;rotate_left 1
  ·exact z.elim
  refine⟨_,_,c1,rec,by rw[i1];exact iR,by rw[w5];decide,.inl ⟨w6,?_⟩⟩;have q1:(Hf.eW h1.loops.length {rec with state:=.exhausted}).boxes[h.boxes.length]?=aa [.list t s (ints (b7 (dQ owners az owners.length)))]:=i2;have XF:Ext h (Hf.eW h1.loops.length {rec with state:=.exhausted}):=((Fr.DM (bn:=h.boxes.length) (l0:=h.loops.length) (n0:=h.tn) i6 (aJ _)).trans (.eW ag _)).ext (aJ _) (aJ _) (aJ _);generalize Hf.eW h1.loops.length {rec with state:=.exhausted}=HF at *
  have lA:=uA q1;have fV:=aj.mk (ar XF i3);clear q1 XF i1 i2 i3 i4 i5 i6 i7 c1 g0 g1 g2 g3 X1 XL rv eR Bj zd Fx b1 b2 b3 iR w1 w2 w3 w4 w5 w6 nN;refine br @XY ?_;refine⟨_,_,rfl,fV.out.1,_,rfl,t,s,by rw[JU],λq=>?_⟩;rcases fV.out.2 with z|⟨z,-⟩
  ·exact z
  ·exfalso;rw[JU] at z;rw[z] at q;exact q rfl
def aep(h)(bA:cA h=ah)(c wb kb)(Y)(owners)(az)(cs)(hy:IL Y owners)(ry:owners.length<=1000000)(b1:h.boxes[wb]?=aa [.ptr (.box c) 0])(b2:h.boxes[kb]?=aa [.v (.int .i64 az)])(b3:h.boxes[c]?=aa cs)(b4:cs[2]?=aa Y):
 ∃r h',W5.call 72 [.func (.func 128) [] [.ptr (.box wb) 0,.ptr (.box kb) 0]] h=aa (r,h')/\Ext h h'/\∃Z,r=.ret Z/\IL Z (b7 (jh owners az)):=by
 obtain⟨_,h',c1,X,Z,rfl,hZ⟩:=ab3 h bA c wb kb Y owners az cs hy ry b1 b2 b3 b4;have kZ:=aj.mk (ar X hZ);clear X hZ b1 b2 b3 b4 hy;refine df rfl Tryz.func72 rfl ?_;refine br @aoV ?_;exact⟨_,_,rfl,kZ.out.1,_,rfl,kZ.out.2⟩
def Ym:Tryz.f67.results.toList=[.tmp 4]:=au
def GV:Tryz.f22.results.toList=[.tmp 10,.tmp 11]:=au
def ZD:(iN al 90).bind AV.b8=aa [.v (.pointer aq)]:=au
def Qo{H:ak}(c):ct al (H.push [.v (.pointer aq)]) 90 (.ptr (.box H.boxes.length) 0) (.ptr (.box c) 0)=aa (H.push [.ptr (.box c) 0]):=lq rfl au rfl rfl
def uL(ae:List (List Int))(ao W:List Int)(ch:Int)(row:Int):Nat:=bD (mI ao (ae.getD row.toNat [])) (ai W row.toNat * ch)
def Po{ao row}(h:ao.all bE=ah):elem (mI ao row)=ah:=Pn h _ (aJ _)
def alr(x)(a b):bD x (b9 a b)=bD x (a * b):=Gs (by rw[rh,Int.emod_emod_of_dvd _ (Int.dvd_refl _)])
def alJ(H:ak)(kb wb c:Nat)(ep:Int)(X Y C T L Wt:AV)(pt ch:Int)(ae:List (List Int))(owners ao W:List Int)(text:List UInt8)(l:List Pr)
 (hx:RL X ae) (hy:IL Y owners) (hc:IL C ao) (hW:IL Wt W) (dC:ao.length<=1000000) (CX:iX ae owners ao=0) (jQ:W.length=ae.length)
 (k1:H.boxes[kb]?=aa (aV ep X Y C)) (k2:H.boxes[wb]?=aa [.ptr (.box c) 0]) (w:tW H c ep X Y C T L Wt pt ch ao text l) (row:Nat) (dF:row<ae.length):
 ∃H',W5.call 67 [im (row:Nat),.ptr (.box kb) 0,.ptr (.box wb) 0] H=aa (.ret (im (uL ae ao W ch (row:Nat):Nat)),H')/\Ext H H':=by
 obtain⟨_,H2,c1,rfl,x1⟩:=Xq H X Y C ae owners ao hx hy hc dC (row:Nat);obtain⟨p1,p2,p3⟩:=SQ CX;have Vo:sQ ae owners ao (row:Nat)=(((mI ao (ae.getD row []):Nat):Int),0):=by unfold sQ;rw[aG (by simp[CX]),aG (by rw[cI (show ¬((row:Nat):Int)<0 by omega),cI (show ¬(ae.length:Int)<=((row:Nat):Int) by omega)];simp),dL]
 rw[Vo] at c1;have l1:aI al Gt H 25 (.ptr (.box kb) 1)=aa (.agg [X,Y]):=by rw[ja wT (by kernel_rfl:dm al 25=aa 2) k1 (lW rfl)];rfl
 have l2:aI al Gt H 23 (.ptr (.box kb) 3)=aa C:=dg oI k1 rfl;have l3:aI al Gt H2 90 (.ptr (.box wb) 0)=aa (.ptr (.box c) 0):=dg vh (x1.box _ _ k2) rfl;obtain⟨b,vr,w1,-⟩:=(w.mono x1).dT;have l4:aI al Gt H2 23 (.ptr (.box c) 6)=aa Wt:=dg oI w1 rfl;have l5:aI al Gt H2 3 (.ptr (.box c) 12)=aa (.v (.int .i64 ch)):=dg eM w1 rfl;have ix:=hW.ix (i:=row) ag;have l6:=e7 (H:=H2) (l:=W) (i:=row) (s:=1) ag;have c2:=Gi (ai W row) ch;have he:=rZ (Po (row:=ae.getD row []) p3);have c3:=Gv ((mI ao (ae.getD row []):Nat):Int) (b9 (ai W row) ch);rw[tj he,dL,alr] at c3;have sH:uL ae ao W ch (row:Nat)=bD (mI ao (ae.getD row [])) (ai W row * ch):=by unfold uL;rw[dL]
 rw[sH];have kX:=aj.mk x1;clear Vo sH he x1 w w1 k1 k2 hx hy hc hW CX p1 p2 p3;generalize ((bD (mI ao (ae.getD row [])) (ai W row * ch):Nat):Int)=res at *
 generalize b9 (ai W row) ch=m at *
 generalize ((mI ao (ae.getD row []):Nat):Int)=pv at *
 generalize ai W row=wr at *
 unfold im at *
 refine gP rfl Tryz.func67 rfl ?_;refine cY @Ym @gd @jk ?_;refine ey ku au ?_;refine bM @Ym @qh ?_;exact⟨_,rfl,kX.out⟩
def Zx{ae}{owners ao}{ep}{text}{l}(h:du ae owners ep ao text l=0):
 ∃y,fZ ae owners (l.map Pr.az)=(y,ah,0)/\eF ae owners l=y/\y.length=ae.length:=by
 have h0:=h;unfold du at h;rw[aG (by simp[(E7 h0).1])] at h;split at h
 ·simp at h
 ·split at h
  ·simp at h
  ·split at h
   ·simp at h
   ·split at h
    ·simp at h
    ·cases hq:fZ ae owners (l.map Pr.az) with
     |mk y oe=>
      obtain⟨o,e⟩:=oe;rw[hq] at h;simp only at h;split at h
      ·simp at h
      ·rename_i q;simp only[not_or,Hz,Bool.not_eq_false] at q;obtain⟨q1,q2,-⟩:=q;subst q1;subst q2;exact⟨y,rfl,by unfold eF;rw[hq],(yy hq).2.2.1⟩
def qx(ae:List (List Int))(owners:List Int)(ep:Int)(ao:List Int)(text:List UInt8)(l:List Pr)(az z:Int):Bool × Int:=
 if du ae owners ep ao text l≠0 then (av,du ae owners ep ao text l) else yP ae owners ao text l az z
def Ys(c o):eT (.ptr (.box c) o) (.ptr (.box c) o)=ah:=by rw[eT,Kj,aaU,aaU];rfl
def WO{l}{az}{q}(h:oV l az=aa q):q∈l/\q.az=az:=by unfold oV at h;refine⟨List.mem_of_find?_eq_some h,?_⟩;have:=List.find?_some h;simpa using this
def TJ(f:Int->Nat):∀(l:List Nat) (k:Nat),(b7 l).foldl (λx q=>x * f q%P) k=l.foldl (λx i=>x * f ((i:Nat):Int)%P) k
 | [],_=>rfl
 |a::l,k=>TJ f l _
def afW(h:ak)(bA:cA h=ah)(ep:Int)(X Y C T L:AV)(ae:List (List Int))(owners ao:List Int)(text:List UInt8)(l:List Pr)(az z:Int)
 (hx:RL X ae) (hy:IL Y owners) (hc:IL C ao) (ht:BL T text) (hp:PL L l) (dC:ao.length<=1000000) (eR:l.length<=1000000):
 ∃r h',W5.call 22 [.agg (aV ep X Y C),T,L,im az,im z] h=aa (r,h')/\r=.ret (.tuple [.v (.bool (qx ae owners ep ao text l az z).1),im (qx ae owners ep ao text l az z).2]):=by
 have bx:=vS (ep:=ep) hx hy hc;obtain⟨r1,h1,c1,x1,post⟩:=LO (h.push (aV ep X Y C)) bA ep X Y C T L ae owners ao text l hx hy hc ht hp dC eR;have b0:=a9 h (aV ep X Y C);have l0:aI al Gt (h.push (aV ep X Y C)) 27 (.ptr (.box h.boxes.length) 0)=aa (.agg (aV ep X Y C)):=by rw[ja au (by kernel_rfl:dm al 27=aa 4) b0 (lW rfl)];rfl
 have kE1:aj (du ae owners ep ao text l≠0->qx ae owners ep ao text l az z=(av,du ae owners ep ao text l)):=⟨λq=>by unfold qx;rw[aF q]⟩;have kE2:aj (du ae owners ep ao text l=0->qx ae owners ep ao text l az z=yP ae owners ao text l az z):=⟨λq=>by unfold qx;rw[aG (by simp[q])]⟩;have kbo:=aj.mk (λq=>@E7 ae owners ao ep text l q);have kwt:=aj.mk (λq=>@Zx ae owners ao ep text l q);have zc:=ZD;have zp:=zJ;have kf:=aj.mk (ar hx (ar hy (ar hc hp)));have g1:=x1.box _ _ b0;have rv:=x1.ok bA;generalize qx ae owners ep ao text l az z=res at *
 generalize du ae owners ep ao text l=be at *
 clear hx hy hc ht hp b0 x1;refine df rfl Tryz.func22 rfl ?_;rcases post with⟨q,rfl⟩|⟨q,c,Wt,rfl,sg,w⟩
 ·have kr:=aj.mk (kE1.out q);have st:=Qo (H:=h1);have stn:ct al (h1.push [.v (.pointer aq)]) 90 (.ptr (.box h1.boxes.length) 0) (.v (.pointer aq))=aa (h1.push [.v (.pointer aq)]):=lq rfl au rfl rfl;clear kE1 kE2 kbo kwt g1 rv;unfold im at *
  refine bM @GV @bL ?_;exact⟨_,_,rfl,by rw[kr.out]⟩
 obtain⟨p1,p2,p3,p4,p5,p6⟩:=kbo.out q;obtain⟨y,a1,a2,a3⟩:=kwt.out q;have gH:=kE2.out q;subst q;have st:=Qo (H:=h1) c;have g2:(h1.push [.ptr (.box c) 0]).boxes[h.boxes.length]?=aa (aV ep X Y C):=bg g1;have g3:=a9 h1 [AV.ptr (.box c) 0];have w2:=w.mono (.push h1 [.ptr (.box c) 0]);obtain⟨b,vr,w3,-⟩:=w2.dT;obtain⟨_,h4,c2,x4,post⟩:=Tp (h1.push [.ptr (.box c) 0]) c _ L l az [z] (.list .tight 1 [[.v (.int .i64 z)]]) w3 rfl kf.out.2.2.2 eR (Jj z) bh;rw[(bh:[z].all da=da z)] at post;have l1:aI al Gt (h1.push [.ptr (.box c) 0]) 90 (.ptr (.box h1.boxes.length) 0)=aa (.ptr (.box c) 0):=dg vh g3 rfl;have bl:=po z;have fE1:aj (oV l az=aq∨da z=av->yP ae owners ao text l az z=(av,1)):=⟨λq=>by
  unfold yP;cases sG:oV l az with
  |none=>rfl|some x=>
   rcases q with q|q
   ·rw[sG] at q;cases q
   ·simp only[q];rfl⟩
 have fE2:aj (∀x,oV l az=aa x->da z=ah->yP ae owners ao text l az z=(decide (bD Gn z=wD ae owners ao text l x),0)):=⟨λx q1 q2=>by unfold yP;rw[q1];simp only[q2];rfl⟩;clear w3;rcases post with⟨q,rfl⟩|⟨x,q1,q2,rfl⟩
 ·have kr:=aj.mk (gH.trans (fE1.out q));have sq:=wB (H:=h4) ⟨0,0,0,0⟩;clear kE1 kE2 kbo kwt g1 g2 g3 w w2 rv fE1 fE2 gH a1 a2 a3 q p1 p2 p3 p6 x4;unfold im at *
  refine bM @GV @bL ?_;exact⟨_,_,rfl,by rw[kr.out]⟩
 have kr:=aj.mk (gH.trans (fE2.out x q1 q2));obtain⟨dx,tD⟩:=WO q1;have hm:=xW p6 x dx;have U9:=x4.ok (show cA (h1.push [.ptr (.box c) 0])=ah from rv);have sq:=wB (H:=h4) x;obtain⟨h5,y7⟩:∃h5,h4.push (bF x)=h5:=⟨_,rfl⟩;have X5:Ext (h1.push [.ptr (.box c) 0]) h5:=by rw[<-y7];exact x4.trans (.push _ _)
 have Va:cA h5=ah:=by rw[<-y7];exact U9
 have k5:h5.boxes[h.boxes.length]?=aa (aV ep X Y C):=X5.box _ _ g2;have m5:h5.boxes[h1.boxes.length]?=aa [.ptr (.box c) 0]:=X5.box _ _ g3;have W5':=w2.mono X5;have q5:h5.boxes[h4.boxes.length]?=aa (bF x):=by rw[<-y7];exact a9 _ _
 have lp5:=vU q5;have lw5:aI al Gt h5 90 (.ptr (.box h1.boxes.length) 0)=aa (.ptr (.box c) 0):=dg vh m5 rfl;obtain⟨_,h6,c3,x6,rfl⟩:=Wy h5 c ep X Y C T L Wt _ _ ao text l W5' x ⟨ag,by omega⟩ hm.2.2.2.2.1 hm.2.2.2.2.2;have Vb:=x6.ok Va;have m6:=x6.box _ _ m5;have lw6:aI al Gt h6 90 (.ptr (.box h1.boxes.length) 0)=aa (.ptr (.box c) 0):=dg vh m6 rfl;have c4:=XO h6 c az;have W6':=W5'.mono x6;obtain⟨b6,vr6,w6,-⟩:=W6'.dT;have Vc:cA ((h6.push [.ptr (.box c) 0]).push [.v (.int .i64 az)])=ah:=Vb;obtain⟨_,h8,c5,x8,Z,rfl,hZ⟩:=aep ((h6.push [.ptr (.box c) 0]).push [.v (.int .i64 az)]) Vc c h6.boxes.length (h6.boxes.length+1) Y owners az _ kf.out.2.1 (by obtain⟨o1,o2,-⟩:=qy p1;omega)
  (bg (a9 _ _)) (mB (by rw[cK])) (bg (bg w6)) rfl
 have X8:Ext h5 h8:=x6.trans (((Ext.push _ _).trans (.push _ _)).trans x8);have ss:iX ae owners ao=0:=by unfold iX;rw[aG (by simp[p1]),aF (by rw[bX p2,p3];rfl)]
 obtain⟨o1,o2,o3,o4⟩:=qy p1;have cO:∀q∈b7 (jh owners az),∃i:Nat,q=(i:Int)/\i<ae.length:=λq hq=>by unfold b7 at hq;obtain⟨i,hi,rfl⟩:=jo.1 hq;unfold jh at hi;exact⟨i,rfl,by rw[o1];exact fY.1 (tS.1 hi).1⟩
 have sK:(b7 (jh owners az)).length<=1000000:=by unfold b7 jh;rw[bu];exact fe (EF _ _) (by rw[aaA];omega)
 obtain⟨_,h9,c6,x9,rfl⟩:=alH 67 [] [.ptr (.box h.boxes.length) 0,.ptr (.box h1.boxes.length) 0] (uL ae ao (eF ae owners l) ((eQ (ai ao 0) text l:Nat):Int)) h8 Z (b7 (jh owners az)) hZ sK
  (λq hq=>by unfold uL;exact zA (Po p3) _)
  (λq hq H hH=>by obtain⟨i,rfl,hi⟩:=cO q hq;exact alJ H h.boxes.length h1.boxes.length c ep X Y C T L Wt _ _ ae owners ao (eF ae owners l) text l kf.out.1 kf.out.2.1 kf.out.2.2.1 sg dC ss (by rw[a2];exact a3) ((X8.trans hH).box _ _ k5) ((X8.trans hH).box _ _ m5) (W5'.mono (X8.trans hH)) i hi)
 rw[TJ] at c6;have hN:=DL (c0:=ai ao 0) (text:=text) (l:=l) hm.2.2.2.2.1 hm.2.2.2.2.2;have hF:elem ((jh owners az).foldl (λx i=>x * uL ae ao (eF ae owners l) ((eQ (ai ao 0) text l:Nat):Int) ((i:Nat):Int)%P) 1)=ah:=Bx (λi _=>by unfold uL;exact zA (Po p3) _) yK;have c7:=CQ ((jC (ai ao 0) text l x:Nat):Int) (((jh owners az).foldl (λx i=>x * uL ae ao (eF ae owners l) ((eQ (ai ao 0) text l:Nat):Int) ((i:Nat):Int)%P) 1:Nat):Int);have VI:jC (ai ao 0) text l x * ((jh owners az).foldl (λx i=>x * uL ae ao (eF ae owners l) ((eQ (ai ao 0) text l:Nat):Int) ((i:Nat):Int)%P) 1)%P=wD ae owners ao text l x:=by unfold wD uL;rw[tD];simp only[dL]
 rw[MD hN hF,VI] at c7;have c8:=Gv 4 z;have hG:(4:Int).toNat=Gn:=rfl;rw[tj ue,hG] at c8;have hd:decide (bD Gn z=wD ae owners ao text l x)=decide (((bD Gn z:Nat):Int)=((wD ae owners ao text l x:Nat):Int)):=by rw[decide_eq_decide];omega
 rw[hd] at kr;clear kE1 kE2 kbo kwt fE1 fE2 gH a1 a2 a3 p1 p2 p3 p6 x4 X5 rv U9 Va Vb Vc g1 g2 g3 w w2 W5' W6' w6 k5 m5 q5 m6 x6 x8 X8 x9 hZ ss o1 o2 o3 o4 cO sK hN hF VI hG hd hm dx tD q1 q2 sg;generalize ((wD ae owners ao text l x:Nat):Int)=wv at *
 generalize ((bD Gn z:Nat):Int)=pz at *
 generalize ((jC (ai ao 0) text l x:Nat):Int)=nv at *
 generalize (((jh owners az).foldl (λx i=>x * uL ae ao (eF ae owners l) ((eQ (ai ao 0) text l:Nat):Int) ((i:Nat):Int)%P) 1:Nat):Int)=fv at *
 unfold im at *
 refine bM @GV @bL ?_;refine mW [(2,3)] ku au (λp hp=>?_) ?_
 ·simp only[mo] at hp;subst hp;refine qH (x:=.ptr (.box h1.boxes.length) 0) (v:=.ptr (.box c) 0) au rfl rfl rfl au (Ys c 0) ?_ ?_<;>(simp only[hJ,fB];exact jL @GV @and_self)
 refine br @GV ?_;exact⟨_,_,rfl,by rw[kr.out]⟩
end Go.Proofs.YtnfciiiohoafaaaGreatDoor
end
section
namespace Go.AE
section
variable {P:Program} {G:Nat->Option (List AV)} {R:Rec}
def YT{ops:Array Oper}{e:Env}{h:ak}{i j:Nat}{o:Oper}{t:TypeId}{a:Operand}(tq:oJ ops i j=ah)(ho:ops[j]?=aa o)(bK:o.op=.load t a)
 (hj:(ops[i]?).map (λo=>jj o.op)=aa .acts) {x v:AV} (hv:eT v v=ah)
 (h1:cB P G R ops (ops.toList.take j) e h (λq er hr=>q=.normal/\eY ops er o=aa ah/\er.eval a=x/\aI P G hr t x=aa v))
 (h2:cB P G R ops (ops.toList.take i) e h (λq _ hm=>q=.normal/\aI P G hm t x=aa v)):lj P G R ops e h i j=ah:=by
 have hi:i<ops.size:=by
  rcases dI i ops.size with hh|hh
  ·exact hh
  ·rw[wF hh] at hj;cases hj
 have Nn:j<ops.size:=by
  rcases dI j ops.size with hh|hh
  ·exact hh
  ·rw[wF hh] at ho;cases ho
 have hc:(ops[j]?).map (λo=>jj o.op)=aa .reads:=by rw[ho];simp only[eJ,bK];rfl
 unfold lj;rw[tq,hc,hj];simp only[rP];unfold oX;rw[ho,rH ag,rH ag];obtain⟨q1,er,hr,e1,rfl,e0,e2,e3⟩:=h1;obtain⟨q2,em,hm,f1,rfl,f2⟩:=h2;rw[e1,f1];simp only[e0,bK,e2,e3,f2,hv]
def aqD{ops:Array Oper}{e:Env}{h:ak}{i j:Nat}{o:Oper}{t:TypeId}{a:Operand}(tq:oJ ops i j=ah)(ho:ops[j]?=aa o)(bK:o.op=.load t a)
 (hj:(ops[i]?).map (λo=>jj o.op)=aa .acts)
 (h1:cB P G R ops (ops.toList.take j) e h (λq er hr=>q=.normal/\eY ops er o=aa av))
 (h2:cB P G R ops (ops.toList.take i) e h (λq _ hm=>q=.normal)):lj P G R ops e h i j=ah:=by
 have hi:i<ops.size:=by
  rcases dI i ops.size with hh|hh
  ·exact hh
  ·rw[wF hh] at hj;cases hj
 have Nn:j<ops.size:=by
  rcases dI j ops.size with hh|hh
  ·exact hh
  ·rw[wF hh] at ho;cases ho
 have hc:(ops[j]?).map (λo=>jj o.op)=aa .reads:=by rw[ho];simp only[eJ,bK];rfl
 unfold lj;rw[tq,hc,hj];simp only[rP];unfold oX;rw[ho,rH ag,rH ag];obtain⟨q1,er,hr,e1,rfl,e0⟩:=h1;obtain⟨q2,em,hm,f1,rfl⟩:=h2;rw[e1,f1];simp only[e0]
end
end Go.AE
end
section
namespace Go.Proofs.YtnfciiiohoafaaaGreatDoor
open Go.AE Go.NT
def lh:Tryz.f20.results.toList=[.cell 14 3,.cell 15 32]:=au
def aoc(owners)(az){k}:∀{n:Nat},k<=n->∃t,dQ owners az n=dQ owners az k++t:=by
 intro n
 induction n with
 |zero=>intro h;exact⟨[],by rw[(ag:k=0)];simp⟩
 |succ n ih=>
  intro h;rcases dI n k with aA|dM
  ·exact⟨[],by rw[(ag:k=n+1)];simp⟩
  ·obtain⟨t,ht⟩:=ih dM;by_cases hq:ai owners n=az
   ·exact⟨t++[n],by rw[GD hq,ht,rR]⟩
   ·exact⟨t,by rw[BA hq,ht]⟩
def akB{ae}{owners ao}{az}{s}(h:mf ae owners ao az s=ah){k}(hk:k<owners.length)(hq:ai owners k=az):
 ∃p,s[(dQ owners az k).length]?=aa p/\p.1=((k:Nat):Int)/\BE ae ao p=ah:=by
 unfold mf at h;rw[bC,decide_eq_true_eq] at h;obtain⟨h1,h2⟩:=h;obtain⟨t,ht⟩:=aoc owners az (ag:k+1<=owners.length);rw[JU,GD hq] at ht;have e:(s.map EV)[(dQ owners az k).length]?=aa ((k:Nat):Int):=by rw[h1,ht,dW,rR,yu (aJ _),s9];rfl
 rw[dW] at e;cases hp:s[(dQ owners az k).length]? with
 |none=>rw[hp] at e;cases e
 |some p=>rw[hp] at e;injection e with e;rw[dU] at h2;exact⟨p,rfl,e,h2 p (de hp)⟩
def Hc{H}{b}{x}{n}(hb:H.boxes[b]?=aa [x]):ct al H 3 (.ptr (.box b) 0) (.v (.int .i64 n))=aa (H.put b [.v (.int .i64 n)]):=gL (off:=0) (cs:=[x]) (xs:=[.v (.int .i64 n)]) rfl fP hb rfl (aJ 1)
def LC:gx al 36=aa av:=au
def Ha{H}{b}{x}{n}(hb:H.boxes[b]?=aa [x]):ct al H 32 (.ptr (.box b) 0) (.v (.int .i64 n))=aa (H.put b [.v (.int .i64 n)]):=gL (off:=0) (cs:=[x]) (xs:=[.v (.int .i64 n)]) rfl Zo hb rfl (aJ 1)
def asI:(iN al 3).bind AV.b8=aa [.v (.int .i64 0)]:=au
def asH:(iN al 32).bind AV.b8=aa [.v (.int .i64 0)]:=au
def asy{y}{s:List (Int × Int)}{i}{p}(h:s[i]?=aa p):jF y (s.take (i+1))=cP (jF y (s.take i)) (b9 (ai y p.1.toNat) p.2):=by unfold jF;rw[fH h,nY];rfl
def SL.ix{x}{l}(h:SL x l){i}(hi:i<l.length):dy al 36 x (.v (.int .i64 (i:Nat)))=aa (.elem 2 (gZ l) i 0):=by obtain⟨k,s,rfl,hs⟩:=h;have bB:s=2:=hs (by intro q;rw[q] at hi;simp at hi);subst bB;have:=a8 (k:=k) (kk:=.i64) (es:=gZ l) (a:=((i:Nat):Int)) abr Zp ag (by rw[YA];omega);rw[this,dL]
def SL.ej{x}{l}(h:SL x l):ej al 36 x=aa (.v (.int .i64 (l.length:Nat))):=by obtain⟨k,s,rfl,-⟩:=h;have u36:=abr;unfold Go.AE.ej;rw[u36];simp only[YA]
def SL.b8{x}{l}(h:SL x l):x.b8=aa [x]:=by obtain⟨k,s,rfl,-⟩:=h;rfl
structure EK(Hb:ak)(li:Nat)(rec:ij)(iL ib zb eb:Nat)(ae:List (List Int))(owners ao W:List Int)(az:Int)(s:List (Int × Int))(k:Nat)(H:ak):Prop where
 lp:H.loops[li]?=aa rec
 cU:∀(a:Nat) (cs:List AV),Hb.boxes[a]?=aa cs->a≠iL->a≠ib->H.boxes[a]?=aa cs
 sum:H.boxes[iL]?=aa [.v (.int .i64 (jF W (s.take (dQ owners az k).length)))]
 ix:H.boxes[ib]?=aa [.v (.int .i64 ((dQ owners az k).length:Nat))]
 le:(dQ owners az k).length<=s.length
 same:(s.take (dQ owners az k).length).map EV=(dQ owners az k).map λ(i:Nat)=>(i:Int)
 ok:(s.take (dQ owners az k).length).all (BE ae ao)=ah
structure EL(li:Nat)(rec:ij)(zb eb:Nat)(H:ak):Prop where
 lp:H.loops[li]?=aa {rec with state:=.done,pending:=aa .ret}
 z:H.boxes[zb]?=aa [.v (.int .i64 0)]
 e:H.boxes[eb]?=aa [.v (.int .i64 340)]
def aeb{ae}{owners ao}(p1:cR ae owners=0)(p2:ao.length=bU ae)(p3:ao.all bE=ah):iX ae owners ao=0:=by unfold iX;rw[aG (by simp[p1]),aF (by rw[bX p2,p3];rfl)]
def af2{ae}{owners ao}(hc:iX ae owners ao=0){k}{v}(hk:k<ae.length):
 (BE ae ao (((k:Nat):Int),v)=ah/\sd ae owners ao (((k:Nat):Int),v)=(ah,0))∨(BE ae ao (((k:Nat):Int),v)=av/\(sd ae owners ao (((k:Nat):Int),v)=(av,340)∨sd ae owners ao (((k:Nat):Int),v)=(av,0))):=by
 have hr:uP ae (((k:Nat):Int),v)=da v:=by unfold uP;rw[bX (show(0:Int)<=((k:Nat):Int) by omega),bX (show((k:Nat):Int)<(ae.length:Int) by omega)];rfl
 unfold BE sd;rw[aG (by simp[hc]),hr];simp only[dL];cases hv:da v with
 |false=>exact .inr ⟨rfl,.inl rfl⟩|true=>
  by_cases hq:bD Gn v=mI ao (ae.getD k [])
  ·left;rw[bX hq];exact⟨rfl,rfl⟩
  ·right;rw[cI hq];exact⟨rfl,.inr rfl⟩
def AA{Hx}{zb eb}{x y}(hz:Hx.boxes[zb]?=aa [x])(he:Hx.boxes[eb]?=aa [y])(bH:zb≠eb)(n m):
 ct al Hx 3 (.ptr (.box zb) 0) (.v (.int .i64 n))=aa (Hx.put zb [.v (.int .i64 n)])/\aI al Gt Hx 32 (.ptr (.box eb) 0)=aa y/\aI al Gt (Hx.put zb [.v (.int .i64 n)]) 32 (.ptr (.box eb) 0)=aa y/\
  ct al (Hx.put zb [.v (.int .i64 n)]) 32 (.ptr (.box eb) 0) (.v (.int .i64 m))=aa ((Hx.put zb [.v (.int .i64 n)]).put eb [.v (.int .i64 m)])/\
  aI al Gt ((Hx.put zb [.v (.int .i64 n)]).put eb [.v (.int .i64 m)]) 3 (.ptr (.box zb) 0)=aa (.v (.int .i64 n))/\aI al Gt ((Hx.put zb [.v (.int .i64 n)]).put eb [.v (.int .i64 m)]) 32 (.ptr (.box eb) 0)=aa (.v (.int .i64 m)):=by
 have jg:=(aP.1 hz).1;have ia:=(aP.1 he).1;have q:(Hx.put zb [AV.v (.int .i64 n)]).boxes[eb]?=aa [y]:=by rw[cS (Ne.symm bH)];exact he
 have q2:((Hx.put zb [AV.v (.int .i64 n)]).put eb [AV.v (.int .i64 m)]).boxes[zb]?=aa [.v (.int .i64 n)]:=by rw[cS bH];exact ev jg
 have q3:((Hx.put zb [AV.v (.int .i64 n)]).put eb [AV.v (.int .i64 m)]).boxes[eb]?=aa [.v (.int .i64 m)]:=ev (by rw[mh];exact ia);exact⟨Hc hz,dg Aj he rfl,dg Aj q rfl,Ha q,dg eM q2 rfl,dg Aj q3 rfl⟩
def oW(ae:List (List Int))(owners:List Int)(ep:Int)(ao:List Int)(text:List UInt8)(l:List Pr)(az:Int)(s:List (Int × Int))(d f:Int):Int × Int:=
 if du ae owners ep ao text l≠0 then (0,du ae owners ep ao text l) else xR ae owners ao text l az s d f
def ajK{ae}{owners ao}{text}{l}{az}{s}{d f}(h:oV l az=aq∨[d,f].all da=av):xR ae owners ao text l az s d f=(0,1):=by
 unfold xR;cases hp:oV l az with
 |none=>rfl|some x=>
  rcases h with q|q
  ·rw[hp] at q;cases q
  ·have:(da d&&da f)=av:=(by simpa using q);simp only[this];rfl
def ajL{ae}{owners ao}{text}{l}{az}{s}{d f}{x}(h:oV l az=aa x)(hq:[d,f].all da=ah):xR ae owners ao text l az s d f=
 if mf ae owners ao az s=av then (0,340) else if ¬((bD Gn d:Nat):Int)=x.d∨¬((bD Gn f:Nat):Int)=x.e then (0,420)
 else (cP (cP d (b9 f (eC (ai ao 0) text l az))) (b9 (eQ (ai ao 0) text l) (jF (eF ae owners l) s)),0):=by
 unfold xR;have:(da d&&da f)=ah:=by simpa using hq
 rw[h];simp only[this];cases mf ae owners ao az s<;>rfl
def ac3(a b):fC al 23 2 [(0,.v (.int .i64 a)),(1,.v (.int .i64 b))]=aa (.list .tight 1 (ints [a,b])):=au
def ajD(h:ak)(bA:cA h=ah)(ep:Int)(X Y C T L S:AV)(ae:List (List Int))(owners ao:List Int)(text:List UInt8)(l:List Pr)(s:List (Int × Int))(az d f:Int)
 (hx:RL X ae) (hy:IL Y owners) (hc:IL C ao) (ht:BL T text) (hp:PL L l) (hs:SL S s) (dC:ao.length<=1000000) (eR:l.length<=1000000) (mG:s.length<=1000000):
 ∃r h',W5.call 20 [.agg (aV ep X Y C),T,L,.v (.int .i64 az),S,.v (.int .i64 d),.v (.int .i64 f)] h=aa (r,h')/\r=.ret (.tuple [.v (.int .i64 (oW ae owners ep ao text l az s d f).1),.v (.int .i64 (oW ae owners ep ao text l az s d f).2)]):=by
 have bx:=vS (ep:=ep) hx hy hc;have bS:=hs.b8;have zc:=ZD;have zp:=zJ;have z3:=asI;have z32:=asH;obtain⟨h0,C5⟩:∃h0,(((h.push (aV ep X Y C)).push [S]).push [.v (.int .i64 0)]).push [.v (.int .i64 0)]=h0:=⟨_,rfl⟩;obtain⟨sb,jP⟩:∃n,(h.push (aV ep X Y C)).boxes.length=n:=⟨_,rfl⟩;obtain⟨zb,Oe⟩:∃n,((h.push (aV ep X Y C)).push [S]).boxes.length=n:=⟨_,rfl⟩;obtain⟨eb,M4⟩:∃n,(((h.push (aV ep X Y C)).push [S]).push [.v (.int .i64 0)]).boxes.length=n:=⟨_,rfl⟩;obtain⟨kb,zd⟩:∃n,h.boxes.length=n:=⟨_,rfl⟩;have o1:kb<sb/\sb<zb/\zb<eb:=by rw[<-zd,<-jP,<-Oe,<-M4];simp only[cK];omega
 have gk:h0.boxes[kb]?=aa (aV ep X Y C):=by rw[<-C5,<-zd];exact bg (bg (bg (a9 _ _)))
 have gs:h0.boxes[sb]?=aa [S]:=by rw[<-C5,<-jP];exact bg (bg (a9 _ _))
 have gz:h0.boxes[zb]?=aa [.v (.int .i64 0)]:=by rw[<-C5,<-Oe];exact bg (a9 _ _)
 have ge:h0.boxes[eb]?=aa [.v (.int .i64 0)]:=by rw[<-C5,<-M4];exact a9 _ _
 have NG:cA h0=ah:=by rw[<-C5];exact bA
 obtain⟨r1,h1,c1,x1,post⟩:=LO h0 NG ep X Y C T L ae owners ao text l hx hy hc ht hp dC eR;have l0:aI al Gt h0 27 (.ptr (.box kb) 0)=aa (.agg (aV ep X Y C)):=by rw[ja au (by kernel_rfl:dm al 27=aa 4) gk (lW rfl)];rfl
 have kE1:aj (du ae owners ep ao text l≠0->oW ae owners ep ao text l az s d f=(0,du ae owners ep ao text l)):=⟨λq=>by unfold oW;rw[aF q]⟩;have kE2:aj (du ae owners ep ao text l=0->oW ae owners ep ao text l az s d f=xR ae owners ao text l az s d f):=⟨λq=>by unfold oW;rw[aG (by simp[q])]⟩;have kbo:=aj.mk (λq=>@E7 ae owners ao ep text l q);have kwt:=aj.mk (λq=>@Zx ae owners ao ep text l q);have kf:=aj.mk (ar hx (ar hy (ar hc (ar hp hs))));have gk1:=x1.box _ _ gk;have gs1:=x1.box _ _ gs;have lG:=x1.box _ _ gz;have ge1:=x1.box _ _ ge;have rv:=x1.ok NG;have lS:=hs.ej;generalize oW ae owners ep ao text l az s d f=res at *
 generalize du ae owners ep ao text l=be at *
 have U0:=(aP.1 ge1).1;clear hx hy hc ht hp hs x1 gk gs gz ge NG bA;refine df rfl Tryz.func20 rfl ?_;rcases post with⟨q,rfl⟩|⟨q,c,Wt,rfl,sg,w⟩
 ·have kr:=aj.mk (kE1.out q);have stn:ct al (h1.push [.v (.pointer aq)]) 90 (.ptr (.box h1.boxes.length) 0) (.v (.pointer aq))=aa (h1.push [.v (.pointer aq)]):=lq rfl au rfl rfl;have ste:ct al (h1.push [.v (.pointer aq)]) 32 (.ptr (.box eb) 0) (.v (.int .i64 be))=aa ((h1.push [.v (.pointer aq)]).put eb [.v (.int .i64 be)]):=Ha (bg ge1);obtain⟨a1,a2,a3,a4,a5,a6⟩:=AA (Hx:=(h1.push [.v (.pointer aq)]).put eb [.v (.int .i64 be)]) (zb:=zb) (eb:=eb) (x:=.v (.int .i64 0)) (y:=.v (.int .i64 be)) (by rw[cS ag];exact bg lG) (ev (by rw[cK];omega)) ag 0 be;clear kE1 kE2 kbo kwt gk1 gs1 lG ge1 rv;refine bM @lh @bL ?_;refine mW [(0,1)] ku au (λp hp=>?_) ?_
  ·simp only[mo] at hp;subst hp;refine zH (x:=.ptr (.box eb) 0) (v:=.v (.int .i64 be)) au rfl rfl rfl au (by simp[eT,mj]) ?_ ?_<;>(simp only[hJ,fB];exact jL @lh @and_self)
  refine br @lh ?_;exact⟨_,_,rfl,by rw[kr.out]⟩
 obtain⟨p1,p2,p3,p4,p5,p6⟩:=kbo.out q;obtain⟨y,w1,w2,w3⟩:=kwt.out q;have gH:=kE2.out q;have ss:=aeb p1 p2 p3;subst q;clear kE1 kE2 kbo kwt;obtain⟨h2,rm⟩:∃h2,h1.push [.ptr (.box c) 0]=h2:=⟨_,rfl⟩;obtain⟨wb,Bj⟩:∃n,h1.boxes.length=n:=⟨_,rfl⟩;have stn:ct al (h1.push [.v (.pointer aq)]) 90 (.ptr (.box wb) 0) (.ptr (.box c) 0)=aa h2:=by rw[<-rm,<-Bj];exact Qo c
 have gk2:h2.boxes[kb]?=aa (aV ep X Y C):=by rw[<-rm];exact bg gk1
 have gs2:h2.boxes[sb]?=aa [S]:=by rw[<-rm];exact bg gs1
 have jL:h2.boxes[zb]?=aa [.v (.int .i64 0)]:=by rw[<-rm];exact bg lG
 have ge2:h2.boxes[eb]?=aa [.v (.int .i64 0)]:=by rw[<-rm];exact bg ge1
 have gw2:h2.boxes[wb]?=aa [.ptr (.box c) 0]:=by rw[<-rm,<-Bj];exact a9 _ _
 have ste:ct al h2 32 (.ptr (.box eb) 0) (.v (.int .i64 0))=aa h2:=by rw[Ha ge2,rL ge2]
 have le2:aI al Gt h2 32 (.ptr (.box eb) 0)=aa (.v (.int .i64 0)):=dg Aj ge2 rfl;have lw2:aI al Gt h2 90 (.ptr (.box wb) 0)=aa (.ptr (.box c) 0):=dg vh gw2 rfl;have W2:tW h2 c ep X Y C T L Wt ((fN (ai ao 0) text l:Nat):Int) ((eQ (ai ao 0) text l:Nat):Int) ao text l:=by rw[<-rm];exact w.mono (.push _ _)
 have Bb:cA h2=ah:=by rw[<-rm];exact rv
 obtain⟨b,vr,w4,-⟩:=W2.dT;obtain⟨_,h3,c2,x3,post⟩:=Tp h2 c _ L l az [d,f] (.list .tight 1 (ints [d,f])) w4 rfl kf.out.2.2.2.1 eR ⟨_,_,rfl,λ_=>rfl⟩ bh;have bl:=ac3 d f;have att:eb<wb:=by rw[<-Bj];exact U0
 clear w4 w gk1 gs1 lG ge1 rv U0;have sf:=x3.box _ _ jL;have ge3:=x3.box _ _ ge2;rcases post with⟨q,rfl⟩|⟨x,q1,q2,rfl⟩
 ·have kr:=aj.mk (gH.trans (ajK q));have sq:=wB (H:=h3) ⟨0,0,0,0⟩;have se:ct al (h3.push (bF ⟨0,0,0,0⟩)) 32 (.ptr (.box eb) 0) (.v (.int .i64 1))=aa ((h3.push (bF ⟨0,0,0,0⟩)).put eb [.v (.int .i64 1)]):=Ha (bg ge3);obtain⟨a1,a2,a3,a4,a5,a6⟩:=AA (Hx:=(h3.push (bF ⟨0,0,0,0⟩)).put eb [.v (.int .i64 1)]) (zb:=zb) (eb:=eb) (x:=.v (.int .i64 0)) (y:=.v (.int .i64 1)) (by rw[cS ag];exact bg sf) (ev (by rw[cK];have:=(aP.1 ge3).1;omega)) ag 0 1;clear gH q W2 x3 gk2 gs2 jL ge2 gw2 Bb sf ge3 p1 p2 p3 p6 w1 w2 w3 ss sg;refine bM @lh @bL ?_;refine mW [(0,1)] ku au (λp hp=>?_) ?_
  ·simp only[mo] at hp;subst hp;refine zH (x:=.ptr (.box eb) 0) (v:=.v (.int .i64 1)) au rfl rfl rfl au (by simp[eT,mj]) ?_ ?_<;>(simp only[hJ,fB];exact jL @lh @and_self)
  refine br @lh ?_;exact⟨_,_,rfl,by rw[kr.out]⟩
 rw[ajL q1 q2] at gH;obtain⟨dx,tD⟩:=WO q1;have hm:=xW p6 x dx;have sq:=wB (H:=h3) x;obtain⟨h4,IP⟩:∃h4,h3.push (bF x)=h4:=⟨_,rfl⟩;obtain⟨pb,NN⟩:∃n,h3.boxes.length=n:=⟨_,rfl⟩;rw[IP,NN] at sq;have o3:wb<pb:=by have z1:=(aP.1 gw2).1;have z2:=x3.len;omega
 have X4:Ext h2 h4:=by rw[<-IP];exact x3.trans (.push _ _)
 have gk4:=X4.box _ _ gk2;have gs4:=X4.box _ _ gs2;have mP:=X4.box _ _ jL;have ge4:=X4.box _ _ ge2;have gw4:=X4.box _ _ gw2;have gp4:h4.boxes[pb]?=aa (bF x):=by rw[<-IP,<-NN];exact a9 _ _
 have W4':=W2.mono X4;have ste4:ct al h4 32 (.ptr (.box eb) 0) (.v (.int .i64 0))=aa h4:=by rw[Ha ge4,rL ge4]
 have le4:aI al Gt h4 32 (.ptr (.box eb) 0)=aa (.v (.int .i64 0)):=dg Aj ge4 rfl;obtain⟨h5,y7⟩:∃h5,(h4.push [.v (.int .i64 0)]).push [.v (.int .i64 0)]=h5:=⟨_,rfl⟩;obtain⟨iL,Je⟩:∃n,h4.boxes.length=n:=⟨_,rfl⟩;obtain⟨ib,Ni⟩:∃n,(h4.push [.v (.int .i64 0)]).boxes.length=n:=⟨_,rfl⟩;have o2:pb<iL/\iL<ib:=by refine⟨?_,by rw[<-Je,<-Ni,cK];omega⟩;rw[<-Je];exact(aP.1 gp4).1
 have gsum5:h5.boxes[iL]?=aa [.v (.int .i64 0)]:=by rw[<-y7,<-Je];exact bg (a9 _ _)
 have gib5:h5.boxes[ib]?=aa [.v (.int .i64 0)]:=by rw[<-y7,<-Ni];exact a9 _ _
 have X5:Ext h4 h5:=by rw[<-y7];exact(Ext.push _ _).trans (.push _ _)
 have st5a:ct al h5 3 (.ptr (.box iL) 0) (.v (.int .i64 0))=aa h5:=by rw[Hc gsum5,rL gsum5]
 have st5b:ct al h5 3 (.ptr (.box ib) 0) (.v (.int .i64 0))=aa h5:=by rw[Hc gib5,rL gib5]
 have gw5:=X5.box _ _ gw4;have lw5:aI al Gt h5 90 (.ptr (.box wb) 0)=aa (.ptr (.box c) 0):=dg vh gw5 rfl;have c3:=XO h5 c az;obtain⟨h6,A0⟩:∃h6,(h5.push [.ptr (.box c) 0]).push [.v (.int .i64 az)]=h6:=⟨_,rfl⟩;rw[A0] at c3;have X6:Ext h4 h6:=by rw[<-A0];exact X5.trans ((Ext.push _ _).trans (.push _ _))
 have gsum6:h6.boxes[iL]?=aa [.v (.int .i64 0)]:=by rw[<-A0];exact bg (bg gsum5)
 have gib6:h6.boxes[ib]?=aa [.v (.int .i64 0)]:=by rw[<-A0];exact bg (bg gib5)
 have ga6:h6.boxes[h5.boxes.length]?=aa [.ptr (.box c) 0]:=by rw[<-A0];exact bg (a9 _ _)
 have gb6:h6.boxes[h5.boxes.length+1]?=aa [.v (.int .i64 az)]:=by rw[<-A0];exact mB (by rw[cK])
 have l5:iL<h5.boxes.length/\ib<h5.boxes.length:=⟨(aP.1 gsum5).1,(aP.1 gib5).1⟩;have kall:=aj.mk (ar gH (ar tD (ar hm (ar w2 (ar w3 sg)))));have kprog:=aj.mk (ar p1 (ar p3 ss));have gk6:=X6.box _ _ gk4;have gs6:=X6.box _ _ gs4;have vu:=X6.box _ _ mP;have ge6:=X6.box _ _ ge4;have gw6:=X6.box _ _ gw4;have gp6:=X6.box _ _ gp4;have W6':=W4'.mono X6;have kst:=aj.mk (ar gk6 (ar gs6 (ar vu (ar ge6 (ar gw6 (ar gp6 W6'))))));have sumv:iL<h4.boxes.length+1:=by omega
 have kxl:=dx;clear gH tD hm w1 w2 w3 sg p1 p3 ss gk6 gs6 vu ge6 gw6 gp6 W6' W4' W2 gk4 gs4 mP ge4 gw4 gp4 gk2 gs2 jL ge2 gw2 sf ge3 q1 q2 dx x3 X4 X5 gw5 gsum5 gib5 Bb p2 p6 sumv;refine bM @lh @bL ?_;refine bG.gen λe4 iY rk vM tA=>?_;have f5:e4.get 5=.v (.int .i64 d):=by rw[iY];exact gS
 have f6:e4.get 6=.v (.int .i64 f):=by rw[iY];exact gS
 have f7:e4.get 7=.ptr (.box kb) 0:=by rw[iY];exact gS
 have f11:e4.get 11=.ptr (.box sb) 0:=by rw[iY];exact gS
 have f14:e4.get 14=.ptr (.box zb) 0:=by rw[iY];exact gS
 have f15:e4.get 15=.ptr (.box eb) 0:=by rw[iY];exact gS
 have f16:e4.get 16=.ptr (.box wb) 0:=by rw[iY];exact gS
 have f17:e4.get 17=.ptr (.box pb) 0:=by rw[iY];exact gS
 have f18:e4.get 18=.ptr (.box iL) 0:=by rw[iY];exact gS
 have f19:e4.get 19=.ptr (.box ib) 0:=by rw[iY];exact gS
 have f47:e4.get 47=.func (.func 128) [] [.ptr (.box h5.boxes.length) 0,.ptr (.box (h5.boxes.length+1)) 0]:=by rw[iY];exact gS
 have fd:e4.defers=[]:=by rw[rk];exact gS
 clear iY rk vM tA c1 c2 c3 l0 lS bl stn ste le2 lw2 sq ste4 le4 st5a st5b lw5 zc zp z3 z32 bx bS C5 jP Oe M4 zd rm Bj IP NN y7 Je Ni A0;obtain⟨gk6,gs6,vu,ge6,gw6,gp6,W6⟩:=kst.out;obtain⟨p1,p3,ss⟩:=kprog.out;obtain⟨gH,tD,hm,w2,w3,sg⟩:=kall.out;have kW:=aj.mk W6;clear kst kprog kall W6;obtain⟨og1,og2,og3,og4⟩:=qy p1;have dR:cA h6=cA h6:=rfl;refine D7 (by rw[Ax];exact f47) λrec v1 v2 v3 v4 v5 v6=>?_;have iR:(h6.loop rec).loops[h6.loops.length]?=aa rec:=@DI h6 rec;have feed:=XP h6.loops.length h5.boxes.length (h5.boxes.length+1) c Y owners az (EK (h6.loop rec) h6.loops.length rec iL ib zb eb ae owners ao (eF ae owners l) az s)
  (λH=>EL h6.loops.length rec zb eb H/\mf ae owners ao az s=av) kf.out.2.1 ag
  (λk H q=>by
   obtain⟨b6,vr6,z1,-⟩:=kW.out.dT;refine⟨q.cU _ _ ga6 ag ag,q.cU _ _ gb6 ag ag,_,q.cU _ _ z1 (λe=>?_) (λe=>?_),rfl⟩
   ·rw[e] at z1;rw[gsum6] at z1;unfold gN at z1;simp at z1
   ·rw[e] at z1;rw[gib6] at z1;unfold gN at z1;simp at z1)
  ?_
  (λk H hk hc q=>⟨q.lp,q.cU,by rw[BA hc];exact q.sum,by rw[BA hc];exact q.ix,by rw[BA hc];exact q.le,by rw[BA hc];exact q.same,by rw[BA hc];exact q.ok⟩)
  (h6.loop rec) ⟨iR,λa cs ha _ _=>ha,gsum6,gib6,cr _,by simp[dQ],by simp[dQ]⟩
 rotate_left 1
 ·intro k H hk hc q;have vJ:=q.lp
  suffices hs:∃b H',W5.round h6.loops.length [.v (.int .i64 (k:Nat))] H=aa (.ret (.v (.bool b)),H')/\if b=ah then EK (h6.loop rec) h6.loops.length rec iL ib zb eb ae owners ao (eF ae owners l) az s (k+1) H' else (EL h6.loops.length rec zb eb H'/\mf ae owners ao az s=av) by
   obtain⟨b,H',q1,q2⟩:=hs;cases b with|true=>exact .inl ⟨H',q1,q2⟩|false=>exact .inr ⟨H',q1,q2⟩
  refine an5 (Post:=λb H'=>if b=ah then EK (h6.loop rec) h6.loops.length rec iL ib zb eb ae owners ao (eF ae owners l) az s (k+1) H' else (EL h6.loops.length rec zb eb H'/\mf ae owners ao az s=av)) vJ (by rw[v2];rfl) v5 v6 ?_;have r1:∀t,(nx h6.loops.length rec [.v (.int .i64 (k:Nat))]).get t=if 48=t then .v (.int .i64 (k:Nat)) else e4.get t:=λt=>XM v2 v1
  have d1:(nx h6.loops.length rec [.v (.int .i64 (k:Nat))]).defers=[]:=rfl;obtain⟨K,hK⟩:∃K,H.busy h6.loops.length rec=K:=⟨_,rfl⟩;have yT:∀a:Nat,K.boxes[a]?=H.boxes[a]?:=λa=>by rw[<-hK];rfl
  have AM:K.loops[h6.loops.length]?=aa {rec with state:=.busy}:=by rw[<-hK];have:=(aP.1 vJ).1;show(H.loops.set _ _)[_]?=_;simp[this]
  have og:∀(a:Nat) (cs:List AV),h6.boxes[a]?=aa cs->a≠iL->a≠ib->K.boxes[a]?=aa cs:=λa cs ha n1 n2=>by rw[yT];exact q.cU a cs ha n1 n2
  have Da:=og _ _ gk6 ag ag;have Dl:=og _ _ gs6 ag ag;have Bl:=og _ _ vu ag ag;have AX:=og _ _ ge6 ag ag;have F9:=og _ _ gw6 ag ag;have F4:=(yT iL).trans q.sum;have C7:=(yT ib).trans q.ix;have eg:=q.le;have lib:aI al Gt K 3 (.ptr (.box ib) 0)=aa (.v (.int .i64 ((dQ owners az k).length:Nat))):=dg eM C7 rfl;have lsb:aI al Gt K 36 (.ptr (.box sb) 0)=aa S:=dg LC Dl rfl;have lSn:=kf.out.2.2.2.2.ej;obtain⟨a1,a2,a3,a4,a5,a6⟩:=AA Bl AX ag 0 340;have sK:=(aP.1 Bl).1;have FD:=(aP.1 AX).1;have kstop:aj (∀(K2:ak),K2.loops[h6.loops.length]?=aa {rec with state:=.busy}->zb<K2.boxes.length->eb<K2.boxes.length->EL h6.loops.length rec zb eb (((K2.put zb [.v (.int .i64 0)]).put eb [.v (.int .i64 340)]).eW h6.loops.length {rec with state:=.done,pending:=aa .ret})):=⟨λK2 q1 q2 q3=>by
   have eR:=(aP.1 q1).1;refine⟨Yx eR,?_,?_⟩
   ·show((K2.put zb [.v (.int .i64 0)]).put eb [.v (.int .i64 340)]).boxes[zb]?=_;rw[cS ag];exact ev q2
   ·show((K2.put zb [.v (.int .i64 0)]).put eb [.v (.int .i64 340)]).boxes[eb]?=_;exact ev (by rw[mh];exact q3)⟩
  have kown:=aj.mk (λq=>@akB ae owners ao az s q k hk hc);have kq:=aj.mk q;have kog:=aj.mk og;obtain⟨Q,hQ⟩:∃Q:Xt->ak->Prop,Q=λo h2=>h2.loops[h6.loops.length]?=aa {rec with state:=.busy}/\
   ((o=.normal/\EK (h6.loop rec) h6.loops.length rec iL ib zb eb ae owners ao (eF ae owners l) az s (k+1) (h2.eW h6.loops.length rec))∨(o=.ret/\EL h6.loops.length rec zb eb (h2.eW h6.loops.length {rec with state:=.done,pending:=aa .ret})/\mf ae owners ao az s=av)):=⟨_,rfl⟩
  have kQs:aj (∀(K2:ak),K2.loops[h6.loops.length]?=aa {rec with state:=.busy}->zb<K2.boxes.length->eb<K2.boxes.length->mf ae owners ao az s=av->Q .ret ((K2.put zb [.v (.int .i64 0)]).put eb [.v (.int .i64 340)])):=⟨λK2 z1 z2 z3 z4=>by rw[hQ];exact⟨z1,.inr ⟨rfl,kstop.out K2 z1 z2 z3,z4⟩⟩⟩;have kQn:aj (∀(K2:ak),K2.loops[h6.loops.length]?=aa {rec with state:=.busy}->EK (h6.loop rec) h6.loops.length rec iL ib zb eb ae owners ao (eF ae owners l) az s (k+1) (K2.eW h6.loops.length rec)->Q .normal K2):=⟨λK2 z1 z2=>by rw[hQ];exact⟨z1,.inl ⟨rfl,z2⟩⟩⟩;rw[hK]
  suffices lL:bG W5 rec.assign (nx h6.loops.length rec [.v (.int .i64 (k:Nat))]) H (λo e1 h1=>o=.normal/\h1=H/\bG W5 rec.body e1 K (λo _ h2=>Q o h2)) by
   obtain⟨o,e1,hh,z1,z2,z3,o',e2,vw,z4,z5⟩:=lL;refine⟨o,e1,hh,z1,z2,z3,o',e2,vw,z4,?_⟩;rw[hQ] at z5;obtain⟨z5,z6⟩:=z5;refine⟨z5,?_⟩;rcases z6 with⟨y1,y2⟩|⟨y1,y2⟩
   ·exact .inl ⟨y1,y2⟩
   ·exact .inr ⟨y1,y2⟩
  clear hQ kstop;rw[v3,v4];rcases dI (dQ owners az k).length s.length with aA|dM;rotate_left 1
  ·have fK:(dQ owners az k).length=s.length:=(by omega);have iG:mf ae owners ao az s=av:=by
    cases ho:mf ae owners ao az s with|false=>rfl|true=>obtain⟨p,z1,-⟩:=kown.out ho;rw[List.getElem?_eq_none ag] at z1;cases z1
   have dd:decide ((((dQ owners az k).length:Nat):Int)=(s.length:Int))=ah:=bX ag;have fV:=aj.mk (kQs.out K AM sK FD iG);clear fK iG dM eg q og vJ hK yT AM Da Dl Bl AX F9 F4 C7 v1 v2 v3 v4 v5 v6 kQs kQn;generalize (dQ owners az k).length=i at *
   refine xd ?_;exact⟨aQ,aQ,fV.out⟩
  obtain⟨p,hp⟩:∃p,s[(dQ owners az k).length]?=aa p:=⟨_,aO aA⟩;have dd:decide ((((dQ owners az k).length:Nat):Int)=(s.length:Int))=av:=cI ag;have ixS:=kf.out.2.2.2.2.ix aA;have ls0:=aiX (H:=K) (s:=2) hp;by_cases dF:p.1=((k:Nat):Int);rotate_left 1
  ·have iG:mf ae owners ao az s=av:=by
    cases ho:mf ae owners ao az s with|false=>rfl|true=>obtain⟨p',z1,z2,-⟩:=kown.out ho;rw[hp] at z1;injection z1 with z1;subst z1;exact absurd z2 dF
   have dr:decide (p.1=((k:Nat):Int))=av:=cI dF;have fV:=aj.mk (kQs.out K AM sK FD iG);clear iG aA eg q og vJ hK yT AM Da Dl Bl AX F9 F4 C7 v1 v2 v3 v4 v5 v6 kQs kQn hp dF;generalize (dQ owners az k).length=i at *
   refine br @yO ?_;exact⟨aQ,aQ,fV.out⟩
  have Np:k<ae.length:=by omega
  have dr:decide (((k:Nat):Int)=((k:Nat):Int))=ah:=bX rfl;obtain⟨pr,pv⟩:=p;simp only at dF;subst dF;obtain⟨_,K2,cf,rfl,xf⟩:=afZ K X Y C ae owners ao kf.out.1 kf.out.2.1 kf.out.2.2.1 dC ((k:Nat):Int) pv;have lk1:aI al Gt K 25 (.ptr (.box kb) 1)=aa (.agg [X,Y]):=by rw[ja wT (by kernel_rfl:dm al 25=aa 2) Da (lW rfl)];rfl
  have lk3:aI al Gt K 23 (.ptr (.box kb) 3)=aa C:=dg oI Da rfl;have ls81:=aiW (H:=K) (s:=2) hp;have Fq:=xf.loop _ _ AM;have gI:=xf.box _ _ Bl;have eV:=xf.box _ _ AX;rcases af2 (v:=pv) ss Np with⟨so,fo⟩|⟨so,fo⟩;rotate_left 1
  ·have iG:mf ae owners ao az s=av:=by
    cases ho:mf ae owners ao az s with|false=>rfl|true=>obtain⟨p',z1,z2,z3⟩:=kown.out ho;rw[hp] at z1;injection z1 with z1;subst z1;rw[so] at z3;cases z3
   have fV:=aj.mk (kQs.out K2 Fq (aP.1 gI).1 (aP.1 eV).1 iG);obtain⟨t1,t2,t3,t4,t5,t6⟩:=AA gI eV ag 0 340;clear iG aA eg q og vJ hK yT AM Da Dl Bl AX F9 F4 C7 v1 v2 v3 v4 v5 v6 kQs kQn hp a1 a2 a3 a4 a5 a6 xf gI eV Fq so;unfold im at cf;rcases fo with fo|fo
   ·rw[fo] at cf;clear fo;generalize (dQ owners az k).length=i at *
    refine cY @yO @gd @jk ?_;refine⟨aQ,aQ,?_⟩;refine ey ku au ?_;refine cY @yO @gd @jk ?_;exact fV.out
   ·rw[fo] at cf;clear fo;generalize (dQ owners az k).length=i at *
    refine cY @yO @gd @jk ?_;refine⟨aQ,aQ,?_⟩;refine ey ku au ?_;refine cY @yO @gd @jk ?_;exact fV.out
  rw[fo] at cf;have nt:=xf.box _ _ F9;have lM:=xf.box _ _ Dl;have Jd:=xf.box _ _ F4;have IQ:=xf.box _ _ C7;obtain⟨b6,vr6,z1,-⟩:=kW.out.dT;have bW:c≠iL:=λe=>by rw[e] at z1;rw[gsum6] at z1;unfold gN at z1;simp at z1
  have Fy:c≠ib:=λe=>by rw[e] at z1;rw[gib6] at z1;unfold gN at z1;simp at z1
  have Uv:=xf.box _ _ (og _ _ z1 bW Fy);have lwb:aI al Gt K2 90 (.ptr (.box wb) 0)=aa (.ptr (.box c) 0):=dg vh nt rfl;have lWt:aI al Gt K2 23 (.ptr (.box c) 6)=aa Wt:=dg oI Uv rfl;have Bp:=sg.ix (i:=k) (by rw[w2,w3];exact Np);have lWk:=e7 (H:=K2) (l:=eF ae owners l) (i:=k) (s:=1) (by rw[w2,w3];exact Np);have lsb2:aI al Gt K2 36 (.ptr (.box sb) 0)=aa S:=dg LC lM rfl;have lib2:aI al Gt K2 3 (.ptr (.box ib) 0)=aa (.v (.int .i64 ((dQ owners az k).length:Nat))):=dg eM IQ rfl;have lsum2:aI al Gt K2 3 (.ptr (.box iL) 0)=aa (.v (.int .i64 (jF (eF ae owners l) (s.take (dQ owners az k).length)))):=dg eM Jd rfl;have ls1:=aiY (H:=K2) (s:=2) hp;have cm:=Gi (ai (eF ae owners l) k) pv;have ca:=HQ (jF (eF ae owners l) (s.take (dQ owners az k).length)) (b9 (ai (eF ae owners l) k) pv);have bZ:=asy (y:=eF ae owners l) hp;simp only[dL] at bZ;rw[<-bZ] at ca;have stS:=Hc (n:=jF (eF ae owners l) (s.take ((dQ owners az k).length+1))) Jd;have Nj:(K2.put iL [.v (.int .i64 (jF (eF ae owners l) (s.take ((dQ owners az k).length+1))))]).boxes[ib]?=aa [.v (.int .i64 ((dQ owners az k).length:Nat))]:=by rw[cS ag];exact IQ
  have lib3:aI al Gt (K2.put iL [.v (.int .i64 (jF (eF ae owners l) (s.take ((dQ owners az k).length+1))))]) 3 (.ptr (.box ib) 0)=aa (.v (.int .i64 ((dQ owners az k).length:Nat))):=dg eM Nj rfl;have stI:=Hc (n:=(((dQ owners az k).length+1:Nat):Int)) Nj;have ahl:(((dQ owners az k).length+1:Nat):Int)=((dQ owners az k).length:Int)+1:=by omega
  have fV:=aj.mk (kQn.out ((K2.put iL [.v (.int .i64 (jF (eF ae owners l) (s.take ((dQ owners az k).length+1))))]).put ib [.v (.int .i64 (((dQ owners az k).length+1:Nat):Int))]) Fq (by
   have eR:=(aP.1 Fq).1;have ah9:=(aP.1 Jd).1;have xu:=(aP.1 IQ).1;have hlen:(dQ owners az (k+1)).length=(dQ owners az k).length+1:=(by rw[GD hc];simp);refine⟨Yx eR,λa cs ha n1 n2=>?_,?_,?_,by omega,?_,?_⟩
   ·show((K2.put iL _).put ib _).boxes[a]?=_;rw[cS n2,cS n1];exact xf.box _ _ (by rw[yT];exact q.cU a cs ha n1 n2)
   ·show((K2.put iL _).put ib _).boxes[iL]?=_;rw[cS ag,hlen];exact ev ah9
   ·show((K2.put iL _).put ib _).boxes[ib]?=_;rw[hlen];exact ev (by rw[mh];exact xu)
   ·rw[hlen,fH hp,lU,q.same,GD hc,lU];rfl
   ·rw[hlen,fH hp,List.all_append,q.ok,rP];simp[so]))
  clear eg q og vJ hK yT AM Da Dl Bl AX F9 F4 C7 v1 v2 v3 v4 v5 v6 kQs kQn hp a1 a2 a3 a4 a5 a6 xf gI eV Fq so fo nt lM Jd IQ Nj Uv z1 bZ w2 w3;unfold im at *
  generalize (dQ owners az k).length=i at *
  generalize jF (eF ae owners l) (s.take i)=sv at *
  generalize jF (eF ae owners l) (s.take (i+1))=sv2 at *
  generalize b9 (ai (eF ae owners l) k) pv=mv at *
  generalize ai (eF ae owners l) k=wv at *
  rw[ahl] at stI fV;refine cY @yO @gd @jk ?_;refine⟨aQ,aQ,?_⟩;refine ey ku au ?_;refine bJ @yO @Tk @gd @jk ?_;refine ey ku au ?_;refine cY @yO @Tk @qh ?_;exact fV.out
 ·obtain⟨Hf,cF,hF⟩:=feed;rcases hF with q|⟨q,iG⟩;rotate_left 1
  ·have FZ:res=(0,340):=(by rw[gH,aF iG]);have kr:=aj.mk FZ;refine⟨_,_,cF,_,q.lp,(aK:LoopState.done≠ .busy),.inr ⟨rfl,?_⟩⟩;have qz:(Hf.eW h6.loops.length {rec with state:=.exhausted,pending:=aa .ret}).boxes[zb]?=aa [.v (.int .i64 0)]:=q.z;have qe:(Hf.eW h6.loops.length {rec with state:=.exhausted,pending:=aa .ret}).boxes[eb]?=aa [.v (.int .i64 340)]:=q.e;have lz:aI al Gt (Hf.eW h6.loops.length {rec with state:=.exhausted,pending:=aa .ret}) 3 (.ptr (.box zb) 0)=aa (.v (.int .i64 0)):=dg eM qz rfl;have le:aI al Gt (Hf.eW h6.loops.length {rec with state:=.exhausted,pending:=aa .ret}) 32 (.ptr (.box eb) 0)=aa (.v (.int .i64 340)):=dg Aj qe rfl;clear cF q iG gH FZ kf kW gk6 gs6 vu ge6 gw6 gp6 ga6 gb6 gsum6 gib6 hm w2 w3 sg p1 p3 ss og1 og2 og3 og4 iR v1 v2 v3 v4 v5 v6 qz qe tD;refine br @lh ?_;exact⟨_,_,rfl,by rw[kr.out]⟩
  refine⟨_,_,cF,_,q.lp,by rw[v5];decide,.inl ⟨v6,?_⟩⟩;obtain⟨HF,CT⟩:∃HF,Hf.eW h6.loops.length {rec with state:=.exhausted}=HF:=⟨_,rfl⟩;have AQ:∀a:Nat,HF.boxes[a]?=Hf.boxes[a]?:=λa=>by rw[<-CT];rfl
  have og:∀(a:Nat) (cs:List AV),h6.boxes[a]?=aa cs->a≠iL->a≠ib->HF.boxes[a]?=aa cs:=λa cs ha n1 n2=>by rw[AQ];exact q.cU a cs ha n1 n2
  have F2:=og _ _ gs6 ag ag;have Bk:=og _ _ vu ag ag;have AW:=og _ _ ge6 ag ag;have Dr:=og _ _ gw6 ag ag;have Bf:=og _ _ gp6 ag ag;have zn:=(AQ iL).trans q.sum;have C6:=(AQ ib).trans q.ix;have eg:=q.le;have iT:=q.same;have Bc:=q.ok;rw[JU] at zn C6 eg iT Bc;rw[CT];have lib:aI al Gt HF 3 (.ptr (.box ib) 0)=aa (.v (.int .i64 ((jh owners az).length:Nat))):=dg eM C6 rfl;have lsb:aI al Gt HF 36 (.ptr (.box sb) 0)=aa S:=dg LC F2 rfl;have lSn:=kf.out.2.2.2.2.ej;rcases dI (jh owners az).length s.length with aA|dM
  ·have iG:mf ae owners ao az s=av:=by
    cases ho:mf ae owners ao az s with|false=>rfl|true=>unfold mf at ho;rw[bC,decide_eq_true_eq] at ho;have:=congrArg List.length ho.1;rw[bu,bu] at this;omega
   have FZ:res=(0,340):=(by rw[gH,aF iG]);have kr:=aj.mk FZ;obtain⟨a1,a2,a3,a4,a5,a6⟩:=AA Bk AW ag 0 340;have dd:decide ((((jh owners az).length:Nat):Int)<(s.length:Int))=ah:=bX ag;clear cF q iG gH FZ kf kW gk6 gs6 vu ge6 gw6 gp6 ga6 gb6 gsum6 gib6 hm w2 w3 sg p1 p3 ss og1 og2 og3 og4 iR v1 v2 v3 v4 v5 v6 tD CT AQ og F2 Bk AW Dr Bf zn C6 eg iT Bc aA;refine br @lh ?_;exact⟨_,_,rfl,by rw[kr.out]⟩
  have bH:(jh owners az).length=s.length:=by omega
  have Jh:mf ae owners ao az s=ah:=by unfold mf;rw[bH,fA] at iT Bc;rw[iT,Bc];simp
  have dd:decide ((((jh owners az).length:Nat):Int)<(s.length:Int))=av:=cI ag;rw[bH,fA] at zn;rw[aG (by rw[Jh];simp)] at gH;have c8:=Gv 4 d;have c9:=Gv 4 f;have hG:(4:Int).toNat=Gn:=rfl;rw[tj ue,hG] at c8 c9;have lpD:aI al Gt HF 3 (.ptr (.box pb) 2)=aa (.v (.int .i64 x.d)):=dg eM Bf rfl;have lpE:aI al Gt HF 3 (.ptr (.box pb) 3)=aa (.v (.int .i64 x.e)):=dg eM Bf rfl;obtain⟨a1,a2,a3,a4,a5,a6⟩:=AA Bk AW ag 0 420;by_cases eL:((bD Gn d:Nat):Int)=x.d;rotate_left 1
  ·have kr:=aj.mk (gH.trans (aF (.inl eL)));have dq:decide (((bD Gn d:Nat):Int)=x.d)=av:=cI eL;clear cF q Jh gH kf kW gk6 gs6 vu ge6 gw6 gp6 ga6 gb6 gsum6 gib6 hm w2 w3 sg p1 p3 ss og1 og2 og3 og4 iR v1 v2 v3 v4 v5 v6 tD CT AQ og F2 Bk AW Dr Bf zn C6 eg iT Bc dM bH hG eL;generalize ((bD Gn d:Nat):Int)=pd at *
   unfold im at *
   refine br @lh ?_;refine mW [(7,9)] ku au (λp hp=>?_) ?_
   ·simp only[mo] at hp;subst hp;refine aqD au rfl rfl au ?_ ?_
    ·simp only[hJ,fB];refine bM @lh @iP ?_;refine⟨by trivial,?_⟩;simp[eY,Kp]
    ·simp only[hJ,fB];exact jL @lh @iP
   refine bM @lh @iP ?_;exact⟨_,_,rfl,by rw[kr.out]⟩
  have dq:decide (((bD Gn d:Nat):Int)=x.d)=ah:=bX eL;by_cases gu:((bD Gn f:Nat):Int)=x.e;rotate_left 1
  ·have kr:=aj.mk (gH.trans (aF (.inr gu)));have dq2:decide (((bD Gn f:Nat):Int)=x.e)=av:=cI gu;clear cF q Jh gH kf kW gk6 gs6 vu ge6 gw6 gp6 ga6 gb6 gsum6 gib6 hm w2 w3 sg p1 p3 ss og1 og2 og3 og4 iR v1 v2 v3 v4 v5 v6 tD CT AQ og F2 Bk AW Dr Bf zn C6 eg iT Bc dM bH hG eL gu;generalize ((bD Gn d:Nat):Int)=pd at *
   generalize ((bD Gn f:Nat):Int)=pf at *
   unfold im at *
   refine br @lh ?_;refine mW [(7,9)] ku au (λp hp=>?_) ?_
   ·simp only[mo] at hp;subst hp;refine YT (x:=.ptr (.box pb) 3) (v:=.v (.int .i64 x.e)) au rfl rfl au (by simp[eT,mj]) ?_ ?_
    ·simp only[hJ,fB];refine bM @lh @iP ?_;refine⟨by trivial,?_,by trivial,by trivial⟩;simp[eY,Kp]
    ·simp only[hJ,fB];exact sf @lh @iP @and_self
   refine bM @lh @iP ?_;exact⟨_,_,rfl,by rw[kr.out]⟩
  have dq2:decide (((bD Gn f:Nat):Int)=x.e)=ah:=bX gu;rw[aG (by simp[eL,gu])] at gH;have kr:=aj.mk gH;obtain⟨b6,vr6,z1,z2,z3⟩:=kW.out.dT;have bW:c≠iL:=λe=>by rw[e] at z1;rw[gsum6] at z1;unfold gN at z1;simp at z1
  have Fy:c≠ib:=λe=>by rw[e] at z1;rw[gib6] at z1;unfold gN at z1;simp at z1
  have oT:=z3.1;have nM:=mM z3.four;rw[bu] at oT;have ahP:0<l.length:=K8.2 (λe=>by rw[e] at kxl;simp at kxl);have tw:b6≠iL:=λe=>by rw[e] at z2;rw[gsum6] at z2;injection z2 with z2;rw[<-z2] at nM;simp at nM;omega
  have tv:b6≠ib:=λe=>by rw[e] at z2;rw[gib6] at z2;injection z2 with z2;rw[<-z2] at nM;simp at nM;omega
  have WF:tW HF c ep X Y C T L Wt ((fN (ai ao 0) text l:Nat):Int) ((eQ (ai ao 0) text l:Nat):Int) ao text l:=
   ⟨⟨b6,vr6,og _ _ z1 bW Fy,og _ _ z2 tw tv,z3⟩,kW.out.Mg,kW.out.pos,kW.out.c0,kW.out.fh,kW.out.tl,kW.out.ll⟩
  obtain⟨_,_,cb,rfl,rfl⟩:=LS HF c ep X Y C T L Wt _ _ ao text l WF x ⟨ag,by omega⟩;rw[tD] at cb;have MT:=og _ _ z1 bW Fy;have lwb:aI al Gt HF 90 (.ptr (.box wb) 0)=aa (.ptr (.box c) 0):=dg vh Dr rfl;have lwb2:aI al Gt (HF.push (bF x)) 90 (.ptr (.box wb) 0)=aa (.ptr (.box c) 0):=dg vh (bg Dr) rfl;have lch:aI al Gt HF 3 (.ptr (.box c) 12)=aa (.v (.int .i64 ((eQ (ai ao 0) text l:Nat):Int))):=dg eM MT rfl;have lch2:aI al Gt (HF.push (bF x)) 3 (.ptr (.box c) 12)=aa (.v (.int .i64 ((eQ (ai ao 0) text l:Nat):Int))):=dg eM (bg MT) rfl;have lsu:aI al Gt HF 3 (.ptr (.box iL) 0)=aa (.v (.int .i64 (jF (eF ae owners l) s))):=dg eM zn rfl;have lsu2:aI al Gt (HF.push (bF x)) 3 (.ptr (.box iL) 0)=aa (.v (.int .i64 (jF (eF ae owners l) s))):=dg eM (bg zn) rfl;have lpp:=vU Bf;have m1:=Gi f ((eC (ai ao 0) text l az:Nat):Int);have m2:=HQ d (b9 f ((eC (ai ao 0) text l az:Nat):Int));have m3:=Gi ((eQ (ai ao 0) text l:Nat):Int) (jF (eF ae owners l) s);have m4:=HQ (cP d (b9 f ((eC (ai ao 0) text l az:Nat):Int))) (b9 ((eQ (ai ao 0) text l:Nat):Int) (jF (eF ae owners l) s));obtain⟨t1,t2,t3,t4,t5,t6⟩:=AA (Hx:=HF.push (bF x)) (bg Bk) (bg AW) ag (cP (cP d (b9 f ((eC (ai ao 0) text l az:Nat):Int))) (b9 ((eQ (ai ao 0) text l:Nat):Int) (jF (eF ae owners l) s))) 0;clear cF q Jh gH kf kW gk6 gs6 vu ge6 gw6 gp6 ga6 gb6 gsum6 gib6 hm w2 w3 sg p1 p3 ss og1 og2 og3 og4 iR v1 v2 v3 v4 v5 v6 tD CT AQ og F2 Bk AW Dr Bf zn C6 eg iT Bc dM bH hG eL gu a1 a2 a3 a4 a5 a6 WF MT z1 z2 z3 bW Fy tw tv oT nM ahP kxl;generalize cP (cP d (b9 f ((eC (ai ao 0) text l az:Nat):Int))) (b9 ((eQ (ai ao 0) text l:Nat):Int) (jF (eF ae owners l) s))=zz at *
  generalize cP d (b9 f ((eC (ai ao 0) text l az:Nat):Int))=za at *
  generalize b9 f ((eC (ai ao 0) text l az:Nat):Int)=zm at *
  generalize b9 ((eQ (ai ao 0) text l:Nat):Int) (jF (eF ae owners l) s)=zs at *
  generalize ((eC (ai ao 0) text l az:Nat):Int)=bv at *
  generalize ((eQ (ai ao 0) text l:Nat):Int)=chv at *
  generalize jF (eF ae owners l) s=wv at *
  generalize ((bD Gn d:Nat):Int)=pd at *
  generalize ((bD Gn f:Nat):Int)=pf at *
  unfold im at *
  refine br @lh ?_;refine mW [(7,9)] ku au (λp hp=>?_) ?_
  ·simp only[mo] at hp;subst hp;refine YT (x:=.ptr (.box pb) 3) (v:=.v (.int .i64 x.e)) au rfl rfl au (by simp[eT,mj]) ?_ ?_
   ·simp only[hJ,fB];refine bM @lh @iP ?_;refine⟨by trivial,?_,by trivial,by trivial⟩;simp[eY,Kp]
   ·simp only[hJ,fB];exact sf @lh @iP @and_self
  refine bM @lh @iP ?_;refine mW [(4,7),(4,10),(4,11)] ku au (λp hp=>?_) ?_
  ·simp only[gO,tT,or_false] at hp;rcases hp with rfl|rfl|rfl
   ·refine qH (x:=.ptr (.box wb) 0) (v:=.ptr (.box c) 0) au rfl rfl rfl au (Ys c 0) ?_ ?_<;>(simp only[hJ,fB];exact sf @lh @iP @and_self)
   ·refine qH (x:=.ptr (.box c) 12) (v:=.v (.int .i64 chv)) au rfl rfl rfl au (by simp[eT,mj]) ?_ ?_<;>(simp only[hJ,fB];exact mP @lh @iP @qh @and_self)
   ·refine qH (x:=.ptr (.box iL) 0) (v:=.v (.int .i64 wv)) au rfl rfl rfl au (by simp[eT,mj]) ?_ ?_<;>(simp only[hJ,fB];exact mP @lh @iP @qh @and_self)
  refine cY @lh @iP @qh ?_;exact⟨_,_,rfl,by rw[kr.out]⟩
def GK:Tryz.f173.results.toList=[.tmp 4]:=by kernel_rfl
def zK(a b:Tok):Prop:=∀m,a=.free m->b≠ .free m
def zK.symm{a b}(h:zK a b):zK b a:=λm hb ha=>h m ha hb
def oL(ts:List Tok)(ae:List (List Int)):List AV:=List.zipWith (λt r=>AV.list t 1 (ints r)) ts ae
def qc(ae:List (List Int))(n:Nat):List (List Int):=(bO n).map λk=>ae.map λr=>ai r k
def aeq(ae)(k):qc ae (k+1)=qc ae k++[ae.map λr=>ai r k]:=by unfold qc;rw[ob,lU];rfl
def SV(ae)(k):(qc ae k).length=k:=by unfold qc;simp
structure vg(h H:ak)(x:AV)(ts:List Tok)(ae:List (List Int))(t:Tok):Prop where
 can:∀u∈t::ts,dj h.tn H u
 Fe:(t::ts).Pairwise zK
 len:ts.length=ae.length
 ok:cA H=ah
 ext:Ext h H
 Hj:(ae=[]/\x=.list .tight 1 [])∨(ae≠[]/\∃b,x=.arr b 0 ae.length ae.length/\H.boxes[b]?=aa (oL ts ae)/\h.boxes.length<=b)
def adZ{ts}{ae}(h:ts.length=ae.length):(oL ts ae).length=ae.length:=by unfold oL;rw[List.length_zipWith,h,Nat.min_self]
def ad0{ts}{ae}(h:ts.length=ae.length)(t)(r):oL (ts++[t]) (ae++[r])=oL ts ae++[.list t 1 (ints r)]:=by unfold oL;rw[List.zipWith_append h];rfl
def Mc{n0}{h}{k}(hk:dj n0 h k)(ho:cA h=ah)(hn:n0<=h.tn):dj n0 (h.app k) (.free h.tn):=(Grown.one hk ho hn).can
def ab1{n0}{h}{k}(hk:dj n0 h k):zK (.free h.tn) k:=by
 rintro m q rfl;injection q with q;rcases hk with q2|q2|⟨n,q2,-,q3⟩
 ·cases q2
 ·cases q2
 ·injection q2 with q2;have:=tX q3;omega
def vg.app{h H}{x}{ts}{ae}{t}(w:vg h H x ts ae t):vg h (H.app t) x ts ae (.free H.tn):=by
 have hc:=w.can t fR;have hd:=EI.1 w.Fe;refine⟨λu hu=>?_,EI.2 ⟨λu hu=>ab1 (w.can u (fi _ hu)),hd.2⟩,w.len,Cu w.ok hc,(Grown.one hc w.ok w.ext.tn).ext w.ext (aJ _),?_⟩
 ·rcases gO.1 hu with rfl|hu
  ·exact Mc hc w.ok w.ext.tn
  ·exact Ib (w.can u (fi _ hu)) (hd.1 u hu)
 ·rw[eu];exact w.Hj
def vg.close{h H}{x}{ts}{ae}{t}(w:vg h H x ts ae t)(r)(hl:ae.length<1000000):
 ∃x2 H2,qI al H #[22,22] x (.list .tight 1 [[.list t 1 (ints r)]])=aa (x2,H2)/\vg h H2 x2 (ts++[t]) (ae++[r]) .tight:=by
 obtain⟨i,q1,q2,q3,q4⟩:=Jk;have tu:=pg (ag:ae.length+1<=1000000) q3;have hd:=EI.1 w.Fe;have UE:(Tok.tight::(ts++[t])).Pairwise zK:=by refine EI.2 ⟨λu _ m hm=>(by cases hm),List.pairwise_append.2 ⟨hd.2,by simp,λa ha b hb=>?_⟩⟩;rw[mo] at hb;subst hb;exact(hd.1 a ha).symm
 have Uw:∀H2:ak,(∀u,dj h.tn H u->dj h.tn H2 u)->∀u∈Tok.tight::(ts++[t]),dj h.tn H2 u:=by
  intro H2 hm u hu;rcases gO.1 hu with rfl|hu
  ·exact .inr (.inl rfl)
  ·rcases List.mem_append.1 hu with hu|hu
   ·exact hm u (w.can u (fi _ hu))
   ·rw[mo] at hu;exact hm u (w.can u (by rw[hu];exact fR))
 have hlen:(ts++[t]).length=(ae++[r]).length:=by simp[w.len]
 rcases w.Hj with⟨rfl,rfl⟩|⟨bH,b,rfl,hb,dM⟩
 ·have hts:ts=[]:=List.eq_nil_of_length_eq_zero w.len;subst hts;have:=Kz (h:=H) (k:=.tight) (sz:=1) (es:=[]) (new:=[[.list t 1 (ints r)]]) (x:=.list .tight 1 [[.list t 1 (ints r)]]) iq iq q1 ag (by rw[q2];exact q4) bh (by simp;omega) bh (.inl q2.symm) (.inr rfl) (by rw[q2];rfl);exact⟨_,_,this,Uw _ λu hu=>hu,UE,hlen,w.ok,w.ext.trans (.push _ _),.inr ⟨bh,H.boxes.length,rfl,a9 _ _,w.ext.len⟩⟩
 ·have jW:0<ae.length:=K8.2 bH;have dC:=adZ w.len;have:=Qu (h:=H) (b:=b) (len:=ae.length) (cs:=oL ts ae) (new:=[[.list t 1 (ints r)]]) (x:=.list .tight 1 [[.list t 1 (ints r)]]) iq iq q1 ag (by rw[q2];exact q4) bh (by simp;omega) (by simp;omega) hb jW (by rw[q2,dC];omega) (by rw[q2];rfl);refine⟨_,_,this,Uw _ λu hu=>hu,UE,hlen,?_,(w.ext.fO dM _).trans (.push _ _),.inr ⟨bh,H.boxes.length,by simp,?_,w.ext.len⟩⟩
  ·exact w.ok
  ·rw[ad0 w.len];exact mB (by rw[mh])
def arM(h:ak)(bA:cA h=ah)(x:AV)(ae:List (List Int))(n:Nat)(hx:RL x ae)(hw:∀r∈ae,r.length=n)(hr:ae.length<=1000)(hn:n<=1000):
 ∃r h',W5.call 173 [x,im (n:Nat)] h=aa (r,h')/\∃X ts,r=.ret X/\vg h h' X ts (qc ae n) .tight:=by
 obtain⟨kx0,sx,xs,rfl,tC,dx,dR⟩:=hx;have kx:=aj.mk (ar tC (ar dR hw));clear tC dR hw;have u23:=dJ;have u22:=iq;have z23:=iM;have z3:=fP;have Jg:(xs.map λa=>[a]).length=ae.length:=by rw[bu];exact dx
 have b0:fC al 22 0 []=aa (.list .tight 1 []):=by kernel_rfl
 have b1:fC al 23 0 []=aa (.list .tight 1 []):=by kernel_rfl
 have T0:vg h h (.list .tight 1 []) [] (qc ae 0) .tight:=⟨λu hu=>.inr (.inl (by simpa using hu)),by simp,rfl,bA,.refl _,.inl ⟨rfl,rfl⟩⟩;unfold im;refine df rfl Tryz.func173 rfl ?_;refine br @GK ?_;refine cq (λm e H=>∃(k:Nat) (X:AV) (ts:List Tok),k<=n/\m=n - k/\aj (vg h H X ts (qc ae k) .tight)/\e.get 0=.list kx0 sx (xs.map λa=>[a])/\e.get 1=.v (.int .i64 (n:Nat))/\e.get 5=X/\e.get 6=.v (.int .i64 (k:Nat))/\e.defers=[]) ?_ n _ _ ?_;rotate_left 1
 ·refine⟨0,_,[],cr _,rfl,⟨T0⟩,?_,?_,?_,?_,?_⟩<;>first|(simp only[gW,reduceIte,aX,aR,b0];done)|(simp only[gW,reduceIte,aX,aR,b0]<;>rfl)
 clear T0;rintro m e H ⟨k,X,ts,hk,rfl,kT,g0,g1,g5,g6,hd⟩;by_cases rn:k<n;rotate_left 1
 ·have:k=n:=by omega
  subst this;refine br @GK ?_;exact⟨_,_,rfl,X,ts,rfl,kT.out⟩
 have hkI:(k:Int)<(n:Int):=by omega
 refine br @GK ?_;refine bG.gen λe0 aD bI cT cJ=>?_;have f0:e0.get 0=.list kx0 sx (xs.map λa=>[a]):=by rw[aD];simp only[gW,reduceIte,aX,aR];exact g0
 have f1:e0.get 1=.v (.int .i64 (n:Nat)):=by rw[aD];simp only[gW,reduceIte,aX,aR];exact g1
 have f5:e0.get 5=X:=by rw[aD];simp only[gW,reduceIte,aX,aR];exact g5
 have f6:e0.get 6=.v (.int .i64 (k:Nat)):=by rw[aD];simp only[gW,reduceIte,aX,aR];exact g6
 have f7:e0.get 7=.list .tight 1 (ints []):=by rw[aD];exact gR
 have f8:e0.get 8=.v (.int .i64 (0:Nat)):=by rw[aD];exact gR
 have fd:e0.defers=[]:=by rw[bI];simp only[gW,reduceIte,aX,aR];exact hd
 clear aD bI cT cJ g0 g1 g5 g6 hd b0 b1;refine cq (λm e H=>∃(i:Nat) (t:Tok),i<=ae.length/\m=ae.length - i/\aj (vg h H X ts (qc ae k) t)/\e.get 0=.list kx0 sx (xs.map λa=>[a])/\e.get 1=.v (.int .i64 (n:Nat))/\e.get 5=X/\e.get 6=.v (.int .i64 (k:Nat))/\e.get 7=.list t 1 (ints ((ae.take i).map λr=>ai r k))/\e.get 8=.v (.int .i64 (i:Nat))/\e.defers=[]) ?_ ae.length _ _ ?_;rotate_left 1
 ·exact⟨0,.tight,cr _,rfl,kT,f0,f1,f5,f6,f7,f8,fd⟩
 clear f0 f1 f5 f6 f7 f8 fd kT;rintro m e2 H2 ⟨i,t,hi,rfl,kT,g0,g1,g5,g6,g7,g8,hd⟩;by_cases iu:i<ae.length
 ·obtain⟨a,ha⟩:∃a,xs[i]?=aa a:=⟨_,aO ag⟩;obtain⟨r,hr⟩:∃r,ae[i]?=aa r:=⟨_,aO iu⟩;have tC:sx=1:=kx.out.1 (by intro q;rw[q] at iu;simp at iu);subst tC;obtain⟨ka,sa,rfl,iZ⟩:=kx.out.2.1 i a r ha hr;have cO:=kx.out.2.2 r (de hr);have N2:sa=1:=iZ (by intro q;rw[q] at cO;simp at cO;omega);subst N2;have l1:=jY (H:=H2) (s:=1) ha;have l2:=e7 (H:=H2) (l:=r) (i:=k) (s:=1) ag;have vN:(ints r).length=n:=by rw[dn];exact cO
  have bl:=po (ai r k);have ap:=tY (x:=ai r k) (es:=(ae.take i).map λr=>ai r k) (sz:=1) (show((ae.take i).map λr=>ai r k).length<1099511627776 by rw[bu,eP];omega) (.inl rfl) (kT.out.can t fR);have iH:((ae.take i).map λr=>ai r k)++[ai r k]=(ae.take (i+1)).map λr=>ai r k:=by rw[fH hr,lU];rfl
  rw[iH] at ap;have kT2:=aj.mk kT.out.app;have IT:(i:Int)<(ae.length:Int):=by omega
  clear ha hr iZ cO iH kT;refine bM @GK @a8 ?_;exact⟨ae.length - (i+1),by omega,i+1,_,by omega,rfl,kT2,by simp⟩
 ·have fK:i=ae.length:=by omega
  subst fK;rw[fA] at g7;obtain⟨X2,H3,c1,c2⟩:=kT.out.close (ae.map λr=>ai r k) (by rw[SV];omega);rw[<-aeq] at c2;have kT2:=aj.mk c2;have bl:=H8 (.list t 1 (ints (ae.map λr=>ai r k))) rfl;clear c2 kT;refine br @GK ?_;exact⟨n - (k+1),by omega,k+1,X2,_,by omega,rfl,kT2,by simp⟩
def ya:Tryz.f174.results.toList=[.tmp 4,.tmp 5]:=by kernel_rfl
def rW(H:ak)(b:Nat)(t:List (List Int)):Prop:=∃cs:List AV,H.boxes[b]?=aa cs/\cs.length=t.length/\∀(i:Nat) a r,cs[i]?=aa a->t[i]?=aa r->IL a r
def rW.mono{H H'}{b}{t}(T:rW H b t)(m:∀cs,H.boxes[b]?=aa cs->H'.boxes[b]?=aa cs):rW H' b t:=by obtain⟨cs,h1,h2⟩:=T;exact⟨cs,m cs h1,h2⟩
def Dx{b len aB n}{k}(hn:n<len):dy al 22 (.arr b 0 len aB) (.v (.int k (n:Nat)))=aa (.ptr (.box b) n):=by rw[Du iq iM ag ag,dL,Nat.mul_one,oF]
def Y7{H}{b k s n:Nat}{t}{cs}{es}(hb:H.boxes[b]?=aa cs)(hk:k<cs.length):ct al H 23 (.ptr (.box b) k) (.list t s es)=aa (H.put b (cs.set k (.list t s es))):=by rw[gL (xs:=[AV.list t s es]) rfl iM hb rfl hk];congr 2;unfold eE;rw[List.set_eq_take_append_cons_drop,aF hk];simp
def rW.load{H}{b i}{t}{r}(T:rW H b t)(hr:t[i]?=aa r):∃k s,aI al Gt H 23 (.ptr (.box b) i)=aa (.list k s (ints r))/\(r≠[]->s=1):=by obtain⟨cs,h1,h2,h3⟩:=T;obtain⟨a,ha⟩:∃a,cs[i]?=aa a:=⟨_,aO (by rw[h2];exact(aP.1 hr).1)⟩;obtain⟨k,s,rfl,hs⟩:=h3 i a r ha hr;exact⟨k,s,sM h1 ha,hs⟩
def rW.store{H}{b i}{t}{r}{k}{s}(T:rW H b t)(hi:i<t.length)(hs:r≠[]->s=1):∃H',ct al H 23 (.ptr (.box b) i) (.list k s (ints r))=aa H'/\rW H' b (t.set i r)/\∃cs,H'=H.put b cs:=by
 obtain⟨cs,h1,h2,h3⟩:=T;refine⟨_,Y7 (n:=0) h1 ag,⟨_,ev (aP.1 h1).1,by rw[mn,mn,h2],λj a q ha hq=>?_⟩,_,rfl⟩;rw[lR] at ha hq;by_cases e:i=j
 ·subst e;rw[aF rfl,aF ag] at ha;rw[aF rfl,aF hi] at hq;injection ha with ha;injection hq with hq;subst ha;subst hq;exact⟨k,s,rfl,hs⟩
 ·rw[aG e] at ha hq;exact h3 j a q ha hq
def tF(c:Nat)(own:List Int)(j:Nat)(t:List (List Int)):List (List Int):=t.mapIdx λi a=>if i<j then iI (ai a c) a own else a
def OD(c)(own)(j)(t):(tF c own j t).length=t.length:=by unfold tF;simp
def DF(c)(own)(j)(t)(i):(tF c own j t)[i]?=t[i]?.map λa=>if i<j then iI (ai a c) a own else a:=by unfold tF;rw[List.getElem?_mapIdx]
def ajd(c)(own)(t):tF c own 0 t=t:=by apply p8;intro i;rw[DF];cases t[i]?<;>simp
def aja(c)(own)(t):tF c own t.length t=t.map λa=>iI (ai a c) a own:=by
 apply p8;intro i;rw[DF,dW];cases h:t[i]? with|none=>rfl|some a=>rw[eJ,eJ,aF (aP.1 h).1]
def ajb{c}{own}{j}{t}:(tF c own j t)[j]?=t[j]?:=by rw[DF];cases t[j]?<;>simp
def ajc{c}{own a}{j}{t}(hj:t[j]?=aa a):(tF c own j t).set j (iI (ai a c) a own)=tF c own (j+1) t:=by
 apply p8;intro i;have hl:=(aP.1 hj).1;rw[lR,OD];by_cases e:j=i
 ·subst e;rw[aF rfl,aF hl,DF,hj,eJ,aF (Nat.lt_succ_self _)]
 ·rw[aG e,DF,DF];congr 1;funext a;by_cases h:i<j
  ·rw[aF h,aF ag]
  ·rw[aG h,aG ag]
def j8(t:List (List Int))(c:Nat):List (List Int) × List Nat:=(bO c).foldl mY (t,[])
def XA(t)(c):j8 t (c+1)=mY (j8 t c) c:=by unfold j8;rw[ob,nY];rfl
def Ps{t}{w}(hl:∀a∈t,a.length=w)(ho:∀a∈t,∀x∈a,okF x):∀c,c<=w->vd w c (j8 t c)/\(j8 t c).1.length=t.length/\(j8 t c).2.length<=t.length:=by
 intro c
 induction c with
 |zero=>intro _;exact⟨⟨hl,ho,λ_ _ _ _ j hj=>by omega⟩,rfl,cr _⟩|succ c ih=>
  intro hc;obtain⟨h1,h2,h3⟩:=ih ag;rw[XA];refine⟨Kr h1 ag,?_,?_⟩
  ·unfold mY;split
   ·exact h2
   ·simp[h2]
  ·unfold mY;split
   ·exact h3
   ·rename_i k hk;obtain⟨k1,k2,-⟩:=AB hk;simp;omega
def aqK{t}{pv}{c k}{b o}(hf:nK t pv.length c=aa k)(hb:t[k]?=aa b)(ho:t[pv.length]?=aa o):
 mY (t,pv) c=((tF c (scaleB b (dV (ai b c))) t.length (t.set k o)).set pv.length (scaleB b (dV (ai b c))),pv++[c]):=by
 have gb:t.getD k []=b:=by rw[dP,hb];rfl
 have go:t.getD pv.length []=o:=by rw[dP,ho];rfl
 unfold mY;simp only[hf,gb,go];rw[show t.length=(t.set k o).length by rw[mn],aja]
def YW{t}{pv}{c}(hf:nK t pv.length c=aq):mY (t,pv) c=(t,pv):=by unfold mY;simp only[hf]
structure tc(h H:ak)(b:Nat)(t:List (List Int))(k:Tok):Prop where
 tb:rW H b t
 can:dj h.tn H k
 ok:cA H=ah
 ext:Ext h H
 low:h.boxes.length<=b
def tc.put{h H}{b}{t t'}{k}(R:tc h H b t k)(cs)(T:rW (H.put b cs) b t'):tc h (H.put b cs) b t' k:=
 ⟨T,R.can,R.ok,R.ext.fO R.low cs,R.low⟩
def tc.app{h H}{b}{t}{k}(R:tc h H b t k):tc h (H.app k) b t (.free H.tn):=
 ⟨R.tb.mono λcs q=>by rw[eu];exact q,Mc R.can R.ok R.ext.tn,Cu R.ok R.can,(Grown.one R.can R.ok R.ext.tn).ext R.ext (aJ _),R.low⟩
def afV(x):0<=dV x/\dV x<=9223372036854775807:=xT (Mp _)
def ajg(x y)(a own)(n)(hx:IL x a)(hy:IL y own)(hl:own.length=a.length)(hw:a.length<=1000000):∀h,W5.call 196 [x,y,im n] h=aa (.ret (.list .held 1 (ints (iI n a own))),h):=by obtain⟨h1,h2⟩:=hx.hold;obtain⟨h3,h4⟩:=hy.hold;exact gJ (L:=L5) (cd:=[aC x,aC y,im n]) rfl rfl (by simp[aU,h2,h4,aL,im]) (ajf (aC x) (aC y) a own n h1 h3 hl hw _) rfl (by simp[aL,nh,qJ])
def arI(x)(a)(n)(hx:IL x a)(hw:a.length<=1000000)(hn:0<=n/\n<=9223372036854775807):∀h,W5.call 195 [x,im n] h=aa (.ret (.list .held 1 (ints (scaleB a n))),h):=by obtain⟨h1,h2⟩:=hx.hold;exact gJ (L:=L5) (cd:=[aC x,im n]) rfl rfl (by simp[aU,h2,aL,im]) (arH (aC x) a n h1 hw hn _) rfl (by simp[aL,nh,qJ])
def amr(x y)(ae)(target)(hx:RL x ae)(hy:IL y target)(hr:ae.length<=64)(hw:∀r∈ae,r.length=target.length)(nt:target.length<=64)(bA:∀r∈ae,∀x∈r,okF x)(nP:∀x∈target,okF x):
 ∀h,W5.call 172 [x,y] h=aa (.ret (.v (.int .i64 0)),h):=by
 obtain⟨h1,h2⟩:=hx.fF;obtain⟨h3,h4⟩:=hy.hold;exact gJ (L:=L5) (cd:=[aC x,aC y]) rfl rfl (by simp[aU,h2,h4]) (amq (aC x) (aC y) ae target h1 h3 hr hw nt bA nP _) rfl rfl
def amh(h:ak)(bA:cA h=ah)(b:Nat)(ae:List (List Int))(w many:Nat)(hT:rW h b ae)(h0:0<ae.length)(hl:∀a∈ae,a.length=w)(ho:∀a∈ae,∀x∈a,okF x)(hm:many<=w)(hr:ae.length<=1000)(hw:w<=1000):
 ∃r h',W5.call 174 [.arr b 0 ae.length ae.length,im (many:Nat)] h=aa (r,h')/\∃b2 Z,r=.ret (.tuple [.arr b2 0 ae.length ae.length,Z])/\rW h' b2 (j8 ae many).1/\(j8 ae many).1.length=ae.length/\IL Z (b7 (j8 ae many).2)/\Ext h h':=by
 have u23:=dJ;have u22:=iq;have z23:=iM;have z3:=fP;have bn2:fC al 22 0 []=aa (.list .tight 1 []):=by kernel_rfl
 have bn3:fC al 23 0 []=aa (.list .tight 1 []):=by kernel_rfl
 obtain⟨H1,ap,R0⟩:∃H1,qI al h #[22,22] (.list .tight 1 []) (.arr b 0 ae.length ae.length)=aa (.arr h.boxes.length 0 ae.length ae.length,H1)/\tc h H1 h.boxes.length ae .tight:=by
  obtain⟨cs,t1,t2,t3⟩:=hT;obtain⟨i,q1,q2,q3,q4⟩:=Jk;have tu:=pg (ag:ae.length<=1000000) q3;have hn:=(dE.box (sz:=1) (h:=h) (b:=b) (n:=ae.length) (ae:=cs.map λc=>[c]) (λr hr=>by obtain⟨c,-,rfl⟩:=jo.1 hr;rfl) (by rw[bu,t2]) (by rw[Ec];exact t1)).news;have pM:(cs.map λc=>[c]).length=ae.length:=by rw[bu,t2]
  have bH:(cs.map λc=>[c])≠[]:=by intro q;rw[q] at pM;simp at pM;omega
  have:=Kz (h:=h) (k:=.tight) (sz:=1) (es:=[]) (new:=cs.map λc=>[c]) (x:=.arr b 0 ae.length ae.length) iq iq q1 ag (by rw[q2];exact q4) bH (by rw[pM];simp;omega) (by rw[pM];simp;omega) (.inl q2.symm) (.inr rfl) (by rw[q2];exact hn);rw[pM,jI,oF,List.nil_append,Ec] at this;exact⟨_,this,⟨⟨cs,a9 _ _,t2,t3⟩,.inr (.inl rfl),bA,.push _ _,aJ _⟩⟩
 have kR0:=aj.mk R0;have kl:=aj.mk (ar hl ho);clear hT R0 hl ho;unfold im;refine df rfl Tryz.func174 rfl ?_;refine br @ya ?_;refine bG.gen λe0 aD bI cT cJ=>?_;have f1:e0.get 1=.v (.int .i64 (many:Nat)):=by rw[aD];exact gS
 have f6:e0.get 6=.arr h.boxes.length 0 ae.length ae.length:=by rw[aD];exact gS
 have f7:e0.get 7=.list .tight 1 (ints (b7 [])):=by rw[aD];exact gR
 have f8:e0.get 8=.v (.int .i64 (0:Nat)):=by rw[aD];exact gR
 have fd:e0.defers=[]:=by rw[bI];exact gS
 clear aD bI cT cJ ap bn2 bn3;refine cq (λm e H=>∃(c:Nat) (tk:Tok),c<=many/\m=many - c/\aj (tc h H h.boxes.length (j8 ae c).1 tk)/\e.get 1=.v (.int .i64 (many:Nat))/\e.get 6=.arr h.boxes.length 0 ae.length ae.length/\e.get 7=.list tk 1 (ints (b7 (j8 ae c).2))/\e.get 8=.v (.int .i64 (c:Nat))/\e.defers=[]) ?_ many _ _ ?_;rotate_left 1
 ·exact⟨0,.tight,cr _,rfl,kR0,f1,f6,f7,f8,fd⟩
 clear kR0 f1 f6 f7 f8 fd;rintro m e H ⟨c,tk,hc,rfl,kR,g1,g6,g7,g8,hd⟩;by_cases ur:c<many;rotate_left 1
 ·have:c=many:=by omega
  subst this;refine br @ya ?_;exact⟨_,_,rfl,_,_,rfl,kR.out.tb,(Ps kl.out.1 kl.out.2 c hm).2.1,⟨_,_,rfl,λ_=>rfl⟩,kR.out.ext⟩
 obtain⟨RO,tl,pl⟩:=Ps kl.out.1 kl.out.2 c ag;have ksucc:aj (j8 ae (c+1)=mY ((j8 ae c).1,(j8 ae c).2) c):=⟨XA ae c⟩;have kRO:=aj.mk RO;clear RO;generalize j8 ae c=st at *
 obtain⟨t,pv⟩:=st;dsimp only at *
 have FW:(ints (b7 pv)).length=pv.length:=by rw[dn];unfold b7;rw[bu]
 have hcI:(c:Int)<(many:Int):=by omega
 refine br @ya ?_;refine bG.gen λe0 aD bI cT cJ=>?_;have f1:e0.get 1=.v (.int .i64 (many:Nat)):=by rw[aD];simp only[gW,reduceIte,aX,aR];exact g1
 have f6:e0.get 6=.arr h.boxes.length 0 ae.length ae.length:=by rw[aD];simp only[gW,reduceIte,aX,aR];exact g6
 have f7:e0.get 7=.list tk 1 (ints (b7 pv)):=by rw[aD];simp only[gW,reduceIte,aX,aR];exact g7
 have f8:e0.get 8=.v (.int .i64 (c:Nat)):=by rw[aD];simp only[gW,reduceIte,aX,aR];exact g8
 have f9:e0.get 9=.v (.int .i64 (pv.length:Nat)):=by rw[aD];exact gS
 have f10:e0.get 10=.v (.int .i64 (pv.length:Nat)):=by rw[aD];exact gS
 have fd:e0.defers=[]:=by rw[bI];simp only[gW,reduceIte,aX,aR];exact hd
 clear aD bI cT cJ g1 g6 g7 g8 hd;refine cq (λm e H2=>∃j:Nat,j<=ae.length/\pv.length<=j/\m=ae.length - j/\aj (∀k,pv.length<=k->k<j->ai (t.getD k []) c=0)/\e.get 1=.v (.int .i64 (many:Nat))/\e.get 6=.arr h.boxes.length 0 ae.length ae.length/\e.get 7=.list tk 1 (ints (b7 pv))/\e.get 8=.v (.int .i64 (c:Nat))/\e.get 9=.v (.int .i64 (pv.length:Nat))/\e.get 10=.v (.int .i64 (j:Nat))/\e.defers=[]/\H2=H) ?_ (ae.length - pv.length) _ _ ?_;rotate_left 1
 ·exact⟨pv.length,pl,aJ _,rfl,⟨λk q1 q2=>absurd q2 ag⟩,f1,f6,f7,f8,f9,f10,fd,rfl⟩
 clear f1 f6 f7 f8 f9 f10 fd;rintro m e2 H2 ⟨j,hj,NO,rfl,kz,g1,g6,g7,g8,g9,g10,hd,rfl⟩;by_cases hjn:j<ae.length;rotate_left 1
 ·have nO:j=ae.length:=by omega
  subst nO;have NC:nK t pv.length c=aq:=by rw[Iu (j:=ae.length) NO ag kz.out (λq=>absurd q ag),aF tl.symm]
  have kR2:aj (tc h H2 h.boxes.length (j8 ae (c+1)).1 tk):=⟨by rw[ksucc.out,YW NC];exact kR.out⟩;have k7:(j8 ae (c+1)).2=pv:=by rw[ksucc.out,YW NC]
  have k7:=aj.mk k7;clear NC;refine br @ya ?_;exact⟨many - (c+1),by omega,c+1,tk,by omega,rfl,kR2,by first|trivial|assumption,by first|trivial|assumption,by rw[k7.out],by simp⟩
 obtain⟨rb,Di⟩:∃r,t[j]?=aa r:=⟨_,aO ag⟩;have UN:t.getD j []=rb:=by rw[dP,Di];rfl
 have FY:=kRO.out.len rb (de Di);have Vu:=kRO.out.ok rb (de Di);obtain⟨k1,s1,ld1,bB⟩:=kR.out.tb.load Di;have bB:s1=1:=bB (by intro q;rw[q] at FY;simp at FY;omega);subst bB;have ix1:=Dx (b:=h.boxes.length) (len:=ae.length) (aB:=ae.length) (k:=.i64) hjn;have C8:(ints rb).length=w:=by rw[dn];exact FY
 have l1:=e7 (H:=H2) (l:=rb) (i:=c) (s:=1) ag;have UW:(j:Int)<(ae.length:Int):=by omega
 have hcw:(c:Int)<(w:Int):=by omega
 have kb:=aj.mk (ar Di (ar UN (ar FY Vu)));clear Di UN FY Vu;by_cases hz:ai rb c=0
 ·have eL:decide (ai rb c=0)=ah:=by simp[hz]
  have kz2:aj (∀k,pv.length<=k->k<j+1->ai (t.getD k []) c=0):=⟨λk q1 q2=>by
   rcases dI k j with q|q
   ·exact kz.out k q1 q
   ·have:k=j:=(by omega);subst this;rw[kb.out.2.1];exact hz⟩
  generalize ai rb c=z at *
  clear hz;refine bM @ya @a8 ?_;exact⟨ae.length - (j+1),by omega,j+1,by omega,by omega,rfl,kz2,by simp⟩
 have eL:decide (ai rb c=0)=av:=by simp[hz]
 have Vx:nK t pv.length c=aa j:=by rw[Iu (j:=j) NO ag kz.out (λ_=>by rw[kb.out.2.1];exact hz),aG ag]
 obtain⟨ro,jO⟩:∃r,t[pv.length]?=aa r:=⟨_,aO ag⟩;have Vv:=kRO.out.len ro (de jO);obtain⟨k2,s2,ld2,lM⟩:=kR.out.tb.load jO;have ix2:=Dx (b:=h.boxes.length) (len:=ae.length) (aB:=ae.length) (k:=.i64) (ag:pv.length<ae.length);obtain⟨H3,st1,T3,cs3,rfl⟩:=kR.out.tb.store (i:=j) (k:=k2) ag lM;have kstep:=aj.mk (aqK Vx kb.out.1 jO);have R3:=kR.out.put cs3 T3;have okz:=pk kb.out.2.2.2 c;have vI:fmod (ai rb c)=ai rb c:=AH okz;have inv:=λh=>am3 (ai rb c) h;rw[vI,aG hz,aG hz] at inv;have tms:=arI (.list k1 1 (ints rb)) rb (dV (ai rb c)) ⟨_,_,rfl,λ_=>rfl⟩ (by rw[kb.out.2.2.1];omega) (afV _);have ry:(scaleB rb (dV (ai rb c))).length=w:=by rw[Yv];exact kb.out.2.2.1
 have l3:=e7 (H:=H2.put h.boxes.length cs3) (l:=rb) (i:=c) (s:=1) (by rw[kb.out.2.2.1];omega);have ec:∀a∈t.set j ro,a.length=w:=by
  intro a ha;rcases List.mem_or_eq_of_mem_set ha with q|q
  ·exact kRO.out.len a q
  ·rw[q];exact Vv
 have kall:=aj.mk ec;have ats:(t.set j ro).length=ae.length:=by rw[mn];exact tl
 have NM:(pv.length:Int)<(ae.length:Int):=by omega
 rw[tl] at kstep;generalize dV (ai rb c)=fz at *
 generalize scaleB rb fz=own at *
 generalize t.set j ro=t1 at *
 clear Vv jO lM Vx okz vI ec kz T3 kRO kR;have kR3:=aj.mk R3;clear R3;generalize ai rb c=z at *
 generalize H2.put h.boxes.length cs3=H3 at *
 clear hz;unfold im at inv tms;refine bM @ya @a8 ?_;refine bG.gen λe0 aD bI cT cJ=>?_;have f1:e0.get 1=.v (.int .i64 (many:Nat)):=by rw[aD];simp only[gW,reduceIte,aX,aR];exact g1
 have f6:e0.get 6=.arr h.boxes.length 0 ae.length ae.length:=by rw[aD];simp only[gW,reduceIte,aX,aR];exact g6
 have f7:e0.get 7=.list tk 1 (ints (b7 pv)):=by rw[aD];simp only[gW,reduceIte,aX,aR];exact g7
 have f8:e0.get 8=.v (.int .i64 (c:Nat)):=by rw[aD];simp only[gW,reduceIte,aX,aR];exact g8
 have f9:e0.get 9=.v (.int .i64 (pv.length:Nat)):=by rw[aD];simp only[gW,reduceIte,aX,aR];exact g9
 have f11:e0.get 11=.list .held 1 (ints own):=by rw[aD];exact gS
 have f14:e0.get 14=.v (.int .i64 (0:Nat)):=by rw[aD];exact gR
 have fd:e0.defers=[]:=by rw[bI];simp only[gW,reduceIte,aX,aR];exact hd
 clear aD bI cT cJ g1 g6 g7 g8 g9 g10 hd ld1 ld2 st1 inv tms l1 l3 eL ix1 C8;have kR4:aj (tc h H3 h.boxes.length (tF c own 0 t1) tk):=⟨by rw[ajd];exact kR3.out⟩;refine cq (λm e H=>∃i:Nat,i<=ae.length/\m=ae.length - i/\aj (tc h H h.boxes.length (tF c own i t1) tk)/\e.get 1=.v (.int .i64 (many:Nat))/\e.get 6=.arr h.boxes.length 0 ae.length ae.length/\e.get 7=.list tk 1 (ints (b7 pv))/\e.get 8=.v (.int .i64 (c:Nat))/\e.get 9=.v (.int .i64 (pv.length:Nat))/\e.get 11=.list .held 1 (ints own)/\e.get 14=.v (.int .i64 (i:Nat))/\e.defers=[]) ?_ ae.length _ _ ?_;rotate_left 1
 ·exact⟨0,cr _,rfl,kR4,f1,f6,f7,f8,f9,f11,f14,fd⟩
 clear f1 f6 f7 f8 f9 f11 f14 fd kR4 kR3;rintro m e3 H4 ⟨i,hi,rfl,kR,g1,g6,g7,g8,g9,g11,g14,hd⟩;by_cases iu:i<ae.length
 ·obtain⟨a,ha⟩:∃r,t1[i]?=aa r:=⟨_,aO ag⟩;have dY:=kall.out a (de ha);obtain⟨k1,s1,ld1,bB⟩:=kR.out.tb.load (ajb.trans ha);have bB:s1=1:=bB (by intro q;rw[q] at dY;simp at dY;omega);subst bB;have ix1:=Dx (b:=h.boxes.length) (len:=ae.length) (aB:=ae.length) (k:=.i64) iu;have C8:(ints a).length=w:=by rw[dn];exact dY
  have l1:=e7 (H:=H4) (l:=a) (i:=c) (s:=1) ag;have ls:=ajg (.list k1 1 (ints a)) (.list .held 1 (ints own)) a own (ai a c) ⟨_,_,rfl,λ_=>rfl⟩ ⟨_,_,rfl,λ_=>rfl⟩ ag ag;obtain⟨H5,st1,T5,cs5,rfl⟩:=kR.out.tb.store (i:=i) (r:=iI (ai a c) a own) (k:=.held) (s:=1) (by rw[OD];omega) (λ_=>rfl);rw[ajc ha] at T5;have kR5:=aj.mk (kR.out.put cs5 T5);have IT:(i:Int)<(ae.length:Int):=by omega
  clear T5 ha dY kR;generalize iI (ai a c) a own=la at *
  generalize ai a c=z1 at *
  generalize H4.put h.boxes.length cs5=H5 at *
  unfold im at ls;refine bM @ya @a8 ?_
  repeat' (first|simp(maxSteps:=999999)(disch:=first|exact dZ|fail)only[gW,reduceIte,aX,aR,ya,a8, *]|(refine dX ?_ ?_<;>(intro _;try omega))|refine ey ku iU ?_)
  exact⟨ae.length - (i+1),by omega,i+1,by omega,rfl,kR5,by simp⟩
 ·have fK:i=ae.length:=by omega
  subst fK;obtain⟨H5,st1,T5,cs5,rfl⟩:=kR.out.tb.store (i:=pv.length) (r:=own) (k:=.held) (s:=1) (by rw[OD];omega) (λ_=>rfl);have R6:=(kR.out.put cs5 T5).app;have bl:=po (c:Int);have ap:=tY (H:=H4.put h.boxes.length cs5) (x:=(c:Int)) (es:=b7 pv) (sz:=1) (show(b7 pv).length<1099511627776 by unfold b7;rw[bu];omega) (.inl rfl) ((kR.out.put cs5 T5).can);have ee:b7 pv++[(c:Int)]=b7 (pv++[c]):=by unfold b7;simp
  rw[ee] at ap;have kst:=aj.mk (ksucc.out.trans kstep.out);have kR6:aj (tc h ((H4.put h.boxes.length cs5).app tk) h.boxes.length (j8 ae (c+1)).1 (.free (H4.put h.boxes.length cs5).tn)):=⟨by rw[kst.out];exact R6⟩;have k7:aj ((j8 ae (c+1)).2=pv++[c]):=⟨by rw[kst.out]⟩;clear T5 R6 ee kstep kR;generalize H4.put h.boxes.length cs5=H5 at *
  refine br @ya ?_;exact⟨many - (c+1),by omega,c+1,_,by omega,rfl,kR6,by first|trivial|assumption,by first|trivial|assumption,by rw[k7.out],by simp⟩
def wg:Tryz.f133.results.toList=[.tmp 4,.tmp 5,.tmp 6]:=by kernel_rfl
structure EX(h H:ak)(b k:Nat)(t1 t2:List (List Int))(dc:List AV)(ts:List Tok):Prop where
 gv:H.boxes[b]?=aa (dc++oL ts (t2.drop k))
 dl:dc.length=k
 row:∀(i:Nat) a r,dc[i]?=aa a->t1[i]?=aa r->IL a r
 tl:ts.length=t2.length - k
 can:∀u∈ts,dj h.tn H u
 Fe:ts.Pairwise zK
 ok:cA H=ah
 ext:Ext h H
 low:h.boxes.length<=b
def EX.step{h H}{b k}{t1 t2}{dc}{ts}(J:EX h H b k t1 t2 dc ts){r}{x}(hr:t2[k]?=aa r)(h1:t1[k]?=aa (r++[x])):
 ∃t ts2,ts=t::ts2/\aI al Gt H 23 (.ptr (.box b) k)=aa (.list t 1 (ints r))/\dj h.tn H t/\∃H3,ct al (H.app t) 23 (.ptr (.box b) k) (.list (.free H.tn) 1 (ints (r++[x])))=aa H3/\EX h H3 b (k+1) t1 t2 (dc++[.list (.free H.tn) 1 (ints (r++[x]))]) ts2:=by
 have hk:=(aP.1 hr).1;have oq:t2.drop k=r::t2.drop (k+1):=by rw[zR hk,(aP.1 hr).2]
 obtain⟨t,ts2,rfl⟩:∃t ts2,ts=t::ts2:=by
  cases ts with|nil=>have:=J.tl;simp at this;omega|cons t ts2=>exact⟨t,ts2,rfl⟩
 have hd:=EI.1 J.Fe;have hc:=J.can t fR;have hb:=J.gv;have ecs:oL (t::ts2) (t2.drop k)=.list t 1 (ints r)::oL ts2 (t2.drop (k+1)):=by rw[oq];rfl
 rw[ecs] at hb;have js:=(aP.1 hb).1;have fk:(H.app t).boxes[b]?=aa (dc++ .list t 1 (ints r)::oL ts2 (t2.drop (k+1))):=by rw[eu];exact hb
 refine⟨t,ts2,rfl,sM hb (by rw[yu (by rw[J.dl];exact aJ _),J.dl,s9];rfl),hc,_,Y7 (n:=0) fk (by rw[dk,iW,J.dl];omega),?_⟩;have xC:(dc++AV.list t 1 (ints r)::oL ts2 (t2.drop (k+1))).set k (.list (.free H.tn) 1 (ints (r++[x])))=(dc++[.list (.free H.tn) 1 (ints (r++[x]))])++oL ts2 (t2.drop (k+1)):=by rw[List.set_append_right _ _ (by rw[J.dl];exact aJ _),J.dl,s9,List.set_cons_zero,rR];rfl
 rw[xC];refine⟨ev (by rw[eu];exact js),by rw[dk,J.dl];rfl,λi a q ha hq=>?_,?_,λu hu=>?_,hd.2,?_,?_,J.low⟩
 ·rcases dI i dc.length with aA|dM
  ·rw[List.getElem?_append_left aA] at ha;exact J.row i a q ha hq
  ·have:=(aP.1 ha).1;rw[dk] at this;have hi:i=dc.length:=(by simp at this;omega);subst hi;rw[List.getElem?_concat_length] at ha;rw[J.dl,h1] at hq;injection ha with ha;injection hq with hq;subst ha;subst hq;exact⟨_,_,rfl,λ_=>rfl⟩
 ·have:=J.tl;rw[iW] at this;omega
 ·exact Ib (J.can u (fi _ hu)) (hd.1 u hu)
 ·exact Cu J.ok hc
 ·exact((Grown.one hc J.ok J.ext.tn).ext J.ext (aJ _)).fO J.low _
def alT(pv):(ints (b7 pv)).length=pv.length:=by rw[dn];unfold b7;rw[bu]
def Z1(ae:List (List Int))(target:List Int)(h:ak)(r:eK)(h':ak):Prop:=
 Ext h h'/\((oN ae target=aq/\r=.ret (.tuple [.list .nil 0 [],.v (.bool av),im 0]))∨∃l b,oN ae target=aa l/\l.length=ae.length/\r=.ret (.tuple [.arr b 0 ae.length ae.length,.v (.bool ah),im 0])/\h'.boxes[b]?=aa (l.map im))
def aex(h:ak)(bA:cA h=ah)(x y:AV)(ae:List (List Int))(target:List Int)(hx:RL x ae)(hy:IL y target)(hr:ae.length<=64)(hw:∀r∈ae,r.length=target.length)(nt:target.length<=64)(h0:0<target.length)(FU:∀r∈ae,∀x∈r,okF x)(nP:∀x∈target,okF x):
 ∃r h',W5.call 133 [x,y] h=aa (r,h')/\Z1 ae target h r h':=by
 have c1:=amr x y ae target hx hy hr hw nt FU nP;obtain⟨_,H1,c2,X,ts,rfl,T1⟩:=arM h bA x ae target.length hx hw ag ag;obtain⟨t1,t2⟩:=Qw FU nP;have tl:=Qv ae target;have cl:=SV ae target.length;have e1:oN ae target=if ((j8 (fw ae target) ae.length).1.drop (j8 (fw ae target) ae.length).2.length).all (λa=>decide (ai a ae.length=0)) then aa (oC (j8 (fw ae target) ae.length) ae.length) else aq:=rfl
 obtain⟨RO,rl,rp⟩:=Ps t1 t2 ae.length ag;obtain⟨-,V⟩:=Gy t1 t2 (ag:ae.length<=ae.length+1);have V:Cn ae.length (j8 (fw ae target) ae.length):=V;rw[tl] at rl rp;obtain⟨b,hX,J0⟩:∃b,X=.arr b 0 target.length target.length/\EX h H1 b 0 (fw ae target) (qc ae target.length) [] ts:=by
  rcases T1.Hj with⟨q,-⟩|⟨-,b,q1,q2,q3⟩
  ·rw[q] at cl;simp at cl;omega
  ·rw[cl] at q1;exact⟨b,q1,⟨q2,rfl,λi a r q=>by simp at q,by rw[T1.len];rfl,λu hu=>T1.can u (fi _ hu),(EI.1 T1.Fe).2,T1.ok,T1.ext,q3⟩⟩
 subst hX;obtain⟨k,s,xs,rfl,hs,dx,dR⟩:=hx;obtain⟨ky,sy,rfl,jX⟩:=hy;have bB:sy=1:=jX (by intro q;rw[q] at h0;simp at h0);subst bB;have cH:(xs.map λa=>[a]).length=ae.length:=by rw[bu];exact dx
 have xu:=dn target;have u23:=dJ;have u22:=iq;have z23:=iM;have z3:=fP;have kJ0:=aj.mk J0;have kk:=aj.mk (ar t1 (ar t2 (ar RO (ar V e1))));have kcl:=aj.mk cl;clear T1 J0 hs dx dR jX hw FU nP t1 t2 RO V e1 cl;unfold im at c2;refine df rfl Tryz.func133 rfl ?_;refine br @wg ?_;refine bG.gen λe0 aD bI cT cJ=>?_;have f0:e0.get 0=.list k s (xs.map λa=>[a]):=by rw[aD];exact gS
 have f1:e0.get 1=.list ky 1 (ints target):=by rw[aD];exact gS
 have f8:e0.get 8=.arr b 0 target.length target.length:=by rw[aD];exact gS
 have f9:e0.get 9=.v (.int .i64 (0:Nat)):=by rw[aD];exact gR
 have fd:e0.defers=[]:=by rw[bI];exact gS
 clear aD bI cT cJ c1 c2;refine cq (λm e H=>∃(j:Nat) (dc:List AV) (ts:List Tok),j<=target.length/\m=target.length - j/\aj (EX h H b j (fw ae target) (qc ae target.length) dc ts)/\e.get 0=.list k s (xs.map λa=>[a])/\e.get 1=.list ky 1 (ints target)/\e.get 8=.arr b 0 target.length target.length/\e.get 9=.v (.int .i64 (j:Nat))/\e.defers=[]) ?_ target.length _ _ ?_;rotate_left 1
 ·exact⟨0,[],ts,cr _,rfl,kJ0,f0,f1,f8,f9,fd⟩
 clear f0 f1 f8 f9 fd kJ0 ts;rintro m e H ⟨j,dc,ts,hj,rfl,kJ,g0,g1,g8,g9,hd⟩;by_cases xv:j<target.length
 ·have UA:(qc ae target.length)[j]?=aa (ae.map λr=>ai r j):=by unfold qc;rw[dW,ED xv];rfl
  have VD:(fw ae target)[j]?=aa ((ae.map λr=>ai r j)++[ai target j]):=by unfold fw;rw[dW,ED xv];rfl
  obtain⟨t,ts2,rfl,ld,hc,H3,st,J3⟩:=kJ.out.step UA VD;have ap:=tY (H:=H) (x:=ai target j) (es:=ae.map λr=>ai r j) (sz:=1) (by rw[bu];omega) (.inl rfl) hc;have bl:=po (ai target j);have l1:=e7 (H:=H) (l:=target) (i:=j) (s:=1) xv;have ix:=Dx (b:=b) (len:=target.length) (aB:=target.length) (k:=.i64) xv;have kJ3:=aj.mk J3;have UW:(j:Int)<(target.length:Int):=by omega
  clear J3 UA VD hc kJ;refine bM @wg @a8 ?_
  repeat' (first|simp(maxSteps:=999999)(disch:=first|exact dZ|fail)only[gW,reduceIte,aX,aR,wg,a8, *]|(refine dX ?_ ?_<;>(intro _;try omega))|refine ey ku iU ?_)
  exact⟨target.length - (j+1),by omega,j+1,_,ts2,by omega,rfl,kJ3,by simp⟩
 have nO:j=target.length:=by omega
 subst nO;have T2:rW H b (fw ae target):=⟨_,kJ.out.gv,by
  have h1:oL ts ((qc ae target.length).drop target.length)=[]:=by rw[pc (by rw[kcl.out];exact aJ _)];unfold oL;simp
  rw[h1,jH,kJ.out.dl,tl],λi a r ha hr=>by
  have h1:oL ts ((qc ae target.length).drop target.length)=[]:=by rw[pc (by rw[kcl.out];exact aJ _)];unfold oL;simp
  rw[h1,jH] at ha;exact kJ.out.row i a r ha hr⟩
 obtain⟨_,H3,c3,b2,Z,rfl,T3,-,hZ,X3⟩:=amh H kJ.out.ok b (fw ae target) (ae.length+1) ae.length T2 ag kk.out.1 kk.out.2.1 ag ag ag;rw[tl] at c3;obtain⟨kz,sz,rfl,dH⟩:=hZ;have FW:=alT (j8 (fw ae target) ae.length).2;have kV:aj (Cn ae.length (j8 (fw ae target) ae.length)):=⟨kk.out.2.2.2.1⟩;have kRl:=aj.mk kk.out.2.2.1.len;have ke:=aj.mk kk.out.2.2.2.2;generalize bZ:j8 (fw ae target) ae.length=st at *
 obtain⟨t',pv⟩:=st;dsimp only at *
 have kT3:=aj.mk T3;have ksz:=aj.mk dH;have kX3:=aj.mk (kJ.out.ext.trans X3);clear T2 T3 dH X3 kk kJ bZ kcl tl;unfold im at c3;refine br @wg ?_;refine bG.gen λe0 aD bI cT cJ=>?_;have f0:e0.get 0=.list k s (xs.map λa=>[a]):=by rw[aD];simp only[gW,reduceIte,aX,aR];exact g0
 have f8:e0.get 8=.arr b2 0 target.length target.length:=by rw[aD];exact gS
 have f10:e0.get 10=.list kz sz (ints (b7 pv)):=by rw[aD];exact gS
 have f11:e0.get 11=.v (.int .i64 (pv.length:Nat)):=by rw[aD];exact gS
 have fd:e0.defers=[]:=by rw[bI];simp only[gW,reduceIte,aX,aR];exact hd
 clear aD bI cT cJ c3 g0 g1 g8 g9 hd;refine cq (λm e H=>∃j:Nat,j<=target.length/\pv.length<=j/\m=target.length - j/\aj (∀i,pv.length<=i->i<j->∀a,t'[i]?=aa a->ai a ae.length=0)/\e.get 0=.list k s (xs.map λa=>[a])/\e.get 8=.arr b2 0 target.length target.length/\e.get 10=.list kz sz (ints (b7 pv))/\e.get 11=.v (.int .i64 (j:Nat))/\e.defers=[]/\H=H3) ?_ (target.length - pv.length) _ _ ?_;rotate_left 1
 ·exact⟨pv.length,rp,aJ _,rfl,⟨λi q1 q2=>absurd q2 ag⟩,f0,f8,f10,f11,fd,rfl⟩
 clear f0 f8 f10 f11 fd;rintro m e H3 ⟨j,hj,NO,rfl,kz0,g0,g8,g10,g11,hd,rfl⟩;by_cases xv:j<target.length
 ·obtain⟨a,ha⟩:∃a,t'[j]?=aa a:=⟨_,aO ag⟩;have dY:=kRl.out a (de ha);obtain⟨k1,s1,ld1,bB⟩:=kT3.out.load ha;have bB:s1=1:=bB (by intro q;rw[q] at dY;simp at dY);subst bB;have UR:(ints a).length=ae.length+1:=by rw[dn];exact dY
  have l1:=e7 (H:=H3) (l:=a) (i:=ae.length) (s:=1) ag;have ix:=Dx (b:=b2) (len:=target.length) (aB:=target.length) (k:=.i64) xv;have UW:(j:Int)<(target.length:Int):=by omega
  have hnI:(ae.length:Int)<((ae.length+1:Nat):Int):=by omega
  by_cases hz:ai a ae.length=0
  ·have kz2:aj (∀i,pv.length<=i->i<j+1->∀a,t'[i]?=aa a->ai a ae.length=0):=⟨λi hi ot a' mC=>by
    rcases dI i j with q|q
    ·exact kz0.out i hi q a' mC
    ·rw[(ag:i=j),ha] at mC;injection mC with mC;rw[<-mC];exact hz⟩
   have eL:decide (ai a ae.length=0)=ah:=(by simp[hz]);generalize ai a ae.length=z at *
   clear ha dY hz kz0;refine bM @wg @a8 ?_;exact⟨target.length - (j+1),by omega,j+1,by omega,by omega,rfl,kz2,by simp⟩
  ·have e2:oN ae target=aq:=(by rw[ke.out,aG];intro q;rw[dU] at q;have:=q a (de (i:=j - pv.length) (by rw[nZ,(ag:pv.length+(j - pv.length)=j)];exact ha));exact hz (of_decide_eq_true this));have ke2:=aj.mk e2;have eL:decide (ai a ae.length=0)=av:=(by simp[hz]);generalize ai a ae.length=z at *
   clear ha dY hz kz0 e2;refine bM @wg @a8 ?_;exact⟨_,_,rfl,kX3.out,.inl ⟨ke2.out,rfl⟩⟩
 have nO:j=target.length:=by omega
 subst nO;have e2:oN ae target=aa (oC (t',pv) ae.length):=by rw[ke.out,aF];rw[dU];intro a ha;obtain⟨i,hi⟩:=s8 ha;rw[nZ] at hi;have cH:=(aP.1 hi).1;exact bX (kz0.out (pv.length+i) ag ag a hi)
 rw[<-Xx] at e2;have ke2:=aj.mk e2;have mk:=zw H3 ae.length ag .i64 .i64;have nm:aY ae.length (im 0)=(kU t' pv ae.length 0).map im:=by unfold kU;rw[fB,EB,wO]
 rw[nm] at mk;clear e2 nm kz0 ke;unfold im at mk;refine br @wg ?_;refine bG.gen λe0 aD bI cT cJ=>?_;have f0:e0.get 0=.list k s (xs.map λa=>[a]):=by rw[aD];simp only[gW,reduceIte,aX,aR];exact g0
 have f8:e0.get 8=.arr b2 0 target.length target.length:=by rw[aD];simp only[gW,reduceIte,aX,aR];exact g8
 have f10:e0.get 10=.list kz sz (ints (b7 pv)):=by rw[aD];simp only[gW,reduceIte,aX,aR];exact g10
 have f12:e0.get 12=.arr H3.boxes.length 0 ae.length ae.length:=by rw[aD];exact gS
 have f13:e0.get 13=.v (.int .i64 (0:Nat)):=by rw[aD];exact gR
 have fd:e0.defers=[]:=by rw[bI];simp only[gW,reduceIte,aX,aR];exact hd
 clear aD bI cT cJ g0 g8 g10 g11 hd mk;refine cq (λm e H=>∃j:Nat,j<=pv.length/\m=pv.length - j/\e.get 0=.list k s (xs.map λa=>[a])/\e.get 8=.arr b2 0 target.length target.length/\e.get 10=.list kz sz (ints (b7 pv))/\e.get 12=.arr H3.boxes.length 0 ae.length ae.length/\e.get 13=.v (.int .i64 (j:Nat))/\e.defers=[]/\H=H3.push ((kU t' pv ae.length j).map im)) ?_ pv.length _ _ ?_;rotate_left 1
 ·exact⟨0,cr _,rfl,f0,f8,f10,f12,f13,fd,rfl⟩
 clear f0 f8 f10 f12 f13 fd;rintro m e H ⟨j,hj,rfl,g0,g8,g10,g12,g13,hd,rfl⟩;by_cases aA:j<pv.length
 ·obtain⟨p,fc⟩:∃p,pv[j]?=aa p:=⟨_,aO aA⟩;have xx:=kV.out.lt j p fc;have bB:sz=1:=ksz.out (by intro q;unfold b7 at q;rw[EG] at q;rw[q] at aA;exact Nat.not_lt_zero _ aA);subst bB;obtain⟨a,ha⟩:∃a,t'[j]?=aa a:=⟨_,aO ag⟩;have dY:=kRl.out a (de ha);obtain⟨k1,s1,ld1,bB⟩:=(kT3.out.mono (H':=H3.push ((kU t' pv ae.length j).map im)) λ_ q=>bg q).load ha;have bB:s1=1:=bB (by intro q;rw[q] at dY;simp at dY);subst bB;have UR:(ints a).length=ae.length+1:=by rw[dn];exact dY
  have l0:=e7 (H:=H3.push ((kU t' pv ae.length j).map im)) (l:=b7 pv) (i:=j) (s:=1) (by unfold b7;rw[bu];exact aA);rw[Xv fc] at l0;have l1:=e7 (H:=H3.push ((kU t' pv ae.length j).map im)) (l:=a) (i:=ae.length) (s:=1) ag;have ix1:=Dx (b:=b2) (len:=target.length) (aB:=target.length) (k:=.i64) (ag:j<target.length);have ix3:=pQ (b:=H3.boxes.length) (len:=ae.length) (aB:=ae.length) (k:=.i64) xx;have sk:=yd (H:=H3.push ((kU t' pv ae.length j).map im)) (b:=H3.boxes.length) (r:=kU t' pv ae.length j) (k:=p) (x:=ai a ae.length) (a9 _ _) (by rw[JL];exact xx);have gD:t'.getD j []=a:=by rw[dP,ha];rfl
  rw[oA,<-gD,Xy fc,gD] at sk;have fL:(j:Int)<(pv.length:Int):=by omega
  have hnI:(ae.length:Int)<((ae.length+1:Nat):Int):=by omega
  unfold im at *
  clear ha dY gD fc xx ke2;refine bM @wg @a8 ?_
  repeat' (first|simp(maxSteps:=999999)(disch:=first|exact dZ|fail)only[gW,reduceIte,aX,aR,wg,a8, *]|(refine dX ?_ ?_<;>(intro _;try omega))|refine ey ku iU ?_)
  exact⟨pv.length - (j+1),by omega,j+1,by omega,rfl,by simp⟩
 ·have nO:j=pv.length:=by omega
  subst nO;refine br @wg ?_;exact⟨_,_,rfl,kX3.out.trans (.push _ _),.inr ⟨_,_,ke2.out,JL _ _ _ _,rfl,a9 _ _⟩⟩
def JY:Tryz.f134.results.toList=[.tmp 4]:=by kernel_rfl
def uS:Tryz.f63.results.toList=[.tmp 4,.tmp 5,.tmp 6]:=by kernel_rfl
def IL.same{x}{l}(h:IL x l):eT x x=ah:=by obtain⟨k,s,rfl,-⟩:=h;exact GZ k s l
def Yr:∀xs:List AV,(∀a∈xs,eT a a=ah)->pV (xs.map λa=>[a]) (xs.map λa=>[a])=ah
 | [],_=>rfl
 |x::xs,h=>by rw[eo,pV,Yr xs λa ha=>h a (fi _ ha),nT,h x fR];rfl
def RL.same{x}{ae}(h:RL x ae):eT x x=ah:=by
 obtain⟨k,s,xs,rfl,-,hl,hr⟩:=h;have e:wm k k=ah:=by cases k<;>simp[wm]
 rw[eT,e,Yr xs λa ha=>?_]
 ·simp
 ·obtain⟨i,hi⟩:=s8 ha;have cH:=(aP.1 hi).1;exact(hr i a _ hi (aO ag)).same
def akx(h:ak)(bA:cA h=ah)(x y z:AV)(ae:List (List Int))(owners aw:List Int)(hx:RL x ae)(hy:IL y owners)(hz:IL z aw)(ho:ae.length=owners.length)(hr:ae.length<=1000)(jQ:aw.length<=1099511627776):
 ∃r h',W5.call 134 [.agg [x,y],z] h=aa (r,h')/\∃X,r=.ret X/\RL X ((dS owners aw).map λi=>ae.getD i [])/\Ext h h'/\cA h'=ah:=by
 have bx:=vX hx hy;have hs:=λn=>Uo z aw n hz jQ;obtain⟨k0,s0,xs,rfl,tC,dx,dR⟩:=hx;obtain⟨ky,sy,rfl,jX⟩:=hy;have kx:=aj.mk (ar tC (ar dR jX));have kho:=aj.mk ho;clear tC dR jX hz ho;have u23:=dJ;have u22:=iq;have z23:=iM;have z3:=fP;have Jg:(xs.map λa=>[a]).length=ae.length:=by rw[bu];exact dx
 have cH:=dn owners;have kX0:=aj.mk (ar (Ext.push h [.list k0 s0 (xs.map λa=>[a]),.list ky sy (ints owners)]) (a9 h [.list k0 s0 (xs.map λa=>[a]),.list ky sy (ints owners)]));have kok0:aj (cA (h.push [.list k0 s0 (xs.map λa=>[a]),.list ky sy (ints owners)])=ah):=⟨bA⟩;refine df rfl Tryz.func134 rfl ?_;refine bM @JY @bL ?_;refine bG.gen λe0 aD bI cT cJ=>?_;have f1:e0.get 1=z:=by rw[aD];exact gS
 have f2:e0.get 2=.ptr (.box h.boxes.length) 0:=by rw[aD];exact gS
 have f5:e0.get 5=.list .nil 0 ((iA xs owners aw 0).map λa=>[a]):=by rw[aD];exact gR
 have f6:e0.get 6=.v (.int .i64 (0:Nat)):=by rw[aD];exact gR
 have fd:e0.defers=[]:=by rw[bI];exact gS
 clear aD bI cT cJ bx;refine cq (λm e H=>∃(i:Nat) (tk:Tok) (sz:Nat),i<=ae.length/\m=ae.length - i/\aj (sz=1∨((iA xs owners aw i)=[]/\tk=.nil))/\aj (Ext h H/\H.boxes[h.boxes.length]?=aa [.list k0 s0 (xs.map λa=>[a]),.list ky sy (ints owners)])/\aj (cA H=ah)/\aj (dj h.tn H tk)/\e.get 1=z/\e.get 2=.ptr (.box h.boxes.length) 0/\e.get 5=.list tk sz ((iA xs owners aw i).map λa=>[a])/\e.get 6=.v (.int .i64 (i:Nat))/\e.defers=[]) ?_ ae.length _ _ ?_;rotate_left 1
 ·exact⟨0,.nil,0,cr _,rfl,⟨.inr ⟨rfl,rfl⟩⟩,kX0,kok0,⟨.inl rfl⟩,f1,f2,f5,f6,fd⟩
 clear f1 f2 f5 f6 fd kX0 kok0;rintro m e H ⟨i,tk,sz,hi,rfl,ksz,kX,kok,kcan,g1,g2,g5,g6,hd⟩;have l0:=rE kX.out.2;have l1:=DC kX.out.2;by_cases iu:i<ae.length;rotate_left 1
 ·have fK:i=ae.length:=by omega
  subst fK;refine cY @JY @dw @eG ?_;have hN:eO owners aw ae.length=dS owners aw:=by unfold eO dS;rw[kho.out]
  refine⟨_,_,rfl,_,rfl,⟨_,_,_,rfl,λbH=>?_,?_,λi a r ha hr=>?_⟩,kX.out.1,kok.out⟩
  ·rcases ksz.out with q|⟨q,-⟩
   ·exact q
   ·exfalso;apply bH;rw[<-hN];unfold iA at q;unfold eO;rw[EG] at q;rw[q];rfl
  ·rw[bu,<-hN];unfold iA eO;rw[bu]
  ·obtain⟨j,j1,j2,rfl⟩:=O9 ha;rw[hN] at j1;rw[dW,j1] at hr;injection hr with hr;subst hr;refine kx.out.2.1 j _ _ ?_ ?_
   ·rw[dP,aO ag];rfl
   ·show ae[j]?=aa (ae.getD j []);rw[dP,aO j2];rfl
 have ux:s0=1:=kx.out.1 (by intro q;rw[q] at iu;simp at iu);subst ux;have bB:sy=1:=kx.out.2.2 (by intro q;have ho:=kho.out;rw[q,jI] at ho;omega);subst bB;obtain⟨a,ha⟩:∃a,xs[i]?=aa a:=⟨_,aO ag⟩;have ld:=jY (H:=H) (s:=1) ha;have lo:=e7 (H:=H) (l:=owners) (i:=i) (s:=1) (by have:=kho.out;omega);have IT:(i:Int)<(ae.length:Int):=by omega
 have ahE:(i:Int)<(owners.length:Int):=by have:=kho.out;omega
 have c:=hs (ai owners i);cases hc:aw.contains (ai owners i) with
 |true=>
  rw[hc] at c;have pl:=WZ (xs:=xs) (owners:=owners) (aw:=aw) (k:=i);have ap:=RX (H:=H) (x:=a) (es:=iA xs owners aw i) ag ksz.out kcan.out;rw[<-Xb hc ha] at ap;obtain⟨k',s',xs',rfl⟩:∃k' s' xs',a=.list k' s' xs':=by obtain⟨r,hr⟩:∃r,ae[i]?=aa r:=⟨_,aO iu⟩;obtain⟨k',s',rfl,-⟩:=kx.out.2.1 i a r ha hr;exact⟨_,_,_,rfl⟩
  have bl:=H8 (.list k' s' xs') rfl;have hG:=Grown.one kcan.out kok.out kX.out.1.tn;have kX2:aj (Ext h (H.app tk)/\(H.app tk).boxes[h.boxes.length]?=aa [.list k0 1 (xs.map λa=>[a]),.list ky 1 (ints owners)]):=⟨hG.ext kX.out.1 (aJ _),by rw[eu];exact kX.out.2⟩;have kok2:aj (cA (H.app tk)=ah):=⟨Cu kok.out kcan.out⟩;have kcan2:aj (dj h.tn (H.app tk) (.free H.tn)):=⟨hG.can⟩;have ksz2:aj (1=1∨((iA xs owners aw (i+1))=[]/\Tok.free H.tn=.nil)):=⟨.inl rfl⟩;clear hG ha hc ksz kX kok kcan hs;unfold im at c;refine bJ @JY @dw @eG @a8 ?_;exact⟨ae.length - (i+1),by omega,i+1,_,1,by omega,rfl,(by first|assumption|trivial),(by first|assumption|trivial),(by first|assumption|trivial),(by first|assumption|trivial),by simp⟩
 |false=>rw[hc] at c;have eN:=Xa (xs:=xs) hc;have ksz2:aj (sz=1∨((iA xs owners aw (i+1))=[]/\tk=.nil)):=⟨by rw[eN];exact ksz.out⟩;rw[<-eN] at g5;clear ha hc ksz hs eN;unfold im at c;refine bJ @JY @dw @eG @a8 ?_;exact⟨ae.length - (i+1),by omega,i+1,tk,sz,by omega,rfl,(by first|assumption|trivial),(by first|assumption|trivial),(by first|assumption|trivial),(by first|assumption|trivial),by simp⟩
def Qe{owners aw}{i}(hi:i<owners.length)(hc:aw.contains (ai owners i)=ah):(dS owners aw)[(eO owners aw i).length]?=aa i:=by
 have e:dS owners aw=eO owners aw i++((bO (owners.length - i)).map (i+·)).filter λj=>aw.contains (ai owners j):=by unfold dS eO;rw[<-Cg,<-List.range_add];congr 2;omega
 rw[e,yu (aJ _),s9,(ag:owners.length - i=(owners.length - i - 1)+1),List.range_succ_eq_map,eo,Nat.add_zero,List.filter_cons,aF hc];rfl
def abD(h:ak)(bA:cA h=ah)(x y z:AV)(ae:List (List Int))(owners aw:List Int)(hx:RL x ae)(hy:IL y owners)(hz:IL z aw)(cO:ae.length<=1000000)(jQ:aw.length<=1099511627776):
 ∃r h',W5.call 63 [.agg [x,y],z] h=aa (r,h')/\((∃e,fZ ae owners aw=([],av,e)/\r=.ret (.tuple [.list .nil 0 [],.v (.bool av),.v (.int .i64 e)]))∨∃l b,fZ ae owners aw=(l,ah,0)/\l.length=ae.length/\r=.ret (.tuple [.arr b 0 ae.length ae.length,.v (.bool ah),.v (.int .i64 0)])/\h'.boxes[b]?=aa (l.map im)):=by
 have bx:=vX hx hy;have b0:(h.push [x,y]).boxes[h.boxes.length]?=aa [x,y]:=a9 _ _;have l25:=λK (X:Ext (h.push [x,y]) K)=>uB (X.box _ _ b0);have l22:=λK (X:Ext (h.push [x,y]) K)=>rE (X.box _ _ b0);have l23:=λK (X:Ext (h.push [x,y]) K)=>DC (X.box _ _ b0);have l0:=l25 _ (.refl _);have cc:=Xw x y ae owners hx hy cO;have cp:=akX z aw hz ag;have eA:fZ ae owners aw=if cR ae owners≠0 then ([],av,cR ae owners) else if !fW (-1) aw then ([],av,1) else match oN ((dS owners aw).map λi=>ae.getD i []) (ft (bU ae)) with|none=>([],av,0)|some l=>(qG ae.length (dS owners aw) l,ah,0):=rfl
 have svs:eT (.agg [x,y]) (.agg [x,y])=ah:=by rw[eT,nT,nT,nT,hx.same,hy.same];rfl
 refine df rfl Tryz.func63 rfl ?_;by_cases q1:cR ae owners≠0
 ·rw[aF q1] at eA;generalize cR ae owners=pe at *
  have UH:decide (pe=0)=av:=by simp[q1]
  have ke:=aj.mk eA;clear eA q1 l25 l22 l23 hx hy hz cp b0;unfold im at cc;refine bM @uS @bL ?_;exact⟨_,_,rfl,.inl ⟨pe,ke.out,rfl⟩⟩
 rw[aG q1] at eA;have q1:cR ae owners=0:=Hz.1 q1;rw[q1] at cc;cases q2:fW (-1) aw with
 |false=>rw[q2] at cp;rw[aF (by rw[q2];rfl)] at eA;have ke:=aj.mk eA;clear eA q1 q2 l25 l22 l23 hx hy hz b0;unfold im at cc;refine bM @uS @bL ?_;exact⟨_,_,rfl,.inl ⟨1,ke.out,rfl⟩⟩
 |true=>
 rw[q2] at cp;rw[aG (by rw[q2];simp)] at eA;obtain⟨o1,o2,o3,-⟩:=qy q1;obtain⟨n1,n2⟩:=ud q1;have xF:(ft (bU ae)).length=bU ae:=Qs n1;have zj:∀i∈dS owners aw,i<ae.length:=λi hi=>by unfold dS at hi;rw[o1];exact fY.1 (tS.1 hi).1
 have hlen:(dS owners aw).length<=64:=by unfold dS;exact fe (EF _ _) (by rw[aaA];omega)
 have dF:∀r∈(dS owners aw).map λi=>ae.getD i [],r∈ae:=λr hr=>by obtain⟨i,hi,rfl⟩:=jo.1 hr;have:=zj i hi;rw[dP,aO this];exact iD _
 have c136:=aet x y ae owners hx hy;have c135:=arw (bU ae) n1 ag;obtain⟨_,H2,c134,X,rfl,hX,X2,Bb⟩:=akx (h.push [x,y]) bA x y z ae owners aw hx hy hz o1 ag jQ;have lH2:=l25 H2 X2;obtain⟨_,H3,c133,P3⟩:=aex H2 Bb X (.list .held 1 (ints (ft (bU ae)))) _ (ft (bU ae)) hX ⟨_,_,rfl,λ_=>rfl⟩ (by rw[bu];exact hlen) (λr hr=>by rw[xF];exact(o3 r (dF r hr)).1) (by rw[xF];exact n2) ag (λr hr=>(o3 r (dF r hr)).2.2.2) (λx hx=>by
  unfold ft at hx;rcases gO.1 hx with rfl|hx
  ·exact⟨aK,by decide⟩
  ·rw[List.eq_of_mem_replicate hx];exact⟨aK,by decide⟩)
 obtain⟨X3,P3⟩:=P3;have kl22:=aj.mk λK (X:Ext H3 K)=>l22 K (X2.trans (X3.trans X));have kl23:=aj.mk λK (X:Ext H3 K)=>l23 K (X2.trans (X3.trans X));have hs:=λn=>Uo z aw n hz jQ;have ll0:=l22 H3 (X2.trans X3);rw[bu] at P3;obtain⟨k0,s0,xs,rfl,-,dx,-⟩:=hx;obtain⟨ky,sy,rfl,jX⟩:=hy;have ksy:=aj.mk jX;have u23:=dJ;have u22:=iq;have z3:=fP;have Jg:(xs.map λa=>[a]).length=ae.length:=by rw[bu];exact dx
 have cH:=dn owners;have ko:=aj.mk (ar zj o1);clear dF zj o3 hX X2 X3 Bb hz l25 l22 l23 b0 q1 dx jX o1;unfold im at cc c136 c135;rcases P3 with⟨e1,rfl⟩|⟨l,b,e1,e2,rfl,hb⟩
 ·rw[e1] at eA;have ke:=aj.mk eA;clear eA e1 kl22 kl23 hs;unfold im at c133;refine bM @uS @bL ?_;refine mW [(2,3)] ku iU (λp hp=>?_) ?_
  ·simp only[mo] at hp;subst hp;refine qH (x:=.ptr (.box h.boxes.length) 0) (v:=.agg [.list k0 s0 (xs.map λa=>[a]),.list ky sy (ints owners)]) iU rfl rfl rfl iU (svs) ?_ ?_<;>(simp only[hJ,fB];exact jL @uS @and_self)
  refine br @uS ?_;exact⟨_,_,rfl,.inl ⟨0,ke.out,rfl⟩⟩
 rw[e1] at eA;have ke:=aj.mk eA;have kb:=aj.mk (ar hb e2);have mk:=zw H3 ae.length ag .i64 .i64;have nm:aY ae.length (im 0)=(ml ae.length (dS owners aw) l (eO owners aw 0).length).map im:=by unfold ml;rw[show(eO owners aw 0).length=0 from rfl,fB,EB,wO]
 rw[nm] at mk;clear eA e1 nm hb;unfold im at c133 mk;refine bM @uS @bL ?_;refine mW [(2,3)] ku iU (λp hp=>?_) ?_
 ·simp only[mo] at hp;subst hp;refine qH (x:=.ptr (.box h.boxes.length) 0) (v:=.agg [.list k0 s0 (xs.map λa=>[a]),.list ky sy (ints owners)]) iU rfl rfl rfl iU (svs) ?_ ?_<;>(simp only[hJ,fB];exact jL @uS @and_self)
 refine cY @uS @dw @eG ?_;refine bG.gen λe0 aD bI cT cJ=>?_;have f1:e0.get 1=z:=by rw[aD];exact gS
 have f2:e0.get 2=.ptr (.box h.boxes.length) 0:=by rw[aD];exact gS
 have f8:e0.get 8=.arr b 0 (dS owners aw).length (dS owners aw).length:=by rw[aD];exact gS
 have f11:e0.get 11=.arr H3.boxes.length 0 ae.length ae.length:=by rw[aD];exact gS
 have f12:e0.get 12=.v (.int .i64 ((eO owners aw 0).length:Nat)):=by rw[aD];exact gR
 have f13:e0.get 13=.v (.int .i64 (0:Nat)):=by rw[aD];exact gR
 have fd:e0.defers=[]:=by rw[bI];exact gS
 clear aD bI cT cJ mk cc cp c136 c135 c134 c133 l0 lH2 ll0 bx svs;refine cq (λm e H=>∃i:Nat,i<=ae.length/\m=ae.length - i/\e.get 1=z/\e.get 2=.ptr (.box h.boxes.length) 0/\e.get 8=.arr b 0 (dS owners aw).length (dS owners aw).length/\e.get 11=.arr H3.boxes.length 0 ae.length ae.length/\e.get 12=.v (.int .i64 ((eO owners aw i).length:Nat))/\e.get 13=.v (.int .i64 (i:Nat))/\e.defers=[]/\H=H3.push ((ml ae.length (dS owners aw) l (eO owners aw i).length).map im)) ?_ ae.length _ _ ?_;rotate_left 1
 ·exact⟨0,cr _,rfl,f1,f2,f8,f11,f12,f13,fd,rfl⟩
 clear f1 f2 f8 f11 f12 f13 fd;rintro m e H ⟨i,hi,rfl,g1,g2,g8,g11,g12,g13,hd,rfl⟩;have l0:=kl22.out (H3.push ((ml ae.length (dS owners aw) l (eO owners aw i).length).map im)) (.push _ _);have l1:=kl23.out (H3.push ((ml ae.length (dS owners aw) l (eO owners aw i).length).map im)) (.push _ _);by_cases iu:i<ae.length;rotate_left 1
 ·have fK:i=ae.length:=by omega
  subst fK;have hN:eO owners aw ae.length=dS owners aw:=by unfold eO dS;rw[ko.out.2]
  have kN:=aj.mk hN;clear hN;refine cY @uS @dw @eG ?_;refine⟨_,_,rfl,.inr ⟨_,_,ke.out,?_,rfl,?_⟩⟩
  ·rw[<-Kn];exact Ko
  ·rw[a9,kN.out,Kn]
 have bB:sy=1:=ksy.out (by intro q;have o1:=ko.out.2;rw[q,jI] at o1;omega);subst bB;have lo:=e7 (H:=H3.push ((ml ae.length (dS owners aw) l (eO owners aw i).length).map im)) (l:=owners) (i:=i) (s:=1) (by have:=ko.out.2;omega);have IT:(i:Int)<(ae.length:Int):=by omega
 have ahE:(i:Int)<(owners.length:Int):=by have:=ko.out.2;omega
 have c:=hs (ai owners i);cases hc:aw.contains (ai owners i) with
 |true=>
  rw[hc] at c;have om:=Qe (show i<owners.length by have:=ko.out.2;omega) hc;have aA:=(aP.1 om).1;have Uh:=Xd hc;have MN:(eO owners aw (i+1)).length=(eO owners aw i).length+1:=by rw[Uh,dk];rfl
  have ix1:=pQ (b:=b) (len:=(dS owners aw).length) (aB:=(dS owners aw).length) (k:=.i64) aA;have ix3:=pQ (b:=H3.boxes.length) (len:=ae.length) (aB:=ae.length) (k:=.i64) iu;have lv:=xQ (H:=H3.push ((ml ae.length (dS owners aw) l (eO owners aw i).length).map im)) (bg kb.out.1) (vW (k:=(eO owners aw i).length) (by rw[kb.out.2];exact aA));have sk:=yd (H:=H3.push ((ml ae.length (dS owners aw) l (eO owners aw i).length).map im)) (b:=H3.boxes.length) (r:=ml ae.length (dS owners aw) l (eO owners aw i).length) (k:=i) (x:=ai l (eO owners aw i).length) (a9 _ _) (by rw[Ko];exact iu);rw[oA,YO om,<-MN] at sk;have kNl:=aj.mk MN;clear om Uh MN hs kl22 kl23;unfold im at c lv sk l0 l1 lo ⊢;refine bJ @uS @dw @eG @a8 ?_;exact⟨ae.length - (i+1),by omega,i+1,by omega,rfl,by trivial,by trivial,by trivial,by trivial,(by rw[kNl.out];first|rfl|simp),by simp,by trivial,by trivial⟩
 |false=>rw[hc] at c;have Ug:=Xc hc;have kNn:=aj.mk Ug;clear Ug hs kl22 kl23;unfold im at c;refine bJ @uS @dw @eG @a8 ?_;exact⟨ae.length - (i+1),by omega,i+1,by omega,rfl,by trivial,by trivial,by trivial,by trivial,by rw[kNn.out],by simp,by trivial,by rw[kNn.out]⟩
def L6:List FuncId:=L5++[17,20,22,26,41,44,45,56,63,75,80,133,134]
noncomputable def Ph:FuncId->Option (List AV->ak->Option (AV × ak)):=pq W5 L6
noncomputable abbrev W6:=whole al Gt Ph
def yF:o8 Ph L6:=wX
section
variable (a b n x:Int)
def HR:∀h,W6.call 28 [im a,im b] h=aa (.ret (im (cP a b)),h):=bm (L:=L6) rfl rfl rfl (HQ a b _) rfl rfl
def OK:∀h,W6.call 29 [im a,im b] h=aa (.ret (im (b9 a b)),h):=bm (L:=L6) rfl rfl rfl (Gi a b _) rfl rfl
def ar6:∀h,W6.call 46 [im x] h=aa (.ret (.v (.bool (bE x))),h):=bm (L:=L6) rfl rfl rfl (Hn x _) rfl rfl
def P7:∀h,W6.call 94 [im x] h=aa (.ret (.v (.bool (bE x))),h):=bm (L:=L6) rfl rfl rfl (apu x _) rfl rfl
def amD:∀h,W6.call 140 [im a,im b] h=aa (.ret (.tuple [im (jB a b),im (mO a b)]),h):=bm (L:=L6) rfl rfl rfl (amC a b _) rfl rfl
def amK:∀h,W6.call 132 [im a,im n] h=aa (.ret (.tuple [im (fU a n),im (ma a)]),h):=bm (L:=L6) rfl rfl rfl (amJ a n _) rfl rfl
def JP:∀h,W6.call 120 [im n] h=aa (.ret (.agg (aH 1 n [] .nil 0 [])),h):=bm (L:=L6) rfl rfl rfl (amX n _) rfl rfl
end
def Vh:∀l:List Pr,eH (eS l)=eS l
 | []=>rfl
 |p::l=>by show eH (bF p::eS l)=_;rw[eH,Vh l];rfl
def Tt:∀l:List Pr,gj 0 0 0 (eS l)=ah
 | []=>rfl
 |p::l=>by show gj 0 0 0 (bF p::eS l)=_;rw[gj,Tt l];rfl
def Vi:∀l:List (Int × Int),eH (gZ l)=gZ l
 | []=>rfl
 |p::l=>by show eH (yc p::gZ l)=_;rw[eH,Vi l];rfl
def Mq:∀l:List (Int × Int),gj 0 0 0 (gZ l)=ah
 | []=>rfl
 |p::l=>by show gj 0 0 0 (yc p::gZ l)=_;rw[gj,Mq l];rfl
def Vj:∀l:List Int,eH (l.map KA)=l.map KA
 | []=>rfl
 |p::l=>by rw[eo,eH,Vj l];rfl
def Tu:∀l:List Int,gj 0 0 0 (l.map KA)=ah
 | []=>rfl
 |p::l=>by rw[eo,gj,Tu l];rfl
def PL.hold{x}{l}(h:PL x l):PL (aC x) l/\aL 0 0 0 (aC x)=ah:=by obtain⟨k,s,rfl,hs⟩:=h;rw[aC,Vh];exact⟨⟨bR k,s,rfl,hs⟩,by rw[aL,eX,Tt];rfl⟩
def SL.hold{x}{l}(h:SL x l):SL (aC x) l/\aL 0 0 0 (aC x)=ah:=by obtain⟨k,s,rfl,hs⟩:=h;rw[aC,Vi];exact⟨⟨bR k,s,rfl,hs⟩,by rw[aL,eX,Mq];rfl⟩
def UL.hold{x}{l}(h:UL x l):UL (aC x) l/\aL 0 0 0 (aC x)=ah:=by obtain⟨⟨k,s,rfl,hs⟩,hr⟩:=h;rw[aC,Vj];exact⟨⟨⟨bR k,s,rfl,hs⟩,hr⟩,by rw[aL,eX,Tu];rfl⟩
def BL.hold{x}{b}(h:BL x b):BL (aC x) b/\aL 0 0 0 (aC x)=ah:=by obtain⟨k,s,rfl,hs⟩:=h;rw[aC,oQ];exact⟨⟨bR k,s,rfl,hs⟩,by rw[aL,eX,jz];rfl⟩
def Om{X Y C}{ae}{owners ao}(ep)(hx:RL X ae)(hy:IL Y owners)(hc:IL C ao):
 ∃X' Y' C',aC (.agg (aV ep X Y C))=.agg (aV ep X' Y' C')/\RL X' ae/\IL Y' owners/\IL C' ao/\aL 0 0 0 (.agg (aV ep X' Y' C'))=ah:=by
 obtain⟨h1,h2⟩:=hx.fF;obtain⟨h3,h4⟩:=hy.hold;obtain⟨h5,h6⟩:=hc.hold;exact⟨_,_,_,rfl,h1,h3,h5,by simp[aV,aL,aU,h2,h4,h6]⟩
section
variable (ep:Int) (X Y C T L:AV) (ae:List (List Int)) (owners ao:List Int) (text:List UInt8) (l:List Pr)
 (hx:RL X ae) (hy:IL Y owners) (hc:IL C ao) (ht:BL T text) (hp:PL L l) (dC:ao.length<=1000000) (eR:l.length<=1000000)
include hx hy hc ht hp dC eR
def H7:(du ae owners ep ao text l≠0/\∀h,W6.call 17 [.agg (aV ep X Y C),T,L] h=aa (.ret (.tuple [.list .nil 0 [],im 0,im 0,im (du ae owners ep ao text l)]),h))∨
 (du ae owners ep ao text l=0/\∃Z,IL Z (oK (ai ao 0) text l)/\∀h,W6.call 17 [.agg (aV ep X Y C),T,L] h=aa (.ret (.tuple [Z,im ((fN (ai ao 0) text l:Nat):Int),im ((eQ (ai ao 0) text l:Nat):Int),im 0]),h)):=by
 obtain⟨X',Y',C',e1,h1,h2,h3,h4⟩:=Om ep hx hy hc;obtain⟨h5,h6⟩:=ht.hold;obtain⟨h7,h8⟩:=hp.hold;have ea:bV [.agg (aV ep X Y C),T,L]=[.agg (aV ep X' Y' C'),aC T,aC L]:=by rw[bV,bV,bV,bV,e1]
 have ef:aU 0 0 0 [.agg (aV ep X' Y' C'),aC T,aC L]=ah:=by rw[aU,aU,aU,aU,h4,h6,h8];rfl
 obtain⟨r,h',c,⟨q,rfl⟩|⟨q,Z,rfl,hZ⟩⟩:=acT ⟨[],[],0,[]⟩ uG ep X' Y' C' (aC T) (aC L) ae owners ao text l h1 h2 h3 h5 h7 dC eR
 ·exact .inl ⟨q,bm (L:=L6) rfl ea ef c rfl rfl⟩
 ·obtain⟨k,s,rfl,hs⟩:=hZ;refine .inr ⟨q,.list (bR k) s (ints _),⟨_,_,rfl,hs⟩,bm (L:=L6) rfl ea ef c ?_ ?_⟩
  ·rfl
  ·rw[aL,aU,aL,eX,nh];rfl
def ajH(S:AV)(s:List (Int × Int))(az d f:Int)(hs:SL S s)(mG:s.length<=1000000):
 ∀h,W6.call 20 [.agg (aV ep X Y C),T,L,im az,S,im d,im f] h=aa (.ret (.tuple [im (oW ae owners ep ao text l az s d f).1,im (oW ae owners ep ao text l az s d f).2]),h):=by
 obtain⟨X',Y',C',e1,h1,h2,h3,h4⟩:=Om ep hx hy hc;obtain⟨h5,h6⟩:=ht.hold;obtain⟨h7,h8⟩:=hp.hold;obtain⟨h9,AL⟩:=hs.hold;obtain⟨r,h',c,rfl⟩:=ajD ⟨[],[],0,[]⟩ uG ep X' Y' C' (aC T) (aC L) (aC S) ae owners ao text l s az d f h1 h2 h3 h5 h7 h9 dC eR mG;exact bm (L:=L6) rfl (by simp only[bV];rw[e1];rfl) (by simp only[aU];rw[h4,h6,h8,AL];rfl) c rfl rfl
def Tw(az z:Int):
 ∀h,W6.call 22 [.agg (aV ep X Y C),T,L,im az,im z] h=aa (.ret (.tuple [.v (.bool (qx ae owners ep ao text l az z).1),im (qx ae owners ep ao text l az z).2]),h):=by
 obtain⟨X',Y',C',e1,h1,h2,h3,h4⟩:=Om ep hx hy hc;obtain⟨h5,h6⟩:=ht.hold;obtain⟨h7,h8⟩:=hp.hold;obtain⟨r,h',c,rfl⟩:=afW ⟨[],[],0,[]⟩ uG ep X' Y' C' (aC T) (aC L) ae owners ao text l az z h1 h2 h3 h5 h7 dC eR;exact bm (L:=L6) rfl (by simp only[bV];rw[e1];rfl) (by simp only[aU];rw[h4,h6,h8];rfl) c rfl rfl
end
def asc(key e s)(T)(text)(ht:BL T text)(hl:text.length<=1000000):
 ∀h,W6.call 26 [im key,T,.agg [im e,im s]] h=aa (.ret (.v (.bool (uU key text e s))),h):=by
 obtain⟨⟨k,z,e1,hs⟩,h2⟩:=ht.hold;obtain⟨r,h',c,rfl,-⟩:=asa ⟨[],[],0,[]⟩ key e s k z text hs hl;exact bm (L:=L6) rfl (by simp only[bV];rw[e1];rfl) (by rw[<-e1];simp only[aU];rw[h2];rfl) c rfl rfl
def WM(n d f)(hn:0<=n/\n<=1000000):∀h,W6.call 45 [im n,im d,im f] h=aa (.ret (.tuple [.agg (bF ⟨n,n%7,(bD Gn d:Nat),(bD Gn f:Nat)⟩),.v (.bool ah)]),h):=by obtain⟨r,h',c,rfl⟩:=akH ⟨[],[],0,[]⟩ n d f hn;exact bm (L:=L6) rfl rfl rfl c rfl rfl
def ae9(x y z)(ae)(owners gB)(fX)(hx:RL x ae)(hy:IL y owners)(hz:IL z gB)(hl:gB.length<=1000)(lK:ae.length<=1000000):
 (th ae owners fX gB≠0/\∀h,W6.call 44 [.agg [x,y],im fX,z] h=aa (.ret (.tuple [.list .nil 0 [],.list .nil 0 [],im (th ae owners fX gB)]),h))∨
 (th ae owners fX gB=0/\∃U V,SL U (qZ ae (fX::gB))/\IL V (dG (fX::gB))/\∀h,W6.call 44 [.agg [x,y],im fX,z] h=aa (.ret (.tuple [U,V,im 0]),h)):=by
 obtain⟨h1,h2,h3,h4⟩:=xZ hx hy;obtain⟨h5,h6⟩:=hz.hold;have ef:aU 0 0 0 [.agg [aC x,aC y],im fX,aC z]=ah:=by simp[aU,aL,h3,h4,h6,im]
 obtain⟨r,h',c,⟨q,rfl⟩|⟨q,t1,s1,t2,s2,rfl,g1,g2⟩⟩:=ae8 ⟨[],[],0,[]⟩ uG (aC x) (aC y) (aC z) ae owners gB fX h1 h2 h5 hl lK
 ·exact .inl ⟨q,bm (L:=L6) (cd:=[.agg [aC x,aC y],im fX,aC z]) rfl rfl ef c rfl rfl⟩
 ·refine .inr ⟨q,.list (bR t1) s1 (gZ _),.list (bR t2) s2 (ints _),⟨_,_,rfl,g1⟩,⟨_,_,rfl,λ_=>g2⟩,bm (L:=L6) (cd:=[.agg [aC x,aC y],im fX,aC z]) rfl rfl ef c ?_ ?_⟩
  ·rfl
  ·rw[aL,aU,aL,eX,Mq,aU,aL,eX,nh];rfl
def aew(x y)(ae)(owners)(hx:RL x ae)(hy:IL y owners):∀h,W6.call 42 [.agg [x,y]] h=aa (.ret (im (bU ae:Nat)),h):=by obtain⟨h1,h2,h3,h4⟩:=xZ hx hy;exact bm (L:=L6) (cd:=[.agg [aC x,aC y]]) rfl rfl (by simp[aU,aL,h3,h4]) (aev (aC x) (aC y) ae owners h1 h2 _) rfl rfl
def fF(k):bR (bR k)=bR k:=by cases k<;>rfl
def anD{l}{ae}(hr:ng l ae)(hh:eH ae=ae)(k)(hm:ae.length<=1000000):∀h,W2.call 119 [.list k 4 ae] h=aa (.ret (.agg (aH 3 0 [] (bR k) 4 ae)),h):=by
 have hv:cG (.list l) (aH 3 0 [] k 4 ae):=.list l k 4 ae hr.1 (λ_=>rfl) hm hr.2;obtain⟨h1,h2⟩:=cG.hold _ _ hv;have e:bV (aH 3 0 [] k 4 ae)=aH 3 0 [] (bR k) 4 (eH ae):=rfl;rw[e,hh] at h1 h2;refine bm (L:=L2) (cd:=[.list (bR k) 4 ae]) rfl ?_ ?_ (anH _ _ _ _) ?_ ?_
 ·simp only[bV,aC,hh]
 ·unfold aH at h2;simp only[aU,bC] at h2 ⊢;exact⟨h2.2.2.2.1,aQ⟩
 ·show AV.agg [im 3,im 0,sv [],.list (bR (bR k)) 4 ae]=_;rw[fF];rfl
 ·rw[aL];exact h2
def ao1(s):∀h,W3.call 121 [sv s] h=aa (.ret (.agg (aH 2 0 s .nil 0 [])),h):=bm (L:=L3) rfl rfl rfl (ao0 s _) rfl rfl
def amN(aZ b)(k)(hb:b.length<=1099511610000)(ht:aZ.length<=1099511610000):∀h,W3.call 123 [.v (.string (bs aZ)),.list k 1 (aW b)] h=aa (.ret (im (mb (fQ aZ b):Nat)),h):=
 bm (L:=L3) (cd:=[.v (.string (bs aZ)),.list (bR k) 1 (aW b)]) rfl (by rw[bV,bV,aC.eq_1,oQ];rfl) (by simp[aU,aL,eX,jz]) (amM aZ b _ hb ht _) rfl rfl
def amj{v}{r}(hv:cG v r)(hd:fT v<=16)(hl:(dt v).length<=1099511600000):∃t,∀h,W3.call 118 [.agg r] h=aa (.ret (.tuple [.list t 1 (aW (dt v)),.v (.int .i64 0)]),h):=by obtain⟨h1,h2⟩:=cG.hold v r hv;obtain⟨t,c⟩:=ami h1 hd hl;exact⟨bR t,bm (L:=L3) (cd:=[.agg (bV r)]) rfl rfl (by simpa [aU,aL] using h2) (c _) rfl (by simp[aL,aU,eX,jz])⟩
def anE{l}{ae}(hr:ng l ae)(hh:eH ae=ae)(k)(hm:ae.length<=1000000):∀h,W3.call 119 [.list k 4 ae] h=aa (.ret (.agg (aH 3 0 [] (bR k) 4 ae)),h):=by
 have hv:cG (.list l) (aH 3 0 [] k 4 ae):=.list l k 4 ae hr.1 (λ_=>rfl) hm hr.2;obtain⟨h1,h2⟩:=cG.hold _ _ hv;have e:bV (aH 3 0 [] k 4 ae)=aH 3 0 [] (bR k) 4 (eH ae):=rfl;rw[e,hh] at h1 h2;refine bm (L:=L3) (cd:=[.list (bR k) 4 ae]) rfl ?_ ?_ (anD hr hh (bR k) hm _) ?_ ?_
 ·simp only[bV,aC,hh]
 ·unfold aH at h2;simp only[aU,bC] at h2 ⊢;exact⟨h2.2.2.2.1,aQ⟩
 ·show AV.agg [im 3,im 0,sv [],.list (bR (bR (bR k))) 4 ae]=_;rw[fF,fF];rfl
 ·rw[aL];exact h2
def ao2(s):∀h,W4.call 121 [sv s] h=aa (.ret (.agg (aH 2 0 s .nil 0 [])),h):=bm (L:=L4) rfl rfl rfl (ao1 s _) rfl rfl
def amO(aZ b)(k)(hb:b.length<=1099511610000)(ht:aZ.length<=1099511610000):∀h,W4.call 123 [.v (.string (bs aZ)),.list k 1 (aW b)] h=aa (.ret (im (mb (fQ aZ b):Nat)),h):=
 bm (L:=L4) (cd:=[.v (.string (bs aZ)),.list (bR k) 1 (aW b)]) rfl (by rw[bV,bV,aC.eq_1,oQ];rfl) (by simp[aU,aL,eX,jz]) (amN aZ b _ hb ht _) rfl rfl
def amk{v}{r}(hv:cG v r)(hd:fT v<=16)(hl:(dt v).length<=1099511600000):∃t,∀h,W4.call 118 [.agg r] h=aa (.ret (.tuple [.list t 1 (aW (dt v)),.v (.int .i64 0)]),h):=by obtain⟨h1,h2⟩:=cG.hold v r hv;obtain⟨t,c⟩:=amj h1 hd hl;exact⟨bR t,bm (L:=L4) (cd:=[.agg (bV r)]) rfl rfl (by simpa [aU,aL] using h2) (c _) rfl (by simp[aL,aU,eX,jz])⟩
def anF{l}{ae}(hr:ng l ae)(hh:eH ae=ae)(k)(hm:ae.length<=1000000):∀h,W4.call 119 [.list k 4 ae] h=aa (.ret (.agg (aH 3 0 [] (bR k) 4 ae)),h):=by
 have hv:cG (.list l) (aH 3 0 [] k 4 ae):=.list l k 4 ae hr.1 (λ_=>rfl) hm hr.2;obtain⟨h1,h2⟩:=cG.hold _ _ hv;have e:bV (aH 3 0 [] k 4 ae)=aH 3 0 [] (bR k) 4 (eH ae):=rfl;rw[e,hh] at h1 h2;refine bm (L:=L4) (cd:=[.list (bR k) 4 ae]) rfl ?_ ?_ (anE hr hh (bR k) hm _) ?_ ?_
 ·simp only[bV,aC,hh]
 ·unfold aH at h2;simp only[aU,bC] at h2 ⊢;exact⟨h2.2.2.2.1,aQ⟩
 ·show AV.agg [im 3,im 0,sv [],.list (bR (bR (bR k))) 4 ae]=_;rw[fF,fF];rfl
 ·rw[aL];exact h2
def ao3(s):∀h,W5.call 121 [sv s] h=aa (.ret (.agg (aH 2 0 s .nil 0 [])),h):=gJ (L:=L5) rfl rfl rfl (ao2 s _) rfl rfl
def amP(aZ b)(k)(hb:b.length<=1099511610000)(ht:aZ.length<=1099511610000):∀h,W5.call 123 [.v (.string (bs aZ)),.list k 1 (aW b)] h=aa (.ret (im (mb (fQ aZ b):Nat)),h):=
 gJ (L:=L5) (cd:=[.v (.string (bs aZ)),.list (bR k) 1 (aW b)]) rfl (by rw[bV,bV,aC.eq_1,oQ];rfl) (by simp[aU,aL,eX,jz]) (amO aZ b _ hb ht _) rfl rfl
def aml{v}{r}(hv:cG v r)(hd:fT v<=16)(hl:(dt v).length<=1099511600000):∃t,∀h,W5.call 118 [.agg r] h=aa (.ret (.tuple [.list t 1 (aW (dt v)),.v (.int .i64 0)]),h):=by obtain⟨h1,h2⟩:=cG.hold v r hv;obtain⟨t,c⟩:=amk h1 hd hl;exact⟨bR t,gJ (L:=L5) (cd:=[.agg (bV r)]) rfl rfl (by simpa [aU,aL] using h2) (c _) rfl (by simp[aL,aU,eX,jz])⟩
def anG{l}{ae}(hr:ng l ae)(hh:eH ae=ae)(k)(hm:ae.length<=1000000):∀h,W5.call 119 [.list k 4 ae] h=aa (.ret (.agg (aH 3 0 [] (bR k) 4 ae)),h):=by
 have hv:cG (.list l) (aH 3 0 [] k 4 ae):=.list l k 4 ae hr.1 (λ_=>rfl) hm hr.2;obtain⟨h1,h2⟩:=cG.hold _ _ hv;have e:bV (aH 3 0 [] k 4 ae)=aH 3 0 [] (bR k) 4 (eH ae):=rfl;rw[e,hh] at h1 h2;refine gJ (L:=L5) (cd:=[.list (bR k) 4 ae]) rfl ?_ ?_ (anF hr hh (bR k) hm _) ?_ ?_
 ·simp only[bV,aC,hh]
 ·unfold aH at h2;simp only[aU,bC] at h2 ⊢;exact⟨h2.2.2.2.1,aQ⟩
 ·show AV.agg [im 3,im 0,sv [],.list (bR (bR (bR k))) 4 ae]=_;rw[fF,fF];rfl
 ·rw[aL];exact h2
def Yq(s):∀h,W6.call 121 [sv s] h=aa (.ret (.agg (aH 2 0 s .nil 0 [])),h):=bm (L:=L6) rfl rfl rfl (ao3 s _) rfl rfl
def XI(aZ b)(k)(hb:b.length<=1099511610000)(ht:aZ.length<=1099511610000):∀h,W6.call 123 [.v (.string (bs aZ)),.list k 1 (aW b)] h=aa (.ret (im (mb (fQ aZ b):Nat)),h):=
 bm (L:=L6) (cd:=[.v (.string (bs aZ)),.list (bR k) 1 (aW b)]) rfl (by rw[bV,bV,aC.eq_1,oQ];rfl) (by simp[aU,aL,eX,jz]) (amP aZ b _ hb ht _) rfl rfl
def XG{v}{r}(hv:cG v r)(hd:fT v<=16)(hl:(dt v).length<=1099511600000):∃t,∀h,W6.call 118 [.agg r] h=aa (.ret (.tuple [.list t 1 (aW (dt v)),.v (.int .i64 0)]),h):=by obtain⟨h1,h2⟩:=cG.hold v r hv;obtain⟨t,c⟩:=aml h1 hd hl;exact⟨bR t,bm (L:=L6) (cd:=[.agg (bV r)]) rfl rfl (by simpa [aU,aL] using h2) (c _) rfl (by simp[aL,aU,eX,jz])⟩
def XJ{l}{ae}(hr:ng l ae)(hh:eH ae=ae)(k)(hm:ae.length<=1000000):∀h,W6.call 119 [.list k 4 ae] h=aa (.ret (.agg (aH 3 0 [] (bR k) 4 ae)),h):=by
 have hv:cG (.list l) (aH 3 0 [] k 4 ae):=.list l k 4 ae hr.1 (λ_=>rfl) hm hr.2;obtain⟨h1,h2⟩:=cG.hold _ _ hv;have e:bV (aH 3 0 [] k 4 ae)=aH 3 0 [] (bR k) 4 (eH ae):=rfl;rw[e,hh] at h1 h2;refine bm (L:=L6) (cd:=[.list (bR k) 4 ae]) rfl ?_ ?_ (anG hr hh (bR k) hm _) ?_ ?_
 ·simp only[bV,aC,hh]
 ·unfold aH at h2;simp only[aU,bC] at h2 ⊢;exact⟨h2.2.2.2.1,aQ⟩
 ·show AV.agg [im 3,im 0,sv [],.list (bR (bR (bR k))) 4 ae]=_;rw[fF,fF];rfl
 ·rw[aL];exact h2
end Go.Proofs.YtnfciiiohoafaaaGreatDoor
end
