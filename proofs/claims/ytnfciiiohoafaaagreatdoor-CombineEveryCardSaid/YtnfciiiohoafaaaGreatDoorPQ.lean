/-
  The engine, part 53: a guarded load behind an operation that acts.
-/
import Derived.Test.YtnfciiiohoafaaaGreatDoorPP
import Derived.Test.YtnfciiiohoafaaaGreatDoorPE
set_option maxHeartbeats 64000000
set_option maxRecDepth 100000
set_option linter.unusedSimpArgs false
set_option linter.unusedVariables false
set_option linter.constructorNameAsVariable false
section
namespace Go.Proofs.YtnfciiiohoafaaaGreatDoor
open Go.AE Go.NT
def dj(l:List Pr):List Int:=l.map Pr.ag
def NU(rows:List (List Int))(owners:List Int)(ep:Int)(X Y C T L:AV)(aa:List Int)(text:List UInt8)(l:List Pr)(h:ae)(r:Res)(h':ae):Prop:=
 Ext h h'/\((cd rows owners ep aa text l≠0/\r= .ret (.tuple [.v (.pointer none),.v (.int .i64 (cd rows owners ep aa text l))]))∨
  (cd rows owners ep aa text l=0/\∃c Wt,r= .ret (.tuple [.ptr (.box c) 0,.v (.int .i64 0)])/\IL Wt (aM rows owners l)/\lQ h' c ep X Y C T L Wt ((dA (at0 aa 0) text l:Nat):Int) ((aG (at0 aa 0) text l:Nat):Int) aa text l))
theorem iy{l:List Pr}:∀{last:Int},dy last l=true->∀p∈l,last<p.ag/\p.ag<64/\0<=p.no/\p.no<4096/\aX p.d=true/\aX p.e=true:=by
 induction l with
 |nil=>intro _ _ p hp;simp at hp
 |cons q l ih=>
  intro last h p hp
  rw[NT.dy] at h
  simp only[Bool.and_eq_true,decide_eq_true_eq] at h
  obtain⟨⟨⟨⟨⟨⟨h1,h2⟩,h3⟩,h4⟩,h5⟩,h6⟩,h7⟩:=h
  rcases List.mem_cons.1 hp with rfl|hp
  ·exact⟨h1,h2,h3,h4,h5,h6⟩
  ·obtain⟨k1,k2,k3,k4,k5,k6⟩:=ih h7 p hp
   exact⟨by omega,k2,k3,k4,k5,k6⟩
theorem qI{c0:Int}{text:List UInt8}{l:List Pr}{p:Pr}(hd:aX p.d=true)(he:aX p.e=true):elem (gX c0 text l p)=true:=by
 unfold gX dP
 rw[sM]
 exact oH (ji hd) (iq (ji he) _)
theorem vQ{c0:Int}{text:List UInt8}{l:List Pr}{last:Int}(h:dy last l=true):elem (dA c0 text l)=true:=
 BQ (fun p hp=>qI (iy h p hp).2.2.2.2.1 (iy h p hp).2.2.2.2.2) mI
theorem zO(h:ae)(hok:aZ h=true)(ep:Int)(X Y C T L:AV)(rows:List (List Int))(owners aa:List Int)(text:List UInt8)(l:List Pr)
 (hx:RL X rows) (hy:IL Y owners) (hc:IL C aa) (ht:BL T text) (hp:PL L l) (hcl:aa.length<=1000000) (hll:l.length<=1000000):
 ∃r h',W5.call 48 [.agg (cI ep X Y C),T,L] h=some (r,h')/\NU rows owners ep X Y C T L aa text l h r h':=by
 have bx:=hY (ep:=ep) hx hy hc
 obtain⟨_,h2,c2,rfl,rfl⟩:=KR (h.push (cI ep X Y C)) ep X Y C rows owners aa hx hy hc hcl
 have c1:=KI X Y rows owners hx hy
 have b0:=ak h (cI ep X Y C)
 have l1:ai Tryz.prog Gt (h.push (cI ep X Y C)) 25 (.ptr (.box h.boxes.length) 1)=some (.agg [X,Y]):=by
  rw[cP G9 (by kernel_rfl:bF Tryz.prog 25=some 2) b0 (Nat.le_of_ble_eq_true rfl)];rfl
 have l2:ai Tryz.prog Gt (h.push (cI ep X Y C)) 27 (.ptr (.box h.boxes.length) 0)=some (.agg (cI ep X Y C)):=by
  rw[cP kZq (by kernel_rfl:bF Tryz.prog 27=some 4) b0 (Nat.le_of_ble_eq_true rfl)];rfl
 have l3:ai Tryz.prog Gt ((h.push (cI ep X Y C)).push (cI ep X Y C)) 27 (.ptr (.box h.boxes.length) 0)=some (.agg (cI ep X Y C)):=by
  rw[cP kZq (by kernel_rfl:bF Tryz.prog 27=some 4) (aj b0) (Nat.le_of_ble_eq_true rfl)];rfl
 have ln1:=ht.cH
 have ln2:=hp.cH
 have lst:=KU
 have bw:fj Tryz.prog 98 [(0,.agg (cI ep X Y C)),(1,T),(2,L),(4,.agg (cE 3 0 [] .nil 0 []))]=some (.agg (dQ ep X Y C T L (.list .nil 0 []) (.list .nil 0 []) 0 0))/\(AV.agg (dQ ep X Y C T L (.list .nil 0 []) (.list .nil 0 []) 0 0)).aC=some (dQ ep X Y C T L (.list .nil 0 []) (.list .nil 0 []) 0 0):=by
  obtain⟨kx,sx,xs,rfl,-⟩:=hx.form
  obtain⟨ky,sy,rfl,-⟩:=hy
  obtain⟨kc,sc,rfl,-⟩:=hc
  obtain⟨kt,st,rfl,-⟩:=ht
  obtain⟨kp,sp,rfl,-⟩:=hp
  exact⟨Tk ep kx ky kc kt kp sx sy sc st sp _ _ _ _ _,rfl⟩
 obtain⟨bw1,bw2⟩:=bw
 have kf:=ah.mk (And.intro hx (And.intro hy (And.intro hc (And.intro ht hp))))
 have B0:BI h (((h.push (cI ep X Y C)).push (cI ep X Y C)).push (dQ ep X Y C T L (.list .nil 0 []) (.list .nil 0 []) 0 0)) ep X Y C T L h.boxes.length ((h.push (cI ep X Y C)).push (cI ep X Y C)).boxes.length (.list .nil 0 []) [] .nil:=
  ⟨((Ext.push _ _).trans (.push _ _)).trans (.push _ _),hok,.inl rfl,aj (aj b0),ak _ _,.inl ⟨rfl,rfl⟩,Nat.le_refl _,by rw[az,az];omega⟩
 have X1:=ah.mk (Ext.push h (cI ep X Y C))
 have X2:=ah.mk ((Ext.push h (cI ep X Y C)).trans (Ext.push _ (cI ep X Y C)))
 have kE1:ah (bC rows owners≠0->cd rows owners ep aa text l=bC rows owners):=⟨fun q=>by unfold cd;rw[if_pos q]⟩
 have kE2:ah (bC rows owners=0->pS rows ep aa=false->cd rows owners ep aa text l=380):=⟨fun q1 q2=>by
  unfold cd;rw[if_neg (by simp[q1]),if_pos];unfold pS at q2;rw[q2];rfl⟩
 have kE3:ah (bC rows owners=0->pS rows ep aa=true->65536<text.length->cd rows owners ep aa text l=2):=⟨fun q1 q2 q3=>by
  unfold cd;unfold pS at q2;rw[if_neg (by simp[q1]),if_neg (by rw[q2];decide),if_pos q3]⟩
 have kE4:ah (bC rows owners=0->pS rows ep aa=true->¬65536<text.length->64<l.length->cd rows owners ep aa text l=420):=⟨fun q1 q2 q3 q4=>by
  unfold cd;unfold pS at q2;rw[if_neg (by simp[q1]),if_neg (by rw[q2];decide),if_neg q3,if_pos q4]⟩
 have kE5:ah (bC rows owners=0->pS rows ep aa=true->¬65536<text.length->¬64<l.length->dy (-1) l=false->cd rows owners ep aa text l=420):=⟨fun q1 q2 q3 q4 q5=>by
  unfold cd;unfold pS at q2;rw[if_neg (by simp[q1]),if_neg (by rw[q2];decide),if_neg q3,if_neg q4,if_pos (by rw[q5];rfl)]⟩
 have kE6:ah (bC rows owners=0->pS rows ep aa=true->¬65536<text.length->¬64<l.length->dy (-1) l=true->∀y o e,bJ rows owners (dj l)=(y,o,e)->cd rows owners ep aa text l=if e≠0∨o=false∨l.length=0 then 420 else 0):=⟨fun q1 q2 q3 q4 q5 y o e q6=>by
  unfold cd;unfold pS at q2;rw[if_neg (by simp[q1]),if_neg (by rw[q2];decide),if_neg q3,if_neg q4,if_neg (by rw[q5];decide)]
  unfold dj at q6
  rw[q6]⟩
 have kW:ah (∀y o e,bJ rows owners (dj l)=(y,o,e)->aM rows owners l=y):=⟨fun y o e q=>by unfold aM;unfold dj at q;rw[q]⟩
 have kR:ah (pS rows ep aa=true->aa.length=aK rows/\aa.all aX=true):=⟨fun q=>by
  unfold pS at q
  simp only[Bool.and_eq_true,decide_eq_true_eq] at q
  exact⟨q.1.2,q.2⟩⟩
 unfold NU
 generalize cd rows owners ep aa text l=res at *
 clear hx hy hc ht hp b0
 refine aL rfl Tryz.func48 rfl ?_
 by_cases h0:bC rows owners=0
 rotate_left 1
 ·have kr:=ah.mk (And.intro h0 (kE1.out h0))
  clear kE1 kE2 kE3 kE4 kE5 kE6 c2 bw1 bw2 B0 lst l3
  generalize bC rows owners=q at *
  unfold im at *
  repeat' (first|simp(maxSteps:=999999) (disch:=first|exact dZ|fail) only[gW,reduceIte,Nat.reduceEqDiff,beq_self_eq_true,mY,aw,dS, *] | (refine dX ?_ ?_<;>(intro _;try omega)))
  exact⟨_,_,rfl,X1.out,.inl ⟨by rw[kr.out.2];exact kr.out.1,by rw[kr.out.2]⟩⟩
 rw[h0] at c1
 cases h1:pS rows ep aa with
 |false=>
  have kr:=ah.mk (kE2.out h0 h1)
  rw[h1] at c2
  clear kE1 kE2 kE3 kE4 kE5 kE6 bw1 bw2 B0 lst l3 h0 h1
  unfold im at *
  repeat' (first|simp(maxSteps:=999999) (disch:=first|exact dZ|fail) only[gW,reduceIte,Nat.reduceEqDiff,beq_self_eq_true,mY,aw,dS, *] | (refine dX ?_ ?_<;>(intro _;try omega)))
  exact⟨_,_,rfl,X2.out,.inl ⟨by rw[kr.out];decide,by rw[kr.out]⟩⟩
 |true=>
 rw[h1] at c2
 by_cases h3:65536<text.length
 ·have kr:=ah.mk (kE3.out h0 h1 h3)
  have hI:(65536:Int)<(text.length:Int):=by omega
  clear kE1 kE2 kE3 kE4 kE5 kE6 bw1 bw2 B0 lst l3 h0 h1 h3
  unfold im at *
  repeat' (first|simp(maxSteps:=999999) (disch:=first|exact dZ|fail) only[gW,reduceIte,Nat.reduceEqDiff,beq_self_eq_true,mY,aw,dS, *] | (refine dX ?_ ?_<;>(intro _;try omega)))
  exact⟨_,_,rfl,X2.out,.inl ⟨by rw[kr.out];decide,by rw[kr.out]⟩⟩
 have hI:¬(65536:Int)<(text.length:Int):=by omega
 by_cases h4:64<l.length
 ·have kr:=ah.mk (kE4.out h0 h1 h3 h4)
  have hI2:(64:Int)<(l.length:Int):=by omega
  clear kE1 kE2 kE3 kE4 kE5 kE6 bw1 bw2 B0 lst l3 h0 h1 h3 h4
  unfold im at *
  repeat' (first|simp(maxSteps:=999999) (disch:=first|exact dZ|fail) only[gW,reduceIte,Nat.reduceEqDiff,beq_self_eq_true,mY,aw,dS, *] | (refine dX ?_ ?_<;>(intro _;try omega)))
  exact⟨_,_,rfl,X2.out,.inl ⟨by rw[kr.out];decide,by rw[kr.out]⟩⟩
 have hI2:¬(64:Int)<(l.length:Int):=by omega
 have kbad:=ah.mk (fun q=>kE5.out h0 h1 h3 h4 q)
 have kgood:=ah.mk (fun q=>kE6.out h0 h1 h3 h4 q)
 have kcom:=ah.mk (kR.out h1)
 have kprog:=ah.mk h0
 have ktl:ah (text.length<=65536):=⟨by omega⟩
 have hl64:l.length<=64:=by omega
 clear kE1 kE2 kE3 kE4 kE5 kE6 kR h0 h1 h3 h4 X1 X2
 have kB0:=ah.mk B0
 clear B0
 obtain⟨HW,hHW⟩:∃HW,((h.push (cI ep X Y C)).push (cI ep X Y C)).push (dQ ep X Y C T L (.list .nil 0 []) (.list .nil 0 []) 0 0)=HW:=⟨_,rfl⟩
 unfold im at *
 repeat' (first|simp(maxSteps:=999999) (disch:=first|exact dZ|fail) only[gW,reduceIte,Nat.reduceEqDiff,beq_self_eq_true,mY,aw,dS, *] | (refine dX ?_ ?_<;>(intro _;try omega)))
 refine bf gM kZq ?_
 repeat' (first|simp(maxSteps:=999999) (disch:=first|exact dZ|fail) only[gW,reduceIte,Nat.reduceEqDiff,beq_self_eq_true,mY,aw,dS, *] | (refine dX ?_ ?_<;>(intro _;try omega)))
 rw[hHW] at kB0
 refine Run.gen fun e0 he0 hd0 hp0 hr0=>?_
 have f1:e0.get 1=T:=by rw[he0];exact gS
 have f2:e0.get 2=L:=by rw[he0];exact gS
 have f3:e0.get 3= .ptr (.box h.boxes.length) 0:=by rw[he0];exact gS
 have f6:e0.get 6= .ptr (.box ((h.push (cI ep X Y C)).push (cI ep X Y C)).boxes.length) 0:=by rw[he0];exact gS
 have f9:e0.get 9= .list .nil 0 []:=by rw[he0];exact gS
 have f10:e0.get 10= .v (.int .i64 (-1)):=by rw[he0];exact gS
 have f39:e0.get 39=L:=by rw[he0];exact gS
 have f40:e0.get 40= .v (.int .i64 (l.length:Nat)):=by rw[he0];exact gS
 have f41:e0.get 41= .v (.int .i64 (0:Nat)):=by rw[he0];exact gR
 have fd:e0.defers=[]:=by rw[hd0];exact gS
 clear he0 hd0 hp0 hr0 c1 c2 l1 l2 l3 bw1 bw2 lst hHW hI hI2 ln1
 generalize ((h.push (cI ep X Y C)).push (cI ep X Y C)).boxes.length=c at *
 generalize h.boxes.length=kb at *
 refine aD (fun m e H=>∃(i:Nat) (last:Int) (t:Tok) (sz:Nat) (cur:AV),i<=l.length/\m=l.length - i/\ah (dy last (l.drop i)=dy (-1) l)/\(-1<=last)/\ah (BI h H ep X Y C T L kb c cur ((l.take i).map Pr.val) t)/\ah (sz=1∨(dj (l.take i)=[]/\t= .nil))/\
  e.get 1=T/\e.get 2=L/\e.get 3= .ptr (.box kb) 0/\e.get 6= .ptr (.box c) 0/\e.get 9= .list t sz (ints (dj (l.take i)))/\e.get 10= .v (.int .i64 last)/\e.get 39=L/\e.get 40= .v (.int .i64 (l.length:Nat))/\e.get 41= .v (.int .i64 (i:Nat))/\e.defers=[]) ?_ l.length _ _ ?_
 rotate_left 1
 ·exact⟨0,-1,.nil,0,.list .nil 0 [],Nat.zero_le _,rfl,⟨rfl⟩,Int.le_refl _,kB0,⟨.inr ⟨rfl,rfl⟩⟩,f1,f2,f3,f6,f9,f10,f39,f40,f41,fd⟩
 clear f1 f2 f3 f6 f9 f10 f39 f40 f41 fd kB0 HW
 rintro m e H ⟨i,last,t,sz,cur,hi,rfl,kP,hla,kB,ksz,g1,g2,g3,g6,g9,g10,g39,g40,g41,hd⟩
 by_cases hlt:i<l.length
 ·obtain⟨p,hpi⟩:∃p,l[i]?=some p:=⟨_,List.getElem?_eq_getElem hlt⟩
  have hdrop:l.drop i=p::l.drop (i+1):=by
   rw[List.drop_eq_getElem_cons hlt,(List.getElem?_eq_some_iff.1 hpi).2]
  have hpf:=kP.out
  rw[hdrop,NT.dy] at hpf
  have kpf:=ah.mk hpf
  have ix:=kf.out.2.2.2.2.ix hlt
  have ld:=KN (H:=H) (s:=4) hpi
  have st:=oV (H:=H) p
  have zc:=zK
  have b0:=ak H (aq p)
  have q0:ai Tryz.prog Gt (H.push (aq p)) 3 (.ptr (.box H.boxes.length) 0)=some (.v (.int .i64 p.ag)):=aQ ag3 b0 rfl
  have q1:ai Tryz.prog Gt (H.push (aq p)) 3 (.ptr (.box H.boxes.length) 1)=some (.v (.int .i64 p.no)):=aQ ag3 b0 rfl
  have q2:ai Tryz.prog Gt (H.push (aq p)) 3 (.ptr (.box H.boxes.length) 2)=some (.v (.int .i64 p.d)):=aQ ag3 b0 rfl
  have q3:ai Tryz.prog Gt (H.push (aq p)) 3 (.ptr (.box H.boxes.length) 3)=some (.v (.int .i64 p.e)):=aQ ag3 b0 rfl
  have v1:=vN p.d
  have v2:=vN p.e
  have hltI:(i:Int)<(l.length:Int):=by omega
  have kBp:=ah.mk (kB.out.push (aq p))
  have ktake:=ah.mk (a9 hpi)
  clear hpf hdrop hpi b0
  have kbad2:ah ((decide (last<p.ag)&&decide (p.ag<64)&&decide (0<=p.no)&&decide (p.no<4096)&&aX p.d&&aX p.e)=false->res=420):=⟨fun q=>by
   refine kbad.out ?_
   rw[<-kpf.out,q];rfl⟩
  unfold im at *
  by_cases e1:p.ag<=last
  ·have d1:decide (p.ag<=last)=true:=decide_eq_true e1
   have kr:=ah.mk (kbad2.out (by rw[decide_eq_false (show ¬last<p.ag by omega)];rfl))
   clear e1
   repeat' (first|simp(maxSteps:=999999) (disch:=first|exact dZ|fail) only[gW,reduceIte,Nat.reduceEqDiff,beq_self_eq_true,mY,jj, *] | (refine dX ?_ ?_<;>(intro _;try omega)))
   exact⟨_,_,rfl,kBp.out.ext,.inl ⟨by rw[kr.out];decide,by rw[kr.out]⟩⟩
  have d1:decide (p.ag<=last)=false:=decide_eq_false e1
  by_cases e2:64<=p.ag
  ·have d2:decide (64<=p.ag)=true:=decide_eq_true e2
   have kr:=ah.mk (kbad2.out (by rw[decide_eq_false (show ¬p.ag<64 by omega)];simp))
   clear e1 e2
   repeat' (first|simp(maxSteps:=999999) (disch:=first|exact dZ|fail) only[gW,reduceIte,Nat.reduceEqDiff,beq_self_eq_true,mY,jj, *] | (refine dX ?_ ?_<;>(intro _;try omega)))
   exact⟨_,_,rfl,kBp.out.ext,.inl ⟨by rw[kr.out];decide,by rw[kr.out]⟩⟩
  have d2:decide (64<=p.ag)=false:=decide_eq_false e2
  by_cases e3:p.no<0
  ·have d3:decide (p.no<0)=true:=decide_eq_true e3
   have kr:=ah.mk (kbad2.out (by rw[decide_eq_false (show ¬0<=p.no by omega)];simp))
   clear e1 e2 e3
   repeat' (first|simp(maxSteps:=999999) (disch:=first|exact dZ|fail) only[gW,reduceIte,Nat.reduceEqDiff,beq_self_eq_true,mY,jj, *] | (refine dX ?_ ?_<;>(intro _;try omega)))
   exact⟨_,_,rfl,kBp.out.ext,.inl ⟨by rw[kr.out];decide,by rw[kr.out]⟩⟩
  have d3:decide (p.no<0)=false:=decide_eq_false e3
  by_cases e4:4096<=p.no
  ·have d4:decide (4096<=p.no)=true:=decide_eq_true e4
   have kr:=ah.mk (kbad2.out (by rw[decide_eq_false (show ¬p.no<4096 by omega)];simp))
   clear e1 e2 e3 e4
   repeat' (first|simp(maxSteps:=999999) (disch:=first|exact dZ|fail) only[gW,reduceIte,Nat.reduceEqDiff,beq_self_eq_true,mY,jj, *] | (refine dX ?_ ?_<;>(intro _;try omega)))
   exact⟨_,_,rfl,kBp.out.ext,.inl ⟨by rw[kr.out];decide,by rw[kr.out]⟩⟩
  have d4:decide (4096<=p.no)=false:=decide_eq_false e4
  cases e5:aX p.d with
  |false=>
   have kr:=ah.mk (kbad2.out (by rw[e5];simp))
   rw[e5] at v1
   clear e1 e2 e3 e4 e5
   repeat' (first|simp(maxSteps:=999999) (disch:=first|exact dZ|fail) only[gW,reduceIte,Nat.reduceEqDiff,beq_self_eq_true,mY,jj, *] | (refine dX ?_ ?_<;>(intro _;try omega)))
   exact⟨_,_,rfl,kBp.out.ext,.inl ⟨by rw[kr.out];decide,by rw[kr.out]⟩⟩
  |true=>
  rw[e5] at v1
  cases e6:aX p.e with
  |false=>
   have kr:=ah.mk (kbad2.out (by rw[e6];simp))
   rw[e6] at v2
   clear e1 e2 e3 e4 e5 e6
   repeat' (first|simp(maxSteps:=999999) (disch:=first|exact dZ|fail) only[gW,reduceIte,Nat.reduceEqDiff,beq_self_eq_true,mY,jj, *] | (refine dX ?_ ?_<;>(intro _;try omega)))
   exact⟨_,_,rfl,kBp.out.ext,.inl ⟨by rw[kr.out];decide,by rw[kr.out]⟩⟩
  |true=>
  rw[e6] at v2
  have hr5:=ir e5
  have hr6:=ir e6
  have kP2:ah (dy p.ag (l.drop (i+1))=dy (-1) l):=⟨by
   rw[<-kpf.out,decide_eq_true (show last<p.ag by omega),decide_eq_true (show p.ag<64 by omega),decide_eq_true (show 0<=p.no by omega),decide_eq_true (show p.no<4096 by omega),e5,e6];rfl⟩
  obtain⟨r,hvr,lr⟩:=zN p (by
   intro x hx
   simp only[List.mem_cons,List.not_mem_nil,or_false] at hx
   rcases hx with rfl|rfl|rfl|rfl<;>omega)
  have hkl:(dj (l.take i)).length=i:=by unfold dj;rw[List.length_map,List.length_take];omega
  have ap:=wI (x:=p.ag) (es:=dj (l.take i)) (by omega) ksz.out kBp.out.can
  have bl:=pQ p.ag
  have hke:dj (l.take i)++[p.ag]=dj (l.take (i+1)):=by unfold dj;rw[ktake.out,List.map_append];rfl
  rw[hke] at ap
  have kBa:=ah.mk kBp.out.app
  have hvl:((l.take i).map Pr.val).length=i:=by rw[List.length_map,List.length_take];omega
  obtain⟨H2,cs,t1,t2,t3,t4,t5⟩:=kBa.out.next (by omega) hvr
  have len94:=kBa.out.la.cH
  have lw:ai Tryz.prog Gt ((H.push (aq p)).app t) 94 (.ptr (.box c) 10)=some cur:=aQ Q2 kBa.out.work rfl
  have bxx:((H.push (aq p)).app t).boxes[H.boxes.length]?=some (aq p):=by rw[aT];exact ak _ _
  have q0':ai Tryz.prog Gt ((H.push (aq p)).app t) 3 (.ptr (.box H.boxes.length) 0)=some (.v (.int .i64 p.ag)):=aQ ag3 bxx rfl
  have q1':ai Tryz.prog Gt ((H.push (aq p)).app t) 3 (.ptr (.box H.boxes.length) 1)=some (.v (.int .i64 p.no)):=aQ ag3 bxx rfl
  have q2':ai Tryz.prog Gt ((H.push (aq p)).app t) 3 (.ptr (.box H.boxes.length) 2)=some (.v (.int .i64 p.d)):=aQ ag3 bxx rfl
  have q3':ai Tryz.prog Gt ((H.push (aq p)).app t) 3 (.ptr (.box H.boxes.length) 3)=some (.v (.int .i64 p.e)):=aQ ag3 bxx rfl
  have hve:(l.take i).map Pr.val++[p.val]=(l.take (i+1)).map Pr.val:=by rw[ktake.out,List.map_append];rfl
  rw[hve] at t5
  have kB2:=ah.mk t5
  have hne:((H.push (aq p)).app t).boxes.length≠c:=by have:=kBa.out.clt;omega
  rw[hvl] at t1 t2 t3 t4 kB2 len94
  have knext: -1<=p.ag:=by omega
  clear e1 e2 e3 e4 e5 e6 hr5 hr6 t5 hve bxx hke hvr hkl hvl kBp kBa kbad2 kpf kP hla
  repeat' (first|simp(maxSteps:=999999) (disch:=first|exact dZ|fail) only[gW,reduceIte,Nat.reduceEqDiff,beq_self_eq_true,mY,jj, *] | (refine dX ?_ ?_<;>(intro _;try omega)))
  refine wO 23 gM kZq kZq kZq ?_ ?_
  ·refine Hv (n:=27) (bi:=((H.push (aq p)).app t).boxes.length) (bn:=c) (x1:=i * 4) (x2:=10) kZq rfl rfl rfl rfl ?_ ?_ hne<;>(simp only[List.take_succ_cons,List.take_zero];repeat' (first|simp(maxSteps:=999999) (disch:=first|exact dZ|fail) only[gW,reduceIte,Nat.reduceEqDiff,beq_self_eq_true,mY,qH,jj,EW,if3,bp4,blz,and_self, *] | (refine dX ?_ ?_<;>(intro _;try omega))))
  repeat' (first|simp(maxSteps:=999999) (disch:=first|exact dZ|fail) only[gW,reduceIte,Nat.reduceEqDiff,beq_self_eq_true,mY,qH,jj,EW,if3,bp4,blz, *] | (refine dX ?_ ?_<;>(intro _;try omega)))
  exact⟨l.length - (i+1),by omega,i+1,p.ag,_,1,_,by omega,rfl,kP2,knext,kB2,⟨.inl rfl⟩,by simp⟩
 have hie:i=l.length:=by omega
 subst hie
 rw[List.take_length] at g9 ksz kB
 have hPok:dy (-1) l=true:=by
  rw[<-kP.out,List.drop_of_length_le (Nat.le_refl _)];rfl
 have kPok:=ah.mk hPok
 have lk:ai Tryz.prog Gt H 25 (.ptr (.box kb) 1)=some (.agg [X,Y]):=by
  rw[cP G9 (by kernel_rfl:bF Tryz.prog 25=some 2) kB.out.key (Nat.le_of_ble_eq_true rfl)];rfl
 have hww:IL (.list t sz (ints (dj l))) (dj l):=⟨t,sz,rfl,fun q=>by
  rcases ksz.out with z|⟨z,-⟩
  ·exact z
  ·exact absurd z q⟩
 have hkll:(dj l).length<=64:=by unfold dj;rw[List.length_map];exact hl64
 have hacc:(∃e,bJ rows owners (dj l)=([],false,e)/\∀h,W5.call 76 [.agg [X,Y],.list t sz (ints (dj l))] h=some (.ret (.tuple [.list .nil 0 [],.v (.bool false),.v (.int .i64 e)]),h))∨∃y,bJ rows owners (dj l)=(y,true,0)/\y.length=rows.length/\∀h,W5.call 76 [.agg [X,Y],.list t sz (ints (dj l))] h=some (.ret (.tuple [.list .held 1 (ints y),.v (.bool true),.v (.int .i64 0)]),h):=by
  obtain⟨k0,s0,xs,hXe,-⟩:=kf.out.1.form
  have:=BJ k0 s0 xs Y (.list t sz (ints (dj l))) rows owners (dj l) (by rw[<-hXe];exact kf.out.1) kf.out.2.1 hww (by omega)
  rw[<-hXe] at this
  exact this
 clear hPok hww hkll hlt kP hla hi
 rcases hacc with⟨e0,a1,ca⟩|⟨y,a1,a2,ca⟩
 ·have kr:ah (res=420):=⟨by rw[kgood.out kPok.out _ _ _ a1,if_pos (.inr (.inl rfl))]⟩
  clear a1
  by_cases h9:e0=0
  ·subst h9
   repeat' (first|simp(maxSteps:=999999) (disch:=first|exact dZ|fail) only[gW,reduceIte,Nat.reduceEqDiff,beq_self_eq_true,mY,dS, *] | (refine dX ?_ ?_<;>(intro _;try omega)))
   exact⟨_,_,rfl,kB.out.ext,.inl ⟨by rw[kr.out];decide,by rw[kr.out]⟩⟩
  ·have d9:decide (e0=0)=false:=decide_eq_false h9
   repeat' (first|simp(maxSteps:=999999) (disch:=first|exact dZ|fail) only[gW,reduceIte,Nat.reduceEqDiff,beq_self_eq_true,mY,dS, *] | (refine dX ?_ ?_<;>(intro _;try omega)))
   exact⟨_,_,rfl,kB.out.ext,.inl ⟨by rw[kr.out];decide,by rw[kr.out]⟩⟩
 by_cases h9:l.length=0
 ·have kr:ah (res=420):=⟨by rw[kgood.out kPok.out _ _ _ a1,if_pos (.inr (.inr h9))]⟩
  have d9:decide ((l.length:Int)=0)=true:=decide_eq_true (by omega)
  clear a1 h9
  repeat' (first|simp(maxSteps:=999999) (disch:=first|exact dZ|fail) only[gW,reduceIte,Nat.reduceEqDiff,beq_self_eq_true,mY,dS, *] | (refine dX ?_ ?_<;>(intro _;try omega)))
  exact⟨_,_,rfl,kB.out.ext,.inl ⟨by rw[kr.out];decide,by rw[kr.out]⟩⟩
 have d9:decide ((l.length:Int)=0)=false:=decide_eq_false (by omega)
 have kr:ah (res=0):=⟨by rw[kgood.out kPok.out _ _ _ a1,if_neg (by simp;intro q;rw[q] at h9;exact h9 rfl)]⟩
 have kWt:=ah.mk (kW.out _ _ _ a1)
 obtain⟨m1,m2⟩:=kcom.out
 have mpos:=(fI kprog.out).1
 have hc0:aX (at0 aa 0)=true:=by
  rw[List.all_eq_true] at m2
  exact m2 _ (by rw[bN (by omega)];exact List.getElem_mem _)
 have hc0r:=ir hc0
 have hlo:=kB.out.lo
 have hltc:=kB.out.lt
 have s1:=R1 (x:= .list .held 1 (ints y)) kB.out.work rfl
 obtain⟨b,vr,hcur,hb1,hb2,hb3,hb4⟩:∃(b:Nat) (vr:List (List AV)),cur= .arr b 0 vr.length vr.length/\H.boxes[b]?=some vr.flatten/\oP (l.map Pr.val) vr/\b≠c/\c+1<=b:=by
  rcases kB.out.la with⟨q,-⟩|⟨-,q⟩
  ·exfalso
   rw[List.map_eq_nil_iff] at q
   rw[q] at h9;exact h9 rfl
  ·exact q
 subst hcur
 have hclt:=kB.out.clt
 have W1:lQ (H.put c (dQ ep X Y C T L (.list .held 1 (ints y)) (.arr b 0 vr.length vr.length) 0 0)) c ep X Y C T L (.list .held 1 (ints y)) 0 0 aa text l:=
  ⟨⟨b,vr,aS hclt,by rw[av hb3];exact hb1,hb2⟩,kf.out.2.2.1,by omega,⟨by omega,by omega⟩,kf.out.2.2.2.1,ktl.out,hl64⟩
 have E1:Ext h (H.put c (dQ ep X Y C T L (.list .held 1 (ints y)) (.arr b 0 vr.length vr.length) 0 0)):=kB.out.ext.bZ (by omega) _
 obtain⟨_,Hp,cp,xp,rfl⟩:=DW 70 [.ptr (.box c) 0] [] (gX (at0 aa 0) text l) _ L l kf.out.2.2.2.2 (by omega) (fun q hq=>qI (iy kPok.out q hq).2.2.2.2.1 (iy kPok.out q hq).2.2.2.2.2) (fun q hq H' hX=>by
  have hm:=iy kPok.out q hq
  obtain⟨_,H2,n1,n2,rfl⟩:=EX H' c ep X Y C T L (.list .held 1 (ints y)) 0 0 aa text l (W1.mono hX) q ⟨by omega,by omega⟩ hm.2.2.2.2.1 hm.2.2.2.2.2
  exact⟨H2,n1,n2⟩)
 have hpe:l.foldl (fun x q=>x * gX (at0 aa 0) text l q%P) 1=dA (at0 aa 0) text l:=rfl
 rw[hpe] at cp
 have hpr:=ir (gq (vQ (c0:=at0 aa 0) (text:=text) kPok.out))
 have E2:=E1.trans xp
 have W2:=W1.mono xp
 obtain⟨b',vr',w1,w2,w3⟩:=W2.dF
 have hbc':b'≠c:=by
  intro q
  have z1:Hp.boxes[c]?=some (dQ ep X Y C T L (.list .held 1 (ints y)) (.arr b 0 vr.length vr.length) 0 0):=xp.box _ _ (aS hclt)
  rw[z1] at w1
  unfold dQ at w1
  injection w1 with w1
  simp only[List.cons.injEq,AV.arr.injEq,true_and,and_true] at w1
  omega
 have s2:=Tl (n:=((dA (at0 aa 0) text l:Nat):Int)) w1
 have hclt2:=(List.getElem?_eq_some_iff.1 w1).1
 obtain⟨kt,st,hTe,hst⟩:=kf.out.2.2.2.1
 obtain⟨H5,hH5⟩:∃H5,Hp.put c (dQ ep X Y C T L (.list .held 1 (ints y)) (.arr b' 0 vr'.length vr'.length) ((dA (at0 aa 0) text l:Nat):Int) 0)=H5:=⟨_,rfl⟩
 have w5:H5.boxes[c]?=some (dQ ep X Y C T L (.list .held 1 (ints y)) (.arr b' 0 vr'.length vr'.length) ((dA (at0 aa 0) text l:Nat):Int) 0):=by rw[<-hH5];exact aS hclt2
 have E5:Ext h H5:=by rw[<-hH5];exact E2.bZ (by omega) _
 have v5:H5.boxes[b']?=some vr'.flatten:=by rw[<-hH5,av hbc'];exact w2
 have sl:=BK ((dA (at0 aa 0) text l:Nat):Int) (at0 aa 0) text
 have hh:=xZ H5 vi .tight 1 [.iface 3 (.v (.int .i64 ((dA (at0 aa 0) text l:Nat):Int))),.iface 3 (.v (.int .i64 (at0 aa 0))),.iface 28 (.list kt st (u8s text))] [.int ((dA (at0 aa 0) text l:Nat):Int),.int (at0 aa 0),.text text]
  (.cons (.int _ ⟨by omega,by omega⟩) (.cons (.int _ ⟨by omega,by omega⟩) (.cons (.text kt st text hst (by have:=ktl.out;omega)) .nil))) (fun _=>rfl) (by simp) (by decide) (by simp[eD,dN]) (by have:=ktl.out;omega)
 have hch:mL vi (.list [.int ((dA (at0 aa 0) text l:Nat):Int),.int (at0 aa 0),.text text])=aG (at0 aa 0) text l:=rfl
 rw[hch,<-hTe,show vi=[115,105,103,110] from rfl] at hh
 simp only[List.map_cons,List.map_nil] at hh
 have lp:ai Tryz.prog Gt H5 3 (.ptr (.box c) 11)=some (.v (.int .i64 ((dA (at0 aa 0) text l:Nat):Int))):=aQ ag3 w5 rfl
 have lC:ai Tryz.prog Gt H5 23 (.ptr (.box c) 3)=some C:=aQ mo w5 rfl
 obtain⟨kc,sc,hCe,hsc⟩:=kf.out.2.2.1
 have ixC:=kf.out.2.2.1.ix (i:=0) (by omega)
 have lC0:=ldi (H:=H5) (l:=aa) (i:=0) (s:=1) (by omega)
 have s3:=Tm (n:=((aG (at0 aa 0) text l:Nat):Int)) w5
 have kfin:ah (Ext h (H5.put c (dQ ep X Y C T L (.list .held 1 (ints y)) (.arr b' 0 vr'.length vr'.length) ((dA (at0 aa 0) text l:Nat):Int) ((aG (at0 aa 0) text l:Nat):Int)))/\lQ (H5.put c (dQ ep X Y C T L (.list .held 1 (ints y)) (.arr b' 0 vr'.length vr'.length) ((dA (at0 aa 0) text l:Nat):Int) ((aG (at0 aa 0) text l:Nat):Int))) c ep X Y C T L (.list .held 1 (ints y)) ((dA (at0 aa 0) text l:Nat):Int) ((aG (at0 aa 0) text l:Nat):Int) aa text l):=
  ⟨E5.bZ (by omega) _,⟨⟨b',vr',aS (List.getElem?_eq_some_iff.1 w5).1,by rw[av hbc'];exact v5,w3⟩,kf.out.2.2.1,by omega,⟨by omega,by omega⟩,kf.out.2.2.2.1,ktl.out,hl64⟩⟩
 have kyw:ah (IL (.list .held 1 (ints y)) (aM rows owners l)):=⟨by rw[kWt.out];exact⟨_,_,rfl,fun _=>rfl⟩⟩
 have ix0:ay Tryz.prog 23 C (.v (.int .i64 0))=some (.elem 1 (ints aa) 0 0):=ixC
 clear W1 W2 E1 E2 E5 w1 w2 w3 v5 sl hch hpe xp hb1 hb2 hb3 hb4 hclt hclt2 hbc' hc0 hc0r hpr mpos m1 m2 hlo hltc hTe hst hCe hsc h9 a1 a2 ixC w5
 generalize ((dA (at0 aa 0) text l:Nat):Int)=ptv at *
 generalize ((aG (at0 aa 0) text l:Nat):Int)=chv at *
 generalize at0 aa 0=c0 at *
 unfold im at *
 repeat' (first|simp(maxSteps:=999999) (disch:=first|exact dZ|fail) only[gW,reduceIte,Nat.reduceEqDiff,beq_self_eq_true,mY,dS,qH,List.cons_append, *] | (refine dX ?_ ?_<;>(intro _;try omega)))
 refine bf gM kZq ?_
 repeat' (first|simp(maxSteps:=999999) (disch:=first|exact dZ|fail) only[gW,reduceIte,Nat.reduceEqDiff,beq_self_eq_true,mY,fF,qH,if3,PD,bp3, *] | (refine dX ?_ ?_<;>(intro _;try omega)))
 exact⟨_,_,rfl,kfin.out.1,.inr ⟨kr.out,_,_,rfl,kyw.out,kfin.out.2⟩⟩
theorem KV:Tryz.f17.results.toList=[.tmp 6,.tmp 7,.tmp 8,.tmp 9]:=kZq
theorem PM:Tryz.f54.results.toList=[.cell 6 85,.tmp 7]:=kZq
theorem R2:Tryz.f125.results.toList=[.tmp 3]:=kZq
theorem NV:Tryz.f127.results.toList=[.tmp 2]:=kZq
def mr(c0:Int)(text:List UInt8)(l:List Pr):List Int:=l.map fun p=>((dP c0 text l p.ag:Nat):Int)
theorem rU{rows:List (List Int)}{owners aa:List Int}{ep:Int}{text:List UInt8}{l:List Pr}(h:cd rows owners ep aa text l=0):
 bC rows owners=0/\aa.length=aK rows/\aa.all aX=true/\l.length<=64/\text.length<=65536/\dy (-1) l=true:=by
 unfold cd at h
 split at h
 ·rename_i q;exact absurd h q
 ·rename_i q1
  split at h
  ·simp at h
  ·rename_i q2
   split at h
   ·simp at h
   ·rename_i q3
    split at h
    ·simp at h
    ·rename_i q4
     split at h
     ·simp at h
     ·rename_i q5
      have q2':=(Bool.not_eq_true _).mp q2
      rw[Bool.not_eq_false'] at q2'
      simp only[Bool.and_eq_true,decide_eq_true_eq] at q2'
      have q5':=(Bool.not_eq_true _).mp q5
      rw[Bool.not_eq_false'] at q5'
      exact⟨Decidable.not_not.1 q1,q2'.1.2,q2'.2,by omega,by omega,q5'⟩
theorem PN(h:ae)(hok:aZ h=true)(ep:Int)(X Y C T L:AV)(rows:List (List Int))(owners aa:List Int)(text:List UInt8)(l:List Pr)
 (hx:RL X rows) (hy:IL Y owners) (hc:IL C aa) (ht:BL T text) (hp:PL L l) (hcl:aa.length<=1000000) (hll:l.length<=1000000):
 ∃r h',W5.call 17 [.agg (cI ep X Y C),T,L] h=some (r,h')/\
  ((cd rows owners ep aa text l≠0/\r= .ret (.tuple [.list .nil 0 [],.v (.int .i64 0),.v (.int .i64 0),.v (.int .i64 (cd rows owners ep aa text l))]))∨
  (cd rows owners ep aa text l=0/\∃Z,r= .ret (.tuple [Z,.v (.int .i64 ((dA (at0 aa 0) text l:Nat):Int)),.v (.int .i64 ((aG (at0 aa 0) text l:Nat):Int)),.v (.int .i64 0)])/\IL Z (mr (at0 aa 0) text l))):=by
 have bx:=hY (ep:=ep) hx hy hc
 obtain⟨r1,h1,c1,x1,post⟩:=zO (h.push (cI ep X Y C)) hok ep X Y C T L rows owners aa text l hx hy hc ht hp hcl hll
 have b0:=ak h (cI ep X Y C)
 have l0:ai Tryz.prog Gt (h.push (cI ep X Y C)) 27 (.ptr (.box h.boxes.length) 0)=some (.agg (cI ep X Y C)):=by
  rw[cP kZq (by kernel_rfl:bF Tryz.prog 27=some 4) b0 (Nat.le_of_ble_eq_true rfl)];rfl
 have kp:=ah.mk hp
 have ko:=ah.mk (x1.ok hok)
 have kbo:=ah.mk (fun q=>@rU rows owners aa ep text l q)
 have ln2:=hp.cH
 clear hx hy hc ht hp b0 x1
 generalize cd rows owners ep aa text l=res at *
 refine aL rfl Tryz.func17 rfl ?_
 rcases post with⟨q,rfl⟩|⟨q,c,Wt,rfl,-,w⟩
 ·have kr:=ah.mk q
  repeat' (first|simp(maxSteps:=999999) (disch:=first|exact dZ|fail) only[gW,reduceIte,Nat.reduceEqDiff,beq_self_eq_true,KV,aw, *] | (refine dX ?_ ?_<;>(intro _;try omega)))
  exact⟨_,_,rfl,.inl ⟨kr.out,rfl⟩⟩
 obtain⟨-,-,-,-,-,p6⟩:=kbo.out q
 have kP:=ah.mk p6
 have kW:=ah.mk w
 have kr:=ah.mk q
 have hl64:=w.ll
 obtain⟨b,vr,w1,-⟩:=w.dF
 clear p6 w
 subst q
 repeat' (first|simp(maxSteps:=999999) (disch:=first|exact dZ|fail) only[gW,reduceIte,Nat.reduceEqDiff,beq_self_eq_true,KV,aw, *] | (refine dX ?_ ?_<;>(intro _;try omega)))
 refine Run.gen fun e0 he0 hd0 hp0 hr0=>?_
 have f6:e0.get 6= .list .nil 0 []:=by rw[he0];exact gS
 have f10:e0.get 10= .ptr (.box c) 0:=by rw[he0];exact gS
 have f23:e0.get 23=L:=by rw[he0];exact gS
 have f24:e0.get 24= .v (.int .i64 (l.length:Nat)):=by rw[he0];exact gS
 have f25:e0.get 25= .v (.int .i64 (0:Nat)):=by rw[he0];exact gR
 have fd:e0.defers=[]:=by rw[hd0];exact gS
 clear he0 hd0 hp0 hr0 c1 l0 w1
 have kbl:ah ((mr (at0 aa 0) text l).length=l.length):=⟨by unfold mr;simp⟩
 refine aD (fun m e H=>∃(i:Nat) (t:Tok) (sz:Nat),i<=l.length/\m=l.length - i/\ah (Gr h1 H t)/\ah (sz=1∨((mr (at0 aa 0) text l).take i=[]/\t= .nil))/\e.get 6= .list t sz (ints ((mr (at0 aa 0) text l).take i))/\e.get 10= .ptr (.box c) 0/\e.get 23=L/\e.get 24= .v (.int .i64 (l.length:Nat))/\e.get 25= .v (.int .i64 (i:Nat))/\e.defers=[]) ?_ l.length _ _ ?_
 rotate_left 1
 ·exact⟨0,.nil,0,Nat.zero_le _,rfl,⟨Gr.nil (.refl _) ko.out⟩,⟨.inr ⟨rfl,rfl⟩⟩,f6,f10,f23,f24,f25,fd⟩
 clear f6 f10 f23 f24 f25 fd
 rintro m e H ⟨i,t,sz,hi,rfl,kG,ksz,g6,g10,g23,g24,g25,hd⟩
 by_cases hlt:i<l.length
 ·obtain⟨p,hpi⟩:∃p,l[i]?=some p:=⟨_,List.getElem?_eq_getElem hlt⟩
  have hm:=iy kP.out p (List.mem_of_getElem? hpi)
  have ix:=kp.out.ix hlt
  have ld:=KN (H:=H) (s:=4) hpi
  have st:=oV (H:=H) p
  have zc:=zK
  have l2:=oW (ak H (aq p))
  obtain⟨_,H2,cb,rfl,rfl⟩:=DX (H.push (aq p)) c ep X Y C T L Wt _ _ aa text l ((kW.out.mono kG.out.1).mono (.push _ _)) p ⟨by omega,by omega⟩
  have hv:(mr (at0 aa 0) text l)[i]?=some ((dP (at0 aa 0) text l p.ag:Nat):Int):=by
   unfold mr
   rw[List.getElem?_map,hpi];rfl
  have kG2:=(kG.out.push (aq p)).push (aq p)
  have ap:=wI (x:=((dP (at0 aa 0) text l p.ag:Nat):Int)) (es:=(mr (at0 aa 0) text l).take i) (by rw[List.length_take];omega) ksz.out kG2.2.2
  rw[<-a9 hv] at ap
  have kG3:=ah.mk kG2.app
  have bl:=pQ ((dP (at0 aa 0) text l p.ag:Nat):Int)
  have hltI:(i:Int)<(l.length:Int):=by omega
  clear hv hm hpi kG2
  generalize ((dP (at0 aa 0) text l p.ag:Nat):Int)=bn at *
  unfold im at *
  repeat' (first|simp(maxSteps:=999999) (disch:=first|exact dZ|fail) only[gW,reduceIte,Nat.reduceEqDiff,beq_self_eq_true,KV, *] | (refine dX ?_ ?_<;>(intro _;try omega)))
  exact⟨l.length - (i+1),by omega,i+1,_,1,by omega,rfl,kG3,⟨.inl rfl⟩,by simp⟩
 ·have hie:i=l.length:=by omega
  subst hie
  rw[List.take_of_length_le (by rw[kbl.out];exact Nat.le_refl _)] at g6 ksz
  obtain⟨b2,vr2,w2,-⟩:=(kW.out.mono kG.out.1).dF
  have lp:ai Tryz.prog Gt H 3 (.ptr (.box c) 11)=some (.v (.int .i64 ((dA (at0 aa 0) text l:Nat):Int))):=aQ ag3 w2 rfl
  have lc:ai Tryz.prog Gt H 3 (.ptr (.box c) 12)=some (.v (.int .i64 ((aG (at0 aa 0) text l:Nat):Int))):=aQ ag3 w2 rfl
  clear w2
  generalize ((dA (at0 aa 0) text l:Nat):Int)=ptv at *
  generalize ((aG (at0 aa 0) text l:Nat):Int)=chv at *
  repeat' (first|simp(maxSteps:=999999) (disch:=first|exact dZ|fail) only[gW,reduceIte,Nat.reduceEqDiff,beq_self_eq_true,KV, *] | (refine dX ?_ ?_<;>(intro _;try omega)))
  refine bf gM kZq ?_
  repeat' (first|simp(maxSteps:=999999) (disch:=first|exact dZ|fail) only[gW,reduceIte,Nat.reduceEqDiff,beq_self_eq_true,KV,qH, *] | (refine dX ?_ ?_<;>(intro _;try omega)))
  refine⟨_,_,rfl,.inr ⟨trivial,_,rfl,t,sz,rfl,fun q=>?_⟩⟩
  rcases ksz.out with z|⟨z,-⟩
  ·exact z
  ·exact absurd z q
theorem pG(n:Int):(AV.v (.int .i64 n)).aC=some [.v (.int .i64 n)]:=rfl
theorem Hy(r:Ref)(o:Nat):(AV.ptr r o).aC=some [.ptr r o]:=rfl
theorem PO(n:Int)(h:ae):W5.call 127 [im n] h=some (.ret (.v (.bool (pR n))),h):=by
 unfold im pR
 by_cases h0:n<0
 ·refine ar rfl Tryz.func127 rfl ?_
  have:decide (n<0)=true:=by simp[h0]
  repeat' (first|simp(maxSteps:=999999) (disch:=first|exact dZ|fail) only[gW,reduceIte,Nat.reduceEqDiff,beq_self_eq_true,NV,Bool.true_or, *] | (refine dX ?_ ?_<;>(intro _;try omega)))
 ·refine ar rfl Tryz.func127 rfl ?_
  have:decide (n<0)=false:=by simp[h0]
  repeat' (first|simp(maxSteps:=999999) (disch:=first|exact dZ|fail) only[gW,reduceIte,Nat.reduceEqDiff,beq_self_eq_true,NV,Bool.false_or, *] | (refine dX ?_ ?_<;>(intro _;try omega)))
theorem R4(H:ae)(b:Nat)(k:Int)(hb:H.boxes[b]?=some [.v (.int .i64 k)])(q:Pr):∃H',W5.call 125 [.agg (aq q),.ptr (.box b) 0] H=some (.ret (.v (.bool (decide (q.ag=k)))),H')/\Ext H H':=by
 have bc:(AV.agg (aq q)).aC=some (aq q):=rfl
 have l0:ai Tryz.prog Gt (H.push (aq q)) 3 (.ptr (.box H.boxes.length) 0)=some (.v (.int .i64 q.ag)):=aQ ag3 (ak _ _) rfl
 have l1:ai Tryz.prog Gt (H.push (aq q)) 3 (.ptr (.box b) 0)=some (.v (.int .i64 k)):=aQ ag3 (aj hb) rfl
 refine dL rfl Tryz.func125 rfl ?_
 clear hb
 repeat' (first|simp(maxSteps:=999999) (disch:=first|exact dZ|fail) only[gW,reduceIte,Nat.reduceEqDiff,beq_self_eq_true,R2,aw,jj, *] | (refine dX ?_ ?_<;>(intro _;try omega)))
 exact⟨_,rfl,.push _ _⟩
theorem KW(h:ae)(c:Nat)(cs:List AV)(L:AV)(l:List Pr)(ag:Int)(ns:List Int)(N:AV)(hb:h.boxes[c]?=some cs)(hcs:cs[5]?=some L)(hp:PL L l)(hl:l.length<=1000000)(hN:IL N ns)(hnl:ns.length<=1000):
 ∃r h',W5.call 54 [.ptr (.box c) 0,.v (.int .i64 ag),N] h=some (r,h')/\Ext h h'/\
  (((gl l ag=none∨ns.all inQ=false)/\r= .ret (.tuple [.agg (aq ⟨0,0,0,0⟩),.v (.int .i64 1)]))∨∃q,gl l ag=some q/\ns.all inQ=true/\r= .ret (.tuple [.agg (aq q),.v (.int .i64 0)])):=by
 have zc:=zK
 have H0:((h.push [.v (.int .i64 ag)]).push (aq ⟨0,0,0,0⟩)).boxes[h.boxes.length]?=some [.v (.int .i64 ag)]:=aj (ak _ _)
 have H1:((h.push [.v (.int .i64 ag)]).push (aq ⟨0,0,0,0⟩)).boxes[c]?=some cs:=aj (aj hb)
 have H2:=ak (h.push [.v (.int .i64 ag)]) (aq ⟨0,0,0,0⟩)
 obtain⟨_,h3,c1,x1,post⟩:=KO 125 [.ptr (.box h.boxes.length) 0] (fun p=>decide (p.ag=ag)) ((h.push [.v (.int .i64 ag)]).push (aq ⟨0,0,0,0⟩)) L l hp hl (fun q _ H hX=>R4 H h.boxes.length ag (hX.box _ _ H0) q)
 have l0:ai Tryz.prog Gt ((h.push [.v (.int .i64 ag)]).push (aq ⟨0,0,0,0⟩)) 29 (.ptr (.box c) 5)=some L:=aQ KP H1 hcs
 have l1:ai Tryz.prog Gt h3 29 (.ptr (.box c) 5)=some L:=aQ KP (x1.box _ _ H1) hcs
 have g2:=x1.box _ _ H2
 have l2:=oW g2
 have st0:aA Tryz.prog h3 85 (.ptr (.box (h.push [.v (.int .i64 ag)]).boxes.length) 0) (.agg (aq ⟨0,0,0,0⟩))=some h3:=by
  rw[aW (off:=0) (xs:=aq ⟨0,0,0,0⟩) rfl BN g2 rfl (Nat.le_refl 4),jc rfl,ec g2]
 have cc:=pD (pr:=sQ) rfl rfl 127 [] pR h3 N ns hN (by omega) (fun n _=>PO n _)
 have hany:=EO ns
 have X3:=ah.mk (((Ext.push h [.v (.int .i64 ag)]).trans (Ext.push _ (aq ⟨0,0,0,0⟩))).trans x1)
 have hg2:=(List.getElem?_eq_some_iff.1 g2).1
 have stq:∀q:Pr,aA Tryz.prog h3 85 (.ptr (.box (h.push [.v (.int .i64 ag)]).boxes.length) 0) (.agg (aq q))=some (h3.put (h.push [.v (.int .i64 ag)]).boxes.length (aq q))/\ai Tryz.prog Gt (h3.put (h.push [.v (.int .i64 ag)]).boxes.length (aq q)) 85 (.ptr (.box (h.push [.v (.int .i64 ag)]).boxes.length) 0)=some (.agg (aq q)):=fun q=>by
  refine⟨?_,oW (aS hg2)⟩
  rw[aW (off:=0) (xs:=aq q) rfl BN g2 rfl (Nat.le_refl 4)];rfl
 have XQ:∀q:Pr,Ext h (h3.put (h.push [.v (.int .i64 ag)]).boxes.length (aq q)):=fun q=>X3.out.bZ (by rw[az];omega) _
 have kq:=ah.mk (And.intro stq XQ)
 rw[az] at l2 st0
 have kp:=ah.mk hp
 unfold gl
 clear H0 H1 H2 hb hcs g2 x1 hN stq XQ hp hg2
 refine aL rfl Tryz.func54 rfl ?_
 unfold im at *
 rcases post with⟨p1,rfl⟩|⟨i,q,rfl,p2,p3⟩
 ·have kn:=ah.mk p1
  clear p1 cc
  repeat' (first|simp(maxSteps:=999999) (disch:=first|exact dZ|fail) only[gW,reduceIte,Nat.reduceEqDiff,beq_self_eq_true,PM,aw,az,qH,pG, *] | (refine dX ?_ ?_<;>(intro _;try omega)))
  exact⟨_,_,rfl,X3.out,.inl ⟨.inl kn.out,rfl⟩⟩
 ·have kn:=ah.mk (And.intro p2 p3)
  have hil:=(List.getElem?_eq_some_iff.1 p2).1
  have ix:=kp.out.ix hil
  have ld:=KN (H:=h3) (s:=4) p2
  have hneg:decide (((i:Nat):Int)<0)=false:=decide_eq_false (by omega)
  obtain⟨s1,s2⟩:=kq.out.1 q
  rw[az] at s1 s2
  have XQq:=kq.out.2 q
  rw[az] at XQq
  have kXQ:=ah.mk XQq
  clear XQq
  clear p2 p3
  cases ho:ns.any pR with
  |true=>
   rw[ho] at cc hany
   have kh:=ah.mk hany
   clear ho hany
   repeat' (first|simp(maxSteps:=999999) (disch:=first|exact dZ|fail) only[gW,reduceIte,Nat.reduceEqDiff,beq_self_eq_true,PM,aw,az,qH,pG, *] | (refine dX ?_ ?_<;>(intro _;try omega)))
   exact⟨_,_,rfl,X3.out,.inl ⟨.inr kh.out.symm,rfl⟩⟩
  |false=>
   rw[ho] at cc hany
   have kh:=ah.mk hany
   clear ho hany
   repeat' (first|simp(maxSteps:=999999) (disch:=first|exact dZ|fail) only[gW,reduceIte,Nat.reduceEqDiff,beq_self_eq_true,PM,aw,az,qH,pG, *] | (refine dX ?_ ?_<;>(intro _;try omega)))
   exact⟨_,_,rfl,kXQ.out,.inr ⟨q,kn.out.2,kh.out.symm,rfl⟩⟩
theorem Hz(k:Tok)(s:Nat)(es:List (List AV)):(AV.list k s es).aC=some [.list k s es]:=rfl
theorem Tn:Tryz.f55.results.toList=[.tmp 4]:=kZq
theorem BT:Tryz.f128.results.toList=[]:=kZq
theorem To:Tryz.f72.results.toList=[.tmp 2]:=kZq
theorem NW:Tryz.f139.results.toList=[.tmp 4]:=kZq
def cA(owners:List Int)(ag:Int)(k:Nat):List Nat:=(List.range k).filter fun i=>decide (at0 owners i=ag)
theorem mZ{owners:List Int}{ag:Int}{k:Nat}(h:at0 owners k=ag):cA owners ag (k+1)=cA owners ag k++[k]:=by
 unfold cA
 rw[List.range_succ,List.filter_append,List.filter_cons_of_pos (by simp[h])];rfl
theorem lR{owners:List Int}{ag:Int}{k:Nat}(h:at0 owners k≠ag):cA owners ag (k+1)=cA owners ag k:=by
 unfold cA
 rw[List.range_succ,List.filter_append,List.filter_cons_of_neg (by simp[h])];simp
theorem pH(owners:List Int)(ag:Int):cA owners ag owners.length=cT owners ag:=rfl
theorem HA(owners:List Int)(ag:Int)(k:Nat):(cA owners ag k).length<=k:=by
 unfold cA
 exact Nat.le_trans (List.length_filter_le _ _) (by simp)
theorem KX(h:ae)(c:Nat)(ag:Int):W5.call 55 [.ptr (.box c) 0,.v (.int .i64 ag)] h=some (.ret (.func (.func 128) [] [.ptr (.box h.boxes.length) 0,.ptr (.box (h.boxes.length+1)) 0]),(h.push [.ptr (.box c) 0]).push [.v (.int .i64 ag)]):=by
 refine ar rfl Tryz.func55 rfl ?_
 repeat' (first|simp(maxSteps:=999999) (disch:=first|exact dZ|fail) only[gW,reduceIte,Nat.reduceEqDiff,beq_self_eq_true,Tn,aw,az,pG,Hy, *] | (refine dX ?_ ?_<;>(intro _;try omega)))
theorem yd(l wb kb c:Nat)(Y:AV)(owners:List Int)(ag:Int)(Inv:Nat->ae->Prop)(Stop:ae->Prop)(hy:IL Y owners)(hol:owners.length<=1000000)
 (h1:∀k H,Inv k H->H.boxes[wb]?=some [.ptr (.box c) 0]/\H.boxes[kb]?=some [.v (.int .i64 ag)]/\∃cs,H.boxes[c]?=some cs/\cs[2]?=some Y)
 (hR:∀k H,k<owners.length->at0 owners k=ag->Inv k H->(∃H',W5.round l [.v (.int .i64 (k:Nat))] H=some (.ret (.v (.bool true)),H')/\Inv (k+1) H')∨∃H',W5.round l [.v (.int .i64 (k:Nat))] H=some (.ret (.v (.bool false)),H')/\Stop H')
 (hS:∀k H,k<owners.length->at0 owners k≠ag->Inv k H->Inv (k+1) H)
 (H0:ae) (h0:Inv 0 H0):∃H',W5.call 128 [.yield l,.ptr (.box wb) 0,.ptr (.box kb) 0] H0=some (.ret (.tuple []),H')/\(Inv owners.length H'∨Stop H'):=by
 have kk:=ah.mk (And.intro h1 (And.intro hR (And.intro hS (And.intro h0 hy))))
 obtain⟨b1,-,cs,b3,b4⟩:=h1 0 H0 h0
 have l1:ai Tryz.prog Gt H0 90 (.ptr (.box wb) 0)=some (.ptr (.box c) 0):=aQ wN b1 rfl
 have l2:ai Tryz.prog Gt H0 23 (.ptr (.box c) 2)=some Y:=aQ mo b3 b4
 have ln:=hy.cH
 clear h1 hR hS h0 hy b1 b3 b4
 refine dL rfl Tryz.func128 rfl ?_
 repeat' (first|simp(maxSteps:=999999) (disch:=first|exact dZ|fail) only[gW,reduceIte,Nat.reduceEqDiff,beq_self_eq_true,BT,qH,dS,M6, *] | (refine dX ?_ ?_<;>(intro _;try omega)))
 refine aD (fun m e H=>∃k:Nat,k<=owners.length/\m=owners.length - k/\ah (Inv k H)/\e.get 0= .yield l/\e.get 2= .ptr (.box kb) 0/\e.get 11=Y/\e.get 12= .v (.int .i64 (owners.length:Nat))/\e.get 13= .v (.int .i64 (k:Nat))/\e.defers=[]) ?_ owners.length _ _ ?_
 rotate_left 1
 ·refine⟨0,Nat.zero_le _,rfl,⟨kk.out.2.2.2.1⟩,?_,?_,?_,?_,?_,?_⟩<;>exact gR
 clear l1 l2
 rintro m e H ⟨k,hk,rfl,kI,g0,g2,g11,g12,g13,hd⟩
 by_cases hlt:k<owners.length
 rotate_left 1
 ·have:k=owners.length:=by omega
  subst this
  repeat' (first|simp(maxSteps:=999999) (disch:=first|exact dZ|fail) only[gW,reduceIte,Nat.reduceEqDiff,beq_self_eq_true,BT, *] | (refine dX ?_ ?_<;>(intro _;try omega)))
  exact⟨_,rfl,.inl kI.out⟩
 obtain⟨-,b2,-⟩:=kk.out.1 k H kI.out
 have ix:=kk.out.2.2.2.2.ix hlt
 have ld:=ldi (H:=H) (l:=owners) (i:=k) (s:=1) hlt
 have lk:ai Tryz.prog Gt H 3 (.ptr (.box kb) 0)=some (.v (.int .i64 ag)):=aQ ag3 b2 rfl
 have hltI:(k:Int)<(owners.length:Int):=by omega
 clear b2
 by_cases hc:at0 owners k=ag
 ·have dq:decide (at0 owners k=ag)=true:=decide_eq_true hc
  rcases kk.out.2.1 k H hlt hc kI.out with⟨H',r1,r2⟩|⟨H',r1,r2⟩
  ·have kI2:=ah.mk r2
   clear r2 hc kI
   generalize at0 owners k=ow at *
   repeat' (first|simp(maxSteps:=999999) (disch:=first|exact dZ|fail) only[gW,reduceIte,Nat.reduceEqDiff,beq_self_eq_true,BT,gY, *] | (refine dX ?_ ?_<;>(intro _;try omega)))
   exact⟨owners.length - (k+1),by omega,k+1,by omega,rfl,kI2,by simp⟩
  ·have kI2:=ah.mk r2
   clear r2 hc kI
   generalize at0 owners k=ow at *
   repeat' (first|simp(maxSteps:=999999) (disch:=first|exact dZ|fail) only[gW,reduceIte,Nat.reduceEqDiff,beq_self_eq_true,BT,gY, *] | (refine dX ?_ ?_<;>(intro _;try omega)))
   exact⟨_,rfl,.inr kI2.out⟩
 ·have dq:decide (at0 owners k=ag)=false:=decide_eq_false hc
  have kI2:=ah.mk (kk.out.2.2.1 k H hlt hc kI.out)
  clear hc kI
  generalize at0 owners k=ow at *
  repeat' (first|simp(maxSteps:=999999) (disch:=first|exact dZ|fail) only[gW,reduceIte,Nat.reduceEqDiff,beq_self_eq_true,BT,gY, *] | (refine dX ?_ ?_<;>(intro _;try omega)))
  exact⟨owners.length - (k+1),by omega,k+1,by omega,rfl,kI2,by simp⟩
def KY(h h1:ae)(b2:Nat)(LP:List bE)(owners:List Int)(ag:Int)(k:Nat)(H:ae):Prop:=
 ∃t s,H.loops=LP/\H.boxes[b2]?=some [.list t s (ints (pvI (cA owners ag k)))]/\(s=1∨(cA owners ag k=[]/\t= .nil))/\bG h.tn H t/\aZ H=true/\Ext h H/\∀(a:Nat) (cs:List AV),h1.boxes[a]?=some cs->a≠b2->H.boxes[a]?=some cs
theorem HB(h:ae)(hok:aZ h=true)(c wb kb:Nat)(Y:AV)(owners:List Int)(ag:Int)(cs:List AV)(hy:IL Y owners)(hol:owners.length<=1000000)(b1:h.boxes[wb]?=some [.ptr (.box c) 0])(b2:h.boxes[kb]?=some [.v (.int .i64 ag)])(b3:h.boxes[c]?=some cs)(b4:cs[2]?=some Y):
 ∃r h',W5.call 139 [.list .nil 0 [],.func (.func 128) [] [.ptr (.box wb) 0,.ptr (.box kb) 0]] h=some (r,h')/\Ext h h'/\∃Z,r= .ret Z/\IL Z (pvI (cT owners ag)):=by
 refine aL rfl Tryz.func139 rfl ?_
 repeat' (first|simp(maxSteps:=999999) (disch:=first|exact dZ|fail) only[gW,reduceIte,Nat.reduceEqDiff,beq_self_eq_true,NW,aw,Hz, *] | (refine dX ?_ ?_<;>(intro _;try omega)))
 refine Run.gen fun e4 he4 hd4 hp4 hr4=>?_
 have f2:e4.get 2= .ptr (.box h.boxes.length) 0:=by rw[he4];exact gS
 have f6:e4.get 6= .func (.func 128) [] [.ptr (.box wb) 0,.ptr (.box kb) 0]:=by rw[he4];exact gS
 have fd:e4.defers=[]:=by rw[hd4];exact gS
 clear he4 hd4 hp4 hr4
 refine kD (by rw[lv];exact f6) fun rec w1 w2 w3 w4 w5 w6=>?_
 have hwb:=(List.getElem?_eq_some_iff.1 b1).1
 have hkb:=(List.getElem?_eq_some_iff.1 b2).1
 have hcb:=(List.getElem?_eq_some_iff.1 b3).1
 obtain⟨h1,hh1⟩:∃h1,h.push [.list .nil 0 []]=h1:=⟨_,rfl⟩
 have g0:h1.boxes[h.boxes.length]?=some [.list .nil 0 []]:=by rw[<-hh1];exact ak _ _
 have g1:h1.boxes[wb]?=some [.ptr (.box c) 0]:=by rw[<-hh1];exact aj b1
 have g2:h1.boxes[kb]?=some [.v (.int .i64 ag)]:=by rw[<-hh1];exact aj b2
 have g3:h1.boxes[c]?=some cs:=by rw[<-hh1];exact aj b3
 have hll:h1.loops.length=h.loops.length:=by rw[<-hh1];rfl
 have hok1:aZ h1=true:=by rw[<-hh1];exact hok
 have X1:Ext h h1:=by rw[<-hh1];exact .push _ _
 have hlr:(h1.loop rec).loops[h1.loops.length]?=some rec:=@kC h1 rec
 have XL:Ext h (h1.loop rec):=X1.trans ((Fr.lD (bn:=h1.boxes.length) (l0:=h1.loops.length) (n0:=h1.tn) h1 rec).ext (Nat.le_refl _) (Nat.le_refl _) (Nat.le_refl _))
 rw[hh1]
 have feed:=yd h1.loops.length wb kb c Y owners ag (KY h h1 h.boxes.length (h1.loop rec).loops owners ag) (fun _=>False) hy hol
  (fun k H q=>by
   obtain⟨_,_,-,-,-,-,-,-,q7⟩:=q
   exact⟨q7 _ _ g1 (by omega),q7 _ _ g2 (by omega),cs,q7 _ _ g3 (by omega),b4⟩)
  ?_
  (fun k H _ hc q=>by
   unfold KY at *
   rw[lR hc];exact q)
  (h1.loop rec) ⟨.nil,0,rfl,g0,.inr ⟨rfl,rfl⟩,.inl rfl,hok1,XL,fun a cs ha _=>ha⟩
 rotate_left 1
 ·rintro k H hk hc ⟨t,s,i1,i2,i3,i4,i5,i6,i7⟩
  left
  have hlH:H.loops[h1.loops.length]?=some rec:=by rw[i1];exact hlr
  refine pC (Post:=KY h h1 h.boxes.length (h1.loop rec).loops owners ag (k+1)) hlH (by rw[w2];rfl) w5 w6 ?_
  have r1:∀t,(dD h1.loops.length rec [.v (.int .i64 (k:Nat))]).get t=if 7=t then .v (.int .i64 (k:Nat)) else e4.get t:=fun t=>rm w2 w1
  have d1:(dD h1.loops.length rec [.v (.int .i64 (k:Nat))]).defers=[]:=rfl
  obtain⟨K,hK⟩:∃K,H.busy h1.loops.length rec=K:=⟨_,rfl⟩
  have kb1:K.boxes[h.boxes.length]?=some [.list t s (ints (pvI (cA owners ag k)))]:=by rw[<-hK];exact i2
  have kc1:bG h.tn K t:=by rw[<-hK];exact i4
  have hlen:(pvI (cA owners ag k)).length<=k:=by unfold pvI;rw[List.length_map];exact HA _ _ _
  have ap:=wI (x:=(k:Int)) (es:=pvI (cA owners ag k)) (by omega) (i3.imp_right fun q=>⟨by rw[q.1];rfl,q.2⟩) kc1
  have hst:pvI (cA owners ag k)++[(k:Int)]=pvI (cA owners ag (k+1)):=by rw[mZ hc];unfold pvI;simp
  rw[hst] at ap
  have lA:=vD kb1
  have sA:aA Tryz.prog (K.app t) 23 (.ptr (.box h.boxes.length) 0) (.list (.free K.tn) 1 (ints (pvI (cA owners ag (k+1)))))=some ((K.app t).put h.boxes.length [.list (.free K.tn) 1 (ints (pvI (cA owners ag (k+1))))]):=
   aW (off:=0) (cs:=[.list t s (ints (pvI (cA owners ag k)))]) (xs:=[.list (.free K.tn) 1 (ints (pvI (cA owners ag (k+1))))]) rfl jC (by rw[aT];exact kb1) rfl (Nat.le_refl 1)
  have bl:=pQ (k:Int)
  have gr:=Grown.one i4 i5 i6.tn
  have kfin:ah (KY h h1 h.boxes.length (h1.loop rec).loops owners ag (k+1) ((H.app t).put h.boxes.length [.list (.free H.tn) 1 (ints (pvI (cA owners ag (k+1))))])):=by
   have hl1:=(List.getElem?_eq_some_iff.1 i2).1
   refine⟨_,1,?_,?_,.inl rfl,by rw[jd];exact gr.can,gr.ok,(gr.ext i6 (Nat.le_refl _)).bZ (Nat.le_refl _) _,fun a cs ha hne=>?_⟩
   ·show(H.app t).loops=_
    rw[ig];exact i1
   ·exact aS (by rw[aT];exact hl1)
   ·rw[av hne,aT];exact i7 a cs ha hne
  clear i1 i2 i3 i4 i5 i6 i7 gr hst hlen hc kb1 kc1 g0 g1 g2 g3 X1 XL hok1 hll hwb hkb hcb b1 b2 b3 hh1
  rw[hK]
  rw[w3,w4]
  repeat' (first|simp(maxSteps:=999999) (disch:=first|exact dZ|fail) only[gW,reduceIte,Nat.reduceEqDiff,beq_self_eq_true, *] | (refine dX ?_ ?_<;>(intro _;try omega)))
  refine⟨trivial,trivial,trivial,?_,?_⟩
  ·show(K.app t).loops=_
   rw[ig]
  ·rw[<-hK]
   refine(congrArg (KY h h1 h.boxes.length (h1.loop rec).loops owners ag (k+1)) ?_).mpr kfin.out
   cases t<;>rfl
 ·obtain⟨Hf,c1,⟨t,s,i1,i2,i3,i4,i5,i6,i7⟩|z⟩:=feed
  rotate_left 1
  ·exact z.elim
  refine⟨_,_,c1,rec,by rw[i1];exact hlr,by rw[w5];decide,.inl ⟨w6,?_⟩⟩
  have q1:(Hf.bh h1.loops.length {rec with state:= .exhausted}).boxes[h.boxes.length]?=some [.list t s (ints (pvI (cA owners ag owners.length)))]:=i2
  have XF:Ext h (Hf.bh h1.loops.length {rec with state:= .exhausted}):=((Fr.sF (bn:=h.boxes.length) (l0:=h.loops.length) (n0:=h.tn) i6 (Nat.le_refl _)).trans (.bh (by omega) _)).ext (Nat.le_refl _) (Nat.le_refl _) (Nat.le_refl _)
  generalize Hf.bh h1.loops.length {rec with state:= .exhausted}=HF at *
  have lA:=vD q1
  have kfin:=ah.mk (And.intro XF i3)
  clear q1 XF i1 i2 i3 i4 i5 i6 i7 c1 g0 g1 g2 g3 X1 XL hok1 hll hwb hkb hcb b1 b2 b3 hlr w1 w2 w3 w4 w5 w6 hh1
  repeat' (first|simp(maxSteps:=999999) (disch:=first|exact dZ|fail) only[gW,reduceIte,Nat.reduceEqDiff,beq_self_eq_true,NW, *] | (refine dX ?_ ?_<;>(intro _;try omega)))
  refine⟨_,_,rfl,kfin.out.1,_,rfl,t,s,by rw[pH],fun q=>?_⟩
  rcases kfin.out.2 with z|⟨z,-⟩
  ·exact z
  ·exfalso
   rw[pH] at z
   rw[z] at q;exact q rfl
theorem HC(h:ae)(hok:aZ h=true)(c wb kb:Nat)(Y:AV)(owners:List Int)(ag:Int)(cs:List AV)(hy:IL Y owners)(hol:owners.length<=1000000)(b1:h.boxes[wb]?=some [.ptr (.box c) 0])(b2:h.boxes[kb]?=some [.v (.int .i64 ag)])(b3:h.boxes[c]?=some cs)(b4:cs[2]?=some Y):
 ∃r h',W5.call 72 [.func (.func 128) [] [.ptr (.box wb) 0,.ptr (.box kb) 0]] h=some (r,h')/\Ext h h'/\∃Z,r= .ret Z/\IL Z (pvI (cT owners ag)):=by
 obtain⟨_,h',c1,X,Z,rfl,hZ⟩:=HB h hok c wb kb Y owners ag cs hy hol b1 b2 b3 b4
 have kZ:=ah.mk (And.intro X hZ)
 clear X hZ b1 b2 b3 b4 hy
 refine aL rfl Tryz.func72 rfl ?_
 repeat' (first|simp(maxSteps:=999999) (disch:=first|exact dZ|fail) only[gW,reduceIte,Nat.reduceEqDiff,beq_self_eq_true,To, *] | (refine dX ?_ ?_<;>(intro _;try omega)))
 exact⟨_,_,rfl,kZ.out.1,_,rfl,kZ.out.2⟩
theorem R5:Tryz.f67.results.toList=[.tmp 4]:=kZq
theorem KZ:Tryz.f22.results.toList=[.tmp 10,.tmp 11]:=kZq
theorem R6:(ej Tryz.prog 90).bind AV.aC=some [.v (.pointer none)]:=kZq
theorem K3{H:ae}(c:Nat):aA Tryz.prog (H.push [.v (.pointer none)]) 90 (.ptr (.box H.boxes.length) 0) (.ptr (.box c) 0)=some (H.push [.ptr (.box c) 0]):=cQ rfl kZq rfl rfl
def vR(rows:List (List Int))(aa W:List Int)(ch:Int)(row:Int):Nat:=aY (lU aa (rows.getD row.toNat [])) (at0 W row.toNat * ch)
theorem vS{aa row:List Int}(h:aa.all aX=true):elem (lU aa row)=true:=sT h _ (Nat.le_refl _)
theorem HD(x:Nat)(a b:Int):aY x (cq a b)=aY x (a * b):=mM (by rw[fR,Int.emod_emod_of_dvd _ (Int.dvd_refl _)])
theorem R7(H:ae)(kb wb c:Nat)(ep:Int)(X Y C T L Wt:AV)(pt ch:Int)(rows:List (List Int))(owners aa W:List Int)(text:List UInt8)(l:List Pr)
 (hx:RL X rows) (hy:IL Y owners) (hc:IL C aa) (hW:IL Wt W) (hcl:aa.length<=1000000) (hck:dx rows owners aa=0) (hwl:W.length=rows.length)
 (k1:H.boxes[kb]?=some (cI ep X Y C)) (k2:H.boxes[wb]?=some [.ptr (.box c) 0]) (w:lQ H c ep X Y C T L Wt pt ch aa text l) (row:Nat) (hrow:row<rows.length):
 ∃H',W5.call 67 [im (row:Nat),.ptr (.box kb) 0,.ptr (.box wb) 0] H=some (.ret (im (vR rows aa W ch (row:Nat):Nat)),H')/\Ext H H':=by
 obtain⟨_,H2,c1,rfl,x1⟩:=BM H X Y C rows owners aa hx hy hc hcl (row:Nat)
 obtain⟨p1,p2,p3⟩:=ya hck
 have hpub:gy rows owners aa (row:Nat)=(((lU aa (rows.getD row []):Nat):Int),0):=by
  unfold gy
  rw[if_neg (by simp[hck]),if_neg (by rw[decide_eq_false (show ¬((row:Nat):Int)<0 by omega),decide_eq_false (show ¬(rows.length:Int)<=((row:Nat):Int) by omega)];simp),Int.toNat_natCast]
 rw[hpub] at c1
 have l1:ai Tryz.prog Gt H 25 (.ptr (.box kb) 1)=some (.agg [X,Y]):=by
  rw[cP G9 (by kernel_rfl:bF Tryz.prog 25=some 2) k1 (Nat.le_of_ble_eq_true rfl)];rfl
 have l2:ai Tryz.prog Gt H 23 (.ptr (.box kb) 3)=some C:=aQ mo k1 rfl
 have l3:ai Tryz.prog Gt H2 90 (.ptr (.box wb) 0)=some (.ptr (.box c) 0):=aQ wN (x1.box _ _ k2) rfl
 obtain⟨b,vr,w1,-⟩:=(w.mono x1).dF
 have l4:ai Tryz.prog Gt H2 23 (.ptr (.box c) 6)=some Wt:=aQ mo w1 rfl
 have l5:ai Tryz.prog Gt H2 3 (.ptr (.box c) 12)=some (.v (.int .i64 ch)):=aQ ag3 w1 rfl
 have ix:=hW.ix (i:=row) (by omega)
 have l6:=ldi (H:=H2) (l:=W) (i:=row) (s:=1) (by omega)
 have c2:=KH (at0 W row) ch
 have he:=gq (vS (row:=rows.getD row []) p3)
 have c3:=mV ((lU aa (rows.getD row []):Nat):Int) (cq (at0 W row) ch)
 rw[iS he,Int.toNat_natCast,HD] at c3
 have hpp:vR rows aa W ch (row:Nat)=aY (lU aa (rows.getD row [])) (at0 W row * ch):=by unfold vR;rw[Int.toNat_natCast]
 rw[hpp]
 have kX:=ah.mk x1
 clear hpub hpp he x1 w w1 k1 k2 hx hy hc hW hck p1 p2 p3
 generalize ((aY (lU aa (rows.getD row [])) (at0 W row * ch):Nat):Int)=res at *
 generalize cq (at0 W row) ch=m at *
 generalize ((lU aa (rows.getD row []):Nat):Int)=pv at *
 generalize at0 W row=wr at *
 unfold im at *
 refine dL rfl Tryz.func67 rfl ?_
 repeat' (first|simp(maxSteps:=999999) (disch:=first|exact dZ|fail) only[gW,reduceIte,Nat.reduceEqDiff,beq_self_eq_true,R5,dS,fF, *] | (refine dX ?_ ?_<;>(intro _;try omega)))
 refine bf gM kZq ?_
 repeat' (first|simp(maxSteps:=999999) (disch:=first|exact dZ|fail) only[gW,reduceIte,Nat.reduceEqDiff,beq_self_eq_true,R5,qH, *] | (refine dX ?_ ?_<;>(intro _;try omega)))
 exact⟨_,rfl,kX.out⟩
theorem vT{rows:List (List Int)}{owners aa:List Int}{ep:Int}{text:List UInt8}{l:List Pr}(h:cd rows owners ep aa text l=0):
 ∃y,bJ rows owners (l.map Pr.ag)=(y,true,0)/\aM rows owners l=y/\y.length=rows.length:=by
 have h0:=h
 unfold cd at h
 rw[if_neg (by simp[(rU h0).1])] at h
 split at h
 ·simp at h
 ·split at h
  ·simp at h
  ·split at h
   ·simp at h
   ·split at h
    ·simp at h
    ·cases hq:bJ rows owners (l.map Pr.ag) with
     |mk y oe=>
      obtain⟨o,e⟩:=oe
      rw[hq] at h
      simp only at h
      split at h
      ·simp at h
      ·rename_i q
       simp only[not_or,Decidable.not_not,Bool.not_eq_false] at q
       obtain⟨q1,q2,-⟩:=q
       subst q1;subst q2
       exact⟨y,rfl,by unfold aM;rw[hq],(e7 hq).2.2.1⟩
def ia(rows:List (List Int))(owners:List Int)(ep:Int)(aa:List Int)(text:List UInt8)(l:List Pr)(ag z:Int):Bool × Int:=
 if cd rows owners ep aa text l≠0 then (false,cd rows owners ep aa text l) else tG rows owners aa text l ag z
theorem BU(c o:Nat):cB (.ptr (.box c) o) (.ptr (.box c) o)=true:=by
 rw[cB,tZ,Nat.beq_refl,Nat.beq_refl];rfl
theorem EY{l:List Pr}{ag:Int}{q:Pr}(h:gl l ag=some q):q∈l/\q.ag=ag:=by
 unfold gl at h
 refine⟨List.mem_of_find?_eq_some h,?_⟩
 have:=List.find?_some h
 simpa using this
theorem EZ(f:Int->Nat):∀(l:List Nat) (k:Nat),(pvI l).foldl (fun x q=>x * f q%P) k=l.foldl (fun x i=>x * f ((i:Nat):Int)%P) k
 | [],_=>rfl
 |a::l,k=>EZ f l _
theorem PQ(h:ae)(hok:aZ h=true)(ep:Int)(X Y C T L:AV)(rows:List (List Int))(owners aa:List Int)(text:List UInt8)(l:List Pr)(ag z:Int)
 (hx:RL X rows) (hy:IL Y owners) (hc:IL C aa) (ht:BL T text) (hp:PL L l) (hcl:aa.length<=1000000) (hll:l.length<=1000000):
 ∃r h',W5.call 22 [.agg (cI ep X Y C),T,L,im ag,im z] h=some (r,h')/\r= .ret (.tuple [.v (.bool (ia rows owners ep aa text l ag z).1),im (ia rows owners ep aa text l ag z).2]):=by
 have bx:=hY (ep:=ep) hx hy hc
 obtain⟨r1,h1,c1,x1,post⟩:=zO (h.push (cI ep X Y C)) hok ep X Y C T L rows owners aa text l hx hy hc ht hp hcl hll
 have b0:=ak h (cI ep X Y C)
 have l0:ai Tryz.prog Gt (h.push (cI ep X Y C)) 27 (.ptr (.box h.boxes.length) 0)=some (.agg (cI ep X Y C)):=by
  rw[cP kZq (by kernel_rfl:bF Tryz.prog 27=some 4) b0 (Nat.le_of_ble_eq_true rfl)];rfl
 have kE1:ah (cd rows owners ep aa text l≠0->ia rows owners ep aa text l ag z=(false,cd rows owners ep aa text l)):=⟨fun q=>by unfold ia;rw[if_pos q]⟩
 have kE2:ah (cd rows owners ep aa text l=0->ia rows owners ep aa text l ag z=tG rows owners aa text l ag z):=⟨fun q=>by unfold ia;rw[if_neg (by simp[q])]⟩
 have kbo:=ah.mk (fun q=>@rU rows owners aa ep text l q)
 have kwt:=ah.mk (fun q=>@vT rows owners aa ep text l q)
 have zc:=R6
 have zp:=zK
 have kf:=ah.mk (And.intro hx (And.intro hy (And.intro hc hp)))
 have g1:=x1.box _ _ b0
 have hok1:=x1.ok hok
 generalize ia rows owners ep aa text l ag z=res at *
 generalize cd rows owners ep aa text l=be at *
 clear hx hy hc ht hp b0 x1
 refine aL rfl Tryz.func22 rfl ?_
 rcases post with⟨q,rfl⟩|⟨q,c,Wt,rfl,hWt,w⟩
 ·have kr:=ah.mk (kE1.out q)
  have st:=K3 (H:=h1)
  have stn:aA Tryz.prog (h1.push [.v (.pointer none)]) 90 (.ptr (.box h1.boxes.length) 0) (.v (.pointer none))=some (h1.push [.v (.pointer none)]):=cQ rfl kZq rfl rfl
  clear kE1 kE2 kbo kwt g1 hok1
  unfold im at *
  repeat' (first|simp(maxSteps:=999999) (disch:=first|exact dZ|fail) only[gW,reduceIte,Nat.reduceEqDiff,beq_self_eq_true,KZ,aw, *] | (refine dX ?_ ?_<;>(intro _;try omega)))
  exact⟨_,_,rfl,by rw[kr.out]⟩
 obtain⟨p1,p2,p3,p4,p5,p6⟩:=kbo.out q
 obtain⟨y,a1,a2,a3⟩:=kwt.out q
 have hres:=kE2.out q
 subst q
 have st:=K3 (H:=h1) c
 have g2:(h1.push [.ptr (.box c) 0]).boxes[h.boxes.length]?=some (cI ep X Y C):=aj g1
 have g3:=ak h1 [AV.ptr (.box c) 0]
 have w2:=w.mono (.push h1 [.ptr (.box c) 0])
 obtain⟨b,vr,w3,-⟩:=w2.dF
 obtain⟨_,h4,c2,x4,post⟩:=KW (h1.push [.ptr (.box c) 0]) c _ L l ag [z] (.list .tight 1 [[.v (.int .i64 z)]]) w3 rfl kf.out.2.2.2 hll (zG z) (by simp)
 rw[show[z].all inQ=inQ z by simp] at post
 have l1:ai Tryz.prog Gt (h1.push [.ptr (.box c) 0]) 90 (.ptr (.box h1.boxes.length) 0)=some (.ptr (.box c) 0):=aQ wN g3 rfl
 have bl:=pQ z
 have fE1:ah (gl l ag=none∨inQ z=false->tG rows owners aa text l ag z=(false,1)):=⟨fun q=>by
  unfold tG
  cases hpo:gl l ag with
  |none=>rfl
  |some x=>
   rcases q with q|q
   ·rw[hpo] at q;cases q
   ·simp only[q];rfl⟩
 have fE2:ah (∀x,gl l ag=some x->inQ z=true->tG rows owners aa text l ag z=(decide (aY Gn z=p9 rows owners aa text l x),0)):=⟨fun x q1 q2=>by
  unfold tG
  rw[q1]
  simp only[q2];rfl⟩
 clear w3
 rcases post with⟨q,rfl⟩|⟨x,q1,q2,rfl⟩
 ·have kr:=ah.mk (hres.trans (fE1.out q))
  have sq:=oV (H:=h4) ⟨0,0,0,0⟩
  clear kE1 kE2 kbo kwt g1 g2 g3 w w2 hok1 fE1 fE2 hres a1 a2 a3 q p1 p2 p3 p6 x4
  unfold im at *
  repeat' (first|simp(maxSteps:=999999) (disch:=first|exact dZ|fail) only[gW,reduceIte,Nat.reduceEqDiff,beq_self_eq_true,KZ,aw, *] | (refine dX ?_ ?_<;>(intro _;try omega)))
  exact⟨_,_,rfl,by rw[kr.out]⟩
 have kr:=ah.mk (hres.trans (fE2.out x q1 q2))
 obtain⟨hxl,hxk⟩:=EY q1
 have hm:=iy p6 x hxl
 have hok4:=x4.ok (show aZ (h1.push [.ptr (.box c) 0])=true from hok1)
 have sq:=oV (H:=h4) x
 obtain⟨h5,hh5⟩:∃h5,h4.push (aq x)=h5:=⟨_,rfl⟩
 have X5:Ext (h1.push [.ptr (.box c) 0]) h5:=by rw[<-hh5];exact x4.trans (.push _ _)
 have hok5:aZ h5=true:=by rw[<-hh5];exact hok4
 have k5:h5.boxes[h.boxes.length]?=some (cI ep X Y C):=X5.box _ _ g2
 have m5:h5.boxes[h1.boxes.length]?=some [.ptr (.box c) 0]:=X5.box _ _ g3
 have W5':=w2.mono X5
 have q5:h5.boxes[h4.boxes.length]?=some (aq x):=by rw[<-hh5];exact ak _ _
 have lp5:=oW q5
 have lw5:ai Tryz.prog Gt h5 90 (.ptr (.box h1.boxes.length) 0)=some (.ptr (.box c) 0):=aQ wN m5 rfl
 obtain⟨_,h6,c3,x6,rfl⟩:=EX h5 c ep X Y C T L Wt _ _ aa text l W5' x ⟨by omega,by omega⟩ hm.2.2.2.2.1 hm.2.2.2.2.2
 have hok6:=x6.ok hok5
 have m6:=x6.box _ _ m5
 have lw6:ai Tryz.prog Gt h6 90 (.ptr (.box h1.boxes.length) 0)=some (.ptr (.box c) 0):=aQ wN m6 rfl
 have c4:=KX h6 c ag
 have W6':=W5'.mono x6
 obtain⟨b6,vr6,w6,-⟩:=W6'.dF
 have hok7:aZ ((h6.push [.ptr (.box c) 0]).push [.v (.int .i64 ag)])=true:=hok6
 obtain⟨_,h8,c5,x8,Z,rfl,hZ⟩:=HC ((h6.push [.ptr (.box c) 0]).push [.v (.int .i64 ag)]) hok7 c h6.boxes.length (h6.boxes.length+1) Y owners ag _ kf.out.2.1 (by obtain⟨o1,o2,-⟩:=fk p1;omega)
  (aj (ak _ _)) (cD (by rw[az])) (aj (aj w6)) rfl
 have X8:Ext h5 h8:=x6.trans (((Ext.push _ _).trans (.push _ _)).trans x8)
 have hchk:dx rows owners aa=0:=by unfold dx;rw[if_neg (by simp[p1]),if_pos (by rw[decide_eq_true p2,p3];rfl)]
 obtain⟨o1,o2,o3,o4⟩:=fk p1
 have hrl:∀q∈pvI (cT owners ag),∃i:Nat,q=(i:Int)/\i<rows.length:=fun q hq=>by
  unfold pvI at hq
  obtain⟨i,hi,rfl⟩:=List.mem_map.1 hq
  unfold cT at hi
  exact⟨i,rfl,by rw[o1];exact List.mem_range.1 (List.mem_filter.1 hi).1⟩
 have hzl:(pvI (cT owners ag)).length<=1000000:=by
  unfold pvI cT
  rw[List.length_map]
  exact Nat.le_trans (List.length_filter_le _ _) (by rw[List.length_range];omega)
 obtain⟨_,h9,c6,x9,rfl⟩:=Ht 67 [] [.ptr (.box h.boxes.length) 0,.ptr (.box h1.boxes.length) 0] (vR rows aa (aM rows owners l) ((aG (at0 aa 0) text l:Nat):Int)) h8 Z (pvI (cT owners ag)) hZ hzl
  (fun q hq=>by unfold vR;exact iq (vS p3) _)
  (fun q hq H hH=>by
   obtain⟨i,rfl,hi⟩:=hrl q hq
   exact R7 H h.boxes.length h1.boxes.length c ep X Y C T L Wt _ _ rows owners aa (aM rows owners l) text l kf.out.1 kf.out.2.1 kf.out.2.2.1 hWt hcl hchk (by rw[a2];exact a3) ((X8.trans hH).box _ _ k5) ((X8.trans hH).box _ _ m5) (W5'.mono (X8.trans hH)) i hi)
 rw[EZ] at c6
 have hN:=qI (c0:=at0 aa 0) (text:=text) (l:=l) hm.2.2.2.2.1 hm.2.2.2.2.2
 have hF:elem ((cT owners ag).foldl (fun x i=>x * vR rows aa (aM rows owners l) ((aG (at0 aa 0) text l:Nat):Int) ((i:Nat):Int)%P) 1)=true:=BQ (fun i _=>by unfold vR;exact iq (vS p3) _) mI
 have c7:=xV ((gX (at0 aa 0) text l x:Nat):Int) (((cT owners ag).foldl (fun x i=>x * vR rows aa (aM rows owners l) ((aG (at0 aa 0) text l:Nat):Int) ((i:Nat):Int)%P) 1:Nat):Int)
 have hwant:gX (at0 aa 0) text l x * ((cT owners ag).foldl (fun x i=>x * vR rows aa (aM rows owners l) ((aG (at0 aa 0) text l:Nat):Int) ((i:Nat):Int)%P) 1)%P=p9 rows owners aa text l x:=by
  unfold p9 vR
  rw[hxk]
  simp only[Int.toNat_natCast]
 rw[vP hN hF,hwant] at c7
 have c8:=mV 4 z
 have hG:(4:Int).toNat=Gn:=rfl
 rw[iS oU,hG] at c8
 have hd:decide (aY Gn z=p9 rows owners aa text l x)=decide (((aY Gn z:Nat):Int)=((p9 rows owners aa text l x:Nat):Int)):=by rw[decide_eq_decide];omega
 rw[hd] at kr
 clear kE1 kE2 kbo kwt fE1 fE2 hres a1 a2 a3 p1 p2 p3 p6 x4 X5 hok1 hok4 hok5 hok6 hok7 g1 g2 g3 w w2 W5' W6' w6 k5 m5 q5 m6 x6 x8 X8 x9 hZ hchk o1 o2 o3 o4 hrl hzl hN hF hwant hG hd hm hxl hxk q1 q2 hWt
 generalize ((p9 rows owners aa text l x:Nat):Int)=wv at *
 generalize ((aY Gn z:Nat):Int)=pz at *
 generalize ((gX (at0 aa 0) text l x:Nat):Int)=nv at *
 generalize (((cT owners ag).foldl (fun x i=>x * vR rows aa (aM rows owners l) ((aG (at0 aa 0) text l:Nat):Int) ((i:Nat):Int)%P) 1:Nat):Int)=fv at *
 unfold im at *
 repeat' (first|simp(maxSteps:=999999) (disch:=first|exact dZ|fail) only[gW,reduceIte,Nat.reduceEqDiff,beq_self_eq_true,KZ,aw, *] | (refine dX ?_ ?_<;>(intro _;try omega)))
 refine bU [(2,3)] gM kZq (fun p hp=>?_) ?_
 ·simp only[List.mem_singleton] at hp
  subst hp
  refine dI (x:= .ptr (.box h1.boxes.length) 0) (v:= .ptr (.box c) 0) kZq rfl rfl rfl kZq (BU c 0) ?_ ?_<;>(simp only[List.take_succ_cons,List.take_zero];repeat' (first|simp(maxSteps:=999999) (disch:=first|exact dZ|fail) only[gW,reduceIte,Nat.reduceEqDiff,beq_self_eq_true,KZ,and_self, *] | (refine dX ?_ ?_<;>(intro _;try omega))))
 repeat' (first|simp(maxSteps:=999999) (disch:=first|exact dZ|fail) only[gW,reduceIte,Nat.reduceEqDiff,beq_self_eq_true,KZ, *] | (refine dX ?_ ?_<;>(intro _;try omega)))
 exact⟨_,_,rfl,by rw[kr.out]⟩
end Go.Proofs.YtnfciiiohoafaaaGreatDoor
end
section
namespace Go.AE
section
variable {P:Program} {G:Nat->Option (List AV)} {R:Rec}
theorem nU{ops:Array Oper}{e:Env}{h:ae}{i j:Nat}{o:Oper}{t:TypeId}{a:Operand}(hap:eW ops i j=true)(ho:ops[j]?=some o)(hop:o.op= .load t a)
 (hj:(ops[i]?).map (fun o=>cY o.op)=some .acts) {x v:AV} (hv:cB v v=true)
 (h1:cz P G R ops (ops.toList.take j) e h (fun q er hr=>q= .normal/\bg ops er o=some true/\er.eval a=x/\ai P G hr t x=some v))
 (h2:cz P G R ops (ops.toList.take i) e h (fun q _ hm=>q= .normal/\ai P G hm t x=some v)):cX P G R ops e h i j=true:=by
 have hi:i<ops.size:=by
  rcases Nat.lt_or_ge i ops.size with hh|hh
  ·exact hh
  ·rw[Array.getElem?_eq_none hh] at hj;cases hj
 have hjs:j<ops.size:=by
  rcases Nat.lt_or_ge j ops.size with hh|hh
  ·exact hh
  ·rw[Array.getElem?_eq_none hh] at ho;cases ho
 have hc:(ops[j]?).map (fun o=>cY o.op)=some .reads:=by rw[ho];simp only[Option.map_some,hop];rfl
 unfold cX
 rw[hap,hc,hj]
 simp only[Bool.true_and]
 unfold fX
 rw[ho,dM (by omega),dM (by omega)]
 obtain⟨q1,er,hr,e1,rfl,e0,e2,e3⟩:=h1
 obtain⟨q2,em,hm,f1,rfl,f2⟩:=h2
 rw[e1,f1]
 simp only[e0,hop,e2,e3,f2,hv]
theorem DY{ops:Array Oper}{e:Env}{h:ae}{i j:Nat}{o:Oper}{t:TypeId}{a:Operand}(hap:eW ops i j=true)(ho:ops[j]?=some o)(hop:o.op= .load t a)
 (hj:(ops[i]?).map (fun o=>cY o.op)=some .acts)
 (h1:cz P G R ops (ops.toList.take j) e h (fun q er hr=>q= .normal/\bg ops er o=some false))
 (h2:cz P G R ops (ops.toList.take i) e h (fun q _ hm=>q= .normal)):cX P G R ops e h i j=true:=by
 have hi:i<ops.size:=by
  rcases Nat.lt_or_ge i ops.size with hh|hh
  ·exact hh
  ·rw[Array.getElem?_eq_none hh] at hj;cases hj
 have hjs:j<ops.size:=by
  rcases Nat.lt_or_ge j ops.size with hh|hh
  ·exact hh
  ·rw[Array.getElem?_eq_none hh] at ho;cases ho
 have hc:(ops[j]?).map (fun o=>cY o.op)=some .reads:=by rw[ho];simp only[Option.map_some,hop];rfl
 unfold cX
 rw[hap,hc,hj]
 simp only[Bool.true_and]
 unfold fX
 rw[ho,dM (by omega),dM (by omega)]
 obtain⟨q1,er,hr,e1,rfl,e0⟩:=h1
 obtain⟨q2,em,hm,f1,rfl⟩:=h2
 rw[e1,f1]
 simp only[e0]
end
end Go.AE
end
section
namespace Go.Proofs.YtnfciiiohoafaaaGreatDoor
open Go.AE Go.NT
theorem jO:Tryz.f20.results.toList=[.cell 14 3,.cell 15 32]:=kZq
theorem HE(owners:List Int)(ag:Int){k:Nat}:∀{n:Nat},k<=n->∃t,cA owners ag n=cA owners ag k++t:=by
 intro n
 induction n with
 |zero=>intro h;exact⟨[],by rw[show k=0 by omega];simp⟩
 |succ n ih=>
  intro h
  rcases Nat.lt_or_ge n k with hlt|hge
  ·exact⟨[],by rw[show k=n+1 by omega];simp⟩
  ·obtain⟨t,ht⟩:=ih hge
   by_cases hq:at0 owners n=ag
   ·exact⟨t++[n],by rw[mZ hq,ht,List.append_assoc]⟩
   ·exact⟨t,by rw[lR hq,ht]⟩
theorem K4{rows:List (List Int)}{owners aa:List Int}{ag:Int}{s:List (Int × Int)}(h:eQ rows owners aa ag s=true){k:Nat}(hk:k<owners.length)(hq:at0 owners k=ag):
 ∃p,s[(cA owners ag k).length]?=some p/\p.1=((k:Nat):Int)/\nF rows aa p=true:=by
 unfold eQ at h
 rw[Bool.and_eq_true,decide_eq_true_eq] at h
 obtain⟨h1,h2⟩:=h
 obtain⟨t,ht⟩:=HE owners ag (show k+1<=owners.length by omega)
 rw[pH,mZ hq] at ht
 have e:(s.map Prod.fst)[(cA owners ag k).length]?=some ((k:Nat):Int):=by
  rw[h1,ht,List.getElem?_map,List.append_assoc,List.getElem?_append_right (Nat.le_refl _),Nat.sub_self];rfl
 rw[List.getElem?_map] at e
 cases hp:s[(cA owners ag k).length]? with
 |none=>rw[hp] at e;cases e
 |some p=>
  rw[hp] at e
  injection e with e
  rw[List.all_eq_true] at h2
  exact⟨p,rfl,e,h2 p (List.mem_of_getElem? hp)⟩
theorem K5{H:ae}{b:Nat}{x:AV}{n:Int}(hb:H.boxes[b]?=some [x]):aA Tryz.prog H 3 (.ptr (.box b) 0) (.v (.int .i64 n))=some (H.put b [.v (.int .i64 n)]):=aW (off:=0) (cs:=[x]) (xs:=[.v (.int .i64 n)]) rfl sz3 hb rfl (Nat.le_refl 1)
theorem M9:cZ Tryz.prog 36=some false:=kZq
theorem BV{H:ae}{b:Nat}{x:AV}{n:Int}(hb:H.boxes[b]?=some [x]):aA Tryz.prog H 32 (.ptr (.box b) 0) (.v (.int .i64 n))=some (H.put b [.v (.int .i64 n)]):=aW (off:=0) (cs:=[x]) (xs:=[.v (.int .i64 n)]) rfl Rs hb rfl (Nat.le_refl 1)
theorem Tp:(ej Tryz.prog 3).bind AV.aC=some [.v (.int .i64 0)]:=kZq
theorem R8:(ej Tryz.prog 32).bind AV.aC=some [.v (.int .i64 0)]:=kZq
theorem HG{y:List Int}{s:List (Int × Int)}{i:Nat}{p:Int × Int}(h:s[i]?=some p):fh y (s.take (i+1))=cN (fh y (s.take i)) (cq (at0 y p.1.toNat) p.2):=by
 unfold fh
 rw[a9 h,List.foldl_append];rfl
theorem SL.ix{x:AV}{l:List (Int × Int)}(h:SL x l){i:Nat}(hi:i<l.length):ay Tryz.prog 36 x (.v (.int .i64 (i:Nat)))=some (.elem 2 (bL l) i 0):=by
 obtain⟨k,s,rfl,hs⟩:=h
 have hs1:s=2:=hs (by intro q;rw[q] at hi;simp at hi)
 subst hs1
 have:=al (k:=k) (kk:= .i64) (es:=bL l) (a:=((i:Nat):Int)) Tryz.underlying36 M4 (by omega) (by rw[nK];omega)
 rw[this,Int.toNat_natCast]
theorem SL.cH{x:AV}{l:List (Int × Int)}(h:SL x l):cH Tryz.prog 36 x=some (.v (.int .i64 (l.length:Nat))):=by
 obtain⟨k,s,rfl,-⟩:=h
 have u36:=Tryz.underlying36
 unfold Go.AE.cH
 rw[u36]
 simp only[nK]
theorem SL.aC{x:AV}{l:List (Int × Int)}(h:SL x l):x.aC=some [x]:=by obtain⟨k,s,rfl,-⟩:=h;rfl
structure K6(Hb:ae)(li:Nat)(rec:bE)(sumb ib zb eb:Nat)(rows:List (List Int))(owners aa W:List Int)(ag:Int)(s:List (Int × Int))(k:Nat)(H:ae):Prop where
 lp:H.loops[li]?=some rec
 old:∀(a:Nat) (cs:List AV),Hb.boxes[a]?=some cs->a≠sumb->a≠ib->H.boxes[a]?=some cs
 sum:H.boxes[sumb]?=some [.v (.int .i64 (fh W (s.take (cA owners ag k).length)))]
 ix:H.boxes[ib]?=some [.v (.int .i64 ((cA owners ag k).length:Nat))]
 le:(cA owners ag k).length<=s.length
 same:(s.take (cA owners ag k).length).map Prod.fst=(cA owners ag k).map fun(i:Nat)=>(i:Int)
 ok:(s.take (cA owners ag k).length).all (nF rows aa)=true
structure BW(li:Nat)(rec:bE)(zb eb:Nat)(H:ae):Prop where
 lp:H.loops[li]?=some {rec with state:= .done,pending:=some .ret}
 z:H.boxes[zb]?=some [.v (.int .i64 0)]
 e:H.boxes[eb]?=some [.v (.int .i64 340)]
theorem BX{rows:List (List Int)}{owners aa:List Int}(p1:bC rows owners=0)(p2:aa.length=aK rows)(p3:aa.all aX=true):dx rows owners aa=0:=by
 unfold dx;rw[if_neg (by simp[p1]),if_pos (by rw[decide_eq_true p2,p3];rfl)]
theorem DZ{rows:List (List Int)}{owners aa:List Int}(hc:dx rows owners aa=0){k:Nat}{v:Int}(hk:k<rows.length):
 (nF rows aa (((k:Nat):Int),v)=true/\mW rows owners aa (((k:Nat):Int),v)=(true,0))∨(nF rows aa (((k:Nat):Int),v)=false/\(mW rows owners aa (((k:Nat):Int),v)=(false,340)∨mW rows owners aa (((k:Nat):Int),v)=(false,0))):=by
 have hr:lO rows (((k:Nat):Int),v)=inQ v:=by
  unfold lO
  rw[decide_eq_true (show(0:Int)<=((k:Nat):Int) by omega),decide_eq_true (show((k:Nat):Int)<(rows.length:Int) by omega)];rfl
 unfold nF mW
 rw[if_neg (by simp[hc]),hr]
 simp only[Int.toNat_natCast]
 cases hv:inQ v with
 |false=>exact .inr ⟨rfl,.inl rfl⟩
 |true=>
  by_cases hq:aY Gn v=lU aa (rows.getD k [])
  ·left;rw[decide_eq_true hq];exact⟨rfl,rfl⟩
  ·right;rw[decide_eq_false hq];exact⟨rfl,.inr rfl⟩
end Go.Proofs.YtnfciiiohoafaaaGreatDoor
end
