/-
  The engine, part 31: arguments of recursive types: a set of types, each made of others of the set.
-/
import Derived.Test.YtnfciiiohoafaaaGreatDoorRI
import Derived.Test.YtnfciiiohoafaaaGreatDoorRF
import Derived.Test.YtnfciiiohoafaaaGreatDoorRC
import Derived.LaidMore
import Derived.MakeChecks
import Derived.Stop.LaidErr
import Derived.Stop.Joined
import Derived.Lib.LaidTab
import Derived.Test.YtnfciiiohoafaaaGreatDoorRows
open Nat renaming le_refl→aaP,le_of_ble_eq_true→abb,zero_le→aa4,reduceEqDiff→aaN,lt_or_ge→aa9,add_mul→abq,eq_of_beq_eq_true→abg,mul_le_mul_right→abu
open List renaming getElem?_map→aa0,getElem?_range→ace,length_map→aaR,nil_append→abA,append_nil→abv,range→aaV,length_take→aa6,take_of_length_le→aa3,getElem?_eq_some_iff→aaL,all_eq_true→aa2,map_map→ac7,getD_eq_getElem?_getD→aaU,mem_cons_self→aba,mem_cons_of_mem→aa5,getElem?_eq_getElem→aaM,all_append→ac8,drop_drop→acv,drop_zero→abp,drop_left→af1,take_length→abl
open And renaming intro→aaO
open Option renaming bind_some→abP,map_eq_some_iff→aaS,map_some→aa7,some.injEq→aaX
open Bool renaming and_eq_true→aaQ
open Array renaming all_eq_true'→adJ,mem_of_getElem?→adR,getElem?_eq_some_iff→abY
set_option maxHeartbeats 64000000
set_option maxRecDepth 100000
set_option linter.unusedSimpArgs false
set_option linter.unusedVariables false
set_option linter.constructorNameAsVariable false
section
namespace Go.Proofs.YtnfciiiohoafaaaGreatDoor
open Go.AE Go.NT
theorem Yd:(∀b,aJ Tryz.prog 81 (.ptr (.box b) 0) 0=some (.ptr (.box b) 0))/\∀b,aJ Tryz.prog 81 (.ptr (.box b) 0) 1=some (.ptr (.box b) 1):=⟨fun b=>kZq,fun b=>kZq⟩
theorem YP:(ej Tryz.prog 81).bind AV.aC=some (eu (0,0)):=kZq
theorem Ye{H:ae}(p:Int × Int):aA Tryz.prog (H.push (eu (0,0))) 81 (.ptr (.box H.boxes.length) 0) (.agg (eu p))=some (H.push (eu p)):=cQ rfl M4 rfl rfl
theorem Yf{H:ae}{b:Nat}{p:Int × Int}(hb:H.boxes[b]?=some (eu p)):ai Tryz.prog Gt H 81 (.ptr (.box b) 0)=some (.agg (eu p)):=by
 rw[cP Th M4 hb (aaP 2)];rfl
section
variable {H:ae} {b:Nat} {ep:Int} {X Y C S L Z x:AV}
end
structure TI2(h H:ae)(X Y:AV)(T:List AV)(aaD to:Tok):Prop where
 ti:TI h H X Y T aaD
 co:bG h.tn H to
 ne:∀a,aaD=.free a->to≠ .free a
theorem TI2.start{h H:ae}{X Y:AV}{T:List AV}{aaD:Tok}(b:TI h H X Y T aaD):TI2 h H X Y T aaD .nil:=⟨b,.inl rfl,fun _ _ q=>by cases q⟩
theorem TI2.push{h H:ae}{X Y:AV}{T:List AV}{aaD to:Tok}(b:TI2 h H X Y T aaD to)(cs:List AV):TI2 h (H.push cs) X Y T aaD to:=⟨b.ti.push cs,by rw[ij];exact b.co,b.ne⟩
theorem TI2.app{h H:ae}{X Y:AV}{T:List AV}{aaD to:Tok}(b:TI2 h H X Y T aaD to):TI2 h (H.app to) X Y T aaD (.free H.tn):=by
 have gr:=Grown.one b.co b.ti.ok b.ti.ext.tn
 refine⟨⟨gr.ext b.ti.ext (aaP _),gr.ok,xR b.ti.can fun a ha he=>b.ne a he ha,by rw[aT];exact b.ti.pb,by rw[aT];exact b.ti.tb⟩,gr.can,fun a ha he=>?_⟩
 injection he with he
 subst he
 rcases b.ti.can with q|q|⟨m,q,-,q2⟩
 ·rw[q] at ha;cases ha
 ·rw[q] at ha;cases ha
 ·rw[q] at ha
  injection ha with ha
  have:=gG q2
  omega
theorem ZR:Tryz.f100.results.toList=[.tmp 4]:=kZq
theorem Zq:Tryz.f102.results.toList=[.tmp 6]:=kZq
theorem ZS:Tryz.f103.results.toList=[.tmp 4]:=kZq
theorem ZE:Tryz.f104.results.toList=[.cell 4 81]:=kZq
theorem Zr:Tryz.f105.results.toList=[.tmp 6]:=kZq
theorem Ze:Tryz.f106.results.toList=[.tmp 6]:=kZq
theorem ZF{H:ae}{b:Nat}{ep:Int}{X Y C:AV}(hb:H.boxes[b]?=some (cI ep X Y C)):ai Tryz.prog Gt H 25 (.ptr (.box b) 1)=some (.agg [X,Y]):=by
 rw[cP G9 (by kernel_rfl:bF Tryz.prog 25=some 2) hb (abb rfl)];rfl
theorem XG{rows:List (List Int)}{s:List Int}{j:Nat}(hj:j<rows.length):(fV rows s)[j]?=some ((j:Int),oa (rows.getD j []) s):=by
 unfold fV;rw[aa0,ace hj];rfl
theorem ZG(h:ae)(ep:Int)(X Y C aai S:AV)(rows:List (List Int))(owners aa s:List Int)(hx:RL X rows)(hy:IL Y owners)(hc:IL C aa)(hCc:IL aai (ax s))(hS:SL S (fV rows s))(hp:bC rows owners=0)(hs:s.length=aK rows):
 ∃r h',W6.call 99 [.agg (cI ep X Y C),aai,S] h=some (r,h')/\Ext h h'/\r=.ret (.v (.bool true)):=by
 have bx:=hY (ep:=ep) hx hy hc
 have hcl:(ax s).length<=1000000:=by unfold ax;rw[aaR,hs];have:=(fI hp).2;omega
 have hr64:=(fk hp).2.1
 have lnS:=hS.cH
 rw[pF] at lnS
 have kf:ah (∀j<rows.length,∀h,W6.call 56 [.agg [X,Y],aai,.agg (eu ((j:Int),oa (rows.getD j []) s))] h=some (.ret (.tuple [.v (.bool true),im 0]),h)):=⟨fun j hj=>by
  have c:=ZI X Y aai rows owners (ax s) hx hy hCc hcl (j:Int) (oa (rows.getD j []) s)
  rw[Zj hp hs hj] at c
  exact c⟩
 have kS:=ah.mk hS
 have kx:ah (Ext h (h.push (cI ep X Y C))/\(h.push (cI ep X Y C)).boxes[h.boxes.length]?=some (cI ep X Y C)):=⟨.push _ _,ak _ _⟩
 clear hx hy hc hCc hS hp hs hcl
 refine aL rfl Tryz.func99 rfl ?_
 refine gx2 @ZK @aw ?_
 refine aD (fun m e H=>∃j:Nat,j<=rows.length/\m=rows.length - j/\ah (Ext h H/\H.boxes[h.boxes.length]?=some (cI ep X Y C))/\e.get 1=aai/\e.get 3=.ptr (.box h.boxes.length) 0/\e.get 7=.v (.int .i64 ((j:Int) - 1))/\e.get 12=S/\e.get 13=.v (.int .i64 (rows.length:Nat))/\e.get 14=.v (.int .i64 (j:Nat))/\e.defers=[]) ?_ rows.length _ _ ?_
 rotate_left 1
 ·refine⟨0,aa4 _,rfl,kx,?_,?_,?_,?_,?_,?_,?_⟩<;>exact gR
 clear kx
 rintro m e H ⟨j,hj,rfl,kX,g1,g3,g7,g12,g13,g14,hd⟩
 by_cases hlt:j<rows.length
 ·have hpj:=XG (s:=s) hlt
  have ix:=kS.out.ix (i:=j) (by rw[pF];exact hlt)
  have ld:ai Tryz.prog Gt H 81 (.elem 2 (bL (fV rows s)) j 0)=some (.agg (eu ((j:Int),oa (rows.getD j []) s))):=PI hpj
  have zc:=YP
  have st:=Ye (H:=H) ((j:Int),oa (rows.getD j []) s)
  have c1:=kf.out j hlt
  have b1:=ak H (eu ((j:Int),oa (rows.getD j []) s))
  have q0:ai Tryz.prog Gt (H.push (eu ((j:Int),oa (rows.getD j []) s))) 3 (.ptr (.box H.boxes.length) 0)=some (.v (.int .i64 (j:Int))):=aQ ag3 b1 rfl
  have q1:=Yf b1
  have q2:=ZF (aj (cs:=eu ((j:Int),oa (rows.getD j []) s)) kX.out.2)
  have kX2:ah (Ext h (H.push (eu ((j:Int),oa (rows.getD j []) s)))/\(H.push (eu ((j:Int),oa (rows.getD j []) s))).boxes[h.boxes.length]?=some (cI ep X Y C)):=⟨kX.out.1.trans (.push _ _),aj kX.out.2⟩
  have hltI:(j:Int)<(rows.length:Int):=by omega
  have dl:decide ((j:Int)<=(j:Int) - 1)=false:=decide_eq_false (by omega)
  clear hpj b1 kX
  generalize eu ((j:Int),oa (rows.getD j []) s)=sr at *
  unfold im at *
  refine gx5 @ZK @aw @Zd @dS @Yd ?_
  exact⟨rows.length - (j+1),by omega,j+1,by omega,rfl,(by first|exact kX2|trivial),by simp,by simp,by rw[show(((j+1:Nat):Int) - 1)=(j:Int) by omega],by simp,by simp,by simp,by simp⟩
 ·have hje:j=rows.length:=by omega
  subst hje
  repeat' (first|simp(maxSteps:=999999)(disch:=first|exact dZ|fail)only[gW,reduceIte,aaN,gBQ,ZK, *]|refine dX ?_ ?_<;>(intro _;try omega))
  exact⟨_,_,rfl,kX.out.1,rfl⟩
theorem Zs(a b:Int)(h:ae):W6.call 103 [im a,im b] h=some (.ret (im (pO a b)),h):=by
 have c:=ZO a b
 unfold im at *
 refine ar rfl Tryz.func103 rfl ?_
 exact gz1 @ZS
theorem Zz(p q:Int × Int)(h:ae):W6.call 100 [.agg (eu p),.agg (eu q)] h=some (.ret (.v (.bool (decide (p.1=q.1)))),(h.push (eu p)).push (eu q)):=by
 have b1:(AV.agg (eu p)).aC=some (eu p):=rfl
 have b2:(AV.agg (eu q)).aC=some (eu q):=rfl
 have n1:(h.push (eu p)).boxes.length=h.boxes.length+1:=az _ _
 have l1:ai Tryz.prog Gt ((h.push (eu p)).push (eu q)) 3 (.ptr (.box h.boxes.length) 0)=some (.v (.int .i64 p.1)):=aQ ag3 (aj (ak _ _)) rfl
 have l2:ai Tryz.prog Gt ((h.push (eu p)).push (eu q)) 3 (.ptr (.box (h.boxes.length+1)) 0)=some (.v (.int .i64 q.1)):=by
  have:=ak (h.push (eu p)) (eu q)
  rw[n1] at this
  exact aQ ag3 this rfl
 refine ar rfl Tryz.func100 rfl ?_
 exact gz3 @ZR @aw @Yd
theorem ZA(p q:Int × Int)(h:ae):W6.call 104 [.agg (eu p),.agg (eu q)] h=some (.ret (.agg (eu (p.1,cN p.2 q.2))),((h.push (eu p)).push (eu q)).push (eu (p.1,cN p.2 q.2))):=by
 have b1:(AV.agg (eu p)).aC=some (eu p):=rfl
 have b2:(AV.agg (eu q)).aC=some (eu q):=rfl
 have zc:=YP
 have n1:(h.push (eu p)).boxes.length=h.boxes.length+1:=az _ _
 have n2:((h.push (eu p)).push (eu q)).boxes.length=h.boxes.length+1+1:=by rw[az,n1]
 obtain⟨K,hK⟩:∃K,((h.push (eu p)).push (eu q)).push (eu (0,0))=K:=⟨_,rfl⟩
 have k1:K.boxes[h.boxes.length]?=some (eu p):=by rw[<-hK];exact aj (aj (ak _ _))
 have k2:K.boxes[h.boxes.length+1]?=some (eu q):=by rw[<-hK,<-n1];exact aj (ak _ _)
 have l1:ai Tryz.prog Gt K 3 (.ptr (.box h.boxes.length) 0)=some (.v (.int .i64 p.1)):=aQ ag3 k1 rfl
 have l2:ai Tryz.prog Gt K 3 (.ptr (.box h.boxes.length) 1)=some (.v (.int .i64 p.2)):=aQ ag3 k1 rfl
 have l3:ai Tryz.prog Gt K 3 (.ptr (.box (h.boxes.length+1)) 1)=some (.v (.int .i64 q.2)):=aQ ag3 k2 rfl
 have c:=K7 p.2 q.2
 have bd:fj Tryz.prog 81 [(0,.v (.int .i64 p.1)),(1,.v (.int .i64 (cN p.2 q.2)))]=some (.agg (eu (p.1,cN p.2 q.2))):=Te p.1 (cN p.2 q.2)
 have s1:aA Tryz.prog K 81 (.ptr (.box (h.boxes.length+1+1)) 0) (.agg (eu (p.1,cN p.2 q.2)))=some (((h.push (eu p)).push (eu q)).push (eu (p.1,cN p.2 q.2))):=by rw[<-hK,<-n2];exact Ye _
 have l4:ai Tryz.prog Gt (((h.push (eu p)).push (eu q)).push (eu (p.1,cN p.2 q.2))) 81 (.ptr (.box (h.boxes.length+1+1)) 0)=some (.agg (eu (p.1,cN p.2 q.2))):=by rw[<-n2];exact Yf (ak _ _)
 clear k1 k2
 unfold im at *
 generalize eu (p.1,cN p.2 q.2)=sr at *
 refine ar rfl Tryz.func104 rfl ?_
 refine gx3 @ZE @aw @Yd ?_
 refine bf rV kZq ?_
 exact gz2 @ZE @Yd
theorem Zt(h:ae)(A B:AV)(rows:List (List Int))(s t:List Int)(hA:SL A (fV rows t))(hB:SL B (fV rows s))(hr:rows.length<=1000000):
 ∃r h',W6.call 102 [A,B,.func (.func 100) [] []] h=some (r,h')/\Ext h h'/\r=.ret (.v (.bool true)):=by
 have lnA:=hA.cH
 have lnB:=hB.cH
 rw[pF] at lnA lnB
 have kk:=ah.mk (aaO hA hB)
 clear hA hB
 refine aL rfl Tryz.func102 rfl ?_
 refine gx1 @Zq ?_
 refine aD (fun m e H=>∃j:Nat,j<=rows.length/\m=rows.length - j/\ah (Ext h H)/\e.get 1=B/\e.get 2=.func (.func 100) [] []/\e.get 15=A/\e.get 16=.v (.int .i64 (rows.length:Nat))/\e.get 17=.v (.int .i64 (j:Nat))/\e.defers=[]) ?_ rows.length _ _ ?_
 rotate_left 1
 ·refine⟨0,aa4 _,rfl,⟨.refl _⟩,?_,?_,?_,?_,?_,?_⟩<;>exact gR
 clear lnA lnB
 rintro m e H ⟨j,hj,rfl,kX,g1,g2,g15,g16,g17,hd⟩
 by_cases hlt:j<rows.length
 ·have p1:=XG (s:=t) hlt
  have p2:=XG (s:=s) hlt
  have ixA:=kk.out.1.ix (i:=j) (by rw[pF];exact hlt)
  have ixB:=kk.out.2.ix (i:=j) (by rw[pF];exact hlt)
  have ldA:∀K:ae,ai Tryz.prog Gt K 81 (.elem 2 (bL (fV rows t)) j 0)=some (.agg (eu ((j:Int),oa (rows.getD j []) t))):=fun K=>PI p1
  have ldB:∀K:ae,ai Tryz.prog Gt K 81 (.elem 2 (bL (fV rows s)) j 0)=some (.agg (eu ((j:Int),oa (rows.getD j []) s))):=fun K=>PI p2
  have zc:=YP
  obtain⟨K1,hK1⟩:∃K1,H.push (eu ((j:Int),oa (rows.getD j []) t))=K1:=⟨_,rfl⟩
  obtain⟨K2,hK2⟩:∃K2,K1.push (eu ((j:Int),oa (rows.getD j []) s))=K2:=⟨_,rfl⟩
  have st1:aA Tryz.prog (H.push (eu (0,0))) 81 (.ptr (.box H.boxes.length) 0) (.agg (eu ((j:Int),oa (rows.getD j []) t)))=some K1:=by rw[<-hK1];exact Ye _
  have st2:aA Tryz.prog (K1.push (eu (0,0))) 81 (.ptr (.box K1.boxes.length) 0) (.agg (eu ((j:Int),oa (rows.getD j []) s)))=some K2:=by rw[<-hK2];exact Ye _
  have q1:ai Tryz.prog Gt K2 81 (.ptr (.box H.boxes.length) 0)=some (.agg (eu ((j:Int),oa (rows.getD j []) t))):=Yf (by rw[<-hK2,<-hK1];exact aj (ak _ _))
  have q2:ai Tryz.prog Gt K2 81 (.ptr (.box K1.boxes.length) 0)=some (.agg (eu ((j:Int),oa (rows.getD j []) s))):=Yf (by rw[<-hK2];exact ak _ _)
  have c:=Zz ((j:Int),oa (rows.getD j []) t) ((j:Int),oa (rows.getD j []) s) K2
  rw[show decide ((((j:Int),oa (rows.getD j []) t):Int × Int).1=(((j:Int),oa (rows.getD j []) s):Int × Int).1)=true from decide_eq_true rfl] at c
  have kX2:ah (Ext h ((K2.push (eu ((j:Int),oa (rows.getD j []) t))).push (eu ((j:Int),oa (rows.getD j []) s)))):=⟨by rw[<-hK2,<-hK1];exact(((kX.out.trans (.push _ _)).trans (.push _ _)).trans (.push _ _)).trans (.push _ _)⟩
  have hltI:(j:Int)<(rows.length:Int):=by omega
  clear p1 p2 kX hK1 hK2
  generalize eu ((j:Int),oa (rows.getD j []) t)=r1 at *
  generalize eu ((j:Int),oa (rows.getD j []) s)=r2 at *
  refine gx4 @Zq @aw @abA.{0} @abv.{0} ?_
  exact⟨rows.length - (j+1),by omega,j+1,by omega,rfl,(by first|exact kX2|trivial),by simp⟩
 ·have hje:j=rows.length:=by omega
  subst hje
  repeat' (first|simp(maxSteps:=999999)(disch:=first|exact dZ|fail)only[gW,reduceIte,aaN,gBQ,Zq, *]|refine dX ?_ ?_<;>(intro _;try omega))
  exact⟨_,_,rfl,kX.out,rfl⟩
def YY(a b:List Int):List Int:=(aaV a.length).map fun i=>pO (at0 a i) (at0 b i)
theorem Zu(a b:List Int):(YY a b).length=a.length:=by unfold YY;simp
theorem Zk(h:ae)(hok:aZ h=true)(A B:AV)(a b:List Int)(hA:IL A a)(hB:IL B b)(hl:a.length<=1000)(hab:b.length=a.length):
 ∃r h',W6.call 105 [A,B,.func (.func 103) [] []] h=some (r,h')/\Ext h h'/\∃Z,r=.ret Z/\IL Z (YY a b):=by
 have lnA:=hA.cH
 have kk:=ah.mk (aaO hA hB)
 have kp:ah (∀j<a.length,(YY a b)[j]?=some (pO (at0 a j) (at0 b j))):=⟨fun j hj=>by unfold YY;rw[aa0,ace hj];rfl⟩
 have kl:=ah.mk (Zu a b)
 clear hA hB
 refine aL rfl Tryz.func105 rfl ?_
 refine gx1 @Zr ?_
 refine aD (fun m e H=>∃(j:Nat) (t:Tok) (sz:Nat),j<=a.length/\m=a.length - j/\ah (Gr h H t)/\ah (sz=1∨((YY a b).take j=[]/\t=.nil))/\e.get 1=B/\e.get 2=.func (.func 103) [] []/\e.get 6=.list t sz (ints ((YY a b).take j))/\e.get 9=A/\e.get 10=.v (.int .i64 (a.length:Nat))/\e.get 11=.v (.int .i64 (j:Nat))/\e.defers=[]) ?_ a.length _ _ ?_
 rotate_left 1
 ·refine⟨0,.nil,0,aa4 _,rfl,⟨.refl _,hok,.inl rfl⟩,⟨.inr ⟨rfl,rfl⟩⟩,?_,?_,?_,?_,?_,?_,?_⟩<;>exact gR
 clear lnA
 rintro m e H ⟨j,t,sz,hj,rfl,kG,ks,g1,g2,g6,g9,g10,g11,hd⟩
 by_cases hlt:j<a.length
 ·have ixA:=kk.out.1.ix hlt
  have ixB:=kk.out.2.ix (i:=j) (by omega)
  have ldA:=ldi (H:=H) (s:=1) hlt
  have ldB:=ldi (H:=H) (l:=b) (i:=j) (s:=1) (by omega)
  have c:=Zs (at0 a j) (at0 b j) H
  have hs:=kp.out j hlt
  have ap:=wI (x:=pO (at0 a j) (at0 b j)) (es:=(YY a b).take j) (by rw[aa6];omega) ks.out kG.out.2.2
  rw[<-a9 hs] at ap
  have bl:=pQ (pO (at0 a j) (at0 b j))
  have kG2:=ah.mk kG.out.app
  have hltI:(j:Int)<(a.length:Int):=by omega
  clear hs kG
  generalize pO (at0 a j) (at0 b j)=v at *
  generalize at0 a j=va at *
  generalize at0 b j=vb at *
  unfold im at *
  refine gx3 @Zr @abA.{0} @abv.{0} ?_
  exact⟨a.length - (j+1),by omega,j+1,_,1,by omega,rfl,(by first|exact kG2|trivial),⟨.inl rfl⟩,by simp⟩
 ·have hje:j=a.length:=by omega
  subst hje
  rw[aa3 (by rw[kl.out];exact aaP _)] at g6 ks
  repeat' (first|simp(maxSteps:=999999)(disch:=first|exact dZ|fail)only[gW,reduceIte,aaN,gBQ,Zr, *]|refine dX ?_ ?_<;>(intro _;try omega))
  exact⟨_,_,rfl,kG.out.1,_,rfl,t,sz,rfl,fun q=>ks.out.resolve_right fun z=>q z.1⟩
def YZ(rows:List (List Int))(s t:List Int):List (Int × Int):=(aaV rows.length).map fun i=>(((i:Nat):Int),cN (oa (rows.getD i []) s) (oa (rows.getD i []) t))
theorem Zv(rows:List (List Int))(s t:List Int):(YZ rows s t).length=rows.length:=by unfold YZ;simp
theorem Zl(h:ae)(hok:aZ h=true)(A B:AV)(rows:List (List Int))(s t:List Int)(hA:SL A (fV rows s))(hB:SL B (fV rows t))(hr:rows.length<=1000):
 ∃r h',W6.call 106 [A,B,.func (.func 104) [] []] h=some (r,h')/\Ext h h'/\∃Z,r=.ret Z/\SL Z (YZ rows s t):=by
 have lnA:=hA.cH
 rw[pF] at lnA
 have kk:=ah.mk (aaO hA hB)
 have kp:ah (∀j<rows.length,(YZ rows s t)[j]?=some ((j:Int),cN (oa (rows.getD j []) s) (oa (rows.getD j []) t))):=⟨fun j hj=>by unfold YZ;rw[aa0,ace hj];rfl⟩
 have kl:=ah.mk (Zv rows s t)
 clear hA hB
 refine aL rfl Tryz.func106 rfl ?_
 refine gx1 @Ze ?_
 refine aD (fun m e H=>∃(j:Nat) (k:Tok) (sz:Nat),j<=rows.length/\m=rows.length - j/\ah (Gr h H k)/\ah (sz=2∨((YZ rows s t).take j=[]/\k=.nil))/\e.get 1=B/\e.get 2=.func (.func 104) [] []/\e.get 6=.list k sz (bL ((YZ rows s t).take j))/\e.get 9=A/\e.get 10=.v (.int .i64 (rows.length:Nat))/\e.get 11=.v (.int .i64 (j:Nat))/\e.defers=[]) ?_ rows.length _ _ ?_
 rotate_left 1
 ·refine⟨0,.nil,0,aa4 _,rfl,⟨.refl _,hok,.inl rfl⟩,⟨.inr ⟨rfl,rfl⟩⟩,?_,?_,?_,?_,?_,?_,?_⟩<;>exact gR
 clear lnA
 rintro m e H ⟨j,k,sz,hj,rfl,kG,ks,g1,g2,g6,g9,g10,g11,hd⟩
 by_cases hlt:j<rows.length
 ·have p1:=XG (s:=s) hlt
  have p2:=XG (s:=t) hlt
  have ixA:=kk.out.1.ix (i:=j) (by rw[pF];exact hlt)
  have ixB:=kk.out.2.ix (i:=j) (by rw[pF];exact hlt)
  have ldA:∀K:ae,ai Tryz.prog Gt K 81 (.elem 2 (bL (fV rows s)) j 0)=some (.agg (eu ((j:Int),oa (rows.getD j []) s))):=fun K=>PI p1
  have ldB:∀K:ae,ai Tryz.prog Gt K 81 (.elem 2 (bL (fV rows t)) j 0)=some (.agg (eu ((j:Int),oa (rows.getD j []) t))):=fun K=>PI p2
  have zc:=YP
  have hs:=kp.out j hlt
  have hsr:eu ((j:Int),cN (oa (rows.getD j []) s) (oa (rows.getD j []) t))=eu ((((j:Int),oa (rows.getD j []) s):Int × Int).1,cN (((j:Int),oa (rows.getD j []) s):Int × Int).2 (((j:Int),oa (rows.getD j []) t):Int × Int).2):=rfl
  obtain⟨K1,hK1⟩:∃K1,H.push (eu ((j:Int),oa (rows.getD j []) s))=K1:=⟨_,rfl⟩
  have st1:aA Tryz.prog (H.push (eu (0,0))) 81 (.ptr (.box H.boxes.length) 0) (.agg (eu ((j:Int),oa (rows.getD j []) s)))=some K1:=by rw[<-hK1];exact Ye _
  have q1:ai Tryz.prog Gt K1 81 (.ptr (.box H.boxes.length) 0)=some (.agg (eu ((j:Int),oa (rows.getD j []) s))):=Yf (by rw[<-hK1];exact ak _ _)
  have c:=ZA ((j:Int),oa (rows.getD j []) s) ((j:Int),oa (rows.getD j []) t) K1
  rw[<-hsr] at c
  have bl:aN Tryz.prog 36 1 [(0,.agg (eu ((j:Int),cN (oa (rows.getD j []) s) (oa (rows.getD j []) t))))]=some (.list .tight 2 [eu ((j:Int),cN (oa (rows.getD j []) s) (oa (rows.getD j []) t))]):=RT _ _
  have kG1:Gr h (((K1.push (eu ((j:Int),oa (rows.getD j []) s))).push (eu ((j:Int),oa (rows.getD j []) t))).push (eu ((j:Int),cN (oa (rows.getD j []) s) (oa (rows.getD j []) t)))) k:=by rw[<-hK1];exact(((kG.out.push _).push _).push _).push _
  obtain⟨K2,hK2⟩:∃K2,((K1.push (eu ((j:Int),oa (rows.getD j []) s))).push (eu ((j:Int),oa (rows.getD j []) t))).push (eu ((j:Int),cN (oa (rows.getD j []) s) (oa (rows.getD j []) t)))=K2:=⟨_,rfl⟩
  rw[hK2] at c kG1
  have u36:=Tryz.underlying36
  have ap:=apT (T:=36) (H:=K2) (r:=eu ((j:Int),cN (oa (rows.getD j []) s) (oa (rows.getD j []) t))) (es:=bL ((YZ rows s t).take j)) (sz:=sz) u36 RS (by decide) (by rw[nK,aa6];omega) (ks.out.imp_right fun q=>⟨by rw[q.1];rfl,q.2⟩) kG1.2.2
  rw[BP,<-a9 hs] at ap
  have kG2:=ah.mk kG1.app
  have hltI:(j:Int)<(rows.length:Int):=by omega
  clear p1 p2 hs kG kG1 hK1 hK2 hsr
  generalize eu ((j:Int),cN (oa (rows.getD j []) s) (oa (rows.getD j []) t))=r3 at *
  generalize eu ((j:Int),oa (rows.getD j []) s)=r1 at *
  generalize eu ((j:Int),oa (rows.getD j []) t)=r2 at *
  refine gx4 @Ze @aw @abA.{0} @abv.{0} ?_
  refine bf rV kZq ?_
  refine gx3 @Ze @abA.{0} @abv.{0} ?_
  exact⟨rows.length - (j+1),by omega,j+1,_,2,by omega,rfl,(by first|exact kG2|trivial),⟨.inl rfl⟩,by simp⟩
 ·have hje:j=rows.length:=by omega
  subst hje
  rw[aa3 (by rw[kl.out];exact aaP _)] at g6 ks
  repeat' (first|simp(maxSteps:=999999)(disch:=first|exact dZ|fail)only[gW,reduceIte,aaN,gBQ,Ze, *]|refine dX ?_ ?_<;>(intro _;try omega))
  exact⟨_,_,rfl,kG.out.1,_,rfl,k,sz,rfl,fun q=>ks.out.resolve_right fun z=>q z.1⟩
theorem Zm:Tryz.f43.results.toList=[.cell 8 27,.tmp 9,.tmp 10]:=kZq
theorem ZT(x:AV):ay Tryz.prog 79 (.list .tight 1 [[x]]) (.v (.int .i64 0))=some (.elem 1 [[x]] 0 0):=kZq
theorem ZU(x:AV):ay Tryz.prog 22 (.list .tight 1 [[x]]) (.v (.int .i64 0))=some (.elem 1 [[x]] 0 0):=kZq
theorem ZV(x:AV):cH Tryz.prog 79 (.list .tight 1 [[x]])=some (.v (.int .i64 1)):=kZq
theorem ZW(x:AV):cH Tryz.prog 22 (.list .tight 1 [[x]])=some (.v (.int .i64 1)):=kZq
theorem ZX(x:AV)(H:ae):ai Tryz.prog Gt H 36 (.elem 1 [[x]] 0 0)=some x:=by rw[ez M9 (row:=[x]) rfl];rfl
theorem ZY(x:AV)(H:ae):ai Tryz.prog Gt H 23 (.elem 1 [[x]] 0 0)=some x:=by rw[ez mo (row:=[x]) rfl];rfl
theorem Zf{H:ae}{b:Nat}{ep:Int}{X Y C:AV}(hb:H.boxes[b]?=some (cI ep X Y C)):ai Tryz.prog Gt H 27 (.ptr (.box b) 0)=some (.agg (cI ep X Y C)):=by
 rw[cP kZq Nc hb (abb rfl)];rfl
theorem ZH:(ej Tryz.prog 27).bind AV.aC=some (cI 0 nl nl nl):=kZq
theorem ZZ:(ej Tryz.prog 140).bind AV.aC=some (cI 0 nl nl nl):=kZq
theorem Z5{X Y C:AV}{rows:List (List Int)}{owners aa:List Int}(ep:Int)(hx:RL X rows)(hy:IL Y owners)(hc:IL C aa):fj Tryz.prog 140 [(0,.agg (cI ep X Y C))]=some (.agg (cI ep X Y C)):=by
 obtain⟨_,_,_,rfl,-⟩:=hx.form
 obtain⟨_,_,rfl,-⟩:=hy
 obtain⟨_,_,rfl,-⟩:=hc
 kernel_rfl
theorem Z6{H:ae}{b:Nat}{ep:Int}{X Y C x:AV}(hb:H.boxes[b]?=some (cI ep X Y C))(hx:x.aC=some [x]):aA Tryz.prog H 23 (.ptr (.box b) 3) x=some (H.put b (cI ep X Y x)):=
 aW (off:=3) (cs:=cI ep X Y C) (xs:=[x]) hx jC hb rfl (abb rfl)
theorem Z7{H:ae}{b:Nat}{ep n:Int}{X Y C:AV}(hb:H.boxes[b]?=some (cI ep X Y C)):aA Tryz.prog H 3 (.ptr (.box b) 0) (im n)=some (H.put b (cI n X Y C)):=
 aW (off:=0) (cs:=cI ep X Y C) (xs:=[im n]) rfl sz3 hb rfl (abb rfl)
theorem Z8{H:ae}{b:Nat}{T T2:List AV}(hb:H.boxes[b]?=some T)(hl:T.length=4)(hx:(AV.agg T2).aC=some T2)(hl2:T2.length=4):aA Tryz.prog H 27 (.ptr (.box b) 0) (.agg T2)=some (H.put b T2):=by
 rw[aW (off:=0) (cs:=T) (xs:=T2) hx Nc hb hl2 (by omega),jc (by omega)]
structure aat(h H:ae)(T0 T1 T2:List AV):Prop where
 ext:Ext h H
 ok:aZ H=true
 b0:H.boxes[h.boxes.length]?=some T0
 b1:H.boxes[h.boxes.length+1]?=some T1
 b2:H.boxes[h.boxes.length+2]?=some T2
theorem aat.mono{h H H':ae}{T0 T1 T2:List AV}(r:aat h H T0 T1 T2)(x:Ext H H'):aat h H' T0 T1 T2:=⟨r.ext.trans x,x.ok r.ok,x.box _ _ r.b0,x.box _ _ r.b1,x.box _ _ r.b2⟩
theorem aat.Z9{h H:ae}{T0 T1 T2:List AV}(r:aat h H T0 T1 T2)(T:List AV):aat h (H.put h.boxes.length T) T T1 T2:=
 ⟨r.ext.bZ (aaP _) _,r.ok,aS (aaL.1 r.b0).1,by rw[av (by omega)];exact r.b1,by rw[av (by omega)];exact r.b2⟩
theorem aat.aag{h H:ae}{T0 T1 T2:List AV}(r:aat h H T0 T1 T2)(T:List AV):aat h (H.put (h.boxes.length+1) T) T0 T T2:=
 ⟨r.ext.bZ (by omega) _,r.ok,by rw[av (by omega)];exact r.b0,aS (aaL.1 r.b1).1,by rw[av (by omega)];exact r.b2⟩
theorem ZB(h:ae)(hok:aZ h=true)(X Y C S C2 S2:AV)(rows:List (List Int))(owners s t:List Int)(hx:RL X rows)(hy:IL Y owners)(hC:IL C (ax s))(hS:SL S (fV rows s))(hC2:IL C2 (ax t))(hS2:SL S2 (fV rows t))
 (hp:bC rows owners=0) (hs:s.length=aK rows) (ht:t.length=aK rows) (h0:at0 t 0=0):
 ∃r h',W6.call 43 [.agg (cI 0 X Y C),S,.list .tight 1 [[C2]],.list .tight 1 [[S2]]] h=some (r,h')/\Ext h h'/\∃C3 aau,r=.ret (.tuple [.agg (cI 1 X Y C3),aau,im 0])/\IL C3 (YY (ax s) (ax t))/\SL aau (YZ rows s t):=by
 have bx:=hY (ep:=0) hx hy hC
 have z27:=ZH
 have z140:=ZZ
 have c1:=ZJ X Y rows owners hx hy
 rw[hp] at c1
 have hcp:=fI hp
 have hr64:=(fk hp).2.1
 have hcs:(ax s).length=aK rows/\(ax s).all aX=true:=eE hs
 have hct:(ax t).length=aK rows/\(ax t).all aX=true:=eE ht
 have n1:(h.push (cI 0 X Y C)).boxes.length=h.boxes.length+1:=az _ _
 obtain⟨K1,hK1⟩:∃K1,(h.push (cI 0 X Y C)).push (cI 0 nl nl nl)=K1:=⟨_,rfl⟩
 have nK1:K1.boxes.length=h.boxes.length+2:=by rw[<-hK1,az,n1]
 obtain⟨K2,hK2⟩:∃K2,K1.push (cI 0 X Y C)=K2:=⟨_,rfl⟩
 have r2:aat h K2 (cI 0 X Y C) (cI 0 nl nl nl) (cI 0 X Y C):=by
  rw[<-hK2,<-hK1]
  refine⟨((Ext.push _ _).trans (.push _ _)).trans (.push _ _),hok,aj (aj (ak _ _)),aj ?_,?_⟩
  ·have:=ak (h.push (cI 0 X Y C)) (cI 0 nl nl nl)
   rwa [n1] at this
  ·have:=ak ((h.push (cI 0 X Y C)).push (cI 0 nl nl nl)) (cI 0 X Y C)
   rwa [az,n1] at this
 have l1:ai Tryz.prog Gt K1 25 (.ptr (.box h.boxes.length) 1)=some (.agg [X,Y]):=ZF (by rw[<-hK1];exact aj (ak _ _))
 have l2:ai Tryz.prog Gt K1 27 (.ptr (.box h.boxes.length) 0)=some (.agg (cI 0 X Y C)):=Zf (by rw[<-hK1];exact aj (ak _ _))
 have bd:=Z5 0 hx hy hC
 have s1:aA Tryz.prog (K1.push (cI 0 nl nl nl)) 140 (.ptr (.box (h.boxes.length+2)) 0) (.agg (cI 0 X Y C))=some K2:=by rw[<-hK2,<-nK1];exact cQ bx ZD rfl rfl
 have l3:=Y9 r2.b2
 obtain⟨_,aaq,c2,hK3,rfl⟩:=Zy K2 0 X Y C rows owners (ax s) hx hy hC (by omega) hcs.1 hcs.2 (by decide)
 have r3:aat h aaq (cI 0 X Y C) (cI 0 nl nl nl) (cI 0 X Y C):=by rw[hK3];exact r2.mono ((Ext.push _ _).trans (.push _ _))
 have l4:ai Tryz.prog Gt aaq 3 (.ptr (.box h.boxes.length) 0)=some (.v (.int .i64 0)):=aQ ag3 r3.b0 rfl
 have l5:=Y9 r3.b2
 have l6:ai Tryz.prog Gt aaq 23 (.ptr (.box h.boxes.length) 3)=some C:=aQ mo r3.b0 rfl
 obtain⟨_,aar,c3,x4,rfl⟩:=ZG aaq 0 X Y C C S rows owners (ax s) s hx hy hC hC hS hp hs
 have r4:=ah.mk (r3.mono x4)
 have lnC:=ZW C2
 have lnS:=ZV S2
 have aay:=ZU C2
 have aaz:=ZT S2
 have lC:=ZY C2
 have lS:=ZX S2
 have hone:at0 (ax t) 0=1:=by
  rw[JD (by omega),h0];rfl
 have ix0:ay Tryz.prog 23 C2 (.v (.int .i64 0))=some (.elem 1 (ints (ax t)) 0 0):=hC2.ix (i:=0) (by omega)
 have ld0:∀K:ae,ai Tryz.prog Gt K 3 (.elem 1 (ints (ax t)) 0 0)=some (.v (.int .i64 1)):=fun K=>by rw[ldi (by omega),hone]
 have kf:=ah.mk (aaO hx (aaO hy (aaO hC (aaO hS (aaO hC2 (aaO hS2 (aaO hp (aaO hs ht))))))))
 clear r2 hK2 hK3 r3 x4 hx hy hC hS hC2 hS2 hp hs ht h0 hone hok
 unfold im at *
 refine aL rfl Tryz.func43 rfl ?_
 repeat' (first|simp(maxSteps:=9999999) (disch:=first|exact dZ|fail) only[gW,reduceIte,aaN,gBQ,Zm,aw,n1,hK1,nK1,oX,dS,fF, *]|refine dX ?_ ?_<;>(intro _;try omega))
 refine Run.gen fun e0 he0 hd0 hp0 hr0=>?_
 have f1:e0.get 1=S:=by rw[he0];exact gS
 have f2:e0.get 2=.list .tight 1 [[C2]]:=by rw[he0];exact gS
 have f3:e0.get 3=.list .tight 1 [[S2]]:=by rw[he0];exact gS
 have f4:e0.get 4=.ptr (.box h.boxes.length) 0:=by rw[he0];exact gS
 have f8:e0.get 8=.ptr (.box (h.boxes.length+1)) 0:=by rw[he0];simp only[gW,reduceIte,aaN,gBQ,n1]
 have f12:e0.get 12=.ptr (.box (h.boxes.length+2)) 0:=by rw[he0];simp only[gW,reduceIte,aaN,gBQ,nK1]
 have f13:e0.get 13=.func (.func 100) [] []:=by rw[he0];exact gS
 have f59:e0.get 59=.list .tight 1 [[C2]]:=by rw[he0];exact gS
 have f60:e0.get 60=.v (.int .i64 1):=by rw[he0];exact gS
 have f61:e0.get 61=.v (.int .i64 (0:Nat)):=by rw[he0];exact gR
 have fd:e0.defers=[]:=by rw[hd0];exact gS
 clear he0 hd0 hp0 hr0 c1 c2 c3 l1 l2 l3 l4 l5 l6 s1 bd z27 z140 bx hK1 n1 nK1
 refine aD (fun m e H=>∃i:Nat,i<=1/\m=1 - i/\ah (aat h H (cI 0 X Y C) (cI 0 nl nl nl) (cI 0 X Y C))/\e.get 1=S/\e.get 2=.list .tight 1 [[C2]]/\e.get 3=.list .tight 1 [[S2]]/\e.get 4=.ptr (.box h.boxes.length) 0/\e.get 8=.ptr (.box (h.boxes.length+1)) 0/\e.get 12=.ptr (.box (h.boxes.length+2)) 0/\e.get 13=.func (.func 100) [] []/\e.get 59=.list .tight 1 [[C2]]/\e.get 60=.v (.int .i64 1)/\e.get 61=.v (.int .i64 (i:Nat))/\e.defers=[]) ?_ 1 _ _ ?_
 rotate_left 1
 ·exact⟨0,aa4 _,rfl,r4,f1,f2,f3,f4,f8,f12,f13,f59,f60,f61,fd⟩
 clear f1 f2 f3 f4 f8 f12 f13 f59 f60 f61 fd r4
 rintro m e H ⟨i,hi,rfl,kR,g1,g2,g3,g4,g8,g12,g13,g59,g60,g61,hd⟩
 rcases aa9 i 1 with hlt|hge
 ·obtain rfl:i=0:=by omega
  obtain⟨hx,hy,hC,hS,hC2,hS2,hp,hs,ht⟩:=kf.out
  have l1:=Y9 kR.out.b2
  obtain⟨_,J1,c1,hJ1,rfl⟩:=Y5 H 0 X Y C C2 rows owners (ax s) (ax t) hx hy hC hC2 (by omega) hct.1 hct.2
  have r1:aat h J1 (cI 0 X Y C) (cI 0 nl nl nl) (cI 0 X Y C):=by rw[hJ1];exact kR.out.mono (.push _ _)
  obtain⟨_,aao,c2,x2,rfl⟩:=Zt J1 S2 S rows s t hS2 hS (by omega)
  have r2:=r1.mono x2
  have l2:=Y9 r2.b2
  obtain⟨_,aap,c3,x3,rfl⟩:=ZG aao 0 X Y C C2 S2 rows owners (ax s) t hx hy hC hC2 hS2 hp ht
  have kR3:=ah.mk (r2.mono x3)
  have g61z:e.get 61=.v (.int .i64 0):=g61
  clear hx hy hC hS hC2 hS2 hp hs ht hJ1 r1 x2 r2 x3 kR g61
  repeat' (first|simp(maxSteps:=9999999) (disch:=first|exact dZ|fail) only[gW,reduceIte,aaN,gBQ,Zm, *]|refine dX ?_ ?_<;>(intro _;try omega))
  refine bf rV kZq ?_
  refine gx1 @Zm ?_
  exact⟨0,by omega,1,by omega,rfl,(by first|exact kR3|trivial),by simp⟩
 ·obtain rfl:i=1:=by omega
  have g61z:e.get 61=.v (.int .i64 1):=g61
  clear g61
  repeat' (first|simp(maxSteps:=9999999) (disch:=first|exact dZ|fail) only[gW,reduceIte,aaN,gBQ,Zm, *]|refine dX ?_ ?_<;>(intro _;try omega))
  refine Run.gen fun e0 he0 hd0 hp0 hr0=>?_
  have f1:e0.get 1=S:=by rw[he0];exact gA
  have f3:e0.get 3=.list .tight 1 [[S2]]:=by rw[he0];exact gA
  have f4:e0.get 4=.ptr (.box h.boxes.length) 0:=by rw[he0];exact gA
  have f8:e0.get 8=.ptr (.box (h.boxes.length+1)) 0:=by rw[he0];exact gA
  have f16:e0.get 16=.func (.func 103) [] []:=by rw[he0];exact gS
  have f17:e0.get 17=.func (.func 104) [] []:=by rw[he0];exact gS
  have f98:e0.get 98=.list .tight 1 [[C2]]:=by rw[he0];exact gA
  have f99:e0.get 99=.v (.int .i64 1):=by rw[he0];exact gA
  have f100:e0.get 100=.v (.int .i64 (0:Nat)):=by rw[he0];exact gR
  have fd:e0.defers=[]:=by rw[hd0];exact gA
  clear he0 hd0 hp0 hr0 g1 g2 g3 g4 g8 g12 g13 g59 g60 g61z hd hi hge
  refine aD (fun m e H=>∃(i:Nat) (C3 aau:AV),i<=1/\m=1 - i/\ah (aat h H (cI 0 X Y C3) (cI 0 nl nl nl) (cI 0 X Y C))/\ah ((i=0->C3=C/\aau=S)/\(i=1->IL C3 (YY (ax s) (ax t))/\SL aau (YZ rows s t)))/\e.get 1=aau/\e.get 3=.list .tight 1 [[S2]]/\e.get 4=.ptr (.box h.boxes.length) 0/\e.get 8=.ptr (.box (h.boxes.length+1)) 0/\e.get 16=.func (.func 103) [] []/\e.get 17=.func (.func 104) [] []/\e.get 98=.list .tight 1 [[C2]]/\e.get 99=.v (.int .i64 1)/\e.get 100=.v (.int .i64 (i:Nat))/\e.defers=[]) ?_ 1 _ _ ?_
  rotate_left 1
  ·exact⟨0,C,S,aa4 _,rfl,kR,⟨fun _=>⟨rfl,rfl⟩,fun q=>by cases q⟩,f1,f3,f4,f8,f16,f17,f98,f99,f100,fd⟩
  clear f1 f3 f4 f8 f16 f17 f98 f99 f100 fd kR H
  rintro m e H ⟨i,C3,aau,hi,rfl,kR,kc,g1,g3,g4,g8,g16,g17,g98,g99,g100,hd⟩
  obtain⟨hx,hy,hC,hS,hC2,hS2,hp,hs,ht⟩:=kf.out
  rcases aa9 i 1 with hlt|hge
  ·obtain rfl:i=0:=by omega
   obtain⟨rfl,rfl⟩:=kc.out.1 rfl
   have g100z:e.get 100=.v (.int .i64 0):=g100
   have l1:ai Tryz.prog Gt H 23 (.ptr (.box h.boxes.length) 3)=some C3:=aQ mo kR.out.b0 rfl
   obtain⟨_,J1,c1,x1,Z3,rfl,hZ3⟩:=Zk H kR.out.ok C3 C2 (ax s) (ax t) hC hC2 (by omega) (by omega)
   have r1:=kR.out.mono x1
   have st:=Z6 r1.b0 hZ3.Uu
   have r2:=r1.Z9 (cI 0 X Y Z3)
   obtain⟨_,aao,c2,x2,Z4,rfl,hZ4⟩:=Zl _ r2.ok aau S2 rows s t hS hS2 (by omega)
   have kR3:=ah.mk (r2.mono x2)
   have kc3:ah ((1=0->Z3=C3/\Z4=aau)/\(1=1->IL Z3 (YY (ax s) (ax t))/\SL Z4 (YZ rows s t))):=⟨(fun q=>by cases q),fun _=>⟨hZ3,hZ4⟩⟩
   clear hx hy hC hS hC2 hS2 hp hs ht x1 r1 r2 x2 kR kc g100 hZ3 hZ4
   repeat' (first|simp(maxSteps:=9999999) (disch:=first|exact dZ|fail) only[gW,reduceIte,aaN,gBQ,Zm,fF, *]|refine dX ?_ ?_<;>(intro _;try omega))
   exact⟨0,by omega,1,Z3,Z4,by omega,rfl,(by first|exact kR3|trivial),(by first|exact kc3|trivial),by simp⟩
  ·obtain rfl:i=1:=by omega
   obtain⟨hC3,hS3⟩:=kc.out.2 rfl
   have g100z:e.get 100=.v (.int .i64 1):=g100
   have l1:ai Tryz.prog Gt H 3 (.ptr (.box h.boxes.length) 0)=some (.v (.int .i64 0)):=aQ ag3 kR.out.b0 rfl
   have s1:=Z7 (n:=1) kR.out.b0
   have r1:=kR.out.Z9 (cI 1 X Y C3)
   have l2:=Zf r1.b0
   have s2:=Z8 r1.b1 rfl (hY (ep:=1) hx hy hC3) rfl
   have r2:=r1.aag (cI 1 X Y C3)
   have l3:=Zf r2.b1
   have kfin:=ah.mk (aaO r2.ext (aaO hC3 hS3))
   clear hx hy hC hS hC2 hS2 hp hs ht kR kc g100 hC3 hS3 r1 r2
   have h01:(0:Int)+1=1:=rfl
   unfold im at *
   refine gx2 @Zm @oX ?_
   exact⟨_,_,rfl,kfin.out.1,C3,aau,rfl,kfin.out.2.1,kfin.out.2.2⟩
theorem N4{H:ae}{T:List AV}(hx:(AV.agg T).aC=some T)(hl:T.length=8):aA Tryz.prog (H.push (dG 0 nl nl nl nl nl nl nl)) 46 (.ptr (.box H.boxes.length) 0) (.agg T)=some (H.push T):=cQ hx PX hl rfl
theorem Su{H:ae}(x y:Int):aA Tryz.prog (H.push [im 0,im 0]) 50 (.ptr (.box H.boxes.length) 0) (.agg [im x,im y])=some (H.push [im x,im y]):=cQ rfl P1 rfl rfl
theorem YD(d:Nat)(a:Int):bQ Tryz.prog (Op.equalIn (d+1) 3 (.int .i64 a) (.int .i64 a))=some true:=by
 unfold Op.equalIn
 rw[fE,IP Tryz.underlying3,abP]
 simp[bQ]
 rfl
theorem VM{α:Type}{P:Program}(a:α):bQ P (pure a:Sem α)=some a:=rfl
theorem YE(d:Nat)(a b:Int):bQ Tryz.prog (Op.equalIn (d+2) 50 (.agg #[.int .i64 a,.int .i64 b]) (.agg #[.int .i64 a,.int .i64 b]))=some true:=by
 have h1:bQ Tryz.prog (part 3 #[.int .i64 a,.int .i64 b] 0)=some (.int .i64 a):=by kernel_rfl
 have h2:bQ Tryz.prog (part 3 #[.int .i64 a,.int .i64 b] 1)=some (.int .i64 b):=by kernel_rfl
 have hs:Tryz.prog.stoodInHeld 50=false:=by kernel_rfl
 have hp:bQ Tryz.prog program=some Tryz.prog:=rfl
 unfold Op.equalIn
 rw[fE,IP Tryz.underlying50,abP]
 simp[fE,VM,hp,hs,h1,h2,YD]
theorem YF{x y:Operand}(a b:Int):bB Tryz.prog .eql 50 x y (.agg [im a,im b]) (.agg [im a,im b])=some (.v (.bool true)):=by
 have hg:bQ Tryz.prog (eqGuard .eql 50 x y (.agg #[.int .i64 a,.int .i64 b]) (.agg #[.int .i64 a,.int .i64 b]))=some ():=by kernel_rfl
 show(bQ Tryz.prog (do eqGuard .eql 50 x y (.agg #[.int .i64 a,.int .i64 b]) (.agg #[.int .i64 a,.int .i64 b]);binOp .eql 50 (.agg #[.int .i64 a,.int .i64 b]) (.agg #[.int .i64 a,.int .i64 b]))).bind eS=_
 rw[fE,hg,abP]
 show(bQ Tryz.prog (do pure (.bool (<-Op.equal 50 (.agg #[.int .i64 a,.int .i64 b]) (.agg #[.int .i64 a,.int .i64 b]))))).bind eS=_
 rw[fE]
 have:=YE 9998 a b
 unfold Op.equal Op.maxDepth
 rw[this];rfl
theorem Zn:Tryz.f14.results.toList=[.tmp 14]:=kZq
theorem aaa:(ej Tryz.prog 23).bind AV.aC=some [nl]:=kZq
theorem aab(x:AV)(hx:x.aC=some [x]):aN Tryz.prog 22 1 [(0,x)]=some (.list .tight 1 [[x]]):=by
 have h1:Tryz.prog.underlying 22=some (.slice 23):=Tryz.underlying22
 unfold aN
 simp only[h1,jC,aaa]
 rw[if_pos ⟨by decide,rfl,by decide⟩]
 simp[my,hx]
theorem aah:(ej Tryz.prog 36).bind AV.aC=some [nl]:=kZq
theorem aac(x:AV)(hx:x.aC=some [x]):aN Tryz.prog 79 1 [(0,x)]=some (.list .tight 1 [[x]]):=by
 have h1:Tryz.prog.underlying 79=some (.slice 36):=Tryz.underlying79
 unfold aN
 simp only[h1,Ts,aah]
 rw[if_pos ⟨by decide,rfl,by decide⟩]
 simp[my,hx]
theorem Za{s t:List Int}(h:t.length=s.length):YY (ax s) (ax t)=ax (vf s t):=by
 rw[Y7 h]
 unfold YY ax
 rw[aaR]
theorem Zw{rows:List (List Int)}{owners s t:List Int}(hp:bC rows owners=0)(hs:s.length=aK rows):YZ rows s t=fV rows (vf s t):=(Zo hp hs).symm
theorem aad(h:ae)(hok:aZ h=true)(X Y R N0 Z0 Tx:AV)(rows:List (List Int))(owners random eg zero:List Int)(secret sm:Int)(text:List UInt8)
 (hx:RL X rows) (hy:IL Y owners) (hr:UL R random) (hn:UL N0 eg) (hz0:UL Z0 zero) (hs:0<=secret/\secret<4294967296) (ht:BL Tx text):
 ∃r h',W6.call 14 [.agg [X,Y],.v (.int .u32 secret),R,N0,Z0,.v (.int .u16 sm),Tx] h=some (r,h')/\r=.ret (.v (.bool true)):=by
 have bx:=ff hx hy
 obtain⟨_,H1,c1,x1,rfl⟩:=Qb (h.push [X,Y]) hok
 have hok1:=x1.ok hok
 obtain⟨_,H2,c2,x2,post⟩:=Nf H1 hok1 X Y R N0 rows owners random eg secret sm hx hy hr hn hs
 have hok2:=x2.ok hok1
 have p1b:=x1.box _ _ (ak h [X,Y])
 have l1:ai Tryz.prog Gt H1 25 (.ptr (.box h.boxes.length) 0)=some (.agg [X,Y]):=ma p1b
 have lnT:=ht.cH
 have zc:=Sb
 refine aL rfl Tryz.func14 rfl ?_
 rcases post with⟨hu,W,rfl,lw,hW⟩|⟨hu,C,S,W,L,N,rfl,q1,q2,q3,q4,q5⟩
 ·have s1:=N4 (H:=H2) (vX hW) rfl
  clear hx hy hr hn hz0 ht hW x1 x2 hok hok1 hok2 p1b
  refine gx2 @Zn @aw ?_
  exact⟨_,_,rfl,rfl⟩
 have tb:=TJ hu hx hy q1 q2 q3 q4 q5
 have tcell:=pI (ep:=0) hx hy q1 q2 q3 q4 q5
 have s1:=N4 (H:=H2) tcell rfl
 by_cases hlen:text.length<=300
 rotate_left 1
 ·have hI:(300:Int)<(text.length:Int):=by omega
  clear hx hy hr hn hz0 ht tb tcell x1 x2 hok hok1 hok2 q1 q2 q3 q4 q5 p1b
  refine gx2 @Zn @aw ?_
  exact⟨_,_,rfl,rfl⟩
 have hI:¬(300:Int)<(text.length:Int):=by omega
 obtain⟨y,p1,p2,p3,p4,p5,p6,p7⟩:=vZ hu
 have hsl:=tQ (secret:=secret) (random:=random) p1
 have hcp:=(fI p1).1
 have cr:=Ss (cG sm) eg
 generalize hNS:eG (2 * (cG sm).length) eg=NS at *
 generalize hLS:eJ (cG sm) NS=aas at *
 have co:lP rows owners (cG sm) NS (dk rows secret random) y aas text 0:=⟨cr,p4,p5,by omega,by omega,by decide,hsl⟩
 have cc:=BZ X Y rows owners hx hy
 obtain⟨Z1,hZ1,cn⟩:=NZ (aK rows - 1) (by omega) Z0 zero hz0
 have hcast:((aK rows - 1:Nat):Int)=(aK rows:Int) - 1:=by omega
 rw[hcast] at cn
 have hde:mb rows owners 0 (eG (aK rows - 1) zero)=0:=by
  unfold mb
  rw[if_neg (by simp[p1]),if_pos]
  rw[aaQ,aaQ]
  refine⟨⟨iP.2 ⟨by decide,by decide⟩,aa2.2 fun x hx=>iP.2 (BO _ x hx)⟩,?_⟩
  rw[iu,decide_eq_true_eq];omega
 obtain⟨t,htd⟩:∃t,(0:Int)::eG (aK rows - 1) zero=t:=⟨_,rfl⟩
 obtain⟨S2,C2,hS2,hC2,aav⟩:∃S C,SL S (fV rows t)/\IL C (ax t)/\∀h,W6.call 44 [.agg [X,Y],im 0,Z1] h=some (.ret (.tuple [S,C,im 0]),h):=by
  rcases N1 X Y Z1 rows owners (eG (aK rows - 1) zero) 0 hx hy hZ1 (by rw[iu];omega) (by omega) with⟨z,-⟩|⟨-,z⟩
  ·exact absurd hde z
  ·rw[htd] at z;exact z
 have htl:t.length=aK rows:=by rw[<-htd,List.length_cons,iu];omega
 have ht0:at0 t 0=0:=by rw[<-htd];rfl
 have hs0:okF (at0 (dk rows secret random) 0):=⟨Int.emod_nonneg _ (by decide),Int.emod_lt_of_pos _ (by decide)⟩
 generalize hSS:dk rows secret random=aaB at *
 obtain⟨co2,hkey,hsum⟩:=Y8 co (by rw[htl,hsl]) ht0 hs0 (e2:=1) (by decide)
 obtain⟨T0,hT0⟩:∃T0,dG 0 X Y C S W L N=T0:=⟨_,rfl⟩
 obtain⟨H3,hH3⟩:∃H3,H2.push (dG 0 X Y C S W L N)=H3:=⟨_,rfl⟩
 rw[hH3] at s1
 have x3:Ext H2 H3:=by rw[<-hH3];exact .push _ _
 have tb3:H3.boxes[H2.boxes.length]?=some (dG 0 X Y C S W L N):=by rw[<-hH3];exact ak _ _
 have pb3:H3.boxes[h.boxes.length]?=some [X,Y]:=x3.box _ _ (x2.box _ _ p1b)
 have l2:ai Tryz.prog Gt H3 25 (.ptr (.box h.boxes.length) 0)=some (.agg [X,Y]):=ma pb3
 have aaw:=ZL H3 X Y Z1 S2 C2 bx aav
 obtain⟨H4,hH4⟩:∃H4,H3.push [X,Y]=H4:=⟨_,rfl⟩
 rw[hH4] at aaw
 have x4:Ext H3 H4:=by rw[<-hH4];exact .push _ _
 have tb4:=x4.box _ _ tb3
 have l3:=Sd tb4
 have l4:ai Tryz.prog Gt H4 36 (.ptr (.box H2.boxes.length) 4)=some S:=aQ M9 tb4 rfl
 have ok4:aZ H4=true:=(x3.trans x4).ok hok2
 obtain⟨_,H5,cw,x5,C3,aau,rfl,hC3,hS3⟩:=ZB H4 ok4 X Y C S C2 S2 rows owners aaB t hx hy q1 q2 hC2 hS2 p1 hsl htl ht0
 rw[Za (by rw[htl,hsl])] at hC3
 rw[Zw p1 hsl] at hS3
 have b22:=aab C2 hC2.Uu
 have b79:=aac S2 hS2.aC
 have kc3:=hY (ep:=1) hx hy hC3
 obtain⟨H6,hH6⟩:∃H6,H5.push (cI 1 X Y C3)=H6:=⟨_,rfl⟩
 have s2:aA Tryz.prog (H5.push (cI 0 nl nl nl)) 27 (.ptr (.box H5.boxes.length) 0) (.agg (cI 1 X Y C3))=some H6:=by rw[<-hH6];exact cQ kc3 Nc rfl rfl
 have x6:Ext H5 H6:=by rw[<-hH6];exact .push _ _
 have X36:=(x4.trans x5).trans x6
 have lnS3:=hS3.cH
 rw[pF] at lnS3
 have pb6:=X36.box _ _ pb3
 have l5:ai Tryz.prog Gt H6 22 (.ptr (.box h.boxes.length) 0)=some X:=aQ Pk pb6 rfl
 have lnX:=hx.cH
 have z27:=ZH
 have kb6:H6.boxes[H5.boxes.length]?=some (cI 1 X Y C3):=by rw[<-hH6];exact ak _ _
 have hwr:IntKind.i64.wrap ((aK rows:Int) - 1)=(aK rows:Int) - 1:=bT (by omega) (by omega)
 have kI:ah (Ext H6 H6/\aZ H6=true):=⟨.refl _,X36.ok (x3.ok hok2)⟩
 have kfa:=ah.mk (aaO hx (aaO hy (aaO ht (aaO q1 (aaO q2 (aaO q3 (aaO q4 (aaO q5 (aaO hC3 hS3)))))))))
 have kco:=ah.mk (aaO co (aaO co2 (aaO hkey hsum)))
 have ktb:=ah.mk (aaO tb (aaO (X36.box _ _ tb3) (aaO kb6 tcell)))
 have kp:=ah.mk (aaO p1 (aaO p2 (aaO p3 (aaO p4 (aaO p5 (aaO p6 (aaO hsl htl)))))))
 clear hx hy hr hn hz0 hs ht hu q1 q2 q3 q4 q5 tb tcell x1 x2 hok hok1 hok2 p1b p1 p2 p3 p4 p5 p6 p7 hsl hcp cr hNS hLS co hZ1 hcast hde htd hS2 hC2 htl ht0 hs0 hSS co2 hkey hsum hT0 hH3 x3 tb3 pb3 hH4 x4 tb4 ok4 x5 hC3 hS3 kc3 hH6 x6 X36 pb6 kb6 hlen
 unfold im at *
 refine gx4 @Zn @aw @mw @bH ?_
 refine bf rV kZq ?_
 refine gx3 @Zn @mw @bH ?_
 refine Run.gen fun e0 he0 hd0 hp0 hr0=>?_
 have f6:e0.get 6=Tx:=by rw[he0];exact gS
 have f15:e0.get 15=.ptr (.box H2.boxes.length) 0:=by rw[he0];exact gS
 have f21:e0.get 21=.ptr (.box H5.boxes.length) 0:=by rw[he0];exact gS
 have f22:e0.get 22=aau:=by rw[he0];exact gS
 have f91:e0.get 91=aau:=by rw[he0];exact gS
 have f92:e0.get 92=.v (.int .i64 (rows.length:Nat)):=by rw[he0];exact gS
 have f93:e0.get 93=.v (.int .i64 (0:Nat)):=by rw[he0];exact gR
 have fd:e0.defers=[]:=by rw[hd0];exact gS
 clear he0 hd0 hp0 hr0 c1 c2 l1 l2 l3 l4 l5 s1 s2 aaw cw cc cn aav b22 b79 lnS3 lnX z27 bx lnT hI
 refine aD (fun m e H=>∃j:Nat,j<=rows.length/\m=rows.length - j/\ah (Ext H6 H/\aZ H=true)/\e.get 6=Tx/\e.get 15=.ptr (.box H2.boxes.length) 0/\e.get 21=.ptr (.box H5.boxes.length) 0/\e.get 22=aau/\e.get 91=aau/\e.get 92=.v (.int .i64 (rows.length:Nat))/\e.get 93=.v (.int .i64 (j:Nat))/\e.defers=[]) ?_ rows.length _ _ ?_
 rotate_left 1
 ·exact⟨0,aa4 _,rfl,kI,f6,f15,f21,f22,f91,f92,f93,fd⟩
 clear f6 f15 f21 f22 f91 f92 f93 fd kI
 rintro m e H ⟨j,hj,rfl,kX,g6,g15,g21,g22,g91,g92,g93,hd⟩
 by_cases hlt:j<rows.length
 ·have hr16:=kp.out.2.1
  have hpj:=XG (s:=vf aaB t) hlt
  have ix:=kfa.out.2.2.2.2.2.2.2.2.2.ix (i:=j) (by rw[pF];exact hlt)
  have ld:ai Tryz.prog Gt H 81 (.elem 2 (bL (fV rows (vf aaB t))) j 0)=some (.agg (eu ((j:Int),oa (rows.getD j []) (vf aaB t)))):=PI hpj
  have zc8:=YP
  have st:=Ye (H:=H) ((j:Int),oa (rows.getD j []) (vf aaB t))
  have q0:ai Tryz.prog Gt (H.push (eu ((j:Int),oa (rows.getD j []) (vf aaB t)))) 3 (.ptr (.box H.boxes.length) 0)=some (.v (.int .i64 (j:Int))):=aQ ag3 (ak _ _) rfl
  have kX2:ah (Ext H6 (H.push (eu ((j:Int),oa (rows.getD j []) (vf aaB t))))/\aZ (H.push (eu ((j:Int),oa (rows.getD j []) (vf aaB t))))=true):=⟨kX.out.1.trans (.push _ _),kX.out.2⟩
  have hltI:(j:Int)<(rows.length:Int):=by omega
  clear hpj kX
  generalize eu ((j:Int),oa (rows.getD j []) (vf aaB t))=sr at *
  refine gx3 @Zn @aw @Yd ?_
  exact⟨rows.length - (j+1),by omega,j+1,by omega,rfl,(by first|exact kX2|trivial),by simp⟩
 have hje:j=rows.length:=by omega
 subst hje
 obtain⟨hx,hy,ht,q1,q2,q3,q4,q5,hC3,hS3⟩:=kfa.out
 obtain⟨co,co2,hkey,hsum⟩:=kco.out
 obtain⟨tb,tb6,kb6,tcell⟩:=ktb.out
 obtain⟨p1,p2,p3,p4,p5,p6,hsl,htl⟩:=kp.out
 have tbH:=kX.out.1.box _ _ tb6
 have kbH:=kX.out.1.box _ _ kb6
 have l1:=Lb tbH rfl
 obtain⟨aaj,hHa⟩:∃aaj,H.push (dG 0 X Y C S W L N)=aaj:=⟨_,rfl⟩
 have s1:aA Tryz.prog (H.push (dG 0 nl nl nl nl nl nl nl)) 46 (.ptr (.box H.boxes.length) 0) (.agg (dG 0 X Y C S W L N))=some aaj:=by rw[<-hHa];exact cQ tcell PX rfl rfl
 have ta:aaj.boxes[H.boxes.length]?=some (dG 0 X Y C S W L N):=by rw[<-hHa];exact ak _ _
 have xa:Ext H aaj:=by rw[<-hHa];exact .push _ _
 have l2:ai Tryz.prog Gt aaj 27 (.ptr (.box H5.boxes.length) 0)=some (.agg (cI 1 X Y C3)):=Zf (xa.box _ _ kbH)
 have s2:=stK ta (hY (ep:=1) hx hy hC3)
 have tal:=(aaL.1 ta).1
 obtain⟨Hb,hHb⟩:∃Hb,aaj.put H.boxes.length (dG 1 X Y C3 S W L N)=Hb:=⟨_,rfl⟩
 rw[hHb] at s2
 have tb':Hb.boxes[H.boxes.length]?=some (dG 1 X Y C3 S W L N):=by rw[<-hHb];exact aS tal
 have xb:Ext H Hb:=by rw[<-hHb];exact xa.bZ (aaP _) _
 have s3:=stS tb' hS3.aC
 have tbl:=(aaL.1 tb').1
 obtain⟨aak,hHc⟩:∃aak,Hb.put H.boxes.length (dG 1 X Y C3 aau W L N)=aak:=⟨_,rfl⟩
 rw[hHc] at s3
 have aaC:aak.boxes[H.boxes.length]?=some (dG 1 X Y C3 aau W L N):=by rw[<-hHc];exact aS tbl
 have aaG:Ext H aak:=by rw[<-hHc];exact xb.bZ (aaP _) _
 have tcH:=aaG.box _ _ tbH
 have l3:=Lb tcH rfl
 have okc:=aaG.ok kX.out.2
 have tb2:Lc rows owners (ax (vf aaB t)) (fV rows (vf aaB t)) (cG sm) aas NS X Y C3 aau W L N:=
  ⟨hx,hy,hC3,hS3,tb.w,tb.p,tb.n,tb.wl,tb.nl,by rw[pF];omega,Nj p1,by unfold ax;rw[aaR,Y1];omega,tb.ll⟩
 obtain⟨_,aal,k4,x4,rfl⟩:=Ld aak okc 0 X Y C S W L N Tx rows owners _ _ _ _ _ text tb ht (fun i hi=>by rw[B9 (ep:=0) co.Ur co.acc co.ne co.wl co.tl co.ep co.sl hi]) co.UA
 rw[HN (ep:=0) co.Ur co.acc co.ne co.wl co.tl co.ep co.sl] at k4
 change W6.call 25 _ _=some (.ret (.tuple [.agg [_,im ((db rows owners aaB (cG sm) NS aas text).foldl cN 0)],_]),_) at k4
 generalize hch:((aG (at0 (ax aaB) 0) text aas:Nat):Int)=ch at *
 generalize hsm:(db rows owners aaB (cG sm) NS aas text).foldl cN 0=sg at *
 obtain⟨aam,hHe⟩:∃aam,aal.push [im ch,im sg]=aam:=⟨_,rfl⟩
 have s4:=Su (H:=aal) ch sg
 rw[hHe] at s4
 have aaH:Ext aal aam:=by rw[<-hHe];exact .push _ _
 have aaE:aam.boxes[aal.boxes.length]?=some [im ch,im sg]:=by rw[<-hHe];exact ak _ _
 have te:=aaH.box _ _ (x4.box _ _ aaC)
 have l4:=Lb te rfl
 obtain⟨_,Hf,k5,x5,rfl⟩:=Ld aam ((x4.trans aaH).ok okc) 1 X Y C3 aau W L N Tx rows owners _ _ _ _ _ text tb2 ht (fun i hi=>by rw[B9 (ep:=1) co2.Ur co2.acc co2.ne co2.wl co2.tl co2.ep co2.sl hi]) co2.UA
 rw[HN (ep:=1) co2.Ur co2.acc co2.ne co2.wl co2.tl co2.ep co2.sl,hkey,hch] at k5
 change W6.call 25 _ _=some (.ret (.tuple [.agg [_,im ((db rows owners (vf aaB t) (cG sm) NS aas text).foldl cN 0)],_]),_) at k5
 rw[hsum] at k5
 obtain⟨aan,hHg⟩:∃aan,Hf.push [im ch,im sg]=aan:=⟨_,rfl⟩
 have s5:=Su (H:=Hf) ch sg
 rw[hHg] at s5
 have aaF:aan.boxes[Hf.boxes.length]?=some [im ch,im sg]:=by rw[<-hHg];exact ak _ _
 have l5:=Sh aaF
 have l6:ai Tryz.prog Gt aan 50 (.ptr (.box aal.boxes.length) 0)=some (.agg [im ch,im sg]):=Sh (by rw[<-hHg];exact aj (x5.box _ _ aaE))
 have eqs:=fun(x y:Operand)=>YF (x:=x) (y:=y) ch sg
 have zg:=Sf
 clear hx hy ht q1 q2 q3 q4 q5 hC3 hS3 co co2 hkey hsum tb tb6 kb6 tcell p1 p2 p3 p4 p5 p6 hsl htl tbH kbH hHa ta xa tal hHb tb' xb tbl hHc aaC aaG tcH okc tb2 x4 hch hsm hHe aaH aaE te x5 hHg aaF
 generalize dG 0 X Y C S W L N=T1 at *
 generalize dG 1 X Y C3 aau W L N=T2 at *
 unfold im at *
 repeat' (first|simp(maxSteps:=9999999) (disch:=first|exact dZ|fail) only[gW,reduceIte,aaN,gBQ,Zn,aw,mw, *]|refine dX ?_ ?_<;>(intro _;try omega))
 exact⟨_,_,rfl,rfl⟩
end Go.Proofs.YtnfciiiohoafaaaGreatDoor
end
section
namespace Go.Proofs.YtnfciiiohoafaaaGreatDoor
open Go.AE Go.NT Go.RowKit
theorem Lk:ownKnob Tryz.prog.godebug=none:=kZq
theorem D3:(Tryz.prog.funcs.all fun fn=>match fn.body with|some c=>codeOk fn.ntmps c|none=>true)=true:=kZq
theorem D4 : (Tryz.prog.funcs.all fun fn => !(fn.name == "runtime.NumGoroutine")) = true := kZq
theorem jl:Prog Tryz.prog:=⟨fun g fn h=>by
 have:=adJ.1 D4 fn (adR h)
 simpa using this,kZq,fun g fn c h hb=>by
 have:=adJ.1 D3 fn (adR h)
 simpa [hb] using this⟩
theorem sX:∀g cs,Gt g=some cs->bA 0 0 0 cs=true:=by
 intro g cs h
 unfold Gt at h
 split at h
 ·injection h with h;subst h;kernel_rfl
 ·split at h
  ·injection h with h;subst h;kernel_rfl
  ·split at h
   ·injection h with h;subst h;rfl
   ·cases h
noncomputable def Qc(L:List FuncId):Bool:=L.all fun g=>match Tryz.prog.funcs[g]? with|some fn=>fn.body.isSome|none=>false
theorem il{L:List FuncId}(h:Qc L=true):∀g∈L,∃fn,Tryz.prog.funcs[g]?=some fn/\fn.body.isSome=true:=by
 intro g hg
 have:=aa2.1 h g hg
 split at this
 ·rename_i fn hf;exact⟨fn,hf,this⟩
 ·cases this
def POk(p:FuncId->Option (List AV->ae->Option (AV × ae))):Prop:=∀V g q,p g=some q->jb Tryz.prog Gt V g q
theorem TL:POk prims:=fun V g q h=>by cases h
theorem TM:POk DF:=iN jl sX TL (il kZq)
theorem TN:POk DH:=iN jl sX TM (il kZq)
theorem TO:POk Kn:=iN jl sX TN (il kZq)
theorem TP:POk sP:=iN jl sX TO (il kZq)
theorem TQ:POk sQ:=BD jl sX TP (il kZq) (il kZq)
theorem TR:POk D0:=iN jl sX TQ (il kZq)
def v8:List Int:=NT.start.map fun v=>((v.toNat:Nat):Int)
def oY:List Int:=NT.xo.map fun(n:Nat)=>(n:Int)
theorem E9{K:aB}{l:List Int}:ao K (l.map fun n=>AV.v (.int .u32 n)) (l.map fun n=>Value.int .u32 n):=by
 induction l with
 |nil=>exact .nil
 |cons n l ih=>exact .cons _ _ _ _ (.v _ rfl) ih
theorem Sv{W:World}(h:laidMetH Tryz.prog Rows.partialSignsRow.laid W):∀g cs,Gt g=some cs->∃cells,ao (aB.init W) cs cells/\∀(j:Nat) (c:Value),cells[j]?=some c->W.cell? ⟨g,j,none⟩=some c:=by
 rw[MakeChecks.laidMetH_plain _ _ _ kZq] at h
 have e1:(Lib.tabData .u32 v8:DataW Unit)=Rows.laid_signatory_digest_start:=kZq
 have e2:(Lib.tabData .u32 oY:DataW Unit)=Rows.laid_signatory_digest_numbers:=kZq
 intro g cs hg
 unfold Gt at hg
 split at hg
 ·rename_i h0
  injection hg with hg
  subst hg;subst h0
  have t := Lib.tabIs_of_head (n := 8) (g := 0) (t := 229) (e := 42) (zs := v8) (k := .u32) (name := "signatory/digest.start") kZq kZq kZq kZq kZq kZq (by rw [e1]; exact h)
  refine⟨v8.map fun n=>Value.int .u32 n,?_,fun j c hc=>?_⟩
  ·have:Dj=v8.map fun n=>AV.v (.int .u32 n):=by unfold Dj v8 w32;rw[ac7];rfl
   rw[this];exact E9
  ·rw[aa0,aaS] at hc
   obtain⟨n,hn,rfl⟩:=hc
   have hl:=(aaL.1 hn).1
   rw[t.cell kZq j hl,aaU,hn];rfl
 ·split at hg
  ·rename_i _ h0
   injection hg with hg
   subst hg;subst h0
   have t := Lib.tabIs_of_head (n := 64) (g := 1) (t := 242) (e := 42) (zs := oY) (k := .u32) (name := "signatory/digest.numbers") kZq kZq kZq kZq kZq kZq (by rw [e2]; exact h.tail)
   refine⟨oY.map fun n=>Value.int .u32 n,?_,fun j c hc=>?_⟩
   ·have:oM=oY.map fun n=>AV.v (.int .u32 n):=by unfold oM oY;rw[ac7];rfl
    rw[this];exact E9
   ·rw[aa0,aaS] at hc
    obtain⟨n,hn,rfl⟩:=hc
    have hl:=(aaL.1 hn).1
    rw[t.cell kZq j hl,aaU,hn];rfl
  ·split at hg
   ·injection hg with hg
    subst hg
    exact⟨[],.nil,fun j c hc=>by simp at hc⟩
   ·cases hg
section
variable {H:Type}
theorem cc3:Tryz.prog.cellsOf 3=1:=kZq
theorem cc5:Tryz.prog.cellsOf 5=1:=kZq
theorem TS:Tryz.prog.cellsOf 22=1:=kZq
theorem Sw:Tryz.prog.cellsOf 23=1:=kZq
theorem TT:Tryz.prog.cellsOf 25=2:=kZq
theorem TU:Tryz.prog.cellsOf 42=1:=kZq
theorem Sx:oD Tryz.prog 25 [(22,0),(23,1)]=true:=kZq
theorem Ca{cs:List AV}{d:DataW H}(h:Has Tryz.prog 23 cs d):∃x l,cs=[x]/\IL x l:=by
 obtain⟨k,es,rfl,hl,-,-,he⟩:=h.kj Tryz.underlying23
 obtain⟨l,rfl⟩:∃l:List Int,es=l.map nC:=Ei fun r hr=>by
  obtain⟨-,d,hd⟩:=he r hr
  obtain⟨n,hn,-⟩:=hd.yZ Tryz.underlying3
  exact⟨n,hn⟩
 exact⟨_,l,rfl,k,_,rfl,fun _=>cc3⟩
theorem Ll{cs:List AV}{d:DataW H}(h:Has Tryz.prog 22 cs d):∃x rows,cs=[x]/\RL x rows:=by
 obtain⟨k,es,rfl,hl,-,-,he⟩:=h.kj Tryz.underlying22
 have hh:∀r∈es,∃x l,r=[x]/\IL x l:=fun r hr=>by
  obtain⟨-,d,hd⟩:=he r hr
  exact Ca hd
 clear hl he
 have key:∀es:List (List AV),(∀r∈es,∃x l,r=[x]/\IL x l)->∃(xs:List AV) (rows:List (List Int)),es=xs.map (fun a=>[a])/\xs.length=rows.length/\∀(i:Nat) (a:AV) (r:List Int),xs[i]?=some a->rows[i]?=some r->IL a r:=by
  intro es
  induction es with
  |nil=>intro _;exact⟨[],[],rfl,rfl,fun i a r ha=>by simp at ha⟩
  |cons e es ih=>
   intro hh
   obtain⟨x,l,rfl,hx⟩:=hh e aba
   obtain⟨xs,rows,rfl,h1,h2⟩:=ih fun r hr=>hh r (aa5 _ hr)
   refine⟨x::xs,l::rows,rfl,by simp[h1],fun i a r ha hr=>?_⟩
   cases i with
   |zero=>simp at ha hr;subst ha;subst hr;exact hx
   |succ i=>exact h2 i a r (by simpa using ha) (by simpa using hr)
 obtain⟨xs,rows,rfl,h1,h2⟩:=key es hh
 exact⟨_,rows,rfl,k,_,xs,rfl,fun _=>Sw,h1,h2⟩
theorem Lm{x:AV}{d:DataW H}(h:jy Tryz.prog 25 x d):∃X Y rows owners,x=.agg [X,Y]/\RL X rows/\IL Y owners:=by
 obtain⟨xs,rfl,hl,hg⟩:=h.fields Sx
 rw[TT] at hl
 obtain⟨a,b,rfl⟩:=Qg hl
 obtain⟨_,q0⟩:=hg 0 22 0 rfl
 obtain⟨_,q1⟩:=hg 1 23 1 rfl
 rw[TS] at q0
 rw[Sw] at q1
 obtain⟨X,rows,e1,hx⟩:=Ll q0
 obtain⟨Y,owners,e2,hy⟩:=Ca q1
 simp at e1 e2
 subst e1;subst e2
 exact⟨_,_,rows,owners,rfl,hx,hy⟩
theorem Nk{x:AV}{d:DataW H}(h:jy Tryz.prog 42 x d):∃n:Int,x=.v (.int .u32 n)/\0<=n/\n<4294967296:=by
 obtain⟨n,h1,h2,h3⟩:=(h.plain (fun _ hq=>by rw[Tryz.underlying42] at hq;cases hq) (fun _ _ hq=>by rw[Tryz.underlying42] at hq;cases hq)).rk Tryz.underlying42
 injection h1 with h1
 simp[IntKind.min,IntKind.max,IntKind.signed,IntKind.bits] at h2 h3
 exact⟨n,h1,h2,by omega⟩
theorem Nl{x:AV}{d:DataW H}(h:jy Tryz.prog 44 x d):∃n:Int,x=.v (.int .u16 n):=by
 obtain⟨n,h1,h2,h3⟩:=(h.plain (fun _ hq=>by rw[Tryz.underlying44] at hq;cases hq) (fun _ _ hq=>by rw[Tryz.underlying44] at hq;cases hq)).rk Tryz.underlying44
 injection h1 with h1
 exact⟨n,h1⟩
theorem Cb{x:AV}{d:DataW H}(h:jy Tryz.prog 43 x d):∃l,UL x l:=by
 obtain⟨k,es,rfl,hl,-,-,he⟩:=h.kj Tryz.underlying43
 have hh:∀r∈es,∃n:Int,r=vO n/\0<=n/\n<4294967296:=fun r hr=>by
  obtain⟨-,d,hd⟩:=he r hr
  obtain⟨n,h1,h2,h3⟩:=hd.rk Tryz.underlying42
  simp[IntKind.min,IntKind.max,IntKind.signed,IntKind.bits] at h2 h3
  exact⟨n,h1,h2,by omega⟩
 have key:∀es:List (List AV),(∀r∈es,∃n:Int,r=vO n/\0<=n/\n<4294967296)->∃l:List Int,es=l.map vO/\∀n∈l,0<=n/\n<4294967296:=by
  intro es
  induction es with
  |nil=>intro _;exact⟨[],rfl,fun n hn=>by simp at hn⟩
  |cons e es ih=>
   intro hh
   obtain⟨n,rfl,hn⟩:=hh e aba
   obtain⟨l,rfl,hl⟩:=ih fun r hr=>hh r (aa5 _ hr)
   exact⟨n::l,rfl,fun m hm=>(List.mem_cons.1 hm).elim (fun q=>q ▸ hn) (hl m)⟩
 obtain⟨l,rfl,h2⟩:=key es hh
 exact⟨l,⟨k,_,rfl,fun _=>TU⟩,h2⟩
theorem HO{x:AV}{d:DataW H}(h:jy Tryz.prog 28 x d):∃l:List UInt8,BL x l:=by
 obtain⟨k,es,rfl,h2,-,-,h4⟩:=h.kj Tryz.underlying28
 obtain⟨l,rfl⟩:=Ei (f:=dp) fun r hr=>by
  obtain⟨-,d,h5⟩:=h4 r hr
  exact h5.C7 kZq
 exact⟨l,k,_,rfl,fun _=>cc5⟩
end
def Ln:List TypeId:=[3,4,5,22,23,25,42,43,44,28]
end Go.Proofs.YtnfciiiohoafaaaGreatDoor
end
section
namespace Go.AE
open Go.RowKit Go.WideShapes Go.ChangeShapes
def Cc(P:Program)(S:List TypeId)(t:TypeId):Bool:=
 match P.underlying t with
 |some .bool|some (.int _)|some .string=>true
 |some (.slice e)=>S.contains e&&decide (0<P.cellsOf e)
 |some (.struct fs)=>uW P 0 fs.toList (P.cellsOf t)&&fs.toList.all fun f=>S.contains f.type
 |some (.array m e)=>Nat.beq (P.cellsOf t) (m * P.cellsOf e)&&S.contains e
 |_=>false
def Fa(P:Program)(S:List TypeId):Bool:=S.all (Cc P S)
section
variable {H:Type} {enc:TypeId × Value->H} {P:Program} {W:World}
theorem HP{S:List TypeId}(hS:Fa P S=true):∀(fuel:Nat) (t:TypeId) (cs:List Value) (x:DataW H × List MemPlace),DataW.trod enc P W 0 (fun _=>true) true fuel t cs=some x->S.contains t=true->
 ∃xs,ao (aB.init W) xs cs/\xs.all AV.bu=true/\Has P t xs x.1:=by
 intro fuel
 induction fuel with
 |zero=>intro t cs x h;simp[DataW.trod] at h
 |succ fuel ih=>
  intro t cs x h hin
  have hok:Cc P S t=true:=aa2.1 hS t (by simpa using hin)
  unfold Cc at hok
  split at hok
  ·rename_i hu
   obtain⟨b,rfl,rfl⟩:=DataW.trod_bool hu h
   exact⟨_,.cons _ _ _ _ (.v _ rfl) .nil,rfl,.bool hu b⟩
  ·rename_i k hu
   obtain⟨m,rfl,rfl,hw⟩:=DataW.trod_int hu h
   exact⟨_,.cons _ _ _ _ (.v _ rfl) .nil,rfl,.int hu m hw⟩
  ·rename_i hu
   obtain⟨s,rfl,rfl,hs⟩:=DataW.trod_string hu h
   exact⟨_,.cons _ _ _ _ (.v _ rfl) .nil,rfl,.str hu s hs⟩
  ·rename_i e hu
   rw[aaQ,decide_eq_true_eq] at hok
   obtain⟨hoke,hpos⟩:=hok
   rcases DataW.trod_slice hu h with⟨rfl,rfl⟩|⟨a,len,cap,elems,rest,m,hm,rfl,rfl,-,hlc,hcm,hel,helem,hspare,-⟩
   ·exact⟨_,.cons _ _ _ _ (.nil _) .nil,rfl,.none hu⟩
   ·have hm:m=fuel:=by omega
    subst hm
    obtain⟨hrl,hrest⟩:=hspare rfl
    have elemAt:∀i,i<len->∃vs r y,W.cells? 0 (a.add (i * P.cellsOf e)) (P.cellsOf e)=some vs/\elems[i]?=some y/\ao (aB.init W) r vs/\r.all AV.bu=true/\Has P e r y.1:=by
     intro i hi
     have h1:=helem i hi
     rw[aaM (by omega:i<elems.length)] at h1
     cases hc:W.cells? 0 (a.add (i * P.cellsOf e)) (P.cellsOf e) with
     |none=>rw[hc] at h1;cases h1
     |some vs=>
      rw[hc] at h1
      obtain⟨r,g1,g2,g3⟩:=ih e vs _ h1 hoke
      exact⟨vs,r,_,rfl,aaM _,g1,g2,g3⟩
    by_cases hcap:cap=0
    ·have hlen:len=0:=by omega
     subst hcap;subst hlen
     have he:elems=[]:=List.eq_nil_of_length_eq_zero hel
     subst he
     refine⟨[.list .tight (P.cellsOf e) []],.cons _ _ _ _ (.eK _ _) .nil,rfl,?_⟩
     show Has P t _ (.slice [] (rest.map (·.1)))
     exact .list hu .tight [] [] (rest.map (·.1)) (.inr ⟨rfl,rfl⟩) (aa4 _) rfl (by simp) (by simp)
    ·-- the block is there
     have hspot:a.spot=none:=by
      have:∃vs,W.cells? 0 (a.add 0) (P.cellsOf e)=some vs:=by
       rcases Nat.eq_zero_or_pos len with h0|h0
       ·have h1:=hrest 0 (by omega)
        rw[aaM (by omega:0<rest.length)] at h1
        cases hc:W.cells? 0 (a.add ((len+0) * P.cellsOf e)) (P.cellsOf e) with
        |none=>rw[hc] at h1;cases h1
        |some vs=>rw[h0] at hc;exact⟨vs,by simpa using hc⟩
       ·obtain⟨vs,_,_,hc,_⟩:=elemAt 0 h0
        exact⟨vs,by simpa using hc⟩
      obtain⟨vs,hvs⟩:=this
      obtain⟨hl,hg⟩:=uX hvs
      have h0:=hg 0 hpos
      rw[aaM (by omega:0<vs.length)] at h0
      have:(a.add 0).add 0=a:=by simp[Addr.add]
      rw[this] at h0
      exact FP h0
     obtain⟨g,off,sp⟩:=a
     simp only at hspot
     subst hspot
     have rows:∀k,k<=len->∃es:List (List AV),es.length=k/\(∀r∈es,r.length=P.cellsOf e/\r.all AV.bu=true)/\(∀(i:Nat) (r:List AV) (d:DataW H),es[i]?=some r->(elems.map (·.1))[i]?=some d->Has P e r d)/\
      ∃cells:List Value,cells.length=k * P.cellsOf e/\ao (aB.init W) es.flatten cells/\∀(j:Nat) (c:Value),cells[j]?=some c->W.cell? ⟨g,off+j,none⟩=some c:=by
      intro k
      induction k with
      |zero=>intro _;exact⟨[],rfl,by simp,by simp,[],by simp,.nil,by simp⟩
      |succ k ihk=>
       intro hk
       obtain⟨es,e1,e2,e3,cells,c1,c2,c3⟩:=ihk (by omega)
       obtain⟨vs,r,y,hc,hy,g1,g2,g3⟩:=elemAt k (by omega)
       obtain⟨hvl,hvg⟩:=uX hc
       refine⟨es++[r],by simp[e1],fun r' hr'=>?_,fun i r' d hi hd=>?_,cells++vs,by simp[c1,hvl,abq],?_,fun j c hj=>?_⟩
       ·rcases List.mem_append.1 hr' with h1|h1
        ·exact e2 r' h1
        ·simp only[List.mem_singleton] at h1
         subst h1
         exact⟨by rw[g1.length,hvl],g2⟩
       ·rcases cR hi with h1|⟨h1,rfl⟩
        ·exact e3 i r' d h1 hd
        ·rw[h1,e1,aa0,hy] at hd
         simp only[aa7,aaX] at hd
         subst hd
         exact g3
       ·rw[List.flatten_append]
        simpa using c2.append g1
       ·rcases aa9 j cells.length with h1|h1
        ·rw[List.getElem?_append_left h1] at hj
         exact c3 j c hj
        ·rw[List.getElem?_append_right h1] at hj
         have hjl:j - cells.length<P.cellsOf e:=by
          have:=(aaL.1 hj).1
          omega
         have h2:=hvg _ hjl
         rw[hj,Addr.dh,Addr.dh] at h2
         rw[show off+j=off+k * P.cellsOf e+(j - cells.length) by omega]
         exact h2
     obtain⟨es,e1,e2,e3,cells,c1,c2,c3⟩:=rows len (aaP _)
     have hall:es.flatten.all AV.bu=true:=by
      rw[List.all_flatten]
      simp only[aa2]
      intro r hr
      have:=(e2 r hr).2
      simpa using this
     refine⟨[.list .held (P.cellsOf e) es],.cons _ _ _ _ (.list .held (P.cellsOf e) es g off len cap cells e1.symm (fun r hr=>(e2 r hr).1) c2 c3 ⟨hlc,trivial⟩ hall) .nil,rfl,?_⟩
     exact .list hu .held es (elems.map (·.1)) (rest.map (·.1)) (.inl rfl) (by omega) (by simp[e1,hel]) e3 (fun r hr=>(e2 r hr).1)
  ·rename_i fs hu
   rw[aaQ,aa2] at hok
   obtain⟨htile,hall⟩:=hok
   obtain⟨ys,m,hm,rfl,hcl,hyl,hat⟩:=DataW.trod_struct hu h
   have hm:m=fuel:=by omega
   subst hm
   have fld:∀(i:Nat) (f:Field),fs[i]?=some f->∃r y,ys[i]?=some y/\ao (aB.init W) r ((cs.drop f.offset).take (P.cellsOf f.type))/\r.all AV.bu=true/\Has P f.type r y.1:=by
    intro i f hf
    have h1:=hat i f hf
    have hlt:i<ys.length:=by rw[hyl];exact(abY.1 hf).1
    rw[aaM hlt] at h1
    obtain⟨r,g1,g2,g3⟩:=ih f.type _ _ h1 (hall f (by
     obtain⟨hi,rfl⟩:=abY.1 hf
     exact Array.mem_toList_iff.2 (Array.getElem_mem hi)))
    exact⟨r,_,aaM hlt,g1,g2,g3⟩
   have build:∀(l:List Field) (i off:Nat),(∀j f,l[j]?=some f->fs[i+j]?=some f)->uW P off l (P.cellsOf t)=true->off<=cs.length->
    ∃xs,ao (aB.init W) xs (cs.drop off)/\xs.all AV.bu=true/\∀j f,l[j]?=some f->off<=f.offset/\∃r y,ys[i+j]?=some y/\(xs.drop (f.offset - off)).take (P.cellsOf f.type)=r/\Has P f.type r y.1:=by
    intro l
    induction l with
    |nil=>
     intro i off _ ht _
     have hoff:off=P.cellsOf t:=abg ht
     refine⟨[],?_,rfl,fun j f hj=>by simp at hj⟩
     rw[hoff,<-hcl,List.drop_length]
     exact .nil
    |cons f l ihl=>
     intro i off hl ht hle
     rw[uW,aaQ] at ht
     have ho:f.offset=off:=abg ht.1
     obtain⟨r,y,hy,g1,g2,g3⟩:=fld i f (by simpa using hl 0 f rfl)
     have hlen2:off+P.cellsOf f.type<=cs.length:=by
      rw[hcl]
      have:∀(l:List Field) (o:Nat),uW P o l (P.cellsOf t)=true->o<=P.cellsOf t:=by
       intro l
       induction l with
       |nil=>intro o h;exact Nat.le_of_eq (abg h)
       |cons f l ih=>intro o h;rw[uW,aaQ] at h;exact Nat.le_trans (Nat.le_add_right _ _) (ih _ h.2)
      exact this l _ ht.2
     obtain⟨xs,x1,x2,x3⟩:=ihl (i+1) (off+P.cellsOf f.type) (fun j f' hj=>by
      have:=hl (j+1) f' (by simpa using hj)
      rwa [show i+(j+1)=i+1+j by omega] at this) ht.2 hlen2
     rw[ho] at g1
     have hrl:r.length=P.cellsOf f.type:=by rw[g1.length];simp;omega
     refine⟨r++xs,?_,by rw[ac8,g2,x2];rfl,fun j f' hj=>?_⟩
     ·have:=g1.append x1
      rw[<-acv,List.take_append_drop] at this
      exact this
     ·cases j with
      |zero=>
       simp only[List.getElem?_cons_zero,aaX] at hj
       subst hj
       refine⟨by omega,r,y,hy,?_,g3⟩
       rw[ho,Nat.sub_self,abp,<-hrl,List.take_left]
      |succ j=>
       obtain⟨hge,r',y',hy',hr',hh⟩:=x3 j f' (by simpa using hj)
       refine⟨by omega,r',y',by rw[show i+(j+1)=i+1+j by omega];exact hy',?_,hh⟩
       rw[show f'.offset - off=r.length+(f'.offset - (off+P.cellsOf f.type)) by omega,<-acv,af1]
       exact hr'
   obtain⟨xs,x1,x2,x3⟩:=build fs.toList 0 0 (fun j f hj=>by simpa using hj) htile (aa4 _)
   rw[abp] at x1
   refine⟨xs,x1,x2,.struct hu xs (ys.map (·.1)) (by rw[x1.length,hcl]) (by simp[hyl]) fun i f d hf hd=>?_⟩
   obtain⟨-,r,y,hy,hr,hh⟩:=x3 i f (by simpa using hf)
   rw[Nat.zero_add] at hy
   rw[aa0,hy] at hd
   simp only[aa7,aaX] at hd
   subst hd
   rw[Nat.sub_zero] at hr
   rw[hr];exact hh
  ·rename_i m e hu
   rw[aaQ] at hok
   have hsz:P.cellsOf t=m * P.cellsOf e:=abg hok.1
   obtain⟨ys,fu,hfu,rfl,hcl,hyl,hat⟩:=DataW.trod_array hu h
   have hfu:fu=fuel:=by omega
   subst hfu
   have rows:∀k,k<=m->∃xs,ao (aB.init W) xs (cs.take (k * P.cellsOf e))/\xs.all AV.bu=true/\∀i,i<k->∃y,ys[i]?=some y/\Has P e ((xs.drop (i * P.cellsOf e)).take (P.cellsOf e)) y.1:=by
    intro k
    induction k with
    |zero=>intro _;exact⟨[],by simp;exact .nil,rfl,fun i hi=>absurd hi (Nat.not_lt_zero i)⟩
    |succ k ihk=>
     intro hk
     obtain⟨xs,x1,x2,x3⟩:=ihk (by omega)
     have h1:=hat k (by omega)
     rw[aaM (by omega:k<ys.length)] at h1
     obtain⟨r,g1,g2,g3⟩:=ih e _ _ h1 hok.2
     have hlen:(k+1) * P.cellsOf e<=cs.length:=by rw[hcl,hsz];exact abu _ hk
     have hxl:xs.length=k * P.cellsOf e:=by rw[x1.length,aa6];rw[abq] at hlen;omega
     have hrl:r.length=P.cellsOf e:=by rw[g1.length];simp;rw[abq] at hlen;omega
     refine⟨xs++r,?_,by rw[ac8,x2,g2];rfl,fun i hi=>?_⟩
     ·have:=x1.append g1
      rwa [<-List.take_add,<-Nat.succ_mul] at this
     ·rcases aa9 i k with h2|h2
      ·obtain⟨y,hy,hh⟩:=x3 i h2
       refine⟨y,hy,?_⟩
       have h3:(i+1) * P.cellsOf e<=k * P.cellsOf e:=abu _ h2
       rw[abq] at h3
       rw[List.drop_append_of_le_length (by omega),List.take_append_of_le_length (by simp;omega)]
       exact hh
      ·have:i=k:=by omega
       subst this
       refine⟨_,aaM (by omega),?_⟩
       rw[<-hxl,af1,<-hrl,abl]
       exact g3
   obtain⟨xs,x1,x2,x3⟩:=rows m (aaP _)
   rw[<-hsz,<-hcl,abl] at x1
   refine⟨xs,x1,x2,.array hu xs (ys.map (·.1)) (by rw[x1.length,hcl]) (by simp[hyl]) fun i d hd=>?_⟩
   have hi:i<m:=by
    have:=(aaL.1 hd).1
    simpa [hyl] using this
   obtain⟨y,hy,hh⟩:=x3 i hi
   rw[aa0,hy] at hd
   simp only[aa7,aaX] at hd
   subst hd
   exact hh
  ·cases hok
theorem Nm{S:List TypeId}(hS:Fa P S=true){t:TypeId}{v:Value}{d:DataW H}{p:List MemPlace}{base:Nat}(h:DataW.Trod enc P W 0 (fun _=>true) true t v d p)(hv:Value.okWide P W .any base t v)(hin:S.contains t=true):
 ∃x,aI (aB.init W) x v/\jy P t x d:=by
 obtain⟨fuel,hf⟩:=h
 obtain⟨xs,h1,h2,h3⟩:=HP hS fuel t _ _ hf hin
 have single:∀c,v.cells.toList=[c]->v=c->(∀cs,P.underlying t≠some (.struct cs))->(∀m e,P.underlying t≠some (.array m e))->∃x,aI (aB.init W) x v/\jy P t x d:=by
  intro c hc hvc hns hna
  rw[hc] at h1
  cases h1 with
  |cons x _ _ _ hx hs=>
   cases hs
   refine⟨x,hvc ▸ hx,?_⟩
   unfold jy
   split
   ·rename_i hu;exact absurd hu (hns _)
   ·rename_i hu;exact absurd hu (hna _ _)
   ·exact h3
 have hok:Cc P S t=true:=aa2.1 hS t (by simpa using hin)
 unfold Cc at hok
 unfold Value.okWide at hv
 split at hok
 ·rename_i hu
  rw[hu] at hv
  simp only[Cell.okWide,Cell.ok,hu] at hv
  cases v<;>simp at hv
  exact single _ rfl rfl (by rw[hu];simp) (by rw[hu];simp)
 ·rename_i k hu
  rw[hu] at hv
  simp only[Cell.okWide,Cell.ok,hu] at hv
  cases v<;>simp at hv
  exact single _ rfl rfl (by rw[hu];simp) (by rw[hu];simp)
 ·rename_i hu
  rw[hu] at hv
  simp only[Cell.okWide,Cell.ok,hu] at hv
  cases v<;>simp at hv
  exact single _ rfl rfl (by rw[hu];simp) (by rw[hu];simp)
 ·rename_i e hu
  rw[hu] at hv
  simp only[Cell.okWide,Cell.ok,hu] at hv
  cases v<;>simp at hv
  exact single _ rfl rfl (by rw[hu];simp) (by rw[hu];simp)
 ·rename_i fs hu
  rw[hu] at hv
  obtain⟨cs,rfl,-,-⟩:=hv
  exact⟨.agg xs,.agg _ _ h1,by unfold jy;rw[hu];exact⟨xs,rfl,h3⟩⟩
 ·rename_i m e hu
  rw[hu] at hv
  obtain⟨cs,rfl,-,-⟩:=hv
  exact⟨.agg xs,.agg _ _ h1,by unfold jy;rw[hu];exact⟨xs,rfl,h3⟩⟩
 ·cases hok
theorem Lo{S:List TypeId}(hS:Fa P S=true){base:Nat}:∀{ts:List TypeId} {vs:List Value} {ds:List (DataW H)} {p:List MemPlace},DataW.TrodAll enc P W 0 (fun _=>true) true ts vs ds p->
 (∀(j:Nat) t v,ts[j]?=some t->vs[j]?=some v->Value.okWide P W .any base t v)->(∀t∈ts,S.contains t=true)->∃xs,ao (aB.init W) xs vs/\jF P ts xs ds:=by
 intro ts
 induction ts with
 |nil=>
  intro vs ds p h _ _
  obtain⟨rfl,rfl,rfl⟩:=trodAll_nil h
  exact⟨[],.nil,trivial⟩
 |cons t ts ih=>
  intro vs ds p h hv hok
  obtain⟨v,vs',d,ds',p1,q1,rfl,rfl,rfl,h1,h2⟩:=trodAll_cons h
  obtain⟨x,g1,g2⟩:=Nm hS h1 (hv 0 t v rfl rfl) (hok t aba)
  obtain⟨xs,g3,g4⟩:=ih h2 (fun j t v ht hv'=>hv (j+1) t v (by simpa using ht) (by simpa using hv')) (fun t ht=>hok t (aa5 _ ht))
  exact⟨x::xs,.cons _ _ _ _ g1 g3,g2,g4⟩
structure yi(P:Program)(S:List TypeId)(f:FuncId)(fn:Func)(tb:TypeId):Prop where
 func:P.funcs[f]?=some fn
 laid:laidOutB P=true
 set:Fa P S=true
 tys:∀t∈fn.params.toList,S.contains t=true/\P.readableRec t=true/\t<P.types.size
 res:fn.resultTypes=#[tb]
 bool:P.underlying tb=some .bool
variable {G:Nat->Option (List AV)} {prims:FuncId->Option (List AV->ae->Option (AV × ae))}
theorem wP{S:List TypeId}(hp:Prog P){f:FuncId}{fn:Func}{tb:TypeId}(F:yi P S f fn tb){s:ChangeSpec}{apart fresh handsOn again:Bool}{base:Nat}{args:Array Value}{ds gs:List (DataW H)}{before:List MemPlace}
 (hvars:s.vars=[]) (hspec:∀ds:List (DataW H),ds.length=fn.params.size->(s.fn H ds).results=[.lit (.bool true)]/\(s.fn H ds).args=ds/\(s.fn H ds).vars=[])
 (hval:∀(j:Nat) t v,fn.params[j]?=some t->args[j]?=some v->Value.okWide P W .any base t v)
 (hW:DataW.Whole enc P fn.params.toList s.vars apart W args.toList ds gs before)
 (hG:∀g cs,G g=some cs->∃cells,ao (aB.init W) cs cells/\∀(j:Nat) (c:Value),cells[j]?=some c->W.cell? ⟨g,j,none⟩=some c)
 (hprim:∀g p,prims g=some p->jb P G W g p)
 (hlaw:∀xs:List AV,jF P fn.params.toList xs ds->∃h',(whole P G prims).call f xs ae.init=some (.ret (.v (.bool true)),h')):
 Calls P f args W fun e W'=>∃v,e=.returned v/\s.post enc P fn apart fresh handsOn again W args v W':=by
 have hW':=hW
 obtain⟨p,q,hA,hV,hbef,hfz,hnd⟩:=hW
 have hV0:DataW.TrodVars enc P W (fun _=>true) [] gs q:=hvars ▸ hV
 obtain⟨rfl,rfl⟩:=trodVars_none hV0
 rw[abv] at hbef
 subst hbef
 obtain⟨xs,hxs,hall⟩:=Lo F.set hA (fun j t v ht hv=>hval j t v (by simpa using ht) (by simpa using hv)) (fun t ht=>(F.tys t ht).1)
 obtain⟨h',hcall⟩:=hlaw xs hall
 have hsim:jv P G W (aB.init W) ae.init W:=IM W hG
 obtain⟨-,hc⟩:=(su hp hprim).call f xs ae.init _ _ hcall
 intro cs
 obtain⟨K',w',fr,le,s',hst,hfr,v,hx,hl⟩:=hc (aB.init W) W args hxs hsim cs
 have hv:=hx.bm.1
 subst hv
 have hb:Below W.heap.size W w':=by
  have:=s'.old
  rw[le.base] at this
  exact this
 have hlen:ds.length=fn.params.size:=by
  have:∀{ts:List TypeId} {xs:List AV} {ds:List (DataW H)},jF P ts xs ds->ds.length=ts.length:=by
   intro ts
   induction ts with
   |nil=>intro xs ds h;cases xs<;>cases ds<;>simp[jF] at h ⊢
   |cons t ts ih=>intro xs ds h;cases xs<;>cases ds<;>simp[jF] at h ⊢;exact ih h.2
  simpa using this hall
 obtain⟨r1,r2,r3⟩:=hspec ds hlen
 refine⟨.returned (.bool true),w',fr,⟨_,rfl,?_⟩,hst,hfr,hl⟩
 refine CV (pa:=before) (pv:=[]) hW' (fun b sp hd=>?_) (fun sp hsp=>?_) (fun sp _=>?_) (by simp) hb (ok_one F.res rfl (okWide_bool_mk F.bool _))
 ·rw[F.res,abv,r1]
  exact trodAll_cons_mk (shut_bool F.bool _) trodAll_mk0
 ·rw[abv,r2]
  exact FQ F.laid hA (fun t ht=>(F.tys t ht).2) (fun x hx=>hb.same (hW'.lt x hx)) hsp
 ·rw[hvars,abv,r3]
  exact rfl
end
end Go.AE
end
