/-
  Part of the proof: YI.
-/
import Derived.Test.YtnfciiiohoafaaaGreatDoorYH
import Derived.Test.YtnfciiiohoafaaaGreatDoorYG
open Go.Proofs.Tryz renaming prog->aj
open Option renaming some->aa
open And renaming intro->ax
set_option maxHeartbeats 64000000
set_option maxRecDepth 100000
set_option linter.unusedSimpArgs false
set_option linter.unusedVariables false
set_option linter.constructorNameAsVariable false
set_option linter.defProp false
section
namespace Go.Proofs.YtnfciiiohoafaaaGreatDoor
open Go.AE Go.NT
def P9:Tryz.f31.results.toList=[.tmp 0]:=aw
def mR:List UInt8:=[112,97,121]
def Zl:vN R4 O4 1000 [77] [1,3] [5,6,7,8] mR=true:=by decide+kernel
def blP:gN aj 28 3 [(0,.v (.int .u8 112)),(1,.v (.int .u8 97)),(2,.v (.int .u8 121))]=aa (.list .tight 1 (aX mR)):=aw
def Su(a):gN aj 23 1 [(0,.v (.int .i64 a))]=aa (.list .tight 1 (ints [a])):=aw
def acX(a b c d):gN aj 23 4 [(0,.v (.int .i64 a)),(1,.v (.int .i64 b)),(2,.v (.int .i64 c)),(3,.v (.int .i64 d))]=aa (.list .tight 1 (ints [a,b,c,d])):=aw
def B9(l):IL (.list .tight 1 (ints l)) l:=⟨_,_,rfl,λ_=>rfl⟩
def rl4:RL X4 R4:=by
 refine⟨.tight,1,[.list .tight 1 (ints [1,1]),.list .tight 1 (ints [1,2]),.list .tight 1 (ints [1,3])],rfl,λ_=>rfl,rfl,λi a r ha hr=>?_⟩
 match i with
 |0=>injection ha with ha;injection hr with hr;subst ha;subst hr;exact⟨_,_,rfl,λ_=>rfl⟩
 |1=>injection ha with ha;injection hr with hr;subst ha;subst hr;exact⟨_,_,rfl,λ_=>rfl⟩
 |2=>injection ha with ha;injection hr with hr;subst ha;subst hr;exact⟨_,_,rfl,λ_=>rfl⟩
 |i+3=>simp at ha
def acx{ae}{ag ar N s y}{l}{text}{ep}(c:mC ae ag ar N s y l text ep):dJ ae ag ep (bF s) text []=420:=by obtain⟨hp,-⟩:=xM c.acc;unfold dJ;rw[aG (by rw[hp];simp),aG (by have:=c.ep;simp[(zq (ae:=ae) c.sl).1,(zq (ae:=ae) c.sl).2,this.1,this.2]),aG (by have:=c.tl;omega),aG bG,aG (by simp[NT.mb])];split;simp
def qF{K}{b}{ep}{X Y C T L Z}(hb:K.boxes[b]?=aa (fe ep X Y C T L Z)):
 aF aj Gt K 27 (.ptr (.box b) 0)=aa (.agg (cB ep X Y C))/\aF aj Gt K 28 (.ptr (.box b) 4)=aa T/\aF aj Gt K 29 (.ptr (.box b) 5)=aa L/\aF aj Gt K 23 (.ptr (.box b) 6)=aa Z/\aF aj Gt K 23 (.ptr (.box b) 3)=aa C:=
 ⟨Wf hb,cI IA hb rfl,cI xO hb rfl,cI mW hb rfl,cI mW hb rfl⟩
def EB{H:ao}(x y):b8 aj (H.push [im 0,im 0]) 50 (.ptr (.box H.boxes.length) 0) (.agg [im x,im y])=aa (H.push [im x,im y]):=jt rfl KO rfl rfl
def aoo(h:ao)(bD:dj h=true):∃r h',W7.call 31 [] h=aa (r,h')/\Ext h h'/\r=.ret (.v (.bool true)):=by
 obtain⟨y,cr,-⟩:=QR Zl;have b1:=ac7;obtain⟨x1,x2⟩:=rl4.oD aw ⟨[],[],0,[]⟩;obtain⟨y1,y2⟩:=(show IL Y4 O4 from B9 _).oD ⟨[],[],0,[]⟩;generalize gJ ⟨[],[],0,[]⟩ X4=X at *
 generalize gJ ⟨[],[],0,[]⟩ Y4=Y at *
 obtain⟨H5,H6,f1,f2,x6,f3⟩:=adr h bD (aX mR);have ok6:=x6.ok bD;obtain⟨X2,Y2,C2,T2,L2,Z2,g1,g2,g3,g4,g5,g6,c1⟩:∃X2 Y2 C2 T2 L2 Z2,RL X2 R4/\IL Y2 O4/\IL C2 (bF [1000,77])/\BL T2 mR/\PL L2 (ft [1,3] [5,6,7,8])/\IL Z2 (kQ R4 O4 [1000,77] [1,3] [5,6,7,8] (ft [1,3] [5,6,7,8]) mR)/\
  ∀h,W7.call 38 [.agg [X,Y],im 1000,.list .tight 1 (ints [77]),.list .tight 1 (ints [1,3]),.list .tight 1 (ints [5,6,7,8]),.list .held 1 (aX mR)] h=aa (.ret (.tuple [.agg (fe 0 X2 Y2 C2 T2 L2 Z2),.v (.bool true),.v (.bool true)]),h):=by
  rcases SU X Y _ _ _ (.list .held 1 (aX mR)) R4 O4 1000 [77] [1,3] [5,6,7,8] mR x1 y1 (B9 _) (B9 _) (B9 _) ⟨_,_,rfl,λ_=>rfl⟩ aO aO aO with⟨q,-⟩|⟨-,q⟩
  ·rw[Zl] at q;cases q
  ·exact q
 have cells:=Mw (ep:=0) g1 g2 g3 g4 g5 g6;generalize hl:ft [1,3] [5,6,7,8]=l at *
 have dy:l.length=2:=by rw[<-hl];rfl
 obtain⟨p0,p1,hz⟩:∃p0 p1,kQ R4 O4 [1000,77] [1,3] [5,6,7,8] l mR=[p0,p1]:=⟨_,_,rfl⟩;have oz:qY R4 O4 [1000,77] [1,3] [5,6,7,8] l mR 1=p1:=by have:=GV (ae:=R4) (ag:=O4) (s:=[1000,77]) (N:=[5,6,7,8]) (l:=l) (text:=mR) (ar:=[1,3]) (i:=1) aO;rw[hz] at this;exact this.symm
 have zY:okF p1:=by rw[<-oz];exact Pt 1
 have cV:(bF [1000,77]).length<=1000000:=by decide
 obtain⟨H1,gu⟩:∃H1,H6.push (fe 0 X2 Y2 C2 T2 L2 Z2)=H1:=⟨_,rfl⟩;have s1:b8 aj (H6.push (fe 0 nl nl nl nl nl nl)) 66 (.ptr (.box H6.boxes.length) 0) (.agg (fe 0 X2 Y2 C2 T2 L2 Z2))=aa H1:=by rw[<-gu];exact jt cells HO rfl rfl
 have t1:H1.boxes[H6.boxes.length]?=aa (fe 0 X2 Y2 C2 T2 L2 Z2):=by rw[<-gu];exact bp _ _
 have e1:Ext h H1:=by rw[<-gu];exact x6.trans (.push _ _)
 generalize hb:H6.boxes.length=b at *
 have l1:=qF t1;obtain⟨_,H2,k2,e2,rfl⟩:=FE H1 0 X2 Y2 C2 T2 L2 Z2 R4 O4 (bF [1000,77]) mR l _ g1 g2 g3 g4 g5 cV ah aO (.inl g6) (by rw[hz];simp);rw[cr.comb] at k2;have hv:=cr.HB;rw[hz] at k2 hv g6;generalize uh:((dR (al (bF [1000,77]) 0) mR l:Nat):Int)=ch at *
 generalize DS:([p0,p1]:List Int).foldl cS 0=sm at *
 obtain⟨H3,pC⟩:∃H3,H2.push [im ch,im sm]=H3:=⟨_,rfl⟩;have s2:=EB (H:=H2) ch sm;rw[pC] at s2;have t2:=e2.box _ _ t1;have l2:=qF t2;have e3:Ext H2 H3:=by rw[<-pC];exact .push _ _
 have t3:=e3.box _ _ t2;have l3:=qF t3;have u3:H3.boxes[H2.boxes.length]?=aa [im ch,im sm]:=by rw[<-pC];exact bp _ _
 have E3:=(e1.trans e2).trans e3;obtain⟨_,H4,k4,e4,B4,rfl,M7⟩:=Fw H3 (E3.ok bD) 0 X2 Y2 C2 T2 L2 Z2 R4 O4 (bF [1000,77]) mR l _ g1 g2 g3 g4 g5 cV ah (.inl g6) bG;rw[<-hz,cr.ac2] at k4 M7;have t4:=e4.box _ _ t3;have l4:=qF t4;have E4:=E3.trans e4;obtain⟨_,H5b,k5,e5,B5,rfl,zD⟩:=Fw H4 (E4.ok bD) 0 X2 Y2 C2 T2 L2 (.list .tight 1 (ints [p0,(p1+1)%1073741789])) R4 O4 (bF [1000,77]) mR l _ g1 g2 g3 g4 g5 cV ah (.inl (B9 _)) bG;have DK:=(cr.Sx (i:=1) (v:=(p1+1)%1073741789) aO ⟨Int.emod_nonneg _ aO,Int.emod_lt_of_pos _ aO⟩ (by rw[oz];obtain⟨q1,q2⟩:=zY;have:Qi=1073741789:=rfl;omega)).1;rw[hz] at DK;change rD R4 O4 0 (bF [1000,77]) mR l [p0,(p1+1)%1073741789]=([3],0) at DK;rw[DK] at k5 zD;have t5:=e5.box _ _ t4;have l5:=qF t5;have E5:=E4.trans e5;have hn:oh R4 O4 0 (bF [1000,77]) mR [] []=((0,0),false,420):=by unfold oh;rw[acx cr,aD aO]
 obtain⟨_,H7,k7,e7,rfl⟩:=FE H5b 0 X2 Y2 C2 T2 nl nl R4 O4 (bF [1000,77]) mR [] [] g1 g2 g3 g4 ⟨_,_,rfl,λq=>absurd rfl q⟩ cV aO aO (.inl ⟨_,_,rfl,λq=>absurd rfl q⟩) aO;rw[hn] at k7;obtain⟨H8,Uq⟩:∃H8,H7.push [im 0,im 0]=H8:=⟨_,rfl⟩;have s8:=EB (H:=H7) 0 0;rw[Uq] at s8;have e8:Ext H7 H8:=by rw[<-Uq];exact .push _ _
 have t8:=e8.box _ _ (e7.box _ _ t5);have l8:=qF t8;have E8:=(E5.trans e7).trans e8;have B1:jV l []=false:=by unfold jV;rw[dy];rfl
 obtain⟨_,H9,k9,e9,rfl⟩:=FE H8 0 X2 Y2 C2 T2 L2 nl R4 O4 (bF [1000,77]) mR l [] g1 g2 g3 g4 g5 cV ah aO (.inl ⟨_,_,rfl,λq=>absurd rfl q⟩) aO;rw[cr.Td B1] at k9;obtain⟨Ha,Us⟩:∃Ha,H9.push [im 0,im 0]=Ha:=⟨_,rfl⟩;have sa:=EB (H:=H9) 0 0;rw[Us] at sa;have ea:Ext H9 Ha:=by rw[<-Us];exact .push _ _
 have ta:=ea.box _ _ (e9.box _ _ t8);have la:=qF ta;have Ea:=(E8.trans e9).trans ea;have VY:jV l [0,1073741789]=false:=by unfold jV;rw[dy];rfl
 obtain⟨_,Hb,kb,eb,Bb,rfl,Un⟩:=Fw Ha (Ea.ok bD) 0 X2 Y2 C2 T2 L2 (.list .tight 1 (ints [0,1073741789])) R4 O4 (bF [1000,77]) mR l _ g1 g2 g3 g4 g5 cV ah (.inl (B9 _)) bG;rw[cr.Sw VY] at kb Un;have tb:=eb.box _ _ ta;have lb:=qF tb;have ub:=(((((e4.trans e5).trans e7).trans e8).trans e9).trans ea).trans eb;have lS:=Ce (ub.box _ _ u3);have vf:=Zo (al (bF [1000,77]) 0) ch sm T2 mR g4 aO;rw[hv] at vf;have sm7:=Yk B5 (.list .tight 1 (ints [3])) [3] [3] zD (B9 _) aO aO;rw[cz rfl] at sm7;have ixC:dx aj 23 C2 (.v (.int .i64 0))=aa (.elem 1 (ints (bF [1000,77])) 0 0):=g3.ix (i:=0) aO;have ldC:∀K:ao,aF aj Gt K 3 (.elem 1 (ints (bF [1000,77])) 0 0)=aa (.v (.int .i64 (al (bF [1000,77]) 0))):=λK=>fP aO;have ixA:dx aj 23 Z2 (.v (.int .i64 0))=aa (.elem 1 (ints [p0,p1]) 0 0):=g6.ix (i:=0) bG;have ixB:dx aj 23 Z2 (.v (.int .i64 1))=aa (.elem 1 (ints [p0,p1]) 1 0):=g6.ix (i:=1) bG;have ldA:∀K:ao,aF aj Gt K 3 (.elem 1 (ints [p0,p1]) 0 0)=aa (.v (.int .i64 p0)):=λK=>fP bG;have ldB:∀K:ao,aF aj Gt K 3 (.elem 1 (ints [p0,p1]) 1 0)=aa (.v (.int .i64 p1)):=λK=>fP bG;have lnZ:dN aj 23 Z2=aa (.v (.int .i64 2)):=g6.dN;have lnB:dN aj 23 B4=aa (.v (.int .i64 0)):=M7.dN;have wr:IntKind.i64.wrap (p1+1)=p1+1:=by obtain⟨q1,q2⟩:=zY;have:Qi=1073741789:=rfl;exact fh ah ah
 have tm:(p1+1).tmod 1073741789=(p1+1)%1073741789:=Int.tmod_eq_emod_of_nonneg (by obtain⟨q1,q2⟩:=zY;omega);have bw:=Fv p0 ((p1+1)%1073741789);have Mm:=Fv 0 1073741789;have kx:=aq.mk (Ea.trans eb);have zc:=QY;have zg:=QX;have g0:=blP;clear cr x1 x2 y1 y2 g1 g2 g3 g4 g5 g6 cells hl hz oz zY cV gu t1 e1 hv uh DS pC t2 e3 t3 u3 E3 e2 e4 t4 E4 e5 t5 E5 DK M7 zD hn e7 e8 t8 E8 B1 e9 ea ta Ea VY eb tb ub Un x6 ok6 f3 dy bD;generalize al (bF [1000,77]) 0=key at *
 generalize ints (bF [1000,77])=ic at *
 generalize (p1+1)%1073741789=w1 at *
 generalize aX mR=tt at *
 unfold im at *
 refine ec rfl Tryz.func31 rfl ?_;refine bW @P9 @Su @acX (ax @Fv (ax @sV @hb)) ?_;refine fQ A2 aw ?_;refine eg @P9 @Fv @sV ?_;refine fQ A2 aw ?_;refine bW @P9 @Su @sV @ml ?_;exact⟨_,_,rfl,kx.out,rfl⟩
end Go.Proofs.YtnfciiiohoafaaaGreatDoor
end
