/-
  The engine, part 31: arguments of recursive types: a set of types, each made of others of the set.
-/
import Derived.Test.YtnfciiiohoafaaaGreatDoorXI
import Derived.Test.YtnfciiiohoafaaaGreatDoorXH
import Derived.Test.YtnfciiiohoafaaaGreatDoorXE
import Derived.Test.YtnfciiiohoafaaaGreatDoorXB
import Derived.Test.YtnfciiiohoafaaaGreatDoorXG
import Derived.LaidMore
import Derived.MakeChecks
import Derived.Stop.LaidErr
import Derived.Stop.Joined
import Derived.Lib.LaidTab
import Derived.Test.YtnfciiiohoafaaaGreatDoorRows
open Bool renaming true->ah,false->aB,and_eq_true->bI
open Go.Proofs.Tryz renaming prog->aq,underlying23->dY,underlying29->wg,underlying3->AO
open Option renaming some->aa,map_eq_some_iff->dN,map_some->ft,some.injEq->eg
open And renaming intro->az
open Go renaming FuncId->bq,Value->aT,TypeId->aP,Program->bL
open Nat renaming zero_le->cD,reduceEqDiff->aS,le_refl->aL,le_trans->fG,add_mul->gZ,lt_or_ge->ez,eq_of_beq_eq_true->lD,mul_le_mul_right->pg
open List renaming getElem?_eq_getElem->aU,all_eq_true->eK,map_map->Ca,getElem?_map->ey,getElem?_eq_some_iff->aW,getD_eq_getElem?_getD->eE,mem_cons_self->gq,mem_cons_of_mem->fM,all_append->BZ,drop_drop->y5,drop_zero->jm,drop_left->adQ,take_length->fN,append_nil->jC
open Array renaming all_eq_true'->Ny,mem_of_getElem?->adj,getElem?_eq_some_iff->D7
set_option maxHeartbeats 64000000
set_option maxRecDepth 100000
set_option linter.unusedSimpArgs false
set_option linter.unusedVariables false
set_option linter.constructorNameAsVariable false
set_option linter.defProp false
section
namespace Go.Proofs.YtnfciiiohoafaaaGreatDoor
open Go.AE Go.NT
def S0:Tryz.f31.results.toList=[.tmp 0]:=aw
def nU:List UInt8:=[112,97,121]
def acY:xq R4 O4 1000 [77] [1,3] [5,6,7,8] nU=ah:=by decide+kernel
def blP:gG aq 28 3 [(0,.v (.int .u8 112)),(1,.v (.int .u8 97)),(2,.v (.int .u8 121))]=aa (.list .tight 1 (bf nU)):=aw
def VB(a):gG aq 23 1 [(0,.v (.int .i64 a))]=aa (.list .tight 1 (ints [a])):=aw
def agB(a b c d):gG aq 23 4 [(0,.v (.int .i64 a)),(1,.v (.int .i64 b)),(2,.v (.int .i64 c)),(3,.v (.int .i64 d))]=aa (.list .tight 1 (ints [a,b,c,d])):=aw
def Dy(l):IL (.list .tight 1 (ints l)) l:=⟨_,_,rfl,λ_=>rfl⟩
def rl4:RL X4 R4:=by
 refine⟨.tight,1,[.list .tight 1 (ints [1,1]),.list .tight 1 (ints [1,2]),.list .tight 1 (ints [1,3])],rfl,λ_=>rfl,rfl,λi a r ha hr=>?_⟩
 match i with
 |0=>injection ha with ha;injection hr with hr;subst ha;subst hr;exact⟨_,_,rfl,λ_=>rfl⟩
 |1=>injection ha with ha;injection hr with hr;subst ha;subst hr;exact⟨_,_,rfl,λ_=>rfl⟩
 |2=>injection ha with ha;injection hr with hr;subst ha;subst hr;exact⟨_,_,rfl,λ_=>rfl⟩
 |i+3=>simp at ha
def af8{ae}{ag au N s y}{l}{text}{ep}(c:pV ae ag au N s y l text ep):cP ae ag ep (cO s) text []=420:=by obtain⟨hp,-⟩:=zj c.acc;unfold cP;rw[aJ (by rw[hp];simp),aJ (by have:=c.ep;simp[(A2 (ae:=ae) c.sl).1,(A2 (ae:=ae) c.sl).2,this.1,this.2]),aJ (by have:=c.tl;omega),aJ bJ,aJ (by simp[NT.gE])];split;simp
def A1{K}{b}{ep}{X Y C T L Z}(hb:K.boxes[b]?=aa (gL ep X Y C T L Z)):
 aI aq Gt K 27 (.ptr (.box b) 0)=aa (.agg (aN ep X Y C))/\aI aq Gt K 28 (.ptr (.box b) 4)=aa T/\aI aq Gt K 29 (.ptr (.box b) 5)=aa L/\aI aq Gt K 23 (.ptr (.box b) 6)=aa Z/\aI aq Gt K 23 (.ptr (.box b) 3)=aa C:=
 ⟨ZY hb,cQ Kp hb rfl,cQ zn hb rfl,cQ mj hb rfl,cQ mj hb rfl⟩
def TA{H:ar}(x y):cE aq (H.push [im 0,im 0]) 50 (.ptr (.box H.boxes.length) 0) (.agg [im x,im y])=aa (H.push [im x,im y]):=lq rfl Ni rfl rfl
def atS(h:ar)(bB:cK h=ah):∃r h',W7.call 31 [] h=aa (r,h')/\Ext h h'/\r=.ret (.v (.bool ah)):=by
 obtain⟨y,cr,-⟩:=acZ acY;have b1:=agR;obtain⟨x1,x2⟩:=rl4.pM aw ⟨[],[],0,[]⟩;obtain⟨y1,y2⟩:=(show IL Y4 O4 from Dy _).pM ⟨[],[],0,[]⟩;generalize gX ⟨[],[],0,[]⟩ X4=X at *
 generalize gX ⟨[],[],0,[]⟩ Y4=Y at *
 obtain⟨H5,H6,f1,f2,x6,f3⟩:=ahd h bB (bf nU);have ok6:=x6.ok bB;obtain⟨X2,Y2,C2,T2,L2,Z2,g1,g2,g3,g4,g5,g6,c1⟩:∃X2 Y2 C2 T2 L2 Z2,RL X2 R4/\IL Y2 O4/\IL C2 (cO [1000,77])/\BL T2 nU/\PL L2 (jZ [1,3] [5,6,7,8])/\IL Z2 (oY R4 O4 [1000,77] [1,3] [5,6,7,8] (jZ [1,3] [5,6,7,8]) nU)/\
  ∀h,W7.call 38 [.agg [X,Y],im 1000,.list .tight 1 (ints [77]),.list .tight 1 (ints [1,3]),.list .tight 1 (ints [5,6,7,8]),.list .held 1 (bf nU)] h=aa (.ret (.tuple [.agg (gL 0 X2 Y2 C2 T2 L2 Z2),.v (.bool ah),.v (.bool ah)]),h):=by
  rcases ahr X Y _ _ _ (.list .held 1 (bf nU)) R4 O4 1000 [77] [1,3] [5,6,7,8] nU x1 y1 (Dy _) (Dy _) (Dy _) ⟨_,_,rfl,λ_=>rfl⟩ aZ aZ aZ with⟨q,-⟩|⟨-,q⟩
  ·rw[acY] at q;cases q
  ·exact q
 have cells:=V7 (ep:=0) g1 g2 g3 g4 g5 g6;generalize hl:jZ [1,3] [5,6,7,8]=l at *
 have dG:l.length=2:=by rw[<-hl];rfl
 obtain⟨p0,p1,hz⟩:∃p0 p1,oY R4 O4 [1000,77] [1,3] [5,6,7,8] l nU=[p0,p1]:=⟨_,_,rfl⟩;have pJ:w9 R4 O4 [1000,77] [1,3] [5,6,7,8] l nU 1=p1:=by have:=Se (ae:=R4) (ag:=O4) (s:=[1000,77]) (N:=[5,6,7,8]) (l:=l) (text:=nU) (au:=[1,3]) (i:=1) aZ;rw[hz] at this;exact this.symm
 have qP:okF p1:=by rw[<-pJ];exact aaO 1
 have db:(cO [1000,77]).length<=1000000:=by decide
 obtain⟨H1,iq⟩:∃H1,H6.push (gL 0 X2 Y2 C2 T2 L2 Z2)=H1:=⟨_,rfl⟩;have s1:cE aq (H6.push (gL 0 nl nl nl nl nl nl)) 66 (.ptr (.box H6.boxes.length) 0) (.agg (gL 0 X2 Y2 C2 T2 L2 Z2))=aa H1:=by rw[<-iq];exact lq cells TG rfl rfl
 have t1:H1.boxes[H6.boxes.length]?=aa (gL 0 X2 Y2 C2 T2 L2 Z2):=by rw[<-iq];exact bg _ _
 have e1:Ext h H1:=by rw[<-iq];exact x6.trans (.push _ _)
 generalize hb:H6.boxes.length=b at *
 have l1:=A1 t1;obtain⟨_,H2,k2,e2,rfl⟩:=O7 H1 0 X2 Y2 C2 T2 L2 Z2 R4 O4 (cO [1000,77]) nU l _ g1 g2 g3 g4 g5 db ai aZ (.inl g6) (by rw[hz];simp);rw[cr.comb] at k2;have hv:=cr.MZ;rw[hz] at k2 hv g6;generalize uy:((ek (al (cO [1000,77]) 0) nU l:Nat):Int)=ch at *
 generalize Ly:([p0,p1]:List Int).foldl dj 0=sm at *
 obtain⟨H3,qL⟩:∃H3,H2.push [im ch,im sm]=H3:=⟨_,rfl⟩;have s2:=TA (H:=H2) ch sm;rw[qL] at s2;have t2:=e2.box _ _ t1;have l2:=A1 t2;have e3:Ext H2 H3:=by rw[<-qL];exact .push _ _
 have t3:=e3.box _ _ t2;have l3:=A1 t3;have u3:H3.boxes[H2.boxes.length]?=aa [im ch,im sm]:=by rw[<-qL];exact bg _ _
 have E3:=(e1.trans e2).trans e3;obtain⟨_,H4,k4,e4,B4,rfl,PF⟩:=Ky H3 (E3.ok bB) 0 X2 Y2 C2 T2 L2 Z2 R4 O4 (cO [1000,77]) nU l _ g1 g2 g3 g4 g5 db ai (.inl g6) bJ;rw[<-hz,cr.agL] at k4 PF;have t4:=e4.box _ _ t3;have l4:=A1 t4;have E4:=E3.trans e4;obtain⟨_,H5b,k5,e5,B5,rfl,PG⟩:=Ky H4 (E4.ok bB) 0 X2 Y2 C2 T2 L2 (.list .tight 1 (ints [p0,(p1+1)%1073741789])) R4 O4 (cO [1000,77]) nU l _ g1 g2 g3 g4 g5 db ai (.inl (Dy _)) bJ;have Fv:=(cr.agM (i:=1) (v:=(p1+1)%1073741789) aZ ⟨Int.emod_nonneg _ aZ,Int.emod_lt_of_pos _ aZ⟩ (by rw[pJ];obtain⟨q1,q2⟩:=qP;have:Qi=1073741789:=rfl;omega)).1;rw[hz] at Fv;change nb R4 O4 0 (cO [1000,77]) nU l [p0,(p1+1)%1073741789]=([3],0) at Fv;rw[Fv] at k5 PG;have t5:=e5.box _ _ t4;have l5:=A1 t5;have E5:=E4.trans e5;have hn:oM R4 O4 0 (cO [1000,77]) nU [] []=((0,0),aB,420):=by unfold oM;rw[af8 cr,aH aZ]
 obtain⟨_,H7,k7,e7,rfl⟩:=O7 H5b 0 X2 Y2 C2 T2 nl nl R4 O4 (cO [1000,77]) nU [] [] g1 g2 g3 g4 ⟨_,_,rfl,λq=>absurd rfl q⟩ db aZ aZ (.inl ⟨_,_,rfl,λq=>absurd rfl q⟩) aZ;rw[hn] at k7;obtain⟨H8,XN⟩:∃H8,H7.push [im 0,im 0]=H8:=⟨_,rfl⟩;have s8:=TA (H:=H7) 0 0;rw[XN] at s8;have e8:Ext H7 H8:=by rw[<-XN];exact .push _ _
 have t8:=e8.box _ _ (e7.box _ _ t5);have l8:=A1 t8;have E8:=(E5.trans e7).trans e8;have Dt:jX l []=aB:=by unfold jX;rw[dG];rfl
 obtain⟨_,H9,k9,e9,rfl⟩:=O7 H8 0 X2 Y2 C2 T2 L2 nl R4 O4 (cO [1000,77]) nU l [] g1 g2 g3 g4 g5 db ai aZ (.inl ⟨_,_,rfl,λq=>absurd rfl q⟩) aZ;rw[cr.aij Dt] at k9;obtain⟨Ha,XP⟩:∃Ha,H9.push [im 0,im 0]=Ha:=⟨_,rfl⟩;have sa:=TA (H:=H9) 0 0;rw[XP] at sa;have ea:Ext H9 Ha:=by rw[<-XP];exact .push _ _
 have ta:=ea.box _ _ (e9.box _ _ t8);have la:=A1 ta;have Ea:=(E8.trans e9).trans ea;have ZF:jX l [0,1073741789]=aB:=by unfold jX;rw[dG];rfl
 obtain⟨_,Hb,kb,eb,Bb,rfl,XJ⟩:=Ky Ha (Ea.ok bB) 0 X2 Y2 C2 T2 L2 (.list .tight 1 (ints [0,1073741789])) R4 O4 (cO [1000,77]) nU l _ g1 g2 g3 g4 g5 db ai (.inl (Dy _)) bJ;rw[cr.agJ ZF] at kb XJ;have tb:=eb.box _ _ ta;have lb:=A1 tb;have ub:=(((((e4.trans e5).trans e7).trans e8).trans e9).trans ea).trans eb;have lS:=IQ (ub.box _ _ u3);have vf:=ac3 (al (cO [1000,77]) 0) ch sm T2 nU g4 aZ;rw[hv] at vf;have sm7:=ab2 B5 (.list .tight 1 (ints [3])) [3] [3] PG (Dy _) aZ aZ;rw[b8 rfl] at sm7;have ixC:dS aq 23 C2 (.v (.int .i64 0))=aa (.elem 1 (ints (cO [1000,77])) 0 0):=g3.ix (i:=0) aZ;have ldC:∀K:ar,aI aq Gt K 3 (.elem 1 (ints (cO [1000,77])) 0 0)=aa (.v (.int .i64 (al (cO [1000,77]) 0))):=λK=>ev aZ;have ixA:dS aq 23 Z2 (.v (.int .i64 0))=aa (.elem 1 (ints [p0,p1]) 0 0):=g6.ix (i:=0) bJ;have ixB:dS aq 23 Z2 (.v (.int .i64 1))=aa (.elem 1 (ints [p0,p1]) 1 0):=g6.ix (i:=1) bJ;have ldA:∀K:ar,aI aq Gt K 3 (.elem 1 (ints [p0,p1]) 0 0)=aa (.v (.int .i64 p0)):=λK=>ev bJ;have ldB:∀K:ar,aI aq Gt K 3 (.elem 1 (ints [p0,p1]) 1 0)=aa (.v (.int .i64 p1)):=λK=>ev bJ;have lnZ:dQ aq 23 Z2=aa (.v (.int .i64 2)):=g6.dQ;have lnB:dQ aq 23 B4=aa (.v (.int .i64 0)):=PF.dQ;have wr:IntKind.i64.wrap (p1+1)=p1+1:=by obtain⟨q1,q2⟩:=qP;have:Qi=1073741789:=rfl;exact gh ai ai
 have tm:(p1+1).tmod 1073741789=(p1+1)%1073741789:=Int.tmod_eq_emod_of_nonneg (by obtain⟨q1,q2⟩:=qP;omega);have bw:=Hu p0 ((p1+1)%1073741789);have OR:=Hu 0 1073741789;have kx:=ao.mk (Ea.trans eb);have zc:=adb;have zg:=ada;have g0:=blP;clear cr x1 x2 y1 y2 g1 g2 g3 g4 g5 g6 cells hl hz pJ qP db iq t1 e1 hv uy Ly qL t2 e3 t3 u3 E3 e2 e4 t4 E4 e5 t5 E5 Fv PF PG hn e7 e8 t8 E8 Dt e9 ea ta Ea ZF eb tb ub XJ x6 ok6 f3 dG bB;generalize al (cO [1000,77]) 0=key at *
 generalize ints (cO [1000,77])=ic at *
 generalize (p1+1)%1073741789=w1 at *
 generalize bf nU=tt at *
 unfold im at *
 refine di rfl Tryz.func31 rfl ?_;refine bK @S0 @VB @agB (az @Hu (az @CC @hb)) ?_;refine eJ AW aw ?_;refine cX @S0 @Hu @CC ?_;refine eJ AW aw ?_;refine bK @S0 @VB @CC @il ?_;exact⟨_,_,rfl,kx.out,rfl⟩
end Go.Proofs.YtnfciiiohoafaaaGreatDoor
end
section
namespace Go.Proofs.YtnfciiiohoafaaaGreatDoor
open Go.AE Go.NT
end Go.Proofs.YtnfciiiohoafaaaGreatDoor
end
section
namespace Go.Proofs.YtnfciiiohoafaaaGreatDoor
open Go.AE Go.NT
section
variable (R:Rec)
def NL:Prop:=∀key e s T text,BL T text->text.length<=1000000->∀h,R.call 39 [im key,T,.agg [im e,im s]] h=aa (.ret (.v (.bool (sW key text e s))),h)
def BX:Prop:=∀h,R.call 31 [] h=aa (.ret (.v (.bool ah)),h)
def NF:Prop:=∀ep X Y C T L Z ae ag aj text l z,nX X Y C T L ae ag aj text l->IL Z z->aj.length<=1000000->l.length<=1000000->text.length<=1000000->z.length<=1000000->
 ∀h,R.call 33 [.agg (aN ep X Y C),T,L,Z] h=aa (.ret (.tuple [.agg [im (oM ae ag ep aj text l z).1.1,im (oM ae ag ep aj text l z).1.2],.v (.bool (oM ae ag ep aj text l z).2.1),im (oM ae ag ep aj text l z).2.2]),h)
end
section
variable {R:Rec} {L:List bq}
def NL.up(hg:L.contains 39=ah)(c:NL R):NL (up R L):=λkey e s T text ht hl=>by obtain⟨h1,h2⟩:=ht.fD;exact bm (b7:=[im key,aD T,.agg [im e,im s]]) hg rfl (by simp[im,aR,aK,h2]) (c key e s _ text h1 hl _) rfl rfl
def BX.up(hg:L.contains 31=ah)(c:BX R):BX (up R L):=bm hg rfl rfl (c _) rfl rfl
def NF.up(hg:L.contains 33=ah)(c:NF R):NF (up R L):=λep X Y C T L' Z ae ag aj text l z g hz q1 q2 q3 q4=>by obtain⟨g2,f1,f2,f3,f4,f5⟩:=g.hold;obtain⟨h1,h2⟩:=hz.hold;exact bm (b7:=[.agg (aN ep (aD X) (aD Y) (aD C)),aD T,aD L',aD Z]) hg rfl (by simp[aN,aR,aK,f1,f2,f3,f4,f5,h2]) (c ep _ _ _ _ _ _ ae ag aj text l z g2 h1 q1 q2 q3 q4 _) rfl rfl
end
def aiP:BX W8:=by obtain⟨r,h',c,-,rfl⟩:=atS ⟨[],[],0,[]⟩ rfl;exact bm (L:=L8) rfl rfl rfl c rfl rfl
def aiN:BX qE:=(aiP.up (L:=L9) rfl).up (L:=tZ) rfl
def AI:List bq:=tZ++[23,89,32]
noncomputable def Sq:bq->Option (List AV->ar->Option (AV × ar)):=qG qE AI
noncomputable abbrev zh:=whole aq Gt Sq
def VT:qu Sq AI:=xU
def Aw(R:Rec):Prop:=∀ep X Y C T L Z ae ag aj text l z,nX X Y C T L ae ag aj text l->IL Z z->aj.length<=1000000->l.length<=1000000->z.length<=1000000->
 ∃B,IL B (nb ae ag ep aj text l z).1/\∀h,R.call 35 [.agg (aN ep X Y C),T,L,Z] h=aa (.ret (.tuple [B,im (nb ae ag ep aj text l z).2]),h)
def Aw.up{R:Rec}{L:List bq}(hg:L.contains 35=ah)(c:Aw R):Aw (up R L):=λep X Y C T L' Z ae ag aj text l z g hz q1 q2 q3=>by obtain⟨g2,f1,f2,f3,f4,f5⟩:=g.hold;obtain⟨h1,h2⟩:=hz.hold;obtain⟨B,hB,c⟩:=c ep _ _ _ _ _ _ ae ag aj text l z g2 h1 q1 q2 q3;obtain⟨h3,h4⟩:=hB.Dx ⟨[],[],0,[]⟩;exact⟨_,h3,bm (b7:=[.agg (aN ep (aD X) (aD Y) (aD C)),aD T,aD L',aD Z]) hg rfl (by simp[aN,aR,aK,f1,f2,f3,f4,f5,h2]) (c _) rfl (by simp[aK,aR,h4,im])⟩
def ahC:Aw W8:=λep X Y C T L' Z ae ag aj text l z g hz q1 q2 q3=>by obtain⟨g2,f1,f2,f3,f4,f5⟩:=g.hold;obtain⟨h1,h2⟩:=hz.hold;obtain⟨r,h',c,-,B,rfl,hB⟩:=Ky ⟨[],[],0,[]⟩ rfl ep _ _ _ _ _ _ ae ag aj text l z g2.x g2.y g2.c g2.t g2.p q1 q2 (.inl h1) q3;obtain⟨h3,h4⟩:=hB.Dx h';exact⟨_,h3,bm (L:=L8) (b7:=[.agg (aN ep (aD X) (aD Y) (aD C)),aD T,aD L',aD Z]) rfl rfl (by simp[aN,aR,aK,f1,f2,f3,f4,f5,h2]) c rfl (by simp[aK,aR,h4,im])⟩
def ahB:Aw zh:=Aw.up (L:=AI) rfl (Aw.up (L:=tZ) rfl (Aw.up (L:=L9) rfl ahC))
def aiO:BX zh:=aiN.up (L:=AI) rfl
def aiM:AF zh 37:=AF.up (L:=AI) rfl (AF.up (L:=tZ) rfl (AF.up (L:=L9) rfl (AF.up (R:=W7) (L:=L8) rfl λx y a b hx hy h1 h2=>ab2 x y a b hx hy h1 h2)))
section
variable (ep:Int) (X Y C T L Z:AV) (ae:List (List Int)) (ag aj:List Int) (text:List UInt8) (l:List Pr) (z:List Int) (g:nX X Y C T L ae ag aj text l)
include g
def ahO(aA v:Int)(cU:ae.length<=1000000)(oP:ag.length<=1000000)(db:aj.length<=1000000)(dG:l.length<=1000000):∀h,zh.call 23 [.agg (aN ep X Y C),T,L,im aA,im v] h=aa (.ret (.tuple [.v (.bool (ki ae ag ep aj text l aA v).1),im (ki ae ag ep aj text l aA v).2]),h):=by obtain⟨g2,f1,f2,f3,f4,f5⟩:=g.hold;obtain⟨r,h',c,-,rfl⟩:=ajP ⟨[],[],0,[]⟩ ep _ _ _ _ _ ae ag aj text l aA v g2 cU oP db dG;exact bm (L:=AI) (b7:=[.agg (aN ep (aD X) (aD Y) (aD C)),aD T,aD L,im aA,im v]) rfl rfl (by simp[aN,im,aR,aK,f1,f2,f3,f4,f5]) c rfl rfl
def ahK(hz:IL Z z)(cU:ae.length<=1000000)(db:aj.length<=1000000)(dG:l.length<=1000000)(mo:z.length<=1000000):∀h,zh.call 89 [.agg (aN ep X Y C),T,L,Z] h=aa (.ret (im (xZ ae ag ep aj text l z)),h):=by obtain⟨g2,f1,f2,f3,f4,f5⟩:=g.hold;obtain⟨h1,h2⟩:=hz.hold;obtain⟨r,h',c,-,rfl⟩:=ajy ⟨[],[],0,[]⟩ ep _ _ _ _ _ _ ae ag aj text l z g2 h1 cU db dG mo;exact bm (L:=AI) (b7:=[.agg (aN ep (aD X) (aD Y) (aD C)),aD T,aD L,aD Z]) rfl rfl (by simp[aN,aR,aK,f1,f2,f3,f4,f5,h2]) c rfl rfl
def ahM(hz:IL Z z):∃b,(b=ah->ae.length<=80/\ag.length<=80/\aj.length<=80/\text.length<=70000/\l.length<=80/\z.length<=80)/\∀h,zh.call 32 [.agg (aN ep X Y C),T,L,Z] h=aa (.ret (.v (.bool b)),h):=by obtain⟨g2,f1,f2,f3,f4,f5⟩:=g.hold;obtain⟨h1,h2⟩:=hz.hold;obtain⟨r,h',c,-,b,rfl,hb⟩:=ajG ⟨[],[],0,[]⟩ ep _ _ _ _ _ _ ae ag aj text l z g2 h1;exact⟨b,hb,bm (L:=AI) (b7:=[.agg (aN ep (aD X) (aD Y) (aD C)),aD T,aD L,aD Z]) rfl rfl (by simp[aN,aR,aK,f1,f2,f3,f4,f5,h2]) c rfl rfl⟩
end
def agK{ae:List (List Int)}{ag:List Int}{ep:Int}{aj:List Int}{text:List UInt8}{l:List Pr}{z:List Int}:(nb ae ag ep aj text l z).1.length<=l.length:=by
 unfold nb;split
 ·exact cD _
 split
 ·exact cD _
 ·exact OH _ _ _ _ _ _ _ _
def DR:Tryz.f36.results.toList=[.tmp 8,.tmp 9]:=by kernel_rfl
def rs9:Tryz.f9.results.toList=[.tmp 8]:=by kernel_rfl
def agI(h:ar)(bB:cK h=ah)(ep:Int)(X Y C T L Z:AV)(ae:List (List Int))(ag aj:List Int)(text:List UInt8)(l:List Pr)(z:List Int)(g:nX X Y C T L ae ag aj text l)(hz:IL Z z)(cU:ae.length<=1000000)(oP:ag.length<=1000000)(db:aj.length<=1000000)(dG:l.length<=1000000)(mo:z.length<=1000000):
 ∃r h',zh.call 36 [.agg (aN ep X Y C),T,L,Z] h=aa (r,h')/\Ext h h'/\∃B,r=.ret (.tuple [B,im (nb ae ag ep aj text l z).2])/\IL B (nb ae ag ep aj text l z).1:=by
 have bx:=g.cells ep;have c1:=ahK ep X Y C T L Z ae ag aj text l z g hz cU db dG mo;have b0:=bg h (aN ep X Y C);have l0:=zZ b0 rfl;have lp:=g.p.dQ;have kX:=ao.mk (Ext.push h (aN ep X Y C));have kok:ao (cK (h.push (aN ep X Y C))=ah):=⟨bB⟩;have kB:=ao.mk b0;obtain⟨H0,hH⟩:∃H0,h.push (aN ep X Y C)=H0:=⟨_,rfl⟩;rw[hH] at l0 kX kok kB;clear b0;refine di rfl Tryz.func36 rfl ?_;by_cases he:xZ ae ag ep aj text l z=0;rotate_left 1
 ·have kr:ao (nb ae ag ep aj text l z=([],xZ ae ag ep aj text l z)):=⟨by unfold nb;unfold xZ at he ⊢;by_cases hb:cP ae ag ep aj text l=0<;>cases hk:jX l z<;>simp_all⟩;have bE:decide (xZ ae ag ep aj text l z=0)=aB:=cS he;generalize xZ ae ag ep aj text l z=be at *
  clear g hz kok kB he;generalize aN ep X Y C=K at *
  unfold im at c1
  repeat' (first|simp(maxSteps:=999999)(disch:=first|exact dZ|fail)only[gW,reduceIte,aS,aO,DR,bu,hH, *]|refine dX ?_ ?_<;>(intro _;try omega))
  refine⟨_,_,rfl,kX.out,.list .nil 0 [],?_,?_⟩<;>rw[kr.out]
  ·rfl
  ·exact⟨_,_,rfl,λq=>absurd rfl q⟩
 obtain⟨kr,bR⟩:ao (nb ae ag ep aj text l z=(nG ae ag ep aj text l z l.length,0))/\z.length=l.length:=by
  unfold xZ at he;by_cases hb:cP ae ag ep aj text l=0<;>cases hk:jX l z
  ·simp_all
  ·exact⟨⟨by unfold nb;simp_all⟩,(DL.1 hk).1⟩
  ·simp_all
  ·simp_all
 rw[he] at c1;have cf:=λaA v=>ahO ep X Y C T L ae ag aj text l g aA v cU oP db dG;have gT:=g.t;obtain⟨kp,sp,rfl,mb⟩:=g.p;obtain⟨kz,sz,rfl,dP⟩:=hz;have ks:=ao.mk (az mb dP);have kcf:=ao.mk cf;have kln:=ao.mk bR;have u23:=dY;have u29:=wg;have z3:=fR;have z85:=sT;have cY:=dE z;have vw:=vK l;clear g gT cf mb dP he bR;unfold im at c1
 repeat' (first|simp(maxSteps:=999999)(disch:=first|exact dZ|fail)only[gW,reduceIte,aS,aO,DR,bu,hH, *]|refine dX ?_ ?_<;>(intro _;try omega))
 refine bM.gen λe0 aG bE cZ cV=>?_;have f1:e0.get 1=T:=by rw[aG];exact gS
 have f2:e0.get 2=.list kp sp (eY l):=by rw[aG];exact gS
 have f3:e0.get 3=.list kz sz (ints z):=by rw[aG];exact gS
 have f4:e0.get 4=.ptr (.box h.boxes.length) 0:=by rw[aG];exact gS
 have f11:e0.get 11=.list .nil 0 (ints (nG ae ag ep aj text l z 0)):=by rw[aG];exact gR
 have f12:e0.get 12=.v (.int .i64 (0:Nat)):=by rw[aG];exact gR
 have fd:e0.defers=[]:=by rw[bE];exact gS
 clear aG bE cZ cV bx hH c1 l0;refine cH (λm e H=>∃(i:Nat) (t:Tok) (s:Nat),i<=l.length/\m=l.length - i/\ao (Ext h H/\cK H=ah/\du h.tn H t/\H.boxes[h.boxes.length]?=aa (aN ep X Y C)/\(s=1∨(nG ae ag ep aj text l z i=[]/\t=.nil)))/\e.get 1=T/\e.get 2=.list kp sp (eY l)/\e.get 3=.list kz sz (ints z)/\e.get 4=.ptr (.box h.boxes.length) 0/\e.get 11=.list t s (ints (nG ae ag ep aj text l z i))/\e.get 12=.v (.int .i64 (i:Nat))/\e.defers=[]) ?_ l.length _ _ ?_;rotate_left 1
 ·exact⟨0,.nil,0,cD _,rfl,⟨kX.out,kok.out,.inl rfl,kB.out,.inr ⟨rfl,rfl⟩⟩,f1,f2,f3,f4,f11,f12,fd⟩
 clear f1 f2 f3 f4 f11 f12 fd kX kok kB;rintro m e H ⟨i,t,s,hi,rfl,kM,g1,g2,g3,g4,g11,g12,hd⟩;by_cases aC:i<l.length;rotate_left 1
 ·have:i=l.length:=by omega
  subst this
  repeat' (first|simp(maxSteps:=999999)(disch:=first|exact dZ|fail)only[gW,reduceIte,aS,aO,DR, *]|refine dX ?_ ?_<;>(intro _;try omega))
  refine⟨_,_,rfl,kM.out.1,.list t s (ints (nG ae ag ep aj text l z l.length)),?_,?_⟩<;>rw[kr.out]
  ·rfl
  ·exact⟨_,_,rfl,λq=>kM.out.2.2.2.2.resolve_right λr=>q r.1⟩
 have hs4:sp=4:=ks.out.1 (by intro q;rw[q] at aC;simp at aC);have bD:sz=1:=ks.out.2 (by intro q;have:=kln.out;rw[q] at this;simp at this;omega);subst hs4;subst bD;obtain⟨p,hp⟩:∃p,l[i]?=aa p:=⟨_,aU aC⟩;obtain⟨ld0,-⟩:=BA (s:=4) hp;have fw:(i:Int)<(l.length:Int):=by omega
 have axv:(i:Int)<(z.length:Int):=by have:=kln.out;omega
 have lz:=λH=>ev (H:=H) (l:=z) (i:=i) (s:=1) ai;have l0:=zZ kM.out.2.2.2.1 rfl;have cf:=kcf.out p.aA (al z i);have bT:=OI ae ag ep aj text l z i;have nk:xP ae ag ep aj text l z i=if (ki ae ag ep aj text l p.aA (al z i)).1 then [] else [p.aA]:=by unfold xP;rw[Rr hp]
 have YN:=OH ae ag ep aj text l z i;generalize (ki ae ag ep aj text l p.aA (al z i)).2=er at *
 generalize (ki ae ag ep aj text l p.aA (al z i)).1=ok at *
 generalize al z i=v at *
 clear hp kcf;cases ok with
 |true=>
  have e1:nG ae ag ep aj text l z (i+1)=nG ae ag ep aj text l z i:=by rw[bT,nk];simp
  have kM2:ao (Ext h H/\cK H=ah/\du h.tn H t/\H.boxes[h.boxes.length]?=aa (aN ep X Y C)/\(s=1∨(nG ae ag ep aj text l z (i+1)=[]/\t=.nil))):=⟨by rw[e1];exact kM.out⟩;rw[<-e1] at g11;clear bT nk e1 YN kM kr;unfold im at *
  repeat' (first|simp(maxSteps:=999999)(disch:=first|exact dZ|fail)only[gW,reduceIte,aS,aO,DR,bp,oc, *]|refine dX ?_ ?_<;>(intro _;try omega))
  repeat' (first|simp(maxSteps:=999999)(disch:=first|exact dZ|fail)only[gW,reduceIte,aS,aO,DR,bp,oc, *]|(refine dX ?_ ?_<;>(intro _;try omega))|refine eJ VT jr ?_)
  exact⟨l.length - (i+1),by omega,i+1,t,s,by omega,rfl,(by first|exact kM2|trivial),by simp⟩
 |false=>
  have e1:nG ae ag ep aj text l z (i+1)=nG ae ag ep aj text l z i++[p.aA]:=by rw[bT,nk];simp
  have bl:=pq p.aA;have ap:=tf (H:=H) (x:=p.aA) (es:=nG ae ag ep aj text l z i) (sz:=s) ai kM.out.2.2.2.2 kM.out.2.2.1;rw[<-e1] at ap;have hG:=Grown.one kM.out.2.2.1 kM.out.2.1 kM.out.1.tn;have kM2:ao (Ext h (H.app t)/\cK (H.app t)=ah/\du h.tn (H.app t) (.free H.tn)/\(H.app t).boxes[h.boxes.length]?=aa (aN ep X Y C)/\(1=1∨(nG ae ag ep aj text l z (i+1)=[]/\Tok.free H.tn=.nil))):=⟨hG.ext kM.out.1 (aL _),hG.ok,hG.can,by rw[eC];exact kM.out.2.2.2.1,.inl rfl⟩;clear bT nk e1 YN kM kr hG;generalize p.aA=kk at *
  unfold im at *
  repeat' (first|simp(maxSteps:=999999)(disch:=first|exact dZ|fail)only[gW,reduceIte,aS,aO,DR,bp,oc, *]|refine dX ?_ ?_<;>(intro _;try omega))
  repeat' (first|simp(maxSteps:=999999)(disch:=first|exact dZ|fail)only[gW,reduceIte,aS,aO,DR,bp,oc, *]|(refine dX ?_ ?_<;>(intro _;try omega))|refine eJ VT jr ?_)
  exact⟨l.length - (i+1),by omega,i+1,.free H.tn,1,by omega,rfl,(by first|exact kM2|trivial),by simp⟩
def amO(h:ar)(bB:cK h=ah)(ep:Int)(X Y C T L Z:AV)(ae:List (List Int))(ag aj:List Int)(text:List UInt8)(l:List Pr)(z:List Int)(g:nX X Y C T L ae ag aj text l)(hz:IL Z z):
 ∃r h',zh.call 9 [.agg (aN ep X Y C),T,L,Z] h=aa (r,h')/\r=.ret (.v (.bool ah)):=by
 have bx:=g.cells ep;have cs:=aiO;unfold BX at cs;have b0:=bg h (aN ep X Y C);have l0:=zZ b0 rfl;obtain⟨b,hb,cf⟩:=ahM ep X Y C T L Z ae ag aj text l z g hz;refine di rfl Tryz.func9 rfl ?_;cases b with
 |false=>
  clear g hz hb b0;obtain⟨H0,hH⟩:∃H0,h.push (aN ep X Y C)=H0:=⟨_,rfl⟩;rw[hH] at l0;generalize aN ep X Y C=K at *
  repeat' (first|simp(maxSteps:=999999)(disch:=first|exact dZ|fail)only[gW,reduceIte,aS,aO,rs9,bu,hH, *]|refine dX ?_ ?_<;>(intro _;try omega))
  exact⟨_,_,rfl,rfl⟩
 |true=>
 obtain⟨b1,b2,b3,b4,b5,b6⟩:=hb rfl;obtain⟨B,hB,c35⟩:=ahB ep X Y C T L Z ae ag aj text l z g hz ai ai ai;obtain⟨_,H2,c36,-,B2,rfl,XC⟩:=agI (h.push (aN ep X Y C)) bB ep X Y C T L Z ae ag aj text l z g hz ai ai ai ai ai;have jE:=@agK ae ag ep aj text l z;have sm:=aiM B B2 _ _ hB XC ai ai;rw[b8 rfl] at sm;clear g hz hb b0 jE hB XC b1 b2 b3 b4 b5 b6;generalize (nb ae ag ep aj text l z).2=er at *
 obtain⟨H0,hH⟩:∃H0,h.push (aN ep X Y C)=H0:=⟨_,rfl⟩;rw[hH] at l0 c36;generalize aN ep X Y C=K at *
 have u4:=Tryz.underlying4;unfold im at *
 repeat' (first|simp(maxSteps:=999999)(disch:=first|exact dZ|fail)only[gW,reduceIte,aS,aO,rs9,bu,hH,aga, *]|refine dX ?_ ?_<;>(intro _;try omega))
 exact⟨_,_,rfl,by simp⟩
end Go.Proofs.YtnfciiiohoafaaaGreatDoor
end
section
namespace Go.Proofs.YtnfciiiohoafaaaGreatDoor
open Go.AE Go.NT Go.RowKit
def atZ:ownKnob aq.godebug=none:=aw
def atX:(aq.funcs.all λfn=>match fn.body with|some c=>codeOk fn.ntmps c|none=>ah)=ah:=aw
def atY : (aq.funcs.all λfn => !(fn.name == "runtime.NumGoroutine")) = ah := aw
def vT:Prog aq:=⟨λg fn h=>by
 have:=Ny.1 atY fn (adj h);simpa using this,aw,λg fn c h hb=>by
 have:=Ny.1 atX fn (adj h);simpa [hb] using this⟩
def wE:∀g cs,Gt g=aa cs->aR 0 0 0 cs=ah:=by
 intro g cs h;unfold Gt at h;split at h
 ·injection h with h;subst h;kernel_rfl
 ·split at h
  ·injection h with h;subst h;kernel_rfl
  ·split at h
   ·injection h with h;subst h;rfl
   ·cases h
noncomputable def agT(L:List bq):Bool:=L.all λg=>match aq.funcs[g]? with|some fn=>fn.body.isSome|none=>aB
def uh{L}(h:agT L=ah):∀g∈L,∃fn,aq.funcs[g]?=aa fn/\fn.body.isSome=ah:=by
 intro g hg;have:=eK.1 h g hg;split at this
 ·rename_i fn hf;exact⟨fn,hf,this⟩
 ·cases this
def vg(p:bq->Option (List AV->ar->Option (AV × ar))):Prop:=∀V g q,p g=aa q->ue aq Gt V g q
def apf:vg aQ:=λV g q h=>by cases h
def apg:vg So:=xT vT wE apf (uh aw)
def api:vg Sr:=xT vT wE apg (uh aw)
def apj:vg Ss:=xT vT wE api (uh aw)
def apk:vg F7:=xT vT wE apj (uh aw)
def apl:vg F8:=anN vT wE apk (uh aw) (uh aw)
def apm:vg Su:=xT vT wE apl (uh aw)
def JI:List Int:=NT.start.map λv=>((v.toNat:Nat):Int)
def IZ:List Int:=NT.FP.map λ(n:Nat)=>(n:Int)
def acV{K}{l:List Int}:aV K (l.map λn=>AV.v (.int .u32 n)) (l.map λn=>Value.int .u32 n):=by
 induction l with
 |nil=>exact .nil|cons n l ih=>exact .cons _ _ _ _ (.v _ rfl) ih
def akE{W}(h:laidMetH aq Rows.partialSignsRow.laid W):∀g cs,Gt g=aa cs->∃cells,aV (a8.init W) cs cells/\∀(j:Nat) (c:aT),cells[j]?=aa c->W.cell? ⟨g,j,none⟩=aa c:=by
 rw[MakeChecks.laidMetH_plain _ _ _ aw] at h;have e1:(Lib.tabData .u32 JI:DataW Unit)=Rows.laid_signatory_digest_start:=aw;have e2:(Lib.tabData .u32 IZ:DataW Unit)=Rows.laid_signatory_digest_numbers:=aw;intro g cs hg;unfold Gt at hg;split at hg
 ·rename_i h0;injection hg with hg;subst hg;subst h0;have t := Lib.tabIs_of_head (n := 8) (g := 0) (t := 229) (e := 42) (zs := JI) (k := .u32) (name := "signatory/digest.start") aw aw aw aw aw aw (by rw [e1]; exact h);refine⟨JI.map λn=>Value.int .u32 n,?_,λj c hc=>?_⟩
  ·have:Tt=JI.map λn=>AV.v (.int .u32 n):=(by unfold Tt JI aX;rw[Ca];rfl);rw[this];exact acV
  ·rw[ey,dN] at hc;obtain⟨n,hn,rfl⟩:=hc;have hl:=(aW.1 hn).1;rw[t.cell aw j hl,eE,hn];rfl
 ·split at hg
  ·rename_i _ h0;injection hg with hg;subst hg;subst h0;have t := Lib.tabIs_of_head (n := 64) (g := 1) (t := 242) (e := 42) (zs := IZ) (k := .u32) (name := "signatory/digest.numbers") aw aw aw aw aw aw (by rw [e2]; exact h.tail);refine⟨IZ.map λn=>Value.int .u32 n,?_,λj c hc=>?_⟩
   ·have:IY=IZ.map λn=>AV.v (.int .u32 n):=(by unfold IY IZ;rw[Ca];rfl);rw[this];exact acV
   ·rw[ey,dN] at hc;obtain⟨n,hn,rfl⟩:=hc;have hl:=(aW.1 hn).1;rw[t.cell aw j hl,eE,hn];rfl
  ·split at hg
   ·injection hg with hg;subst hg;exact⟨[],.nil,λj c hc=>by simp at hc⟩
   ·cases hg
section
variable {H:Type}
def KB:aq.cellsOf 3=1:=aw
def cc5:aq.cellsOf 5=1:=aw
def ahD:aq.cellsOf 22=1:=aw
def O1:aq.cellsOf 23=1:=aw
def ahE:aq.cellsOf 25=2:=aw
def avn:DZ aq 25 [(22,0),(23,1)]=ah:=aw
def PQ{cs:List AV}{d:DataW H}(h:Has aq 23 cs d):∃x l,cs=[x]/\IL x l:=by
 obtain⟨k,es,rfl,hl,-,-,he⟩:=h.DX dY;obtain⟨l,rfl⟩:∃l:List Int,es=l.map yq:=Mu λr hr=>by obtain⟨-,d,hd⟩:=he r hr;obtain⟨n,hn,-⟩:=hd.zT AO;exact⟨n,hn⟩
 exact⟨_,l,rfl,k,_,rfl,λ_=>KB⟩
def akY{cs:List AV}{d:DataW H}(h:Has aq 22 cs d):∃x ae,cs=[x]/\RL x ae:=by
 obtain⟨k,es,rfl,hl,-,-,he⟩:=h.DX Tryz.underlying22;have hh:∀r∈es,∃x l,r=[x]/\IL x l:=λr hr=>by obtain⟨-,d,hd⟩:=he r hr;exact PQ hd
 clear hl he;have key:∀es:List (List AV),(∀r∈es,∃x l,r=[x]/\IL x l)->∃(xs:List AV) (ae:List (List Int)),es=xs.map (λa=>[a])/\xs.length=ae.length/\∀(i:Nat) (a:AV) (r:List Int),xs[i]?=aa a->ae[i]?=aa r->IL a r:=by
  intro es
  induction es with
  |nil=>intro _;exact⟨[],[],rfl,rfl,λi a r ha=>by simp at ha⟩|cons e es ih=>
   intro hh;obtain⟨x,l,rfl,hx⟩:=hh e gq;obtain⟨xs,ae,rfl,h1,h2⟩:=ih λr hr=>hh r (fM _ hr);refine⟨x::xs,l::ae,rfl,by simp[h1],λi a r ha hr=>?_⟩;cases i with|zero=>simp at ha hr;subst ha;subst hr;exact hx|succ i=>exact h2 i a r (by simpa using ha) (by simpa using hr)
 obtain⟨xs,ae,rfl,h1,h2⟩:=key es hh;exact⟨_,ae,rfl,k,_,xs,rfl,λ_=>O1,h1,h2⟩
def akU{x:AV}{d:DataW H}(h:mz aq 28 x d):∃l:List UInt8,BL x l:=by
 obtain⟨k,es,rfl,h2,-,-,h4⟩:=h.DX Tryz.underlying28;obtain⟨l,rfl⟩:=Mu (f:=lQ) λr hr=>by obtain⟨-,d,h5⟩:=h4 r hr;exact h5.TO aw
 exact⟨l,k,_,rfl,λ_=>cc5⟩
end
def apn:vg Mi:=xT vT wE apm (uh aw)
def apo:vg Sv:=xT vT wE apn (uh aw)
def apq:vg Sw:=xT vT wE apo (uh aw)
def aph:vg Sp:=xT vT wE apq (uh aw)
section
variable {H:Type}
def ahF:aq.cellsOf 27=4:=aw
def V4:aq.cellsOf 85=4:=aw
def avo:DZ aq 27 [(3,0),(25,1),(23,3)]=ah:=aw
def avp:DZ aq 85 [(3,0),(3,1),(3,2),(3,3)]=ah:=aw
def RD{l:List AV}(h:l.length=4):∃a b c d,l=[a,b,c,d]:=by
 match l,h with
 | [a,b,c,d],_=>exact⟨a,b,c,d,rfl⟩
def akW{x:AV}{d:DataW H}(h:mz aq 27 x d):∃ep X Y C ae ag aj,x=.agg (aN ep X Y C)/\RL X ae/\IL Y ag/\IL C aj:=by obtain⟨xs,rfl,hl,hg⟩:=h.fields avo;rw[ahF] at hl;obtain⟨a,b,c,e,rfl⟩:=RD hl;obtain⟨_,q0⟩:=hg 0 3 0 rfl;obtain⟨_,q1⟩:=hg 1 25 1 rfl;obtain⟨_,q2⟩:=hg 2 23 3 rfl;rw[KB] at q0;rw[ahE] at q1;rw[O1] at q2;obtain⟨kU,Fh⟩:=q1.fields avn;obtain⟨_,p0⟩:=Fh 0 22 0 rfl;obtain⟨_,p1⟩:=Fh 1 23 1 rfl;rw[ahD] at p0;rw[O1] at p1;obtain⟨n,e0,-⟩:=q0.zT AO;obtain⟨X,ae,e1,hx⟩:=akY p0;obtain⟨Y,ag,e2,hy⟩:=PQ p1;obtain⟨C,aj,e3,hc⟩:=PQ q2;simp at e0 e1 e2 e3;subst e0;subst e1;subst e2;subst e3;exact⟨n,_,_,_,ae,ag,aj,rfl,hx,hy,hc⟩
def akX{x:AV}{d:DataW H}(h:mz aq 29 x d):∃l,PL x l:=by
 obtain⟨k,es,rfl,hl,-,-,he⟩:=h.DX wg;obtain⟨l,rfl⟩:∃l:List Pr,es=l.map cq:=Mu λr hr=>by obtain⟨-,d,hd⟩:=he r hr;obtain⟨hl,hg⟩:=hd.fields avp;rw[V4] at hl;obtain⟨a,b,c,e,rfl⟩:=RD hl;obtain⟨_,q0⟩:=hg 0 3 0 rfl;obtain⟨_,q1⟩:=hg 1 3 1 rfl;obtain⟨_,q2⟩:=hg 2 3 2 rfl;obtain⟨_,q3⟩:=hg 3 3 3 rfl;rw[KB] at q0 q1 q2 q3;obtain⟨n0,e0,-⟩:=q0.zT AO;obtain⟨n1,e1,-⟩:=q1.zT AO;obtain⟨n2,e2,-⟩:=q2.zT AO;obtain⟨n3,e3,-⟩:=q3.zT AO;simp at e0 e1 e2 e3;subst e0;subst e1;subst e2;subst e3;exact⟨⟨n0,n1,n2,n3⟩,rfl⟩
 exact⟨l,k,_,rfl,λ_=>V4⟩
def ZU:List aP:=[3,4,5,22,23,25,27,28,29,36,81,85]
end
section
variable {H:Type}
def akV{x:AV}{d:DataW H}(h:mz aq 23 x d):∃l,IL x l/\l.length<=9223372036854775807:=by
 obtain⟨k,es,rfl,hl,-,-,he⟩:=h.DX dY;obtain⟨l,rfl⟩:∃l:List Int,es=l.map yq:=Mu λr hr=>by obtain⟨-,d,hd⟩:=he r hr;obtain⟨n,hn,-⟩:=hd.zT AO;exact⟨n,hn⟩
 refine⟨l,⟨k,_,rfl,λ_=>KB⟩,?_⟩;rw[List.length_map] at hl;exact fG hl aZ
end
end Go.Proofs.YtnfciiiohoafaaaGreatDoor
end
section
namespace Go.AE
open Go.RowKit Go.WideShapes Go.ChangeShapes
def I0(P:bL)(S:List aP)(t:aP):Bool:=
 match P.underlying t with
 |some .bool|some (.int _)|some .string=>ah
 |some (.slice e)=>S.contains e&&decide (0<P.cellsOf e)
 |some (.struct fs)=>D1 P 0 fs.toList (P.cellsOf t)&&fs.toList.all λf=>S.contains f.type
 |some (.array m e)=>Nat.beq (P.cellsOf t) (m * P.cellsOf e)&&S.contains e
 |_=>aB
def Ma(P:bL)(S:List aP):Bool:=S.all (I0 P S)
section
variable {H:Type} {enc:aP × aT->H} {P:bL} {W:World}
def av4{S:List aP}(hS:Ma P S=ah):∀(fuel:Nat) (t:aP) (cs:List aT) (x:DataW H × List MemPlace),DataW.trod enc P W 0 (λ_=>ah) ah fuel t cs=aa x->S.contains t=ah->
 ∃xs,aV (a8.init W) xs cs/\xs.all AV.eH=ah/\Has P t xs x.1:=by
 intro fuel
 induction fuel with
 |zero=>intro t cs x h;simp[DataW.trod] at h|succ fuel ih=>
  intro t cs x h iO;have bB:I0 P S t=ah:=eK.1 hS t (by simpa using iO);unfold I0 at bB;split at bB
  ·rename_i hu;obtain⟨b,rfl,rfl⟩:=DataW.trod_bool hu h;exact⟨_,.cons _ _ _ _ (.v _ rfl) .nil,rfl,.bool hu b⟩
  ·rename_i k hu;obtain⟨m,rfl,rfl,hw⟩:=DataW.trod_int hu h;exact⟨_,.cons _ _ _ _ (.v _ rfl) .nil,rfl,.int hu m hw⟩
  ·rename_i hu;obtain⟨s,rfl,rfl,hs⟩:=DataW.trod_string hu h;exact⟨_,.cons _ _ _ _ (.v _ rfl) .nil,rfl,.str hu s hs⟩
  ·rename_i e hu;rw[bI,decide_eq_true_eq] at bB;obtain⟨alX,jV⟩:=bB;rcases DataW.trod_slice hu h with⟨rfl,rfl⟩|⟨a,len,aF,elems,rest,m,hm,rfl,rfl,-,Qt,wL,Bi,alo,al7,-⟩
   ·exact⟨_,.cons _ _ _ _ (.nil _) .nil,rfl,.none hu⟩
   ·have hm:m=fuel:=(by omega);subst hm;obtain⟨cU,IC⟩:=al7 rfl;have elemAt:∀i,i<len->∃vs r y,W.cells? 0 (a.add (i * P.cellsOf e)) (P.cellsOf e)=aa vs/\elems[i]?=aa y/\aV (a8.init W) r vs/\r.all AV.eH=ah/\Has P e r y.1:=by
     intro i hi;have h1:=alo i hi;rw[aU (by omega:i<elems.length)] at h1;cases hc:W.cells? 0 (a.add (i * P.cellsOf e)) (P.cellsOf e) with
     |none=>rw[hc] at h1;cases h1
     |some vs=>rw[hc] at h1;obtain⟨r,g1,g2,g3⟩:=ih e vs _ h1 alX;exact⟨vs,r,_,rfl,aU _,g1,g2,g3⟩
    by_cases jM:aF=0
    ·have bR:len=0:=(by omega);subst jM;subst bR;have he:elems=[]:=List.eq_nil_of_length_eq_zero Bi;subst he;refine⟨[.list .tight (P.cellsOf e) []],.cons _ _ _ _ (.jH _ _) .nil,rfl,?_⟩;show Has P t _ (.slice [] (rest.map (·.1)));exact .list hu .tight [] [] (rest.map (·.1)) (.inr ⟨rfl,rfl⟩) (cD _) rfl bJ bJ
    ·-- the block is there
     have Zl:a.spot=none:=by
      have:∃vs,W.cells? 0 (a.add 0) (P.cellsOf e)=aa vs:=by
       rcases Nat.eq_zero_or_pos len with h0|h0
       ·have h1:=IC 0 ai;rw[aU (by omega:0<rest.length)] at h1;cases hc:W.cells? 0 (a.add ((len+0) * P.cellsOf e)) (P.cellsOf e) with
        |none=>rw[hc] at h1;cases h1
        |some vs=>rw[h0] at hc;exact⟨vs,by simpa using hc⟩
       ·obtain⟨vs,_,_,hc,_⟩:=elemAt 0 h0;exact⟨vs,by simpa using hc⟩
      obtain⟨vs,gy⟩:=this;obtain⟨hl,hg⟩:=V6 gy;have h0:=hg 0 jV;rw[aU (by omega:0<vs.length)] at h0;have:(a.add 0).add 0=a:=(by simp[Addr.add]);rw[this] at h0;exact auF h0
     obtain⟨g,off,sp⟩:=a;simp only at Zl;subst Zl;have ae:∀k,k<=len->∃es:List (List AV),es.length=k/\(∀r∈es,r.length=P.cellsOf e/\r.all AV.eH=ah)/\(∀(i:Nat) (r:List AV) (d:DataW H),es[i]?=aa r->(elems.map (·.1))[i]?=aa d->Has P e r d)/\
      ∃cells:List aT,cells.length=k * P.cellsOf e/\aV (a8.init W) es.flatten cells/\∀(j:Nat) (c:aT),cells[j]?=aa c->W.cell? ⟨g,off+j,none⟩=aa c:=by
      intro k
      induction k with
      |zero=>intro _;exact⟨[],rfl,by simp,by simp,[],by simp,.nil,by simp⟩|succ k ihk=>
       intro hk;obtain⟨es,e1,e2,e3,cells,c1,c2,c3⟩:=ihk ai;obtain⟨vs,r,y,hc,hy,g1,g2,g3⟩:=elemAt k ai;obtain⟨qR,hvg⟩:=V6 hc;refine⟨es++[r],by simp[e1],λr' gI=>?_,λi r' d hi hd=>?_,cells++vs,by simp[c1,qR,gZ],?_,λj c hj=>?_⟩
       ·rcases List.mem_append.1 gI with h1|h1
        ·exact e2 r' h1
        ·simp only[List.mem_singleton] at h1;subst h1;exact⟨by rw[g1.length,qR],g2⟩
       ·rcases tC hi with h1|⟨h1,rfl⟩
        ·exact e3 i r' d h1 hd
        ·rw[h1,e1,ey,hy] at hd;simp only[ft,eg] at hd;subst hd;exact g3
       ·rw[List.flatten_append];simpa using c2.append g1
       ·rcases ez j cells.length with h1|h1
        ·rw[List.getElem?_append_left h1] at hj;exact c3 j c hj
        ·rw[List.getElem?_append_right h1] at hj;have ov:j - cells.length<P.cellsOf e:=(by have:=(aW.1 hj).1;omega);have h2:=hvg _ ov;rw[hj,Addr.na,Addr.na] at h2;rw[(ai:off+j=off+k * P.cellsOf e+(j - cells.length))];exact h2
     obtain⟨es,e1,e2,e3,cells,c1,c2,c3⟩:=ae len (aL _);have eW:es.flatten.all AV.eH=ah:=(by rw[List.all_flatten];simp only[eK];intro r hr;have:=(e2 r hr).2;simpa using this);refine⟨[.list .held (P.cellsOf e) es],.cons _ _ _ _ (.list .held (P.cellsOf e) es g off len aF cells e1.symm (λr hr=>(e2 r hr).1) c2 c3 ⟨Qt,trivial⟩ eW) .nil,rfl,?_⟩;exact .list hu .held es (elems.map (·.1)) (rest.map (·.1)) (.inl rfl) ai (by simp[e1,Bi]) e3 (λr hr=>(e2 r hr).1)
  ·rename_i fs hu;rw[bI,eK] at bB;obtain⟨amc,eW⟩:=bB;obtain⟨ys,m,hm,rfl,db,zR,nk⟩:=DataW.trod_struct hu h;have hm:m=fuel:=(by omega);subst hm;have fld:∀(i:Nat) (f:Field),fs[i]?=aa f->∃r y,ys[i]?=aa y/\aV (a8.init W) r ((cs.drop f.offset).take (P.cellsOf f.type))/\r.all AV.eH=ah/\Has P f.type r y.1:=(by intro i f hf;have h1:=nk i f hf;have aC:i<ys.length:=(by rw[zR];exact(D7.1 hf).1);rw[aU aC] at h1;obtain⟨r,g1,g2,g3⟩:=ih f.type _ _ h1 (eW f (by obtain⟨hi,rfl⟩:=D7.1 hf;exact Array.mem_toList_iff.2 (Array.getElem_mem hi)));exact⟨r,_,aU aC,g1,g2,g3⟩);have build:∀(l:List Field) (i off:Nat),(∀j f,l[j]?=aa f->fs[i+j]?=aa f)->D1 P off l (P.cellsOf t)=ah->off<=cs.length->
    ∃xs,aV (a8.init W) xs (cs.drop off)/\xs.all AV.eH=ah/\∀j f,l[j]?=aa f->off<=f.offset/\∃r y,ys[i+j]?=aa y/\(xs.drop (f.offset - off)).take (P.cellsOf f.type)=r/\Has P f.type r y.1:=by
    intro l
    induction l with
    |nil=>intro i off _ ht _;have Bt:off=P.cellsOf t:=lD ht;refine⟨[],?_,rfl,λj f hj=>by simp at hj⟩;rw[Bt,<-db,List.drop_length];exact .nil|cons f l ihl=>
     intro i off hl ht eX;rw[D1,bI] at ht;have ho:f.offset=off:=lD ht.1;obtain⟨r,y,hy,g1,g2,g3⟩:=fld i f (by simpa using hl 0 f rfl);have Lk:off+P.cellsOf f.type<=cs.length:=by
      rw[db];have:∀(l:List Field) (o:Nat),D1 P o l (P.cellsOf t)=ah->o<=P.cellsOf t:=by
       intro l
       induction l with
       |nil=>intro o h;exact Nat.le_of_eq (lD h)|cons f l ih=>intro o h;rw[D1,bI] at h;exact fG (Nat.le_add_right _ _) (ih _ h.2)
      exact this l _ ht.2
     obtain⟨xs,x1,x2,x3⟩:=ihl (i+1) (off+P.cellsOf f.type) (λj f' hj=>by
      have:=hl (j+1) f' (by simpa using hj)
      rwa [(ai:i+(j+1)=i+1+j)] at this) ht.2 Lk
     rw[ho] at g1;have cU:r.length=P.cellsOf f.type:=(by rw[g1.length];simp;omega);refine⟨r++xs,?_,by rw[BZ,g2,x2];rfl,λj f' hj=>?_⟩
     ·have:=g1.append x1;rw[<-y5,List.take_append_drop] at this;exact this
     ·cases j with|zero=>simp only[List.getElem?_cons_zero,eg] at hj;subst hj;refine⟨ai,r,y,hy,?_,g3⟩;rw[ho,Nat.sub_self,jm,<-cU,List.take_left]|succ j=>obtain⟨eF,r',y',hy',gI,hh⟩:=x3 j f' (by simpa using hj);refine⟨ai,r',y',by rw[(ai:i+(j+1)=i+1+j)];exact hy',?_,hh⟩;rw[show f'.offset - off=r.length+(f'.offset - (off+P.cellsOf f.type)) by omega,<-y5,adQ];exact gI
   obtain⟨xs,x1,x2,x3⟩:=build fs.toList 0 0 (λj f hj=>by simpa using hj) amc (cD _);rw[jm] at x1;refine⟨xs,x1,x2,.struct hu xs (ys.map (·.1)) (by rw[x1.length,db]) (by simp[zR]) λi f d hf hd=>?_⟩;obtain⟨-,r,y,hy,hr,hh⟩:=x3 i f (by simpa using hf);rw[Nat.zero_add] at hy;rw[ey,hy] at hd;simp only[ft,eg] at hd;subst hd;rw[Nat.sub_zero] at hr;rw[hr];exact hh
  ·rename_i m e hu;rw[bI] at bB;have dP:P.cellsOf t=m * P.cellsOf e:=lD bB.1;obtain⟨ys,fu,YB,rfl,db,zR,nk⟩:=DataW.trod_array hu h;have YB:fu=fuel:=(by omega);subst YB;have ae:∀k,k<=m->∃xs,aV (a8.init W) xs (cs.take (k * P.cellsOf e))/\xs.all AV.eH=ah/\∀i,i<k->∃y,ys[i]?=aa y/\Has P e ((xs.drop (i * P.cellsOf e)).take (P.cellsOf e)) y.1:=by
    intro k
    induction k with
    |zero=>intro _;exact⟨[],by simp;exact .nil,rfl,λi hi=>absurd hi (Nat.not_lt_zero i)⟩
    |succ k ihk=>
     intro hk;obtain⟨xs,x1,x2,x3⟩:=ihk ai;have h1:=nk k ai;rw[aU (by omega:k<ys.length)] at h1;obtain⟨r,g1,g2,g3⟩:=ih e _ _ h1 bB.2;have bR:(k+1) * P.cellsOf e<=cs.length:=(by rw[db,dP];exact pg _ hk);have dR:xs.length=k * P.cellsOf e:=(by rw[x1.length,List.length_take];rw[gZ] at bR;omega);have cU:r.length=P.cellsOf e:=(by rw[g1.length];simp;rw[gZ] at bR;omega);refine⟨xs++r,?_,by rw[BZ,x2,g2];rfl,λi hi=>?_⟩
     ·have:=x1.append g1
      rwa [<-List.take_add,<-Nat.succ_mul] at this
     ·rcases ez i k with h2|h2
      ·obtain⟨y,hy,hh⟩:=x3 i h2;refine⟨y,hy,?_⟩;have h3:(i+1) * P.cellsOf e<=k * P.cellsOf e:=pg _ h2;rw[gZ] at h3;rw[List.drop_append_of_le_length ai,List.take_append_of_le_length (by simp;omega)];exact hh
      ·have:i=k:=(by omega);subst this;refine⟨_,aU ai,?_⟩;rw[<-dR,adQ,<-cU,fN];exact g3
   obtain⟨xs,x1,x2,x3⟩:=ae m (aL _);rw[<-dP,<-db,fN] at x1;refine⟨xs,x1,x2,.array hu xs (ys.map (·.1)) (by rw[x1.length,db]) (by simp[zR]) λi d hd=>?_⟩;have hi:i<m:=(by have:=(aW.1 hd).1;simpa [zR] using this);obtain⟨y,hy,hh⟩:=x3 i hi;rw[ey,hy] at hd;simp only[ft,eg] at hd;subst hd;exact hh
  ·cases bB
def afH{S:List aP}(hS:Ma P S=ah){t:aP}{v:aT}{d:DataW H}{p:List MemPlace}{base:Nat}(h:DataW.Trod enc P W 0 (λ_=>ah) ah t v d p)(hv:Value.okWide P W .any base t v)(iO:S.contains t=ah):
 ∃x,a9 (a8.init W) x v/\mz P t x d:=by
 obtain⟨fuel,hf⟩:=h;obtain⟨xs,h1,h2,h3⟩:=av4 hS fuel t _ _ hf iO;have single:∀c,v.cells.toList=[c]->v=c->(∀cs,P.underlying t≠aa (.struct cs))->(∀m e,P.underlying t≠aa (.array m e))->∃x,a9 (a8.init W) x v/\mz P t x d:=by
  intro c hc hvc hns hna;rw[hc] at h1;cases h1 with
  |cons x _ _ _ hx hs=>
   cases hs;refine⟨x,hvc ▸ hx,?_⟩;unfold mz;split
   ·rename_i hu;exact absurd hu (hns _)
   ·rename_i hu;exact absurd hu (hna _ _)
   ·exact h3
 have bB:I0 P S t=ah:=eK.1 hS t (by simpa using iO);unfold I0 at bB;unfold Value.okWide at hv;split at bB
 ·rename_i hu;rw[hu] at hv;simp only[Cell.okWide,Cell.ok,hu] at hv;cases v<;>simp at hv;exact single _ rfl rfl (by rw[hu];simp) (by rw[hu];simp)
 ·rename_i k hu;rw[hu] at hv;simp only[Cell.okWide,Cell.ok,hu] at hv;cases v<;>simp at hv;exact single _ rfl rfl (by rw[hu];simp) (by rw[hu];simp)
 ·rename_i hu;rw[hu] at hv;simp only[Cell.okWide,Cell.ok,hu] at hv;cases v<;>simp at hv;exact single _ rfl rfl (by rw[hu];simp) (by rw[hu];simp)
 ·rename_i e hu;rw[hu] at hv;simp only[Cell.okWide,Cell.ok,hu] at hv;cases v<;>simp at hv;exact single _ rfl rfl (by rw[hu];simp) (by rw[hu];simp)
 ·rename_i fs hu;rw[hu] at hv;obtain⟨cs,rfl,-,-⟩:=hv;exact⟨.agg xs,.agg _ _ h1,by unfold mz;rw[hu];exact⟨xs,rfl,h3⟩⟩
 ·rename_i m e hu;rw[hu] at hv;obtain⟨cs,rfl,-,-⟩:=hv;exact⟨.agg xs,.agg _ _ h1,by unfold mz;rw[hu];exact⟨xs,rfl,h3⟩⟩
 ·cases bB
def afI{S:List aP}(hS:Ma P S=ah){base:Nat}:∀{ts:List aP} {vs:List aT} {ds:List (DataW H)} {p:List MemPlace},DataW.TrodAll enc P W 0 (λ_=>ah) ah ts vs ds p->
 (∀(j:Nat) t v,ts[j]?=aa t->vs[j]?=aa v->Value.okWide P W .any base t v)->(∀t∈ts,S.contains t=ah)->∃xs,aV (a8.init W) xs vs/\u6 P ts xs ds:=by
 intro ts
 induction ts with
 |nil=>intro vs ds p h _ _;obtain⟨rfl,rfl,rfl⟩:=trodAll_nil h;exact⟨[],.nil,trivial⟩
 |cons t ts ih=>intro vs ds p h hv bB;obtain⟨v,vs',d,ds',p1,q1,rfl,rfl,rfl,h1,h2⟩:=trodAll_cons h;obtain⟨x,g1,g2⟩:=afH hS h1 (hv 0 t v rfl rfl) (bB t gq);obtain⟨xs,g3,g4⟩:=ih h2 (λj t v ht rG=>hv (j+1) t v (by simpa using ht) (by simpa using rG)) (λt ht=>bB t (fM _ ht));exact⟨x::xs,.cons _ _ _ _ g1 g3,g2,g4⟩
structure Up(P:bL)(S:List aP)(f:bq)(fn:Func)(tb:aP):Prop where
 func:P.funcs[f]?=aa fn
 laid:laidOutB P=ah
 set:Ma P S=ah
 qY:∀t∈fn.params.toList,S.contains t=ah/\P.readableRec t=ah/\t<P.types.size
 res:fn.resultTypes=#[tb]
 bool:P.underlying tb=aa .bool
variable {G:Nat->Option (List AV)} {aQ:bq->Option (List AV->ar->Option (AV × ar))}
def amP{S:List aP}(hp:Prog P){f:bq}{fn:Func}{tb:aP}(F:Up P S f fn tb){s:ChangeSpec}{apart fresh handsOn again:Bool}{base:Nat}{args:Array aT}{ds gs:List (DataW H)}{before:List MemPlace}
 (IH:s.vars=[]) (al8:∀ds:List (DataW H),ds.length=fn.params.size->(s.fn H ds).results=[.lit (.bool ah)]/\(s.fn H ds).args=ds/\(s.fn H ds).vars=[])
 (Rf:∀(j:Nat) t v,fn.params[j]?=aa t->args[j]?=aa v->Value.okWide P W .any base t v)
 (hW:DataW.Whole enc P fn.params.toList s.vars apart W args.toList ds gs before)
 (hG:∀g cs,G g=aa cs->∃cells,aV (a8.init W) cs cells/\∀(j:Nat) (c:aT),cells[j]?=aa c->W.cell? ⟨g,j,none⟩=aa c)
 (pK:∀g p,aQ g=aa p->ue P G W g p)
 (alD:∀xs:List AV,u6 P fn.params.toList xs ds->∃h',(whole P G aQ).call f xs ar.init=aa (.ret (.v (.bool ah)),h')):
 Calls P f args W λe W'=>∃v,e=.returned v/\s.post enc P fn apart fresh handsOn again W args v W':=by
 have Ya:=hW;obtain⟨p,q,hA,hV,Yh,yl,QD⟩:=hW;have hV0:DataW.TrodVars enc P W (λ_=>ah) [] gs q:=IH ▸ hV;obtain⟨rfl,rfl⟩:=trodVars_none hV0;rw[jC] at Yh;subst Yh;obtain⟨xs,Rh,eW⟩:=afI F.set hA (λj t v ht hv=>Rf j t v (by simpa using ht) (by simpa using hv)) (λt ht=>(F.qY t ht).1);obtain⟨h',ux⟩:=alD xs eW;have IE:mi P G W (a8.init W) ar.init W:=aun W hG;obtain⟨-,hc⟩:=(TW hp pK).call f xs ar.init _ _ ux;intro cs;obtain⟨K',w',fr,le,s',bT,yk,v,hx,hl⟩:=hc (a8.init W) W args Rh IE cs;have hv:=hx.jl.1;subst hv;have hb:Below W.heap.size W w':=by have:=s'.dw;rw[le.base] at this;exact this
 have bR:ds.length=fn.params.size:=by
  have:∀{ts:List aP} {xs:List AV} {ds:List (DataW H)},u6 P ts xs ds->ds.length=ts.length:=by
   intro ts
   induction ts with
   |nil=>intro xs ds h;cases xs<;>cases ds<;>simp[u6] at h ⊢
   |cons t ts ih=>intro xs ds h;cases xs<;>cases ds<;>simp[u6] at h ⊢;exact ih h.2
  simpa using this eW
 obtain⟨r1,r2,r3⟩:=al8 ds bR;refine⟨.returned (.bool ah),w',fr,⟨_,rfl,?_⟩,bT,yk,hl⟩;refine apr (pa:=before) (pv:=[]) Ya (λb sp hd=>?_) (λsp mb=>?_) (λsp _=>?_) bJ hb (ok_one F.res rfl (okWide_bool_mk F.bool _))
 ·rw[F.res,jC,r1];exact trodAll_cons_mk (shut_bool F.bool _) trodAll_mk0
 ·rw[jC,r2];exact afJ F.laid hA (λt ht=>(F.qY t ht).2) (λx hx=>hb.same (Ya.lt x hx)) mb
 ·rw[IH,jC,r3];exact rfl
end
end Go.AE
end
