/-
  The engine, part 59: a walk in two parts.
-/
import Derived.Test.YtcbhpkjbiehcpaaGreatDoorSF
import Derived.Test.YtcbhpkjbiehcpaaGreatDoorSD
import Derived.Test.YtcbhpkjbiehcpaaGreatDoorSB
import Derived.Test.YtcbhpkjbiehcpaaGreatDoorSE
import Derived.LaidMore
import Derived.MakeChecks
import Derived.Stop.LaidErr
import Derived.Stop.Joined
import Derived.Lib.LaidTab
import Derived.Test.YtcbhpkjbiehcpaaGreatDoorRows
open True renaming intro->br
open Go.Proofs.Tryz renaming prog->ag,underlying23->dp,func49->adv,underlying32->xv,underlying33->uC,func52->Ht,func56->Ei,underlying29->Mg,underlying22->gZ,f20->Mf,func20->adl,underlying3->rG
open Option renaming some->J,bind_some->jO,none->aq,map_eq_some_iff->dK
open Bool renaming false->au,true->aa,and_eq_true->bQ
open List renaming getElem?_map->eF,length->F,length_append->de,length_cons->eZ,map_append->jN,map_cons->dR,flatten_append->ux,flatten_cons->kJ,append_assoc->jx,getElem?_eq_some_iff->bk,length_map->bJ,getElem?_eq_getElem->aY,append_nil->iB,nil_append->eP,drop_length->Lw,cons_append->eY,all_append->qP,map_map->xn,drop_left->DW,mem_map->iX,take_of_length_le->fK,length_take->dJ,getElem?_take->o0,replicate->bR,take_zero->dG,take_length->gy,cons.inj->R8,take_succ_cons->dY,mem_singleton->iL,all_eq_true->ff,getD_eq_getElem?_getD->fg,mem_cons_self->gt,mem_cons_of_mem->gr,drop_zero->gP,drop_drop->rB
open Nat renaming le_refl->bh,add_mul->jm,reduceEqDiff->aT,zero_le->cC,succ_mul->adb,mul_one->mr,beq->jn,sub_self->sW,le_of_ble_eq_true->lQ,eq_of_beq_eq_true->ou,le_of_eq->acV,lt_or_ge->eg,mul_le_mul_right->mR
open Prod renaming fst->jz,mk.inj->fP,snd->nr
open Go renaming Value->aQ,FuncId->a_,Program->bL,TypeId->aO
open And renaming intro->ar
open Array renaming all_eq_true'->GW,mem_of_getElem?->abS
open Nat renaming mul_le_mul->kL
open List renaming getElem?_cons_succ->nR,getElem?_eq_none->sQ,length_nil->gi,mem_cons->hh,not_mem_nil->qR
set_option maxHeartbeats 64000000
set_option maxRecDepth 100000
set_option linter.unusedSimpArgs false
set_option linter.unusedVariables false
set_option linter.constructorNameAsVariable false
set_option linter.defProp false
section
namespace Go.Proofs.YtcbhpkjbiehcpaaGreatDoor
open Go.AE Go.NT
abbrev Zp:=Int × Int
abbrev qz00:Zp:=(0,0)
def aqg:Tryz.f59.results.toList=[.tmp 2]:=by kernel_rfl
def ay5:Tryz.f119.results.toList=[.tmp 5]:=by kernel_rfl
def ay4:Tryz.f118.results.toList=[.tmp 6,.tmp 7]:=by kernel_rfl
def ayT{H}{b}{q}(d:H.I[b]?=J (bI q)):aL ag Gt H 48 (.ptr (.box b) 0)=J (.agg (bI q)):=(CK d).2.2
def ayW(p:Int × Int)(h:ah):SC.call 59 [.agg (bI p)] h=J (.ret ((p.1:Int):V),h.push (bI p)):=by
 have b:=JM p;have e:=CK (aU h (bI p));have f:=M8;generalize bI p=d at *
 unfold im at *
 refine da O Tryz.func59 O ?_;exact f_ @aqg @bC
def axx:f' ag 100=J au:=by kernel_rfl
section
open Go.Proofs.YtcbhpkjbiehcpaaGreatDoor renaming JM->Q106,bI->Q107,ayT->Q108,axx->Q111,ayW->Q112,ay5->Q115
open Go renaming kk100->Q109,kk59->Q110
open Prod renaming fst->Q113
open Go.Proofs.Tryz renaming func119->Q114
def ayS(p q:Int × Int)(i:Nat)(h:ah)(A:h.I[i]?=J [.func (.func 59) [] []]):∃h',SC.call 119 [.agg (bI p),.agg (bI q),.ptr (.box i) 0] h=J (.ret ((xD p.1 q.1:Int):V),h')/\Ext h h':=ZS21
end
def DJ:cQ ag 48=J 2:=by kernel_rfl
def Yn{H}{l}{i s}{p}(h:l[i]?=J p):aL ag Gt H 48 (.elem s (bY l) i 0)=J (.agg (bI p)):=by rw[CO bX DJ (row:=bI p) (by unfold bY;rw[eF,h];rfl) (bh 2)];rfl
section
open Go.Proofs.Tryz renaming underlying33->Q116,func118->Q121
open Go.Proofs.YtcbhpkjbiehcpaaGreatDoor renaming DJ->Q117,JM->Q118,bY->Q119,bI->Q120,ay4->Q122,ayT->Q126,Yn->Q128,ayS->Q129
open Go renaming kk119->Q123,kk59->Q125,kk2->Q127
open Prod renaming fst->Q124,fst->Q130
def azC(h:ah)(k:Tok)(s:Nat)(l:List (Int × Int))(p:Int × Int)(A:Nat)(hb:h.I[A]?=J [.func (.func 59) [] []])(hs:l≠[]->s=2)(N6:G8 jz l)(hl:F l<=1000000):
 ∃r h',SC.call 118 [.ac k s (bY l),.agg (bI p),.func (.func 119) [] [.ptr (.box A) 0]] h=J (r,h')/\r=.ret (.tuple [((kY jz p.1 l:Nat):V),.v (.bool (vj jz p.1 l))])/\Ext h h':=ZS22
end
def JT(p:Zp):Array aQ:=#[.int .i64 p.1,.int .i64 p.2]
def axT(d)(p q):dQ ag (Op.equalIn (d+2) 48 (.agg (JT p)) (.agg (JT q)))=J (decide (p=q)):=by
 have e:∀p,dQ ag (part 3 (JT p) 0)=J (.int .i64 p.1):=λp=>by kernel_rfl
 have h2:∀p,dQ ag (part 3 (JT p) 1)=J (.int .i64 p.2):=λp=>by kernel_rfl
 have g:ag.stoodInHeld 48=au:=by kernel_rfl
 have f:dQ ag program=J ag:=rfl;have j:(p=q)↔(p.1=q.1/\p.2=q.2):=Prod.ext_iff;have k:decide (p=q)=(decide (p.1=q.1)&&decide (p.2=q.2)):=by rw[Bool.eq_iff_iff];simp[j]
 rw[k];unfold Op.equalIn;rw[iD,Dd Tryz.underlying48,jO];by_cases b:p.1=q.1
 .by_cases i:p.2=q.2
  .simp[iD,yu,f,g,e,h2,xJ,b,i]
  .simp[iD,yu,f,g,e,h2,xJ,b,i]
 .simp[iD,yu,f,g,e,h2,xJ,b]
section
open Go renaming kk48->Q131
open Go.Proofs.YtcbhpkjbiehcpaaGreatDoor renaming JT->Q132,axT->Q133
def axS{x y}(p q):df ag .eql 48 x y (.agg (bI p)) (.agg (bI q))=J (.v (.bool (decide (p=q)))):=ZS23
end
section
open Go renaming kk48->Q134
open Go.Proofs.YtcbhpkjbiehcpaaGreatDoor renaming JT->Q135,axT->Q136
def anH{x y}(p q):df ag .neq 48 x y (.agg (bI p)) (.agg (bI q))=J (.v (.bool (!decide (p=q)))):=ZS24
end
def ayM:∃i,ag.info? 48=J i/\i.size=2/\i.bytes<=64/\(i.zero.map λz=>z.cells.size)=J 2:=by obtain⟨i,b,h2,d,z,e,f⟩:=XK;exact⟨i,b,h2,d,by rw[e];simp[f]⟩
def ay6:Tryz.f121.results.toList=[.tmp 2]:=by kernel_rfl
def azd:Tryz.f58.results.toList=[.tmp 6]:=by kernel_rfl
def axI:fC ag 33 0 []=J (.ac .aP 2 []):=by kernel_rfl
section
open Go.Proofs.YtcbhpkjbiehcpaaGreatDoor renaming ayM->Q137,bY->Q138
open Go renaming kk33->Q139,kk2->Q140
open Go.Proofs.Tryz renaming underlying33->Q141
def azH{h}{s}{l}(o:l≠[])(j:F l<=1000000)(k)(u:s=2):ng ag h #[33,33] (.ac .aP 2 []) (.ac k s (bY l))=J (.arr (F h.I) 0 (F l) (F l),h.push (bY l).flatten):=ZS25
end
section
open Go.Proofs.Tryz renaming underlying33->Q142,func121->Q146
open Go.Proofs.YtcbhpkjbiehcpaaGreatDoor renaming axI->Q143,bY->Q144,Zp->Q145,ay6->Q148,ayM->Q150,azH->Q151
open Go renaming kk33->Q147,kk2->Q149
def axL(h:ah)(k:Tok)(s:Nat)(l:List Zp)(D:l≠[]->s=2)(j:k=.nil->l=[])(B:F l<=1000000):∃r h',SC.call 121 [.ac k s (bY l)] h=J (r,h')/\((l=[]/\h'=h/\∃kk s0,r=.ret (.ac kk s0 [])/\(kk=.nil∨kk=.aP))∨(l≠[]/\r=.ret (.arr (F h.I) 0 (F l) (F l))/\h'=h.push (bY l).flatten)):=ZS26
end
def ayP{h}{b n i}{cs row}{k}(d:h.I[b]?=J cs)(g:0<n)(f:n<1000000)(hi:i<=n)(e:F cs=n*2):SC.call 120 [.arr b 0 n n,((i:Nat):V),.ac k 2 [row]] h=J (.ret (.arr (F h.I) 0 (n+1) (n+1)),(h.put b []).push (cs.take (i*2)++row++cs.drop (i*2))):=by rw[sM];unfold mf nL mF vi;rw[aV bm];simp only[show((120:Nat)=116)=False by simp,if_false,if_true];unfold yg;simp only[d];rw[aH ⟨br,br,g,f,by omega,by omega,br,e⟩,Int.toNat_natCast];rfl
def ayQ{h}{kk k}{s0}{row}(b:kk=.nil∨kk=.aP):SC.call 120 [.ac kk s0 [],.v (.int .i64 0),.ac k 2 [row]] h=J (.ret (.arr (F h.I) 0 1 1),h.push row):=by rw[sM];unfold mf nL mF vi;rw[aV bm];simp only[show((120:Nat)=116)=False by simp,if_false,if_true];unfold yg;simp only;rw[aH ⟨b,br⟩];rfl
def aaR(l):F (bY l).flatten=F l*2:=by
 induction l with
 |nil=>rfl|cons d l b=>show(F (bI d++(bY l).flatten))=_;rw[de,b,eZ,jm];show 2+_=_;omega
def aaT:∀(l:List Zp) (i:Nat),(bY l).flatten.take (i*2)=(bY (l.take i)).flatten/\(bY l).flatten.drop (i*2)=(bY (l.drop i)).flatten
 | [],i=>by simp[bY]
 |p::l,0=>by simp[bY]
 |p::l,i+1=>by obtain⟨b,h2⟩:=aaT l i;have e:(bY (p::l)).flatten=bI p++(bY l).flatten:=rfl;have d:F (bI p)=2:=rfl;rw[e,show(i+1)*2=F (bI p)+i*2 by rw[d];omega,List.take_length_add_append,List.drop_length_add_append,b,h2];exact⟨O,O⟩
def azD(l)(p)(i):(bY l).flatten.take (i*2)++bI p++(bY l).flatten.drop (i*2)=(bY (l.take i++p::l.drop i)).flatten:=by obtain⟨b,h2⟩:=aaT l i;rw[b,h2];unfold bY;rw[jN,dR,ux,kJ,jx]
def axH(p):fC ag 33 1 [(0,.agg (bI p))]=J (.ac .aP 2 [bI p]):=by kernel_rfl
def Sy(h h':ah)(x:V)(l:List Zp)(p:Zp)(r:dV):Prop:=
 match pz jz p.1 l with
 |some d=>if d=p then r=.ret x else r=.panic (mn 151)
 |none=>∃b,r=.ret (.arr b 0 (F l+1) (F l+1))/\F h.I<=b/\h'.I[b]?=J (bY (nE jz p l)).flatten
section
open Go.Proofs.YtcbhpkjbiehcpaaGreatDoor renaming JM->Q152,bI->Q154,azC->Q155,ayT->Q156,DJ->Q158,bY->Q159,Sy->Q160,Yn->Q163,axS->Q165,azd->Q167,axH->Q168,axL->Q169,Zp->Q170,ayQ->Q172,ayP->Q173,aaR->Q174,azD->Q175
open Go renaming kk59->Q153,kk2->Q164,kk120->Q171
open Go.Proofs.Tryz renaming underlying33->Q157,func58->Q166
open Prod renaming fst->Q161,fst->Q162
def apO(h:ah)(k:Tok)(s:Nat)(l:List Zp)(p:Zp)(A:l≠[]->s=2)(B:k=.nil->l=[])(o:G8 jz l)(hl:F l<1000000):
 ∃r h',SC.call 58 [.ac k s (bY l),.agg (bI p),.func (.func 59) [] []] h=J (r,h')/\Ext h h'/\Sy h h' (.ac k s (bY l)) l p r:=ZS27
end
def ayZ:Tryz.f109.results.toList=[.tmp 8]:=by kernel_rfl
def ahX{α:Type}{l:List α}{i}{y}(h:l[i]?=J y):l.drop i=y::l.drop (i+1):=by obtain⟨b,rfl⟩:=bk.1 h;exact List.drop_eq_getElem_cons b
def ZS28{p:Prop}(h:p:=by
 have bx:=ok.cells;have u32:=Q176;have z46:=Q177;have z:=Q178;have bp:=λz1=>Q179 z1;have L:F (Q180 l)=F l:=by unfold Q180;rw[bJ]
 have kr:=aj.mk (λz1=>(Q181 ok C X S z1).call);have kl:=aj.mk q;have kld:aj (∀(H:ah) z0,H.I[z0]?=J (aD c a)->aL ag Gt H 35 (.ptr (.box z0) 0)=J (.agg (aD c a))):=⟨λH z0 hb=>iJ ok.len hb⟩;have u:=aj.mk (Ext.push h (aD c a));have t:=aj.mk (aU h (aD c a));clear ok C X S q;generalize aD c a=z2 at *
 refine cA O Q182 O ?_;refine bF @Q183 @bC ?_;refine bM.gen λg e p N R=>?_;have f2:g.get 2=.func (.func Q184) [] []:=by rw[e];exact gS
 have f3:g.get 3=.func (.func Q185) [] []:=by rw[e];exact gS
 have f4:g.get 4=.ptr (.box (F h.I)) 0:=by rw[e];exact gS
 have f9:g.get 9=.v (.int .i64 (-1)):=by rw[e];exact gS
 have f12:g.get 12=.ac k s (Q180 l):=by rw[e];exact gS
 have f13:g.get 13=(F l:Nat):=by rw[e];simp only[gW,reduceIte,aT,aN,L]
 have f14:g.get 14=(0:Nat):=by rw[e];exact gR
 have B:g.defers=[]:=by rw[p];exact gS
 clear e p N R;refine cJ (λz3 n H=>∃(i:Nat) (b:Int),i<=F l/\z3=F l-i/\aj (fH (Q186 c.am) Q187 b (l.drop i)=fH (Q186 c.am) Q187 (-1) l)/\n.get 2=.func (.func Q184) [] []/\n.get 3=.func (.func Q185) [] []/\n.get 4=.ptr (.box (F h.I)) 0/\n.get 9=(b:Int)/\n.get 12=.ac k s (Q180 l)/\n.get 13=(F l:Nat)/\n.get 14=(i:Nat)/\n.defers=[]/\aj (Ext h H)/\aj (H.I[F h.I]?=J z2)) ?_ (F l) _ _ ?_;rotate_left 1
 .exact⟨0,-1,cC _,O,⟨O⟩,f2,f3,f4,f9,f12,f13,f14,B,u,t⟩
 clear f2 f3 f4 f9 f12 f13 f14 B u t;rintro z3 n H ⟨i,b,hi,rfl,Y,g2,g3,g4,g9,g12,g13,g14,hd,o,Z⟩;by_cases j:i<F l
 .have T:s=Q188:=kl.M (by intro z4;rw[z4]at j;simp at j);subst T;obtain⟨d,v⟩:∃d,l[i]?=J d:=⟨_,aY j⟩;have ld:=Q189 (H:=H) (s:=Q188) v;have gG:(i:Int)<(F l:Int):=by omega
  have y:aj (fH (Q186 c.am) Q187 (-1) l=(Q186 c.am d&&decide (b<(Q190 d))&&fH (Q186 c.am) Q187 (Q190 d) (l.drop (i+1)))):=⟨by rw[<-Y.M,ahX v,fH]⟩;have st:b9 ag (H.push (Q191 Q192)) Q193 (.ptr (.box (F H.I)) 0) (.agg (Q191 d))=J (H.push (Q191 d)):=Q194 d;have c53:=kr.M d;have lD:=kld.M (H.push (Q191 d)) (F h.I) (aX Z.M);have l1:=Q195 (aU H (Q191 d));have l2:=Q195 (aX (cs:=Q191 d) (aU H (Q191 d)));have o1:=Q196 d (H.push (Q191 d));have o2:=Q196 d ((H.push (Q191 d)).push (Q191 d));have x1:=aj.mk (o.M.trans (.push H (Q191 d)));have x2:=aj.mk ((o.M.trans (.push H (Q191 d))).trans (.push _ (Q191 d)));have x3:=aj.mk (((o.M.trans (.push H (Q191 d))).trans (.push _ (Q191 d))).trans (.push _ (Q191 d)));have kb3:aj ((((H.push (Q191 d)).push (Q191 d)).push (Q191 d)).I[F h.I]?=J z2):=⟨aX (aX (aX Z.M))⟩;clear v;generalize Q186 c.am d=z5 at *
  generalize hB:Q191 d=z6 at *
  generalize hB0:Q191 Q192=B0 at *
  cases z5 with
  |false=>
   have m:aj (fH (Q186 c.am) Q187 (-1) l=au):=⟨by rw[y.M];rfl⟩
   repeat' (first|simp(maxSteps:=9999999) (disch:=first|exact dZ|fail) only[gW,reduceIte,aT,aN,Q183,bj,iB,eP, *]|refine dX ?_ ?_<;>(intro _;try omega))
   all_goals exact⟨_,_,O,by rw[m.M],x1.M⟩
  |true=>
   by_cases A:(Q190 d)<=b
   .have m:aj (fH (Q186 c.am) Q187 (-1) l=au):=⟨by rw[y.M,cR (af:¬b<(Q190 d))];rfl⟩;have d1:decide ((Q190 d)<=b)=aa:=cD A
    repeat' (first|simp(maxSteps:=9999999) (disch:=first|exact dZ|fail) only[gW,reduceIte,aT,aN,Q183,bj,iB,eP, *]|refine dX ?_ ?_<;>(intro _;try omega))
    all_goals exact⟨_,_,O,by rw[m.M],x2.M⟩
   .have f:aj (fH (Q186 c.am) Q187 (Q190 d) (l.drop (i+1))=fH (Q186 c.am) Q187 (-1) l):=⟨by rw[y.M,cD (af:b<(Q190 d))];rfl⟩;have d1:decide ((Q190 d)<=b)=au:=cR A
    repeat' (first|simp(maxSteps:=9999999) (disch:=first|exact dZ|fail) only[gW,reduceIte,aT,aN,Q183,bj,iB,eP, *]|refine dX ?_ ?_<;>(intro _;try omega))
    all_goals exact⟨F l-(i+1),by omega,i+1,(Q190 d),by omega,O,f,by simp,by first|exact x3|trivial,by first|exact kb3|trivial⟩
 .have:i=F l:=by omega
  subst this;have m:aj (fH (Q186 c.am) Q187 (-1) l=aa):=⟨by rw[<-Y.M,Lw];rfl⟩
  repeat' (first|simp(maxSteps:=9999999) (disch:=first|exact dZ|fail) only[gW,reduceIte,aT,aN,Q183, *]|refine dX ?_ ?_<;>(intro _;try omega))
  all_goals exact⟨_,_,O,by rw[m.M],o.M⟩):p:=h
section
open Go.Proofs.Tryz renaming underlying32->Q176,func109->Q182
open Go.Proofs.YtcbhpkjbiehcpaaGreatDoor renaming vD->Q177,DL->Q178,JL->Q179,cL->Q180,al9->Q181,ayZ->Q183,vm->Q189,bB->Q191,pz00->Q192,DH->Q194,wB->Q195,ayV->Q196
open Go renaming kk53->Q184,kk55->Q185,kk4->Q188,kk46->Q193
open Go.NT renaming oS->Q186
open Go.NT.Pr renaming bN->Q187,bN->Q190
def aor(h:ah)(c:Ce)(a:CA)(ok:c_ c a)(C:dS a)(X:F c.am<=1000000)(S:qO c.am)(k:Tok)(s:Nat)(l:List Pr)(q:l≠[]->s=4)(hl:F l<=1000000):
 ∃r h',SC.call 109 [.agg (aD c a),.ac k s (cL l),.func (.func 53) [] [],.func (.func 55) [] []] h=J (r,h')/\r=.ret (.v (.bool (fH (oS c.am) Pr.bN (-1) l)))/\Ext h h':=ZS28
end
def axd:(gp ag 48).bind V.bP=J (bI qz00):=by kernel_rfl
def avk{H:ah}(p):b9 ag (H.push (bI qz00)) 48 (.ptr (.box (F H.I)) 0) (.agg (bI p))=J (H.push (bI p)):=j3 O DJ O rfl
def ay0:Tryz.f110.results.toList=[.tmp 8]:=by kernel_rfl
section
open Go.Proofs.Tryz renaming underlying33->Q176,func110->Q182
open Go.Proofs.YtcbhpkjbiehcpaaGreatDoor renaming DJ->Q177,axd->Q178,JM->Q179,bY->Q180,ama->Q181,ay0->Q183,Yn->Q189,bI->Q191,qz00->Q192,avk->Q194,ayT->Q195,ayW->Q196
open Go renaming kk57->Q184,kk59->Q185,kk2->Q188,kk48->Q193
open Go.NT renaming oT->Q186
open Prod renaming fst->Q187,fst->Q190
def aos(h:ah)(c:Ce)(a:CA)(ok:c_ c a)(C:dS a)(X:F c.am<=1000000)(S:qO c.am)(k:Tok)(s:Nat)(l:List Zp)(q:l≠[]->s=2)(hl:F l<=1000000):
 ∃r h',SC.call 110 [.agg (aD c a),.ac k s (bY l),.func (.func 57) [] [],.func (.func 59) [] []] h=J (r,h')/\r=.ret (.v (.bool (fH (oT c.am) jz (-1) l)))/\Ext h h':=ZS28
end
def apZ:Tryz.f108.results.toList=[.tmp 3]:=by kernel_rfl
def Dg:Tryz.f49.results.toList=[]:=by kernel_rfl
def Z6:Tryz.f48.results.toList=[]:=by kernel_rfl
def ap5:Tryz.f14.results.toList=[.tmp 2]:=by kernel_rfl
def aea(h:ah){c:Ce}{a:CA}(ok:c_ c a)(b n:Nat)(d:h.I[b]?=J (aD c a)):SC.call 108 [((n:Nat):V),.ptr (.box b) 0] h=J (.ret (.v (.bool (decide (n=F c.am)))),h):=by
 obtain⟨-,-,e,-,-,-⟩:=jH ok d;obtain⟨-,-,f2,-,-⟩:=uN;have g:=dp;obtain⟨l,m,f,-⟩:=ok.w;have j:=db c.am;rw[f]at e;have i:decide ((n:Int)=(F c.am:Int))=decide (n=F c.am):=by by_cases k:n=F c.am<;>simp[k];omega
 clear ok d f;refine da O Tryz.func108 O ?_;exact iU @apZ
def ML(h:ah)(c:Ce)(a:CA)(ok:c_ c a)(k:dS a)(R:c.Fit):∃r h',SC.call 49 [.agg (aD c a)] h=J (r,h')/\r=mc (gQ c)/\Ext h h':=by
 have bx:=ok.cells;have z:=vH;have cn:=(X9 ok k R).call;obtain⟨-,-,m,-,A,B⟩:=R;obtain⟨e,b⟩:∃e,h.push (aD c a)=e:=⟨_,O⟩;have p:e.I[F h.I]?=J (aD c a):=by rw[<-b];exact aU _ _
 obtain⟨l1,l2,l3,-,-,-⟩:=jH ok p;have z2:=uN;have s2:b9 ag (e.push (aD c0 a0)) 35 (.ptr (.box (F e.I)) 0) (.agg (aD (jI c) (jk c a)))=J (e.push (aD (jI c) (jk c a))):=by rw[qK gL.len (yn ok).len (yn ok).cells (aU _ _)];congr 1;exact ml _ _ _
 obtain⟨i,d⟩:∃i,e.push (aD (jI c) (jk c a))=i:=⟨_,O⟩;have j:Ext h i:=by rw[<-d,<-b];exact(Ext.push _ _).trans (.push _ _)
 have q:i.I[F h.I]?=J (aD c a):=by rw[<-d];exact aX p
 obtain⟨-,-,-,m4,m5,m6⟩:=jH ok q;have qw:=FU (pr:=nL) O;have z_:=FT (pr:=nL) O;by_cases g:c.eC=0;rotate_left 1
 .have hE:gQ c=440:=by unfold gQ;rw[aH g]
  have d1:decide (c.eC=0)=au:=cR g;have kx:=aj.mk j;rw[hE];clear ok k m A B p q j;generalize aD (jI c) (jk c a)=z1 at *
  generalize aD c a=z0 at *
  generalize aD c0 a0=X at *
  generalize c.eC=ne at *
  unfold im at *
  refine cA O adv O ?_;refine cg @Dg @bC @b @d ?_;exact⟨_,_,O,O,kx.M⟩
 have f:=(JO c.am (-1) (FX g)).2;obtain⟨kp,sp,N,u⟩:=ok.pa;obtain⟨kz,sz,ez,v⟩:=ok.z;obtain⟨_,S,Y,rfl,x3⟩:=aor i c a ok k m f kp sp c.bO u A;obtain⟨_,T,Z,rfl,L⟩:=aos S c a ok k m f kz sz c.aW v B;have C:=x3.box _ _ q;have E:=L.box _ _ C;obtain⟨-,-,-,n4,n5,n6⟩:=jH ok C;obtain⟨-,-,-,o4,o5,o6⟩:=jH ok E;rw[N]at m4 n4 o4;rw[ez]at m5 n5 o5;have u32:=xv;have u33:=uC;have il1:F (cL c.bO)=F c.bO:=by unfold cL;rw[bJ]
 have il2:=sH c.aW;have ca:=aea T ok (F h.I) (F c.bO) E;have k3:=aj.mk (j.trans x3);have n:=aj.mk ((j.trans x3).trans L);rw[g]at cn;have s:gQ c=if (fH (oS c.am) Pr.bN (-1) c.bO&&fH (oT c.am) jz (-1) c.aW)=au then 440 else if F c.bO≠F c.am/\c.aW≠[] then 440 else 0:=by unfold gQ;rw[aV (by simp[g])]
 rw[s];have t:decide ((F c.aW:Int)=0)=decide (c.aW=[]):=by cases c.aW<;>simp;omega
 clear ok k m A B p q j s g f u v N ez C E x3 L;generalize aD (jI c) (jk c a)=z1 at *
 generalize aD c a=z0 at *
 generalize aD c0 a0=X at *
 generalize fH (oS c.am) Pr.bN (-1) c.bO=u1 at *
 generalize fH (oT c.am) jz (-1) c.aW=u2 at *
 generalize cL c.bO=PL1 at *
 generalize bY c.aW=SL1 at *
 unfold im at *
 refine cA O adv O ?_;cases u1 with
 |false=>
  repeat' (first|simp(maxSteps:=9999999) (disch:=first|exact dZ|fail) only[gW,reduceIte,aT,aN,Dg,bC,b,d, *]|refine dX ?_ ?_<;>(intro _;try omega))
  all_goals exact⟨_,_,O,O,k3.M⟩
 |true=>
 cases u2 with
 |false=>
  repeat' (first|simp(maxSteps:=9999999) (disch:=first|exact dZ|fail) only[gW,reduceIte,aT,aN,Dg,bC,b,d, *]|refine dX ?_ ?_<;>(intro _;try omega))
  all_goals exact⟨_,_,O,O,n.M⟩
 |true=>
 by_cases d1:F c.bO=F c.am
 .have y:decide (F c.bO=F c.am)=aa:=cD d1;rw[y]at ca;have o:=aj.mk d1;clear d1
  repeat' (first|simp(maxSteps:=9999999) (disch:=first|exact dZ|fail) only[gW,reduceIte,aT,aN,Dg,bC,b,d,eP,eY, *]|refine dX ?_ ?_<;>(intro _;try omega))
  all_goals exact⟨_,_,O,by simp[o.M,mc],n.M⟩
 .have y:decide (F c.bO=F c.am)=au:=cR d1;rw[y]at ca;have o:=aj.mk d1;clear d1;by_cases d2:c.aW=[]
  .rw[cD d2]at t;have l:=aj.mk d2;clear d2
   repeat' (first|simp(maxSteps:=9999999) (disch:=first|exact dZ|fail) only[gW,reduceIte,aT,aN,Dg,bC,b,d,eP,eY, *]|refine dX ?_ ?_<;>(intro _;try omega))
   all_goals exact⟨_,_,O,by simp[o.M,l.M,mc],n.M⟩
  .rw[cR d2]at t;have l:=aj.mk d2;clear d2
   repeat' (first|simp(maxSteps:=9999999) (disch:=first|exact dZ|fail) only[gW,reduceIte,aT,aN,Dg,bC,b,d,eP,eY, *]|refine dX ?_ ?_<;>(intro _;try omega))
   all_goals exact⟨_,_,O,by simp[o.M,l.M,mc],n.M⟩
def MJ(c):gQ c=0∨gQ c=440:=by
 unfold gQ
 repeat' split
 all_goals first|exact .inl rfl|exact .inr rfl
def agB(h:ah)(c:Ce)(a:CA)(ok:c_ c a)(j:dS a)(g:c.Fit)(b:Nat)(i:h.I[b]?=J (aD c a)):∃r h',SC.call 48 [.ptr (.box b) 0] h=J (r,h')/\r=mc (gQ c)/\Ext h h':=by
 obtain⟨-,-,-,-,-,m⟩:=jH ok i;obtain⟨_,h2,d,rfl,x⟩:=ML h c a ok j g;have k:=aj.mk x;clear ok j g i x;generalize aD c a=l at *
 refine cA O Tryz.func48 O ?_;rcases MJ c with e|e
 .rw[e]at d ⊢;unfold mc at *
  simp only[if_true]at d;refine bD @Z6 ?_;exact⟨_,_,O,O,k.M⟩
 .rw[e]at d ⊢;have f:mc 440=.panic (mn 440):=rfl;rw[f]at d ⊢;refine bD @Z6 ?_;exact⟨_,_,O,O,k.M⟩
def agz(h:ah)(c:Ce)(a:CA)(ok:c_ c a)(e:dS a)(d:c.Fit):∃r h',SC.call 14 [.agg (aD c a)] h=J (r,h')/\r=.ret (im (gQ c)):=by
 have g:=ok.cells;obtain⟨_,h2,b,rfl,x⟩:=agB ((h.push (aD c a)).push [.v (.int .i64 0)]) c a ok e d (F h.I) (aX (aU _ _));obtain⟨i,f,-⟩:=HG (pr:=nL) O 48 _ (h.push (aD c a)) h2 (gQ c) b (x.box _ _ (aU _ _));clear ok e d x b;generalize aD c a=j at *
 generalize gQ c=k at *
 unfold im;refine cA O Tryz.func14 O ?_;refine bF @ap5 @bC ?_;exact⟨_,_,O,O⟩
end Go.Proofs.YtcbhpkjbiehcpaaGreatDoor
end
section
namespace Go.AE
open Go
def Code.tl:Nat->Code->Code
 |n+1,.seq _ b=>Code.tl n b
 |_,c=>c
def Code.vq:Nat->Code->Code->Code
 |n+1,.seq a c,b=>.seq a (Code.vq n c b)
 |0,_,b=>b
 |_,c,_=>c
def aqG:∀(n:Nat) (c:Code),Code.vq n c (Code.tl n c)=c:=by
 intro n
 induction n with
 |zero=>intro c;cases c<;>rfl
 |succ n b=>intro c;cases c<;>first|rfl|(simp only[Code.vq,Code.tl,b])
def Gs(n){R}{c}{e}{h}{Q}(g:Env->ah->Prop)(d:∀b,(∀e h,g e h->bM R b e h Q)->bM R (Code.vq n c b) e h Q)(f:∀e h,g e h->bM R (Code.tl n c) e h Q):bM R c e h Q:=by
 have:=d _ f
 rwa [aqG]at this
end Go.AE
end
section
namespace Go.Proofs.YtcbhpkjbiehcpaaGreatDoor
open Go.AE Go.NT
end Go.Proofs.YtcbhpkjbiehcpaaGreatDoor
end
section
namespace Go.Proofs.YtcbhpkjbiehcpaaGreatDoor
open Go.AE Go.NT
def F_:Tryz.f52.results.toList=[]:=by kernel_rfl
def ap6:Tryz.f16.results.toList=[.cell 4 35,.tmp 5]:=by kernel_rfl
def Di:Tryz.f56.results.toList=[]:=by kernel_rfl
def ap8:Tryz.f18.results.toList=[.cell 4 35,.tmp 5]:=by kernel_rfl
section
variable {c:Ce} {a:CA} {x:V}
def agw(ok:c_ c a):ej (aD c a) 46 [x]=aD c {a with Pa:=x}:=by
 have b:=ok.d.len;have d:aD c a=(aJ c.ep a.X a.Y a.C++bH c.doc a.p a.r a.n++[a.W])++[a.Pa]++[a.Z]:=by unfold aD;simp
 rw[d,GA (B:=[a.Pa]) (B':=[x]) (by simp only[de,b];rfl) O];unfold aD;simp
def agx(ok:c_ c a):ej (aD c a) 47 [x]=aD c {a with Z:=x}:=by
 have b:=ok.d.len;have d:aD c a=(aJ c.ep a.X a.Y a.C++bH c.doc a.p a.r a.n++[a.W,a.Pa])++[a.Z]++[]:=by unfold aD;simp
 rw[d,GA (B:=[a.Z]) (B':=[x]) (by simp only[de,b];rfl) O];unfold aD;simp
def Un(ok:c_ c a){x y:V}:F (aD c {a with Pa:=x,Z:=y})=48:=by unfold aD;rw[de,de,ok.d.len];unfold aJ;rfl
def Um(ok:c_ c a){x y:V}(e:x.dt=aa)(f:y.dt=aa):(V.agg (aD c {a with Pa:=x,Z:=y})).bP=J (aD c {a with Pa:=x,Z:=y}):=by
 have b:=mD (ep:=c.ep) ok.x ok.y ok.cm;have h2:=ok.d.cells;have d:a.W.dt=aa:=by obtain⟨k,l,j,-⟩:=ok.w;rw[j];rfl
 unfold V.bP at *
 simp only at b h2 ⊢;split at b
 .split at h2
  .rename_i g i;rw[aH];unfold aD;rw[qP,qP,g,i];simp[d,e,f]
  .cases h2
 .cases b
def avM:cQ ag 32=J 1:=by kernel_rfl
def avN:cQ ag 33=J 1:=by kernel_rfl
def auO{H:ah}{b:Nat}(ok:c_ c a)(e:x.bP=J [x])(d:H.I[b]?=J (aD c a)):b9 ag H 32 (.ptr (.box b) 46) x=J (H.put b (aD c {a with Pa:=x})):=by rw[fI e avM d O (by have:=ok.len;omega),agw ok]
def stZ{H:ah}{b:Nat}(ok:c_ c a)(e:x.bP=J [x])(d:H.I[b]?=J (aD c a)):b9 ag H 33 (.ptr (.box b) 47) x=J (H.put b (aD c {a with Z:=x})):=by rw[fI e avN d O (by have:=ok.len;omega),agx ok]
end
def vU(h:ah)(x y:V)(flat:List V)(n:Nat):Prop:=x=y∨∃b,x=.arr b 0 n n/\0<n/\h.I[b]?=J flat
def JU{h f:ah}{d}{D D2}(j:∀b cs,b≠d->h.I[b]?=J cs->f.I[b]?=J cs)(g:d<F f.I):(∀b cs,b≠d->h.I[b]?=J cs->((f.put d D).put d D2).I[b]?=J cs)/\((f.put d D).put d D2).I[d]?=J D2:=
 ⟨λb cs e i=>by rw[cS e,cS e];exact j b cs e i,dM (by simpa [ah.put] using g)⟩
def ZV{f:ah}{b e}{D D2 cs}(d:b≠e)(g:f.I[b]?=J cs):((f.put e D).put e D2).I[b]?=J cs:=by rw[cS d,cS d];exact g
def To{c:Ce}(h:c.eC=0):qO c.am:=(JO c.am (-1) (FX h)).2
def aoD(h:ah)(c:Ce)(a:CA)(ok:c_ c a)(N:dS a)(L:c.Fit)(pM:F c.bO<1000000)(i:∀s es,a.Pa=.ac .nil s es->es=[])(p:Pr)(b0 b1 m:Nat)(n0:b0≠m)(n1:b1≠m)(k:h.I[b0]?=J (aD c a))(q:h.I[b1]?=J (bB p))(g:h.I[m]?=J (aD c0 a0))(e:Int)(l:List Pr)(d:mj c p=(e,l)):
 ∃r h',SC.call 52 [.ptr (.box b0) 0,.ptr (.box b1) 0,.ptr (.box m) 0] h=J (r,h')/\r=mc e/\(∀b cs,b≠m->h.I[b]?=J cs->h'.I[b]?=J cs)
  /\∃x,h'.I[m]?=J (if e=0 then aD c {a with Pa:=x} else aD c0 a0)/\(e=0->x.dt=aa/\vU h' x a.Pa (cL l).flatten (F l)/\(x=a.Pa->l=c.bO)):=by
 have bx:=ok.cells;have bp:=JL p;obtain⟨_,h2,X,rfl,f⟩:=ML h c a ok N L;obtain⟨-,-,-,-,-,l0⟩:=jH ok k;obtain⟨-,-,-,m4,-,m0⟩:=jH ok (f.box _ _ k);have mp:=wB (f.box _ _ q);have z4:=uN;have qw:=FU (pr:=nL) O;have z_:=FT (pr:=nL) O;unfold mj at d;by_cases t:gQ c=0;rotate_left 1
 .have e4:gQ c=440:=(MJ c).resolve_left t;rw[aH t]at d;obtain⟨rfl,rfl⟩:=fP d;have R:=aj.mk λb cs (_:b≠m) hq=>f.box b cs hq;have j:=aj.mk (f.box _ _ g);rw[e4]at X;have C:mc 440=.panic (mn 440):=rfl;rw[C]at X;clear ok N L k q g f i m4 mp;generalize aD c a=z1 at *
  generalize aD c0 a0=Z0 at *
  refine cA O Ht O ?_;refine bD @F_ ?_;exact⟨_,_,O,O,R.M,nl,j.M,λz0=>by cases z0⟩
 rw[aV (by simpa using t)]at d;rw[t]at X;have e0:mc 0=.ret (.tuple []):=rfl;rw[e0]at X;obtain⟨Z,ho,-,-⟩:=EA.1 t;obtain⟨kp,Y,v,y⟩:=ok.pa;have c53:=(al9 ok N L.2.2.1 (To Z) p).call;cases A:oS c.am p with
 |false=>
  rw[aH A]at d;obtain⟨rfl,rfl⟩:=fP d;rw[A]at c53;have R:=aj.mk λb cs (_:b≠m) hq=>f.box b cs hq;have j:=aj.mk (f.box _ _ g);have C:mc 420=.panic (mn 420):=rfl;clear ok N L k q g f i m4 t Z ho y v A;generalize aD c a=z1 at *
  generalize aD c0 a0=Z0 at *
  generalize bB p=z2 at *
  refine cA O Ht O ?_;refine bD @F_ ?_;exact⟨_,_,O,C.symm,R.M,nl,j.M,λz0=>by cases z0⟩
 |true=>
 rw[aV (by simp[A])]at d;rw[A]at c53;obtain⟨r3,h3,c54,x3,o⟩:=apN h2 kp Y c.bO p y (λz0=>by
  have:=i Y (cL c.bO) (by rw[v,z0]);cases hl:c.bO with
  |nil=>rfl|cons a b=>rw[hl]at this;cases this) (λz5 z6 x z3 hi hj hl=>Zj ho hi hj hl) pM
 have r0:=x3.box _ _ (f.box _ _ k);have S:=x3.box _ _ (f.box _ _ g);obtain⟨-,-,-,-,-,n0'⟩:=jH ok r0;have s1:=qK gL.len ok.len ok.cells S;have R:=aj.mk λb cs (hb:b≠m) hq=>x3.box b cs (f.box b cs hq);have r4:(h3.put m (aD c a)).I[m]?=J (aD c a):=dM (bk.1 S).1;have T:=λ(x:V) hx=>auO (x:=x) ok hx r4;have B:=aj.mk (bk.1 S).1;rw[v]at m4;unfold De at d;unfold Sx at o;have e151:mc 151=.panic (mn 151):=rfl;cases hf:pz Pr.bN p.bN c.bO with
 |some z3=>
  rw[hf]at o d;simp only at o d;by_cases E:z3=p
  .rw[aH E]at o d;obtain⟨rfl,rfl⟩:=fP d;subst o;have T:=T (.ac kp Y (cL c.bO)) O;have j:=aj.mk (JU (D:=aD c a) (D2:=aD c {a with Pa:=.ac kp Y (cL c.bO)}) R.M B.M);have kep:=aj.mk v;clear ok N L k q g f x3 i t Z ho y v A r0 S r4 hf E d B;obtain⟨u,n⟩:∃u,aD c {a with Pa:=.ac kp Y (cL c.bO)}=u:=⟨_,O⟩;rw[n]at T j;have kD:=aj.mk n;clear n;generalize aD c a=z1 at *
   generalize aD c0 a0=Z0 at *
   generalize bB p=z2 at *
   refine cA O Ht O ?_;refine bD @F_ ?_;exact⟨_,_,O,O,j.M.1,.ac kp Y (cL c.bO),by rw[j.M.2,<-kD.M],λ_=>⟨O,.inl kep.M.symm,λ_=>trivial⟩⟩
  .rw[aV E]at o d;obtain⟨rfl,rfl⟩:=fP d;subst o;have j:=aj.mk S;clear ok N L k q g f x3 i t Z ho y v A r0 S r4 hf E d B s1 T;generalize aD c a=z1 at *
   generalize aD c0 a0=Z0 at *
   generalize bB p=z2 at *
   refine cA O Ht O ?_;refine bD @F_ ?_;exact⟨_,_,O,e151.symm,R.M,nl,j.M,λz0=>by cases z0⟩
 |none=>
  rw[hf]at o d;simp only at o d;obtain⟨b,rfl,qr,rf⟩:=o;obtain⟨rfl,rfl⟩:=fP d;have T:=T (.arr b 0 (F c.bO+1) (F c.bO+1)) O;have NH:b≠m:=by have:=(bk.1 (f.box _ _ g)).1;omega
  have j:=aj.mk (JU (D:=aD c a) (D2:=aD c {a with Pa:=.arr b 0 (F c.bO+1) (F c.bO+1)}) R.M B.M);have kP:=aj.mk (ZV (D:=aD c a) (D2:=aD c {a with Pa:=.arr b 0 (F c.bO+1) (F c.bO+1)}) NH rf);have kne:aj (V.arr b 0 (F c.bO+1) (F c.bO+1)≠a.Pa):=⟨by rw[v];intro z0;cases z0⟩;have kl:aj (F (nE Pr.bN p c.bO)=F c.bO+1):=⟨XL p c.bO⟩;clear ok N L k q g f x3 i t Z ho y v A r0 S r4 hf d B qr rf;obtain⟨u,n⟩:∃u,aD c {a with Pa:=.arr b 0 (F c.bO+1) (F c.bO+1)}=u:=⟨_,O⟩;rw[n]at T j kP;have kD:=aj.mk n;clear n;generalize aD c a=z1 at *
  generalize aD c0 a0=Z0 at *
  generalize bB p=z2 at *
  refine cA O Ht O ?_;refine bD @F_ ?_;exact⟨_,_,O,O,j.M.1,.arr b 0 (F c.bO+1) (F c.bO+1),by rw[j.M.2,<-kD.M],λ_=>⟨O,.inr ⟨b,by rw[kl.M],by rw[kl.M];omega,kP.M⟩,λz0=>absurd z0 kne.M⟩⟩
def vU.qB{h h'}{x y}{flat}{n z B:Nat}{w}(j:2<=z)(g:F flat=n*z)(i:vU h x y flat n)(d:h.I[B]?=J [w])(k:∀b cs,b≠B->h.I[b]?=J cs->h'.I[b]?=J cs):vU h' x y flat n:=by
 rcases i with l|⟨b,m,f,e⟩
 .exact .inl l
 .refine .inr ⟨b,m,f,k b _ (λl=>?_) e⟩;subst l;rw[e]at d;injection d with d;have:=congrArg F d;rw[g]at this;have h2:1*2<=n*z:=Nat.mul_le_mul f j;simp only[List.length_singleton]at this;omega
def aoC(h:ah)(c:Ce)(a:CA)(ok:c_ c a)(v:dS a)(t:c.Fit)(n:F c.bO<1000000)(f:∀s es,a.Pa=.ac .nil s es->es=[])(p:Pr)(e:Int)(l:List Pr)(u:mj c p=(e,l)):
 ∃r h',SC.call 16 [.agg (aD c a),.agg (bB p)] h=J (r,h')/\∃x,r=.ret (.tuple [.agg (if e=0 then aD c {a with Pa:=x} else aD c0 a0),im e])/\(e=0->vU h' x a.Pa (cL l).flatten (F l)/\(x=a.Pa->l=c.bO)):=by
 have Y:=ok.cells;have Z:=JL p;have z:=vH;obtain⟨b,d⟩:∃b,((h.push (aD c a)).push (bB p)).push (aD c0 a0)=b:=⟨_,O⟩;have l3:F b.I=F h.I+3:=by rw[<-d];simp[bV]
 have B:b.I[F h.I]?=J (aD c a):=by rw[<-d];exact aX (aX (aU _ _))
 have C:b.I[F h.I+1]?=J (bB p):=by rw[<-d];refine aX ?_;have:=aU (h.push (aD c a)) (bB p);rwa [bV]at this
 have E:b.I[F h.I+2]?=J (aD c0 a0):=by rw[<-d];have:=aU ((h.push (aD c a)).push (bB p)) (aD c0 a0);rwa [bV,bV]at this
 obtain⟨_,h2,k,rfl,A,x,L,g⟩:=aoD (b.push [.v (.int .i64 0)]) c a ok v t n f p (F h.I) (F h.I+1) (F h.I+2) af af (aX B) (aX C) (aX E) e l u;have q:h2.I[F b.I]?=J [.v (.int .i64 0)]:=A _ _ af (aU _ _);obtain⟨R,T,o⟩:=HG (pr:=nL) O 52 _ b h2 e k q;have j:=o _ _ af L;have i:F (if e=0 then aD c {a with Pa:=x} else aD c0 a0)=48:=by
  split
  .exact Un ok (x:=x) (y:=a.Z)
  .exact gL.len
 have m:(V.agg (if e=0 then aD c {a with Pa:=x} else aD c0 a0)).bP=J (if e=0 then aD c {a with Pa:=x} else aD c0 a0):=by
  split
  .rename_i N;exact Um ok (x:=x) (y:=a.Z) (g N).1 (by obtain⟨z2,s,e,-⟩:=ok.z;rw[e];rfl)
  .exact gL.cells
 have ld:=iJ i j;have st:=qK i i m j;rw[ju j]at st;have S:aj (e=0->vU R x a.Pa (cL l).flatten (F l)/\(x=a.Pa->l=c.bO)):=⟨λN=>⟨(g N).2.1.qB (z:=4) af (Zn l) q o,(g N).2.2⟩⟩;have n1:F (h.push (aD c a)).I=F h.I+1:=bV _ _;have n2:F ((h.push (aD c a)).push (bB p)).I=F h.I+2:=by rw[bV,bV]
 clear A k L q o B C E j ok g u v t n f i;clear m;generalize aD c a=z1 at *
 generalize aD c0 a0=X at *
 generalize bB p=z0 at *
 unfold im at *
 refine cA O Tryz.func16 O ?_;refine bF @ap6 @d ?_;exact⟨_,_,O,x,O,S.M⟩
def aoR(h:ah)(c:Ce)(a:CA)(ok:c_ c a)(L:dS a)(C:c.Fit)(pM:F c.aW<1000000)(i:∀s es,a.Z=.ac .nil s es->es=[])(p:Int × Int)(b0 b1 m:Nat)(n0:b0≠m)(n1:b1≠m)(k:h.I[b0]?=J (aD c a))(o:h.I[b1]?=J (bI p))(g:h.I[m]?=J (aD c0 a0))(e:Int)(l:List (Int × Int))(d:mG c p=(e,l)):
 ∃r h',SC.call 56 [.ptr (.box b0) 0,.ptr (.box b1) 0,.ptr (.box m) 0] h=J (r,h')/\r=mc e/\(∀b cs,b≠m->h.I[b]?=J cs->h'.I[b]?=J cs)
  /\∃x,h'.I[m]?=J (if e=0 then aD c {a with Z:=x} else aD c0 a0)/\(e=0->x.dt=aa/\vU h' x a.Z (bY l).flatten (F l)/\(x=a.Z->l=c.aW)):=by
 have bx:=ok.cells;have bp:=JM p;obtain⟨_,h2,c49,rfl,f⟩:=ML h c a ok L C;obtain⟨-,-,-,-,-,l0⟩:=jH ok k;obtain⟨-,-,w4,p4,m4,m0⟩:=jH ok (f.box _ _ k);have mp:=(CK (f.box _ _ o)).2.2;have z3:=uN;have u23:=dp;have u32:=xv;obtain⟨kw,sw,ew,-⟩:=ok.w;obtain⟨kq,sq,eq,-⟩:=ok.pa;rw[ew]at w4;rw[eq]at p4;clear ew eq;have Aq:=db c.am;have il1:F (cL c.bO)=F c.bO:=by unfold cL;rw[bJ]
 have E':decide ((F c.bO:Int)=(F c.am:Int))=decide (F c.bO=F c.am):=by by_cases T:F c.bO=F c.am<;>simp[T];omega
 have qw:=FU (pr:=nL) O;have z_:=FT (pr:=nL) O;unfold mG at d;by_cases t:gQ c=0;rotate_left 1
 .have e4:gQ c=440:=(MJ c).resolve_left t;rw[aH t]at d;obtain⟨rfl,rfl⟩:=fP d;have A:=aj.mk λb cs (_:b≠m) hq=>f.box b cs hq;have j:=aj.mk (f.box _ _ g);rw[e4]at c49;have S:mc 440=.panic (mn 440):=rfl;rw[S]at c49;clear ok L C k o g f i m4 mp;generalize aD c a=z0 at *
  generalize aD c0 a0=Z0 at *
  refine cA O Ei O ?_;refine bD @Di ?_;exact⟨_,_,O,O,A.M,nl,j.M,λT=>by cases T⟩
 rw[aV (by simpa using t)]at d;rw[t]at c49;have e0:mc 0=.ret (.tuple []):=rfl;rw[e0]at c49;obtain⟨hN,-,ho,-⟩:=EA.1 t;obtain⟨kp,sp,v,u⟩:=ok.z;have c57:=(ama ok L C.2.2.1 (To hN) p).call;cases y:oT c.am p with
 |false=>
  rw[aH y]at d;obtain⟨rfl,rfl⟩:=fP d;rw[y]at c57;have A:=aj.mk λb cs (_:b≠m) hq=>f.box b cs hq;have j:=aj.mk (f.box _ _ g);have S:mc 400=.panic (mn 400):=rfl;clear ok L C k o g f i m4 t hN ho u v y;generalize aD c a=z0 at *
  generalize aD c0 a0=Z0 at *
  generalize bI p=z1 at *
  refine cA O Ei O ?_;refine bD @Di ?_;exact⟨_,_,O,S.symm,A.M,nl,j.M,λT=>by cases T⟩
 |true=>
 rw[aV (by simp[y])]at d;rw[y]at c57;by_cases N:F c.bO=F c.am;rotate_left 1
 .rw[aH N]at d;obtain⟨rfl,rfl⟩:=fP d;rw[cR N]at E';have A:=aj.mk λb cs (_:b≠m) hq=>f.box b cs hq;have j:=aj.mk (f.box _ _ g);have e420:mc 420=.panic (mn 420):=rfl;clear ok L C k o g f i m4 t hN ho u v y N;generalize aD c a=z0 at *
  generalize aD c0 a0=Z0 at *
  generalize bI p=z1 at *
  generalize cL c.bO=PL1 at *
  refine cA O Ei O ?_
  repeat' (first|simp(maxSteps:=9999999) (disch:=first|exact dZ|fail) only[gW,reduceIte,aT,aN,Di, *]|refine dX ?_ ?_<;>(intro _;try omega))
  all_goals exact⟨_,_,O,e420.symm,A.M,nl,j.M,λT=>by cases T⟩
 rw[aV (by simpa using N)]at d;rw[cD N]at E';obtain⟨r3,h3,c54,x3,q⟩:=apO h2 kp sp c.aW p u (λT=>by
  have:=i sp (bY c.aW) (by rw[v,T]);cases hl:c.aW with
  |nil=>rfl|cons a b=>rw[hl]at this;cases this) (λz4 z5 x z2 hi hj hl=>Zj ho hi hj hl) pM
 have r0:=x3.box _ _ (f.box _ _ k);have X:=x3.box _ _ (f.box _ _ g);obtain⟨-,-,-,-,-,n0'⟩:=jH ok r0;have s1:=qK gL.len ok.len ok.cells X;have A:=aj.mk λb cs (hb:b≠m) hq=>x3.box b cs (f.box b cs hq);have r4:(h3.put m (aD c a)).I[m]?=J (aD c a):=dM (bk.1 X).1;have Y:=λ(x:V) hx=>stZ (x:=x) ok hx r4;have R:=aj.mk (bk.1 X).1;rw[v]at m4;unfold De at d;unfold Sy at q;have e151:mc 151=.panic (mn 151):=rfl;cases hf:pz jz p.1 c.aW with
 |some z2=>
  rw[hf]at q d;simp only at q d;by_cases E:z2=p
  .rw[aH E]at q d;obtain⟨rfl,rfl⟩:=fP d;subst q;have Y:=Y (.ac kp sp (bY c.aW)) O;have j:=aj.mk (JU (D:=aD c a) (D2:=aD c {a with Z:=.ac kp sp (bY c.aW)}) A.M R.M);have kep:=aj.mk v;clear ok L C k o g f x3 i t hN ho u v y r0 X r4 hf E d R;obtain⟨B,n⟩:∃B,aD c {a with Z:=.ac kp sp (bY c.aW)}=B:=⟨_,O⟩;rw[n]at Y j;have kD:=aj.mk n;clear n;generalize aD c a=z0 at *
   generalize aD c0 a0=Z0 at *
   generalize bI p=z1 at *
   refine cA O Ei O ?_;refine bD @Di ?_;exact⟨_,_,O,O,j.M.1,.ac kp sp (bY c.aW),by rw[j.M.2,<-kD.M],λ_=>⟨O,.inl kep.M.symm,λ_=>trivial⟩⟩
  .rw[aV E]at q d;obtain⟨rfl,rfl⟩:=fP d;subst q;have j:=aj.mk X;clear ok L C k o g f x3 i t hN ho u v y r0 X r4 hf E d R s1 Y;generalize aD c a=z0 at *
   generalize aD c0 a0=Z0 at *
   generalize bI p=z1 at *
   refine cA O Ei O ?_;refine bD @Di ?_;exact⟨_,_,O,e151.symm,A.M,nl,j.M,λT=>by cases T⟩
 |none=>
  rw[hf]at q d;simp only at q d;obtain⟨b,rfl,qr,rf⟩:=q;obtain⟨rfl,rfl⟩:=fP d;have Y:=Y (.arr b 0 (F c.aW+1) (F c.aW+1)) O;have NH:b≠m:=by have:=(bk.1 (f.box _ _ g)).1;omega
  have j:=aj.mk (JU (D:=aD c a) (D2:=aD c {a with Z:=.arr b 0 (F c.aW+1) (F c.aW+1)}) A.M R.M);have kP:=aj.mk (ZV (D:=aD c a) (D2:=aD c {a with Z:=.arr b 0 (F c.aW+1) (F c.aW+1)}) NH rf);have kne:aj (V.arr b 0 (F c.aW+1) (F c.aW+1)≠a.Z):=⟨by rw[v];intro T;cases T⟩;have kl:aj (F (nE jz p c.aW)=F c.aW+1):=⟨XL p c.aW⟩;clear ok L C k o g f x3 i t hN ho u v y r0 X r4 hf d R qr rf;obtain⟨B,n⟩:∃B,aD c {a with Z:=.arr b 0 (F c.aW+1) (F c.aW+1)}=B:=⟨_,O⟩;rw[n]at Y j kP;have kD:=aj.mk n;clear n;generalize aD c a=z0 at *
  generalize aD c0 a0=Z0 at *
  generalize bI p=z1 at *
  refine cA O Ei O ?_;refine bD @Di ?_;exact⟨_,_,O,O,j.M.1,.arr b 0 (F c.aW+1) (F c.aW+1),by rw[j.M.2,<-kD.M],λ_=>⟨O,.inr ⟨b,by rw[kl.M],by rw[kl.M];omega,kP.M⟩,λT=>absurd T kne.M⟩⟩
def aoQ(h:ah)(c:Ce)(a:CA)(ok:c_ c a)(v:dS a)(t:c.Fit)(n:F c.aW<1000000)(f:∀s es,a.Z=.ac .nil s es->es=[])(p:Int × Int)(e:Int)(l:List (Int × Int))(u:mG c p=(e,l)):
 ∃r h',SC.call 18 [.agg (aD c a),.agg (bI p)] h=J (r,h')/\∃x,r=.ret (.tuple [.agg (if e=0 then aD c {a with Z:=x} else aD c0 a0),im e])/\(e=0->vU h' x a.Z (bY l).flatten (F l)/\(x=a.Z->l=c.aW)):=by
 have Y:=ok.cells;have b2:=JM p;have z:=vH;obtain⟨b,d⟩:∃b,((h.push (aD c a)).push (bI p)).push (aD c0 a0)=b:=⟨_,O⟩;have l3:F b.I=F h.I+3:=by rw[<-d];simp[bV]
 have B:b.I[F h.I]?=J (aD c a):=by rw[<-d];exact aX (aX (aU _ _))
 have C:b.I[F h.I+1]?=J (bI p):=by rw[<-d];refine aX ?_;have:=aU (h.push (aD c a)) (bI p);rwa [bV]at this
 have E:b.I[F h.I+2]?=J (aD c0 a0):=by rw[<-d];have:=aU ((h.push (aD c a)).push (bI p)) (aD c0 a0);rwa [bV,bV]at this
 obtain⟨_,h2,k,rfl,A,x,L,g⟩:=aoR (b.push [.v (.int .i64 0)]) c a ok v t n f p (F h.I) (F h.I+1) (F h.I+2) af af (aX B) (aX C) (aX E) e l u;have q:h2.I[F b.I]?=J [.v (.int .i64 0)]:=A _ _ af (aU _ _);obtain⟨R,T,o⟩:=HG (pr:=nL) O 56 _ b h2 e k q;have j:=o _ _ af L;have i:F (if e=0 then aD c {a with Z:=x} else aD c0 a0)=48:=by
  split
  .exact Un ok (x:=a.Pa) (y:=x)
  .exact gL.len
 have m:(V.agg (if e=0 then aD c {a with Z:=x} else aD c0 a0)).bP=J (if e=0 then aD c {a with Z:=x} else aD c0 a0):=by
  split
  .rename_i N;exact Um ok (x:=a.Pa) (y:=x) (by obtain⟨z2,s,e,-⟩:=ok.pa;rw[e];rfl) (g N).1
  .exact gL.cells
 have ld:=iJ i j;have st:=qK i i m j;rw[ju j]at st;have S:aj (e=0->vU R x a.Z (bY l).flatten (F l)/\(x=a.Z->l=c.aW)):=⟨λN=>⟨(g N).2.1.qB (z:=2) af (aaR l) q o,(g N).2.2⟩⟩;have n1:F (h.push (aD c a)).I=F h.I+1:=bV _ _;have n2:F ((h.push (aD c a)).push (bI p)).I=F h.I+2:=by rw[bV,bV]
 clear A k L q o B C E j ok g u v t n f i;clear m;generalize aD c a=z1 at *
 generalize aD c0 a0=X at *
 generalize bI p=z0 at *
 unfold im at *
 refine cA O Tryz.func18 O ?_;refine bF @ap8 @d ?_;exact⟨_,_,O,x,O,S.M⟩
def J_{z}:∀(L:List (List V)) (A:List V),(∀r∈L,F r=z)->og z (A++L.flatten) (F A) (F L)=L
 | [],_,_=>rfl
 |r::L,A,h=>by
  have b:=h r (.head _);have d:=J_ L (A++r) λg e=>h g (.tail _ e);unfold og at *
  rw[eZ,List.range_succ_eq_map,dR,xn,kJ];congr 1
  .rw[Nat.zero_mul,Nat.add_zero,DW];rw[List.take_left' b]
  .rw[jx,de,b]at d
   conv=>rhs;rw[<-d]
   refine List.map_congr_left λf _=>?_;simp only[Function.comp,adb];rw[(af:F A+(f*z+z)=F A+z+f*z)]
def aoL(l):og 4 (cL l).flatten 0 (F l)=cL l:=by have:=J_ (z:=4) (cL l) [] (by intro e b;unfold cL at b;obtain⟨d,-,rfl⟩:=iX.1 b;rfl);rw[eP,show(F (cL l))=F l by unfold cL;rw[bJ]]at this;exact this
def aua(l):og 2 (bY l).flatten 0 (F l)=bY l:=by have:=J_ (z:=2) (bY l) [] (by intro e b;unfold bY at b;obtain⟨d,-,rfl⟩:=iX.1 b;rfl);rw[eP,sH]at this;exact this
def LD:List a_:=LC++[14,15,10]
def ZD(g:a_):Nat:=if g=16 then 4 else if g=18 then 2 else 0
noncomputable def JR:a_->Option (List V->ah->Option (V × ah)):=mF SC LD ZD vi
noncomputable abbrev SD:=whole ag Gt JR
def T9:mN JR LD:=λd b=>⟨wC SC d,by unfold JR mF;rw[aH (by simpa using b)];rfl⟩
structure j8(a:CA):Prop where
 pa:∀s es,a.Pa=.ac .nil s es->es=[]
 z:∀s es,a.Z=.ac .nil s es->es=[]
def lE(c:Ce)(p:Pr):Ce:=if (mj c p).1=0 then {c with bO:=(mj c p).2} else c0
def nJ(c:Ce)(p:Int × Int):Ce:=if (mG c p).1=0 then {c with aW:=(mG c p).2} else c0
def IX:∀l:List Pr,ef (cL l)=cL l
 | []=>rfl
 |p::l=>by show bE (bB p)::ef (cL l)=_;rw[IX l];rfl
def Oj:∀l:List (Int × Int),ef (bY l)=bY l
 | []=>rfl
 |p::l=>by show bE (bI p)::ef (bY l)=_;rw[Oj l];rfl
def PJ:j8 a0:=⟨λ_ _ h=>by cases h;rfl,λ_ _ h=>by cases h;rfl⟩
section
variable {c:Ce} {a:CA} {z:Nat} {h:ah}
def oM{x:V}{k:Tok}{s:Nat}{es:List (List V)}(e:x=.ac k s es)(b:aA x=x):iW z h x=x:=by subst e;rw[aA]at b;injection b with d h2 f;rw[iW,d]
def Jl:∀a b:List V,nZ z h (a++b)=nZ z h a++nZ z h b
 | [],_=>rfl
 |x::a,b=>by rw[eY,nZ,Jl a b];rfl
def ak5(l:List UInt8):nZ z h (l.map gm)=l.map gm:=by
 induction l with
 |nil=>rfl|cons d l b=>show iW z h (gm d)::nZ z h (l.map gm)=_;rw[b];rfl
def BC(ok:c_ c a)(b:dS a){x y d e:V}(n:iW z h x=d)(o:iW z h y=e):nZ z h (aD c {a with Pa:=x,Z:=y})=aD c {a with Pa:=d,Z:=e}:=by obtain⟨p,A,T,f,-⟩:=ok.x.form;obtain⟨q,B,g,-⟩:=ok.y;obtain⟨r,C,i,-⟩:=ok.cm;obtain⟨s,L,j,-⟩:=ok.d.p;obtain⟨t,N,k,-⟩:=ok.d.r;obtain⟨u,R,l,-⟩:=ok.d.n;obtain⟨v,S,m,-⟩:=ok.w;unfold aD aJ bH;rw[Jl,Jl,Jl,ak5];simp only[nZ,oM f b.X,oM g b.Y,oM i b.C,oM j b.p,oM k b.r,oM l b.n,oM m b.W,n,o];rfl
def al0(ok:c_ c a)(b:dS a)(l:j8 a)(s:c.Fit)(m:F c.bO<1000000)(p:Pr):∃e,c_ (lE c p) e/\dS e/\j8 e/\∀h,SD.call 16 [.agg (aD c a),.agg (bB p)] h=J (.ret (.tuple [.agg (aD (lE c p) e),im (mj c p).1]),h):=by
 obtain⟨X,t,B,x,rfl,u⟩:=aoC ⟨[],[],0,[]⟩ c a ok b s m l.pa p (mj c p).1 (mj c p).2 O;have n:bE [V.agg (aD c a),.agg (bB p)]=[.agg (aD c a),.agg (bB p)]:=by simp only[bE,aA,tq b,P9]
 have y:aM 0 0 0 [V.agg (aD c a),.agg (bB p)]=aa:=by simp only[aM,aK,pi ok b];rfl
 obtain⟨N,S,ez,-⟩:=ok.z;have d:∀(e:CA),c_ (lE c p) e->dS e->nZ 4 t (if (mj c p).1=0 then aD c {a with Pa:=x} else aD c0 a0)=aD (lE c p) e->∀h,SD.call 16 [.agg (aD c a),.agg (bB p)] h=J (.ret (.tuple [.agg (aD (lE c p) e),im (mj c p).1]),h):=by
  intro e g f o;refine YM (z:=3) (L:=LD) O O n y B ?_ ?_
  .simp only[iW,nZ,o];rfl
  .simp[aK,aM,pi g f,im]
 by_cases i:(mj c p).1=0
 .rw[aH i]at d;have k:lE c p={c with bO:=(mj c p).2}:=by unfold lE;rw[aH i]
  rw[k]at d ⊢;obtain⟨j,C⟩:=u i;rcases j with j|⟨T,rfl,A,v⟩
  .have q:=C j;rw[q]at d ⊢;obtain⟨E,R,r,-⟩:=ok.pa;exact⟨a,ok,b,l,d a ok b (by rw[j];exact BC ok b (oM r b.Pa) (oM ez b.Z))⟩
  .have g:c_ {c with bO:=(mj c p).2} {a with Pa:=.ac .held 4 (cL (mj c p).2)}:=⟨ok.x,ok.y,ok.cm,ok.d,ok.w,⟨.held,4,O,λ_=>rfl⟩,ok.z⟩;have f:dS {a with Pa:=.ac .held 4 (cL (mj c p).2)}:=⟨b.X,b.Y,b.C,b.p,b.r,b.n,b.W,by simp only[aA,IX];rfl,b.Z⟩;refine⟨_,g,f,⟨λ_ _ B=>(by cases B),l.z⟩,d _ g f ?_⟩;refine BC ok b ?_ (oM ez b.Z);rw[iW,v];simp only;rw[aH ⟨by rw[Zn];omega,by omega⟩,aoL]
 .rw[aV i]at d;have k:lE c p=c0:=by unfold lE;rw[aV i]
  rw[k]at d ⊢;exact⟨a0,gL,xV,PJ,d a0 gL xV (BC gL xV (oM O O) (oM O O))⟩
def al3(ok:c_ c a)(b:dS a)(l:j8 a)(s:c.Fit)(n:F c.aW<1000000)(p:Int × Int):∃e,c_ (nJ c p) e/\dS e/\j8 e/\∀h,SD.call 18 [.agg (aD c a),.agg (bI p)] h=J (.ret (.tuple [.agg (aD (nJ c p) e),im (mG c p).1]),h):=by
 obtain⟨X,t,B,x,rfl,u⟩:=aoQ ⟨[],[],0,[]⟩ c a ok b s n l.z p (mG c p).1 (mG c p).2 O;have o:bE [V.agg (aD c a),.agg (bI p)]=[.agg (aD c a),.agg (bI p)]:=by simp only[bE,aA,tq b];rfl
 have y:aM 0 0 0 [V.agg (aD c a),.agg (bI p)]=aa:=by simp only[aM,aK,pi ok b];rfl
 obtain⟨E,R,m,-⟩:=ok.pa;have d:∀(e:CA),c_ (nJ c p) e->dS e->nZ 2 t (if (mG c p).1=0 then aD c {a with Z:=x} else aD c0 a0)=aD (nJ c p) e->∀h,SD.call 18 [.agg (aD c a),.agg (bI p)] h=J (.ret (.tuple [.agg (aD (nJ c p) e),im (mG c p).1]),h):=by
  intro e g f q;refine YM (z:=1) (L:=LD) O O o y B ?_ ?_
  .simp only[iW,nZ,q];rfl
  .simp[aK,aM,pi g f,im]
 by_cases i:(mG c p).1=0
 .rw[aH i]at d;have k:nJ c p={c with aW:=(mG c p).2}:=by unfold nJ;rw[aH i]
  rw[k]at d ⊢;obtain⟨j,C⟩:=u i;rcases j with j|⟨T,rfl,A,v⟩
  .have r:=C j;rw[r]at d ⊢;obtain⟨N,S,ez,-⟩:=ok.z;exact⟨a,ok,b,l,d a ok b (by rw[j];exact BC ok b (oM m b.Pa) (oM ez b.Z))⟩
  .have g:c_ {c with aW:=(mG c p).2} {a with Z:=.ac .held 2 (bY (mG c p).2)}:=⟨ok.x,ok.y,ok.cm,ok.d,ok.w,ok.pa,⟨.held,2,O,λ_=>rfl⟩⟩;have f:dS {a with Z:=.ac .held 2 (bY (mG c p).2)}:=⟨b.X,b.Y,b.C,b.p,b.r,b.n,b.W,b.Pa,by simp only[aA,Oj];rfl⟩;refine⟨_,g,f,⟨l.pa,λ_ _ B=>by cases B⟩,d _ g f ?_⟩;refine BC ok b (oM m b.Pa) ?_;rw[iW,v];simp only;rw[aH ⟨by rw[aaR];omega,by omega⟩,aua]
 .rw[aV i]at d;have k:nJ c p=c0:=by unfold nJ;rw[aV i]
  rw[k]at d ⊢;exact⟨a0,gL,xV,PJ,d a0 gL xV (BC gL xV (oM O O) (oM O O))⟩
def XZ(ok:c_ c a)(b:dS a)(d:c.Fit):cy SD 14 [.agg (aD c a)] (im (gQ c)):=by obtain⟨_,_,e,rfl⟩:=agz ⟨[],[],0,[]⟩ c a ok b d;exact cy.AC (L:=LD) e O (by simp only[bE,aA,tq b]) (by simp only[aM,aK,pi ok b];rfl) O rfl
end
def ay9:Tryz.f22.results.toList=[.tmp 4]:=by kernel_rfl
def ayY:Tryz.f107.results.toList=[.tmp 4]:=by kernel_rfl
def J1:Tryz.f47.results.toList=[.tmp 4]:=by kernel_rfl
def ZS29{p:Prop}(h:p:=by
 obtain⟨R,s,rfl,g⟩:=n;obtain⟨p,k,rfl,d⟩:=o;have j:=aj.mk (ar g d);clear g d;have v:=dp;have T:=fa;have t:=db l;refine cA O Q197 O ?_;refine bD @Q198 ?_;refine cJ (λu f H=>∃e:Nat,e<=F l/\u=F l-e/\f.get 0=.ac R s (aF l)/\f.get 1=.ac p k (aF l)/\f.get 5=(e:Nat)/\f.defers=[]/\H=h) ?_ (F l) _ _ ?_;rotate_left 1
 .refine⟨0,cC _,O,?_,?_,?_,?_,O⟩<;>exact gR
 rintro u f H ⟨e,L,rfl,A,B,C,D,rfl⟩;by_cases b:e<F l
 .have i:s=1:=j.M.1 (by intro q;rw[q]at b;simp at b);have d:k=1:=j.M.2 (by intro q;rw[q]at b;simp at b);subst i;subst d;have S:=eI (H:=H) (s:=1) b;have m:(e:Int)<(F l:Int):=by omega
  generalize al l e=X at *
  refine bF @Q198 @bj ?_;refine dW T9 bX ?_
  repeat' (first|simp(maxSteps:=9999999) (disch:=first|exact dZ|fail) only[gW,reduceIte,aT,aN,Q198,bj, *]|refine dX ?_ ?_<;>(intro _;try omega))
  all_goals exact⟨F l-(e+1),by omega,e+1,by omega,O,by simp⟩
 .have:e=F l:=by omega
  subst this;refine bD @Q198 ?_;exact⟨_,_,O,O,O⟩):p:=h
section
open Go.Proofs.Tryz renaming func22->Q197
open Go.Proofs.YtcbhpkjbiehcpaaGreatDoor renaming ay9->Q198
def atG(h:ah){x y:V}{l:List Int}(n:IL x l)(o:IL y l)(N:F l<=1000000):∃r h',SD.call 22 [x,y] h=J (r,h')/\h'=h/\r=.ret (aa:V):=ZS29
end
section
open Go.Proofs.Tryz renaming func107->Q197
open Go.Proofs.YtcbhpkjbiehcpaaGreatDoor renaming ayY->Q198
def atD(h:ah){x y:V}{l:List Int}(n:IL x l)(o:IL y l)(N:F l<=1000000):∃r h',SD.call 107 [x,y] h=J (r,h')/\h'=h/\r=.ret (aa:V):=ZS29
end
def atJ(h:ah){x y:V}{l:List Pr}(o:PL x l)(f:PL y l)(R:F l<=1000000):∃r h',SD.call 47 [x,y] h=J (r,h')/\h'=h/\r=.ret (aa:V):=by
 obtain⟨S,s,rfl,i⟩:=o;obtain⟨p,m,rfl,d⟩:=f;have k:=aj.mk (ar i d);clear i d;have v:=xv;have A:=vD;have t:F (cL l)=F l:=by unfold cL;rw[bJ]
 refine cA O Tryz.func47 O ?_;refine bD @J1 ?_;refine cJ (λu g H=>∃e:Nat,e<=F l/\u=F l-e/\g.get 0=.ac S s (cL l)/\g.get 1=.ac p m (cL l)/\g.get 5=(e:Nat)/\g.defers=[]/\H=h) ?_ (F l) _ _ ?_;rotate_left 1
 .refine⟨0,cC _,O,?_,?_,?_,?_,O⟩<;>exact gR
 rintro u g H ⟨e,N,rfl,B,C,D,L,rfl⟩;by_cases b:e<F l
 .have j:s=4:=k.M.1 (by intro q;rw[q]at b;simp at b);have d:m=4:=k.M.2 (by intro q;rw[q]at b;simp at b);subst j;subst d;obtain⟨y,f⟩:∃y,l[e]?=J y:=⟨_,aY b⟩;have T:=vm (H:=H) (s:=4) f;have ne:=λx z=>anG (x:=x) (y:=z) y y;rw[cD O]at ne;have n:(e:Int)<(F l:Int):=by omega
  clear f;generalize bB y=X at *
  refine bF @J1 @bj ?_;refine dW T9 bX ?_
  repeat' (first|simp(maxSteps:=9999999) (disch:=first|exact dZ|fail) only[gW,reduceIte,aT,aN,J1,bj, *]|refine dX ?_ ?_<;>(intro _;try omega))
  all_goals exact⟨F l-(e+1),by omega,e+1,by omega,O,by simp⟩
 .have:e=F l:=by omega
  subst this;refine bD @J1 ?_;exact⟨_,_,O,O,O⟩
def aii(d)(a b):dQ ag (Op.equalIn (d+1) 5 (.int .u8 a) (.int .u8 b))=J (a==b):=by unfold Op.equalIn;rw[iD,Dd Tryz.underlying5,jO];simp[dQ];rfl
def ZU{e}{P}(f)(init:e):∀l:List Nat,(∀i∈l,dQ P (f i init)=J (.yield init))->dQ P (forIn l init f)=J init
 | [],_=>rfl
 |i::l,h=>by rw[List.forIn_cons,iD,h i (.head _),jO];exact ZU f init l λd b=>h d (.tail _ b)
def vG(l:List UInt8):Array aQ:=(l.map λb=>Value.int .u8 b.toNat).toArray
def awg(l):(V.agg (l.map gm)).flat=J (.agg (vG l)):=by
 have:uP (l.map gm)=J (l.map λb=>Value.int .u8 b.toNat):=by
  induction l with
  |nil=>rfl|cons b l d=>show(uP (l.map gm)).map (Value.int .u8 b.toNat::·)=_;rw[d];rfl
 show(uP (l.map gm)).map (λl=>Value.agg l.toArray)=_;rw[this];rfl
def Zu{l}{i}{b}(h:l[i]?=J b):dQ ag (part 5 (vG l) i)=J (.int .u8 b.toNat):=by
 unfold part;have d:dQ ag (isAgg 5)=J au:=by kernel_rfl
 rw[iD,d,jO];have:(vG l)[i]?=J (.int .u8 b.toNat):=by unfold vG;simp[h]
 simp[this];rfl
def aih{x y}{l:List UInt8}(k:F l=32):df ag .eql 29 x y (.agg (l.map gm)) (.agg (l.map gm))=J (aa:V):=by
 have f:dQ ag (eqGuard .eql 29 x y (.agg (vG l)) (.agg (vG l)))=J ():=by kernel_rfl
 have b:df ag .eql 29 x y (.agg (l.map gm)) (.agg (l.map gm))=Bu ag .eql 29 x y (.agg (l.map gm)) (.agg (l.map gm)):=rfl;rw[b];unfold Bu;rw[awg];simp only;rw[iD,f,jO];show(dQ ag (do pure (.bool (<-Op.equal 29 (.agg (vG l)) (.agg (vG l)))))).bind lH=_;rw[iD];have:dQ ag (Op.equalIn 10000 29 (.agg (vG l)) (.agg (vG l)))=J aa:=by
  unfold Op.equalIn;have g:dQ ag (sizeOf 5)=J 1:=by kernel_rfl
  rw[iD,Dd Mg,jO];simp only;rw[iD,g,jO,iD,Std.Legacy.Range.forIn_eq_forIn_range',ZU]
  .rfl
  .intro i d;have d:i<32:=(by have:=List.mem_range'.1 d;obtain⟨m,e,h2⟩:=this;simp[Std.Legacy.Range.size]at e;have h2:i=0+1*m:=h2;omega);obtain⟨j,b⟩:∃j,l[i]?=J j:=⟨_,aY af⟩;rw[mr,iD,Zu b,jO,iD,Zu b,jO,iD,aii 9998,jO,beq_self_eq_true];rfl
 unfold Op.equal Op.maxDepth;rw[this];rfl
def LE:List a_:=LD++[16,18,22,107,47]
noncomputable def JS:a_->Option (List V->ah->Option (V × ah)):=mF SD LE (λ_=>0) vi
noncomputable abbrev SE:=whole ag Gt JS
def T_:mN JS LE:=λd b=>⟨wC SD d,by unfold JS mF;rw[aH (by simpa using b)];rfl⟩
def Kr{x y}{l}(g:IL x l)(i:IL y l)(f:F l<=1000000):∀h,SE.call 22 [x,y] h=J (.ret (aa:V),h):=by obtain⟨b,h2⟩:=g.hold;obtain⟨d,e⟩:=i.hold;obtain⟨_,_,j,rfl,rfl⟩:=atG ⟨[],[],0,[]⟩ b d f;exact FS (L:=LE) (u:=[aA x,aA y]) O O (by simp[aM,h2,e]) j O rfl
def QV{x y}{l}(g:IL x l)(i:IL y l)(f:F l<=1000000):∀h,SE.call 107 [x,y] h=J (.ret (aa:V),h):=by obtain⟨b,h2⟩:=g.hold;obtain⟨d,e⟩:=i.hold;obtain⟨_,_,j,rfl,rfl⟩:=atD ⟨[],[],0,[]⟩ b d f;exact FS (L:=LE) (u:=[aA x,aA y]) O O (by simp[aM,h2,e]) j O rfl
def atK{x y}{l}(g:PL x l)(i:PL y l)(f:F l<=1000000):∀h,SE.call 47 [x,y] h=J (.ret (aa:V),h):=by obtain⟨b,h2⟩:=g.ip;obtain⟨d,e⟩:=i.ip;obtain⟨_,_,j,rfl,rfl⟩:=atJ ⟨[],[],0,[]⟩ b d f;exact FS (L:=LE) (u:=[aA x,aA y]) O O (by simp[aM,h2,e]) j O rfl
def JX:Tryz.f106.results.toList=[.tmp 4]:=by kernel_rfl
def aqb:Tryz.f45.results.toList=[.tmp 4]:=by kernel_rfl
def aqc:Tryz.f46.results.toList=[.tmp 4]:=by kernel_rfl
def JY:Tryz.f13.results.toList=[.tmp 4]:=by kernel_rfl
def atC(h:ah){z1 v S k:V}{U:List (List Int)}{ae:List Int}(hX:RL z1 U)(q:IL v ae)(NA:RL S U)(g:IL k ae)(E:F U<=1000000)(ho:F ae<=1000000)(A:∀r∈U,F r<=1000000):
 ∃r h',SE.call 106 [.agg [z1,v],.agg [S,k]] h=J (r,h')/\r=.ret (aa:V)/\Ext h h':=by
 have cY:=Kr q g ho;have X:=q.bP;have Y:=g.bP;obtain⟨R,u,e,rfl,hs,fF,B⟩:=hX;obtain⟨s,n,b,rfl,j,L,m⟩:=NA;have kr:=aj.mk (λd a a2 r (h1:e[d]?=J a) (h2:b[d]?=J a2) (C:U[d]?=J r)=>Kr (B d a r h1 C) (m d a2 r h2 C) (A r (List.mem_of_getElem? C)));have ks:=aj.mk (ar hs j);have b1:(V.agg [.ac R u (e.map λa=>[a]),v]).bP=J [.ac R u (e.map λa=>[a]),v]:=by obtain⟨_,_,rfl,-⟩:=q;rfl
 have b2:(V.agg [.ac s n (b.map λa=>[a]),k]).bP=J [.ac s n (b.map λa=>[a]),k]:=by obtain⟨_,_,rfl,-⟩:=g;rfl
 clear hs j B m A q g X Y;have u23:=dp;have u22:=gZ;have z23:=iA;have z3:=fa;have e_:F (e.map λa=>[a])=F U:=by rw[bJ];exact fF
 have u':F (b.map λa=>[a])=F U:=by rw[bJ];exact L
 obtain⟨H,p⟩:∃H,(h.push [.ac R u (e.map λa=>[a]),v]).push [.ac s n (b.map λa=>[a]),k]=H:=⟨_,O⟩;have N:H.I[F h.I]?=J [.ac R u (e.map λa=>[a]),v]:=by rw[<-p];exact aX (aU _ _)
 have t:H.I[F (h.push [.ac R u (e.map λa=>[a]),v]).I]?=J [.ac s n (b.map λa=>[a]),k]:=by rw[<-p];exact aU _ _
 have n1:=bV h [.ac R u (e.map λa=>[a]),v];rw[n1]at t;have l0:=oP N;have l1:=yk N;have m0:=oP t;have m1:=yk t;have f0:=λT=>dN (b:=T);have f1:=λT=>fE (b:=T);have kx:aj (Ext h H):=⟨by rw[<-p];exact(Ext.push _ _).trans (.push _ _)⟩;clear N t;refine cA O Tryz.func106 O ?_;refine dA @JX @bC @p ?_;refine bM.gen λo i y fM eS=>?_;have f2:o.get 2=.ptr (.box (F h.I)) 0:=by rw[i];exact gS
 have f3:o.get 3=.ptr (.box (F h.I+1)) 0:=by rw[i];simp only[gW,reduceIte,aT,aN,n1]
 have f5:o.get 5=(0:Nat):=by rw[i];exact gR
 have fd:o.defers=[]:=by rw[y];exact gS
 clear i y fM eS;refine cJ (λz2 Z K=>∃d:Nat,d<=F U/\z2=F U-d/\Z.get 2=.ptr (.box (F h.I)) 0/\Z.get 3=.ptr (.box (F h.I+1)) 0/\Z.get 5=(d:Nat)/\Z.defers=[]/\K=H) ?_ (F U) _ _ ?_;rotate_left 1
 .exact⟨0,cC _,O,f2,f3,f5,fd,O⟩
 clear f2 f3 f5 fd;rintro z2 Z K ⟨d,hi,rfl,g2,g3,g5,hd,rfl⟩;by_cases f:d<F U
 .have eM:u=1:=ks.M.1 (by intro z0;rw[z0]at f;simp at f);have j:n=1:=ks.M.2 (by intro z0;rw[z0]at f;simp at f);subst eM;subst j;obtain⟨r,E⟩:∃r,U[d]?=J r:=⟨_,aY f⟩;obtain⟨a,D⟩:∃a,e[d]?=J a:=⟨_,aY af⟩;obtain⟨a2,l⟩:∃a,b[d]?=J a:=⟨_,aY af⟩;have ld:=jc (H:=K) (s:=1) D;have ld2:=jc (H:=K) (s:=1) l;have c22:=kr.M d a a2 r D l E;have gG:(d:Int)<(F U:Int):=by omega
  clear D l E;refine bF @JX @bj ?_;refine dW T_ bX ?_
  repeat' (first|simp(maxSteps:=9999999) (disch:=first|exact dZ|fail) only[gW,reduceIte,aT,aN,JX,bj, *]|refine dX ?_ ?_<;>(intro _;try omega))
  all_goals exact⟨F U-(d+1),by omega,d+1,by omega,O,by simp⟩
 .have:d=F U:=by omega
  subst this
  repeat' (first|simp(maxSteps:=9999999) (disch:=first|exact dZ|fail) only[gW,reduceIte,aT,aN,JX, *]|refine dX ?_ ?_<;>(intro _;try omega))
  all_goals exact⟨_,_,O,O,kx.M⟩
def Yg{H}{b}{d}{p r n}(e:F d.tx=32)(f:H.I[b]?=J (bH d p r n)):aL ag Gt H 29 (.ptr (.box b) 9)=J (.agg (d.tx.map gm)):=by rw[fS bX (by kernel_rfl:cQ ag 29=J 32) f (by unfold bH;rw[de,bJ,e];exact bh _)];show J (V.agg (List.take 32 (d.tx.map gm)))=_;rw[fK (by rw[bJ,e];exact bh _)]
def atH(h:ah)(ep:Int){o p C e f d:V}{U:List (List Int)}{ae b:List Int}(v:RL o U)(y:IL p ae)(u:IL C b)(i:RL e U)(j:IL f ae)(g:IL d b)(N:F U<=1000000)(L:F ae<=1000000)(s:∀r∈U,F r<=1000000)(A:F b<=1000000):
 ∃r h',SE.call 45 [.agg (aJ ep o p C),.agg (aJ ep e f d)] h=J (r,h')/\r=.ret (aa:V)/\Ext h h':=by
 have X:=mD (ep:=ep) v y u;have Y:=mD (ep:=ep) i j g;obtain⟨H,l⟩:∃H,(h.push (aJ ep o p C)).push (aJ ep e f d)=H:=⟨_,O⟩;have m:H.I[F h.I]?=J (aJ ep o p C):=by rw[<-l];exact aX (aU _ _)
 have k:H.I[F (h.push (aJ ep o p C)).I]?=J (aJ ep e f d):=by rw[<-l];exact aU _ _
 have S:=bV h (aJ ep o p C);rw[S]at k;obtain⟨_,t,E,rfl,n⟩:=atC H v y i j N L s;have T:=Kr u g A;have B:=n.box _ _ m;have D:=n.box _ _ k;have Z:aL ag Gt H 3 (.ptr (.box (F h.I)) 0)=J (im ep):=by rw[fx eH m];rfl
 have m0:aL ag Gt H 3 (.ptr (.box (F h.I+1)) 0)=J (im ep):=by rw[fx eH k];rfl
 have l1:aL ag Gt H 25 (.ptr (.box (F h.I)) 1)=J (.agg [o,p]):=by rw[fS bX (by kernel_rfl:cQ ag 25=J 2) m (by decide:1+2<=4)];rfl
 have m1:aL ag Gt H 25 (.ptr (.box (F h.I+1)) 1)=J (.agg [e,f]):=by rw[fS bX (by kernel_rfl:cQ ag 25=J 2) k (by decide:1+2<=4)];rfl
 have l2:aL ag Gt t 23 (.ptr (.box (F h.I)) 3)=J C:=by rw[fx mV B];rfl
 have m2:aL ag Gt t 23 (.ptr (.box (F h.I+1)) 3)=J d:=by rw[fx mV D];rfl
 have f0:=λq=>rL (b:=q);have f1:=λq=>iM (b:=q);have f2:=λq=>jF (b:=q);have R:aj (Ext h t):=⟨(by rw[<-l];exact(Ext.push _ _).trans (.push _ _):Ext h H).trans n⟩;clear m k B D n v y u i j g s;generalize aJ ep o p C=K1 at *
 generalize aJ ep e f d=K2 at *
 unfold im at *
 refine cA O Tryz.func45 O ?_
 repeat' (first|simp(maxSteps:=9999999) (disch:=first|exact dZ|fail) only[gW,reduceIte,aT,aN,aqb,bC,l, *]|refine dX ?_ ?_<;>(intro _;try omega))
 all_goals exact⟨_,_,O,O,R.M⟩
def atI(h:ah)(d:Dc){p r n f r2 e:V}(ok:mo d p r n)(b:mo d f r2 e)(i:F d.pa<=1000000/\F d.rv<=1000000/\F d.nd<=1000000):
 ∃l h',SE.call 46 [.agg (bH d p r n),.agg (bH d f r2 e)] h=J (l,h')/\l=.ret (aa:V)/\Ext h h':=by
 have t:=ok.cells;have u:=b.cells;obtain⟨H,g⟩:∃H,(h.push (bH d p r n)).push (bH d f r2 e)=H:=⟨_,O⟩;have k:H.I[F h.I]?=J (bH d p r n):=by rw[<-g];exact aX (aU _ _)
 have j:H.I[F (h.push (bH d p r n)).I]?=J (bH d f r2 e):=by rw[<-g];exact aU _ _
 have o:=bV h (bH d p r n);rw[o]at j;have v:=QV ok.p b.p i.1;have y:=QV ok.r b.r i.2.1;have A:=QV ok.n b.n i.2.2;have E:=tM k;have L:=tM j;have C:=Yg ok.t k;have D:=Yg ok.t j;have B:=λx q=>aih (x:=x) (y:=q) ok.t;have N:=EK;have m:aj (Ext h H):=⟨by rw[<-g];exact(Ext.push _ _).trans (.push _ _)⟩;clear k j ok b i;generalize bH d p r n=K1 at *
 generalize bH d f r2 e=K2 at *
 generalize d.tx.map gm=s at *
 unfold im at *
 refine cA O Tryz.func46 O ?_
 repeat' (first|simp(maxSteps:=9999999) (disch:=first|exact dZ|fail) only[gW,reduceIte,aT,aN,aqc,bC,g,List.append_eq,eY,eP, *]|refine dX ?_ ?_<;>(intro _;try omega))
 all_goals exact⟨_,_,O,O,m.M⟩
structure Md(c:Ce):Prop where
 U:c.U.length<=1000000
 ae:c.ae.length<=1000000
 uL:∀r∈c.U,r.length<=1000000
 av:c.av.length<=1000000
 doc:c.doc.pa.length<=1000000/\c.doc.rv.length<=1000000/\c.doc.nd.length<=1000000
 am:c.am.length<=1000000
 bO:c.bO.length<=1000000
 aW:c.aW.length<=1000000
def atE(h:ah)(c:Ce)(a a2:CA)(ok:c_ c a)(b:c_ c a2)(d:Md c):
 ∃r h',SE.call 13 [.agg (aD c a),.agg (aD c a2)] h=J (r,h')/\r=.ret (aa:V)/\Ext h h':=by
 have b1:=ok.cells;have b2:=b.cells;obtain⟨H,j⟩:∃H,(h.push (aD c a)).push (aD c a2)=H:=⟨_,O⟩;have p:H.I[F h.I]?=J (aD c a):=by rw[<-j];exact aX (aU _ _)
 have k:H.I[F (h.push (aD c a)).I]?=J (aD c a2):=by rw[<-j];exact aU _ _
 have T:=bV h (aD c a);rw[T]at k;obtain⟨_,H2,c45,rfl,l⟩:=atH H c.ep ok.x ok.y ok.cm b.x b.y b.cm d.U d.ae d.uL d.av;obtain⟨_,v,c46,rfl,x3⟩:=atI H2 c.doc ok.d b.d d.doc;have c22:=Kr ok.w b.w d.am;have c47:=atK ok.pa b.pa d.bO;have q:=l.box _ _ p;have t:=l.box _ _ k;have X:=x3.box _ _ q;have Y:=x3.box _ _ t;obtain⟨l0,-⟩:=jH ok p;obtain⟨m0,-⟩:=jH b k;obtain⟨-,l1,-⟩:=jH ok q;obtain⟨-,m1,-⟩:=jH b t;obtain⟨-,-,l2,l3,l4,-⟩:=jH ok X;obtain⟨-,-,m2,m3,m4,-⟩:=jH b Y;obtain⟨kz,sz,ez,R⟩:=ok.z;obtain⟨kz2,Z,m,o⟩:=b.z;have S:=aj.mk (ar R o);rw[ez]at l4;rw[m]at m4;have il:=sH c.aW;have u33:=uC;have z48:=DJ;have z3:=uN;have kx:aj (Ext h v):=⟨((by rw[<-j];exact(Ext.push _ _).trans (.push _ _):Ext h H).trans l).trans x3⟩;have Fv:=d.aW;clear p k q t X Y l x3 ok b d ez m R o;generalize aD c a=K1 at *
 generalize aD c a2=K2 at *
 refine cA O Tryz.func13 O ?_;refine dA @JY @bC @j ?_;refine bM.gen λi f n B C=>?_;have f2:i.get 2=.ptr (.box (F h.I)) 0:=by rw[f];exact gS
 have f3:i.get 3=.ptr (.box (F h.I+1)) 0:=by rw[f];simp only[gW,reduceIte,aT,aN,T]
 have f5:i.get 5=(0:Nat):=by rw[f];exact gR
 have A:i.defers=[]:=by rw[n];exact gS
 clear f n B C;refine cJ (λz1 y K=>∃g:Nat,g<=F c.aW/\z1=F c.aW-g/\y.get 2=.ptr (.box (F h.I)) 0/\y.get 3=.ptr (.box (F h.I+1)) 0/\y.get 5=(g:Nat)/\y.defers=[]/\K=v) ?_ (F c.aW) _ _ ?_;rotate_left 1
 .exact⟨0,cC _,O,f2,f3,f5,A,O⟩
 clear f2 f3 f5 A;rintro z1 y K ⟨g,hi,rfl,g2,g3,g5,hd,rfl⟩;by_cases e:g<F c.aW
 .have D:sz=2:=S.M.1 (by intro z0;rw[z0]at e;simp at e);have L:Z=2:=S.M.2 (by intro z0;rw[z0]at e;simp at e);subst D;subst L;obtain⟨u,N⟩:∃u,c.aW[g]?=J u:=⟨_,aY e⟩;have ld:=Yn (H:=K) (s:=2) N;have ne:=λx z=>anH (x:=x) (y:=z) u u;rw[cD O]at ne;have gG:(g:Int)<(F c.aW:Int):=by omega
  clear N;generalize bI u=z2 at *
  refine bF @JY @bj ?_;refine dW T_ bX ?_
  repeat' (first|simp(maxSteps:=9999999) (disch:=first|exact dZ|fail) only[gW,reduceIte,aT,aN,JY,bj, *]|refine dX ?_ ?_<;>(intro _;try omega))
  all_goals exact⟨F c.aW-(g+1),by omega,g+1,by omega,O,by simp⟩
 .have:g=F c.aW:=by omega
  subst this
  repeat' (first|simp(maxSteps:=9999999) (disch:=first|exact dZ|fail) only[gW,reduceIte,aT,aN,JY, *]|refine dX ?_ ?_<;>(intro _;try omega))
  all_goals exact⟨_,_,O,O,kx.M⟩
end Go.Proofs.YtcbhpkjbiehcpaaGreatDoor
end
section
namespace Go.AE
open Go.RowKit (Below)
mutual
def nK:V->Bool
 | .v _=>aa
 | .agg b=>AH b
 | .tuple b=>AH b
 | .ac .nil _ []=>aa
 |_=>au
def AH:List V->Bool
 | []=>aa
 |x::b=>nK x&&AH b
end
def sX(z:Nat)(h:ah):V->Bool
 | .arr f b len _=>match h.I[f]? with
  |some d=>decide (b+len*z<=F d)&&decide (0<z)&&AH ((d.drop b).take (len*z))|none=>au
 | .ac (.free g) _ e=>alive h g&&AH e.flatten
 |x=>nK x
def Bq(z:Nat)(h:ah):V->V
 | .arr g b len _=>match h.I[g]? with
  |some d=>.ac .held z (og z d b len)
  |none=>.bad
 | .ac (.free _) f e=>.ac .held f e
 |x=>x
section
variable {P:bL} {G:Nat->Option (List V)} {ok:a_->Nat->Code->Bool} {w0 w w':World} {K K1 K2:bA} {h h2:ah} {z:Nat}
mutual
def aZ.plain:∀{x:V} {c:aQ},aZ K1 x c->nK x=aa->aZ K2 x c
 |_,_,.bad c,_=>.bad c
 |_,_,.v x l,_=>.v x l
 |_,_,.nil e,_=>.nil e
 |_,_,.gH e a,_=>.gH e a
 |_,_,.ac R e n i b T f cells D k d q s o,h=>by
  cases R with|nil=>exact s.2.elim|aP=>simp[nK]at h|free N=>simp[nK]at h|held=>simp[nK]at h
 |_,_,.arr v i b len f t m p r u E k,h=>by simp[nK]at h
 |_,_,.agg j g d,h=>.agg _ g (aR.plain d (by simpa only[nK] using h))
 |_,_,.tuple j g d,h=>.tuple _ g (aR.plain d (by simpa only[nK] using h))
 |_,_,.box v i b p,h=>by simp[nK]at h
 |_,_,.ec i b,h=>.ec i b
 |_,_,.elem e n N b i X Y cells k d q C L o,h=>by simp[nK]at h
 |_,_,.func y first f A j B h2,h=>by simp[nK]at h
 |_,_,.yield S i r,h=>by simp[nK]at h
 |_,_,.iface Z x c l,h=>by simp[nK]at h
def aR.plain:∀{xs:List V} {cs:List aQ},aR K1 xs cs->AH xs=aa->aR K2 xs cs
 |_,_,.nil,_=>.nil
 |_,_,.cons x c xs cs d b,h=>by simp only[AH,bQ]at h;exact .cons _ c _ cs (aZ.plain d h.1) (aR.plain b h.2)
end
def aZ.HA(y:bZ K1 G ok w h2 w')(m:∀g j c,K1.base<=g->w'.cell? ⟨g,j,aq⟩=J c->K2.ic g j=J c){x:V}{c:aQ}(e:aZ K1 x c)(h:sX z h2 x=aa):aZ K2 (Bq z h2 x) c:=by
 cases e with
 |arr R g d len i b l B T qs ho o=>
  simp only[sX,Bq]at h ⊢;cases p:h2.I[R]? with
  |none=>simp_all|some f=>
   rw[p]at h;simp only[bQ,decide_eq_true_eq]at h ⊢;obtain⟨⟨D,hz⟩,S⟩:=h;obtain⟨Y,q2,q3,cells,z4,Z,N⟩:=y.box R g f B p;have X:=N.le;by_cases h0:i=0
   .have:len=0:=(by omega);subst this;exact .ac .held z [] g b 0 l [] O (λ_ h=>by cases h) .nil (λ_ _ h=>by grind) ⟨cC _,br⟩ O
   .have t:b=d:=(by simp_all);subst t;have e:aR K1 ((f.drop b).take (len*z)) (((cells.toList.take (F f)).drop b).take (len*z)):=(N.1.drop b).take (len*z);refine .ac .held z _ g b len l (((cells.toList.take (F f)).drop b).take (len*z)) (by rw[Qu]) (Qv D) ?_ (λj c n=>?_) ⟨af,br⟩ ?_
    .rw[wP];exact aR.plain e S
    .refine m _ _ _ Y ?_;have C:j<len*z:=(by have:=(bk.1 n).1;rw[dJ]at this;omega);rw[o0,aH C,List.getElem?_drop,o0,aH af]at n;rw[cell_of Z];simp_all
    .rw[wP]
     grind
 |bad c=>exact .bad c|v _ L=>exact .v _ L|nil k=>exact .nil k|gH k a=>exact .gH k a|ac z3 k q g d z0 i cells E o e s u r=>
  cases z3 with|free z2=>simp only[sX,Bq,bQ]at h ⊢;have z1:=(y.tok z2 h.1).1;rw[u.2.2.1]at z1;exact .ac .held k q g d z0 i cells E o (aR.plain e h.2) (λj c n=>m _ _ _ z1 (y.ic _ _ _ (s j c n))) ⟨u.1,br⟩ r|_=>exact aZ.plain (.ac _ k q g d z0 i cells E o e s u r) h
 |agg f A e=>exact aZ.plain (.agg f A e) h|tuple f A e=>exact aZ.plain (.tuple f A e) h|box R g d B=>simp[sX,nK]at h|ec g d=>exact .ec g d|elem k q z5 d g z7 z8 cells o e s hi hp r=>simp[sX,nK]at h|func fn first i fs f h1 h2=>simp[sX,nK]at h
 |yield z6 g T=>simp[sX,nK]at h|iface z2 x c L=>simp[sX,nK]at h
def aR.HA(d:bZ K1 G ok w h2 w')(b:∀g j c,K1.base<=g->w'.cell? ⟨g,j,aq⟩=J c->K2.ic g j=J c):∀{xs:List V} {cs:List aQ},aR K1 xs cs->xs.all (sX z h2)=aa->aR K2 (xs.map (Bq z h2)) cs
 |_,_,.nil,_=>.nil
 |_,_,.cons x c xs cs f e,h=>by rw[List.all_cons,bQ]at h;exact .cons _ c _ cs (aZ.HA d b f h.1) (aR.HA d b e h.2)
def BZ(z:Nat)(R:Rec)(g:a_)(args:List V)(h:ah):Option (V × ah):=
 if aM 0 0 0 (iT z h args)=aa then
  match R.call g (iT z h args) ⟨[],[],0,[]⟩ with
  |some (.ret (.tuple b),h2)=>if b.all (sX z h2)=aa then J (.tuple (b.map (Bq z h2)),h) else aq
  |_=>aq
 else aq
def Vk{aS:a_->Option (List V->ah->Option (V × ah))}(E:Prog P)(A:∀g cs,G g=J cs->aM 0 0 0 cs=aa)(d:∀u g p,aS g=J p->lV P G u g p){g:a_}(k:∃fn,P.funcs[g]?=J fn/\fn.body.isSome=aa)(u:World):
 lV P G u g (BZ z (whole P G aS) g):=by
 refine⟨k,λv h x X b K w f L e cs=>?_⟩;unfold BZ at b;split at b
 .rename_i D;split at b
  .rename_i Y h2 i;split at b
   .rename_i B;injection b with b;injection b with r s;subst r;subst s;obtain⟨-,j⟩:=(KR E (d w)).call g _ _ _ _ i;have N:=bZ.still e A;obtain⟨K1,w',y,le,t,o,l,T,q,n⟩:=j (K.still w) w f (aR.me e L D) N cs;have C:Below w.heap.size w w':=(by have:=t.fG;rwa [le.base]at this);refine⟨.returned T,w',y,⟨T,_,O,bA.Js e,?_,bZ.oh e C⟩,o,l,n⟩;cases q with|tuple _ R S=>refine .tuple _ R (aR.HA (K2:=K.oh w.heap.size w') t (λg Z c m i=>?_) S B);have S:w.heap.size<=g:=(by rw[le.base]at m;exact m);simp only[bA.oh,aV (af:¬g<w.heap.size)];exact i
   grind
  grind
 grind
def aiS{R:Rec}{L:List a_}{Z:a_->Nat}{q:a_->Option (List V->ah->Option (V × ah))}{g:a_}{R0:Rec}{args u d zs:List V}{h b:ah}(n:L.contains g=au)(m:Z g=0)(k:q g=J (BZ z R0 g))(f:iT z h args=u)(j:aM 0 0 0 u=aa)(i:R0.call g u ⟨[],[],0,[]⟩=J (.ret (.tuple d),b))(l:d.all (sX z b)=aa)(e:d.map (Bq z b)=zs):
 (whole P G (mF R L Z q)).call g args h=J (.ret (.tuple zs),h):=by
 subst f;subst e;rw[sM];unfold mf mF;rw[aV (by simp_all),m];simp only[k,BZ,aH j,i,aH l];rfl
end
end Go.AE
end
section
namespace Go.Proofs.YtcbhpkjbiehcpaaGreatDoor
open Go.AE Go.NT
def LF:List a_:=(LE.filter λb=> !(jn b 60||jn b 61))++[13]
noncomputable def qF(g:a_):Option (List V->ah->Option (V × ah)):=if jn g 60 then J (BZ 1 SE g) else if jn g 61 then J (BZ 1 W7 g) else aq
noncomputable def ZO:a_->Option (List V->ah->Option (V × ah)):=mF SE LF (λ_=>0) qF
noncomputable abbrev SF:=whole ag Gt ZO
section
variable {P:bL} {z:Nat} {h:ah}
mutual
def ER:∀x:V,aK 0 0 0 x=aa->io z h x=aA x
 | .ac k i e,b=>by simp only[aK,bQ]at b;rw[io,aA,Vp e b.2]
 | .arr j g len f,b=>by simp[aK]at b
 | .tuple d,b=>by rw[io,aA,Il d (by simpa only[aK] using b)]
 | .agg d,b=>by rw[io,aA,Il d (by simpa only[aK] using b)]
 | .iface l x,b=>by rw[io,aA,ER x (by simpa only[aK] using b)]
 | .v _,_=>rfl
 | .ptr _ _,_=>rfl
 | .elem _ _ _ _,_=>rfl
 | .func _ _ _,_=>rfl
 | .yield _,_=>rfl
 | .bad,_=>rfl
def Il:∀xs:List V,aM 0 0 0 xs=aa->iT z h xs=bE xs
 | [],_=>rfl
 |x::xs,b=>by simp only[aM,bQ]at b;rw[iT,bE,ER x b.1,Il xs b.2]
def Vp:∀xs:List (List V),fZ 0 0 0 xs=aa->oG z h xs=ef xs
 | [],_=>rfl
 |x::xs,b=>by simp only[fZ,bQ]at b;rw[oG,ef,Il x b.1,Vp xs b.2]
end
end
def aiT{h}{b n}{l}(e:h.I[b]?=J (l.map im))(f:F l=n):io 1 h (.arr b 0 n n)=.ac .held 1 (aF l):=by
 subst f;rw[io,e];simp only;rw[aH ⟨by rw[bJ];omega,by omega⟩];have:og 1 (l.map im) 0 (F l)=aF l:=by
  have:=J_ (z:=1) (aF l) [] (by intro m d;unfold aF at d;obtain⟨k,-,rfl⟩:=iX.1 d;rfl);rw[eP,db]at this;have i:(aF l).flatten=l.map im:=by rw[<-Ni];induction l.map im with
   |nil=>rfl|cons x j g=>rw[dR,kJ,g];rfl
  rw[i]at this;exact this
 rw[this,tJ]
def MP{g}{a}{y}(c:cy SB g a y)(b:LC.contains g=aa)(h2:LD.contains g=aa)(d:LE.contains g=aa):cy SE g a y:=((c.mix (L:=LC) b).mix (L:=LD) h2).mix (L:=LE) d
def zy{g}{a}{y}(c:cy SE g a y)(b:LF.contains g=aa):cy SF g a y:=c.mix (L:=LF) b
section
variable {c:Ce} {a:CA}
def ahb(ok:c_ c a)(e:dS a){T:V}{aC:List UInt8}(q:BL T aC)(o:aA T=T){z:List Int}(j:F c.av<=1000000)(k:F c.bO<=1000000)(l:F aC<=1000000)(m:F z<=1000000){h:ah}{b:Nat}(p:h.I[b]?=J (z.map im)):
 SF.call 60 [.agg (aJ c.ep a.X a.Y a.C),T,a.Pa,.arr b 0 (F z) (F z)] h=J (.ret (.tuple [.agg [im (jo c.U c.ae c.ep c.av aC c.bO z).1.1,im (jo c.U c.ae c.ep c.av aC c.bO z).1.2],.v (.bool (jo c.U c.ae c.ep c.av aC c.bO z).2.1),im (jo c.U c.ae c.ep c.av aC c.bO z).2.2]),h):=by
 have r:IL (.ac .held 1 (aF z)) z:=⟨.held,1,O,λ_=>rfl⟩;have f:=alX (ep:=c.ep) ok.x ok.y ok.cm q ok.pa r j k l m;rw[e.X,e.Y,e.C,e.Pa,o]at f;have ez:aA (.ac .held 1 (aF z))=.ac .held 1 (aF z):=by simp only[aA,tJ];rfl
 rw[ez]at f;have f:cy SE 60 _ _:=MP (rJ f O O) O O O;refine aiS (z:=1) (R0:=SE) (L:=LF) (q:=qF) O O O ?_ f.fit (f.call _) O O;have d:=f.fit;simp only[aM,bQ]at d;simp only[iT];rw[ER _ d.1,ER _ d.2.1,ER _ d.2.2.1,aiT p O];have:=f.held;simp only[bE]at this;injection this with n g;injection g with g i;injection i with i s;rw[n,g,i]
end
noncomputable def RF:Code:=Mf.body.getD .skip
def Df:Mf.results.toList=[.cell 2 52,.tmp 3,.tmp 4,.tmp 5]:=by kernel_rfl
section
variable {c:Ce} {a:CA}
def Up(ok:c_ c a)(d:dS a)(b:c.Fit):∀h,SF.call 14 [.agg (aD c a)] h=J (.ret (im (gQ c)),h):=(zy ((XZ ok d b).mix (L:=LE) (Z:=λ_=>0) (q:=vi) O) O).call
def avW(ok:c_ c a)(b:dS a)(d:c.Fit):∃T,(g_ c.doc=aa->BL T (cH (gg c.doc)))/\aA T=T/\∀h,SF.call 28 [.agg (bH c.doc a.p a.r a.n)] h=J (.ret (.tuple [T,im (if g_ c.doc=aa then 0 else 170)]),h):=by obtain⟨T,e,h2,f⟩:=O6 ok.d d.2.2.2.1;rw[b.p,b.r,b.n]at f;exact⟨T,e,h2,(zy (MP f O O O) O).call⟩
def ahQ(h:ah)(ok:c_ c a)(k:dS a)(j:c.Fit)(f:gQ c≠0∨F c.aW<F c.am):∃r h',SF.call 20 [.agg (aD c a)] h=J (r,h')/\r=.ret (.tuple [.agg [im 0,im 0],.ac .nil 0 [],(au:V),im (gQ c)]):=by
 have E:=ok.cells;have t:=Up ok k j;have z:=GV;obtain⟨H,d⟩:∃H,(h.push (aD c a)).push [im 0,im 0]=H:=⟨_,O⟩;have m:H.I[F h.I]?=J (aD c a):=by rw[<-d];exact aX (aU _ _)
 have b:H.I[F (h.push (aD c a)).I]?=J [im 0,im 0]:=by rw[<-d];exact aU _ _
 have p:=bV h (aD c a);rw[p]at b;obtain⟨-,-,n,-,o,R⟩:=jH ok m;have S:=yj b;have s:=AQ (u:=0) (v:=0) b;rw[ju b]at s;obtain⟨L,T,i,-⟩:=ok.w;obtain⟨N,X,ez,-⟩:=ok.z;rw[i]at n;rw[ez]at o;have Aq:=db c.am;have A:=sH c.aW;have B:=dp;have C:=uC;have Z:=uN;have e:decide ((F c.aW:Int)<(F c.am:Int))=decide (F c.aW<F c.am):=by by_cases q:F c.aW<F c.am<;>simp[q]
 clear m b ok k j i ez;generalize aD c a=Y at *
 generalize gQ c=y at *
 unfold im at *
 refine cA O adl O ?_;by_cases g:y=0
 .have l:F c.aW<F c.am:=by rcases f with q|q;exact absurd g q;exact q
  rw[cD l]at e;subst g;clear f
  repeat' (first|simp(maxSteps:=9999999) (disch:=first|exact dZ|fail) only[gW,reduceIte,aT,aN,Df,bC,d, *]|refine dX ?_ ?_<;>(intro _;try omega))
  all_goals exact⟨_,_,O,O⟩
 .have d1:decide (y=0)=au:=cR g;clear f e
  repeat' (first|simp(maxSteps:=9999999) (disch:=first|exact dZ|fail) only[gW,reduceIte,aT,aN,Df,bC,d, *]|refine dX ?_ ?_<;>(intro _;try omega))
  all_goals exact⟨_,_,O,O⟩
def ahP(h:ah)(ok:c_ c a)(S:dS a)(o:c.Fit)(hc:gQ c=0)(hl:¬F c.aW<F c.am)(v:g_ c.doc=aa){Post:dV->ah->Prop}
 (go:∀T e K,BL T (cH (gg c.doc))->aA T=T->e.get 1=.ptr (.box (F h.I)) 0->e.get 2=.ptr (.box (F h.I+1)) 0->e.get 6=T->e.get 8=.arr (F h.I+2) 0 (F c.aW) (F c.aW)->e.defers=[]->K.I[F h.I]?=J (aD c a)/\K.I[F h.I+1]?=J [im 0,im 0]/\K.I[F h.I+2]?=J ((c.aW.map nr).map im)->bM SF (Code.tl 5 RF) e K (BR ag Gt SF Mf Post)):
 ∃r h',SF.call 20 [.agg (aD c a)] h=J (r,h')/\Post r h':=by
 have bx:=ok.cells;have c14:=Up ok S o;rw[hc]at c14;obtain⟨T,l,A,HM⟩:=avW ok S o;have l:=l v;have R:=aj.mk (λe K=>go T e K l A);rw[aH v]at HM;have z:=GV;have zq:=axd;obtain⟨H,u⟩:∃H,(h.push (aD c a)).push [im 0,im 0]=H:=⟨_,O⟩;have y:H.I[F h.I]?=J (aD c a):=by rw[<-u];exact aX (aU _ _)
 have Z:H.I[F (h.push (aD c a)).I]?=J [im 0,im 0]:=by rw[<-u];exact aU _ _
 have n1:=bV h (aD c a);rw[n1]at Z;have Y:F H.I=F h.I+2:=by rw[<-u,bV,bV]
 obtain⟨-,l1,l2,-,l4,l0⟩:=jH ok y;have mk:=wF H (F c.aW) o.2.2.2.2.2 .i64 .i64;obtain⟨-,-,-,-,m4,-⟩:=jH ok (aX (cs:=bR (F c.aW) (im 0)) y);obtain⟨kw,sw,ew,-⟩:=ok.w;obtain⟨kz,sz,ez,N⟩:=ok.z;rw[ew]at l2;rw[ez]at l4 m4;have Aq:=db c.am;have il2:=sH c.aW;have u23:=dp;have u33:=uC;have z48:=DJ;have z4:=uN;have f48:=M8;have dD:decide ((F c.aW:Int)<(F c.am:Int))=au:=cR af;have ks:=aj.mk N;have Fv:=o.2.2.2.2.2;have k0:aj ((H.push (bR (F c.aW) (im 0))).I[F h.I]?=J (aD c a)/\(H.push (bR (F c.aW) (im 0))).I[F h.I+1]?=J [im 0,im 0]/\(H.push (bR (F c.aW) (im 0))).I[F h.I+2]?=J (((c.aW.take 0).map nr++bR (F c.aW-0) (0:Int)).map im)):=⟨⟨aX y,aX Z,by have:=aU H (bR (F c.aW) (im 0));rw[Y]at this;rw[this,dG,List.map_nil,eP,List.map_replicate,Nat.sub_zero]⟩⟩;clear y Z ok S o ew ez hc hl N l A v go;generalize aD c a=z1 at *
 generalize bH c.doc a.p a.r a.n=DC at *
 have kH:=aj.mk Y;unfold im at *
 refine cA O adl O ?_;refine Gs 5 (λe K=>e.get 1=.ptr (.box (F h.I)) 0/\e.get 2=.ptr (.box (F h.I+1)) 0/\e.get 6=T/\e.get 8=.arr (F h.I+2) 0 (F c.aW) (F c.aW)/\e.defers=[]/\K.I[F h.I]?=J z1/\K.I[F h.I+1]?=J [.v (.int .i64 0),.v (.int .i64 0)]/\K.I[F h.I+2]?=J ((c.aW.map nr).map im)) ?_ ?_;rotate_left 1
 .rintro e K ⟨g1,g2,g6,g8,gd,gk⟩;exact R.M e K g1 g2 g6 g8 gd gk
 intro bb C;have kb:=aj.mk C;clear C R
 repeat' (first|simp(maxSteps:=9999999) (disch:=first|exact dZ|fail) only[gW,reduceIte,aT,aN,Df,bC,u,Code.vq, *]|refine dX ?_ ?_<;>(intro _;try omega))
 refine bM.gen λg f L fM eS=>?_;have f1:g.get 1=.ptr (.box (F h.I)) 0:=by rw[f];exact gS
 have f2:g.get 2=.ptr (.box (F h.I+1)) 0:=by rw[f];simp only[gW,reduceIte,aT,aN,n1]
 have f3:g.get 3=.ac .nil 0 []:=by rw[f];exact gS
 have f6:g.get 6=T:=by rw[f];exact gS
 have f8:g.get 8=.arr (F h.I+2) 0 (F c.aW) (F c.aW):=by rw[f];simp only[gW,reduceIte,aT,aN,Y]
 have f37:g.get 37=.ac kz sz (bY c.aW):=by rw[f];exact gS
 have f38:g.get 38=(F c.aW:Nat):=by rw[f];simp only[gW,reduceIte,aT,aN,il2]
 have f39:g.get 39=(0:Nat):=by rw[f];exact gR
 have fd:g.defers=[]:=by rw[L];exact gS
 clear f L fM eS;refine cJ (λz0 e K=>∃d:Nat,d<=F c.aW/\z0=F c.aW-d/\e.get 1=.ptr (.box (F h.I)) 0/\e.get 2=.ptr (.box (F h.I+1)) 0/\e.get 6=T/\e.get 8=.arr (F h.I+2) 0 (F c.aW) (F c.aW)/\e.get 37=.ac kz sz (bY c.aW)/\e.get 38=(F c.aW:Nat)/\e.get 39=(d:Nat)/\e.defers=[]/\aj (K.I[F h.I]?=J z1/\K.I[F h.I+1]?=J [.v (.int .i64 0),.v (.int .i64 0)]/\K.I[F h.I+2]?=J (((c.aW.take d).map nr++bR (F c.aW-d) (0:Int)).map im))) ?_ (F c.aW) _ _ ?_;rotate_left 1
 .exact⟨0,cC _,O,f1,f2,f6,f8,f37,f38,f39,fd,k0⟩
 clear f1 f2 f3 f6 f8 f37 f38 f39 fd k0;rintro z0 e K ⟨d,hi,rfl,g1,g2,g6,g8,g37,g38,g39,v,t⟩;by_cases i:d<F c.aW
 .have eM:sz=2:=ks.M (by intro z2;rw[z2]at i;simp at i);subst eM;obtain⟨j,X⟩:∃j,c.aW[d]?=J j:=⟨_,aY i⟩;have ld:=Yn (H:=K) (s:=2) X;have st:b9 ag (K.push (bI (0,0))) 48 (.ptr (.box (F K.I)) 0) (.agg (bI j))=J (K.push (bI j)):=avk j;have lz:=(CK (aU K (bI j))).2.1;have ix:dU ag 23 (.arr (F h.I+2) 0 (F c.aW) (F c.aW)) ((d:Nat):V)=J (.ptr (.box (F h.I+2)) d):=oO i;have sk:=vB (H:=K.push (bI j)) (b:=F h.I+2) (r:=(c.aW.take d).map nr++bR (F c.aW-d) (0:Int)) (k:=d) (x:=j.2) (aX t.M.2.2) (by rw[de,bJ,dJ,List.length_replicate];omega);have n:((c.aW.take d).map nr++bR (F c.aW-d) (0:Int)).set d j.2=(c.aW.take (d+1)).map nr++bR (F c.aW-(d+1)) (0:Int):=by have e1:F ((c.aW.take d).map nr)=d:=(by rw[bJ,dJ];omega);obtain⟨z0,hm⟩:∃z0,F c.aW-d=z0+1:=⟨F c.aW-d-1,by omega⟩;rw[hm,(af:F c.aW-(d+1)=z0),List.replicate_succ,List.set_append_right _ _ af,e1,sW,List.set_cons_zero,List.take_add_one,X,jN];simp
  rw[n]at sk;obtain⟨p,q,m⟩:=t.M;have B:F h.I+2<F (K.push (bI j)).I:=by have:=(bk.1 m).1;rw[bV];omega
  have kN:aj (((K.push (bI j)).put (F h.I+2) (((c.aW.take (d+1)).map nr++bR (F c.aW-(d+1)) (0:Int)).map im)).I[F h.I]?=J z1/\((K.push (bI j)).put (F h.I+2) (((c.aW.take (d+1)).map nr++bR (F c.aW-(d+1)) (0:Int)).map im)).I[F h.I+1]?=J [.v (.int .i64 0),.v (.int .i64 0)]/\((K.push (bI j)).put (F h.I+2) (((c.aW.take (d+1)).map nr++bR (F c.aW-(d+1)) (0:Int)).map im)).I[F h.I+2]?=J (((c.aW.take (d+1)).map nr++bR (F c.aW-(d+1)) (0:Int)).map im)):=⟨⟨by rw[cS af];exact aX p,by rw[cS af];exact aX q,dM B⟩⟩;have gG:(d:Int)<(F c.aW:Int):=by omega
  clear X p q m B n t;generalize OQ:j.2=yz at *
  generalize bI j=z3 at *
  generalize hB0:bI (0,0)=B0 at *
  unfold im at *
  repeat' (first|simp(maxSteps:=9999999) (disch:=first|exact dZ|fail) only[gW,reduceIte,aT,aN,Df,bj, *]|refine dX ?_ ?_<;>(intro _;try omega))
  all_goals exact⟨F c.aW-(d+1),by omega,d+1,by omega,O,by simp,by first|exact kN|trivial⟩
 .have:d=F c.aW:=by omega
  subst this;obtain⟨p,q,m⟩:=t.M;rw[gy,sW,List.replicate_zero,iB]at m;have kk:=aj.mk (ar p (ar q m));clear p q m t;unfold im at *
  repeat' (first|simp(maxSteps:=9999999) (disch:=first|exact dZ|fail) only[gW,reduceIte,aT,aN,Df, *]|refine dX ?_ ?_<;>(intro _;try omega))
  all_goals exact kb.M _ _ ⟨by exact gA,by exact gA,by exact gA,by exact gA,by exact gA,kk.M⟩
def ahR(h:ah)(ok:c_ c a)(l:dS a)(e:c.Fit)(n:gQ c=0)(p:¬F c.aW<F c.am)(k:F (cH (gg c.doc))<=1000000)(o:g_ c.doc=aa)
 (j:(jo c.U c.ae c.ep c.av (cH (gg c.doc)) c.bO (c.aW.map nr)).2.1=aa):∃r h',SF.call 20 [.agg (aD c a)] h=J (r,h')/\r=.ret (.tuple [.agg [im (jo c.U c.ae c.ep c.av (cH (gg c.doc)) c.bO (c.aW.map nr)).1.1,im (jo c.U c.ae c.ep c.av (cH (gg c.doc)) c.bO (c.aW.map nr)).1.2],.ac .nil 0 [],(aa:V),im 0]):=by
 refine ahP h ok l e n p o (Post:=λr _=>r=_) λY u K g i v y A B C ⟨q,k2,k3⟩=>?_;have m:=ahb ok l g i (z:=c.aW.map nr) e.2.1 e.2.2.2.2.1 k (by rw[bJ];exact e.2.2.2.2.2) k3;rw[bJ]at m;obtain⟨E,-,-,L,-,-⟩:=jH ok q;have z0:=uN;have T:=λb d=>AQ (u:=b) (v:=d) k2;have f:∀b d:Int,(K.put (F h.I+1) [im b,im d]).I[F h.I+1]?=J [im b,im d]:=λb d=>dM (bk.1 k2).1;have N:=λb d=>yj (f b d);have X:∀b d:Int,b9 ag (K.put (F h.I+1) [im b,im d]) 52 (.ptr (.box (F h.I+1)) 0) (.agg [im b,im d])=J (K.put (F h.I+1) [im b,im d]):=λb d=>by rw[AQ (f b d),ju (f b d)]
 clear q k2 k3 f ok l e n p g i k o;generalize jo c.U c.ae c.ep c.av (cH (gg c.doc)) c.bO (c.aW.map nr)=t at *
 obtain⟨⟨R,S⟩,Z,u⟩:=t;simp only at j m ⊢;subst j;generalize aJ c.ep a.X a.Y a.C=s at *
 generalize a.Pa=PA at *
 unfold RF;simp only[Mf,Option.getD_some,Code.tl];unfold im at *
 repeat' (first|simp(maxSteps:=9999999) (disch:=first|exact dZ|fail) only[gW,reduceIte,aT,aN,Df, *]|refine dX ?_ ?_<;>(intro _;try omega))
 all_goals exact⟨_,_,O,O⟩
end
def Rz:List (List Int):=[[1,1],[1,2]]
def Oz:List Int:=[1,2]
def Cz:List Int:=bU [5,7]
def jE:Dc:=⟨3,0,0,0,0,9,[],[],[],bR 32 0⟩
def mZ(k d f:Int):Pr:=⟨k,0,eR 4 d,eR 4 f⟩
def cz(l:List Pr)(z:List (Int × Int)):Ce:=⟨Rz,Oz,0,Cz,jE,[1,2],l,z⟩
def eG:Pr:=mZ 1 100 101
def dH:Pr:=mZ 2 102 103
def vE:List UInt8:=cH (gg jE)
def az:Int:=645765691
def bz:Int:=686257420
def ez:Int:=223354490
def wW:Int:=258281322
def zn1:NT.eC Rz Oz 0 Cz jE [1]=440:=by decide+kernel
def zn2:NT.eC Rz Oz 0 Cz jE [2,1]=1:=by decide+kernel
def zn3:NT.eC Rz Oz 0 Cz d0 [1,2]=170:=by decide+kernel
def zn4:NT.eC Rz Oz 0 Cz jE [1,2]=0:=by decide+kernel
def zc0:gQ c0=440:=by decide+kernel
def zc1:gQ (cz [] [])=0:=by decide+kernel
def zp0:mG (cz [] []) (1,0)=(420,[]):=by decide+kernel
def zp1:mj (cz [] []) dH=(0,[dH]):=by decide+kernel
def zp2:mj (cz [dH] []) eG=(0,[eG,dH]):=by decide+kernel
def zp3:(mj (cz [eG,dH] []) (mZ 2 1 2)).1=151:=by decide+kernel
def zp4:(mj (cz [eG,dH] []) (mZ 3 1 2)).1=420:=by decide+kernel
def zm1:na Rz Oz 0 Cz vE [eG,dH] 1 [(0,12)] 100 101=(az,0):=by decide+kernel
def zm2:na Rz Oz 0 Cz vE [eG,dH] 2 [(1,19)] 102 103=(bz,0):=by decide+kernel
def zq1:mG (cz [eG,dH] []) (2,bz)=(0,[(2,bz)]):=by decide+kernel
def zq2:mG (cz [eG,dH] [(2,bz)]) (1,az)=(0,[(1,az),(2,bz)]):=by decide+kernel
def zc5:gQ (cz [eG,dH] [(1,az),(2,bz)])=0:=by decide+kernel
def zd1:g_ jE=aa:=by decide+kernel
def zk:jo Rz Oz 0 Cz vE [eG,dH] [az,bz]=((ez,wW),aa,0):=by decide+kernel
def zv:ol (al Cz 0) vE ez wW=aa:=by decide+kernel
def ztl:F vE<=1000000:=by decide+kernel
def ap9:Tryz.f27.results.toList=[.cell 0 27,.tmp 1]:=by kernel_rfl
def aqa:Tryz.f29.results.toList=[.cell 6 46]:=by kernel_rfl
def EB{g}{a}{y}(c:cy W8 g a y)(b:LA.contains g=aa)(h2:LB.contains g=aa)(d:LC.contains g=aa)(e:LD.contains g=aa)(f:LE.contains g=aa)(i:LF.contains g=aa):cy SF g a y:=zy (MP (rJ c b h2) d e f) i
def aeQ(k x y):iP ag 46 [(0,im k),(2,im x),(3,im y)]=J (.agg (bB ⟨k,0,x,y⟩)):=by kernel_rfl
def anT(h:ah)(k d f:Int):∃r h',SF.call 29 [im k,im d,im f] h=J (r,h')/\r=.ret (.agg (bB (mZ k d f))):=by
 have g:=(EB (X0 4 d) O O O O O O).call;have i:=(EB (X0 4 f) O O O O O O).call;have z:=DL;have e:=aeQ k (eR 4 d) (eR 4 f);have st:b9 ag (h.push (bB ⟨0,0,0,0⟩)) 46 (.ptr (.box (F h.I)) 0) (.agg (bB ⟨k,0,eR 4 d,eR 4 f⟩))=J (h.push (bB ⟨k,0,eR 4 d,eR 4 f⟩)):=DH _;have l:=wB (aU h (bB ⟨k,0,eR 4 d,eR 4 f⟩));unfold mZ;generalize j:bB ⟨k,0,eR 4 d,eR 4 f⟩=m at *
 generalize bB ⟨0,0,0,0⟩=b at *
 unfold im at *
 refine cA O Tryz.func29 O ?_;refine bD @aqa ?_;exact⟨_,_,O,O⟩
def Xz:V:=.ac .aP 1 [[.ac .aP 1 (aF [1,1])],[.ac .aP 1 (aF [1,2])]]
def Yz:V:=.ac .aP 1 (aF [1,2])
def yv:RL Xz Rz:=by
 refine⟨.aP,1,[.ac .aP 1 (aF [1,1]),.ac .aP 1 (aF [1,2])],O,λ_=>rfl,O,λe a f b d=>?_⟩
 match e with
 |0=>injection b with b;injection d with d;subst b;subst d;exact⟨_,_,O,λ_=>rfl⟩
 |1=>injection b with b;injection d with d;subst b;subst d;exact⟨_,_,O,λ_=>rfl⟩
 |e+2=>simp at b
def yf:IL Yz Oz:=⟨_,_,O,λ_=>rfl⟩
def Fe:aA Xz=Xz:=by unfold Xz;simp only[aA,ef,bE,tJ];rfl
def Ff:aA Yz=Yz:=by unfold Yz;simp only[aA,tJ];rfl
def afr:fC ag 22 2 [(0,.ac .aP 1 (aF [1,1])),(1,.ac .aP 1 (aF [1,2]))]=J Xz:=by kernel_rfl
def aeN:iP ag 25 [(0,Xz),(1,Yz)]=J (.agg [Xz,Yz]):=by kernel_rfl
def TD(a):fC ag 23 1 [(0,((a:Int):V))]=J (.ac .aP 1 (aF [a])):=by kernel_rfl
def ahJ:jD Rz Oz 5 [7]=0:=by decide+kernel
def ahH:fA Rz [5,7]=[(0,12),(1,19)]:=by decide+kernel
def awf(h:ah):∃i d,SL i [(0,12),(1,19)]/\IL d Cz/\aA i=i/\aA d=d/\∃r h',SF.call 27 [] h=J (r,h')/\r=.ret (.tuple [.agg (aJ 0 Xz Yz d),i]):=by
 obtain⟨i,d,j,e,q⟩:=alY yv yf (⟨.aP,1,O,λ_=>rfl⟩:IL (.ac .aP 1 (aF [7])) [7]) bm bm 5 ahJ;rw[ahH]at j;have e:IL d Cz:=e;rw[Fe,Ff]at q;have t:aA (.ac .aP 1 (aF [7]))=.ac .aP 1 (aF [7]):=by simp only[aA,tJ];rfl
 rw[t]at q;have o:=q.nY ⟨[],[],0,[]⟩;have l:aA i=i:=by obtain⟨p,s,rfl,-⟩:=j;have n:V.tuple [.ac (cK p) s (bY [(0,12),(1,19)]),et ⟨[],[],0,[]⟩ d,im 0]=.tuple [.ac p s (bY [(0,12),(1,19)]),d,im 0]:=o;have h2:=(R8 (V.tuple.inj n)).1;rw[aA,Oj];exact h2
 have m:aA d=d:=by obtain⟨p,s,rfl,-⟩:=e;have n:V.tuple [et ⟨[],[],0,[]⟩ i,.ac (cK p) s (aF Cz),im 0]=.tuple [i,.ac p s (aF Cz),im 0]:=o;have h2:=(R8 (R8 (V.tuple.inj n)).2).1;rw[aA,tJ];exact h2
 have u:=(EB q O O O O O O).call;refine⟨i,d,j,e,l,m,?_⟩;have A:=HJ 1 1;have B:=HJ 1 2;have b3:=afr;have b4:=aeN;have C:=TD 7;have S:=aw7;have T:=GU;have D:=Tr yv yf e;have f:(V.agg [Xz,Yz]).bP=J [Xz,Yz]:=ua yv yf;have k:(V.agg (aJ 0 Xz Yz d)).bP=J (aJ 0 Xz Yz d):=mD yv yf e;obtain⟨b,g⟩:∃b,(h.push (aJ 0 nl nl nl)).push [Xz,Yz]=b:=⟨_,O⟩;have N:b9 ag ((h.push (aJ 0 nl nl nl)).push [nl,nl]) 25 (.ptr (.box (F (h.push (aJ 0 nl nl nl)).I)) 0) (.agg [Xz,Yz])=J b:=by rw[<-g];exact j3 f bX O O
 have t0:b.I[F h.I]?=J (aJ 0 nl nl nl):=by rw[<-g];exact aX (aU _ _)
 have t1:b.I[F (h.push (aJ 0 nl nl nl)).I]?=J [Xz,Yz]:=by rw[<-g];exact aU _ _
 have E:aL ag Gt b 25 (.ptr (.box (F (h.push (aJ 0 nl nl nl)).I)) 0)=J (.agg [Xz,Yz]):=tN t1;have R:b9 ag b 27 (.ptr (.box (F h.I)) 0) (.agg (aJ 0 Xz Yz d))=J (b.put (F h.I) (aJ 0 Xz Yz d)):=by rw[fI (off:=0) k pW t0 O (bh 4)];rfl
 have L:aL ag Gt (b.put (F h.I) (aJ 0 Xz Yz d)) 27 (.ptr (.box (F h.I)) 0)=J (.agg (aJ 0 Xz Yz d)):=by rw[fS bX pW (dM (bk.1 t0).1) (lQ O)];rfl
 clear t0 t1 o q j e l m f;unfold Yz at *
 generalize Xz=y at *
 generalize aJ 0 y (.ac .aP 1 (aF [1,2])) d=K at *
 generalize aJ 0 nl nl nl=v at *
 unfold im at *
 refine cA O Tryz.func27 O ?_;refine bD @ap9 ?_;exact⟨_,_,O,O⟩
def LG:List a_:=LF++[20,29,27]
noncomputable def Qe:a_->Option (List V->ah->Option (V × ah)):=my SF LG
noncomputable abbrev SG:=whole ag Gt Qe
def zt:mN Qe LG:=tg
def BD{g}{a}{y}(c:cy SF g a y)(b:LG.contains g=aa):cy SG g a y:=c.up (L:=LG) b
def MQ{g}{a}{y}(c:cy SC g a y)(b:LD.contains g=aa)(d:LE.contains g=aa)(e:LF.contains g=aa)(f:LG.contains g=aa):cy SG g a y:=BD (zy ((c.mix (L:=LD) b).mix (L:=LE) d) e) f
def agZ{g}{a}{y}(c:cy SD g a y)(b:LE.contains g=aa)(d:LF.contains g=aa)(e:LG.contains g=aa):cy SG g a y:=BD (zy (c.mix (L:=LE) b) d) e
def UA{g}{a}{y}(c:cy SB g a y)(b:LC.contains g=aa)(d:LD.contains g=aa)(e:LE.contains g=aa)(f:LF.contains g=aa)(i:LG.contains g=aa):cy SG g a y:=MQ (c.mix (L:=LC) b) d e f i
def EC{g}{a}{y}(c:cy W8 g a y)(b:LA.contains g=aa)(h2:LB.contains g=aa)(d:LC.contains g=aa)(e:LD.contains g=aa)(f:LE.contains g=aa)(i:LF.contains g=aa)(j:LG.contains g=aa):cy SG g a y:=BD (EB c b h2 d e f i) j
def anP{c}{a}:j8 (jk c a):=by
 unfold jk;split
 .exact⟨λ_ _ h=>by cases h;rfl,λ_ _ h=>by cases h;rfl⟩
 .exact PJ
section
variable {c:Ce} {a a2:CA}
def ET(ok:c_ c a)(d:dS a)(b:c.Fit):cy SG 11 [.agg (aJ c.ep a.X a.Y a.C),.agg (bH c.doc a.p a.r a.n),a.W] (.tuple [.agg (aD (jI c) (jk c a)),im c.eC]):=MQ (X9 ok d b) O O O rfl
def ai7(ok:c_ c a)(d:dS a)(b:c.Fit):cy SG 12 [.agg (aJ c.ep a.X a.Y a.C),.agg (bH c.doc a.p a.r a.n),a.W] (.tuple [.agg (aD (jI c) (jk c a)),im c.eC]):=MQ (al8 ok d b) O O O rfl
def Vv(ok:c_ c a)(d:dS a)(b:c.Fit):cy SG 14 [.agg (aD c a)] (im (gQ c)):=agZ (XZ ok d b) O O rfl
def EU(ok:c_ c a)(e:dS a)(j:j8 a)(g:c.Fit)(f:F c.bO<1000000)(p:Pr):∃b,c_ (lE c p) b/\dS b/\j8 b/\cy SG 16 [.agg (aD c a),.agg (bB p)] (.tuple [.agg (aD (lE c p) b),im (mj c p).1]):=by
 obtain⟨b,d,h2,i,k⟩:=al0 ok e j g f p;refine⟨b,d,h2,i,BD (zy (cy.AC (L:=LE) (k ⟨[],[],0,[]⟩) O (by simp only[bE,aA,tq e,P9]) (by simp only[aM,aK,pi ok e];rfl) ?_ ?_) O) O⟩
 .simp only[et,jb,MK d h2];rfl
 .simp[aK,aM,pi d h2,im]
def Io(ok:c_ c a)(e:dS a)(j:j8 a)(g:c.Fit)(f:F c.aW<1000000)(p:Int × Int):∃b,c_ (nJ c p) b/\dS b/\j8 b/\cy SG 18 [.agg (aD c a),.agg (bI p)] (.tuple [.agg (aD (nJ c p) b),im (mG c p).1]):=by
 obtain⟨b,d,h2,i,k⟩:=al3 ok e j g f p;refine⟨b,d,h2,i,BD (zy (cy.AC (L:=LE) (k ⟨[],[],0,[]⟩) O (by simp only[bE,aA,tq e];rfl) (by simp only[aM,aK,pi ok e];rfl) ?_ ?_) O) O⟩
 .simp only[et,jb,MK d h2];rfl
 .simp[aK,aM,pi d h2,im]
def Vx(ok:c_ c a)(e:dS a)(d:c_ c a2)(b:dS a2)(f:Md c):cy SG 13 [.agg (aD c a),.agg (aD c a2)] (aa:V):=by obtain⟨_,_,g,rfl,-⟩:=atE ⟨[],[],0,[]⟩ c a a2 ok d f;exact BD (cy.AC (L:=LF) g O (by simp only[bE,aA,tq e,tq b]) (by simp only[aM,aK,pi ok e,pi d b];rfl) O O) rfl
def ai1(ok:c_ c a)(b:dS a)(d:c.Fit)(e:gQ c≠0∨F c.aW<F c.am):cy SG 20 [.agg (aD c a)] (.tuple [.agg [im 0,im 0],.ac .nil 0 [],(au:V),im (gQ c)]):=by obtain⟨_,_,f,rfl⟩:=ahQ ⟨[],[],0,[]⟩ ok b d e;exact cy.new (L:=LG) f O (by simp only[bE,aA,tq b]) (by simp only[aM,aK,pi ok b];rfl) O rfl
def Vw(ok:c_ c a)(d:dS a)(j:c.Fit)(k:gQ c=0)(m:¬F c.aW<F c.am)(f:F (cH (gg c.doc))<=1000000)(l:g_ c.doc=aa){g i e:Int}
 (b:jo c.U c.ae c.ep c.av (cH (gg c.doc)) c.bO (c.aW.map nr)=((g,i),aa,e)):cy SG 20 [.agg (aD c a)] (.tuple [.agg [im g,im i],.ac .nil 0 [],(aa:V),im 0]):=by
 obtain⟨_,_,n,rfl⟩:=ahR ⟨[],[],0,[]⟩ ok d j k m f l (by rw[b]);rw[b]at n;exact cy.new (L:=LG) n O (by simp only[bE,aA,tq d]) (by simp only[aM,aK,pi ok d];rfl) O rfl
def B6(k d f):cy SG 29 [im k,im d,im f] (.agg (bB (mZ k d f))):=by obtain⟨_,_,b,rfl⟩:=anT ⟨[],[],0,[]⟩ k d f;exact cy.new (L:=LG) b O O O O rfl
def Vy(ok:c_ c a)(b:dS a)(e:c.Fit)(d:g_ c.doc=aa):∃T,BL T (cH (gg c.doc))/\aA T=T/\cy SG 28 [.agg (bH c.doc a.p a.r a.n)] (.tuple [T,im 0]):=by obtain⟨T,f,h2,g⟩:=O6 ok.d e.2.2.2.1;rw[b.p,b.r,b.n,aH d]at g;exact⟨T,f d,h2,UA g O O O O O⟩
end
def ai8:∃f g,SL f [(0,12),(1,19)]/\IL g Cz/\aA f=f/\aA g=g/\cy SG 27 [] (.tuple [.agg (aJ 0 Xz Yz g),f]):=by
 obtain⟨f,g,b,h2,d,e,_,_,l,rfl⟩:=awf ⟨[],[],0,[]⟩;refine⟨f,g,b,h2,d,e,cy.new (L:=LG) l O O O ?_ ?_⟩
 .obtain⟨n,o,j,-⟩:=b;obtain⟨k,m,i,-⟩:=h2;simp only[et,jb,aJ,rm j d,rm i e,rm (show Xz=.ac .aP 1 _ from O) Fe,rm (show Yz=.ac .aP 1 _ from O) Ff]
 .obtain⟨-,f1⟩:=b.hold;obtain⟨-,f2⟩:=h2.hold;obtain⟨-,f3⟩:=yv.ip;obtain⟨-,f4⟩:=yf.hold;rw[d]at f1;rw[e]at f2;rw[Fe]at f3;rw[Ff]at f4;simp[aK,aM,aJ,f1,f2,f3,f4]
def aaG(k):sF k k=aa:=by cases k<;>simp[sF]
def Ks:∀a b:List V,gI a a=aa->gI b b=aa->gI (a++b) (a++b)=aa
 | [],b,_,e=>e
 |x::a,b,d,e=>by simp only[gI,bQ]at d;rw[eY,gI,d.1,Ks a b d.2 e];rfl
def aaH:∀l:List UInt8,gI (l.map gm) (l.map gm)=aa
 | []=>rfl
 |x::l=>by rw[dR,gI,aaH l];simp[dh,iz,gm]
def aaD(p):gI (bB p) (bB p)=aa:=by simp[gI,dh,iz,bB]
def atP(p):gI (bI p) (bI p)=aa:=by simp[gI,dh,iz,bI]
def aaE:∀l:List Pr,nf (cL l) (cL l)=aa
 | []=>rfl
 |x::l=>by show(gI (bB x) (bB x)&&nf (cL l) (cL l))=aa;rw[aaD,aaE l];rfl
def aaF:∀l:List (Int × Int),nf (bY l) (bY l)=aa
 | []=>rfl
 |x::l=>by show(gI (bI x) (bI x)&&nf (bY l) (bY l))=aa;rw[atP,aaF l];rfl
def PL.same{x}{l}(h:PL x l):dh x x=aa:=by obtain⟨b,d,rfl,-⟩:=h;simp[dh,aaG,aaE]
def SL.same{x}{l}(h:SL x l):dh x x=aa:=by obtain⟨b,d,rfl,-⟩:=h;simp[dh,aaG,aaF]
def Gv{c}{a}(ok:c_ c a):dh (.agg (aD c a)) (.agg (aD c a))=aa:=by
 rw[dh];unfold aD bH;refine Ks _ _ (Ks _ _ ?_ (Ks _ _ ?_ (aaH _))) ?_
 .simp[aJ,gI,dh,iz,ok.x.same,ok.y.same,ok.cm.same]
 .simp[gI,dh,iz,im,ok.d.p.same,ok.d.r.same,ok.d.n.same]
 .simp[gI,ok.w.same,ok.pa.same,ok.z.same]
def cw(w:List Int)(d:Dc):Ce:=⟨Rz,Oz,0,Cz,d,w,[],[]⟩
def aw(b W:V):CA:=⟨Xz,Yz,b,nl,nl,nl,W,nl,nl⟩
def Aq:IL nl []:=⟨.nil,0,O,λb=>absurd O b⟩
def JH{j W}{w}{d}(g:IL j Cz)(i:IL W w)(b:d.pa=[])(h2:d.rv=[])(e:d.nd=[])(f:F d.tx=32):c_ (cw w d) (aw j W):=
 ⟨yv,yf,g,⟨by rw[show(cw w d).doc.pa=[] from b];exact Aq,by rw[show(cw w d).doc.rv=[] from h2];exact Aq,by rw[show(cw w d).doc.nd=[] from e];exact Aq,f⟩,i,gL.pa,gL.z⟩
def NY{b W}(d:aA b=b)(e:aA W=W):dS (aw b W):=⟨Fe,Ff,d,O,O,O,e,O,O⟩
def Y1{b W}:j8 (aw b W):=⟨λ_ _ h=>by cases h;rfl,λ_ _ h=>by cases h;rfl⟩
def Nf{w}{d}(e:F w<=1000000)(b:d.oY):(cw w d).Fit:=⟨by show F Rz<=_;decide,by show F Cz<=_;decide,e,b,by show(F ([]:List Pr))<=_;decide,by show(F ([]:List (Int × Int)))<=_;decide⟩
def MO:jE.oY:=⟨bm,by decide,by decide⟩
def Uw:d0.oY:=⟨bm,by decide,by decide⟩
def rN{l}{z}(b:F l<=1000000)(d:F z<=1000000):(cz l z).Fit:=⟨by show F Rz<=_;decide,by show F Cz<=_;decide,by show(F ([1,2]:List Int))<=_;decide,MO,b,d⟩
def aiw:c0.Fit:=⟨bm,by decide,by decide,Uw,by decide,by decide⟩
def PH{c}{a}{e}(h:c.eC=e)(b:e≠0):jI c=c0/\jk c a=a0:=by unfold jI jk;rw[aV (by rw[h];exact b),aV (by rw[h];exact b)];exact⟨O,O⟩
def anM{c}{a}(h:c.eC=0):jI c={c with bO:=[],aW:=[]}/\jk c a={a with Pa:=nl,Z:=nl}:=by unfold jI jk;rw[aH h,aH h];exact⟨O,O⟩
def Ol(l):aA (.ac .aP 1 (aF l))=.ac .aP 1 (aF l):=by simp only[aA,tJ];rfl
def aw8:(gp ag 31).bind V.bP=J (bH d0 nl nl nl):=by kernel_rfl
def aeP:iP ag 31 [(0,im 3),(5,im 9)]=J (.agg (bH jE nl nl nl)):=by kernel_rfl
def aeO:iP ag 31 []=J (.agg (bH d0 nl nl nl)):=by kernel_rfl
def avI:cQ ag 31=J 41:=by kernel_rfl
def aeS(k):iP ag 48 [(0,im k)]=J (.agg (bI (k,0))):=by kernel_rfl
def Tt(k z):iP ag 48 [(0,im k),(1,im z)]=J (.agg (bI (k,z))):=by kernel_rfl
def auw(k)(a b):gY ag 72 (.ac k 2 (bY [a,b])) aq (J (.v (.int .i64 1))) aq=J (.ac (qj k au au 1) 2 (bY [a])):=by kernel_rfl
def aux(k)(a b):gY ag 72 (.ac k 2 (bY [a,b])) (J (.v (.int .i64 1))) aq aq=J (.ac (qj k aa au 1) 2 (bY [b])):=by kernel_rfl
def sJ{H:ah}{D}(d:F D=48)(b:(V.agg D).bP=J D):b9 ag (H.push (aD c0 a0)) 35 (.ptr (.box (F H.I)) 0) (.agg D)=J (H.push D):=by rw[qK gL.len d b (aU _ _),ml]
def r_:Tryz.f8.results.toList=[.tmp 0]:=by kernel_rfl
def ann{b T}(l:IL b Cz)(g:aA b=b)(j:BL T vE)(e:aA T=T)(t)(s)(k d f):∀h,SG.call 30 [.agg (aJ 0 Xz Yz b),T,.ac .aP 4 (cL [eG,dH]),im k,.ac t 2 (bY [s]),im d,im f] h=J (.ret (.tuple [im (na Rz Oz 0 Cz vE [eG,dH] k [s] d f).1,im (na Rz Oz 0 Cz vE [eG,dH] k [s] d f).2]),h):=by have i:PL (.ac .aP 4 (cL [eG,dH])) [eG,dH]:=⟨_,_,O,λ_=>rfl⟩;have m:cy SF 30 _ _:=EB (X8 (ep:=0) yv yf l j i (⟨t,2,O,λ_=>rfl⟩:SL (.ac t 2 (bY [s])) [s]) bm bm cE k d f) O O O O O O;refine cy.use (L:=LG) m O ?_;simp only[bE,aA,IX,aJ,Fe,Ff,g,e];rfl
def atQ(h:ah):∃r h',SG.call 8 [] h=J (r,h')/\r=.ret (aa:V):=by
 obtain⟨z8,B,hU,hV,eU,eV,q27⟩:=ai8;have c27:=q27.call;have i1:IL (.ac .aP 1 (aF [1])) [1]:=⟨_,_,O,λ_=>rfl⟩;have i2:IL (.ac .aP 1 (aF [2,1])) [2,1]:=⟨_,_,O,λ_=>rfl⟩;have i3:IL (.ac .aP 1 (aF [1,2])) [1,2]:=⟨_,_,O,λ_=>rfl⟩;have o1:=JH (d:=jE) hV i1 O O O O;have o2:=JH (d:=jE) hV i2 O O O O;have o3:=JH (d:=d0) hV i3 O O O O;have p:c_ (cz [] []) (aw B (.ac .aP 1 (aF [1,2]))):=JH (d:=jE) hV i3 O O O O;have D:=NY eV (Ol [1]);have t:=NY eV (Ol [2,1]);have f:=NY eV (Ol [1,2]);have n1:∀h,SG.call 11 [.agg (aJ 0 Xz Yz B),.agg (bH jE nl nl nl),.ac .aP 1 (aF [1])] h=J (.ret (.tuple [.agg (aD c0 a0),im 440]),h):=by have j:=(ET o1 D (Nf bm MO)).call;obtain⟨f1,f2⟩:=PH (c:=cw [1] jE) (a:=aw B (.ac .aP 1 (aF [1]))) zn1 bm;rw[f1,f2,show(cw [1] jE).eC=440 from zn1]at j;exact j
 have n2:∀h,SG.call 11 [.agg (aJ 0 Xz Yz B),.agg (bH jE nl nl nl),.ac .aP 1 (aF [2,1])] h=J (.ret (.tuple [.agg (aD c0 a0),im 1]),h):=by have j:=(ET o2 t (Nf bm MO)).call;obtain⟨f1,f2⟩:=PH (c:=cw [2,1] jE) (a:=aw B (.ac .aP 1 (aF [2,1]))) zn2 bm;rw[f1,f2,show(cw [2,1] jE).eC=1 from zn2]at j;exact j
 have n3:∀h,SG.call 11 [.agg (aJ 0 Xz Yz B),.agg (bH d0 nl nl nl),.ac .aP 1 (aF [1,2])] h=J (.ret (.tuple [.agg (aD c0 a0),im 170]),h):=by have j:=(ET o3 f (Nf bm Uw)).call;obtain⟨f1,f2⟩:=PH (c:=cw [1,2] d0) (a:=aw B (.ac .aP 1 (aF [1,2]))) zn3 bm;rw[f1,f2,show(cw [1,2] d0).eC=170 from zn3]at j;exact j
 have n4:∀h,SG.call 11 [.agg (aJ 0 Xz Yz B),.agg (bH jE nl nl nl),.ac .aP 1 (aF [1,2])] h=J (.ret (.tuple [.agg (aD (cz [] []) (aw B (.ac .aP 1 (aF [1,2])))),im 0]),h):=by have j:=(ET p f (rN bm bm)).call;obtain⟨f1,f2⟩:=anM (c:=cz [] []) (a:=aw B (.ac .aP 1 (aF [1,2]))) zn4;rw[f1,f2,show(cz [] []).eC=0 from zn4]at j;exact j
 obtain⟨a5,o5,-,-,q5⟩:=Io p f Y1 (rN bm bm) bm (1,0);have p5:nJ (cz [] []) (1,0)=c0:=by unfold nJ;rw[zp0];rfl
 rw[p5]at o5 q5;rw[zp0]at q5;have c5:=q5.call;have c6:=(ai1 p f (rN bm bm) (.inr bm)).call;rw[zc1]at c6;have c7:=(Vv gL xV aiw).call;rw[zc0]at c7;have c8:=(Vv p f (rN bm bm)).call;rw[zc1]at c8;obtain⟨z0,hT,eT,q9⟩:∃z0,BL z0 vE/\aA z0=z0/\cy SG 28 [.agg (bH jE nl nl nl)] (.tuple [z0,im 0]):=Vy p f (rN bm bm) zd1;have c9:=q9.call;have m1:∀h,SG.call 29 [im 1,im 100,im 101] h=J (.ret (.agg (bB eG)),h):=(B6 1 100 101).call;have m2:∀h,SG.call 29 [im 2,im 102,im 103] h=J (.ret (.agg (bB dH)),h):=(B6 2 102 103).call;have m3:=(B6 2 1 2).call;have m4:=(B6 3 1 2).call;obtain⟨a6,o6,h6,l6,qp1⟩:=EU p f Y1 (rN bm bm) bm dH;have p6:lE (cz [] []) dH=cz [dH] []:=by unfold lE;rw[zp1];rfl
 rw[p6]at o6 qp1;rw[zp1]at qp1;have c10:=qp1.call;obtain⟨a7,y,h7,l7,qp2⟩:=EU o6 h6 l6 (rN bm bm) (by show(F ([dH]:List Pr))<_;decide) eG;have p7:lE (cz [dH] []) eG=cz [eG,dH] []:=by unfold lE;rw[zp2];rfl
 rw[p7]at y qp2;rw[zp2]at qp2;have Ew:=qp2.call;obtain⟨a8,o8,-,-,qp3⟩:=EU y h7 l7 (rN bm bm) (by show(F ([eG,dH]:List Pr))<_;decide) (mZ 2 1 2);rw[zp3]at qp3;have c12:=qp3.call;obtain⟨a9,o9,-,-,qp4⟩:=EU y h7 l7 (rN bm bm) (by show(F ([eG,dH]:List Pr))<_;decide) (mZ 3 1 2);rw[zp4]at qp4;have HL:=qp4.call;obtain⟨L,sU,rfl,Ja⟩:=hU;have Ja:=Ja cE;subst Ja;have hL:PL (.ac .aP 4 (cL [eG,dH])) [eG,dH]:=⟨_,_,O,λ_=>rfl⟩;have B9:aA (.ac .aP 4 (cL [eG,dH]))=.ac .aP 4 (cL [eG,dH]):=by simp only[aA,IX];rfl
 have mk:=λ(z6:Tok) (z5:Int × Int) (z4 z2 z3:Int)=>ann hV eV hT eT z6 z5 z4 z2 z3;have c14:=mk (qj L au au 1) (0,12) 1 100 101;have c15:=mk (qj L aa au 1) (1,19) 2 102 103;rw[zm1]at c14;rw[zm2]at c15;obtain⟨a10,S,VD,O8,qp5⟩:=Io y h7 l7 (rN bm bm) bm (2,bz);have p10:nJ (cz [eG,dH] []) (2,bz)=cz [eG,dH] [(2,bz)]:=by unfold nJ;rw[zq1];rfl
 rw[p10]at S qp5;rw[zq1]at qp5;have c16:=qp5.call;obtain⟨a11,Z,VE,Yb,qp6⟩:=Io S VD O8 (rN bm bm) (by show(F ([(2,bz)]:List (Int × Int)))<_;decide) (1,az);have p11:nJ (cz [eG,dH] [(2,bz)]) (1,az)=cz [eG,dH] [(1,az),(2,bz)]:=by unfold nJ;rw[zq2];rfl
 rw[p11]at Z qp6;rw[zq2]at qp6;have c17:=qp6.call;have c18:=(Vw Z VE (rN bm bm) zc5 bm ztl zd1 zk).call;have qv:=EC (Ya hT ztl (al Cz 0) ez wW) O O O O O O O;rw[eT,show ol (al Cz 0) vE ez wW=aa from zv]at qv;have c19:=qv.call;have VU:SL (.ac L 2 (bY [(0,12),(1,19)])) [(0,12),(1,19)]:=⟨L,2,O,λ_=>rfl⟩;have lnU:dw ag 72 (.ac L 2 (bY [(0,12),(1,19)]))=J (.v (.int .i64 2)):=VU.dw;have lnN:dw ag 23 (.ac .nil 0 [])=J (.v (.int .i64 0)):=Aq.dw;have lnV:dw ag 23 B=J (.v (.int .i64 2)):=hV.dw;have lnW:dw ag 23 (.ac .aP 1 (aF [1,2]))=J (.v (.int .i64 2)):=i3.dw;have ixV:dU ag 23 B (.v (.int .i64 0))=J (.elem 1 (aF Cz) 0 0):=hV.ix (i:=0) bm;have ldV:∀H:ah,aL ag Gt H 3 (.elem 1 (aF Cz) 0 0)=J ((al Cz 0:Int):V):=λH=>eI bm;have ixP0:dU ag 32 (.ac .aP 4 (cL [eG,dH])) (.v (.int .i64 0))=J (.elem 4 (cL [eG,dH]) 0 0):=hL.ix (i:=0) bm;have ixP1:dU ag 32 (.ac .aP 4 (cL [eG,dH])) (.v (.int .i64 1))=J (.elem 4 (cL [eG,dH]) 1 0):=hL.ix (i:=1) bm;have ldP0:∀H:ah,aL ag Gt H 46 (.elem 4 (cL [eG,dH]) 0 0)=J (.agg (bB eG)):=λH=>vm O;have ldP1:∀H:ah,aL ag Gt H 46 (.elem 4 (cL [eG,dH]) 1 0)=J (.agg (bB dH)):=λH=>vm O;have sl1:=auw L (0,12) (1,19);have sl2:=aux L (0,12) (1,19);have bp:=afw eG dH;have bz1:=aeS 1;have bz2:=Tt 2 bz;have bz3:=Tt 1 az;have bo:=TD 1;have bo2:=HJ 1 2;have bo3:=HJ 2 1;have bdz:=aeP;have bde:=aeO;have be:=abO;have z27:=GU;have z31:=aw8;have z35:=vH;have z52:=GV;have f27:=λm=>jF (b:=m);have f35:=uN;have sD:=Gv p;have sP:=aaD dH;have sP2:dh (.agg (bB dH)) (.agg (bB dH))=aa:=by rw[dh];exact sP
 have sY:=Gv y;have kcell:(V.agg (aJ 0 Xz Yz B)).bP=J (aJ 0 Xz Yz B):=mD yv yf hV;have dcell:(V.agg (bH jE nl nl nl)).bP=J (bH jE nl nl nl):=o1.d.cells;obtain⟨H0,tE⟩:∃H,h.push (aJ 0 Xz Yz B)=H:=⟨_,O⟩;obtain⟨H1,uW⟩:∃H,H0.push (bH jE nl nl nl)=H:=⟨_,O⟩;obtain⟨H2,wg⟩:∃H,H1.push (aD c0 a0)=H:=⟨_,O⟩;obtain⟨H3,xP⟩:∃H,H2.push (aD c0 a0)=H:=⟨_,O⟩;obtain⟨N,zL⟩:∃H,H3.push (aD c0 a0)=H:=⟨_,O⟩;obtain⟨H5,wh⟩:∃H,N.push (aD (cz [] []) (aw B (.ac .aP 1 (aF [1,2]))))=H:=⟨_,O⟩;obtain⟨H6,Y⟩:∃H,H5.push (aD c0 a5)=H:=⟨_,O⟩;obtain⟨e,EZ⟩:∃H,H6.push [im 0,im 0]=H:=⟨_,O⟩;obtain⟨H8,E3⟩:∃H,e.push (aD (cz [dH] []) a6)=H:=⟨_,O⟩;obtain⟨H9,E4⟩:∃H,H8.put (F e.I) (aD (cz [eG,dH] []) a7)=H:=⟨_,O⟩;obtain⟨T,u⟩:∃H,H9.push (aD (lE (cz [eG,dH] []) (mZ 2 1 2)) a8)=H:=⟨_,O⟩;obtain⟨k,Iu⟩:∃H,T.push (aD (lE (cz [eG,dH] []) (mZ 3 1 2)) a9)=H:=⟨_,O⟩;obtain⟨H12,R⟩:∃H,k.push (aD (cz [eG,dH] [(2,bz)]) a10)=H:=⟨_,O⟩;obtain⟨A,Iv⟩:∃H,H12.put (F k.I) (aD (cz [eG,dH] [(1,az),(2,bz)]) a11)=H:=⟨_,O⟩;obtain⟨H14,Iw⟩:∃H,A.push [im ez,im wW]=H:=⟨_,O⟩;have s0:b9 ag (h.push (aJ 0 nl nl nl)) 27 (.ptr (.box (F h.I)) 0) (.agg (aJ 0 Xz Yz B))=J H0:=by rw[<-tE];exact j3 kcell pW O O
 have s1:b9 ag (H0.push (bH d0 nl nl nl)) 31 (.ptr (.box (F H0.I)) 0) (.agg (bH jE nl nl nl))=J H1:=by rw[<-uW];exact j3 dcell avI O O
 have s2:b9 ag (H1.push (aD c0 a0)) 35 (.ptr (.box (F H1.I)) 0) (.agg (aD c0 a0))=J H2:=by rw[<-wg];exact sJ gL.len gL.cells
 have s3:b9 ag (H2.push (aD c0 a0)) 35 (.ptr (.box (F H2.I)) 0) (.agg (aD c0 a0))=J H3:=by rw[<-xP];exact sJ gL.len gL.cells
 have s4:b9 ag (H3.push (aD c0 a0)) 35 (.ptr (.box (F H3.I)) 0) (.agg (aD c0 a0))=J N:=by rw[<-zL];exact sJ gL.len gL.cells
 have s5:b9 ag (N.push (aD c0 a0)) 35 (.ptr (.box (F N.I)) 0) (.agg (aD (cz [] []) (aw B (.ac .aP 1 (aF [1,2])))))=J H5:=by rw[<-wh];exact sJ p.len p.cells
 have s6:b9 ag (H5.push (aD c0 a0)) 35 (.ptr (.box (F H5.I)) 0) (.agg (aD c0 a5))=J H6:=by rw[<-Y];exact sJ o5.len o5.cells
 have s7:b9 ag (H6.push [im 0,im 0]) 52 (.ptr (.box (F H6.I)) 0) (.agg [im 0,im 0])=J e:=by rw[<-EZ];exact j3 O GG O O
 have s8:b9 ag (e.push (aD c0 a0)) 35 (.ptr (.box (F e.I)) 0) (.agg (aD (cz [dH] []) a6))=J H8:=by rw[<-E3];exact sJ o6.len o6.cells
 have t8:H8.I[F e.I]?=J (aD (cz [dH] []) a6):=by rw[<-E3];exact aU _ _
 have s9:b9 ag H8 35 (.ptr (.box (F e.I)) 0) (.agg (aD (cz [eG,dH] []) a7))=J H9:=by rw[<-E4];exact qK o6.len y.len y.cells t8
 have yy:b9 ag (H9.push (aD c0 a0)) 35 (.ptr (.box (F H9.I)) 0) (.agg (aD (lE (cz [eG,dH] []) (mZ 2 1 2)) a8))=J T:=by rw[<-u];exact sJ o8.len o8.cells
 have s11:b9 ag (T.push (aD c0 a0)) 35 (.ptr (.box (F T.I)) 0) (.agg (aD (lE (cz [eG,dH] []) (mZ 3 1 2)) a9))=J k:=by rw[<-Iu];exact sJ o9.len o9.cells
 have s12:b9 ag (k.push (aD c0 a0)) 35 (.ptr (.box (F k.I)) 0) (.agg (aD (cz [eG,dH] [(2,bz)]) a10))=J H12:=by rw[<-R];exact sJ S.len S.cells
 have t12:H12.I[F k.I]?=J (aD (cz [eG,dH] [(2,bz)]) a10):=by rw[<-R];exact aU _ _
 have s13:b9 ag H12 35 (.ptr (.box (F k.I)) 0) (.agg (aD (cz [eG,dH] [(1,az),(2,bz)]) a11))=J A:=by rw[<-Iv];exact qK S.len Z.len Z.cells t12
 have s14:b9 ag (A.push [im 0,im 0]) 52 (.ptr (.box (F A.I)) 0) (.agg [im ez,im wW])=J H14:=by rw[<-Iw];exact j3 O GG O O
 have n0:F H0.I=F h.I+1:=by rw[<-tE,bV]
 have n1':F H1.I=F h.I+2:=by rw[<-uW,bV,n0]
 have n2':F H2.I=F h.I+3:=by rw[<-wg,bV,n1']
 have n3':F H3.I=F h.I+4:=by rw[<-xP,bV,n2']
 have n4':F N.I=F h.I+5:=by rw[<-zL,bV,n3']
 have n5':F H5.I=F h.I+6:=by rw[<-wh,bV,n4']
 have n6':F H6.I=F h.I+7:=by rw[<-Y,bV,n5']
 have n7':F e.I=F h.I+8:=by rw[<-EZ,bV,n6']
 have n8':F H8.I=F h.I+9:=by rw[<-E3,bV,n7']
 have n9':F H9.I=F h.I+9:=by rw[<-E4,jV,n8']
 have n11':F k.I=F h.I+11:=by rw[<-Iu,bV,<-u,bV,n9']
 have up:∀{z1:ah} {m:Nat} {b cs2:List V},z1.I[m]?=J b->(z1.push cs2).I[m]?=J b:=λj=>aX j;have r1:∀{m:Nat} {b:List V},H1.I[m]?=J b->N.I[m]?=J b:=λj=>by rw[<-zL,<-xP,<-wg];exact up (up (up j))
 have r4:∀{m:Nat} {b:List V},N.I[m]?=J b->e.I[m]?=J b:=λj=>by rw[<-EZ,<-Y,<-wh];exact up (up (up j))
 have r7:∀{m:Nat} {b:List V},e.I[m]?=J b->H9.I[m]?=J b:=λ{m b} j=>by have:=(bk.1 j).1;rw[<-E4,cS af,<-E3];exact up j
 have r9:∀{m:Nat} {b:List V},H9.I[m]?=J b->k.I[m]?=J b:=λj=>by rw[<-Iu,<-u];exact up (up j)
 have r11:∀{m:Nat} {b:List V},k.I[m]?=J b->H14.I[m]?=J b:=λ{m b} j=>by have:=(bk.1 j).1;rw[<-Iw];refine up ?_;rw[<-Iv,cS af,<-R];exact up j
 have tk:H1.I[F h.I]?=J (aJ 0 Xz Yz B):=by rw[<-uW,<-tE];exact up (aU _ _)
 have td:H1.I[F H0.I]?=J (bH jE nl nl nl):=by rw[<-uW];exact aU _ _
 have tc:H5.I[F N.I]?=J (aD (cz [] []) (aw B (.ac .aP 1 (aF [1,2])))):=by rw[<-wh];exact aU _ _
 have r5:∀{m:Nat} {b:List V},H5.I[m]?=J b->e.I[m]?=J b:=λj=>by rw[<-EZ,<-Y];exact up (up j)
 have lk:∀{z1:ah},z1.I[F h.I]?=J (aJ 0 Xz Yz B)->aL ag Gt z1 27 (.ptr (.box (F h.I)) 0)=J (.agg (aJ 0 Xz Yz B)):=λj=>by rw[fS bX pW j (lQ O)];rfl
 have lc:∀{z1:ah},z1.I[F h.I]?=J (aJ 0 Xz Yz B)->aL ag Gt z1 23 (.ptr (.box (F h.I)) 3)=J B:=λj=>by rw[fx mV j];rfl
 have s:∀{m:Nat} {b:List V},H1.I[m]?=J b->H2.I[m]?=J b:=λj=>by rw[<-wg];exact up j
 have e0b:∀{m:Nat} {b:List V},H2.I[m]?=J b->H3.I[m]?=J b:=λj=>by rw[<-xP];exact up j
 have e0c:∀{m:Nat} {b:List V},H5.I[m]?=J b->H6.I[m]?=J b:=λj=>by rw[<-Y];exact up j
 have g1:=lk tk;have g2:=lk (s tk);have g3:=lk (e0b (s tk));have g4:=lk (r1 tk);have g5:=lk (r9 (r7 (r4 (r1 tk))));have g6:=lc (r4 (r1 tk));have g7:=lc (r11 (r9 (r7 (r4 (r1 tk)))));have It:F (bH jE nl nl nl)=41:=o1.d.len;have d1:=yi It td;have d2:=yi It (s td);have d4:=yi It (r1 td);have d5:=yi It (r4 (r1 td));have x1:=iJ p.len tc;have x2:=iJ p.len (e0c tc);have x3:=iJ p.len (r5 tc);have x3w:aL ag Gt e 23 (.ptr (.box (F N.I)) 45)=J (.ac .aP 1 (aF [1,2])):=(jH p (r5 tc)).2.2.1;have y1:=iJ o6.len t8;have t9:H9.I[F e.I]?=J (aD (cz [eG,dH] []) a7):=by rw[<-E4];exact dM af
 have y2:=iJ y.len t9;have y3:=iJ y.len (by rw[<-u];exact up t9:T.I[F e.I]?=J (aD (cz [eG,dH] []) a7));have y4:=iJ y.len (r9 t9);have y5:=iJ S.len t12;have x4:=iJ p.len (up (cs2:=aD c0 a0) (r5 tc));have y7:=iJ y.len (up (cs2:=aD c0 a0) t9);have y8:=iJ y.len (up (cs2:=aD c0 a0) (by rw[<-u];exact up t9:T.I[F e.I]?=J (aD (cz [eG,dH] []) a7)));have t13:A.I[F k.I]?=J (aD (cz [eG,dH] [(1,az),(2,bz)]) a11):=by rw[<-Iv];exact dM (by rw[<-R,bV];omega)
 have y6:=iJ Z.len t13;have vS:=yj (by rw[<-Iw];exact aU A [im ez,im wW]:H14.I[F A.I]?=J [im ez,im wW]);clear q27 i1 i2 i3 o1 o2 o3 p D t f q5 p5 o5 hT q9 o6 h6 l6 qp1 p6 y h7 l7 qp2 p7 o8 qp3 o9 qp4 hL B9 mk S VD O8 qp5 p10 Z VE Yb qp6 p11 qv VU hV eU Ja eT eV kcell dcell up r1 r4 r7 r9 r11 tk td tc r5 lk lc s e0b e0c t8 t9 t12 t13 n0 n1' n2' n3' n4' n5' n6' n7' n8' n9' n11' tE uW wg xP zL wh Y EZ E3 E4 u Iu R Iv Iw;simp only at c5 c10 Ew c16 c17;generalize aJ 0 Xz Yz B=K at *
 generalize aJ 0 nl nl nl=K0 at *
 generalize bH jE nl nl nl=z7 at *
 generalize bH d0 nl nl nl=D0 at *
 generalize aD (cz [] []) (aw B (.ac .aP 1 (aF [1,2])))=DA at *
 generalize aD c0 a5=D5 at *
 generalize aD (cz [dH] []) a6=D6 at *
 generalize aD (cz [eG,dH] []) a7=D7 at *
 generalize aD (lE (cz [eG,dH] []) (mZ 2 1 2)) a8=D8 at *
 generalize aD (lE (cz [eG,dH] []) (mZ 3 1 2)) a9=D9 at *
 generalize aD (cz [eG,dH] [(2,bz)]) a10=D10 at *
 generalize aD (cz [eG,dH] [(1,az),(2,bz)]) a11=D11 at *
 generalize aD c0 a0=Z0 at *
 generalize bB eG=B1 at *
 generalize bB dH=B2 at *
 generalize bB (mZ 2 1 2)=B3 at *
 generalize bB (mZ 3 1 2)=B4 at *
 generalize cL [eG,dH]=X at *
 generalize bY [(0,12),(1,19)]=SU at *
 generalize bY [(0,12)]=SU1 at *
 generalize bY [(1,19)]=SU2 at *
 generalize bI (1,0)=R0 at *
 generalize bI (2,bz)=R2 at *
 generalize bI (1,az)=R1 at *
 generalize aF Cz=CzL at *
 generalize al Cz 0=key at *
 generalize az=va at *
 generalize bz=vb at *
 generalize ez=ve at *
 generalize wW=vs at *
 unfold im at *
 refine cA O Tryz.func8 O ?_;refine bD @r_ ?_;refine bM.gen λs C ja fM eS=>?_;have q0_0:s.get 0=au:=by rw[C];exact gS
 have q0_1:s.get 1=.ptr (.box (F h.I)) 0:=by rw[C];exact gS
 have q0_2:s.get 2=.ac L 2 SU:=by rw[C];exact gS
 have q0_10:s.get 10=.ptr (.box (F N.I)) 0:=by rw[C];exact gS
 have q0_18:s.get 18=z0:=by rw[C];exact gS
 have q0_19:s.get 19=.v (.int .i64 0):=by rw[C];exact gS
 have q0_20:s.get 20=.ac .aP 4 X:=by rw[C];exact gS
 have q0_d:s.defers=[]:=by rw[ja];exact gS
 clear C ja fM eS c27 n1 n2 n3 n4 c5 c6 c7 c8 c9 m1 m2 s0 s1 s2 s3 s4 s5 s6 s7 g1 g2 g3 g4 d1 d2 d4 d5 x1 x2 x3w bo bo2 bo3 bdz bde be z27 z31 lnN lnW lnU bp bz1 g6;refine jY [(0,8),(3,8)] zt bX (λz hz=>?_) ?_
 .simp only[List.mem_cons,List.not_mem_nil,or_false]at hz;rcases hz with rfl|rfl
  .refine jL (x:=.ptr (.box (F N.I)) 0) (v:=.agg DA) bX O O O bX (sD) ?_ ?_<;>(simp only[dY,dG];exact f_ @r_ @and_self)
  .refine jL (x:=.elem 4 X 1 0) (v:=.agg B2) bX O O O bX (sP2) ?_ ?_<;>(simp only[dY,dG];exact f_ @r_ @and_self)
 refine bD @r_ ?_;refine bM.gen λD q iN vd Cq=>?_;have q1_0:D.get 0=au:=by rw[q];exact gA
 have q1_1:D.get 1=.ptr (.box (F h.I)) 0:=by rw[q];exact gA
 have q1_2:D.get 2=.ac L 2 SU:=by rw[q];exact gA
 have q1_18:D.get 18=z0:=by rw[q];exact gA
 have q1_19:D.get 19=.v (.int .i64 0):=by rw[q];exact gA
 have q1_20:D.get 20=.ac .aP 4 X:=by rw[q];exact gA
 have q1_21:D.get 21=.ptr (.box (F e.I)) 0:=by rw[q];exact gA
 have q1_22:D.get 22=.v (.int .i64 0):=by rw[q];exact gA
 have q1_d:D.defers=[]:=by rw[iN];exact gA
 clear q iN vd Cq q0_0 q0_1 q0_2 q0_10 q0_18 q0_19 q0_20 q0_d c10 s8 x3 x4 sD sP sP2 ixP1 ldP1;refine dW zt bX ?_;refine bD @r_ ?_;refine bM.gen λt o jQ oL I8=>?_;have q2_0:t.get 0=au:=by rw[o];exact gA
 have q2_1:t.get 1=.ptr (.box (F h.I)) 0:=by rw[o];exact gA
 have q2_2:t.get 2=.ac L 2 SU:=by rw[o];exact gA
 have q2_18:t.get 18=z0:=by rw[o];exact gA
 have q2_19:t.get 19=.v (.int .i64 0):=by rw[o];exact gA
 have q2_20:t.get 20=.ac .aP 4 X:=by rw[o];exact gA
 have q2_21:t.get 21=.ptr (.box (F e.I)) 0:=by rw[o];exact gA
 have q2_22:t.get 22=.v (.int .i64 0):=by rw[o];exact gA
 have q2_23:t.get 23=.v (.int .i64 0):=by rw[o];exact gA
 have q2_d:t.defers=[]:=by rw[jQ];exact gA
 clear o jQ oL I8 q1_0 q1_1 q1_2 q1_18 q1_19 q1_20 q1_21 q1_22 q1_d Ew s9 y1 ixP0 ldP0;refine jY [(0,6)] zt bX (λz hz=>?_) ?_
 .simp only[iL]at hz;subst hz;refine jL (x:=.ptr (.box (F e.I)) 0) (v:=.agg D7) bX O O O bX (sY) ?_ ?_<;>(simp only[dY,dG];exact f_ @r_ @and_self)
 refine bD @r_ ?_;refine bM.gen λf l rg hp3 hr3=>?_;have q3_0:f.get 0=au:=by rw[l];exact gA
 have q3_1:f.get 1=.ptr (.box (F h.I)) 0:=by rw[l];exact gA
 have q3_2:f.get 2=.ac L 2 SU:=by rw[l];exact gA
 have q3_18:f.get 18=z0:=by rw[l];exact gA
 have q3_19:f.get 19=.v (.int .i64 0):=by rw[l];exact gA
 have q3_20:f.get 20=.ac .aP 4 X:=by rw[l];exact gA
 have q3_21:f.get 21=.ptr (.box (F e.I)) 0:=by rw[l];exact gA
 have q3_22:f.get 22=.v (.int .i64 0):=by rw[l];exact gA
 have q3_23:f.get 23=.v (.int .i64 0):=by rw[l];exact gA
 have q3_25:f.get 25=.v (.int .i64 151):=by rw[l];exact gA
 have q3_d:f.defers=[]:=by rw[rg];exact gA
 clear l rg hp3 hr3 q2_0 q2_1 q2_2 q2_18 q2_19 q2_20 q2_21 q2_22 q2_23 q2_d c12 m3 yy y2 y7;refine jY [(0,6)] zt bX (λz hz=>?_) ?_
 .simp only[iL]at hz;subst hz;refine jL (x:=.ptr (.box (F e.I)) 0) (v:=.agg D7) bX O O O bX (sY) ?_ ?_<;>(simp only[dY,dG];exact f_ @r_ @and_self)
 refine bD @r_ ?_;refine bM.gen λE g tG Ae Ai=>?_;have q4_0:E.get 0=au:=by rw[g];exact gA
 have q4_1:E.get 1=.ptr (.box (F h.I)) 0:=by rw[g];exact gA
 have q4_2:E.get 2=.ac L 2 SU:=by rw[g];exact gA
 have q4_18:E.get 18=z0:=by rw[g];exact gA
 have q4_19:E.get 19=.v (.int .i64 0):=by rw[g];exact gA
 have q4_20:E.get 20=.ac .aP 4 X:=by rw[g];exact gA
 have q4_21:E.get 21=.ptr (.box (F e.I)) 0:=by rw[g];exact gA
 have q4_22:E.get 22=.v (.int .i64 0):=by rw[g];exact gA
 have q4_23:E.get 23=.v (.int .i64 0):=by rw[g];exact gA
 have q4_25:E.get 25=.v (.int .i64 151):=by rw[g];exact gA
 have q4_27:E.get 27=.v (.int .i64 420):=by rw[g];exact gA
 have q4_d:E.defers=[]:=by rw[tG];exact gA
 clear g tG Ae Ai q3_0 q3_1 q3_2 q3_18 q3_19 q3_20 q3_21 q3_22 q3_23 q3_25 q3_d HL m4 s11 y3 y8 sY;refine dW zt bX ?_;refine bD @r_ ?_;refine dW zt bX ?_;refine bD @r_ ?_;refine bM.gen λn d E_ Oo Fw=>?_;have q5_0:n.get 0=au:=by rw[d];exact gA
 have q5_1:n.get 1=.ptr (.box (F h.I)) 0:=by rw[d];exact gA
 have q5_18:n.get 18=z0:=by rw[d];exact gA
 have q5_19:n.get 19=.v (.int .i64 0):=by rw[d];exact gA
 have q5_22:n.get 22=.v (.int .i64 0):=by rw[d];exact gA
 have q5_23:n.get 23=.v (.int .i64 0):=by rw[d];exact gA
 have q5_25:n.get 25=.v (.int .i64 151):=by rw[d];exact gA
 have q5_27:n.get 27=.v (.int .i64 420):=by rw[d];exact gA
 have q5_29:n.get 29=.v (.int .i64 0):=by rw[d];exact gA
 have q5_31:n.get 31=.v (.int .i64 0):=by rw[d];exact gA
 have q5_33:n.get 33=.v (.int .i64 0):=by rw[d];exact gA
 have q5_34:n.get 34=.v (.int .i64 0):=by rw[d];exact gA
 have q5_35:n.get 35=.ptr (.box (F A.I)) 0:=by rw[d];exact gA
 have q5_37:n.get 37=aa:=by rw[d];exact gA
 have q5_38:n.get 38=.v (.int .i64 0):=by rw[d];exact gA
 have q5_d:n.defers=[]:=by rw[E_];exact gA
 clear d E_ Oo Fw q4_0 q4_1 q4_2 q4_18 q4_19 q4_20 q4_21 q4_22 q4_23 q4_25 q4_27 q4_d c14 c15 c16 c17 c18 s12 s13 s14 y4 y5 y6 g5 sl1 sl2 bz2 bz3;refine dW zt bX ?_;refine bD @r_ ?_;exact⟨_,_,O,O⟩
def LH:List a_:=LG++[8]
noncomputable def Qf:a_->Option (List V->ah->Option (V × ah)):=my SG LH
noncomputable abbrev SH:=whole ag Gt Qf
def rH:mN Qf LH:=tg
def pY{g}{a b}{y}(c:cy SG g a y)(e:LH.contains g=aa)(d:bE b=a):∀h,SH.call g b h=J (.ret y,h):=cy.use (L:=LH) c e d
def atS:∀h,SH.call 8 [] h=J (.ret (aa:V),h):=by obtain⟨_,_,b,rfl⟩:=atQ ⟨[],[],0,[]⟩;exact b8 (L:=LH) O O O b O rfl
def hA(a:CA):CA:=⟨aA a.X,aA a.Y,aA a.C,aA a.p,aA a.r,aA a.n,aA a.W,aA a.Pa,aA a.Z⟩
def Is(a):dS (hA a):=⟨mW _,mW _,mW _,mW _,mW _,mW _,mW _,mW _,mW _⟩
section
variable {c:Ce} {a:CA}
def Nu(ok:c_ c a):c_ c (hA a):=⟨ok.x.ip.1,ok.y.hold.1,ok.cm.hold.1,⟨ok.d.p.hold.1,ok.d.r.hold.1,ok.d.n.hold.1,ok.d.t⟩,ok.w.hold.1,ok.pa.ip.1,ok.z.hold.1⟩
end
structure RJ(D:List V):Prop where
 len:D.length=48
 cells:(V.agg D).bP=J D
def Ez{c}{a}(ok:c_ c a):RJ (aD c a):=⟨ok.len,ok.cells⟩
section
variable {c:Ce} {a:CA}
end
end Go.Proofs.YtcbhpkjbiehcpaaGreatDoor
end
section
namespace Go.Proofs.YtcbhpkjbiehcpaaGreatDoor
open Go.AE Go.NT Go.RowKit
def atZ:ownKnob ag.godebug=aq:=aB
def atX:(ag.funcs.all λfn=>match fn.body with|some c=>codeOk fn.ntmps c|none=>aa)=aa:=aB
def atY : (ag.funcs.all λfn => !(fn.name == "runtime.NumGoroutine")) = aa := aB
def nN:Prog ag:=⟨λe b h=>by
 have:=GW.1 atY b (abS h);simpa using this,aB,λe b c h d=>by
 have:=GW.1 atX b (abS h);simpa [d] using this⟩
def nU:∀g cs,Gt g=J cs->aM 0 0 0 cs=aa:=by
 intro g cs h;unfold Gt at h;split at h
 .injection h with h;subst h;kernel_rfl
 .split at h
  .injection h with h;subst h;kernel_rfl
  .split at h
   .injection h with h;subst h;rfl
   .cases h
noncomputable def afE(L:List a_):Bool:=L.all λd=>match ag.funcs[d]? with|some b=>b.body.isSome|none=>au
def lY{L}(h:afE L=aa):∀g∈L,∃fn,ag.funcs[g]?=J fn/\fn.body.isSome=aa:=by
 intro g d;have:=ff.1 h g d;split at this
 .rename_i fn b;exact⟨fn,b,this⟩
 .cases this
def oy(p:a_->Option (List V->ah->Option (V × ah))):Prop:=∀e b d,p b=J d->lV ag Gt e b d
def apg:oy aS:=λb d e h=>by cases h
def aph:oy P_:=tf nN nU apg (lY aB)
def api:oy P':=tf nN nU aph (lY aB)
def apj:oy Qa:=tf nN nU api (lY aB)
def apk:oy C':=tf nN nU apj (lY aB)
def apl:oy Da:=anv nN nU apk (lY aB) (lY aB)
def apm:oy Qb:=tf nN nU apl (lY aB)
def GD:List Int:=NT.start.map λb=>((b.toNat:Nat):Int)
def FZ:List Int:=NT.CI.map λ(b:Nat)=>(b:Int)
def abz{K}{l:List Int}:aR K (l.map λn=>V.v (.int .u32 n)) (l.map λn=>Value.int .u32 n):=by
 induction l with
 |nil=>exact .nil|cons n l b=>exact .cons _ _ _ _ (.v _ O) b
def ajy{W}(h:laidMetH ag Rows.ceremonySpecRow.laid W):∀g cs,Gt g=J cs->∃cells,aR (bA.init W) cs cells/\∀(j:Nat) (c:aQ),cells[j]?=J c->W.cell? ⟨g,j,aq⟩=J c:=by
 rw[MakeChecks.laidMetH_plain _ _ _ aB]at h;have o:(Lib.tabData .u32 GD:DataW Unit)=Rows.laid_signatory_digest_start:=aB;have p:(Lib.tabData .u32 FZ:DataW Unit)=Rows.laid_signatory_digest_numbers:=aB;intro g cs b;unfold Gt at b;split at b
 .rename_i l;injection b with b;subst b;subst l;have n := Lib.tabIs_of_head (n := 8) (g := 0) (t := 256) (e := 69) (zs := GD) (k := .u32) (name := "signatory/digest.start") aB aB aB aB aB aB (by rw [o]; exact h);refine⟨GD.map λi=>Value.int .u32 i,?_,λj c d=>?_⟩
  .have:Ra=GD.map λi=>V.v (.int .u32 i):=(by unfold Ra GD b7;rw[xn];rfl);rw[this];exact abz
  .rw[eF,dK]at d;obtain⟨i,f,rfl⟩:=d;have m:=(bk.1 f).1;rw[n.cell aB j m,fg,f];rfl
 .split at b
  .rename_i _ l;injection b with b;subst b;subst l;have n := Lib.tabIs_of_head (n := 64) (g := 1) (t := 266) (e := 69) (zs := FZ) (k := .u32) (name := "signatory/digest.numbers") aB aB aB aB aB aB (by rw [p]; exact h.tail);refine⟨FZ.map λi=>Value.int .u32 i,?_,λj c d=>?_⟩
   .have:FY=FZ.map λi=>V.v (.int .u32 i):=(by unfold FY FZ;rw[xn];rfl);rw[this];exact abz
   .rw[eF,dK]at d;obtain⟨i,f,rfl⟩:=d;have m:=(bk.1 f).1;rw[n.cell aB j m,fg,f];rfl
  .split at b
   .injection b with b;subst b;exact⟨[],.nil,λj c d=>by simp at d⟩
   .cases b
section
variable {H:Type}
def MI:ag.cellsOf 3=1:=aB
def Uj:ag.cellsOf 5=1:=aB
def agp:ag.cellsOf 22=1:=aB
def Ey:ag.cellsOf 23=1:=aB
def agq:ag.cellsOf 25=2:=aB
def avn:AR ag 25 [(22,0),(23,1)]=aa:=aB
def zQ{cs:List V}{d:DataW H}(h:Has ag 23 cs d):∃x l,cs=[x]/\IL x l:=by
 obtain⟨k,b,rfl,j,-,-,f⟩:=h.AP dp;obtain⟨l,rfl⟩:∃l:List Int,b=l.map wt:=Qw λn i=>by obtain⟨-,d,e⟩:=f n i;obtain⟨m,g,-⟩:=e.tL rG;exact⟨m,g⟩
 exact⟨_,l,O,k,_,O,λ_=>MI⟩
def ajS{cs:List V}{d:DataW H}(h:Has ag 22 cs d):∃x U,cs=[x]/\RL x U:=by
 obtain⟨u,b,rfl,q,-,-,m⟩:=h.AP gZ;have j:∀g∈b,∃x o,g=[x]/\IL x o:=λg e=>by obtain⟨-,d,p⟩:=m g e;exact zQ p
 clear q m;have n:∀b:List (List V),(∀g∈b,∃x o,g=[x]/\IL x o)->∃(f:List V) (U:List (List Int)),b=f.map (λa=>[a])/\F f=F U/\∀(l:Nat) (a:V) (g:List Int),f[l]?=J a->U[l]?=J g->IL a g:=by
  intro b
  induction b with
  |nil=>intro _;exact⟨[],[],O,O,λl a g i=>by simp at i⟩|cons t b s=>
   intro j;obtain⟨x,o,rfl,r⟩:=j t gt;obtain⟨f,U,rfl,k,h2⟩:=s λg e=>j g (gr _ e);refine⟨x::f,o::U,O,by simp[k],λl a g i e=>?_⟩;cases l with|zero=>simp at i e;subst i;subst e;exact r|succ l=>exact h2 l a g (by simpa using i) (by simpa using e)
 obtain⟨f,U,rfl,k,h2⟩:=n b j;exact⟨_,U,O,u,_,f,O,λ_=>Ey,k,h2⟩
def V7{x:V}{d:DataW H}(h:kC ag 60 x d):∃l:List UInt8,BL x l:=by
 obtain⟨j,i,rfl,h2,-,-,b⟩:=h.AP Tryz.underlying60;obtain⟨l,rfl⟩:=Qw (f:=iF) λk g=>by obtain⟨-,d,e⟩:=b k g;exact e.KL aB
 exact⟨l,j,_,O,λ_=>Uj⟩
end
def ZJ:oy JQ:=tf nN nU apm (lY aB)
def apn:oy Qc:=tf nN nU ZJ (lY aB)
def apo:oy Qd:=tf nN nU apn (lY aB)
def apq:oy Db:=tf nN nU apo (lY aB)
def apr:oy nL:=Jy nN nU apq (lY aB) (λb h=>absurd O h) OX
def aps:oy JR:=Jy nN nU apr (lY aB) (λd h=>by
 unfold ZD at h;split at h
 .rename_i b;subst b;exact lY (L:=[16]) aB _ (.head _)
 .split at h
  .rename_i b;subst b;exact lY (L:=[18]) aB _ (.head _)
  .exact absurd O h) OX
def ZK:oy JS:=Jy nN nU aps (lY aB) (λb h=>absurd O h) OX
def apt:oy ZO:=Jy nN nU ZK (lY aB) (λb h=>absurd O h) λe b f h=>by
 unfold qF at h;split at h
 .rename_i d;injection h with h;subst h;exact Vk nN nU ZK (lY (L:=[60]) aB b (ou d ▸ .head _)) e
 .split at h
  .rename_i d;injection h with h;subst h;exact Vk nN nU ZJ (lY (L:=[61]) aB b (ou d ▸ .head _)) e
  .cases h
def apu:oy Qe:=tf nN nU apt (lY aB)
def apv:oy Qf:=tf nN nU apu (lY aB)
section
variable {H:Type}
def Uh:ag.cellsOf 29=32:=aB
def Ui:ag.cellsOf 31=41:=aB
def abh:AR ag 31 [(3,0),(3,1),(3,2),(3,3),(3,4),(3,5),(23,6),(23,7),(23,8),(29,9)]=aa:=aB
def rY{l:List V}{n}(h:F l=n+1):∃a r,l=a::r/\F r=n:=by
 match l,h with
 |a::r,h=>exact⟨a,r,O,by simpa using h⟩
def TR:∀xs:List V,(∀i,i<F xs->∃b:UInt8,(xs.drop i).take 1=[gm b])->∃l:List UInt8,xs=l.map gm
 | [],_=>⟨[],O⟩
 |x::xs,h=>by obtain⟨b,d⟩:=h 0 cE;obtain⟨l,rfl⟩:=TR xs λi e=>h (i+1) (by simpa using e);simp at d;exact⟨b::l,by rw[d];rfl⟩
def ajT{cs:List V}{d:DataW H}(h:Has ag 29 cs d):∃l:List UInt8,cs=l.map gm/\F l=32:=by
 have e:=Mg;cases h with
 |bool b=>rw[e]at b;cases b
 |int b=>rw[e]at b;cases b
 |str b=>rw[e]at b;cases b
 |none b=>rw[e]at b;cases b
 |ac b=>rw[e]at b;cases b
 |struct b=>rw[e]at b;cases b
 |array b s g f q k=>
  rw[e]at b;injection b with b;injection b with i h2;subst i;subst h2;rw[Uh]at f;obtain⟨l,m⟩:=TR cs λn r=>by have o:=k n g[n] (aY af);rw[Uj,mr]at o;obtain⟨p,j⟩:=o.KL aB;exact⟨p,j⟩
  exact⟨l,m,by rw[m,bJ]at f;exact f⟩
def ajP{cs:List V}{d:DataW H}(h:Has ag 31 cs d):∃D p r n,cs=bH D p r n/\mo D p r n:=by obtain⟨s,b⟩:=h.fields abh;rw[Ui]at s;obtain⟨x0,c0,rfl,Y⟩:=rY s;obtain⟨x1,c1,rfl,Z⟩:=rY Y;obtain⟨x2,c2,rfl,k2⟩:=rY Z;obtain⟨x3,c3,rfl,k3⟩:=rY k2;obtain⟨x4,c4,rfl,k4⟩:=rY k3;obtain⟨x5,c5,rfl,k5⟩:=rY k4;obtain⟨x6,c6,rfl,k6⟩:=rY k5;obtain⟨x7,c7,rfl,k7⟩:=rY k6;obtain⟨x8,c8,rfl,k8⟩:=rY k7;obtain⟨_,t⟩:=b 0 3 0 O;obtain⟨_,u⟩:=b 1 3 1 O;obtain⟨_,v⟩:=b 2 3 2 O;obtain⟨_,y⟩:=b 3 3 3 O;obtain⟨_,A⟩:=b 4 3 4 O;obtain⟨_,B⟩:=b 5 3 5 O;obtain⟨_,C⟩:=b 6 23 6 O;obtain⟨_,E⟩:=b 7 23 7 O;obtain⟨_,L⟩:=b 8 23 8 O;obtain⟨_,N⟩:=b 9 29 9 O;rw[MI]at t u v y A B;rw[Ey]at C E L;rw[Uh]at N;obtain⟨n0,f,-⟩:=t.tL rG;obtain⟨n1,g,-⟩:=u.tL rG;obtain⟨n2,i,-⟩:=v.tL rG;obtain⟨n3,j,-⟩:=y.tL rG;obtain⟨n4,k,-⟩:=A.tL rG;obtain⟨n5,l,-⟩:=B.tL rG;obtain⟨p,pa,m,S⟩:=zQ C;obtain⟨r,rv,o,T⟩:=zQ E;obtain⟨n,nd,q,R⟩:=zQ L;obtain⟨tx,e,X⟩:=ajT N;simp only[gP,List.drop_succ_cons,dY,dG,List.cons.injEq,and_true]at f g i j k l m o q e;rw[fK (acV k8)]at e;subst f;subst g;subst i;subst j;subst k;subst l;subst m;subst o;subst q;subst e;exact⟨⟨n0,n1,n2,n3,n4,n5,pa,rv,nd,tx⟩,_,_,_,O,S,T,R,X⟩
end
end Go.Proofs.YtcbhpkjbiehcpaaGreatDoor
end
section
namespace Go.AE
open Go.RowKit Go.WideShapes Go.ChangeShapes
def F3(P:bL)(e:List aO)(t:aO):Bool:=
 match P.underlying t with
 |some .bool|some (.int _)|some .string=>aa
 |some (.slice b)=>e.contains b&&decide (0<P.cellsOf b)
 |some (.struct d)=>AU P 0 d.toList (P.cellsOf t)&&d.toList.all λf=>e.contains f.type
 |some (.array g b)=>jn (P.cellsOf t) (g*P.cellsOf b)&&e.contains b
 |_=>au
def JF(P:bL)(b:List aO):Bool:=b.all (F3 P b)
section
variable {H:Type} {Z:aO × aQ->H} {P:bL} {W:World}
def awc{z3:List aO}(hS:JF P z3=aa):∀(fuel:Nat) (t:aO) (cs:List aQ) (x:DataW H × List MemPlace),DataW.trod Z P W 0 (λ_=>aa) aa fuel t cs=J x->z3.contains t=aa->
 ∃xs,aR (bA.init W) xs cs/\xs.all V.dt=aa/\Has P t xs x.1:=by
 intro fuel
 induction fuel with
 |zero=>intro t cs x h;simp[DataW.trod]at h|succ fuel ih=>
  intro t cs x h mg;have j:F3 P z3 t=aa:=ff.1 hS t (by simp_all);unfold F3 at j;split at j
  .rename_i d;obtain⟨z5,rfl,rfl⟩:=DataW.trod_bool d h;exact⟨_,.cons _ _ _ _ (.v _ O) .nil,O,.bool d z5⟩
  .rename_i p d;obtain⟨z0,rfl,rfl,hw⟩:=DataW.trod_int d h;exact⟨_,.cons _ _ _ _ (.v _ O) .nil,O,.int d z0 hw⟩
  .rename_i d;obtain⟨z6,rfl,rfl,hs⟩:=DataW.trod_string d h;exact⟨_,.cons _ _ _ _ (.v _ O) .nil,O,.str d z6 hs⟩
  .rename_i k d;rw[bQ,decide_eq_true_eq]at j;obtain⟨ayq,Co⟩:=j;rcases DataW.trod_slice d h with⟨rfl,rfl⟩|⟨a,len,ba,i,u,z0,hm,rfl,rfl,-,Oa,NN,IE,akb,akT,-⟩
   .exact⟨_,.cons _ _ _ _ (.nil _) .nil,O,.none d⟩
   .have hm:z0=fuel:=(by omega);subst hm;obtain⟨mX,akI⟩:=akT O;have T:∀e,e<len->∃q f y,W.cells? 0 (a.add (e*P.cellsOf k)) (P.cellsOf k)=J q/\i[e]?=J y/\aR (bA.init W) f q/\f.all V.dt=aa/\Has P k f y.1:=by
     intro e hi;have h1:=akb e hi;rw[aY (by omega:e<F i)]at h1;cases hc:W.cells? 0 (a.add (e*P.cellsOf k)) (P.cellsOf k) with
     |none=>simp_all|some q=>
      grind
    by_cases aj3:ba=0
    .have r:len=0:=(by omega);subst aj3;subst r;have he:i=[]:=List.eq_nil_of_length_eq_zero IE;subst he;refine⟨[.ac .aP (P.cellsOf k) []],.cons _ _ _ _ (.gH _ _) .nil,O,?_⟩;show Has P t _ (.slice [] (u.map (·.1)));exact .ac d .aP [] [] (u.map (·.1)) (.inr ⟨O,O⟩) (cC _) O cE cE
    .-- the block is there
     have L:a.spot=aq:=by
      have:∃q,W.cells? 0 (a.add 0) (P.cellsOf k)=J q:=by
       rcases Nat.eq_zero_or_pos len with h0|h0
       .have h1:=akI 0 af;rw[aY (by omega:0<F u)]at h1;cases hc:W.cells? 0 (a.add ((len+0)*P.cellsOf k)) (P.cellsOf k) with|none=>simp_all|some q=>simp_all
       .grind
      obtain⟨q,iV⟩:=this;obtain⟨hl,hg⟩:=Ul iV;have h0:=hg 0 Co;rw[aY (by omega:0<F q)]at h0;have:(a.add 0).add 0=a:=(by simp[Addr.add]);rw[this]at h0;exact auE h0
     obtain⟨z4,b,sp⟩:=a;simp only at L;subst L;have C:∀p,p<=len->∃m:List (List V),F m=p/\(∀f∈m,F f=P.cellsOf k/\f.all V.dt=aa)/\(∀(e:Nat) (f:List V) (z1:DataW H),m[e]?=J f->(i.map (·.1))[e]?=J z1->Has P k f z1)/\
      ∃cells:List aQ,F cells=p*P.cellsOf k/\aR (bA.init W) m.flatten cells/\∀(s:Nat) (c:aQ),cells[s]?=J c->W.cell? ⟨z4,b+s,aq⟩=J c:=by
      intro p
      induction p with
      |zero=>intro _;exact⟨[],O,by simp,by simp,[],by simp,.nil,by simp⟩|succ p ihk=>
       intro hk;obtain⟨m,e1,e2,e3,cells,c1,c2,c3⟩:=ihk af;obtain⟨q,f,y,hc,E,n,Y,g3⟩:=T p af;obtain⟨qy,hvg⟩:=Ul hc;refine⟨m++[f],by grind,λr' Ah=>?_,λe r' z1 hi hd=>?_,cells++q,by grind,?_,λs c B=>?_⟩
       .rcases List.mem_append.1 Ah with h1|h1
        .grind
        .simp only[iL]at h1;subst h1;exact⟨by rw[n.length,qy],Y⟩
       .grind
       .rw[ux];simpa using c2.append n
       .rcases eg s (F cells) with h1|h1
        .grind
        .rw[List.getElem?_append_right h1]at B;have wm:s-F cells<P.cellsOf k:=(by have:=(bk.1 B).1;omega);have h2:=hvg _ wm;rw[B,Addr.ji,Addr.ji]at h2
         grind
     obtain⟨m,e1,e2,e3,cells,c1,c2,c3⟩:=C len (bh _);have A:m.flatten.all V.dt=aa:=(by rw[List.all_flatten];simp only[ff];intro f N;have:=(e2 f N).2;simpa using this);refine⟨[.ac .held (P.cellsOf k) m],.cons _ _ _ _ (.ac .held (P.cellsOf k) m z4 b len ba cells e1.symm (λf N=>(e2 f N).1) c2 c3 ⟨Oa,br⟩ A) .nil,O,?_⟩;exact .ac d .held m (i.map (·.1)) (u.map (·.1)) (.inl O) af (by simp_all) e3 (λf N=>(e2 f N).1)
  .rename_i fs d;rw[bQ,ff]at j;obtain⟨akZ,A⟩:=j;obtain⟨v,z0,hm,rfl,o,FJ,tF⟩:=DataW.trod_struct d h;have hm:z0=fuel:=(by omega);subst hm;have fld:∀(e:Nat) (g:Field),fs[e]?=J g->∃f y,v[e]?=J y/\aR (bA.init W) f ((cs.drop g.offset).take (P.cellsOf g.type))/\f.all V.dt=aa/\Has P g.type f y.1:=by
    intro e g hf;have h1:=tF e g hf;have dD:e<F v:=(by rw[FJ];exact(Array.getElem?_eq_some_iff.1 hf).1);rw[aY dD]at h1;obtain⟨f,n,Y,g3⟩:=ih g.type _ _ h1 (A g (by
     grind))
    exact⟨f,_,aY dD,n,Y,g3⟩
   have build:∀(S:List Field) (e b:Nat),(∀s g,S[s]?=J g->fs[e+s]?=J g)->AU P b S (P.cellsOf t)=aa->b<=F cs->
    ∃xs,aR (bA.init W) xs (cs.drop b)/\xs.all V.dt=aa/\∀s g,S[s]?=J g->b<=g.offset/\∃f y,v[e+s]?=J y/\(xs.drop (g.offset-b)).take (P.cellsOf g.type)=f/\Has P g.type f y.1:=by
    intro S
    induction S with
    |nil=>intro e b _ R _;have Cj:b=P.cellsOf t:=ou R;refine⟨[],?_,O,λs g B=>by grind⟩;rw[Cj,<-o,Lw];exact .nil|cons g S ihl=>
     intro e b hl R jR;rw[AU,bQ]at R;have ho:g.offset=b:=ou R.1;obtain⟨f,y,E,n,Y,g3⟩:=fld e g (by simpa using hl 0 g O);have IV:b+P.cellsOf g.type<=F cs:=by
      rw[o];have:∀(S:List Field) (z2:Nat),AU P z2 S (P.cellsOf t)=aa->z2<=P.cellsOf t:=by
       intro S
       induction S with
       |nil=>intro z2 h;exact acV (ou h)|cons g S ih=>intro z2 h;rw[AU,bQ]at h;grind
      exact this S _ R.2
     obtain⟨xs,l,x2,x3⟩:=ihl (e+1) (b+P.cellsOf g.type) (λs X B=>by
      have:=hl (s+1) X (by simp_all)
      grind) R.2 IV
     rw[ho]at n;have mX:F f=P.cellsOf g.type:=(by rw[n.length];simp;omega);refine⟨f++xs,?_,by simp_all,λs X B=>?_⟩
     .have:=n.append l;rw[<-rB,List.take_append_drop]at this;omega
     .cases s with|zero=>simp_all|succ s=>obtain⟨pN,r',y',hy',Ah,D⟩:=x3 s X (by simp_all);refine⟨af,r',y',by grind,?_,D⟩;rw[show X.offset-b=F f+(X.offset-(b+P.cellsOf g.type)) by omega,<-rB,DW];omega
   obtain⟨xs,l,x2,x3⟩:=build fs.toList 0 0 (λs g B=>by simp_all) akZ (cC _);rw[gP]at l;refine⟨xs,l,x2,.struct d xs (v.map (·.1)) (by rw[l.length,o]) (by grind) λe g z1 hf hd=>?_⟩;obtain⟨-,f,y,E,N,D⟩:=x3 e g (by simp_all)
   grind
  .rename_i z0 k d;rw[bQ]at j;have hJ:P.cellsOf t=z0*P.cellsOf k:=ou j.1;obtain⟨v,fu,Wx,rfl,o,FJ,tF⟩:=DataW.trod_array d h;have Wx:fu=fuel:=(by omega);subst Wx;have C:∀p,p<=z0->∃xs,aR (bA.init W) xs (cs.take (p*P.cellsOf k))/\xs.all V.dt=aa/\∀e,e<p->∃y,v[e]?=J y/\Has P k ((xs.drop (e*P.cellsOf k)).take (P.cellsOf k)) y.1:=by
    intro p
    induction p with
    |zero=>intro _;exact⟨[],by simp;exact .nil,O,λe hi=>absurd hi (Nat.not_lt_zero e)⟩
    |succ p ihk=>
     intro hk;obtain⟨xs,l,x2,x3⟩:=ihk af;have h1:=tF p af;rw[aY (by omega:p<F v)]at h1;obtain⟨f,n,Y,g3⟩:=ih k _ _ h1 j.2;have r:(p+1)*P.cellsOf k<=F cs:=(by rw[o,hJ];exact mR _ hk);have fF:F xs=p*P.cellsOf k:=(by rw[l.length,dJ];rw[jm]at r;omega);have mX:F f=P.cellsOf k:=(by rw[n.length];simp;rw[jm]at r;omega);refine⟨xs++f,?_,by simp_all,λe hi=>?_⟩
     .have:=l.append n
      rwa [<-List.take_add,<-adb]at this
     .rcases eg e p with h2|h2
      .obtain⟨y,E,D⟩:=x3 e h2;refine⟨y,E,?_⟩;have h3:(e+1)*P.cellsOf k<=p*P.cellsOf k:=mR _ h2
       grind
      grind
   obtain⟨xs,l,x2,x3⟩:=C z0 (bh _);rw[<-hJ,<-o,gy]at l;refine⟨xs,l,x2,.array d xs (v.map (·.1)) (by rw[l.length,o]) (by grind) λe z1 hd=>?_⟩
   grind
  simp_all
def aen{r:List aO}(m:JF P r=aa){t:aO}{v:aQ}{d:DataW H}{p:List MemPlace}{j:Nat}(h:DataW.Trod Z P W 0 (λ_=>aa) aa t v d p)(b:Value.okWide P W .any j t v)(n:r.contains t=aa):
 ∃x,aZ (bA.init W) x v/\kC P t x d:=by
 obtain⟨l,y⟩:=h;obtain⟨q,g,h2,N⟩:=awc m l t _ _ y n;have f:∀c,v.cells.toList=[c]->v=c->(∀k,P.underlying t≠J (.struct k))->(∀E s,P.underlying t≠J (.array E s))->∃x,aZ (bA.init W) x v/\kC P t x d:=by
  intro c u o D C;rw[u]at g;cases g with|cons x _ _ _ B A=>cases A;refine⟨x,o ▸ B,?_⟩;unfold kC;simp_all
 have i:F3 P r t=aa:=ff.1 m t (by simp_all);unfold F3 at i;unfold Value.okWide at b;split at i
 .rename_i e;rw[e]at b;simp only[Cell.okWide,Cell.ok,e]at b;cases v<;>simp at b;exact f _ O O (by simp_all) (by simp_all)
 .rename_i R e;rw[e]at b;simp only[Cell.okWide,Cell.ok,e]at b;cases v<;>simp at b;exact f _ O O (by simp_all) (by simp_all)
 .rename_i e;rw[e]at b;simp only[Cell.okWide,Cell.ok,e]at b;cases v<;>simp at b;exact f _ O O (by simp_all) (by simp_all)
 .rename_i s e;rw[e]at b;simp only[Cell.okWide,Cell.ok,e]at b;cases v<;>simp at b;exact f _ O O (by simp_all) (by simp_all)
 .rename_i L e;rw[e]at b;obtain⟨k,rfl,-,-⟩:=b;exact⟨.agg q,.agg _ _ g,by unfold kC;simp_all⟩
 .rename_i E s e;rw[e]at b;obtain⟨k,rfl,-,-⟩:=b;exact⟨.agg q,.agg _ _ g,by unfold kC;simp_all⟩
 simp_all
def aeq{r:List aO}(o:JF P r=aa){e:Nat}:∀{ts:List aO} {vs:List aQ} {b:List (DataW H)} {p:List MemPlace},DataW.TrodAll Z P W 0 (λ_=>aa) aa ts vs b p->
 (∀(j:Nat) t v,ts[j]?=J t->vs[j]?=J v->Value.okWide P W .any e t v)->(∀t∈ts,r.contains t=aa)->∃xs,aR (bA.init W) xs vs/\rA P ts xs b:=by
 intro ts
 induction ts with
 |nil=>intro vs b p h _ _;obtain⟨rfl,rfl,rfl⟩:=trodAll_nil h;exact⟨[],.nil,br⟩
 |cons t ts q=>intro vs b p h g d;obtain⟨v,y,C,s,A,B,rfl,rfl,rfl,n,h2⟩:=trodAll_cons h;obtain⟨x,i,k⟩:=aen o n (g 0 t v O O) (d t gt);obtain⟨xs,l,m⟩:=q h2 (λj t v f u=>g (j+1) t v (by simp_all) (by simp_all)) (λt f=>d t (gr _ f));exact⟨x::xs,.cons _ _ _ _ i l,k,m⟩
structure R5(P:bL)(S:List aO)(f:a_)(fn:Func)(tb:aO):Prop where
 func:P.funcs[f]?=J fn
 laid:laidOutB P=aa
 set:JF P S=aa
 Rr:∀t∈fn.params.toList,S.contains t=aa/\P.readableRec t=aa/\t<P.types.size
 res:fn.resultTypes=#[tb]
 bool:P.underlying tb=J .bool
variable {G:Nat->Option (List V)} {aS:a_->Option (List V->ah->Option (V × ah))}
def amk{z0:List aO}(hp:Prog P){f:a_}{fn:Func}{tb:aO}(A:R5 P z0 f fn tb){s:ChangeSpec}{apart fresh k o:Bool}{C:Nat}{args:Array aQ}{b S:List (DataW H)}{d:List MemPlace}
 (i:s.vars=[]) (u:∀b:List (DataW H),F b=fn.params.size->(s.fn H b).results=[.lit (.bool aa)]/\(s.fn H b).args=b/\(s.fn H b).vars=[])
 (N:∀(j:Nat) t v,fn.params[j]?=J t->args[j]?=J v->Value.okWide P W .any C t v)
 (X:DataW.Whole Z P fn.params.toList s.vars apart W args.toList b S d)
 (hG:∀g cs,G g=J cs->∃cells,aR (bA.init W) cs cells/\∀(j:Nat) (c:aQ),cells[j]?=J c->W.cell? ⟨g,j,aq⟩=J c)
 (r:∀g p,aS g=J p->lV P G W g p)
 (D:∀xs:List V,rA P fn.params.toList xs b->∃h',(whole P G aS).call f xs ah.init=J (.ret (.v (.bool aa)),h')):
 Calls P f args W λe W'=>∃v,e=.returned v/\s.post Z P fn apart fresh k o W args v W':=by
 have B:=X;obtain⟨p,z1,hA,hV,m,xW,hnd⟩:=X;have T:DataW.TrodVars Z P W (λ_=>aa) [] S z1:=i ▸ hV;obtain⟨rfl,rfl⟩:=trodVars_none T;rw[iB]at m;subst m;obtain⟨xs,hxs,l⟩:=aeq A.set hA (λj t v y hv=>N j t v (by simp_all) (by simp_all)) (λt y=>(A.Rr t y).1);obtain⟨h',q⟩:=D xs l;have L:jB P G W (bA.init W) ah.init W:=auh W hG;obtain⟨-,hc⟩:=(KR hp r).call f xs ah.init _ _ q;intro cs;obtain⟨K',w',fr,le,s',iq,hfr,v,R,hl⟩:=hc (bA.init W) W args hxs L cs;have hv:=R.ig.1;subst hv;have Y:Below W.heap.size W w':=by have:=s'.fG;rw[le.base]at this;exact this
 have E:F b=fn.params.size:=by
  have:∀{n:List aO} {xs:List V} {b:List (DataW H)},rA P n xs b->F b=F n:=by
   intro n
   induction n with
   |nil=>intro xs b h;cases xs<;>cases b<;>simp[rA]at h ⊢
   |cons t n ih=>intro xs b h;cases xs<;>cases b<;>simp[rA]at h ⊢;grind
  simpa using this l
 obtain⟨r1,r2,r3⟩:=u b E;refine⟨.returned (.bool aa),w',fr,⟨_,O,?_⟩,iq,hfr,hl⟩;refine apw (pa:=d) (pv:=[]) B (λz2 sp hd=>?_) (λsp Cv=>?_) (λsp _=>?_) cE Y (ok_one A.res O (okWide_bool_mk A.bool _))
 .rw[A.res,iB,r1];exact trodAll_cons_mk (shut_bool A.bool _) trodAll_mk0
 .rw[iB,r2];exact aer A.laid hA (λt y=>(A.Rr t y).2) (λx R=>Y.same (B.lt x R)) Cv
 .rw[i,iB,r3];exact rfl
end
end Go.AE
end
