/-
  The engine, part 31: arguments of recursive types: a set of types, each made of others of the set.
-/
import Derived.Test.YtnfciiiohoafaaaGreatDoorUH
import Derived.Test.YtnfciiiohoafaaaGreatDoorUE
import Derived.Test.YtnfciiiohoafaaaGreatDoorUG
import Derived.Test.YtnfciiiohoafaaaGreatDoorUD
import Derived.Test.YtnfciiiohoafaaaGreatDoorUF
import Derived.Test.YtnfciiiohoafaaaGreatDoorUB
import Derived.LaidMore
import Derived.MakeChecks
import Derived.Stop.LaidErr
import Derived.Stop.Joined
import Derived.Lib.LaidTab
import Derived.Test.YtnfciiiohoafaaaGreatDoorRows
open True renaming intro->aU
open Go.Proofs.Tryz renaming prog->ao,func148->adO,underlying23->dQ,underlying3->yD
open Option renaming some->aa,none->au,bind_some->oq,map_eq_some_iff->dx,map_some->ff,some.injEq->dP
open Bool renaming true->ah,and_eq_true->bC,false->az
open Nat renaming le_refl->aJ,le_of_ble_eq_true->jR,reduceEqDiff->aO,zero_le->cA,le_trans->fw,add_mul->gJ,lt_or_ge->dW,eq_of_beq_eq_true->jW,mul_le_mul_right->oM
open List renaming drop_zero->iO,take_of_length_le->gm,getElem?_map->ej,getElem?_range->yx,all_eq_true->ey,length_cons->iP,length_map->bu,length_take->eS,length_singleton->Nn,append_nil->jr,getElem?_eq_getElem->aR,mem_of_getElem?->dj,nil_append->lJ,take_length->fC,getElem?_eq_some_iff->aS,all_append->zZ,all_eq_false->DS,mem_singleton->my,cons_append->kL,map_map->Bx,getD_eq_getElem?_getD->ez,mem_cons_self->fW,mem_cons_of_mem->fE,drop_drop->yv,drop_left->acX
open And renaming intro->aw
open Array renaming all_eq_true'->MV,mem_of_getElem?->aco,getElem?_eq_some_iff->Dy
set_option maxHeartbeats 64000000
set_option maxRecDepth 100000
set_option linter.unusedSimpArgs false
set_option linter.unusedVariables false
set_option linter.constructorNameAsVariable false
set_option linter.defProp false
section
namespace Go.Proofs.YtnfciiiohoafaaaGreatDoor
open Go.AE Go.NT
def nZ:Tryz.f38.results.toList=[.cell 12 66,.tmp 13,.tmp 14]:=av
def gq(ep:Int)(X Y C T L Z:AV):List AV:=[im ep,X,Y,C,T,L,Z]
def ach:(gZ ao 66).bind AV.bP=aa (gq 0 nl nl nl nl nl nl):=av
def SV:dt ao 66=aa 7:=av
def aeC:gI ao 66=aa ah:=av
def B2:(∀b,gg ao 66 (.ptr (.box b) 0) 0=aa (.ptr (.box b) 0))/\(∀b,gg ao 66 (.ptr (.box b) 0) 1=aa (.ptr (.box b) 4))/\(∀b,gg ao 66 (.ptr (.box b) 0) 2=aa (.ptr (.box b) 5))/\∀b,gg ao 66 (.ptr (.box b) 0) 3=aa (.ptr (.box b) 6):=
 ⟨λb=>av,λb=>av,λb=>av,λb=>av⟩
def VW:(∀b,gg ao 81 (.ptr (.box b) 0) 0=aa (.ptr (.box b) 0))/\∀b,gg ao 81 (.ptr (.box b) 0) 1=aa (.ptr (.box b) 1):=⟨λb=>av,λb=>av⟩
def avY:(gZ ao 81).bind AV.bP=aa (lI (0,0)):=av
def auj{H:aq}(p):b7 ao (H.push (lI (0,0))) 81 (.ptr (.box H.boxes.length) 0) (.agg (lI p))=aa (H.push (lI p)):=jx rfl MH rfl rfl
def alP{H}{b}{p}(hb:H.boxes[b]?=aa (lI p)):aH ao Gt H 81 (.ptr (.box b) 0)=aa (.agg (lI p)):=by rw[iL Ut MH hb (aJ 2)];rfl
section
variable {H:aq} {b:Nat} {ep:Int} {X Y C S L Z x:AV}
def Y5{T:List AV}(hb:H.boxes[b]?=aa T)(hl:T.length=7):aH ao Gt H 66 (.ptr (.box b) 0)=aa (.agg T):=by rw[iL aeC SV hb ag];rw[iO,gm ag]
def abx{T T2:List AV}(hb:H.boxes[b]?=aa T)(hl:T.length=7)(hx:(AV.agg T2).bP=aa T2)(jT:T2.length=7):b7 ao H 66 (.ptr (.box b) 0) (.agg T2)=aa (H.put b T2):=by rw[fA (off:=0) (cs:=T) (xs:=T2) hx SV hb jT ag,wK ag]
def atH{ep2:Int}{X2 Y2 C2:AV}(hb:H.boxes[b]?=aa (gq ep X Y C S L Z))(hx:(AV.agg (aN ep2 X2 Y2 C2)).bP=aa (aN ep2 X2 Y2 C2)):b7 ao H 27 (.ptr (.box b) 0) (.agg (aN ep2 X2 Y2 C2))=aa (H.put b (gq ep2 X2 Y2 C2 S L Z)):=
 fA (off:=0) (cs:=gq ep X Y C S L Z) (xs:=aN ep2 X2 Y2 C2) hx SU hb rfl (jR rfl)
def atJ(hb:H.boxes[b]?=aa (gq ep X Y C S L Z))(hx:x.bP=aa [x]):b7 ao H 28 (.ptr (.box b) 4) x=aa (H.put b (gq ep X Y C x L Z)):=
 fA (off:=4) (cs:=gq ep X Y C S L Z) (xs:=[x]) hx abZ hb rfl (jR rfl)
def atI(hb:H.boxes[b]?=aa (gq ep X Y C S L Z))(hx:x.bP=aa [x]):b7 ao H 29 (.ptr (.box b) 5) x=aa (H.put b (gq ep X Y C S x Z)):=
 fA (off:=5) (cs:=gq ep X Y C S L Z) (xs:=[x]) hx auI hb rfl (jR rfl)
def atK(hb:H.boxes[b]?=aa (gq ep X Y C S L Z))(hx:x.bP=aa [x]):b7 ao H 23 (.ptr (.box b) 6) x=aa (H.put b (gq ep X Y C S L x)):=
 fA (off:=6) (cs:=gq ep X Y C S L Z) (xs:=[x]) hx il hb rfl (jR rfl)
def Y6(hb:H.boxes[b]?=aa (gq ep X Y C S L Z)):aH ao Gt H 27 (.ptr (.box b) 0)=aa (.agg (aN ep X Y C)):=by rw[iL av SU hb (jR rfl)];rfl
def Vm{ae:List (List Int)}{owners aj z:List Int}{text:List UInt8}{l:List Pr}(hx:RL X ae)(hy:IL Y owners)(hc:IL C aj)(hs:BL S text)(hl:PL L l)(hn:IL Z z):
 (AV.agg (gq ep X Y C S L Z)).bP=aa (gq ep X Y C S L Z):=by
 obtain⟨_,_,_,rfl,-⟩:=hx.form;obtain⟨_,_,rfl,-⟩:=hy;obtain⟨_,_,rfl,-⟩:=hc;obtain⟨_,_,rfl,-⟩:=hs;obtain⟨_,_,rfl,-⟩:=hl;obtain⟨_,_,rfl,-⟩:=hn;rfl
end
structure wX(h H:aq)(X Y:AV)(T:List AV)(tz to:Tok):Prop where
 ti:TI h H X Y T tz
 co:dm h.tn H to
 ne:∀a,tz=.free a->to≠ .free a
def wX.start{h H}{X Y}{T}{tz}(b:TI h H X Y T tz):wX h H X Y T tz .nil:=⟨b,.inl rfl,λ_ _ q=>by cases q⟩
def wX.push{h H}{X Y}{T}{tz to}(b:wX h H X Y T tz to)(cs):wX h (H.push cs) X Y T tz to:=⟨b.ti.push cs,by rw[An];exact b.co,b.ne⟩
def wX.app{h H}{X Y}{T}{tz to}(b:wX h H X Y T tz to):wX h (H.app to) X Y T tz (.free H.tn):=by
 have gr:=Grown.one b.co b.ti.ok b.ti.ext.tn;refine⟨⟨gr.ext b.ti.ext (aJ _),gr.ok,GW b.ti.can λa ha he=>b.ne a he ha,by rw[ec];exact b.ti.pb,by rw[ec];exact b.ti.tb⟩,gr.can,λa ha he=>?_⟩;injection he with he;subst he;rcases b.ti.can with q|q|⟨m,q,-,q2⟩
 ·rw[q] at ha;cases ha
 ·rw[q] at ha;cases ha
 ·rw[q] at ha;injection ha with ha;have:=uM q2;omega
def jN(ar N:List Int):List Pr:=(List.range ar.length).map λi=>⟨ai ar i,(i:Int),(bF Gn (ai N (2 * i)):Nat),(bF Gn (ai N (2 * i+1)):Nat)⟩
def Ro(ar N):(jN ar N).length=ar.length:=by unfold jN;simp
def ahO(ar N)(h1:N.length=2 * ar.length)(h2:∀x∈N,okF x)(h3:ar.length<=4096):pq ar N (jN ar N):=
 ⟨Ro _ _,h1,h2,λi hi=>⟨(i:Int),by omega,by omega,by unfold jN;rw[ej,yx hi];rfl⟩⟩
def qZ(ae:List (List Int))(owners:List Int)(b8:Int)(cB ar N:List Int)(text:List UInt8):Bool:=
 yg ae owners&&(decide (1<=b8)&&(decide (b8<1073741789)&&(decide (cB.length=bJ ae - 1)&&(cB.all bX&&(fJ (-1) ar&&(decide (ar.length≠0)&&(decide (ar.length<=7)&&(decide (N.length=2 * ar.length)&&(N.all bX&&decide (text.length<=300))))))))))
def wM(ae:List (List Int))(owners:List Int)(b8:Int)(cB ar N:List Int)(text:List UInt8):Bool:=qZ ae owners b8 cB ar N text&&(fL ae owners ar).2.1
def ab4{ae}{owners}{b8}{cB ar N}{text}(h:wM ae owners b8 cB ar N text=ah):
 ∃y,px ae owners ar N (b8::cB) y (jN ar N) text 0/\ae.length<=16/\bJ ae<=16/\1<=b8/\b8<1073741789/\ar.length<=7/\text.length<=300/\cW ae owners=0:=by
 unfold wM qZ at h;simp only[bC,decide_eq_true_eq] at h;obtain⟨⟨h1,h2,h3,h4,h5,h6,h7,h8,h9,qM,Hc⟩,h12⟩:=h;unfold yg at h1;simp only[bC,decide_eq_true_eq] at h1;have h13:=Un h1.1.2 h6;have Xn:=(sU h1.1.2).1;refine⟨(fL ae owners ar).1,⟨ahO ar N h9 (λx hx=>rW.1 (ey.1 qM x hx)) ag,?_,λq=>h7 (by rw[q];rfl),by omega,by omega,by decide,by rw[iP];omega⟩,h1.1.1,h1.2,h2,h3,h8,Hc,h1.1.2⟩;rw[<-h12,<-h13]
def Jy(ae:List (List Int))(owners:List Int)(X Y T:AV)(b8:Int)(cB ar N:List Int)(text:List UInt8)(r:eY):Prop:=
 (wM ae owners b8 cB ar N text=az/\r=.ret (.tuple [.agg (gq 0 nl nl nl nl nl nl),.v (.bool az),.v (.bool ah)]))∨
 (wM ae owners b8 cB ar N text=ah/\∃C L Z,r=.ret (.tuple [.agg (gq 0 X Y C T L Z),.v (.bool ah),.v (.bool ah)])/\IL C (cI (b8::cB))/\PL L (jN ar N)/\IL Z (oF ae owners (b8::cB) ar N (jN ar N) text))
def agz(h:aq)(bq:cG h=ah)(X Y R W NV T:AV)(ae:List (List Int))(owners:List Int)(b8:Int)(cB ar N:List Int)(text:List UInt8)
 (hx:RL X ae) (hy:IL Y owners) (hr:IL R cB) (hw:IL W ar) (hn:IL NV N) (ht:BL T text) (cP:cB.length<=9223372036854775807) (ju:ar.length<=9223372036854775807) (oY:N.length<=9223372036854775807):
 ∃r h',W6.call 38 [.agg [X,Y],im b8,R,W,NV,T] h=aa (r,h')/\Ext h h'/\Jy ae owners X Y T b8 cB ar N text r:=by
 have bx:=wy hx hy;have zc:=ach;have c1:=atr X Y ae owners hx hy;have c2:=VB X Y ae owners hx hy;have c3:=ZL R cB hr ag;have c4:=anX W ar hw ag;have c5:=ZL NV N hn ag;have lnR:=hr.dM;have lnW:=hw.dM;have lnN:=hn.dM;have lnT:=ht.dM;have tj:TI h ((h.push [X,Y]).push (gq 0 nl nl nl nl nl nl)) X Y (gq 0 nl nl nl nl nl nl) .nil:=
  ⟨(Ext.push _ _).trans (.push _ _),bq,.inl rfl,aY (aZ _ _),by
    have:=aZ (h.push [X,Y]) (gq 0 nl nl nl nl nl nl)
    rwa [cH] at this⟩
 have iE:(h.push [X,Y]).boxes.length=h.boxes.length+1:=cH _ _;obtain⟨H0,eZ⟩:∃H0,(h.push [X,Y]).push (gq 0 nl nl nl nl nl nl)=H0:=⟨_,rfl⟩;rw[eZ] at tj;have l1:aH ao Gt H0 25 (.ptr (.box h.boxes.length) 0)=aa (.agg [X,Y]):=vh tj.pb;have l2:=Y5 tj.tb rfl;have s2:=abx tj.tb rfl (T2:=gq 0 nl nl nl nl nl nl) rfl rfl;rw[nb tj.tb] at s2;have kT:=al.mk tj;have kf:=al.mk (aw hx (aw hy (aw hr (aw hw (aw hn (aw ht bq))))));have kd:al (qZ ae owners b8 cB ar N text=(yg ae owners&&(decide (1<=b8)&&(decide (b8<1073741789)&&(decide (cB.length=bJ ae - 1)&&(cB.all bX&&(fJ (-1) ar&&(decide (ar.length≠0)&&(decide (ar.length<=7)&&(decide (N.length=2 * ar.length)&&(N.all bX&&decide (text.length<=300)))))))))))):=⟨rfl⟩;have kno:al (qZ ae owners b8 cB ar N text=az->Jy ae owners X Y T b8 cB ar N text (.ret (.tuple [.agg (gq 0 nl nl nl nl nl nl),.v (.bool az),.v (.bool ah)]))):=⟨λq=>.inl ⟨by unfold wM;rw[q];rfl,rfl⟩⟩;clear hx hy hr hw hn ht bq tj;refine db rfl Tryz.func38 rfl ?_;by_cases hs:yg ae owners=ah;rotate_left 1
 ·have kz:al (qZ ae owners b8 cB ar N text=az):=⟨by rw[kd.out];simp[hs]⟩;have CO:yg ae owners=az:=by simpa using hs
  rw[CO] at c1;clear hs CO;clear kd;unfold im at *
  repeat' (first|simp(maxSteps:=999999)(disch:=first|exact dZ|fail)only[gW,reduceIte,aO,aM,nZ,bg,iE,eZ, *]|refine dX ?_ ?_<;>(intro _;try omega))
  exact⟨_,_,rfl,kT.out.ext,kno.out kz.out⟩
 rw[hs] at c1;have tu:cW ae owners=0/\ae.length<=16/\bJ ae<=16:=by have:=hs;unfold yg at this;simp only[bC,decide_eq_true_eq] at this;exact⟨this.1.2,this.1.1,this.2⟩
 have Xn:0<bJ ae:=(sU tu.1).1;have awl:bJ ae<=16:=tu.2.2;have kpr:=al.mk tu;clear tu;by_cases h2:1<=b8;rotate_left 1
 ·have kz:al (qZ ae owners b8 cB ar N text=az):=⟨by rw[kd.out];simp[hs,h2]⟩;have g:b8<1:=by omega
  clear h2;clear kd;unfold im at *
  repeat' (first|simp(maxSteps:=999999)(disch:=first|exact dZ|fail)only[gW,reduceIte,aO,aM,nZ,bg,iE,eZ, *]|refine dX ?_ ?_<;>(intro _;try omega))
  exact⟨_,_,rfl,kT.out.ext,kno.out kz.out⟩
 by_cases h3:b8<1073741789;rotate_left 1
 ·have kz:al (qZ ae owners b8 cB ar N text=az):=⟨by rw[kd.out];simp[hs,h2,h3]⟩;have g:1073741789<=b8:=by omega
  clear h3;clear kd;unfold im at *
  repeat' (first|simp(maxSteps:=999999)(disch:=first|exact dZ|fail)only[gW,reduceIte,aO,aM,nZ,bg,iE,eZ, *]|refine dX ?_ ?_<;>(intro _;try omega))
  exact⟨_,_,rfl,kT.out.ext,kno.out kz.out⟩
 by_cases h4:cB.length=bJ ae - 1;rotate_left 1
 ·have kz:al (qZ ae owners b8 cB ar N text=az):=⟨by rw[kd.out];simp[hs,h2,h3,h4]⟩;have g:¬((cB.length:Nat):Int)=((bJ ae:Nat):Int) - 1:=by omega
  clear h4;clear kd;unfold im at *
  repeat' (first|simp(maxSteps:=999999)(disch:=first|exact dZ|fail)only[gW,reduceIte,aO,aM,nZ,bg,iE,eZ, *]|refine dX ?_ ?_<;>(intro _;try omega))
  exact⟨_,_,rfl,kT.out.ext,kno.out kz.out⟩
 by_cases h5:cB.all bX=ah;rotate_left 1
 ·have kz:al (qZ ae owners b8 cB ar N text=az):=⟨by rw[kd.out];simp[hs,h2,h3,h4,h5]⟩;have Wz:cB.all bX=az:=by simpa using h5
  rw[Wz] at c3;clear h5 Wz;clear kd;unfold im at *
  repeat' (first|simp(maxSteps:=999999)(disch:=first|exact dZ|fail)only[gW,reduceIte,aO,aM,nZ,bg,iE,eZ, *]|refine dX ?_ ?_<;>(intro _;try omega))
  exact⟨_,_,rfl,kT.out.ext,kno.out kz.out⟩
 rw[h5] at c3;by_cases h6:fJ (-1) ar=ah;rotate_left 1
 ·have kz:al (qZ ae owners b8 cB ar N text=az):=⟨by rw[kd.out];simp[hs,h2,h3,h4,h5,h6]⟩;have WA:fJ (-1) ar=az:=by simpa using h6
  rw[WA] at c4;clear h6 WA;clear kd;unfold im at *
  repeat' (first|simp(maxSteps:=999999)(disch:=first|exact dZ|fail)only[gW,reduceIte,aO,aM,nZ,bg,iE,eZ, *]|refine dX ?_ ?_<;>(intro _;try omega))
  exact⟨_,_,rfl,kT.out.ext,kno.out kz.out⟩
 rw[h6] at c4;by_cases h7:ar.length≠0;rotate_left 1
 ·have kz:al (qZ ae owners b8 cB ar N text=az):=⟨by rw[kd.out];simp[hs,h2,h3,h4,h5,h6,h7]⟩;have g:((ar.length:Nat):Int)=0:=by omega
  clear h7;clear kd;unfold im at *
  repeat' (first|simp(maxSteps:=999999)(disch:=first|exact dZ|fail)only[gW,reduceIte,aO,aM,nZ,bg,iE,eZ, *]|refine dX ?_ ?_<;>(intro _;try omega))
  exact⟨_,_,rfl,kT.out.ext,kno.out kz.out⟩
 by_cases h8:ar.length<=7;rotate_left 1
 ·have kz:al (qZ ae owners b8 cB ar N text=az):=⟨by rw[kd.out];simp[hs,h2,h3,h4,h5,h6,h7,h8]⟩;have g:(7:Int)<((ar.length:Nat):Int):=by omega
  clear h8;clear kd;unfold im at *
  repeat' (first|simp(maxSteps:=999999)(disch:=first|exact dZ|fail)only[gW,reduceIte,aO,aM,nZ,bg,iE,eZ, *]|refine dX ?_ ?_<;>(intro _;try omega))
  exact⟨_,_,rfl,kT.out.ext,kno.out kz.out⟩
 by_cases h9:N.length=2 * ar.length;rotate_left 1
 ·have kz:al (qZ ae owners b8 cB ar N text=az):=⟨by rw[kd.out];simp[hs,h2,h3,h4,h5,h6,h7,h8,h9]⟩;have g:¬((N.length:Nat):Int)=2 * ((ar.length:Nat):Int):=by omega
  clear h9;clear kd;unfold im at *
  repeat' (first|simp(maxSteps:=999999)(disch:=first|exact dZ|fail)only[gW,reduceIte,aO,aM,nZ,bg,iE,eZ, *]|refine dX ?_ ?_<;>(intro _;try omega))
  exact⟨_,_,rfl,kT.out.ext,kno.out kz.out⟩
 by_cases qM:N.all bX=ah;rotate_left 1
 ·have kz:al (qZ ae owners b8 cB ar N text=az):=⟨by rw[kd.out];simp[hs,h2,h3,h4,h5,h6,h7,h8,h9,qM]⟩;have Wy:N.all bX=az:=by simpa using qM
  rw[Wy] at c5;clear qM Wy;clear kd;unfold im at *
  repeat' (first|simp(maxSteps:=999999)(disch:=first|exact dZ|fail)only[gW,reduceIte,aO,aM,nZ,bg,iE,eZ, *]|refine dX ?_ ?_<;>(intro _;try omega))
  exact⟨_,_,rfl,kT.out.ext,kno.out kz.out⟩
 rw[qM] at c5;by_cases Hc:text.length<=300;rotate_left 1
 ·have kz:al (qZ ae owners b8 cB ar N text=az):=⟨by rw[kd.out];simp[hs,h2,h3,h4,h5,h6,h7,h8,h9,qM,Hc]⟩;have g:(300:Int)<((text.length:Nat):Int):=by omega
  clear Hc;clear kd;unfold im at *
  repeat' (first|simp(maxSteps:=999999)(disch:=first|exact dZ|fail)only[gW,reduceIte,aO,aM,nZ,bg,iE,eZ, *]|refine dX ?_ ?_<;>(intro _;try omega))
  exact⟨_,_,rfl,kT.out.ext,kno.out kz.out⟩
 have kyes:al (qZ ae owners b8 cB ar N text=ah):=⟨by rw[kd.out];simp[hs,h2,h3,h4,h5,h6,h7,h8,h9,qM,Hc]⟩;clear kd kno;have gA:((cB.length:Nat):Int)=((bJ ae:Nat):Int) - 1:=by omega
 have gB:¬((ar.length:Nat):Int)=0:=by omega
 have gC:((N.length:Nat):Int)=2 * ((ar.length:Nat):Int):=by omega
 have Pk:tT ae owners b8 cB=0:=by unfold tT;rw[aI (by simp[kpr.out.1]),aG];rw[bC,bC];exact⟨⟨rW.2 ⟨ag,h3⟩,h5⟩,bQ ag⟩
 obtain⟨S,C,hS,hC,c6⟩:∃S C,SL S (pK ae (b8::cB))/\IL C (cI (b8::cB))/\∀h,W6.call 44 [.agg [X,Y],im b8,R] h=aa (.ret (.tuple [S,C,im 0]),h):=by
  rcases ah4 X Y R ae owners cB b8 kf.out.1 kf.out.2.1 kf.out.2.2.1 ag (by have:=kpr.out.2.1;omega) with⟨z,-⟩|⟨-,z⟩
  ·exact absurd Pk z
  ·exact z
 have WS:(b8::cB).length=bJ ae:=by rw[iP];omega
 have O8:=aec X Y W ae owners ar kf.out.1 kf.out.2.1 kf.out.2.2.2.1 ag;have hz:(fL ae owners ar).2.2=0:=Un kpr.out.1 h6;have lnS:=hS.dM;rw[Ot] at lnS;have lnC:=hC.dM;rw[show(cI (b8::cB)).length=bJ ae by unfold cI;rw[bu,WS]] at lnC;have kSC:=al.mk (aw hS hC);rcases O8 with⟨er,q,c7⟩|⟨y,q,ql,Zy,-,c7⟩
 ·have her:er=0:=by rw[q] at hz;exact hz
  subst her;have ku:al (Jy ae owners X Y T b8 cB ar N text (.ret (.tuple [.agg (gq 0 nl nl nl nl nl nl),.v (.bool az),.v (.bool ah)]))):=⟨.inl ⟨by unfold wM;rw[q];simp,rfl⟩⟩;clear q hz Pk hS hC;unfold im at *
  repeat' (first|simp(maxSteps:=999999)(disch:=first|exact dZ|fail)only[gW,reduceIte,aO,aM,nZ,bg,iE,eZ, *]|refine dX ?_ ?_<;>(intro _;try omega))
  exact⟨_,_,rfl,kT.out.ext,ku.out⟩
 have ku:al (wM ae owners b8 cB ar N text=ah):=⟨by unfold wM;rw[kyes.out,q];rfl⟩;obtain⟨_,cr,-⟩:=ab4 ku.out;have kcr:=al.mk cr;have bk:mz ao 27 [(1,.agg [X,Y]),(2,C)]=aa (.agg (aN 0 X Y C)):=by obtain⟨_,_,_,rfl,-⟩:=kf.out.1.form;obtain⟨_,_,rfl,-⟩:=kf.out.2.1;obtain⟨_,_,rfl,-⟩:=hC;kernel_rfl
 have s3:=atH kT.out.tb (uu (ep:=0) kf.out.1 kf.out.2.1 hC);have t1:=kT.out.put (gq 0 X Y C nl nl nl);have s4:=atJ t1.tb kf.out.2.2.2.2.2.1.Ao;have t2:=t1.put (gq 0 X Y C T nl nl);have kT3:=al.mk t2;clear q hz Pk hS hC t1 t2 cr kT h4;unfold im at *
 repeat' (first|simp(maxSteps:=999999)(disch:=first|exact dZ|fail)only[gW,reduceIte,aO,aM,nZ,bg,iE,eZ,B2, *]|refine dX ?_ ?_<;>(intro _;try omega))
 refine bH.gen λe0 aF bB cU cN=>?_;have f4:e0.get 4=NV:=by rw[aF];exact gS
 have f5:e0.get 5=T:=by rw[aF];exact gS
 have f3:e0.get 3=W:=by rw[aF];exact gS
 have f6:e0.get 6=.ptr (.box h.boxes.length) 0:=by rw[aF];exact gS
 have f12:e0.get 12=.ptr (.box (h.boxes.length+1)) 0:=by rw[aF];simp only[gW,reduceIte,aO,aM,iE]
 have f15:e0.get 15=S:=by rw[aF];exact gS
 have f16:e0.get 16=C:=by rw[aF];exact gS
 have f123:e0.get 123=W:=by rw[aF];exact gS
 have f124:e0.get 124=.v (.int .i64 (ar.length:Nat)):=by rw[aF];exact gS
 have f125:e0.get 125=.v (.int .i64 (0:Nat)):=by rw[aF];exact gR
 have fd:e0.defers=[]:=by rw[bB];exact gS
 clear aF bB cU cN c1 c2 c4 c6 c7 l1 l2 s2 s3 s4 bk bx zc iE eZ gA gB lnT;have h9:N.length=2 * ar.length:=by omega
 have EN:∀k<ar.length,(jN ar N)[k]?=aa ⟨ai ar k,(k:Int),(bF Gn (ai N (2 * k)):Nat),(bF Gn (ai N (2 * k+1)):Nat)⟩:=λk hk=>by unfold jN;rw[ej,yx hk];rfl
 have kpk:=al.mk EN;clear EN;refine cz (λm e H=>∃(i:Nat) (t:Tok) (sz:Nat),i<=ar.length/\m=ar.length - i/\al (TI h H X Y (gq 0 X Y C T (.list t sz (fb ((jN ar N).take i))) nl) t)/\al (sz=4∨((jN ar N).take i=[]/\t=.nil))/\
  e.get 3=W/\e.get 4=NV/\e.get 5=T/\e.get 6=.ptr (.box h.boxes.length) 0/\e.get 12=.ptr (.box (h.boxes.length+1)) 0/\e.get 15=S/\e.get 16=C/\e.get 123=W/\e.get 124=.v (.int .i64 (ar.length:Nat))/\e.get 125=.v (.int .i64 (i:Nat))/\e.defers=[]) ?_ ar.length _ _ ?_
 rotate_left 1
 ·exact⟨0,.nil,0,cA _,rfl,kT3,⟨.inr ⟨rfl,rfl⟩⟩,f3,f4,f5,f6,f12,f15,f16,f123,f124,f125,fd⟩
 clear f3 f4 f5 f6 f12 f15 f16 f123 f124 f125 fd kT3 H0;rintro m e H ⟨i,t,sz,hi,rfl,kT,ksz,g3,g4,g5,g6,g12,g15,g16,g123,g124,g125,hd⟩;by_cases aA:i<ar.length
 ·have xO:=kf.out.2.2.2.1.ix aA;have ldW:=eE (H:=H) (s:=1) aA;have ixA:=kf.out.2.2.2.2.1.ix (i:=2 * i) ag;have ixB:=kf.out.2.2.2.2.1.ix (i:=2 * i+1) ag;have ldA:∀K:aq,aH ao Gt K 3 (.elem 1 (ints N) (2 * i) 0)=aa (.v (.int .i64 (ai N (2 * i)))):=λK=>eE ag;have ldB:∀K:aq,aH ao Gt K 3 (.elem 1 (ints N) (2 * i+1) 0)=aa (.v (.int .i64 (ai N (2 * i+1)))):=λK=>eE ag;rw[show((2 * i:Nat):Int)=2 * (i:Int) by omega] at ixA;rw[show((2 * i+1:Nat):Int)=2 * (i:Int)+1 by omega] at ixB;have hwA:IntKind.i64.wrap (2 * (i:Int))=2 * (i:Int):=fN ag ag;have hwB:IntKind.i64.wrap (2 * (i:Int)+1)=2 * (i:Int)+1:=fN ag ag;have rU:=kpk.out i aA;have c8:=Wu 4 (ai N (2 * i));have c9:=Wu 4 (ai N (2 * i+1));rw[sY sX,show mS 4=0 from aG sX] at c8 c9;have ktk:=al.mk (ft rU);clear rU;have bdp:=afe (ai ar i) (i:Int) ((bF Gn (ai N (2 * i)):Nat):Int) ((bF Gn (ai N (2 * i+1)):Nat):Int);change ∀h,W6.call 30 [im 4,im (ai N (2 * i))] h=aa (.ret (.tuple [im ((bF Gn (ai N (2 * i)):Nat):Int),im 0]),h) at c8;change ∀h,W6.call 30 [im 4,im (ai N (2 * i+1))] h=aa (.ret (.tuple [im ((bF Gn (ai N (2 * i+1)):Nat):Int),im 0]),h) at c9;generalize tu:(⟨ai ar i,(i:Int),((bF Gn (ai N (2 * i)):Nat):Int),((bF Gn (ai N (2 * i+1)):Nat):Int)⟩:Pr)=pr at *
  have lL:aH ao Gt H 29 (.ptr (.box (h.boxes.length+1)) 5)=aa (.list t sz (fb ((jN ar N).take i))):=ct yH kT.out.tb rfl;have ap:=aeI (p:=pr) (l:=(jN ar N).take i) (by rw[eS];omega) ksz.out kT.out.can;rw[<-ktk.out] at ap;have bl:=afO pr;have t2:=kT.out.app;have sL:=atI t2.tb (x:=.list (.free H.tn) 4 (fb ((jN ar N).take (i+1)))) rfl;have kT2:=al.mk (t2.put (gq 0 X Y C T (.list (.free H.tn) 4 (fb ((jN ar N).take (i+1)))) nl));have fx:(i:Int)<(ar.length:Int):=by omega
  clear t2 kT tu;unfold im at *
  generalize ai ar i=wi at *
  generalize ai N (2 * i)=nA at *
  generalize ai N (2 * i+1)=nB at *
  generalize ((bF Gn nA:Nat):Int)=dA at *
  generalize ((bF Gn nB:Nat):Int)=dB at *
  repeat' (first|simp(maxSteps:=999999)(disch:=first|exact dZ|fail)only[gW,reduceIte,aO,aM,nZ,B2, *]|refine dX ?_ ?_<;>(intro _;try omega))
  exact⟨ar.length - (i+1),by omega,i+1,_,4,by omega,rfl,(by first|exact kT2|trivial),⟨.inl rfl⟩,by simp⟩
 have fF:i=ar.length:=by omega
 subst fF;rw[gm (by rw[Ro];exact aJ _)] at kT ksz;have hP:PL (.list t sz (fb (jN ar N))) (jN ar N):=⟨t,sz,rfl,λq=>ksz.out.resolve_right λz=>q z.1⟩;have kP:=al.mk hP;have kT3:=al.mk kT.out.nil;change al (TI h H X Y (gq 0 X Y C T (.list t sz (fb (jN ar N))) nl) .nil) at kT3;clear hP ksz kT kpk hi aA;generalize AV.list t sz (fb (jN ar N))=L at *
 repeat' (first|simp(maxSteps:=999999)(disch:=first|exact dZ|fail)only[gW,reduceIte,aO,aM,nZ, *]|refine dX ?_ ?_<;>(intro _;try omega))
 refine bH.gen λe0 aF bB cU cN=>?_;have f4:e0.get 4=NV:=by rw[aF];exact gA
 have f5:e0.get 5=T:=by rw[aF];exact gA
 have f6:e0.get 6=.ptr (.box h.boxes.length) 0:=by rw[aF];exact gA
 have f12:e0.get 12=.ptr (.box (h.boxes.length+1)) 0:=by rw[aF];exact gA
 have f15:e0.get 15=S:=by rw[aF];exact gA
 have f16:e0.get 16=C:=by rw[aF];exact gA
 have f167:e0.get 167=W:=by rw[aF];exact gA
 have f168:e0.get 168=.v (.int .i64 (ar.length:Nat)):=by rw[aF];exact gA
 have f169:e0.get 169=.v (.int .i64 (0:Nat)):=by rw[aF];exact gR
 have fd:e0.defers=[]:=by rw[bB];exact gA
 clear aF bB cU cN g3 g4 g5 g6 g12 g15 g16 g123 g124 g125 hd lnW;obtain⟨PU,KC⟩:∃PU,oF ae owners (b8::cB) ar N (jN ar N) text=PU:=⟨_,rfl⟩;have fy:al (∀Z,IL Z PU->Jy ae owners X Y T b8 cB ar N text (.ret (.tuple [.agg (gq 0 X Y C T L Z),.v (.bool ah),.v (.bool ah)]))):=⟨λZ hZ=>.inr ⟨ku.out,C,L,Z,rfl,kSC.out.2,kP.out,by rw[KC];exact hZ⟩⟩;have kpk:al (∀k<ar.length,PU[k]?=aa (wu ae owners (b8::cB) ar N (jN ar N) text k)):=⟨λk hk=>by rw[<-KC];unfold oF;rw[ej,yx hk];rfl⟩;have kpl:al (PU.length=ar.length):=⟨by rw[<-KC];exact Lz⟩;clear KC;have kol:=al.mk (rk kpr.out.1).1;have awD:=kpr.out.2.1;refine cz (λm e H=>∃(i:Nat) (t:Tok) (sz:Nat),i<=ar.length/\m=ar.length - i/\al (TI h H X Y (gq 0 X Y C T L (.list t sz (ints (PU.take i)))) t)/\al (sz=1∨(PU.take i=[]/\t=.nil))/\
  e.get 4=NV/\e.get 5=T/\e.get 6=.ptr (.box h.boxes.length) 0/\e.get 12=.ptr (.box (h.boxes.length+1)) 0/\e.get 15=S/\e.get 16=C/\e.get 167=W/\e.get 168=.v (.int .i64 (ar.length:Nat))/\e.get 169=.v (.int .i64 (i:Nat))/\e.defers=[]) ?_ ar.length _ _ ?_
 rotate_left 1
 ·exact⟨0,.nil,0,cA _,rfl,kT3,⟨.inr ⟨rfl,rfl⟩⟩,f4,f5,f6,f12,f15,f16,f167,f168,f169,fd⟩
 clear f4 f5 f6 f12 f15 f16 f167 f168 f169 fd kT3;rintro m e H ⟨i,t,sz,hi,rfl,kT,ksz,g4,g5,g6,g12,g15,g16,g167,g168,g169,hd⟩;by_cases aA:i<ar.length;rotate_left 1
 ·have fF:i=ar.length:=by omega
  subst fF;rw[gm (by rw[kpl.out];exact aJ _)] at kT ksz;have hZ:IL (.list t sz (ints PU)) PU:=⟨t,sz,rfl,λq=>ksz.out.resolve_right λz=>q z.1⟩;have kZ:=al.mk (fy.out _ hZ);have Yt:=Vm (ep:=0) kf.out.1 kf.out.2.1 kSC.out.2 kf.out.2.2.2.2.2.1 kP.out hZ;clear hZ ksz;generalize AV.list t sz (ints PU)=Z at *
  have l2:=Y5 kT.out.tb rfl;have s2:=abx kT.out.tb rfl Yt rfl;rw[nb kT.out.tb] at s2;have dC:decide ((0:Int)<((bJ ae:Nat):Int))=ah:=bQ ag;clear Yt hi aA
  repeat' (first|simp(maxSteps:=999999)(disch:=first|exact dZ|fail)only[gW,reduceIte,aO,aM,nZ, *]|refine dX ?_ ?_<;>(intro _;try omega))
  exact⟨_,_,rfl,kT.out.ext,kZ.out⟩
 have xO:=kf.out.2.2.2.1.ix aA;have ldW:=eE (H:=H) (s:=1) aA;have fx:(i:Int)<(ar.length:Int):=by omega
 have kT2:=al.mk (wX.start kT.out);clear kT;generalize hwi:ai ar i=wi at *
 repeat' (first|simp(maxSteps:=999999)(disch:=first|exact dZ|fail)only[gW,reduceIte,aO,aM,nZ, *]|refine dX ?_ ?_<;>(intro _;try omega))
 refine bH.gen λe0 aF bB cU cN=>?_;have f4:e0.get 4=NV:=by rw[aF];exact gA
 have f5:e0.get 5=T:=by rw[aF];exact gA
 have f6:e0.get 6=.ptr (.box h.boxes.length) 0:=by rw[aF];exact gA
 have f12:e0.get 12=.ptr (.box (h.boxes.length+1)) 0:=by rw[aF];exact gA
 have f15:e0.get 15=S:=by rw[aF];exact gA
 have f16:e0.get 16=C:=by rw[aF];exact gA
 have f167:e0.get 167=W:=by rw[aF];exact gA
 have f168:e0.get 168=.v (.int .i64 (ar.length:Nat)):=by rw[aF];exact gA
 have f169:e0.get 169=.v (.int .i64 (i:Nat)):=by rw[aF];exact gA
 have f27:e0.get 27=.v (.int .i64 (i:Nat)):=by rw[aF];exact gA
 have f28:e0.get 28=.v (.int .i64 wi):=by rw[aF];exact gA
 have f29:e0.get 29=.list .nil 0 []:=by rw[aF];exact gR
 have f174:e0.get 174=S:=by rw[aF];exact gA
 have f175:e0.get 175=.v (.int .i64 (ae.length:Nat)):=by rw[aF];exact gA
 have f176:e0.get 176=.v (.int .i64 (0:Nat)):=by rw[aF];exact gR
 have fd:e0.defers=[]:=by rw[bB];exact gA
 clear aF bB cU cN g4 g5 g6 g12 g15 g16 g167 g168 g169 hd xO ldW;obtain⟨D,hD⟩:∃D,pK ae (b8::cB)=D:=⟨_,rfl⟩;have hDl:D.length=ae.length:=by rw[<-hD];exact Ot _ _
 have kDk:al (∀j<ae.length,D[j]?=aa ((j:Int),oQ (ae.getD j []) (b8::cB))):=⟨λj hj=>by rw[<-hD];unfold pK;rw[ej,yx hj];rfl⟩;have kS:al (SL S D):=⟨by rw[<-hD];exact kSC.out.1⟩;have kD:=al.mk hD;clear hD;refine cz (λm e H=>∃(j:Nat) (t2:Tok) (s2:Nat),j<=ae.length/\m=ae.length - j/\al (wX h H X Y (gq 0 X Y C T L (.list t sz (ints (PU.take i)))) t t2)/\al (s2=2∨(qY owners [wi] (D.take j)=[]/\t2=.nil))/\
  e.get 4=NV/\e.get 5=T/\e.get 6=.ptr (.box h.boxes.length) 0/\e.get 12=.ptr (.box (h.boxes.length+1)) 0/\e.get 15=S/\e.get 16=C/\e.get 167=W/\e.get 168=.v (.int .i64 (ar.length:Nat))/\e.get 169=.v (.int .i64 (i:Nat))/\
  e.get 27=.v (.int .i64 (i:Nat))/\e.get 28=.v (.int .i64 wi)/\e.get 29=.list t2 s2 (jq (qY owners [wi] (D.take j)))/\e.get 174=S/\e.get 175=.v (.int .i64 (ae.length:Nat))/\e.get 176=.v (.int .i64 (j:Nat))/\e.defers=[]) ?_ ae.length _ _ ?_
 rotate_left 1
 ·exact⟨0,.nil,0,cA _,rfl,kT2,⟨.inr ⟨rfl,rfl⟩⟩,f4,f5,f6,f12,f15,f16,f167,f168,f169,f27,f28,f29,f174,f175,f176,fd⟩
 clear f4 f5 f6 f12 f15 f16 f167 f168 f169 f27 f28 f29 f174 f175 f176 fd kT2 H;rintro m e H ⟨j,t2,s2,hj,rfl,kT,ks2,g4,g5,g6,g12,g15,g16,g167,g168,g169,g27,g28,g29,g174,g175,g176,hd⟩;by_cases uV:j<ae.length
 ·have hp:=kDk.out j uV;have ixS:=kS.out.ix (i:=j) ag;have ldS:=Zc (H:=H) (s:=2) hp;have zc:=avY;generalize eL:(((j:Int),oQ (ae.getD j []) (b8::cB)):Int × Int)=p at *
  have o5:p.1=(j:Int):=by rw[<-eL]
  have st:=auj (H:=H) p;have t1:=kT.out.push (lI p);have b1:=aZ H (lI p);have q0:aH ao Gt (H.push (lI p)) 3 (.ptr (.box H.boxes.length) 0)=aa (.v (.int .i64 (j:Int))):=by rw[<-o5];exact ct eD b1 rfl
  have q1:aH ao Gt (H.push (lI p)) 23 (.ptr (.box h.boxes.length) 1)=aa Y:=ct kU t1.ti.pb rfl;have q2:=alP b1;have lnY:=kf.out.2.1.dM;have ixY:=kf.out.2.1.ix (i:=j) (by have:=kol.out;omega);have ldY:∀K:aq,aH ao Gt K 3 (.elem 1 (ints owners) j 0)=aa (.v (.int .i64 (ai owners j))):=λK=>eE (by have:=kol.out;omega);have PE:(j:Int)<(ae.length:Int):=by omega
  have hjO:(j:Int)<(owners.length:Int):=by have:=kol.out;omega
  have bT:=anf (owners:=owners) (ar:=[wi]) hp;have Qb:Bf owners [wi] p=if wi=ai owners j then [p] else []:=by
   unfold Bf;rw[o5,Int.toNat_natCast];by_cases q:wi=ai owners j
   ·rw[aG q,List.filter_cons_of_pos (by simp[q])];rfl
   ·rw[aI q,List.filter_cons_of_neg (by simp[q])];rfl
  rw[Qb] at bT;have P2:(qY owners [wi] (D.take j)).length<=16:=by refine fw (Rf owners [wi] _) ?_;rw[eS,Nn];omega
  have u36:=Tryz.underlying36;by_cases hq:wi=ai owners j
  ·rw[aG hq] at bT;have dq:decide (ai owners j=wi)=ah:=bQ hq.symm;have ap:=N1 (T:=36) (r:=lI p) (es:=jq (qY owners [wi] (D.take j))) (sz:=s2) u36 YK aV (by rw[SA];omega) (ks2.out.imp_right λq=>⟨by rw[q.1];rfl,q.2⟩) t1.co;rw[as3,<-bT] at ap;have kT2:=al.mk t1.app;have bl:gf ao 36 1 [(0,.agg (lI p))]=aa (.list .tight 2 [lI p]):=UR p.1 p.2;clear hq bT Qb o5 eL hp t1 b1 kT;generalize ai owners j=ow at *
   have ldS2:aH ao Gt H 81 (.elem 2 (jq D) j 0)=aa (.agg (lI p)):=ldS;clear ldS;generalize lI p=sr at *
   repeat' (first|simp(maxSteps:=999999)(disch:=first|exact dZ|fail)only[gW,reduceIte,aO,aM,nZ,VW,eQ,bg, *]|refine dX ?_ ?_<;>(intro _;try omega))
   exact⟨ae.length - (j+1),by omega,j+1,_,2,by omega,rfl,(by first|exact kT2|trivial),⟨.inl rfl⟩,by simp⟩
  ·rw[aI hq,jr] at bT;have dq:decide (ai owners j=wi)=az:=cE λq=>hq q.symm;rw[<-bT] at g29 ks2;have kT2:=al.mk t1;have ldS2:aH ao Gt H 81 (.elem 2 (jq D) j 0)=aa (.agg (lI p)):=ldS;clear hq bT Qb o5 eL hp t1 b1 kT ldS;generalize ai owners j=ow at *
   generalize lI p=sr at *
   repeat' (first|simp(maxSteps:=999999)(disch:=first|exact dZ|fail)only[gW,reduceIte,aO,aM,nZ,VW,eQ,bg, *]|refine dX ?_ ?_<;>(intro _;try omega))
   exact⟨ae.length - (j+1),by omega,j+1,t2,s2,by omega,rfl,(by first|exact kT2|trivial),(by first|exact ks2|trivial),by simp⟩
 have nS:j=ae.length:=by omega
 subst nS;rw[gm (by rw[hDl];exact aJ _)] at g29 ks2;have hO:SL (.list t2 s2 (jq (qY owners [wi] D))) (qY owners [wi] D):=⟨t2,s2,rfl,λq=>ks2.out.resolve_right λz=>q z.1⟩;have P2:(qY owners [wi] D).length<=16:=by refine fw (Rf owners [wi] _) ?_;rw[Nn];omega
 have de:(cI (b8::cB)).length<=1000000:=by unfold cI;rw[bu,WS];omega
 have mk:=amA 0 X Y C T L ae owners (cI (b8::cB)) text (jN ar N) kf.out.1 kf.out.2.1 kSC.out.2 kf.out.2.2.2.2.2.1 kP.out de (by rw[Ro];omega) _ _ wi (ai N (2 * i)) (ai N (2 * i+1)) hO ag;have HK:vm ae owners 0 (cI (b8::cB)) text (jN ar N) wi (qY owners [wi] D) (ai N (2 * i)) (ai N (2 * i+1))=(wu ae owners (b8::cB) ar N (jN ar N) text i,0):=by rw[<-kD.out,anA kol.out,<-hwi];exact ahN kcr.out.xm kcr.out.acc kcr.out.ne kcr.out.wl kcr.out.tl aV kcr.out.sl aA
 rw[HK] at mk;have ixA:=kf.out.2.2.2.2.1.ix (i:=2 * i) ag;have ixB:=kf.out.2.2.2.2.1.ix (i:=2 * i+1) ag;have ldA:∀K:aq,aH ao Gt K 3 (.elem 1 (ints N) (2 * i) 0)=aa (.v (.int .i64 (ai N (2 * i)))):=λK=>eE ag;have ldB:∀K:aq,aH ao Gt K 3 (.elem 1 (ints N) (2 * i+1) 0)=aa (.v (.int .i64 (ai N (2 * i+1)))):=λK=>eE ag;rw[show((2 * i:Nat):Int)=2 * (i:Int) by omega] at ixA;rw[show((2 * i+1:Nat):Int)=2 * (i:Int)+1 by omega] at ixB;have hwA:IntKind.i64.wrap (2 * (i:Int))=2 * (i:Int):=fN ag ag;have hwB:IntKind.i64.wrap (2 * (i:Int)+1)=2 * (i:Int)+1:=fN ag ag;have rU:=kpk.out i aA;have ktk:=al.mk (ft rU);have hPl:=kpl.out;clear rU HK hO;generalize wu ae owners (b8::cB) ar N (jN ar N) text i=zi at *
 have lK:=Y6 kT.out.ti.tb;have lL:aH ao Gt H 29 (.ptr (.box (h.boxes.length+1)) 5)=aa L:=ct yH kT.out.ti.tb rfl;have lZ:aH ao Gt H 23 (.ptr (.box (h.boxes.length+1)) 6)=aa (.list t sz (ints (PU.take i))):=ct kU kT.out.ti.tb rfl;have ap:=tQ (x:=zi) (es:=PU.take i) (by rw[eS];omega) ksz.out kT.out.ti.can;rw[<-ktk.out] at ap;have bl:=pI zi;have t3:=kT.out.ti.app;have sZ:=atK t3.tb (x:=.list (.free H.tn) 1 (ints (PU.take (i+1)))) rfl;have kT2:=al.mk (t3.put (gq 0 X Y C T L (.list (.free H.tn) 1 (ints (PU.take (i+1))))));clear t3 kT P2 de hj uV hPl;unfold im at *
 generalize ai N (2 * i)=nA at *
 generalize ai N (2 * i+1)=nB at *
 repeat' (first|simp(maxSteps:=999999)(disch:=first|exact dZ|fail)only[gW,reduceIte,aO,aM,nZ,B2, *]|refine dX ?_ ?_<;>(intro _;try omega))
 refine ev Ee av ?_
 repeat' (first|simp(maxSteps:=999999)(disch:=first|exact dZ|fail)only[gW,reduceIte,aO,aM,nZ,B2, *]|refine dX ?_ ?_<;>(intro _;try omega))
 exact⟨ar.length - (i+1),by omega,i+1,_,1,by omega,rfl,(by first|exact kT2|trivial),⟨.inl rfl⟩,by simp⟩
def ar4:Tryz.f85.results.toList=[.cell 0 25]:=av
def R4:List (List Int):=[[1,1],[1,2],[1,3]]
def O4:List Int:=[1,2,3]
def X4:AV:=.list .tight 1 [[.list .tight 1 (ints [1,1])],[.list .tight 1 (ints [1,2])],[.list .tight 1 (ints [1,3])]]
def Y4:AV:=.list .tight 1 (ints [1,2,3])
def afH:gf ao 22 3 [(0,.list .tight 1 (ints [1,1])),(1,.list .tight 1 (ints [1,2])),(2,.list .tight 1 (ints [1,3]))]=aa X4:=av
def afK:gf ao 23 3 [(0,.v (.int .i64 1)),(1,.v (.int .i64 2)),(2,.v (.int .i64 3))]=aa Y4:=av
def GQ(a b):gf ao 23 2 [(0,.v (.int .i64 a)),(1,.v (.int .i64 b))]=aa (.list .tight 1 (ints [a,b])):=av
def afa:mz ao 25 [(0,X4),(1,Y4)]=aa (.agg [X4,Y4]):=av
def avV:(gZ ao 25).bind AV.bP=aa [nl,nl]:=av
def af0(h:aq):W6.call 85 [] h=aa (.ret (.agg [X4,Y4]),h.push [X4,Y4]):=by
 have z:=avV;have g1:=afH;have g2:=afK;have g3:=afa;have s1:b7 ao (h.push [nl,nl]) 25 (.ptr (.box h.boxes.length) 0) (.agg [X4,Y4])=aa (h.push [X4,Y4]):=jx av FU rfl rfl;have l1:aH ao Gt (h.push [X4,Y4]) 25 (.ptr (.box h.boxes.length) 0)=aa (.agg [X4,Y4]):=vh (aZ _ _);generalize X4=X at *
 generalize Y4=Y at *
 refine cJ rfl Tryz.func85 rfl ?_;exact jl @ar4 @GQ
def RL.o7{x}{l}(hx:RL x l)(hf:aK 0 0 0 x=ah)(h):RL (gH h x) l/\aK 0 0 0 (gH h x)=ah:=by obtain⟨k,s,xs,rfl,hs,h1,h2⟩:=hx;refine⟨⟨bO k,s,xs,rfl,hs,h1,h2⟩,?_⟩;show aK 0 0 0 (.list (bO k) s (xs.map λa=>[a]))=ah;rw[aK] at hf ⊢;rw[fh,Bool.true_and];simp only[bC] at hf;exact hf.2
def IL.o7{x}{l}(hx:IL x l)(h):IL (gH h x) l/\aK 0 0 0 (gH h x)=ah:=by obtain⟨k,s,rfl,hs⟩:=hx;refine⟨⟨bO k,s,rfl,hs⟩,?_⟩;show aK 0 0 0 (.list (bO k) s (ints l))=ah;rw[aK,fh,nq];rfl
def BL.o7{x}{l}(hx:BL x l)(h):BL (gH h x) l/\aK 0 0 0 (gH h x)=ah:=by obtain⟨k,s,rfl,hs⟩:=hx;refine⟨⟨bO k,s,rfl,hs⟩,?_⟩;show aK 0 0 0 (.list (bO k) s (a8 l))=ah;rw[aK,fh,jS];rfl
def PL.o7{x}{l}(hx:PL x l)(h):PL (gH h x) l/\aK 0 0 0 (gH h x)=ah:=by obtain⟨k,s,rfl,hs⟩:=hx;refine⟨⟨bO k,s,rfl,hs⟩,?_⟩;show aK 0 0 0 (.list (bO k) s (fb l))=ah;rw[aK,fh,OB];rfl
def aei(a b):∀h,W7.call 28 [im a,im b] h=aa (.ret (im (cd a b)),h):=bm (L:=L7) rfl rfl rfl (aeh a b _) rfl rfl
section
variable (ep:Int) (X Y C T L:AV) (ae:List (List Int)) (owners aj:List Int) (text:List UInt8) (l:List Pr)
 (hx:RL X ae) (hy:IL Y owners) (hc:IL C aj) (ht:BL T text) (hp:PL L l) (de:aj.length<=1000000) (dG:l.length<=1000000)
include hx hy hc ht hp de dG
def afE:(cC ae owners ep aj text l≠0/\∀h,W7.call 17 [.agg (aN ep X Y C),T,L] h=aa (.ret (.tuple [.list .nil 0 [],im 0,im 0,im (cC ae owners ep aj text l)]),h))∨
 (cC ae owners ep aj text l=0/\∃Z,IL Z (rF (ai aj 0) text l)/\∀h,W7.call 17 [.agg (aN ep X Y C),T,L] h=aa (.ret (.tuple [Z,im ((gM (ai aj 0) text l:Nat):Int),im ((dF (ai aj 0) text l:Nat):Int),im 0]),h)):=by
 obtain⟨X',Y',C',e1,h1,h2,h3,h4⟩:=Il ep hx hy hc;obtain⟨h5,h6⟩:=ht.hold;obtain⟨h7,h8⟩:=hp.hold;have ea:bN [.agg (aN ep X Y C),T,L]=[.agg (aN ep X' Y' C'),aC T,aC L]:=by rw[bN,bN,bN,bN,e1]
 have ef:aP 0 0 0 [.agg (aN ep X' Y' C'),aC T,aC L]=ah:=by rw[aP,aP,aP,aP,h4,h6,h8];rfl
 rcases afD ep X' Y' C' (aC T) (aC L) ae owners aj text l h1 h2 h3 h5 h7 de dG with⟨q,c⟩|⟨q,Z,hZ,c⟩
 ·exact .inl ⟨q,bm (L:=L7) rfl ea ef (c _) rfl rfl⟩
 ·obtain⟨g1,g2⟩:=hZ.o7 ⟨[],[],0,[]⟩;refine .inr ⟨q,gH ⟨[],[],0,[]⟩ Z,g1,bm (L:=L7) rfl ea ef (c _) rfl ?_⟩;rw[aK,aP,g2];rfl
def aiW(aB z:Int):
 ∀h,W7.call 22 [.agg (aN ep X Y C),T,L,im aB,im z] h=aa (.ret (.tuple [.v (.bool (pZ ae owners ep aj text l aB z).1),im (pZ ae owners ep aj text l aB z).2]),h):=by
 obtain⟨X',Y',C',e1,h1,h2,h3,h4⟩:=Il ep hx hy hc;obtain⟨h5,h6⟩:=ht.hold;obtain⟨h7,h8⟩:=hp.hold;exact bm (L:=L7) rfl (by simp only[bN];rw[e1];rfl) (by simp only[aP];rw[h4,h6,h8];rfl) (aiV ep X' Y' C' (aC T) (aC L) ae owners aj text l h1 h2 h3 h5 h7 de dG aB z _) rfl rfl
end
def ab8(key e s)(T)(text)(ht:BL T text)(hl:text.length<=1000000):
 ∀h,W7.call 26 [im key,T,.agg [im e,im s]] h=aa (.ret (.v (.bool (nI key text e s))),h):=by
 obtain⟨h1,h2⟩:=ht.hold;exact bm (L:=L7) (b9:=[im key,aC T,.agg [im e,im s]]) rfl (by simp only[bN];rfl) (by simp only[aP];rw[h2];rfl) (avr key e s (aC T) text h1 hl _) rfl rfl
def asG(key e s)(T)(text)(ht:BL T text)(hl:text.length<=1000000):
 ∀h,W7.call 39 [im key,T,.agg [im e,im s]] h=aa (.ret (.v (.bool (nI key text e s))),h):=by
 obtain⟨h1,h2⟩:=ht.hold;obtain⟨r,h',c,-,rfl⟩:=asF ⟨[],[],0,[]⟩ key e s (aC T) text h1 hl;exact bm (L:=L7) (b9:=[im key,aC T,.agg [im e,im s]]) rfl (by simp only[bN];rfl) (by simp only[aP];rw[h2];rfl) c rfl rfl
def asK(x y)(a b)(hx:IL x a)(hy:IL y b)(eG:a.length<=1000000)(jJ:b.length<=1000000):∀h,W7.call 37 [x,y] h=aa (.ret (.v (.bool (decide (a=b)))),h):=by obtain⟨h1,h2⟩:=hx.hold;obtain⟨h3,h4⟩:=hy.hold;obtain⟨r,h',c,-,rfl⟩:=asJ ⟨[],[],0,[]⟩ (aC x) (aC y) a b h1 h3 eG jJ;exact bm (L:=L7) (b9:=[aC x,aC y]) rfl rfl (by simp[aP,h2,h4]) c rfl rfl
def afZ:∀h,W7.call 85 [] h=aa (.ret (.agg [gH ⟨[],[],0,[]⟩ X4,gH ⟨[],[],0,[]⟩ Y4]),h):=bm (L:=L7) (b9:=[]) rfl rfl rfl (af0 _) av av
def agA(X Y R W NV T)(ae)(owners)(b8)(cB ar N)(text)
 (hx:RL X ae) (hy:IL Y owners) (hr:IL R cB) (hw:IL W ar) (hn:IL NV N) (ht:BL T text) (cP:cB.length<=9223372036854775807) (ju:ar.length<=9223372036854775807) (oY:N.length<=9223372036854775807):
 (wM ae owners b8 cB ar N text=az/\∀h,W7.call 38 [.agg [X,Y],im b8,R,W,NV,T] h=aa (.ret (.tuple [.agg (gq 0 nl nl nl nl nl nl),.v (.bool az),.v (.bool ah)]),h))∨
 (wM ae owners b8 cB ar N text=ah/\∃X2 Y2 C2 T2 L2 Z2,RL X2 ae/\IL Y2 owners/\IL C2 (cI (b8::cB))/\BL T2 text/\PL L2 (jN ar N)/\IL Z2 (oF ae owners (b8::cB) ar N (jN ar N) text)/\
  ∀h,W7.call 38 [.agg [X,Y],im b8,R,W,NV,T] h=aa (.ret (.tuple [.agg (gq 0 X2 Y2 C2 T2 L2 Z2),.v (.bool ah),.v (.bool ah)]),h)):=by
 obtain⟨h1,h2,h3,h4⟩:=vn hx hy;obtain⟨r1,r2⟩:=hr.hold;obtain⟨w1,w2⟩:=hw.hold;obtain⟨n1,n2⟩:=hn.hold;obtain⟨t1,t2⟩:=ht.hold;have ef:aP 0 0 0 [.agg [aC X,aC Y],im b8,aC R,aC W,aC NV,aC T]=ah:=by simp[aP,aK,h3,h4,r2,w2,n2,t2,im]
 have ea:bN [.agg [X,Y],im b8,R,W,NV,T]=[.agg [aC X,aC Y],im b8,aC R,aC W,aC NV,aC T]:=rfl;obtain⟨r,h',c,-,⟨q,rfl⟩|⟨q,C,L,Z,rfl,g1,g2,g3⟩⟩:=agz ⟨[],[],0,[]⟩ vk (aC X) (aC Y) (aC R) (aC W) (aC NV) (aC T) ae owners b8 cB ar N text h1 h2 r1 w1 n1 t1 cP ju oY
 ·exact .inl ⟨q,bm (L:=L7) rfl ea ef c rfl rfl⟩
 ·obtain⟨a1,a2⟩:=h1.o7 h3 h';obtain⟨b1,b2⟩:=h2.o7 h';obtain⟨c1,c2⟩:=g1.o7 h';obtain⟨d1,d2⟩:=t1.o7 h';obtain⟨e1,e2⟩:=g2.o7 h';obtain⟨f1,f2⟩:=g3.o7 h';refine .inr ⟨q,_,_,_,_,_,_,a1,b1,c1,d1,e1,f1,bm (L:=L7) rfl ea ef c rfl ?_⟩;simp[aK,aP,gq,a2,b2,c2,d2,e2,f2,im]
def Mk:Tryz.f86.results.toList=[.tmp 8,.tmp 9]:=av
def aaO:Tryz.f148.results.toList=[.tmp 2]:=av
def ar5:Tryz.f87.results.toList=[.tmp 4]:=av
def Sq:Tryz.f88.results.toList=[.tmp 6]:=av
def FJ:Tryz.f33.results.toList=[.cell 8 50,.tmp 9,.tmp 10]:=av
section
variable {pr:FuncId->Option (List AV->aq->Option (AV × aq))}
def alm(tu:pr 167=au)(g:FuncId)(p:Int->Bool)(h:aq)(x:AV)(l:List Int)(hx:IS h x l)(hl:l.length<=1000000)(hp:∀n∈l,(whole ao Gt pr).call g [im n] h=aa (.ret (.v (.bool (p n))),h)):
 ∃r h',(whole Tryz.prog Gt pr).call 167 [x,.func (.func g) [] []] h=some (r,h')/\h'=h/\∃i:Int,r=.ret (im i)/\decide (0<=i)=l.any p:=by
 have lnx:=hx.len;have kp:=al.mk (aw hp hx);clear hp hx;refine db tu Tryz.func167 rfl ?_;refine br @vp ?_;refine cz (λm e H=>∃i:Nat,i<=l.length/\m=l.length - i/\(l.take i).any p=az/\e.get 0=x/\e.get 1=.func (.func g) [] []/\e.get 7=.v (.int .i64 (l.length:Nat))/\e.get 8=.v (.int .i64 (i:Nat))/\e.defers=[]/\H=h) ?_ l.length _ _ ?_;rotate_left 1
 ·refine⟨0,cA _,rfl,by simp,?_,?_,?_,?_,?_,rfl⟩<;>exact gR
 clear lnx;rintro m e H ⟨i,hi,rfl,ha,g0,g1,g7,g8,hd,rfl⟩;have ka:=al.mk ha;clear ha;by_cases aA:i<l.length
 ·obtain⟨a,ix,ldx⟩:=kp.out.2.at aA;have ld:=ldx H kp.out.2;clear ldx;have hv:l[i]?=aa (ai l i):=by rw[aR aA,fm aA]
  have hc:=kp.out.1 (ai l i) (dj hv);have fx:(i:Int)<(l.length:Int):=by omega
  have lU:(l.take (i+1)).any p=p (ai l i):=by rw[ft hv,List.any_append,ka.out];simp
  have kt:=al.mk lU;have kh:=al.mk hv;clear hv lU;unfold im at hc;cases eL:p (ai l i) with
  |true=>rw[eL] at hc;have lq:l.any p=ah:=List.any_eq_true.2 ⟨_,dj kh.out,eL⟩;have kan:=al.mk lq;clear lq eL;refine cQ @vp @lJ.{0} @jr.{0} ?_;exact⟨_,_,rfl,rfl,(i:Int),rfl,by rw[kan.out];simp⟩
  |false=>rw[eL] at hc;have kt2:(l.take (i+1)).any p=az:=kt.out.trans eL;clear eL;refine cQ @vp @lJ.{0} @jr.{0} ?_;exact⟨l.length - (i+1),by omega,i+1,by omega,rfl,kt2,by simp⟩
 ·have:i=l.length:=by omega
  subst this;have:=ka.out;rw[fC] at this;have kan:=al.mk this;clear this;refine br @vp ?_;exact⟨_,_,rfl,rfl,-1,rfl,by rw[kan.out];rfl⟩
def ahB(OV:pr 167=au)(OU:pr 126=au)(g:FuncId)(p:Int->Bool)(h:aq)(x:AV)(l:List Int)(hx:IS h x l)(hl:l.length<=1000000)(hp:∀n∈l,(whole ao Gt pr).call g [im n] h=aa (.ret (.v (.bool (p n))),h)):
 (whole ao Gt pr).call 126 [x,.func (.func g) [] []] h=aa (.ret (.v (.bool (l.any p))),h):=by
 obtain⟨r,h',c,rfl,i,rfl,hi⟩:=alm OV g p h x l hx hl hp;have Cq:decide (0<=i)=l.any p:=hi;unfold im at c;refine cJ OU Tryz.func126 rfl ?_;clear hi hp hx;exact lP @RY
end
def am8(n)(h):W7.call 148 [im n] h=aa (.ret (.v (.bool (nD n))),h):=by
 unfold im nD;by_cases h0:n<0
 ·refine cJ rfl adO rfl ?_;have:decide (n<0)=ah:=by simp[h0]
  exact jl @aaO @Bool.true_or
 ·refine cJ rfl adO rfl ?_;have:decide (n<0)=az:=by simp[h0]
  exact jl @aaO @Bool.false_or
def Ld{H}{b}{ep}{X Y C}(hb:H.boxes[b]?=aa (aN ep X Y C)):aH ao Gt H 27 (.ptr (.box b) 0)=aa (.agg (aN ep X Y C)):=by rw[iL av SU hb (jR rfl)];rfl
def nK(ae:List (List Int))(owners:List Int)(ep:Int)(aj:List Int)(text:List UInt8)(l:List Pr)(z:List Int):Int × Int:=
 if cC ae owners ep aj text l≠0 then (0,cC ae owners ep aj text l) else if jL l z=az then (0,1) else (((dF (ai aj 0) text l:Nat):Int),0)
def Vs(h:aq)(ep:Int)(X Y C T L Z:AV)(ae:List (List Int))(owners aj:List Int)(text:List UInt8)(l:List Pr)(z:List Int)
 (hx:RL X ae) (hy:IL Y owners) (hc:IL C aj) (ht:BL T text) (hp:PL L l) (de:aj.length<=1000000) (dG:l.length<=1000000) (hz:IS h Z z) (mH:z.length<=1000000):
 ∃r h',W7.call 86 [.agg (aN ep X Y C),T,L,Z] h=aa (r,h')/\h'=h.push (aN ep X Y C)/\r=.ret (.tuple [im (nK ae owners ep aj text l z).1,im (nK ae owners ep aj text l z).2]):=by
 have bx:=uu (ep:=ep) hx hy hc;have c1:=afE ep X Y C T L ae owners aj text l hx hy hc ht hp de dG;have gG:IS (h.push (aN ep X Y C)) Z z:=hz.mono λc cs q=>aY q;have c2:=ahB (pr:=LC) rfl rfl 148 nD (h.push (aN ep X Y C)) Z z gG mH (λn _=>am8 n _);have lnZ:=hz.len;have lnL:=hp.dM;have l1:=Ld (aZ h (aN ep X Y C));have hv:(!z.any nD)=z.all bX:=NZ z;refine db rfl Tryz.func86 rfl ?_;rcases c1 with⟨q,c1⟩|⟨q,B,hB,c1⟩
 ·have kr:al (nK ae owners ep aj text l z=(0,cC ae owners ep aj text l)):=⟨by unfold nK;rw[aG q]⟩;generalize cC ae owners ep aj text l=be at *
  clear hx hy hc ht hp hz gG hv c2;unfold im at *
  refine bK @Mk @bg ?_;exact⟨_,_,rfl,rfl,by rw[kr.out]⟩
 have kr:al (nK ae owners ep aj text l z=if jL l z=az then (0,1) else (((dF (ai aj 0) text l:Nat):Int),0)):=⟨by unfold nK;rw[aI (by rw[q];simp)]⟩;have kd:al (jL l z=(decide (z.length=l.length)&&z.all bX)):=⟨rfl⟩;clear hx hy hc ht hp hz gG q hB;generalize ((dF (ai aj 0) text l:Nat):Int)=ch at *
 generalize ((gM (ai aj 0) text l:Nat):Int)=pt at *
 unfold im at *
 by_cases hlen:z.length=l.length;rotate_left 1
 ·have hI:¬((z.length:Nat):Int)=((l.length:Nat):Int):=by omega
  have dI:decide (((z.length:Nat):Int)≠((l.length:Nat):Int))=ah:=bQ hI;have kr2:al (nK ae owners ep aj text l z=(0,1)):=⟨by rw[kr.out,aG (by rw[kd.out,cE hlen];rfl)]⟩;clear kr kd hv c2 hlen;refine bK @Mk @bg ?_;exact⟨_,_,rfl,rfl,by rw[kr2.out]⟩
 have hI:((z.length:Nat):Int)=((l.length:Nat):Int):=by omega
 have dI:decide (((z.length:Nat):Int)=((l.length:Nat):Int))=ah:=bQ hI;cases ha:z.all bX with
 |true=>
  have hf:z.any nD=az:=by rw[ha] at hv;simpa using hv
  rw[hf] at c2;have kr2:al (nK ae owners ep aj text l z=(ch,0)):=⟨by rw[kr.out,aI (by rw[kd.out,bQ hlen,ha];simp)]⟩;clear kr kd hv hf ha hlen;refine bK @Mk @bg ?_;exact⟨_,_,rfl,rfl,by rw[kr2.out]⟩
 |false=>
  have hf:z.any nD=ah:=by rw[ha] at hv;simpa using hv
  rw[hf] at c2;have kr2:al (nK ae owners ep aj text l z=(0,1)):=⟨by rw[kr.out,aG (by rw[kd.out,ha];simp)]⟩;clear kr kd hv hf ha hlen;refine bK @Mk @bg ?_;exact⟨_,_,rfl,rfl,by rw[kr2.out]⟩
def aek(a b)(h):W7.call 87 [im a,im b] h=aa (.ret (im (cd a b)),h):=by
 have c:=aei a b;unfold im at *
 refine cJ rfl Tryz.func87 rfl ?_;exact lP @ar5
def ai8(h:aq)(x:AV)(l:List Int)(hx:IS h x l)(hl:l.length<=1000000):
 ∃r h',W7.call 88 [x,im 0,.func (.func 87) [] []] h=aa (r,h')/\h'=h/\r=.ret (im (l.foldl cd 0)):=by
 have lnx:=hx.len;have kp:=al.mk hx;clear hx;unfold im;refine db rfl Tryz.func88 rfl ?_;refine br @Sq ?_;refine cz (λm e H=>∃i:Nat,i<=l.length/\m=l.length - i/\e.get 1=.v (.int .i64 (yF l i))/\e.get 2=.func (.func 87) [] []/\e.get 9=x/\e.get 10=.v (.int .i64 (l.length:Nat))/\e.get 11=.v (.int .i64 (i:Nat))/\e.defers=[]/\H=h) ?_ l.length _ _ ?_;rotate_left 1
 ·refine⟨0,cA _,rfl,?_,?_,?_,?_,?_,?_,rfl⟩<;>exact gR
 clear lnx;rintro m e H ⟨i,hi,rfl,g1,g2,g9,g10,g11,hd,rfl⟩;by_cases aA:i<l.length
 ·obtain⟨a,ix,ldx⟩:=kp.out.at aA;have ld:=ldx H kp.out;clear ldx;have hc:=aek (yF l i) (ai l i) H;rw[<-aem aA] at hc;have fx:(i:Int)<(l.length:Int):=by omega
  generalize yF l i=ak at *
  generalize pN:yF l (i+1)=ak2 at *
  generalize ai l i=v at *
  unfold im at hc;refine cQ @Sq @lJ.{0} @jr.{0} ?_;exact⟨l.length - (i+1),by omega,i+1,by omega,rfl,by rw[pN],by simp⟩
 ·have:i=l.length:=by omega
  subst this;have xE:yF l l.length=l.foldl cd 0:=by unfold yF;rw[fC]
  rw[xE] at g1;refine br @Sq ?_;exact⟨_,_,rfl,rfl,rfl⟩
def Kb(h:aq)(ep:Int)(X Y C T L Z:AV)(ae:List (List Int))(owners aj:List Int)(text:List UInt8)(l:List Pr)(z:List Int)
 (hx:RL X ae) (hy:IL Y owners) (hc:IL C aj) (ht:BL T text) (hp:PL L l) (de:aj.length<=1000000) (dG:l.length<=1000000) (uo:text.length<=1000000) (hz:IS h Z z) (mH:z.length<=1000000):
 ∃r h',W7.call 33 [.agg (aN ep X Y C),T,L,Z] h=aa (r,h')/\Ext h h'/\r=.ret (.tuple [.agg [im (jj ae owners ep aj text l z).1.1,im (jj ae owners ep aj text l z).1.2],.v (.bool (jj ae owners ep aj text l z).2.1),im (jj ae owners ep aj text l z).2.2]):=by
 have bx:=uu (ep:=ep) hx hy hc;have zc:=MS;obtain⟨H0,eZ⟩:∃H0,(h.push (aN ep X Y C)).push [im 0,im 0]=H0:=⟨_,rfl⟩;have iE:(h.push (aN ep X Y C)).boxes.length=h.boxes.length+1:=cH _ _;have k0:H0.boxes[h.boxes.length]?=aa (aN ep X Y C):=by rw[<-eZ];exact aY (aZ _ _)
 have g0:H0.boxes[h.boxes.length+1]?=aa [im 0,im 0]:=by have:=aZ (h.push (aN ep X Y C)) [im 0,im 0];rw[iE,eZ] at this;exact this
 have x0:Ext h H0:=by rw[<-eZ];exact(Ext.push _ _).trans (.push _ _)
 obtain⟨_,H1,c1,fY,rfl⟩:=Vs H0 ep X Y C T L Z ae owners aj text l z hx hy hc ht hp de dG (hz.mono λc cs q=>x0.box _ _ q) mH;have x1:Ext H0 H1:=by rw[fY];exact .push _ _
 have k1:=x1.box _ _ k0;have g1:=x1.box _ _ g0;have l0:=Ld k0;have lG:=vg g1;have sG:=FQ (u:=0) (v:=0) g1;rw[nb g1] at sG;have kx:=al.mk (x0.trans x1);have kv:al (jj ae owners ep aj text l z=if cC ae owners ep aj text l≠0 then ((0,0),az,cC ae owners ep aj text l) else if jL l z=az then ((0,0),az,1)
  else if nI (ai aj 0) text ((dF (ai aj 0) text l:Nat):Int) (z.foldl cd 0) then ((((dF (ai aj 0) text l:Nat):Int),z.foldl cd 0),ah,0) else ((0,0),az,0)):=⟨rfl⟩
 refine db rfl Tryz.func33 rfl ?_;by_cases hb:cC ae owners ep aj text l=0;rotate_left 1
 ·have e1:nK ae owners ep aj text l z=(0,cC ae owners ep aj text l):=by unfold nK;rw[aG hb]
  rw[e1] at c1;have kr:al (jj ae owners ep aj text l z=((0,0),az,cC ae owners ep aj text l)):=⟨by rw[kv.out,aG hb]⟩;generalize cC ae owners ep aj text l=be at *
  clear hx hy hc ht hp hz kv e1 fY x0 x1 k0 g0 k1 g1;unfold im at *
  refine bA @FJ @bg @iE @eZ ?_;exact⟨_,_,rfl,kx.out,by rw[kr.out]⟩
 obtain⟨p1,p2,-⟩:=Ec hb;have jb:0<aj.length:=by rw[p2];exact(sU p1).1
 cases hk:jL l z with
 |false=>
  have e1:nK ae owners ep aj text l z=(0,1):=by unfold nK;rw[aI (by rw[hb];simp),aG hk]
  rw[e1] at c1;have kr:al (jj ae owners ep aj text l z=((0,0),az,1)):=⟨by rw[kv.out,aI (by rw[hb];simp),aG hk]⟩;clear hx hy hc ht hp hz kv e1 fY x0 x1 k0 g0 k1 g1 hb hk p1 p2;unfold im at *
  refine bA @FJ @bg @iE @eZ ?_;exact⟨_,_,rfl,kx.out,by rw[kr.out]⟩
 |true=>
  have e1:nK ae owners ep aj text l z=(((dF (ai aj 0) text l:Nat):Int),0):=by unfold nK;rw[aI (by rw[hb];simp),aI (by rw[hk];simp)]
  rw[e1] at c1;have kr:al (jj ae owners ep aj text l z=if nI (ai aj 0) text ((dF (ai aj 0) text l:Nat):Int) (z.foldl cd 0) then ((((dF (ai aj 0) text l:Nat):Int),z.foldl cd 0),ah,0) else ((0,0),az,0)):=⟨by rw[kv.out,aI (by rw[hb];simp),aI (by rw[hk];simp)]⟩;obtain⟨_,H1f,c2,e1f,rfl⟩:=ai8 H1 Z z (hz.mono λc cs q=>(x0.trans x1).box _ _ q) mH;rw[e1f] at c2;have c3:=ab8 (ai aj 0) ((dF (ai aj 0) text l:Nat):Int) (z.foldl cd 0) T text ht uo;have ixC:dH ao 23 C (.v (.int .i64 0))=aa (.elem 1 (ints aj) 0 0):=hc.ix (i:=0) jb;have ldC:∀K:aq,aH ao Gt K 3 (.elem 1 (ints aj) 0 0)=aa (.v (.int .i64 (ai aj 0))):=λK=>eE jb;generalize z.foldl cd 0=sm at *
  generalize ((dF (ai aj 0) text l:Nat):Int)=ch at *
  generalize A3:nI (ai aj 0) text ch sm=vv at *
  generalize ai aj 0=key at *
  obtain⟨H2,iY⟩:∃H2,H1.push [im ch,im sm]=H2:=⟨_,rfl⟩;have x2:Ext H1 H2:=by rw[<-iY];exact .push _ _
  have l1:aH ao Gt H2 23 (.ptr (.box h.boxes.length) 3)=aa C:=ct kU (x2.box _ _ k1) rfl;have s1:b7 ao (H1.push [im 0,im 0]) 50 (.ptr (.box H1.boxes.length) 0) (.agg [im ch,im sm])=aa H2:=by rw[<-iY];exact jx rfl Dr rfl rfl
  have t2:H2.boxes[H1.boxes.length]?=aa [im ch,im sm]:=by rw[<-iY];exact aZ _ _
  have l2:=vg t2;have g2:=x2.box _ _ g1;have lG2:=vg g2;have sG2:=FQ (u:=0) (v:=0) g2;rw[nb g2] at sG2;have sR:=FQ (u:=ch) (v:=sm) g2;have gl:=(aS.1 g2).1;have lR:aH ao Gt (H2.put (h.boxes.length+1) [im ch,im sm]) 50 (.ptr (.box (h.boxes.length+1)) 0)=aa (.agg [im ch,im sm]):=vg (eu gl);have bd:=afb ch sm;have kx2:=al.mk (aw ((x0.trans x1).trans x2) (((x0.trans x1).trans x2).fK ag (b:=h.boxes.length+1) [im ch,im sm]));clear hx hy hc ht hp hz kv e1 fY x0 x1 x2 k0 g0 k1 g1 g2 t2 hb hk p1 p2 jb kx gl sG lG;cases vv with
  |true=>
   have kr2:al (jj ae owners ep aj text l z=((ch,sm),ah,0)):=⟨kr.out⟩;clear kr A3 sG2 lG2;unfold im at *
   refine bA @FJ @bg @iE (aw @eZ @gV) ?_;refine ev BS av ?_;refine bK @FJ @gV ?_;exact⟨_,_,rfl,kx2.out.2,by rw[kr2.out]⟩
  |false=>
   have kr2:al (jj ae owners ep aj text l z=((0,0),az,0)):=⟨kr.out⟩;clear kr A3 sR lR;unfold im at *
   refine bA @FJ @bg @iE (aw @eZ @gV) ?_;refine ev BS av ?_;refine bK @FJ @gV ?_;exact⟨_,_,rfl,kx2.out.1,by rw[kr2.out]⟩
def Dj:Tryz.f89.results.toList=[.tmp 8]:=by kernel_rfl
def Sg:Tryz.f32.results.toList=[.tmp 8]:=by kernel_rfl
def zG:Tryz.f34.results.toList=[.cell 8 50,.tmp 9,.tmp 10]:=by kernel_rfl
def yP(ae:List (List Int))(owners:List Int)(ep:Int)(aj:List Int)(text:List UInt8)(l:List Pr)(z:List Int):Int:=
 if cC ae owners ep aj text l≠0 then cC ae owners ep aj text l else if jL l z=ah then 0 else 1
def aiE(h:aq)(ep:Int)(X Y C T L Z:AV)(ae:List (List Int))(owners aj:List Int)(text:List UInt8)(l:List Pr)(z:List Int)(g:py X Y C T L ae owners aj text l)(hz:IL Z z)(cP:ae.length<=1000000)(de:aj.length<=1000000)(dG:l.length<=1000000)(mH:z.length<=1000000):
 ∃r h',rE.call 89 [.agg (aN ep X Y C),T,L,Z] h=aa (r,h')/\h'=h.push (aN ep X Y C)/\r=.ret (im (yP ae owners ep aj text l z)):=by
 have bx:=g.cells ep;have c1:=Vn ep X Y C T L ae owners aj text l g cP de dG;have l0:=ve (aZ h (aN ep X Y C)) rfl;have ln:=hz.dM;have lp:=g.p.dM;have kv:al (yP ae owners ep aj text l z=if cC ae owners ep aj text l≠0 then cC ae owners ep aj text l else if jL l z=ah then 0 else 1):=⟨rfl⟩;have ko:al (jL l z=(decide (z.length=l.length)&&z.all bX)):=⟨rfl⟩;generalize yP ae owners ep aj text l z=res at *
 obtain⟨kz,sz,rfl,dL⟩:=hz;have ks:=al.mk dL;have u23:=dQ;have z3:=fP;have cS:=dD z;clear g dL;obtain⟨H0,hH⟩:∃H0,h.push (aN ep X Y C)=H0:=⟨_,rfl⟩;rw[hH] at l0;rw[hH];generalize aN ep X Y C=K at *
 unfold im at c1;refine db rfl Tryz.func89 rfl ?_;by_cases q1:cC ae owners ep aj text l=0;rotate_left 1
 ·have bB:decide (cC ae owners ep aj text l=0)=az:=cE q1;have kf:al (res=cC ae owners ep aj text l):=⟨by rw[kv.out,aG q1]⟩;generalize cC ae owners ep aj text l=be at *
  clear q1 kv ko;refine cQ @Dj @bg @hH ?_;exact⟨_,_,rfl,rfl,by rw[kf.out];rfl⟩
 have kv2:al (res=if jL l z=ah then 0 else 1):=⟨by rw[kv.out,aI (by simp[q1])]⟩;rw[q1] at c1;clear q1 kv;by_cases q2:z.length=l.length;rotate_left 1
 ·have q2I:¬((z.length:Nat):Int)=((l.length:Nat):Int):=by omega
  have kf:al (res=1):=⟨by rw[kv2.out,ko.out,cE q2];rfl⟩;clear q2 kv2 ko;refine cQ @Dj @bg @hH ?_;exact⟨_,_,rfl,rfl,by rw[kf.out];rfl⟩
 have q2I:((z.length:Nat):Int)=((l.length:Nat):Int):=by omega
 have kv3:al (res=if z.all bX=ah then 0 else 1):=⟨by rw[kv2.out,ko.out,bQ q2];rfl⟩;clear kv2 ko q2;refine cQ @Dj @bg @hH ?_;refine bH.gen λe0 aF bB cU cN=>?_;have f3:e0.get 3=.list kz sz (ints z):=by rw[aF];exact gS
 have f10:e0.get 10=.v (.int .i64 (0:Nat)):=by rw[aF];exact gR
 have fd:e0.defers=[]:=by rw[bB];exact gS
 clear aF bB cU cN bx hH l0 c1 lp q2I;refine cz (λm e H=>∃i:Nat,i<=z.length/\m=z.length - i/\al ((z.take i).all bX=ah)/\e.get 3=.list kz sz (ints z)/\e.get 10=.v (.int .i64 (i:Nat))/\e.defers=[]/\H=H0) ?_ z.length _ _ ?_;rotate_left 1
 ·exact⟨0,cA _,rfl,⟨bE⟩,f3,f10,fd,rfl⟩
 clear f3 f10 fd;rintro m e H ⟨i,hi,rfl,ka,g3,g10,hd,rfl⟩;by_cases aA:i<z.length
 ·have bD:sz=1:=ks.out (by intro q;rw[q] at aA;simp at aA);subst bD;have ld:=eE (H:=H) (s:=1) aA;have hv:z[i]?=aa (ai z i):=by rw[aR aA,fm aA]
  have fx:(i:Int)<(z.length:Int):=by omega
  have lU:(z.take (i+1)).all bX=bX (ai z i):=by rw[ft hv,zZ,ka.out];simp
  have kt:=al.mk (aw lU (dj hv));have hq:bX (ai z i)=(decide (0<=ai z i)&&decide (ai z i<1073741789)):=rfl;clear hv lU;generalize ai z i=n at *
  by_cases c1:n<0
  ·have fj:decide (n<0)=ah:=(by simp[c1]);have kf:al (res=1):=⟨by have hf:z.all bX=az:=(by rw[DS];exact⟨n,kt.out.2,by rw[hq];simp;omega⟩);rw[kv3.out,hf];rfl⟩;clear hq c1 kv3;refine bK @Dj @bh ?_;exact⟨_,_,rfl,rfl,by rw[kf.out];rfl⟩
  ·have fj:decide (n<0)=az:=(by simp[c1]);by_cases c2:1073741789<=n
   ·have ie:decide (1073741789<=n)=ah:=(by simp[c2]);have kf:al (res=1):=⟨by have hf:z.all bX=az:=(by rw[DS];exact⟨n,kt.out.2,by rw[hq];simp;omega⟩);rw[kv3.out,hf];rfl⟩;clear hq c1 c2 kv3;refine bK @Dj @bh ?_;exact⟨_,_,rfl,rfl,by rw[kf.out];rfl⟩
   ·have ie:decide (1073741789<=n)=az:=(by simp;omega);have kt2:al ((z.take (i+1)).all bX=ah):=⟨by rw[kt.out.1,hq];simp;omega⟩;clear hq c1 c2;refine bK @Dj @bh ?_;exact⟨z.length - (i+1),by omega,i+1,by omega,rfl,kt2,by simp⟩
 ·have:i=z.length:=by omega
  subst this;have:=ka.out;rw[fC] at this;have kf:al (res=0):=⟨by rw[kv3.out,this];rfl⟩;clear this kv3;refine br @Dj ?_;exact⟨_,_,rfl,rfl,by rw[kf.out];rfl⟩
def aiM(h:aq)(ep:Int)(X Y C T L Z:AV)(ae:List (List Int))(owners aj:List Int)(text:List UInt8)(l:List Pr)(z:List Int)(g:py X Y C T L ae owners aj text l)(hz:IL Z z):
 ∃r h',rE.call 32 [.agg (aN ep X Y C),T,L,Z] h=aa (r,h')/\h'=h.push (aN ep X Y C)/\∃b,r=.ret (.v (.bool b))/\(b=ah->ae.length<=80/\owners.length<=80/\aj.length<=80/\text.length<=70000/\l.length<=80/\z.length<=80):=by
 have bx:=g.cells ep;obtain⟨b,hb,cf⟩:=agT ep X Y C T L ae owners aj text l g.x g.y g.c g.t g.p;have l0:=ve (aZ h (aN ep X Y C)) rfl;have ln:=hz.dM;have kb:=al.mk hb;clear g hz hb;obtain⟨H0,hH⟩:∃H0,h.push (aN ep X Y C)=H0:=⟨_,rfl⟩;rw[hH] at l0;rw[hH];generalize aN ep X Y C=K at *
 refine db rfl Tryz.func32 rfl ?_;cases b with
 |false=>refine cQ @Sg @bg @hH ?_;exact⟨_,_,rfl,rfl,az,rfl,λq=>by cases q⟩|true=>
 obtain⟨k1,k2,k3,k4,k5⟩:=kb.out rfl;have kq:=al.mk (aw k1 (aw k2 (aw k3 (aw k4 k5))));clear k1 k2 k3 k4 k5 kb;by_cases q1:(z.length:Int)<=80
 ·have d1:decide ((z.length:Int)<=80)=ah:=bQ q1;have kz:al (z.length<=80):=⟨ag⟩;clear q1;refine cQ @Sg @bg @hH ?_;exact⟨_,_,rfl,rfl,ah,rfl,λ_=>⟨kq.out.1,kq.out.2.1,kq.out.2.2.1,kq.out.2.2.2.1,kq.out.2.2.2.2,kz.out⟩⟩
 ·have d1:decide ((z.length:Int)<=80)=az:=cE q1;clear q1;refine cQ @Sg @bg @hH ?_;exact⟨_,_,rfl,rfl,az,rfl,λq=>by cases q⟩
def ar6:Tryz.f90.results.toList=[]:=av
def ar7:Tryz.f91.results.toList=[.tmp 4]:=av
def LZ:Tryz.f149.results.toList=[]:=av
def I5:Tryz.f35.results.toList=[.cell 8 23,.cell 9 32]:=av
def IS.Ao{H}{x}{l}(h:IS H x l):x.bP=aa [x]:=by rcases h with⟨k,s,rfl,-⟩|⟨b,rfl,-⟩<;>rfl
def Kj{b}:gg ao 130 (.ptr (.box b) 0) 0=aa (.ptr (.box b) 0):=av
def ael(H)(n0 b)(t)(s)(bad)(k)(hb:H.boxes[b]?=aa [.list t s (ints bad)])(hs:s=1∨(bad=[]/\t=.nil))(hl:bad.length<1000000)(hc:dm n0 H t):
 W7.call 90 [.ptr (.box b) 0,im k] H=aa (.ret (.tuple []),(H.app t).put b [.list (.free H.tn) 1 (ints (bad++[k]))]):=by
 have ap:=tQ (x:=k) (es:=bad) ag hs hc;have lA:=vd hb;have sA:b7 ao (H.app t) 23 (.ptr (.box b) 0) (.list (.free H.tn) 1 (ints (bad++[k])))=aa ((H.app t).put b [.list (.free H.tn) 1 (ints (bad++[k]))]):=
  fA (off:=0) (cs:=[.list t s (ints bad)]) (xs:=[.list (.free H.tn) 1 (ints (bad++[k]))]) rfl il (by rw[ec];exact hb) rfl (aJ 1)
 have bl:=pI k;clear hb hs hc;unfold im at *
 refine cJ rfl Tryz.func90 rfl ?_;exact rN @ar6 @Kj @ZC
def anS(h)(L Z)(hL:L.bP=aa [L])(hZ:Z.bP=aa [Z]):W7.call 91 [L,Z] h=aa (.ret (.func (.func 149) [] [.ptr (.box h.boxes.length) 0,.ptr (.box (h.boxes.length+1)) 0]),(h.push [L]).push [Z]):=by refine cJ rfl Tryz.func91 rfl ?_;exact rN @ar7 @bg @cH
def anT(lp pb zb:Nat)(L Z:AV)(l:List Pr)(z:List Int)(Inv:Nat->aq->Prop)(hp:PL L l)(dG:l.length<=1000000)(mH:z.length=l.length)
 (h1:∀k H,Inv k H->H.boxes[pb]?=aa [L]/\H.boxes[zb]?=aa [Z]/\IS H Z z)
 (hP:∀k H cs,Inv k H->Inv k (H.push cs))
 (hR:∀k H,k<l.length->Inv k H->∃H',W7.round lp [im (pV l k),im (ai z k)] H=aa (.ret (.v (.bool ah)),H')/\Inv (k+1) H')
 (H0:aq) (h0:Inv 0 H0):∃H',W7.call 149 [.yield lp,.ptr (.box pb) 0,.ptr (.box zb) 0] H0=aa (.ret (.tuple []),H')/\Inv l.length H':=by
 have kk:=al.mk (aw h1 (aw hP (aw hR (aw h0 hp))));obtain⟨b1,-,-⟩:=h1 0 H0 h0;have l1:aH ao Gt H0 29 (.ptr (.box pb) 0)=aa L:=ct yH b1 rfl;have ln:=hp.dM;have zp:=Dw;clear h1 hP hR h0 hp b1;refine hY rfl Tryz.func149 rfl ?_;refine br @LZ ?_;refine cz (λm e H=>∃k:Nat,k<=l.length/\m=l.length - k/\al (Inv k H)/\e.get 0=.yield lp/\e.get 2=.ptr (.box zb) 0/\e.get 6=L/\e.get 7=.v (.int .i64 (l.length:Nat))/\e.get 8=.v (.int .i64 (k:Nat))/\e.defers=[]) ?_ l.length _ _ ?_;rotate_left 1
 ·refine⟨0,cA _,rfl,⟨kk.out.2.2.2.1⟩,?_,?_,?_,?_,?_,?_⟩<;>exact gR
 clear l1 ln;rintro m e H ⟨k,hk,rfl,kI,g0,g2,g6,g7,g8,hd⟩;by_cases aA:k<l.length;rotate_left 1
 ·have:k=l.length:=by omega
  subst this;refine br @LZ ?_;exact⟨_,rfl,kI.out⟩
 obtain⟨p,EN⟩:∃p,l[k]?=aa p:=⟨_,aR aA⟩;have ix:=kk.out.2.2.2.2.ix aA;have Zb:=C6 (H:=H) (s:=4) EN;have sp:=Bm (H:=H) p;have kI2:=al.mk (kk.out.2.1 k H (bU p) kI.out);obtain⟨-,b2,b3⟩:=kk.out.1 k _ kI2.out;have lz:aH ao Gt (H.push (bU p)) 23 (.ptr (.box zb) 0)=aa Z:=ct kU b2 rfl;have lk:aH ao Gt (H.push (bU p)) 3 (.ptr (.box H.boxes.length) 0)=aa (.v (.int .i64 p.aB)):=ct eD (aZ _ _) rfl;obtain⟨a,iz,ldz⟩:=b3.at (i:=k) ag;have lz2:=ldz _ b3;obtain⟨H',r1,r2⟩:=kk.out.2.2.1 k _ aA kI2.out;rw[YX EN] at r1;have kI3:=al.mk r2;have fx:(k:Int)<(l.length:Int):=by omega
 clear ldz b2 b3 r2 kI kI2 EN;generalize ai z k=zk at *
 unfold im at *
 generalize p.aB=pk at *
 refine cQ @LZ @bg @iR ?_;refine ev BS av ?_;refine cQ @LZ @iR @Aj ?_;exact⟨l.length - (k+1),by omega,k+1,by omega,rfl,kI3,by simp⟩
def aet:gI ao 131=aa az:=av
def auC:dt ao 131=aa 1:=av
def avT:(gZ ao 23).bind AV.bP=aa [nl]:=av
def avO:(gZ ao 130).bind AV.bP=aa [nl]:=av
def avP:(gZ ao 131).bind AV.bP=aa [.v .nilFunc]:=av
def ae6(ae)(owners)(ep)(aj)(text)(l)(z)(k):(xd ae owners ep aj text l z k).length<=k:=by
 induction k with
 |zero=>simp[xd]|succ k ih=>
  rw[UJ,List.length_append];have:(Ag ae owners ep aj text l z k).length<=1:=by unfold Ag;split<;>simp
  omega
def zP(h h1:aq)(bl:Nat)(LP:List iI)(bad:Nat->List Int)(k:Nat)(H:aq):Prop:=
 ∃t s,H.loops=LP/\H.boxes[bl]?=aa [.list t s (ints (bad k))]/\(s=1∨(bad k=[]/\t=.nil))/\dm h.tn H t/\cG H=ah/\Ext h H/\h1.boxes.length<=H.boxes.length/\∀(a:Nat) (cs:List AV),h1.boxes[a]?=aa cs->a≠bl->H.boxes[a]?=aa cs
def zP.push{h h1}{bl}{LP}{bad}{k}{H}(b:zP h h1 bl LP bad k H)(cs):zP h h1 bl LP bad k (H.push cs):=by obtain⟨t,s,i1,i2,i3,i4,i5,i6,i7,i8⟩:=b;exact⟨t,s,i1,aY i2,i3,by rw[An];exact i4,i5,i6.trans (.push _ _),by rw[cH];omega,λa cs q bG=>aY (i8 a cs q bG)⟩
def Ob(h:aq)(bq:cG h=ah)(ep:Int)(X Y C T L Z:AV)(ae:List (List Int))(owners aj:List Int)(text:List UInt8)(l:List Pr)(z:List Int)
 (hx:RL X ae) (hy:IL Y owners) (hc:IL C aj) (ht:BL T text) (hp:PL L l) (de:aj.length<=1000000) (dG:l.length<=1000000) (hz:IS h Z z) (mH:z.length<=1000000):
 ∃r h',W7.call 35 [.agg (aN ep X Y C),T,L,Z] h=aa (r,h')/\Ext h h'/\∃B,r=.ret (.tuple [B,im (uN ae owners ep aj text l z).2])/\IL B (uN ae owners ep aj text l z).1:=by
 have bx:=uu (ep:=ep) hx hy hc;have cT:=ht.Ao;have cL:=hp.Ao;have z23:=avT;have z32:=acg;have z130:=avO;have z131:=avP;obtain⟨H0,eZ⟩:∃H0,((((h.push (aN ep X Y C)).push [T]).push [L]).push [nl]).push [im 0]=H0:=⟨_,rfl⟩;have n1:(h.push (aN ep X Y C)).boxes.length=h.boxes.length+1:=cH _ _;have n2:((h.push (aN ep X Y C)).push [T]).boxes.length=h.boxes.length+2:=by rw[cH,n1]
 have n3:(((h.push (aN ep X Y C)).push [T]).push [L]).boxes.length=h.boxes.length+3:=by rw[cH,n2]
 have n4:((((h.push (aN ep X Y C)).push [T]).push [L]).push [nl]).boxes.length=h.boxes.length+4:=by rw[cH,n3]
 have n5:H0.boxes.length=h.boxes.length+5:=by rw[<-eZ,cH,n4]
 have k0:H0.boxes[h.boxes.length]?=aa (aN ep X Y C):=by rw[<-eZ];exact aY (aY (aY (aY (aZ _ _))))
 have k1:H0.boxes[h.boxes.length+1]?=aa [T]:=by rw[<-eZ,<-n1];exact aY (aY (aY (aZ _ _)))
 have k2:H0.boxes[h.boxes.length+2]?=aa [L]:=by rw[<-eZ,<-n2];exact aY (aY (aZ _ _))
 have k3:H0.boxes[h.boxes.length+3]?=aa [nl]:=by rw[<-eZ,<-n3];exact aY (aZ _ _)
 have k4:H0.boxes[h.boxes.length+4]?=aa [im 0]:=by rw[<-eZ,<-n4];exact aZ _ _
 have x0:Ext h H0:=by rw[<-eZ];exact((((Ext.push _ _).trans (.push _ _)).trans (.push _ _)).trans (.push _ _)).trans (.push _ _)
 obtain⟨_,H1,c1,fY,rfl⟩:=Vs H0 ep X Y C T L Z ae owners aj text l z hx hy hc ht hp de dG (hz.mono λc cs q=>x0.box _ _ q) mH;have x1:Ext H0 H1:=by rw[fY];exact .push _ _
 have m1:H1.boxes.length=h.boxes.length+6:=by rw[fY,cH,n5]
 obtain⟨ce,tc⟩:∃e,(nK ae owners ep aj text l z).2=e:=⟨_,rfl⟩;rw[tc] at c1;have g4:=x1.box _ _ k4;have gl4:=(aS.1 g4).1;obtain⟨H2,iY⟩:∃H2,H1.put (h.boxes.length+4) [im ce]=H2:=⟨_,rfl⟩;have s1:b7 ao H1 32 (.ptr (.box (h.boxes.length+4)) 0) (im ce)=aa H2:=by rw[<-iY];exact fA (off:=0) (cs:=[im 0]) (xs:=[im ce]) rfl Jj g4 rfl (aJ 1)
 have x2:Ext h H2:=by rw[<-iY];exact(x0.trans x1).fK ag _
 have m2:H2.boxes.length=h.boxes.length+6:=by rw[<-iY,mj,m1]
 have j0:H2.boxes[h.boxes.length]?=aa (aN ep X Y C):=by rw[<-iY,cX ag];exact x1.box _ _ k0
 have j1:H2.boxes[h.boxes.length+1]?=aa [T]:=by rw[<-iY,cX ag];exact x1.box _ _ k1
 have j2:H2.boxes[h.boxes.length+2]?=aa [L]:=by rw[<-iY,cX ag];exact x1.box _ _ k2
 have j3:H2.boxes[h.boxes.length+3]?=aa [nl]:=by rw[<-iY,cX ag];exact x1.box _ _ k3
 have j4:H2.boxes[h.boxes.length+4]?=aa [im ce]:=by rw[<-iY];exact eu gl4
 have l0:=Ld k0;have l1:aH ao Gt H0 28 (.ptr (.box (h.boxes.length+1)) 0)=aa T:=ct JR k1 rfl;have l2:aH ao Gt H0 29 (.ptr (.box (h.boxes.length+2)) 0)=aa L:=ct yH k2 rfl;have l4:aH ao Gt H2 32 (.ptr (.box (h.boxes.length+4)) 0)=aa (im ce):=ct yI j4 rfl;have kv:al (uN ae owners ep aj text l z=if cC ae owners ep aj text l≠0 then ([],cC ae owners ep aj text l) else if jL l z=az then ([],1) else (xd ae owners ep aj text l z l.length,0)):=⟨rfl⟩;refine db rfl Tryz.func35 rfl ?_;by_cases he:ce=0;rotate_left 1
 ·have kr:al (uN ae owners ep aj text l z=([],ce)):=⟨by
   rw[kv.out];by_cases q:cC ae owners ep aj text l=0
   ·rw[aI (by simp[q])];cases hk:jL l z with|false=>rw[aG rfl,<-tc];unfold nK;rw[aI (by simp[q]),aG hk]|true=>exact absurd (by rw[<-tc];unfold nK;rw[aI (by simp[q]),aI (by simp[hk])]) he
   ·rw[aG q,<-tc];unfold nK;rw[aG q]⟩
  have sA:b7 ao H2 23 (.ptr (.box (h.boxes.length+3)) 0) nl=aa H2:=by rw[fA (off:=0) (cs:=[nl]) (xs:=[nl]) rfl il j3 rfl (aJ 1)];exact congrArg aa (nb j3)
  have sB:b7 ao H2 32 (.ptr (.box (h.boxes.length+4)) 0) (im ce)=aa H2:=by rw[fA (off:=0) (cs:=[im ce]) (xs:=[im ce]) rfl Jj j4 rfl (aJ 1)];exact congrArg aa (nb j4)
  have lA:aH ao Gt H2 23 (.ptr (.box (h.boxes.length+3)) 0)=aa nl:=ct kU j3 rfl;have kx:=al.mk x2;have dz:decide (ce=0)=az:=cE he;have svs:fc (im ce) (im ce)=ah:=by simp[im,fc,lX]
  clear hx hy hc ht hp hz kv tc fY x0 x1 x2 k0 k1 k2 k3 k4 g4 gl4 iY j0 j1 j2 j3 j4 n5 m1 m2;unfold im at *
  refine bA @I5 @bg @n1 (aw @n2 (aw @n3 (aw @n4 @eZ))) ?_;refine ng [(0,1)] BS av (λp hp=>?_) ?_
  ·simp only[my] at hp;subst hp;refine wL (x:=.ptr (.box (h.boxes.length+4)) 0) (v:=.v (.int .i64 ce)) av rfl rfl rfl av (svs) ?_ ?_<;>(simp only[List.take_succ_cons,List.take_zero];exact jl @I5 @and_self)
  refine br @I5 ?_;exact⟨_,_,rfl,kx.out,_,by rw[kr.out],by rw[kr.out];exact⟨_,_,rfl,λq=>absurd rfl q⟩⟩
 subst he;have hb:cC ae owners ep aj text l=0:=by
  by_cases q:cC ae owners ep aj text l=0
  ·exact q
  ·unfold nK at tc;rw[aG q] at tc;exact tc
 have hk:jL l z=ah:=by
  cases hk:jL l z with|true=>rfl|false=>unfold nK at tc;rw[aI (by simp[hb]),aG hk] at tc;cases tc
 obtain⟨q1,q2⟩:=Fq.1 hk;have kr:al (uN ae owners ep aj text l z=(xd ae owners ep aj text l z l.length,0)):=⟨by rw[kv.out,aI (by simp[hb]),aI (by simp[hk])]⟩;have kf:al (∀k,k<l.length->∀h,W7.call 22 [.agg (aN ep X Y C),T,L,im (pV l k),im (ai z k)] h=aa (.ret (.tuple [.v (.bool (pZ ae owners ep aj text l (pV l k) (ai z k)).1),im 0]),h)):=⟨λk AR=>by have:=aiW ep X Y C T L ae owners aj text l hx hy hc ht hp de dG (pV l k) (ai z k);rw[ai0 hb hk AR] at this;exact this⟩;obtain⟨H3,mC⟩:∃H3,H2.push [nl]=H3:=⟨_,rfl⟩;obtain⟨H4,rO⟩:∃H4,H3.push [.func (.func 90) [.ptr (.box (h.boxes.length+6)) 0] []]=H4:=⟨_,rfl⟩;have m3:H3.boxes.length=h.boxes.length+7:=by rw[<-mC,cH,m2]
 have m4:H4.boxes.length=h.boxes.length+8:=by rw[<-rO,cH,m3]
 have s4:b7 ao (H3.push [.v .nilFunc]) 131 (.ptr (.box (h.boxes.length+7)) 0) (.func (.func 90) [.ptr (.box (h.boxes.length+6)) 0] [])=aa H4:=by rw[<-rO,<-m3];exact jx rfl auC rfl rfl
 obtain⟨H6,AF⟩:∃H6,(H4.push [L]).push [Z]=H6:=⟨_,rfl⟩;have c2:=anS H4 L Z cL hz.Ao;rw[AF,m4] at c2;have o2:∀{b:Nat} {cs:List AV},H2.boxes[b]?=aa cs->H6.boxes[b]?=aa cs:=λq=>by rw[<-AF,<-rO,<-mC];exact aY (aY (aY (aY q)))
 have j6:H6.boxes[h.boxes.length+6]?=aa [nl]:=by rw[<-AF,<-rO,<-mC,<-m2];exact aY (aY (aY (aZ _ _)))
 have j7:H6.boxes[h.boxes.length+7]?=aa [.func (.func 90) [.ptr (.box (h.boxes.length+6)) 0] []]:=by rw[<-AF,<-rO,<-m3];exact aY (aY (aZ _ _))
 have j8:H6.boxes[h.boxes.length+8]?=aa [L]:=by rw[<-AF,<-m4];exact aY (aZ _ _)
 have j9:H6.boxes[h.boxes.length+9]?=aa [Z]:=by
  rw[<-AF];have:=aZ (H4.push [L]) [Z]
  rwa [cH,m4] at this
 have x6:Ext h H6:=by rw[<-AF,<-rO,<-mC];exact(((x2.trans (.push _ _)).trans (.push _ _)).trans (.push _ _)).trans (.push _ _)
 have CH:=x6.ok bq;have l3:aH ao Gt H4 29 (.ptr (.box (h.boxes.length+2)) 0)=aa L:=ct yH (by rw[<-rO,<-mC];exact aY (aY j2)) rfl;have y0:=o2 j0;have y1:=o2 j1;have y2:=o2 j2;have y3:=o2 j3;have y4:=o2 j4;have QB:IS H6 Z z:=hz.mono λc cs q=>x6.box _ _ q;clear x0 x1 x2 k0 k1 k2 k3 k4 g4 gl4 j0 j1 j2 j3 j4 o2 fY iY AF rO tc kv hb hk;unfold im at *
 refine bA @I5 @bg @n1 (aw @n2 (aw @n3 (aw @n4 (aw @eZ (aw @m2 (aw @m3 @mC)))))) ?_;refine bH.gen λe4 gF qm uY tx=>?_;have f4:e4.get 4=.ptr (.box h.boxes.length) 0:=by rw[gF];exact gS
 have f5:e4.get 5=.ptr (.box (h.boxes.length+1)) 0:=by rw[gF];simp only[gW,reduceIte,aO,aM,n1]
 have f6:e4.get 6=.ptr (.box (h.boxes.length+2)) 0:=by rw[gF];simp only[gW,reduceIte,aO,aM,n2]
 have f8:e4.get 8=.ptr (.box (h.boxes.length+3)) 0:=by rw[gF];simp only[gW,reduceIte,aO,aM,n3]
 have f9:e4.get 9=.ptr (.box (h.boxes.length+4)) 0:=by rw[gF];simp only[gW,reduceIte,aO,aM,n4]
 have f10:e4.get 10=.ptr (.box (h.boxes.length+6)) 0:=by rw[gF];simp only[gW,reduceIte,aO,aM,m2]
 have f11:e4.get 11=.ptr (.box (h.boxes.length+7)) 0:=by rw[gF];simp only[gW,reduceIte,aO,aM,m3]
 have f30:e4.get 30=.func (.func 149) [] [.ptr (.box (h.boxes.length+8)) 0,.ptr (.box (h.boxes.length+8+1)) 0]:=by rw[gF];exact gS
 have fd:e4.defers=[]:=by rw[qm];exact gS
 clear gF qm uY tx c1 c2 s1 s4 l0 l1 l2 l3 l4 bx cT cL z23 z32 z130 z131 eZ n1 n2 n3 n4 n5 m1 mC m2 m3 m4;refine Dk (by rw[Aw];exact f30) λrec w1 w2 w3 w4 w5 w6=>?_;obtain⟨bad,Hq⟩:∃bad:Nat->List Int,bad=xd ae owners ep aj text l z:=⟨_,rfl⟩;have kb0:al (bad 0=[]):=⟨by rw[Hq];rfl⟩;have kbs:al (∀k,bad (k+1)=bad k++Ag ae owners ep aj text l z k):=⟨λk=>by rw[Hq];exact UJ _ _ _ _ _ _ _ _⟩;have kbl:al (∀k,(bad k).length<=k):=⟨λk=>by rw[Hq];exact ae6 _ _ _ _ _ _ _ _⟩;rw[<-Hq] at kr;clear Hq;have gY:(H6.loop rec).loops[H6.loops.length]?=aa rec:=@C8 H6 rec;have XL:Ext h (H6.loop rec):=x6.trans ((Fr.A6 (bn:=H6.boxes.length) (l0:=H6.loops.length) (n0:=H6.tn) H6 rec).ext (aJ _) (aJ _) (aJ _));have PM:=(aS.1 j9).1;have feed:=anT H6.loops.length (h.boxes.length+8) (h.boxes.length+8+1) L Z l z (zP h H6 (h.boxes.length+6) (H6.loop rec).loops bad) hp dG q1
  (λk H q=>by obtain⟨_,_,-,-,-,-,-,q6,-,q8⟩:=q;exact⟨q8 _ _ j8 ag,q8 _ _ j9 ag,hz.mono λc cs q=>q6.box _ _ q⟩)
  (λk H cs q=>q.push cs) ?_ (H6.loop rec) ⟨.nil,0,rfl,by rw[kb0.out];exact j6,.inr ⟨kb0.out,rfl⟩,.inl rfl,CH,XL,aJ _,λa cs q _=>q⟩
 rotate_left 1
 ·rintro k H hk ⟨t,s,i1,i2,i3,i4,i5,i6,i7,i8⟩;have uW:H.loops[H6.loops.length]?=aa rec:=by rw[i1];exact gY
  refine II (Post:=zP h H6 (h.boxes.length+6) (H6.loop rec).loops bad (k+1)) uW (by rw[w2];rfl) w5 w6 ?_;have r1:∀t,(nH H6.loops.length rec [im (pV l k),im (ai z k)]).get t=if 32=t then im (ai z k) else if 31=t then im (pV l k) else e4.get t:=λt=>IG w2 w1
  have d1:(nH H6.loops.length rec [im (pV l k),im (ai z k)]).defers=[]:=rfl;obtain⟨K,hK⟩:∃K,H.busy H6.loops.length rec=K:=⟨_,rfl⟩;have qN:K.boxes=H.boxes:=by rw[<-hK];rfl
  have u0:=Ld (H:=K) (by rw[qN];exact i8 _ _ y0 ag);have u1:aH ao Gt K 28 (.ptr (.box (h.boxes.length+1)) 0)=aa T:=ct JR (by rw[qN];exact i8 _ _ y1 ag) rfl;have u2:aH ao Gt K 29 (.ptr (.box (h.boxes.length+2)) 0)=aa L:=ct yH (by rw[qN];exact i8 _ _ y2 ag) rfl;have u3:aH ao Gt K 131 (.ptr (.box (h.boxes.length+7)) 0)=aa (.func (.func 90) [.ptr (.box (h.boxes.length+6)) 0] []):=ct aet (by rw[qN];exact i8 _ _ j7 ag) rfl;have c1:=kf.out k hk;have kb1:K.boxes[h.boxes.length+6]?=aa [.list t s (ints (bad k))]:=by rw[qN];exact i2
  have kc1:dm h.tn K t:=by rw[<-hK];exact i4
  have jJ:=kbl.out k;have mV:=kbs.out k;unfold Ag at mV;cases nR:(pZ ae owners ep aj text l (pV l k) (ai z k)).1 with
  |true=>
   rw[nR] at c1 mV;rw[aG rfl,jr] at mV;have fy:al (zP h H6 (h.boxes.length+6) (H6.loop rec).loops bad (k+1) H):=⟨t,s,i1,by rw[mV];exact i2,by rw[mV];exact i3,i4,i5,i6,i7,i8⟩;clear i1 i2 i3 i4 i5 i6 i7 i8 mV jJ kb1 kc1 nR y0 y1 y2 y3 y4 j6 j7 j8 j9 x6 XL CH gY PM hp hz QB qN;generalize pV l k=wk at *
   generalize ai z k=zk at *
   rw[hK];rw[w3,w4];unfold im at *
   refine bA @r1 @d1 @Kj @kL.{0} ?_;exact⟨aU,aU,aU,(by first|trivial|rfl),by rw[<-hK];exact fy.out⟩
  |false=>
   rw[nR] at c1 mV;rw[aI bE] at mV;have ca:=ael K h.tn (h.boxes.length+6) t s (bad k) (pV l k) kb1 i3 ag kc1;rw[<-mV] at ca;have gr:=Grown.one i4 i5 i6.tn;have fy:al (zP h H6 (h.boxes.length+6) (H6.loop rec).loops bad (k+1) ((H.app t).put (h.boxes.length+6) [.list (.free H.tn) 1 (ints (bad (k+1)))])):=by
    have oX:=(aS.1 i2).1;refine⟨_,1,?_,?_,.inl rfl,by rw[BU];exact gr.can,gr.ok,(gr.ext i6 (aJ _)).fK ag _,by rw[mj,ec];exact i7,λa cs ha bG=>?_⟩
    ·show(H.app t).loops=_;rw[w9];exact i1
    ·exact eu (by rw[ec];exact oX)
    ·rw[cX bG,ec];exact i8 a cs ha bG
   have WK:K.tn=H.tn:=(by rw[<-hK];rfl);rw[WK] at ca;clear i1 i2 i3 i4 i5 i6 i7 i8 mV jJ kb1 kc1 gr nR y0 y1 y2 y3 y4 j6 j7 j8 j9 x6 XL CH gY PM hp hz QB qN WK;generalize pV l k=wk at *
   generalize ai z k=zk at *
   rw[hK];rw[w3,w4];unfold im at *
   refine bA @r1 @d1 @Kj @kL.{0} ?_;refine⟨aU,aU,aU,?_,?_⟩
   ·show(K.app t).loops=_;rw[w9]
   ·rw[<-hK];refine(congrArg (zP h H6 (h.boxes.length+6) (H6.loop rec).loops bad (k+1)) ?_).mpr fy.out;cases t<;>rfl
 ·obtain⟨Hf,c1,t,s,i1,i2,i3,i4,i5,i6,i7,i8⟩:=feed;refine⟨_,_,c1,rec,by rw[i1];exact gY,by rw[w5];decide,.inl ⟨w6,?_⟩⟩;have v6:(Hf.eW H6.loops.length {rec with state:=.exhausted}).boxes[h.boxes.length+6]?=aa [.list t s (ints (bad l.length))]:=i2;have v3:(Hf.eW H6.loops.length {rec with state:=.exhausted}).boxes[h.boxes.length+3]?=aa [nl]:=i8 _ _ y3 ag;have v4:(Hf.eW H6.loops.length {rec with state:=.exhausted}).boxes[h.boxes.length+4]?=aa [im 0]:=i8 _ _ y4 ag;have Ev:h.loops.length<=H6.loops.length:=x6.Fi;have XF:Ext h (Hf.eW H6.loops.length {rec with state:=.exhausted}):=((Fr.Db (bn:=h.boxes.length) (l0:=h.loops.length) (n0:=h.tn) i6 (aJ _)).trans (.eW Ev _)).ext (aJ _) (aJ _) (aJ _);generalize Hf.eW H6.loops.length {rec with state:=.exhausted}=HF at *
  have g3:=(aS.1 v3).1;have lA:aH ao Gt HF 23 (.ptr (.box (h.boxes.length+6)) 0)=aa (.list t s (ints (bad l.length))):=ct kU v6 rfl;have sA:b7 ao HF 23 (.ptr (.box (h.boxes.length+3)) 0) (.list t s (ints (bad l.length)))=aa (HF.put (h.boxes.length+3) [.list t s (ints (bad l.length))]):=
   fA (off:=0) (cs:=[nl]) (xs:=[.list t s (ints (bad l.length))]) rfl il v3 rfl (aJ 1)
  obtain⟨HG,Hi⟩:∃HG,HF.put (h.boxes.length+3) [.list t s (ints (bad l.length))]=HG:=⟨_,rfl⟩;have v3':HG.boxes[h.boxes.length+3]?=aa [.list t s (ints (bad l.length))]:=by rw[<-Hi];exact eu g3
  have v4':HG.boxes[h.boxes.length+4]?=aa [im 0]:=by rw[<-Hi,cX ag];exact v4
  have XG:Ext h HG:=by rw[<-Hi];exact XF.fK ag _
  rw[Hi] at sA;have sB:b7 ao HG 32 (.ptr (.box (h.boxes.length+4)) 0) (im 0)=aa HG:=by rw[fA (off:=0) (cs:=[im 0]) (xs:=[im 0]) rfl Jj v4' rfl (aJ 1)];exact congrArg aa (nb v4')
  have lR:aH ao Gt HG 23 (.ptr (.box (h.boxes.length+3)) 0)=aa (.list t s (ints (bad l.length))):=ct kU v3' rfl;have lE:aH ao Gt HG 32 (.ptr (.box (h.boxes.length+4)) 0)=aa (im 0):=ct yI v4' rfl;have fy:=al.mk (aw XG i3);clear i1 i2 i3 i4 i5 i6 i7 i8 c1 y0 y1 y2 y3 y4 j6 j7 j8 j9 x6 XL CH gY PM hp hz QB w1 w2 w3 w4 w5 w6 v3 v4 v6 v3' v4' XG XF Hi g3;unfold im at *
  refine bK @I5 @Kj ?_;exact⟨_,_,rfl,fy.out.1,_,by rw[kr.out],by rw[kr.out];exact⟨t,s,rfl,λq=>fy.out.2.resolve_right λz=>q z.1⟩⟩
def Sf:Tryz.f31.results.toList=[.tmp 0]:=av
def nF:List UInt8:=[112,97,121]
def ab3:wM R4 O4 1000 [77] [1,3] [5,6,7,8] nF=ah:=by decide+kernel
def blP:gf ao 28 3 [(0,.v (.int .u8 112)),(1,.v (.int .u8 97)),(2,.v (.int .u8 121))]=aa (.list .tight 1 (a8 nF)):=av
def UQ(a):gf ao 23 1 [(0,.v (.int .i64 a))]=aa (.list .tight 1 (ints [a])):=av
def afL(a b c d):gf ao 23 4 [(0,.v (.int .i64 a)),(1,.v (.int .i64 b)),(2,.v (.int .i64 c)),(3,.v (.int .i64 d))]=aa (.list .tight 1 (ints [a,b,c,d])):=av
def CX(l):IL (.list .tight 1 (ints l)) l:=⟨_,_,rfl,λ_=>rfl⟩
def rl4:RL X4 R4:=by
 refine⟨.tight,1,[.list .tight 1 (ints [1,1]),.list .tight 1 (ints [1,2]),.list .tight 1 (ints [1,3])],rfl,λ_=>rfl,rfl,λi a r ha hr=>?_⟩
 match i with
 |0=>injection ha with ha;injection hr with hr;subst ha;subst hr;exact⟨_,_,rfl,λ_=>rfl⟩
 |1=>injection ha with ha;injection hr with hr;subst ha;subst hr;exact⟨_,_,rfl,λ_=>rfl⟩
 |2=>injection ha with ha;injection hr with hr;subst ha;subst hr;exact⟨_,_,rfl,λ_=>rfl⟩
 |i+3=>simp at ha
def afj{ae}{owners ar N s y}{l}{text}{ep}(c:px ae owners ar N s y l text ep):cC ae owners ep (cI s) text []=420:=by obtain⟨hp,-⟩:=yE c.acc;unfold cC;rw[aI (by rw[hp];simp),aI (by have:=c.ep;simp[(Aq (ae:=ae) c.sl).1,(Aq (ae:=ae) c.sl).2,this.1,this.2]),aI (by have:=c.tl;omega),aI bE,aI (by simp[NT.gd])];split;simp
def Ap{K}{b}{ep}{X Y C T L Z}(hb:K.boxes[b]?=aa (gq ep X Y C T L Z)):
 aH ao Gt K 27 (.ptr (.box b) 0)=aa (.agg (aN ep X Y C))/\aH ao Gt K 28 (.ptr (.box b) 4)=aa T/\aH ao Gt K 29 (.ptr (.box b) 5)=aa L/\aH ao Gt K 23 (.ptr (.box b) 6)=aa Z/\aH ao Gt K 23 (.ptr (.box b) 3)=aa C:=
 ⟨Y6 hb,ct JR hb rfl,ct yH hb rfl,ct kU hb rfl,ct kU hb rfl⟩
def SP{H:aq}(x y):b7 ao (H.push [im 0,im 0]) 50 (.ptr (.box H.boxes.length) 0) (.agg [im x,im y])=aa (H.push [im x,im y]):=jx rfl Dr rfl rfl
def asO(h:aq)(bq:cG h=ah):∃r h',W7.call 31 [] h=aa (r,h')/\Ext h h'/\r=.ret (.v (.bool ah)):=by
 obtain⟨y,cr,-⟩:=ab4 ab3;have b1:=afZ;obtain⟨x1,x2⟩:=rl4.o7 av ⟨[],[],0,[]⟩;obtain⟨y1,y2⟩:=(show IL Y4 O4 from CX _).o7 ⟨[],[],0,[]⟩;generalize gH ⟨[],[],0,[]⟩ X4=X at *
 generalize gH ⟨[],[],0,[]⟩ Y4=Y at *
 obtain⟨H5,H6,f1,f2,x6,f3⟩:=agi h bq (a8 nF);have ok6:=x6.ok bq;obtain⟨X2,Y2,C2,T2,L2,Z2,g1,g2,g3,g4,g5,g6,c1⟩:∃X2 Y2 C2 T2 L2 Z2,RL X2 R4/\IL Y2 O4/\IL C2 (cI [1000,77])/\BL T2 nF/\PL L2 (jN [1,3] [5,6,7,8])/\IL Z2 (oF R4 O4 [1000,77] [1,3] [5,6,7,8] (jN [1,3] [5,6,7,8]) nF)/\
  ∀h,W7.call 38 [.agg [X,Y],im 1000,.list .tight 1 (ints [77]),.list .tight 1 (ints [1,3]),.list .tight 1 (ints [5,6,7,8]),.list .held 1 (a8 nF)] h=aa (.ret (.tuple [.agg (gq 0 X2 Y2 C2 T2 L2 Z2),.v (.bool ah),.v (.bool ah)]),h):=by
  rcases agA X Y _ _ _ (.list .held 1 (a8 nF)) R4 O4 1000 [77] [1,3] [5,6,7,8] nF x1 y1 (CX _) (CX _) (CX _) ⟨_,_,rfl,λ_=>rfl⟩ aV aV aV with⟨q,-⟩|⟨-,q⟩
  ·rw[ab3] at q;cases q
  ·exact q
 have cells:=Vm (ep:=0) g1 g2 g3 g4 g5 g6;generalize hl:jN [1,3] [5,6,7,8]=l at *
 have dG:l.length=2:=by rw[<-hl];rfl
 obtain⟨p0,p1,hz⟩:∃p0 p1,oF R4 O4 [1000,77] [1,3] [5,6,7,8] l nF=[p0,p1]:=⟨_,_,rfl⟩;have o5:wu R4 O4 [1000,77] [1,3] [5,6,7,8] l nF 1=p1:=by have:=Rp (ae:=R4) (owners:=O4) (s:=[1000,77]) (N:=[5,6,7,8]) (l:=l) (text:=nF) (ar:=[1,3]) (i:=1) aV;rw[hz] at this;exact this.symm
 have pU:okF p1:=by rw[<-o5];exact ZV 1
 have de:(cI [1000,77]).length<=1000000:=by decide
 obtain⟨H1,fY⟩:∃H1,H6.push (gq 0 X2 Y2 C2 T2 L2 Z2)=H1:=⟨_,rfl⟩;have s1:b7 ao (H6.push (gq 0 nl nl nl nl nl nl)) 66 (.ptr (.box H6.boxes.length) 0) (.agg (gq 0 X2 Y2 C2 T2 L2 Z2))=aa H1:=by rw[<-fY];exact jx cells SV rfl rfl
 have t1:H1.boxes[H6.boxes.length]?=aa (gq 0 X2 Y2 C2 T2 L2 Z2):=by rw[<-fY];exact aZ _ _
 have e1:Ext h H1:=by rw[<-fY];exact x6.trans (.push _ _)
 generalize hb:H6.boxes.length=b at *
 have l1:=Ap t1;obtain⟨_,H2,k2,e2,rfl⟩:=Kb H1 0 X2 Y2 C2 T2 L2 Z2 R4 O4 (cI [1000,77]) nF l _ g1 g2 g3 g4 g5 de ag aV (.inl g6) (by rw[hz];simp);rw[cr.comb] at k2;have hv:=cr.Mt;rw[hz] at k2 hv g6;generalize ud:((dF (ai (cI [1000,77]) 0) nF l:Nat):Int)=ch at *
 generalize K3:([p0,p1]:List Int).foldl cd 0=sm at *
 obtain⟨H3,mC⟩:∃H3,H2.push [im ch,im sm]=H3:=⟨_,rfl⟩;have s2:=SP (H:=H2) ch sm;rw[mC] at s2;have t2:=e2.box _ _ t1;have l2:=Ap t2;have e3:Ext H2 H3:=by rw[<-mC];exact .push _ _
 have t3:=e3.box _ _ t2;have l3:=Ap t3;have u3:H3.boxes[H2.boxes.length]?=aa [im ch,im sm]:=by rw[<-mC];exact aZ _ _
 have E3:=(e1.trans e2).trans e3;obtain⟨_,H4,k4,e4,B4,rfl,OX⟩:=Ob H3 (E3.ok bq) 0 X2 Y2 C2 T2 L2 Z2 R4 O4 (cI [1000,77]) nF l _ g1 g2 g3 g4 g5 de ag (.inl g6) bE;rw[<-hz,cr.afT] at k4 OX;have t4:=e4.box _ _ t3;have l4:=Ap t4;have E4:=E3.trans e4;obtain⟨_,H5b,k5,e5,B5,rfl,OY⟩:=Ob H4 (E4.ok bq) 0 X2 Y2 C2 T2 L2 (.list .tight 1 (ints [p0,(p1+1)%1073741789])) R4 O4 (cI [1000,77]) nF l _ g1 g2 g3 g4 g5 de ag (.inl (CX _)) bE;have EM:=(cr.afU (i:=1) (v:=(p1+1)%1073741789) aV ⟨Int.emod_nonneg _ aV,Int.emod_lt_of_pos _ aV⟩ (by rw[o5];obtain⟨q1,q2⟩:=pU;have:Qi=1073741789:=rfl;omega)).1;rw[hz] at EM;change uN R4 O4 0 (cI [1000,77]) nF l [p0,(p1+1)%1073741789]=([3],0) at EM;rw[EM] at k5 OY;have t5:=e5.box _ _ t4;have l5:=Ap t5;have E5:=E4.trans e5;have hn:jj R4 O4 0 (cI [1000,77]) nF [] []=((0,0),az,420):=by unfold jj;rw[afj cr,aG aV]
 obtain⟨_,H7,k7,e7,rfl⟩:=Kb H5b 0 X2 Y2 C2 T2 nl nl R4 O4 (cI [1000,77]) nF [] [] g1 g2 g3 g4 ⟨_,_,rfl,λq=>absurd rfl q⟩ de aV aV (.inl ⟨_,_,rfl,λq=>absurd rfl q⟩) aV;rw[hn] at k7;obtain⟨H8,WG⟩:∃H8,H7.push [im 0,im 0]=H8:=⟨_,rfl⟩;have s8:=SP (H:=H7) 0 0;rw[WG] at s8;have e8:Ext H7 H8:=by rw[<-WG];exact .push _ _
 have t8:=e8.box _ _ (e7.box _ _ t5);have l8:=Ap t8;have E8:=(E5.trans e7).trans e8;have CT:jL l []=az:=by unfold jL;rw[dG];rfl
 obtain⟨_,H9,k9,e9,rfl⟩:=Kb H8 0 X2 Y2 C2 T2 L2 nl R4 O4 (cI [1000,77]) nF l [] g1 g2 g3 g4 g5 de ag aV (.inl ⟨_,_,rfl,λq=>absurd rfl q⟩) aV;rw[cr.ahq CT] at k9;obtain⟨Ha,WI⟩:∃Ha,H9.push [im 0,im 0]=Ha:=⟨_,rfl⟩;have sa:=SP (H:=H9) 0 0;rw[WI] at sa;have ea:Ext H9 Ha:=by rw[<-WI];exact .push _ _
 have ta:=ea.box _ _ (e9.box _ _ t8);have la:=Ap ta;have Ea:=(E8.trans e9).trans ea;have YJ:jL l [0,1073741789]=az:=by unfold jL;rw[dG];rfl
 obtain⟨_,Hb,kb,eb,Bb,rfl,WC⟩:=Ob Ha (Ea.ok bq) 0 X2 Y2 C2 T2 L2 (.list .tight 1 (ints [0,1073741789])) R4 O4 (cI [1000,77]) nF l _ g1 g2 g3 g4 g5 de ag (.inl (CX _)) bE;rw[cr.afS YJ] at kb WC;have tb:=eb.box _ _ ta;have lb:=Ap tb;have ub:=(((((e4.trans e5).trans e7).trans e8).trans e9).trans ea).trans eb;have lS:=vg (ub.box _ _ u3);have vf:=ab8 (ai (cI [1000,77]) 0) ch sm T2 nF g4 aV;rw[hv] at vf;have sm7:=asK B5 (.list .tight 1 (ints [3])) [3] [3] OY (CX _) aV aV;rw[bQ rfl] at sm7;have ixC:dH ao 23 C2 (.v (.int .i64 0))=aa (.elem 1 (ints (cI [1000,77])) 0 0):=g3.ix (i:=0) aV;have ldC:∀K:aq,aH ao Gt K 3 (.elem 1 (ints (cI [1000,77])) 0 0)=aa (.v (.int .i64 (ai (cI [1000,77]) 0))):=λK=>eE aV;have ixA:dH ao 23 Z2 (.v (.int .i64 0))=aa (.elem 1 (ints [p0,p1]) 0 0):=g6.ix (i:=0) bE;have ixB:dH ao 23 Z2 (.v (.int .i64 1))=aa (.elem 1 (ints [p0,p1]) 1 0):=g6.ix (i:=1) bE;have ldA:∀K:aq,aH ao Gt K 3 (.elem 1 (ints [p0,p1]) 0 0)=aa (.v (.int .i64 p0)):=λK=>eE bE;have ldB:∀K:aq,aH ao Gt K 3 (.elem 1 (ints [p0,p1]) 1 0)=aa (.v (.int .i64 p1)):=λK=>eE bE;have lnZ:dM ao 23 Z2=aa (.v (.int .i64 2)):=g6.dM;have lnB:dM ao 23 B4=aa (.v (.int .i64 0)):=OX.dM;have wr:IntKind.i64.wrap (p1+1)=p1+1:=by obtain⟨q1,q2⟩:=pU;have:Qi=1073741789:=rfl;exact fN ag ag
 have tm:(p1+1).tmod 1073741789=(p1+1)%1073741789:=Int.tmod_eq_emod_of_nonneg (by obtain⟨q1,q2⟩:=pU;omega);have bw:=GQ p0 ((p1+1)%1073741789);have JZ:=GQ 0 1073741789;have kx:=al.mk (Ea.trans eb);have zc:=ach;have zg:=MS;have g0:=blP;clear cr x1 x2 y1 y2 g1 g2 g3 g4 g5 g6 cells hl hz o5 pU de fY t1 e1 hv ud K3 mC t2 e3 t3 u3 E3 e2 e4 t4 E4 e5 t5 E5 EM OX OY hn e7 e8 t8 E8 CT e9 ea ta Ea YJ eb tb ub WC x6 ok6 f3 dG bq;generalize ai (cI [1000,77]) 0=key at *
 generalize ints (cI [1000,77])=ic at *
 generalize (p1+1)%1073741789=w1 at *
 generalize a8 nF=tt at *
 unfold im at *
 refine db rfl Tryz.func31 rfl ?_;refine bA @Sf @UQ @afL (aw @GQ (aw @B2 @hb)) ?_;refine ev BS av ?_;refine cQ @Sf @GQ @B2 ?_;refine ev BS av ?_;refine bA @Sf @UQ @B2 @gV ?_;exact⟨_,_,rfl,kx.out,rfl⟩
def aiC(d)(a):fg ao (Op.equalIn (d+1) 3 (.int .i64 a) (.int .i64 a))=aa ah:=by unfold Op.equalIn;rw[r9,LD yD,oq];simp[fg];rfl
def aoL{α}{P}(a):fg P (pure a:Sem α)=aa a:=rfl
def aiB(d)(a b):fg ao (Op.equalIn (d+2) 50 (.agg #[.int .i64 a,.int .i64 b]) (.agg #[.int .i64 a,.int .i64 b]))=aa ah:=by
 have h1:fg ao (part 3 #[.int .i64 a,.int .i64 b] 0)=aa (.int .i64 a):=by kernel_rfl
 have h2:fg ao (part 3 #[.int .i64 a,.int .i64 b] 1)=aa (.int .i64 b):=by kernel_rfl
 have hs:ao.stoodInHeld 50=az:=by kernel_rfl
 have hp:fg ao program=aa ao:=rfl;unfold Op.equalIn;rw[r9,LD Tryz.underlying50,oq];simp[r9,aoL,hp,hs,h1,h2,aiC]
def aiA{x y}(a b):cY ao .eql 50 x y (.agg [im a,im b]) (.agg [im a,im b])=aa (.v (.bool ah)):=by
 have hg:fg ao (eqGuard .eql 50 x y (.agg #[.int .i64 a,.int .i64 b]) (.agg #[.int .i64 a,.int .i64 b]))=aa ():=by kernel_rfl
 show(fg ao (do eqGuard .eql 50 x y (.agg #[.int .i64 a,.int .i64 b]) (.agg #[.int .i64 a,.int .i64 b]);binOp .eql 50 (.agg #[.int .i64 a,.int .i64 b]) (.agg #[.int .i64 a,.int .i64 b]))).bind ob=_;rw[r9,hg,oq];show(fg ao (do pure (.bool (<-Op.equal 50 (.agg #[.int .i64 a,.int .i64 b]) (.agg #[.int .i64 a,.int .i64 b]))))).bind ob=_;rw[r9];have:=aiB 9998 a b;unfold Op.equal Op.maxDepth;rw[this];rfl
section
variable (R:Rec)
def F9:Prop:=∀key e s T text,BL T text->text.length<=1000000->∀h,R.call 39 [im key,T,.agg [im e,im s]] h=aa (.ret (.v (.bool (nI key text e s))),h)
def DJ:Prop:=∀h,R.call 31 [] h=aa (.ret (.v (.bool ah)),h)
def F3:Prop:=∀ep X Y C T L Z ae owners aj text l z,py X Y C T L ae owners aj text l->IL Z z->aj.length<=1000000->l.length<=1000000->text.length<=1000000->z.length<=1000000->
 ∀h,R.call 33 [.agg (aN ep X Y C),T,L,Z] h=aa (.ret (.tuple [.agg [im (jj ae owners ep aj text l z).1.1,im (jj ae owners ep aj text l z).1.2],.v (.bool (jj ae owners ep aj text l z).2.1),im (jj ae owners ep aj text l z).2.2]),h)
end
section
variable {R:Rec} {L:List FuncId}
def F9.up(hg:L.contains 39=ah)(c:F9 R):F9 (up R L):=λkey e s T text ht hl=>by obtain⟨h1,h2⟩:=ht.fZ;exact bm (b9:=[im key,aC T,.agg [im e,im s]]) hg rfl (by simp[im,aP,aK,h2]) (c key e s _ text h1 hl _) rfl rfl
def DJ.up(hg:L.contains 31=ah)(c:DJ R):DJ (up R L):=bm hg rfl rfl (c _) rfl rfl
def F3.up(hg:L.contains 33=ah)(c:F3 R):F3 (up R L):=λep X Y C T L' Z ae owners aj text l z g hz q1 q2 q3 q4=>by obtain⟨g2,f1,f2,f3,f4,f5⟩:=g.hold;obtain⟨h1,h2⟩:=hz.hold;exact bm (b9:=[.agg (aN ep (aC X) (aC Y) (aC C)),aC T,aC L',aC Z]) hg rfl (by simp[aN,aP,aK,f1,f2,f3,f4,f5,h2]) (c ep _ _ _ _ _ _ ae owners aj text l z g2 h1 q1 q2 q3 q4 _) rfl rfl
end
def ahZ:F9 W7:=λkey e s T text ht hl h=>asG key e s T text ht hl h
def ahY:F9 rE:=((ahZ.up (L:=L8) rfl).up (L:=L9) rfl).up (L:=Bt) rfl
def ahR:DJ W8:=by obtain⟨r,h',c,-,rfl⟩:=asO ⟨[],[],0,[]⟩ rfl;exact bm (L:=L8) rfl rfl rfl c rfl rfl
def ahQ:DJ rE:=(ahR.up (L:=L9) rfl).up (L:=Bt) rfl
def agP:F3 W8:=λep X Y C T L' Z ae owners aj text l z g hz q1 q2 q3 q4=>by obtain⟨g2,f1,f2,f3,f4,f5⟩:=g.hold;obtain⟨h1,h2⟩:=hz.hold;obtain⟨r,h',c,-,rfl⟩:=Kb ⟨[],[],0,[]⟩ ep _ _ _ _ _ _ ae owners aj text l z g2.x g2.y g2.c g2.t g2.p q1 q2 q3 (.inl h1) q4;exact bm (L:=L8) (b9:=[.agg (aN ep (aC X) (aC Y) (aC C)),aC T,aC L',aC Z]) rfl rfl (by simp[aN,aP,aK,f1,f2,f3,f4,f5,h2]) c rfl rfl
def agO:F3 rE:=(agP.up (L:=L9) rfl).up (L:=Bt) rfl
def agj:mz ao 50 []=aa (.agg [im 0,im 0]):=by kernel_rfl
def afc(a):mz ao 50 [(0,.v (.int .i64 a))]=aa (.agg [im a,im 0]):=by kernel_rfl
def atG{H:aq}{a b c}:b7 ao (H.push [im a,im b]) 3 (.ptr (.box H.boxes.length) 1) (.v (.int .i64 c))=aa (H.push [im a,im c]):=by rw[fA (off:=1) (cs:=[im a,im b]) (xs:=[.v (.int .i64 c)]) rfl fP (aZ _ _) rfl (aJ 2)];congr 1;exact pc _ _ _
def apa(h:aq)(bq:cG h=ah)(ep:Int)(X Y C T L Z:AV)(ae:List (List Int))(owners aj:List Int)(text:List UInt8)(l:List Pr)(z:List Int)(g:py X Y C T L ae owners aj text l)(hz:IL Z z)(cP:ae.length<=1000000)(de:aj.length<=1000000)(dG:l.length<=1000000)(uo:text.length<=1000000)(mH:z.length<=1000000):
 ∃r h',rE.call 34 [.agg (aN ep X Y C),T,L,Z] h=aa (r,h')/\Ext h h'/\r=.ret (.tuple [.agg [im (jj ae owners ep aj text l z).1.1,im (jj ae owners ep aj text l z).1.2],.v (.bool (jj ae owners ep aj text l z).2.1),im (jj ae owners ep aj text l z).2.2]):=by
 have bx:=g.cells ep;have zc:=MS;have bz:=agj;obtain⟨H0,eZ⟩:∃H0,(h.push (aN ep X Y C)).push [im 0,im 0]=H0:=⟨_,rfl⟩;have iE:(h.push (aN ep X Y C)).boxes.length=h.boxes.length+1:=cH _ _;have k0:H0.boxes[h.boxes.length]?=aa (aN ep X Y C):=by rw[<-eZ];exact aY (aZ _ _)
 have g0:H0.boxes[h.boxes.length+1]?=aa [im 0,im 0]:=by have:=aZ (h.push (aN ep X Y C)) [im 0,im 0];rw[iE,eZ] at this;exact this
 have tj:cG H0=ah:=by rw[<-eZ];exact bq
 obtain⟨_,H1,c1,fY,rfl⟩:=aiE H0 ep X Y C T L Z ae owners aj text l z g hz cP de dG mH;have x1:Ext H0 H1:=by rw[fY];exact .push _ _
 have nU:cG H1=ah:=by rw[fY];exact tj
 have x0:Ext h H0:=by rw[<-eZ];exact(Ext.push _ _).trans (.push _ _)
 have kx1:=al.mk (x0.trans x1);have k1:=x1.box _ _ k0;have g1:=x1.box _ _ g0;have l0:=ve k0 rfl;have l1:=ve k1 rfl;have lG:=vg g1;have sG:=FQ (u:=0) (v:=0) g1;rw[nb g1] at sG;have kv:al (jj ae owners ep aj text l z=if cC ae owners ep aj text l≠0 then ((0,0),az,cC ae owners ep aj text l) else if jL l z=az then ((0,0),az,1)
  else if nI (ai aj 0) text ((dF (ai aj 0) text l:Nat):Int) (z.foldl cd 0) then ((((dF (ai aj 0) text l:Nat):Int),z.foldl cd 0),ah,0) else ((0,0),az,0)):=⟨rfl⟩
 refine db rfl Tryz.func34 rfl ?_;by_cases hb:cC ae owners ep aj text l=0;rotate_left 1
 ·have e1:yP ae owners ep aj text l z=cC ae owners ep aj text l:=by unfold yP;rw[aG hb]
  rw[e1] at c1;have kr:al (jj ae owners ep aj text l z=((0,0),az,cC ae owners ep aj text l)):=⟨by rw[kv.out,aG hb]⟩;have bB:decide (cC ae owners ep aj text l=0)=az:=cE hb;generalize cC ae owners ep aj text l=be at *
  clear g hz kv e1 fY x0 x1 k0 g0 k1 g1 l1 hb;unfold im at *
  repeat' (first|simp(maxSteps:=999999)(disch:=first|exact dZ|fail)only[gW,reduceIte,aO,aM,zG,bg,iE,eZ, *]|refine dX ?_ ?_<;>(intro _;try omega))
  exact⟨_,_,rfl,kx1.out,by rw[kr.out]⟩
 cases hk:jL l z with
 |false=>
  have e1:yP ae owners ep aj text l z=1:=by unfold yP;rw[aI (by rw[hb];simp),aI (by rw[hk];simp)]
  rw[e1] at c1;have kr:al (jj ae owners ep aj text l z=((0,0),az,1)):=⟨by rw[kv.out,aI (by rw[hb];simp),aG hk]⟩;clear g hz kv e1 fY x0 x1 k0 g0 k1 g1 l1 hb hk;unfold im at *
  repeat' (first|simp(maxSteps:=999999)(disch:=first|exact dZ|fail)only[gW,reduceIte,aO,aM,zG,bg,iE,eZ, *]|refine dX ?_ ?_<;>(intro _;try omega))
  exact⟨_,_,rfl,kx1.out,by rw[kr.out]⟩
 |true=>
 have e1:yP ae owners ep aj text l z=0:=by unfold yP;rw[aI (by rw[hb];simp),aG hk]
 rw[e1] at c1;have kr:al (jj ae owners ep aj text l z=if nI (ai aj 0) text ((dF (ai aj 0) text l:Nat):Int) (z.foldl cd 0) then ((((dF (ai aj 0) text l:Nat):Int),z.foldl cd 0),ah,0) else ((0,0),az,0)):=⟨by rw[kv.out,aI (by rw[hb];simp),aI (by rw[hk];simp)]⟩;have f:=V5 hb;obtain⟨_,H2,c18,x2,⟨q,-⟩|⟨-,tb,rfl⟩⟩:=ao5 H1 nU ep X Y C T L ae owners aj text l g cP de dG
 ·exact absurd hb q
 have jb:=f.pos;obtain⟨kz0,sz,rfl,dL⟩:=hz;have ixC:dH ao 23 C (.v (.int .i64 0))=aa (.elem 1 (ints aj) 0 0):=g.c.ix (i:=0) jb;have ldC:∀K:aq,aH ao Gt K 3 (.elem 1 (ints aj) 0 0)=aa (.v (.int .i64 (ai aj 0))):=λK=>eE jb;have cv:=ahY (ai aj 0) ((dF (ai aj 0) text l:Nat):Int) (z.foldl cd 0) T text g.t uo;have kz:=al.mk dL;have u23:=dQ;have z3:=fP;have cS:=dD z;generalize A3:nI (ai aj 0) text ((dF (ai aj 0) text l:Nat):Int) (z.foldl cd 0)=vv at *
 generalize ints (rF (ai aj 0) text l)=bf at *
 generalize ((dF (ai aj 0) text l:Nat):Int)=ch at *
 generalize ((gM (ai aj 0) text l:Nat):Int)=pt at *
 generalize ai aj 0=key at *
 have bd:=afc ch;have s2:b7 ao (H2.push [im 0,im 0]) 50 (.ptr (.box H2.boxes.length) 0) (.agg [im ch,im 0])=aa (H2.push [im ch,im 0]):=jx rfl Dr rfl rfl;have kk:=al.mk (aw (x2.box _ _ k1) (x2.box _ _ g1));have kx2:=al.mk (kx1.out.trans x2);clear g kv e1 fY x0 x1 x2 k0 g0 k1 g1 hb hk f jb dL lG sG A3 bq tj nU;unfold im at *
 repeat' (first|simp(maxSteps:=999999)(disch:=first|exact dZ|fail)only[gW,reduceIte,aO,aM,zG,bg,iE,eZ, *]|refine dX ?_ ?_<;>(intro _;try omega))
 refine bH.gen λe0 aF bB cU cN=>?_;have f1:e0.get 1=T:=by rw[aF];exact gS
 have f3:e0.get 3=.list kz0 sz (ints z):=by rw[aF];exact gS
 have f4:e0.get 4=.ptr (.box h.boxes.length) 0:=by rw[aF];exact gS
 have f8:e0.get 8=.ptr (.box (h.boxes.length+1)) 0:=by rw[aF];simp only[gW,reduceIte,aO,aM,cH]
 have f16:e0.get 16=.ptr (.box H2.boxes.length) 0:=by rw[aF];exact gS
 have f17:e0.get 17=.v (.int .i64 (0:Nat)):=by rw[aF];exact gR
 have fd:e0.defers=[]:=by rw[bB];exact gS
 clear aF bB cU cN bx c1 c18 l0 l1 s2 bd zc;refine cz (λm e H=>∃i:Nat,i<=z.length/\m=z.length - i/\e.get 1=T/\e.get 3=.list kz0 sz (ints z)/\e.get 4=.ptr (.box h.boxes.length) 0/\e.get 8=.ptr (.box (h.boxes.length+1)) 0/\e.get 16=.ptr (.box H2.boxes.length) 0/\e.get 17=.v (.int .i64 (i:Nat))/\e.defers=[]/\H=H2.push [im ch,im ((z.take i).foldl cd 0)]) ?_ z.length _ _ ?_;rotate_left 1
 ·exact⟨0,cA _,rfl,f1,f3,f4,f8,f16,f17,fd,rfl⟩
 clear f1 f3 f4 f8 f16 f17 fd;rintro m e H ⟨i,hi,rfl,g1,g3,g4,g8,g16,g17,hd,rfl⟩;have b2:=aZ H2 [im ch,im ((z.take i).foldl cd 0)];by_cases aA:i<z.length
 ·have bD:sz=1:=kz.out (by intro q;rw[q] at aA;simp at aA);subst bD;have hv:z[i]?=aa (ai z i):=by rw[aR aA,fm aA]
  have ld:=eE (H:=H2.push [im ch,im ((z.take i).foldl cd 0)]) (s:=1) aA;have lS:aH ao Gt (H2.push [im ch,im ((z.take i).foldl cd 0)]) 3 (.ptr (.box H2.boxes.length) 1)=aa (im ((z.take i).foldl cd 0)):=ct eD b2 rfl;have ca:=agk ((z.take i).foldl cd 0) (ai z i);have bT:cd ((z.take i).foldl cd 0) (ai z i)=(z.take (i+1)).foldl cd 0:=by rw[ft hv,List.foldl_append];rfl
  rw[bT] at ca;have st:=atG (H:=H2) (a:=ch) (b:=(z.take i).foldl cd 0) (c:=(z.take (i+1)).foldl cd 0);have fx:(i:Int)<(z.length:Int):=by omega
  clear hv bT b2 kz cv kk kr;unfold im at *
  repeat' (first|simp(maxSteps:=999999)(disch:=first|exact dZ|fail)only[gW,reduceIte,aO,aM,zG,bh,pM, *]|refine dX ?_ ?_<;>(intro _;try omega))
  repeat' (first|simp(maxSteps:=999999)(disch:=first|exact dZ|fail)only[gW,reduceIte,aO,aM,zG,bh,pM, *]|(refine dX ?_ ?_<;>(intro _;try omega))|refine ev GU jd ?_)
  exact⟨z.length - (i+1),by omega,i+1,by omega,rfl,by simp⟩
 have fF:i=z.length:=by omega
 subst fF;rw[fC] at b2;rw[fC];generalize z.foldl cd 0=sm at *
 obtain⟨H3,mC⟩:∃H3,H2.push [im ch,im sm]=H3:=⟨_,rfl⟩;rw[mC] at b2;rw[mC];have k3:H3.boxes[h.boxes.length]?=aa (aN ep X Y C):=by rw[<-mC];exact aY kk.out.1
 have g3':H3.boxes[h.boxes.length+1]?=aa [im 0,im 0]:=by rw[<-mC];exact aY kk.out.2
 have l1:aH ao Gt H3 23 (.ptr (.box h.boxes.length) 3)=aa C:=ct kU k3 rfl;have l2:=vg b2;have lG2:=vg g3';have sG2:=FQ (u:=0) (v:=0) g3';rw[nb g3'] at sG2;have sR:=FQ (u:=ch) (v:=sm) g3';have lR:aH ao Gt (H3.put (h.boxes.length+1) [im ch,im sm]) 50 (.ptr (.box (h.boxes.length+1)) 0)=aa (.agg [im ch,im sm]):=vg (eu (aS.1 g3').1);have kx3:al (Ext h H3):=⟨by rw[<-mC];exact kx2.out.trans (.push _ _)⟩;clear b2 k3 g3' kk kz mC;cases vv with
 |true=>
  have kr2:al (jj ae owners ep aj text l z=((ch,sm),ah,0)):=⟨kr.out⟩;clear kr sG2 lG2;unfold im at *
  repeat' (first|simp(maxSteps:=999999)(disch:=first|exact dZ|fail)only[gW,reduceIte,aO,aM,zG,gV, *]|refine dX ?_ ?_<;>(intro _;try omega))
  repeat' (first|simp(maxSteps:=999999)(disch:=first|exact dZ|fail)only[gW,reduceIte,aO,aM,zG,gV, *]|(refine dX ?_ ?_<;>(intro _;try omega))|refine ev GU jd ?_)
  exact⟨_,_,rfl,kx3.out.fK ag _,by rw[kr2.out]⟩
 |false=>
  have kr2:al (jj ae owners ep aj text l z=((0,0),az,0)):=⟨kr.out⟩;clear kr sR lR;unfold im at *
  repeat' (first|simp(maxSteps:=999999)(disch:=first|exact dZ|fail)only[gW,reduceIte,aO,aM,zG,gV, *]|refine dX ?_ ?_<;>(intro _;try omega))
  repeat' (first|simp(maxSteps:=999999)(disch:=first|exact dZ|fail)only[gW,reduceIte,aO,aM,zG,gV, *]|(refine dX ?_ ?_<;>(intro _;try omega))|refine ev GU jd ?_)
  exact⟨_,_,rfl,kx3.out,by rw[kr2.out]⟩
def rs8:Tryz.f8.results.toList=[.tmp 8]:=by kernel_rfl
def alL(h:aq)(bq:cG h=ah)(ep:Int)(X Y C T L Z:AV)(ae:List (List Int))(owners aj:List Int)(text:List UInt8)(l:List Pr)(z:List Int)(g:py X Y C T L ae owners aj text l)(hz:IL Z z):
 ∃r h',rE.call 8 [.agg (aN ep X Y C),T,L,Z] h=aa (r,h')/\r=.ret (.v (.bool ah)):=by
 have bx:=g.cells ep;have zc:=MS;have cs:=ahQ;unfold DJ at cs;have b0:=aZ h (aN ep X Y C);have l0:=ve b0 rfl;obtain⟨_,H1,cf,e1,b,rfl,hb⟩:=aiM (h.push (aN ep X Y C)) ep X Y C T L Z ae owners aj text l z g hz;have k1:H1.boxes[h.boxes.length]?=aa (aN ep X Y C):=by rw[e1];exact aY b0
 have l1:=ve k1 rfl;have nU:cG H1=ah:=by rw[e1];exact bq
 refine db rfl Tryz.func8 rfl ?_;cases b with
 |false=>
  clear g hz hb k1 e1 l1 nU b0;obtain⟨H0,hH⟩:∃H0,h.push (aN ep X Y C)=H0:=⟨_,rfl⟩;rw[hH] at l0 cf;generalize aN ep X Y C=K at *
  repeat' (first|simp(maxSteps:=999999)(disch:=first|exact dZ|fail)only[gW,reduceIte,aO,aM,rs8,bg,hH, *]|refine dX ?_ ?_<;>(intro _;try omega))
  exact⟨_,_,rfl,rfl⟩
 |true=>
 obtain⟨b1,b2,b3,b4,b5,b6⟩:=hb rfl;have c33:=agO ep X Y C T L Z ae owners aj text l z g hz ag ag ag ag;obtain⟨s0,s1,hs⟩:∃s0 s1,(jj ae owners ep aj text l z).1=(s0,s1):=⟨_,_,rfl⟩;rw[hs] at c33;obtain⟨H2,iY⟩:∃H2,H1.push [im s0,im s1]=H2:=⟨_,rfl⟩;have st1:b7 ao (H1.push [im 0,im 0]) 50 (.ptr (.box H1.boxes.length) 0) (.agg [im s0,im s1])=aa H2:=by rw[<-iY];exact jx rfl Dr rfl rfl
 have k2:H2.boxes[h.boxes.length]?=aa (aN ep X Y C):=by rw[<-iY];exact aY k1
 have g2:H2.boxes[H1.boxes.length]?=aa [im s0,im s1]:=by rw[<-iY];exact aZ _ _
 have l2:=ve k2 rfl;have xJ:cG H2=ah:=by rw[<-iY];exact nU
 obtain⟨_,H3,c34,x3,rfl⟩:=apa H2 xJ ep X Y C T L Z ae owners aj text l z g hz ag ag ag ag ag;rw[hs] at c34;obtain⟨H4,rO⟩:∃H4,H3.push [im s0,im s1]=H4:=⟨_,rfl⟩;have st2:b7 ao (H3.push [im 0,im 0]) 50 (.ptr (.box H3.boxes.length) 0) (.agg [im s0,im s1])=aa H4:=by rw[<-rO];exact jx rfl Dr rfl rfl
 have l3:aH ao Gt H4 50 (.ptr (.box H1.boxes.length) 0)=aa (.agg [im s0,im s1]):=vg (by rw[<-rO];exact aY (x3.box _ _ g2));have l4:aH ao Gt H4 50 (.ptr (.box H3.boxes.length) 0)=aa (.agg [im s0,im s1]):=vg (by rw[<-rO];exact aZ _ _);clear g hz hb k1 e1 nU b0 hs k2 g2 x3 xJ bq b1 b2 b3 b4 b5 b6;generalize (jj ae owners ep aj text l z).2.1=ok at *
 generalize (jj ae owners ep aj text l z).2.2=er at *
 obtain⟨H0,hH⟩:∃H0,h.push (aN ep X Y C)=H0:=⟨_,rfl⟩;rw[hH] at l0 cf;generalize aN ep X Y C=K at *
 have e50:=λx y=>aiA (x:=x) (y:=y) s0 s1;have u4:=Tryz.underlying4;unfold im at *
 cases ok<;>(
  repeat' (first|simp(maxSteps:=999999)(disch:=first|exact dZ|fail)only[gW,reduceIte,aO,aM,rs8,bg,hH,afl, *]|refine dX ?_ ?_<;>(intro _;try omega))
  exact⟨_,_,rfl,by simp⟩)
end Go.Proofs.YtnfciiiohoafaaaGreatDoor
end
section
namespace Go.Proofs.YtnfciiiohoafaaaGreatDoor
open Go.AE Go.NT Go.RowKit
def asV:ownKnob ao.godebug=au:=av
def asT:(ao.funcs.all λfn=>match fn.body with|some c=>codeOk fn.ntmps c|none=>ah)=ah:=av
def asU : (ao.funcs.all λfn => !(fn.name == "runtime.NumGoroutine")) = ah := av
def wJ:Prog ao:=⟨λg fn h=>by
 have:=MV.1 asU fn (aco h);simpa using this,av,λg fn c h hb=>by
 have:=MV.1 asT fn (aco h);simpa [hb] using this⟩
def xo:∀g cs,Gt g=aa cs->aP 0 0 0 cs=ah:=by
 intro g cs h;unfold Gt at h;split at h
 ·injection h with h;subst h;kernel_rfl
 ·split at h
  ·injection h with h;subst h;kernel_rfl
  ·split at h
   ·injection h with h;subst h;rfl
   ·cases h
noncomputable def af1(L:List FuncId):Bool:=L.all λg=>match ao.funcs[g]? with|some fn=>fn.body.isSome|none=>az
def uO{L}(h:af1 L=ah):∀g∈L,∃fn,ao.funcs[g]?=aa fn/\fn.body.isSome=ah:=by
 intro g hg;have:=ey.1 h g hg;split at this
 ·rename_i fn hf;exact⟨fn,hf,this⟩
 ·cases this
def vI(p:FuncId->Option (List AV->aq->Option (AV × aq))):Prop:=∀V g q,p g=aa q->tO ao Gt V g q
def aoc:vI prims:=λV g q h=>by cases h
def aod:vI Ry:=yK wJ xo aoc (uO av)
def aof:vI RA:=yK wJ xo aod (uO av)
def aog:vI RC:=yK wJ xo aof (uO av)
def aoh:vI Fx:=yK wJ xo aog (uO av)
def aoi:vI Fy:=amK wJ xo aoh (uO av) (uO av)
def aoj:vI RD:=yK wJ xo aoi (uO av)
def Jf:List Int:=NT.start.map λv=>((v.toNat:Nat):Int)
def It:List Int:=NT.Fc.map λ(n:Nat)=>(n:Int)
def ab0{K}{l:List Int}:aQ K (l.map λn=>AV.v (.int .u32 n)) (l.map λn=>Value.int .u32 n):=by
 induction l with
 |nil=>exact .nil|cons n l ih=>exact .cons _ _ _ _ (.v _ rfl) ih
def ajH{W}(h:laidMetH ao Rows.partialSignsRow.laid W):∀g cs,Gt g=aa cs->∃cells,aQ (aW.init W) cs cells/\∀(j:Nat) (c:Value),cells[j]?=aa c->W.cell? ⟨g,j,au⟩=aa c:=by
 rw[MakeChecks.laidMetH_plain _ _ _ av] at h;have e1:(Lib.tabData .u32 Jf:DataW Unit)=Rows.laid_signatory_digest_start:=av;have e2:(Lib.tabData .u32 It:DataW Unit)=Rows.laid_signatory_digest_numbers:=av;intro g cs hg;unfold Gt at hg;split at hg
 ·rename_i h0;injection hg with hg;subst hg;subst h0;have t := Lib.tabIs_of_head (n := 8) (g := 0) (t := 229) (e := 42) (zs := Jf) (k := .u32) (name := "signatory/digest.start") av av av av av av (by rw [e1]; exact h);refine⟨Jf.map λn=>Value.int .u32 n,?_,λj c hc=>?_⟩
  ·have:SH=Jf.map λn=>AV.v (.int .u32 n):=(by unfold SH Jf aT;rw[Bx];rfl);rw[this];exact ab0
  ·rw[ej,dx] at hc;obtain⟨n,hn,rfl⟩:=hc;have hl:=(aS.1 hn).1;rw[t.cell av j hl,ez,hn];rfl
 ·split at hg
  ·rename_i _ h0;injection hg with hg;subst hg;subst h0;have t := Lib.tabIs_of_head (n := 64) (g := 1) (t := 242) (e := 42) (zs := It) (k := .u32) (name := "signatory/digest.numbers") av av av av av av (by rw [e2]; exact h.tail);refine⟨It.map λn=>Value.int .u32 n,?_,λj c hc=>?_⟩
   ·have:Is=It.map λn=>AV.v (.int .u32 n):=(by unfold Is It;rw[Bx];rfl);rw[this];exact ab0
   ·rw[ej,dx] at hc;obtain⟨n,hn,rfl⟩:=hc;have hl:=(aS.1 hn).1;rw[t.cell av j hl,ez,hn];rfl
  ·split at hg
   ·injection hg with hg;subst hg;exact⟨[],.nil,λj c hc=>by simp at hc⟩
   ·cases hg
section
variable {H:Type}
def J7:ao.cellsOf 3=1:=av
def cc5:ao.cellsOf 5=1:=av
def agK:ao.cellsOf 22=1:=av
def Ol:ao.cellsOf 23=1:=av
def agL:ao.cellsOf 25=2:=av
def auk:Dq ao 25 [(22,0),(23,1)]=ah:=av
def O9{cs:List AV}{d:DataW H}(h:Has ao 23 cs d):∃x l,cs=[x]/\IL x l:=by
 obtain⟨k,es,rfl,hl,-,-,he⟩:=h.Dn dQ;obtain⟨l,rfl⟩:∃l:List Int,es=l.map xN:=LQ λr hr=>by obtain⟨-,d,hd⟩:=he r hr;obtain⟨n,hn,-⟩:=hd.zo yD;exact⟨n,hn⟩
 exact⟨_,l,rfl,k,_,rfl,λ_=>J7⟩
def aj0{cs:List AV}{d:DataW H}(h:Has ao 22 cs d):∃x ae,cs=[x]/\RL x ae:=by
 obtain⟨k,es,rfl,hl,-,-,he⟩:=h.Dn Tryz.underlying22;have hh:∀r∈es,∃x l,r=[x]/\IL x l:=λr hr=>by obtain⟨-,d,hd⟩:=he r hr;exact O9 hd
 clear hl he;have key:∀es:List (List AV),(∀r∈es,∃x l,r=[x]/\IL x l)->∃(xs:List AV) (ae:List (List Int)),es=xs.map (λa=>[a])/\xs.length=ae.length/\∀(i:Nat) (a:AV) (r:List Int),xs[i]?=aa a->ae[i]?=aa r->IL a r:=by
  intro es
  induction es with
  |nil=>intro _;exact⟨[],[],rfl,rfl,λi a r ha=>by simp at ha⟩|cons e es ih=>
   intro hh;obtain⟨x,l,rfl,hx⟩:=hh e fW;obtain⟨xs,ae,rfl,h1,h2⟩:=ih λr hr=>hh r (fE _ hr);refine⟨x::xs,l::ae,rfl,by simp[h1],λi a r ha hr=>?_⟩;cases i with|zero=>simp at ha hr;subst ha;subst hr;exact hx|succ i=>exact h2 i a r (by simpa using ha) (by simpa using hr)
 obtain⟨xs,ae,rfl,h1,h2⟩:=key es hh;exact⟨_,ae,rfl,k,_,xs,rfl,λ_=>Ol,h1,h2⟩
def ajW{x:AV}{d:DataW H}(h:mb ao 28 x d):∃l:List UInt8,BL x l:=by
 obtain⟨k,es,rfl,h2,-,-,h4⟩:=h.Dn Tryz.underlying28;obtain⟨l,rfl⟩:=LQ (f:=lh) λr hr=>by obtain⟨-,d,h5⟩:=h4 r hr;exact h5.S3 av
 exact⟨l,k,_,rfl,λ_=>cc5⟩
end
def aok:vI LC:=yK wJ xo aoj (uO av)
def aol:vI RE:=yK wJ xo aok (uO av)
def aom:vI RF:=yK wJ xo aol (uO av)
def aoe:vI Rz:=yK wJ xo aom (uO av)
section
variable {H:Type}
def agM:ao.cellsOf 27=4:=av
def Vi:ao.cellsOf 85=4:=av
def aul:Dq ao 27 [(3,0),(25,1),(23,3)]=ah:=av
def aum:Dq ao 85 [(3,0),(3,1),(3,2),(3,3)]=ah:=av
def QU{l:List AV}(h:l.length=4):∃a b c d,l=[a,b,c,d]:=by
 match l,h with
 | [a,b,c,d],_=>exact⟨a,b,c,d,rfl⟩
def ajY{x:AV}{d:DataW H}(h:mb ao 27 x d):∃ep X Y C ae owners aj,x=.agg (aN ep X Y C)/\RL X ae/\IL Y owners/\IL C aj:=by obtain⟨xs,rfl,hl,hg⟩:=h.fields aul;rw[agM] at hl;obtain⟨a,b,c,e,rfl⟩:=QU hl;obtain⟨_,q0⟩:=hg 0 3 0 rfl;obtain⟨_,q1⟩:=hg 1 25 1 rfl;obtain⟨_,q2⟩:=hg 2 23 3 rfl;rw[J7] at q0;rw[agL] at q1;rw[Ol] at q2;obtain⟨jT,EA⟩:=q1.fields auk;obtain⟨_,p0⟩:=EA 0 22 0 rfl;obtain⟨_,p1⟩:=EA 1 23 1 rfl;rw[agK] at p0;rw[Ol] at p1;obtain⟨n,e0,-⟩:=q0.zo yD;obtain⟨X,ae,e1,hx⟩:=aj0 p0;obtain⟨Y,owners,e2,hy⟩:=O9 p1;obtain⟨C,aj,e3,hc⟩:=O9 q2;simp at e0 e1 e2 e3;subst e0;subst e1;subst e2;subst e3;exact⟨n,_,_,_,ae,owners,aj,rfl,hx,hy,hc⟩
def ajZ{x:AV}{d:DataW H}(h:mb ao 29 x d):∃l,PL x l:=by
 obtain⟨k,es,rfl,hl,-,-,he⟩:=h.Dn Tryz.underlying29;obtain⟨l,rfl⟩:∃l:List Pr,es=l.map bU:=LQ λr hr=>by obtain⟨-,d,hd⟩:=he r hr;obtain⟨hl,hg⟩:=hd.fields aum;rw[Vi] at hl;obtain⟨a,b,c,e,rfl⟩:=QU hl;obtain⟨_,q0⟩:=hg 0 3 0 rfl;obtain⟨_,q1⟩:=hg 1 3 1 rfl;obtain⟨_,q2⟩:=hg 2 3 2 rfl;obtain⟨_,q3⟩:=hg 3 3 3 rfl;rw[J7] at q0 q1 q2 q3;obtain⟨n0,e0,-⟩:=q0.zo yD;obtain⟨n1,e1,-⟩:=q1.zo yD;obtain⟨n2,e2,-⟩:=q2.zo yD;obtain⟨n3,e3,-⟩:=q3.zo yD;simp at e0 e1 e2 e3;subst e0;subst e1;subst e2;subst e3;exact⟨⟨n0,n1,n2,n3⟩,rfl⟩
 exact⟨l,k,_,rfl,λ_=>Vi⟩
def YY:List TypeId:=[3,4,5,22,23,25,27,28,29,36,81,85]
end
section
variable {H:Type}
def ajX{x:AV}{d:DataW H}(h:mb ao 23 x d):∃l,IL x l/\l.length<=9223372036854775807:=by
 obtain⟨k,es,rfl,hl,-,-,he⟩:=h.Dn dQ;obtain⟨l,rfl⟩:∃l:List Int,es=l.map xN:=LQ λr hr=>by obtain⟨-,d,hd⟩:=he r hr;obtain⟨n,hn,-⟩:=hd.zo yD;exact⟨n,hn⟩
 refine⟨l,⟨k,_,rfl,λ_=>J7⟩,?_⟩;rw[bu] at hl;exact fw hl aV
end
end Go.Proofs.YtnfciiiohoafaaaGreatDoor
end
section
namespace Go.AE
open Go.RowKit Go.WideShapes Go.ChangeShapes
def Iu(P:Program)(S:List TypeId)(t:TypeId):Bool:=
 match P.underlying t with
 |some .bool|some (.int _)|some .string=>ah
 |some (.slice e)=>S.contains e&&decide (0<P.cellsOf e)
 |some (.struct fs)=>Ds P 0 fs.toList (P.cellsOf t)&&fs.toList.all λf=>S.contains f.type
 |some (.array m e)=>Nat.beq (P.cellsOf t) (m * P.cellsOf e)&&S.contains e
 |_=>az
def Lu(P:Program)(S:List TypeId):Bool:=S.all (Iu P S)
section
variable {H:Type} {enc:TypeId × Value->H} {P:Program} {W:World}
def au2{S:List TypeId}(hS:Lu P S=ah):∀(fuel:Nat) (t:TypeId) (cs:List Value) (x:DataW H × List MemPlace),DataW.trod enc P W 0 (λ_=>ah) ah fuel t cs=aa x->S.contains t=ah->
 ∃xs,aQ (aW.init W) xs cs/\xs.all AV.ek=ah/\Has P t xs x.1:=by
 intro fuel
 induction fuel with
 |zero=>intro t cs x h;simp[DataW.trod] at h|succ fuel ih=>
  intro t cs x h iD;have bq:Iu P S t=ah:=ey.1 hS t (by simpa using iD);unfold Iu at bq;split at bq
  ·rename_i hu;obtain⟨b,rfl,rfl⟩:=DataW.trod_bool hu h;exact⟨_,.cons _ _ _ _ (.v _ rfl) .nil,rfl,.bool hu b⟩
  ·rename_i k hu;obtain⟨m,rfl,rfl,hw⟩:=DataW.trod_int hu h;exact⟨_,.cons _ _ _ _ (.v _ rfl) .nil,rfl,.int hu m hw⟩
  ·rename_i hu;obtain⟨s,rfl,rfl,hs⟩:=DataW.trod_string hu h;exact⟨_,.cons _ _ _ _ (.v _ rfl) .nil,rfl,.str hu s hs⟩
  ·rename_i e hu;rw[bC,decide_eq_true_eq] at bq;obtain⟨akU,jb⟩:=bq;rcases DataW.trod_slice hu h with⟨rfl,rfl⟩|⟨a,len,aD,elems,rest,m,hm,rfl,rfl,-,PJ,vW,Hz,akn,ak3,-⟩
   ·exact⟨_,.cons _ _ _ _ (.nil _) .nil,rfl,.none hu⟩
   ·have hm:m=fuel:=(by omega);subst hm;obtain⟨cP,HY⟩:=ak3 rfl;have elemAt:∀i,i<len->∃vs r y,W.cells? 0 (a.add (i * P.cellsOf e)) (P.cellsOf e)=aa vs/\elems[i]?=aa y/\aQ (aW.init W) r vs/\r.all AV.ek=ah/\Has P e r y.1:=by
     intro i hi;have h1:=akn i hi;rw[aR (by omega:i<elems.length)] at h1;cases hc:W.cells? 0 (a.add (i * P.cellsOf e)) (P.cellsOf e) with
     |none=>rw[hc] at h1;cases h1
     |some vs=>rw[hc] at h1;obtain⟨r,g1,g2,g3⟩:=ih e vs _ h1 akU;exact⟨vs,r,_,rfl,aR _,g1,g2,g3⟩
    by_cases jB:aD=0
    ·have hlen:len=0:=(by omega);subst jB;subst hlen;have he:elems=[]:=List.eq_nil_of_length_eq_zero Hz;subst he;refine⟨[.list .tight (P.cellsOf e) []],.cons _ _ _ _ (.jv _ _) .nil,rfl,?_⟩;show Has P t _ (.slice [] (rest.map (·.1)));exact .list hu .tight [] [] (rest.map (·.1)) (.inr ⟨rfl,rfl⟩) (cA _) rfl bE bE
    ·-- the block is there
     have Yq:a.spot=au:=by
      have:∃vs,W.cells? 0 (a.add 0) (P.cellsOf e)=aa vs:=by
       rcases Nat.eq_zero_or_pos len with h0|h0
       ·have h1:=HY 0 ag;rw[aR (by omega:0<rest.length)] at h1;cases hc:W.cells? 0 (a.add ((len+0) * P.cellsOf e)) (P.cellsOf e) with
        |none=>rw[hc] at h1;cases h1
        |some vs=>rw[h0] at hc;exact⟨vs,by simpa using hc⟩
       ·obtain⟨vs,_,_,hc,_⟩:=elemAt 0 h0;exact⟨vs,by simpa using hc⟩
      obtain⟨vs,ga⟩:=this;obtain⟨hl,hg⟩:=Vk ga;have h0:=hg 0 jb;rw[aR (by omega:0<vs.length)] at h0;have:(a.add 0).add 0=a:=(by simp[Addr.add]);rw[this] at h0;exact atx h0
     obtain⟨g,off,sp⟩:=a;simp only at Yq;subst Yq;have ae:∀k,k<=len->∃es:List (List AV),es.length=k/\(∀r∈es,r.length=P.cellsOf e/\r.all AV.ek=ah)/\(∀(i:Nat) (r:List AV) (d:DataW H),es[i]?=aa r->(elems.map (·.1))[i]?=aa d->Has P e r d)/\
      ∃cells:List Value,cells.length=k * P.cellsOf e/\aQ (aW.init W) es.flatten cells/\∀(j:Nat) (c:Value),cells[j]?=aa c->W.cell? ⟨g,off+j,au⟩=aa c:=by
      intro k
      induction k with
      |zero=>intro _;exact⟨[],rfl,by simp,by simp,[],by simp,.nil,by simp⟩|succ k ihk=>
       intro hk;obtain⟨es,e1,e2,e3,cells,c1,c2,c3⟩:=ihk ag;obtain⟨vs,r,y,hc,hy,g1,g2,g3⟩:=elemAt k ag;obtain⟨qs,hvg⟩:=Vk hc;refine⟨es++[r],by simp[e1],λr' gj=>?_,λi r' d hi hd=>?_,cells++vs,by simp[c1,qs,gJ],?_,λj c hj=>?_⟩
       ·rcases List.mem_append.1 gj with h1|h1
        ·exact e2 r' h1
        ·simp only[my] at h1;subst h1;exact⟨by rw[g1.length,qs],g2⟩
       ·rcases s9 hi with h1|⟨h1,rfl⟩
        ·exact e3 i r' d h1 hd
        ·rw[h1,e1,ej,hy] at hd;simp only[ff,dP] at hd;subst hd;exact g3
       ·rw[List.flatten_append];simpa using c2.append g1
       ·rcases dW j cells.length with h1|h1
        ·rw[List.getElem?_append_left h1] at hj;exact c3 j c hj
        ·rw[List.getElem?_append_right h1] at hj;have pS:j - cells.length<P.cellsOf e:=(by have:=(aS.1 hj).1;omega);have h2:=hvg _ pS;rw[hj,Addr.mO,Addr.mO] at h2;rw[(ag:off+j=off+k * P.cellsOf e+(j - cells.length))];exact h2
     obtain⟨es,e1,e2,e3,cells,c1,c2,c3⟩:=ae len (aJ _);have eM:es.flatten.all AV.ek=ah:=(by rw[List.all_flatten];simp only[ey];intro r hr;have:=(e2 r hr).2;simpa using this);refine⟨[.list .held (P.cellsOf e) es],.cons _ _ _ _ (.list .held (P.cellsOf e) es g off len aD cells e1.symm (λr hr=>(e2 r hr).1) c2 c3 ⟨PJ,aU⟩ eM) .nil,rfl,?_⟩;exact .list hu .held es (elems.map (·.1)) (rest.map (·.1)) (.inl rfl) ag (by simp[e1,Hz]) e3 (λr hr=>(e2 r hr).1)
  ·rename_i fs hu;rw[bC,ey] at bq;obtain⟨ak8,eM⟩:=bq;obtain⟨ys,m,hm,rfl,de,zl,pO⟩:=DataW.trod_struct hu h;have hm:m=fuel:=(by omega);subst hm;have fld:∀(i:Nat) (f:Field),fs[i]?=aa f->∃r y,ys[i]?=aa y/\aQ (aW.init W) r ((cs.drop f.offset).take (P.cellsOf f.type))/\r.all AV.ek=ah/\Has P f.type r y.1:=(by intro i f hf;have h1:=pO i f hf;have aA:i<ys.length:=(by rw[zl];exact(Dy.1 hf).1);rw[aR aA] at h1;obtain⟨r,g1,g2,g3⟩:=ih f.type _ _ h1 (eM f (by obtain⟨hi,rfl⟩:=Dy.1 hf;exact Array.mem_toList_iff.2 (Array.getElem_mem hi)));exact⟨r,_,aR aA,g1,g2,g3⟩);have build:∀(l:List Field) (i off:Nat),(∀j f,l[j]?=aa f->fs[i+j]?=aa f)->Ds P off l (P.cellsOf t)=ah->off<=cs.length->
    ∃xs,aQ (aW.init W) xs (cs.drop off)/\xs.all AV.ek=ah/\∀j f,l[j]?=aa f->off<=f.offset/\∃r y,ys[i+j]?=aa y/\(xs.drop (f.offset - off)).take (P.cellsOf f.type)=r/\Has P f.type r y.1:=by
    intro l
    induction l with
    |nil=>intro i off _ ht _;have AX:off=P.cellsOf t:=jW ht;refine⟨[],?_,rfl,λj f hj=>by simp at hj⟩;rw[AX,<-de,List.drop_length];exact .nil|cons f l ihl=>
     intro i off hl ht eO;rw[Ds,bC] at ht;have ho:f.offset=off:=jW ht.1;obtain⟨r,y,hy,g1,g2,g3⟩:=fld i f (by simpa using hl 0 f rfl);have KN:off+P.cellsOf f.type<=cs.length:=by
      rw[de];have:∀(l:List Field) (o:Nat),Ds P o l (P.cellsOf t)=ah->o<=P.cellsOf t:=by
       intro l
       induction l with
       |nil=>intro o h;exact Nat.le_of_eq (jW h)|cons f l ih=>intro o h;rw[Ds,bC] at h;exact fw (Nat.le_add_right _ _) (ih _ h.2)
      exact this l _ ht.2
     obtain⟨xs,x1,x2,x3⟩:=ihl (i+1) (off+P.cellsOf f.type) (λj f' hj=>by
      have:=hl (j+1) f' (by simpa using hj)
      rwa [(ag:i+(j+1)=i+1+j)] at this) ht.2 KN
     rw[ho] at g1;have cP:r.length=P.cellsOf f.type:=(by rw[g1.length];simp;omega);refine⟨r++xs,?_,by rw[zZ,g2,x2];rfl,λj f' hj=>?_⟩
     ·have:=g1.append x1;rw[<-yv,List.take_append_drop] at this;exact this
     ·cases j with|zero=>simp only[List.getElem?_cons_zero,dP] at hj;subst hj;refine⟨ag,r,y,hy,?_,g3⟩;rw[ho,Nat.sub_self,iO,<-cP,List.take_left]|succ j=>obtain⟨eg,r',y',hy',gj,hh⟩:=x3 j f' (by simpa using hj);refine⟨ag,r',y',by rw[(ag:i+(j+1)=i+1+j)];exact hy',?_,hh⟩;rw[show f'.offset - off=r.length+(f'.offset - (off+P.cellsOf f.type)) by omega,<-yv,acX];exact gj
   obtain⟨xs,x1,x2,x3⟩:=build fs.toList 0 0 (λj f hj=>by simpa using hj) ak8 (cA _);rw[iO] at x1;refine⟨xs,x1,x2,.struct hu xs (ys.map (·.1)) (by rw[x1.length,de]) (by simp[zl]) λi f d hf hd=>?_⟩;obtain⟨-,r,y,hy,hr,hh⟩:=x3 i f (by simpa using hf);rw[Nat.zero_add] at hy;rw[ej,hy] at hd;simp only[ff,dP] at hd;subst hd;rw[Nat.sub_zero] at hr;rw[hr];exact hh
  ·rename_i m e hu;rw[bC] at bq;have dL:P.cellsOf t=m * P.cellsOf e:=jW bq.1;obtain⟨ys,fu,Xy,rfl,de,zl,pO⟩:=DataW.trod_array hu h;have Xy:fu=fuel:=(by omega);subst Xy;have ae:∀k,k<=m->∃xs,aQ (aW.init W) xs (cs.take (k * P.cellsOf e))/\xs.all AV.ek=ah/\∀i,i<k->∃y,ys[i]?=aa y/\Has P e ((xs.drop (i * P.cellsOf e)).take (P.cellsOf e)) y.1:=by
    intro k
    induction k with
    |zero=>intro _;exact⟨[],by simp;exact .nil,rfl,λi hi=>absurd hi (Nat.not_lt_zero i)⟩
    |succ k ihk=>
     intro hk;obtain⟨xs,x1,x2,x3⟩:=ihk ag;have h1:=pO k ag;rw[aR (by omega:k<ys.length)] at h1;obtain⟨r,g1,g2,g3⟩:=ih e _ _ h1 bq.2;have hlen:(k+1) * P.cellsOf e<=cs.length:=(by rw[de,dL];exact oM _ hk);have dN:xs.length=k * P.cellsOf e:=(by rw[x1.length,eS];rw[gJ] at hlen;omega);have cP:r.length=P.cellsOf e:=(by rw[g1.length];simp;rw[gJ] at hlen;omega);refine⟨xs++r,?_,by rw[zZ,x2,g2];rfl,λi hi=>?_⟩
     ·have:=x1.append g1
      rwa [<-List.take_add,<-Nat.succ_mul] at this
     ·rcases dW i k with h2|h2
      ·obtain⟨y,hy,hh⟩:=x3 i h2;refine⟨y,hy,?_⟩;have h3:(i+1) * P.cellsOf e<=k * P.cellsOf e:=oM _ h2;rw[gJ] at h3;rw[List.drop_append_of_le_length ag,List.take_append_of_le_length (by simp;omega)];exact hh
      ·have:i=k:=(by omega);subst this;refine⟨_,aR ag,?_⟩;rw[<-dN,acX,<-cP,fC];exact g3
   obtain⟨xs,x1,x2,x3⟩:=ae m (aJ _);rw[<-dL,<-de,fC] at x1;refine⟨xs,x1,x2,.array hu xs (ys.map (·.1)) (by rw[x1.length,de]) (by simp[zl]) λi d hd=>?_⟩;have hi:i<m:=(by have:=(aS.1 hd).1;simpa [zl] using this);obtain⟨y,hy,hh⟩:=x3 i hi;rw[ej,hy] at hd;simp only[ff,dP] at hd;subst hd;exact hh
  ·cases bq
def aeQ{S:List TypeId}(hS:Lu P S=ah){t:TypeId}{v:Value}{d:DataW H}{p:List MemPlace}{base:Nat}(h:DataW.Trod enc P W 0 (λ_=>ah) ah t v d p)(hv:Value.okWide P W .any base t v)(iD:S.contains t=ah):
 ∃x,aX (aW.init W) x v/\mb P t x d:=by
 obtain⟨fuel,hf⟩:=h;obtain⟨xs,h1,h2,h3⟩:=au2 hS fuel t _ _ hf iD;have single:∀c,v.cells.toList=[c]->v=c->(∀cs,P.underlying t≠aa (.struct cs))->(∀m e,P.underlying t≠aa (.array m e))->∃x,aX (aW.init W) x v/\mb P t x d:=by
  intro c hc hvc hns hna;rw[hc] at h1;cases h1 with
  |cons x _ _ _ hx hs=>
   cases hs;refine⟨x,hvc ▸ hx,?_⟩;unfold mb;split
   ·rename_i hu;exact absurd hu (hns _)
   ·rename_i hu;exact absurd hu (hna _ _)
   ·exact h3
 have bq:Iu P S t=ah:=ey.1 hS t (by simpa using iD);unfold Iu at bq;unfold Value.okWide at hv;split at bq
 ·rename_i hu;rw[hu] at hv;simp only[Cell.okWide,Cell.ok,hu] at hv;cases v<;>simp at hv;exact single _ rfl rfl (by rw[hu];simp) (by rw[hu];simp)
 ·rename_i k hu;rw[hu] at hv;simp only[Cell.okWide,Cell.ok,hu] at hv;cases v<;>simp at hv;exact single _ rfl rfl (by rw[hu];simp) (by rw[hu];simp)
 ·rename_i hu;rw[hu] at hv;simp only[Cell.okWide,Cell.ok,hu] at hv;cases v<;>simp at hv;exact single _ rfl rfl (by rw[hu];simp) (by rw[hu];simp)
 ·rename_i e hu;rw[hu] at hv;simp only[Cell.okWide,Cell.ok,hu] at hv;cases v<;>simp at hv;exact single _ rfl rfl (by rw[hu];simp) (by rw[hu];simp)
 ·rename_i fs hu;rw[hu] at hv;obtain⟨cs,rfl,-,-⟩:=hv;exact⟨.agg xs,.agg _ _ h1,by unfold mb;rw[hu];exact⟨xs,rfl,h3⟩⟩
 ·rename_i m e hu;rw[hu] at hv;obtain⟨cs,rfl,-,-⟩:=hv;exact⟨.agg xs,.agg _ _ h1,by unfold mb;rw[hu];exact⟨xs,rfl,h3⟩⟩
 ·cases bq
def aeR{S:List TypeId}(hS:Lu P S=ah){base:Nat}:∀{ts:List TypeId} {vs:List Value} {ds:List (DataW H)} {p:List MemPlace},DataW.TrodAll enc P W 0 (λ_=>ah) ah ts vs ds p->
 (∀(j:Nat) t v,ts[j]?=aa t->vs[j]?=aa v->Value.okWide P W .any base t v)->(∀t∈ts,S.contains t=ah)->∃xs,aQ (aW.init W) xs vs/\uH P ts xs ds:=by
 intro ts
 induction ts with
 |nil=>intro vs ds p h _ _;obtain⟨rfl,rfl,rfl⟩:=trodAll_nil h;exact⟨[],.nil,aU⟩
 |cons t ts ih=>intro vs ds p h hv bq;obtain⟨v,vs',d,ds',p1,q1,rfl,rfl,rfl,h1,h2⟩:=trodAll_cons h;obtain⟨x,g1,g2⟩:=aeQ hS h1 (hv 0 t v rfl rfl) (bq t fW);obtain⟨xs,g3,g4⟩:=ih h2 (λj t v ht qW=>hv (j+1) t v (by simpa using ht) (by simpa using qW)) (λt ht=>bq t (fE _ ht));exact⟨x::xs,.cons _ _ _ _ g1 g3,g2,g4⟩
structure Tu(P:Program)(S:List TypeId)(f:FuncId)(fn:Func)(tb:TypeId):Prop where
 func:P.funcs[f]?=aa fn
 laid:laidOutB P=ah
 set:Lu P S=ah
 qB:∀t∈fn.params.toList,S.contains t=ah/\P.readableRec t=ah/\t<P.types.size
 res:fn.resultTypes=#[tb]
 bool:P.underlying tb=aa .bool
variable {G:Nat->Option (List AV)} {prims:FuncId->Option (List AV->aq->Option (AV × aq))}
def alM{S:List TypeId}(hp:Prog P){f:FuncId}{fn:Func}{tb:TypeId}(F:Tu P S f fn tb){s:ChangeSpec}{apart fresh handsOn again:Bool}{base:Nat}{args:Array Value}{ds gs:List (DataW H)}{before:List MemPlace}
 (Ie:s.vars=[]) (ak4:∀ds:List (DataW H),ds.length=fn.params.size->(s.fn H ds).results=[.lit (.bool ah)]/\(s.fn H ds).args=ds/\(s.fn H ds).vars=[])
 (Qy:∀(j:Nat) t v,fn.params[j]?=aa t->args[j]?=aa v->Value.okWide P W .any base t v)
 (hW:DataW.Whole enc P fn.params.toList s.vars apart W args.toList ds gs before)
 (hG:∀g cs,G g=aa cs->∃cells,aQ (aW.init W) cs cells/\∀(j:Nat) (c:Value),cells[j]?=aa c->W.cell? ⟨g,j,au⟩=aa c)
 (o6:∀g p,prims g=aa p->tO P G W g p)
 (akB:∀xs:List AV,uH P fn.params.toList xs ds->∃h',(whole P G prims).call f xs aq.init=aa (.ret (.v (.bool ah)),h')):
 Calls P f args W λe W'=>∃v,e=.returned v/\s.post enc P fn apart fresh handsOn again W args v W':=by
 have WV:=hW;obtain⟨p,q,hA,hV,Xd,xG,PX⟩:=hW;have hV0:DataW.TrodVars enc P W (λ_=>ah) [] gs q:=Ie ▸ hV;obtain⟨rfl,rfl⟩:=trodVars_none hV0;rw[jr] at Xd;subst Xd;obtain⟨xs,Qz,eM⟩:=aeR F.set hA (λj t v ht hv=>Qy j t v (by simpa using ht) (by simpa using hv)) (λt ht=>(F.qB t ht).1);obtain⟨h',uc⟩:=akB xs eM;have Ia:lM P G W (aW.init W) aq.init W:=atg W hG;obtain⟨-,hc⟩:=(Ta hp o6).call f xs aq.init _ _ uc;intro cs;obtain⟨K',w',fr,le,s',bT,xF,v,hx,hl⟩:=hc (aW.init W) W args Qz Ia cs;have hv:=hx.iV.1;subst hv;have hb:Below W.heap.size W w':=by have:=s'.dh;rw[le.base] at this;exact this
 have hlen:ds.length=fn.params.size:=by
  have:∀{ts:List TypeId} {xs:List AV} {ds:List (DataW H)},uH P ts xs ds->ds.length=ts.length:=by
   intro ts
   induction ts with
   |nil=>intro xs ds h;cases xs<;>cases ds<;>simp[uH] at h ⊢
   |cons t ts ih=>intro xs ds h;cases xs<;>cases ds<;>simp[uH] at h ⊢;exact ih h.2
  simpa using this eM
 obtain⟨r1,r2,r3⟩:=ak4 ds hlen;refine⟨.returned (.bool ah),w',fr,⟨_,rfl,?_⟩,bT,xF,hl⟩;refine aon (pa:=before) (pv:=[]) WV (λb sp hd=>?_) (λsp mh=>?_) (λsp _=>?_) bE hb (ok_one F.res rfl (okWide_bool_mk F.bool _))
 ·rw[F.res,jr,r1];exact trodAll_cons_mk (shut_bool F.bool _) trodAll_mk0
 ·rw[jr,r2];exact aeS F.laid hA (λt ht=>(F.qB t ht).2) (λx hx=>hb.same (WV.lt x hx)) mh
 ·rw[Ie,jr,r3];exact rfl
end
end Go.AE
end
