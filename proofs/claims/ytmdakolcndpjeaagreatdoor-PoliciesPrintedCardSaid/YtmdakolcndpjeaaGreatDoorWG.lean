/-
  Part of the proof: WG.
-/
import Derived.Test.YtmdakolcndpjeaaGreatDoorWF
import Derived.Test.YtmdakolcndpjeaaGreatDoorWE
import Derived.Test.YtmdakolcndpjeaaGreatDoorWC
import Derived.LaidMore
import Derived.Test.YtmdakolcndpjeaaGreatDoorRows
open True renaming intro->ev
open Option renaming some->aa,map_some->cy,some.injEq->aY
open List renaming getElem?_eq_getElem->cv,getElem?_eq_some_iff->aF,mem_of_getElem?->ie,drop_zero->fc,take_succ_eq_append_getElem->nj,take_length->jk,length_map->jj,mem_iff_getElem->wN,getElem?_mapIdx->yv,all_eq_true->dn,append_nil->dI,nil_append->bT,replicate->gC,cons_append->bR,mem_singleton->qi,take_succ_cons->di,take_zero->de,map_append->Ar,range->bt
open Go.Proofs.Tryz renaming prog->aq,underlying91->SR,underlying23->lB,func55->SN,underlying24->j6,func20->SJ
open Bool renaming true->ab,false->ak,and_eq_true->aL,and_true->uS,or_eq_true->ly,eq_false_iff->ib
open Nat renaming le_refl->aK,reduceEqDiff->ao,zero_le->cz,not_lt_zero->ik,reduceAdd->gE,le_antisymm->fF
open Eq renaming trans->Ry
open And renaming intro->aw
set_option maxHeartbeats 64000000
set_option maxRecDepth 100000
set_option linter.unusedSimpArgs false
set_option linter.unusedVariables false
set_option linter.constructorNameAsVariable false
set_option linter.defProp false
section
namespace Go.Proofs.YtmdakolcndpjeaaGreatDoor
open Go.AE Go.Lex Go.Pol
structure Vs where
 no:Int
 at_:Int
 known:Int
 rN:Po
def fE(x:Vs)(t:PT):List AV:=.v (.int .i64 x.no)::.v (.int .i64 x.at_)::.v (.int .i64 x.known)::au x.rN t
def AA(l:List Vs)(rows:List (List AV)):Prop:=rows.length=l.length/\∀(i:Nat) (x:Vs) (r:List AV),l[i]?=aa x->rows[i]?=aa r->∃t,r=fE x t/\ek x.rN t
def AA.get{l:List Vs}{rr:List (List AV)}(h:AA l rr){i:Nat}(hi:i<l.length):∃x t,l[i]?=aa x/\rr[i]?=aa (fE x t)/\ek x.rN t:=by
 have hr:i<rr.length:=by rw[h.1];exact hi
 obtain⟨t,h1,h2⟩:=h.2 i _ _ (cv hi) (cv hr);exact⟨l[i],t,cv hi,by rw[cv hr,h1],h2⟩
section
variable {x x':Vs} {t t':PT}
def af3:(fE x t).length=13:=rfl
def QV:13<=((fE x t).drop 0).length:=by simp[af3]
end
def Al:(∀(x:Vs) (t:PT),(AV.agg (fE x t)).cF=aa (fE x t))/\(∀(x:Vs) (t:PT),((fE x t).drop 0).head?=aa (.v (.int .i64 x.no)))/\(∀(x:Vs) (t:PT),((fE x t).drop 1).head?=aa (.v (.int .i64 x.at_)))/\(∀(x:Vs) (t:PT),((fE x t).drop 2).head?=aa (.v (.int .i64 x.known)))/\
 (∀(x:Vs) (t:PT),((fE x t).drop 3).take 10=au x.rN t)/\(∀(x:Vs) (t:PT),((fE x t).drop 0).take 13=fE x t):=⟨λ_ _=>rfl,λ_ _=>rfl,λ_ _=>rfl,λ_ _=>rfl,λ_ _=>rfl,λ_ _=>rfl⟩
def yN:(∀(r:Ref) (off:Nat),cN aq 90 (.ptr r off) 0=aa (.ptr r (off+0)))/\(∀(r:Ref) (off:Nat),cN aq 90 (.ptr r off) 1=aa (.ptr r (off+1)))/\(∀(r:Ref) (off:Nat),cN aq 90 (.ptr r off) 2=aa (.ptr r (off+2)))/\(∀(r:Ref) (off:Nat),cN aq 90 (.ptr r off) 3=aa (.ptr r (off+3)))/\
 (∀(sz:Nat) (es:List (List AV)) (i off:Nat),cN aq 90 (.elem sz es i off) 0=aa (.elem sz es i (off+0)))/\(∀(sz:Nat) (es:List (List AV)) (i off:Nat),cN aq 90 (.elem sz es i off) 1=aa (.elem sz es i (off+1)))/\(∀(sz:Nat) (es:List (List AV)) (i off:Nat),cN aq 90 (.elem sz es i off) 2=aa (.elem sz es i (off+2)))/\(∀(sz:Nat) (es:List (List AV)) (i off:Nat),cN aq 90 (.elem sz es i off) 3=aa (.elem sz es i (off+3))):=
 ⟨λ_ _=>ai,λ_ _=>ai,λ_ _=>ai,λ_ _=>ai,λ_ _ _ _=>ai,λ_ _ _ _=>ai,λ_ _ _ _=>ai,λ_ _ _ _=>ai⟩
def FR:cU aq 90=aa 13:=ai
def GJ:fZ aq 90=aa ab:=ai
def zV:Vs:=⟨0,0,0,zP⟩
def Rg:(fa aq 90).bind AV.cF=aa (fE zV zT):=ai
section
variable {h:ae} {b:Nat} {x x':Vs} {t t':PT}
def zi(hb:h.boxes[b]?=aa (fE x t)):dz aq Gt h 90 (.ptr (.box b) 0)=aa (.agg (fE x t)):=nH GJ FR hb (aK _)
def BO(hb:h.boxes[b]?=aa (fE x t)):dz aq Gt h 28 (.ptr (.box b) 3)=aa (.agg (au x.rN t)):=nH iE gV hb (aj:3+10<=13)
def Af(hb:h.boxes[b]?=aa (fE x t)):dh aq h 90 (.ptr (.box b) 0) (.agg (fE x' t'))=aa (h.put b (fE x' t')):=dK (off:=0) (cs:=fE x t) (xs:=fE x' t') rfl FR hb rfl (aK 13)
end
def nP(n:Int):Bool:=decide (0<=n)&&decide (n<1099511627776)
noncomputable def rW(iT:Int)(x:Vs):Bool:=(decide (iT+1<=x.no)&&decide (x.no<=1048576))&&(nP x.at_&&(nP x.known&&decide (pj x.rN=0)))
noncomputable def mW:Int->List Vs->Bool
 |_,[]=>ab
 |iT,x::r=>rW iT x&&mW x.no r
noncomputable def ph(l:List Vs):Int:=if 256<l.length then 2 else if mW (-1) l=ab then 0 else 200
def vX:Tryz.f54.results.toList=[.tmp 2]:=ai
def FX(n:Int):(decide (0<=n)&&decide (n<=1099511627775))=nP n:=by unfold nP;congr 1;rw[decide_eq_decide];omega
def GF(l:List Vs):Prop:=∀x∈l,lA x.rN
def G4(tk:Tok)(sv:Nat)(l:List Vs)(rows:List (List AV))(hr:AA l rows)(hz:∀i:Nat,i<l.length->sv=13)(cI:l.length<=256->GF l)(hb:l.length<=9223372036854775807)(h:ae)(aU:cR h=ab):gY W 54 [.list tk sv rows] h (.ret (.v (.int .i64 (ph l)))):=by
 have u36:=SR;have a3:=dE;have a28:=iE;have a52:=GJ;have s52:=FR;have s28:=gV;have z52:=Rg;have aP:=hr.1;have kr:=ag.mk hr;have kz:=ag.mk hz;have kokh:=ag.mk aU;have kx0:=ag.mk (Ext.refl h);refine eI rfl Tryz.func54 rfl ?_;by_cases xl:256<l.length
 ·have XU:(256:Int)<(rows.length:Int):=by rw[aP];omega
  have hF:ph l=2:=by unfold ph;rw[aB xl]
  rw[hF];clear cI hz hr aU
  repeat' (first|simp(maxSteps:=9999999) (disch:=first|exact dZ|fail) only[gW,reduceIte,ao,al,vX, *]|refine dX ?_ ?_<;>(intro _;try omega))
  exact⟨_,rfl,kx0.out⟩
 ·have kfew:=ag.mk (cI aj);have XU:¬(256:Int)<(rows.length:Int):=by rw[aP];omega
  have hF:ph l=if mW (-1) l=ab then 0 else 200:=by unfold ph;rw[ax xl]
  rw[hF];have bad:∀(hh:ae),Ext h hh->mW (-1) l=ak->∃h',(aa (bw.ret (AV.v (.int .i64 200)),hh):Option (bw × ae))=aa (.ret (.v (.int .i64 (if mW (-1) l=ab then 0 else 200))),h')/\Ext h h':=λhh hx q=>⟨hh,by rw[q];rfl,hx⟩;have kbad:=ag.mk bad;clear bad hF cI hz hr aU
  repeat' (first|simp(maxSteps:=9999999) (disch:=first|exact dZ|fail) only[gW,reduceIte,ao,al,vX, *]|refine dX ?_ ?_<;>(intro _;try omega))
  refine eX (λm e h'=>∃(i:Nat) (iT:Int),i<=l.length/\m=l.length - i/\e.get 3=.v (.int .i64 iT)/\e.get 9=.list tk sv rows/\e.get 10=.v (.int .i64 (l.length:Nat))/\e.get 11=.v (.int .i64 i)/\e.defers=[]/\Ext h h'/\cR h'=ab/\ -1<=iT/\iT<=1048576/\mW (-1) l=mW iT (l.drop i)) ?_ l.length _ _ ?_
  ·rintro m e h' ⟨i,iT,hi,rfl,g3,g9,g10,g11,hd,hx,iF,l0,l1,bV⟩;have kx:=ag.mk hx;have kno:=ag.mk bV;have kok':=ag.mk iF;clear hx bV iF;by_cases ay:i<l.length
   ·obtain⟨y,t,hy,xG,oky⟩:=kr.out.get ay;have AW:=kz.out i ay;subst AW;have dU:(i:Int)<(rows.length:Int):=(by rw[aP];omega);have ue:(i:Int)<(l.length:Int):=(by omega);have vf:=@QV y t;have mh:l.drop i=y::l.drop (i+1):=(by obtain⟨hj,rfl⟩:=aF.1 hy;exact List.drop_eq_getElem_cons hj);have hv:mW iT (l.drop i)=(rW iT y&&mW y.no (l.drop (i+1))):=(by rw[mh,mW]);have NT:rW iT y=ak->mW (-1) l=ak:=(by intro q;rw[kno.out,hv,q];rfl);have kvno:=ag.mk NT;have khv:=ag.mk hv;obtain⟨h4,c4,eV⟩:=G5 y.rN t oky (kfew.out y (ie hy)) (h'.push (fE y t)) kok'.out;have kx4:=ag.mk ((kx.out.trans (.push _ (fE y t))).trans eV);have kx3:=ag.mk (kx.out.trans (.push _ (fE y t)));have kok4:=ag.mk (eV.ok kok'.out);have kb4:=ag.mk (eV.box _ _ (bX h' (fE y t)));have b4:=kb4.out;have w1:∀h:ae,W.call 112 [.v (.int .i64 y.no),.v (.int .i64 (iT+1)),.v (.int .i64 1048576)] h=aa (.ret (.v (.bool (decide (iT+1<=y.no)&&decide (y.no<=1048576)))),h):=rY _ _ _;have w2:∀h:ae,W.call 112 [.v (.int .i64 y.at_),.v (.int .i64 0),.v (.int .i64 1099511627775)] h=aa (.ret (.v (.bool (nP y.at_))),h):=λh=>(by rw[<-FX];exact rY _ _ _ h);have w3:∀h:ae,W.call 112 [.v (.int .i64 y.known),.v (.int .i64 0),.v (.int .i64 1099511627775)] h=aa (.ret (.v (.bool (nP y.known))),h):=λh=>(by rw[<-FX];exact rY _ _ _ h);clear eV mh hv NT oky;cases e1:(decide (iT+1<=y.no)&&decide (y.no<=1048576)) with
    |false=>
     have aN:=ag.mk (λhh hx=>kbad.out hh hx (kvno.out (by unfold rW;rw[e1];rfl)));rw[e1] at w1
     repeat' (first|simp(maxSteps:=9999999) (disch:=first|exact dZ|fail) only[gW,reduceIte,ao,al,vX,yN,Al,zi,BO,Af,aV,dr,bH,eW,aA, *]|refine dX ?_ ?_<;>(intro _;try omega))
     exact aN.out _ kx3.out
    |true=>
     rw[e1] at w1;cases e2:nP y.at_ with
     |false=>
      have aN:=ag.mk (λhh hx=>kbad.out hh hx (kvno.out (by unfold rW;rw[e1,e2];rfl)));rw[e2] at w2
      repeat' (first|simp(maxSteps:=9999999) (disch:=first|exact dZ|fail) only[gW,reduceIte,ao,al,vX,yN,Al,zi,BO,Af,aV,dr,bH,eW,aA, *]|refine dX ?_ ?_<;>(intro _;try omega))
      exact aN.out _ kx3.out
     |true=>
      rw[e2] at w2;cases e3:nP y.known with
      |false=>
       have aN:=ag.mk (λhh hx=>kbad.out hh hx (kvno.out (by unfold rW;rw[e1,e2,e3];rfl)));rw[e3] at w3
       repeat' (first|simp(maxSteps:=9999999) (disch:=first|exact dZ|fail) only[gW,reduceIte,ao,al,vX,yN,Al,zi,BO,Af,aV,dr,bH,eW,aA, *]|refine dX ?_ ?_<;>(intro _;try omega))
       exact aN.out _ kx3.out
      |true=>
       rw[e3] at w3;cases e4:decide (pj y.rN=0) with
       |false=>
        have aN:=ag.mk (λhh hx=>kbad.out hh hx (kvno.out (by unfold rW;rw[e1,e2,e3,e4];rfl)))
        repeat' (first|simp(maxSteps:=9999999) (disch:=first|exact dZ|fail) only[gW,reduceIte,ao,al,vX,yN,Al,zi,BO,Af,aV,dr,bH,eW,aA, *]|refine dX ?_ ?_<;>(intro _;try omega))
        exact aN.out _ kx4.out
       |true=>
        have gH:rW iT y=ab:=(by unfold rW;rw[e1,e2,e3,e4];rfl);have kgo:=ag.mk gH;have NZ: -1<=y.no/\y.no<=1048576:=(by simp only[aL,decide_eq_true_eq] at e1;omega);have kyno:=ag.mk NZ;clear gH NZ
        repeat' (first|simp(maxSteps:=9999999) (disch:=first|exact dZ|fail) only[gW,reduceIte,ao,al,vX,yN,Al,zi,BO,Af,aV,dr,bH,eW,aA, *]|refine dX ?_ ?_<;>(intro _;try omega))
        refine⟨l.length - (i+1),by omega,i+1,y.no,by omega,rfl,(by first|trivial|(simp;done)|(simp;omega)),(by first|trivial|(simp;done)|(simp;omega)),(by first|trivial|(simp;done)|(simp;omega)),(by first|trivial|(simp;done)|(simp;omega)),(by first|trivial|(simp;done)|(simp;omega)),kx4.out,kok4.out,kyno.out.1,kyno.out.2,?_⟩;rw[kno.out,khv.out,kgo.out];rfl
   ·have cJ:i=l.length:=(by omega);subst cJ;have ue:¬((l.length:Int)<(l.length:Int)):=(by omega);have hv:mW (-1) l=ab:=(by rw[kno.out,List.drop_length,mW]);rw[hv]
    repeat' (first|simp(maxSteps:=9999999) (disch:=first|exact dZ|fail) only[gW,reduceIte,ao,al,vX, *]|refine dX ?_ ?_<;>(intro _;try omega))
    exact⟨_,rfl,kx.out⟩
  ·refine⟨0,-1,cz _,rfl,?_,?_,?_,?_,?_,kx0.out,kokh.out,by omega,by omega,by rw[fc]⟩<;>simp only[gW,reduceIte,ao,al,aP]<;>rfl
def GR(at_ known:Int)(iT:Int)(ok:Bool)(x:Vs):Bool:=decide (x.at_<=at_)&&decide (x.known<=known)&&(!ok||decide (iT<=x.at_))
def better(at_ known:Int)(s:Int × Int × Bool)(x:Vs):Int × Int × Bool:=if GR at_ known s.2.1 s.2.2 x=ab then (x.no,x.at_,ab) else s
def uM(at_ known:Int)(l:List Vs):Int × Int × Bool:=l.foldl (better at_ known) (0,0,ak)
noncomputable def om(l:List Vs)(at_ known:Int):Int × Bool × Int:=if ph l=0 then (if (nP at_&&nP known)=ab then ((uM at_ known l).1,(uM at_ known l).2.2,0) else (0,ak,1)) else (0,ak,ph l)
def zL:Tryz.f53.results.toList=[.tmp 6,.tmp 7,.tmp 8]:=ai
def triple(n:Int)(b:Bool)(e:Int):AV:=.tuple [.v (.int .i64 n),.v (.bool b),.v (.int .i64 e)]
def J7(tk:Tok)(sv:Nat)(l:List Vs)(rows:List (List AV))(hr:AA l rows)(hz:∀i:Nat,i<l.length->sv=13)(cI:l.length<=256->GF l)(hb:l.length<=9223372036854775807)(at_ known:Int)(h:ae)(aU:cR h=ab):
 gY W 53 [.list tk sv rows,.v (.int .i64 at_),.v (.int .i64 known)] h (.ret (triple (om l at_ known).1 (om l at_ known).2.1 (om l at_ known).2.2)):=by
 have u36:=SR;have a3:=dE;have a28:=iE;have a52:=GJ;have s52:=FR;have s28:=gV;have z52:=Rg;have aP:=hr.1;obtain⟨h2,c2,x2⟩:=G4 tk sv l rows hr hz cI hb h aU;have kr:=ag.mk hr;have kz:=ag.mk hz;have k2:=ag.mk x2;have w1:∀h:ae,W.call 112 [.v (.int .i64 at_),.v (.int .i64 0),.v (.int .i64 1099511627775)] h=aa (.ret (.v (.bool (nP at_))),h):=λh=>by rw[<-FX];exact rY _ _ _ h
 have w2:∀h:ae,W.call 112 [.v (.int .i64 known),.v (.int .i64 0),.v (.int .i64 1099511627775)] h=aa (.ret (.v (.bool (nP known))),h):=λh=>by rw[<-FX];exact rY _ _ _ h
 clear hr hz cI aU x2;refine eI rfl Tryz.func53 rfl ?_;cases e1:decide (ph l=0) with
 |false=>
  have hF:om l at_ known=(0,ak,ph l):=by unfold om;rw[ax (of_decide_eq_false e1)]
  rw[hF]
  repeat' (first|simp(maxSteps:=9999999) (disch:=first|exact dZ|fail) only[gW,reduceIte,ao,al,zL, *]|refine dX ?_ ?_<;>(intro _;try omega))
  exact⟨_,rfl,k2.out⟩
 |true=>
  have e1':=of_decide_eq_true e1;cases e2:(nP at_&&nP known) with
  |false=>
   have hF:om l at_ known=(0,ak,1):=(by unfold om;rw[aB e1',e2];rfl);rw[hF];rw[e1'] at c2;clear e1 e1';cases e3:nP at_ with
   |false=>
    rw[e3] at w1
    repeat' (first|simp(maxSteps:=9999999) (disch:=first|exact dZ|fail) only[gW,reduceIte,ao,al,zL, *]|refine dX ?_ ?_<;>(intro _;try omega))
    exact⟨_,rfl,k2.out⟩
   |true=>
    rw[e3] at w1 e2;have e4:nP known=ak:=(by simpa using e2);rw[e4] at w2
    repeat' (first|simp(maxSteps:=9999999) (disch:=first|exact dZ|fail) only[gW,reduceIte,ao,al,zL, *]|refine dX ?_ ?_<;>(intro _;try omega))
    exact⟨_,rfl,k2.out⟩
  |true=>
   have hF:om l at_ known=((uM at_ known l).1,(uM at_ known l).2.2,0):=(by unfold om;rw[aB e1',e2];rfl);rw[hF];rw[e1'] at c2;clear e1 e1';simp only[aL] at e2;rw[e2.1] at w1;rw[e2.2] at w2;clear e2
   repeat' (first|simp(maxSteps:=9999999) (disch:=first|exact dZ|fail) only[gW,reduceIte,ao,al,zL, *]|refine dX ?_ ?_<;>(intro _;try omega))
   refine eX (λm e h'=>∃(i:Nat) (no iT:Int) (ok:Bool),i<=l.length/\m=l.length - i/\e.get 1=.v (.int .i64 at_)/\e.get 2=.v (.int .i64 known)/\e.get 6=.v (.int .i64 no)/\e.get 7=.v (.bool ok)/\e.get 9=.v (.int .i64 iT)/\e.get 25=.list tk sv rows/\e.get 26=.v (.int .i64 (l.length:Nat))/\e.get 27=.v (.int .i64 i)/\e.defers=[]/\Ext h h'/\uM at_ known (l.take i)=(no,iT,ok)) ?_ l.length _ _ ?_
   ·rintro m e h' ⟨i,no,iT,ok,hi,rfl,g1,g2,g6,g7,g9,g25,g26,g27,hd,hx,bV⟩;have kx:=ag.mk hx;have kno:=ag.mk bV;clear hx bV w1 w2 c2;by_cases ay:i<l.length
    ·obtain⟨y,t,hy,xG,oky⟩:=kr.out.get ay;have AW:=kz.out i ay;subst AW;have dU:(i:Int)<(rows.length:Int):=(by rw[aP];omega);have ue:(i:Int)<(l.length:Int):=(by omega);have vf:=@QV y t;have kx3:=ag.mk (kx.out.trans (.push _ (fE y t)));have bC:uM at_ known (l.take (i+1))=if GR at_ known iT ok y=ab then (y.no,y.at_,ab) else (no,iT,ok):=by obtain⟨hj,rfl⟩:=aF.1 hy;have e0:uM at_ known (l.take (i+1))=better at_ known (uM at_ known (l.take i)) l[i]:=(by unfold uM;rw[nj hj,List.foldl_append];rfl);rw[e0,kno.out];rfl
     have kst:=ag.mk bC;clear oky bC;cases d1:decide (y.at_<=at_)<;>cases d2:decide (y.known<=known)<;>cases ok<;>cases d3:decide (iT<=y.at_)
     all_goals
      have ew:=kst.out;unfold GR at ew;simp only[d1,d2,d3,uS,Bool.and_false,Bool.false_and,Bool.true_and,Bool.not_true,Bool.not_false,Bool.true_or,Bool.false_or,Bool.or_true,Bool.or_false,Bool.false_eq_true,if_true,if_false] at ew;have kb2:=ag.mk ew;clear ew
      repeat' (first|simp(maxSteps:=9999999) (disch:=first|exact dZ|fail) only[gW,reduceIte,ao,al,zL,yN,Al,zi,Af,aV,dr,bH,eW,aA, *]|(refine dX ?_ ?_<;>(intro _;try omega))|refine bM ai ?_)
      exact⟨l.length - (i+1),by omega,i+1,_,_,_,by omega,rfl,by first|trivial|rfl,by first|trivial|rfl,by first|trivial|rfl,by first|trivial|rfl,by first|trivial|rfl,by first|trivial|rfl,by first|trivial|rfl,by first|trivial|rfl,by first|trivial|rfl,kx3.out,kb2.out⟩
    ·have cJ:i=l.length:=(by omega);subst cJ;have ue:¬((l.length:Int)<(l.length:Int)):=(by omega);rw[jk] at kno;have hk:=kno.out;rw[hk]
     repeat' (first|simp(maxSteps:=9999999) (disch:=first|exact dZ|fail) only[gW,reduceIte,ao,al,zL, *]|refine dX ?_ ?_<;>(intro _;try omega))
     exact⟨_,rfl,kx.out⟩
   ·refine⟨0,0,0,ak,cz _,rfl,?_,?_,?_,?_,?_,?_,?_,?_,?_,k2.out,rfl⟩<;>simp only[gW,reduceIte,ao,al,aP]<;>rfl
def yC(n:Int)(l:List Ex):fR n l=l.map (ee n):=by
 induction l with
 |nil=>rw[fR];rfl|cons x l ih=>rw[fR,ih];rfl
def TG(n:Int)(l:List Ex):(fR n l).length=l.length:=by rw[yC,jj]
def TJ(n m:Int):(∀x,ee n (ee m x)=ee n x)/\∀l,fR n (fR m l)=fR n l:=
 Ex.xN (λk a no s l h=>by rw[ee,ee,ee,h]) (by rw[fR]) (λx r h1 h2=>by rw[fR,fR,h1,h2,fR])
def TL(n:Int)(o:List (List UInt8)):(∀x,ee n (fL o x)=ee n x)/\∀l,fR n (mB o l)=fR n l:=
 Ex.xN (λk a no s l h=>by rw[fL,ee,ee,h]) (by rw[mB]) (λx r h1 h2=>by rw[mB,fR,h1,h2,fR])
def PD(n:Int)(o:List (List UInt8)):(∀x,fL o (ee n x)=fL o x)/\∀l,mB o (fR n l)=mB o l:=
 Ex.xN (λk a no s l h=>by rw[ee,fL,fL,h]) (by rw[fR]) (λx r h1 h2=>by rw[fR,mB,h1,h2,mB])
def Mf(n:Int):(∀x,jr (ee n x)=jr x)/\∀l,iO (fR n l)=iO l:=
 Ex.xN (λk a no s l h=>by rw[ee,jr,jr,h]) (by rw[fR]) (λx r h1 h2=>by rw[fR,iO,h1,h2,iO])
def OL(n:Int)(o:List (List UInt8)):(∀x,mw o (ee n x)=mw o x)/\∀l,s5 o (fR n l)=s5 o l:=
 Ex.xN (λk a no s l h=>by rw[ee,mw,mw,h]) (by rw[fR]) (λx r h1 h2=>by rw[fR,s5,h1,h2,s5])
def MN(n:Int)(up:Bool):(∀x,kh up (ee n x)=kh up x)/\∀l,py up (fR n l)=py up l:=
 Ex.xN (λk a no s l h=>by rw[ee,kh,kh,h,TG]) (by rw[fR]) (λx r h1 h2=>by rw[fR,py,h1,h2,py])
def ji.depth{x y:Ex}(h:ji x y):jr x=jr y:=by rw[<-(Mf 0).1 x,<-(Mf 0).1 y,h]
def ji.named{x y:Ex}(h:ji x y)(o:List (List UInt8)):mw o x=mw o y:=by rw[<-(OL 0 o).1 x,<-(OL 0 o).1 y,h]
def ji.formed{x y:Ex}(h:ji x y)(up:Bool):kh up x=kh up y:=by rw[<-(MN 0 up).1 x,<-(MN 0 up).1 y,h]
def ji.res{x y:Ex}(h:ji x y)(o:List (List UInt8)):fL o x=fL o y:=by rw[<-(PD 0 o).1 x,<-(PD 0 o).1 y,h]
def ji.parts{x y:Ex}(h:ji x y){lim:Int}(hl:0<=lim):Pol.parts x lim=Pol.parts y lim:=by rw[zG x lim hl,zG y lim hl,h.cZ]
def ji.ZU{x y:Ex}(h:ji x y):pO x=pO y:=by unfold pO;rw[h.parts aj,h.depth]
def ji.cI{x y:Ex}(h:ji x y):nY x=nY y:=by unfold nY;rw[h.parts aj]
def Lq(o:List (List UInt8))(x:Ex):ji (fL o x) x:=(TL 0 o).1 x
def Lo(n:Int)(x:Ex):ji (ee n x) x:=(TJ 0 n).1 x
structure fb(p q:Po):Prop where
 name:p.name=q.name
 kinds:p.kinds=q.kinds
 aO:p.aO=q.aO
 mode:p.mode=q.mode
 change:ji p.change q.change
 len:p.rules.length=q.rules.length
 rules:∀(i:Nat) (x y:Rl),p.rules[i]?=aa x->q.rules[i]?=aa y->x.kind=y.kind/\x.gz=y.gz/\ji x.expr y.expr
def fb.get{p q:Po}(h:fb p q){i:Nat}{x:Rl}(hx:p.rules[i]?=aa x):∃y,q.rules[i]?=aa y/\x.kind=y.kind/\x.gz=y.gz/\ji x.expr y.expr:=by have hi:=(aF.1 hx).1;have hq:q.rules[i]?=aa (q.rules[i]'(by rw[<-h.len];exact hi)):=cv _;exact⟨_,hq,h.rules i _ _ hx hq⟩
def fb.symm{p q:Po}(h:fb p q):fb q p:=⟨h.name.symm,h.kinds.symm,h.aO.symm,h.mode.symm,Eq.symm h.change,h.len.symm,λi x y hx hy=>by have:=h.rules i y x hy hx;exact⟨this.1.symm,this.2.1.symm,Eq.symm this.2.2⟩⟩
def fb.trans{p q r:Po}(h:fb p q)(k:fb q r):fb p r:=⟨h.name.trans k.name,h.kinds.trans k.kinds,h.aO.trans k.aO,h.mode.trans k.mode,Ry h.change k.change,h.len.trans k.len,λi x z hx hz=>by obtain⟨y,hy,q1,q2,q3⟩:=h.get hx;have:=k.rules i y z hy hz;exact⟨q1.trans this.1,q2.trans this.2.1,Ry q3 this.2.2⟩⟩
def fb.exprs{p q:Po}(h:fb p q){j:Nat}{x:Ex}(hx:(exprs p)[j]?=aa x):∃y,(Proofs.YtmdakolcndpjeaaGreatDoor.exprs q)[j]?=aa y/\ji x y:=by
 have hj:=(aF.1 hx).1;rw[Hi] at hj;rcases Nat.lt_or_ge j p.rules.length with w|w
 ·have hr:p.rules[j]?=aa p.rules[j]:=cv w;rw[DQ hr] at hx;injection hx with hx;obtain⟨y,hy,-,-,q3⟩:=h.get hr;exact⟨y.expr,DQ hy,hx ▸ q3⟩
 ·have:j=p.rules.length:=by omega
  subst this;rw[DP] at hx;injection hx with hx;rw[h.len];exact⟨_,DP q,hx ▸ h.change⟩
def fb.MB{p q:Po}(h:fb p q){x:Ex}(hx:x∈Proofs.YtmdakolcndpjeaaGreatDoor.exprs p):∃y,y∈Proofs.YtmdakolcndpjeaaGreatDoor.exprs q/\ji x y:=by obtain⟨j,hj,rfl⟩:=wN.1 hx;obtain⟨y,hy,ha⟩:=h.exprs (cv hj);exact⟨y,ie hy,ha⟩
def fb.Qp{p q:Po}(h:fb p q)(hs:lR p=ab):lR q=ab:=by have:=yd.1 hs;refine yd.2 ⟨by rw[<-h.aO];exact this.1,by rw[<-h.kinds];exact this.2.1,by rw[<-h.len];exact this.2.2.1,λy hy=>?_⟩;obtain⟨x,hx,ha⟩:=h.symm.MB hy;rw[ha.ZU];exact this.2.2.2 x hx
def fb.OM{p q:Po}(h:fb p q)(hs:jU p=ab):jU q=ab:=by have:=uy.1 hs;refine uy.2 ⟨by rw[<-h.name];exact this.1,by rw[<-h.aO];exact this.2.1,by rw[<-h.kinds];exact this.2.2.1,λy hy=>?_⟩;obtain⟨x,hx,ha⟩:=h.symm.MB hy;rw[ha.named,<-h.aO];exact this.2.2.2 x hx
def fb.MM{p q:Po}(h:fb p q)(hs:kj p=ab):kj q=ab:=by
 have:=sE.1 hs;refine sE.2 ⟨by rw[<-h.kinds];exact this.1,by rw[<-h.kinds,<-h.len];exact this.2.1,by rw[<-h.mode];exact this.2.2.1,λj y hy=>?_,λj y hy=>?_⟩
 ·obtain⟨x,hx,q1,q2,-⟩:=h.symm.get hy;have:=this.2.2.2.1 j x hx;unfold sI at this ⊢;rw[<-h.kinds,q1,q2];exact this
 ·obtain⟨x,hx,ha⟩:=h.symm.exprs hy;rw[ha.formed,<-h.len];exact this.2.2.2.2 j x hx
def Dr{a b:Bool}(h1:a=ab->b=ab)(h2:b=ab->a=ab):a=b:=by rw[Bool.eq_iff_iff];exact⟨h1,h2⟩
def fb.small{p q:Po}(h:fb p q):lR p=lR q:=Dr h.Qp h.symm.Qp
def fb.names{p q:Po}(h:fb p q):jU p=jU q:=Dr h.OM h.symm.OM
def fb.formed{p q:Po}(h:fb p q):kj p=kj q:=Dr h.MM h.symm.MM
def fb.code{p q:Po}(h:fb p q):gp p=gp q:=by rw[tQ,tQ,h.small,h.names,h.formed]
def fb.res{p q:Po}(h:fb p q):iz p=iz q:=by
 have hr:jf p.aO p.rules=jf q.aO q.rules:=by
  unfold jf;refine List.ext_getElem? λi=>?_;rw[yv,yv];cases hx:p.rules[i]? with
  |none=>rw[List.getElem?_eq_none (by rw[<-h.len];exact List.getElem?_eq_none_iff.1 hx)];rfl
  |some x=>obtain⟨y,hy,q1,q2,q3⟩:=h.get hx;rw[hy];simp only[cy,aY,Rl.mk.injEq];exact⟨q1,ev,q2,by rw[q3.res,h.aO]⟩
 unfold iz;rw[hr,h.change.res,h.aO];cases p;cases q;have e1:=h.name;have e2:=h.kinds;have e3:=h.mode;have e4:=h.aO;simp_all
def Lr(p:Po):fb (iz p) p:=by refine⟨rfl,rfl,rfl,rfl,Lq _ _,by simp[iz,jf],λi x y hx hy=>?_⟩;have hx:(jf p.aO p.rules)[i]?=some x:=hx;unfold jf at hx;rw[List.getElem?_mapIdx,hy] at hx;simp only[Option.map_some,Option.some.injEq] at hx;subst hx;exact⟨rfl,rfl,Lq _ _⟩
def acB(p:Po):iz (iz p)=iz p:=(Lr p).res
def Vj(p:Po):gp (iz p)=gp p:=(Lr p).code
def fb.Hk{p q:Po}(h:fb p q)(hs:oF p=ab):oF q=ab:=by unfold oF at hs ⊢;simp only[aL,decide_eq_true_eq,dn] at hs ⊢;refine⟨⟨⟨⟨by rw[<-h.aO];exact hs.1.1.1.1,by rw[<-h.kinds];exact hs.1.1.1.2⟩,by rw[<-h.len];exact hs.1.1.2⟩,by rw[<-h.change.cI];exact hs.1.2⟩,λy hy=>?_⟩;obtain⟨j,hj,rfl⟩:=wN.1 hy;obtain⟨x,hx,-,-,q3⟩:=h.symm.get (cv hj);rw[q3.cI];exact hs.2 x (ie hx)
def fb.cI{p q:Po}(h:fb p q):oF p=oF q:=Dr h.Hk h.symm.Hk
def MG{p:Po}(h:oF p=true):lA p:=by
 unfold oF at h;simp only[aL,decide_eq_true_eq,dn] at h;have key:∀x,nY x=ab->cZ x<=1000:=by
  intro x hx;unfold nY at hx;rw[zG x 400 aj] at hx;simp only[ly,aL,decide_eq_true_eq] at hx;by_cases q:(cZ x:Int)<=400
  ·omega
  ·rw[ax q] at hx;omega
 exact⟨key _ h.1.2,λx hx=>key _ (h.2 x hx),by have:=h.1.1.2;omega⟩
def U8{p:Po}(h:gp p=0):pj (iz p)=0:=by unfold pj;rw[Vj,aB h,acB,aB (rT.2 rfl)]
def kK:List UInt8:=[104,101,97,100]
def lj:List UInt8:=[98,111,97,114,100]
def nN:List UInt8:=[108,101,116,116,101,114]
def Qd:List UInt8:=[104,111,117,115,101]
def jh:Ex:=.mk 2 5 0 lj []
def gj:Ex:=.mk 1 0 0 kK []
def mE:Ex:=.mk 4 100 0 [] [gj,jh]
def yk:Ex:=.mk 3 2 0 [] [gj,jh]
def sP:Po:=⟨Qd,[nN],[kK,lj],[⟨nN,0,7,mE⟩],yk,3⟩
def je:List AV:=ar 2 5 0 lj .nil 0 []
def jd:List AV:=ar 1 0 0 kK .nil 0 []
def sT:PT:=⟨.tight,1,.tight,1,.tight,8,[aS ⟨nN,0,7,mE⟩ .tight 5 [jd,je]],.tight,5,[jd,je]⟩
def adn:Row jh je:=.mk _ _ _ _ _ _ _ _ rfl (λi hi=>absurd hi (ik i)) (cz _) (λi x r h=>by simp at h)
def adm:Row gj jd:=.mk _ _ _ _ _ _ _ _ rfl (λi hi=>absurd hi (ik i)) (cz _) (λi x r h=>by simp at h)
def PL:Pol.Rows [gj,jh] [jd,je]:=Pol.Rows.snoc (Pol.Rows.snoc Pol.Rows.nil adm) adn
def Fj(k n:Int):Row (.mk k n 0 [] [gj,jh]) (ar k n 0 [] .tight 5 [jd,je]):=.mk _ _ _ _ _ _ _ _ PL.1 (λ_ _=>rfl) bh PL.2
def abx{x:Rl}{tok:Tok}{sz:Nat}{rows:List (List AV)}(h:Row x.expr (r5 x tok sz rows)):eo [x] [aS x tok sz rows]:=eo.snoc eo.nil (oz.mk h)
def yc:ek sP sT:=⟨abx (x:=⟨nN,0,7,mE⟩) (Fj 4 100),Fj 3 2,λ_ _=>rfl,λ_ _=>rfl,λ_ _=>rfl,by decide,by decide,by decide⟩
def AL(k n:Int):cZ (.mk k n 0 [] [gj,jh])=3:=by simp[cZ,fI,gj,jh]
def Qb:lA sP:=⟨by show cZ yk<=1000;rw[yk,AL];omega,λx hx=>by simp[sP] at hx;subst hx;show cZ mE<=1000;rw[mE,AL];omega,by decide⟩
def IN(k n:Int):pO (.mk k n 0 [] [gj,jh])=ak:=by unfold pO;rw[zG _ _ aj,AL];simp[jr,iO,gj,jh]
def Qg:lR sP=ab:=by
 refine yd.2 ⟨bq,by decide,by decide,λx hx=>?_⟩;simp[exprs,sP] at hx;rcases hx with rfl|rfl
 ·exact IN 4 100
 ·exact IN 3 2
def Jg(k n:Int)(hk:(decide (k=1)||decide (k=2))=ak):mw [kK,lj] (.mk k n 0 [] [gj,jh])=ab:=by
 rw[mw,hk];simp only[gj,jh,s5,mw];have h1:idx [kK,lj] kK=0:=by decide
 have h2:idx [kK,lj] lj=1:=by decide
 rw[h1,h2];rfl
def Qe:jU sP=ab:=by
 refine uy.2 ⟨bq,by decide,by decide,λx hx=>?_⟩;simp[exprs,sP] at hx;rcases hx with rfl|rfl
 ·exact Jg 4 100 rfl
 ·exact Jg 3 2 rfl
def WX:kh ab mE=ab:=by simp[mE,gj,jh,kh,py,iY]
def WW:kh ak yk=ab:=by simp[yk,gj,jh,kh,py,iY]
def Qc:kj sP=ab:=by
 refine sE.2 ⟨bq,by decide,by decide,λj x hx=>?_,λj y hy=>?_⟩
 ·cases j with|zero=>simp[sP] at hx;subst hx;decide|succ j=>simp[sP] at hx
 ·cases j with
  |zero=>simp[exprs,sP] at hy;subst hy;exact WX|succ j=>
   cases j with|zero=>simp[exprs,sP] at hy;subst hy;exact WW|succ j=>simp[exprs,sP] at hy
def Qa:gp sP=0:=by rw[tQ,Qg,Qe,Qc];rfl
def adw:Tryz.f51.results.toList=[.cell 0 28]:=ai
def PU:Tryz.f55.results.toList=[.tmp 2]:=ai
def adx:Tryz.f56.results.toList=[]:=ai
def ady:Tryz.f57.results.toList=[]:=ai
def adz:Tryz.f58.results.toList=[]:=ai
def adA:Tryz.f59.results.toList=[]:=ai
def adB:Tryz.f60.results.toList=[]:=ai
def adC:Tryz.f61.results.toList=[]:=ai
def TM:gb aq 26 [(0,.v (.int .i64 2)),(1,.v (.int .i64 5)),(3,.v (.string (bs [98,111,97,114,100])))]=aa (.agg je):=ai
def TO:gb aq 26 [(0,.v (.int .i64 1)),(3,.v (.string (bs [104,101,97,100])))]=aa (.agg jd):=ai
def TQ:gl aq 24 2 [(0,.agg jd),(1,.agg je)]=aa (.list .tight 5 [jd,je]):=ai
def TR:gb aq 26 [(0,.v (.int .i64 4)),(1,.v (.int .i64 100)),(4,.list .tight 5 [jd,je])]=aa (.agg (ar 4 100 0 [] .tight 5 [jd,je])):=ai
def TS:gl aq 22 2 [(0,.v (.string (bs [104,101,97,100]))),(1,.v (.string (bs [98,111,97,114,100])))]=aa (.list .tight 1 (strs [kK,lj])):=ai
def TT:gl aq 22 1 [(0,.v (.string (bs [108,101,116,116,101,114])))]=aa (.list .tight 1 (strs [nN])):=ai
def TU:gb aq 62 [(0,.v (.string (bs [108,101,116,116,101,114]))),(2,.v (.int .i64 7)),(3,.agg (ar 4 100 0 [] .tight 5 [jd,je]))]=aa (.agg (aS ⟨nN,0,7,mE⟩ .tight 5 [jd,je])):=ai
def TV:gb aq 26 [(0,.v (.int .i64 3)),(1,.v (.int .i64 2)),(4,.list .tight 5 [jd,je])]=aa (.agg (ar 3 2 0 [] .tight 5 [jd,je])):=ai
def TN:gb aq 28 [(0,.v (.string (bs [104,111,117,115,101]))),(2,.list .tight 1 (strs [kK,lj])),(1,.list .tight 1 (strs [nN])),(3,.list .tight 8 [aS ⟨nN,0,7,mE⟩ .tight 5 [jd,je]]),(4,.agg (ar 3 2 0 [] .tight 5 [jd,je])),(5,.v (.int .i64 3))]=aa (.agg (au sP sT)):=ai
def FF(h:ae):gY W 51 [] h (.ret (.agg (au sP sT))):=by
 have a26:=eG;have a28:=iE;have z28:=qX;have z26:=nS;have s28:=gV;have e1:∀(hh:ae),Ext h hh->∃h',(aa (bw.ret (AV.agg (au sP sT)),hh):Option (bw × ae))=aa (.ret (.agg (au sP sT)),h')/\Ext h h':=λhh hx=>⟨hh,rfl,hx⟩;have l1:∀(h:ae) (b:Nat),h.boxes[b]?=aa je->dz aq Gt h 26 (.ptr (.box b) 0)=aa (.agg je):=λh b hb=>lI hb;have l2:∀(h:ae) (b:Nat),h.boxes[b]?=aa jd->dz aq Gt h 26 (.ptr (.box b) 0)=aa (.agg jd):=λh b hb=>lI hb;have ye:∀(h:ae) (b:Nat),h.boxes[b]?=aa (ar 0 0 0 [] .nil 0 [])->dh aq h 26 (.ptr (.box b) 0) (.agg je)=aa (h.put b je):=λh b hb=>qT hb;have J5:∀(h:ae) (b:Nat),h.boxes[b]?=aa (ar 0 0 0 [] .nil 0 [])->dh aq h 26 (.ptr (.box b) 0) (.agg jd)=aa (h.put b jd):=λh b hb=>qT hb;refine eI rfl Tryz.func51 rfl ?_
 repeat' (first|simp(maxSteps:=9999999) (disch:=first|exact dZ|fail) only[gW,reduceIte,ao,al,adw,TM,TO,TQ,TR,TS,TT,TU,TV,TN,yG,l1,l2,lI,cT,qT,oo,ye,J5,bH,eW,aA, *]|refine dX ?_ ?_<;>(intro _;try omega))
 exact⟨_,rfl,((((Ext.push _ _).trans (.push _ _)).trans (.push _ _)).trans (.push _ _))⟩
section
variable {h:ae} {b:Nat} {p:Po} {t:PT} {tok':Tok} {sz':Nat} {n:Int}
def afb(hb:h.boxes[b]?=aa (au p t)):dh aq h 3 (.ptr (.box b) 5) (.v (.int .i64 n))=aa (h.put b (au {p with change:=.mk p.change.kind n p.change.no p.change.name p.change.l} t)):=dK (off:=5) (cs:=au p t) (xs:=[.v (.int .i64 n)]) rfl bQ hb rfl (aj:5+1<=10)
def afc{b':Nat}(hb:h.boxes[b]?=aa (au p t)):dh aq h 22 (.ptr (.box b) 2) (.arr b' 0 33 33)=aa (h.put b (dO (au p t) 2 [.arr b' 0 33 33])):=dK (off:=2) (cs:=au p t) (xs:=[.arr b' 0 33 33]) rfl yh hb rfl (aj:2+1<=10)
end
def Wv(sz:Nat)(es:List (List AV))(i off:Nat):cN aq 26 (.elem sz es i off) 4=aa (.elem sz es i (off+4)):=ai
def Wu(sz:Nat)(es:List (List AV))(i off:Nat):cN aq 26 (.elem sz es i off) 2=aa (.elem sz es i (off+2)):=ai
def Ww(sz:Nat)(es:List (List AV))(i off:Nat):cN aq 62 (.elem sz es i off) 1=aa (.elem sz es i (off+1)):=ai
def yo(g:FuncId)(q:Po)(u:PT):Prop:=∀(h:ae) (b:Nat),h.boxes[b]?=aa (au sP sT)->W.call g [.ptr (.box b) 0] h=aa (.ret (.tuple []),h.put b (au q u))
def zI:Po:={sP with aO:=[kK,kK,lj]}
def vW:Po:={sP with kinds:=[],rules:=[]}
def tf:Po:={sP with change:=mE}
def uH:Po:={sP with change:=.mk 3 3 0 [] [gj,jh]}
def QU:PT:={sT with tk:=.nil,sk:=0,tr:=.nil,sr:=0,rr:=[]}
def TP:gl aq 22 3 [(0,.v (.string (bs [104,101,97,100]))),(1,.v (.string (bs [104,101,97,100]))),(2,.v (.string (bs [98,111,97,114,100])))]=aa (.list .tight 1 (strs [kK,kK,lj])):=ai
def U1:yo 56 zP zT:=by
 intro h b hb;refine fg rfl Tryz.func56 rfl ?_
 repeat' (first|simp(maxSteps:=9999999) (disch:=first|exact dZ|fail) only[gW,reduceIte,ao,al,adx,Dv,oo, *]|refine dX ?_ ?_<;>(intro _;try omega))
def U2:yo 57 zI sT:=by
 intro h b hb;refine fg rfl Tryz.func57 rfl ?_
 repeat' (first|simp(maxSteps:=9999999) (disch:=first|exact dZ|fail) only[gW,reduceIte,ao,al,ady,TP,afa,bN, *]|refine dX ?_ ?_<;>(intro _;try omega))
 rfl
def U3:yo 58 vW QU:=by
 intro h b hb;have nb:=(aF.1 hb).1;refine fg rfl Tryz.func58 rfl ?_
 repeat' (first|simp(maxSteps:=9999999) (disch:=first|exact dZ|fail) only[gW,reduceIte,ao,al,adz,ae9,uN,bN,dA, *]|refine dX ?_ ?_<;>(intro _;try omega))
 rfl
def U5:yo 60 uH sT:=by
 intro h b hb;refine fg rfl Tryz.func60 rfl ?_
 repeat' (first|simp(maxSteps:=9999999) (disch:=first|exact dZ|fail) only[gW,reduceIte,ao,al,adB,afb,bN,jK,gE, *]|refine dX ?_ ?_<;>(intro _;try omega))
 rfl
def U4:yo 59 tf sT:=by
 intro h b hb;have u23:=lB;have a23:=nq;have a26:=eG;have s26:=ec;have s43:=mU;have e0:(sT.rr.length:Int)=1:=rfl;have e1:sT.rr[0]?=aa (aS ⟨nN,0,7,mE⟩ .tight 5 [jd,je]):=rfl;have e2:sT.sr=8:=rfl;have rf:=@PN ⟨nN,0,7,mE⟩ .tight 5 [jd,je];have e3:∀(h:ae) (b:Nat),h.boxes[b]?=aa (au sP sT)->dh aq h 26 (.ptr (.box b) 4) (.agg (r5 ⟨nN,0,7,mE⟩ .tight 5 [jd,je]))=aa (h.put b (au tf sT)):=λh b hb=>Kb (e:=mE) hb;refine fg rfl Tryz.func59 rfl ?_
 repeat' (first|simp(maxSteps:=9999999) (disch:=first|exact dZ|fail) only[gW,reduceIte,ao,al,adA,cT,bN,dt,cK,eO,aV,dr,e0,e1,e2,e3, *]|refine dX ?_ ?_<;>(intro _;try omega))
def V3{q:Po}(h:gp q≠0):(hY q).1=zP:=by
 unfold gp at h;unfold hY at h ⊢;split
 ·rfl
 ·split
  ·rfl
  ·split
   ·rfl
   ·rename_i q1 q2 q3;rw[ax q1,ax q2,ax q3] at h;exact absurd rfl h
def AJ{g:FuncId}{q:Po}{u:PT}(C:yo g q u)(ok:ek q u)(cI:lA q){c:Int}(hc:gp q=c)(bL:decide (c=0)=ak)(h:ae)(aU:cR h=ab):gY W 55 [.func (.func g) [] []] h (.ret (.v (.int .i64 c))):=by
 have a28:=iE;have z28:=qX;have s28:=gV;obtain⟨h1,c1,x1⟩:=FF h;have n0:h1.boxes.length<(h1.push (au sP sT)).boxes.length:=by rw[aA];omega
 have cg:=C (h1.push (au sP sT)) h1.boxes.length (bX _ _);rw[E3] at cg;obtain⟨u2,h2,c2,x2,ok2⟩:=Cj q u ok cI (h1.push (au q u)) (x1.ok aU);have hz:=V3 (by rw[hc];exact of_decide_eq_false bL);have qw:(hY q).2=c:=hc;rw[hz,qw] at c2;rw[hz] at ok2;obtain⟨h3,c3,x3⟩:=J2 zP zP u2 zT ok2 wI (h2.push (au zP u2));rw[rT.2 rfl] at c3;have b1:=x2.box _ _ (bX h1 (au q u));have n1:=(aF.1 b1).1;have k3:=ag.mk ((((x1.trans (.push _ (au q u))).trans x2).trans (.push _ (au zP u2))).trans x3);clear x1 x2 x3 ok2 cI aU ok hz qw;refine eI rfl SN rfl ?_
 repeat' (first|simp(maxSteps:=9999999) (disch:=first|exact dZ|fail) only[gW,reduceIte,ao,al,PU,cT,oo,Dv,bH,eW,aA,dI,bT, *]|refine dX ?_ ?_<;>(intro _;try omega))
 exact⟨_,rfl,k3.out⟩
def Rc:lA zP:=⟨by simp[zP,cZ,fI],λx hx=>by simp[zP] at hx,by simp[zP]⟩
def G6:gp zP=201:=by
 have h1:lR zP=ab:=yd.2 ⟨bq,by decide,by decide,λx hx=>by simp[exprs,zP] at hx;subst hx;unfold pO;rw[zG _ _ aj];simp[cZ,fI,jr,iO]⟩;have h2:jU zP=ak:=by
  rw[ib];intro q;have:=(uy.1 q).1
  revert this;decide
 rw[tQ,h1,h2];rfl
def wq{q:Po}(h1:q.aO.length<=32)(h2:q.kinds.length<=16)(h3:q.rules.length<=16)(h4:∀x∈exprs q,∃k n,x=.mk k n 0 [] [gj,jh]):lR q=ab/\lA q:=by
 refine⟨yd.2 ⟨h1,h2,h3,λx hx=>?_⟩,?_,λx hx=>?_,by omega⟩
 ·obtain⟨k,n,rfl⟩:=h4 x hx;exact IN k n
 ·obtain⟨k,n,e⟩:=h4 q.change (by simp[exprs]);rw[e,AL];omega
 ·obtain⟨k,n,e⟩:=h4 x.expr (List.mem_append_left _ (List.mem_map_of_mem hx));rw[e,AL];omega
def Mt:∀x∈exprs zI,∃k n,x=.mk k n 0 [] [gj,jh]:=λx hx=>by
 simp[exprs,zI,sP] at hx;rcases hx with rfl|rfl
 ·exact⟨4,100,rfl⟩
 ·exact⟨3,2,rfl⟩
def Mu:∀x∈exprs vW,∃k n,x=.mk k n 0 [] [gj,jh]:=λx hx=>by simp[exprs,vW,sP] at hx;subst hx;exact⟨3,2,rfl⟩
def Mv:∀x∈exprs tf,∃k n,x=.mk k n 0 [] [gj,jh]:=λx hx=>by simp[exprs,tf,sP] at hx;subst hx;exact⟨4,100,rfl⟩
def Mw:∀x∈exprs uH,∃k n,x=.mk k n 0 [] [gj,jh]:=λx hx=>by
 simp[exprs,uH,sP] at hx;rcases hx with rfl|rfl
 ·exact⟨4,100,rfl⟩
 ·exact⟨3,3,rfl⟩
def Vd:gp zI=201:=by
 have h2:jU zI=ak:=by
  rw[ib];intro q;have:=(uy.1 q).2.1
  revert this;decide
 rw[tQ,(wq bq bq bq Mt).1,h2];rfl
def Jf{q:Po}(h0:qo q.name=ab)(h1:qn q.aO=ab)(h2:qn q.kinds=ab)(h3:q.aO=[kK,lj])(h4:∀x∈exprs q,∃k n,x=.mk k n 0 [] [gj,jh]/\(decide (k=1)||decide (k=2))=ak):jU q=ab:=
 uy.2 ⟨h0,h1,h2,λx hx=>by obtain⟨k,n,rfl,hk⟩:=h4 x hx;rw[h3];exact Jg k n hk⟩
def Ve:gp vW=200:=by
 have h2:jU vW=ab:=Jf bq bq bq rfl λx hx=>by simp[exprs,vW,sP] at hx;subst hx;exact⟨3,2,rfl,rfl⟩
 have h3:kj vW=ak:=by
  rw[ib];intro q;have:=(sE.1 q).1
  revert this;decide
 rw[tQ,(wq bq bq bq Mu).1,h2,h3];rfl
def Vf:gp tf=200:=by
 have h2:jU tf=ab:=Jf bq bq bq rfl λx hx=>by simp[exprs,tf,sP] at hx;subst hx;exact⟨4,100,rfl,rfl⟩
 have h3:kj tf=ak:=by
  rw[ib];intro q;have:=(sE.1 q).2.2.2.2 1 mE rfl
  revert this;simp[tf,sP,mE,gj,jh,kh,py,iY]
 rw[tQ,(wq bq bq bq Mv).1,h2,h3];rfl
def Vg:gp uH=200:=by
 have h2:jU uH=ab:=Jf bq bq bq rfl λx hx=>by
  simp[exprs,uH,sP] at hx;rcases hx with rfl|rfl
  ·exact⟨4,100,rfl,rfl⟩
  ·exact⟨3,3,rfl,rfl⟩
 have h3:kj uH=ak:=by
  rw[ib];intro q;have:=(sE.1 q).2.2.2.2 1 _ rfl
  revert this;simp[uH,sP,gj,jh,kh,py,iY]
 rw[tQ,(wq bq bq bq Mw).1,h2,h3];rfl
def abn:ek zI sT:=⟨yc.rules,yc.expr,λ_ _=>rfl,λ_ _=>rfl,λ_ _=>rfl,by decide,by decide,by decide⟩
def abo:ek vW QU:=⟨eo.nil,yc.expr,λi hi=>absurd hi (ik i),λ_ _=>rfl,λi hi=>absurd hi (ik i),by decide,by decide,by decide⟩
def abp:ek tf sT:=⟨yc.rules,Fj 4 100,λ_ _=>rfl,λ_ _=>rfl,λ_ _=>rfl,by decide,by decide,by decide⟩
def abq:ek uH sT:=⟨yc.rules,Fj 3 3,λ_ _=>rfl,λ_ _=>rfl,λ_ _=>rfl,by decide,by decide,by decide⟩
def iq(b:Nat):List AV:=dO (au sP sT) 2 [.arr b 0 33 33]
def Lz:(∀b:Nat,(AV.agg (iq b)).cF=aa (iq b))/\(∀b:Nat,((iq b).drop 2).head?=aa (.arr b 0 33 33))/\(∀b:Nat,((iq b).drop 1).head?=aa (.list .tight 1 (strs [nN])))/\(∀b:Nat,((iq b).drop 3).head?=aa (.list .tight 8 [aS ⟨nN,0,7,mE⟩ .tight 5 [jd,je]])):=⟨λ_=>rfl,λ_=>rfl,λ_=>rfl,λ_=>rfl⟩
def OB{h:ae}{b c:Nat}(hb:h.boxes[b]?=aa (iq c)):dz aq Gt h 28 (.ptr (.box b) 0)=aa (.agg (iq c)):=nH iE gV hb (aK _)
def Ty(c:Nat)(h:ae):W.call 67 [.agg (iq c)] h=aa (.panic (gU 2),h.push (iq c)):=by
 have a22:=oA;have a23:=nq;have u22:=Tryz.underlying22;have u23:=lB;refine fg rfl Tryz.func67 rfl ?_
 repeat' (first|simp(maxSteps:=9999999) (disch:=first|exact dZ|fail) only[gW,reduceIte,ao,al,xY,bN,Lz,Oq,jc, *]|refine dX ?_ ?_<;>(intro _;try omega))
def Ti(b c:Nat)(h:ae)(hb:h.boxes[b]?=aa (iq c)):W.call 66 [.ptr (.box b) 0] h=aa (.panic (gU 2),h.push (iq c)):=by
 have c1:=Ty c h;refine fg rfl Tryz.func66 rfl ?_
 repeat' (first|simp(maxSteps:=9999999) (disch:=first|exact dZ|fail) only[gW,reduceIte,ao,al,Cg,OB, *]|refine dX ?_ ?_<;>(intro _;try omega))
def SV(b c:Nat)(h:ae)(hb:h.boxes[b]?=aa (iq c)):gY W 65 [.func (.func 66) [] [.ptr (.box b) 0]] h (.ret (.v (.int .i64 2))):=by
 have c2:=Ti b c (h.push [.v (.int .i64 0)]) (bW hb);have f1:((h.push [.v (.int .i64 0)]).push (iq c)).boxes[h.boxes.length]?=aa [.v (.int .i64 0)]:=bW (bX _ _);have a31:=Dk;have z31:=Rf;have qu:=LZ h.boxes.length ((h.push [.v (.int .i64 0)]).push (iq c)) 2 f1;have kx:=ag.mk (((Ext.push h [.v (.int .i64 0)]).trans (.push _ (iq c))).trans (.push _ [.v (.int .i64 2)]));have f2:((((h.push [.v (.int .i64 0)]).push (iq c)).push [.v (.int .i64 2)]).put h.boxes.length [.v (.int .i64 2)]).boxes[h.boxes.length]?=aa [.v (.int .i64 2)]:=mz (by simp only[aA];omega);generalize hH:(((h.push [.v (.int .i64 0)]).push (iq c)).push [.v (.int .i64 2)]).put h.boxes.length [.v (.int .i64 2)]=hE at qu f2;have kE:=ag.mk hH;clear hH;refine eI rfl Tryz.func65 rfl ?_
 repeat' (first|simp(maxSteps:=9999999) (disch:=first|exact dZ|fail) only[gW,reduceIte,ao,al,JH,FN,aJ, *]|refine dX ?_ ?_<;>(intro _;try omega))
 exact⟨_,rfl,by rw[<-kE.out];exact kx.out.dm (aK _) _⟩
def SU(c:Nat)(h:ae):gY W 25 [.agg (iq c)] h (.ret (.tuple [.agg (au zP zT),.v (.int .i64 2)])):=by
 have a28:=iE;have s28:=gV;have z28:=qX;obtain⟨h4,c4,eV⟩:=SV h.boxes.length c ((h.push (iq c)).push (au zP zT)) (bW (bX h _));have b6:=eV.box (h.boxes.length+1) (au zP zT) (by have:=bX (h.push (iq c)) (au zP zT);rw[aA] at this;exact this);have k4:=ag.mk (((Ext.push h (iq c)).trans (.push _ (au zP zT))).trans eV);have ln6:=(aF.1 b6).1;clear eV;refine eI rfl Tryz.func25 rfl ?_
 repeat' (first|simp(maxSteps:=9999999) (disch:=first|exact dZ|fail) only[gW,reduceIte,ao,al,Cc,Lz,cT,oo,aA, *]|refine dX ?_ ?_<;>(intro _;try omega))
 exact⟨_,rfl,k4.out.dm (b:=h.boxes.length+1) aj _⟩
def aax(h:ae):zm aq h 22 (.v (.int .i64 33)) (.v (.int .i64 33))=aa (.arr h.boxes.length 0 33 33,h.push (gC 33 (AV.v (.string (bs []))))):=ai
def U6(h:ae)(b:Nat)(hb:h.boxes[b]?=aa (au sP sT)):W.call 61 [.ptr (.box b) 0] h=aa (.ret (.tuple []),(h.push (gC 33 (AV.v (.string (bs []))))).put b (iq h.boxes.length)):=by
 have nb:=(aF.1 hb).1;refine fg rfl Tryz.func61 rfl ?_
 repeat' (first|simp(maxSteps:=9999999) (disch:=first|exact dZ|fail) only[gW,reduceIte,ao,al,adC,aax,bN,afc, *]|refine dX ?_ ?_<;>(intro _;try omega))
 rfl
def U7(h:ae)(aU:cR h=ab):gY W 55 [.func (.func 61) [] []] h (.ret (.v (.int .i64 2))):=by
 have a28:=iE;have z28:=qX;have s28:=gV;obtain⟨h1,c1,x1⟩:=FF h;have cg:=U6 (h1.push (au sP sT)) h1.boxes.length (bX _ _);rw[eW (by rw[aA];omega),E3] at cg;obtain⟨h2,c2,x2⟩:=SU (h1.push (au sP sT)).boxes.length ((h1.push (iq (h1.push (au sP sT)).boxes.length)).push (gC 33 (AV.v (.string (bs [])))));obtain⟨h3,c3,x3⟩:=J2 zP zP zT zT wI wI (h2.push (au zP zT));rw[rT.2 rfl] at c3;have b1:=x2.box _ _ (bW (bX h1 (iq (h1.push (au sP sT)).boxes.length)));have n1:=(aF.1 b1).1;have k3:=ag.mk (((((x1.trans (.push _ (iq (h1.push (au sP sT)).boxes.length))).trans (.push _ (gC 33 (AV.v (.string (bs [])))))).trans x2).trans (.push _ (au zP zT))).trans x3);have b0:((h1.push (iq (h1.push (au sP sT)).boxes.length)).push (gC 33 (AV.v (.string (bs []))))).boxes[h1.boxes.length]?=aa (iq (h1.push (au sP sT)).boxes.length):=bW (bX h1 _);generalize hR:(gC 33 (AV.v (.string (bs []))))=rr at cg c2 b0 k3;generalize hN:(h1.push (au sP sT)).boxes.length=nn at cg c2 b0 k3 b1;clear x1 x2 x3 aU;refine eI rfl SN rfl ?_
 repeat' (first|simp(maxSteps:=9999999) (disch:=first|exact dZ|fail) only[gW,reduceIte,ao,al,PU,cT,OB,oo,Dv,bH,eW,dI,bT, *]|refine dX ?_ ?_<;>(intro _;try omega))
 exact⟨_,rfl,k3.out⟩
def rZ:Ex:=.mk 2 5 1 lj []
def sR:Po:=⟨Qd,[nN],[kK,lj],[⟨nN,0,7,.mk 4 100 0 [] [gj,rZ]⟩],.mk 3 2 0 [] [gj,rZ],3⟩
def JW:iz sP=sR:=by
 have h1:idx [kK,lj] kK=0:=by decide
 have h2:idx [kK,lj] lj=1:=by decide
 simp[iz,jf,sP,mE,yk,gj,jh,fL,mB,h1,h2,sR,rZ]
def QT{k n:Int}{tok:Tok}{sz:Nat}{rows:List (List AV)}(h:Row (.mk k n 0 [] [gj,rZ]) (ar k n 0 [] tok sz rows)):sz=5/\∃ta sa ra tb sb rb,rows=[ar 1 0 0 kK ta sa ra,ar 2 5 1 lj tb sb rb]:=by
 obtain⟨h1,h2,-⟩:=Row.yO h;simp only[Ex.l] at h1 h2;refine⟨h2 0 bh,?_⟩;have hl:=h1.1
 match rows,hl with
 | [a,b],_=>obtain⟨ta,sa,ra,rfl,-⟩:=Row.iQ (h1.2 0 gj a rfl rfl);obtain⟨tb,sb,rb,rfl,-⟩:=Row.iQ (h1.2 1 rZ b rfl rfl);exact⟨ta,sa,ra,tb,sb,rb,rfl⟩
def ad7{t:PT}(ok:ek sR t):t.sr=8/\∃tok ta sa ra tb sb rb,t.rr=[aS ⟨nN,0,7,.mk 4 100 0 [] [gj,rZ]⟩ tok 5 [ar 1 0 0 kK ta sa ra,ar 2 5 1 lj tb sb rb]]:=by
 refine⟨ok.zr 0 bq,?_⟩;have hl:=ok.rules.1;obtain⟨x,tok,sz,rows,hx,hr,et⟩:=eo.get ok.rules (i:=0) bq;simp[sR] at hx;subst hx;obtain⟨rfl,ta,sa,ra,tb,sb,rb,rfl⟩:=QT et;refine⟨tok,ta,sa,ra,tb,sb,rb,?_⟩
 match h1:t.rr,hl with
 | [a],_=>rw[h1] at hr;simp at hr;rw[hr]
def ad6{t:PT}(ok:ek sR t):t.sz=5/\∃ta sa ra tb sb rb,t.rows=[ar 1 0 0 kK ta sa ra,ar 2 5 1 lj tb sb rb]:=QT ok.expr
def LG(t:PT):gb aq 90 [(0,.v (.int .i64 3)),(1,.v (.int .i64 10)),(3,.agg (au sR t))]=aa (.agg (fE ⟨3,10,0,sR⟩ t)):=ai
def LH:gb aq 90 []=aa (.agg (fE zV zT)):=ai
def GQ(x:Vs)(t:PT):gl aq 91 1 [(0,.agg (fE x t))]=aa (.list .tight 13 [fE x t]):=ai
def CV{x:Vs}{t:PT}(h:ek x.rN t):AA [x] [fE x t]:=⟨rfl,λi y r h1 h2=>by
 cases i with
 |zero=>simp at h1 h2;subst h1;subst h2;exact⟨t,rfl,h⟩|succ i=>simp at h1⟩
def Qf:pj sR=0:=by rw[<-JW];exact U8 Qa
def ad5:pj sP=200:=by
 unfold pj;rw[aB Qa,JW,ax];intro q;have:=rT.1 q;have h1:sR.change=sP.change:=by rw[this]
 simp[sR,sP,yk,rZ,jh] at h1
def Cy:lA sR:=by
 have key:∀k n:Int,cZ (.mk k n 0 [] [gj,rZ])=3:=λk n=>by simp[cZ,fI,gj,rZ]
 refine⟨by show cZ (.mk 3 2 0 [] [gj,rZ])<=1000;rw[key];omega,λx hx=>?_,by decide⟩;simp[sR] at hx;subst hx;show cZ (.mk 4 100 0 [] [gj,rZ])<=1000;rw[key];omega
def sV:Vs:=⟨3,10,0,sR⟩
def Fz:ph [sV]=0:=by
 have h:mW (-1) [sV]=ab:=by simp only[mW,rW,sV,Qf,uS];decide
 unfold ph;rw[ax bh,aB h]
def agk:ph [zV]=200:=by
 have h:mW (-1) [zV]=ak:=by
  have:pj zP=201:=by rw[Ma (by rw[G6];decide)];exact G6
  simp only[mW,rW,zV,this];decide
 unfold ph;rw[ax bh,ax (by rw[h];decide)]
def ye:om [sV] 9 0=(0,ak,0):=by unfold om;rw[aB Fz,aB bq];decide
def J5:om [sV] 10 0=(3,ab,0):=by unfold om;rw[aB Fz,aB bq];decide
def aeM:om [sV] (-1) 0=(0,ak,1):=by unfold om;rw[aB Fz,ax bq]
def after.gen{P:Program}{G:Nat->Option (List AV)}{R:Rec}{ops:Array Oper}{rest:List Oper}{d:Option Tmp}{e:Env}{Q:Xt->Env->ae->Prop}{x:Option (AV × ae)}(h:∀e2:Env,(∀t,e2.get t=e.get t)->e2.defers=e.defers->e2.round=e.round->after P G R ops rest d e2 Q x):after P G R ops rest d e Q x:=h e (λ_=>rfl) rfl rfl
def vg.gen{P:Program}{G:Nat->Option (List AV)}{R:Rec}{ops:Array Oper}{rest:List Oper}{d:Option Tmp}{e:Env}{Q:Xt->Env->ae->Prop}{x:Option (bw × ae)}(h:∀e2:Env,(∀t,e2.get t=e.get t)->e2.defers=e.defers->e2.round=e.round->vg P G R ops rest d e2 Q x):vg P G R ops rest d e Q x:=h e (λ_=>rfl) rfl rfl
def Cs:Tryz.f22.results.toList=[.tmp 0]:=ai
def ads(x:Rl)(tok:Tok)(sz:Nat)(rows:List (List AV)):((aS x tok sz rows).drop 7).head?=aa (.list tok sz rows):=rfl
def ab4(p:Po)(t:PT):((au p t).drop 8).head?=aa (.list t.tok t.sz t.rows):=rfl
def aef(h:ae)(aU:cR h=ab):gY W 22 [] h (.ret (.v (.bool ab))):=by
 have u23:=lB;have u24:=j6;have a3:=dE;have a23:=nq;have a24:=jm;have a28:=iE;have s28:=gV;have s26:=ec;have s43:=mU;have z28:=qX;obtain⟨h1,c1,x1⟩:=FF h;obtain⟨t2,h2,c2,x2,ok2⟩:=Cj sP sT yc Qb h1 (x1.ok aU);have NH:hY sP=(sR,0):=by unfold hY;rw[Qg,Qe,Qc,JW];rfl
 rw[NH] at c2 ok2;simp only at c2 ok2;have o3:cR (h2.push (au sR t2))=ab:=x2.ok (x1.ok aU);obtain⟨h4,c3,x4⟩:=G5 sR t2 ok2 Cy (h2.push (au sR t2)) o3;rw[Qf] at c3;obtain⟨h5,c4,x5⟩:=FF h4;obtain⟨h6,c5,x6⟩:=G5 sP sT yc Qb h5 (x5.ok (x4.ok o3));rw[ad5] at c5;have o6:=x6.ok (x5.ok (x4.ok o3));have fv:∀x:Vs,lA x.rN->([x].length<=256->GF [x]):=λx hx _ y hy=>by simp at hy;subst hy;exact hx
 obtain⟨h7,c6,x7⟩:=J7 .tight 13 [sV] [fE sV t2] (CV ok2) (λ_ _=>rfl) (fv _ Cy) bh 9 0 h6 o6;rw[ye] at c6;obtain⟨h8,c7,x8⟩:=J7 .tight 13 [sV] [fE sV t2] (CV ok2) (λ_ _=>rfl) (fv _ Cy) bh 10 0 h7 (x7.ok o6);rw[J5] at c7;have o8:=x8.ok (x7.ok o6);obtain⟨h9,c8,x9⟩:=J7 .tight 13 [sV] [fE sV t2] (CV ok2) (λ_ _=>rfl) (fv _ Cy) bh (-1) 0 h8 o8;rw[aeM] at c8;obtain⟨qs,c9,x10⟩:=G4 .tight 13 [sV] [fE sV t2] (CV ok2) (λ_ _=>rfl) (fv _ Cy) bh h9 (x9.ok o8);rw[Fz] at c9;have o10:=x10.ok (x9.ok o8);obtain⟨Xw,c10,x11⟩:=G4 .tight 13 [zV] [fE zV zT] (CV wI) (λ_ _=>rfl) (fv _ Rc) bh qs o10;rw[agk] at c10;have o11:=x11.ok o10;obtain⟨Xx,d1,y1⟩:=AJ U1 wI Rc G6 bq Xw o11;obtain⟨AW,d2,y2⟩:=AJ U2 abn (wq bq bq bq Mt).2 Vd bq Xx (y1.ok o11);have o13:=y2.ok (y1.ok o11);obtain⟨Xy,d3,y3⟩:=AJ U3 abo (wq bq bq bq Mu).2 Ve bq AW o13;obtain⟨Xz,d4,y4⟩:=AJ U4 abp (wq bq bq bq Mv).2 Vf bq Xy (y3.ok o13);have o15:=y4.ok (y3.ok o13);obtain⟨XA,d5,y5⟩:=AJ U5 abq (wq bq bq bq Mw).2 Vg bq Xz o15;obtain⟨h17,d6,y6⟩:=U7 XA (y5.ok o15);have b3:=bX h2 (au sR t2);have b6:=x6.box _ _ (x5.box _ _ (x4.box _ _ b3));obtain⟨e8,tok,ta,sa,ra,tb,sb,rb,err⟩:=ad7 ok2;obtain⟨e5,ta',sa',ra',tb',sb',rb',erows⟩:=ad6 ok2;have kx:=ag.mk (((((((((((((((((x1.trans x2).trans (.push _ (au sR t2))).trans x4).trans x5).trans x6).trans x7).trans x8).trans x9).trans x10).trans x11).trans y1).trans y2).trans y3).trans y4).trans y5).trans y6));clear x1 x2 x4 x5 x6 x7 x8 x9 x10 x11 y1 y2 y3 y4 y5 y6 o3 o6 o8 o10 o11 o13 o15 aU fv ok2 NH;refine eI rfl Tryz.func22 rfl ?_;unfold triple at c6 c7 c8;unfold sV at c6 c7 c8 c9;have er3:=λ(r:Ref) (off:Nat)=>bZ r off;have kc:=ag.mk (aw c3 (aw c4 (aw c5 (aw c6 (aw c7 (aw c8 (aw c9 (aw c10 (aw d1 (aw d2 (aw d3 (aw d4 (aw d5 d6)))))))))))));clear c3 c4 c5 c6 c7 c8 c9 c10 d1 d2 d3 d4 d5 d6
 repeat' (first|simp(maxSteps:=9999999) (disch:=first|exact dZ|fail) only[gW,reduceIte,ao,al,Cs,bN,dt,cK,eO,cT,oo,bH,aA,Wv,Wu,Ww,aV,ck,ads,ab4,vZ,LG,LH,GQ,List.length_cons,List.length_nil,gE,List.append_eq,bR,bT,Int.reduceToNat, *]|refine dX ?_ ?_<;>(intro _;try omega))
 obtain⟨c3,c4,c5,kc2⟩:=kc.out;have kc:=ag.mk kc2;clear kc2
 repeat' (first|simp(maxSteps:=9999999) (disch:=first|exact dZ|fail) only[gW,reduceIte,ao,al,Cs,cK,cT,aA,LG, *]|refine dX ?_ ?_<;>(intro _;try omega))
 refine after.gen λe2 q2 qd _=>?_;have pd:e2.defers=[]:=by rw[qd];exact gS
 clear q2 qd;have Bc:=GQ ⟨3,10,0,sR⟩ t2;simp only[Bc,cy,Ll,Pm];obtain⟨c6,c7,c8,kc2⟩:=kc.out;have kc:=ag.mk kc2;clear kc2 Bc
 repeat' (first|simp(maxSteps:=9999999) (disch:=first|exact dZ|fail) only[gW,reduceIte,ao,al,Cs, *]|refine dX ?_ ?_<;>(intro _;try omega))
 refine vg.gen λe3 q3 qd3 _=>?_;have p134:e3.get 134=.v (.bool ak):=by rw[q3];exact gS
 have pd3:e3.defers=[]:=by rw[qd3];simp only[gW,reduceIte,ao,al,pd]
 clear q3 qd3 pd c6 c7 c8;obtain⟨c9,c10,kc2⟩:=kc.out;have kc:=ag.mk kc2;clear kc2;have Bc:=GQ zV zT
 repeat' (first|simp(maxSteps:=9999999) (disch:=first|exact dZ|fail) only[gW,reduceIte,ao,al,Cs,LH,Bc, *]|refine dX ?_ ?_<;>(intro _;try omega))
 refine vg.gen λe4 q4 qd4 _=>?_;have pd4:e4.defers=[]:=by rw[qd4];simp only[gW,reduceIte,ao,al,pd3]
 clear q4 qd4 pd3 c9 c10;obtain⟨d1,d2,d3,d4,d5,d6⟩:=kc.out
 repeat' (first|simp(maxSteps:=9999999) (disch:=first|exact dZ|fail) only[gW,reduceIte,ao,al,Cs, *]|refine dX ?_ ?_<;>(intro _;try omega))
 exact⟨_,rfl,kx.out⟩
def Fu:Tryz.f64.results.toList=[.cell 4 26]:=ai
def Ft:Tryz.f24.results.toList=[.cell 4 28]:=ai
def Lm:fZ aq 100=aa ak:=ai
def QJ:cU aq 100=aa 1:=ai
def agm:(fa aq 100).bind AV.cF=aa [.v .nilFunc]:=ai
def ae6{h:ae}{b:Nat}{x:AV}{g:Fn}{ts cs:List AV}(hb:h.boxes[b]?=aa [x]):dh aq h 100 (.ptr (.box b) 0) (.func g ts cs)=aa (h.put b [.func g ts cs]):=dK (off:=0) (cs:=[x]) (xs:=[.func g ts cs]) rfl QJ hb rfl (aK 1)
def LF(N:Int)(bm bf:Nat):∀(x:Ex) (tok:Tok) (sz:Nat) (rows:List (List AV)),Row x (ar x.kind x.n x.no x.name tok sz rows)->cZ x<=1000->∀h,cR h=ab->h.boxes[bm]?=aa [.v (.int .i64 N)]->h.boxes[bf]?=aa [.func (.func 64) [] [.ptr (.box bm) 0,.ptr (.box bf) 0]]->
 KJ W 64 [.agg (ar x.kind x.n x.no x.name tok sz rows),.ptr (.box bm) 0,.ptr (.box bf) 0] h (ee N x):=by
 intro x
 induction x using Ex.ind with
 |h kk nn no name l ih=>
  intro tok sz rows et D3 h aU vp tZ;obtain⟨cu,bG,cP⟩:=Row.yO et;have ux:=j6;have a3:=dE;have a9:=dR;have a24:=jm;have a26:=eG;have s26:=ec;have s3:=bQ;have s24:=wA;have z26:=nS;have a66:=Lm;have aP:=cu.1;simp only[Ex.kind,Ex.n,Ex.no,Ex.name,Ex.l] at cu bG aP cP ⊢;have kr:=ag.mk cu;have kz:=ag.mk bG;have kih:=ag.mk ih;have kcn:=ag.mk D3;have kok:=ag.mk aU;have kbm:=ag.mk vp;have kbf:=ag.mk tZ;have m1:=(aF.1 vp).1;have m2:=(aF.1 tZ).1;clear cu bG ih;rw[ee]
  suffices hs:∃r h',W.call 64 [.agg (ar kk nn no name tok sz rows),.ptr (.box bm) 0,.ptr (.box bf) 0] h=aa (r,h')/\(∃tok' sz' rows',r=.ret (.agg (ar kk nn N name tok' sz' rows'))/\Ext h h'/\Row (.mk kk nn N name (fR N l)) (ar kk nn N name tok' sz' rows')) by obtain⟨r,h',q1,tok',sz',rows',rfl,q2,q3⟩:=hs;exact⟨tok',sz',rows',h',q1,q2,q3⟩
  refine bO rfl Tryz.func64 rfl ?_
  repeat' (first|simp(maxSteps:=9999999) (disch:=first|exact dZ|fail) only[gW,reduceIte,ao,al,Fu,lP,tu,pW,gy,mS,iP,pq,gr,bZ,lI,qT,QC,Ad,bH,eW,aA,aJ,bR,bT, *]|refine dX ?_ ?_<;>(intro _;try omega))
  refine eX (λm e h'=>∃(i:Nat) (bP:Tok) (szR:Nat) (rowsR:List (List AV)),i<=l.length/\m=l.length - i/\e.get 2=.ptr (.box bf) 0/\e.get 4=.ptr (.box (h.boxes.length+1)) 0/\e.get 5=.ptr (.box (h.boxes.length+1+1)) 0/\e.get 13=.list tok sz rows/\e.get 14=.v (.int .i64 (l.length:Nat))/\e.get 15=.v (.int .i64 i)/\e.defers=[]/\
   h'.boxes[h.boxes.length+1]?=aa (ar 0 0 0 [] .nil 0 [])/\h'.boxes[h.boxes.length+1+1]?=aa (ar kk nn N name bP szR rowsR)/\Pol.Rows (fR N (l.take i)) rowsR/\dx h.tn h' bP/\(szR=5∨(rowsR=[]/\bP=.nil))/\Ext h h'/\cR h'=ab) ?_ l.length _ _ ?_
  ·rintro m e h' ⟨i,bP,szR,rowsR,hi,rfl,g2,g4,g5,g13,g14,g15,hd,ew,gO,da,fi,nA,hx,iF⟩;have gh:=da.1;have khrr:=ag.mk da;have kx:=ag.mk hx;have kca:=ag.mk fi;have ksr:=ag.mk nA;have kok':=ag.mk iF;clear da hx fi nA iF vp tZ;by_cases ay:i<l.length
   ·obtain⟨y,r,hy,hr,cX⟩:=kr.out.get ay;have h5:=kz.out i ay;subst h5;obtain⟨tk2,sz2,rows2,rfl,-⟩:=Row.iQ cX;have dU:(i:Int)<(rows.length:Int):=(by rw[aP];omega);have fX:(i:Int)<(l.length:Int):=(by omega);have qC:5<=((ar y.kind y.n y.no y.name tk2 sz2 rows2).drop 0).length:=(by rw[fc];exact aK _);have yT:cZ y<=1000:=(by have:=L7 (ie hy);have:=kcn.out;rw[cZ] at this;omega);have du:l.length<=1000:=(by have:=L6 l;have:=kcn.out;rw[cZ] at this;omega);have tZ:=bW (cs:=ar y.kind y.n y.no y.name tk2 sz2 rows2) (kx.out.box _ _ kbf.out);obtain⟨tok4,iI,rows4,h4,c4,eV,Bt⟩:=kih.out y (ie hy) tk2 sz2 rows2 cX yT (h'.push (ar y.kind y.n y.no y.name tk2 sz2 rows2)) kok'.out (bW (kx.out.box _ _ kbm.out)) tZ;have sO:rowsR.length<=70000:=(by rw[gh,yC,jj,List.length_take];omega);have kca4:=ag.mk (kca.out.ext ((Ext.push h' (ar y.kind y.n y.no y.name tk2 sz2 rows2)).trans eV));have oI:=Dl (h:=h4) (r:=ar (ee N y).kind (ee N y).n (ee N y).no (ee N y).name tok4 iI rows4) (kca4.out.mono (cz _)) ksr.out sO;have e2:=eV.box _ _ (bW ew);have e3:=eV.box _ _ (bW gO);have kx4:=ag.mk ((Ext.push h' (ar y.kind y.n y.no y.name tk2 sz2 rows2)).trans eV);have khr4:=ag.mk Bt;have n1:h.boxes.length+1+1≠h'.boxes.length:=(by have:=(aF.1 gO).1;omega);have n2:h.boxes.length+1≠h'.boxes.length:=(by have:=(aF.1 ew).1;omega);clear eV Bt
    repeat' (first|simp(maxSteps:=9999999) (disch:=first|exact dZ|fail) only[gW,reduceIte,ao,al,Fu,gy,bZ,lI,qT,Ad,aV,dr,mS,bH,eW,aA,aJ,bR,bT, *]|refine dX ?_ ?_<;>(intro _;try omega))
    refine nM [(1,4)] ai ?_ ?_
    ·intro p hp;simp only[qi] at hp;subst hp;refine uL (x:=.ptr (.box (h.boxes.length+1+1)) 4) (v:=.list bP szR rowsR) ai rfl rfl rfl ai (by rw[fN,CB,Rows.same khrr.out];simp) ?_ ?_
     ·simp only[di,de]
      repeat' (first|simp(maxSteps:=9999999) (disch:=first|exact dZ|fail) only[gW,reduceIte,ao,al,bZ,gy,lI,aJ, *]|refine dX ?_ ?_<;>(intro _;try omega))
      simp only[and_self]
     ·simp only[di,de]
      repeat' (first|simp(maxSteps:=9999999) (disch:=first|exact dZ|fail) only[gW,reduceIte,ao,al,bZ,gy,lI,aV,dr,mS,aJ,bR,bT, *]|refine dX ?_ ?_<;>(intro _;try omega))
      simp only[and_self]
    ·repeat' (first|simp(maxSteps:=9999999) (disch:=first|exact dZ|fail) only[gW,reduceIte,ao,al,Fu,bZ,gy,lI,aV,dr,mS,eH,Ad,aJ,bR,bT, *]|refine dX ?_ ?_<;>(intro _;try omega))
     have e3l:=(aF.1 e3).1;refine⟨l.length - (i+1),by omega,i+1,.free h4.tn,5,rowsR++[ar (ee N y).kind (ee N y).n (ee N y).no (ee N y).name tok4 iI rows4],by omega,rfl,(by first|trivial|(simp;done)|(simp;omega)),(by first|trivial|(simp;done)|(simp;omega)),(by first|trivial|(simp;done)|(simp;omega)),(by first|trivial|(simp;done)|(simp;omega)),(by first|trivial|(simp;done)|(simp;omega)),(by first|trivial|(simp;done)|(simp;omega)),(by first|trivial|(simp;done)|(simp;omega)),?_,?_,?_,?_,.inl rfl,?_,?_⟩
     ·rw[jX aj,lC];exact e2
     ·exact mz (by rw[lC];exact e3l)
     ·obtain⟨hj,rfl⟩:=aF.1 hy;rw[yC,nj hj,Ar,<-yC];exact Pol.Rows.snoc khrr.out khr4.out
     ·exact kca4.out.next (kx4.out.ok kok'.out) (kx.out.trans kx4.out).tn
     ·exact((kx.out.trans kx4.out).app kca4.out).dm aj _
     ·exact(bp.app (b:=0) kca4.out).ok (kx4.out.ok kok'.out)
   ·have cJ:i=l.length:=(by omega);subst cJ;have dU:¬((l.length:Int)<(l.length:Int)):=(by omega);rw[jk] at khrr;have e2l:=(aF.1 ew).1
    repeat' (first|simp(maxSteps:=9999999) (disch:=first|exact dZ|fail) only[gW,reduceIte,ao,al,Fu,gy,bZ,lI,qT, *]|refine dX ?_ ?_<;>(intro _;try omega))
    refine⟨_,_,rfl,bP,szR,rowsR,rfl,kx.out.dm aj _,?_⟩;refine .mk _ _ _ _ _ _ _ _ khrr.out.1 (λi hi=>?_) (by rw[yC,jj];exact cP) khrr.out.2;rcases ksr.out with q|⟨q,-⟩
    ·exact q
    ·exfalso;have:=khrr.out.1;rw[q] at this;simp at this;omega
  ·refine⟨0,.nil,0,[],cz _,rfl,?_,?_,?_,?_,?_,?_,?_,?_,?_,?_,.inl rfl,.inr ⟨rfl,rfl⟩,((Ext.push _ _).trans (.push _ _)).trans (.push _ _),kok.out⟩
   iterate 7
    ·exact gR
   ·simp(disch:=(first|assumption|omega|(exact(aA _ _).symm)|(simp only[df];omega)|(refine fF ?_ ?_<;>simp only[df]<;>omega)|fail)) only[gZ]
   ·simp(disch:=(first|assumption|omega|(exact(aA _ _).symm)|(simp only[df];omega)|(refine fF ?_ ?_<;>simp only[df]<;>omega)|fail)) only[gZ]
   ·rw[de,yC];exact Pol.Rows.nil
def nW(N:Int)(l:List Rl):List Rl:=l.map λx=>{x with kG:=N,expr:=ee N x.expr}
def j7(N:Int)(p:Po):Po:={p with rules:=nW N p.rules,change:=ee N p.change}
def TI(N:Int)(l:List Rl)(x:Rl):nW N (l++[x])=nW N l++[{x with kG:=N,expr:=ee N x.expr}]:=by unfold nW;rw[Ar];rfl
def TH{N:Int}{p:Po}{t:PT}(ok:ek p t){bP tok4:Tok}{szR iI:Nat}{rowsR rows4:List (List AV)}(h1:eo (nW N p.rules) rowsR)(h2:Row (ee N p.change) (ar (ee N p.change).kind (ee N p.change).n (ee N p.change).no (ee N p.change).name tok4 iI rows4))(h3:szR=8∨(rowsR=[]/\bP=.nil)):
 ek (j7 N p) {t with tr:=bP,sr:=szR,rr:=rowsR,tok:=tok4,sz:=iI,rows:=rows4}:=by
 have hl:(nW N p.rules).length=p.rules.length:=by simp[nW]
 refine⟨h1,h2,ok.zk,ok.zo,λi hi=>?_,ok.bk,ok.bo,?_⟩
 ·rcases h3 with q|⟨q,-⟩
  ·exact q
  ·exfalso;have:=h1.1;rw[q] at this;have hi:i<(nW N p.rules).length:=hi;simp at this;omega
 ·show(nW N p.rules).length<=_;rw[hl];exact ok.br
def af2{x:Value}:(AV.v x).cF=aa [.v x]:=rfl
def RD(R:Rec)(g:FuncId)(args:List AV)(h:ae)(q:Po):Prop:=∃t h',R.call g args h=aa (.ret (.agg (au q t)),h')/\Ext h h'/\ek q t
def TK(N:Int)(p:Po)(t:PT)(ok:ek p t)(cI:lA p)(h:ae)(aU:cR h=ab):RD W 24 [.agg (au p t),.v (.int .i64 N)] h (j7 N p):=by
 have u23:=lB;have a3:=dE;have a9:=dR;have a22:=oA;have a23:=nq;have a24:=jm;have a26:=eG;have a28:=iE;have a43:=pb;have s26:=ec;have s28:=gV;have s43:=mU;have s3:=bQ;have z28:=qX;have z43:=Am;have a66:=Lm;have z66:=agm;have s66:=QJ;have aP:=ok.rules.1;have kok:=ag.mk ok;have kfew:=ag.mk cI;have kokh:=ag.mk aU
 suffices hs:∃r h',W.call 24 [.agg (au p t),.v (.int .i64 N)] h=aa (r,h')/\(∃t',r=.ret (.agg (au (j7 N p) t'))/\Ext h h'/\ek (j7 N p) t') by obtain⟨r,h',q1,t',rfl,q3,q4⟩:=hs;exact⟨t',h',q1,q3,q4⟩
 clear cI aU;refine bO rfl Tryz.func24 rfl ?_
 repeat' (first|simp(maxSteps:=9999999) (disch:=first|exact dZ|fail) only[gW,reduceIte,ao,al,Ft,af2,bN,dt,cK,eO,cT,oo,uN,aA,Dv,bH,eW,aJ,ae6, *]|refine dX ?_ ?_<;>(intro _;try omega))
 refine eX (λm e h'=>∃(i:Nat) (bP:Tok) (szR:Nat) (rowsR:List (List AV)),i<=p.rules.length/\m=p.rules.length - i/\e.get 2=.ptr (.box h.boxes.length) 0/\e.get 3=.ptr (.box (h.boxes.length+1)) 0/\e.get 4=.ptr (.box (h.boxes.length+1+1)) 0/\e.get 5=.ptr (.box (h.boxes.length+1+1+1)) 0/\e.get 6=.ptr (.box (h.boxes.length+1+1+1+1)) 0/\e.get 13=.list t.tr t.sr t.rr/\e.get 14=.v (.int .i64 (p.rules.length:Nat))/\e.get 15=.v (.int .i64 i)/\e.defers=[]/\
  h'.boxes[h.boxes.length]?=aa (au p t)/\h'.boxes[h.boxes.length+1]?=aa [.v (.int .i64 N)]/\h'.boxes[h.boxes.length+1+1]?=aa (au zP zT)/\h'.boxes[h.boxes.length+1+1+1]?=aa [.func (.func 64) [] [.ptr (.box (h.boxes.length+1)) 0,.ptr (.box (h.boxes.length+1+1+1)) 0]]/\h'.boxes[h.boxes.length+1+1+1+1]?=aa (au p {t with tr:=bP,sr:=szR,rr:=rowsR})/\eo (nW N (p.rules.take i)) rowsR/\dx h.tn h' bP/\(szR=8∨(rowsR=[]/\bP=.nil))/\Ext h h'/\cR h'=ab) ?_ p.rules.length _ _ ?_
 ·rintro m e h' ⟨i,bP,szR,rowsR,hi,rfl,g2,g3,g4,g5,g6,g13,g14,g15,hd,gf,HA,ew,tZ,gO,da,fi,nA,hx,iF⟩;have gh:=da.1;have khrr:=ag.mk da;have kx:=ag.mk hx;have kca:=ag.mk fi;have ksr:=ag.mk nA;have kok':=ag.mk iF;clear da hx fi nA iF;have n3:=(aF.1 gO).1;by_cases ay:i<p.rules.length
  ·obtain⟨y,tk2,sz2,rows2,hy,hr,cX⟩:=eo.get kok.out.rules ay;have h8:=kok.out.zr i ay;have dU:(i:Int)<(t.rr.length:Int):=(by rw[aP];omega);have fX:(i:Int)<(p.rules.length:Int):=(by omega);have rf8:=@wc y tk2 sz2 rows2;have yR:=kok.out.br;have du:=kfew.out.l;obtain⟨tok4,iI,rows4,h5,c5,jy,rB⟩:=LF N (h.boxes.length+1) (h.boxes.length+1+1+1) y.expr tk2 sz2 rows2 cX (kfew.out.r y (ie hy)) (h'.push (aS y tk2 sz2 rows2)) kok'.out (bW HA) (bW tZ);have e1:=jy.box _ _ (bW gf);have en:=jy.box _ _ (bW HA);have e2:=jy.box _ _ (bW ew);have ef:=jy.box _ _ (bW tZ);have e3:=jy.box _ _ (bW gO);have e4:=jy.box _ _ (bX h' (aS y tk2 sz2 rows2));have kx5:=ag.mk ((Ext.push h' (aS y tk2 sz2 rows2)).trans jy);have khr5:=ag.mk rB;have kca5:=ag.mk (kca.out.ext kx5.out);have sO:rowsR.length<=70000:=(by rw[gh];simp[nW];omega);have oI:∀(q:List AV) (cs:List AV),iM aq (h5.put h'.boxes.length cs) #[23,23] (.list bP szR rowsR) (.list .tight 8 [q])=aa (.list (.free h5.tn) 8 (rowsR++[q]),(h5.put h'.boxes.length cs).app bP):=λq cs=>Ly (h:=h5.put h'.boxes.length cs) (kca5.out.mono (cz _)) ksr.out sO;have le4:=(aF.1 e4).1;have le3:=(aF.1 e3).1;clear jy rB
   repeat' (first|simp(maxSteps:=9999999) (disch:=first|exact dZ|fail) only[gW,reduceIte,ao,al,Ft,bN,dt,cK,eO,cT,oo,uN,nG,pR,oq,Kc,Kd,aV,dr,yG,aA,bH,eW,dA,r5,aJ,bR,bT, *]|refine dX ?_ ?_<;>(intro _;try omega))
   refine nM [(0,4)] ai ?_ ?_
   ·intro q hq;simp only[qi] at hq;subst hq;refine uL (x:=.ptr (.box (h.boxes.length+1)) 0) (v:=.v (.int .i64 N)) ai rfl rfl rfl ai (by simp[fN,pY]) ?_ ?_
    ·simp only[di,de]
     repeat' (first|simp(maxSteps:=9999999) (disch:=first|exact dZ|fail) only[gW,reduceIte,ao,al,aJ, *]|refine dX ?_ ?_<;>(intro _;try omega))
     simp only[and_self]
    ·simp only[di,de]
     repeat' (first|simp(maxSteps:=9999999) (disch:=first|exact dZ|fail) only[gW,reduceIte,ao,al,bN,dt,cK,eO,cT,nG,pR,r5,bR,bT,aJ, *]|refine dX ?_ ?_<;>(intro _;try omega))
     simp only[and_self]
   ·repeat' (first|simp(maxSteps:=9999999) (disch:=first|exact dZ|fail) only[gW,reduceIte,ao,al,Ft,bN,dt,cK,eO,cT,oo,uN,nG,pR,oq,Kc,Kd,aV,dr,yG,aA,bH,eW,dA,r5,aJ,bR,bT, *]|refine dX ?_ ?_<;>(intro _;try omega))
    refine⟨p.rules.length - (i+1),by omega,i+1,.free h5.tn,8,rowsR++[aS {y with kG:=N,expr:=ee N y.expr} tok4 iI rows4],by omega,rfl,(by first|trivial|(simp;done)|(simp;omega)),(by first|trivial|(simp;done)|(simp;omega)),(by first|trivial|(simp;done)|(simp;omega)),(by first|trivial|(simp;done)|(simp;omega)),(by first|trivial|(simp;done)|(simp;omega)),(by first|trivial|(simp;done)|(simp;omega)),(by first|trivial|(simp;done)|(simp;omega)),(by first|trivial|(simp;done)|(simp;omega)),(by first|trivial|(simp;done)|(simp;omega)),?_,?_,?_,?_,?_,?_,?_,.inl rfl,?_,?_⟩
    ·rw[jX aj,lC,jX aj];exact e1
    ·rw[jX aj,lC,jX aj];exact en
    ·rw[jX aj,lC,jX aj];exact e2
    ·rw[jX aj,lC,jX aj];exact ef
    ·exact mz (by rw[lC,td];exact le3)
    ·obtain⟨hj,rfl⟩:=aF.1 hy;rw[nj hj,TI];exact eo.snoc khrr.out (oz.mk khr5.out)
    ·exact kca5.out.next (h:=h5.put h'.boxes.length _) (kx5.out.ok kok'.out) (kx.out.trans kx5.out).tn
    ·exact(((kx.out.trans kx5.out).dm aj _).app (h:=h5.put h'.boxes.length _) kca5.out).dm aj _
    ·exact(bp.app (b:=0) (h:=h5.put h'.boxes.length _) kca5.out).ok (kx5.out.ok kok'.out)
  ·have cJ:i=p.rules.length:=(by omega);subst cJ;have dU:¬((p.rules.length:Int)<(p.rules.length:Int)):=(by omega);rw[jk] at khrr;obtain⟨tok4,iI,rows4,h5,c5,jy,rB⟩:=LF N (h.boxes.length+1) (h.boxes.length+1+1+1) p.change t.tok t.sz t.rows kok.out.expr kfew.out.c h' kok'.out HA tZ;have e2:=jy.box _ _ ew;have e3:=jy.box _ _ gO;have kx5:=ag.mk jy;have khr5:=ag.mk rB;have le2:=(aF.1 e2).1;have le3:=(aF.1 e3).1;clear jy rB
   repeat' (first|simp(maxSteps:=9999999) (disch:=first|exact dZ|fail) only[gW,reduceIte,ao,al,Ft,bN,dt,cK,eO,cT,kH,oo,uN,Kb,aA,dA,p5,aJ,bR,bT, *]|refine dX ?_ ?_<;>(intro _;try omega))
   refine⟨_,_,rfl,{t with tr:=bP,sr:=szR,rr:=rowsR,tok:=tok4,sz:=iI,rows:=rows4},rfl,((kx.out.trans kx5.out).dm (b:=h.boxes.length+1+1+1+1) aj _).dm (b:=h.boxes.length+1+1) aj _,?_⟩;exact TH kok.out khrr.out khr5.out ksr.out
 ·refine⟨0,.nil,0,[],cz _,rfl,?_,?_,?_,?_,?_,?_,?_,?_,?_,?_,?_,?_,?_,?_,?_,?_,.inr ⟨rfl,rfl⟩,?_,?_⟩
  iterate 9
   ·simp only[gW,reduceIte,ao,al,aP]<;>rfl
  iterate 5
   ·simp(disch:=(first|assumption|omega|(exact(aA _ _).symm)|(simp only[df];omega)|(refine fF ?_ ?_<;>simp only[df]<;>omega)|fail)) only[gZ]
  ·exact eo.nil
  ·exact .inl rfl
  ·exact((((Ext.push _ _).trans (.push _ _)).trans (.push _ _)).trans (.push _ _)).trans (.push _ _)
  ·exact kokh.out
end Go.Proofs.YtmdakolcndpjeaaGreatDoor
end
section
namespace Go.Proofs.YtmdakolcndpjeaaGreatDoor
open Go.AE Go.Lex Go.Pol Go.Syn
def Lp(n:Int)(p:Po):fb (j7 n p) p:=by refine⟨rfl,rfl,rfl,rfl,Lo _ _,by simp[j7,nW],λi x y hx hy=>?_⟩;have hx:(nW n p.rules)[i]?=some x:=hx;unfold nW at hx;rw[List.getElem?_map,hy] at hx;simp only[Option.map_some,Option.some.injEq] at hx;subst hx;exact⟨rfl,rfl,Lo _ _⟩
def fb.acy{p q:Po}(h:fb p q):hY p=hY q:=by unfold hY;rw[h.small,h.names,h.formed,h.res]
def WH{p:Po}(n:Int)(h:oF p=ab):lA (j7 n p):=MG ((Lp n p).symm.Hk h)
def Fx:Tryz.f9.results.toList=[.tmp 2]:=ai
def MF{l:List (List UInt8)}{m:Int}(h:sy l m=ab):l.length<=60:=by unfold sy at h;simp only[aL,Bool.not_eq_true',Bool.or_eq_false_iff,decide_eq_false_iff_not,decide_eq_true_eq,ly] at h;omega
def afN{p:Po}(f:lA p)(ho:p.aO.length<=60)(hk:p.kinds.length<=60)(hr:p.rules.length<=20):(dH p).length<=1048576:=by have h1:=Hq (l:=p.aO) (f:=λx=>[wT dM,nT x,wT bK]) (n:=3) (λx _=>aK 3);have h2:=Hq (l:=p.kinds) (f:=λx=>[wT ez,nT x,wT bK]) (n:=3) (λx _=>aK 3);have h3:=Hq (l:=p.rules) (f:=bP) (n:=7020) (λx hx=>by have a:=QM x.expr;have b:=f.r x hx;unfold bP;simp only[IS];omega);have h4:=QM p.change;have h5:=f.c;unfold dH ia;simp only[IS];omega
def abW(p:Po)(t:PT)(ok:ek p t):∃h',W.call 9 [.agg (au p t)] ae.init=aa (.ret (.v (.bool ab)),h')/\True:=by
 have a28:=iE;have z28:=qX;have s28:=gV;have u9:=Tryz.underlying9;obtain⟨h1,c1,x1⟩:=aef (ae.init.push (au p t)) rfl;obtain⟨h2,c2,x2⟩:=WD p t ok h1;have b1:=x1.box _ _ (bX ae.init (au p t));have b2:=x2.box _ _ b1;refine eI rfl Tryz.func9 rfl ?_;cases hf:oF p with
 |false=>
  rw[hf] at c2;clear x1 x2
  repeat' (first|simp(maxSteps:=9999999) (disch:=first|exact dZ|fail) only[gW,reduceIte,ao,al,Fx,cK,cT, *]|refine dX ?_ ?_<;>(intro _;try omega))
  exact⟨_,rfl,ev⟩
 |true=>
 rw[hf] at c2;have cI:=MG hf;have fewb:=WH 0 hf;have o2:cR h2=ab:=x2.ok (x1.ok rfl);obtain⟨t3,h3,c3,x3,ok3⟩:=TK 0 p t ok cI h2 o2;have o3:=x3.ok o2;have zc:(dH (j7 0 p)).length<=1048576:=by have hq:=hf;unfold oF at hq;simp only[aL,decide_eq_true_eq] at hq;have e1:=MF hq.1.1.1.1;have e2:=MF hq.1.1.1.2;exact afN fewb e1 e2 (by have:=hq.1.1.2;simp[j7,nW];omega)
 obtain⟨h4,c4,x4⟩:=ab3 (j7 0 p) t3 ok3 zc h3 o3;have o4:=x4.ok o3;have b4:=x4.box _ _ (x3.box _ _ b2);by_cases hw:j0 (j7 0 p)=ab;rotate_left 1
 ·rw[zH hw] at c4;dsimp only at c4;clear x1 x2 x3 x4 ok3 cI fewb o2 o3 o4 hf zc hw ok
  repeat' (first|simp(maxSteps:=9999999) (disch:=first|exact dZ|fail) only[gW,reduceIte,ao,al,Fx,cK,cT,su, *]|refine dX ?_ ?_<;>(intro _;try omega))
  exact⟨_,rfl,ev⟩
 rw[Pg hw] at c4;dsimp only at c4;by_cases aP:65536<(kD (dH (j7 0 p))).length
 ·have hI:(65536:Int)<(((kD (dH (j7 0 p))).length:Nat):Int):=by omega
  clear x1 x2 x3 x4 ok3 cI fewb o2 o3 o4 hf zc hw ok
  repeat' (first|simp(maxSteps:=9999999) (disch:=first|exact dZ|fail) only[gW,reduceIte,ao,al,Fx,cK,cT,su, *]|refine dX ?_ ?_<;>(intro _;try omega))
  exact⟨_,rfl,ev⟩
 have hI:¬(65536:Int)<(((kD (dH (j7 0 p))).length:Nat):Int):=by omega
 obtain⟨t5,h5,c5,x5,ok5⟩:=abD (kD (dH (j7 0 p))) aj h4 o4;rw[abG hw aj] at c5 ok5;dsimp only at c5 ok5;obtain⟨t6,h6,c6,x6,ok6⟩:=Cj p t ok cI (h5.push (au (j7 0 p) t5)) (x5.ok o4);obtain⟨t7,h7,c7,x7,ok7⟩:=Cj (j7 0 p) t5 ok5 fewb (h6.push (au (hY p).1 t6)) (x6.ok (x5.ok o4));rw[(Lp 0 p).acy] at c7 ok7;obtain⟨h8,c8,-⟩:=J2 (hY p).1 (hY p).1 t6 t7 ok6 ok7 (h7.push (au (hY p).1 t7));rw[rT.2 rfl] at c8;have b5:=bW (cs:=au (j7 0 p) t5) (x5.box _ _ b4);have q5:=bX h5 (au (j7 0 p) t5);have q6:=bW (cs:=au (hY p).1 t6) (x6.box _ _ q5);have r6:=bX h6 (au (hY p).1 t6);have r7:=bW (cs:=au (hY p).1 t7) (x7.box _ _ r6);have nq5:=(aF.1 q5).1;have nr6:=(aF.1 r6).1;generalize (hY p).1=q at *
 generalize (hY p).2=e at *
 clear x1 x2 x3 x4 x5 x6 x7 ok3 ok5 ok6 ok7 cI fewb o2 o3 o4 hf zc hw ok aP;generalize kD (dH (j7 0 p))=txt at *
 generalize j7 0 p=b at *
 repeat' (first|simp(maxSteps:=9999999) (disch:=first|exact dZ|fail) only[gW,reduceIte,ao,al,Fx,cK,cT,oo,bH,su,TY, *]|refine dX ?_ ?_<;>(intro _;try omega))
 exact⟨_,rfl,ev⟩
def Cx:List UInt8:=[99,108,101,114,107]
def yb:List UInt8:=[99,104,105,101,102]
def adv:Tryz.f20.results.toList=[.cell 2 26]:=ai
def jB(s:List UInt8):List AV:=ar 1 0 0 s .nil 0 []
def zK:List AV:=ar 2 3 0 Cx .nil 0 []
def xV:List AV:=ar 3 1 0 [] .tight 5 [jB yb]
def zJ:List AV:=ar 4 100 0 [] .tight 5 [jB Cx,xV]
def Pq:List AV:=ar 3 2 0 [] .tight 5 [jB yb,zK,zJ]
def Up(s:List UInt8):gb aq 26 [(0,.v (.int .i64 1)),(3,.v (.string (bs s)))]=aa (.agg (jB s)):=ai
def agq:(fa aq 26).bind AV.cF=aa (ar 0 0 0 [] .nil 0 []):=ai
noncomputable abbrev W0:=whole aq Gt E2
def ZV(s:List UInt8)(h:ae):W0.call 20 [.v (.string (bs s))] h=aa (.ret (.agg (jB s)),h.push (jB s)):=by
 have a26:=eG;have z26:=agq;have s26:=ec;have l1:∀(h:ae) (b:Nat),h.boxes[b]?=aa (jB s)->dz aq Gt h 26 (.ptr (.box b) 0)=aa (.agg (jB s)):=λh b hb=>nH eG ec hb (aK 5);have ye:∀(h:ae) (b:Nat),h.boxes[b]?=aa (ar 0 0 0 [] .nil 0 [])->dh aq h 26 (.ptr (.box b) 0) (.agg (jB s))=aa (h.put b (jB s)):=λh b hb=>dK (off:=0) (cs:=ar 0 0 0 [] .nil 0 []) (xs:=jB s) rfl ec hb rfl (aK 5);refine fg rfl SJ rfl ?_
 repeat' (first|simp(maxSteps:=9999999) (disch:=first|exact dZ|fail) only[gW,reduceIte,ao,al,adv,Up,l1,ye,bH, *]|(refine dX ?_ ?_<;>(intro _;try omega))|refine bM ai ?_)
def abm{V:World}(L:Laid V)(hp:Prog aq):kN aq Gt V 20 Jw:=by
 refine ab0 (aD:=E2) hp (λg p h=>ab1 L g p h) (sn SJ ai) λargs h x h' he=>?_;unfold Jw at he;split at he
 ·rename_i s;injection he with he;injection he with h1 h2;subst h1;subst h2;have hc:=ZV s.data.toList h;rw[<-Ds] at hc;refine⟨h.push (jB s.data.toList),?_,?_,rfl,rfl,rfl⟩
  ·rw[hc];show aa (bw.ret (.agg (jB s.data.toList)),_)=_;unfold jB ar;rw[<-Ds]
  ·show(h.boxes++[jB s.data.toList]).take h.boxes.length=h.boxes;rw[List.take_left]
 ·cases he
def ab2{V:World}(L:Laid V)(hp:Prog Tryz.prog):∀g p,aD g=some p->kN Tryz.prog Gt V g p:=by
 intro g p h;unfold aD at h;split at h
 ·injection h with h;subst h;exact OS V
 ·injection h with h;subst h;exact OW V
 ·injection h with h;subst h;exact OY L
 ·injection h with h;subst h;exact OR L
 ·injection h with h;subst h;exact OZ V
 ·injection h with h;subst h;exact OV V
 ·injection h with h;subst h;exact OU V
 ·injection h with h;subst h;exact OT V
 ·injection h with h;subst h;exact OX V
 ·injection h with h;subst h;exact abm L hp
 ·cases h
def b1:gl aq 24 1 [(0,.agg (jB yb))]=aa (.list .tight 5 [jB yb]):=ai
def b2:gb aq 26 [(0,.v (.int .i64 3)),(1,.v (.int .i64 1)),(4,.list .tight 5 [jB yb])]=aa (.agg xV):=ai
def b3:gl aq 24 2 [(0,.agg (jB Cx)),(1,.agg xV)]=aa (.list .tight 5 [jB Cx,xV]):=ai
def b4:gb aq 26 [(0,.v (.int .i64 4)),(1,.v (.int .i64 100)),(4,.list .tight 5 [jB Cx,xV])]=aa (.agg zJ):=ai
def b5:gb aq 26 [(0,.v (.int .i64 2)),(1,.v (.int .i64 3)),(3,.v (.string (bs [99,108,101,114,107])))]=aa (.agg zK):=ai
def b6:gl aq 24 3 [(0,.agg (jB yb)),(1,.agg zK),(2,.agg zJ)]=aa (.list .tight 5 [jB yb,zK,zJ]):=ai
section
variable {h:ae} {b:Nat}
end
def Ak:(xV.drop 0).take 5=xV/\(zK.drop 0).take 5=zK/\(zJ.drop 0).take 5=zJ/\(Pq.drop 0).take 5=Pq:=⟨rfl,rfl,rfl,rfl⟩
end Go.Proofs.YtmdakolcndpjeaaGreatDoor
end
section
namespace Go.Proofs.YtmdakolcndpjeaaGreatDoor
open Go.AE
def Oj:List TypeId:=[3,4,5,9,22,23,24,26,28,38,43,62]
end Go.Proofs.YtmdakolcndpjeaaGreatDoor
end
section
namespace Go.Proofs.YtmdakolcndpjeaaGreatDoor
open Go.AE Go.Lex Go.Pol
def og(c:UInt8):List UInt8:=[115,105,103,110,97,116,111,114,121,47,112,111,108,105,99,105,101,115,46,107,105,110,100,115,36,c]
def u58:aq.underlying 99=aa (.func #[26] #[4] ak):=ai
def abr:((bt aq.funcs.size).filter λf=>(aq.funcs[f]?).any (·.name.toUTF8.data.toList==og 49))=[199]:=ai
def abt:((bt aq.funcs.size).filter λf=>(aq.funcs[f]?).any (·.name.toUTF8.data.toList==og 50))=[200]:=ai
def abu:((bt aq.funcs.size).filter λf=>(aq.funcs[f]?).any (·.name.toUTF8.data.toList==og 51))=[201]:=ai
def abv:((bt aq.funcs.size).filter λf=>(aq.funcs[f]?).any (·.name.toUTF8.data.toList==og 52))=[202]:=ai
def abw:((bt aq.funcs.size).filter λf=>(aq.funcs[f]?).any (·.name.toUTF8.data.toList==og 53))=[203]:=ai
def u81:∃e,aq.underlying 158=aa (.array 5 e)/\e=99:=⟨99,ai,rfl⟩
def ZS {W0 : World} (h : laidMetH aq [("signatory/policies.kinds", Rows.laid_signatory_policies_kinds)] W0) : ∃ cells, aM (aH.init W0) IM cells /\ ∀ (j : Nat) (c : Value), cells[j]? = aa c -> W0.cell? ⟨0, j, none⟩ = aa c := by
 obtain⟨g,t,cs,fuel,p,hg,ht,hv,hd⟩:=h.funcs (qi.2 rfl);have e1 : aq.globalNamed "signatory/policies.kinds" = aa 0 := ai;rw[e1] at hg;injection hg with hg;subst hg;have e2:(aq.globals[0]?).map (·.type)=aa 158:=ai;rw[e2] at ht;injection ht with ht;subst ht;obtain⟨e,he,rfl⟩:=u81;obtain⟨ys,fu,HO,Zq,ey,zd,jt⟩:=DataW.trod_array he hd;have pC:aq.cellsOf 99=1:=ai;have XY:aq.cellsOf 158=5:=ai;rw[XY] at ey;obtain⟨cs⟩:=cs;simp only at ey jt hd;obtain⟨v0,v1,v2,v3,v4,rfl⟩:=On ey;have hm:ys.map (·.1)=[.held (og 49),.held (og 50),.held (og 51),.held (og 52),.held (og 53)]:=by
  have q:=congrArg Prod.fst Zq;have q2:DataW.agg (ys.map (·.1))=DataW.agg [.held (og 49),.held (og 50),.held (og 51),.held (og 52),.held (og 53)]:=by rw[<-show _=DataW.agg (ys.map (·.1)) from q];rfl
  injection q2
 have get:∀(i:Nat) (d:DataW (List UInt8)),(ys.map (·.1))[i]?=aa d->∃q,ys[i]?=aa (d,q):=by
  intro i d hd;rw[List.getElem?_map] at hd;cases hy:ys[i]? with
  |none=>rw[hy] at hd;cases hd
  |some y=>rw[hy] at hd;simp only[cy,aY] at hd;exact⟨y.2,by rw[<-hd]⟩
 rw[hm] at get;have hu:=u58;obtain⟨q0,y0⟩:=get 0 _ rfl;obtain⟨q1,y1⟩:=get 1 _ rfl;obtain⟨q2,y2⟩:=get 2 _ rfl;obtain⟨q3,y3⟩:=get 3 _ rfl;obtain⟨q4,y4⟩:=get 4 _ rfl;have t0:=jt 0 aj;have t1:=jt 1 aj;have t2:=jt 2 aj;have t3:=jt 3 aj;have t4:=jt 4 aj;rw[pC,y0] at t0;rw[pC,y1] at t1;rw[pC,y2] at t2;rw[pC,y3] at t3;rw[pC,y4] at t4;have r0:=func_of_trod hu abr t0;have r1:=func_of_trod hu abt t1;have r2:=func_of_trod hu abu t2;have r3:=func_of_trod hu abv t3;have r4:=func_of_trod hu abw t4;subst r0;subst r1;subst r2;subst r3;subst r4;refine⟨[Value.func (.func 199) #[] #[],Value.func (.func 200) #[] #[],Value.func (.func 201) #[] #[],Value.func (.func 202) #[] #[],Value.func (.func 203) #[] #[]],?_,λj c hj=>?_⟩
 ·exact .cons _ _ _ _ (.func _ _ _ _ _ .nil .nil) (.cons _ _ _ _ (.func _ _ _ _ _ .nil .nil) (.cons _ _ _ _ (.func _ _ _ _ _ .nil .nil) (.cons _ _ _ _ (.func _ _ _ _ _ .nil .nil) (.cons _ _ _ _ (.func _ _ _ _ _ .nil .nil) .nil))))
 ·unfold World.var? at hv;rw[e1] at hv;simp only[Option.bind_some] at hv;split at hv
  ·rename_i cs2 e fz hh;injection hv with hv;subst hv;rw[cell_of hh];simpa using hj
  ·cases hv
end Go.Proofs.YtmdakolcndpjeaaGreatDoor
end
