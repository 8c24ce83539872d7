/-
  Part of the proof: WF.
-/
import Derived.Test.YtmdakolcndpjeaaGreatDoorWE
import Derived.Lib.SlicesS
import Derived.Test.YtmdakolcndpjeaaGreatDoorWC
open Go.Proofs.Tryz renaming underlying24->j6,underlying9->fH,underlying22->o9,prog->aq,func115->SH,func146->Lh,underlying23->lB,underlying20->Az,func114->SG
open Nat renaming reduceEqDiff->ao,le_refl->aK,lt_or_ge->dp,zero_le->cz,not_lt_zero->ik,le_antisymm->fF,le_trans->cY
open Option renaming some->aa,map_some->cy,some.injEq->aY
open List renaming drop_zero->fc,mem_of_getElem?->ie,ext_getElem?->uY,getElem?_eq_none->oX,getElem?_eq_getElem->cv,all_eq_true->dn,getElem?_eq_some_iff->aF,take_succ_eq_append_getElem->nj,mem_append->oZ,take_length->jk,mem_cons->fe,length_map->jj,length_take->ng,take_succ_cons->di,take_zero->de,map_append->Ar,mem_cons_self->dQ,mem_cons_of_mem->dG,mem_map->wO,mem_append_left->C9,mem_map_of_mem->Sg,drop_succ_cons->sh,getElem?_mapIdx->yv
open Bool renaming true->ab,false->ak,eq_false_iff->ib,and_true->uS,eq_iff_iff->uT,and_eq_true->aL,true_or->uV,or_true->Rx,or_false->CZ,false_eq_true->dP,true_and->qb
open Go renaming FuncId->bF
set_option maxHeartbeats 64000000
set_option maxRecDepth 100000
set_option linter.unusedSimpArgs false
set_option linter.unusedVariables false
set_option linter.constructorNameAsVariable false
set_option linter.defProp false
section
namespace Go.Proofs.YtmdakolcndpjeaaGreatDoor
open Go.AE Go.Lex Go.Pol
def Ch:Tryz.f72.results.toList=[.tmp 4]:=ai
def Qi:∀(x:Ex) (rx:List AV),Row x rx->∀(y:Ex) (ry:List AV),Row y ry->∀h,gY W 72 [.agg rx,.agg ry] h (.ret (.v (.bool (qR x y)))):=by
 intro x
 induction x using Ex.ind with
 |h k n no s l ih=>
  intro rx iv y ry xG h;obtain⟨k',n',no',s',l'⟩:=y;obtain⟨tok,sz,rows,rfl,fU,hO,gf⟩:=Row.iQ iv;obtain⟨tok',sz',rows',rfl,gQ,iZ,ew⟩:=Row.iQ xG;clear iv xG;have ux:=j6;have u9:=fH;have a3:=dE;have a9:=dR;have a24:=jm;have a26:=eG;have s26:=ec;have qD:=fU.1;have oc:=gQ.1;simp only[Ex.kind,Ex.n,Ex.no,Ex.name,Ex.l] at fU hO gf gQ iZ ew qD oc ⊢;have kr1:=ag.mk fU;have kz1:=ag.mk hO;have kr2:=ag.mk gQ;have kz2:=ag.mk iZ;have kih:=ag.mk ih;clear fU hO gQ iZ ih;have hq:((rows.length:Int)=(rows'.length:Int))=(l.length=l'.length):=by rw[qD,oc];exact propext ⟨λq=>by omega,λq=>by omega⟩
  have kx0:=ag.mk ((Ext.push h (ar k n no s tok sz rows)).trans (.push _ (ar k' n' no' s' tok' sz' rows')));refine eI rfl Tryz.func72 rfl ?_;by_cases cH:k=k'/\n=n'/\no=no'/\s=s'/\l.length=l'.length
  ·obtain⟨rfl,rfl,rfl,rfl,du⟩:=cH;have dS:rows.length=rows'.length:=(by omega);have khq:=ag.mk hq;clear hq
   repeat' (first|simp(maxSteps:=9999999) (disch:=first|exact dZ|fail) only[gW,reduceIte,ao,al,Ch,lP,tu,rS,vZ,pW,gy,iP,jK,pq,gr,bZ,rI, *]|(refine dX ?_ ?_<;>(intro _;try omega))|refine bM ai ?_)
   refine eX (λm e h'=>∃(i:Nat),i<=l.length/\m=l.length - i/\e.get 2=.ptr (.box h.boxes.length) 0/\e.get 3=.ptr (.box (h.boxes.length+1)) 0/\e.get 5=.v (.int .i64 i)/\e.defers=[]/\Ext h h'/\
    h'.boxes[h.boxes.length]?=aa (ar k n no s tok sz rows)/\h'.boxes[h.boxes.length+1]?=aa (ar k n no s tok' sz' rows')/\∀j,j<i->l[j]?=l'[j]?) ?_ l.length _ _ ?_
   ·rintro m e h' ⟨i,hi,rfl,g2,g3,g5,hd,hx,hb,eJ,bV⟩;have kx:=ag.mk hx;have kno:=ag.mk bV;clear hx bV;by_cases ay:i<l.length
    ·obtain⟨y,r,hy,hr,cX⟩:=kr1.out.get ay;obtain⟨y',r',lH,gg,vF⟩:=kr2.out.get (aj:i<l'.length);have h5:=kz1.out i ay;have AY:=kz2.out i aj;subst h5;subst AY;have dU:(i:Int)<(rows.length:Int):=(by rw[qD];omega);have fX:(i:Int)<(rows'.length:Int):=(by rw[oc];omega);have NM:=Kn cX.len;have agQ:=Kn vF.len;have qC:5<=(r.drop 0).length:=(by rw[fc,cX.len];exact aK _);have Ns:5<=(r'.drop 0).length:=(by rw[fc,vF.len];exact aK _);obtain⟨h2,hc,dk⟩:=kih.out y (ie hy) r cX y' r' vF h';have kx2:=ag.mk dk;have kb:=ag.mk hb;have kb':=ag.mk eJ;clear dk;by_cases hs:qR y y'=ab
     ·have khs:=ag.mk hs;rw[hs] at hc;clear hs dS
      repeat' (first|simp(maxSteps:=9999999) (disch:=first|exact dZ|fail) only[gW,reduceIte,ao,al,Ch,gy,bZ,aV,dr, *]|(refine dX ?_ ?_<;>(intro _;try omega))|refine bM ai ?_)
      refine⟨l.length - (i+1),by omega,i+1,by omega,by omega,(by first|trivial|(simp;done)|(simp;omega)),(by first|trivial|(simp;done)|(simp;omega)),(by first|trivial|(simp;done)|(simp;omega)),(by first|trivial|(simp;done)|(simp;omega)),kx.out.trans kx2.out,kx2.out.box _ _ kb.out,kx2.out.box _ _ kb'.out,λj hj=>?_⟩;rcases dp j i with q|q
      ·exact kno.out j q
      ·have:j=i:=(by omega);subst this;rw[hy,lH,wh.1 khs.out]
     ·have hs:qR y y'=ak:=(by simpa using hs);have khs:=ag.mk hs;rw[hs] at hc;clear hs dS
      repeat' (first|simp(maxSteps:=9999999) (disch:=first|exact dZ|fail) only[gW,reduceIte,ao,al,Ch,gy,bZ,aV,dr, *]|(refine dX ?_ ?_<;>(intro _;try omega))|refine bM ai ?_)
      refine iL ?_ (kx.out.trans kx2.out)
      symm
      refine uJ ?_;intro q;injection q with _ _ _ _ q;subst q;rw[hy] at lH;injection lH with lH;have:=khs.out;rw[lH,zU rfl] at this;cases this
    ·have cJ:i=l.length:=(by omega);subst cJ;have dU:¬((l.length:Int)<(rows.length:Int)):=(by rw[qD];omega);clear dS
     repeat' (first|simp(maxSteps:=9999999) (disch:=first|exact dZ|fail) only[gW,reduceIte,ao,al,Ch,gy,bZ, *]|(refine dX ?_ ?_<;>(intro _;try omega))|refine bM ai ?_)
     refine iL ?_ kx.out
     symm
     refine zU ?_;have:l=l':=uY λj=>by
      rcases dp j l.length with q|q
      ·exact kno.out j q
      ·rw[oX q,oX aj]
     rw[this]
   ·refine⟨0,cz _,rfl,?_,?_,?_,?_,kx0.out,?_,?_,λj hj=>absurd hj (ik j)⟩
    iterate 4
     ·simp only[gW,reduceIte,ao,al,rI]<;>rfl
    ·simp(disch:=(first|assumption|omega|(exact(aA _ _).symm)|(simp only[df];omega)|(refine fF ?_ ?_<;>simp only[df]<;>omega)|fail)) only[gZ]
    ·simp(disch:=(first|assumption|omega|(exact(aA _ _).symm)|(simp only[df];omega)|(refine fF ?_ ?_<;>simp only[df]<;>omega)|fail)) only[gZ]
  ·have kall:=ag.mk cH;have bV:¬(k=k'/\n=n'/\no=no'/\s=s'/\(rows.length:Int)=(rows'.length:Int)):=(by rw[hq];exact cH);clear cH hq
   repeat' (first|simp(maxSteps:=9999999) (disch:=first|exact dZ|fail) only[gW,reduceIte,ao,al,Ch,lP,tu,rS,vZ,pW,gy,iP,jK,pq,gr,bZ,rI, *]|(refine dX ?_ ?_<;>(intro _;try omega))|refine bM ai ?_)
   all_goals first
    |(refine iL ?_ ((Ext.push h _).trans (.push _ _));symm;refine uJ ?_;intro q;rw[Ex.mk.injEq] at q;obtain⟨q1,q2,q3,q4,q5⟩:=q;exact kall.out ⟨by first|exact q1|assumption,by first|exact q2|assumption,by first|exact q3|assumption,by first|exact q4|assumption,by rw[q5]⟩)
    |(exfalso;exact bV ⟨by assumption,by assumption,by assumption,by assumption,by first|assumption|omega⟩)
def Fc:Tryz.f71.results.toList=[.tmp 4]:=ai
def Qk(k k':Tok)(sz sz':Nat)(a b:List (List UInt8))(hz:∀i:Nat,i<a.length->sz=1)(ur:∀i:Nat,i<b.length->sz'=1)(ha:a.length<=9223372036854775807)(h:ae):
 W.call 71 [.list k sz (strs a),.list k' sz' (strs b)] h=aa (.ret (.v (.bool (decide (a=b)))),h):=by
 have u9:=fH;have u22:=o9;have a9:=dR;have s9:=oV;refine fg rfl Tryz.func71 rfl ?_;by_cases rk:a.length=b.length
 ·repeat' (first|simp(maxSteps:=9999999) (disch:=first|exact dZ|fail) only[gW,reduceIte,ao,al,Fc,dL, *]|(refine dX ?_ ?_<;>(intro _;try omega))|refine bM ai ?_)
  refine eX (λm e h'=>∃i:Nat,i<=a.length/\m=a.length - i/\e.get 0=.list k sz (strs a)/\e.get 1=.list k' sz' (strs b)/\e.get 5=.v (.int .i64 i)/\e.defers=[]/\h'=h/\∀j,j<i->a[j]?=b[j]?) ?_ a.length _ _ ?_
  ·rintro m e h' ⟨i,hi,rfl,g0,g1,g5,hd,rfl,bV⟩;have kno:=ag.mk bV;clear bV;by_cases ay:i<a.length
   ·obtain⟨x,hx⟩:∃t,a[i]?=aa t:=⟨_,cv ay⟩;obtain⟨y,hy⟩:∃t,b[i]?=aa t:=⟨_,cv aj⟩;obtain rfl:=hz i ay;obtain rfl:=ur i aj;have dU:(i:Int)<((strs a).length:Int):=(by rw[dL];omega);have fX:(i:Int)<((strs b).length:Int):=(by rw[dL];omega);have kab:=ag.mk rk;clear rk
    repeat' (first|simp(maxSteps:=9999999) (disch:=first|exact dZ|fail) only[gW,reduceIte,ao,al,Fc,dL,ot,aV,ck,aJ, *]|(refine dX ?_ ?_<;>(intro _;try omega))|refine bM ai ?_)
    ·rename_i uq;refine⟨a.length - (i+1),by omega,i+1,by omega,rfl,(by first|trivial|(simp;done)|(simp;omega)),(by first|trivial|(simp;done)|(simp;omega)),(by first|trivial|(simp;done)|(simp;omega)),(by first|trivial|(simp;done)|(simp;omega)),(by first|trivial|(simp;done)|(simp;omega)),λj hj=>?_⟩;rcases dp j i with q|q
     ·exact kno.out j q
     ·have:j=i:=(by omega);subst this;rw[hx,hy,uq]
    ·rename_i uq;refine mb ?_
     symm
     rw[decide_eq_false_iff_not];rintro rfl;rw[hx] at hy;injection hy with hy;exact uq hy
   ·have cJ:i=a.length:=(by omega);have kab:=ag.mk rk;have dy:¬((i:Int)<(a.length:Int)):=(by omega);clear rk
    repeat' (first|simp(maxSteps:=9999999) (disch:=first|exact dZ|fail) only[gW,reduceIte,ao,al,Fc,dL, *]|(refine dX ?_ ?_<;>(intro _;try omega))|refine bM ai ?_)
    refine mb ?_
    symm
    rw[decide_eq_true_eq];refine uY λj=>?_;have:=kab.out;rcases dp j a.length with q|q
    ·exact kno.out j aj
    ·rw[oX q,oX aj]
  ·refine⟨0,cz _,rfl,?_,?_,?_,?_,rfl,λj hj=>absurd hj (ik j)⟩<;>exact gR
 ·repeat' (first|simp(maxSteps:=9999999) (disch:=first|exact dZ|fail) only[gW,reduceIte,ao,al,Fc,dL, *]|(refine dX ?_ ?_<;>(intro _;try omega))|refine bM ai ?_)
  refine mb ?_
  symm
  rw[decide_eq_false_iff_not];rintro rfl;exact rk rfl
def nY(x:Ex):Bool:=decide (parts x 400<=60)||(decide (256<parts x 400)&&decide (parts x 400<=300))
def sy(l:List (List UInt8))(most:Int):Bool:= !((decide (10<l.length)&&decide ((l.length:Int)<=most))||decide (60<l.length))&&l.all λs=>decide (s.length<=60)
def acn:Tryz.f63.results.toList=[.tmp 2]:=ai
def MD(x:Ex)(row:List AV)(hr:Row x row)(h:ae):gY W 63 [.agg row] h (.ret (.v (.bool (nY x)))):=by
 obtain⟨h2,hc,dk⟩:=abK x row hr 400 aj aj (h.push row);obtain⟨tok,sz,rows,rfl,-,-,-⟩:=Row.iQ hr;have a26:=eG;have s26:=ec;have kx:=ag.mk ((Ext.push h _).trans dk);have rl:(ar x.kind x.n x.no x.name tok sz rows).length=5:=rfl;clear dk hr;refine eI rfl Tryz.func63 rfl ?_
 repeat' (first|simp(maxSteps:=9999999) (disch:=first|exact dZ|fail) only[gW,reduceIte,ao,al,acn,lP,mS, *]|(refine dX ?_ ?_<;>(intro _;try omega))|refine bM ai ?_)
 all_goals
  refine wU ?_ kx.out;simp_all [nY]
  try (intros;omega)
def E9:Tryz.f62.results.toList=[.tmp 4]:=ai
def ME(k:Tok)(sz:Nat)(l:List (List UInt8))(most:Int)(hz:∀i:Nat,i<l.length->sz=1)(hl:l.length<=9223372036854775807)(h:ae):W.call 62 [.list k sz (strs l),.v (.int .i64 most)] h=aa (.ret (.v (.bool (sy l most))),h):=by
 have u9:=fH;have u22:=o9;have a9:=dR;have s9:=oV;refine fg rfl Tryz.func62 rfl ?_;by_cases qt:(10<l.length/\(l.length:Int)<=most)∨60<l.length
 ·repeat' (first|simp(maxSteps:=9999999) (disch:=first|exact dZ|fail) only[gW,reduceIte,ao,al,E9,dL, *]|(refine dX ?_ ?_<;>(intro _;try omega))|refine bM ai ?_)
  all_goals
   refine mb ?_;simp[sy];omega
 ·repeat' (first|simp(maxSteps:=9999999) (disch:=first|exact dZ|fail) only[gW,reduceIte,ao,al,E9,dL, *]|(refine dX ?_ ?_<;>(intro _;try omega))|refine bM ai ?_)
  all_goals
   refine eX (λm e h'=>∃i:Nat,i<=l.length/\m=l.length - i/\e.get 0=.list k sz (strs l)/\e.get 5=.v (.int .i64 i)/\e.defers=[]/\h'=h/\∀s∈l.take i,s.length<=60) ?_ l.length _ _ ?_
   ·rintro m e h' ⟨i,hi,rfl,g0,g5,hd,rfl,bV⟩;have kno:=ag.mk bV;clear bV;by_cases ay:i<l.length
    ·obtain⟨x,hx⟩:∃t,l[i]?=aa t:=⟨_,cv ay⟩;obtain rfl:=hz i ay;have dU:(i:Int)<((strs l).length:Int):=by rw[dL];omega
     repeat' (first|simp(maxSteps:=9999999) (disch:=first|exact dZ|fail) only[gW,reduceIte,ao,al,E9,dL,ot,aV,ck,aJ,su, *]|(refine dX ?_ ?_<;>(intro _;try omega))|refine bM ai ?_)
     ·refine mb ?_
      symm
      have:l.all (λs=>decide (s.length<=60))=ak:=(by rw[ib];intro ha;have:=dn.1 ha x (ie hx);simp at this;omega);simp[sy,this]
     ·refine⟨l.length - (i+1),by omega,i+1,by omega,rfl,(by first|trivial|(simp;done)|(simp;omega)),(by first|trivial|(simp;done)|(simp;omega)),(by first|trivial|(simp;done)|(simp;omega)),(by first|trivial|(simp;done)|(simp;omega)),λs hs=>?_⟩;obtain⟨hj,rfl⟩:=aF.1 hx;rw[nj hj] at hs;rcases oZ.1 hs with q|q
      ·exact kno.out s q
      ·simp at q;subst q;omega
    ·have cJ:i=l.length:=(by omega);subst cJ
     repeat' (first|simp(maxSteps:=9999999) (disch:=first|exact dZ|fail) only[gW,reduceIte,ao,al,E9,dL, *]|(refine dX ?_ ?_<;>(intro _;try omega))|refine bM ai ?_)
     refine mb ?_
     symm
     have cH:l.all (λs=>decide (s.length<=60))=ab:=dn.2 λs hs=>fJ (kno.out s (by rw[jk];exact hs));simp only[sy,cH,uS];simp;omega
   ·refine⟨0,cz _,rfl,?_,?_,?_,rfl,λs hs=>by simp at hs⟩<;>exact gR
def Q9:List (List UInt8):=[[112,111,108,105,99,121],[109,111,100,101],[111,108,100],[110,101,119],[98,111,116,104],[101,105,116,104,101,114],[111,102,102,105,99,101],[107,105,110,100],[114,117,108,101],[116,104,105,110,107],[99,104,97,110,103,101],[115,111,109,101],[119,101,105,103,104,116],[111,102],[117,112,116,111],[101,108,115,101]]
def F4(s:List UInt8):Bool:=Q9.contains s
def qo(s:List UInt8):Bool:=nI s&& !F4 s
def age(s:List UInt8):F4 s=decide (s=[112,111,108,105,99,121]∨s=[109,111,100,101]∨s=[111,108,100]∨s=[110,101,119]∨s=[98,111,116,104]∨s=[101,105,116,104,101,114]∨s=[111,102,102,105,99,101]∨s=[107,105,110,100]∨s=[114,117,108,101]∨s=[116,104,105,110,107]∨s=[99,104,97,110,103,101]∨s=[115,111,109,101]∨s=[119,101,105,103,104,116]∨s=[111,102]∨s=[117,112,116,111]∨s=[101,108,115,101]):=by rw[uT,decide_eq_true_eq];simp[F4,Q9]
def idx(l:List (List UInt8))(s:List UInt8):Int:=Lib.idxOfS (l.map bs) (bs s)
def qn(l:List (List UInt8)):Bool:=(List.range l.length).all λi=>qo (l.getD i [])&&decide (idx l (l.getD i [])=i)
def VF{l:List (List UInt8)}{i:Nat}(hi:i<l.length)(h:(qo (l.getD i [])&&decide (idx l (l.getD i [])=i))=ak):qn l=ak:=by rw[ib];intro ha;have:=dn.1 ha i (List.mem_range.2 hi);rw[h] at this;cases this
mutual
noncomputable def mw(o:List (List UInt8)):Ex->Bool
 | .mk k _ _ s l=> !((decide (k=1)||decide (k=2))&&decide (idx o s<0))&&s5 o l
noncomputable def s5(o:List (List UInt8)):List Ex->Bool
 | []=>ab
 |x::r=>mw o x&&s5 o r
end
def iY(k n:Int)(s:List UInt8)(m:Nat)(up:Bool):Bool:=
 if k=1 then decide (n=0)&&decide (m=0)
 else if k=2 then decide (1<=n)&&decide (n<=4096)&&decide (m=0)
 else if k=3 then decide (s=[])&&decide (1<=m)&&decide (m<=16)&&decide (1<=n)&&decide (n<=m)
 else if k=4 then up&&decide (s=[])&&decide (m=2)&&decide (0<=n)&&decide (n<=1099511627776)
 else ak
mutual
def kh(up:Bool):Ex->Bool
 | .mk k n _ s l=>py up l&&iY k n s l.length up
def py(up:Bool):List Ex->Bool
 | []=>ab
 |x::r=>kh up x&&py up r
end
def acp:Tryz.f112.results.toList=[.tmp 6]:=ai
def acs:Tryz.f120.results.toList=[.tmp 2]:=ai
def rY(a b c:Int)(h:ae):W.call 112 [.v (.int .i64 a),.v (.int .i64 b),.v (.int .i64 c)] h=aa (.ret (.v (.bool (decide (b<=a)&&decide (a<=c)))),h):=by
 refine fg rfl Tryz.func112 rfl ?_
 repeat' (first|simp(maxSteps:=9999999) (disch:=first|exact dZ|fail) only[gW,reduceIte,ao,al,acp, *]|(refine dX ?_ ?_<;>(intro _;try omega))|refine bM ai ?_)
 all_goals
  refine mb ?_;simp_all
def IH(x:Ex)(row:List AV)(hr:Row x row)(h:ae):W.call 120 [.agg row] h=aa (.ret (.v (.bool (decide (x.kind=1)||decide (x.kind=2)))),h.push row):=by
 obtain⟨tok,sz,rows,rfl,-,-,-⟩:=Row.iQ hr;have a3:=dE;clear hr;refine fg rfl Tryz.func120 rfl ?_
 repeat' (first|simp(maxSteps:=9999999) (disch:=first|exact dZ|fail) only[gW,reduceIte,ao,al,acs,lP,tu,iP, *]|(refine dX ?_ ?_<;>(intro _;try omega))|refine bM ai ?_)
 all_goals
  refine mb ?_;simp_all
def PC:Tryz.f115.results.toList=[]:=ai
def acq:Tryz.f117.results.toList=[.tmp 4]:=ai
def Us(e:Int):gb aq 147 [(0,.v (.int .i64 e))]=aa (.agg [.v (.int .i64 e)]):=ai
def Zw:isIface aq 147=aa ak:=ai
def ZC(n:Int):(AV.v (.int .i64 n)).cF=aa [.v (.int .i64 n)]:=rfl
def gU(e:Int):AV:=.iface 147 (.agg [.v (.int .i64 e)])
def jA(e:Int)(h:ae):W.call 115 [.v (.bool ab),.v (.int .i64 e)] h=aa (.ret (.tuple []),h):=by
 refine fg rfl SH rfl ?_
 repeat' (first|simp(maxSteps:=9999999) (disch:=first|exact dZ|fail) only[gW,reduceIte,ao,al,PC, *]|(refine dX ?_ ?_<;>(intro _;try omega))|refine bM ai ?_)
def jc(e:Int)(h:ae):W.call 115 [.v (.bool ak),.v (.int .i64 e)] h=aa (.panic (gU e),h):=by
 have i69:=Zw;refine fg rfl SH rfl ?_
 repeat' (first|simp(maxSteps:=9999999) (disch:=first|exact dZ|fail) only[gW,reduceIte,ao,al,PC,Us,gU, *]|(refine dX ?_ ?_<;>(intro _;try omega))|refine bM ai ?_)
def B6(x:Ex)(row:List AV)(hr:Row x row)(d:Int)(h:ae):W.call 117 [.agg row,.v (.int .i64 d)] h=aa (.ret (.func (.func 146) [] [.ptr (.box h.boxes.length) 0,.ptr (.box (h.boxes.length+1)) 0]),(h.push row).push [.v (.int .i64 d)]):=by
 obtain⟨tok,sz,rows,rfl,-,-,-⟩:=Row.iQ hr;clear hr;refine fg rfl Tryz.func117 rfl ?_
 repeat' (first|simp(maxSteps:=9999999) (disch:=first|exact dZ|fail) only[gW,reduceIte,ao,al,acq,lP,ZC,rI, *]|(refine dX ?_ ?_<;>(intro _;try omega))|refine bM ai ?_)
def Vz:∀{l:List Ex} {x:Ex},x∈l->jr x<=iO l:=by
 intro l
 induction l with
 |nil=>intro x h;cases h
 |cons y l ih=>
  intro x h;rw[iO];rcases fe.1 h with rfl|h
  ·omega
  ·have:=ih h;omega
section
variable {p:Po} {t:PT} {x:Rl} {tok:Tok} {sz:Nat} {rows:List (List AV)}
def ab6:0+10<=(au p t).length:=by rw[Ph];omega
end
section
variable (r:Ref) (off:Nat) (es:List (List AV)) (i sz:Nat)
def Wf:cN aq 155 (.ptr r off) 0=aa (.ptr r (off+0)):=ai
def Wg:cN aq 155 (.ptr r off) 1=aa (.ptr r (off+5)):=ai
end
section
end
def L7:∀{l:List Ex} {x:Ex},x∈l->cZ x<=fI l:=by
 intro l
 induction l with
 |nil=>intro x h;cases h
 |cons y l ih=>
  intro x h;rw[fI];rcases fe.1 h with rfl|h
  ·omega
  ·have:=ih h;omega
variable {α:Type}
def dv(k n no:Int)(s:List UInt8)(tok:Tok)(sz:Nat)(rows:List (List AV))(d:Int):List AV:=[.v (.int .i64 k),.v (.int .i64 n),.v (.int .i64 no),.v (.string (bs s)),.list tok sz rows,.v (.int .i64 d)]
mutual
def feed(next:α->Ex->Int->Nx α):Ex->Int->α->Nx α
 | .mk k n no s l,d,a=>match next a (.mk k n no s l) d with| .cont a'=>ke next l (d+1) a'|q=>q
def ke(next:α->Ex->Int->Nx α):List Ex->Int->α->Nx α
 | [],_,a=>.cont a
 |x::r,d,a=>match feed next x d a with| .cont a'=>ke next r d a'|q=>q
end
structure Cons(l bn l0 n0:Nat)(Inv InvS:α->ae->Prop)(next:α->Ex->Int->Nx α):Prop where
 le:l0<=l
 st:∀a h h',Inv a h->St l h h'->Inv a h'
 J6:∀a h h',InvS a h->St l h h'->InvS a h'
 at_:∀a h,Inv a h->l<h.loops.length/\bn<h.boxes.length
 round:∀a h x tok sz rows d,Inv a h->Row x (ar x.kind x.n x.no x.name tok sz rows)->0<=d->d<=4611686018427387904->n0<=h.tn->∃r h',W.round l [.agg (dv x.kind x.n x.no x.name tok sz rows d)] h=aa (r,h')/\Fr bn l0 n0 h h'/\Rk l Inv InvS h r h' (next a x d)
def KI(l:Nat)(Inv InvS:α->ae->Prop)(h:ae)(r:bw)(h':ae):Nx α->Prop
 | .cont a=>r=.ret (.tuple [])/\Inv a h'/\∀(m:Nat) (q:ff),h.loops[m]?=aa q->h'.loops[m]?=aa q
 | .stop a=>r=.ret (.tuple [])/\InvS a h'
 | .panic v=>r=.panic v
def vY:Tryz.f146.results.toList=[]:=ai
def CX:(fa aq 155).bind AV.cF=aa (dv 0 0 0 [] .nil 0 [] 0):=ai
def QK:cU aq 155=aa 6:=ai
def afu:cU aq 175=aa 1:=ai
def S0:fZ aq 155=aa ab:=ai
def S1:fZ aq 175=aa ak:=ai
def GW(k n no:Int)(s:List UInt8)(tok:Tok)(sz:Nat)(rows:List (List AV))(d:Int):gb aq 155 [(0,.agg (ar k n no s tok sz rows)),(1,.v (.int .i64 d))]=aa (.agg (dv k n no s tok sz rows d)):=ai
section
variable {k n no d:Int} {s:List UInt8} {tok:Tok} {sz:Nat} {rows:List (List AV)}
def JL:((dv k n no s tok sz rows d).drop 0).take 6=dv k n no s tok sz rows d:=rfl
def Kx{l:Nat}:(AV.yield l).cF=aa [.yield l]:=rfl
end
def abH:∀(x:Ex) (tok:Tok) (sz:Nat) (rows:List (List AV)),Row x (ar x.kind x.n x.no x.name tok sz rows)->∀{α:Type} (l bn l0 n0:Nat) (Inv InvS:α->ae->Prop) (next:α->Ex->Int->Nx α),Cons l bn l0 n0 Inv InvS next->
 ∀(a:α) (h:ae) (bx bd:Nat) (d:Int),Inv a h->n0<=h.tn->h.boxes[bx]?=aa (ar x.kind x.n x.no x.name tok sz rows)->h.boxes[bd]?=aa [.v (.int .i64 d)]->bx≠bn->bd≠bn->0<=d->d+jr x<=4611686018427387904->
 ∃r h',W.call 146 [.yield l,.ptr (.box bx) 0,.ptr (.box bd) 0] h=aa (r,h')/\Fr bn l0 n0 h h'/\KI l Inv InvS h r h' (feed next x d a):=by
 intro x
 induction x using Ex.ind with
 |h kk nn no name lx ih=>
  intro tok sz rows et α l bn l0 n0 Inv InvS next C a h bx bd d hI uf kt cP Et vt HG iR
  obtain⟨cu,bG,XS⟩:=Row.yO et;have a3:=dE;have a9:=dR;have a24:=jm;have a26:=eG;have s26:=ec;have a85:=S1;have s85:=afu;have s77:=QK;have a77:=S0;have z26:=nS;have z77:=CX;have ux:=j6;have jt:=C.at_ a h hI;have nx:bx≠h.boxes.length:=by have:=(aF.1 kt).1;omega
  have nd:bd≠h.boxes.length:=by have:=(aF.1 cP).1;omega
  have rl:(ar kk nn no name tok sz rows).length=5:=rfl;have aP:=cu.1;simp only[Ex.l] at cu bG aP XS;have kr:=ag.mk cu;have kz:=ag.mk bG;have kih:=ag.mk ih;clear cu bG ih;have kC:=ag.mk C;have kI:=ag.mk hI;obtain⟨r1,h1,fU,fr1,an1⟩:=C.round a (h.push [.yield l]) (.mk kk nn no name lx) tok sz rows d (C.st _ _ _ hI (.push _ _ _)) et HG aj uf;simp only[Ex.kind,Ex.n,Ex.no,Ex.name] at et kt fU an1 ⊢;rw[feed];cases xC:next a (.mk kk nn no name lx) d with
  |panic v=>
   rw[xC] at an1;have an1:r1=.panic v:=an1;subst an1;refine bO rfl Lh rfl ?_
   repeat' (first|simp(maxSteps:=9999999) (disch:=first|exact dZ|fail) only[gW,reduceIte,ao,al,vY,Kx,GW,mS,aJ, *]|(refine dX ?_ ?_<;>(intro _;try omega))|refine bM ai ?_)
   exact⟨_,_,rfl,(Fr.push ..).trans fr1,rfl⟩
  |stop a'=>
   rw[xC] at an1;obtain⟨e1,e2,-⟩:r1=.ret (.v (.bool ak))/\InvS a' h1/\_:=an1;subst e1;have ke2:=ag.mk e2;clear e2;refine bO rfl Lh rfl ?_
   repeat' (first|simp(maxSteps:=9999999) (disch:=first|exact dZ|fail) only[gW,reduceIte,ao,al,vY,Kx,GW,mS,aJ, *]|(refine dX ?_ ?_<;>(intro _;try omega))|refine bM ai ?_)
   exact⟨_,_,rfl,(Fr.push ..).trans fr1,rfl,ke2.out⟩
  |cont a'=>
   rw[xC] at an1;obtain⟨e1,e2,e3⟩:r1=.ret (.v (.bool ab))/\Inv a' h1/\∀(m:Nat) (q:ff),(h.push [.yield l]).loops[m]?=aa q->h1.loops[m]?=aa q:=an1;subst e1;have gf:=fr1.box bx _ Et (bW kt);have ew:=fr1.box bd _ vt (bW cP);have gO:=fr1.box h.boxes.length _ aj (bX h [.yield l]);have ke2:=ag.mk e2;have ke3:=ag.mk e3;have kf1:=ag.mk fr1;clear e2 e3 fr1;refine bO rfl Lh rfl ?_
   repeat' (first|simp(maxSteps:=9999999) (disch:=first|exact dZ|fail) only[gW,reduceIte,ao,al,vY,Kx,GW,mS,aJ,gy,bZ, *]|(refine dX ?_ ?_<;>(intro _;try omega))|refine bM ai ?_)
   refine eX (λm e h'=>∃(i:Nat) (b:α),i<=lx.length/\m=lx.length - i/\e.get 1=.ptr (.box bx) 0/\e.get 2=.ptr (.box bd) 0/\e.get 3=.ptr (.box h.boxes.length) 0/\e.get 14=.list tok sz rows/\e.get 15=.v (.int .i64 (lx.length:Nat))/\e.get 16=.v (.int .i64 i)/\e.defers=[]/\
    Fr bn l0 n0 h h'/\Inv b h'/\(∀(m:Nat) (q:ff),h.loops[m]?=aa q->h'.loops[m]?=aa q)/\h'.boxes[bx]?=aa (ar kk nn no name tok sz rows)/\h'.boxes[bd]?=aa [.v (.int .i64 d)]/\h'.boxes[h.boxes.length]?=aa [.yield l]/\
    ke next (lx.drop i) (d+1) b=ke next lx (d+1) a') ?_ lx.length _ _ ?_
   ·rintro m e h' ⟨i,b,hi,rfl,g1,g2,g3,g14,g15,g16,hd,hf,MR,Nv,gf,ew,gO,pF⟩;have kf:=ag.mk hf;have kI':=ag.mk MR;have klp:=ag.mk Nv;have kfd:=ag.mk pF;clear hf MR Nv pF ke2 ke3 kf1;by_cases ay:i<lx.length
    ·obtain⟨y,r,hy,hr,cX⟩:=kr.out.get ay;have h5:=kz.out i ay;subst h5;obtain⟨tk2,sz2,rows2,rfl,-⟩:=Row.iQ cX;have dU:(i:Int)<(rows.length:Int):=(by rw[aP];omega);have fX:(i:Int)<(lx.length:Int):=(by omega);have qC:5<=((ar y.kind y.n y.no y.name tk2 sz2 rows2).drop 0).length:=(by rw[fc];exact aK _);have D4:=Vz (ie hy);have uh:=B6 y _ cX (d+1);have nx':bx≠h'.boxes.length:=(by have:=(aF.1 gf).1;omega);have nd':bd≠h'.boxes.length:=(by have:=(aF.1 ew).1;omega);have ny':h.boxes.length≠h'.boxes.length:=(by have:=(aF.1 gO).1;omega);have rc:(AV.agg (ar y.kind y.n y.no y.name tk2 sz2 rows2)).cF=aa (ar y.kind y.n y.no y.name tk2 sz2 rows2):=rfl;have rl2:(ar y.kind y.n y.no y.name tk2 sz2 rows2).length=5:=rfl;have rlz:(ar 0 0 0 [] .nil 0 []).length=5:=rfl
     repeat' (first|simp(maxSteps:=9999999) (disch:=first|exact dZ|fail) only[gW,reduceIte,ao,al,vY,gy,bZ,aV,dr,mS,lP,aJ,CH, *]|(refine dX ?_ ?_<;>(intro _;try omega))|refine bM ai ?_)
     clear uh dU qC rc rl2 rlz;have agE:=kC.out.at_ b h' kI'.out;refine bU.gen λe2 q2 qd2 _ _=>?_;have p1:e2.get 1=.ptr (.box bx) 0:=(by rw[q2];simp only[gW,reduceIte,ao,al,g1]);have p2:e2.get 2=.ptr (.box bd) 0:=(by rw[q2];simp only[gW,reduceIte,ao,al,g2]);have p3:e2.get 3=.ptr (.box h.boxes.length) 0:=(by rw[q2];simp only[gW,reduceIte,ao,al,g3]);have p14:e2.get 14=.list tok 5 rows:=(by rw[q2];simp only[gW,reduceIte,ao,al,g14]);have p15:e2.get 15=.v (.int .i64 (lx.length:Nat)):=(by rw[q2];simp only[gW,reduceIte,ao,al,g15]);have p16:e2.get 16=.v (.int .i64 i):=(by rw[q2];simp only[gW,reduceIte,ao,al,g16]);have p23:e2.get 23=.func (.func 146) [] [.ptr (.box (h'.boxes.length+1)) 0,.ptr (.box (h'.boxes.length+1+1)) 0]:=(by rw[q2];simp only[gW,reduceIte,ao,al,aA]);have pd:e2.defers=[]:=(by rw[qd2];simp only[gW,reduceIte,ao,al,hd]);clear q2 qd2;refine PZ (by rw[Hg];exact p23) λrec w1 w2 w3 w4 w5 w6=>?_;have C':Cons (α:=α) h'.loops.length bn l0 n0 (λc hh=>Inv c hh/\hh.loops[h'.loops.length]?=aa rec/\hh.boxes[h.boxes.length]?=aa [.yield l]) (λc hh=>InvS c hh/\hh.loops[h'.loops.length]?=aa {rec with state:=.done,pending:=aa .ret}) next:=by
      refine⟨by have:=kC.out.le;omega,λc hh hk ⟨i1,i2,i3⟩ x=>⟨kC.out.st _ _ _ i1 (x.mono aj),x.2 _ _ (aK _) i2,x.1 _ _ i3⟩,λc hh hk ⟨i1,i2⟩ x=>⟨kC.out.J6 _ _ _ i1 (x.mono aj),x.2 _ _ (aK _) i2⟩,λc hh ⟨i1,i2,i3⟩=>⟨(aF.1 i2).1,(kC.out.at_ _ _ i1).2⟩,?_⟩;intro c hh z tk3 bQ rows3 dd ⟨i1,i2,i3⟩ hz k0 k1 k2;have kv:h'.loops.length<hh.loops.length:=(aF.1 i2).1;obtain⟨rb,vD⟩:∃rb:ff,rb={rec with state:=.busy}:=⟨_,rfl⟩;obtain⟨hB,uc⟩:∃hB:ae,hB=(hh.push (dv z.kind z.n z.no z.name tk3 bQ rows3 dd)).dY h'.loops.length rb:=⟨_,rfl⟩;have ki:Inv c hB:=(by rw[uc];exact kC.out.st _ _ _ i1 ((St.push l hh _).trans (St.dY aj _)));obtain⟨r1,h1,fU,fr1,an1⟩:=kC.out.round c hB z tk3 bQ rows3 dd ki hz k0 k1 (by rw[uc];exact k2);have fr0:Fr bn l0 n0 hh h1:=Fr.trans (by rw[uc];exact(Fr.push ..).trans (Fr.dY (by have:=kC.out.le;omega) _)) fr1;have yY:hB.loops[h'.loops.length]?=aa rb:=(by rw[uc];exact wo kv);have f1:hB.boxes[h.boxes.length]?=aa [.yield l]:=(by rw[uc];exact bW i3);have f2:hB.boxes[hh.boxes.length]?=aa (dv z.kind z.n z.no z.name tk3 bQ rows3 dd):=(by rw[uc];exact bX _ _);have pB:∀(h4:ae) (r4:bw),bU W rec.body (mR h'.loops.length rec [.agg (dv z.kind z.n z.no z.name tk3 bQ rows3 dd)]|>.st 6 (.ptr (.box hh.boxes.length) 0)) hB (zN h'.loops.length r4 h4)->
       W.round h'.loops.length [.agg (dv z.kind z.n z.no z.name tk3 bQ rows3 dd)] hh=aa (r4,h4):=by
       intro h4 r4 hb;rw[uc,vD] at hb;refine PH i2 (by rw[w2];rfl) ?_;rw[w3];have t24:(mR h'.loops.length rec [.agg (dv z.kind z.n z.no z.name tk3 bQ rows3 dd)]).get 24=.agg (dv z.kind z.n z.no z.name tk3 bQ rows3 dd):=(by rw[qP w2 w1];rfl);have rc:(AV.agg (dv z.kind z.n z.no z.name tk3 bQ rows3 dd)).cF=aa (dv z.kind z.n z.no z.name tk3 bQ rows3 dd):=rfl;have rl2:(dv z.kind z.n z.no z.name tk3 bQ rows3 dd).length=6:=rfl;have rlz:(dv 0 0 0 [] .nil 0 [] 0).length=6:=rfl;have khb:=ag.mk hb;clear hb w4
       repeat' (first|simp(maxSteps:=9999999) (disch:=first|exact dZ|fail) only[gW,reduceIte,ao,al,CH, *]|(refine dX ?_ ?_<;>(intro _;try omega))|refine bM ai ?_)
       exact⟨by first|trivial|rfl,rec,i2,w5,khb.out⟩
      have t3:(mR h'.loops.length rec [.agg (dv z.kind z.n z.no z.name tk3 bQ rows3 dd)]).get 3=.ptr (.box h.boxes.length) 0:=(by rw[qP w2 w1];exact p3);have nb:h.boxes.length≠hh.boxes.length:=(by have:=(aF.1 i3).1;omega);have rl2:0+6<=(dv z.kind z.n z.no z.name tk3 bQ rows3 dd).length:=aK _;have nbn:h.boxes.length≠bn:=(by have:=jt.2;omega);have kfr:=ag.mk fr0;have khbl:=ag.mk pB;have khhB:=ag.mk uc;have khrb:=ag.mk vD;have kw5:=ag.mk w5;have kw6:=ag.mk w6;have rr:∀(q:ff),q=rb->({q with state:=.ready,pending:=none}:ff)=rec:=(by intro q hq;rw[hq,vD,<-w5,<-w6]);have krr:=ag.mk rr;have rs:∀(q:ff),q=rb->({q with state:=.done,pending:=aa .ret}:ff)={rec with state:=.done,pending:=aa .ret}:=(by intro q hq;rw[hq,vD]);have krs:=ag.mk rs;clear fr0 pB uc vD fr1 w5 w6 rr rs ki k2 k1 k0 kv;cases Ib:next c z dd with
      |panic v=>
       rw[Ib] at an1;have e1:r1=.panic v:=an1;subst e1;refine⟨.panic v,h1,khbl.out _ _ ?_,kfr.out,rfl⟩;rw[w4];clear w4 w3 w2 w1 an1
       repeat' (first|simp(maxSteps:=9999999) (disch:=first|exact dZ|fail) only[gW,reduceIte,ao,al,JL,aJ,zN, *]|(refine dX ?_ ?_<;>(intro _;try omega))|refine bM ai ?_)
       exact⟨by first|trivial|rfl,by first|trivial|rfl⟩
      |stop c'=>
       rw[Ib] at an1;obtain⟨e1,e2',e3⟩:r1=.ret (.v (.bool ak))/\InvS c' h1/\∀(m:Nat) (q:ff),l<m->_->h1.loops[m]?=aa q:=an1;subst e1;have lG:=e3 _ _ aj yY;have ke3:=ag.mk e3;clear e3;obtain⟨hF,xq⟩:∃hF:ae,hF=h1.dY h'.loops.length {rec with state:=.done,pending:=aa .ret}:=⟨_,rfl⟩;have khF:=ag.mk xq
       suffices hs:W.round h'.loops.length [.agg (dv z.kind z.n z.no z.name tk3 bQ rows3 dd)] hh=aa (.ret (.v (.bool ak)),hF) by refine⟨_,_,hs,?_⟩;rw[xq];exact⟨kfr.out.trans (Fr.dY (by have:=kC.out.le;omega) _),rfl,⟨kC.out.J6 _ _ _ e2' (St.dY aj _),wo (aF.1 lG).1⟩,λm q h7 hm=>by rw[wm aj];refine ke3.out m q aj ?_;rw[khhB.out,wm aj];exact hm⟩
       refine khbl.out _ _ ?_;rw[w4];have kl1:=ag.mk lG;clear w4 w3 w2 w1 lG xq
       repeat' (first|simp(maxSteps:=9999999) (disch:=first|exact dZ|fail) only[gW,reduceIte,ao,al,JL,aJ,zN, *]|(refine dX ?_ ?_<;>(intro _;try omega))|refine bM ai ?_)
       exact⟨rb,kl1.out,by first|trivial|rfl,by rw[khF.out,krs.out rb rfl];rfl⟩
      |cont c'=>
       rw[Ib] at an1;obtain⟨e1,e2',e3⟩:r1=.ret (.v (.bool ab))/\Inv c' h1/\∀(m:Nat) (q:ff),_->h1.loops[m]?=aa q:=an1;subst e1;have lG:=e3 _ _ yY;have ke3:=ag.mk e3;clear e3;obtain⟨hF,xq⟩:∃hF:ae,hF=h1.dY h'.loops.length rec:=⟨_,rfl⟩;have khF:=ag.mk xq
       suffices hs:W.round h'.loops.length [.agg (dv z.kind z.n z.no z.name tk3 bQ rows3 dd)] hh=aa (.ret (.v (.bool ab)),hF) by
        refine⟨_,_,hs,?_⟩;rw[xq];refine⟨kfr.out.trans (Fr.dY (by have:=kC.out.le;omega) _),rfl,⟨kC.out.st _ _ _ e2' (St.dY aj _),wo (aF.1 lG).1,kfr.out.box _ _ nbn i3⟩,λm q hm=>?_⟩;by_cases q1:m=h'.loops.length
        ·subst q1;rw[i2] at hm;injection hm with hm;subst hm;exact wo (aF.1 lG).1
        ·rw[wm q1];refine ke3.out m q ?_;rw[khhB.out,wm q1];exact hm
       refine khbl.out _ _ ?_;rw[w4];have kl1:=ag.mk lG;clear w4 w3 w2 w1 lG xq
       repeat' (first|simp(maxSteps:=9999999) (disch:=first|exact dZ|fail) only[gW,reduceIte,ao,al,JL,aJ,zN, *]|(refine dX ?_ ?_<;>(intro _;try omega))|refine bM ai ?_)
       exact⟨rb,kl1.out,by first|trivial|rfl,by rw[khF.out,krr.out rb rfl];rfl⟩
     have Zp:∃r3 h3,W.call 146 [.yield h'.loops.length,.ptr (.box (h'.boxes.length+1)) 0,.ptr (.box (h'.boxes.length+1+1)) 0] ((((h'.push (ar y.kind y.n y.no y.name tk2 sz2 rows2)).push (ar y.kind y.n y.no y.name tk2 sz2 rows2)).push [.v (.int .i64 (d+1))]).loop rec)=aa (r3,h3)/\
      Fr bn l0 n0 ((((h'.push (ar y.kind y.n y.no y.name tk2 sz2 rows2)).push (ar y.kind y.n y.no y.name tk2 sz2 rows2)).push [.v (.int .i64 (d+1))]).loop rec) h3/\KI h'.loops.length _ _ ((((h'.push (ar y.kind y.n y.no y.name tk2 sz2 rows2)).push (ar y.kind y.n y.no y.name tk2 sz2 rows2)).push [.v (.int .i64 (d+1))]).loop rec) r3 h3 (feed next y (d+1) b):=
      kih.out y (ie hy) tk2 sz2 rows2 cX h'.loops.length bn l0 n0 _ _ next C' b _ (h'.boxes.length+1) (h'.boxes.length+1+1) (d+1)
      ⟨kC.out.st _ _ _ kI'.out ((((St.push _ _ _).trans (St.push _ _ _)).trans (St.push _ _ _)).trans (St.EC _ _ _)),OD,bW (bW (bW gO))⟩
      (cY uf kf.out.tn)
      (by have:=bX (h'.push (ar y.kind y.n y.no y.name tk2 sz2 rows2)) (ar y.kind y.n y.no y.name tk2 sz2 rows2);rw[aA] at this;exact bW this)
      (by have:=bX ((h'.push (ar y.kind y.n y.no y.name tk2 sz2 rows2)).push (ar y.kind y.n y.no y.name tk2 sz2 rows2)) [.v (.int .i64 (d+1))];rw[aA,aA] at this;exact this)
      aj aj aj (by rw[jr] at iR;omega)
     obtain⟨r3,h3,D2,hK,xp⟩:=Zp;refine⟨r3,h3,D2,?_⟩;have fr3:Fr bn l0 n0 h h3:=kf.out.trans ((((Fr.push ..).trans (Fr.push ..)).trans (Fr.push ..)).trans ((Fr.EC ..).trans hK));have ub:ke next lx (d+1) a'=match feed next y (d+1) b with| .cont b2=>ke next (lx.drop (i+1)) (d+1) b2|q=>q:=by rw[<-kfd.out,Ml hy,ke]
     have kf3:=ag.mk fr3;have vA:l0<=h'.loops.length:=(by have:=kC.out.le;omega);cases HQ:feed next y (d+1) b with
     |panic v=>
      rw[HQ] at xp ub;have e1:r3=.panic v:=xp;subst e1;rw[ub];clear w1 w2 w3 w4 w5 w6 D2 fr3 C' hK xp
      repeat' (first|simp(maxSteps:=9999999) (disch:=first|exact dZ|fail) only[gW,reduceIte,ao,al,vY, *]|(refine dX ?_ ?_<;>(intro _;try omega))|refine bM ai ?_)
      exact⟨_,_,rfl,kf3.out,rfl⟩
     |stop b2=>
      rw[HQ] at xp ub;obtain⟨e1,e2',e3⟩:r3=.ret (.tuple [])/\InvS b2 h3/\h3.loops[h'.loops.length]?=aa {rec with state:=.done,pending:=aa .ret}:=xp;subst e1;rw[ub];refine⟨_,e3,by simp,.inr ⟨rfl,?_⟩⟩;generalize hF:h3.dY _ _=XG;have kF:=ag.mk hF;clear w1 w2 w3 w4 w5 w6 D2 fr3 C' hK hF e3
      repeat' (first|simp(maxSteps:=9999999) (disch:=first|exact dZ|fail) only[gW,reduceIte,ao,al,vY, *]|(refine dX ?_ ?_<;>(intro _;try omega))|refine bM ai ?_)
      exact⟨_,_,rfl,by rw[<-kF.out];exact kf3.out.trans (Fr.dY vA _),rfl,by rw[<-kF.out];exact kC.out.J6 _ _ _ e2' (St.dY (aj:l<h'.loops.length) _)⟩
     |cont b2=>
      rw[HQ] at xp ub;obtain⟨e1,⟨e2',e3,e4⟩,e5⟩:r3=.ret (.tuple [])/\(Inv b2 h3/\h3.loops[h'.loops.length]?=aa rec/\h3.boxes[h.boxes.length]?=aa [.yield l])/\∀(m:Nat) (q:ff),_->h3.loops[m]?=aa q:=xp;subst e1;refine⟨_,e3,by rw[w5];simp,.inl ⟨w6,?_⟩⟩;generalize hF:h3.dY _ _=XG;have kF:=ag.mk hF;have ke3:=ag.mk e3;have ke5:=ag.mk e5;have aN:=ag.mk ub;clear w1 w2 w3 w4 w5 w6 D2 fr3 C' hK hF e3 e5 ub
      repeat' (first|simp(maxSteps:=9999999) (disch:=first|exact dZ|fail) only[gW,reduceIte,ao,al,vY, *]|(refine dX ?_ ?_<;>(intro _;try omega))|refine bM ai ?_)
      refine⟨lx.length - (i+1),by omega,i+1,b2,by omega,rfl,(by first|trivial|(simp;done)|(simp;omega)),(by first|trivial|(simp;done)|(simp;omega)),(by first|trivial|(simp;done)|(simp;omega)),(by first|trivial|(simp;done)|(simp;omega)),(by first|trivial|(simp;done)|(simp;omega)),(by first|trivial|(simp;done)|(simp;omega)),(by first|trivial|(simp;done)|(simp;omega)),?_,?_,λm q hm=>?_,?_,?_,?_,?_⟩
      ·rw[<-kF.out];exact kf3.out.trans (Fr.dY vA _)
      ·rw[<-kF.out];exact kC.out.st _ _ _ e2' (St.dY (aj:l<h'.loops.length) _)
      ·rw[<-kF.out];have h1:=klp.out m q hm;have h2:m≠h'.loops.length:=(by have:=(aF.1 h1).1;omega);refine(wm h2).trans ?_;exact ke5.out m q (OC h1)
      ·rw[<-kF.out];exact kf3.out.box _ _ Et (by assumption)
      ·rw[<-kF.out];exact kf3.out.box _ _ vt (by assumption)
      ·rw[<-kF.out];exact e4
      ·exact aN.out.symm
    ·have cJ:i=lx.length:=(by omega);subst cJ;have ub:ke next lx (d+1) a'=.cont b:=by rw[<-kfd.out,List.drop_length,ke]
     rw[ub]
     repeat' (first|simp(maxSteps:=9999999) (disch:=first|exact dZ|fail) only[gW,reduceIte,ao,al,vY, *]|(refine dX ?_ ?_<;>(intro _;try omega))|refine bM ai ?_)
     exact⟨_,_,rfl,kf.out,rfl,kI'.out,klp.out⟩
   ·refine⟨0,a',cz _,by omega,?_,?_,?_,?_,?_,?_,?_,(Fr.push ..).trans kf1.out,ke2.out,λm q hq=>ke3.out m q hq,gf,ew,gO,by rw[fc]⟩<;>simp only[gW,reduceIte,ao,al,aP]<;>rfl
def Cb:Tryz.f23.results.toList=[.tmp 2]:=ai
def pO(x:Ex):Bool:=decide (256<parts x 256)||decide (16<jr x)
def oF(p:Po):Bool:=sy p.aO 32&&sy p.kinds 16&&decide (p.rules.length<=20)&&nY p.change&&p.rules.all λx=>nY x.expr
def WD(p:Po)(t:PT)(ok:ek p t)(h:ae):gY W 23 [.agg (au p t)] h (.ret (.v (.bool (oF p)))):=by
 have u9:=fH;have u22:=o9;have u23:=lB;have u24:=j6;have a3:=dE;have a9:=dR;have a22:=oA;have a23:=nq;have a24:=jm;have a26:=eG;have a28:=iE;have a43:=pb;have s26:=ec;have s28:=gV;have s43:=mU;have aP:=ok.rules.1;have pf:=@ab5 p t;have pf0:=@ab6 p t;have kok:=ag.mk ok;have kx0:=ag.mk (Ext.push h (au p t));have c1:=ME t.to t.so p.aO 32 ok.zo ok.bo (h.push (au p t));have c2:=ME t.tk t.sk p.kinds 16 ok.zk ok.bk (h.push (au p t));obtain⟨h2,c3,dk⟩:=MD p.change _ ok.expr (h.push (au p t));have k2:=ag.mk ((Ext.push h _).trans dk);have ew:=dk.box _ _ (bX h (au p t));have hq:((t.rr.length:Int)<=20)=(p.rules.length<=20):=by rw[aP];exact propext ⟨λq=>by omega,λq=>by omega⟩
 clear dk;refine eI rfl Tryz.func23 rfl ?_;by_cases eP:sy p.aO 32=ab/\sy p.kinds 16=ab/\p.rules.length<=20/\nY p.change=ab
 ·obtain⟨g1,g2,g3,g4⟩:=eP
  repeat' (first|simp(maxSteps:=9999999) (disch:=first|exact dZ|fail) only[gW,reduceIte,ao,al,Cb,bN,dt,cK,dL, *]|(refine dX ?_ ?_<;>(intro _;try omega))|refine bM ai ?_)
  all_goals
   refine eX (λm e h'=>∃(i:Nat),i<=p.rules.length/\m=p.rules.length - i/\e.get 1=.ptr (.box h.boxes.length) 0/\e.get 3=.v (.int .i64 i)/\e.defers=[]/\Ext h h'/\h'.boxes[h.boxes.length]?=aa (au p t)/\∀x∈p.rules.take i,(λx=>nY x.expr) x=ab) ?_ p.rules.length _ _ ?_
   ·rintro m e h' ⟨i,hi,rfl,g1',g2',hd,hx,hb,bV⟩;have kx:=ag.mk hx;have kno:=ag.mk bV;clear hx bV;by_cases ay:i<p.rules.length
    ·obtain⟨y,tok,sz,rows,hy,hr,cX⟩:=eo.get kok.out.rules ay;have h8:=kok.out.zr i ay;have dU:(i:Int)<(t.rr.length:Int):=(by rw[aP];omega);have rf5:=@PN y tok sz rows;have rf8:=@wc y tok sz rows;have yR:=kok.out.br;obtain⟨h4,c4,eV⟩:=MD y.expr _ cX h';have kx4:=ag.mk eV;have kb:=ag.mk hb;clear eV;by_cases hs:nY y.expr=ab
     ·rw[hs] at c4;have khs:=ag.mk hs;clear hs
      repeat' (first|simp(maxSteps:=9999999) (disch:=first|exact dZ|fail) only[gW,reduceIte,ao,al,Cb,bN,dt,cK,eO,aV,dr, *]|(refine dX ?_ ?_<;>(intro _;try omega))|refine bM ai ?_)
      refine⟨p.rules.length - (i+1),by omega,i+1,by omega,rfl,(by first|trivial|(simp;done)|(simp;omega)),(by first|trivial|(simp;done)|(simp;omega)),(by first|trivial|(simp;done)|(simp;omega)),kx.out.trans kx4.out,kx4.out.box _ _ kb.out,λx hx=>?_⟩;obtain⟨hj,rfl⟩:=aF.1 hy;rw[nj hj] at hx;rcases oZ.1 hx with q|q
      ·exact kno.out x q
      ·simp at q;subst q;exact khs.out
     ·have hs:nY y.expr=ak:=(by simpa using hs);rw[hs] at c4;have khs:=ag.mk hs;clear hs
      repeat' (first|simp(maxSteps:=9999999) (disch:=first|exact dZ|fail) only[gW,reduceIte,ao,al,Cb,bN,dt,cK,eO,aV,dr, *]|(refine dX ?_ ?_<;>(intro _;try omega))|refine bM ai ?_)
      refine wU ?_ (kx.out.trans kx4.out);have:p.rules.all (λx=>nY x.expr)=ak:=(by rw[ib];intro q;have:=dn.1 q y (ie hy);rw[khs.out] at this;cases this);simp[oF,this]
    ·have cJ:i=p.rules.length:=(by omega);subst cJ;have dU:¬((p.rules.length:Int)<(t.rr.length:Int)):=(by rw[aP];omega);have cH:p.rules.all (λx=>(λx=>nY x.expr) x)=ab:=dn.2 λx hx=>kno.out x (by rw[jk];exact hx)
     repeat' (first|simp(maxSteps:=9999999) (disch:=first|exact dZ|fail) only[gW,reduceIte,ao,al,Cb,bN,dt,cK, *]|(refine dX ?_ ?_<;>(intro _;try omega))|refine bM ai ?_)
     refine wU ?_ kx.out;simp_all [oF]
   ·refine⟨0,cz _,rfl,?_,?_,?_,k2.out,ew,λx hx=>by simp at hx⟩<;>exact gR
 ·have kbad:=ag.mk eP;clear eP
  repeat' (first|simp(maxSteps:=9999999) (disch:=first|exact dZ|fail) only[gW,reduceIte,ao,al,Cb,bN,dt,cK,dL, *]|(refine dX ?_ ?_<;>(intro _;try omega))|refine bM ai ?_)
  all_goals first
   |(refine wU ?_ (by first|exact k2.out|exact kx0.out);symm;rw[ib];intro q;simp only[oF,aL,decide_eq_true_eq] at q;exact kbad.out ⟨q.1.1.1.1,q.1.1.1.2,q.1.1.2,q.1.2⟩)
   |(exfalso;refine kbad.out ⟨?_,?_,?_,?_⟩<;>first|assumption|omega|simp_all)
noncomputable def jU(p:Po):Bool:=qo p.name&&qn p.aO&&qn p.kinds&&(p.rules.all λx=>mw p.aO x.expr)&&mw p.aO p.change
def lR(p:Po):Bool:=decide (p.aO.length<=32)&&decide (p.kinds.length<=16)&&decide (p.rules.length<=16)&& !pO p.change&&p.rules.all λx=> !pO x.expr
def Ct(kinds:List (List UInt8))(i:Nat)(x:Rl):Bool:=decide (kinds[i]?=aa x.kind)&&decide (0<=x.gz)&&decide (x.gz<1099511627776)&&kh ab x.expr
noncomputable def JS(p:Po):Bool:=@decide (∀i x,p.rules[i]?=aa x->Ct p.kinds i x=ab) (Classical.propDecidable _)
def adI{p:Po}:JS p=ab↔∀i x,p.rules[i]?=aa x->Ct p.kinds i x=ab:=by unfold JS;exact @decide_eq_true_iff _ (Classical.propDecidable _)
noncomputable def kj(p:Po):Bool:=decide (1<=p.kinds.length)&&decide (p.rules.length=p.kinds.length)&&decide (1<=p.mode)&&decide (p.mode<=4)&&JS p&&kh ak p.change
mutual
noncomputable def fL(o:List (List UInt8)):Ex->Ex
 | .mk k n _ s l=>.mk k n (if k=1∨k=2 then idx o s else 0) s (mB o l)
noncomputable def mB(o:List (List UInt8)):List Ex->List Ex
 | []=>[]
 |x::r=>fL o x::mB o r
end
def Ci(o:List (List UInt8))(l:List Ex):mB o l=l.map (fL o):=by
 induction l with
 |nil=>rw[mB];rfl|cons x l ih=>rw[mB,ih];rfl
def L6(l:List Ex):l.length<=fI l:=by
 induction l with
 |nil=>exact cz _|cons x l ih=>
  rw[fI,List.length_cons];have:1<=cZ x:=by cases x;rw[cZ];omega
  omega
section
variable {h:ae} {b:Nat} {k n no k' n' no':Int} {s s':List UInt8} {tok tok':Tok} {sz sz':Nat} {rows rows':List (List AV)}
def QC{i:Int}(hb:h.boxes[b]?=aa (ar k n no s tok sz rows)):dh aq h 3 (.ptr (.box b) 2) (.v (.int .i64 i))=aa (h.put b (ar k n i s tok sz rows)):=dK (off:=2) (cs:=ar k n no s tok sz rows) (xs:=[.v (.int .i64 i)]) rfl bQ hb rfl (aj:2+1<=5)
def Ad(hb:h.boxes[b]?=aa (ar k n no s tok sz rows)):dh aq h 24 (.ptr (.box b) 4) (.list tok' sz' rows')=aa (h.put b (ar k n no s tok' sz' rows')):=dK (off:=4) (cs:=ar k n no s tok sz rows) (xs:=[.list tok' sz' rows']) rfl wA hb rfl (aj:4+1<=5)
end
def KJ(R:Rec)(g:bF)(args:List AV)(h:ae)(x:Ex):Prop:=∃tok sz rows h',R.call g args h=aa (.ret (.agg (ar x.kind x.n x.no x.name tok sz rows)),h')/\Ext h h'/\Row x (ar x.kind x.n x.no x.name tok sz rows)
def IF(k:Tok)(sz:Nat)(l:List (List UInt8))(s:List UInt8)(hz:∀i:Nat,i<l.length->sz=1)(hl:l.length<=9223372036854775807)(h:ae):W.call 122 [.list k sz (strs l),.v (.string (bs s))] h=aa (.ret (.v (.int .i64 (idx l s))),h):=by rw[rX];show(zD [.list k sz (strs l),.v (.string (bs s))] h).map _=_;unfold zD;simp only[JN h k sz l hz,Kj,dL,aB hl,cy];rfl
def Vl(k:Tok)(sz:Nat)(l:List (List UInt8))(s:List UInt8)(hz:∀i:Nat,i<l.length->sz=1)(hl:l.length<=9223372036854775807)(h:ae):W.call 121 [.list k sz (strs l),.v (.string (bs s))] h=aa (.ret (.v (.bool (Lib.containsS (l.map bs) (bs s)))),h):=by rw[rX];show(vS [.list k sz (strs l),.v (.string (bs s))] h).map _=_;unfold vS;simp only[JN h k sz l hz,Kj,dL,aB hl,cy]
def Fa:Tryz.f70.results.toList=[.cell 4 26]:=ai
def PE(tk:Tok)(so:Nat)(o:List (List UInt8))(hz:∀i:Nat,i<o.length->so=1)(hl:o.length<=9223372036854775807):∀(x:Ex) (tok:Tok) (sz:Nat) (rows:List (List AV)),Row x (ar x.kind x.n x.no x.name tok sz rows)->cZ x<=1000->∀h,cR h=ab->
 KJ W 70 [.list tk so (strs o),.agg (ar x.kind x.n x.no x.name tok sz rows)] h (fL o x):=by
 intro x
 induction x using Ex.ind with
 |h kk nn no name l ih=>
  intro tok sz rows et D3 h aU;obtain⟨cu,bG,cP⟩:=Row.yO et;have ux:=j6;have a3:=dE;have a9:=dR;have a24:=jm;have a26:=eG;have s26:=ec;have s3:=bQ;have s24:=wA;have z26:=nS;have aP:=cu.1;simp only[Ex.kind,Ex.n,Ex.no,Ex.name,Ex.l] at cu bG aP cP ⊢;have kr:=ag.mk cu;have kz:=ag.mk bG;have kih:=ag.mk ih;have kcn:=ag.mk D3;have kok:=ag.mk aU;have vz:=λh=>IF tk so o name hz hl h;have vC:∀h:ae,W.call 120 [.agg (ar kk nn 0 name tok sz rows)] h=aa (.ret (.v (.bool (decide (kk=1)||decide (kk=2)))),h.push (ar kk nn 0 name tok sz rows)):=IH (.mk kk nn 0 name l) (ar kk nn 0 name tok sz rows) (.mk _ _ _ _ _ _ _ _ cu.1 bG cP cu.2);clear cu bG ih hz;rw[fL]
  suffices hs:∃r h',W.call 70 [.list tk so (strs o),.agg (ar kk nn no name tok sz rows)] h=aa (r,h')/\(∃tok' sz' rows',r=.ret (.agg (ar kk nn (if kk=1∨kk=2 then idx o name else 0) name tok' sz' rows'))/\Ext h h'/\Row (.mk kk nn (if kk=1∨kk=2 then idx o name else 0) name (mB o l)) (ar kk nn (if kk=1∨kk=2 then idx o name else 0) name tok' sz' rows')) by obtain⟨r,h',q1,tok',sz',rows',rfl,q2,q3⟩:=hs;exact⟨tok',sz',rows',h',q1,q2,q3⟩
  obtain⟨N,hN⟩:∃N,N=if kk=1∨kk=2 then idx o name else 0:=⟨_,rfl⟩
  rw[<-hN];have HW:(kk=1∨kk=2)->∀h:ae,W.call 122 [.list tk so (strs o),.v (.string (bs name))] h=aa (.ret (.v (.int .i64 N)),h):=by intro q;rw[aB q] at hN;rw[hN];exact vz
  have X0:(decide (kk=1)=ab/\decide (kk=2)=ak/\∀h:ae,W.call 122 [.list tk so (strs o),.v (.string (bs name))] h=aa (.ret (.v (.int .i64 N)),h))∨(decide (kk=1)=ak/\decide (kk=2)=ab/\∀h:ae,W.call 122 [.list tk so (strs o),.v (.string (bs name))] h=aa (.ret (.v (.int .i64 N)),h))∨(decide (kk=1)=ak/\decide (kk=2)=ak/\True):=by
   by_cases q1:kk=1
   ·exact .inl ⟨by simp[q1],by simp[q1],HW (.inl q1)⟩
   ·by_cases q2:kk=2
    ·exact .inr (.inl ⟨by simp[q1],by simp[q2],HW (.inr q2)⟩)
    ·exact .inr (.inr ⟨by simp[q1],by simp[q2],trivial⟩)
  have kz0:=ag.mk (show decide (kk=1)=ak->decide (kk=2)=ak->N=0 by intro q1 q2;have q1:¬kk=1:=(by simpa using q1);have q2:¬kk=2:=(by simpa using q2);rw[ax (λq=>q.elim q1 q2)] at hN;exact hN);clear vz HW hN;refine bO rfl Tryz.func70 rfl ?_;rcases X0 with⟨d1,d2,vz⟩|⟨d1,d2,vz⟩|⟨d1,d2,vz⟩
  all_goals
   simp only[d1,d2,uV,Rx,CZ] at vC
   repeat' (first|simp(maxSteps:=9999999) (disch:=first|exact dZ|fail) only[gW,reduceIte,ao,al,Fa,lP,tu,pW,gy,mS,iP,pq,gr,bZ,lI,qT,QC,Ad,bH,eW,aA,uV,Rx,CZ, *]|refine dX ?_ ?_<;>(intro _;try omega))
   try rw[show(ar kk nn 0 name .nil 0 []:List AV)=ar kk nn N name .nil 0 [] from by rw[kz0.out d1 d2]]
   clear vC vz;refine eX (λm e h'=>∃(i:Nat) (bP:Tok) (szR:Nat) (rowsR:List (List AV)),i<=l.length/\m=l.length - i/\e.get 0=.list tk so (strs o)/\e.get 3=.ptr (.box h.boxes.length) 0/\e.get 4=.ptr (.box (h.boxes.length+1)) 0/\e.get 19=.list tok sz rows/\e.get 20=.v (.int .i64 (l.length:Nat))/\e.get 21=.v (.int .i64 i)/\e.defers=[]/\
    h'.boxes[h.boxes.length+1]?=aa (ar 0 0 0 [] .nil 0 [])/\h'.boxes[h.boxes.length]?=aa (ar kk nn N name bP szR rowsR)/\Pol.Rows (mB o (l.take i)) rowsR/\dx h.tn h' bP/\(szR=5∨(rowsR=[]/\bP=.nil))/\Ext h h'/\cR h'=ab) ?_ l.length _ _ ?_
   ·rintro m e h' ⟨i,bP,szR,rowsR,hi,rfl,g0,g3,g4,g19,g20,g21,hd,ew,gO,da,fi,nA,hx,iF⟩;have gh:=da.1;have khrr:=ag.mk da;have kx:=ag.mk hx;have kca:=ag.mk fi;have ksr:=ag.mk nA;have kok':=ag.mk iF;clear da hx fi nA iF;by_cases ay:i<l.length
    ·obtain⟨y,r,hy,hr,cX⟩:=kr.out.get ay;have h5:=kz.out i ay;subst h5;obtain⟨tk2,sz2,rows2,rfl,-⟩:=Row.iQ cX;have dU:(i:Int)<(rows.length:Int):=(by rw[aP];omega);have fX:(i:Int)<(l.length:Int):=(by omega);have qC:5<=((ar y.kind y.n y.no y.name tk2 sz2 rows2).drop 0).length:=(by rw[fc];exact aK _);have yT:cZ y<=1000:=(by have:=L7 (ie hy);have:=kcn.out;rw[cZ] at this;omega);have du:l.length<=1000:=(by have:=L6 l;have:=kcn.out;rw[cZ] at this;omega);obtain⟨tok4,iI,rows4,h4,c4,eV,Bt⟩:=kih.out y (ie hy) tk2 sz2 rows2 cX yT (h'.push (ar y.kind y.n y.no y.name tk2 sz2 rows2)) kok'.out;have sO:rowsR.length<=70000:=(by rw[gh,Ci,jj,ng];omega);have kca4:=ag.mk (kca.out.ext ((Ext.push h' (ar y.kind y.n y.no y.name tk2 sz2 rows2)).trans eV));have oI:=Dl (h:=h4) (r:=ar (fL o y).kind (fL o y).n (fL o y).no (fL o y).name tok4 iI rows4) (kca4.out.mono (cz _)) ksr.out sO;have e2:=eV.box _ _ (bW ew);have e3:=eV.box _ _ (bW gO);have kx4:=ag.mk ((Ext.push h' (ar y.kind y.n y.no y.name tk2 sz2 rows2)).trans eV);have khr4:=ag.mk Bt;have n1:h.boxes.length≠h'.boxes.length:=(by have:=(aF.1 gO).1;omega);have n2:h.boxes.length+1≠h'.boxes.length:=(by have:=(aF.1 ew).1;omega);clear eV Bt
     repeat' (first|simp(maxSteps:=9999999) (disch:=first|exact dZ|fail) only[gW,reduceIte,ao,al,Fa,gy,bZ,lI,qT,Ad,aV,dr,mS,bH,eW,aA, *]|refine dX ?_ ?_<;>(intro _;try omega))
     refine nM [(1,4)] ai ?_ ?_
     ·intro p hp;simp only[List.mem_singleton] at hp;subst hp;refine uL (x:=.ptr (.box h.boxes.length) 4) (v:=.list bP szR rowsR) ai rfl rfl rfl ai (by rw[fN,CB,Rows.same khrr.out];simp) ?_ ?_
      ·simp only[di,de]
       repeat' (first|simp(maxSteps:=9999999) (disch:=first|exact dZ|fail) only[gW,reduceIte,ao,al,bZ,gy,lI, *]|refine dX ?_ ?_<;>(intro _;try omega))
       simp only[and_self]
      ·simp only[di,de]
       repeat' (first|simp(maxSteps:=9999999) (disch:=first|exact dZ|fail) only[gW,reduceIte,ao,al,bZ,gy,lI,aV,dr,mS, *]|refine dX ?_ ?_<;>(intro _;try omega))
       simp only[and_self]
     ·repeat' (first|simp(maxSteps:=9999999) (disch:=first|exact dZ|fail) only[gW,reduceIte,ao,al,Fa,bZ,gy,lI,aV,dr,mS,eH,Ad, *]|refine dX ?_ ?_<;>(intro _;try omega))
      have e3l:=(aF.1 e3).1;refine⟨l.length - (i+1),by omega,i+1,.free h4.tn,5,rowsR++[ar (fL o y).kind (fL o y).n (fL o y).no (fL o y).name tok4 iI rows4],by omega,rfl,(by first|trivial|(simp;done)|(simp;omega)),(by first|trivial|(simp;done)|(simp;omega)),(by first|trivial|(simp;done)|(simp;omega)),(by first|trivial|(simp;done)|(simp;omega)),(by first|trivial|(simp;done)|(simp;omega)),(by first|trivial|(simp;done)|(simp;omega)),(by first|trivial|(simp;done)|(simp;omega)),?_,?_,?_,?_,.inl rfl,?_,?_⟩
      ·rw[jX aj,lC];exact e2
      ·exact mz (by rw[lC];exact e3l)
      ·obtain⟨hj,rfl⟩:=aF.1 hy;rw[Ci,nj hj,Ar,<-Ci];exact Pol.Rows.snoc khrr.out khr4.out
      ·exact kca4.out.next (kx4.out.ok kok'.out) (kx.out.trans kx4.out).tn
      ·exact((kx.out.trans kx4.out).app kca4.out).dm aj _
      ·exact(bp.app (b:=0) kca4.out).ok (kx4.out.ok kok'.out)
    ·have cJ:i=l.length:=(by omega);subst cJ;have dU:¬((l.length:Int)<(l.length:Int)):=(by omega);rw[jk] at khrr;have e2l:=(aF.1 ew).1
     repeat' (first|simp(maxSteps:=9999999) (disch:=first|exact dZ|fail) only[gW,reduceIte,ao,al,Fa,gy,bZ,lI,qT, *]|refine dX ?_ ?_<;>(intro _;try omega))
     refine⟨_,_,rfl,bP,szR,rowsR,rfl,kx.out.dm aj _,?_⟩;refine .mk _ _ _ _ _ _ _ _ khrr.out.1 (λi hi=>?_) (by rw[Ci,jj];exact cP) khrr.out.2;rcases ksr.out with q|⟨q,-⟩
     ·exact q
     ·exfalso;have:=khrr.out.1;rw[q] at this;simp at this;omega
   ·refine⟨0,.nil,0,[],cz _,rfl,?_,?_,?_,?_,?_,?_,?_,?_,?_,?_,.inl rfl,.inr ⟨rfl,rfl⟩,((Ext.push _ _).trans (.push _ _)).trans (.push _ _),kok.out⟩
    iterate 7
     ·exact gR
    ·simp(disch:=(first|assumption|omega|(exact(aA _ _).symm)|(simp only[df];omega)|(refine fF ?_ ?_<;>simp only[df]<;>omega)|fail)) only[gZ]
    ·simp(disch:=(first|assumption|omega|(exact(aA _ _).symm)|(simp only[df];omega)|(refine fF ?_ ?_<;>simp only[df]<;>omega)|fail)) only[gZ]
    ·rw[de,Ci];exact Pol.Rows.nil
def Am:(fa aq 62).bind AV.cF=aa (aS zR .nil 0 []):=ai
def Dv:gb aq 28 []=aa (.agg (au zP zT)):=ai
section
variable {h:ae} {b:Nat} {k n no:Int} {s:List UInt8} {x x':Rl} {p p':Po} {t t':PT} {e:Ex} {tok tok':Tok} {sz sz':Nat} {rows rows':List (List AV)} {i:Int}
end
noncomputable def jf(o:List (List UInt8))(l:List Rl):List Rl:=l.mapIdx λi x=>{x with kG:=(i:Int),expr:=fL o x.expr}
noncomputable def iz(p:Po):Po:={p with rules:=jf p.aO p.rules,change:=fL p.aO p.change}
noncomputable def hY(p:Po):Po × Int:=if lR p=ak then (zP,2) else if jU p=ak then (zP,201) else if kj p=ak then (zP,200) else (iz p,0)
def acA(o:List (List UInt8))(l:List Rl)(x:Rl):jf o (l++[x])=jf o l++[{x with kG:=(l.length:Int),expr:=fL o x.expr}]:=by unfold jf;rw[List.mapIdx_append];simp
structure lA(p:Po):Prop where
 c:cZ p.change<=1000
 r:∀x∈p.rules,cZ x.expr<=1000
 l:p.rules.length<=1000
def RF(R:Rec)(g:bF)(args:List AV)(h:ae)(q:Po)(e:Int):Prop:=∃t h',R.call g args h=aa (.ret (.tuple [.agg (au q t),.v (.int .i64 e)]),h')/\Ext h h'/\ek q t
def acz{p:Po}{t:PT}(ok:ek p t){bP tok4:Tok}{szR iI:Nat}{rowsR rows4:List (List AV)}(h1:eo (jf p.aO p.rules) rowsR)(h2:Row (fL p.aO p.change) (ar (fL p.aO p.change).kind (fL p.aO p.change).n (fL p.aO p.change).no (fL p.aO p.change).name tok4 iI rows4))(h3:szR=8∨(rowsR=[]/\bP=.nil)):
 ek (iz p) {t with tr:=bP,sr:=szR,rr:=rowsR,tok:=tok4,sz:=iI,rows:=rows4}:=by
 have hl:(jf p.aO p.rules).length=p.rules.length:=by simp[jf]
 refine⟨h1,h2,ok.zk,ok.zo,λi hi=>?_,ok.bk,ok.bo,?_⟩
 ·rcases h3 with q|⟨q,-⟩
  ·exact q
  ·exfalso;have:=h1.1;rw[q] at this;have hi:i<(jf p.aO p.rules).length:=hi;simp at this;omega
 ·show(jf p.aO p.rules).length<=_;rw[hl];exact ok.br
def Ce:Tryz.f26.results.toList=[.tmp 4]:=ai
def J2(p q:Po)(t u:PT)(ok:ek p t)(ok2:ek q u)(h:ae):gY W 26 [.agg (au p t),.agg (au q u)] h (.ret (.v (.bool (nO p q)))):=by
 have u9:=fH;have u23:=lB;have a3:=dE;have a9:=dR;have a22:=oA;have a23:=nq;have a24:=jm;have a26:=eG;have a28:=iE;have a43:=pb;have s26:=ec;have s28:=gV;have s43:=mU;have z43:=Am;have aP:=ok.rules.1;have oc:=ok2.rules.1;have kok:=ag.mk ok;have kok2:=ag.mk ok2;have kx0:=ag.mk ((Ext.push h (au p t)).trans (.push _ (au q u)));have c1:=Qk t.to u.to t.so u.so p.aO q.aO ok.zo ok2.zo ok.bo ((h.push (au p t)).push (au q u));have c2:=Qk t.tk u.tk t.sk u.sk p.kinds q.kinds ok.zk ok2.zk ok.bk ((h.push (au p t)).push (au q u));obtain⟨h2,c3,dk⟩:=Qi p.change _ ok.expr q.change _ ok2.expr ((h.push (au p t)).push (au q u));have k2:=ag.mk (kx0.out.trans dk);have b1:=dk.box h.boxes.length (au p t) (bW (bX h _));have b2:=dk.box (h.boxes.length+1) (au q u) (by have:=bX (h.push (au p t)) (au q u);rw[aA] at this;exact this);clear dk;have du:((t.rr.length:Int)=(u.rr.length:Int))=(p.rules.length=q.rules.length):=by rw[aP,oc];exact propext ⟨λe=>by omega,λe=>by omega⟩
 refine eI rfl Tryz.func26 rfl ?_;by_cases eP:p.name=q.name/\p.mode=q.mode/\p.aO=q.aO/\p.kinds=q.kinds/\p.rules.length=q.rules.length/\p.change=q.change
 ·have kg:=ag.mk eP;have d1:decide (p.name=q.name)=ab:=fJ eP.1;have d2:decide (p.mode=q.mode)=ab:=fJ eP.2.1;have d3:decide (p.aO=q.aO)=ab:=fJ eP.2.2.1;have d4:decide (p.kinds=q.kinds)=ab:=fJ eP.2.2.2.1;have d5:decide ((t.rr.length:Int)=(u.rr.length:Int))=ab:=fJ (by rw[du];exact eP.2.2.2.2.1);have d5':decide ((p.rules.length:Int)=(q.rules.length:Int))=ab:=fJ (by have:=eP.2.2.2.2.1;omega);have d6:qR p.change q.change=ab:=wh.2 eP.2.2.2.2.2;clear eP du;rw[d3] at c1;rw[d4] at c2;rw[d6] at c3
  repeat' (first|simp(maxSteps:=9999999) (disch:=first|exact dZ|fail) only[gW,reduceIte,ao,al,Ce,bN,dt,cK,eO,dL,cT,kH,aA, *]|refine dX ?_ ?_<;>(intro _;try omega))
  refine eX (λm e h'=>∃(i:Nat),i<=p.rules.length/\m=p.rules.length - i/\e.get 2=.ptr (.box h.boxes.length) 0/\e.get 3=.ptr (.box (h.boxes.length+1)) 0/\e.get 5=.v (.int .i64 i)/\e.defers=[]/\Ext h h'/\h'.boxes[h.boxes.length]?=aa (au p t)/\h'.boxes[h.boxes.length+1]?=aa (au q u)/\∀j,j<i->p.rules[j]?=q.rules[j]?) ?_ p.rules.length _ _ ?_
  ·rintro m e h' ⟨i,hi,rfl,g2,g3,g5,hd,hx,gf,ew,bV⟩;have kx:=ag.mk hx;have kno:=ag.mk bV;clear hx bV c1 c2 c3 b1 b2 d1 d2 d3 d4 d5 d5' d6;have n1:=(aF.1 gf).1;have n2:=(aF.1 ew).1;by_cases ay:i<p.rules.length
   ·obtain⟨y,tok,sz,rows,hy,hr,cX⟩:=eo.get kok.out.rules ay;obtain⟨z,tok',sz',rows',hz,gg,xM⟩:=eo.get kok2.out.rules (show i<q.rules.length by have:=kg.out.2.2.2.2.1;omega);have h8:=kok.out.zr i ay;have h8':=kok2.out.zr i (show i<q.rules.length by have:=kg.out.2.2.2.2.1;omega);have dU:(i:Int)<(t.rr.length:Int):=(by rw[aP];omega);have fX:(i:Int)<(u.rr.length:Int):=(by rw[oc];have:=kg.out.2.2.2.2.1;omega);have rf8:=@wc y tok sz rows;have rf8':=@wc z tok' sz' rows';have yR:=kok.out.br;obtain⟨h4,c4,eV⟩:=Qi y.expr _ cX z.expr _ xM ((h'.push (aS y tok sz rows)).push (aS z tok' sz' rows'));have kx4:=ag.mk (((Ext.push h' (aS y tok sz rows)).trans (.push _ (aS z tok' sz' rows'))).trans eV);have kx5:=ag.mk ((Ext.push h' (aS y tok sz rows)).trans (.push _ (aS z tok' sz' rows')));have kb1:=ag.mk gf;have kb2:=ag.mk ew;clear eV;by_cases qz:y.kind=z.kind/\y.kG=z.kG/\y.gz=z.gz/\y.expr=z.expr
    ·have kgd:=ag.mk qz;have d1:decide (y.kind=z.kind)=ab:=fJ qz.1;have d2:decide (y.kG=z.kG)=ab:=fJ qz.2.1;have d3:decide (y.gz=z.gz)=ab:=fJ qz.2.2.1;have d4:qR y.expr z.expr=ab:=wh.2 qz.2.2.2;rw[d4] at c4;clear qz
     repeat' (first|simp(maxSteps:=9999999) (disch:=first|exact dZ|fail) only[gW,reduceIte,ao,al,Ce,bN,dt,cK,eO,nG,pR,oq,aV,dr,aA,bH,eW, *]|refine dX ?_ ?_<;>(intro _;try omega))
     refine⟨p.rules.length - (i+1),by omega,i+1,by omega,rfl,(by first|trivial|(simp;done)|(simp;omega)),(by first|trivial|(simp;done)|(simp;omega)),(by first|trivial|(simp;done)|(simp;omega)),(by first|trivial|(simp;done)|(simp;omega)),kx.out.trans kx4.out,kx4.out.box _ _ kb1.out,kx4.out.box _ _ kb2.out,λj hj=>?_⟩;rcases dp j i with w|w
     ·exact kno.out j w
     ·have:j=i:=(by omega);subst this;rw[hy,hz,acS kgd.out.1 kgd.out.2.1 kgd.out.2.2.1 kgd.out.2.2.2]
    ·have kgd:=ag.mk qz;have bL:p≠q:=(by intro e;subst e;rw[hy] at hz;injection hz with hz;subst hz;exact qz ⟨rfl,rfl,rfl,rfl⟩);have kne:=ag.mk bL;clear qz bL
     repeat' (first|simp(maxSteps:=9999999) (disch:=first|exact dZ|fail) only[gW,reduceIte,ao,al,Ce,bN,dt,cK,eO,nG,pR,oq,aV,dr,aA,bH,eW, *]|refine dX ?_ ?_<;>(intro _;try omega))
     all_goals first
      |(refine wU (wj kne.out).symm ?_;first|exact kx.out.trans kx4.out|exact kx.out.trans kx5.out)
      |(exfalso;refine kgd.out ⟨?_,?_,?_,?_⟩<;>first|assumption|(refine wh.1 ?_;assumption))
   ·have cJ:i=p.rules.length:=(by omega);subst cJ;have dU:¬((p.rules.length:Int)<(t.rr.length:Int)):=by rw[aP];omega
    repeat' (first|simp(maxSteps:=9999999) (disch:=first|exact dZ|fail) only[gW,reduceIte,ao,al,Ce,bN,dt,cK, *]|refine dX ?_ ?_<;>(intro _;try omega))
    refine wU ?_ kx.out
    symm
    refine rT.2 (Pd kg.out.1 kg.out.2.1 kg.out.2.2.1 kg.out.2.2.2.1 ?_ kg.out.2.2.2.2.2);refine uY λj=>?_;rcases dp j p.rules.length with w|w
    ·exact kno.out j w
    ·rw[oX w,oX (by have:=kg.out.2.2.2.2.1;omega)]
  ·refine⟨0,cz _,rfl,?_,?_,?_,?_,k2.out,b1,b2,λj hj=>absurd hj (ik j)⟩<;>simp only[gW,reduceIte,ao,al,aA]<;>rfl
 ·have bL:p≠q:=λe=>eP (by subst e;exact⟨rfl,rfl,rfl,rfl,rfl,rfl⟩);have kne:=ag.mk bL;have kbad:=ag.mk eP;have khll:=ag.mk du;clear eP bL du
  repeat' (first|simp(maxSteps:=9999999) (disch:=first|exact dZ|fail) only[gW,reduceIte,ao,al,Ce,bN,dt,cK,eO,dL,cT,kH,aA, *]|refine dX ?_ ?_<;>(intro _;try omega))
  all_goals first
   |(refine wU (wj kne.out).symm ?_;first|exact k2.out|exact kx0.out)
   |(exfalso;refine kbad.out ⟨?_,?_,?_,?_,?_,?_⟩<;>first|assumption|(refine wh.1 ?_;assumption)|omega|(rw[<-khll.out];assumption)|simp_all)
def acr:Tryz.f118.results.toList=[.tmp 2]:=ai
def Ff:Tryz.f119.results.toList=[.tmp 4]:=ai
def JJ:Tryz.f116.results.toList=[.tmp 2]:=ai
def Od(s:List UInt8)(h:ae):W.call 118 [.v (.string (bs s))] h=aa (.ret (.v (.bool (qo s))),h):=by
 have hw:=age s;have hn:=λh=>OK s h;refine fg rfl Tryz.func118 rfl ?_
 repeat' (first|simp(maxSteps:=9999999) (disch:=first|exact dZ|fail) only[gW,reduceIte,ao,al,acr, *]|(refine dX ?_ ?_<;>(intro _;try omega))|refine bM ai ?_)
 all_goals
  refine mb ?_
  first
   |(rename_i q;subst q;rfl)
   |(have:F4 s=ak:=by(rw[hw];simp_all)
     simp[qo,this])
def Mj(k:Tok)(sz:Nat)(l:List (List UInt8))(hz:∀i:Nat,i<l.length->sz=1)(hl:l.length<=9223372036854775807)(h:ae):W.call 119 [.list k sz (strs l),.func (.func 118) [] []] h=aa (.ret (.v (.bool (qn l))),h):=by
 have u9:=fH;have u22:=o9;have a9:=dR;have s9:=oV;have kz:=ag.mk hz;have vz:∀s h,W.call 122 [.list k sz (strs l),.v (.string (bs s))] h=aa (.ret (.v (.int .i64 (idx l s))),h):=λs h=>IF k sz l s hz hl h;clear hz;refine fg rfl Tryz.func119 rfl ?_
 repeat' (first|simp(maxSteps:=9999999) (disch:=first|exact dZ|fail) only[gW,reduceIte,ao,al,Ff,dL, *]|(refine dX ?_ ?_<;>(intro _;try omega))|refine bM ai ?_)
 refine eX (λm e h'=>∃i:Nat,i<=l.length/\m=l.length - i/\e.get 0=.list k sz (strs l)/\e.get 1=.func (.func 118) [] []/\e.get 7=.list k sz (strs l)/\e.get 8=.v (.int .i64 (l.length:Nat))/\e.get 9=.v (.int .i64 i)/\e.defers=[]/\h'=h/\∀j,j<i->(qo (l.getD j [])&&decide (idx l (l.getD j [])=j))=ab) ?_ l.length _ _ ?_
 ·rintro m e h' ⟨i,hi,rfl,g0,g1,g7,g8,g9,hd,rfl,bV⟩;have kno:=ag.mk bV;clear bV;by_cases ay:i<l.length
  ·obtain⟨x,hx⟩:∃t,l[i]?=aa t:=⟨_,cv ay⟩;obtain rfl:=kz.out i ay;have qz:l.getD i []=x:=(by rw[List.getD_eq_getElem?_getD,hx];rfl);have dU:(i:Int)<((strs l).length:Int):=(by rw[dL];omega);have fX:(i:Int)<(l.length:Int):=(by omega);have qy:=Od x;by_cases eP:(qo x&&decide (idx l x=i))=ab
   ·have q1:qo x=ab:=(by simp at eP;exact eP.1);have q2:decide (idx l x=(i:Int))=ab:=(by simp at eP;simp[eP.2]);rw[q1] at qy;have kgood:=ag.mk eP;clear eP q1
    repeat' (first|simp(maxSteps:=9999999) (disch:=first|exact dZ|fail) only[gW,reduceIte,ao,al,Ff,dL,ot,aV,ck,aJ, *]|(refine dX ?_ ?_<;>(intro _;try omega))|refine bM ai ?_)
    refine⟨l.length - (i+1),by omega,i+1,by omega,rfl,(by first|trivial|(simp;done)|(simp;omega)),(by first|trivial|(simp;done)|(simp;omega)),(by first|trivial|(simp;done)|(simp;omega)),(by first|trivial|(simp;done)|(simp;omega)),(by first|trivial|(simp;done)|(simp;omega)),(by first|trivial|(simp;done)|(simp;omega)),(by first|trivial|(simp;done)|(simp;omega)),λj hj=>?_⟩;rcases dp j i with w|w
    ·exact kno.out j w
    ·have:j=i:=(by omega);subst this;rw[qz];exact kgood.out
   ·have qt:=VF ay (by rw[qz];simpa using eP);have kbad:=ag.mk qt;have kgood:=ag.mk eP;clear qt eP
    repeat' (first|simp(maxSteps:=9999999) (disch:=first|exact dZ|fail) only[gW,reduceIte,ao,al,Ff,dL,ot,aV,ck,aJ, *]|(refine dX ?_ ?_<;>(intro _;try omega))|refine bM ai ?_)
    all_goals first
     |exact mb kbad.out.symm
     |(exfalso;exact kgood.out (by simp_all))
  ·have cJ:i=l.length:=(by omega);subst cJ
   repeat' (first|simp(maxSteps:=9999999) (disch:=first|exact dZ|fail) only[gW,reduceIte,ao,al,Ff,dL, *]|(refine dX ?_ ?_<;>(intro _;try omega))|refine bM ai ?_)
   refine mb ?_
   symm
   exact dn.2 λj hj=>kno.out j (by simpa using hj)
 ·refine⟨0,cz _,rfl,?_,?_,?_,?_,?_,?_,rfl,λj hj=>absurd hj (ik j)⟩<;>simp only[gW,reduceIte,ao,al,dL]<;>rfl
def exprs(p:Po):List Ex:=p.rules.map (·.expr)++[p.change]
def RE(R:Rec)(g:bF)(args:List AV)(h:ae)(l:List Ex):Prop:=∃tok rows h',R.call g args h=aa (.ret (.list tok 5 rows),h')/\Ext h h'/\Pol.Rows l rows
def Hh(p:Po)(t:PT)(ok:ek p t)(D7:p.rules.length<=1000)(h:ae)(aU:cR h=ab):RE W 116 [.agg (au p t)] h (exprs p):=by
 have u23:=lB;have a3:=dE;have a9:=dR;have a22:=oA;have a23:=nq;have a24:=jm;have a26:=eG;have a28:=iE;have a43:=pb;have s26:=ec;have s28:=gV;have s43:=mU;have s3:=bQ;have z43:=Am;have aP:=ok.rules.1;have kok:=ag.mk ok;have kokh:=ag.mk aU
 suffices hs:∃r h',W.call 116 [.agg (au p t)] h=aa (r,h')/\(∃tok rows,r=.ret (.list tok 5 rows)/\Ext h h'/\Pol.Rows (exprs p) rows) by obtain⟨r,h',q1,tok,rows,rfl,q3,q4⟩:=hs;exact⟨tok,rows,h',q1,q3,q4⟩
 clear aU;refine bO rfl Tryz.func116 rfl ?_
 repeat' (first|simp(maxSteps:=9999999) (disch:=first|exact dZ|fail) only[gW,reduceIte,ao,al,JJ,bN,dt,cK,eO,cT,aA,dL, *]|refine dX ?_ ?_<;>(intro _;try omega))
 refine eX (λm e h'=>∃(i:Nat) (bP:Tok) (szR:Nat) (rowsR:List (List AV)),i<=p.rules.length/\m=p.rules.length - i/\e.get 1=.ptr (.box h.boxes.length) 0/\e.get 2=.list bP szR rowsR/\e.get 6=.list t.tr t.sr t.rr/\e.get 7=.v (.int .i64 (p.rules.length:Nat))/\e.get 8=.v (.int .i64 i)/\e.defers=[]/\
  h'.boxes[h.boxes.length]?=aa (au p t)/\Pol.Rows ((p.rules.take i).map (·.expr)) rowsR/\dx h.tn h' bP/\(szR=5∨(rowsR=[]/\bP=.nil))/\Ext h h'/\cR h'=ab) ?_ p.rules.length _ _ ?_
 ·rintro m e h' ⟨i,bP,szR,rowsR,hi,rfl,g1,g2,g6,g7,g8,hd,gf,da,fi,nA,hx,iF⟩;have gh:=da.1;have khrr:=ag.mk da;have kx:=ag.mk hx;have kca:=ag.mk fi;have ksr:=ag.mk nA;have kok':=ag.mk iF;clear da hx fi nA iF;have n1:=(aF.1 gf).1;have sO:rowsR.length<=70000:=by rw[gh];simp;omega
  by_cases ay:i<p.rules.length
  ·obtain⟨y,tk2,sz2,rows2,hy,hr,cX⟩:=eo.get kok.out.rules ay;have h8:=kok.out.zr i ay;have dU:(i:Int)<(t.rr.length:Int):=(by rw[aP];omega);have fX:(i:Int)<(p.rules.length:Int):=(by omega);have rf8:=@wc y tk2 sz2 rows2;have kca5:=ag.mk (kca.out.ext (Ext.push h' (aS y tk2 sz2 rows2)));have oI:=Dl (h:=h'.push (aS y tk2 sz2 rows2)) (r:=ar y.expr.kind y.expr.n y.expr.no y.expr.name tk2 sz2 rows2) (kca5.out.mono (cz _)) ksr.out sO;have khyr:=ag.mk cX;clear cX
   repeat' (first|simp(maxSteps:=9999999) (disch:=first|exact dZ|fail) only[gW,reduceIte,ao,al,JJ,bN,dt,cK,eO,nG,pR,oq,aV,dr,eH,aA,bH,eW,r5, *]|refine dX ?_ ?_<;>(intro _;try omega))
   refine⟨p.rules.length - (i+1),by omega,i+1,.free h'.tn,5,rowsR++[ar y.expr.kind y.expr.n y.expr.no y.expr.name tk2 sz2 rows2],by omega,rfl,(by first|trivial|(simp;done)|(simp;omega)),(by first|trivial|(simp;done)|(simp;omega)),(by first|trivial|(simp;done)|(simp;omega)),(by first|trivial|(simp;done)|(simp;omega)),(by first|trivial|(simp;done)|(simp;omega)),(by first|trivial|(simp;done)|(simp;omega)),?_,?_,?_,.inl rfl,?_,?_⟩
   ·rw[lC];exact bW gf
   ·obtain⟨hj,rfl⟩:=aF.1 hy;rw[nj hj,Ar];exact Pol.Rows.snoc khrr.out khyr.out
   ·exact kca5.out.next kok'.out kx.out.tn
   ·exact(kx.out.trans (.push _ _)).app kca5.out
   ·exact(bp.app (b:=0) kca5.out).ok kok'.out
  ·have cJ:i=p.rules.length:=(by omega);subst cJ;have dU:¬((p.rules.length:Int)<(p.rules.length:Int)):=(by omega);rw[jk] at khrr;have oI:=Dl (h:=h') (r:=ar p.change.kind p.change.n p.change.no p.change.name t.tok t.sz t.rows) (kca.out.mono (cz _)) ksr.out sO
   repeat' (first|simp(maxSteps:=9999999) (disch:=first|exact dZ|fail) only[gW,reduceIte,ao,al,JJ,bN,dt,cK,eO,kH,eH,p5, *]|refine dX ?_ ?_<;>(intro _;try omega))
   exact⟨_,_,rfl,_,_,rfl,kx.out.app kca.out,Pol.Rows.snoc khrr.out kok.out.expr⟩
 ·refine⟨0,.nil,0,[],cz _,rfl,?_,?_,?_,?_,?_,?_,bX _ _,Pol.Rows.nil,.inl rfl,.inr ⟨rfl,rfl⟩,.push _ _,kokh.out⟩<;>simp only[gW,reduceIte,ao,al,aP]<;>rfl
def Gc{α:Type}(bn l0 n0:Nat)(J:α->ae->Prop)(h0:ae)(o:Xt)(h2:ae)(q:Nx α):Prop:=
 Fr bn l0 n0 h0 h2/\(∀(m:Nat) (r:ff),h0.loops[m]?=aa r->h2.loops[m]?=aa r)/\match q with
  | .cont c=>o=.normal/\J c h2
  | .stop c=>o=.ret/\J c h2
  | .panic v=>o=.panic v
def E4{α:Type}(J:α->ae->Prop)(next:α->Ex->Int->Nx α){x:Ex}{tok:Tok}{sz:Nat}{rows:List (List AV)}(et:Row x (ar x.kind x.n x.no x.name tok sz rows)){bn n0 bx bd ft pt:Nat}{d:Int}(a:α){e:Env}{h:ae}{Q:Xt->Env->ae->Prop}{assign body:Code}
 (hf:e.get ft=.func (.func 146) [] [.ptr (.box bx) 0,.ptr (.box bd) 0]) (kt:h.boxes[bx]?=aa (ar x.kind x.n x.no x.name tok sz rows)) (cP:h.boxes[bd]?=aa [.v (.int .i64 d)]) (Et:bx≠bn) (vt:bd≠bn) (HG:0<=d) (iR:d+jr x<=4611686018427387904) (uf:n0<=h.tn)
 (hJ:J a h) (Jst:∀a h h',J a h->(∀(b:Nat) (cs:List AV),h.boxes[b]?=aa cs->h'.boxes[b]?=aa cs)->J a h') (Jbn:∀a h,J a h->bn<h.boxes.length)
 (rD:∀(c:α) (hh:ae) (z:Ex) (tk2:Tok) (sz2:Nat) (rows2:List (List AV)) (dd:Int) (rec:ff),rec.tmps=e.tmps->rec.params=#[pt]->J c hh->Row z (ar z.kind z.n z.no z.name tk2 sz2 rows2)->0<=dd->dd<=4611686018427387904->n0<=hh.tn->
  bU W assign (mR h.loops.length rec [.agg (dv z.kind z.n z.no z.name tk2 sz2 rows2 dd)]) hh (λo e1 h1=>o=.normal/\h1.loops=hh.loops/\Fr bn h.loops.length n0 hh h1/\∀rb,bU W body e1 (h1.dY h.loops.length rb) (λo2 _ h2=>Gc bn h.loops.length n0 J (h1.dY h.loops.length rb) o2 h2 (next c z dd))))
 (hq:match feed next x d a with
  | .cont a'=>∀h',Fr bn h.loops.length n0 h h'->J a' h'->Q .normal e h'
  | .stop a'=>∀h',Fr bn h.loops.length n0 h h'->J a' h'->Q .ret e h'
  | .panic v=>∀h',Fr bn h.loops.length n0 h h'->Q (.panic v) e h'):
 bU W (.rangeFunc (.tmp ft) #[pt] assign body) e h Q:=by
 refine PZ (by rw[Hg];exact hf) λrec w1 w2 w3 w4 w5 w6=>?_;have C:Cons (α:=α) h.loops.length bn h.loops.length n0 (λc hh=>J c hh/\hh.loops[h.loops.length]?=aa rec) (λc hh=>J c hh/\hh.loops[h.loops.length]?=aa {rec with state:=.done,pending:=aa .ret}) next:=by
  refine⟨aK _,λc hh hk ⟨i1,i2⟩ x=>⟨Jst _ _ _ i1 x.1,x.2 _ _ (aK _) i2⟩,λc hh hk ⟨i1,i2⟩ x=>⟨Jst _ _ _ i1 x.1,x.2 _ _ (aK _) i2⟩,λc hh ⟨i1,i2⟩=>⟨(aF.1 i2).1,Jbn _ _ i1⟩,?_⟩;rintro c hh z tk2 sz2 rows2 dd ⟨i1,i2⟩ hz k0 k1 k2;obtain⟨o,e1,h1,r1,rfl,r2,r3,r4⟩:=rD c hh z tk2 sz2 rows2 dd rec w1 w2 i1 hz k0 k1 k2;have i3:h1.loops[h.loops.length]?=aa rec:=by rw[r2];exact i2
  have hl:=(aF.1 i3).1;obtain⟨o2,e2,h2,q1,q2,q3,q4⟩:=r4 {rec with state:=.busy};have yY:=q3 _ _ (wo (r:={rec with state:=.busy}) hl);have eQ:=(aF.1 yY).1;have iG:∀(r4:bw) (h4:ae),zN h.loops.length r4 h4 o2 e2 h2->W.round h.loops.length [.agg (dv z.kind z.n z.no z.name tk2 sz2 rows2 dd)] hh=aa (r4,h4):=by
   intro r4 h4 hr;refine PH i2 (by rw[w2];rfl) ⟨_,e1,h1,?_,rfl,rec,i3,w5,o2,e2,h2,?_,hr⟩
   ·rw[w3];exact r1
   ·rw[w4];exact q1
  have fr0:Fr bn h.loops.length n0 hh h2:=r3.trans ((Fr.dY (aK _) _).trans q2);have keep:∀(rz:ff) (m:Nat) (q:ff),m≠h.loops.length->hh.loops[m]?=aa q->(h2.dY h.loops.length rz).loops[m]?=aa q:=by intro rz m q hm hq;rw[wm hm];refine q3 _ _ ?_;rw[wm hm,r2];exact hq
  cases xC:next c z dd with
  |panic v=>rw[xC] at q4;have q4:o2=.panic v:=q4;subst q4;exact⟨_,h2,iG (.panic v) h2 ⟨rfl,rfl⟩,fr0,rfl⟩|stop c'=>rw[xC] at q4;obtain⟨rfl,q5⟩:o2=.ret/\J c' h2:=q4;refine⟨_,_,iG (.ret (.v (.bool ak))) (h2.dY h.loops.length {rec with state:=.done,pending:=aa .ret}) ⟨_,yY,rfl,rfl⟩,fr0.trans (Fr.dY (aK _) _),rfl,⟨Jst _ _ _ q5 (λ_ _ h=>h),wo eQ⟩,λm q hm hq=>keep _ m q aj hq⟩
  |cont c'=>
   rw[xC] at q4;obtain⟨rfl,q5⟩:o2=.normal/\J c' h2:=q4;have Ik:({rec with state:=.ready,pending:=none}:ff)=rec:=(by rw[<-w5,<-w6]);refine⟨_,_,iG (.ret (.v (.bool ab))) (h2.dY h.loops.length rec) ⟨_,yY,rfl,by rw[<-Ik];rfl⟩,fr0.trans (Fr.dY (aK _) _),rfl,⟨Jst _ _ _ q5 (λ_ _ h=>h),wo eQ⟩,λm q hq=>?_⟩;by_cases hm:m=h.loops.length
   ·subst hm;rw[i2] at hq;injection hq with hq;subst hq;exact wo eQ
   ·exact keep _ m q hm hq
 obtain⟨r,h',hc,qy,pF⟩:=abH x tok sz rows et h.loops.length bn h.loops.length n0 _ _ next C a (h.loop rec) bx bd d ⟨Jst _ _ _ hJ (λ_ _ h=>h),OD⟩ uf kt cP Et vt HG iR
 have HN:Fr bn h.loops.length n0 h h':=(Fr.EC _ _).trans qy;refine⟨r,h',hc,?_⟩;cases HK:feed next x d a with
 |panic v=>rw[HK] at pF hq;have e1:r=.panic v:=pF;subst e1;exact hq h' HN|stop c'=>rw[HK] at pF hq;obtain⟨rfl,q1,q2⟩:r=.ret (.tuple [])/\J c' h'/\_:=pF;exact⟨_,q2,by simp,.inr ⟨rfl,hq _ (HN.trans (Fr.dY (aK _) _)) (Jst _ _ _ q1 (λ_ _ h=>h))⟩⟩
 |cont c'=>rw[HK] at pF hq;obtain⟨rfl,⟨q1,q2⟩,q3⟩:r=.ret (.tuple [])/\(J c' h'/\_)/\_:=pF;exact⟨_,q2,by rw[w5];simp,.inl ⟨w6,hq _ (HN.trans (Fr.dY (aK _) _)) (Jst _ _ _ q1 (λ_ _ h=>h))⟩⟩
def Ext.fr{bn l0 n0:Nat}{h h1 h2:ae}(x:Ext h h1)(f:Fr bn l0 n0 h1 h2)(hb:h.boxes.length<=bn)(hl:h.loops.length<=l0)(hn:h.tn<=n0):Ext h h2:=
 ⟨λc cs hc=>f.box c cs (by have:=(aF.1 hc).1;omega) (x.box c cs hc),λl r hr=>f.loop l r (by have:=(aF.1 hr).1;omega) (x.loop l r hr),cY x.tn f.tn,λn h1 h2=>x.dead n h1 (f.dead n (Nat.lt_of_lt_of_le h1 hn) h2),λho=>f.ok (x.ok ho)⟩
def xS(n:Int)(_:Ex)(d:Int):Nx Int:=if n+1<=256/\d<=16 then .cont (n+1) else .panic (gU 2)
def Vc(x:Ex):1<=cZ x:=by cases x;rw[cZ];omega
def Mg(x:Ex):1<=jr x:=by cases x;rw[jr];omega
def WB:∀(x:Ex) (d n:Int),0<=n->feed xS x d n=if n+cZ x<=256/\d+jr x<=17 then .cont (n+cZ x) else .panic (gU 2):=by
 intro x
 induction x using Ex.ind with
 |h k nn no name l ih=>
  intro d n hn;have key:∀r:List Ex,(∀y∈r,y∈l)->∀m:Int,0<=m->m<=256->ke xS r (d+1) m=if m+fI r<=256/\(r=[]∨d+1+iO r<=17) then .cont (m+fI r) else .panic (gU 2):=by
   intro r
   induction r with
   |nil=>intro _ m h1 h2;rw[ke,fI,aB ⟨aj,.inl rfl⟩];simp|cons y r ihr=>
    intro cQ m h1 h2;rw[ke,ih y (cQ y dQ) (d+1) m h1,fI,iO];have xE:r=[]->iO r=0/\fI r=0:=(by intro q;subst q;exact⟨by rw[iO],by rw[fI]⟩);have fU:r≠[]->1<=iO r:=by
     intro q;cases r with|nil=>exact absurd rfl q|cons z r=>rw[iO];have:=Mg z;omega
    have hdp:=Mg y;by_cases c:m+cZ y<=256/\d+1+jr y<=17
    ·rw[aB c];simp only;rw[ihr (λz hz=>cQ z (dG _ hz)) _ aj c.1];have e:m+↑(cZ y+fI r)=m+cZ y+fI r:=(by omega);by_cases c2:m+cZ y+fI r<=256/\(r=[]∨d+1+iO r<=17)
     ·have hA:d+1+(max (jr y) (iO r):Nat)<=17:=by
       rcases c2.2 with q|q
       ·have:=xE q;omega
       ·omega
      rw[aB c2,aB ⟨aj,.inr hA⟩,e]
     ·rw[ax c2,ax];rintro⟨q1,q2⟩;refine c2 ⟨aj,?_⟩;rcases q2 with q2|q2
      ·cases q2
      ·by_cases q3:r=[]
       ·exact .inl q3
       ·exact .inr aj
    ·rw[ax c];simp only;rw[ax];rintro⟨q1,q2⟩;refine c ⟨aj,?_⟩;rcases q2 with q2|q2
     ·cases q2
     ·omega
  rw[feed];unfold xS;rw[cZ,jr];by_cases c:n+1<=256/\d<=16
  ·rw[aB c];simp only;have:=key l (λ_ h=>h) (n+1) aj c.1;unfold xS at this;rw[this];have xE:l=[]->iO l=0:=(by intro q;subst q;rw[iO]);by_cases c2:n+1+fI l<=256/\(l=[]∨d+1+iO l<=17)
   ·have hA:d+(iO l+1:Nat)<=17:=by
     rcases c2.2 with q|q
     ·have:=xE q;omega
     ·omega
    rw[aB c2,aB ⟨aj,hA⟩];congr 1;omega
   ·rw[ax c2,ax];rintro⟨q1,q2⟩;exact c2 ⟨aj,.inr aj⟩
  ·rw[ax c];simp only;rw[ax];rintro⟨q1,q2⟩;exact c ⟨aj,by omega⟩
def WC(x:Ex):feed xS x 1 0=if pO x=ab then .panic (gU 2) else .cont (cZ x):=by
 rw[WB x 1 0 aj];have hp:=zG x 256 aj;have hc:=Vc x;unfold pO;rw[hp];by_cases c:(cZ x:Int)<=256
 ·rw[aB c];by_cases c2:jr x<=16
  ·rw[aB ⟨aj,by omega⟩,ax]
   ·simp
   ·simp;omega
  ·rw[ax aj,aB];simp;omega
 ·rw[ax c,ax aj,aB];simp
def xY:Tryz.f67.results.toList=[]:=ai
section
variable {h:ae} {b:Nat} {k n no d k' n' no' d':Int} {s s':List UInt8} {tok tok':Tok} {sz sz':Nat} {rows rows':List (List AV)}
def mP(hb:h.boxes[b]?=aa (dv k n no s tok sz rows d)):dz aq Gt h 26 (.ptr (.box b) 0)=aa (.agg (ar k n no s tok sz rows)):=nH eG ec hb (aj:0+5<=6)
def FM(hb:h.boxes[b]?=aa (dv k n no s tok sz rows d)):dh aq h 155 (.ptr (.box b) 0) (.agg (dv k' n' no' s' tok' sz' rows' d'))=aa (h.put b (dv k' n' no' s' tok' sz' rows' d')):=dK (off:=0) (cs:=dv k n no s tok sz rows d) (xs:=dv k' n' no' s' tok' sz' rows' d') rfl QK hb rfl (aK 6)
end
def Hl{p:Po}(f:lA p){x:Ex}(h:x∈exprs p):cZ x<=1000:=by
 rcases oZ.1 h with q|q
 ·obtain⟨r,hr,rfl⟩:=wO.1 q;exact f.r r hr
 ·simp at q;subst q;exact f.c
def yd{p:Po}:lR p=ab↔p.aO.length<=32/\p.kinds.length<=16/\p.rules.length<=16/\∀x∈exprs p,pO x=ak:=by
 simp only[lR,aL,decide_eq_true_eq,Bool.not_eq_true',dn];constructor
 ·rintro⟨⟨⟨⟨h1,h2⟩,h3⟩,h4⟩,h5⟩;refine⟨h1,h2,h3,λx hx=>?_⟩;rcases oZ.1 hx with q|q
  ·obtain⟨r,hr,rfl⟩:=wO.1 q;exact h5 r hr
  ·simp at q;subst q;exact h4
 ·rintro⟨h1,h2,h3,h4⟩;exact⟨⟨⟨⟨h1,h2⟩,h3⟩,h4 _ (by simp[exprs])⟩,λr hr=>h4 _ (C9 _ (Sg hr))⟩
def lh:(∀(k n no:Int) (s:List UInt8) (tok:Tok) (sz:Nat) (rows:List (List AV)) (d:Int),((dv k n no s tok sz rows d).drop 5).head?=aa (.v (.int .i64 d)))/\(∀(k n no:Int) (s:List UInt8) (tok:Tok) (sz:Nat) (rows:List (List AV)) (d:Int),((dv k n no s tok sz rows d).drop 0).head?=aa (.v (.int .i64 k)))/\(∀(k n no:Int) (s:List UInt8) (tok:Tok) (sz:Nat) (rows:List (List AV)) (d:Int),((dv k n no s tok sz rows d).drop 2).head?=aa (.v (.int .i64 no)))/\(∀(k n no:Int) (s:List UInt8) (tok:Tok) (sz:Nat) (rows:List (List AV)) (d:Int),((dv k n no s tok sz rows d).drop 3).head?=aa (.v (.string (bs s))))/\
 (∀(r:Ref) (off:Nat),cN aq 155 (.ptr r off) 0=aa (.ptr r (off+0)))/\(∀(r:Ref) (off:Nat),cN aq 155 (.ptr r off) 1=aa (.ptr r (off+5))):=⟨λ_ _ _ _ _ _ _ _=>rfl,λ_ _ _ _ _ _ _ _=>rfl,λ_ _ _ _ _ _ _ _=>rfl,λ_ _ _ _ _ _ _ _=>rfl,Wf,Wg⟩
def Ends(R:Rec)(g:bF)(args:List AV)(h:ae)(ok:Bool)(e:Int):Prop:=∃h',R.call g args h=aa (if ok=ab then .ret (.tuple []) else .panic (gU e),h')/\Ext h h'
def aeu(p:Po)(t:PT)(ok:ek p t)(cI:lA p)(h:ae)(aU:cR h=ab):Ends W 67 [.agg (au p t)] h (lR p) 2:=by
 have u24:=j6;have a3:=dE;have a9:=dR;have a22:=oA;have a23:=nq;have a24:=jm;have a26:=eG;have a28:=iE;have s26:=ec;have s28:=gV;have s3:=bQ;have z3:=Re;have z26:=nS;have u22:=o9;have u23:=lB;have aP:=ok.rules.1;have kok:=ag.mk ok;have kfew:=ag.mk cI;have kx0:=ag.mk (Ext.push h (au p t))
 suffices hs:∃r h',W.call 67 [.agg (au p t)] h=aa (r,h')/\(r=(if lR p=ab then .ret (.tuple []) else .panic (gU 2))/\Ext h h') by obtain⟨r,h',q1,rfl,q3⟩:=hs;exact⟨h',q1,q3⟩
 obtain⟨cM,rowsE,h2,c2,dk,rC⟩:=Hh p t ok cI.l (h.push (au p t)) aU;have yX:=rC.1;have b1:=dk.box _ _ (bX h (au p t));have k2:=ag.mk (kx0.out.trans dk);have krE:=ag.mk rC;clear dk rC cI aU;refine bO rfl Tryz.func67 rfl ?_;by_cases eP:p.aO.length<=32/\p.kinds.length<=16/\p.rules.length<=16
 ·obtain⟨g1,g2,g3⟩:=eP;have d3:decide ((p.rules.length:Int)<=16)=ab:=fJ aj
  repeat' (first|simp(maxSteps:=9999999) (disch:=first|exact dZ|fail) only[gW,reduceIte,ao,al,xY,bN,dt,cK,eO,cT,aA,dL,jA,jc, *]|refine dX ?_ ?_<;>(intro _;try omega))
  have n1:=(aF.1 b1).1;refine eX (λm e h'=>∃(i:Nat),i<=(exprs p).length/\m=(exprs p).length - i/\e.get 1=.ptr (.box h.boxes.length) 0/\e.get 24=.list cM 5 rowsE/\e.get 25=.v (.int .i64 ((exprs p).length:Nat))/\e.get 26=.v (.int .i64 i)/\e.defers=[]/\Ext h h'/\h'.boxes[h.boxes.length]?=aa (au p t)/\∀x∈(exprs p).take i,pO x=ak) ?_ (exprs p).length _ _ ?_
  ·rintro m e h' ⟨i,hi,rfl,q1,q24,q25,q26,hd,hx,hb,bV⟩;have kx:=ag.mk hx;have kno:=ag.mk bV;clear hx bV c2 b1;have n1':=(aF.1 hb).1;have dS:(exprs p).length<=1001:=(by simp[exprs];have:=kfew.out.l;omega);by_cases ay:i<(exprs p).length
   ·obtain⟨y,r,hy,hr,cX⟩:=krE.out.get ay;obtain⟨tk2,sz2,rows2,rfl,-⟩:=Row.iQ cX;have dU:(i:Int)<(rowsE.length:Int):=(by rw[yX];omega);have fX:(i:Int)<((exprs p).length:Int):=(by omega);have qC:5<=((ar y.kind y.n y.no y.name tk2 sz2 rows2).drop 0).length:=(by rw[fc];exact aK _);have uh:=B6 y _ cX 1;have kyr:=ag.mk cX;clear cX
    repeat' (first|simp(maxSteps:=9999999) (disch:=first|exact dZ|fail) only[gW,reduceIte,ao,al,xY,lI,qT,Ae,aV,dr,mS,aJ,bH,eW,aA,Aa, *]|refine dX ?_ ?_<;>(intro _;try omega))
    have yT:=Hl kfew.out (ie hy);have D4:=DF y;refine bU.gen λe2 q2 qd2 _ _=>?_;have p1:e2.get 1=.ptr (.box h.boxes.length) 0:=(by rw[q2];simp only[gW,reduceIte,ao,al,q1]);have p4:e2.get 4=.ptr (.box (h'.boxes.length+1)) 0:=(by rw[q2];exact gS);have p24:e2.get 24=.list cM 5 rowsE:=(by rw[q2];simp only[gW,reduceIte,ao,al,q24]);have p25:e2.get 25=.v (.int .i64 ((exprs p).length:Nat)):=(by rw[q2];simp only[gW,reduceIte,ao,al,q25]);have p26:e2.get 26=.v (.int .i64 i):=(by rw[q2];simp only[gW,reduceIte,ao,al,q26]);have p31:e2.get 31=.func (.func 146) [] [.ptr (.box (h'.boxes.length+1+1)) 0,.ptr (.box (h'.boxes.length+1+1+1)) 0]:=(by rw[q2];exact gS);have pd:e2.defers=[]:=(by rw[qd2];simp only[gW,reduceIte,ao,al,hd]);clear q2 qd2 uh q1 q24 q25 q26 hd;generalize hS:(((h'.push (ar y.kind y.n y.no y.name tk2 sz2 rows2)).push [.v (.int .i64 0)]).push (ar y.kind y.n y.no y.name tk2 sz2 rows2)).push [.v (.int .i64 1)]=hs;have xs:Ext h' hs:=(by rw[<-hS];exact(((Ext.push _ _).trans (.push _ _)).trans (.push _ _)).trans (.push _ _));have f1:hs.boxes[h'.boxes.length+1]?=aa [.v (.int .i64 0)]:=(by rw[<-hS];simp(disch:=(first|assumption|omega|(exact(aA _ _).symm)|(simp only[df];omega)|(refine fF ?_ ?_<;>simp only[df]<;>omega)|fail)) only[gZ]);have f2:hs.boxes[h'.boxes.length+1+1]?=aa (ar y.kind y.n y.no y.name tk2 sz2 rows2):=(by rw[<-hS];simp(disch:=(first|assumption|omega|(exact(aA _ _).symm)|(simp only[df];omega)|(refine fF ?_ ?_<;>simp only[df]<;>omega)|fail)) only[gZ]);have f3:hs.boxes[h'.boxes.length+1+1+1]?=aa [.v (.int .i64 1)]:=(by rw[<-hS];simp(disch:=(first|assumption|omega|(exact(aA _ _).symm)|(simp only[df];omega)|(refine fF ?_ ?_<;>simp only[df]<;>omega)|fail)) only[gZ]);have kxs:=ag.mk xs;clear hS xs;refine E4 (J:=λ(n:Int) hh=>hh.boxes[h'.boxes.length+1]?=aa [.v (.int .i64 n)]/\0<=n/\n<=256) xS kyr.out (bn:=h'.boxes.length+1) (n0:=h.tn) (0:Int) p31 f2 f3 aj aj aj aj (cY kx.out.tn kxs.out.tn) ⟨f1,by omega,by omega⟩ (λa h1 h2 ⟨j1,j2⟩ hb=>⟨hb _ _ j1,j2⟩) (λa h1 ⟨j1,j2⟩=>(aF.1 j1).1) ?_ ?_
    ·rintro c hh z tk3 bQ rows3 dd rec w1 w2 ⟨j1,j2,j3⟩ hz k0 k1 k2;have t32:(mR hs.loops.length rec [.agg (dv z.kind z.n z.no z.name tk3 bQ rows3 dd)]).get 32=.agg (dv z.kind z.n z.no z.name tk3 bQ rows3 dd):=(by rw[qP w2 w1];rfl);have t4:(mR hs.loops.length rec [.agg (dv z.kind z.n z.no z.name tk3 bQ rows3 dd)]).get 4=.ptr (.box (h'.boxes.length+1)) 0:=(by rw[qP w2 w1];exact p4);have nh:=(aF.1 j1).1;have z77:=CX;clear w1 w2
     repeat' (first|simp(maxSteps:=9999999) (disch:=first|exact dZ|fail) only[gW,reduceIte,ao,al,FM,bH, *]|refine dX ?_ ?_<;>(intro _;try omega))
     refine⟨by first|trivial|rfl,rfl,Fr.push ..,λrb=>?_⟩;generalize mI:(hh.push (dv z.kind z.n z.no z.name tk3 bQ rows3 dd)).dY hs.loops.length rb=hB;have f4:hB.boxes[h'.boxes.length+1]?=aa [.v (.int .i64 c)]:=(by rw[<-mI];exact bW j1);have f5:hB.boxes[hh.boxes.length]?=aa (dv z.kind z.n z.no z.name tk3 bQ rows3 dd):=(by rw[<-mI];exact bX _ _);have nB:=(aF.1 f4).1;clear mI;unfold xS;have fin:Fr (h'.boxes.length+1) hs.loops.length h.tn hB (hB.put (h'.boxes.length+1) [.v (.int .i64 (c+1))]):=Fr.put ..;have aN:=ag.mk fin;clear fin;by_cases c1:c+1<=256
     ·cases c2:decide (dd<=16)
      ·have c2':=of_decide_eq_false c2;rw[ax (λq=>c2' q.2)]
       repeat' (first|simp(maxSteps:=9999999) (disch:=first|exact dZ|fail) only[gW,reduceIte,ao,al,Ae,lh,aJ,Aa,jA,jc, *]|refine dX ?_ ?_<;>(intro _;try omega))
       exact⟨aN.out,λ_ _ h=>h,rfl⟩
      ·have c2':=of_decide_eq_true c2;rw[aB ⟨c1,c2'⟩]
       repeat' (first|simp(maxSteps:=9999999) (disch:=first|exact dZ|fail) only[gW,reduceIte,ao,al,Ae,lh,aJ,Aa,jA,jc, *]|refine dX ?_ ?_<;>(intro _;try omega))
       exact⟨aN.out,λ_ _ h=>h,rfl,mz nB,by omega,c1⟩
     ·rw[ax (λq=>c1 q.1)]
      repeat' (first|simp(maxSteps:=9999999) (disch:=first|exact dZ|fail) only[gW,reduceIte,ao,al,Ae,lh,aJ,Aa,jA,jc, *]|refine dX ?_ ?_<;>(intro _;try omega))
      exact⟨aN.out,λ_ _ h=>h,rfl⟩
    ·rw[WC];cases oJ:pO y with
     |true=>
      simp only[if_true];intro h3 hK;have mO:lR p=ak:=by rw[ib];intro q;have:=(yd.1 q).2.2.2 y (ie hy);rw[oJ] at this;cases this
      repeat' (first|simp(maxSteps:=9999999) (disch:=first|exact dZ|fail) only[gW,reduceIte,ao,al,xY, *]|refine dX ?_ ?_<;>(intro _;try omega))
      refine⟨_,_,rfl,?_,?_⟩
      ·first|rfl|(rw[mO];rfl)
      ·exact Ext.fr (kx.out.trans kxs.out) hK aj ((kx.out.trans kxs.out).qH) (aK _)
     |false=>
      simp only[dP,if_false];intro h3 hK _;have x3:=ag.mk (Ext.fr (kx.out.trans kxs.out) hK aj ((kx.out.trans kxs.out).qH) (aK _));have gO:=hK.box h.boxes.length _ aj (kxs.out.box _ _ hb);have klg:=ag.mk oJ;clear hK oJ
      repeat' (first|simp(maxSteps:=9999999) (disch:=first|exact dZ|fail) only[gW,reduceIte,ao,al,xY, *]|refine dX ?_ ?_<;>(intro _;try omega))
      refine⟨(exprs p).length - (i+1),by omega,i+1,by omega,rfl,(by first|trivial|(simp;done)|(simp;omega)),(by first|trivial|(simp;done)|(simp;omega)),(by first|trivial|(simp;done)|(simp;omega)),(by first|trivial|(simp;done)|(simp;omega)),(by first|trivial|(simp;done)|(simp;omega)),x3.out,(by first|exact gO|trivial),λx hx=>?_⟩;obtain⟨hj,rfl⟩:=aF.1 hy;rw[nj hj] at hx;rcases oZ.1 hx with q|q
      ·exact kno.out x q
      ·simp at q;subst q;exact klg.out
   ·have cJ:i=(exprs p).length:=(by omega);subst cJ;have dU:¬(((exprs p).length:Int)<((exprs p).length:Int)):=by omega
    repeat' (first|simp(maxSteps:=9999999) (disch:=first|exact dZ|fail) only[gW,reduceIte,ao,al,xY, *]|refine dX ?_ ?_<;>(intro _;try omega))
    refine⟨_,_,rfl,?_,kx.out⟩;rw[aB (yd.2 ⟨g1,g2,g3,λx hx=>kno.out x (by rw[jk];exact hx)⟩)]
  ·refine⟨0,cz _,rfl,?_,?_,?_,?_,?_,k2.out,b1,λx hx=>by simp at hx⟩<;>exact gR
 ·have kbad:=ag.mk eP;clear eP;have mO:lR p=ak:=by rw[ib];intro q;simp only[lR,aL,decide_eq_true_eq] at q;exact kbad.out ⟨q.1.1.1.1,q.1.1.1.2,q.1.1.2⟩
  have aN:∀h2,Ext h h2->∃r h',aa (bw.panic (gU 2),h2)=aa (r,h')/\r=(if lR p=ab then bw.ret (AV.tuple []) else bw.panic (gU 2))/\Ext h h':=λh2 hx=>⟨_,_,rfl,by rw[mO];rfl,hx⟩;have aN:=ag.mk aN;clear mO;cases d3:decide ((p.rules.length:Int)<=16)
  all_goals
   repeat' (first|simp(maxSteps:=9999999) (disch:=first|exact dZ|fail) only[gW,reduceIte,ao,al,xY,bN,dt,cK,eO,cT,aA,dL,jA,jc, *]|refine dX ?_ ?_<;>(intro _;try omega))
   all_goals first
    |exact aN.out _ kx0.out
    |(exfalso;have:=of_decide_eq_true d3;exact kbad.out ⟨aj,by omega,by omega⟩)
def Jp(o:List (List UInt8))(z:Ex):Bool:= !(decide (z.kind=1)||decide (z.kind=2))||decide (0<=idx o z.name)
def BX(o:List (List UInt8))(_:Unit)(z:Ex)(_:Int):Nx Unit:=if Jp o z=ab then .cont () else .panic (gU 201)
def Wz(o:List (List UInt8)):∀(x:Ex) (d:Int),feed (BX o) x d ()=if mw o x=ab then .cont () else .panic (gU 201):=by
 intro x
 induction x using Ex.ind with
 |h k n no name l ih=>
  intro d;have key:∀r:List Ex,(∀y∈r,y∈l)->ke (BX o) r (d+1) ()=if s5 o r=ab then .cont () else .panic (gU 201):=by
   intro r
   induction r with
   |nil=>intro _;rw[ke,s5];rfl|cons y r ihr=>
    intro cQ;rw[ke,ih y (cQ y dQ),s5];cases mw o y with|true=>simp only[if_true,qb];exact ihr λz hz=>cQ z (dG _ hz)|false=>simp
  rw[feed];unfold BX;rw[mw];have hk:Jp o (.mk k n no name l)= !((decide (k=1)||decide (k=2))&&decide (idx o name<0)):=by show(!(decide (k=1)||decide (k=2))||decide (0<=idx o name))=_;rw[Bool.not_and];congr 1;rw[uT];simp
  rw[hk];cases (!((decide (k=1)||decide (k=2))&&decide (idx o name<0))) with
  |true=>simp only[if_true,qb];exact key l λ_ h=>h|false=>simp
def uy{p:Po}:jU p=ab↔qo p.name=ab/\qn p.aO=ab/\qn p.kinds=ab/\∀x∈exprs p,mw p.aO x=ab:=by
 simp only[jU,aL,dn];constructor
 ·rintro⟨⟨⟨⟨h1,h2⟩,h3⟩,h4⟩,h5⟩;refine⟨h1,h2,h3,λx hx=>?_⟩;rcases oZ.1 hx with q|q
  ·obtain⟨r,hr,rfl⟩:=wO.1 q;exact h4 r hr
  ·simp at q;subst q;exact h5
 ·rintro⟨h1,h2,h3,h4⟩;exact⟨⟨⟨⟨h1,h2⟩,h3⟩,λr hr=>h4 _ (C9 _ (Sg hr))⟩,h4 _ (by simp[exprs])⟩
def zM:Tryz.f68.results.toList=[]:=ai
def aaY(p:Po)(t:PT)(ok:ek p t)(cI:lA p)(h:ae)(aU:cR h=ab):Ends W 68 [.agg (au p t)] h (jU p) 201:=by
 have u24:=j6;have a3:=dE;have a9:=dR;have a22:=oA;have a23:=nq;have a24:=jm;have a26:=eG;have a28:=iE;have s26:=ec;have s28:=gV;have s3:=bQ;have z26:=nS;have u22:=o9;have u23:=lB;have aP:=ok.rules.1;have kok:=ag.mk ok;have kfew:=ag.mk cI;have kx0:=ag.mk (Ext.push h (au p t))
 suffices hs:∃r h',W.call 68 [.agg (au p t)] h=aa (r,h')/\(r=(if jU p=ab then .ret (.tuple []) else .panic (gU 201))/\Ext h h') by obtain⟨r,h',q1,rfl,q3⟩:=hs;exact⟨h',q1,q3⟩
 have c0:=Od p.name (h.push (au p t));have c1:=Mj t.to t.so p.aO ok.zo ok.bo (h.push (au p t));have c3:=Mj t.tk t.sk p.kinds ok.zk ok.bk (h.push (au p t));obtain⟨cM,rowsE,h2,c2,dk,rC⟩:=Hh p t ok cI.l (h.push (au p t)) aU;have yX:=rC.1;have b1:=dk.box _ _ (bX h (au p t));have k2:=ag.mk (kx0.out.trans dk);have krE:=ag.mk rC;clear dk rC cI aU;refine bO rfl Tryz.func68 rfl ?_;by_cases eP:qo p.name=ab/\qn p.aO=ab/\qn p.kinds=ab
 ·obtain⟨g1,g2,g3⟩:=eP;rw[g1] at c0;rw[g2] at c1;rw[g3] at c3;have kg1:=ag.mk g1;have kg2:=ag.mk g2;have kg3:=ag.mk g3;clear g1 g2 g3
  repeat' (first|simp(maxSteps:=9999999) (disch:=first|exact dZ|fail) only[gW,reduceIte,ao,al,zM,bN,dt,cK,eO,cT,aA,dL,jA,jc, *]|refine dX ?_ ?_<;>(intro _;try omega))
  have n1:=(aF.1 b1).1;refine eX (λm e h'=>∃(i:Nat),i<=(exprs p).length/\m=(exprs p).length - i/\e.get 1=.ptr (.box h.boxes.length) 0/\e.get 20=.list cM 5 rowsE/\e.get 21=.v (.int .i64 ((exprs p).length:Nat))/\e.get 22=.v (.int .i64 i)/\e.defers=[]/\Ext h h'/\h'.boxes[h.boxes.length]?=aa (au p t)/\∀x∈(exprs p).take i,mw p.aO x=ab) ?_ (exprs p).length _ _ ?_
  ·rintro m e h' ⟨i,hi,rfl,q1,q24,q25,q26,hd,hx,hb,bV⟩;have kx:=ag.mk hx;have kno:=ag.mk bV;clear hx bV c2 b1 c0 c1 c3;have n1':=(aF.1 hb).1;have dS:(exprs p).length<=1001:=(by simp[exprs];have:=kfew.out.l;omega);by_cases ay:i<(exprs p).length
   ·obtain⟨y,r,hy,hr,cX⟩:=krE.out.get ay;obtain⟨tk2,sz2,rows2,rfl,-⟩:=Row.iQ cX;have dU:(i:Int)<(rowsE.length:Int):=(by rw[yX];omega);have fX:(i:Int)<((exprs p).length:Int):=(by omega);have qC:5<=((ar y.kind y.n y.no y.name tk2 sz2 rows2).drop 0).length:=(by rw[fc];exact aK _);have uh:=B6 y _ cX 1;have kyr:=ag.mk cX;clear cX
    repeat' (first|simp(maxSteps:=9999999) (disch:=first|exact dZ|fail) only[gW,reduceIte,ao,al,zM,lI,qT,Ae,aV,dr,mS,aJ,bH,eW,aA,Aa, *]|refine dX ?_ ?_<;>(intro _;try omega))
    have yT:=Hl kfew.out (ie hy);have D4:=DF y;refine bU.gen λe2 q2 qd2 _ _=>?_;have p1:e2.get 1=.ptr (.box h.boxes.length) 0:=(by rw[q2];simp only[gW,reduceIte,ao,al,q1]);have p24:e2.get 20=.list cM 5 rowsE:=(by rw[q2];simp only[gW,reduceIte,ao,al,q24]);have p25:e2.get 21=.v (.int .i64 ((exprs p).length:Nat)):=(by rw[q2];simp only[gW,reduceIte,ao,al,q25]);have p26:e2.get 22=.v (.int .i64 i):=(by rw[q2];simp only[gW,reduceIte,ao,al,q26]);have p31:e2.get 27=.func (.func 146) [] [.ptr (.box (h'.boxes.length+1)) 0,.ptr (.box (h'.boxes.length+1+1)) 0]:=(by rw[q2];exact gS);have pd:e2.defers=[]:=(by rw[qd2];simp only[gW,reduceIte,ao,al,hd]);clear q2 qd2 uh q1 q24 q25 q26 hd;generalize hS:((h'.push (ar y.kind y.n y.no y.name tk2 sz2 rows2)).push (ar y.kind y.n y.no y.name tk2 sz2 rows2)).push [.v (.int .i64 1)]=hs;have xs:Ext h' hs:=(by rw[<-hS];exact((Ext.push _ _).trans (.push _ _)).trans (.push _ _));have f1:hs.boxes[h'.boxes.length]?=aa (ar y.kind y.n y.no y.name tk2 sz2 rows2):=(by rw[<-hS];simp(disch:=(first|assumption|omega|(exact(aA _ _).symm)|(simp only[df];omega)|(refine fF ?_ ?_<;>simp only[df]<;>omega)|fail)) only[gZ]);have f2:hs.boxes[h'.boxes.length+1]?=aa (ar y.kind y.n y.no y.name tk2 sz2 rows2):=(by rw[<-hS];simp(disch:=(first|assumption|omega|(exact(aA _ _).symm)|(simp only[df];omega)|(refine fF ?_ ?_<;>simp only[df]<;>omega)|fail)) only[gZ]);have f3:hs.boxes[h'.boxes.length+1+1]?=aa [.v (.int .i64 1)]:=(by rw[<-hS];simp(disch:=(first|assumption|omega|(exact(aA _ _).symm)|(simp only[df];omega)|(refine fF ?_ ?_<;>simp only[df]<;>omega)|fail)) only[gZ]);have kxs:=ag.mk xs;clear hS xs;refine E4 (J:=λ(_:Unit) hh=>hh.boxes[h.boxes.length]?=aa (au p t)/\h'.boxes.length<hh.boxes.length) (BX p.aO) kyr.out (bn:=h'.boxes.length) (n0:=h.tn) () p31 f2 f3 aj aj aj aj (cY kx.out.tn kxs.out.tn) ⟨kxs.out.box _ _ hb,(aF.1 f1).1⟩ (λa h1 h2 ⟨j1,j2⟩ hb=>⟨hb _ _ j1,(by obtain⟨c,hc⟩:∃c,h1.boxes[h'.boxes.length]?=aa c:=⟨_,cv j2⟩;exact(aF.1 (hb _ _ hc)).1)⟩) (λa h1 ⟨j1,j2⟩=>j2) ?_ ?_
    ·rintro c hh z tk3 bQ rows3 dd rec w1 w2 ⟨j1,j2⟩ hz k0 k1 k2;have t32:(mR hs.loops.length rec [.agg (dv z.kind z.n z.no z.name tk3 bQ rows3 dd)]).get 28=.agg (dv z.kind z.n z.no z.name tk3 bQ rows3 dd):=(by rw[qP w2 w1];rfl);have t1:(mR hs.loops.length rec [.agg (dv z.kind z.n z.no z.name tk3 bQ rows3 dd)]).get 1=.ptr (.box h.boxes.length) 0:=(by rw[qP w2 w1];exact p1);have nh:=(aF.1 j1).1;have z77:=CX;clear w1 w2
     repeat' (first|simp(maxSteps:=9999999) (disch:=first|exact dZ|fail) only[gW,reduceIte,ao,al,FM,bH, *]|refine dX ?_ ?_<;>(intro _;try omega))
     refine⟨by first|trivial|rfl,rfl,Fr.push ..,λrb=>?_⟩;generalize mI:(hh.push (dv z.kind z.n z.no z.name tk3 bQ rows3 dd)).dY hs.loops.length rb=hB;have f4:hB.boxes[h.boxes.length]?=aa (au p t):=(by rw[<-mI];exact bW j1);have f5:hB.boxes[hh.boxes.length]?=aa (dv z.kind z.n z.no z.name tk3 bQ rows3 dd):=(by rw[<-mI];exact bX _ _);have nB:=(aF.1 f4).1;have nB5:=(aF.1 f5).1;have vC:∀h:ae,W.call 120 [.agg (ar z.kind z.n z.no z.name tk3 bQ rows3)] h=aa (.ret (.v (.bool (decide (z.kind=1)||decide (z.kind=2)))),h.push (ar z.kind z.n z.no z.name tk3 bQ rows3)):=IH z _ hz;have M9:∀h:ae,W.call 121 [.list t.to t.so (strs p.aO),.v (.string (bs z.name))] h=aa (.ret (.v (.bool (decide (0<=idx p.aO z.name)))),h):=Vl t.to t.so p.aO z.name kok.out.zo kok.out.bo;clear mI;unfold BX Jp;have fin:Fr h'.boxes.length hs.loops.length h.tn hB (hB.push (ar z.kind z.n z.no z.name tk3 bQ rows3)):=Fr.push ..;have aN:=ag.mk fin;have kf4:=ag.mk f4;have kj2:=ag.mk j2;have jn:h'.boxes.length<hB.boxes.length+1:=(by omega);clear fin j2;cases b1:(decide (z.kind=1)||decide (z.kind=2)) with
     |false=>
      rw[b1] at vC
      repeat' (first|simp(maxSteps:=9999999) (disch:=first|exact dZ|fail) only[gW,reduceIte,ao,al,mP,lh,aJ,bN,gr,cK,aA,jA,jc, *]|refine dX ?_ ?_<;>(intro _;try omega))
      exact⟨aN.out,λ_ _ h=>h,rfl,bW kf4.out,by rw[aA];exact jn⟩
     |true=>
      rw[b1] at vC;cases b2:decide (0<=idx p.aO z.name) with
      |false=>
       rw[b2] at M9
       repeat' (first|simp(maxSteps:=9999999) (disch:=first|exact dZ|fail) only[gW,reduceIte,ao,al,mP,lh,aJ,bN,gr,cK,aA,jA,jc, *]|refine dX ?_ ?_<;>(intro _;try omega))
       exact⟨aN.out,λ_ _ h=>h,rfl⟩
      |true=>
       rw[b2] at M9
       repeat' (first|simp(maxSteps:=9999999) (disch:=first|exact dZ|fail) only[gW,reduceIte,ao,al,mP,lh,aJ,bN,gr,cK,aA,jA,jc, *]|refine dX ?_ ?_<;>(intro _;try omega))
       exact⟨aN.out,λ_ _ h=>h,rfl,bW kf4.out,by rw[aA];exact jn⟩
    ·rw[Wz];cases oJ:mw p.aO y with
     |false=>
      simp only[dP,if_false];intro h3 hK;have mO:jU p=ak:=by rw[ib];intro q;have:=(uy.1 q).2.2.2 y (ie hy);rw[oJ] at this;cases this
      repeat' (first|simp(maxSteps:=9999999) (disch:=first|exact dZ|fail) only[gW,reduceIte,ao,al,zM, *]|refine dX ?_ ?_<;>(intro _;try omega))
      refine⟨_,_,rfl,?_,?_⟩
      ·first|rfl|(rw[mO];rfl)
      ·exact Ext.fr (kx.out.trans kxs.out) hK aj ((kx.out.trans kxs.out).qH) (aK _)
     |true=>
      simp only[if_true];intro h3 hK _;have x3:=ag.mk (Ext.fr (kx.out.trans kxs.out) hK aj ((kx.out.trans kxs.out).qH) (aK _));have gO:=hK.box h.boxes.length _ aj (kxs.out.box _ _ hb);have klg:=ag.mk oJ;clear hK oJ
      repeat' (first|simp(maxSteps:=9999999) (disch:=first|exact dZ|fail) only[gW,reduceIte,ao,al,zM, *]|refine dX ?_ ?_<;>(intro _;try omega))
      refine⟨(exprs p).length - (i+1),by omega,i+1,by omega,rfl,(by first|trivial|(simp;done)|(simp;omega)),(by first|trivial|(simp;done)|(simp;omega)),(by first|trivial|(simp;done)|(simp;omega)),(by first|trivial|(simp;done)|(simp;omega)),(by first|trivial|(simp;done)|(simp;omega)),x3.out,(by first|exact gO|trivial),λx hx=>?_⟩;obtain⟨hj,rfl⟩:=aF.1 hy;rw[nj hj] at hx;rcases oZ.1 hx with q|q
      ·exact kno.out x q
      ·simp at q;subst q;exact klg.out
   ·have cJ:i=(exprs p).length:=(by omega);subst cJ;have dU:¬(((exprs p).length:Int)<((exprs p).length:Int)):=by omega
    repeat' (first|simp(maxSteps:=9999999) (disch:=first|exact dZ|fail) only[gW,reduceIte,ao,al,zM, *]|refine dX ?_ ?_<;>(intro _;try omega))
    refine⟨_,_,rfl,?_,kx.out⟩;rw[aB (uy.2 ⟨kg1.out,kg2.out,kg3.out,λx hx=>kno.out x (by rw[jk];exact hx)⟩)]
  ·refine⟨0,cz _,rfl,?_,?_,?_,?_,?_,k2.out,b1,λx hx=>by simp at hx⟩<;>exact gR
 ·have kbad:=ag.mk eP;clear eP;have mO:jU p=ak:=by rw[ib];intro q;have:=uy.1 q;exact kbad.out ⟨this.1,this.2.1,this.2.2.1⟩
  have aN:∀h2,Ext h h2->∃r h',aa (bw.panic (gU 201),h2)=aa (r,h')/\r=(if jU p=ab then bw.ret (AV.tuple []) else bw.panic (gU 201))/\Ext h h':=λh2 hx=>⟨_,_,rfl,by rw[mO];rfl,hx⟩;have aN:=ag.mk aN;clear mO;cases e1:qo p.name<;>cases e2:qn p.aO<;>cases e3:qn p.kinds
  all_goals
   first
   |(exfalso;exact kbad.out ⟨e1,e2,e3⟩)
   |(rw[e1] at c0
     rw[e2] at c1;rw[e3] at c3
     repeat' (first|simp(maxSteps:=9999999) (disch:=first|exact dZ|fail) only[gW,reduceIte,ao,al,zM,bN,dt,cK,eO,cT,aA,dL,jA,jc, *]|refine dX ?_ ?_<;>(intro _;try omega))
     all_goals exact aN.out _ kx0.out)
def acu:Tryz.f200.results.toList=[.tmp 2]:=ai
def acv:Tryz.f201.results.toList=[.tmp 2]:=ai
def acw:Tryz.f202.results.toList=[.tmp 2]:=ai
def acx:Tryz.f203.results.toList=[.tmp 2]:=ai
section
variable (n no:Int) (s:List UInt8) (tok:Tok) (sz:Nat) (rows:List (List AV)) (h:ae)
def ZN:W.call 200 [.agg (ar 1 n no s tok sz rows)] h=aa (.ret (.v (.bool (iY 1 n s rows.length ab))),h.push (ar 1 n no s tok sz rows)):=by
 have u24:=j6;have a3:=dE;have a9:=dR;have a24:=jm;refine fg rfl Tryz.func200 rfl ?_
 repeat' (first|simp(maxSteps:=9999999) (disch:=first|exact dZ|fail) only[gW,reduceIte,ao,al,acu,lP,rS,pW,gy,jK,gr,bZ, *]|refine dX ?_ ?_<;>(intro _;try omega))
 all_goals
  refine mb ?_;simp_all [iY]
  try (intro a b;exfalso;rename_i q;have:=q a;omega)
def ZO:W.call 201 [.agg (ar 2 n no s tok sz rows)] h=aa (.ret (.v (.bool (iY 2 n s rows.length ab))),h.push (ar 2 n no s tok sz rows)):=by
 have u24:=j6;have a3:=dE;have a9:=dR;have a24:=jm;refine fg rfl Tryz.func201 rfl ?_
 repeat' (first|simp(maxSteps:=9999999) (disch:=first|exact dZ|fail) only[gW,reduceIte,ao,al,acv,lP,rS,pW,gy,jK,gr,bZ,rY, *]|refine dX ?_ ?_<;>(intro _;try omega))
 all_goals
  refine mb ?_;simp_all [iY]
  try (intro a b;exfalso;rename_i q;have:=q a;omega)
def ZP:W.call 202 [.agg (ar 3 n no s tok sz rows)] h=aa (.ret (.v (.bool (iY 3 n s rows.length ab))),h.push (ar 3 n no s tok sz rows)):=by
 have u24:=j6;have a3:=dE;have a9:=dR;have a24:=jm;have u9:=fH;refine fg rfl Tryz.func202 rfl ?_
 repeat' (first|simp(maxSteps:=9999999) (disch:=first|exact dZ|fail) only[gW,reduceIte,ao,al,acw,lP,rS,pW,gy,jK,gr,bZ,rY, *]|refine dX ?_ ?_<;>(intro _;try omega))
 all_goals
  refine mb ?_;simp_all [iY]
  try first|omega|(rw[uT];simp only[aL,decide_eq_true_eq];omega)
def ZQ:W.call 203 [.agg (ar 4 n no s tok sz rows)] h=aa (.ret (.v (.bool (iY 4 n s rows.length ab))),h.push (ar 4 n no s tok sz rows)):=by
 have u24:=j6;have a3:=dE;have a9:=dR;have a24:=jm;have u9:=fH;refine fg rfl Tryz.func203 rfl ?_
 repeat' (first|simp(maxSteps:=9999999) (disch:=first|exact dZ|fail) only[gW,reduceIte,ao,al,acx,lP,rS,pW,gy,jK,gr,bZ,rY, *]|refine dX ?_ ?_<;>(intro _;try omega))
 all_goals
  refine mb ?_;simp_all [iY]
  try first|omega|(rw[uT];simp only[aL,decide_eq_true_eq];omega)
end
def BW(up:Bool)(_:Unit)(z:Ex)(_:Int):Nx Unit:=if iY z.kind z.n z.name z.l.length up=ab then .cont () else .panic (gU 200)
def Wy(up:Bool):∀(x:Ex) (d:Int),feed (BW up) x d ()=if kh up x=ab then .cont () else .panic (gU 200):=by
 intro x
 induction x using Ex.ind with
 |h k n no name l ih=>
  intro d;have key:∀r:List Ex,(∀y∈r,y∈l)->ke (BW up) r (d+1) ()=if py up r=ab then .cont () else .panic (gU 200):=by
   intro r
   induction r with
   |nil=>intro _;rw[ke,py];rfl|cons y r ihr=>
    intro cQ;rw[ke,ih y (cQ y dQ),py];cases kh up y with|true=>simp only[if_true,qb];exact ihr λz hz=>cQ z (dG _ hz)|false=>simp
  have hn:BW up () (.mk k n no name l) d=if iY k n name l.length up=ab then .cont () else .panic (gU 200):=rfl
  rw[feed,hn,kh];cases iY k n name l.length up with|true=>simp only[if_true,uS];exact key l λ_ h=>h|false=>simp
def sI(kinds:List (List UInt8))(i:Nat)(x:Rl):Bool:=decide (kinds[i]?=aa x.kind)&&(decide (0<=x.gz)&&decide (x.gz<=1099511627775))
def Hi(p:Po):(exprs p).length=p.rules.length+1:=by simp[exprs]
def DQ{p:Po}{j:Nat}{x:Rl}(h:p.rules[j]?=aa x):(exprs p)[j]?=aa x.expr:=by obtain⟨hj,rfl⟩:=aF.1 h;unfold exprs;rw[List.getElem?_append_left (by simpa using hj),List.getElem?_map,cv hj];rfl
def DP(p:Po):(exprs p)[p.rules.length]?=aa p.change:=by unfold exprs;rw[List.getElem?_append_right bh];simp
def sE{p:Po}:kj p=ab↔1<=p.kinds.length/\p.rules.length=p.kinds.length/\(decide (1<=p.mode)&&decide (p.mode<=4))=ab/\(∀j x,p.rules[j]?=aa x->sI p.kinds j x=ab)/\∀j y,(exprs p)[j]?=aa y->kh (decide (j<p.rules.length)) y=ab:=by
 simp only[kj,aL,decide_eq_true_eq,adI];constructor
 ·rintro⟨⟨⟨⟨⟨h1,h2⟩,h3⟩,h4⟩,h5⟩,h6⟩;refine⟨h1,h2,⟨h3,h4⟩,λj x hx=>?_,λj y hy=>?_⟩
  ·have:=h5 j x hx;simp only[Ct,sI,aL,decide_eq_true_eq] at this ⊢;exact⟨this.1.1.1,this.1.1.2,by omega⟩
  ·rcases dp j p.rules.length with w|w
   ·have hx:p.rules[j]?=aa p.rules[j]:=cv w;rw[DQ hx] at hy;injection hy with hy;subst hy;have:=h5 j _ hx;simp only[Ct,aL] at this;rw[fJ w];exact this.2
   ·have hj:=(aF.1 hy).1;rw[Hi] at hj;have:j=p.rules.length:=(by omega);subst this;rw[DP] at hy;injection hy with hy;subst hy;rw[mH aj];exact h6
 ·rintro⟨h1,h2,⟨h3,h4⟩,h5,h6⟩;refine⟨⟨⟨⟨⟨h1,h2⟩,h3⟩,h4⟩,λj x hx=>?_⟩,?_⟩
  ·have q:=h5 j x hx;have q2:=h6 j _ (DQ hx);rw[fJ (aF.1 hx).1] at q2;simp only[Ct,sI,aL,decide_eq_true_eq] at q ⊢;exact⟨⟨⟨q.1,q.2.1⟩,by omega⟩,q2⟩
  ·have:=h6 _ _ (DP p);rw[mH aj] at this;exact this
def FT(k:Int):oN aq 158 (.ptr (.dj 0) 0) (.v (.int .i64 1))=aa (.ptr (.dj 0) 1)/\oN aq 158 (.ptr (.dj 0) 0) (.v (.int .i64 2))=aa (.ptr (.dj 0) 2)/\oN aq 158 (.ptr (.dj 0) 0) (.v (.int .i64 3))=aa (.ptr (.dj 0) 3)/\oN aq 158 (.ptr (.dj 0) 0) (.v (.int .i64 4))=aa (.ptr (.dj 0) 4):=
 ⟨ai,ai,ai,ai⟩
def FU:(∀h:ae,dz aq Gt h 99 (.ptr (.dj 0) 1)=aa (.func (.func 200) [] []))/\(∀h:ae,dz aq Gt h 99 (.ptr (.dj 0) 2)=aa (.func (.func 201) [] []))/\(∀h:ae,dz aq Gt h 99 (.ptr (.dj 0) 3)=aa (.func (.func 202) [] []))/\(∀h:ae,dz aq Gt h 99 (.ptr (.dj 0) 4)=aa (.func (.func 203) [] [])):=
 ⟨λ_=>ai,λ_=>ai,λ_=>ai,λ_=>ai⟩
def pV:Tryz.f69.results.toList=[]:=ai
def agp:(fa aq 24).bind AV.cF=aa [.list .nil 0 []]:=ai
def ae8{h:ae}{b:Nat}{x:AV}{tok':Tok}{sz':Nat}{rows':List (List AV)}(hb:h.boxes[b]?=aa [x]):dh aq h 24 (.ptr (.box b) 0) (.list tok' sz' rows')=aa (h.put b [.list tok' sz' rows']):=dK (off:=0) (cs:=[x]) (xs:=[.list tok' sz' rows']) rfl wA hb rfl (aK 1)
def ZR(z:Ex)(tok:Tok)(sz:Nat)(rows:List (List AV))(hl:rows.length=z.l.length):(z.kind=1∨z.kind=2∨z.kind=3∨z.kind=4)->∃g,(∀h:ae,dz aq Gt h 99 (.ptr (.dj 0) z.kind.toNat)=aa (.func (.func g) [] []))/\oN aq 158 (.ptr (.dj 0) 0) (.v (.int .i64 z.kind))=aa (.ptr (.dj 0) z.kind.toNat)/\
 ∀h:ae,W.call g [.agg (ar z.kind z.n z.no z.name tok sz rows)] h=aa (.ret (.v (.bool (iY z.kind z.n z.name z.l.length ab))),h.push (ar z.kind z.n z.no z.name tok sz rows)):=by
 obtain⟨k,n,no,s,l⟩:=z;simp only[Ex.kind,Ex.n,Ex.no,Ex.name,Ex.l] at hl ⊢;rintro(rfl|rfl|rfl|rfl)
 ·exact⟨200,FU.1,(FT 0).1,λh=>by rw[<-hl];exact ZN n no s tok sz rows h⟩
 ·exact⟨201,FU.2.1,(FT 0).2.1,λh=>by rw[<-hl];exact ZO n no s tok sz rows h⟩
 ·exact⟨202,FU.2.2.1,(FT 0).2.2.1,λh=>by rw[<-hl];exact ZP n no s tok sz rows h⟩
 ·exact⟨203,FU.2.2.2,(FT 0).2.2.2,λh=>by rw[<-hl];exact ZQ n no s tok sz rows h⟩
def WU{k n:Int}{s:List UInt8}{m:Nat}{up:Bool}:iY k n s m up=(iY k n s m ab&&(up|| !decide (k=4))):=by
 unfold iY;cases up with|true=>simp|false=>by_cases h4:k=4<;>simp[h4]
def WT{k n:Int}{s:List UInt8}{m:Nat}{up:Bool}(h:iY k n s m up=ab):k=1∨k=2∨k=3∨k=4:=by
 unfold iY at h;by_cases h1:k=1
 ·exact .inl h1
 ·by_cases h2:k=2
  ·exact .inr (.inl h2)
  ·by_cases h3:k=3
   ·exact .inr (.inr (.inl h3))
   ·by_cases h4:k=4
    ·exact .inr (.inr (.inr h4))
    ·rw[ax h1,ax h2,ax h3,ax h4] at h;cases h
def WV(p:Po)(t:PT)(ok:ek p t)(cI:lA p)(h:ae)(aU:cR h=ab):Ends W 69 [.agg (au p t)] h (kj p) 200:=by
 have u24:=j6;have u9:=fH;have a3:=dE;have a9:=dR;have a22:=oA;have a23:=nq;have a24:=jm;have a26:=eG;have a28:=iE;have a43:=pb;have s9:=oV;have s26:=ec;have s28:=gV;have s43:=mU;have s3:=bQ;have z26:=nS;have z43:=Am;have z24:=agp;have z3:=Re;have u22:=o9;have u23:=lB;have aP:=ok.rules.1;have kok:=ag.mk ok;have kfew:=ag.mk cI;have kokh:=ag.mk aU;have kx0:=ag.mk (Ext.push h (au p t))
 suffices hs:∃r h',W.call 69 [.agg (au p t)] h=aa (r,h')/\(r=(if kj p=ab then .ret (.tuple []) else .panic (gU 200))/\Ext h h') by obtain⟨r,h',q1,rfl,q3⟩:=hs;exact⟨h',q1,q3⟩
 have qt:kj p=ak->∀h2,Ext h h2->∃r h',aa (bw.panic (gU 200),h2)=aa (r,h')/\r=(if kj p=ab then bw.ret (AV.tuple []) else bw.panic (gU 200))/\Ext h h':=λmO h2 hx=>⟨_,_,rfl,by rw[mO];rfl,hx⟩;have kbadF:=ag.mk qt;clear qt cI aU;have hq:((t.rr.length:Int)=(p.kinds.length:Int))=(p.rules.length=p.kinds.length):=by rw[aP];exact propext ⟨λq=>by omega,λq=>by omega⟩
 have khq:=ag.mk hq;clear hq;have uo:∀h:ae,W.call 112 [.v (.int .i64 p.mode),.v (.int .i64 1),.v (.int .i64 4)] h=aa (.ret (.v (.bool (decide (1<=p.mode)&&decide (p.mode<=4)))),h):=rY p.mode 1 4;refine bO rfl Tryz.func69 rfl ?_;by_cases eP:1<=p.kinds.length/\p.rules.length=p.kinds.length/\(decide (1<=p.mode)&&decide (p.mode<=4))=ab
 ·have kgood:=ag.mk eP;obtain⟨g1,g2,g3⟩:=eP;rw[g3] at uo;have d1:decide ((0:Int)<(p.kinds.length:Int))=ab:=fJ aj;have d2:decide ((p.rules.length:Int)=(p.kinds.length:Int))=ab:=fJ aj;clear g1 g2 g3
  repeat' (first|simp(maxSteps:=9999999) (disch:=first|exact dZ|fail) only[gW,reduceIte,ao,al,pV,bN,dt,cK,eO,cT,aA,dL,jA,jc, *]|refine dX ?_ ?_<;>(intro _;try omega))
  refine eX (λm e h'=>∃(i:Nat),i<=p.rules.length/\m=p.rules.length - i/\e.get 1=.ptr (.box h.boxes.length) 0/\e.get 28=.list t.tr t.sr t.rr/\e.get 29=.v (.int .i64 (p.rules.length:Nat))/\e.get 30=.v (.int .i64 i)/\e.defers=[]/\Ext h h'/\cR h'=ab/\h'.boxes[h.boxes.length]?=aa (au p t)/\∀j x,j<i->p.rules[j]?=aa x->sI p.kinds j x=ab) ?_ p.rules.length _ _ ?_
  ·rintro m e h' ⟨i,hi,rfl,g1',g28,g29,g30,hd,hx,iF,hb,bV⟩;have kx:=ag.mk hx;have kno:=ag.mk bV;have kok':=ag.mk iF;clear hx bV iF d1 d2 uo;have n1':=(aF.1 hb).1;have yR:=kok.out.br;have du:=kfew.out.l;by_cases ay:i<p.rules.length
   ·obtain⟨y,tok,sz,rows,hy,hr,cX⟩:=eo.get kok.out.rules ay;have h8:=kok.out.zr i ay;have h1:=kok.out.zk i (by have:=kgood.out.2.1;omega);obtain⟨s,hs⟩:∃s,p.kinds[i]?=aa s:=⟨_,cv (by have:=kgood.out.2.1;omega)⟩;have dU:(i:Int)<(t.rr.length:Int):=(by rw[aP];omega);have ue:(i:Int)<(p.rules.length:Int):=(by omega);have fX:(i:Int)<((strs p.kinds).length:Int):=(by rw[dL];have:=kgood.out.2.1;omega);have rf8:=@wc y tok sz rows;have NW:∀h:ae,W.call 112 [.v (.int .i64 y.gz),.v (.int .i64 0),.v (.int .i64 1099511627775)] h=aa (.ret (.v (.bool (decide (0<=y.gz)&&decide (y.gz<=1099511627775)))),h):=rY y.gz 0 1099511627775;have nb:h.boxes.length≠h'.boxes.length:=(by omega);have kb:=ag.mk hb;have kxp:=ag.mk (kx.out.trans (.push _ (aS y tok sz rows)));have Ni:sI p.kinds i y=(decide (y.kind=s)&&(decide (0<=y.gz)&&decide (y.gz<=1099511627775))):=(by unfold sI;rw[hs];congr 1;rw[uT];simp only[decide_eq_true_eq,aY];exact eq_comm);have khd:=ag.mk Ni;clear Ni;have qt:sI p.kinds i y=ak->kj p=ak:=(by intro q;rw[ib];intro q2;have:=(sE.1 q2).2.2.2.1 i y hy;rw[q] at this;cases this);have kbad:=ag.mk qt;clear qt;cases e1:decide (y.kind=s) with
    |false=>
     have aN:=ag.mk (kbadF.out (kbad.out (by rw[khd.out,e1];rfl)))
     repeat' (first|simp(maxSteps:=9999999) (disch:=first|exact dZ|fail) only[gW,reduceIte,ao,al,pV,bN,dt,cK,eO,nG,oq,aV,dr,ck,ot,aJ,bH,eW,aA,jA,jc, *]|refine dX ?_ ?_<;>(intro _;try omega))
     refine wg (n:=13) rfl ai ai ai ?_;simp only[di,de,sh,fc]
     repeat' (first|simp(maxSteps:=9999999) (disch:=first|exact dZ|fail) only[gW,reduceIte,ao,al,pV,bN,dt,cK,eO,nG,oq,aV,dr,ck,ot,aJ,bH,eW,aA,jA,jc,vI,wC,wD, *]|refine dX ?_ ?_<;>(intro _;try omega))
     all_goals exact aN.out _ kxp.out
    |true=>
     cases e2:(decide (0<=y.gz)&&decide (y.gz<=1099511627775)) with
     |false=>
      rw[e2] at NW;have aN:=ag.mk (kbadF.out (kbad.out (by rw[khd.out,e2];simp)))
      repeat' (first|simp(maxSteps:=9999999) (disch:=first|exact dZ|fail) only[gW,reduceIte,ao,al,pV,bN,dt,cK,eO,nG,oq,aV,dr,ck,ot,aJ,bH,eW,aA,jA,jc, *]|refine dX ?_ ?_<;>(intro _;try omega))
      refine wg (n:=13) rfl ai ai ai ?_;simp only[di,de,sh,fc]
      repeat' (first|simp(maxSteps:=9999999) (disch:=first|exact dZ|fail) only[gW,reduceIte,ao,al,pV,bN,dt,cK,eO,nG,oq,aV,dr,ck,ot,aJ,bH,eW,aA,jA,jc,vI,wC,wD, *]|refine dX ?_ ?_<;>(intro _;try omega))
      all_goals exact aN.out _ kxp.out
     |true=>
      rw[e2] at NW;have khok:=ag.mk (show sI p.kinds i y=ab by rw[khd.out,e1,e2];rfl)
      repeat' (first|simp(maxSteps:=9999999) (disch:=first|exact dZ|fail) only[gW,reduceIte,ao,al,pV,bN,dt,cK,eO,nG,oq,aV,dr,ck,ot,aJ,bH,eW,aA,jA,jc, *]|refine dX ?_ ?_<;>(intro _;try omega))
      refine wg (n:=13) rfl ai ai ai ?_;simp only[di,de,sh,fc]
      repeat' (first|simp(maxSteps:=9999999) (disch:=first|exact dZ|fail) only[gW,reduceIte,ao,al,pV,bN,dt,cK,eO,nG,oq,aV,dr,ck,ot,aJ,bH,eW,aA,jA,jc,vI,wC,wD, *]|refine dX ?_ ?_<;>(intro _;try omega))
      refine⟨p.rules.length - (i+1),by omega,i+1,by omega,rfl,(by first|trivial|(simp;done)|(simp;omega)),(by first|trivial|(simp;done)|(simp;omega)),(by first|trivial|(simp;done)|(simp;omega)),(by first|trivial|(simp;done)|(simp;omega)),(by first|trivial|(simp;done)|(simp;omega)),kxp.out,kok'.out,bW kb.out,λj x hj hx=>?_⟩;rcases dp j i with w|w
      ·exact kno.out j x w hx
      ·have:j=i:=(by omega);subst this;rw[hy] at hx;injection hx with hx;subst hx;exact khok.out
   ·have cJ:i=p.rules.length:=(by omega);subst cJ;have dU:¬((p.rules.length:Int)<(p.rules.length:Int)):=(by omega);have Nj:∀j x,p.rules[j]?=aa x->sI p.kinds j x=ab:=λj x hx=>kno.out j x (aF.1 hx).1 hx;have kheads:=ag.mk Nj;obtain⟨cM,rowsE,h2,c2,dk,rC⟩:=Hh p t kok.out du h' kok'.out;have yX:=rC.1;have b1:=dk.box _ _ hb;have k2:=ag.mk (kx.out.trans dk);have krE:=ag.mk rC;have Yj:=Hi p;clear dk rC Nj
    repeat' (first|simp(maxSteps:=9999999) (disch:=first|exact dZ|fail) only[gW,reduceIte,ao,al,pV,bN,dt,cK,eO,cT,ae8,bH,eW,aA,aJ, *]|refine dX ?_ ?_<;>(intro _;try omega))
    refine eX (λm e h'=>∃(i:Nat),i<=(exprs p).length/\m=(exprs p).length - i/\e.get 4=.ptr (.box h2.boxes.length) 0/\e.get 52=.list cM 5 rowsE/\e.get 53=.v (.int .i64 ((p.rules.length+1:Nat)))/\e.get 54=.v (.int .i64 i)/\e.defers=[]/\Ext h h'/\h'.boxes[h2.boxes.length]?=aa [.list cM 5 rowsE]/\∀j y,j<i->(exprs p)[j]?=aa y->kh (decide (j<p.rules.length)) y=ab) ?_ (exprs p).length _ _ ?_
    ·rintro m e h' ⟨i,hi,rfl,q4,q52,q53,q54,hd,hx,hb,bV⟩;have kx:=ag.mk hx;have kno:=ag.mk bV;clear hx bV c2 b1;have n1':=(aF.1 hb).1;by_cases ay:i<(exprs p).length
     ·obtain⟨y,r,hy,hr,cX⟩:=krE.out.get ay;obtain⟨tk2,sz2,rows2,rfl,-⟩:=Row.iQ cX;have dU:(i:Int)<(rowsE.length:Int):=(by rw[yX];omega);have fX:(i:Int)<((p.rules.length+1:Nat):Int):=(by omega);have qC:5<=((ar y.kind y.n y.no y.name tk2 sz2 rows2).drop 0).length:=(by rw[fc];exact aK _);have uh:=B6 y _ cX 1;have kyr:=ag.mk cX;clear cX
      repeat' (first|simp(maxSteps:=9999999) (disch:=first|exact dZ|fail) only[gW,reduceIte,ao,al,pV,lI,qT,Ae,aV,dr,mS,aJ,bH,eW,aA,Aa, *]|refine dX ?_ ?_<;>(intro _;try omega))
      have yT:=Hl kfew.out (ie hy);have D4:=DF y;refine bU.gen λe2 q2 qd2 _ _=>?_;have p4:e2.get 4=.ptr (.box h2.boxes.length) 0:=(by rw[q2];simp only[gW,reduceIte,ao,al,q4]);have p5':e2.get 5=.ptr (.box h'.boxes.length) 0:=(by rw[q2];exact gS);have p52:e2.get 52=.list cM 5 rowsE:=(by rw[q2];simp only[gW,reduceIte,ao,al,q52]);have p53:e2.get 53=.v (.int .i64 ((p.rules.length+1:Nat))):=(by rw[q2];simp only[gW,reduceIte,ao,al,q53]);have p54:e2.get 54=.v (.int .i64 i):=(by rw[q2];simp only[gW,reduceIte,ao,al,q54]);have p60:e2.get 60=.func (.func 146) [] [.ptr (.box (h'.boxes.length+1+1)) 0,.ptr (.box (h'.boxes.length+1+1+1)) 0]:=(by rw[q2];exact gS);have pd:e2.defers=[]:=(by rw[qd2];simp only[gW,reduceIte,ao,al,hd]);clear q2 qd2 uh q4 q52 q53 q54 hd;generalize hS:(((h'.push [.v (.int .i64 (i:Int))]).push (ar y.kind y.n y.no y.name tk2 sz2 rows2)).push (ar y.kind y.n y.no y.name tk2 sz2 rows2)).push [.v (.int .i64 1)]=hs;have xs:Ext h' hs:=(by rw[<-hS];exact(((Ext.push _ _).trans (.push _ _)).trans (.push _ _)).trans (.push _ _));have f0:hs.boxes[h'.boxes.length]?=aa [.v (.int .i64 (i:Int))]:=(by rw[<-hS];simp(disch:=(first|assumption|omega|(exact(aA _ _).symm)|(simp only[df];omega)|(refine fF ?_ ?_<;>simp only[df]<;>omega)|fail)) only[gZ]);have f1:hs.boxes[h'.boxes.length+1]?=aa (ar y.kind y.n y.no y.name tk2 sz2 rows2):=(by rw[<-hS];simp(disch:=(first|assumption|omega|(exact(aA _ _).symm)|(simp only[df];omega)|(refine fF ?_ ?_<;>simp only[df]<;>omega)|fail)) only[gZ]);have f2:hs.boxes[h'.boxes.length+1+1]?=aa (ar y.kind y.n y.no y.name tk2 sz2 rows2):=(by rw[<-hS];simp(disch:=(first|assumption|omega|(exact(aA _ _).symm)|(simp only[df];omega)|(refine fF ?_ ?_<;>simp only[df]<;>omega)|fail)) only[gZ]);have f3:hs.boxes[h'.boxes.length+1+1+1]?=aa [.v (.int .i64 1)]:=(by rw[<-hS];simp(disch:=(first|assumption|omega|(exact(aA _ _).symm)|(simp only[df];omega)|(refine fF ?_ ?_<;>simp only[df]<;>omega)|fail)) only[gZ]);have kxs:=ag.mk xs;clear hS xs;have Iu:decide ((i:Int)<(p.rules.length:Int))=decide (i<p.rules.length):=(by rw[decide_eq_decide];omega);obtain⟨up,Iv⟩:∃up,up=decide (i<p.rules.length):=⟨_,rfl⟩;have kupd:=ag.mk Iv;rw[<-Iv] at Iu;clear Iv;refine E4 (J:=λ(_:Unit) hh=>hh.boxes[h2.boxes.length]?=aa [.list cM 5 rowsE]/\hh.boxes[h'.boxes.length]?=aa [.v (.int .i64 (i:Int))]/\h'.boxes.length+1<hh.boxes.length) (BW up) kyr.out (bn:=h'.boxes.length+1) (n0:=h.tn) () p60 f2 f3 aj aj aj aj (cY kx.out.tn kxs.out.tn) ⟨kxs.out.box _ _ hb,f0,(aF.1 f1).1⟩ (λa h1 h2 ⟨j1,j2,j3⟩ hb=>⟨hb _ _ j1,hb _ _ j2,(by obtain⟨c,hc⟩:∃c,h1.boxes[h'.boxes.length+1]?=aa c:=⟨_,cv j3⟩;exact(aF.1 (hb _ _ hc)).1)⟩) (λa h1 ⟨j1,j2,j3⟩=>j3) ?_ ?_
      ·rintro c hh z tk3 bQ rows3 dd rec w1 w2 ⟨j1,j2,j3⟩ hz k0 k1 k2;have t61:(mR hs.loops.length rec [.agg (dv z.kind z.n z.no z.name tk3 bQ rows3 dd)]).get 61=.agg (dv z.kind z.n z.no z.name tk3 bQ rows3 dd):=(by rw[qP w2 w1];rfl);have t4:(mR hs.loops.length rec [.agg (dv z.kind z.n z.no z.name tk3 bQ rows3 dd)]).get 4=.ptr (.box h2.boxes.length) 0:=(by rw[qP w2 w1];exact p4);have t5:(mR hs.loops.length rec [.agg (dv z.kind z.n z.no z.name tk3 bQ rows3 dd)]).get 5=.ptr (.box h'.boxes.length) 0:=(by rw[qP w2 w1];exact p5');have z77:=CX;clear w1 w2
       repeat' (first|simp(maxSteps:=9999999) (disch:=first|exact dZ|fail) only[gW,reduceIte,ao,al,FM,bH, *]|refine dX ?_ ?_<;>(intro _;try omega))
       refine⟨by first|trivial|rfl,rfl,Fr.push ..,λrb=>?_⟩;generalize mI:(hh.push (dv z.kind z.n z.no z.name tk3 bQ rows3 dd)).dY hs.loops.length rb=hB;have g1:hB.boxes[h2.boxes.length]?=aa [.list cM 5 rowsE]:=(by rw[<-mI];exact bW j1);have g2:hB.boxes[h'.boxes.length]?=aa [.v (.int .i64 (i:Int))]:=(by rw[<-mI];exact bW j2);have g3:hB.boxes[hh.boxes.length]?=aa (dv z.kind z.n z.no z.name tk3 bQ rows3 dd):=(by rw[<-mI];exact bX _ _);have n1:=(aF.1 g1).1;have n2:=(aF.1 g2).1;have n3:=(aF.1 g3).1;have Es:∀h:ae,W.call 112 [.v (.int .i64 z.kind),.v (.int .i64 1),.v (.int .i64 4)] h=aa (.ret (.v (.bool (decide (1<=z.kind)&&decide (z.kind<=4)))),h):=rY z.kind 1 4;have Zr:rows3.length=z.l.length:=(Row.yO hz).1.1;clear mI;have aN:=ag.mk (show Fr (h'.boxes.length+1) hs.loops.length h.tn hB (hB.push (ar z.kind z.n z.no z.name tk3 bQ rows3)) from Fr.push ..);have kfin0:=ag.mk (show Fr (h'.boxes.length+1) hs.loops.length h.tn hB hB from Fr.refl ..);have kg1:=ag.mk g1;have kg2:=ag.mk g2;have kj3:=ag.mk (aj:h'.boxes.length+1<hB.boxes.length+1);clear j3;unfold BW;cases e1:(decide (1<=z.kind)&&decide (z.kind<=4)) with
       |false=>
        rw[e1] at Es;have bV:iY z.kind z.n z.name z.l.length up=ak:=(by rw[ib];intro q;have:=WT q;simp only[Bool.and_eq_false_iff,decide_eq_false_iff_not] at e1;omega);rw[bV];clear bV;simp only[dP,if_false]
        repeat' (first|simp(maxSteps:=9999999) (disch:=first|exact dZ|fail) only[gW,reduceIte,ao,al,mP,lh,aJ, *]|refine dX ?_ ?_<;>(intro _;try omega))
        refine wg (n:=14) rfl ai ai ai ?_;simp only[di,de,sh,fc]
        repeat' (first|simp(maxSteps:=9999999) (disch:=first|exact dZ|fail) only[gW,reduceIte,ao,al,mP,lh,aJ,iP,jA,jc,vI,wC,wD, *]|refine dX ?_ ?_<;>(intro _;try omega))
        exact⟨kfin0.out,λ_ _ h=>h,rfl⟩
       |true=>
        rw[e1] at Es;have xu:z.kind=1∨z.kind=2∨z.kind=3∨z.kind=4:=(by simp only[aL,decide_eq_true_eq] at e1;omega);obtain⟨g,c1,c2,c3⟩:=ZR z tk3 bQ rows3 Zr xu;clear xu e1;rw[WU];cases e2:iY z.kind z.n z.name z.l.length ab with
        |false=>
         rw[e2] at c3;simp only[Bool.false_and,dP,if_false]
         repeat' (first|simp(maxSteps:=9999999) (disch:=first|exact dZ|fail) only[gW,reduceIte,ao,al,mP,lh,aJ, *]|refine dX ?_ ?_<;>(intro _;try omega))
         refine wg (n:=14) rfl ai ai ai ?_;simp only[di,de,sh,fc]
         repeat' (first|simp(maxSteps:=9999999) (disch:=first|exact dZ|fail) only[gW,reduceIte,ao,al,mP,lh,aJ,iP,jA,jc,vI,wC,wD, *]|refine dX ?_ ?_<;>(intro _;try omega))
         exact⟨aN.out,λ_ _ h=>h,rfl⟩
        |true=>
         rw[e2] at c3;simp only[qb];have hli:(rowsE.length:Int) - 1=(p.rules.length:Int):=(by rw[yX,Yj];omega);have agF:(((p.rules.length+1:Nat):Int)) - 1=(p.rules.length:Int):=(by omega);cases e3:up with
         |true=>
          rw[e3] at Iu;simp only[uV,if_true]
          repeat' (first|simp(maxSteps:=9999999) (disch:=first|exact dZ|fail) only[gW,reduceIte,ao,al,mP,lh,aJ, *]|refine dX ?_ ?_<;>(intro _;try omega))
          refine wg (n:=14) rfl ai ai ai ?_;simp only[di,de,sh,fc]
          repeat' (first|simp(maxSteps:=9999999) (disch:=first|exact dZ|fail) only[gW,reduceIte,ao,al,mP,lh,aJ,iP,jA,jc,vI,wC,wD, *]|refine dX ?_ ?_<;>(intro _;try omega))
          exact⟨aN.out,λ_ _ h=>h,rfl,bW kg1.out,bW kg2.out,by rw[aA];exact kj3.out⟩
         |false=>
          rw[e3] at Iu;simp only[Bool.false_or];cases e4:decide (z.kind=4) with
          |true=>
           simp only[Bool.not_true,dP,if_false]
           repeat' (first|simp(maxSteps:=9999999) (disch:=first|exact dZ|fail) only[gW,reduceIte,ao,al,mP,lh,aJ, *]|refine dX ?_ ?_<;>(intro _;try omega))
           refine wg (n:=14) rfl ai ai ai ?_;simp only[di,de,sh,fc]
           repeat' (first|simp(maxSteps:=9999999) (disch:=first|exact dZ|fail) only[gW,reduceIte,ao,al,mP,lh,aJ,iP,jA,jc,vI,wC,wD, *]|refine dX ?_ ?_<;>(intro _;try omega))
           exact⟨aN.out,λ_ _ h=>h,rfl⟩
          |false=>
           simp only[Bool.not_false,if_true]
           repeat' (first|simp(maxSteps:=9999999) (disch:=first|exact dZ|fail) only[gW,reduceIte,ao,al,mP,lh,aJ, *]|refine dX ?_ ?_<;>(intro _;try omega))
           refine wg (n:=14) rfl ai ai ai ?_;simp only[di,de,sh,fc]
           repeat' (first|simp(maxSteps:=9999999) (disch:=first|exact dZ|fail) only[gW,reduceIte,ao,al,mP,lh,aJ,iP,jA,jc,vI,wC,wD, *]|refine dX ?_ ?_<;>(intro _;try omega))
           exact⟨aN.out,λ_ _ h=>h,rfl,bW kg1.out,bW kg2.out,by rw[aA];exact kj3.out⟩
      ·rw[Wy];cases oJ:kh up y with
       |false=>
        simp only[dP,if_false];intro h3 hK;have mO:kj p=ak:=(by rw[ib];intro q;have:=(sE.1 q).2.2.2.2 i y hy;rw[<-kupd.out,oJ] at this;cases this);have aN:=ag.mk (kbadF.out mO _ (Ext.fr (kx.out.trans kxs.out) hK (by have:=k2.out.len;have:=kx.out.len;omega) ((kx.out.trans kxs.out).qH) (aK _)));clear mO
        repeat' (first|simp(maxSteps:=9999999) (disch:=first|exact dZ|fail) only[gW,reduceIte,ao,al,pV, *]|refine dX ?_ ?_<;>(intro _;try omega))
        exact aN.out
       |true=>
        simp only[if_true];intro h3 hK _;have x3:=ag.mk (Ext.fr (kx.out.trans kxs.out) hK (by have:=k2.out.len;have:=kx.out.len;omega) ((kx.out.trans kxs.out).qH) (aK _));have gO:=hK.box h2.boxes.length _ aj (kxs.out.box _ _ hb);have klg:=ag.mk oJ;clear hK oJ
        repeat' (first|simp(maxSteps:=9999999) (disch:=first|exact dZ|fail) only[gW,reduceIte,ao,al,pV, *]|refine dX ?_ ?_<;>(intro _;try omega))
        refine⟨p.rules.length+1 - (i+1),by omega,i+1,by omega,rfl,(by first|trivial|(simp;done)|(simp;omega)),(by first|trivial|(simp;done)|(simp;omega)),(by first|trivial|(simp;done)|(simp;omega)),(by first|trivial|(simp;done)|(simp;omega)),(by first|trivial|(simp;done)|(simp;omega)),x3.out,(by first|exact gO|trivial),λj x hj hx=>?_⟩;rcases dp j i with w|w
        ·exact kno.out j x w hx
        ·have:j=i:=(by omega);subst this;rw[hy] at hx;injection hx with hx;subst hx;rw[<-kupd.out];exact klg.out
     ·have cJ:i=(exprs p).length:=(by omega);subst cJ;have fX:¬(((exprs p).length:Int)<((p.rules.length+1:Nat):Int)):=by omega
      repeat' (first|simp(maxSteps:=9999999) (disch:=first|exact dZ|fail) only[gW,reduceIte,ao,al,pV, *]|refine dX ?_ ?_<;>(intro _;try omega))
      refine⟨_,_,rfl,?_,kx.out⟩;rw[aB (sE.2 ⟨kgood.out.1,kgood.out.2.1,kgood.out.2.2,kheads.out,λj y hy=>kno.out j y (aF.1 hy).1 hy⟩)]
    ·refine⟨0,cz _,rfl,?_,?_,?_,?_,?_,k2.out.trans (.push _ _),bX _ _,λj y hj=>absurd hj (ik j)⟩<;>(try simp only[gW,reduceIte,ao,al,hd])<;>rfl
  ·refine⟨0,cz _,rfl,?_,?_,?_,?_,?_,kx0.out,kokh.out,bX _ _,λj x hj=>absurd hj (ik j)⟩<;>exact gR
 ·have kbad:=ag.mk eP;clear eP;have mO:kj p=ak:=by rw[ib];intro q;have:=sE.1 q;exact kbad.out ⟨this.1,this.2.1,this.2.2.1⟩
  have aN:=ag.mk (kbadF.out mO);clear mO;cases e1:decide ((0:Int)<(p.kinds.length:Int))<;>cases e2:decide ((p.rules.length:Int)=(p.kinds.length:Int))<;>cases e3:(decide (1<=p.mode)&&decide (p.mode<=4))
  all_goals
   first
   |(exfalso;have e1':=of_decide_eq_true e1;have e2':=of_decide_eq_true e2;exact kbad.out ⟨aj,by omega,e3⟩)
   |(rw[e3] at uo
     repeat' (first|simp(maxSteps:=9999999) (disch:=first|exact dZ|fail) only[gW,reduceIte,ao,al,pV,bN,dt,cK,eO,cT,aA,dL,jA,jc, *]|refine dX ?_ ?_<;>(intro _;try omega))
     all_goals exact aN.out _ kx0.out)
def PB:Tryz.f114.results.toList=[]:=ai
def JI:Tryz.f111.results.toList=[.cell 4 4]:=ai
def To(x:List AV):nr aq (.iface 147 (.agg x)) 147 ab=aa (.tuple [.agg x,.v (.bool ab)]):=ai
def ago:(fa aq 147).bind AV.cF=aa [.v (.int .i64 0)]:=ai
def Rf:(fa aq 31).bind AV.cF=aa [.v (.int .i64 0)]:=ai
def zc4:(fa aq 4).bind AV.cF=aa [.v (.bool ak)]:=ai
def iI:cU aq 4=aa 1:=ai
def aft:cU aq 147=aa 1:=ai
def We(r:Ref)(off:Nat):cN aq 147 (.ptr r off) 0=aa (.ptr r (off+0)):=ai
section
variable {h:ae} {b:Nat} {n n':Int} {x:AV}
def FN(hb:h.boxes[b]?=aa [x]):dh aq h 31 (.ptr (.box b) 0) (.v (.int .i64 n'))=aa (h.put b [.v (.int .i64 n')]):=dK (off:=0) (cs:=[x]) (xs:=[.v (.int .i64 n')]) rfl Kl hb rfl (aK 1)
def CG{t:Bool}(hb:h.boxes[b]?=aa [x]):dh aq h 4 (.ptr (.box b) 0) (.v (.bool t))=aa (h.put b [.v (.bool t)]):=dK (off:=0) (cs:=[x]) (xs:=[.v (.bool t)]) rfl iI hb rfl (aK 1)
def ae7(hb:h.boxes[b]?=aa [x]):dh aq h 147 (.ptr (.box b) 0) (.agg [.v (.int .i64 n')])=aa (h.put b [.v (.int .i64 n')]):=dK (off:=0) (cs:=[x]) (xs:=[.v (.int .i64 n')]) rfl aft hb rfl (aK 1)
end
def US(b:Nat)(h:ae):W.fS 114 [.ptr (.box b) 0] none h=aa (.ret (.tuple []),none,h):=by
 have u20:=Az;refine yH SG rfl ?_
 repeat' (first|simp(maxSteps:=9999999) (disch:=first|exact dZ|fail) only[gW,reduceIte,ao,al,PB,yD,and_self, *]|refine dX ?_ ?_<;>(intro _;try omega))
def LZ(b:Nat)(h:ae)(e:Int){x:AV}(hb:h.boxes[b]?=aa [x]):W.fS 114 [.ptr (.box b) 0] (aa (gU e,ak)) h=aa (.ret (.tuple []),aa (gU e,ab),(h.push [.v (.int .i64 e)]).put b [.v (.int .i64 e)]):=by
 have u20:=Az;have i20:=N7;have a31:=Dk;have z69:=ago;have nb:=(aF.1 hb).1;unfold gU;refine yH SG rfl ?_
 repeat' (first|simp(maxSteps:=9999999) (disch:=first|exact dZ|fail) only[gW,reduceIte,ao,al,PB,wX,To,ae7,FN,We,aJ,bH,and_self, *]|refine dX ?_ ?_<;>(intro _;try omega))
def uO(o:List (List UInt8))(z:Ex):Int:=if z.kind=1∨z.kind=2 then idx o z.name else 0
def xR(o:List (List UInt8))(_:Unit)(z:Ex)(_:Int):Nx Unit:=if z.no=uO o z then .cont () else .stop ()
mutual
def pJ(o:List (List UInt8)):Ex->Bool
 | .mk k n no s l=>decide (no=uO o (.mk k n no s l))&&vH o l
def vH(o:List (List UInt8)):List Ex->Bool
 | []=>ab
 |x::r=>pJ o x&&vH o r
end
def WA(o:List (List UInt8)):∀(x:Ex) (d:Int),feed (xR o) x d ()=if pJ o x=ab then .cont () else .stop ():=by
 intro x
 induction x using Ex.ind with
 |h k n no name l ih=>
  intro d;have key:∀r:List Ex,(∀y∈r,y∈l)->ke (xR o) r (d+1) ()=if vH o r=ab then .cont () else .stop ():=by
   intro r
   induction r with
   |nil=>intro _;rw[ke,vH];rfl|cons y r ihr=>
    intro cQ;rw[ke,ih y (cQ y dQ),vH];cases pJ o y with|true=>simp only[if_true,qb];exact ihr λz hz=>cQ z (dG _ hz)|false=>simp
  have hn:xR o () (.mk k n no name l) d=if no=uO o (.mk k n no name l) then .cont () else .stop ():=rfl
  rw[feed,hn,pJ];by_cases q:no=uO o (.mk k n no name l)
  ·rw[aB q,fJ q];simp only[qb];exact key l λ_ h=>h
  ·rw[ax q,mH q];simp
def Ev(o:List (List UInt8)):∀x:Ex,pJ o x=ab↔fL o x=x:=by
 intro x
 induction x using Ex.ind with
 |h k n no name l ih=>
  rw[pJ,fL,aL,decide_eq_true_eq];have key:∀r:List Ex,(∀y∈r,y∈l)->(vH o r=ab↔mB o r=r):=by
   intro r
   induction r with
   |nil=>intro _;rw[vH,mB];simp|cons y r ihr=>intro cQ;rw[vH,mB,aL,ih y (cQ y dQ),ihr λz hz=>cQ z (dG _ hz),List.cons.injEq]
  rw[key l λ_ h=>h];simp only[uO,Ex.kind,Ex.name,Ex.mk.injEq,true_and];exact⟨λq=>⟨q.1.symm,q.2⟩,λq=>⟨q.1.symm,q.2⟩⟩
def PF(tk:Tok)(so:Nat)(o:List (List UInt8))(hz:∀i:Nat,i<o.length->so=1)(hl:o.length<=9223372036854775807)(x:Ex)(row:List AV)(et:Row x row)(D3:cZ x<=1000)(h:ae):gY W 111 [.list tk so (strs o),.agg row] h (.ret (.v (.bool (pJ o x)))):=by
 obtain⟨tok,sz,rows,rfl,-⟩:=Row.iQ et;have a3:=dE;have a9:=dR;have a4:=S4;have a22:=oA;have a26:=eG;have z4:=zc4;have uh:=B6 x _ et 1;have kro:=ag.mk et;have vz:∀s h,W.call 122 [.list tk so (strs o),.v (.string (bs s))] h=aa (.ret (.v (.int .i64 (idx o s))),h):=λs h=>IF tk so o s hz hl h;have D4:=DF x;have khz:=ag.mk hz;clear et hz;refine eI rfl Tryz.func111 rfl ?_
 repeat' (first|simp(maxSteps:=9999999) (disch:=first|exact dZ|fail) only[gW,reduceIte,ao,al,JI,lP,aaf,lI,aA,mS, *]|refine dX ?_ ?_<;>(intro _;try omega))
 refine bU.gen λe2 q2 qd2 _ _=>?_;have p2:e2.get 2=.ptr (.box h.boxes.length) 0:=by rw[q2];exact gS
 have p4:e2.get 4=.ptr (.box (h.boxes.length+1+1)) 0:=by rw[q2];exact gS
 have p8:e2.get 8=.func (.func 146) [] [.ptr (.box (h.boxes.length+1+1+1)) 0,.ptr (.box (h.boxes.length+1+1+1+1)) 0]:=by rw[q2];exact gS
 have pd:e2.defers=[]:=by rw[qd2];exact gS
 clear q2 qd2 uh;generalize hS:((((h.push [.list tk so (strs o)]).push (ar x.kind x.n x.no x.name tok sz rows)).push [.v (.bool ak)]).push (ar x.kind x.n x.no x.name tok sz rows)).push [.v (.int .i64 1)]=hs;have xs:Ext h hs:=by rw[<-hS];exact((((Ext.push _ _).trans (.push _ _)).trans (.push _ _)).trans (.push _ _)).trans (.push _ _)
 have f1:hs.boxes[h.boxes.length]?=aa [.list tk so (strs o)]:=by rw[<-hS];simp(disch:=(first|assumption|omega|(exact(aA _ _).symm)|(simp only[df];omega)|(refine fF ?_ ?_<;>simp only[df]<;>omega)|fail)) only[gZ]
 have f2:hs.boxes[h.boxes.length+1+1]?=aa [.v (.bool ak)]:=by rw[<-hS];simp(disch:=(first|assumption|omega|(exact(aA _ _).symm)|(simp only[df];omega)|(refine fF ?_ ?_<;>simp only[df]<;>omega)|fail)) only[gZ]
 have f3:hs.boxes[h.boxes.length+1+1+1]?=aa (ar x.kind x.n x.no x.name tok sz rows):=by rw[<-hS];simp(disch:=(first|assumption|omega|(exact(aA _ _).symm)|(simp only[df];omega)|(refine fF ?_ ?_<;>simp only[df]<;>omega)|fail)) only[gZ]
 have f4:hs.boxes[h.boxes.length+1+1+1+1]?=aa [.v (.int .i64 1)]:=by rw[<-hS];simp(disch:=(first|assumption|omega|(exact(aA _ _).symm)|(simp only[df];omega)|(refine fF ?_ ?_<;>simp only[df]<;>omega)|fail)) only[gZ]
 have kxs:=ag.mk xs;clear hS xs;refine E4 (J:=λ(_:Unit) hh=>hh.boxes[h.boxes.length]?=aa [.list tk so (strs o)]/\hh.boxes[h.boxes.length+1+1]?=aa [.v (.bool ak)]) (xR o) kro.out (bn:=h.boxes.length+1+1) (n0:=h.tn) () p8 f3 f4 aj aj aj aj kxs.out.tn ⟨f1,f2⟩ (λa h1 h2 ⟨j1,j2⟩ hb=>⟨hb _ _ j1,hb _ _ j2⟩) (λa h1 ⟨j1,j2⟩=>(aF.1 j2).1) ?_ ?_
 ·rintro c hh z tk3 bQ rows3 dd rec w1 w2 ⟨j1,j2⟩ hz k0 k1 k2;have t9:(mR hs.loops.length rec [.agg (dv z.kind z.n z.no z.name tk3 bQ rows3 dd)]).get 9=.agg (dv z.kind z.n z.no z.name tk3 bQ rows3 dd):=by rw[qP w2 w1];rfl
  have t2:(mR hs.loops.length rec [.agg (dv z.kind z.n z.no z.name tk3 bQ rows3 dd)]).get 2=.ptr (.box h.boxes.length) 0:=by rw[qP w2 w1];exact p2
  have t4:(mR hs.loops.length rec [.agg (dv z.kind z.n z.no z.name tk3 bQ rows3 dd)]).get 4=.ptr (.box (h.boxes.length+1+1)) 0:=by rw[qP w2 w1];exact p4
  have z77:=CX;clear w1 w2
  repeat' (first|simp(maxSteps:=9999999) (disch:=first|exact dZ|fail) only[gW,reduceIte,ao,al,FM,bH, *]|refine dX ?_ ?_<;>(intro _;try omega))
  refine⟨by first|trivial|rfl,rfl,Fr.push ..,λrb=>?_⟩;generalize mI:(hh.push (dv z.kind z.n z.no z.name tk3 bQ rows3 dd)).dY hs.loops.length rb=hB;have g1:hB.boxes[h.boxes.length]?=aa [.list tk so (strs o)]:=by rw[<-mI];exact bW j1
  have g2:hB.boxes[h.boxes.length+1+1]?=aa [.v (.bool ak)]:=by rw[<-mI];exact bW j2
  have g3:hB.boxes[hh.boxes.length]?=aa (dv z.kind z.n z.no z.name tk3 bQ rows3 dd):=by rw[<-mI];exact bX _ _
  have n1:=(aF.1 g1).1;have n2:=(aF.1 g2).1;have n3:=(aF.1 g3).1;have vC:∀h:ae,W.call 120 [.agg (ar z.kind z.n z.no z.name tk3 bQ rows3)] h=aa (.ret (.v (.bool (decide (z.kind=1)||decide (z.kind=2)))),h.push (ar z.kind z.n z.no z.name tk3 bQ rows3)):=IH z _ hz;clear mI;have fin:Fr (h.boxes.length+1+1) hs.loops.length h.tn hB (hB.push (ar z.kind z.n z.no z.name tk3 bQ rows3)):=Fr.push ..;have aN:=ag.mk fin;have kg1:=ag.mk g1;have kg2:=ag.mk g2;have kn2:=ag.mk (show h.boxes.length+1+1<hB.boxes.length from n2);clear fin;have done:∀(hq:Nx Unit),xR o c z dd=hq->Gc (h.boxes.length+1+1) hs.loops.length h.tn (λ(_:Unit) hh=>hh.boxes[h.boxes.length]?=aa [.list tk so (strs o)]/\hh.boxes[h.boxes.length+1+1]?=aa [.v (.bool ak)]) hB .normal (hB.push (ar z.kind z.n z.no z.name tk3 bQ rows3)) (.cont ()):=λ_ _=>⟨aN.out,λ_ _ h=>h,rfl,bW kg1.out,bW kg2.out⟩;have fail:Gc (h.boxes.length+1+1) hs.loops.length h.tn (λ(_:Unit) hh=>hh.boxes[h.boxes.length]?=aa [.list tk so (strs o)]/\hh.boxes[h.boxes.length+1+1]?=aa [.v (.bool ak)]) hB .ret ((hB.put (h.boxes.length+1+1) [.v (.bool ak)]).push (ar z.kind z.n z.no z.name tk3 bQ rows3)) (.stop ()):=
   ⟨(Fr.put ..).trans (Fr.push ..),λ_ _ h=>h,rfl,bW (by rw[jX aj];exact kg1.out),bW (mz kn2.out)⟩
  have kdone:=ag.mk (done (xR o c z dd) rfl);have kfail:=ag.mk fail;clear done fail;unfold xR;cases b1:(decide (z.kind=1)||decide (z.kind=2)) with
  |false=>
   rw[b1] at vC;have hw:uO o z=0:=(by unfold uO;rw[ax];simpa using b1);rw[hw];cases b2:decide (z.no=0) with
   |true=>
    rw[aB (of_decide_eq_true b2)]
    repeat' (first|simp(maxSteps:=9999999) (disch:=first|exact dZ|fail) only[gW,reduceIte,ao,al,mP,lh,aJ,pq,gr,aA,CG,eW, *]|refine dX ?_ ?_<;>(intro _;try omega))
    exact kdone.out
   |false=>
    rw[ax (of_decide_eq_false b2)]
    repeat' (first|simp(maxSteps:=9999999) (disch:=first|exact dZ|fail) only[gW,reduceIte,ao,al,mP,lh,aJ,pq,gr,aA,CG,eW, *]|refine dX ?_ ?_<;>(intro _;try omega))
    exact kfail.out
  |true=>
   rw[b1] at vC;have hw:uO o z=idx o z.name:=(by unfold uO;rw[aB];simpa using b1);rw[hw];cases b2:decide (z.no=idx o z.name) with
   |true=>
    rw[aB (of_decide_eq_true b2)]
    repeat' (first|simp(maxSteps:=9999999) (disch:=first|exact dZ|fail) only[gW,reduceIte,ao,al,mP,lh,aJ,pq,gr,aA,CG,eW, *]|refine dX ?_ ?_<;>(intro _;try omega))
    exact kdone.out
   |false=>
    rw[ax (of_decide_eq_false b2)]
    repeat' (first|simp(maxSteps:=9999999) (disch:=first|exact dZ|fail) only[gW,reduceIte,ao,al,mP,lh,aJ,pq,gr,aA,CG,eW, *]|refine dX ?_ ?_<;>(intro _;try omega))
    exact kfail.out
 ·rw[WA];cases oJ:pJ o x with
  |false=>
   simp only[dP,if_false];intro h3 hK ⟨_,hj⟩;have x3:=ag.mk (Ext.fr kxs.out hK aj kxs.out.qH (aK _));clear hK
   repeat' (first|simp(maxSteps:=9999999) (disch:=first|exact dZ|fail) only[gW,reduceIte,ao,al,JI,aJ, *]|refine dX ?_ ?_<;>(intro _;try omega))
   exact⟨_,rfl,x3.out⟩
  |true=>
   simp only[if_true];intro h3 hK ⟨_,hj⟩;have x3:=ag.mk (Ext.fr kxs.out hK aj kxs.out.qH (aK _));have n3:=(aF.1 hj).1;clear hK
   repeat' (first|simp(maxSteps:=9999999) (disch:=first|exact dZ|fail) only[gW,reduceIte,ao,al,JI,aJ,CG, *]|refine dX ?_ ?_<;>(intro _;try omega))
   exact⟨_,rfl,x3.out.dm (b:=h.boxes.length+1+1) aj _⟩
def Cg:Tryz.f66.results.toList=[]:=ai
def JH:Tryz.f65.results.toList=[.cell 2 31]:=ai
def Cc:Tryz.f25.results.toList=[.cell 2 28,.tmp 3]:=ai
noncomputable def gp(p:Po):Int:=(hY p).2
def tQ(p:Po):gp p=if lR p=ak then 2 else if jU p=ak then 201 else if kj p=ak then 200 else 0:=by unfold gp hY;cases lR p<;>cases jU p<;>cases kj p<;>rfl
def He(e:Int):bw:=if e=0 then .ret (.tuple []) else .panic (gU e)
def acC(p:Po)(t:PT)(ok:ek p t)(cI:lA p)(h:ae)(aU:cR h=ab)(b:Nat)(hb:h.boxes[b]?=aa (au p t)):∃h',W.call 66 [.ptr (.box b) 0] h=aa (He (gp p),h')/\Ext h h':=by
 obtain⟨h2,c2,x2⟩:=aeu p t ok cI h aU;obtain⟨h3,c3,x3⟩:=aaY p t ok cI h2 (x2.ok aU);obtain⟨h4,c4,x4⟩:=WV p t ok cI h3 (x3.ok (x2.ok aU));have b2:=x2.box _ _ hb;have b3:=x3.box _ _ b2;have k2:=ag.mk x2;have k3:=ag.mk (x2.trans x3);have k4:=ag.mk ((x2.trans x3).trans x4);have hc:=tQ p
 suffices hs:∃r h',W.call 66 [.ptr (.box b) 0] h=aa (r,h')/\(r=He (gp p)/\Ext h h') by obtain⟨r,h',q1,rfl,q3⟩:=hs;exact⟨h',q1,q3⟩
 clear x2 x3 x4 cI aU ok;refine bO rfl Tryz.func66 rfl ?_;rw[hc];clear hc;cases e1:lR p with
 |false=>
  rw[e1] at c2;simp only[dP,if_false] at c2
  repeat' (first|simp(maxSteps:=9999999) (disch:=first|exact dZ|fail) only[gW,reduceIte,ao,al,Cg,cT, *]|refine dX ?_ ?_<;>(intro _;try omega))
  exact⟨_,_,rfl,rfl,k2.out⟩
 |true=>
  rw[e1] at c2;cases e2:jU p with
  |false=>
   rw[e2] at c3;simp only[dP,if_false,if_true] at c2 c3
   repeat' (first|simp(maxSteps:=9999999) (disch:=first|exact dZ|fail) only[gW,reduceIte,ao,al,Cg,cT, *]|refine dX ?_ ?_<;>(intro _;try omega))
   exact⟨_,_,rfl,rfl,k3.out⟩
  |true=>
   rw[e2] at c3;cases e3:kj p with
   |false=>
    rw[e3] at c4;simp only[dP,if_false,if_true] at c2 c3 c4
    repeat' (first|simp(maxSteps:=9999999) (disch:=first|exact dZ|fail) only[gW,reduceIte,ao,al,Cg,cT, *]|refine dX ?_ ?_<;>(intro _;try omega))
    exact⟨_,_,rfl,rfl,k4.out⟩
   |true=>
    rw[e3] at c4;simp only[if_true] at c2 c3 c4
    repeat' (first|simp(maxSteps:=9999999) (disch:=first|exact dZ|fail) only[gW,reduceIte,ao,al,Cg,cT, *]|refine dX ?_ ?_<;>(intro _;try omega))
    exact⟨_,_,rfl,rfl,k4.out⟩
def TB(p:Po)(t:PT)(ok:ek p t)(cI:lA p)(h:ae)(aU:cR h=ab)(b:Nat)(hb:h.boxes[b]?=aa (au p t)):gY W 65 [.func (.func 66) [] [.ptr (.box b) 0]] h (.ret (.v (.int .i64 (gp p)))):=by
 obtain⟨h2,c2,x2⟩:=acC p t ok cI (h.push [.v (.int .i64 0)]) aU b (bW hb);have f1:=x2.box _ _ (bX h [.v (.int .i64 0)]);have a31:=Dk;have z31:=Rf;have n1:=(aF.1 f1).1;have k2:=ag.mk ((Ext.push h _).trans x2);have pC:=US h.boxes.length (h2.put h.boxes.length [.v (.int .i64 0)]);have qu:=LZ h.boxes.length h2 (gp p) f1;clear x2 cI aU ok;refine eI rfl Tryz.func65 rfl ?_;unfold He at c2;by_cases h0:gp p=0
 ·rw[aB h0] at c2;rw[h0];clear qu h0
  repeat' (first|simp(maxSteps:=9999999) (disch:=first|exact dZ|fail) only[gW,reduceIte,ao,al,JH,FN,aJ, *]|refine dX ?_ ?_<;>(intro _;try omega))
  exact⟨_,rfl,k2.out.dm (aK _) _⟩
 ·rw[ax h0] at c2;clear pC
  repeat' (first|simp(maxSteps:=9999999) (disch:=first|exact dZ|fail) only[gW,reduceIte,ao,al,JH,FN,aJ, *]|refine dX ?_ ?_<;>(intro _;try omega))
  exact⟨_,rfl,(k2.out.trans (.push _ _)).dm (aK _) _⟩
def Cj(p:Po)(t:PT)(ok:ek p t)(cI:lA p)(h:ae)(aU:cR h=ab):RF W 25 [.agg (au p t)] h (hY p).1 (hY p).2:=by
 have u23:=lB;have a3:=dE;have a9:=dR;have a22:=oA;have a23:=nq;have a24:=jm;have a26:=eG;have a28:=iE;have a43:=pb;have s26:=ec;have s28:=gV;have s43:=mU;have s3:=bQ;have z28:=qX;have z43:=Am;have aP:=ok.rules.1;have kok:=ag.mk ok;have kfew:=ag.mk cI;have kx0:=ag.mk ((Ext.push h (au p t)).trans (.push _ (au zP zT)));have kokh:=ag.mk aU
 suffices hs:∃r h',W.call 25 [.agg (au p t)] h=aa (r,h')/\(∃q e t',(q,e)=hY p/\r=.ret (.tuple [.agg (au q t'),.v (.int .i64 e)])/\Ext h h'/\ek q t') by obtain⟨r,h',q1,q,e,t',q2,rfl,q3,q4⟩:=hs;rw[<-q2];exact⟨t',h',q1,q3,q4⟩
 obtain⟨h4,c4,eV⟩:=TB p t ok cI ((h.push (au p t)).push (au zP zT)) aU h.boxes.length (bW (bX h _));have b5:=eV.box h.boxes.length (au p t) (bW (bX h _));have b6:=eV.box (h.boxes.length+1) (au zP zT) (by have:=bX (h.push (au p t)) (au zP zT);rw[aA] at this;exact this);have k4:=ag.mk (kx0.out.trans eV);have ln5:=(aF.1 b5).1;have ln6:=(aF.1 b6).1;have qw:gp p=(hY p).2:=rfl;have kcode:=ag.mk qw;clear eV cI aU qw;refine bO rfl Tryz.func25 rfl ?_;cases h0:decide (gp p=0) with
 |false=>
  have hz:(hY p).1=zP:=by
   have h0:=of_decide_eq_false h0;rw[kcode.out] at h0;unfold hY at h0 ⊢;split
   ·rfl
   ·split
    ·rfl
    ·split
     ·rfl
     ·rename_i q1 q2 q3;rw[ax q1,ax q2,ax q3] at h0;exact absurd rfl h0
  have kz:=ag.mk hz;clear hz
  repeat' (first|simp(maxSteps:=9999999) (disch:=first|exact dZ|fail) only[gW,reduceIte,ao,al,Cc,bN,dt,cK,eO,cT,oo,uN,aA, *]|refine dX ?_ ?_<;>(intro _;try omega))
  exact⟨_,_,rfl,zP,gp p,zT,(by rw[<-kz.out];rfl),rfl,k4.out.dm (b:=h.boxes.length+1) aj _,wI⟩
 |true=>
  have qG:hY p=(iz p,0):=by
   have h0:=of_decide_eq_true h0;rw[kcode.out] at h0;unfold hY at h0 ⊢;split
   ·rename_i q1;rw[aB q1] at h0;cases h0
   ·rename_i q1;split
    ·rename_i q2;rw[ax q1,aB q2] at h0;cases h0
    ·rename_i q2;split
     ·rename_i q3;rw[ax q1,ax q2,aB q3] at h0;cases h0
     ·rfl
  have kres:=ag.mk qG;have HC:gp p=0:=of_decide_eq_true h0;rw[HC] at c4;clear qG HC h0
  repeat' (first|simp(maxSteps:=9999999) (disch:=first|exact dZ|fail) only[gW,reduceIte,ao,al,Cc,bN,dt,cK,eO,cT,oo,uN,aA,dA, *]|refine dX ?_ ?_<;>(intro _;try omega))
  refine eX (λm e h'=>∃(i:Nat) (bP:Tok) (szR:Nat) (rowsR:List (List AV)),i<=p.rules.length/\m=p.rules.length - i/\e.get 1=.ptr (.box h.boxes.length) 0/\e.get 2=.ptr (.box (h.boxes.length+1)) 0/\e.get 15=.list t.tr t.sr t.rr/\e.get 16=.v (.int .i64 (p.rules.length:Nat))/\e.get 17=.v (.int .i64 i)/\e.defers=[]/\
   h'.boxes[h.boxes.length]?=aa (au p t)/\h'.boxes[h.boxes.length+1]?=aa (au p {t with tr:=bP,sr:=szR,rr:=rowsR})/\eo (jf p.aO (p.rules.take i)) rowsR/\dx h.tn h' bP/\(szR=8∨(rowsR=[]/\bP=.nil))/\Ext h h'/\cR h'=ab) ?_ p.rules.length _ _ ?_
  ·rintro m e h' ⟨i,bP,szR,rowsR,hi,rfl,g1,g2,g15,g16,g17,hd,gf,gO,da,fi,nA,hx,iF⟩;have gh:=da.1;have khrr:=ag.mk da;have kx:=ag.mk hx;have kca:=ag.mk fi;have ksr:=ag.mk nA;have kok':=ag.mk iF;clear da hx fi nA iF c4 b5 b6;have n3:=(aF.1 gO).1;have n1:=(aF.1 gf).1;by_cases ay:i<p.rules.length
   ·obtain⟨y,tk2,sz2,rows2,hy,hr,cX⟩:=eo.get kok.out.rules ay;have h8:=kok.out.zr i ay;have dU:(i:Int)<(t.rr.length:Int):=(by rw[aP];omega);have fX:(i:Int)<(p.rules.length:Int):=(by omega);have rf8:=@wc y tk2 sz2 rows2;have yR:=kok.out.br;have du:=kfew.out.l;obtain⟨tok4,iI,rows4,h5,c5,jy,rB⟩:=PE t.to t.so p.aO kok.out.zo kok.out.bo y.expr tk2 sz2 rows2 cX (kfew.out.r y (ie hy)) (h'.push (aS y tk2 sz2 rows2)) kok'.out;have e1:=jy.box _ _ (bW gf);have e3:=jy.box _ _ (bW gO);have e4:=jy.box _ _ (bX h' (aS y tk2 sz2 rows2));have kx5:=ag.mk ((Ext.push h' (aS y tk2 sz2 rows2)).trans jy);have khr5:=ag.mk rB;have kca5:=ag.mk (kca.out.ext kx5.out);have sO:rowsR.length<=70000:=(by rw[gh];simp[jf];omega);have oI:∀(q:List AV) (cs:List AV),iM aq (h5.put h'.boxes.length cs) #[23,23] (.list bP szR rowsR) (.list .tight 8 [q])=aa (.list (.free h5.tn) 8 (rowsR++[q]),(h5.put h'.boxes.length cs).app bP):=λq cs=>Ly (h:=h5.put h'.boxes.length cs) (kca5.out.mono (cz _)) ksr.out sO;have le4:=(aF.1 e4).1;have le3:=(aF.1 e3).1;clear jy rB
    repeat' (first|simp(maxSteps:=9999999) (disch:=first|exact dZ|fail) only[gW,reduceIte,ao,al,Cc,bN,dt,cK,eO,cT,oo,uN,nG,pR,oq,Kc,Kd,aV,dr,yG,aA,bH,eW,dA,r5, *]|refine dX ?_ ?_<;>(intro _;try omega))
    refine⟨p.rules.length - (i+1),by omega,i+1,.free h5.tn,8,rowsR++[aS {y with kG:=(i:Int),expr:=fL p.aO y.expr} tok4 iI rows4],by omega,rfl,(by first|trivial|(simp;done)|(simp;omega)),(by first|trivial|(simp;done)|(simp;omega)),(by first|trivial|(simp;done)|(simp;omega)),(by first|trivial|(simp;done)|(simp;omega)),(by first|trivial|(simp;done)|(simp;omega)),(by first|trivial|(simp;done)|(simp;omega)),?_,?_,?_,?_,.inl rfl,?_,?_⟩
    ·rw[jX aj,lC,jX aj];exact e1
    ·exact mz (by rw[lC,td];exact le3)
    ·obtain⟨hj,rfl⟩:=aF.1 hy;rw[nj hj,acA,ng,Nat.min_eq_left aj];exact eo.snoc khrr.out (oz.mk khr5.out)
    ·exact kca5.out.next (h:=h5.put h'.boxes.length _) (kx5.out.ok kok'.out) (kx.out.trans kx5.out).tn
    ·exact(((kx.out.trans kx5.out).dm aj _).app (h:=h5.put h'.boxes.length _) kca5.out).dm aj _
    ·exact(bp.app (b:=0) (h:=h5.put h'.boxes.length _) kca5.out).ok (kx5.out.ok kok'.out)
   ·have cJ:i=p.rules.length:=(by omega);subst cJ;have fX:¬((p.rules.length:Int)<(p.rules.length:Int)):=(by omega);rw[jk] at khrr;obtain⟨tok4,iI,rows4,h5,c5,jy,rB⟩:=PE t.to t.so p.aO kok.out.zo kok.out.bo p.change t.tok t.sz t.rows kok.out.expr kfew.out.c h' kok'.out;have e3:=jy.box _ _ gO;have kx5:=ag.mk jy;have khr5:=ag.mk rB;have le3:=(aF.1 e3).1;clear jy rB
    repeat' (first|simp(maxSteps:=9999999) (disch:=first|exact dZ|fail) only[gW,reduceIte,ao,al,Cc,bN,dt,cK,eO,cT,kH,oo,uN,Kb,aA,dA,p5, *]|refine dX ?_ ?_<;>(intro _;try omega))
    refine⟨_,_,rfl,iz p,0,{t with tr:=bP,sr:=szR,rr:=rowsR,tok:=tok4,sz:=iI,rows:=rows4},kres.out.symm,rfl,(kx.out.trans kx5.out).dm (b:=h.boxes.length+1) aj _,?_⟩;exact acz kok.out khrr.out khr5.out ksr.out
  ·refine⟨0,.nil,0,[],cz _,rfl,?_,?_,?_,?_,?_,?_,?_,?_,?_,?_,.inr ⟨rfl,rfl⟩,k4.out.dm aj _,?_⟩
   iterate 6
    ·simp only[gW,reduceIte,ao,al,aP]<;>rfl
   ·simp(disch:=(first|assumption|omega|(exact(aA _ _).symm)|(simp only[df];omega)|(refine fF ?_ ?_<;>simp only[df]<;>omega)|fail)) only[gZ];exact b5
   ·exact mz ln6
   ·exact eo.nil
   ·exact .inl rfl
   ·exact k4.out.ok kokh.out
noncomputable def pj(p:Po):Int:=if gp p=0 then (if nO (iz p) p=ab then 0 else 200) else gp p
def Fh{p:Po}:nO (iz p) p=ab↔(∀(j:Nat) (x:Rl),p.rules[j]?=aa x->x.kG=(j:Int)/\pJ p.aO x.expr=ab)/\pJ p.aO p.change=ab:=by
 rw[rT];constructor
 ·intro q;have q1:(iz p).rules=p.rules:=by rw[q]
  have q2:(iz p).change=p.change:=by rw[q]
  refine⟨λj x hx=>?_,(Ev _ _).2 q2⟩;have q3:(jf p.aO p.rules)[j]?=aa x:=by have:jf p.aO p.rules=p.rules:=q1;rw[this];exact hx
  unfold jf at q3;rw[yv,hx] at q3;simp only[cy,aY] at q3;have e1:(j:Int)=x.kG:=by rw[<-q3]
  have e2:fL p.aO x.expr=x.expr:=by have:=congrArg Rl.expr q3;exact this
  exact⟨e1.symm,(Ev _ _).2 e2⟩
 ·rintro⟨q1,q2⟩;have e1:jf p.aO p.rules=p.rules:=by
   unfold jf;refine uY λj=>?_;rw[yv];cases hx:p.rules[j]? with|none=>rfl|some x=>obtain⟨w1,w2⟩:=q1 j x hx;simp only[cy,aY];rw[(Ev _ _).1 w2,<-w1]
  have e2:=(Ev _ _).1 q2;show({p with rules:=jf p.aO p.rules,change:=fL p.aO p.change}:Po)=p;rw[e1,e2]
def xX:Tryz.f52.results.toList=[.tmp 2]:=ai
def Ma{p:Po}(h:gp p≠0):pj p=gp p:=by unfold pj;rw[ax h]
def G5(p:Po)(t:PT)(ok:ek p t)(cI:lA p)(h:ae)(aU:cR h=ab):gY W 52 [.agg (au p t)] h (.ret (.v (.int .i64 (pj p)))):=by
 have u23:=lB;have a3:=dE;have a22:=oA;have a23:=nq;have a28:=iE;have a43:=pb;have a26:=eG;have s28:=gV;have s43:=mU;have z43:=Am;obtain⟨t2,h2,c2,x2,ok2⟩:=Cj p t ok cI (h.push (au p t)) aU;have b1:=x2.box _ _ (bX h (au p t));have n1:=(aF.1 b1).1;have k2:=ag.mk ((Ext.push h (au p t)).trans x2);have qw:gp p=(hY p).2:=rfl;rw[<-qw] at c2;have kok:=ag.mk ok;have kfew:=ag.mk cI;have aP:=ok.rules.1;clear x2 ok2 cI aU qw;refine eI rfl Tryz.func52 rfl ?_;cases h0:decide (gp p=0) with
 |false=>
  rw[Ma (of_decide_eq_false h0)]
  repeat' (first|simp(maxSteps:=9999999) (disch:=first|exact dZ|fail) only[gW,reduceIte,ao,al,xX,cK,cT, *]|refine dX ?_ ?_<;>(intro _;try omega))
  exact⟨_,rfl,k2.out⟩
 |true=>
  have h1:=of_decide_eq_true h0;have mK:pj p=if nO (iz p) p=ab then 0 else 200:=by unfold pj;rw[aB h1]
  rw[mK];clear mK h1;have bad:∀(hh:ae),Ext h hh->nO (iz p) p=ak->∃h',(aa (bw.ret (AV.v (.int .i64 200)),hh):Option (bw × ae))=aa (.ret (.v (.int .i64 (if nO (iz p) p=ab then 0 else 200))),h')/\Ext h h':=λhh hx q=>⟨hh,by rw[q];rfl,hx⟩;have kbad:=ag.mk bad;clear bad
  repeat' (first|simp(maxSteps:=9999999) (disch:=first|exact dZ|fail) only[gW,reduceIte,ao,al,xX,cK,cT,bN, *]|refine dX ?_ ?_<;>(intro _;try omega))
  refine eX (λm e h'=>∃(i:Nat),i<=p.rules.length/\m=p.rules.length - i/\e.get 1=.ptr (.box h.boxes.length) 0/\e.get 14=.list t.tr t.sr t.rr/\e.get 15=.v (.int .i64 (p.rules.length:Nat))/\e.get 16=.v (.int .i64 i)/\e.defers=[]/\Ext h h'/\h'.boxes[h.boxes.length]?=aa (au p t)/\∀(j:Nat) (x:Rl),j<i->p.rules[j]?=aa x->x.kG=(j:Int)/\pJ p.aO x.expr=ab) ?_ p.rules.length _ _ ?_
  ·rintro m e h' ⟨i,hi,rfl,g1,g14,g15,g16,hd,hx,hb,bV⟩;have kx:=ag.mk hx;have kno:=ag.mk bV;clear hx bV c2 b1;have n1':=(aF.1 hb).1;have yR:=kok.out.br;by_cases ay:i<p.rules.length
   ·obtain⟨y,tok,sz,rows,hy,hr,cX⟩:=eo.get kok.out.rules ay;have h8:=kok.out.zr i ay;have dU:(i:Int)<(t.rr.length:Int):=(by rw[aP];omega);have ue:(i:Int)<(p.rules.length:Int):=(by omega);have rf8:=@wc y tok sz rows;have nb:h.boxes.length≠h'.boxes.length:=(by omega);obtain⟨h4,c4,eV⟩:=PF t.to t.so p.aO kok.out.zo kok.out.bo y.expr _ cX (kfew.out.r y (ie hy)) (h'.push (aS y tok sz rows));have kx4:=ag.mk ((kx.out.trans (.push _ (aS y tok sz rows))).trans eV);have kx3:=ag.mk (kx.out.trans (.push _ (aS y tok sz rows)));have kb4:=ag.mk (eV.box _ _ (bW hb));clear eV;cases e1:decide (y.kG=(i:Int)) with
    |false=>
     have hs:nO (iz p) p=ak:=(by rw[ib];intro q;have:=((Fh.1 q).1 i y hy).1;exact of_decide_eq_false e1 this);have aN:=ag.mk (λhh hx=>kbad.out hh hx hs);clear hs
     repeat' (first|simp(maxSteps:=9999999) (disch:=first|exact dZ|fail) only[gW,reduceIte,ao,al,xX,bN,dt,cK,eO,nG,pR,oq,aV,dr,bH,eW,aA, *]|refine dX ?_ ?_<;>(intro _;try omega))
     exact aN.out _ kx3.out
    |true=>
     cases e2:pJ p.aO y.expr with
     |false=>
      rw[e2] at c4;have hs:nO (iz p) p=ak:=(by rw[ib];intro q;have:=((Fh.1 q).1 i y hy).2;rw[e2] at this;cases this);have aN:=ag.mk (λhh hx=>kbad.out hh hx hs);clear hs
      repeat' (first|simp(maxSteps:=9999999) (disch:=first|exact dZ|fail) only[gW,reduceIte,ao,al,xX,bN,dt,cK,eO,nG,pR,oq,aV,dr,bH,eW,aA, *]|refine dX ?_ ?_<;>(intro _;try omega))
      exact aN.out _ kx4.out
     |true=>
      rw[e2] at c4;have ke1:=ag.mk (of_decide_eq_true e1);have ke2:=ag.mk e2
      repeat' (first|simp(maxSteps:=9999999) (disch:=first|exact dZ|fail) only[gW,reduceIte,ao,al,xX,bN,dt,cK,eO,nG,pR,oq,aV,dr,bH,eW,aA, *]|refine dX ?_ ?_<;>(intro _;try omega))
      refine⟨p.rules.length - (i+1),by omega,i+1,by omega,rfl,(by first|trivial|(simp;done)|(simp;omega)),(by first|trivial|(simp;done)|(simp;omega)),(by first|trivial|(simp;done)|(simp;omega)),(by first|trivial|(simp;done)|(simp;omega)),(by first|trivial|(simp;done)|(simp;omega)),kx4.out,kb4.out,λj x hj hx=>?_⟩;rcases dp j i with w|w
      ·exact kno.out j x w hx
      ·have:j=i:=(by omega);subst this;rw[hy] at hx;injection hx with hx;subst hx;exact⟨ke1.out,ke2.out⟩
   ·have cJ:i=p.rules.length:=(by omega);subst cJ;have ue:¬((p.rules.length:Int)<(p.rules.length:Int)):=(by omega);obtain⟨h4,c4,eV⟩:=PF t.to t.so p.aO kok.out.zo kok.out.bo p.change _ kok.out.expr kfew.out.c h';have kx4:=ag.mk (kx.out.trans eV);clear eV;cases e2:pJ p.aO p.change with
    |false=>
     rw[e2] at c4;have hs:nO (iz p) p=ak:=(by rw[ib];intro q;have:=(Fh.1 q).2;rw[e2] at this;cases this);have aN:=ag.mk (λhh hx=>kbad.out hh hx hs);clear hs
     repeat' (first|simp(maxSteps:=9999999) (disch:=first|exact dZ|fail) only[gW,reduceIte,ao,al,xX,bN,cK,kH, *]|refine dX ?_ ?_<;>(intro _;try omega))
     exact aN.out _ kx4.out
    |true=>
     rw[e2] at c4;have hs:nO (iz p) p=ab:=Fh.2 ⟨λj x hx=>kno.out j x (aF.1 hx).1 hx,e2⟩;rw[hs]
     repeat' (first|simp(maxSteps:=9999999) (disch:=first|exact dZ|fail) only[gW,reduceIte,ao,al,xX,bN,cK,kH, *]|refine dX ?_ ?_<;>(intro _;try omega))
     exact⟨_,rfl,kx4.out⟩
  ·refine⟨0,cz _,rfl,?_,?_,?_,?_,?_,k2.out,b1,λj x hj=>absurd hj (ik j)⟩<;>simp only[gW,reduceIte,ao,al,aP]<;>rfl
end Go.Proofs.YtmdakolcndpjeaaGreatDoor
end
